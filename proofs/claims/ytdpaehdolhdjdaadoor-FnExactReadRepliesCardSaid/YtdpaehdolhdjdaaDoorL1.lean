import Derived.Test.YtdpaehdolhdjdaaDoorK2
import Derived.Test.YtdpaehdolhdjdaaDoorProg
import Derived.KernelRfl
import Derived.Test.YtdpaehdolhdjdaaDoorK3
import Derived.Shelf.Strings.OnBuilder
import Derived.Shelf.Strings.Trim
import Derived.Shelf.Strconv.Itoa4
import Derived.Shelf.Hex.More
import Derived.Lib.TrimByte
set_option linter.unusedSimpArgs false
set_option linter.unusedVariables false
namespace Go.Proofs.YtdpaehdolhdjdaaDoor
open Go Go.IW
/-- loop.example/g00003/spec.l02Cut -/
def c44 : CC :=
 (.seq (.reg [
   ⟨(some 4), none, .f (.mv (.c .nilslice))⟩])
 (.seq (.reg [
   ⟨(some 8), none, .x (.bslice 9 1 [(.str [])] 0 [])⟩,
   ⟨(some 5), none, .f (.mv (.t 8))⟩])
 (.seq (.reg [
   ⟨(some 6), none, .f (.mv (.c (.int .i64 0)))⟩])
 (.seq (.seq (.reg [
   ⟨(some 7), none, .f (.mv (.c (.int .i64 0)))⟩])
 (.block 0 (.loop (.seq (.seq (.reg [
     ⟨(some 9), none, .f (.mv (.t 7))⟩,
     ⟨(some 10), none, .f (.mv (.t 0))⟩,
     ⟨(some 11), none, .f (.lenS (.t 10))⟩,
     ⟨(some 12), none, .f (.bin .lss (.t 9) (.t 11))⟩])
   (.cond (.t 12)
    .skip
    (.exit 0)))
   (.seq (.block 1 (.seq (.reg [
      ⟨(some 15), none, .f (.mv (.t 0))⟩,
      ⟨(some 16), none, .f (.mv (.t 7))⟩,
      ⟨(some 17), none, .f (.idxS (.t 15) (.t 16))⟩,
      ⟨(some 18), none, .f (.mv (.t 1))⟩,
      ⟨(some 19), none, .f (.bin .eql (.t 17) (.t 18))⟩])
    (.cond (.t 19)
     (.seq (.reg [
       ⟨(some 20), none, .f (.mv (.t 5))⟩,
       ⟨(some 21), none, .f (.mv (.t 0))⟩,
       ⟨(some 22), none, .f (.mv (.t 6))⟩,
       ⟨(some 23), none, .f (.mv (.t 7))⟩,
       ⟨(some 24), none, .f (.slcS (.t 21) (some (.t 22)) (some (.t 23)))⟩,
       ⟨(some 25), none, .x (.bslice 9 1 [(.str [])] 1 [(0, (.t 24))])⟩,
       ⟨(some 26), none, .x (.app 9 1 16 (.t 20) (.t 25))⟩,
       ⟨(some 5), none, .f (.mv (.t 26))⟩])
     (.reg [
       ⟨(some 27), none, .f (.mv (.t 7))⟩,
       ⟨(some 28), none, .f (.bin .add (.t 27) (.c (.int .i64 1)))⟩,
       ⟨(some 6), none, .f (.mv (.t 28))⟩]))
     .skip)))
   (.reg [
     ⟨(some 13), none, .f (.mv (.t 7))⟩,
     ⟨(some 14), none, .f (.bin .add (.t 13) (.c (.int .i64 1)))⟩,
     ⟨(some 7), none, .f (.mv (.t 14))⟩]))))))
 (.seq (.reg [
   ⟨(some 29), none, .f (.mv (.t 5))⟩,
   ⟨(some 30), none, .f (.mv (.t 0))⟩,
   ⟨(some 31), none, .f (.mv (.t 6))⟩,
   ⟨(some 32), none, .f (.slcS (.t 30) (some (.t 31)) none)⟩,
   ⟨(some 33), none, .x (.bslice 9 1 [(.str [])] 1 [(0, (.t 32))])⟩,
   ⟨(some 34), none, .x (.app 9 1 16 (.t 29) (.t 33))⟩,
   ⟨(some 4), none, .f (.mv (.t 34))⟩])
 .ret)))))
theorem ok44 : fnComp Tryd.prog 44 = some (35, c44, [(.mv (.t 4))]) := by kernel_rfl

/-- strings.Split -/
def c59 : CC :=
 (.seq (.reg [
   ⟨(some 4), none, .f (.mv (.c .nilslice))⟩])
 (.seq (.reg [
   ⟨(some 5), none, .f (.mv (.t 0))⟩,
   ⟨(some 6), none, .f (.mv (.t 1))⟩,
   ⟨(some 7), none, .x (.call 118 [(.t 5), (.t 6), (.c (.int .i64 0)), (.c (.int .i64 (-1)))])⟩,
   ⟨(some 4), none, .f (.mv (.t 7))⟩])
 .ret))
theorem ok59 : fnComp Tryd.prog 59 = some (8, c59, [(.mv (.t 4))]) := by kernel_rfl

/-- strings.genSplit -/
def c118 : CC :=
 (.seq (.reg [
   ⟨(some 8), none, .f (.mv (.c .nilslice))⟩])
 (.seq (.seq (.reg [
   ⟨(some 12), none, .f (.mv (.t 3))⟩,
   ⟨(some 13), none, .f (.bin .eql (.t 12) (.c (.int .i64 0)))⟩])
 (.cond (.t 13)
  (.seq (.reg [
    ⟨(some 8), none, .f (.mv (.c .nilslice))⟩])
  .ret)
  .skip))
 (.seq (.seq (.reg [
   ⟨(some 14), none, .f (.mv (.t 1))⟩,
   ⟨(some 15), none, .f (.bin .eql (.t 14) (.c (.str [])))⟩])
 (.cond (.t 15)
  (.seq (.reg [
    ⟨(some 16), none, .f (.mv (.t 0))⟩,
    ⟨(some 17), none, .f (.mv (.t 3))⟩,
    ⟨(some 18), none, .x (.call 156 [(.t 16), (.t 17)])⟩,
    ⟨(some 8), none, .f (.mv (.t 18))⟩])
  .ret)
  .skip))
 (.seq (.seq (.reg [
   ⟨(some 19), none, .f (.mv (.t 3))⟩,
   ⟨(some 20), none, .f (.bin .lss (.t 19) (.c (.int .i64 0)))⟩])
 (.cond (.t 20)
  (.reg [
    ⟨(some 21), none, .f (.mv (.t 0))⟩,
    ⟨(some 22), none, .f (.mv (.t 1))⟩,
    ⟨(some 23), none, .x (.call 157 [(.t 21), (.t 22)])⟩,
    ⟨(some 24), none, .f (.bin .add (.t 23) (.c (.int .i64 1)))⟩,
    ⟨(some 3), none, .f (.mv (.t 24))⟩])
  .skip))
 (.seq (.reg [
   ⟨(some 25), none, .f (.mv (.t 3))⟩,
   ⟨(some 26), none, .f (.mv (.t 0))⟩,
   ⟨(some 27), none, .f (.lenS (.t 26))⟩,
   ⟨(some 28), none, .f (.bin .add (.t 27) (.c (.int .i64 1)))⟩,
   ⟨(some 29), none, .f (.mm false (.t 25) (.t 28))⟩,
   ⟨(some 3), none, .f (.mv (.t 29))⟩])
 (.seq (.reg [
   ⟨(some 30), none, .f (.mv (.t 3))⟩,
   ⟨(some 31), none, .x (.mks 9 1 16 [(.str [])] (.t 30) (.t 30))⟩,
   ⟨(some 9), none, .f (.mv (.t 31))⟩])
 (.seq (.reg [
   ⟨(some 32), none, .f (.mv (.t 3))⟩,
   ⟨(some 33), none, .f (.bin .sub (.t 32) (.c (.int .i64 1)))⟩,
   ⟨(some 3), none, .f (.mv (.t 33))⟩])
 (.seq (.reg [
   ⟨(some 10), none, .f (.mv (.c (.int .i64 0)))⟩])
 (.seq (.block 0 (.loop (.seq (.seq (.reg [
     ⟨(some 34), none, .f (.mv (.t 10))⟩,
     ⟨(some 35), none, .f (.mv (.t 3))⟩,
     ⟨(some 36), none, .f (.bin .lss (.t 34) (.t 35))⟩])
   (.cond (.t 36)
    .skip
    (.exit 0)))
   (.block 1 (.seq (.reg [
      ⟨(some 37), none, .f (.mv (.t 0))⟩,
      ⟨(some 38), none, .f (.mv (.t 1))⟩,
      ⟨(some 39), none, .x (.call 158 [(.t 37), (.t 38)])⟩,
      ⟨(some 11), none, .f (.mv (.t 39))⟩])
    (.seq (.seq (.reg [
      ⟨(some 40), none, .f (.mv (.t 11))⟩,
      ⟨(some 41), none, .f (.bin .lss (.t 40) (.c (.int .i64 0)))⟩])
    (.cond (.t 41)
     (.exit 0)
     .skip))
    (.seq (.reg [
      ⟨(some 42), none, .f (.mv (.t 9))⟩,
      ⟨(some 43), none, .f (.mv (.t 10))⟩,
      ⟨(some 44), none, .f (.mv (.t 0))⟩,
      ⟨(some 45), none, .f (.mv (.t 11))⟩,
      ⟨(some 46), none, .f (.mv (.t 2))⟩,
      ⟨(some 47), none, .f (.bin .add (.t 45) (.t 46))⟩,
      ⟨(some 48), none, .f (.slcS (.t 44) none (some (.t 47)))⟩,
      ⟨(some 49), none, .f (.iadr 1 (.t 42) (.t 43))⟩,
      ⟨none, none, .x (.st 1 (.t 49) (.t 48))⟩])
    (.seq (.reg [
      ⟨(some 50), none, .f (.mv (.t 0))⟩,
      ⟨(some 51), none, .f (.mv (.t 11))⟩,
      ⟨(some 52), none, .f (.mv (.t 1))⟩,
      ⟨(some 53), none, .f (.lenS (.t 52))⟩,
      ⟨(some 54), none, .f (.bin .add (.t 51) (.t 53))⟩,
      ⟨(some 55), none, .f (.slcS (.t 50) (some (.t 54)) none)⟩,
      ⟨(some 0), none, .f (.mv (.t 55))⟩])
    (.reg [
      ⟨(some 56), none, .f (.mv (.t 10))⟩,
      ⟨(some 57), none, .f (.bin .add (.t 56) (.c (.int .i64 1)))⟩,
      ⟨(some 10), none, .f (.mv (.t 57))⟩])))))))))
 (.seq (.reg [
   ⟨(some 58), none, .f (.mv (.t 9))⟩,
   ⟨(some 59), none, .f (.mv (.t 10))⟩,
   ⟨(some 60), none, .f (.mv (.t 0))⟩,
   ⟨(some 61), none, .f (.iadr 1 (.t 58) (.t 59))⟩,
   ⟨none, none, .x (.st 1 (.t 61) (.t 60))⟩])
 (.seq (.reg [
   ⟨(some 62), none, .f (.mv (.t 9))⟩,
   ⟨(some 63), none, .f (.mv (.t 10))⟩,
   ⟨(some 64), none, .f (.bin .add (.t 63) (.c (.int .i64 1)))⟩,
   ⟨(some 65), none, .f (.slc 1 (.t 62) none (some (.t 64)) none)⟩,
   ⟨(some 8), none, .f (.mv (.t 65))⟩])
 .ret)))))))))))
theorem ok118 : fnComp Tryd.prog 118 = some (66, c118, [(.mv (.t 8))]) := by kernel_rfl

/-- strings.Count -/
def c157 : CC :=
 (.seq (.reg [
   ⟨(some 4), none, .f (.mv (.c (.int .i64 0)))⟩])
 (.seq (.seq (.reg [
   ⟨(some 7), none, .f (.mv (.t 1))⟩,
   ⟨(some 8), none, .f (.lenS (.t 7))⟩,
   ⟨(some 9), none, .f (.bin .eql (.t 8) (.c (.int .i64 0)))⟩])
 (.cond (.t 9)
  (.seq (.reg [
    ⟨(some 10), none, .f (.mv (.t 0))⟩,
    ⟨(some 11), none, .x (.call 174 [(.t 10)])⟩,
    ⟨(some 12), none, .f (.bin .add (.t 11) (.c (.int .i64 1)))⟩,
    ⟨(some 4), none, .f (.mv (.t 12))⟩])
  .ret)
  .skip))
 (.seq (.seq (.reg [
   ⟨(some 13), none, .f (.mv (.t 1))⟩,
   ⟨(some 14), none, .f (.lenS (.t 13))⟩,
   ⟨(some 15), none, .f (.bin .eql (.t 14) (.c (.int .i64 1)))⟩])
 (.cond (.t 15)
  (.seq (.reg [
    ⟨(some 16), none, .f (.mv (.t 0))⟩,
    ⟨(some 17), none, .f (.mv (.t 1))⟩,
    ⟨(some 18), none, .f (.idxS (.t 17) (.c (.int .i64 0)))⟩,
    ⟨(some 19), none, .x (.call 176 [(.t 16), (.t 18)])⟩,
    ⟨(some 4), none, .f (.mv (.t 19))⟩])
  .ret)
  .skip))
 (.seq (.reg [
   ⟨(some 5), none, .f (.mv (.c (.int .i64 0)))⟩])
 (.block 0 (.loop (.block 1 (.seq (.reg [
      ⟨(some 20), none, .f (.mv (.t 0))⟩,
      ⟨(some 21), none, .f (.mv (.t 1))⟩,
      ⟨(some 22), none, .x (.call 158 [(.t 20), (.t 21)])⟩,
      ⟨(some 6), none, .f (.mv (.t 22))⟩])
    (.seq (.seq (.reg [
      ⟨(some 23), none, .f (.mv (.t 6))⟩,
      ⟨(some 24), none, .f (.bin .eql (.t 23) (.c (.int .i64 (-1))))⟩])
    (.cond (.t 24)
     (.seq (.reg [
       ⟨(some 25), none, .f (.mv (.t 5))⟩,
       ⟨(some 4), none, .f (.mv (.t 25))⟩])
     .ret)
     .skip))
    (.seq (.reg [
      ⟨(some 26), none, .f (.mv (.t 5))⟩,
      ⟨(some 27), none, .f (.bin .add (.t 26) (.c (.int .i64 1)))⟩,
      ⟨(some 5), none, .f (.mv (.t 27))⟩])
    (.reg [
      ⟨(some 28), none, .f (.mv (.t 0))⟩,
      ⟨(some 29), none, .f (.mv (.t 6))⟩,
      ⟨(some 30), none, .f (.mv (.t 1))⟩,
      ⟨(some 31), none, .f (.lenS (.t 30))⟩,
      ⟨(some 32), none, .f (.bin .add (.t 29) (.t 31))⟩,
      ⟨(some 33), none, .f (.slcS (.t 28) (some (.t 32)) none)⟩,
      ⟨(some 0), none, .f (.mv (.t 33))⟩])))))))))))
theorem ok157 : fnComp Tryd.prog 157 = some (34, c157, [(.mv (.t 4))]) := by kernel_rfl

/-- strings.Index -/
def c158 : CC :=
 (.seq (.reg [
   ⟨(some 4), none, .f (.mv (.c (.int .i64 0)))⟩])
 (.seq (.reg [
   ⟨(some 5), none, .f (.mv (.t 0))⟩,
   ⟨(some 6), none, .f (.mv (.t 1))⟩,
   ⟨(some 7), none, .x (.call 159 [(.t 5), (.t 6)])⟩,
   ⟨(some 4), none, .f (.mv (.t 7))⟩])
 .ret))
theorem ok158 : fnComp Tryd.prog 158 = some (8, c158, [(.mv (.t 4))]) := by kernel_rfl

/-- internal/stringslite.Index -/
def c159 : CC :=
 (.seq (.reg [
   ⟨(some 4), none, .f (.mv (.c (.int .i64 0)))⟩])
 (.seq (.reg [
   ⟨(some 14), none, .f (.mv (.t 1))⟩,
   ⟨(some 15), none, .f (.lenS (.t 14))⟩,
   ⟨(some 5), none, .f (.mv (.t 15))⟩])
 (.seq (.block 0 (.seq (.reg [
    ⟨(some 17), none, .f (.mv (.t 5))⟩,
    ⟨(some 18), none, .f (.bin .eql (.t 17) (.c (.int .i64 0)))⟩,
    ⟨(some 19), none, .f (.mv (.t 18))⟩,
    ⟨(some 20), (some (19, false)), .f (.mv (.t 1))⟩,
    ⟨(some 21), (some (19, false)), .f (.mv (.t 0))⟩,
    ⟨(some 22), (some (19, false)), .f (.bin .eql (.t 20) (.t 21))⟩,
    ⟨(some 23), none, .f (.pick (.t 19) (.c (.bool true)) (.t 22))⟩,
    ⟨(some 16), none, .f (.mv (.t 23))⟩])
  (.cond (.t 16)
   (.seq (.reg [
     ⟨(some 4), none, .f (.mv (.c (.int .i64 0)))⟩])
   .ret)
   (.seq (.reg [
     ⟨(some 25), none, .f (.mv (.t 5))⟩,
     ⟨(some 26), none, .f (.bin .eql (.t 25) (.c (.int .i64 1)))⟩,
     ⟨(some 24), none, .f (.mv (.t 26))⟩])
   (.cond (.t 24)
    (.seq (.reg [
      ⟨(some 27), none, .f (.mv (.t 0))⟩,
      ⟨(some 28), none, .f (.mv (.t 1))⟩,
      ⟨(some 29), none, .f (.idxS (.t 28) (.c (.int .i64 0)))⟩,
      ⟨(some 30), none, .x (.call 160 [(.t 27), (.t 29)])⟩,
      ⟨(some 4), none, .f (.mv (.t 30))⟩])
    .ret)
    (.seq (.reg [
      ⟨(some 32), none, .f (.mv (.t 5))⟩,
      ⟨(some 33), none, .f (.mv (.t 0))⟩,
      ⟨(some 34), none, .f (.lenS (.t 33))⟩,
      ⟨(some 35), none, .f (.bin .geq (.t 32) (.t 34))⟩,
      ⟨(some 31), none, .f (.mv (.t 35))⟩])
    (.cond (.t 31)
     (.seq (.reg [
       ⟨(some 4), none, .f (.mv (.c (.int .i64 (-1))))⟩])
     .ret)
     (.seq (.reg [
       ⟨(some 37), none, .f (.mv (.t 5))⟩,
       ⟨(some 38), none, .x (.ux .bad [])⟩,
       ⟨(some 39), none, .f (.bin .leq (.t 37) (.t 38))⟩,
       ⟨(some 40), none, .f (.mv (.t 39))⟩,
       ⟨(some 41), (some (40, true)), .f (.mv (.t 0))⟩,
       ⟨(some 42), (some (40, true)), .f (.lenS (.t 41))⟩,
       ⟨(some 43), (some (40, true)), .f (.bin .leq (.t 42) (.c (.int .i64 64)))⟩,
       ⟨(some 44), none, .f (.pick (.t 40) (.t 43) (.c (.bool false)))⟩,
       ⟨(some 36), none, .f (.mv (.t 44))⟩])
     (.cond (.t 36)
      (.seq (.reg [
        ⟨(some 45), none, .f (.mv (.t 0))⟩,
        ⟨(some 46), none, .f (.mv (.t 1))⟩,
        ⟨(some 47), none, .x (.call 123 [(.t 45), (.t 46)])⟩,
        ⟨(some 4), none, .f (.mv (.t 47))⟩])
      .ret)
      .skip)))))))))
 (.seq (.reg [
   ⟨(some 48), none, .f (.mv (.t 1))⟩,
   ⟨(some 49), none, .f (.idxS (.t 48) (.c (.int .i64 0)))⟩,
   ⟨(some 6), none, .f (.mv (.t 49))⟩])
 (.seq (.reg [
   ⟨(some 50), none, .f (.mv (.t 1))⟩,
   ⟨(some 51), none, .f (.idxS (.t 50) (.c (.int .i64 1)))⟩,
   ⟨(some 7), none, .f (.mv (.t 51))⟩])
 (.seq (.reg [
   ⟨(some 8), none, .f (.mv (.c (.int .i64 0)))⟩])
 (.seq (.reg [
   ⟨(some 52), none, .f (.mv (.t 0))⟩,
   ⟨(some 53), none, .f (.lenS (.t 52))⟩,
   ⟨(some 54), none, .f (.mv (.t 5))⟩,
   ⟨(some 55), none, .f (.bin .sub (.t 53) (.t 54))⟩,
   ⟨(some 56), none, .f (.bin .add (.t 55) (.c (.int .i64 1)))⟩,
   ⟨(some 9), none, .f (.mv (.t 56))⟩])
 (.seq (.reg [
   ⟨(some 10), none, .f (.mv (.c (.int .i64 0)))⟩])
 (.seq (.block 1 (.loop (.seq (.seq (.reg [
     ⟨(some 57), none, .f (.mv (.t 8))⟩,
     ⟨(some 58), none, .f (.mv (.t 9))⟩,
     ⟨(some 59), none, .f (.bin .lss (.t 57) (.t 58))⟩])
   (.cond (.t 59)
    .skip
    (.exit 1)))
   (.block 2 (.seq (.seq (.reg [
      ⟨(some 60), none, .f (.mv (.t 0))⟩,
      ⟨(some 61), none, .f (.mv (.t 8))⟩,
      ⟨(some 62), none, .f (.idxS (.t 60) (.t 61))⟩,
      ⟨(some 63), none, .f (.mv (.t 6))⟩,
      ⟨(some 64), none, .f (.bin .neq (.t 62) (.t 63))⟩])
    (.cond (.t 64)
     (.seq (.reg [
       ⟨(some 65), none, .f (.mv (.t 0))⟩,
       ⟨(some 66), none, .f (.mv (.t 8))⟩,
       ⟨(some 67), none, .f (.bin .add (.t 66) (.c (.int .i64 1)))⟩,
       ⟨(some 68), none, .f (.mv (.t 9))⟩,
       ⟨(some 69), none, .f (.slcS (.t 65) (some (.t 67)) (some (.t 68)))⟩,
       ⟨(some 70), none, .f (.mv (.t 6))⟩,
       ⟨(some 71), none, .x (.call 160 [(.t 69), (.t 70)])⟩,
       ⟨(some 11), none, .f (.mv (.t 71))⟩])
     (.seq (.seq (.reg [
       ⟨(some 72), none, .f (.mv (.t 11))⟩,
       ⟨(some 73), none, .f (.bin .lss (.t 72) (.c (.int .i64 0)))⟩])
     (.cond (.t 73)
      (.seq (.reg [
        ⟨(some 4), none, .f (.mv (.c (.int .i64 (-1))))⟩])
      .ret)
      .skip))
     (.reg [
       ⟨(some 74), none, .f (.mv (.t 8))⟩,
       ⟨(some 75), none, .f (.mv (.t 11))⟩,
       ⟨(some 76), none, .f (.bin .add (.t 75) (.c (.int .i64 1)))⟩,
       ⟨(some 77), none, .f (.bin .add (.t 74) (.t 76))⟩,
       ⟨(some 8), none, .f (.mv (.t 77))⟩])))
     .skip))
    (.seq (.seq (.reg [
      ⟨(some 78), none, .f (.mv (.t 0))⟩,
      ⟨(some 79), none, .f (.mv (.t 8))⟩,
      ⟨(some 80), none, .f (.bin .add (.t 79) (.c (.int .i64 1)))⟩,
      ⟨(some 81), none, .f (.idxS (.t 78) (.t 80))⟩,
      ⟨(some 82), none, .f (.mv (.t 7))⟩,
      ⟨(some 83), none, .f (.bin .eql (.t 81) (.t 82))⟩,
      ⟨(some 84), none, .f (.mv (.t 83))⟩,
      ⟨(some 85), (some (84, true)), .f (.mv (.t 0))⟩,
      ⟨(some 86), (some (84, true)), .f (.mv (.t 8))⟩,
      ⟨(some 87), (some (84, true)), .f (.mv (.t 8))⟩,
      ⟨(some 88), (some (84, true)), .f (.mv (.t 5))⟩,
      ⟨(some 89), (some (84, true)), .f (.bin .add (.t 87) (.t 88))⟩,
      ⟨(some 90), (some (84, true)), .f (.slcS (.t 85) (some (.t 86)) (some (.t 89)))⟩,
      ⟨(some 91), (some (84, true)), .f (.mv (.t 1))⟩,
      ⟨(some 92), (some (84, true)), .f (.bin .eql (.t 90) (.t 91))⟩,
      ⟨(some 93), none, .f (.pick (.t 84) (.t 92) (.c (.bool false)))⟩])
    (.cond (.t 93)
     (.seq (.reg [
       ⟨(some 94), none, .f (.mv (.t 8))⟩,
       ⟨(some 4), none, .f (.mv (.t 94))⟩])
     .ret)
     .skip))
    (.seq (.reg [
      ⟨(some 95), none, .f (.mv (.t 8))⟩,
      ⟨(some 96), none, .f (.bin .add (.t 95) (.c (.int .i64 1)))⟩,
      ⟨(some 8), none, .f (.mv (.t 96))⟩])
    (.seq (.reg [
      ⟨(some 97), none, .f (.mv (.t 10))⟩,
      ⟨(some 98), none, .f (.bin .add (.t 97) (.c (.int .i64 1)))⟩,
      ⟨(some 10), none, .f (.mv (.t 98))⟩])
    (.seq (.reg [
      ⟨(some 99), none, .f (.mv (.t 5))⟩,
      ⟨(some 100), none, .x (.ux .bad [])⟩,
      ⟨(some 101), none, .f (.bin .leq (.t 99) (.t 100))⟩,
      ⟨(some 102), none, .f (.mv (.t 101))⟩,
      ⟨(some 103), (some (102, true)), .f (.mv (.t 10))⟩,
      ⟨(some 104), (some (102, true)), .f (.mv (.t 8))⟩,
      ⟨(some 105), (some (102, true)), .x (.call 122 [(.t 104)])⟩,
      ⟨(some 106), (some (102, true)), .f (.bin .gtr (.t 103) (.t 105))⟩,
      ⟨(some 107), none, .f (.pick (.t 102) (.t 106) (.c (.bool false)))⟩])
    (.cond (.t 107)
     (.seq (.reg [
       ⟨(some 108), none, .f (.mv (.t 0))⟩,
       ⟨(some 109), none, .f (.mv (.t 8))⟩,
       ⟨(some 110), none, .f (.slcS (.t 108) (some (.t 109)) none)⟩,
       ⟨(some 111), none, .f (.mv (.t 1))⟩,
       ⟨(some 112), none, .x (.call 123 [(.t 110), (.t 111)])⟩,
       ⟨(some 12), none, .f (.mv (.t 112))⟩])
     (.seq (.seq (.reg [
       ⟨(some 113), none, .f (.mv (.t 12))⟩,
       ⟨(some 114), none, .f (.bin .geq (.t 113) (.c (.int .i64 0)))⟩])
     (.cond (.t 114)
      (.seq (.reg [
        ⟨(some 115), none, .f (.mv (.t 12))⟩,
        ⟨(some 116), none, .f (.mv (.t 8))⟩,
        ⟨(some 117), none, .f (.bin .add (.t 115) (.t 116))⟩,
        ⟨(some 4), none, .f (.mv (.t 117))⟩])
      .ret)
      .skip))
     (.seq (.reg [
       ⟨(some 4), none, .f (.mv (.c (.int .i64 (-1))))⟩])
     .ret)))
     (.seq (.reg [
       ⟨(some 118), none, .f (.mv (.t 5))⟩,
       ⟨(some 119), none, .x (.ux .bad [])⟩,
       ⟨(some 120), none, .f (.bin .gtr (.t 118) (.t 119))⟩,
       ⟨(some 121), none, .f (.mv (.t 120))⟩,
       ⟨(some 122), (some (121, true)), .f (.mv (.t 10))⟩,
       ⟨(some 123), (some (121, true)), .f (.mv (.t 8))⟩,
       ⟨(some 124), (some (121, true)), .f (.bin .shr (.t 123) (.c (.int .u64 4)))⟩,
       ⟨(some 125), (some (121, true)), .f (.bin .add (.c (.int .i64 4)) (.t 124))⟩,
       ⟨(some 126), (some (121, true)), .f (.bin .geq (.t 122) (.t 125))⟩,
       ⟨(some 127), none, .f (.pick (.t 121) (.t 126) (.c (.bool false)))⟩,
       ⟨(some 128), none, .f (.mv (.t 127))⟩,
       ⟨(some 129), (some (128, true)), .f (.mv (.t 8))⟩,
       ⟨(some 130), (some (128, true)), .f (.mv (.t 9))⟩,
       ⟨(some 131), (some (128, true)), .f (.bin .lss (.t 129) (.t 130))⟩,
       ⟨(some 132), none, .f (.pick (.t 128) (.t 131) (.c (.bool false)))⟩])
     (.cond (.t 132)
      (.seq (.reg [
        ⟨(some 133), none, .f (.mv (.t 0))⟩,
        ⟨(some 134), none, .f (.mv (.t 8))⟩,
        ⟨(some 135), none, .f (.slcS (.t 133) (some (.t 134)) none)⟩,
        ⟨(some 136), none, .f (.mv (.t 1))⟩,
        ⟨(some 137), none, .x (.call 177 [(.t 135), (.t 136)])⟩,
        ⟨(some 13), none, .f (.mv (.t 137))⟩])
      (.seq (.seq (.reg [
        ⟨(some 138), none, .f (.mv (.t 13))⟩,
        ⟨(some 139), none, .f (.bin .lss (.t 138) (.c (.int .i64 0)))⟩])
      (.cond (.t 139)
       (.seq (.reg [
         ⟨(some 4), none, .f (.mv (.c (.int .i64 (-1))))⟩])
       .ret)
       .skip))
      (.seq (.reg [
        ⟨(some 140), none, .f (.mv (.t 8))⟩,
        ⟨(some 141), none, .f (.mv (.t 13))⟩,
        ⟨(some 142), none, .f (.bin .add (.t 140) (.t 141))⟩,
        ⟨(some 4), none, .f (.mv (.t 142))⟩])
      .ret)))
      .skip))))))))))))
 (.seq (.reg [
   ⟨(some 4), none, .f (.mv (.c (.int .i64 (-1))))⟩])
 .ret))))))))))
theorem ok159 : fnComp Tryd.prog 159 = some (143, c159, [(.mv (.t 4))]) := by kernel_rfl

/-- internal/stringslite.IndexByte -/
def c160 : CC :=
 (.seq (.reg [
   ⟨(some 4), none, .f (.mv (.c (.int .i64 0)))⟩])
 (.seq (.reg [
   ⟨(some 5), none, .f (.mv (.t 0))⟩,
   ⟨(some 6), none, .f (.mv (.t 1))⟩,
   ⟨(some 7), none, .x (.call 178 [(.t 5), (.t 6)])⟩,
   ⟨(some 4), none, .f (.mv (.t 7))⟩])
 .ret))
theorem ok160 : fnComp Tryd.prog 160 = some (8, c160, [(.mv (.t 4))]) := by kernel_rfl

/-- loop.example/g00003/spec.l01Copy -/
def c109 : CC :=
 (.seq (.reg [
   ⟨(some 2), none, .f (.mv (.c .nilslice))⟩])
 (.seq (.reg [
   ⟨(some 5), none, .x (.bslice 5 1 [(.int .u8 0)] 0 [])⟩,
   ⟨(some 3), none, .f (.mv (.t 5))⟩])
 (.seq (.seq (.reg [
   ⟨(some 4), none, .f (.mv (.c (.int .i64 0)))⟩])
 (.block 0 (.loop (.seq (.seq (.reg [
     ⟨(some 6), none, .f (.mv (.t 4))⟩,
     ⟨(some 7), none, .f (.mv (.t 0))⟩,
     ⟨(some 8), none, .f (.len (.t 7))⟩,
     ⟨(some 9), none, .f (.bin .lss (.t 6) (.t 8))⟩])
   (.cond (.t 9)
    .skip
    (.exit 0)))
   (.seq (.block 1 (.reg [
      ⟨(some 12), none, .f (.mv (.t 3))⟩,
      ⟨(some 13), none, .f (.mv (.t 0))⟩,
      ⟨(some 14), none, .f (.mv (.t 4))⟩,
      ⟨(some 15), none, .f (.iadr 1 (.t 13) (.t 14))⟩,
      ⟨(some 16), none, .f (.ld (.t 15))⟩,
      ⟨(some 17), none, .x (.bslice 5 1 [(.int .u8 0)] 1 [(0, (.t 16))])⟩,
      ⟨(some 18), none, .x (.app 5 1 1 (.t 12) (.t 17))⟩,
      ⟨(some 3), none, .f (.mv (.t 18))⟩]))
   (.reg [
     ⟨(some 10), none, .f (.mv (.t 4))⟩,
     ⟨(some 11), none, .f (.bin .add (.t 10) (.c (.int .i64 1)))⟩,
     ⟨(some 4), none, .f (.mv (.t 11))⟩]))))))
 (.seq (.reg [
   ⟨(some 19), none, .f (.mv (.t 3))⟩,
   ⟨(some 2), none, .f (.mv (.t 19))⟩])
 .ret))))
theorem ok109 : fnComp Tryd.prog 109 = some (20, c109, [(.mv (.t 2))]) := by kernel_rfl

end Go.Proofs.YtdpaehdolhdjdaaDoor


namespace Go.Proofs.YtdpaehdolhdjdaaDoor
open Go Go.IW

def sRow (s : List UInt8) : List IV := [.str s]

set_option maxRecDepth 20000 in
theorem idxB_c (h : IH) (s : List UInt8) (c : UInt8) : ICalls Tryd.prog 178 [.str s, .int .u8 c.toNat] h fun r h' => r = .int .i64 (Lib.indexByte s c) ∧ h' = h := by
  have := idxByte_calls (P := Tryd.prog) (f := 178) Tryd.func178 (by kernel_rfl) (by kernel_rfl) (by kernel_rfl) (by kernel_rfl) h s c.toNat
  simpa using this
set_option maxRecDepth 20000 in
theorem cntB_c (h : IH) (s : List UInt8) (c : UInt8) : ICalls Tryd.prog 176 [.str s, .int .u8 c.toNat] h fun r h' => r = .int .i64 (s.count c : Nat) ∧ h' = h := by
  have := cntByte_calls (P := Tryd.prog) (f := 176) Tryd.func176 (by kernel_rfl) (by kernel_rfl) (by kernel_rfl) (by kernel_rfl) h s c.toNat
  simpa [Lib.countByte] using this

theorem idxS_at {s : List UInt8} {k : Nat} {q : IntKind} {b : UInt8} (hb : s[k]? = some b) : idxSF (.str s) (.int q (k : Int)) = some (.int .u8 b.toNat) :=
  idxSF_of (by omega) (by simpa using hb)

set_option maxRecDepth 20000 in
theorem sIndexByte_c (h : IH) (s : List UInt8) (c : UInt8) : ICalls Tryd.prog 160 [.str s, .int .u8 c.toNat] h fun r h' => r = .int .i64 (Lib.indexByte s c) ∧ h' = h := by
  refine icalls (.of ok160) (Nat.le_of_ble_eq_true rfl) ?_
  unfold c160
  simp only [go_sem, Hold.p, HoldK.k, HoldL.K, HoldL.body, Nat.reduceBEq, Nat.reduceAdd, List.getElem?_cons_zero, List.getElem?_cons_succ, Option.bind_some, List.map_cons, List.map_nil, Nat.zero_add, if_true, List.getD_cons_zero, List.getD_cons_succ, List.contains_cons, List.contains_nil, Nat.reduceBEq, Bool.or_true, Bool.true_or, Bool.or_false, Bool.false_or, Bool.not_true, Bool.not_false, true_and, and_true]
  refine callA_of (idxB_c h s c) ?_
  rintro r h' ⟨rfl, rfl⟩
  simp only [go_sem, Hold.p, HoldK.k, HoldL.K, HoldL.body, Nat.reduceBEq, Nat.reduceAdd, List.getElem?_cons_zero, List.getElem?_cons_succ, Option.bind_some, List.map_cons, List.map_nil, Nat.zero_add, if_true, List.getD_cons_zero, List.getD_cons_succ, List.contains_cons, List.contains_nil, Nat.reduceBEq, Bool.or_true, Bool.true_or, Bool.or_false, Bool.false_or, Bool.not_true, Bool.not_false, true_and, and_true]

set_option maxRecDepth 20000 in
theorem sIndex_c (h : IH) (s : List UInt8) (c : UInt8) : ICalls Tryd.prog 159 [.str s, .str [c]] h fun r h' => r = .int .i64 (Lib.indexByte s c) ∧ h' = h := by
  refine icalls (.of ok159) (Nat.le_of_ble_eq_true rfl) ?_
  unfold c159
  have d0 : decide ((([c] : List UInt8).length : Int) = 0) = false := rfl
  have d1 : decide ((([c] : List UInt8).length : Int) = 1) = true := rfl
  have hi : idxSF (.str [c]) (.int .i64 0) = some (.int .u8 c.toNat) := rfl
  simp only [d0, d1, hi, go_sem, Hold.p, HoldK.k, HoldL.K, HoldL.body, Nat.reduceBEq, Nat.reduceAdd, List.getElem?_cons_zero, List.getElem?_cons_succ, Option.bind_some, List.map_cons, List.map_nil, Nat.zero_add, if_true, List.getD_cons_zero, List.getD_cons_succ, List.contains_cons, List.contains_nil, Nat.reduceBEq, Bool.or_true, Bool.true_or, Bool.or_false, Bool.false_or, Bool.not_true, Bool.not_false, true_and, and_true]
  by_cases hc : ([c] : List UInt8) = s
  · have hd : decide (([c] : List UInt8) = s) = true := by simpa using hc
    simp only [hd, go_sem, Hold.p, HoldK.k, HoldL.K, HoldL.body, Nat.reduceBEq, Nat.reduceAdd, List.getElem?_cons_zero, List.getElem?_cons_succ, Option.bind_some, List.map_cons, List.map_nil, Nat.zero_add, if_true, List.getD_cons_zero, List.getD_cons_succ, List.contains_cons, List.contains_nil, Nat.reduceBEq, Bool.or_true, Bool.true_or, Bool.or_false, Bool.false_or, Bool.not_true, Bool.not_false, true_and, and_true]
    subst hc
    simp [Lib.indexByte]
  · have hd : decide (([c] : List UInt8) = s) = false := by simpa using hc
    simp only [hd, d1, hi, go_sem, Hold.p, HoldK.k, HoldL.K, HoldL.body, Nat.reduceBEq, Nat.reduceAdd, List.getElem?_cons_zero, List.getElem?_cons_succ, Option.bind_some, List.map_cons, List.map_nil, Nat.zero_add, if_true, List.getD_cons_zero, List.getD_cons_succ, List.contains_cons, List.contains_nil, Nat.reduceBEq, Bool.or_true, Bool.true_or, Bool.or_false, Bool.false_or, Bool.not_true, Bool.not_false, true_and, and_true]
    refine callA_of (sIndexByte_c h s c) ?_
    rintro r h' ⟨rfl, rfl⟩
    simp only [go_sem, Hold.p, HoldK.k, HoldL.K, HoldL.body, Nat.reduceBEq, Nat.reduceAdd, List.getElem?_cons_zero, List.getElem?_cons_succ, Option.bind_some, List.map_cons, List.map_nil, Nat.zero_add, if_true, List.getD_cons_zero, List.getD_cons_succ, List.contains_cons, List.contains_nil, Nat.reduceBEq, Bool.or_true, Bool.true_or, Bool.or_false, Bool.false_or, Bool.not_true, Bool.not_false, true_and, and_true]

set_option maxRecDepth 20000 in
theorem index_c (h : IH) (s : List UInt8) (c : UInt8) : ICalls Tryd.prog 158 [.str s, .str [c]] h fun r h' => r = .int .i64 (Lib.indexByte s c) ∧ h' = h := by
  refine icalls (.of ok158) (Nat.le_of_ble_eq_true rfl) ?_
  unfold c158
  simp only [go_sem, Hold.p, HoldK.k, HoldL.K, HoldL.body, Nat.reduceBEq, Nat.reduceAdd, List.getElem?_cons_zero, List.getElem?_cons_succ, Option.bind_some, List.map_cons, List.map_nil, Nat.zero_add, if_true, List.getD_cons_zero, List.getD_cons_succ, List.contains_cons, List.contains_nil, Nat.reduceBEq, Bool.or_true, Bool.true_or, Bool.or_false, Bool.false_or, Bool.not_true, Bool.not_false, true_and, and_true]
  refine callA_of (sIndex_c h s c) ?_
  rintro r h' ⟨rfl, rfl⟩
  simp only [go_sem, Hold.p, HoldK.k, HoldL.K, HoldL.body, Nat.reduceBEq, Nat.reduceAdd, List.getElem?_cons_zero, List.getElem?_cons_succ, Option.bind_some, List.map_cons, List.map_nil, Nat.zero_add, if_true, List.getD_cons_zero, List.getD_cons_succ, List.contains_cons, List.contains_nil, Nat.reduceBEq, Bool.or_true, Bool.true_or, Bool.or_false, Bool.false_or, Bool.not_true, Bool.not_false, true_and, and_true]

set_option maxRecDepth 20000 in
theorem count_c (h : IH) (s : List UInt8) (c : UInt8) : ICalls Tryd.prog 157 [.str s, .str [c]] h fun r h' => r = .int .i64 (s.count c : Nat) ∧ h' = h := by
  refine icalls (.of ok157) (Nat.le_of_ble_eq_true rfl) ?_
  unfold c157
  have d0 : decide ((([c] : List UInt8).length : Int) = 0) = false := rfl
  have d1 : decide ((([c] : List UInt8).length : Int) = 1) = true := rfl
  have hi : idxSF (.str [c]) (.int .i64 0) = some (.int .u8 c.toNat) := rfl
  simp only [d0, d1, hi, go_sem, Hold.p, HoldK.k, HoldL.K, HoldL.body, Nat.reduceBEq, Nat.reduceAdd, List.getElem?_cons_zero, List.getElem?_cons_succ, Option.bind_some, List.map_cons, List.map_nil, Nat.zero_add, if_true, List.getD_cons_zero, List.getD_cons_succ, List.contains_cons, List.contains_nil, Nat.reduceBEq, Bool.or_true, Bool.true_or, Bool.or_false, Bool.false_or, Bool.not_true, Bool.not_false, true_and, and_true]
  refine callA_of (cntB_c h s c) ?_
  rintro r h' ⟨rfl, rfl⟩
  simp only [go_sem, Hold.p, HoldK.k, HoldL.K, HoldL.body, Nat.reduceBEq, Nat.reduceAdd, List.getElem?_cons_zero, List.getElem?_cons_succ, Option.bind_some, List.map_cons, List.map_nil, Nat.zero_add, if_true, List.getD_cons_zero, List.getD_cons_succ, List.contains_cons, List.contains_nil, Nat.reduceBEq, Bool.or_true, Bool.true_or, Bool.or_false, Bool.false_or, Bool.not_true, Bool.not_false, true_and, and_true]

theorem count_le_len (c : UInt8) (s : List UInt8) : s.count c ≤ s.length := List.count_le_length

set_option maxRecDepth 20000 in
theorem genSplit_c (h : IH) (s : List UInt8) (c : UInt8) (hm : s.length ≤ 1048576) : ICalls Tryd.prog 118 [.str s, .str [c], .int .i64 0, .int .i64 (-1)] h fun r h' => SlR h' 1 r ((cutAt c s).map sRow) ∧ Ext h h' := by
  refine icalls (.of ok118) (Nat.le_of_ble_eq_true rfl) ?_
  unfold c118
  have hcl := count_le_len c s
  have d0 : decide ((-1 : Int) = 0) = false := rfl
  have d1 : decide (([c] : List UInt8) = []) = false := by simp
  have d2 : decide ((-1 : Int) < 0) = true := rfl
  simp only [d0, d1, d2, go_sem, Hold.p, HoldK.k, HoldL.K, HoldL.body, Nat.reduceBEq, Nat.reduceAdd, List.getElem?_cons_zero, List.getElem?_cons_succ, Option.bind_some, List.map_cons, List.map_nil, Nat.zero_add, if_true, List.getD_cons_zero, List.getD_cons_succ, List.contains_cons, List.contains_nil, Nat.reduceBEq, Bool.or_true, Bool.true_or, Bool.or_false, Bool.false_or, Bool.not_true, Bool.not_false, true_and, and_true]
  refine callA_of (count_c h s c) ?_
  rintro r h' ⟨rfl, rfl⟩
  have w1 : wr .i64 ((s.count c : Int) + 1) = ((s.count c + 1 : Nat) : Int) := by rw [wr64 _ (by omega)]; rfl
  have w2 : wr .i64 ((s.length : Int) + 1) = ((s.length + 1 : Nat) : Int) := by rw [wr64 _ (by omega)]; rfl
  have hmin : min ((s.count c + 1 : Nat) : Int) ((s.length + 1 : Nat) : Int) = ((s.count c + 1 : Nat) : Int) := by omega
  have w3 : wr .i64 (((s.count c + 1 : Nat) : Int) - 1) = ((s.count c : Nat) : Int) := by rw [wr64 _ (by omega)]; omega
  simp only [w1, w2, hmin, go_sem, Hold.p, HoldK.k, HoldL.K, HoldL.body, Nat.reduceBEq, Nat.reduceAdd, List.getElem?_cons_zero, List.getElem?_cons_succ, Option.bind_some, List.map_cons, List.map_nil, Nat.zero_add, if_true, List.getD_cons_zero, List.getD_cons_succ, List.contains_cons, List.contains_nil, Nat.reduceBEq, Bool.or_true, Bool.true_or, Bool.or_false, Bool.false_or, Bool.not_true, Bool.not_false, true_and, and_true]
  refine mksA_of (by omega) (by omega) (by omega) ?_
  simp only [w3, go_sem, Hold.p, HoldK.k, HoldL.K, HoldL.body, Nat.reduceBEq, Nat.reduceAdd, List.getElem?_cons_zero, List.getElem?_cons_succ, Option.bind_some, List.map_cons, List.map_nil, Nat.zero_add, if_true, List.getD_cons_zero, List.getD_cons_succ, List.contains_cons, List.contains_nil, Nat.reduceBEq, Bool.or_true, Bool.true_or, Bool.or_false, Bool.false_or, Bool.not_true, Bool.not_false, true_and, and_true, rowA_whole, push_n, set_n, push_obj, set_obj, set_push, set_push_ne, set_set, Nat.add_assoc, Nat.left_eq_add, Nat.add_eq_left, Nat.add_left_cancel_iff, Nat.reduceEqDiff, stO_1s, stO_ws, boxA_s, one_bool, one_int, one_str, one_ptr, one_nilptr, one_slice, one_eslice, one_nilslice, one_func, one_iface, one_niliface, List.all_cons, List.all_nil, List.length_cons, List.length_nil, Nat.reduceLT, Nat.reduceEqDiff, Nat.reduceLeDiff, Bool.and_true, Nat.one_ne_zero, Nat.succ_ne_zero, reduceIte, if_false, List.getElem?_cons_zero, List.set_cons_zero, List.set_cons_succ]
  generalize hq_g0 : IH.push h' (IObj.rows (List.replicate (s.count c + 1) [IV.str []]) 9 1 false) = g0
  have e_g0 : Ext h' g0 := by rw [← hq_g0]; exact (Ext.refl _).push _
  have l_g0 : g0.n = h'.n + 1 := by rw [← hq_g0]; rfl
  have ba : At g0 h'.n (IObj.rows (List.replicate (s.count c + 1) [IV.str []]) 9 1 false) := by rw [← hq_g0]; exact At.new _ _
  clear hq_g0
  refine loop_at (fun n e g => ∃ (t : List UInt8) (done : List (List UInt8)), n = t.count c ∧ cutAt c s = done ++ cutAt c t ∧ done.length + t.count c = s.count c ∧ t.length ≤ s.length ∧ e 0 = .str t ∧ e 1 = .str [c] ∧ e 2 = .int .i64 0 ∧ e 3 = .int .i64 (s.count c : Nat) ∧
    e 9 = .slice h'.n 0 (s.count c + 1) ∧ e 10 = .int .i64 (done.length : Nat) ∧ Ext h' g ∧ At g h'.n (.rows (done.map sRow ++ List.replicate (s.count c + 1 - done.length) [IV.str []]) 9 1 false)) (s.count c) ?_ ?_
  · refine ⟨s, [], rfl, rfl, by simp, Nat.le_refl _, ?_⟩
    simp only [go_sem, Hold.p, HoldK.k, HoldL.K, HoldL.body, Nat.reduceBEq, Nat.reduceAdd, List.getElem?_cons_zero, List.getElem?_cons_succ, Option.bind_some, List.map_cons, List.map_nil, Nat.zero_add, if_true, List.getD_cons_zero, List.getD_cons_succ, List.contains_cons, List.contains_nil, Nat.reduceBEq, Bool.or_true, Bool.true_or, Bool.or_false, Bool.false_or, Bool.not_true, Bool.not_false, true_and, and_true, rowA_whole, push_n, set_n, push_obj, set_obj, set_push, set_push_ne, set_set, Nat.add_assoc, Nat.left_eq_add, Nat.add_eq_left, Nat.add_left_cancel_iff, Nat.reduceEqDiff, stO_1s, stO_ws, boxA_s, one_bool, one_int, one_str, one_ptr, one_nilptr, one_slice, one_eslice, one_nilslice, one_func, one_iface, one_niliface, List.all_cons, List.all_nil, List.length_cons, List.length_nil, Nat.reduceLT, Nat.reduceEqDiff, Nat.reduceLeDiff, Bool.and_true, Nat.one_ne_zero, Nat.succ_ne_zero, reduceIte, if_false, List.getElem?_cons_zero, List.set_cons_zero, List.set_cons_succ]
    exact ⟨rfl, e_g0, ba⟩
  · rintro n e g ⟨t, done, rfl, hcut, hcnt, htl, i0, i1, i2, i3, i9, i10, E, ba⟩
    have bae := ba.eq
    have bal := ba.lt
    simp only [i0, i1, i2, i3, i9, i10, go_sem, Hold.p, HoldK.k, HoldL.K, HoldL.body, Nat.reduceBEq, Nat.reduceAdd, List.getElem?_cons_zero, List.getElem?_cons_succ, Option.bind_some, List.map_cons, List.map_nil, Nat.zero_add, if_true, List.getD_cons_zero, List.getD_cons_succ, List.contains_cons, List.contains_nil, Nat.reduceBEq, Bool.or_true, Bool.true_or, Bool.or_false, Bool.false_or, Bool.not_true, Bool.not_false, true_and, and_true, rowA_whole, push_n, set_n, push_obj, set_obj, set_push, set_push_ne, set_set, Nat.add_assoc, Nat.left_eq_add, Nat.add_eq_left, Nat.add_left_cancel_iff, Nat.reduceEqDiff, stO_1s, stO_ws, boxA_s, one_bool, one_int, one_str, one_ptr, one_nilptr, one_slice, one_eslice, one_nilslice, one_func, one_iface, one_niliface, List.all_cons, List.all_nil, List.length_cons, List.length_nil, Nat.reduceLT, Nat.reduceEqDiff, Nat.reduceLeDiff, Bool.and_true, Nat.one_ne_zero, Nat.succ_ne_zero, reduceIte, if_false, List.getElem?_cons_zero, List.set_cons_zero, List.set_cons_succ]
    have fin : t.count c = 0 → Lib.indexByte t c = -1 → True := fun _ _ => trivial
    refine test_dec (fun hlt => ?_) (fun hlt => ?_)
    · have hpos : 0 < t.count c := by omega
      simp only [i0, i1, i2, i3, i9, i10, go_sem, Hold.p, HoldK.k, HoldL.K, HoldL.body, Nat.reduceBEq, Nat.reduceAdd, List.getElem?_cons_zero, List.getElem?_cons_succ, Option.bind_some, List.map_cons, List.map_nil, Nat.zero_add, if_true, List.getD_cons_zero, List.getD_cons_succ, List.contains_cons, List.contains_nil, Nat.reduceBEq, Bool.or_true, Bool.true_or, Bool.or_false, Bool.false_or, Bool.not_true, Bool.not_false, true_and, and_true, rowA_whole, push_n, set_n, push_obj, set_obj, set_push, set_push_ne, set_set, Nat.add_assoc, Nat.left_eq_add, Nat.add_eq_left, Nat.add_left_cancel_iff, Nat.reduceEqDiff, stO_1s, stO_ws, boxA_s, one_bool, one_int, one_str, one_ptr, one_nilptr, one_slice, one_eslice, one_nilslice, one_func, one_iface, one_niliface, List.all_cons, List.all_nil, List.length_cons, List.length_nil, Nat.reduceLT, Nat.reduceEqDiff, Nat.reduceLeDiff, Bool.and_true, Nat.one_ne_zero, Nat.succ_ne_zero, reduceIte, if_false, List.getElem?_cons_zero, List.set_cons_zero, List.set_cons_succ]
      refine callA_of (index_c g t c) ?_
      rintro r g' ⟨rfl, rfl⟩
      have hne : Lib.indexByte t c ≠ -1 := by
        intro h0
        have := cutAt_len c t
        rw [cutAt_none c h0] at this
        simp at this
        omega
      have hge := Lib.indexByte_ge t c
      obtain ⟨m, hidx⟩ : ∃ m : Nat, Lib.indexByte t c = m := ⟨(Lib.indexByte t c).toNat, by omega⟩
      obtain ⟨hml, hc2, hc3⟩ := cutAt_some c hidx
      have dm : decide ((m : Int) < 0) = false := by simp
      have w4 : wr .i64 ((m : Int) + 0) = (m : Int) := by rw [wr64 _ (by omega)]; omega
      have w5 : wr .i64 ((m : Int) + 1) = ((m + 1 : Nat) : Int) := by rw [wr64 _ (by omega)]; rfl
      have hs1 : slcSF (.str t) none (some (.int .i64 (m : Int))) = some (.str (t.take m)) := by
        rw [slcSF_of (boundF_of (by omega) (by omega)) rfl]; simp
      have hs2 : slcSF (.str t) (some (.int .i64 ((m + 1 : Nat) : Int))) none = some (.str (t.drop (m + 1))) := by
        rw [slcSF_of rfl (boundF_of (by omega) (by omega))]; simp
      have w6 : wr .i64 ((m : Int) + ((1 : Nat) : Int)) = ((m + 1 : Nat) : Int) := w5
      simp only [i0, i1, i2, i3, i9, i10, hidx, dm, w4, w5, hs1, hs2, w6, iadrF_sl, bae, iadrO_nat (show done.length < s.count c + 1 by omega), Option.map_some, Option.map_none, go_sem, Hold.p, HoldK.k, HoldL.K, HoldL.body, Nat.reduceBEq, Nat.reduceAdd, List.getElem?_cons_zero, List.getElem?_cons_succ, Option.bind_some, List.map_cons, List.map_nil, Nat.zero_add, if_true, List.getD_cons_zero, List.getD_cons_succ, List.contains_cons, List.contains_nil, Nat.reduceBEq, Bool.or_true, Bool.true_or, Bool.or_false, Bool.false_or, Bool.not_true, Bool.not_false, true_and, and_true, rowA_whole, push_n, set_n, push_obj, set_obj, set_push, set_push_ne, set_set, Nat.add_assoc, Nat.left_eq_add, Nat.add_eq_left, Nat.add_left_cancel_iff, Nat.reduceEqDiff, stO_1s, stO_ws, boxA_s, one_bool, one_int, one_str, one_ptr, one_nilptr, one_slice, one_eslice, one_nilslice, one_func, one_iface, one_niliface, List.all_cons, List.all_nil, List.length_cons, List.length_nil, Nat.reduceLT, Nat.reduceEqDiff, Nat.reduceLeDiff, Bool.and_true, Nat.one_ne_zero, Nat.succ_ne_zero, reduceIte, if_false, List.getElem?_cons_zero, List.set_cons_zero, List.set_cons_succ]
      refine stO_of (k := 0) (cs := [IV.str (t.take m)]) (row := [IV.str []]) ?_ rfl (by simp) (by simp [IV.one]) ?_
      · rw [List.getElem?_append_right (by simp), List.length_map, Nat.sub_self, List.getElem?_replicate, if_pos (by omega)]
      have hw : wrt [IV.str []] 0 [IV.str (t.take m)] = [IV.str (t.take m)] := rfl
      rw [hw]
      simp only [hidx, dm, w4, w5, hs1, hs2, w6, i0, i1, i2, i3, i9, i10, Option.map_some, Option.map_none, go_sem, Hold.p, HoldK.k, HoldL.K, HoldL.body, Nat.reduceBEq, Nat.reduceAdd, List.getElem?_cons_zero, List.getElem?_cons_succ, Option.bind_some, List.map_cons, List.map_nil, Nat.zero_add, if_true, List.getD_cons_zero, List.getD_cons_succ, List.contains_cons, List.contains_nil, Nat.reduceBEq, Bool.or_true, Bool.true_or, Bool.or_false, Bool.false_or, Bool.not_true, Bool.not_false, true_and, and_true, rowA_whole, push_n, set_n, push_obj, set_obj, set_push, set_push_ne, set_set, Nat.add_assoc, Nat.left_eq_add, Nat.add_eq_left, Nat.add_left_cancel_iff, Nat.reduceEqDiff, stO_1s, stO_ws, boxA_s, one_bool, one_int, one_str, one_ptr, one_nilptr, one_slice, one_eslice, one_nilslice, one_func, one_iface, one_niliface, List.all_cons, List.all_nil, List.length_cons, List.length_nil, Nat.reduceLT, Nat.reduceEqDiff, Nat.reduceLeDiff, Bool.and_true, Nat.one_ne_zero, Nat.succ_ne_zero, reduceIte, if_false, List.getElem?_cons_zero, List.set_cons_zero, List.set_cons_succ]
      refine ⟨_, ?_, t.drop (m + 1), done ++ [t.take m], rfl, ?_, ?_, ?_, rfl, ?_, ?_⟩
      · omega
      · rw [hcut, hc2]; simp
      · simp; omega
      · simp; omega
      · congr 2
        rw [wr64 _ (by omega)]; simp
      · exact ⟨E.set _ (by omega) _, by
          have e1 : (List.map sRow done ++ List.replicate (List.count c s + 1 - done.length) [IV.str []]).set done.length [IV.str (t.take m)] = List.map sRow (done ++ [t.take m]) ++ List.replicate (List.count c s + 1 - (done ++ [t.take m]).length) [IV.str []] := by
            obtain ⟨k, hk⟩ : ∃ k, List.count c s + 1 - done.length = k + 1 := ⟨List.count c s - done.length, by omega⟩
            have hk2 : List.count c s + 1 - (done ++ [t.take m]).length = k := by simp; omega
            rw [hk, hk2, List.set_append_right _ _ (by simp)]
            simp [List.replicate_succ, sRow]
          rw [← e1]
          exact ba.here⟩
    · have h0 : t.count c = 0 := by omega
      have hidx : Lib.indexByte t c = -1 := by
        have hge := Lib.indexByte_ge t c
        apply Classical.byContradiction
        intro hne
        obtain ⟨m, hm2⟩ : ∃ m : Nat, Lib.indexByte t c = m := ⟨(Lib.indexByte t c).toNat, by omega⟩
        have := (cutAt_some c hm2).2.2
        omega
      have hct := cutAt_none c hidx
      have hdl : done.length = s.count c := by omega
      have w4 : wr .i64 (((s.count c : Nat) : Int) + 1) = ((s.count c + 1 : Nat) : Int) := by rw [wr64 _ (by omega)]; rfl
      rw [hdl] at i10 bae
      have hsub : s.count c + 1 - s.count c = 1 := by omega
      rw [hsub] at bae
      simp only [i0, i1, i2, i3, i9, i10, iadrF_sl, bae, iadrO_nat (show s.count c < s.count c + 1 by omega), go_sem, Hold.p, HoldK.k, HoldL.K, HoldL.body, Nat.reduceBEq, Nat.reduceAdd, List.getElem?_cons_zero, List.getElem?_cons_succ, Option.bind_some, List.map_cons, List.map_nil, Nat.zero_add, if_true, List.getD_cons_zero, List.getD_cons_succ, List.contains_cons, List.contains_nil, Nat.reduceBEq, Bool.or_true, Bool.true_or, Bool.or_false, Bool.false_or, Bool.not_true, Bool.not_false, true_and, and_true, rowA_whole, push_n, set_n, push_obj, set_obj, set_push, set_push_ne, set_set, Nat.add_assoc, Nat.left_eq_add, Nat.add_eq_left, Nat.add_left_cancel_iff, Nat.reduceEqDiff, stO_1s, stO_ws, boxA_s, one_bool, one_int, one_str, one_ptr, one_nilptr, one_slice, one_eslice, one_nilslice, one_func, one_iface, one_niliface, List.all_cons, List.all_nil, List.length_cons, List.length_nil, Nat.reduceLT, Nat.reduceEqDiff, Nat.reduceLeDiff, Bool.and_true, Nat.one_ne_zero, Nat.succ_ne_zero, reduceIte, if_false, List.getElem?_cons_zero, List.set_cons_zero, List.set_cons_succ]
      refine stO_of (k := 0) (cs := [IV.str t]) (row := [IV.str []]) ?_ rfl (by simp) (by simp [IV.one]) ?_
      · rw [List.getElem?_append_right (by simp; omega)]; simp [hdl]
      have hw : wrt [IV.str []] 0 [IV.str t] = [IV.str t] := rfl
      have e1 : (List.map sRow done ++ List.replicate 1 [IV.str []]).set (s.count c) [IV.str t] = (cutAt c s).map sRow := by
        rw [hcut, hct, List.set_append_right _ _ (by simp; omega)]
        simp [hdl, sRow]
      have hlen : ((cutAt c s).map sRow).length = s.count c + 1 := by rw [List.length_map, cutAt_len]
      rw [hw, e1]
      have hsl : ∀ hh : IH, hh.obj h'.n = .rows ((cutAt c s).map sRow) 9 1 false → slcF hh 1 (.slice h'.n 0 (s.count c + 1)) none (some (.int .i64 ((s.count c + 1 : Nat) : Int))) = some (.slice h'.n 0 (s.count c + 1)) := by
        intro hh ho
        rw [slcF_of (n := s.count c + 1) (a := 0) (b := s.count c + 1) hh rfl (by rw [boundF_of (by omega) (by omega)]; simp) rfl, islc_some hh (by omega) (Nat.le_refl _) (by rw [size_eq, ho]; rfl)]
        simp
      have hsl1 := hsl (g.set h'.n (.rows ((cutAt c s).map sRow) 9 1 false)) (set_here _ _ _)
      simp only [i0, i1, i2, i3, i9, i10, w4, hsl1, Option.map_some, Option.map_none, go_sem, Hold.p, HoldK.k, HoldL.K, HoldL.body, Nat.reduceBEq, Nat.reduceAdd, List.getElem?_cons_zero, List.getElem?_cons_succ, Option.bind_some, List.map_cons, List.map_nil, Nat.zero_add, if_true, List.getD_cons_zero, List.getD_cons_succ, List.contains_cons, List.contains_nil, Nat.reduceBEq, Bool.or_true, Bool.true_or, Bool.or_false, Bool.false_or, Bool.not_true, Bool.not_false, true_and, and_true, rowA_whole, push_n, set_n, push_obj, set_obj, set_push, set_push_ne, set_set, Nat.add_assoc, Nat.left_eq_add, Nat.add_eq_left, Nat.add_left_cancel_iff, Nat.reduceEqDiff, stO_1s, stO_ws, boxA_s, one_bool, one_int, one_str, one_ptr, one_nilptr, one_slice, one_eslice, one_nilslice, one_func, one_iface, one_niliface, List.all_cons, List.all_nil, List.length_cons, List.length_nil, Nat.reduceLT, Nat.reduceEqDiff, Nat.reduceLeDiff, Bool.and_true, Nat.one_ne_zero, Nat.succ_ne_zero, reduceIte, if_false, List.getElem?_cons_zero, List.set_cons_zero, List.set_cons_succ]
      exact ⟨SlR.whole (set_here _ _ _) hlen (by simp only [set_n]; omega), E.set _ (by omega) _⟩

set_option maxRecDepth 20000 in
theorem split_c (h : IH) (s : List UInt8) (c : UInt8) (hm : s.length ≤ 1048576) : ICalls Tryd.prog 59 [.str s, .str [c]] h fun r h' => SlR h' 1 r ((cutAt c s).map sRow) ∧ Ext h h' := by
  refine icalls (.of ok59) (Nat.le_of_ble_eq_true rfl) ?_
  unfold c59
  simp only [go_sem, Hold.p, HoldK.k, HoldL.K, HoldL.body, Nat.reduceBEq, Nat.reduceAdd, List.getElem?_cons_zero, List.getElem?_cons_succ, Option.bind_some, List.map_cons, List.map_nil, Nat.zero_add, if_true, List.getD_cons_zero, List.getD_cons_succ, List.contains_cons, List.contains_nil, Nat.reduceBEq, Bool.or_true, Bool.true_or, Bool.or_false, Bool.false_or, Bool.not_true, Bool.not_false, true_and, and_true]
  refine callA_of (genSplit_c h s c hm) ?_
  rintro r h' ⟨hs, hE⟩
  simp only [go_sem, Hold.p, HoldK.k, HoldL.K, HoldL.body, Nat.reduceBEq, Nat.reduceAdd, List.getElem?_cons_zero, List.getElem?_cons_succ, Option.bind_some, List.map_cons, List.map_nil, Nat.zero_add, if_true, List.getD_cons_zero, List.getD_cons_succ, List.contains_cons, List.contains_nil, Nat.reduceBEq, Bool.or_true, Bool.true_or, Bool.or_false, Bool.false_or, Bool.not_true, Bool.not_false, true_and, and_true]
  exact ⟨hs, hE⟩

set_option maxRecDepth 20000 in
theorem l02Cut_c (h : IH) (s : List UInt8) (c : UInt8) (hm : s.length ≤ 1048576) : ICalls Tryd.prog 44 [.str s, .int .u8 c.toNat] h fun r h' => SlR h' 1 r ((cutAt c s).map sRow) ∧ Ext h h' := by
  refine icalls (.of ok44) (Nat.le_of_ble_eq_true rfl) ?_
  unfold c44
  simp only [go_sem, Hold.p, HoldK.k, HoldL.K, HoldL.body, Nat.reduceBEq, Nat.reduceAdd, List.getElem?_cons_zero, List.getElem?_cons_succ, Option.bind_some, List.map_cons, List.map_nil, Nat.zero_add, if_true, List.getD_cons_zero, List.getD_cons_succ, List.contains_cons, List.contains_nil, Nat.reduceBEq, Bool.or_true, Bool.true_or, Bool.or_false, Bool.false_or, Bool.not_true, Bool.not_false, true_and, and_true]
  refine loop_at (fun n e g => ∃ (k from_ : Nat) (v : IV) (lo hi : Nat) (out : List (List UInt8)), n = s.length - k ∧ k ≤ s.length ∧ from_ ≤ k ∧ e 0 = .str s ∧ e 1 = .int .u8 c.toNat ∧ e 5 = v ∧ e 6 = .int .i64 (from_ : Nat) ∧ e 7 = .int .i64 (k : Nat) ∧
    Ext h g ∧ h.n ≤ lo ∧ Own lo hi g 9 1 v (out.map sRow) ∧ hi ≤ g.n ∧ out.length ≤ k ∧ cutAt c (s.take k) = out ++ [(s.take k).drop from_]) s.length ?_ ?_
  · refine ⟨0, 0, .eslice true, h.n, h.n, [], by omega, by omega, by omega, ?_⟩
    simp only [go_sem, Hold.p, HoldK.k, HoldL.K, HoldL.body, Nat.reduceBEq, Nat.reduceAdd, List.getElem?_cons_zero, List.getElem?_cons_succ, Option.bind_some, List.map_cons, List.map_nil, Nat.zero_add, if_true, List.getD_cons_zero, List.getD_cons_succ, List.contains_cons, List.contains_nil, Nat.reduceBEq, Bool.or_true, Bool.true_or, Bool.or_false, Bool.false_or, Bool.not_true, Bool.not_false, true_and, and_true, rowA_whole, push_n, set_n, push_obj, set_obj, set_push, set_push_ne, set_set, Nat.add_assoc, Nat.left_eq_add, Nat.add_eq_left, Nat.add_left_cancel_iff, Nat.reduceEqDiff, stO_1s, stO_ws, boxA_s, one_bool, one_int, one_str, one_ptr, one_nilptr, one_slice, one_eslice, one_nilslice, one_func, one_iface, one_niliface, List.all_cons, List.all_nil, List.length_cons, List.length_nil, Nat.reduceLT, Nat.reduceEqDiff, Nat.reduceLeDiff, Bool.and_true, Nat.one_ne_zero, Nat.succ_ne_zero, reduceIte, if_false, List.getElem?_cons_zero, List.set_cons_zero, List.set_cons_succ]
    exact ⟨rfl, rfl, Ext.refl _, Nat.le_refl _, Own.empty, Nat.le_refl _, by simp [cutAt]⟩
  · rintro n e g ⟨k, from_, v, lo, hi, out, rfl, hk, hf, i0, i1, i5, i6, i7, E, hlo, o, hhi, hol, hcut⟩
    have hle := E.le
    simp only [i0, i1, i5, i6, i7, go_sem, Hold.p, HoldK.k, HoldL.K, HoldL.body, Nat.reduceBEq, Nat.reduceAdd, List.getElem?_cons_zero, List.getElem?_cons_succ, Option.bind_some, List.map_cons, List.map_nil, Nat.zero_add, if_true, List.getD_cons_zero, List.getD_cons_succ, List.contains_cons, List.contains_nil, Nat.reduceBEq, Bool.or_true, Bool.true_or, Bool.or_false, Bool.false_or, Bool.not_true, Bool.not_false, true_and, and_true, rowA_whole, push_n, set_n, push_obj, set_obj, set_push, set_push_ne, set_set, Nat.add_assoc, Nat.left_eq_add, Nat.add_eq_left, Nat.add_left_cancel_iff, Nat.reduceEqDiff, stO_1s, stO_ws, boxA_s, one_bool, one_int, one_str, one_ptr, one_nilptr, one_slice, one_eslice, one_nilslice, one_func, one_iface, one_niliface, List.all_cons, List.all_nil, List.length_cons, List.length_nil, Nat.reduceLT, Nat.reduceEqDiff, Nat.reduceLeDiff, Bool.and_true, Nat.one_ne_zero, Nat.succ_ne_zero, reduceIte, if_false, List.getElem?_cons_zero, List.set_cons_zero, List.set_cons_succ]
    refine test_dec (fun hlt => ?_) (fun hlt => ?_)
    · have hlt' : k < s.length := by omega
      have hkp : s[k]? = some s[k] := List.getElem?_eq_getElem hlt'
      generalize s[k] = b at hkp
      have hix := idxS_at (q := .i64) hkp
      have hn := cutAt_snoc c (s.take k) out _ b hcut
      have htk : s.take k ++ [b] = s.take (k + 1) := by rw [List.take_add_one, hkp]; rfl
      rw [htk] at hn
      by_cases hb : b = c
      · subst hb
        have w1 : wr .i64 ((k : Int) + 1) = ((k + 1 : Nat) : Int) := by rw [wr64 _ (by omega)]; rfl
        have hs1 : slcSF (.str s) (some (.int .i64 (from_ : Int))) (some (.int .i64 (k : Int))) = some (.str ((s.take k).drop from_)) := by
          rw [slcSF_of (boundF_of (by omega) (by omega)) (boundF_of (by omega) (by simp; omega))]; simp
        simp only [i0, i1, i5, i6, i7, hix, decide_true, hs1, w1, Option.map_some, Option.map_none, go_sem, Hold.p, HoldK.k, HoldL.K, HoldL.body, Nat.reduceBEq, Nat.reduceAdd, List.getElem?_cons_zero, List.getElem?_cons_succ, Option.bind_some, List.map_cons, List.map_nil, Nat.zero_add, if_true, List.getD_cons_zero, List.getD_cons_succ, List.contains_cons, List.contains_nil, Nat.reduceBEq, Bool.or_true, Bool.true_or, Bool.or_false, Bool.false_or, Bool.not_true, Bool.not_false, true_and, and_true, rowA_whole, push_n, set_n, push_obj, set_obj, set_push, set_push_ne, set_set, Nat.add_assoc, Nat.left_eq_add, Nat.add_eq_left, Nat.add_left_cancel_iff, Nat.reduceEqDiff, stO_1s, stO_ws, boxA_s, one_bool, one_int, one_str, one_ptr, one_nilptr, one_slice, one_eslice, one_nilslice, one_func, one_iface, one_niliface, List.all_cons, List.all_nil, List.length_cons, List.length_nil, Nat.reduceLT, Nat.reduceEqDiff, Nat.reduceLeDiff, Bool.and_true, Nat.one_ne_zero, Nat.succ_ne_zero, reduceIte, if_false, List.getElem?_cons_zero, List.set_cons_zero, List.set_cons_succ]
        generalize hq_g1 : IH.push g (IObj.rows [[IV.str ((s.take k).drop from_)]] 9 1 false) = g1
        have e_g1 : Ext g g1 := by rw [← hq_g1]; exact (Ext.refl _).push _
        have l_g1 : g1.n = g.n + 1 := by rw [← hq_g1]; rfl
        have ba : At g1 g.n (IObj.rows [[IV.str ((s.take k).drop from_)]] 9 1 false) := by rw [← hq_g1]; exact At.new _ _
        clear hq_g1
        have o := o.ext e_g1
        have E := E.ext e_g1
        refine o.app (by simp) (by simp; omega) ?_
        intro v6 h6 o6 t6 n6 v6o v6c
        have E := E.turn o (by omega) t6
        have le_t6 := t6.le
        simp only [i0, i1, i5, i6, i7, w1, go_sem, Hold.p, HoldK.k, HoldL.K, HoldL.body, Nat.reduceBEq, Nat.reduceAdd, List.getElem?_cons_zero, List.getElem?_cons_succ, Option.bind_some, List.map_cons, List.map_nil, Nat.zero_add, if_true, List.getD_cons_zero, List.getD_cons_succ, List.contains_cons, List.contains_nil, Nat.reduceBEq, Bool.or_true, Bool.true_or, Bool.or_false, Bool.false_or, Bool.not_true, Bool.not_false, true_and, and_true, rowA_whole, push_n, set_n, push_obj, set_obj, set_push, set_push_ne, set_set, Nat.add_assoc, Nat.left_eq_add, Nat.add_eq_left, Nat.add_left_cancel_iff, Nat.reduceEqDiff, stO_1s, stO_ws, boxA_s, one_bool, one_int, one_str, one_ptr, one_nilptr, one_slice, one_eslice, one_nilslice, one_func, one_iface, one_niliface, List.all_cons, List.all_nil, List.length_cons, List.length_nil, Nat.reduceLT, Nat.reduceEqDiff, Nat.reduceLeDiff, Bool.and_true, Nat.one_ne_zero, Nat.succ_ne_zero, reduceIte, if_false, List.getElem?_cons_zero, List.set_cons_zero, List.set_cons_succ]
        rw [if_pos (by simp)] at hn
        refine ⟨_, ?_, k + 1, k + 1, v6, g1.n, g1.n + 1, out ++ [(s.take k).drop from_], rfl, by omega, Nat.le_refl _, rfl, rfl, rfl, E, by omega, by simpa [sRow] using o6, by omega, by simp; omega, ?_⟩
        · omega
        · rw [hn]; simp
      · have hb2 : decide ((b.toNat : Int) = (c.toNat : Int)) = false := by
          simp only [decide_eq_false_iff_not]
          intro h0
          exact hb (UInt8.toNat_inj.1 (by omega))
        simp only [i0, i1, i5, i6, i7, hix, hb2, go_sem, Hold.p, HoldK.k, HoldL.K, HoldL.body, Nat.reduceBEq, Nat.reduceAdd, List.getElem?_cons_zero, List.getElem?_cons_succ, Option.bind_some, List.map_cons, List.map_nil, Nat.zero_add, if_true, List.getD_cons_zero, List.getD_cons_succ, List.contains_cons, List.contains_nil, Nat.reduceBEq, Bool.or_true, Bool.true_or, Bool.or_false, Bool.false_or, Bool.not_true, Bool.not_false, true_and, and_true, rowA_whole, push_n, set_n, push_obj, set_obj, set_push, set_push_ne, set_set, Nat.add_assoc, Nat.left_eq_add, Nat.add_eq_left, Nat.add_left_cancel_iff, Nat.reduceEqDiff, stO_1s, stO_ws, boxA_s, one_bool, one_int, one_str, one_ptr, one_nilptr, one_slice, one_eslice, one_nilslice, one_func, one_iface, one_niliface, List.all_cons, List.all_nil, List.length_cons, List.length_nil, Nat.reduceLT, Nat.reduceEqDiff, Nat.reduceLeDiff, Bool.and_true, Nat.one_ne_zero, Nat.succ_ne_zero, reduceIte, if_false, List.getElem?_cons_zero, List.set_cons_zero, List.set_cons_succ]
        rw [if_neg (by simpa using hb)] at hn
        refine ⟨_, ?_, k + 1, from_, v, lo, hi, out, rfl, by omega, by omega, rfl, rfl, wr64_succ k (by omega), E, hlo, o, hhi, by omega, ?_⟩
        · omega
        · rw [hn]
          congr 2
          rw [← htk, List.drop_append_of_le_length (by simp; omega)]
    · obtain rfl : k = s.length := by omega
      rw [List.take_length] at hcut
      have hs1 : slcSF (.str s) (some (.int .i64 (from_ : Int))) none = some (.str (s.drop from_)) := by
        rw [slcSF_of rfl (boundF_of (by omega) (by omega))]; simp
      simp only [i0, i1, i5, i6, i7, hs1, Option.map_some, Option.map_none, go_sem, Hold.p, HoldK.k, HoldL.K, HoldL.body, Nat.reduceBEq, Nat.reduceAdd, List.getElem?_cons_zero, List.getElem?_cons_succ, Option.bind_some, List.map_cons, List.map_nil, Nat.zero_add, if_true, List.getD_cons_zero, List.getD_cons_succ, List.contains_cons, List.contains_nil, Nat.reduceBEq, Bool.or_true, Bool.true_or, Bool.or_false, Bool.false_or, Bool.not_true, Bool.not_false, true_and, and_true, rowA_whole, push_n, set_n, push_obj, set_obj, set_push, set_push_ne, set_set, Nat.add_assoc, Nat.left_eq_add, Nat.add_eq_left, Nat.add_left_cancel_iff, Nat.reduceEqDiff, stO_1s, stO_ws, boxA_s, one_bool, one_int, one_str, one_ptr, one_nilptr, one_slice, one_eslice, one_nilslice, one_func, one_iface, one_niliface, List.all_cons, List.all_nil, List.length_cons, List.length_nil, Nat.reduceLT, Nat.reduceEqDiff, Nat.reduceLeDiff, Bool.and_true, Nat.one_ne_zero, Nat.succ_ne_zero, reduceIte, if_false, List.getElem?_cons_zero, List.set_cons_zero, List.set_cons_succ]
      generalize hq_g1 : IH.push g (IObj.rows [[IV.str (s.drop from_)]] 9 1 false) = g1
      have e_g1 : Ext g g1 := by rw [← hq_g1]; exact (Ext.refl _).push _
      have l_g1 : g1.n = g.n + 1 := by rw [← hq_g1]; rfl
      have ba : At g1 g.n (IObj.rows [[IV.str (s.drop from_)]] 9 1 false) := by rw [← hq_g1]; exact At.new _ _
      clear hq_g1
      have o := o.ext e_g1
      have E := E.ext e_g1
      refine o.app (by simp) (by simp; omega) ?_
      intro v6 h6 o6 t6 n6 v6o v6c
      have E := E.turn o (by omega) t6
      have le_t6 := t6.le
      simp only [go_sem, Hold.p, HoldK.k, HoldL.K, HoldL.body, Nat.reduceBEq, Nat.reduceAdd, List.getElem?_cons_zero, List.getElem?_cons_succ, Option.bind_some, List.map_cons, List.map_nil, Nat.zero_add, if_true, List.getD_cons_zero, List.getD_cons_succ, List.contains_cons, List.contains_nil, Nat.reduceBEq, Bool.or_true, Bool.true_or, Bool.or_false, Bool.false_or, Bool.not_true, Bool.not_false, true_and, and_true, rowA_whole, push_n, set_n, push_obj, set_obj, set_push, set_push_ne, set_set, Nat.add_assoc, Nat.left_eq_add, Nat.add_eq_left, Nat.add_left_cancel_iff, Nat.reduceEqDiff, stO_1s, stO_ws, boxA_s, one_bool, one_int, one_str, one_ptr, one_nilptr, one_slice, one_eslice, one_nilslice, one_func, one_iface, one_niliface, List.all_cons, List.all_nil, List.length_cons, List.length_nil, Nat.reduceLT, Nat.reduceEqDiff, Nat.reduceLeDiff, Bool.and_true, Nat.one_ne_zero, Nat.succ_ne_zero, reduceIte, if_false, List.getElem?_cons_zero, List.set_cons_zero, List.set_cons_succ]
      refine ⟨?_, E⟩
      rw [hcut]
      simpa [sRow] using o6.sl
end Go.Proofs.YtdpaehdolhdjdaaDoor


namespace Go.Proofs.YtdpaehdolhdjdaaDoor
open Go Go.IW

/-- A byte of a label. -/
def okC (b : UInt8) : Bool := (decide (97 ≤ (b.toNat : Int)) && decide ((b.toNat : Int) ≤ 122)) || (decide (48 ≤ (b.toNat : Int)) && decide ((b.toNat : Int) ≤ 57)) || decide ((b.toNat : Int) = 45)
/-- The ends of a label. -/
def ends (s : List UInt8) : Bool := decide (((s.getD 0 0).toNat : Int) = 45) || decide (((s.getD (s.length - 1) 0).toNat : Int) = 45)
def okLabel (s : List UInt8) : Bool := decide (1 ≤ s.length) && decide (s.length ≤ 20) && !ends s && s.all okC
def okName (s : List UInt8) : Bool := decide (s.length ≤ 63) && (cutAt 46 s).all okLabel
end Go.Proofs.YtdpaehdolhdjdaaDoor


namespace Go.Proofs.YtdpaehdolhdjdaaDoor
open Go Go.IW

end Go.Proofs.YtdpaehdolhdjdaaDoor


namespace Go.Proofs.YtdpaehdolhdjdaaDoor
open Go Go.IW

theorem strRows_append (a b : List UInt8) : strRows (a ++ b) = strRows a ++ strRows b := by simp [strRows]
theorem strRows_len (a : List UInt8) : (strRows a).length = a.length := by simp [strRows]
theorem strRows_at {a : List UInt8} {k : Nat} {b : UInt8} (h : a[k]? = some b) : (strRows a)[k]? = some [.int .u8 b.toNat] := by
  unfold strRows; rw [List.getElem?_map, h]; rfl

set_option maxRecDepth 20000 in
theorem l01Copy_c (h : IH) (v : IV) (bs : List UInt8) (hs : SlR h 1 v (strRows bs)) (hbl : bs.length ≤ 16777216) : ICalls Tryd.prog 109 [v] h fun r h' => Own h.n h'.n h' 5 1 r (strRows bs) ∧ Ext h h' := by
  refine icalls (.of ok109) (Nat.le_of_ble_eq_true rfl) ?_
  unfold c109
  have hlen := hs.lenF
  rw [strRows_len] at hlen
  simp only [go_sem, Hold.p, HoldK.k, HoldL.K, HoldL.body, Nat.reduceBEq, Nat.reduceAdd, List.getElem?_cons_zero, List.getElem?_cons_succ, Option.bind_some, List.map_cons, List.map_nil, Nat.zero_add, if_true, List.getD_cons_zero, List.getD_cons_succ, List.contains_cons, List.contains_nil, Nat.reduceBEq, Bool.or_true, Bool.true_or, Bool.or_false, Bool.false_or, Bool.not_true, Bool.not_false, true_and, and_true, rowA_whole, push_n, set_n, push_obj, set_obj, set_push, set_push_ne, set_set, Nat.add_assoc, Nat.left_eq_add, Nat.add_eq_left, Nat.add_left_cancel_iff, Nat.reduceEqDiff, stO_1s, stO_ws, boxA_s, one_bool, one_int, one_str, one_ptr, one_nilptr, one_slice, one_eslice, one_nilslice, one_func, one_iface, one_niliface, List.all_cons, List.all_nil, List.length_cons, List.length_nil, Nat.reduceLT, Nat.reduceEqDiff, Nat.reduceLeDiff, Bool.and_true, Nat.one_ne_zero, Nat.succ_ne_zero, reduceIte, if_false, List.getElem?_cons_zero, List.set_cons_zero, List.set_cons_succ]
  refine loop_at (fun n e g => ∃ (x : IV) (lo hi k : Nat), n = bs.length - k ∧ k ≤ bs.length ∧ e 0 = v ∧ e 3 = x ∧ e 4 = .int .i64 (k : Nat) ∧ Ext h g ∧ h.n ≤ lo ∧ hi ≤ g.n ∧ Own lo hi g 5 1 x (strRows (bs.take k))) bs.length ?_ ?_
  · refine ⟨.eslice true, h.n, h.n, 0, by omega, by omega, ?_⟩
    simp only [go_sem, Hold.p, HoldK.k, HoldL.K, HoldL.body, Nat.reduceBEq, Nat.reduceAdd, List.getElem?_cons_zero, List.getElem?_cons_succ, Option.bind_some, List.map_cons, List.map_nil, Nat.zero_add, if_true, List.getD_cons_zero, List.getD_cons_succ, List.contains_cons, List.contains_nil, Nat.reduceBEq, Bool.or_true, Bool.true_or, Bool.or_false, Bool.false_or, Bool.not_true, Bool.not_false, true_and, and_true, rowA_whole, push_n, set_n, push_obj, set_obj, set_push, set_push_ne, set_set, Nat.add_assoc, Nat.left_eq_add, Nat.add_eq_left, Nat.add_left_cancel_iff, Nat.reduceEqDiff, stO_1s, stO_ws, boxA_s, one_bool, one_int, one_str, one_ptr, one_nilptr, one_slice, one_eslice, one_nilslice, one_func, one_iface, one_niliface, List.all_cons, List.all_nil, List.length_cons, List.length_nil, Nat.reduceLT, Nat.reduceEqDiff, Nat.reduceLeDiff, Bool.and_true, Nat.one_ne_zero, Nat.succ_ne_zero, reduceIte, if_false, List.getElem?_cons_zero, List.set_cons_zero, List.set_cons_succ]
    exact ⟨rfl, Ext.refl _, Nat.le_refl _, Nat.le_refl _, Own.empty⟩
  · rintro n e g ⟨x, lo, hi, k, rfl, hk, i0, i3, i4, E, hlo, hhi, o⟩
    have hle := E.le
    simp only [i0, i3, i4, hlen, go_sem, Hold.p, HoldK.k, HoldL.K, HoldL.body, Nat.reduceBEq, Nat.reduceAdd, List.getElem?_cons_zero, List.getElem?_cons_succ, Option.bind_some, List.map_cons, List.map_nil, Nat.zero_add, if_true, List.getD_cons_zero, List.getD_cons_succ, List.contains_cons, List.contains_nil, Nat.reduceBEq, Bool.or_true, Bool.true_or, Bool.or_false, Bool.false_or, Bool.not_true, Bool.not_false, true_and, and_true, rowA_whole, push_n, set_n, push_obj, set_obj, set_push, set_push_ne, set_set, Nat.add_assoc, Nat.left_eq_add, Nat.add_eq_left, Nat.add_left_cancel_iff, Nat.reduceEqDiff, stO_1s, stO_ws, boxA_s, one_bool, one_int, one_str, one_ptr, one_nilptr, one_slice, one_eslice, one_nilslice, one_func, one_iface, one_niliface, List.all_cons, List.all_nil, List.length_cons, List.length_nil, Nat.reduceLT, Nat.reduceEqDiff, Nat.reduceLeDiff, Bool.and_true, Nat.one_ne_zero, Nat.succ_ne_zero, reduceIte, if_false, List.getElem?_cons_zero, List.set_cons_zero, List.set_cons_succ]
    refine test_dec (fun hlt => ?_) (fun hlt => ?_)
    · have hlt' : k < bs.length := by omega
      have hkp : bs[k]? = some bs[k] := List.getElem?_eq_getElem hlt'
      generalize bs[k] = b at hkp
      obtain ⟨l, j, hia, hll, hrow⟩ := (hs.ext E).at (m := k) (strRows_at hkp) .i64
      have hc := cellO_row hrow
      simp only [i0, i3, i4, hia, hc, go_sem, Hold.p, HoldK.k, HoldL.K, HoldL.body, Nat.reduceBEq, Nat.reduceAdd, List.getElem?_cons_zero, List.getElem?_cons_succ, Option.bind_some, List.map_cons, List.map_nil, Nat.zero_add, if_true, List.getD_cons_zero, List.getD_cons_succ, List.contains_cons, List.contains_nil, Nat.reduceBEq, Bool.or_true, Bool.true_or, Bool.or_false, Bool.false_or, Bool.not_true, Bool.not_false, true_and, and_true, rowA_whole, push_n, set_n, push_obj, set_obj, set_push, set_push_ne, set_set, Nat.add_assoc, Nat.left_eq_add, Nat.add_eq_left, Nat.add_left_cancel_iff, Nat.reduceEqDiff, stO_1s, stO_ws, boxA_s, one_bool, one_int, one_str, one_ptr, one_nilptr, one_slice, one_eslice, one_nilslice, one_func, one_iface, one_niliface, List.all_cons, List.all_nil, List.length_cons, List.length_nil, Nat.reduceLT, Nat.reduceEqDiff, Nat.reduceLeDiff, Bool.and_true, Nat.one_ne_zero, Nat.succ_ne_zero, reduceIte, if_false, List.getElem?_cons_zero, List.set_cons_zero, List.set_cons_succ]
      generalize hq_g1 : IH.push g (IObj.rows [[.int .u8 b.toNat]] 5 1 false) = g1
      have e_g1 : Ext g g1 := by rw [← hq_g1]; exact (Ext.refl _).push _
      have l_g1 : g1.n = g.n + 1 := by rw [← hq_g1]; rfl
      have ba : At g1 g.n (IObj.rows [[.int .u8 b.toNat]] 5 1 false) := by rw [← hq_g1]; exact At.new _ _
      clear hq_g1
      have o := o.ext e_g1
      have E := E.ext e_g1
      refine o.app (by simp) (by rw [strRows_len]; simp; omega) ?_
      intro v6 h6 o6 t6 n6 v6o v6c
      have E := E.turn o (by omega) t6
      have le_t6 := t6.le
      simp only [i0, i3, i4, go_sem, Hold.p, HoldK.k, HoldL.K, HoldL.body, Nat.reduceBEq, Nat.reduceAdd, List.getElem?_cons_zero, List.getElem?_cons_succ, Option.bind_some, List.map_cons, List.map_nil, Nat.zero_add, if_true, List.getD_cons_zero, List.getD_cons_succ, List.contains_cons, List.contains_nil, Nat.reduceBEq, Bool.or_true, Bool.true_or, Bool.or_false, Bool.false_or, Bool.not_true, Bool.not_false, true_and, and_true, rowA_whole, push_n, set_n, push_obj, set_obj, set_push, set_push_ne, set_set, Nat.add_assoc, Nat.left_eq_add, Nat.add_eq_left, Nat.add_left_cancel_iff, Nat.reduceEqDiff, stO_1s, stO_ws, boxA_s, one_bool, one_int, one_str, one_ptr, one_nilptr, one_slice, one_eslice, one_nilslice, one_func, one_iface, one_niliface, List.all_cons, List.all_nil, List.length_cons, List.length_nil, Nat.reduceLT, Nat.reduceEqDiff, Nat.reduceLeDiff, Bool.and_true, Nat.one_ne_zero, Nat.succ_ne_zero, reduceIte, if_false, List.getElem?_cons_zero, List.set_cons_zero, List.set_cons_succ]
      refine ⟨_, ?_, v6, g1.n, g1.n + 1, k + 1, rfl, by omega, rfl, wr64_succ k (by omega), E, by omega, by omega, ?_⟩
      · omega
      · rw [List.take_add_one, hkp, strRows_append]; exact o6
    · obtain rfl : k = bs.length := by omega
      rw [List.take_length] at o
      simp only [i3, go_sem, Hold.p, HoldK.k, HoldL.K, HoldL.body, Nat.reduceBEq, Nat.reduceAdd, List.getElem?_cons_zero, List.getElem?_cons_succ, Option.bind_some, List.map_cons, List.map_nil, Nat.zero_add, if_true, List.getD_cons_zero, List.getD_cons_succ, List.contains_cons, List.contains_nil, Nat.reduceBEq, Bool.or_true, Bool.true_or, Bool.or_false, Bool.false_or, Bool.not_true, Bool.not_false, true_and, and_true, rowA_whole, push_n, set_n, push_obj, set_obj, set_push, set_push_ne, set_set, Nat.add_assoc, Nat.left_eq_add, Nat.add_eq_left, Nat.add_left_cancel_iff, Nat.reduceEqDiff, stO_1s, stO_ws, boxA_s, one_bool, one_int, one_str, one_ptr, one_nilptr, one_slice, one_eslice, one_nilslice, one_func, one_iface, one_niliface, List.all_cons, List.all_nil, List.length_cons, List.length_nil, Nat.reduceLT, Nat.reduceEqDiff, Nat.reduceLeDiff, Bool.and_true, Nat.one_ne_zero, Nat.succ_ne_zero, reduceIte, if_false, List.getElem?_cons_zero, List.set_cons_zero, List.set_cons_succ]
      exact ⟨o.wide hlo hhi (Nat.le_refl _), E⟩

end Go.Proofs.YtdpaehdolhdjdaaDoor


namespace Go.Proofs.YtdpaehdolhdjdaaDoor
open Go Go.IW

end Go.Proofs.YtdpaehdolhdjdaaDoor


namespace Go.Proofs.YtdpaehdolhdjdaaDoor
open Go Go.IW

end Go.Proofs.YtdpaehdolhdjdaaDoor


namespace Go.Proofs.YtdpaehdolhdjdaaDoor
open Go Go.IW

structure BitesAt (h : IH) (p : Nat) (bs : List UInt8) (sh : Bool) : Prop where
  box : ∃ v, At h p (.rows [[v, .bool sh]] 130 2 false) ∧ SlR h 1 v (strRows bs) ∧ ∀ l i m, v = .slice l i m → l < p

theorem islc_at {h : IH} {sz a b : Nat} {v : IV} {l i m : Nat} {mx : Option Nat} (e : islc h sz v a b mx = some (.slice l i m)) : ∃ i0 m0, v = .slice l i0 m0 := by
  cases v with
  | slice l0 i0 m0 =>
    simp only [islc] at e
    split at e
    · split at e
      · split at e
        · cases e
        · cases e; exact ⟨i0, m0, rfl⟩
      · split at e
        · split at e
          · cases e
          · cases e; exact ⟨i0, m0, rfl⟩
        · cases e
    · cases e
  | eslice z => simp only [islc] at e; split at e <;> cases e
  | nilslice => simp only [islc] at e; split at e <;> cases e
  | _ => cases e
theorem slcF_at {h : IH} {sz : Nat} {v : IV} {l i m : Nat} {lo hi : Option IV} (e : slcF h sz v lo hi = some (.slice l i m)) : ∃ i0 m0, v = .slice l i0 m0 := by
  unfold slcF at e
  split at e
  · split at e
    · split at e
      · exact islc_at e
      · cases e
    · cases e
  · cases e

theorem strRows_take (a : List UInt8) (n : Nat) : (strRows a).take n = strRows (a.take n) := by simp [strRows, List.map_take]
theorem strRows_drop (a : List UInt8) (n : Nat) : (strRows a).drop n = strRows (a.drop n) := by simp [strRows, List.map_drop]

end Go.Proofs.YtdpaehdolhdjdaaDoor


namespace Go.Proofs.YtdpaehdolhdjdaaDoor
open Go Go.IW

end Go.Proofs.YtdpaehdolhdjdaaDoor


namespace Go.Proofs.YtdpaehdolhdjdaaDoor
open Go Go.IW

end Go.Proofs.YtdpaehdolhdjdaaDoor


namespace Go.Proofs.YtdpaehdolhdjdaaDoor
open Go Go.IW

theorem BitesAt.ext {h h' : IH} {p : Nat} {bs : List UInt8} {sh : Bool} (b : BitesAt h p bs sh) (e : Ext h h') : BitesAt h' p bs sh := by
  obtain ⟨v, ha, hs, hlow⟩ := b.box
  exact ⟨⟨v, ha.ext e, hs.ext e, hlow⟩⟩
theorem BitesAt.turn {lo hi : Nat} {h h' : IH} {p el sz : Nat} {bs : List UInt8} {sh : Bool} {w : IV} {rs : List (List IV)} (b : BitesAt h p bs sh) (hw : Own lo hi h el sz w rs) (hd : p < lo) (t : Turn w h h') : BitesAt h' p bs sh := by
  obtain ⟨v, ha, hs, hlow⟩ := b.box
  exact ⟨⟨v, ha.turn hw (.inl hd) t, hs.turn (fun l i n hv => Nat.lt_trans (hlow l i n hv) hd) hw t, hlow⟩⟩
theorem BitesAt.lt {h : IH} {p : Nat} {bs : List UInt8} {sh : Bool} (b : BitesAt h p bs sh) : p < h.n := by
  obtain ⟨v, ha, hs, _⟩ := b.box; exact ha.lt
end Go.Proofs.YtdpaehdolhdjdaaDoor


namespace Go.Proofs.YtdpaehdolhdjdaaDoor
open Go Go.IW

end Go.Proofs.YtdpaehdolhdjdaaDoor


namespace Go.Proofs.YtdpaehdolhdjdaaDoor
open Go Go.IW

/-! Rows of numbers. -/
def intRows (zs : List Int) : List (List IV) := zs.map fun a => [.int .i64 a]
/-! When a reply is well. -/
def okAddr (a : Int) : Bool := decide (0 ≤ a) && decide (a ≤ 4294967295)
def okRep (id code ttl : Int) (nm : List UInt8) (zs : List Int) : Bool :=
  (decide (0 ≤ id) && decide (id ≤ 65535)) && okName nm && (decide (0 ≤ code) && decide (code ≤ 255)) && (decide (0 ≤ ttl) && decide (ttl ≤ 86400)) && decide (zs.length ≤ 8) && zs.all okAddr

end Go.Proofs.YtdpaehdolhdjdaaDoor


namespace Go.Proofs.YtdpaehdolhdjdaaDoor
open Go Go.IW

end Go.Proofs.YtdpaehdolhdjdaaDoor


namespace Go.Proofs.YtdpaehdolhdjdaaDoor
open Go Go.IW

end Go.Proofs.YtdpaehdolhdjdaaDoor


namespace Go.Proofs.YtdpaehdolhdjdaaDoor
open Go Go.IW

end Go.Proofs.YtdpaehdolhdjdaaDoor


namespace Go.Proofs.YtdpaehdolhdjdaaDoor
open Go Go.IW

end Go.Proofs.YtdpaehdolhdjdaaDoor


namespace Go.Proofs.YtdpaehdolhdjdaaDoor
open Go Go.IW

end Go.Proofs.YtdpaehdolhdjdaaDoor


namespace Go.Proofs.YtdpaehdolhdjdaaDoor
open Go Go.IW

structure RepV where
  id : Int
  code : Int
  ttl : Int
  nm : List UInt8
  zs : List Int
def RepV.zero : RepV := ⟨0, 0, 0, [], []⟩
def RepV.ok (x : RepV) : Bool := okRep x.id x.code x.ttl x.nm x.zs
end Go.Proofs.YtdpaehdolhdjdaaDoor


namespace Go.Proofs.YtdpaehdolhdjdaaDoor
open Go Go.IW

/-! Pieces that are taken one behind another: what is left, and the piece, by the place. -/
def restD (bs : List UInt8) (n : Nat) : List UInt8 × Bool := if bs.length < n then ([], true) else (bs.drop n, false)
def AtB (h : IH) (p : Nat) (bs : List UInt8) (n : Nat) : Prop := BitesAt h p (restD bs n).1 (restD bs n).2
theorem AtB.ext {h h' : IH} {p n : Nat} {bs : List UInt8} (b : AtB h p bs n) (e : Ext h h') : AtB h' p bs n := BitesAt.ext b e
theorem AtB.turn {lo hi : Nat} {h h' : IH} {p n el sz : Nat} {bs : List UInt8} {w : IV} {rs : List (List IV)} (b : AtB h p bs n) (hw : Own lo hi h el sz w rs) (hd : p < lo) (t : Turn w h h') : AtB h' p bs n := BitesAt.turn b hw hd t
theorem AtB.zero {h : IH} {p : Nat} {bs : List UInt8} (b : BitesAt h p bs false) : AtB h p bs 0 := by
  have : restD bs 0 = (bs, false) := by unfold restD; rw [if_neg (by omega)]; rfl
  unfold AtB
  rw [this]; exact b

end Go.Proofs.YtdpaehdolhdjdaaDoor


namespace Go.Proofs.YtdpaehdolhdjdaaDoor
open Go Go.IW

end Go.Proofs.YtdpaehdolhdjdaaDoor


namespace Go.Proofs.YtdpaehdolhdjdaaDoor
open Go Go.IW

end Go.Proofs.YtdpaehdolhdjdaaDoor


namespace Go.Proofs.YtdpaehdolhdjdaaDoor
open Go Go.IW

structure Ent where
  nm : List UInt8
  addr : Int
  ttl : Int
def Ent.row (e : Ent) : List IV := [.str e.nm, .int .i64 e.addr, .int .i64 e.ttl]
end Go.Proofs.YtdpaehdolhdjdaaDoor


namespace Go.Proofs.YtdpaehdolhdjdaaDoor
open Go Go.IW

end Go.Proofs.YtdpaehdolhdjdaaDoor


namespace Go.Proofs.YtdpaehdolhdjdaaDoor
open Go Go.IW

/-- The state of an answer that is being made. -/
structure AnsAt (h g : IH) (pq pr : Nat) (id : Int) (qn : List UInt8) (st : Int × Int × List Int) : Prop where
  ext : Ext h g
  q : At g pq (.rows [[.int .i64 id, .str qn]] 46 2 false)
  r : ∃ v lo hi, At g pr (.rows [[.int .i64 id, .int .i64 st.1, .int .i64 st.2.1, .str qn, v]] 54 5 false) ∧ Own lo hi g 2 1 v (intRows st.2.2) ∧ pr < lo ∧ hi ≤ g.n

end Go.Proofs.YtdpaehdolhdjdaaDoor


namespace Go.Proofs.YtdpaehdolhdjdaaDoor
open Go Go.IW

end Go.Proofs.YtdpaehdolhdjdaaDoor


namespace Go.Proofs.YtdpaehdolhdjdaaDoor
open Go Go.IW

end Go.Proofs.YtdpaehdolhdjdaaDoor

namespace Go.Proofs.YtdpaehdolhdjdaaDoor
open Go Go.IW
/-- loop.example/g00003/spec.l02Dec -/
def c100 : CC :=
 (.seq (.reg [
   ⟨(some 2), none, .f (.mv (.c (.str [])))⟩])
 (.seq (.seq (.reg [
   ⟨(some 3), none, .f (.mv (.t 0))⟩,
   ⟨(some 4), none, .f (.bin .lss (.t 3) (.c (.int .i64 10)))⟩])
 (.cond (.t 4)
  (.seq (.reg [
    ⟨(some 5), none, .f (.mv (.t 0))⟩,
    ⟨(some 6), none, .f (.bin .add (.c (.int .i64 48)) (.t 5))⟩,
    ⟨(some 7), none, .f (.cvI .u8 (.t 6))⟩,
    ⟨(some 8), none, .x (.bslice 5 1 [(.int .u8 0)] 1 [(0, (.t 7))])⟩,
    ⟨(some 9), none, .f (.b2s (.t 8))⟩,
    ⟨(some 2), none, .f (.mv (.t 9))⟩])
  .ret)
  .skip))
 (.seq (.treg [
   ⟨(some 10), none, .f (.mv (.t 0))⟩,
   ⟨(some 11), none, .f (.bin .quo (.t 10) (.c (.int .i64 10)))⟩,
   ⟨(some 12), none, .x (.call 100 [(.t 11)])⟩,
   ⟨(some 13), none, .f (.mv (.t 0))⟩,
   ⟨(some 14), none, .f (.bin .rem (.t 13) (.c (.int .i64 10)))⟩,
   ⟨(some 15), none, .f (.bin .add (.c (.int .i64 48)) (.t 14))⟩,
   ⟨(some 16), none, .f (.cvI .u8 (.t 15))⟩,
   ⟨(some 17), none, .x (.bslice 5 1 [(.int .u8 0)] 1 [(0, (.t 16))])⟩,
   ⟨(some 18), none, .f (.b2s (.t 17))⟩,
   ⟨(some 19), none, .f (.bin .add (.t 12) (.t 18))⟩,
   ⟨(some 2), none, .f (.mv (.t 19))⟩]
   [[], [0], [1, 0], [], [3], [4, 3], [5, 4, 3], [6, 5, 4, 3], [7, 6, 5, 4, 3], [2, 1, 0, 8, 7, 6, 5, 4, 3], [9, 2, 1, 0, 8, 7, 6, 5, 4, 3]] (.fl 0 (.fl 1 (.fl 3 (.fl 4 (.fl 5 (.fl 6 (.br 2 (.br 7 (.fl 8 (.fl 9 (.fl 10 .fin))) .stop) (.br 7 (.fl 8 (.br 2 (.fl 9 (.fl 10 .fin)) .stop)) .stop)))))))))
 .ret)))
theorem ok100 : fnComp Tryd.prog 100 = some (20, c100, [(.mv (.t 2))]) := by kernel_rfl

/-- loop.example/g00003/spec.l20FieldOK -/
def c147 : CC :=
 (.seq (.reg [
   ⟨(some 1), none, .x (.box 163 2 (.t 0))⟩,
   ⟨(some 2), none, .f (.mv (.c (.bool false)))⟩])
 (.seq (.seq (.reg [
   ⟨(some 5), none, .f (.fadr 0 (.t 1))⟩,
   ⟨(some 6), none, .f (.ld (.t 5))⟩,
   ⟨(some 7), none, .f (.lenS (.t 6))⟩,
   ⟨(some 8), none, .f (.bin .lss (.t 7) (.c (.int .i64 1)))⟩,
   ⟨(some 9), none, .f (.mv (.t 8))⟩,
   ⟨(some 10), (some (9, false)), .f (.fadr 0 (.t 1))⟩,
   ⟨(some 11), (some (9, false)), .f (.ld (.t 10))⟩,
   ⟨(some 12), (some (9, false)), .f (.lenS (.t 11))⟩,
   ⟨(some 13), (some (9, false)), .f (.bin .gtr (.t 12) (.c (.int .i64 40)))⟩,
   ⟨(some 14), none, .f (.pick (.t 9) (.c (.bool true)) (.t 13))⟩,
   ⟨(some 15), none, .f (.mv (.t 14))⟩,
   ⟨(some 16), (some (15, false)), .f (.fadr 0 (.t 1))⟩,
   ⟨(some 17), (some (15, false)), .f (.ld (.t 16))⟩,
   ⟨(some 18), (some (15, false)), .f (.bin .eql (.t 17) (.c (.str [108, 101, 110, 103, 116, 104])))⟩,
   ⟨(some 19), none, .f (.pick (.t 15) (.c (.bool true)) (.t 18))⟩,
   ⟨(some 20), none, .f (.mv (.t 19))⟩,
   ⟨(some 21), (some (20, false)), .f (.fadr 1 (.t 1))⟩,
   ⟨(some 22), (some (20, false)), .f (.ld (.t 21))⟩,
   ⟨(some 23), (some (20, false)), .f (.lenS (.t 22))⟩,
   ⟨(some 24), (some (20, false)), .f (.bin .gtr (.t 23) (.c (.int .i64 200)))⟩,
   ⟨(some 25), none, .f (.pick (.t 20) (.c (.bool true)) (.t 24))⟩])
 (.cond (.t 25)
  (.seq (.reg [
    ⟨(some 2), none, .f (.mv (.c (.bool false)))⟩])
  .ret)
  .skip))
 (.seq (.seq (.reg [
   ⟨(some 3), none, .f (.mv (.c (.int .i64 0)))⟩])
 (.block 0 (.loop (.seq (.seq (.reg [
     ⟨(some 26), none, .f (.mv (.t 3))⟩,
     ⟨(some 27), none, .f (.fadr 0 (.t 1))⟩,
     ⟨(some 28), none, .f (.ld (.t 27))⟩,
     ⟨(some 29), none, .f (.lenS (.t 28))⟩,
     ⟨(some 30), none, .f (.bin .lss (.t 26) (.t 29))⟩])
   (.cond (.t 30)
    .skip
    (.exit 0)))
   (.seq (.block 1 (.seq (.reg [
      ⟨(some 33), none, .f (.fadr 0 (.t 1))⟩,
      ⟨(some 34), none, .f (.ld (.t 33))⟩,
      ⟨(some 35), none, .f (.mv (.t 3))⟩,
      ⟨(some 36), none, .f (.idxS (.t 34) (.t 35))⟩,
      ⟨(some 37), none, .f (.bin .lss (.t 36) (.c (.int .u8 97)))⟩,
      ⟨(some 38), none, .f (.mv (.t 37))⟩,
      ⟨(some 39), (some (38, false)), .f (.fadr 0 (.t 1))⟩,
      ⟨(some 40), (some (38, false)), .f (.ld (.t 39))⟩,
      ⟨(some 41), (some (38, false)), .f (.mv (.t 3))⟩,
      ⟨(some 42), (some (38, false)), .f (.idxS (.t 40) (.t 41))⟩,
      ⟨(some 43), (some (38, false)), .f (.bin .gtr (.t 42) (.c (.int .u8 122)))⟩,
      ⟨(some 44), none, .f (.pick (.t 38) (.c (.bool true)) (.t 43))⟩,
      ⟨(some 45), none, .f (.mv (.t 44))⟩,
      ⟨(some 46), (some (45, true)), .f (.fadr 0 (.t 1))⟩,
      ⟨(some 47), (some (45, true)), .f (.ld (.t 46))⟩,
      ⟨(some 48), (some (45, true)), .f (.mv (.t 3))⟩,
      ⟨(some 49), (some (45, true)), .f (.idxS (.t 47) (.t 48))⟩,
      ⟨(some 50), (some (45, true)), .f (.bin .neq (.t 49) (.c (.int .u8 45)))⟩,
      ⟨(some 51), none, .f (.pick (.t 45) (.t 50) (.c (.bool false)))⟩])
    (.cond (.t 51)
     (.seq (.reg [
       ⟨(some 2), none, .f (.mv (.c (.bool false)))⟩])
     .ret)
     .skip)))
   (.reg [
     ⟨(some 31), none, .f (.mv (.t 3))⟩,
     ⟨(some 32), none, .f (.bin .add (.t 31) (.c (.int .i64 1)))⟩,
     ⟨(some 3), none, .f (.mv (.t 32))⟩]))))))
 (.seq (.seq (.reg [
   ⟨(some 4), none, .f (.mv (.c (.int .i64 0)))⟩])
 (.block 2 (.loop (.seq (.seq (.reg [
     ⟨(some 52), none, .f (.mv (.t 4))⟩,
     ⟨(some 53), none, .f (.fadr 1 (.t 1))⟩,
     ⟨(some 54), none, .f (.ld (.t 53))⟩,
     ⟨(some 55), none, .f (.lenS (.t 54))⟩,
     ⟨(some 56), none, .f (.bin .lss (.t 52) (.t 55))⟩])
   (.cond (.t 56)
    .skip
    (.exit 2)))
   (.seq (.block 3 (.seq (.reg [
      ⟨(some 59), none, .f (.fadr 1 (.t 1))⟩,
      ⟨(some 60), none, .f (.ld (.t 59))⟩,
      ⟨(some 61), none, .f (.mv (.t 4))⟩,
      ⟨(some 62), none, .f (.idxS (.t 60) (.t 61))⟩,
      ⟨(some 63), none, .f (.bin .lss (.t 62) (.c (.int .u8 32)))⟩,
      ⟨(some 64), none, .f (.mv (.t 63))⟩,
      ⟨(some 65), (some (64, false)), .f (.fadr 1 (.t 1))⟩,
      ⟨(some 66), (some (64, false)), .f (.ld (.t 65))⟩,
      ⟨(some 67), (some (64, false)), .f (.mv (.t 4))⟩,
      ⟨(some 68), (some (64, false)), .f (.idxS (.t 66) (.t 67))⟩,
      ⟨(some 69), (some (64, false)), .f (.bin .gtr (.t 68) (.c (.int .u8 126)))⟩,
      ⟨(some 70), none, .f (.pick (.t 64) (.c (.bool true)) (.t 69))⟩])
    (.cond (.t 70)
     (.seq (.reg [
       ⟨(some 2), none, .f (.mv (.c (.bool false)))⟩])
     .ret)
     .skip)))
   (.reg [
     ⟨(some 57), none, .f (.mv (.t 4))⟩,
     ⟨(some 58), none, .f (.bin .add (.t 57) (.c (.int .i64 1)))⟩,
     ⟨(some 4), none, .f (.mv (.t 58))⟩]))))))
 (.seq (.reg [
   ⟨(some 71), none, .f (.fadr 1 (.t 1))⟩,
   ⟨(some 72), none, .f (.ld (.t 71))⟩,
   ⟨(some 73), none, .f (.bin .eql (.t 72) (.c (.str [])))⟩,
   ⟨(some 74), none, .f (.mv (.t 73))⟩,
   ⟨(some 75), (some (74, false)), .f (.fadr 1 (.t 1))⟩,
   ⟨(some 76), (some (74, false)), .f (.ld (.t 75))⟩,
   ⟨(some 77), (some (74, false)), .f (.idxS (.t 76) (.c (.int .i64 0)))⟩,
   ⟨(some 78), (some (74, false)), .f (.bin .neq (.t 77) (.c (.int .u8 32)))⟩,
   ⟨(some 79), (some (74, false)), .f (.mv (.t 78))⟩,
   ⟨(some 80), (some (79, true)), .f (.fadr 1 (.t 1))⟩,
   ⟨(some 81), (some (79, true)), .f (.ld (.t 80))⟩,
   ⟨(some 82), (some (79, true)), .f (.fadr 1 (.t 1))⟩,
   ⟨(some 83), (some (79, true)), .f (.ld (.t 82))⟩,
   ⟨(some 84), (some (79, true)), .f (.lenS (.t 83))⟩,
   ⟨(some 85), (some (79, true)), .f (.bin .sub (.t 84) (.c (.int .i64 1)))⟩,
   ⟨(some 86), (some (79, true)), .f (.idxS (.t 81) (.t 85))⟩,
   ⟨(some 87), (some (79, true)), .f (.bin .neq (.t 86) (.c (.int .u8 32)))⟩,
   ⟨(some 88), (some (74, false)), .f (.pick (.t 79) (.t 87) (.c (.bool false)))⟩,
   ⟨(some 89), none, .f (.pick (.t 74) (.c (.bool true)) (.t 88))⟩,
   ⟨(some 2), none, .f (.mv (.t 89))⟩])
 .ret)))))
theorem ok147 : fnComp Tryd.prog 147 = some (90, c147, [(.mv (.t 2))]) := by kernel_rfl

/-- loop.example/g00003/spec.l20PathOK -/
def c149 : CC :=
 (.seq (.reg [
   ⟨(some 2), none, .f (.mv (.c (.bool false)))⟩])
 (.seq (.seq (.reg [
   ⟨(some 4), none, .f (.mv (.t 0))⟩,
   ⟨(some 5), none, .f (.lenS (.t 4))⟩,
   ⟨(some 6), none, .f (.bin .lss (.t 5) (.c (.int .i64 1)))⟩,
   ⟨(some 7), none, .f (.mv (.t 6))⟩,
   ⟨(some 8), (some (7, false)), .f (.mv (.t 0))⟩,
   ⟨(some 9), (some (7, false)), .f (.lenS (.t 8))⟩,
   ⟨(some 10), (some (7, false)), .f (.bin .gtr (.t 9) (.c (.int .i64 200)))⟩,
   ⟨(some 11), none, .f (.pick (.t 7) (.c (.bool true)) (.t 10))⟩,
   ⟨(some 12), none, .f (.mv (.t 11))⟩,
   ⟨(some 13), (some (12, false)), .f (.mv (.t 0))⟩,
   ⟨(some 14), (some (12, false)), .f (.idxS (.t 13) (.c (.int .i64 0)))⟩,
   ⟨(some 15), (some (12, false)), .f (.bin .neq (.t 14) (.c (.int .u8 47)))⟩,
   ⟨(some 16), none, .f (.pick (.t 12) (.c (.bool true)) (.t 15))⟩])
 (.cond (.t 16)
  (.seq (.reg [
    ⟨(some 2), none, .f (.mv (.c (.bool false)))⟩])
  .ret)
  .skip))
 (.seq (.seq (.reg [
   ⟨(some 3), none, .f (.mv (.c (.int .i64 0)))⟩])
 (.block 0 (.loop (.seq (.seq (.reg [
     ⟨(some 17), none, .f (.mv (.t 3))⟩,
     ⟨(some 18), none, .f (.mv (.t 0))⟩,
     ⟨(some 19), none, .f (.lenS (.t 18))⟩,
     ⟨(some 20), none, .f (.bin .lss (.t 17) (.t 19))⟩])
   (.cond (.t 20)
    .skip
    (.exit 0)))
   (.seq (.block 1 (.seq (.reg [
      ⟨(some 23), none, .f (.mv (.t 0))⟩,
      ⟨(some 24), none, .f (.mv (.t 3))⟩,
      ⟨(some 25), none, .f (.idxS (.t 23) (.t 24))⟩,
      ⟨(some 26), none, .x (.call 165 [(.t 25)])⟩,
      ⟨(some 27), none, .f (.un .not (.t 26))⟩,
      ⟨(some 28), none, .f (.mv (.t 27))⟩,
      ⟨(some 29), (some (28, false)), .f (.mv (.t 0))⟩,
      ⟨(some 30), (some (28, false)), .f (.mv (.t 3))⟩,
      ⟨(some 31), (some (28, false)), .f (.idxS (.t 29) (.t 30))⟩,
      ⟨(some 32), (some (28, false)), .f (.bin .eql (.t 31) (.c (.int .u8 58)))⟩,
      ⟨(some 33), none, .f (.pick (.t 28) (.c (.bool true)) (.t 32))⟩])
    (.cond (.t 33)
     (.seq (.reg [
       ⟨(some 2), none, .f (.mv (.c (.bool false)))⟩])
     .ret)
     .skip)))
   (.reg [
     ⟨(some 21), none, .f (.mv (.t 3))⟩,
     ⟨(some 22), none, .f (.bin .add (.t 21) (.c (.int .i64 1)))⟩,
     ⟨(some 3), none, .f (.mv (.t 22))⟩]))))))
 (.seq (.reg [
   ⟨(some 2), none, .f (.mv (.c (.bool true)))⟩])
 .ret))))
theorem ok149 : fnComp Tryd.prog 149 = some (34, c149, [(.mv (.t 2))]) := by kernel_rfl

/-- loop.example/g00003/spec.l20Plain -/
def c165 : CC :=
 (.seq (.reg [
   ⟨(some 2), none, .f (.mv (.c (.bool false)))⟩])
 (.seq (.reg [
   ⟨(some 3), none, .f (.mv (.t 0))⟩,
   ⟨(some 4), none, .f (.bin .geq (.t 3) (.c (.int .u8 97)))⟩,
   ⟨(some 5), none, .f (.mv (.t 4))⟩,
   ⟨(some 6), (some (5, true)), .f (.mv (.t 0))⟩,
   ⟨(some 7), (some (5, true)), .f (.bin .leq (.t 6) (.c (.int .u8 122)))⟩,
   ⟨(some 8), none, .f (.pick (.t 5) (.t 7) (.c (.bool false)))⟩,
   ⟨(some 9), none, .f (.mv (.t 8))⟩,
   ⟨(some 10), (some (9, false)), .f (.mv (.t 0))⟩,
   ⟨(some 11), (some (9, false)), .f (.bin .geq (.t 10) (.c (.int .u8 65)))⟩,
   ⟨(some 12), (some (9, false)), .f (.mv (.t 11))⟩,
   ⟨(some 13), (some (12, true)), .f (.mv (.t 0))⟩,
   ⟨(some 14), (some (12, true)), .f (.bin .leq (.t 13) (.c (.int .u8 90)))⟩,
   ⟨(some 15), (some (9, false)), .f (.pick (.t 12) (.t 14) (.c (.bool false)))⟩,
   ⟨(some 16), none, .f (.pick (.t 9) (.c (.bool true)) (.t 15))⟩,
   ⟨(some 17), none, .f (.mv (.t 16))⟩,
   ⟨(some 18), (some (17, false)), .f (.mv (.t 0))⟩,
   ⟨(some 19), (some (17, false)), .f (.bin .geq (.t 18) (.c (.int .u8 48)))⟩,
   ⟨(some 20), (some (17, false)), .f (.mv (.t 19))⟩,
   ⟨(some 21), (some (20, true)), .f (.mv (.t 0))⟩,
   ⟨(some 22), (some (20, true)), .f (.bin .leq (.t 21) (.c (.int .u8 57)))⟩,
   ⟨(some 23), (some (17, false)), .f (.pick (.t 20) (.t 22) (.c (.bool false)))⟩,
   ⟨(some 24), none, .f (.pick (.t 17) (.c (.bool true)) (.t 23))⟩,
   ⟨(some 25), none, .f (.mv (.t 24))⟩,
   ⟨(some 26), (some (25, false)), .f (.mv (.t 0))⟩,
   ⟨(some 27), (some (25, false)), .f (.bin .eql (.t 26) (.c (.int .u8 46)))⟩,
   ⟨(some 28), none, .f (.pick (.t 25) (.c (.bool true)) (.t 27))⟩,
   ⟨(some 29), none, .f (.mv (.t 28))⟩,
   ⟨(some 30), (some (29, false)), .f (.mv (.t 0))⟩,
   ⟨(some 31), (some (29, false)), .f (.bin .eql (.t 30) (.c (.int .u8 45)))⟩,
   ⟨(some 32), none, .f (.pick (.t 29) (.c (.bool true)) (.t 31))⟩,
   ⟨(some 33), none, .f (.mv (.t 32))⟩,
   ⟨(some 34), (some (33, false)), .f (.mv (.t 0))⟩,
   ⟨(some 35), (some (33, false)), .f (.bin .eql (.t 34) (.c (.int .u8 95)))⟩,
   ⟨(some 36), none, .f (.pick (.t 33) (.c (.bool true)) (.t 35))⟩,
   ⟨(some 37), none, .f (.mv (.t 36))⟩,
   ⟨(some 38), (some (37, false)), .f (.mv (.t 0))⟩,
   ⟨(some 39), (some (37, false)), .f (.bin .eql (.t 38) (.c (.int .u8 47)))⟩,
   ⟨(some 40), none, .f (.pick (.t 37) (.c (.bool true)) (.t 39))⟩,
   ⟨(some 41), none, .f (.mv (.t 40))⟩,
   ⟨(some 42), (some (41, false)), .f (.mv (.t 0))⟩,
   ⟨(some 43), (some (41, false)), .f (.bin .eql (.t 42) (.c (.int .u8 58)))⟩,
   ⟨(some 44), none, .f (.pick (.t 41) (.c (.bool true)) (.t 43))⟩,
   ⟨(some 2), none, .f (.mv (.t 44))⟩])
 .ret))
theorem ok165 : fnComp Tryd.prog 165 = some (45, c165, [(.mv (.t 2))]) := by kernel_rfl

/-- loop.example/g00003/spec.l20VerbOK -/
def c148 : CC :=
 (.seq (.reg [
   ⟨(some 2), none, .f (.mv (.c (.bool false)))⟩])
 (.seq (.reg [
   ⟨(some 3), none, .f (.mv (.t 0))⟩,
   ⟨(some 4), none, .f (.bin .eql (.t 3) (.c (.str [103, 101, 116])))⟩,
   ⟨(some 5), none, .f (.mv (.t 4))⟩,
   ⟨(some 6), (some (5, false)), .f (.mv (.t 0))⟩,
   ⟨(some 7), (some (5, false)), .f (.bin .eql (.t 6) (.c (.str [112, 117, 116])))⟩,
   ⟨(some 8), none, .f (.pick (.t 5) (.c (.bool true)) (.t 7))⟩,
   ⟨(some 9), none, .f (.mv (.t 8))⟩,
   ⟨(some 10), (some (9, false)), .f (.mv (.t 0))⟩,
   ⟨(some 11), (some (9, false)), .f (.bin .eql (.t 10) (.c (.str [100, 101, 108, 101, 116, 101])))⟩,
   ⟨(some 12), none, .f (.pick (.t 9) (.c (.bool true)) (.t 11))⟩,
   ⟨(some 13), none, .f (.mv (.t 12))⟩,
   ⟨(some 14), (some (13, false)), .f (.mv (.t 0))⟩,
   ⟨(some 15), (some (13, false)), .f (.bin .eql (.t 14) (.c (.str [108, 105, 115, 116])))⟩,
   ⟨(some 16), none, .f (.pick (.t 13) (.c (.bool true)) (.t 15))⟩,
   ⟨(some 2), none, .f (.mv (.t 16))⟩])
 .ret))
theorem ok148 : fnComp Tryd.prog 148 = some (17, c148, [(.mv (.t 2))]) := by kernel_rfl

/-- loop.example/g00003/impl.okAnswer -/
def c113 : CC :=
 (.seq (.reg [
   ⟨(some 1), none, .x (.box 81 3 (.t 0))⟩,
   ⟨(some 2), none, .f (.mv (.c (.bool false)))⟩])
 (.seq (.reg [
   ⟨(some 3), none, .f (.fadr 0 (.t 1))⟩,
   ⟨(some 4), none, .f (.ld (.t 3))⟩,
   ⟨(some 5), none, .f (.bin .geq (.t 4) (.c (.int .i64 100)))⟩,
   ⟨(some 6), none, .f (.mv (.t 5))⟩,
   ⟨(some 7), (some (6, true)), .f (.fadr 0 (.t 1))⟩,
   ⟨(some 8), (some (6, true)), .f (.ld (.t 7))⟩,
   ⟨(some 9), (some (6, true)), .f (.bin .leq (.t 8) (.c (.int .i64 999)))⟩,
   ⟨(some 10), none, .f (.pick (.t 6) (.t 9) (.c (.bool false)))⟩,
   ⟨(some 11), none, .f (.mv (.t 10))⟩,
   ⟨(some 12), (some (11, true)), .f (.fadr 1 (.t 1))⟩,
   ⟨(some 13), (some (11, true)), .f (.ld (.t 12))⟩,
   ⟨(some 14), (some (11, true)), .f (.fadr 2 (.t 1))⟩,
   ⟨(some 15), (some (11, true)), .f (.ld (.t 14))⟩,
   ⟨(some 16), (some (11, true)), .x (.call 151 [(.t 13), (.t 15)])⟩,
   ⟨(some 17), none, .f (.pick (.t 11) (.t 16) (.c (.bool false)))⟩,
   ⟨(some 2), none, .f (.mv (.t 17))⟩])
 .ret))
theorem ok113 : fnComp Tryd.prog 113 = some (18, c113, [(.mv (.t 2))]) := by kernel_rfl

/-- loop.example/g00003/impl.okRest -/
def c151 : CC :=
 (.seq (.reg [
   ⟨(some 4), none, .f (.mv (.c (.bool false)))⟩])
 (.seq (.reg [
   ⟨(some 5), none, .f (.mv (.t 0))⟩,
   ⟨(some 6), none, .f (.len (.t 5))⟩,
   ⟨(some 7), none, .f (.bin .leq (.t 6) (.c (.int .i64 16)))⟩,
   ⟨(some 8), none, .f (.mv (.t 7))⟩,
   ⟨(some 9), (some (8, true)), .f (.mv (.t 1))⟩,
   ⟨(some 10), (some (8, true)), .f (.len (.t 9))⟩,
   ⟨(some 11), (some (8, true)), .f (.bin .leq (.t 10) (.c (.int .i64 60000)))⟩,
   ⟨(some 12), none, .f (.pick (.t 8) (.t 11) (.c (.bool false)))⟩,
   ⟨(some 13), none, .f (.mv (.t 12))⟩,
   ⟨(some 14), (some (13, true)), .f (.mv (.t 0))⟩,
   ⟨(some 15), (some (13, true)), .x (.call 170 [(.t 14), (.fn 171)])⟩,
   ⟨(some 16), (some (13, true)), .f (.un .not (.t 15))⟩,
   ⟨(some 17), none, .f (.pick (.t 13) (.t 16) (.c (.bool false)))⟩,
   ⟨(some 4), none, .f (.mv (.t 17))⟩])
 .ret))
theorem ok151 : fnComp Tryd.prog 151 = some (18, c151, [(.mv (.t 4))]) := by kernel_rfl

/-- loop.example/g00003/impl.okRest$1 -/
def c171 : CC :=
 (.seq (.reg [
   ⟨(some 1), none, .x (.box 163 2 (.t 0))⟩,
   ⟨(some 2), none, .f (.mv (.c (.bool false)))⟩])
 (.seq (.reg [
   ⟨(some 3), none, .f (.ldA 2 (.t 1))⟩,
   ⟨(some 4), none, .x (.call 172 [(.t 3)])⟩,
   ⟨(some 5), none, .f (.un .not (.t 4))⟩,
   ⟨(some 2), none, .f (.mv (.t 5))⟩])
 .ret))
theorem ok171 : fnComp Tryd.prog 171 = some (6, c171, [(.mv (.t 2))]) := by kernel_rfl

/-- loop.example/g00003/impl.okField -/
def c172 : CC :=
 (.seq (.reg [
   ⟨(some 1), none, .x (.box 163 2 (.t 0))⟩,
   ⟨(some 2), none, .f (.mv (.c (.bool false)))⟩])
 (.seq (.seq (.reg [
   ⟨(some 7), none, .f (.fadr 0 (.t 1))⟩,
   ⟨(some 8), none, .f (.ld (.t 7))⟩,
   ⟨(some 9), none, .f (.lenS (.t 8))⟩,
   ⟨(some 10), none, .f (.bin .lss (.t 9) (.c (.int .i64 1)))⟩,
   ⟨(some 11), none, .f (.mv (.t 10))⟩,
   ⟨(some 12), (some (11, false)), .f (.fadr 0 (.t 1))⟩,
   ⟨(some 13), (some (11, false)), .f (.ld (.t 12))⟩,
   ⟨(some 14), (some (11, false)), .f (.lenS (.t 13))⟩,
   ⟨(some 15), (some (11, false)), .f (.bin .gtr (.t 14) (.c (.int .i64 40)))⟩,
   ⟨(some 16), none, .f (.pick (.t 11) (.c (.bool true)) (.t 15))⟩,
   ⟨(some 17), none, .f (.mv (.t 16))⟩,
   ⟨(some 18), (some (17, false)), .f (.fadr 0 (.t 1))⟩,
   ⟨(some 19), (some (17, false)), .f (.ld (.t 18))⟩,
   ⟨(some 20), (some (17, false)), .f (.bin .eql (.t 19) (.c (.str [108, 101, 110, 103, 116, 104])))⟩,
   ⟨(some 21), none, .f (.pick (.t 17) (.c (.bool true)) (.t 20))⟩,
   ⟨(some 22), none, .f (.mv (.t 21))⟩,
   ⟨(some 23), (some (22, false)), .f (.fadr 1 (.t 1))⟩,
   ⟨(some 24), (some (22, false)), .f (.ld (.t 23))⟩,
   ⟨(some 25), (some (22, false)), .f (.lenS (.t 24))⟩,
   ⟨(some 26), (some (22, false)), .f (.bin .gtr (.t 25) (.c (.int .i64 200)))⟩,
   ⟨(some 27), none, .f (.pick (.t 22) (.c (.bool true)) (.t 26))⟩])
 (.cond (.t 27)
  (.seq (.reg [
    ⟨(some 2), none, .f (.mv (.c (.bool false)))⟩])
  .ret)
  .skip))
 (.seq (.seq (.reg [
   ⟨(some 28), none, .f (.fadr 0 (.t 1))⟩,
   ⟨(some 29), none, .f (.ld (.t 28))⟩,
   ⟨(some 30), none, .x (.s2b 5 (.t 29))⟩,
   ⟨(some 31), none, .f (.len (.t 30))⟩,
   ⟨(some 32), none, .f (.mv (.c (.int .i64 0)))⟩])
 (.block 0 (.loop (.seq (.reg [
     ⟨(some 33), none, .f (.bin .lss (.t 32) (.t 31))⟩])
   (.seq (.cond (.t 33)
    .skip
    (.exit 0))
   (.seq (.block 1 (.seq (.reg [
      ⟨(some 34), none, .f (.iadr 1 (.t 30) (.t 32))⟩,
      ⟨(some 35), none, .f (.ld (.t 34))⟩,
      ⟨(some 4), none, .f (.mv (.t 35))⟩])
    (.seq (.reg [
      ⟨(some 36), none, .f (.mv (.t 4))⟩,
      ⟨(some 37), none, .f (.bin .geq (.t 36) (.c (.int .u8 97)))⟩,
      ⟨(some 38), none, .f (.mv (.t 37))⟩,
      ⟨(some 39), (some (38, true)), .f (.mv (.t 4))⟩,
      ⟨(some 40), (some (38, true)), .f (.bin .leq (.t 39) (.c (.int .u8 122)))⟩,
      ⟨(some 41), none, .f (.pick (.t 38) (.t 40) (.c (.bool false)))⟩,
      ⟨(some 42), none, .f (.mv (.t 41))⟩,
      ⟨(some 43), (some (42, false)), .f (.mv (.t 4))⟩,
      ⟨(some 44), (some (42, false)), .f (.bin .eql (.t 43) (.c (.int .u8 45)))⟩,
      ⟨(some 45), none, .f (.pick (.t 42) (.c (.bool true)) (.t 44))⟩,
      ⟨(some 46), none, .f (.un .not (.t 45))⟩])
    (.cond (.t 46)
     (.seq (.reg [
       ⟨(some 2), none, .f (.mv (.c (.bool false)))⟩])
     .ret)
     .skip))))
   (.reg [
     ⟨(some 47), none, .f (.bin .add (.t 32) (.c (.int .i64 1)))⟩,
     ⟨(some 32), none, .f (.mv (.t 47))⟩])))))))
 (.seq (.seq (.reg [
   ⟨(some 48), none, .f (.fadr 1 (.t 1))⟩,
   ⟨(some 49), none, .f (.ld (.t 48))⟩,
   ⟨(some 50), none, .x (.s2b 5 (.t 49))⟩,
   ⟨(some 51), none, .f (.len (.t 50))⟩,
   ⟨(some 52), none, .f (.mv (.c (.int .i64 0)))⟩])
 (.block 2 (.loop (.seq (.reg [
     ⟨(some 53), none, .f (.bin .lss (.t 52) (.t 51))⟩])
   (.seq (.cond (.t 53)
    .skip
    (.exit 2))
   (.seq (.block 3 (.seq (.reg [
      ⟨(some 54), none, .f (.iadr 1 (.t 50) (.t 52))⟩,
      ⟨(some 55), none, .f (.ld (.t 54))⟩,
      ⟨(some 6), none, .f (.mv (.t 55))⟩])
    (.seq (.reg [
      ⟨(some 56), none, .f (.mv (.t 6))⟩,
      ⟨(some 57), none, .f (.bin .lss (.t 56) (.c (.int .u8 32)))⟩,
      ⟨(some 58), none, .f (.mv (.t 57))⟩,
      ⟨(some 59), (some (58, false)), .f (.mv (.t 6))⟩,
      ⟨(some 60), (some (58, false)), .f (.bin .gtr (.t 59) (.c (.int .u8 126)))⟩,
      ⟨(some 61), none, .f (.pick (.t 58) (.c (.bool true)) (.t 60))⟩])
    (.cond (.t 61)
     (.seq (.reg [
       ⟨(some 2), none, .f (.mv (.c (.bool false)))⟩])
     .ret)
     .skip))))
   (.reg [
     ⟨(some 62), none, .f (.bin .add (.t 52) (.c (.int .i64 1)))⟩,
     ⟨(some 52), none, .f (.mv (.t 62))⟩])))))))
 (.seq (.dreg [
   ⟨(some 63), none, .f (.fadr 1 (.t 1))⟩,
   ⟨(some 64), none, .f (.ld (.t 63))⟩,
   ⟨(some 65), none, .f (.fadr 1 (.t 1))⟩,
   ⟨(some 66), none, .f (.ld (.t 65))⟩,
   ⟨(some 67), none, .x (.call 188 [(.t 66), (.c (.str [32]))])⟩,
   ⟨(some 68), none, .f (.bin .eql (.t 64) (.t 67))⟩,
   ⟨(some 2), none, .f (.mv (.t 68))⟩]
   [false, false, false, false, true, false, false] [[], [0], [], [2], [3, 2], [1, 0, 4, 3, 2], [5, 1, 0, 4, 3, 2]] [0, 1, 2, 3, 4, 5, 6])
 .ret)))))
theorem ok172 : fnComp Tryd.prog 172 = some (69, c172, [(.mv (.t 2))]) := by kernel_rfl

/-- slices.ContainsFunc[[]loop.example/g00003/impl.Field,loop.example/g00003/impl.Field] -/
def c170 : CC :=
 (.seq (.reg [
   ⟨(some 4), none, .f (.mv (.c (.bool false)))⟩])
 (.seq (.reg [
   ⟨(some 5), none, .f (.mv (.t 0))⟩,
   ⟨(some 6), none, .f (.mv (.t 1))⟩,
   ⟨(some 7), none, .x (.call 187 [(.t 5), (.t 6)])⟩,
   ⟨(some 8), none, .f (.bin .geq (.t 7) (.c (.int .i64 0)))⟩,
   ⟨(some 4), none, .f (.mv (.t 8))⟩])
 .ret))
theorem ok170 : fnComp Tryd.prog 170 = some (9, c170, [(.mv (.t 4))]) := by kernel_rfl

/-- slices.IndexFunc[[]loop.example/g00003/impl.Field,loop.example/g00003/impl.Field] -/
def c187 : CC :=
 (.seq (.reg [
   ⟨(some 4), none, .f (.mv (.c (.int .i64 0)))⟩])
 (.seq (.seq (.reg [
   ⟨(some 6), none, .f (.mv (.t 0))⟩,
   ⟨(some 7), none, .f (.len (.t 6))⟩,
   ⟨(some 8), none, .f (.mv (.c (.int .i64 0)))⟩])
 (.block 0 (.loop (.seq (.reg [
     ⟨(some 9), none, .f (.bin .lss (.t 8) (.t 7))⟩])
   (.seq (.cond (.t 9)
    .skip
    (.exit 0))
   (.seq (.block 1 (.seq (.reg [
      ⟨(some 10), none, .f (.mv (.t 8))⟩,
      ⟨(some 5), none, .f (.mv (.t 10))⟩])
    (.seq (.reg [
      ⟨(some 11), none, .f (.mv (.t 1))⟩,
      ⟨(some 12), none, .f (.mv (.t 0))⟩,
      ⟨(some 13), none, .f (.mv (.t 5))⟩,
      ⟨(some 14), none, .f (.iadr 2 (.t 12) (.t 13))⟩,
      ⟨(some 15), none, .f (.ldA 2 (.t 14))⟩,
      ⟨(some 16), none, .x (.callv (.t 11) [(.t 15)])⟩])
    (.cond (.t 16)
     (.seq (.reg [
       ⟨(some 17), none, .f (.mv (.t 5))⟩,
       ⟨(some 4), none, .f (.mv (.t 17))⟩])
     .ret)
     .skip))))
   (.reg [
     ⟨(some 18), none, .f (.bin .add (.t 8) (.c (.int .i64 1)))⟩,
     ⟨(some 8), none, .f (.mv (.t 18))⟩])))))))
 (.seq (.reg [
   ⟨(some 4), none, .f (.mv (.c (.int .i64 (-1))))⟩])
 .ret)))
theorem ok187 : fnComp Tryd.prog 187 = some (19, c187, [(.mv (.t 4))]) := by kernel_rfl

end Go.Proofs.YtdpaehdolhdjdaaDoor

namespace Go.Proofs
open Go.Shelf
def Tryd.lays160_ren : Go.Shelf.Ren := ⟨fun | 160 => 188 | 232 => 197 | 231 => 196 | 227 => 198 | 234 => 200 | 233 => 199 | 236 => 202 | 235 => 201 | 228 => 205 | 271 => 207 | 151 => 206 | 197 => 175 | 120 => 208 | 152 => 64 | 260 => 189 | 137 => 120 | 119 => 121 | 224 => 122 | 225 => 123 | 217 => 160 | 266 => 178 | n => n, fun | 9 => 9 | 4 => 4 | 3 => 3 | 5 => 5 | 117 => 224 | 116 => 223 | 0 => 0 | 124 => 227 | 21 => 21 | 105 => 201 | 46 => 171 | 119 => 228 | 139 => 231 | 138 => 230 | n => n, fun | 3 => 3 | 4 => 4 | n => n⟩
theorem Tryd.lays160 : Go.Proofs.Lays.n160 Tryd.prog Tryd.lays160_ren := {
  mixed := by kernel_rfl
  f119 := Tryd.func121.trans (congrArg some (by kernel_rfl))
  f120 := Tryd.func208.trans (congrArg some (by kernel_rfl))
  f137 := Tryd.func120.trans (congrArg some (by kernel_rfl))
  f151 := Tryd.func206.trans (congrArg some (by kernel_rfl))
  f152 := Tryd.func64.trans (congrArg some (by kernel_rfl))
  f160 := Tryd.func188.trans (congrArg some (by kernel_rfl))
  f197 := Tryd.func175.trans (congrArg some (by kernel_rfl))
  f217 := Tryd.func160.trans (congrArg some (by kernel_rfl))
  f224 := Tryd.func122.trans (congrArg some (by kernel_rfl))
  f225 := Tryd.func123.trans (congrArg some (by kernel_rfl))
  f227 := Tryd.func198.trans (congrArg some (by kernel_rfl))
  f228 := Tryd.func205.trans (congrArg some (by kernel_rfl))
  f231 := Tryd.func196.trans (congrArg some (by kernel_rfl))
  f232 := Tryd.func197.trans (congrArg some (by kernel_rfl))
  f233 := Tryd.func199.trans (congrArg some (by kernel_rfl))
  f234 := Tryd.func200.trans (congrArg some (by kernel_rfl))
  f235 := Tryd.func201.trans (congrArg some (by kernel_rfl))
  f236 := Tryd.func202.trans (congrArg some (by kernel_rfl))
  f260 := Tryd.func189.trans (congrArg some (by kernel_rfl))
  f266 := Tryd.func178.trans (congrArg some (by kernel_rfl))
  f271 := Tryd.func207.trans (congrArg some (by kernel_rfl))
  t0 := Tryd.underlying0
  a0 := Tryd.isAgg0
  z0 := Tryd.sizeOf0
  v0 := Tryd.zeroValue0
  t3 := Tryd.underlying3
  a3 := Tryd.isAgg3
  z3 := Tryd.sizeOf3
  v3 := Tryd.zeroValue3
  t4 := Tryd.underlying4
  a4 := Tryd.isAgg4
  z4 := Tryd.sizeOf4
  v4 := Tryd.zeroValue4
  t5 := Tryd.underlying5
  a5 := Tryd.isAgg5
  z5 := Tryd.sizeOf5
  v5 := Tryd.zeroValue5
  t9 := Tryd.underlying9
  a9 := Tryd.isAgg9
  z9 := Tryd.sizeOf9
  v9 := Tryd.zeroValue9
  t21 := Tryd.underlying21
  a21 := Tryd.isAgg21
  z21 := Tryd.sizeOf21
  v21 := Tryd.zeroValue21
  t46 := Tryd.underlying171
  a46 := Tryd.isAgg171
  z46 := Tryd.sizeOf171
  v46 := Tryd.zeroValue171
  t105 := Tryd.underlying201
  a105 := Tryd.isAgg201
  z105 := Tryd.sizeOf201
  v105 := Tryd.zeroValue201
  t116 := Tryd.underlying223
  a116 := Tryd.isAgg223
  z116 := Tryd.sizeOf223
  t117 := Tryd.underlying224
  a117 := Tryd.isAgg224
  z117 := Tryd.sizeOf224
  v117 := Tryd.zeroValue224
  t119 := Tryd.underlying228
  a119 := Tryd.isAgg228
  z119 := Tryd.sizeOf228
  t124 := Tryd.underlying227
  a124 := Tryd.isAgg227
  z124 := Tryd.sizeOf227
  v124 := Tryd.zeroValue227
  t138 := Tryd.underlying230
  a138 := Tryd.isAgg230
  z138 := Tryd.sizeOf230
  v138 := Tryd.zeroValue230
  t139 := Tryd.underlying231
  a139 := Tryd.isAgg231
  z139 := Tryd.sizeOf231
  v139 := Tryd.zeroValue231
  g3 := by kernel_rfl
  g4 := by kernel_rfl }
open Go.RowKit in
theorem Tryd.strings_Trim_one (s : ByteArray) (c : UInt8) (hc : c.toNat < 128) (w : World) (hs : s.size ≤ 9223372036854775807) :
    Calls Tryd.prog 188 #[.string s, .string ⟨#[c]⟩] w fun e w' => e = .returned (.string ⟨(Lib.trimB s.data.toList c).toArray⟩) ∧ (w' = w ∨ w' = w.drew) := Any.strings_Trim_one Tryd.lays160 s c hc w hs
end Go.Proofs


namespace Go.Proofs.YtdpaehdolhdjdaaDoor
open Go Go.IW

/-- A byte that is written as it is. -/
def plainB (b : UInt8) : Bool := (decide (97 ≤ (b.toNat : Int)) && decide ((b.toNat : Int) ≤ 122)) || (decide (65 ≤ (b.toNat : Int)) && decide ((b.toNat : Int) ≤ 90)) || (decide (48 ≤ (b.toNat : Int)) && decide ((b.toNat : Int) ≤ 57)) || decide ((b.toNat : Int) = 46) || decide ((b.toNat : Int) = 45) || decide ((b.toNat : Int) = 95) || decide ((b.toNat : Int) = 47) || decide ((b.toNat : Int) = 58)
def hexS : List UInt8 := [48, 49, 50, 51, 52, 53, 54, 55, 56, 57, 97, 98, 99, 100, 101, 102]
def hexD (k : Nat) : UInt8 := hexS.getD k 0
def hex2 (b : UInt8) : List UInt8 := [hexD (b.toNat / 16), hexD (b.toNat % 16)]
set_option maxRecDepth 20000 in
theorem l20Plain_c (h : IH) (b : UInt8) : ICalls Tryd.prog 165 [.int .u8 b.toNat] h fun r h' => r = .bool (plainB b) ∧ h' = h := by
  refine icalls (.of ok165) (Nat.le_of_ble_eq_true rfl) ?_
  unfold c165 plainB
  cases d0 : decide (97 ≤ (b.toNat : Int))
  · skip
    cases d1 : decide (65 ≤ (b.toNat : Int))
    · skip
      cases d2 : decide (48 ≤ (b.toNat : Int))
      · skip
        cases d3 : decide ((b.toNat : Int) = 46)
        · skip
          cases d4 : decide ((b.toNat : Int) = 45)
          · skip
            cases d5 : decide ((b.toNat : Int) = 95)
            · skip
              cases d6 : decide ((b.toNat : Int) = 47)
              · skip
                cases d7 : decide ((b.toNat : Int) = 58)
                · skip
                  simp only [d0, d1, d2, d3, d4, d5, d6, d7, Bool.true_and, Bool.false_and, Bool.and_true, Bool.and_false, Bool.true_or, Bool.false_or, Bool.or_true, Bool.or_false, go_sem, Hold.p, HoldK.k, HoldL.K, HoldL.body, Nat.reduceBEq, Nat.reduceAdd, List.getElem?_cons_zero, List.getElem?_cons_succ, Option.bind_some, List.map_cons, List.map_nil, Nat.zero_add, if_true, List.getD_cons_zero, List.getD_cons_succ, List.contains_cons, List.contains_nil, Nat.reduceBEq, Bool.or_true, Bool.true_or, Bool.or_false, Bool.false_or, Bool.not_true, Bool.not_false, true_and, and_true]
                · skip
                  simp only [d0, d1, d2, d3, d4, d5, d6, d7, Bool.true_and, Bool.false_and, Bool.and_true, Bool.and_false, Bool.true_or, Bool.false_or, Bool.or_true, Bool.or_false, go_sem, Hold.p, HoldK.k, HoldL.K, HoldL.body, Nat.reduceBEq, Nat.reduceAdd, List.getElem?_cons_zero, List.getElem?_cons_succ, Option.bind_some, List.map_cons, List.map_nil, Nat.zero_add, if_true, List.getD_cons_zero, List.getD_cons_succ, List.contains_cons, List.contains_nil, Nat.reduceBEq, Bool.or_true, Bool.true_or, Bool.or_false, Bool.false_or, Bool.not_true, Bool.not_false, true_and, and_true]
              · skip
                simp only [d0, d1, d2, d3, d4, d5, d6, Bool.true_and, Bool.false_and, Bool.and_true, Bool.and_false, Bool.true_or, Bool.false_or, Bool.or_true, Bool.or_false, go_sem, Hold.p, HoldK.k, HoldL.K, HoldL.body, Nat.reduceBEq, Nat.reduceAdd, List.getElem?_cons_zero, List.getElem?_cons_succ, Option.bind_some, List.map_cons, List.map_nil, Nat.zero_add, if_true, List.getD_cons_zero, List.getD_cons_succ, List.contains_cons, List.contains_nil, Nat.reduceBEq, Bool.or_true, Bool.true_or, Bool.or_false, Bool.false_or, Bool.not_true, Bool.not_false, true_and, and_true]
            · skip
              simp only [d0, d1, d2, d3, d4, d5, Bool.true_and, Bool.false_and, Bool.and_true, Bool.and_false, Bool.true_or, Bool.false_or, Bool.or_true, Bool.or_false, go_sem, Hold.p, HoldK.k, HoldL.K, HoldL.body, Nat.reduceBEq, Nat.reduceAdd, List.getElem?_cons_zero, List.getElem?_cons_succ, Option.bind_some, List.map_cons, List.map_nil, Nat.zero_add, if_true, List.getD_cons_zero, List.getD_cons_succ, List.contains_cons, List.contains_nil, Nat.reduceBEq, Bool.or_true, Bool.true_or, Bool.or_false, Bool.false_or, Bool.not_true, Bool.not_false, true_and, and_true]
          · skip
            simp only [d0, d1, d2, d3, d4, Bool.true_and, Bool.false_and, Bool.and_true, Bool.and_false, Bool.true_or, Bool.false_or, Bool.or_true, Bool.or_false, go_sem, Hold.p, HoldK.k, HoldL.K, HoldL.body, Nat.reduceBEq, Nat.reduceAdd, List.getElem?_cons_zero, List.getElem?_cons_succ, Option.bind_some, List.map_cons, List.map_nil, Nat.zero_add, if_true, List.getD_cons_zero, List.getD_cons_succ, List.contains_cons, List.contains_nil, Nat.reduceBEq, Bool.or_true, Bool.true_or, Bool.or_false, Bool.false_or, Bool.not_true, Bool.not_false, true_and, and_true]
        · skip
          simp only [d0, d1, d2, d3, Bool.true_and, Bool.false_and, Bool.and_true, Bool.and_false, Bool.true_or, Bool.false_or, Bool.or_true, Bool.or_false, go_sem, Hold.p, HoldK.k, HoldL.K, HoldL.body, Nat.reduceBEq, Nat.reduceAdd, List.getElem?_cons_zero, List.getElem?_cons_succ, Option.bind_some, List.map_cons, List.map_nil, Nat.zero_add, if_true, List.getD_cons_zero, List.getD_cons_succ, List.contains_cons, List.contains_nil, Nat.reduceBEq, Bool.or_true, Bool.true_or, Bool.or_false, Bool.false_or, Bool.not_true, Bool.not_false, true_and, and_true]
      · cases d3 : decide ((b.toNat : Int) ≤ 57)
        · skip
          cases d4 : decide ((b.toNat : Int) = 46)
          · skip
            cases d5 : decide ((b.toNat : Int) = 45)
            · skip
              cases d6 : decide ((b.toNat : Int) = 95)
              · skip
                cases d7 : decide ((b.toNat : Int) = 47)
                · skip
                  cases d8 : decide ((b.toNat : Int) = 58)
                  · skip
                    simp only [d0, d1, d2, d3, d4, d5, d6, d7, d8, Bool.true_and, Bool.false_and, Bool.and_true, Bool.and_false, Bool.true_or, Bool.false_or, Bool.or_true, Bool.or_false, go_sem, Hold.p, HoldK.k, HoldL.K, HoldL.body, Nat.reduceBEq, Nat.reduceAdd, List.getElem?_cons_zero, List.getElem?_cons_succ, Option.bind_some, List.map_cons, List.map_nil, Nat.zero_add, if_true, List.getD_cons_zero, List.getD_cons_succ, List.contains_cons, List.contains_nil, Nat.reduceBEq, Bool.or_true, Bool.true_or, Bool.or_false, Bool.false_or, Bool.not_true, Bool.not_false, true_and, and_true]
                  · skip
                    simp only [d0, d1, d2, d3, d4, d5, d6, d7, d8, Bool.true_and, Bool.false_and, Bool.and_true, Bool.and_false, Bool.true_or, Bool.false_or, Bool.or_true, Bool.or_false, go_sem, Hold.p, HoldK.k, HoldL.K, HoldL.body, Nat.reduceBEq, Nat.reduceAdd, List.getElem?_cons_zero, List.getElem?_cons_succ, Option.bind_some, List.map_cons, List.map_nil, Nat.zero_add, if_true, List.getD_cons_zero, List.getD_cons_succ, List.contains_cons, List.contains_nil, Nat.reduceBEq, Bool.or_true, Bool.true_or, Bool.or_false, Bool.false_or, Bool.not_true, Bool.not_false, true_and, and_true]
                · skip
                  simp only [d0, d1, d2, d3, d4, d5, d6, d7, Bool.true_and, Bool.false_and, Bool.and_true, Bool.and_false, Bool.true_or, Bool.false_or, Bool.or_true, Bool.or_false, go_sem, Hold.p, HoldK.k, HoldL.K, HoldL.body, Nat.reduceBEq, Nat.reduceAdd, List.getElem?_cons_zero, List.getElem?_cons_succ, Option.bind_some, List.map_cons, List.map_nil, Nat.zero_add, if_true, List.getD_cons_zero, List.getD_cons_succ, List.contains_cons, List.contains_nil, Nat.reduceBEq, Bool.or_true, Bool.true_or, Bool.or_false, Bool.false_or, Bool.not_true, Bool.not_false, true_and, and_true]
              · skip
                simp only [d0, d1, d2, d3, d4, d5, d6, Bool.true_and, Bool.false_and, Bool.and_true, Bool.and_false, Bool.true_or, Bool.false_or, Bool.or_true, Bool.or_false, go_sem, Hold.p, HoldK.k, HoldL.K, HoldL.body, Nat.reduceBEq, Nat.reduceAdd, List.getElem?_cons_zero, List.getElem?_cons_succ, Option.bind_some, List.map_cons, List.map_nil, Nat.zero_add, if_true, List.getD_cons_zero, List.getD_cons_succ, List.contains_cons, List.contains_nil, Nat.reduceBEq, Bool.or_true, Bool.true_or, Bool.or_false, Bool.false_or, Bool.not_true, Bool.not_false, true_and, and_true]
            · skip
              simp only [d0, d1, d2, d3, d4, d5, Bool.true_and, Bool.false_and, Bool.and_true, Bool.and_false, Bool.true_or, Bool.false_or, Bool.or_true, Bool.or_false, go_sem, Hold.p, HoldK.k, HoldL.K, HoldL.body, Nat.reduceBEq, Nat.reduceAdd, List.getElem?_cons_zero, List.getElem?_cons_succ, Option.bind_some, List.map_cons, List.map_nil, Nat.zero_add, if_true, List.getD_cons_zero, List.getD_cons_succ, List.contains_cons, List.contains_nil, Nat.reduceBEq, Bool.or_true, Bool.true_or, Bool.or_false, Bool.false_or, Bool.not_true, Bool.not_false, true_and, and_true]
          · skip
            simp only [d0, d1, d2, d3, d4, Bool.true_and, Bool.false_and, Bool.and_true, Bool.and_false, Bool.true_or, Bool.false_or, Bool.or_true, Bool.or_false, go_sem, Hold.p, HoldK.k, HoldL.K, HoldL.body, Nat.reduceBEq, Nat.reduceAdd, List.getElem?_cons_zero, List.getElem?_cons_succ, Option.bind_some, List.map_cons, List.map_nil, Nat.zero_add, if_true, List.getD_cons_zero, List.getD_cons_succ, List.contains_cons, List.contains_nil, Nat.reduceBEq, Bool.or_true, Bool.true_or, Bool.or_false, Bool.false_or, Bool.not_true, Bool.not_false, true_and, and_true]
        · skip
          simp only [d0, d1, d2, d3, Bool.true_and, Bool.false_and, Bool.and_true, Bool.and_false, Bool.true_or, Bool.false_or, Bool.or_true, Bool.or_false, go_sem, Hold.p, HoldK.k, HoldL.K, HoldL.body, Nat.reduceBEq, Nat.reduceAdd, List.getElem?_cons_zero, List.getElem?_cons_succ, Option.bind_some, List.map_cons, List.map_nil, Nat.zero_add, if_true, List.getD_cons_zero, List.getD_cons_succ, List.contains_cons, List.contains_nil, Nat.reduceBEq, Bool.or_true, Bool.true_or, Bool.or_false, Bool.false_or, Bool.not_true, Bool.not_false, true_and, and_true]
    · cases d2 : decide ((b.toNat : Int) ≤ 90)
      · skip
        cases d3 : decide (48 ≤ (b.toNat : Int))
        · skip
          cases d4 : decide ((b.toNat : Int) = 46)
          · skip
            cases d5 : decide ((b.toNat : Int) = 45)
            · skip
              cases d6 : decide ((b.toNat : Int) = 95)
              · skip
                cases d7 : decide ((b.toNat : Int) = 47)
                · skip
                  cases d8 : decide ((b.toNat : Int) = 58)
                  · skip
                    simp only [d0, d1, d2, d3, d4, d5, d6, d7, d8, Bool.true_and, Bool.false_and, Bool.and_true, Bool.and_false, Bool.true_or, Bool.false_or, Bool.or_true, Bool.or_false, go_sem, Hold.p, HoldK.k, HoldL.K, HoldL.body, Nat.reduceBEq, Nat.reduceAdd, List.getElem?_cons_zero, List.getElem?_cons_succ, Option.bind_some, List.map_cons, List.map_nil, Nat.zero_add, if_true, List.getD_cons_zero, List.getD_cons_succ, List.contains_cons, List.contains_nil, Nat.reduceBEq, Bool.or_true, Bool.true_or, Bool.or_false, Bool.false_or, Bool.not_true, Bool.not_false, true_and, and_true]
                  · skip
                    simp only [d0, d1, d2, d3, d4, d5, d6, d7, d8, Bool.true_and, Bool.false_and, Bool.and_true, Bool.and_false, Bool.true_or, Bool.false_or, Bool.or_true, Bool.or_false, go_sem, Hold.p, HoldK.k, HoldL.K, HoldL.body, Nat.reduceBEq, Nat.reduceAdd, List.getElem?_cons_zero, List.getElem?_cons_succ, Option.bind_some, List.map_cons, List.map_nil, Nat.zero_add, if_true, List.getD_cons_zero, List.getD_cons_succ, List.contains_cons, List.contains_nil, Nat.reduceBEq, Bool.or_true, Bool.true_or, Bool.or_false, Bool.false_or, Bool.not_true, Bool.not_false, true_and, and_true]
                · skip
                  simp only [d0, d1, d2, d3, d4, d5, d6, d7, Bool.true_and, Bool.false_and, Bool.and_true, Bool.and_false, Bool.true_or, Bool.false_or, Bool.or_true, Bool.or_false, go_sem, Hold.p, HoldK.k, HoldL.K, HoldL.body, Nat.reduceBEq, Nat.reduceAdd, List.getElem?_cons_zero, List.getElem?_cons_succ, Option.bind_some, List.map_cons, List.map_nil, Nat.zero_add, if_true, List.getD_cons_zero, List.getD_cons_succ, List.contains_cons, List.contains_nil, Nat.reduceBEq, Bool.or_true, Bool.true_or, Bool.or_false, Bool.false_or, Bool.not_true, Bool.not_false, true_and, and_true]
              · skip
                simp only [d0, d1, d2, d3, d4, d5, d6, Bool.true_and, Bool.false_and, Bool.and_true, Bool.and_false, Bool.true_or, Bool.false_or, Bool.or_true, Bool.or_false, go_sem, Hold.p, HoldK.k, HoldL.K, HoldL.body, Nat.reduceBEq, Nat.reduceAdd, List.getElem?_cons_zero, List.getElem?_cons_succ, Option.bind_some, List.map_cons, List.map_nil, Nat.zero_add, if_true, List.getD_cons_zero, List.getD_cons_succ, List.contains_cons, List.contains_nil, Nat.reduceBEq, Bool.or_true, Bool.true_or, Bool.or_false, Bool.false_or, Bool.not_true, Bool.not_false, true_and, and_true]
            · skip
              simp only [d0, d1, d2, d3, d4, d5, Bool.true_and, Bool.false_and, Bool.and_true, Bool.and_false, Bool.true_or, Bool.false_or, Bool.or_true, Bool.or_false, go_sem, Hold.p, HoldK.k, HoldL.K, HoldL.body, Nat.reduceBEq, Nat.reduceAdd, List.getElem?_cons_zero, List.getElem?_cons_succ, Option.bind_some, List.map_cons, List.map_nil, Nat.zero_add, if_true, List.getD_cons_zero, List.getD_cons_succ, List.contains_cons, List.contains_nil, Nat.reduceBEq, Bool.or_true, Bool.true_or, Bool.or_false, Bool.false_or, Bool.not_true, Bool.not_false, true_and, and_true]
          · skip
            simp only [d0, d1, d2, d3, d4, Bool.true_and, Bool.false_and, Bool.and_true, Bool.and_false, Bool.true_or, Bool.false_or, Bool.or_true, Bool.or_false, go_sem, Hold.p, HoldK.k, HoldL.K, HoldL.body, Nat.reduceBEq, Nat.reduceAdd, List.getElem?_cons_zero, List.getElem?_cons_succ, Option.bind_some, List.map_cons, List.map_nil, Nat.zero_add, if_true, List.getD_cons_zero, List.getD_cons_succ, List.contains_cons, List.contains_nil, Nat.reduceBEq, Bool.or_true, Bool.true_or, Bool.or_false, Bool.false_or, Bool.not_true, Bool.not_false, true_and, and_true]
        · cases d4 : decide ((b.toNat : Int) ≤ 57)
          · skip
            cases d5 : decide ((b.toNat : Int) = 46)
            · skip
              cases d6 : decide ((b.toNat : Int) = 45)
              · skip
                cases d7 : decide ((b.toNat : Int) = 95)
                · skip
                  cases d8 : decide ((b.toNat : Int) = 47)
                  · skip
                    cases d9 : decide ((b.toNat : Int) = 58)
                    · skip
                      simp only [d0, d1, d2, d3, d4, d5, d6, d7, d8, d9, Bool.true_and, Bool.false_and, Bool.and_true, Bool.and_false, Bool.true_or, Bool.false_or, Bool.or_true, Bool.or_false, go_sem, Hold.p, HoldK.k, HoldL.K, HoldL.body, Nat.reduceBEq, Nat.reduceAdd, List.getElem?_cons_zero, List.getElem?_cons_succ, Option.bind_some, List.map_cons, List.map_nil, Nat.zero_add, if_true, List.getD_cons_zero, List.getD_cons_succ, List.contains_cons, List.contains_nil, Nat.reduceBEq, Bool.or_true, Bool.true_or, Bool.or_false, Bool.false_or, Bool.not_true, Bool.not_false, true_and, and_true]
                    · skip
                      simp only [d0, d1, d2, d3, d4, d5, d6, d7, d8, d9, Bool.true_and, Bool.false_and, Bool.and_true, Bool.and_false, Bool.true_or, Bool.false_or, Bool.or_true, Bool.or_false, go_sem, Hold.p, HoldK.k, HoldL.K, HoldL.body, Nat.reduceBEq, Nat.reduceAdd, List.getElem?_cons_zero, List.getElem?_cons_succ, Option.bind_some, List.map_cons, List.map_nil, Nat.zero_add, if_true, List.getD_cons_zero, List.getD_cons_succ, List.contains_cons, List.contains_nil, Nat.reduceBEq, Bool.or_true, Bool.true_or, Bool.or_false, Bool.false_or, Bool.not_true, Bool.not_false, true_and, and_true]
                  · skip
                    simp only [d0, d1, d2, d3, d4, d5, d6, d7, d8, Bool.true_and, Bool.false_and, Bool.and_true, Bool.and_false, Bool.true_or, Bool.false_or, Bool.or_true, Bool.or_false, go_sem, Hold.p, HoldK.k, HoldL.K, HoldL.body, Nat.reduceBEq, Nat.reduceAdd, List.getElem?_cons_zero, List.getElem?_cons_succ, Option.bind_some, List.map_cons, List.map_nil, Nat.zero_add, if_true, List.getD_cons_zero, List.getD_cons_succ, List.contains_cons, List.contains_nil, Nat.reduceBEq, Bool.or_true, Bool.true_or, Bool.or_false, Bool.false_or, Bool.not_true, Bool.not_false, true_and, and_true]
                · skip
                  simp only [d0, d1, d2, d3, d4, d5, d6, d7, Bool.true_and, Bool.false_and, Bool.and_true, Bool.and_false, Bool.true_or, Bool.false_or, Bool.or_true, Bool.or_false, go_sem, Hold.p, HoldK.k, HoldL.K, HoldL.body, Nat.reduceBEq, Nat.reduceAdd, List.getElem?_cons_zero, List.getElem?_cons_succ, Option.bind_some, List.map_cons, List.map_nil, Nat.zero_add, if_true, List.getD_cons_zero, List.getD_cons_succ, List.contains_cons, List.contains_nil, Nat.reduceBEq, Bool.or_true, Bool.true_or, Bool.or_false, Bool.false_or, Bool.not_true, Bool.not_false, true_and, and_true]
              · skip
                simp only [d0, d1, d2, d3, d4, d5, d6, Bool.true_and, Bool.false_and, Bool.and_true, Bool.and_false, Bool.true_or, Bool.false_or, Bool.or_true, Bool.or_false, go_sem, Hold.p, HoldK.k, HoldL.K, HoldL.body, Nat.reduceBEq, Nat.reduceAdd, List.getElem?_cons_zero, List.getElem?_cons_succ, Option.bind_some, List.map_cons, List.map_nil, Nat.zero_add, if_true, List.getD_cons_zero, List.getD_cons_succ, List.contains_cons, List.contains_nil, Nat.reduceBEq, Bool.or_true, Bool.true_or, Bool.or_false, Bool.false_or, Bool.not_true, Bool.not_false, true_and, and_true]
            · skip
              simp only [d0, d1, d2, d3, d4, d5, Bool.true_and, Bool.false_and, Bool.and_true, Bool.and_false, Bool.true_or, Bool.false_or, Bool.or_true, Bool.or_false, go_sem, Hold.p, HoldK.k, HoldL.K, HoldL.body, Nat.reduceBEq, Nat.reduceAdd, List.getElem?_cons_zero, List.getElem?_cons_succ, Option.bind_some, List.map_cons, List.map_nil, Nat.zero_add, if_true, List.getD_cons_zero, List.getD_cons_succ, List.contains_cons, List.contains_nil, Nat.reduceBEq, Bool.or_true, Bool.true_or, Bool.or_false, Bool.false_or, Bool.not_true, Bool.not_false, true_and, and_true]
          · skip
            simp only [d0, d1, d2, d3, d4, Bool.true_and, Bool.false_and, Bool.and_true, Bool.and_false, Bool.true_or, Bool.false_or, Bool.or_true, Bool.or_false, go_sem, Hold.p, HoldK.k, HoldL.K, HoldL.body, Nat.reduceBEq, Nat.reduceAdd, List.getElem?_cons_zero, List.getElem?_cons_succ, Option.bind_some, List.map_cons, List.map_nil, Nat.zero_add, if_true, List.getD_cons_zero, List.getD_cons_succ, List.contains_cons, List.contains_nil, Nat.reduceBEq, Bool.or_true, Bool.true_or, Bool.or_false, Bool.false_or, Bool.not_true, Bool.not_false, true_and, and_true]
      · skip
        simp only [d0, d1, d2, Bool.true_and, Bool.false_and, Bool.and_true, Bool.and_false, Bool.true_or, Bool.false_or, Bool.or_true, Bool.or_false, go_sem, Hold.p, HoldK.k, HoldL.K, HoldL.body, Nat.reduceBEq, Nat.reduceAdd, List.getElem?_cons_zero, List.getElem?_cons_succ, Option.bind_some, List.map_cons, List.map_nil, Nat.zero_add, if_true, List.getD_cons_zero, List.getD_cons_succ, List.contains_cons, List.contains_nil, Nat.reduceBEq, Bool.or_true, Bool.true_or, Bool.or_false, Bool.false_or, Bool.not_true, Bool.not_false, true_and, and_true]
  · cases d1 : decide ((b.toNat : Int) ≤ 122)
    · skip
      cases d2 : decide (65 ≤ (b.toNat : Int))
      · skip
        cases d3 : decide (48 ≤ (b.toNat : Int))
        · skip
          cases d4 : decide ((b.toNat : Int) = 46)
          · skip
            cases d5 : decide ((b.toNat : Int) = 45)
            · skip
              cases d6 : decide ((b.toNat : Int) = 95)
              · skip
                cases d7 : decide ((b.toNat : Int) = 47)
                · skip
                  cases d8 : decide ((b.toNat : Int) = 58)
                  · skip
                    simp only [d0, d1, d2, d3, d4, d5, d6, d7, d8, Bool.true_and, Bool.false_and, Bool.and_true, Bool.and_false, Bool.true_or, Bool.false_or, Bool.or_true, Bool.or_false, go_sem, Hold.p, HoldK.k, HoldL.K, HoldL.body, Nat.reduceBEq, Nat.reduceAdd, List.getElem?_cons_zero, List.getElem?_cons_succ, Option.bind_some, List.map_cons, List.map_nil, Nat.zero_add, if_true, List.getD_cons_zero, List.getD_cons_succ, List.contains_cons, List.contains_nil, Nat.reduceBEq, Bool.or_true, Bool.true_or, Bool.or_false, Bool.false_or, Bool.not_true, Bool.not_false, true_and, and_true]
                  · skip
                    simp only [d0, d1, d2, d3, d4, d5, d6, d7, d8, Bool.true_and, Bool.false_and, Bool.and_true, Bool.and_false, Bool.true_or, Bool.false_or, Bool.or_true, Bool.or_false, go_sem, Hold.p, HoldK.k, HoldL.K, HoldL.body, Nat.reduceBEq, Nat.reduceAdd, List.getElem?_cons_zero, List.getElem?_cons_succ, Option.bind_some, List.map_cons, List.map_nil, Nat.zero_add, if_true, List.getD_cons_zero, List.getD_cons_succ, List.contains_cons, List.contains_nil, Nat.reduceBEq, Bool.or_true, Bool.true_or, Bool.or_false, Bool.false_or, Bool.not_true, Bool.not_false, true_and, and_true]
                · skip
                  simp only [d0, d1, d2, d3, d4, d5, d6, d7, Bool.true_and, Bool.false_and, Bool.and_true, Bool.and_false, Bool.true_or, Bool.false_or, Bool.or_true, Bool.or_false, go_sem, Hold.p, HoldK.k, HoldL.K, HoldL.body, Nat.reduceBEq, Nat.reduceAdd, List.getElem?_cons_zero, List.getElem?_cons_succ, Option.bind_some, List.map_cons, List.map_nil, Nat.zero_add, if_true, List.getD_cons_zero, List.getD_cons_succ, List.contains_cons, List.contains_nil, Nat.reduceBEq, Bool.or_true, Bool.true_or, Bool.or_false, Bool.false_or, Bool.not_true, Bool.not_false, true_and, and_true]
              · skip
                simp only [d0, d1, d2, d3, d4, d5, d6, Bool.true_and, Bool.false_and, Bool.and_true, Bool.and_false, Bool.true_or, Bool.false_or, Bool.or_true, Bool.or_false, go_sem, Hold.p, HoldK.k, HoldL.K, HoldL.body, Nat.reduceBEq, Nat.reduceAdd, List.getElem?_cons_zero, List.getElem?_cons_succ, Option.bind_some, List.map_cons, List.map_nil, Nat.zero_add, if_true, List.getD_cons_zero, List.getD_cons_succ, List.contains_cons, List.contains_nil, Nat.reduceBEq, Bool.or_true, Bool.true_or, Bool.or_false, Bool.false_or, Bool.not_true, Bool.not_false, true_and, and_true]
            · skip
              simp only [d0, d1, d2, d3, d4, d5, Bool.true_and, Bool.false_and, Bool.and_true, Bool.and_false, Bool.true_or, Bool.false_or, Bool.or_true, Bool.or_false, go_sem, Hold.p, HoldK.k, HoldL.K, HoldL.body, Nat.reduceBEq, Nat.reduceAdd, List.getElem?_cons_zero, List.getElem?_cons_succ, Option.bind_some, List.map_cons, List.map_nil, Nat.zero_add, if_true, List.getD_cons_zero, List.getD_cons_succ, List.contains_cons, List.contains_nil, Nat.reduceBEq, Bool.or_true, Bool.true_or, Bool.or_false, Bool.false_or, Bool.not_true, Bool.not_false, true_and, and_true]
          · skip
            simp only [d0, d1, d2, d3, d4, Bool.true_and, Bool.false_and, Bool.and_true, Bool.and_false, Bool.true_or, Bool.false_or, Bool.or_true, Bool.or_false, go_sem, Hold.p, HoldK.k, HoldL.K, HoldL.body, Nat.reduceBEq, Nat.reduceAdd, List.getElem?_cons_zero, List.getElem?_cons_succ, Option.bind_some, List.map_cons, List.map_nil, Nat.zero_add, if_true, List.getD_cons_zero, List.getD_cons_succ, List.contains_cons, List.contains_nil, Nat.reduceBEq, Bool.or_true, Bool.true_or, Bool.or_false, Bool.false_or, Bool.not_true, Bool.not_false, true_and, and_true]
        · cases d4 : decide ((b.toNat : Int) ≤ 57)
          · skip
            cases d5 : decide ((b.toNat : Int) = 46)
            · skip
              cases d6 : decide ((b.toNat : Int) = 45)
              · skip
                cases d7 : decide ((b.toNat : Int) = 95)
                · skip
                  cases d8 : decide ((b.toNat : Int) = 47)
                  · skip
                    cases d9 : decide ((b.toNat : Int) = 58)
                    · skip
                      simp only [d0, d1, d2, d3, d4, d5, d6, d7, d8, d9, Bool.true_and, Bool.false_and, Bool.and_true, Bool.and_false, Bool.true_or, Bool.false_or, Bool.or_true, Bool.or_false, go_sem, Hold.p, HoldK.k, HoldL.K, HoldL.body, Nat.reduceBEq, Nat.reduceAdd, List.getElem?_cons_zero, List.getElem?_cons_succ, Option.bind_some, List.map_cons, List.map_nil, Nat.zero_add, if_true, List.getD_cons_zero, List.getD_cons_succ, List.contains_cons, List.contains_nil, Nat.reduceBEq, Bool.or_true, Bool.true_or, Bool.or_false, Bool.false_or, Bool.not_true, Bool.not_false, true_and, and_true]
                    · skip
                      simp only [d0, d1, d2, d3, d4, d5, d6, d7, d8, d9, Bool.true_and, Bool.false_and, Bool.and_true, Bool.and_false, Bool.true_or, Bool.false_or, Bool.or_true, Bool.or_false, go_sem, Hold.p, HoldK.k, HoldL.K, HoldL.body, Nat.reduceBEq, Nat.reduceAdd, List.getElem?_cons_zero, List.getElem?_cons_succ, Option.bind_some, List.map_cons, List.map_nil, Nat.zero_add, if_true, List.getD_cons_zero, List.getD_cons_succ, List.contains_cons, List.contains_nil, Nat.reduceBEq, Bool.or_true, Bool.true_or, Bool.or_false, Bool.false_or, Bool.not_true, Bool.not_false, true_and, and_true]
                  · skip
                    simp only [d0, d1, d2, d3, d4, d5, d6, d7, d8, Bool.true_and, Bool.false_and, Bool.and_true, Bool.and_false, Bool.true_or, Bool.false_or, Bool.or_true, Bool.or_false, go_sem, Hold.p, HoldK.k, HoldL.K, HoldL.body, Nat.reduceBEq, Nat.reduceAdd, List.getElem?_cons_zero, List.getElem?_cons_succ, Option.bind_some, List.map_cons, List.map_nil, Nat.zero_add, if_true, List.getD_cons_zero, List.getD_cons_succ, List.contains_cons, List.contains_nil, Nat.reduceBEq, Bool.or_true, Bool.true_or, Bool.or_false, Bool.false_or, Bool.not_true, Bool.not_false, true_and, and_true]
                · skip
                  simp only [d0, d1, d2, d3, d4, d5, d6, d7, Bool.true_and, Bool.false_and, Bool.and_true, Bool.and_false, Bool.true_or, Bool.false_or, Bool.or_true, Bool.or_false, go_sem, Hold.p, HoldK.k, HoldL.K, HoldL.body, Nat.reduceBEq, Nat.reduceAdd, List.getElem?_cons_zero, List.getElem?_cons_succ, Option.bind_some, List.map_cons, List.map_nil, Nat.zero_add, if_true, List.getD_cons_zero, List.getD_cons_succ, List.contains_cons, List.contains_nil, Nat.reduceBEq, Bool.or_true, Bool.true_or, Bool.or_false, Bool.false_or, Bool.not_true, Bool.not_false, true_and, and_true]
              · skip
                simp only [d0, d1, d2, d3, d4, d5, d6, Bool.true_and, Bool.false_and, Bool.and_true, Bool.and_false, Bool.true_or, Bool.false_or, Bool.or_true, Bool.or_false, go_sem, Hold.p, HoldK.k, HoldL.K, HoldL.body, Nat.reduceBEq, Nat.reduceAdd, List.getElem?_cons_zero, List.getElem?_cons_succ, Option.bind_some, List.map_cons, List.map_nil, Nat.zero_add, if_true, List.getD_cons_zero, List.getD_cons_succ, List.contains_cons, List.contains_nil, Nat.reduceBEq, Bool.or_true, Bool.true_or, Bool.or_false, Bool.false_or, Bool.not_true, Bool.not_false, true_and, and_true]
            · skip
              simp only [d0, d1, d2, d3, d4, d5, Bool.true_and, Bool.false_and, Bool.and_true, Bool.and_false, Bool.true_or, Bool.false_or, Bool.or_true, Bool.or_false, go_sem, Hold.p, HoldK.k, HoldL.K, HoldL.body, Nat.reduceBEq, Nat.reduceAdd, List.getElem?_cons_zero, List.getElem?_cons_succ, Option.bind_some, List.map_cons, List.map_nil, Nat.zero_add, if_true, List.getD_cons_zero, List.getD_cons_succ, List.contains_cons, List.contains_nil, Nat.reduceBEq, Bool.or_true, Bool.true_or, Bool.or_false, Bool.false_or, Bool.not_true, Bool.not_false, true_and, and_true]
          · skip
            simp only [d0, d1, d2, d3, d4, Bool.true_and, Bool.false_and, Bool.and_true, Bool.and_false, Bool.true_or, Bool.false_or, Bool.or_true, Bool.or_false, go_sem, Hold.p, HoldK.k, HoldL.K, HoldL.body, Nat.reduceBEq, Nat.reduceAdd, List.getElem?_cons_zero, List.getElem?_cons_succ, Option.bind_some, List.map_cons, List.map_nil, Nat.zero_add, if_true, List.getD_cons_zero, List.getD_cons_succ, List.contains_cons, List.contains_nil, Nat.reduceBEq, Bool.or_true, Bool.true_or, Bool.or_false, Bool.false_or, Bool.not_true, Bool.not_false, true_and, and_true]
      · cases d3 : decide ((b.toNat : Int) ≤ 90)
        · skip
          cases d4 : decide (48 ≤ (b.toNat : Int))
          · skip
            cases d5 : decide ((b.toNat : Int) = 46)
            · skip
              cases d6 : decide ((b.toNat : Int) = 45)
              · skip
                cases d7 : decide ((b.toNat : Int) = 95)
                · skip
                  cases d8 : decide ((b.toNat : Int) = 47)
                  · skip
                    cases d9 : decide ((b.toNat : Int) = 58)
                    · skip
                      simp only [d0, d1, d2, d3, d4, d5, d6, d7, d8, d9, Bool.true_and, Bool.false_and, Bool.and_true, Bool.and_false, Bool.true_or, Bool.false_or, Bool.or_true, Bool.or_false, go_sem, Hold.p, HoldK.k, HoldL.K, HoldL.body, Nat.reduceBEq, Nat.reduceAdd, List.getElem?_cons_zero, List.getElem?_cons_succ, Option.bind_some, List.map_cons, List.map_nil, Nat.zero_add, if_true, List.getD_cons_zero, List.getD_cons_succ, List.contains_cons, List.contains_nil, Nat.reduceBEq, Bool.or_true, Bool.true_or, Bool.or_false, Bool.false_or, Bool.not_true, Bool.not_false, true_and, and_true]
                    · skip
                      simp only [d0, d1, d2, d3, d4, d5, d6, d7, d8, d9, Bool.true_and, Bool.false_and, Bool.and_true, Bool.and_false, Bool.true_or, Bool.false_or, Bool.or_true, Bool.or_false, go_sem, Hold.p, HoldK.k, HoldL.K, HoldL.body, Nat.reduceBEq, Nat.reduceAdd, List.getElem?_cons_zero, List.getElem?_cons_succ, Option.bind_some, List.map_cons, List.map_nil, Nat.zero_add, if_true, List.getD_cons_zero, List.getD_cons_succ, List.contains_cons, List.contains_nil, Nat.reduceBEq, Bool.or_true, Bool.true_or, Bool.or_false, Bool.false_or, Bool.not_true, Bool.not_false, true_and, and_true]
                  · skip
                    simp only [d0, d1, d2, d3, d4, d5, d6, d7, d8, Bool.true_and, Bool.false_and, Bool.and_true, Bool.and_false, Bool.true_or, Bool.false_or, Bool.or_true, Bool.or_false, go_sem, Hold.p, HoldK.k, HoldL.K, HoldL.body, Nat.reduceBEq, Nat.reduceAdd, List.getElem?_cons_zero, List.getElem?_cons_succ, Option.bind_some, List.map_cons, List.map_nil, Nat.zero_add, if_true, List.getD_cons_zero, List.getD_cons_succ, List.contains_cons, List.contains_nil, Nat.reduceBEq, Bool.or_true, Bool.true_or, Bool.or_false, Bool.false_or, Bool.not_true, Bool.not_false, true_and, and_true]
                · skip
                  simp only [d0, d1, d2, d3, d4, d5, d6, d7, Bool.true_and, Bool.false_and, Bool.and_true, Bool.and_false, Bool.true_or, Bool.false_or, Bool.or_true, Bool.or_false, go_sem, Hold.p, HoldK.k, HoldL.K, HoldL.body, Nat.reduceBEq, Nat.reduceAdd, List.getElem?_cons_zero, List.getElem?_cons_succ, Option.bind_some, List.map_cons, List.map_nil, Nat.zero_add, if_true, List.getD_cons_zero, List.getD_cons_succ, List.contains_cons, List.contains_nil, Nat.reduceBEq, Bool.or_true, Bool.true_or, Bool.or_false, Bool.false_or, Bool.not_true, Bool.not_false, true_and, and_true]
              · skip
                simp only [d0, d1, d2, d3, d4, d5, d6, Bool.true_and, Bool.false_and, Bool.and_true, Bool.and_false, Bool.true_or, Bool.false_or, Bool.or_true, Bool.or_false, go_sem, Hold.p, HoldK.k, HoldL.K, HoldL.body, Nat.reduceBEq, Nat.reduceAdd, List.getElem?_cons_zero, List.getElem?_cons_succ, Option.bind_some, List.map_cons, List.map_nil, Nat.zero_add, if_true, List.getD_cons_zero, List.getD_cons_succ, List.contains_cons, List.contains_nil, Nat.reduceBEq, Bool.or_true, Bool.true_or, Bool.or_false, Bool.false_or, Bool.not_true, Bool.not_false, true_and, and_true]
            · skip
              simp only [d0, d1, d2, d3, d4, d5, Bool.true_and, Bool.false_and, Bool.and_true, Bool.and_false, Bool.true_or, Bool.false_or, Bool.or_true, Bool.or_false, go_sem, Hold.p, HoldK.k, HoldL.K, HoldL.body, Nat.reduceBEq, Nat.reduceAdd, List.getElem?_cons_zero, List.getElem?_cons_succ, Option.bind_some, List.map_cons, List.map_nil, Nat.zero_add, if_true, List.getD_cons_zero, List.getD_cons_succ, List.contains_cons, List.contains_nil, Nat.reduceBEq, Bool.or_true, Bool.true_or, Bool.or_false, Bool.false_or, Bool.not_true, Bool.not_false, true_and, and_true]
          · cases d5 : decide ((b.toNat : Int) ≤ 57)
            · skip
              cases d6 : decide ((b.toNat : Int) = 46)
              · skip
                cases d7 : decide ((b.toNat : Int) = 45)
                · skip
                  cases d8 : decide ((b.toNat : Int) = 95)
                  · skip
                    cases d9 : decide ((b.toNat : Int) = 47)
                    · skip
                      cases d10 : decide ((b.toNat : Int) = 58)
                      · skip
                        simp only [d0, d1, d2, d3, d4, d5, d6, d7, d8, d9, d10, Bool.true_and, Bool.false_and, Bool.and_true, Bool.and_false, Bool.true_or, Bool.false_or, Bool.or_true, Bool.or_false, go_sem, Hold.p, HoldK.k, HoldL.K, HoldL.body, Nat.reduceBEq, Nat.reduceAdd, List.getElem?_cons_zero, List.getElem?_cons_succ, Option.bind_some, List.map_cons, List.map_nil, Nat.zero_add, if_true, List.getD_cons_zero, List.getD_cons_succ, List.contains_cons, List.contains_nil, Nat.reduceBEq, Bool.or_true, Bool.true_or, Bool.or_false, Bool.false_or, Bool.not_true, Bool.not_false, true_and, and_true]
                      · skip
                        simp only [d0, d1, d2, d3, d4, d5, d6, d7, d8, d9, d10, Bool.true_and, Bool.false_and, Bool.and_true, Bool.and_false, Bool.true_or, Bool.false_or, Bool.or_true, Bool.or_false, go_sem, Hold.p, HoldK.k, HoldL.K, HoldL.body, Nat.reduceBEq, Nat.reduceAdd, List.getElem?_cons_zero, List.getElem?_cons_succ, Option.bind_some, List.map_cons, List.map_nil, Nat.zero_add, if_true, List.getD_cons_zero, List.getD_cons_succ, List.contains_cons, List.contains_nil, Nat.reduceBEq, Bool.or_true, Bool.true_or, Bool.or_false, Bool.false_or, Bool.not_true, Bool.not_false, true_and, and_true]
                    · skip
                      simp only [d0, d1, d2, d3, d4, d5, d6, d7, d8, d9, Bool.true_and, Bool.false_and, Bool.and_true, Bool.and_false, Bool.true_or, Bool.false_or, Bool.or_true, Bool.or_false, go_sem, Hold.p, HoldK.k, HoldL.K, HoldL.body, Nat.reduceBEq, Nat.reduceAdd, List.getElem?_cons_zero, List.getElem?_cons_succ, Option.bind_some, List.map_cons, List.map_nil, Nat.zero_add, if_true, List.getD_cons_zero, List.getD_cons_succ, List.contains_cons, List.contains_nil, Nat.reduceBEq, Bool.or_true, Bool.true_or, Bool.or_false, Bool.false_or, Bool.not_true, Bool.not_false, true_and, and_true]
                  · skip
                    simp only [d0, d1, d2, d3, d4, d5, d6, d7, d8, Bool.true_and, Bool.false_and, Bool.and_true, Bool.and_false, Bool.true_or, Bool.false_or, Bool.or_true, Bool.or_false, go_sem, Hold.p, HoldK.k, HoldL.K, HoldL.body, Nat.reduceBEq, Nat.reduceAdd, List.getElem?_cons_zero, List.getElem?_cons_succ, Option.bind_some, List.map_cons, List.map_nil, Nat.zero_add, if_true, List.getD_cons_zero, List.getD_cons_succ, List.contains_cons, List.contains_nil, Nat.reduceBEq, Bool.or_true, Bool.true_or, Bool.or_false, Bool.false_or, Bool.not_true, Bool.not_false, true_and, and_true]
                · skip
                  simp only [d0, d1, d2, d3, d4, d5, d6, d7, Bool.true_and, Bool.false_and, Bool.and_true, Bool.and_false, Bool.true_or, Bool.false_or, Bool.or_true, Bool.or_false, go_sem, Hold.p, HoldK.k, HoldL.K, HoldL.body, Nat.reduceBEq, Nat.reduceAdd, List.getElem?_cons_zero, List.getElem?_cons_succ, Option.bind_some, List.map_cons, List.map_nil, Nat.zero_add, if_true, List.getD_cons_zero, List.getD_cons_succ, List.contains_cons, List.contains_nil, Nat.reduceBEq, Bool.or_true, Bool.true_or, Bool.or_false, Bool.false_or, Bool.not_true, Bool.not_false, true_and, and_true]
              · skip
                simp only [d0, d1, d2, d3, d4, d5, d6, Bool.true_and, Bool.false_and, Bool.and_true, Bool.and_false, Bool.true_or, Bool.false_or, Bool.or_true, Bool.or_false, go_sem, Hold.p, HoldK.k, HoldL.K, HoldL.body, Nat.reduceBEq, Nat.reduceAdd, List.getElem?_cons_zero, List.getElem?_cons_succ, Option.bind_some, List.map_cons, List.map_nil, Nat.zero_add, if_true, List.getD_cons_zero, List.getD_cons_succ, List.contains_cons, List.contains_nil, Nat.reduceBEq, Bool.or_true, Bool.true_or, Bool.or_false, Bool.false_or, Bool.not_true, Bool.not_false, true_and, and_true]
            · skip
              simp only [d0, d1, d2, d3, d4, d5, Bool.true_and, Bool.false_and, Bool.and_true, Bool.and_false, Bool.true_or, Bool.false_or, Bool.or_true, Bool.or_false, go_sem, Hold.p, HoldK.k, HoldL.K, HoldL.body, Nat.reduceBEq, Nat.reduceAdd, List.getElem?_cons_zero, List.getElem?_cons_succ, Option.bind_some, List.map_cons, List.map_nil, Nat.zero_add, if_true, List.getD_cons_zero, List.getD_cons_succ, List.contains_cons, List.contains_nil, Nat.reduceBEq, Bool.or_true, Bool.true_or, Bool.or_false, Bool.false_or, Bool.not_true, Bool.not_false, true_and, and_true]
        · skip
          simp only [d0, d1, d2, d3, Bool.true_and, Bool.false_and, Bool.and_true, Bool.and_false, Bool.true_or, Bool.false_or, Bool.or_true, Bool.or_false, go_sem, Hold.p, HoldK.k, HoldL.K, HoldL.body, Nat.reduceBEq, Nat.reduceAdd, List.getElem?_cons_zero, List.getElem?_cons_succ, Option.bind_some, List.map_cons, List.map_nil, Nat.zero_add, if_true, List.getD_cons_zero, List.getD_cons_succ, List.contains_cons, List.contains_nil, Nat.reduceBEq, Bool.or_true, Bool.true_or, Bool.or_false, Bool.false_or, Bool.not_true, Bool.not_false, true_and, and_true]
    · skip
      simp only [d0, d1, Bool.true_and, Bool.false_and, Bool.and_true, Bool.and_false, Bool.true_or, Bool.false_or, Bool.or_true, Bool.or_false, go_sem, Hold.p, HoldK.k, HoldL.K, HoldL.body, Nat.reduceBEq, Nat.reduceAdd, List.getElem?_cons_zero, List.getElem?_cons_succ, Option.bind_some, List.map_cons, List.map_nil, Nat.zero_add, if_true, List.getD_cons_zero, List.getD_cons_succ, List.contains_cons, List.contains_nil, Nat.reduceBEq, Bool.or_true, Bool.true_or, Bool.or_false, Bool.false_or, Bool.not_true, Bool.not_false, true_and, and_true]

end Go.Proofs.YtdpaehdolhdjdaaDoor

namespace Go.Proofs.YtdpaehdolhdjdaaDoor
open Go Go.IW

theorem dec_pos (n : Nat) : 1 ≤ (Lib.decDigits n).length := by rw [Lib.decDigits_length]; exact Lib.nDigits_pos n
theorem dec_le (n : Nat) (h : n < 18446744073709551616) : (Lib.decDigits n).length ≤ 20 := by rw [Lib.decDigits_length]; exact Lib.nDigits_le20 n h

/-! A value without blanks at its ends. -/
theorem dw_len (p : UInt8 → Bool) (l : List UInt8) : (l.dropWhile p).length ≤ l.length := by
  induction l with
  | nil => simp
  | cons a l ih => rw [List.dropWhile_cons]; split <;> simp; omega
theorem dw_same (p : UInt8 → Bool) (l : List UInt8) : l.dropWhile p = l ↔ ∀ a, l[0]? = some a → p a = false := by
  cases l with
  | nil => simp
  | cons a l =>
    rw [List.dropWhile_cons]
    constructor
    · intro h b hb
      simp at hb; subst hb
      cases hp : p a
      · rfl
      · rw [hp, if_pos rfl] at h
        have := congrArg List.length h
        have := dw_len p l
        simp at *; omega
    · intro h
      rw [h a rfl]; simp
/-- No blank at either end. -/
def noEnds (v : List UInt8) : Bool := (v[0]? != some 32) && (v[v.length - 1]? != some 32)
theorem trim_same (v : List UInt8) : decide (v = Lib.trimB v 32) = noEnds v := by
  have key : v = Lib.trimB v 32 ↔ (v[0]? ≠ some 32 ∧ v[v.length - 1]? ≠ some 32) := by
    unfold Lib.trimB Lib.trimLeftB Lib.trimRightB
    have hr0 : ∀ a, v.reverse[0]? = some a ↔ v[v.length - 1]? = some a := by
      intro a
      by_cases hv : v = []
      · subst hv; simp
      · have hl : 0 < v.length := List.length_pos_iff.2 hv
        rw [List.getElem?_reverse hl, Nat.sub_zero]
    constructor
    · intro h
      have l1 := dw_len (· == 32) ((v.reverse.dropWhile (· == 32)).reverse)
      have l2 := dw_len (· == 32) v.reverse
      have l3 := congrArg List.length h
      simp only [List.length_reverse] at l1 l2
      have e2 : v.reverse.dropWhile (· == 32) = v.reverse := by
        have hs : v.reverse.dropWhile (· == 32) <:+ v.reverse := List.dropWhile_suffix _
        exact hs.eq_of_length (by simp; omega)
      have e1 : v.dropWhile (· == 32) = v := by
        rw [e2, List.reverse_reverse] at h; exact h.symm
      refine ⟨fun h0 => ?_, fun h0 => ?_⟩
      · have := (dw_same _ _).1 e1 32 h0; simp at this
      · have := (dw_same _ _).1 e2 32 ((hr0 32).2 h0); simp at this
    · intro ⟨h1, h2⟩
      have e2 : v.reverse.dropWhile (· == 32) = v.reverse := (dw_same _ _).2 fun a ha => by
        have := (hr0 a).1 ha
        have hne : a ≠ 32 := fun e => h2 (e ▸ this)
        simpa using hne
      rw [e2, List.reverse_reverse]
      exact ((dw_same _ _).2 fun a ha => by
        have hne : a ≠ 32 := fun e => h1 (e ▸ ha)
        simpa using hne).symm
  unfold noEnds
  by_cases h : v = Lib.trimB v 32
  · obtain ⟨h1, h2⟩ := key.1 h
    rw [decide_eq_true h]
    simp [h1, h2]
  · rw [decide_eq_false h]
    cases hb : noEnds v
    · unfold noEnds at hb; exact hb.symm
    · unfold noEnds at hb
      simp at hb
      exact absurd (key.2 ⟨by simpa using hb.1, by simpa using hb.2⟩) h

/-! Messages. -/
/-- A byte of a path. -/
def pathB (b : UInt8) : Bool := plainB b && !decide ((b.toNat : Int) = 58)
def pathOK (p : List UInt8) : Bool := decide (1 ≤ p.length) && decide (p.length ≤ 200) && (p[0]? == some 47) && p.all pathB
def nameB (b : UInt8) : Bool := (decide (97 ≤ (b.toNat : Int)) && decide ((b.toNat : Int) ≤ 122)) || decide ((b.toNat : Int) = 45)
def valB (b : UInt8) : Bool := decide (32 ≤ (b.toNat : Int)) && decide ((b.toNat : Int) ≤ 126)
def lengthS : List UInt8 := [108, 101, 110, 103, 116, 104]
def fieldOK (n v : List UInt8) : Bool := decide (1 ≤ n.length) && decide (n.length ≤ 40) && !decide (n = lengthS) && decide (v.length ≤ 200) && n.all nameB && v.all valB && noEnds v
abbrev Fld := List UInt8 × List UInt8
def fldRows (fs : List Fld) : List (List IV) := fs.map fun f => [.str f.1, .str f.2]
end Go.Proofs.YtdpaehdolhdjdaaDoor

namespace Go.Proofs.YtdpaehdolhdjdaaDoor
open Go Go.IW
section
attribute [local go_sem] List.getElem?_cons_zero List.getElem?_cons_succ Option.bind_some List.map_cons List.map_nil Nat.zero_add if_true List.getD_cons_zero List.getD_cons_succ List.contains_cons List.contains_nil Bool.or_true Bool.true_or Bool.or_false Bool.false_or Bool.not_true Bool.not_false true_and and_true rowA_whole mid_get stO_mid rowO_rows cellO_rows push_n set_n push_at push_old set_here set_there set_pushT set_pushN set_set upd_ne Nat.add_assoc Nat.add_zero stO_1s stO_ws boxA_s List.all_cons List.all_nil one_bool one_int one_str one_ptr one_nilptr one_slice one_eslice one_nilslice one_func one_iface one_niliface Bool.and_true Bool.and_self List.length_cons List.length_nil Nat.one_ne_zero Nat.succ_ne_zero if_false List.set_cons_zero List.set_cons_succ lay_nil lay_1 lay_w Option.map_some

theorem dec_big {n : Nat} (h : ¬ n < 10) : Lib.decDigits n = Lib.decDigits (n / 10) ++ [UInt8.ofNat (48 + n % 10)] := by
  rw [Lib.decDigits, dif_neg h]
theorem dec_small {n : Nat} (h : n < 10) : Lib.decDigits n = [UInt8.ofNat (48 + n)] := by
  rw [Lib.decDigits, dif_pos h]
theorem digit_wr {n : Nat} (h : n < 10) : wr .u8 (wr .i64 (48 + (n : Int))) = ((UInt8.ofNat (48 + n)).toNat : Int) := by
  rw [wr64 _ (by omega)]
  unfold wr
  rw [IntKind.wrap_u8, UInt8.toNat_ofNat']
  omega
theorem b2s_one (b : UInt8) : bytesOf (List.take 1 (List.drop 0 [[IV.int .u8 (b.toNat : Int)]])) = some [b] := by
  simp [bytesOf]
theorem quo_nat (a b : Nat) (hb : b ≠ 0) (ha : a ≤ 9223372036854775807) (hb2 : b ≤ 9223372036854775807) : ibin .quo (.int .i64 (a : Int)) (.int .i64 (b : Int)) = some (.int .i64 ((a / b : Nat) : Int)) := by
  have h0 : (b : Int) ≠ 0 := by omega
  have hle : a / b ≤ a := Nat.div_le_self a b
  have e : Int.tdiv (a : Int) (b : Int) = ((a / b : Nat) : Int) := by rw [Int.tdiv_eq_ediv_of_nonneg (by omega)]; rfl
  have h2 : (0 : Int) ≤ ((a / b : Nat) : Int) := Int.natCast_nonneg _
  have h3 : ((a / b : Nat) : Int) ≤ (a : Int) := by exact_mod_cast hle
  unfold ibin
  simp only [if_true, if_neg h0]
  rw [e, wr64 _ ⟨by omega, by omega⟩]
theorem rem_nat (a b : Nat) (hb : b ≠ 0) : ibin .rem (.int .i64 (a : Int)) (.int .i64 (b : Int)) = some (.int .i64 ((a % b : Nat) : Int)) := by
  have h0 : (b : Int) ≠ 0 := by omega
  have e : Int.tmod (a : Int) (b : Int) = ((a % b : Nat) : Int) := by rw [Int.tmod_eq_emod_of_nonneg (by omega)]; rfl
  simp only [ibin, if_true, if_neg h0, e]

set_option maxRecDepth 20000 in
theorem l02Dec_c : ∀ (n : Nat) (h : IH), n ≤ 9223372036854775807 → ICalls Tryd.prog 100 [.int .i64 n] h fun r h' => r = .str (Lib.decDigits n) ∧ Ext h h' := by
  intro n
  induction n using Nat.strongRecOn with
  | ind n ih =>
    intro h hn
    refine icalls (.of ok100) (Nat.le_of_ble_eq_true rfl) ?_
    unfold c100
    by_cases h1 : n < 10
    · have d1 : decide ((n : Int) < 10) = true := decide_eq_true (by omega)
      have hw := digit_wr h1
      simp (disch := (first | omega | assumption | (simp only [push_n, set_n, put_n, List.length_cons, List.length_nil, List.length_append, Nat.reduceAdd]; done) | (simp only [push_n, set_n, put_n, List.length_cons, List.length_nil, List.length_append]; omega) | (simp only [List.all_cons, List.all_nil, one_bool, one_int, one_str, one_ptr, one_nilptr, one_slice, one_eslice, one_nilslice, one_func, one_iface, one_niliface, Bool.and_true, Bool.true_and, List.getD_cons_zero, List.getD_cons_succ, List.contains_cons, List.contains_nil, Bool.or_true, Bool.true_or, Bool.or_false, Bool.false_or, Nat.reduceBEq, *]; done) | fail)) only [d1, hw, b2s_one, Nat.le_refl, go_sem, Hold.p, HoldK.k, HoldL.K, HoldL.body, Nat.reduceBEq, Nat.reduceAdd, reduceIte]
      rw [dec_small h1]
      exact ⟨rfl, (Ext.refl _).push _⟩
    · have d1 : decide ((n : Int) < 10) = false := decide_eq_false (by omega)
      have hq : ibin .quo (.int .i64 (n : Int)) (.int .i64 10) = some (.int .i64 ((n / 10 : Nat) : Int)) := quo_nat n 10 (by omega) hn (by omega)
      have hr : ibin .rem (.int .i64 (n : Int)) (.int .i64 10) = some (.int .i64 ((n % 10 : Nat) : Int)) := rem_nat n 10 (by omega)
      have hm : n % 10 < 10 := Nat.mod_lt _ (by omega)
      have hw := digit_wr hm
      have hlen := dec_le (n / 10) (by omega)
      have hc := ibs_cat (s := Lib.decDigits (n / 10)) (t := [UInt8.ofNat (48 + n % 10)]) (by simp; omega)
      have hd : n / 10 < n := by omega
      simp (disch := (first | omega | assumption | (simp only [push_n, set_n, put_n, List.length_cons, List.length_nil, List.length_append, Nat.reduceAdd]; done) | (simp only [push_n, set_n, put_n, List.length_cons, List.length_nil, List.length_append]; omega) | (simp only [List.all_cons, List.all_nil, one_bool, one_int, one_str, one_ptr, one_nilptr, one_slice, one_eslice, one_nilslice, one_func, one_iface, one_niliface, Bool.and_true, Bool.true_and, List.getD_cons_zero, List.getD_cons_succ, List.contains_cons, List.contains_nil, Bool.or_true, Bool.true_or, Bool.or_false, Bool.false_or, Nat.reduceBEq, *]; done) | fail)) only [d1, hq, hr, hw, b2s_one, Nat.le_refl, go_sem, Hold.p, HoldK.k, HoldL.K, HoldL.body, Nat.reduceBEq, Nat.reduceAdd, reduceIte]
      refine either_of ?_ ?_
      · simp (disch := (first | omega | assumption | (simp only [push_n, set_n, put_n, List.length_cons, List.length_nil, List.length_append, Nat.reduceAdd]; done) | (simp only [push_n, set_n, put_n, List.length_cons, List.length_nil, List.length_append]; omega) | (simp only [List.all_cons, List.all_nil, one_bool, one_int, one_str, one_ptr, one_nilptr, one_slice, one_eslice, one_nilslice, one_func, one_iface, one_niliface, Bool.and_true, Bool.true_and, List.getD_cons_zero, List.getD_cons_succ, List.contains_cons, List.contains_nil, Bool.or_true, Bool.true_or, Bool.or_false, Bool.false_or, Nat.reduceBEq, *]; done) | fail)) only [go_sem, Hold.p, HoldK.k, HoldL.K, HoldL.body, Nat.reduceBEq, Nat.reduceAdd, reduceIte]
        refine callA_of (ih (n / 10) hd h (by omega)) ?_
        rintro r h2 ⟨rfl, E⟩
        simp (disch := (first | omega | assumption | (simp only [push_n, set_n, put_n, List.length_cons, List.length_nil, List.length_append, Nat.reduceAdd]; done) | (simp only [push_n, set_n, put_n, List.length_cons, List.length_nil, List.length_append]; omega) | (simp only [List.all_cons, List.all_nil, one_bool, one_int, one_str, one_ptr, one_nilptr, one_slice, one_eslice, one_nilslice, one_func, one_iface, one_niliface, Bool.and_true, Bool.true_and, List.getD_cons_zero, List.getD_cons_succ, List.contains_cons, List.contains_nil, Bool.or_true, Bool.true_or, Bool.or_false, Bool.false_or, Nat.reduceBEq, *]; done) | fail)) only [hq, hr, hw, b2s_one, Nat.le_refl, hc, go_sem, Hold.p, HoldK.k, HoldL.K, HoldL.body, Nat.reduceBEq, Nat.reduceAdd, reduceIte]
        rw [dec_big h1]
        exact ⟨rfl, E.push _⟩
      · simp (disch := (first | omega | assumption | (simp only [push_n, set_n, put_n, List.length_cons, List.length_nil, List.length_append, Nat.reduceAdd]; done) | (simp only [push_n, set_n, put_n, List.length_cons, List.length_nil, List.length_append]; omega) | (simp only [List.all_cons, List.all_nil, one_bool, one_int, one_str, one_ptr, one_nilptr, one_slice, one_eslice, one_nilslice, one_func, one_iface, one_niliface, Bool.and_true, Bool.true_and, List.getD_cons_zero, List.getD_cons_succ, List.contains_cons, List.contains_nil, Bool.or_true, Bool.true_or, Bool.or_false, Bool.false_or, Nat.reduceBEq, *]; done) | fail)) only [hq, hr, hw, b2s_one, Nat.le_refl, go_sem, Hold.p, HoldK.k, HoldL.K, HoldL.body, Nat.reduceBEq, Nat.reduceAdd, reduceIte]
        refine callA_of (ih (n / 10) hd _ (by omega)) ?_
        rintro r h2 ⟨rfl, E⟩
        simp (disch := (first | omega | assumption | (simp only [push_n, set_n, put_n, List.length_cons, List.length_nil, List.length_append, Nat.reduceAdd]; done) | (simp only [push_n, set_n, put_n, List.length_cons, List.length_nil, List.length_append]; omega) | (simp only [List.all_cons, List.all_nil, one_bool, one_int, one_str, one_ptr, one_nilptr, one_slice, one_eslice, one_nilslice, one_func, one_iface, one_niliface, Bool.and_true, Bool.true_and, List.getD_cons_zero, List.getD_cons_succ, List.contains_cons, List.contains_nil, Bool.or_true, Bool.true_or, Bool.or_false, Bool.false_or, Nat.reduceBEq, *]; done) | fail)) only [hq, hr, hw, b2s_one, Nat.le_refl, hc, go_sem, Hold.p, HoldK.k, HoldL.K, HoldL.body, Nat.reduceBEq, Nat.reduceAdd, reduceIte]
        have hb : h2.obj h.n = .rows [[IV.int .u8 ((UInt8.ofNat (48 + n % 10)).toNat : Int)]] 5 1 false := by
          rw [E.obj h.n (by rw [push_n]; omega)]
          exact push_new _ _
        refine ⟨?_, ?_⟩
        · rw [hb, b2sO_rows, if_pos (by simp), b2s_one]; rfl
        · rw [dec_big h1]
          exact ⟨rfl, ((Ext.refl _).push _).trans E⟩
end
end Go.Proofs.YtdpaehdolhdjdaaDoor

set_option maxRecDepth 20000
namespace Go.Proofs.YtdpaehdolhdjdaaDoor
open Go Go.IW
section
attribute [local go_sem] List.getElem?_cons_zero List.getElem?_cons_succ Option.bind_some List.map_cons List.map_nil Nat.zero_add if_true List.getD_cons_zero List.getD_cons_succ List.contains_cons List.contains_nil Bool.or_true Bool.true_or Bool.or_false Bool.false_or Bool.not_true Bool.not_false true_and and_true rowA_whole mid_get stO_mid rowO_rows cellO_rows push_n set_n push_at push_old set_here set_there set_pushT set_pushN set_set upd_ne Nat.add_assoc Nat.add_zero stO_1s stO_ws boxA_s List.all_cons List.all_nil one_bool one_int one_str one_ptr one_nilptr one_slice one_eslice one_nilslice one_func one_iface one_niliface Bool.and_true Bool.and_self List.length_cons List.length_nil Nat.one_ne_zero Nat.succ_ne_zero if_false List.set_cons_zero List.set_cons_succ lay_nil lay_1 lay_w Option.map_some

/-- A segment. -/
structure Seg where
  sp : Int
  dp : Int
  seq : Int
  ack : Int
  fl : Int
  win : Int
  mss : Int
  hs : Bool
  sc : Int
  so : Bool
  sacks : List (Int × Int)
  data : List UInt8
def Seg.cells (s : Seg) (vs vd : IV) : List IV := [.int .i64 s.sp, .int .i64 s.dp, .int .i64 s.seq, .int .i64 s.ack, .int .i64 s.fl, .int .i64 s.win, .int .i64 s.mss, .bool s.hs, .int .i64 s.sc, .bool s.so, vs, vd]
theorem lt_not (a b : Int) : decide (a < b) = !decide (b ≤ a) := by
  by_cases h : a < b
  · rw [decide_eq_true h, decide_eq_false (by omega)]; rfl
  · rw [decide_eq_false h, decide_eq_true (by omega)]; rfl

end
end Go.Proofs.YtdpaehdolhdjdaaDoor

set_option maxRecDepth 20000
namespace Go.Proofs.YtdpaehdolhdjdaaDoor
open Go Go.IW
section
attribute [local go_sem] List.getElem?_cons_zero List.getElem?_cons_succ Option.bind_some List.map_cons List.map_nil Nat.zero_add if_true List.getD_cons_zero List.getD_cons_succ List.contains_cons List.contains_nil Bool.or_true Bool.true_or Bool.or_false Bool.false_or Bool.not_true Bool.not_false true_and and_true rowA_whole mid_get stO_mid rowO_rows cellO_rows push_n set_n push_at push_old set_here set_there set_pushT set_pushN set_set upd_ne Nat.add_assoc Nat.add_zero stO_1s stO_ws boxA_s List.all_cons List.all_nil one_bool one_int one_str one_ptr one_nilptr one_slice one_eslice one_nilslice one_func one_iface one_niliface Bool.and_true Bool.and_self List.length_cons List.length_nil Nat.one_ne_zero Nat.succ_ne_zero if_false List.set_cons_zero List.set_cons_succ lay_nil lay_1 lay_w Option.map_some

/-! A segment's text. -/
def numI (n : Int) : List UInt8 := Lib.decDigits n.toNat
/-- The letter of flag i (SFRPAU). -/
def flLet : List (Nat × UInt8) := [(1, 83), (0, 70), (2, 82), (3, 80), (4, 65), (5, 85)]
def flHas (n : Int) (k : Nat) : Bool := decide (n.toNat / 2 ^ k % 2 = 1)
def flT (n : Int) (l : List (Nat × UInt8)) : List UInt8 := l.flatMap fun x => if flHas n x.1 = true then [x.2] else []
def flW (n : Int) : List UInt8 := if n = 0 then [45] else flT n flLet
def sackT (x : Int × Int) : List UInt8 := numI x.1 ++ [45] ++ numI x.2
def mssW : List UInt8 := [109, 115, 115]
def scaleW : List UInt8 := [115, 99, 97, 108, 101]
def sackokW : List UInt8 := [115, 97, 99, 107, 111, 107]
def sackW : List UInt8 := [115, 97, 99, 107]
def dataW : List UInt8 := [100, 97, 116, 97]
def w0 (s : Seg) : List (List UInt8) := [numI s.sp ++ [62] ++ numI s.dp, flW s.fl, numI s.seq, numI s.ack, numI s.win]
def w1 (s : Seg) : List (List UInt8) := if s.mss = 0 then [] else [mssW, numI s.mss]
def w2 (s : Seg) : List (List UInt8) := if s.hs = true then [scaleW, numI s.sc] else []
def w3 (s : Seg) : List (List UInt8) := if s.so = true then [sackokW] else []
def w4 (l : List (Int × Int)) : List (List UInt8) := l.flatMap fun x => [sackW, sackT x]
def w5 (s : Seg) : List (List UInt8) := if s.data = [] then [] else [dataW, s.data.flatMap hex2]
end
end Go.Proofs.YtdpaehdolhdjdaaDoor

namespace Go.Proofs.YtdpaehdolhdjdaaDoor
open Go Go.IW
end Go.Proofs.YtdpaehdolhdjdaaDoor

set_option maxRecDepth 20000
namespace Go.Proofs.YtdpaehdolhdjdaaDoor
open Go Go.IW
section
attribute [local go_sem] List.getElem?_cons_zero List.getElem?_cons_succ Option.bind_some List.map_cons List.map_nil Nat.zero_add if_true List.getD_cons_zero List.getD_cons_succ List.contains_cons List.contains_nil Bool.or_true Bool.true_or Bool.or_false Bool.false_or Bool.not_true Bool.not_false true_and and_true rowA_whole mid_get stO_mid rowO_rows cellO_rows push_n set_n push_at push_old set_here set_there set_pushT set_pushN set_set upd_ne Nat.add_assoc Nat.add_zero stO_1s stO_ws boxA_s List.all_cons List.all_nil one_bool one_int one_str one_ptr one_nilptr one_slice one_eslice one_nilslice one_func one_iface one_niliface Bool.and_true Bool.and_self List.length_cons List.length_nil Nat.one_ne_zero Nat.succ_ne_zero if_false List.set_cons_zero List.set_cons_succ lay_nil lay_1 lay_w Option.map_some

theorem all_step {α : Type} {p : List α} {f : α → Bool} {k : Nat} {b : α} (h : p[k]? = some b) : (p.take (k + 1)).all f = ((p.take k).all f && f b) := by
  rw [List.take_add_one, h]; simp
theorem all_bad {α : Type} {p : List α} {f : α → Bool} {k : Nat} {b : α} (h : p[k]? = some b) (hf : f b = false) : p.all f = false := by
  rw [List.all_eq_false]; exact ⟨b, List.mem_of_getElem? h, by rw [hf]; simp⟩

theorem u8_dec (c k : UInt8) : decide ((c.toNat : Int) = (k.toNat : Int)) = decide (c = k) := by
  by_cases h : c = k
  · subst h; simp
  · have h2 : ¬ ((c.toNat : Int) = (k.toNat : Int)) := fun e => h (UInt8.toNat_inj.1 (by omega))
    rw [decide_eq_false h, decide_eq_false h2]
theorem pathOK_nil : pathOK [] = false := rfl
theorem pathOK_head (c : UInt8) (r : List UInt8) : pathOK (c :: r) = (!(decide (((c :: r).length : Int) < 1) || decide (200 < ((c :: r).length : Int)) || !decide ((c.toNat : Int) = 47)) && (c :: r).all pathB) := by
  unfold pathOK
  have e1 : ((c :: r)[0]? == some 47) = decide ((c.toNat : Int) = 47) := by
    rw [List.getElem?_cons_zero]
    have := u8_dec c 47
    rw [show ((47 : UInt8).toNat : Int) = 47 from rfl] at this
    rw [this]
    by_cases h : c = 47
    · subst h; rfl
    · simp [h]
  have e2 : decide (1 ≤ (c :: r).length) = !decide (((c :: r).length : Int) < 1) := by
    rw [List.length_cons]
    have h1 : decide (1 ≤ r.length + 1) = true := decide_eq_true (by omega)
    have h2 : decide (((r.length + 1 : Nat) : Int) < 1) = false := decide_eq_false (by omega)
    rw [h1, h2]; rfl
  have e3 : decide ((c :: r).length ≤ 200) = !decide (200 < ((c :: r).length : Int)) := by
    by_cases h : (c :: r).length ≤ 200
    · rw [decide_eq_true h, decide_eq_false (by omega)]; rfl
    · rw [decide_eq_false h, decide_eq_true (by omega)]; rfl
  rw [e1, e2, e3]
  simp only [Bool.not_or, Bool.not_not]

theorem idx0 (c : UInt8) (r : List UInt8) : idxSF (.str (c :: r)) (.int .i64 0) = some (.int .u8 c.toNat) := rfl

theorem specPathOK_c (h : IH) (p : List UInt8) (hm : p.length ≤ 1048576) : ICalls Tryd.prog 149 [.str p] h fun r h' => r = .bool (pathOK p) ∧ h' = h := by
  refine icalls (.of ok149) (Nat.le_of_ble_eq_true rfl) ?_
  unfold c149
  cases p with
  | nil =>
    have d1 : decide (((0 : Nat) : Int) < 1) = true := rfl
    simp (disch := (first | omega | assumption | (simp only [push_n, set_n, put_n, List.length_cons, List.length_nil, List.length_append, Nat.reduceAdd]; done) | (simp only [push_n, set_n, put_n, List.length_cons, List.length_nil, List.length_append]; omega) | (simp only [List.all_cons, List.all_nil, one_bool, one_int, one_str, one_ptr, one_nilptr, one_slice, one_eslice, one_nilslice, one_func, one_iface, one_niliface, Bool.and_true, Bool.true_and, List.getD_cons_zero, List.getD_cons_succ, List.contains_cons, List.contains_nil, Bool.or_true, Bool.true_or, Bool.or_false, Bool.false_or, Nat.reduceBEq, *]; done) | fail)) only [d1, Bool.true_or, go_sem, Hold.p, HoldK.k, HoldL.K, HoldL.body, Nat.reduceBEq, Nat.reduceAdd, reduceIte]
    rw [pathOK_nil]
  | cons c r =>
    have h0 := idx0 c r
    have hp := pathOK_head c r
    generalize hP : c :: r = p at h0 hp hm ⊢
    simp (disch := (first | omega | assumption | (simp only [push_n, set_n, put_n, List.length_cons, List.length_nil, List.length_append, Nat.reduceAdd]; done) | (simp only [push_n, set_n, put_n, List.length_cons, List.length_nil, List.length_append]; omega) | (simp only [List.all_cons, List.all_nil, one_bool, one_int, one_str, one_ptr, one_nilptr, one_slice, one_eslice, one_nilslice, one_func, one_iface, one_niliface, Bool.and_true, Bool.true_and, List.getD_cons_zero, List.getD_cons_succ, List.contains_cons, List.contains_nil, Bool.or_true, Bool.true_or, Bool.or_false, Bool.false_or, Nat.reduceBEq, *]; done) | fail)) only [h0, go_sem, Hold.p, HoldK.k, HoldL.K, HoldL.body, Nat.reduceBEq, Nat.reduceAdd, reduceIte]
    refine test_of (fun hc => ?_) (fun hc => ?_)
    · simp (disch := (first | omega | assumption | (simp only [push_n, set_n, put_n, List.length_cons, List.length_nil, List.length_append, Nat.reduceAdd]; done) | (simp only [push_n, set_n, put_n, List.length_cons, List.length_nil, List.length_append]; omega) | (simp only [List.all_cons, List.all_nil, one_bool, one_int, one_str, one_ptr, one_nilptr, one_slice, one_eslice, one_nilslice, one_func, one_iface, one_niliface, Bool.and_true, Bool.true_and, List.getD_cons_zero, List.getD_cons_succ, List.contains_cons, List.contains_nil, Bool.or_true, Bool.true_or, Bool.or_false, Bool.false_or, Nat.reduceBEq, *]; done) | fail)) only [go_sem, Hold.p, HoldK.k, HoldL.K, HoldL.body, Nat.reduceBEq, Nat.reduceAdd, reduceIte]
      rw [hp, hc]; rfl
    · rw [hc] at hp
      simp (disch := (first | omega | assumption | (simp only [push_n, set_n, put_n, List.length_cons, List.length_nil, List.length_append, Nat.reduceAdd]; done) | (simp only [push_n, set_n, put_n, List.length_cons, List.length_nil, List.length_append]; omega) | (simp only [List.all_cons, List.all_nil, one_bool, one_int, one_str, one_ptr, one_nilptr, one_slice, one_eslice, one_nilslice, one_func, one_iface, one_niliface, Bool.and_true, Bool.true_and, List.getD_cons_zero, List.getD_cons_succ, List.contains_cons, List.contains_nil, Bool.or_true, Bool.true_or, Bool.or_false, Bool.false_or, Nat.reduceBEq, *]; done) | fail)) only [go_sem, Hold.p, HoldK.k, HoldL.K, HoldL.body, Nat.reduceBEq, Nat.reduceAdd, reduceIte]
      refine loop_at (fun m e g => ∃ k : Nat, m = p.length - k ∧ k ≤ p.length ∧ e 0 = .str p ∧ e 3 = .int .i64 (k : Nat) ∧ (p.take k).all pathB = true ∧ g = h) p.length ?_ ?_
      · refine ⟨0, by omega, by omega, ?_⟩
        simp (disch := (first | omega | assumption | (simp only [push_n, set_n, put_n, List.length_cons, List.length_nil, List.length_append, Nat.reduceAdd]; done) | (simp only [push_n, set_n, put_n, List.length_cons, List.length_nil, List.length_append]; omega) | (simp only [List.all_cons, List.all_nil, one_bool, one_int, one_str, one_ptr, one_nilptr, one_slice, one_eslice, one_nilslice, one_func, one_iface, one_niliface, Bool.and_true, Bool.true_and, List.getD_cons_zero, List.getD_cons_succ, List.contains_cons, List.contains_nil, Bool.or_true, Bool.true_or, Bool.or_false, Bool.false_or, Nat.reduceBEq, *]; done) | fail)) only [go_sem, Hold.p, HoldK.k, HoldL.K, HoldL.body, Nat.reduceBEq, Nat.reduceAdd, reduceIte]
        exact ⟨rfl, rfl⟩
      · rintro m e g ⟨k, rfl, hk, i0, i3, hall, rfl⟩
        simp (disch := (first | omega | assumption | (simp only [push_n, set_n, put_n, List.length_cons, List.length_nil, List.length_append, Nat.reduceAdd]; done) | (simp only [push_n, set_n, put_n, List.length_cons, List.length_nil, List.length_append]; omega) | (simp only [List.all_cons, List.all_nil, one_bool, one_int, one_str, one_ptr, one_nilptr, one_slice, one_eslice, one_nilslice, one_func, one_iface, one_niliface, Bool.and_true, Bool.true_and, List.getD_cons_zero, List.getD_cons_succ, List.contains_cons, List.contains_nil, Bool.or_true, Bool.true_or, Bool.or_false, Bool.false_or, Nat.reduceBEq, *]; done) | fail)) only [i0, i3, go_sem, Hold.p, HoldK.k, HoldL.K, HoldL.body, Nat.reduceBEq, Nat.reduceAdd, reduceIte]
        refine test_dec (fun hb => ?_) (fun hb => ?_)
        · have hk' : k < p.length := by omega
          obtain ⟨b, hb'⟩ : ∃ b, p[k]? = some b := ⟨_, List.getElem?_eq_getElem hk'⟩
          have hx := idxS_at (q := .i64) hb'
          have w1 : wr .i64 ((k : Int) + 1) = ((k + 1 : Nat) : Int) := by rw [wr64 _ (by omega)]; rfl
          simp (disch := (first | omega | assumption | (simp only [push_n, set_n, put_n, List.length_cons, List.length_nil, List.length_append, Nat.reduceAdd]; done) | (simp only [push_n, set_n, put_n, List.length_cons, List.length_nil, List.length_append]; omega) | (simp only [List.all_cons, List.all_nil, one_bool, one_int, one_str, one_ptr, one_nilptr, one_slice, one_eslice, one_nilslice, one_func, one_iface, one_niliface, Bool.and_true, Bool.true_and, List.getD_cons_zero, List.getD_cons_succ, List.contains_cons, List.contains_nil, Bool.or_true, Bool.true_or, Bool.or_false, Bool.false_or, Nat.reduceBEq, *]; done) | fail)) only [i0, i3, hx, go_sem, Hold.p, HoldK.k, HoldL.K, HoldL.body, Nat.reduceBEq, Nat.reduceAdd, reduceIte]
          refine callA_of (l20Plain_c _ b) ?_
          rintro r' g' ⟨rfl, rfl⟩
          simp (disch := (first | omega | assumption | (simp only [push_n, set_n, put_n, List.length_cons, List.length_nil, List.length_append, Nat.reduceAdd]; done) | (simp only [push_n, set_n, put_n, List.length_cons, List.length_nil, List.length_append]; omega) | (simp only [List.all_cons, List.all_nil, one_bool, one_int, one_str, one_ptr, one_nilptr, one_slice, one_eslice, one_nilslice, one_func, one_iface, one_niliface, Bool.and_true, Bool.true_and, List.getD_cons_zero, List.getD_cons_succ, List.contains_cons, List.contains_nil, Bool.or_true, Bool.true_or, Bool.or_false, Bool.false_or, Nat.reduceBEq, *]; done) | fail)) only [i0, i3, hx, go_sem, Hold.p, HoldK.k, HoldL.K, HoldL.body, Nat.reduceBEq, Nat.reduceAdd, reduceIte]
          have hpb : (!plainB b || decide ((b.toNat : Int) = 58)) = !pathB b := by unfold pathB; simp
          rw [hpb]
          refine test_of (fun hc2 => ?_) (fun hc2 => ?_)
          · simp (disch := (first | omega | assumption | (simp only [push_n, set_n, put_n, List.length_cons, List.length_nil, List.length_append, Nat.reduceAdd]; done) | (simp only [push_n, set_n, put_n, List.length_cons, List.length_nil, List.length_append]; omega) | (simp only [List.all_cons, List.all_nil, one_bool, one_int, one_str, one_ptr, one_nilptr, one_slice, one_eslice, one_nilslice, one_func, one_iface, one_niliface, Bool.and_true, Bool.true_and, List.getD_cons_zero, List.getD_cons_succ, List.contains_cons, List.contains_nil, Bool.or_true, Bool.true_or, Bool.or_false, Bool.false_or, Nat.reduceBEq, *]; done) | fail)) only [go_sem, Hold.p, HoldK.k, HoldL.K, HoldL.body, Nat.reduceBEq, Nat.reduceAdd, reduceIte]
            rw [hp, all_bad hb' (by simpa using hc2)]; rfl
          · simp (disch := (first | omega | assumption | (simp only [push_n, set_n, put_n, List.length_cons, List.length_nil, List.length_append, Nat.reduceAdd]; done) | (simp only [push_n, set_n, put_n, List.length_cons, List.length_nil, List.length_append]; omega) | (simp only [List.all_cons, List.all_nil, one_bool, one_int, one_str, one_ptr, one_nilptr, one_slice, one_eslice, one_nilslice, one_func, one_iface, one_niliface, Bool.and_true, Bool.true_and, List.getD_cons_zero, List.getD_cons_succ, List.contains_cons, List.contains_nil, Bool.or_true, Bool.true_or, Bool.or_false, Bool.false_or, Nat.reduceBEq, *]; done) | fail)) only [i0, i3, w1, go_sem, Hold.p, HoldK.k, HoldL.K, HoldL.body, Nat.reduceBEq, Nat.reduceAdd, reduceIte]
            refine ⟨_, ?_, k + 1, rfl, by omega, rfl, ?_⟩
            · omega
            · rw [all_step hb', hall]; simpa using hc2
        · have hk' : k = p.length := by omega
          subst hk'
          simp (disch := (first | omega | assumption | (simp only [push_n, set_n, put_n, List.length_cons, List.length_nil, List.length_append, Nat.reduceAdd]; done) | (simp only [push_n, set_n, put_n, List.length_cons, List.length_nil, List.length_append]; omega) | (simp only [List.all_cons, List.all_nil, one_bool, one_int, one_str, one_ptr, one_nilptr, one_slice, one_eslice, one_nilslice, one_func, one_iface, one_niliface, Bool.and_true, Bool.true_and, List.getD_cons_zero, List.getD_cons_succ, List.contains_cons, List.contains_nil, Bool.or_true, Bool.true_or, Bool.or_false, Bool.false_or, Nat.reduceBEq, *]; done) | fail)) only [go_sem, Hold.p, HoldK.k, HoldL.K, HoldL.body, Nat.reduceBEq, Nat.reduceAdd, reduceIte]
          rw [List.take_length] at hall
          rw [hp, hall]; rfl

/-! Verbs. -/
def verbB (v : List UInt8) : Bool := ((decide (v = [103, 101, 116]) || decide (v = [112, 117, 116])) || decide (v = [100, 101, 108, 101, 116, 101])) || decide (v = [108, 105, 115, 116])
theorem verbOK_c (h : IH) (v : List UInt8) : ICalls Tryd.prog 148 [.str v] h fun r h' => r = .bool (verbB v) ∧ h' = h := by
  refine icalls (.of ok148) (Nat.le_of_ble_eq_true rfl) ?_
  unfold c148
  simp (disch := (first | omega | assumption | (simp only [push_n, set_n, put_n, List.length_cons, List.length_nil, List.length_append, Nat.reduceAdd]; done) | (simp only [push_n, set_n, put_n, List.length_cons, List.length_nil, List.length_append]; omega) | (simp only [List.all_cons, List.all_nil, one_bool, one_int, one_str, one_ptr, one_nilptr, one_slice, one_eslice, one_nilslice, one_func, one_iface, one_niliface, Bool.and_true, Bool.true_and, List.getD_cons_zero, List.getD_cons_succ, List.contains_cons, List.contains_nil, Bool.or_true, Bool.true_or, Bool.or_false, Bool.false_or, Nat.reduceBEq, *]; done) | fail)) only [go_sem, Hold.p, HoldK.k, HoldL.K, HoldL.body, Nat.reduceBEq, Nat.reduceAdd, reduceIte]
  rfl

/-! Fields. -/
def headOK (n v : List UInt8) : Bool := decide (1 ≤ n.length) && decide (n.length ≤ 40) && !decide (n = lengthS) && decide (v.length ≤ 200)
theorem headC (n v : List UInt8) : (((decide ((n.length : Int) < 1) || decide (40 < (n.length : Int))) || decide (n = [108, 101, 110, 103, 116, 104])) || decide (200 < (v.length : Int))) = !headOK n v := by
  unfold headOK
  have e1 : decide ((n.length : Int) < 1) = !decide (1 ≤ n.length) := by
    by_cases h : 1 ≤ n.length
    · rw [decide_eq_true h, decide_eq_false (by omega)]; rfl
    · rw [decide_eq_false h, decide_eq_true (by omega)]; rfl
  have e2 : decide (40 < (n.length : Int)) = !decide (n.length ≤ 40) := by
    by_cases h : n.length ≤ 40
    · rw [decide_eq_true h, decide_eq_false (by omega)]; rfl
    · rw [decide_eq_false h, decide_eq_true (by omega)]; rfl
  have e3 : decide (200 < (v.length : Int)) = !decide (v.length ≤ 200) := by
    by_cases h : v.length ≤ 200
    · rw [decide_eq_true h, decide_eq_false (by omega)]; rfl
    · rw [decide_eq_false h, decide_eq_true (by omega)]; rfl
  rw [e1, e2, e3]
  simp only [Bool.not_and, Bool.not_not, lengthS]
  rfl
theorem fieldOK_eq (n v : List UInt8) : fieldOK n v = (headOK n v && n.all nameB && v.all valB && noEnds v) := by
  unfold fieldOK headOK; simp only [Bool.and_assoc]
theorem headOK_len {n v : List UInt8} (h : headOK n v = true) : 1 ≤ n.length ∧ n.length ≤ 40 ∧ v.length ≤ 200 := by
  unfold headOK at h
  simp only [Bool.and_eq_true, decide_eq_true_eq] at h
  exact ⟨h.1.1.1, h.1.1.2, h.2⟩
theorem nameC (b : UInt8) : ((decide ((b.toNat : Int) < 97) || decide (122 < (b.toNat : Int))) && !decide ((b.toNat : Int) = 45)) = !nameB b := by
  unfold nameB
  rw [lt_not, lt_not]
  simp only [Bool.not_or, Bool.not_and]
theorem valC (b : UInt8) : (decide ((b.toNat : Int) < 32) || decide (126 < (b.toNat : Int))) = !valB b := by
  unfold valB
  rw [lt_not, lt_not]
  simp only [Bool.not_and]
end
end Go.Proofs.YtdpaehdolhdjdaaDoor
