import Derived.Test.YtecljenjlncfhaaK2
import Derived.Test.YtecljenjlncfhaaProg
import Derived.KernelRfl
import Derived.Test.YtecljenjlncfhaaK3
set_option linter.unusedSimpArgs false
set_option linter.unusedVariables false
namespace Go.Proofs.Ytecljenjlncfhaa
open Go Go.IW
/-- loop.example/g00003/laws.FnExactShowData -/
def c3 : CC :=
 (.seq (.reg [
   ⟨(some 2), none, .f (.mv (.c (.bool false)))⟩])
 (.seq (.seq (.reg [
   ⟨(some 8), none, .f (.mv (.t 0))⟩,
   ⟨(some 9), none, .f (.len (.t 8))⟩,
   ⟨(some 10), none, .f (.bin .gtr (.t 9) (.c (.int .i64 1048576)))⟩])
 (.cond (.t 10)
  (.seq (.reg [
    ⟨(some 2), none, .f (.mv (.c (.bool true)))⟩])
  .ret)
  .skip))
 (.seq (.reg [
   ⟨(some 12), none, .f (.mv (.t 0))⟩,
   ⟨(some 13), none, .x (.call 14 [(.t 12)])⟩,
   ⟨(some 14), none, .x (.call 13 [(.t 13)])⟩,
   ⟨(some 11), none, .f (.mv (.t 14))⟩,
   ⟨(some 15), none, .f (.ext 0 (.t 11))⟩,
   ⟨(some 16), none, .f (.ext 1 (.t 11))⟩,
   ⟨(some 3), none, .f (.mv (.t 15))⟩,
   ⟨(some 4), none, .f (.mv (.t 16))⟩])
 (.seq (.reg [
   ⟨(some 17), none, .f (.mv (.t 0))⟩,
   ⟨(some 18), none, .x (.call 14 [(.t 17)])⟩,
   ⟨(some 5), none, .f (.mv (.t 18))⟩])
 (.seq (.reg [
   ⟨(some 20), none, .f (.mv (.t 5))⟩,
   ⟨(some 21), none, .x (.call 15 [(.t 20)])⟩,
   ⟨(some 19), none, .f (.mv (.t 21))⟩,
   ⟨(some 22), none, .f (.ext 0 (.t 19))⟩,
   ⟨(some 23), none, .f (.ext 1 (.t 19))⟩,
   ⟨(some 6), none, .f (.mv (.t 22))⟩,
   ⟨(some 7), none, .f (.mv (.t 23))⟩])
 (.seq (.seq (.reg [
   ⟨(some 24), none, .f (.mv (.t 6))⟩,
   ⟨(some 25), none, .f (.mv (.t 3))⟩,
   ⟨(some 26), none, .f (.bin .neq (.t 24) (.t 25))⟩,
   ⟨(some 27), none, .f (.mv (.t 26))⟩,
   ⟨(some 28), (some (27, false)), .f (.mv (.t 7))⟩,
   ⟨(some 29), (some (27, false)), .f (.mv (.t 4))⟩,
   ⟨(some 30), (some (27, false)), .f (.bin .neq (.t 28) (.t 29))⟩,
   ⟨(some 31), none, .f (.pick (.t 27) (.c (.bool true)) (.t 30))⟩])
 (.cond (.t 31)
  (.seq (.reg [
    ⟨(some 2), none, .f (.mv (.c (.bool false)))⟩])
  .ret)
  .skip))
 (.seq (.seq (.reg [
   ⟨(some 32), none, .f (.mv (.t 5))⟩,
   ⟨(some 33), none, .f (.mv (.t 0))⟩,
   ⟨(some 34), none, .x (.call 14 [(.t 33)])⟩,
   ⟨(some 35), none, .x (.call 16 [(.t 32), (.t 34)])⟩,
   ⟨(some 36), none, .f (.un .not (.t 35))⟩])
 (.cond (.t 36)
  (.seq (.reg [
    ⟨(some 2), none, .f (.mv (.c (.bool false)))⟩])
  .ret)
  .skip))
 (.seq (.reg [
   ⟨(some 2), none, .f (.mv (.c (.bool true)))⟩])
 .ret))))))))
theorem ok3 : fnComp Try.prog 3 = some (37, c3, [(.mv (.t 2))]) := by kernel_rfl

/-- loop.example/g00003/laws.FnExactReadData -/
def c4 : CC :=
 (.seq (.reg [
   ⟨(some 2), none, .f (.mv (.c (.bool false)))⟩])
 (.seq (.seq (.reg [
   ⟨(some 11), none, .f (.mv (.t 0))⟩,
   ⟨(some 12), none, .f (.lenS (.t 11))⟩,
   ⟨(some 13), none, .f (.bin .gtr (.t 12) (.c (.int .i64 1048576)))⟩])
 (.cond (.t 13)
  (.seq (.reg [
    ⟨(some 2), none, .f (.mv (.c (.bool true)))⟩])
  .ret)
  .skip))
 (.seq (.reg [
   ⟨(some 15), none, .f (.mv (.t 0))⟩,
   ⟨(some 16), none, .x (.call 17 [(.t 15)])⟩,
   ⟨(some 14), none, .f (.mv (.t 16))⟩,
   ⟨(some 17), none, .f (.ext 0 (.t 14))⟩,
   ⟨(some 18), none, .f (.ext 1 (.t 14))⟩,
   ⟨(some 3), none, .f (.mv (.t 17))⟩,
   ⟨(some 4), none, .f (.mv (.t 18))⟩])
 (.seq (.reg [
   ⟨(some 20), none, .f (.mv (.t 0))⟩,
   ⟨(some 21), none, .x (.call 18 [(.t 20)])⟩,
   ⟨(some 19), none, .f (.mv (.t 21))⟩,
   ⟨(some 22), none, .f (.ext 0 (.t 19))⟩,
   ⟨(some 23), none, .f (.ext 1 (.t 19))⟩,
   ⟨(some 5), none, .f (.mv (.t 22))⟩,
   ⟨(some 6), none, .f (.mv (.t 23))⟩])
 (.seq (.seq (.reg [
   ⟨(some 24), none, .f (.mv (.t 5))⟩,
   ⟨(some 25), none, .f (.mv (.t 3))⟩,
   ⟨(some 26), none, .x (.call 16 [(.t 24), (.t 25)])⟩,
   ⟨(some 27), none, .f (.un .not (.t 26))⟩,
   ⟨(some 28), none, .f (.mv (.t 27))⟩,
   ⟨(some 29), (some (28, false)), .f (.mv (.t 6))⟩,
   ⟨(some 30), (some (28, false)), .f (.mv (.t 4))⟩,
   ⟨(some 31), (some (28, false)), .f (.bin .neq (.t 29) (.t 30))⟩,
   ⟨(some 32), none, .f (.pick (.t 28) (.c (.bool true)) (.t 31))⟩])
 (.cond (.t 32)
  (.seq (.reg [
    ⟨(some 2), none, .f (.mv (.c (.bool false)))⟩])
  .ret)
  .skip))
 (.seq (.reg [
   ⟨(some 7), none, .f (.mv (.c (.int .i64 1)))⟩])
 (.seq (.reg [
   ⟨(some 33), none, .f (.mv (.t 5))⟩,
   ⟨(some 34), none, .f (.mv (.t 7))⟩,
   ⟨(some 35), none, .x (.call 19 [(.t 33), (.t 34)])⟩,
   ⟨(some 7), none, .f (.mv (.t 35))⟩])
 (.seq (.reg [
   ⟨(some 8), none, .f (.mv (.c (.int .i64 1)))⟩])
 (.seq (.reg [
   ⟨(some 36), none, .f (.mv (.t 5))⟩,
   ⟨(some 37), none, .f (.mv (.t 8))⟩,
   ⟨(some 38), none, .x (.call 20 [(.t 36), (.t 37)])⟩,
   ⟨(some 8), none, .f (.mv (.t 38))⟩])
 (.seq (.seq (.reg [
   ⟨(some 39), none, .f (.mv (.t 8))⟩,
   ⟨(some 40), none, .f (.bin .lss (.t 39) (.c (.int .i64 0)))⟩])
 (.cond (.t 40)
  (.seq (.reg [
    ⟨(some 2), none, .f (.mv (.c (.bool false)))⟩])
  .ret)
  .skip))
 (.seq (.seq (.reg [
   ⟨(some 41), none, .f (.mv (.t 8))⟩,
   ⟨(some 42), none, .f (.mv (.t 7))⟩,
   ⟨(some 43), none, .f (.bin .neq (.t 41) (.t 42))⟩])
 (.cond (.t 43)
  (.seq (.reg [
    ⟨(some 2), none, .f (.mv (.c (.bool false)))⟩])
  .ret)
  .skip))
 (.seq (.reg [
   ⟨(some 45), none, .f (.mv (.t 0))⟩,
   ⟨(some 46), none, .x (.call 18 [(.t 45)])⟩,
   ⟨(some 44), none, .f (.mv (.t 46))⟩,
   ⟨(some 47), none, .f (.ext 0 (.t 44))⟩,
   ⟨(some 48), none, .f (.ext 1 (.t 44))⟩,
   ⟨(some 9), none, .f (.mv (.t 47))⟩,
   ⟨(some 10), none, .f (.mv (.t 48))⟩])
 (.seq (.seq (.reg [
   ⟨(some 49), none, .f (.mv (.t 9))⟩,
   ⟨(some 50), none, .f (.mv (.t 3))⟩,
   ⟨(some 51), none, .x (.call 16 [(.t 49), (.t 50)])⟩,
   ⟨(some 52), none, .f (.un .not (.t 51))⟩,
   ⟨(some 53), none, .f (.mv (.t 52))⟩,
   ⟨(some 54), (some (53, false)), .f (.mv (.t 10))⟩,
   ⟨(some 55), (some (53, false)), .f (.mv (.t 4))⟩,
   ⟨(some 56), (some (53, false)), .f (.bin .neq (.t 54) (.t 55))⟩,
   ⟨(some 57), none, .f (.pick (.t 53) (.c (.bool true)) (.t 56))⟩])
 (.cond (.t 57)
  (.seq (.reg [
    ⟨(some 2), none, .f (.mv (.c (.bool false)))⟩])
  .ret)
  .skip))
 (.seq (.reg [
   ⟨(some 8), none, .f (.mv (.c (.int .i64 1)))⟩])
 (.seq (.reg [
   ⟨(some 58), none, .f (.mv (.t 5))⟩,
   ⟨(some 59), none, .f (.mv (.t 8))⟩,
   ⟨(some 60), none, .x (.call 20 [(.t 58), (.t 59)])⟩,
   ⟨(some 8), none, .f (.mv (.t 60))⟩])
 (.seq (.seq (.reg [
   ⟨(some 61), none, .f (.mv (.t 8))⟩,
   ⟨(some 62), none, .f (.bin .lss (.t 61) (.c (.int .i64 0)))⟩])
 (.cond (.t 62)
  (.seq (.reg [
    ⟨(some 2), none, .f (.mv (.c (.bool false)))⟩])
  .ret)
  .skip))
 (.seq (.seq (.reg [
   ⟨(some 63), none, .f (.mv (.t 8))⟩,
   ⟨(some 64), none, .f (.mv (.t 7))⟩,
   ⟨(some 65), none, .f (.bin .neq (.t 63) (.t 64))⟩])
 (.cond (.t 65)
  (.seq (.reg [
    ⟨(some 2), none, .f (.mv (.c (.bool false)))⟩])
  .ret)
  .skip))
 (.seq (.reg [
   ⟨(some 2), none, .f (.mv (.c (.bool true)))⟩])
 .ret))))))))))))))))))
theorem ok4 : fnComp Try.prog 4 = some (66, c4, [(.mv (.t 2))]) := by kernel_rfl

/-- loop.example/g00003/spec.ShowData -/
def c13 : CC :=
 (.seq (.reg [
   ⟨(some 2), none, .f (.mv (.c (.str [])))⟩,
   ⟨(some 3), none, .f (.mv (.c (.int .i64 0)))⟩])
 (.seq (.seq (.reg [
   ⟨(some 6), none, .f (.mv (.t 0))⟩,
   ⟨(some 7), none, .f (.len (.t 6))⟩,
   ⟨(some 8), none, .f (.bin .gtr (.t 7) (.c (.int .i64 60000)))⟩])
 (.cond (.t 8)
  (.seq (.reg [
    ⟨(some 2), none, .f (.mv (.c (.str [])))⟩,
    ⟨(some 3), none, .f (.mv (.c (.int .i64 7)))⟩])
  .ret)
  .skip))
 (.seq (.seq (.reg [
   ⟨(some 9), none, .f (.mv (.t 0))⟩,
   ⟨(some 10), none, .f (.len (.t 9))⟩,
   ⟨(some 11), none, .f (.bin .eql (.t 10) (.c (.int .i64 0)))⟩])
 (.cond (.t 11)
  (.seq (.reg [
    ⟨(some 2), none, .f (.mv (.c (.str [61])))⟩,
    ⟨(some 3), none, .f (.mv (.c (.int .i64 0)))⟩])
  .ret)
  .skip))
 (.seq (.reg [
   ⟨(some 12), none, .x (.bslice 5 1 [(.int .u8 0)] 0 [])⟩,
   ⟨(some 4), none, .f (.mv (.t 12))⟩])
 (.seq (.seq (.reg [
   ⟨(some 5), none, .f (.mv (.c (.int .i64 0)))⟩])
 (.block 0 (.loop (.seq (.seq (.reg [
     ⟨(some 13), none, .f (.mv (.t 5))⟩,
     ⟨(some 14), none, .f (.mv (.t 0))⟩,
     ⟨(some 15), none, .f (.len (.t 14))⟩,
     ⟨(some 16), none, .f (.bin .lss (.t 13) (.t 15))⟩])
   (.cond (.t 16)
    .skip
    (.exit 0)))
   (.seq (.block 1 (.seq (.seq (.reg [
      ⟨(some 19), none, .f (.mv (.t 0))⟩,
      ⟨(some 20), none, .f (.mv (.t 5))⟩,
      ⟨(some 21), none, .f (.iadr 1 (.t 19) (.t 20))⟩,
      ⟨(some 22), none, .f (.ld (.t 21))⟩,
      ⟨(some 23), none, .x (.call 54 [(.t 22)])⟩])
    (.cond (.t 23)
     (.seq (.reg [
       ⟨(some 24), none, .f (.mv (.t 4))⟩,
       ⟨(some 25), none, .f (.mv (.t 0))⟩,
       ⟨(some 26), none, .f (.mv (.t 5))⟩,
       ⟨(some 27), none, .f (.iadr 1 (.t 25) (.t 26))⟩,
       ⟨(some 28), none, .f (.ld (.t 27))⟩,
       ⟨(some 29), none, .x (.bslice 5 1 [(.int .u8 0)] 1 [(0, (.t 28))])⟩,
       ⟨(some 30), none, .x (.app 5 1 1 (.t 24) (.t 29))⟩,
       ⟨(some 4), none, .f (.mv (.t 30))⟩])
     (.exit 1))
     .skip))
    (.seq (.reg [
      ⟨(some 31), none, .f (.mv (.t 4))⟩,
      ⟨(some 32), none, .x (.bslice 5 1 [(.int .u8 0)] 1 [(0, (.c (.int .u8 37)))])⟩,
      ⟨(some 33), none, .x (.app 5 1 1 (.t 31) (.t 32))⟩,
      ⟨(some 4), none, .f (.mv (.t 33))⟩])
    (.reg [
      ⟨(some 34), none, .f (.mv (.t 4))⟩,
      ⟨(some 35), none, .f (.mv (.t 0))⟩,
      ⟨(some 36), none, .f (.mv (.t 5))⟩,
      ⟨(some 37), none, .f (.mv (.t 5))⟩,
      ⟨(some 38), none, .f (.bin .add (.t 37) (.c (.int .i64 1)))⟩,
      ⟨(some 39), none, .f (.slc 1 (.t 35) (some (.t 36)) (some (.t 38)) none)⟩,
      ⟨(some 40), none, .x (.call 55 [(.t 39)])⟩,
      ⟨(some 41), none, .x (.s2b 5 (.t 40))⟩,
      ⟨(some 42), none, .x (.app 5 1 1 (.t 34) (.t 41))⟩,
      ⟨(some 4), none, .f (.mv (.t 42))⟩]))))
   (.reg [
     ⟨(some 17), none, .f (.mv (.t 5))⟩,
     ⟨(some 18), none, .f (.bin .add (.t 17) (.c (.int .i64 1)))⟩,
     ⟨(some 5), none, .f (.mv (.t 18))⟩]))))))
 (.seq (.reg [
   ⟨(some 43), none, .f (.mv (.t 4))⟩,
   ⟨(some 44), none, .f (.b2s (.t 43))⟩,
   ⟨(some 2), none, .f (.mv (.t 44))⟩,
   ⟨(some 3), none, .f (.mv (.c (.int .i64 0)))⟩])
 .ret))))))
theorem ok13 : fnComp Try.prog 13 = some (45, c13, [(.mv (.t 2)), (.mv (.t 3))]) := by kernel_rfl

/-- loop.example/g00003/laws.toByteS -/
def c14 : CC :=
 (.seq (.reg [
   ⟨(some 2), none, .f (.mv (.c .nilslice))⟩])
 (.seq (.reg [
   ⟨(some 5), none, .f (.mv (.t 0))⟩,
   ⟨(some 6), none, .f (.len (.t 5))⟩,
   ⟨(some 7), none, .x (.mks 5 1 1 [(.int .u8 0)] (.t 6) (.t 6))⟩,
   ⟨(some 3), none, .f (.mv (.t 7))⟩])
 (.seq (.seq (.reg [
   ⟨(some 4), none, .f (.mv (.c (.int .i64 0)))⟩])
 (.block 0 (.loop (.seq (.seq (.reg [
     ⟨(some 8), none, .f (.mv (.t 4))⟩,
     ⟨(some 9), none, .f (.mv (.t 0))⟩,
     ⟨(some 10), none, .f (.len (.t 9))⟩,
     ⟨(some 11), none, .f (.bin .lss (.t 8) (.t 10))⟩])
   (.cond (.t 11)
    .skip
    (.exit 0)))
   (.seq (.block 1 (.reg [
      ⟨(some 14), none, .f (.mv (.t 3))⟩,
      ⟨(some 15), none, .f (.mv (.t 4))⟩,
      ⟨(some 16), none, .f (.mv (.t 0))⟩,
      ⟨(some 17), none, .f (.mv (.t 4))⟩,
      ⟨(some 18), none, .f (.iadr 1 (.t 16) (.t 17))⟩,
      ⟨(some 19), none, .f (.ld (.t 18))⟩,
      ⟨(some 20), none, .f (.iadr 1 (.t 14) (.t 15))⟩,
      ⟨none, none, .x (.st 1 (.t 20) (.t 19))⟩]))
   (.reg [
     ⟨(some 12), none, .f (.mv (.t 4))⟩,
     ⟨(some 13), none, .f (.bin .add (.t 12) (.c (.int .i64 1)))⟩,
     ⟨(some 4), none, .f (.mv (.t 13))⟩]))))))
 (.seq (.reg [
   ⟨(some 21), none, .f (.mv (.t 3))⟩,
   ⟨(some 2), none, .f (.mv (.t 21))⟩])
 .ret))))
theorem ok14 : fnComp Try.prog 14 = some (22, c14, [(.mv (.t 2))]) := by kernel_rfl

/-- loop.example/g00003/impl.ShowData -/
def c15 : CC :=
 (.seq (.reg [
   ⟨(some 2), none, .f (.mv (.c (.str [])))⟩,
   ⟨(some 3), none, .f (.mv (.c (.int .i64 0)))⟩])
 (.seq (.seq (.reg [
   ⟨(some 7), none, .f (.mv (.t 0))⟩,
   ⟨(some 8), none, .f (.len (.t 7))⟩,
   ⟨(some 9), none, .f (.bin .gtr (.t 8) (.c (.int .i64 60000)))⟩])
 (.cond (.t 9)
  (.seq (.reg [
    ⟨(some 2), none, .f (.mv (.c (.str [])))⟩,
    ⟨(some 3), none, .f (.mv (.c (.int .i64 7)))⟩])
  .ret)
  .skip))
 (.seq (.seq (.reg [
   ⟨(some 10), none, .f (.mv (.t 0))⟩,
   ⟨(some 11), none, .f (.len (.t 10))⟩,
   ⟨(some 12), none, .f (.bin .eql (.t 11) (.c (.int .i64 0)))⟩])
 (.cond (.t 12)
  (.seq (.reg [
    ⟨(some 2), none, .f (.mv (.c (.str [61])))⟩,
    ⟨(some 3), none, .f (.mv (.c (.int .i64 0)))⟩])
  .ret)
  .skip))
 (.seq (.reg [
   ⟨(some 4), none, .x (.zero 91 2 [.nilptr, .nilslice])⟩])
 (.seq (.seq (.reg [
   ⟨(some 13), none, .f (.mv (.t 0))⟩,
   ⟨(some 14), none, .f (.len (.t 13))⟩,
   ⟨(some 15), none, .f (.mv (.c (.int .i64 0)))⟩])
 (.block 0 (.loop (.seq (.reg [
     ⟨(some 16), none, .f (.bin .lss (.t 15) (.t 14))⟩])
   (.seq (.cond (.t 16)
    .skip
    (.exit 0))
   (.seq (.block 1 (.seq (.reg [
      ⟨(some 17), none, .f (.iadr 1 (.t 13) (.t 15))⟩,
      ⟨(some 18), none, .f (.ld (.t 17))⟩,
      ⟨(some 6), none, .f (.mv (.t 18))⟩])
    (.seq (.reg [
      ⟨(some 19), none, .f (.mv (.t 6))⟩,
      ⟨(some 20), none, .f (.bin .geq (.t 19) (.c (.int .u8 97)))⟩,
      ⟨(some 21), none, .f (.mv (.t 20))⟩,
      ⟨(some 22), (some (21, true)), .f (.mv (.t 6))⟩,
      ⟨(some 23), (some (21, true)), .f (.bin .leq (.t 22) (.c (.int .u8 122)))⟩,
      ⟨(some 24), none, .f (.pick (.t 21) (.t 23) (.c (.bool false)))⟩,
      ⟨(some 25), none, .f (.mv (.t 24))⟩,
      ⟨(some 26), (some (25, false)), .f (.mv (.t 6))⟩,
      ⟨(some 27), (some (25, false)), .f (.bin .geq (.t 26) (.c (.int .u8 65)))⟩,
      ⟨(some 28), (some (25, false)), .f (.mv (.t 27))⟩,
      ⟨(some 29), (some (28, true)), .f (.mv (.t 6))⟩,
      ⟨(some 30), (some (28, true)), .f (.bin .leq (.t 29) (.c (.int .u8 90)))⟩,
      ⟨(some 31), (some (25, false)), .f (.pick (.t 28) (.t 30) (.c (.bool false)))⟩,
      ⟨(some 32), none, .f (.pick (.t 25) (.c (.bool true)) (.t 31))⟩,
      ⟨(some 33), none, .f (.mv (.t 32))⟩,
      ⟨(some 34), (some (33, false)), .f (.mv (.t 6))⟩,
      ⟨(some 35), (some (33, false)), .f (.bin .geq (.t 34) (.c (.int .u8 48)))⟩,
      ⟨(some 36), (some (33, false)), .f (.mv (.t 35))⟩,
      ⟨(some 37), (some (36, true)), .f (.mv (.t 6))⟩,
      ⟨(some 38), (some (36, true)), .f (.bin .leq (.t 37) (.c (.int .u8 57)))⟩,
      ⟨(some 39), (some (33, false)), .f (.pick (.t 36) (.t 38) (.c (.bool false)))⟩,
      ⟨(some 40), none, .f (.pick (.t 33) (.c (.bool true)) (.t 39))⟩,
      ⟨(some 41), none, .f (.mv (.t 40))⟩,
      ⟨(some 42), (some (41, false)), .f (.mv (.t 6))⟩,
      ⟨(some 43), (some (41, false)), .x (.call 56 [(.c (.str [46, 45, 95, 47, 58])), (.t 42)])⟩,
      ⟨(some 44), (some (41, false)), .f (.bin .geq (.t 43) (.c (.int .i64 0)))⟩,
      ⟨(some 45), none, .f (.pick (.t 41) (.c (.bool true)) (.t 44))⟩])
    (.cond (.t 45)
     (.reg [
       ⟨(some 46), none, .f (.mv (.t 6))⟩,
       ⟨(some 47), none, .x (.call 57 [(.t 4), (.t 46)])⟩])
     (.dreg [
       ⟨(some 48), none, .f (.mv (.t 6))⟩,
       ⟨(some 49), none, .f (.bin .shr (.t 48) (.c (.int .u64 4)))⟩,
       ⟨(some 50), none, .f (.idxS (.c (.str [48, 49, 50, 51, 52, 53, 54, 55, 56, 57, 97, 98, 99, 100, 101, 102])) (.t 49))⟩,
       ⟨(some 51), none, .f (.mv (.t 6))⟩,
       ⟨(some 52), none, .f (.bin .and (.t 51) (.c (.int .u8 15)))⟩,
       ⟨(some 53), none, .f (.idxS (.c (.str [48, 49, 50, 51, 52, 53, 54, 55, 56, 57, 97, 98, 99, 100, 101, 102])) (.t 52))⟩,
       ⟨(some 54), none, .x (.bslice 5 1 [(.int .u8 0)] 3 [(0, (.c (.int .u8 37))), (1, (.t 50)), (2, (.t 53))])⟩,
       ⟨(some 55), none, .x (.call 58 [(.t 4), (.t 54)])⟩]
       [false, false, false, false, false, false, true, true] [[], [0], [1, 0], [], [3], [4, 3], [2, 1, 0, 5, 4, 3], [6, 2, 1, 0, 5, 4, 3]] [0, 1, 2, 3, 4, 5, 6, 7])))))
   (.reg [
     ⟨(some 56), none, .f (.bin .add (.t 15) (.c (.int .i64 1)))⟩,
     ⟨(some 15), none, .f (.mv (.t 56))⟩])))))))
 (.seq (.reg [
   ⟨(some 57), none, .x (.call 59 [(.t 4)])⟩,
   ⟨(some 2), none, .f (.mv (.t 57))⟩,
   ⟨(some 3), none, .f (.mv (.c (.int .i64 0)))⟩])
 .ret))))))
theorem ok15 : fnComp Try.prog 15 = some (58, c15, [(.mv (.t 2)), (.mv (.t 3))]) := by kernel_rfl

/-- loop.example/g00003/laws.eqByteS -/
def c16 : CC :=
 (.seq (.reg [
   ⟨(some 4), none, .f (.mv (.c (.bool false)))⟩])
 (.seq (.seq (.reg [
   ⟨(some 6), none, .f (.mv (.t 0))⟩,
   ⟨(some 7), none, .f (.len (.t 6))⟩,
   ⟨(some 8), none, .f (.mv (.t 1))⟩,
   ⟨(some 9), none, .f (.len (.t 8))⟩,
   ⟨(some 10), none, .f (.bin .neq (.t 7) (.t 9))⟩])
 (.cond (.t 10)
  (.seq (.reg [
    ⟨(some 4), none, .f (.mv (.c (.bool false)))⟩])
  .ret)
  .skip))
 (.seq (.seq (.reg [
   ⟨(some 5), none, .f (.mv (.c (.int .i64 0)))⟩])
 (.block 0 (.loop (.seq (.seq (.reg [
     ⟨(some 11), none, .f (.mv (.t 5))⟩,
     ⟨(some 12), none, .f (.mv (.t 0))⟩,
     ⟨(some 13), none, .f (.len (.t 12))⟩,
     ⟨(some 14), none, .f (.bin .lss (.t 11) (.t 13))⟩])
   (.cond (.t 14)
    .skip
    (.exit 0)))
   (.seq (.block 1 (.seq (.dreg [
      ⟨(some 17), none, .f (.mv (.t 0))⟩,
      ⟨(some 18), none, .f (.mv (.t 5))⟩,
      ⟨(some 19), none, .f (.iadr 1 (.t 17) (.t 18))⟩,
      ⟨(some 20), none, .f (.ld (.t 19))⟩,
      ⟨(some 21), none, .f (.mv (.t 1))⟩,
      ⟨(some 22), none, .f (.mv (.t 5))⟩,
      ⟨(some 23), none, .f (.iadr 1 (.t 21) (.t 22))⟩,
      ⟨(some 24), none, .f (.ld (.t 23))⟩,
      ⟨(some 25), none, .f (.bin .neq (.t 20) (.t 24))⟩]
      [false, false, false, false, false, false, false, false, false] [[], [], [0, 1], [2, 0, 1], [], [], [4, 5], [6, 4, 5], [3, 2, 0, 1, 7, 6, 4, 5]] [0, 1, 2, 3, 4, 5, 6, 7, 8])
    (.cond (.t 25)
     (.seq (.reg [
       ⟨(some 4), none, .f (.mv (.c (.bool false)))⟩])
     .ret)
     .skip)))
   (.reg [
     ⟨(some 15), none, .f (.mv (.t 5))⟩,
     ⟨(some 16), none, .f (.bin .add (.t 15) (.c (.int .i64 1)))⟩,
     ⟨(some 5), none, .f (.mv (.t 16))⟩]))))))
 (.seq (.reg [
   ⟨(some 4), none, .f (.mv (.c (.bool true)))⟩])
 .ret))))
theorem ok16 : fnComp Try.prog 16 = some (26, c16, [(.mv (.t 4))]) := by kernel_rfl

/-- loop.example/g00003/spec.ReadData -/
def c17 : CC :=
 (.seq (.reg [
   ⟨(some 2), none, .f (.mv (.c .nilslice))⟩,
   ⟨(some 3), none, .f (.mv (.c (.int .i64 0)))⟩])
 (.seq (.reg [
   ⟨(some 8), none, .x (.bslice 5 1 [(.int .u8 0)] 0 [])⟩,
   ⟨(some 4), none, .f (.mv (.t 8))⟩])
 (.seq (.seq (.reg [
   ⟨(some 5), none, .f (.mv (.c (.int .i64 0)))⟩])
 (.block 0 (.loop (.seq (.seq (.reg [
     ⟨(some 9), none, .f (.mv (.t 5))⟩,
     ⟨(some 10), none, .f (.mv (.t 0))⟩,
     ⟨(some 11), none, .f (.lenS (.t 10))⟩,
     ⟨(some 12), none, .f (.bin .lss (.t 9) (.t 11))⟩,
     ⟨(some 13), none, .f (.mv (.t 12))⟩,
     ⟨(some 14), (some (13, true)), .f (.mv (.t 4))⟩,
     ⟨(some 15), (some (13, true)), .f (.len (.t 14))⟩,
     ⟨(some 16), (some (13, true)), .f (.bin .leq (.t 15) (.c (.int .i64 60000)))⟩,
     ⟨(some 17), none, .f (.pick (.t 13) (.t 16) (.c (.bool false)))⟩,
     ⟨(some 18), none, .f (.mv (.t 17))⟩,
     ⟨(some 19), (some (18, true)), .f (.mv (.t 0))⟩,
     ⟨(some 20), (some (18, true)), .f (.bin .neq (.t 19) (.c (.str [61])))⟩,
     ⟨(some 21), none, .f (.pick (.t 18) (.t 20) (.c (.bool false)))⟩])
   (.cond (.t 21)
    .skip
    (.exit 0)))
   (.seq (.block 1 (.seq (.seq (.reg [
      ⟨(some 24), none, .f (.mv (.t 0))⟩,
      ⟨(some 25), none, .f (.mv (.t 5))⟩,
      ⟨(some 26), none, .f (.idxS (.t 24) (.t 25))⟩,
      ⟨(some 27), none, .f (.bin .neq (.t 26) (.c (.int .u8 37)))⟩])
    (.cond (.t 27)
     (.seq (.reg [
       ⟨(some 28), none, .f (.mv (.t 4))⟩,
       ⟨(some 29), none, .f (.mv (.t 0))⟩,
       ⟨(some 30), none, .f (.mv (.t 5))⟩,
       ⟨(some 31), none, .f (.idxS (.t 29) (.t 30))⟩,
       ⟨(some 32), none, .x (.bslice 5 1 [(.int .u8 0)] 1 [(0, (.t 31))])⟩,
       ⟨(some 33), none, .x (.app 5 1 1 (.t 28) (.t 32))⟩,
       ⟨(some 4), none, .f (.mv (.t 33))⟩])
     (.exit 1))
     .skip))
    (.seq (.seq (.reg [
      ⟨(some 34), none, .f (.mv (.t 5))⟩,
      ⟨(some 35), none, .f (.bin .add (.t 34) (.c (.int .i64 2)))⟩,
      ⟨(some 36), none, .f (.mv (.t 0))⟩,
      ⟨(some 37), none, .f (.lenS (.t 36))⟩,
      ⟨(some 38), none, .f (.bin .geq (.t 35) (.t 37))⟩])
    (.cond (.t 38)
     (.seq (.reg [
       ⟨(some 2), none, .f (.mv (.c .nilslice))⟩,
       ⟨(some 3), none, .f (.mv (.c (.int .i64 6)))⟩])
     .ret)
     .skip))
    (.seq (.dreg [
      ⟨(some 39), none, .f (.mv (.t 4))⟩,
      ⟨(some 40), none, .f (.mv (.t 0))⟩,
      ⟨(some 41), none, .f (.mv (.t 5))⟩,
      ⟨(some 42), none, .f (.bin .add (.t 41) (.c (.int .i64 1)))⟩,
      ⟨(some 43), none, .f (.idxS (.t 40) (.t 42))⟩,
      ⟨(some 44), none, .x (.call 60 [(.t 43)])⟩,
      ⟨(some 45), none, .f (.bin .mul (.t 44) (.c (.int .i64 16)))⟩,
      ⟨(some 46), none, .f (.mv (.t 0))⟩,
      ⟨(some 47), none, .f (.mv (.t 5))⟩,
      ⟨(some 48), none, .f (.bin .add (.t 47) (.c (.int .i64 2)))⟩,
      ⟨(some 49), none, .f (.idxS (.t 46) (.t 48))⟩,
      ⟨(some 50), none, .x (.call 60 [(.t 49)])⟩,
      ⟨(some 51), none, .f (.bin .add (.t 45) (.t 50))⟩,
      ⟨(some 52), none, .f (.cvI .u8 (.t 51))⟩,
      ⟨(some 53), none, .x (.bslice 5 1 [(.int .u8 0)] 1 [(0, (.t 52))])⟩,
      ⟨(some 54), none, .x (.app 5 1 1 (.t 39) (.t 53))⟩,
      ⟨(some 4), none, .f (.mv (.t 54))⟩]
      [false, false, false, false, false, true, false, false, false, false, false, true, false, false, true, true, true] [[], [], [], [2], [1, 3, 2], [4, 1, 3, 2], [5, 4, 1, 3, 2], [], [], [8], [7, 9, 8], [10, 7, 9, 8, 5, 4, 1, 3, 2], [6, 5, 4, 1, 3, 2, 11, 10, 7, 9, 8], [12, 6, 5, 4, 1, 3, 2, 11, 10, 7, 9, 8], [13, 12, 6, 5, 4, 1, 3, 2, 11, 10, 7, 9, 8], [0, 14, 13, 12, 6, 5, 4, 1, 3, 2, 11, 10, 7, 9, 8], [15, 0, 14, 13, 12, 6, 5, 4, 1, 3, 2, 11, 10, 7, 9, 8]] [0, 1, 2, 3, 4, 7, 8, 9, 10, 5, 6, 11, 12, 13, 14, 15, 16])
    (.reg [
      ⟨(some 55), none, .f (.mv (.t 5))⟩,
      ⟨(some 56), none, .f (.bin .add (.t 55) (.c (.int .i64 2)))⟩,
      ⟨(some 5), none, .f (.mv (.t 56))⟩])))))
   (.reg [
     ⟨(some 22), none, .f (.mv (.t 5))⟩,
     ⟨(some 23), none, .f (.bin .add (.t 22) (.c (.int .i64 1)))⟩,
     ⟨(some 5), none, .f (.mv (.t 23))⟩]))))))
 (.seq (.reg [
   ⟨(some 58), none, .f (.mv (.t 4))⟩,
   ⟨(some 59), none, .x (.call 13 [(.t 58)])⟩,
   ⟨(some 57), none, .f (.mv (.t 59))⟩,
   ⟨(some 60), none, .f (.ext 0 (.t 57))⟩,
   ⟨(some 61), none, .f (.ext 1 (.t 57))⟩,
   ⟨(some 6), none, .f (.mv (.t 60))⟩,
   ⟨(some 7), none, .f (.mv (.t 61))⟩])
 (.seq (.seq (.reg [
   ⟨(some 62), none, .f (.mv (.t 7))⟩,
   ⟨(some 63), none, .f (.bin .neq (.t 62) (.c (.int .i64 0)))⟩,
   ⟨(some 64), none, .f (.mv (.t 63))⟩,
   ⟨(some 65), (some (64, false)), .f (.mv (.t 6))⟩,
   ⟨(some 66), (some (64, false)), .f (.mv (.t 0))⟩,
   ⟨(some 67), (some (64, false)), .f (.bin .neq (.t 65) (.t 66))⟩,
   ⟨(some 68), none, .f (.pick (.t 64) (.c (.bool true)) (.t 67))⟩])
 (.cond (.t 68)
  (.seq (.reg [
    ⟨(some 2), none, .f (.mv (.c .nilslice))⟩,
    ⟨(some 3), none, .f (.mv (.c (.int .i64 6)))⟩])
  .ret)
  .skip))
 (.seq (.reg [
   ⟨(some 69), none, .f (.mv (.t 4))⟩,
   ⟨(some 2), none, .f (.mv (.t 69))⟩,
   ⟨(some 3), none, .f (.mv (.c (.int .i64 0)))⟩])
 .ret))))))
theorem ok17 : fnComp Try.prog 17 = some (70, c17, [(.mv (.t 2)), (.mv (.t 3))]) := by kernel_rfl

/-- loop.example/g00003/impl.ReadData -/
def c18 : CC :=
 (.seq (.reg [
   ⟨(some 2), none, .f (.mv (.c .nilslice))⟩,
   ⟨(some 3), none, .f (.mv (.c (.int .i64 0)))⟩])
 (.seq (.seq (.reg [
   ⟨(some 10), none, .f (.mv (.t 0))⟩,
   ⟨(some 11), none, .f (.bin .eql (.t 10) (.c (.str [61])))⟩])
 (.cond (.t 11)
  (.seq (.reg [
    ⟨(some 2), none, .f (.mv (.c .nilslice))⟩,
    ⟨(some 3), none, .f (.mv (.c (.int .i64 0)))⟩])
  .ret)
  .skip))
 (.seq (.reg [
   ⟨(some 4), none, .f (.mv (.c .nilslice))⟩])
 (.seq (.seq (.reg [
   ⟨(some 5), none, .f (.mv (.c (.int .i64 0)))⟩])
 (.block 0 (.loop (.seq (.seq (.reg [
     ⟨(some 12), none, .f (.mv (.t 5))⟩,
     ⟨(some 13), none, .f (.mv (.t 0))⟩,
     ⟨(some 14), none, .f (.lenS (.t 13))⟩,
     ⟨(some 15), none, .f (.bin .lss (.t 12) (.t 14))⟩])
   (.cond (.t 15)
    .skip
    (.exit 0)))
   (.seq (.block 1 (.seq (.seq (.reg [
      ⟨(some 18), none, .f (.mv (.t 0))⟩,
      ⟨(some 19), none, .f (.mv (.t 5))⟩,
      ⟨(some 20), none, .f (.idxS (.t 18) (.t 19))⟩,
      ⟨(some 21), none, .f (.bin .neq (.t 20) (.c (.int .u8 37)))⟩])
    (.cond (.t 21)
     (.seq (.reg [
       ⟨(some 22), none, .f (.mv (.t 4))⟩,
       ⟨(some 23), none, .f (.mv (.t 0))⟩,
       ⟨(some 24), none, .f (.mv (.t 5))⟩,
       ⟨(some 25), none, .f (.idxS (.t 23) (.t 24))⟩,
       ⟨(some 26), none, .x (.bslice 5 1 [(.int .u8 0)] 1 [(0, (.t 25))])⟩,
       ⟨(some 27), none, .x (.app 5 1 1 (.t 22) (.t 26))⟩,
       ⟨(some 4), none, .f (.mv (.t 27))⟩])
     (.exit 1))
     .skip))
    (.seq (.seq (.reg [
      ⟨(some 28), none, .f (.mv (.t 5))⟩,
      ⟨(some 29), none, .f (.bin .add (.t 28) (.c (.int .i64 2)))⟩,
      ⟨(some 30), none, .f (.mv (.t 0))⟩,
      ⟨(some 31), none, .f (.lenS (.t 30))⟩,
      ⟨(some 32), none, .f (.bin .geq (.t 29) (.t 31))⟩])
    (.cond (.t 32)
     (.seq (.reg [
       ⟨(some 2), none, .f (.mv (.c .nilslice))⟩,
       ⟨(some 3), none, .f (.mv (.c (.int .i64 6)))⟩])
     .ret)
     .skip))
    (.seq (.dreg [
      ⟨(some 33), none, .f (.mv (.t 0))⟩,
      ⟨(some 34), none, .f (.mv (.t 5))⟩,
      ⟨(some 35), none, .f (.bin .add (.t 34) (.c (.int .i64 1)))⟩,
      ⟨(some 36), none, .f (.idxS (.t 33) (.t 35))⟩,
      ⟨(some 37), none, .x (.call 56 [(.c (.str [48, 49, 50, 51, 52, 53, 54, 55, 56, 57, 97, 98, 99, 100, 101, 102])), (.t 36)])⟩,
      ⟨(some 38), none, .f (.mv (.t 0))⟩,
      ⟨(some 39), none, .f (.mv (.t 5))⟩,
      ⟨(some 40), none, .f (.bin .add (.t 39) (.c (.int .i64 2)))⟩,
      ⟨(some 41), none, .f (.idxS (.t 38) (.t 40))⟩,
      ⟨(some 42), none, .x (.call 56 [(.c (.str [48, 49, 50, 51, 52, 53, 54, 55, 56, 57, 97, 98, 99, 100, 101, 102])), (.t 41)])⟩,
      ⟨(some 6), none, .f (.mv (.t 37))⟩,
      ⟨(some 7), none, .f (.mv (.t 42))⟩]
      [false, false, false, false, true, false, false, false, false, true, false, false] [[], [], [1], [0, 2, 1], [3, 0, 2, 1], [], [], [6], [5, 7, 6], [8, 5, 7, 6, 4, 3, 0, 2, 1], [4, 3, 0, 2, 1, 9, 8, 5, 7, 6], [9, 8, 5, 7, 6, 4, 3, 0, 2, 1, 10]] [0, 1, 2, 3, 5, 6, 7, 8, 4, 9, 10, 11])
    (.seq (.seq (.reg [
      ⟨(some 43), none, .f (.mv (.t 6))⟩,
      ⟨(some 44), none, .f (.bin .lss (.t 43) (.c (.int .i64 0)))⟩,
      ⟨(some 45), none, .f (.mv (.t 44))⟩,
      ⟨(some 46), (some (45, false)), .f (.mv (.t 7))⟩,
      ⟨(some 47), (some (45, false)), .f (.bin .lss (.t 46) (.c (.int .i64 0)))⟩,
      ⟨(some 48), none, .f (.pick (.t 45) (.c (.bool true)) (.t 47))⟩])
    (.cond (.t 48)
     (.seq (.reg [
       ⟨(some 2), none, .f (.mv (.c .nilslice))⟩,
       ⟨(some 3), none, .f (.mv (.c (.int .i64 6)))⟩])
     .ret)
     .skip))
    (.seq (.reg [
      ⟨(some 49), none, .f (.mv (.t 4))⟩,
      ⟨(some 50), none, .f (.mv (.t 6))⟩,
      ⟨(some 51), none, .f (.bin .shl (.t 50) (.c (.int .u64 4)))⟩,
      ⟨(some 52), none, .f (.mv (.t 7))⟩,
      ⟨(some 53), none, .f (.bin .or (.t 51) (.t 52))⟩,
      ⟨(some 54), none, .f (.cvI .u8 (.t 53))⟩,
      ⟨(some 55), none, .x (.bslice 5 1 [(.int .u8 0)] 1 [(0, (.t 54))])⟩,
      ⟨(some 56), none, .x (.app 5 1 1 (.t 49) (.t 55))⟩,
      ⟨(some 4), none, .f (.mv (.t 56))⟩])
    (.reg [
      ⟨(some 57), none, .f (.mv (.t 5))⟩,
      ⟨(some 58), none, .f (.bin .add (.t 57) (.c (.int .i64 2)))⟩,
      ⟨(some 5), none, .f (.mv (.t 58))⟩])))))))
   (.reg [
     ⟨(some 16), none, .f (.mv (.t 5))⟩,
     ⟨(some 17), none, .f (.bin .add (.t 16) (.c (.int .i64 1)))⟩,
     ⟨(some 5), none, .f (.mv (.t 17))⟩]))))))
 (.seq (.seq (.reg [
   ⟨(some 60), none, .f (.mv (.t 4))⟩,
   ⟨(some 61), none, .x (.call 15 [(.t 60)])⟩,
   ⟨(some 59), none, .f (.mv (.t 61))⟩,
   ⟨(some 62), none, .f (.ext 0 (.t 59))⟩,
   ⟨(some 63), none, .f (.ext 1 (.t 59))⟩,
   ⟨(some 8), none, .f (.mv (.t 62))⟩,
   ⟨(some 9), none, .f (.mv (.t 63))⟩])
 (.seq (.reg [
   ⟨(some 64), none, .f (.mv (.t 9))⟩,
   ⟨(some 65), none, .f (.bin .neq (.t 64) (.c (.int .i64 0)))⟩,
   ⟨(some 66), none, .f (.mv (.t 65))⟩,
   ⟨(some 67), (some (66, false)), .f (.mv (.t 8))⟩,
   ⟨(some 68), (some (66, false)), .f (.mv (.t 0))⟩,
   ⟨(some 69), (some (66, false)), .f (.bin .neq (.t 67) (.t 68))⟩,
   ⟨(some 70), none, .f (.pick (.t 66) (.c (.bool true)) (.t 69))⟩])
 (.cond (.t 70)
  (.seq (.reg [
    ⟨(some 2), none, .f (.mv (.c .nilslice))⟩,
    ⟨(some 3), none, .f (.mv (.c (.int .i64 6)))⟩])
  .ret)
  .skip)))
 (.seq (.reg [
   ⟨(some 71), none, .f (.mv (.t 4))⟩,
   ⟨(some 2), none, .f (.mv (.t 71))⟩,
   ⟨(some 3), none, .f (.mv (.c (.int .i64 0)))⟩])
 .ret))))))
theorem ok18 : fnComp Try.prog 18 = some (72, c18, [(.mv (.t 2)), (.mv (.t 3))]) := by kernel_rfl

/-- loop.example/g00003/laws.markByteS -/
def c19 : CC :=
 (.seq (.reg [
   ⟨(some 4), none, .f (.mv (.c (.int .i64 0)))⟩])
 (.seq (.seq (.reg [
   ⟨(some 5), none, .f (.mv (.c (.int .i64 0)))⟩])
 (.block 0 (.loop (.seq (.seq (.reg [
     ⟨(some 6), none, .f (.mv (.t 5))⟩,
     ⟨(some 7), none, .f (.mv (.t 0))⟩,
     ⟨(some 8), none, .f (.len (.t 7))⟩,
     ⟨(some 9), none, .f (.bin .lss (.t 6) (.t 8))⟩])
   (.cond (.t 9)
    .skip
    (.exit 0)))
   (.seq (.block 1 (.seq (.reg [
      ⟨(some 12), none, .f (.mv (.t 0))⟩,
      ⟨(some 13), none, .f (.mv (.t 5))⟩,
      ⟨(some 14), none, .f (.mv (.t 1))⟩,
      ⟨(some 15), none, .f (.cvI .u8 (.t 14))⟩,
      ⟨(some 16), none, .f (.iadr 1 (.t 12) (.t 13))⟩,
      ⟨none, none, .x (.st 1 (.t 16) (.t 15))⟩])
    (.reg [
      ⟨(some 17), none, .f (.mv (.t 1))⟩,
      ⟨(some 18), none, .f (.bin .add (.t 17) (.c (.int .i64 1)))⟩,
      ⟨(some 1), none, .f (.mv (.t 18))⟩])))
   (.reg [
     ⟨(some 10), none, .f (.mv (.t 5))⟩,
     ⟨(some 11), none, .f (.bin .add (.t 10) (.c (.int .i64 1)))⟩,
     ⟨(some 5), none, .f (.mv (.t 11))⟩]))))))
 (.seq (.reg [
   ⟨(some 19), none, .f (.mv (.t 1))⟩,
   ⟨(some 4), none, .f (.mv (.t 19))⟩])
 .ret)))
theorem ok19 : fnComp Try.prog 19 = some (20, c19, [(.mv (.t 4))]) := by kernel_rfl

/-- loop.example/g00003/laws.heldByteS -/
def c20 : CC :=
 (.seq (.reg [
   ⟨(some 4), none, .f (.mv (.c (.int .i64 0)))⟩])
 (.seq (.seq (.reg [
   ⟨(some 5), none, .f (.mv (.c (.int .i64 0)))⟩])
 (.block 0 (.loop (.seq (.seq (.reg [
     ⟨(some 6), none, .f (.mv (.t 5))⟩,
     ⟨(some 7), none, .f (.mv (.t 0))⟩,
     ⟨(some 8), none, .f (.len (.t 7))⟩,
     ⟨(some 9), none, .f (.bin .lss (.t 6) (.t 8))⟩])
   (.cond (.t 9)
    .skip
    (.exit 0)))
   (.seq (.block 1 (.seq (.seq (.reg [
      ⟨(some 12), none, .f (.mv (.t 0))⟩,
      ⟨(some 13), none, .f (.mv (.t 5))⟩,
      ⟨(some 14), none, .f (.iadr 1 (.t 12) (.t 13))⟩,
      ⟨(some 15), none, .f (.ld (.t 14))⟩,
      ⟨(some 16), none, .f (.mv (.t 1))⟩,
      ⟨(some 17), none, .f (.cvI .u8 (.t 16))⟩,
      ⟨(some 18), none, .f (.bin .neq (.t 15) (.t 17))⟩])
    (.cond (.t 18)
     (.seq (.reg [
       ⟨(some 4), none, .f (.mv (.c (.int .i64 (-1))))⟩])
     .ret)
     .skip))
    (.reg [
      ⟨(some 19), none, .f (.mv (.t 1))⟩,
      ⟨(some 20), none, .f (.bin .add (.t 19) (.c (.int .i64 1)))⟩,
      ⟨(some 1), none, .f (.mv (.t 20))⟩])))
   (.reg [
     ⟨(some 10), none, .f (.mv (.t 5))⟩,
     ⟨(some 11), none, .f (.bin .add (.t 10) (.c (.int .i64 1)))⟩,
     ⟨(some 5), none, .f (.mv (.t 11))⟩]))))))
 (.seq (.reg [
   ⟨(some 21), none, .f (.mv (.t 1))⟩,
   ⟨(some 4), none, .f (.mv (.t 21))⟩])
 .ret)))
theorem ok20 : fnComp Try.prog 20 = some (22, c20, [(.mv (.t 4))]) := by kernel_rfl

/-- loop.example/g00003/spec.l20Plain -/
def c54 : CC :=
 (.seq (.reg [
   ⟨(some 2), none, .f (.mv (.c (.bool false)))⟩])
 (.seq (.reg [
   ⟨(some 3), none, .f (.mv (.t 0))⟩,
   ⟨(some 4), none, .f (.bin .geq (.t 3) (.c (.int .u8 97)))⟩,
   ⟨(some 5), none, .f (.mv (.t 4))⟩,
   ⟨(some 6), (some (5, true)), .f (.mv (.t 0))⟩,
   ⟨(some 7), (some (5, true)), .f (.bin .leq (.t 6) (.c (.int .u8 122)))⟩,
   ⟨(some 8), none, .f (.pick (.t 5) (.t 7) (.c (.bool false)))⟩,
   ⟨(some 9), none, .f (.mv (.t 8))⟩,
   ⟨(some 10), (some (9, false)), .f (.mv (.t 0))⟩,
   ⟨(some 11), (some (9, false)), .f (.bin .geq (.t 10) (.c (.int .u8 65)))⟩,
   ⟨(some 12), (some (9, false)), .f (.mv (.t 11))⟩,
   ⟨(some 13), (some (12, true)), .f (.mv (.t 0))⟩,
   ⟨(some 14), (some (12, true)), .f (.bin .leq (.t 13) (.c (.int .u8 90)))⟩,
   ⟨(some 15), (some (9, false)), .f (.pick (.t 12) (.t 14) (.c (.bool false)))⟩,
   ⟨(some 16), none, .f (.pick (.t 9) (.c (.bool true)) (.t 15))⟩,
   ⟨(some 17), none, .f (.mv (.t 16))⟩,
   ⟨(some 18), (some (17, false)), .f (.mv (.t 0))⟩,
   ⟨(some 19), (some (17, false)), .f (.bin .geq (.t 18) (.c (.int .u8 48)))⟩,
   ⟨(some 20), (some (17, false)), .f (.mv (.t 19))⟩,
   ⟨(some 21), (some (20, true)), .f (.mv (.t 0))⟩,
   ⟨(some 22), (some (20, true)), .f (.bin .leq (.t 21) (.c (.int .u8 57)))⟩,
   ⟨(some 23), (some (17, false)), .f (.pick (.t 20) (.t 22) (.c (.bool false)))⟩,
   ⟨(some 24), none, .f (.pick (.t 17) (.c (.bool true)) (.t 23))⟩,
   ⟨(some 25), none, .f (.mv (.t 24))⟩,
   ⟨(some 26), (some (25, false)), .f (.mv (.t 0))⟩,
   ⟨(some 27), (some (25, false)), .f (.bin .eql (.t 26) (.c (.int .u8 46)))⟩,
   ⟨(some 28), none, .f (.pick (.t 25) (.c (.bool true)) (.t 27))⟩,
   ⟨(some 29), none, .f (.mv (.t 28))⟩,
   ⟨(some 30), (some (29, false)), .f (.mv (.t 0))⟩,
   ⟨(some 31), (some (29, false)), .f (.bin .eql (.t 30) (.c (.int .u8 45)))⟩,
   ⟨(some 32), none, .f (.pick (.t 29) (.c (.bool true)) (.t 31))⟩,
   ⟨(some 33), none, .f (.mv (.t 32))⟩,
   ⟨(some 34), (some (33, false)), .f (.mv (.t 0))⟩,
   ⟨(some 35), (some (33, false)), .f (.bin .eql (.t 34) (.c (.int .u8 95)))⟩,
   ⟨(some 36), none, .f (.pick (.t 33) (.c (.bool true)) (.t 35))⟩,
   ⟨(some 37), none, .f (.mv (.t 36))⟩,
   ⟨(some 38), (some (37, false)), .f (.mv (.t 0))⟩,
   ⟨(some 39), (some (37, false)), .f (.bin .eql (.t 38) (.c (.int .u8 47)))⟩,
   ⟨(some 40), none, .f (.pick (.t 37) (.c (.bool true)) (.t 39))⟩,
   ⟨(some 41), none, .f (.mv (.t 40))⟩,
   ⟨(some 42), (some (41, false)), .f (.mv (.t 0))⟩,
   ⟨(some 43), (some (41, false)), .f (.bin .eql (.t 42) (.c (.int .u8 58)))⟩,
   ⟨(some 44), none, .f (.pick (.t 41) (.c (.bool true)) (.t 43))⟩,
   ⟨(some 2), none, .f (.mv (.t 44))⟩])
 .ret))
theorem ok54 : fnComp Try.prog 54 = some (45, c54, [(.mv (.t 2))]) := by kernel_rfl

/-- loop.example/g00003/spec.l11HexText -/
def c55 : CC :=
 (.seq (.reg [
   ⟨(some 2), none, .f (.mv (.c (.str [])))⟩])
 (.seq (.reg [
   ⟨(some 3), none, .f (.mv (.c (.str [48, 49, 50, 51, 52, 53, 54, 55, 56, 57, 97, 98, 99, 100, 101, 102])))⟩])
 (.seq (.reg [
   ⟨(some 6), none, .x (.bslice 5 1 [(.int .u8 0)] 0 [])⟩,
   ⟨(some 4), none, .f (.mv (.t 6))⟩])
 (.seq (.seq (.reg [
   ⟨(some 5), none, .f (.mv (.c (.int .i64 0)))⟩])
 (.block 0 (.loop (.seq (.seq (.reg [
     ⟨(some 7), none, .f (.mv (.t 5))⟩,
     ⟨(some 8), none, .f (.mv (.t 0))⟩,
     ⟨(some 9), none, .f (.len (.t 8))⟩,
     ⟨(some 10), none, .f (.bin .lss (.t 7) (.t 9))⟩])
   (.cond (.t 10)
    .skip
    (.exit 0)))
   (.seq (.block 1 (.seq (.reg [
      ⟨(some 13), none, .f (.mv (.t 4))⟩,
      ⟨(some 14), none, .f (.mv (.t 3))⟩,
      ⟨(some 15), none, .f (.mv (.t 0))⟩,
      ⟨(some 16), none, .f (.mv (.t 5))⟩,
      ⟨(some 17), none, .f (.iadr 1 (.t 15) (.t 16))⟩,
      ⟨(some 18), none, .f (.ld (.t 17))⟩,
      ⟨(some 19), none, .f (.bin .shr (.t 18) (.c (.int .u64 4)))⟩,
      ⟨(some 20), none, .f (.idxS (.t 14) (.t 19))⟩,
      ⟨(some 21), none, .x (.bslice 5 1 [(.int .u8 0)] 1 [(0, (.t 20))])⟩,
      ⟨(some 22), none, .x (.app 5 1 1 (.t 13) (.t 21))⟩,
      ⟨(some 4), none, .f (.mv (.t 22))⟩])
    (.reg [
      ⟨(some 23), none, .f (.mv (.t 4))⟩,
      ⟨(some 24), none, .f (.mv (.t 3))⟩,
      ⟨(some 25), none, .f (.mv (.t 0))⟩,
      ⟨(some 26), none, .f (.mv (.t 5))⟩,
      ⟨(some 27), none, .f (.iadr 1 (.t 25) (.t 26))⟩,
      ⟨(some 28), none, .f (.ld (.t 27))⟩,
      ⟨(some 29), none, .f (.bin .and (.t 28) (.c (.int .u8 15)))⟩,
      ⟨(some 30), none, .f (.idxS (.t 24) (.t 29))⟩,
      ⟨(some 31), none, .x (.bslice 5 1 [(.int .u8 0)] 1 [(0, (.t 30))])⟩,
      ⟨(some 32), none, .x (.app 5 1 1 (.t 23) (.t 31))⟩,
      ⟨(some 4), none, .f (.mv (.t 32))⟩])))
   (.reg [
     ⟨(some 11), none, .f (.mv (.t 5))⟩,
     ⟨(some 12), none, .f (.bin .add (.t 11) (.c (.int .i64 1)))⟩,
     ⟨(some 5), none, .f (.mv (.t 12))⟩]))))))
 (.seq (.reg [
   ⟨(some 33), none, .f (.mv (.t 4))⟩,
   ⟨(some 34), none, .f (.b2s (.t 33))⟩,
   ⟨(some 2), none, .f (.mv (.t 34))⟩])
 .ret)))))
theorem ok55 : fnComp Try.prog 55 = some (35, c55, [(.mv (.t 2))]) := by kernel_rfl

/-- strings.IndexByte -/
def c56 : CC :=
 (.seq (.reg [
   ⟨(some 4), none, .f (.mv (.c (.int .i64 0)))⟩])
 (.seq (.reg [
   ⟨(some 5), none, .f (.mv (.t 0))⟩,
   ⟨(some 6), none, .f (.mv (.t 1))⟩,
   ⟨(some 7), none, .x (.call 93 [(.t 5), (.t 6)])⟩,
   ⟨(some 4), none, .f (.mv (.t 7))⟩])
 .ret))
theorem ok56 : fnComp Try.prog 56 = some (8, c56, [(.mv (.t 4))]) := by kernel_rfl

/-- (*strings.Builder).WriteByte -/
def c57 : CC :=
 (.seq (.reg [
   ⟨(some 4), none, .f (.mv (.c .niliface))⟩])
 (.seq (.reg [
   ⟨(some 5), none, .f (.mv (.t 0))⟩,
   ⟨(some 6), none, .x (.call 94 [(.t 5)])⟩])
 (.seq (.reg [
   ⟨(some 7), none, .f (.mv (.t 0))⟩,
   ⟨(some 8), none, .f (.mv (.t 0))⟩,
   ⟨(some 9), none, .f (.nck (.t 8))⟩,
   ⟨(some 10), none, .f (.fadr 1 (.t 9))⟩,
   ⟨(some 11), none, .f (.ld (.t 10))⟩,
   ⟨(some 12), none, .f (.mv (.t 1))⟩,
   ⟨(some 13), none, .x (.bslice 5 1 [(.int .u8 0)] 1 [(0, (.t 12))])⟩,
   ⟨(some 14), none, .x (.app 5 1 1 (.t 11) (.t 13))⟩,
   ⟨(some 15), none, .f (.nck (.t 7))⟩,
   ⟨(some 16), none, .f (.fadr 1 (.t 15))⟩,
   ⟨none, none, .x (.st 1 (.t 16) (.t 14))⟩])
 (.seq (.reg [
   ⟨(some 4), none, .f (.mv (.c .niliface))⟩])
 .ret))))
theorem ok57 : fnComp Try.prog 57 = some (17, c57, [(.mv (.t 4))]) := by kernel_rfl

/-- (*strings.Builder).Write -/
def c58 : CC :=
 (.seq (.reg [
   ⟨(some 4), none, .f (.mv (.c (.int .i64 0)))⟩,
   ⟨(some 5), none, .f (.mv (.c .niliface))⟩])
 (.seq (.reg [
   ⟨(some 6), none, .f (.mv (.t 0))⟩,
   ⟨(some 7), none, .x (.call 94 [(.t 6)])⟩])
 (.seq (.reg [
   ⟨(some 8), none, .f (.mv (.t 0))⟩,
   ⟨(some 9), none, .f (.mv (.t 0))⟩,
   ⟨(some 10), none, .f (.nck (.t 9))⟩,
   ⟨(some 11), none, .f (.fadr 1 (.t 10))⟩,
   ⟨(some 12), none, .f (.ld (.t 11))⟩,
   ⟨(some 13), none, .f (.mv (.t 1))⟩,
   ⟨(some 14), none, .x (.app 5 1 1 (.t 12) (.t 13))⟩,
   ⟨(some 15), none, .f (.nck (.t 8))⟩,
   ⟨(some 16), none, .f (.fadr 1 (.t 15))⟩,
   ⟨none, none, .x (.st 1 (.t 16) (.t 14))⟩])
 (.seq (.reg [
   ⟨(some 17), none, .f (.mv (.t 1))⟩,
   ⟨(some 18), none, .f (.len (.t 17))⟩,
   ⟨(some 4), none, .f (.mv (.t 18))⟩,
   ⟨(some 5), none, .f (.mv (.c .niliface))⟩])
 .ret))))
theorem ok58 : fnComp Try.prog 58 = some (19, c58, [(.mv (.t 4)), (.mv (.t 5))]) := by kernel_rfl

/-- (*strings.Builder).String -/
def c59 : CC :=
 (.seq (.reg [
   ⟨(some 2), none, .f (.mv (.c (.str [])))⟩])
 (.seq (.dreg [
   ⟨(some 3), none, .f (.mv (.t 0))⟩,
   ⟨(some 4), none, .f (.nck (.t 3))⟩,
   ⟨(some 5), none, .f (.fadr 1 (.t 4))⟩,
   ⟨(some 6), none, .f (.ld (.t 5))⟩,
   ⟨(some 7), none, .f (.u .sdata [(.t 6)])⟩,
   ⟨(some 8), none, .f (.mv (.t 0))⟩,
   ⟨(some 9), none, .f (.nck (.t 8))⟩,
   ⟨(some 10), none, .f (.fadr 1 (.t 9))⟩,
   ⟨(some 11), none, .f (.ld (.t 10))⟩,
   ⟨(some 12), none, .f (.len (.t 11))⟩,
   ⟨(some 13), none, .x (.ux (.ustr 5) [(.t 7), (.t 12)])⟩,
   ⟨(some 2), none, .f (.mv (.t 13))⟩]
   [false, false, false, false, false, false, false, false, false, false, true, false] [[], [0], [1, 0], [2, 1, 0], [3, 2, 1, 0], [], [5], [6, 5], [7, 6, 5], [8, 7, 6, 5], [4, 3, 2, 1, 0, 9, 8, 7, 6, 5], [10, 4, 3, 2, 1, 0, 9, 8, 7, 6, 5]] [0, 1, 2, 3, 4, 5, 6, 7, 8, 9, 10, 11])
 .ret))
theorem ok59 : fnComp Try.prog 59 = some (14, c59, [(.mv (.t 2))]) := by kernel_rfl

/-- loop.example/g00003/spec.l02Hex -/
def c60 : CC :=
 (.seq (.reg [
   ⟨(some 2), none, .f (.mv (.c (.int .i64 0)))⟩])
 (.seq (.block 0 (.seq (.reg [
    ⟨(some 4), none, .f (.mv (.t 0))⟩,
    ⟨(some 5), none, .f (.bin .geq (.t 4) (.c (.int .u8 48)))⟩,
    ⟨(some 6), none, .f (.mv (.t 5))⟩,
    ⟨(some 7), (some (6, true)), .f (.mv (.t 0))⟩,
    ⟨(some 8), (some (6, true)), .f (.bin .leq (.t 7) (.c (.int .u8 57)))⟩,
    ⟨(some 9), none, .f (.pick (.t 6) (.t 8) (.c (.bool false)))⟩,
    ⟨(some 3), none, .f (.mv (.t 9))⟩])
  (.cond (.t 3)
   (.seq (.reg [
     ⟨(some 10), none, .f (.mv (.t 0))⟩,
     ⟨(some 11), none, .f (.bin .sub (.t 10) (.c (.int .u8 48)))⟩,
     ⟨(some 12), none, .f (.cvI .i64 (.t 11))⟩,
     ⟨(some 2), none, .f (.mv (.t 12))⟩])
   .ret)
   (.seq (.reg [
     ⟨(some 14), none, .f (.mv (.t 0))⟩,
     ⟨(some 15), none, .f (.bin .geq (.t 14) (.c (.int .u8 97)))⟩,
     ⟨(some 16), none, .f (.mv (.t 15))⟩,
     ⟨(some 17), (some (16, true)), .f (.mv (.t 0))⟩,
     ⟨(some 18), (some (16, true)), .f (.bin .leq (.t 17) (.c (.int .u8 102)))⟩,
     ⟨(some 19), none, .f (.pick (.t 16) (.t 18) (.c (.bool false)))⟩,
     ⟨(some 13), none, .f (.mv (.t 19))⟩])
   (.cond (.t 13)
    (.seq (.reg [
      ⟨(some 20), none, .f (.mv (.t 0))⟩,
      ⟨(some 21), none, .f (.bin .sub (.t 20) (.c (.int .u8 97)))⟩,
      ⟨(some 22), none, .f (.cvI .i64 (.t 21))⟩,
      ⟨(some 23), none, .f (.bin .add (.t 22) (.c (.int .i64 10)))⟩,
      ⟨(some 2), none, .f (.mv (.t 23))⟩])
    .ret)
    (.seq (.reg [
      ⟨(some 25), none, .f (.mv (.t 0))⟩,
      ⟨(some 26), none, .f (.bin .geq (.t 25) (.c (.int .u8 65)))⟩,
      ⟨(some 27), none, .f (.mv (.t 26))⟩,
      ⟨(some 28), (some (27, true)), .f (.mv (.t 0))⟩,
      ⟨(some 29), (some (27, true)), .f (.bin .leq (.t 28) (.c (.int .u8 70)))⟩,
      ⟨(some 30), none, .f (.pick (.t 27) (.t 29) (.c (.bool false)))⟩,
      ⟨(some 24), none, .f (.mv (.t 30))⟩])
    (.cond (.t 24)
     (.seq (.reg [
       ⟨(some 31), none, .f (.mv (.t 0))⟩,
       ⟨(some 32), none, .f (.bin .sub (.t 31) (.c (.int .u8 65)))⟩,
       ⟨(some 33), none, .f (.cvI .i64 (.t 32))⟩,
       ⟨(some 34), none, .f (.bin .add (.t 33) (.c (.int .i64 10)))⟩,
       ⟨(some 2), none, .f (.mv (.t 34))⟩])
     .ret)
     .skip)))))))
 (.seq (.reg [
   ⟨(some 2), none, .f (.mv (.c (.int .i64 (-1))))⟩])
 .ret)))
theorem ok60 : fnComp Try.prog 60 = some (35, c60, [(.mv (.t 2))]) := by kernel_rfl

/-- internal/stringslite.IndexByte -/
def c93 : CC :=
 (.seq (.reg [
   ⟨(some 4), none, .f (.mv (.c (.int .i64 0)))⟩])
 (.seq (.reg [
   ⟨(some 5), none, .f (.mv (.t 0))⟩,
   ⟨(some 6), none, .f (.mv (.t 1))⟩,
   ⟨(some 7), none, .x (.call 105 [(.t 5), (.t 6)])⟩,
   ⟨(some 4), none, .f (.mv (.t 7))⟩])
 .ret))
theorem ok93 : fnComp Try.prog 93 = some (8, c93, [(.mv (.t 4))]) := by kernel_rfl

/-- (*strings.Builder).copyCheck -/
def c94 : CC :=
 (.seq (.reg [
   ⟨(some 2), none, .f (.mv (.t 0))⟩,
   ⟨(some 3), none, .f (.nck (.t 2))⟩,
   ⟨(some 4), none, .f (.fadr 0 (.t 3))⟩,
   ⟨(some 5), none, .f (.ld (.t 4))⟩,
   ⟨(some 6), none, .f (.eqn .ptr false (.t 5) (.c .nilptr))⟩])
 (.cond (.t 6)
  (.reg [
    ⟨(some 7), none, .f (.mv (.t 0))⟩,
    ⟨(some 8), none, .f (.mv (.t 0))⟩,
    ⟨(some 9), none, .f (.u .toU [(.t 8)])⟩,
    ⟨(some 10), none, .x (.call 106 [(.t 9)])⟩,
    ⟨(some 11), none, .f (.u (.frU 91 2) [(.t 10)])⟩,
    ⟨(some 12), none, .f (.nck (.t 7))⟩,
    ⟨(some 13), none, .f (.fadr 0 (.t 12))⟩,
    ⟨none, none, .x (.st 1 (.t 13) (.t 11))⟩])
  (.seq (.reg [
    ⟨(some 14), none, .f (.mv (.t 0))⟩,
    ⟨(some 15), none, .f (.nck (.t 14))⟩,
    ⟨(some 16), none, .f (.fadr 0 (.t 15))⟩,
    ⟨(some 17), none, .f (.ld (.t 16))⟩,
    ⟨(some 18), none, .f (.mv (.t 0))⟩,
    ⟨(some 19), none, .f (.u (.peq true) [(.t 17), (.t 18)])⟩])
  (.cond (.t 19)
   (.reg [
     ⟨none, none, .x (.ux .bad [])⟩])
   .skip))))
theorem ok94 : fnComp Try.prog 94 = some (20, c94, []) := by kernel_rfl

end Go.Proofs.Ytecljenjlncfhaa

namespace Go.Proofs.Ytecljenjlncfhaa
open Go Go.IW

theorem wr_u8 (x : Int) : wr .u8 x = ((UInt8.ofNat (x % 256).toNat).toNat : Int) := by
  have h1 : wr .u8 x = x % 256 := by unfold wr; rw [IntKind.wrap_u8]
  rw [h1]
  have h2 : (x % 256).toNat < 256 := by omega
  simp [UInt8.toNat_ofNat']
  omega
theorem strRows_append (a b : List UInt8) : strRows (a ++ b) = strRows a ++ strRows b := by simp [strRows]
theorem strRows_len (a : List UInt8) : (strRows a).length = a.length := by simp [strRows]
theorem strRows_at {a : List UInt8} {k : Nat} {b : UInt8} (h : a[k]? = some b) : (strRows a)[k]? = some [.int .u8 b.toNat] := by
  unfold strRows; rw [List.getElem?_map, h]; rfl
theorem strRows_take (a : List UInt8) (n : Nat) : (strRows a).take n = strRows (a.take n) := by simp [strRows, List.map_take]
theorem strRows_drop (a : List UInt8) (n : Nat) : (strRows a).drop n = strRows (a.drop n) := by simp [strRows, List.map_drop]
set_option maxRecDepth 20000 in
theorem toByteS_c (h : IH) (v : IV) (bs : List UInt8) (hs : SlR h 1 v (strRows bs)) (hm : bs.length ≤ 1048576) :
    ICalls Try.prog 14 [v] h fun r h' => Own h.n h'.n h' 5 1 r (strRows bs) ∧ Ext h h' := by
  refine icalls (.of ok14) (Nat.le_of_ble_eq_true rfl) ?_
  unfold c14
  have hv1 := hs.one
  have hlen := hs.lenF
  rw [strRows_len] at hlen
  simp only [hv1, hlen, go_sem, Hold.p, HoldK.k, HoldL.K, HoldL.body, Nat.reduceBEq, Nat.reduceAdd, List.getElem?_cons_zero, List.getElem?_cons_succ, Option.bind_some, List.map_cons, List.map_nil, Nat.zero_add, if_true, List.getD_cons_zero, List.getD_cons_succ, List.contains_cons, List.contains_nil, Nat.reduceBEq, Bool.or_true, Bool.true_or, Bool.or_false, Bool.false_or, Bool.not_true, Bool.not_false, true_and, and_true]
  by_cases h0 : bs.length = 0
  · have hps : bs = [] := List.length_eq_zero_iff.1 h0
    subst hps
    refine mksA_0 ?_
    simp only [hv1, hlen, go_sem, Hold.p, HoldK.k, HoldL.K, HoldL.body, Nat.reduceBEq, Nat.reduceAdd, List.getElem?_cons_zero, List.getElem?_cons_succ, Option.bind_some, List.map_cons, List.map_nil, Nat.zero_add, if_true, List.getD_cons_zero, List.getD_cons_succ, List.contains_cons, List.contains_nil, Nat.reduceBEq, Bool.or_true, Bool.true_or, Bool.or_false, Bool.false_or, Bool.not_true, Bool.not_false, true_and, and_true]
    refine loop_at (fun n e h' => n = 0 ∧ h' = h ∧ e 0 = v ∧ e 3 = .eslice true ∧ e 4 = .int .i64 0) 0 ?_ ?_
    · simp only [go_sem, Hold.p, HoldK.k, HoldL.K, HoldL.body, Nat.reduceBEq, Nat.reduceAdd, List.getElem?_cons_zero, List.getElem?_cons_succ, Option.bind_some, List.map_cons, List.map_nil, Nat.zero_add, if_true, List.getD_cons_zero, List.getD_cons_succ, List.contains_cons, List.contains_nil, Nat.reduceBEq, Bool.or_true, Bool.true_or, Bool.or_false, Bool.false_or, Bool.not_true, Bool.not_false, true_and, and_true]
    · rintro n e h' ⟨rfl, rfl, e0, e3, e4⟩
      simp only [e0, e3, e4, hlen, go_sem, Hold.p, HoldK.k, HoldL.K, HoldL.body, Nat.reduceBEq, Nat.reduceAdd, List.getElem?_cons_zero, List.getElem?_cons_succ, Option.bind_some, List.map_cons, List.map_nil, Nat.zero_add, if_true, List.getD_cons_zero, List.getD_cons_succ, List.contains_cons, List.contains_nil, Nat.reduceBEq, Bool.or_true, Bool.true_or, Bool.or_false, Bool.false_or, Bool.not_true, Bool.not_false, true_and, and_true]
      refine test_dec (fun hb => absurd hb (by simp)) (fun _ => ?_)
      simp only [e0, e3, e4, hlen, go_sem, Hold.p, HoldK.k, HoldL.K, HoldL.body, Nat.reduceBEq, Nat.reduceAdd, List.getElem?_cons_zero, List.getElem?_cons_succ, Option.bind_some, List.map_cons, List.map_nil, Nat.zero_add, if_true, List.getD_cons_zero, List.getD_cons_succ, List.contains_cons, List.contains_nil, Nat.reduceBEq, Bool.or_true, Bool.true_or, Bool.or_false, Bool.false_or, Bool.not_true, Bool.not_false, true_and, and_true]
      exact ⟨.empty, Ext.refl _⟩
  · refine mksA_of (by omega) (by omega) (by omega) ?_
    simp only [go_sem, Hold.p, HoldK.k, HoldL.K, HoldL.body, Nat.reduceBEq, Nat.reduceAdd, List.getElem?_cons_zero, List.getElem?_cons_succ, Option.bind_some, List.map_cons, List.map_nil, Nat.zero_add, if_true, List.getD_cons_zero, List.getD_cons_succ, List.contains_cons, List.contains_nil, Nat.reduceBEq, Bool.or_true, Bool.true_or, Bool.or_false, Bool.false_or, Bool.not_true, Bool.not_false, true_and, and_true]
    have hE0 : Ext h (h.push (IObj.rows (List.replicate bs.length [.int .u8 0]) 5 1 false)) := (Ext.refl _).push _
    refine loop_at (fun n e h' => ∃ k, n = bs.length - k ∧ k ≤ bs.length ∧ e 0 = v ∧ e 3 = .slice h.n 0 bs.length ∧ e 4 = .int .i64 k ∧ Ext h h' ∧ h.n < h'.n ∧
      h'.obj h.n = .rows ((strRows bs).take k ++ List.replicate (bs.length - k) [.int .u8 0]) 5 1 false) bs.length ?_ ?_
    · refine ⟨0, by omega, by omega, ?_⟩
      simp only [go_sem, Hold.p, HoldK.k, HoldL.K, HoldL.body, Nat.reduceBEq, Nat.reduceAdd, List.getElem?_cons_zero, List.getElem?_cons_succ, Option.bind_some, List.map_cons, List.map_nil, Nat.zero_add, if_true, List.getD_cons_zero, List.getD_cons_succ, List.contains_cons, List.contains_nil, Nat.reduceBEq, Bool.or_true, Bool.true_or, Bool.or_false, Bool.false_or, Bool.not_true, Bool.not_false, true_and, and_true, rowA_whole, push_n, set_n, push_obj, set_obj, set_push, set_push_ne, set_set, Nat.add_assoc, Nat.left_eq_add, Nat.add_eq_left, Nat.add_left_cancel_iff, Nat.reduceEqDiff, stO_1s, stO_ws, boxA_s, one_bool, one_int, one_str, one_ptr, one_nilptr, one_slice, one_eslice, one_nilslice, one_func, one_iface, one_niliface, List.all_cons, List.all_nil, List.length_cons, List.length_nil, Nat.reduceLT, Nat.reduceEqDiff, Nat.reduceLeDiff, Bool.and_true, Nat.one_ne_zero, Nat.succ_ne_zero, reduceIte, if_false, List.getElem?_cons_zero, List.set_cons_zero, List.set_cons_succ]
      exact ⟨rfl, hE0, by omega, by simp⟩
    · rintro n e h' ⟨k, rfl, hk, e0, e3, e4, hE, hlt, hobj⟩
      simp only [e0, e3, e4, hlen, go_sem, Hold.p, HoldK.k, HoldL.K, HoldL.body, Nat.reduceBEq, Nat.reduceAdd, List.getElem?_cons_zero, List.getElem?_cons_succ, Option.bind_some, List.map_cons, List.map_nil, Nat.zero_add, if_true, List.getD_cons_zero, List.getD_cons_succ, List.contains_cons, List.contains_nil, Nat.reduceBEq, Bool.or_true, Bool.true_or, Bool.or_false, Bool.false_or, Bool.not_true, Bool.not_false, true_and, and_true]
      refine test_dec (fun hb => ?_) (fun hb => ?_)
      · have hlt' : k < bs.length := by omega
        have hkp : bs[k]? = some bs[k] := List.getElem?_eq_getElem hlt'
        generalize bs[k] = p at hkp
        have hkr := strRows_at hkp
        obtain ⟨l, j, hia, hll, hrow⟩ := (hs.ext hE).at (m := k) hkr .i64
        have hc := cellO_row hrow
        have hsl : (strRows bs).length = bs.length := strRows_len bs
        have hia2 : iadrF h' 1 (.slice h.n 0 bs.length) (.int .i64 k) = some (.ptr h.n k 0) := by
          rw [iadrF_of _ (by omega) (by omega) (by rw [size_eq, hobj]; rfl)]; simp
        simp only [e0, e3, e4, hlen, hia, hc, hia2, hobj, go_sem, Hold.p, HoldK.k, HoldL.K, HoldL.body, Nat.reduceBEq, Nat.reduceAdd, List.getElem?_cons_zero, List.getElem?_cons_succ, Option.bind_some, List.map_cons, List.map_nil, Nat.zero_add, if_true, List.getD_cons_zero, List.getD_cons_succ, List.contains_cons, List.contains_nil, Nat.reduceBEq, Bool.or_true, Bool.true_or, Bool.or_false, Bool.false_or, Bool.not_true, Bool.not_false, true_and, and_true]
        refine stO_of (row := [.int .u8 0]) (fill_at _ _ hsl.symm hlt') rfl (by simp) (by simp [IV.one]) ?_
        have hw : wrt [IV.int .u8 0] 0 [IV.int .u8 p.toNat] = [IV.int .u8 p.toNat] := rfl
        rw [hw, fill_set _ _ _ hsl.symm hkr]
        simp only [e0, e3, e4, go_sem, Hold.p, HoldK.k, HoldL.K, HoldL.body, Nat.reduceBEq, Nat.reduceAdd, List.getElem?_cons_zero, List.getElem?_cons_succ, Option.bind_some, List.map_cons, List.map_nil, Nat.zero_add, if_true, List.getD_cons_zero, List.getD_cons_succ, List.contains_cons, List.contains_nil, Nat.reduceBEq, Bool.or_true, Bool.true_or, Bool.or_false, Bool.false_or, Bool.not_true, Bool.not_false, true_and, and_true]
        refine ⟨_, ?_, k + 1, rfl, by omega, wr64_succ k (by omega), hE.set _ (Nat.le_refl _) _, ?_, ?_⟩
        · omega
        · exact hlt
        · simp [IH.set]
      · simp only [e0, e3, e4, hlen, go_sem, Hold.p, HoldK.k, HoldL.K, HoldL.body, Nat.reduceBEq, Nat.reduceAdd, List.getElem?_cons_zero, List.getElem?_cons_succ, Option.bind_some, List.map_cons, List.map_nil, Nat.zero_add, if_true, List.getD_cons_zero, List.getD_cons_succ, List.contains_cons, List.contains_nil, Nat.reduceBEq, Bool.or_true, Bool.true_or, Bool.or_false, Bool.false_or, Bool.not_true, Bool.not_false, true_and, and_true]
        obtain rfl : k = bs.length := by omega
        have hsl : (strRows bs).length = bs.length := strRows_len bs
        refine ⟨.inr ⟨h.n, ?_, ?_, Nat.le_refl _, hlt, Nat.le_refl _, ?_⟩, hE⟩
        · intro hx; exact h0 (by rw [← hsl, hx]; rfl)
        · rw [hsl]
        · rw [hobj, List.take_of_length_le (by omega)]; simp
set_option maxRecDepth 20000 in
theorem eqByteS_c (h : IH) (v w : IV) (bs : List UInt8) (hv : SlR h 1 v (strRows bs)) (hw : SlR h 1 w (strRows bs)) (hm : bs.length ≤ 16777300) :
    ICalls Try.prog 16 [v, w] h fun r h' => r = .bool true ∧ h' = h := by
  refine icalls (.of ok16) (Nat.le_of_ble_eq_true rfl) ?_
  unfold c16
  have hlv := hv.lenF
  have hlw := hw.lenF
  rw [strRows_len] at hlv hlw
  simp only [hlv, hlw, decide_true, go_sem, Hold.p, HoldK.k, HoldL.K, HoldL.body, Nat.reduceBEq, Nat.reduceAdd, List.getElem?_cons_zero, List.getElem?_cons_succ, Option.bind_some, List.map_cons, List.map_nil, Nat.zero_add, if_true, List.getD_cons_zero, List.getD_cons_succ, List.contains_cons, List.contains_nil, Nat.reduceBEq, Bool.or_true, Bool.true_or, Bool.or_false, Bool.false_or, Bool.not_true, Bool.not_false, true_and, and_true]
  refine loop_at (fun n e h' => ∃ k, n = bs.length - k ∧ k ≤ bs.length ∧ e 0 = v ∧ e 1 = w ∧ e 5 = .int .i64 (k : Nat) ∧ h' = h) bs.length ?_ ?_
  · refine ⟨0, by omega, by omega, ?_⟩
    simp only [go_sem, Hold.p, HoldK.k, HoldL.K, HoldL.body, Nat.reduceBEq, Nat.reduceAdd, List.getElem?_cons_zero, List.getElem?_cons_succ, Option.bind_some, List.map_cons, List.map_nil, Nat.zero_add, if_true, List.getD_cons_zero, List.getD_cons_succ, List.contains_cons, List.contains_nil, Nat.reduceBEq, Bool.or_true, Bool.true_or, Bool.or_false, Bool.false_or, Bool.not_true, Bool.not_false, true_and, and_true]
    rfl
  · rintro n e h' ⟨k, rfl, hk, e0, e1, e5, rfl⟩
    simp only [e0, e1, e5, hlv, go_sem, Hold.p, HoldK.k, HoldL.K, HoldL.body, Nat.reduceBEq, Nat.reduceAdd, List.getElem?_cons_zero, List.getElem?_cons_succ, Option.bind_some, List.map_cons, List.map_nil, Nat.zero_add, if_true, List.getD_cons_zero, List.getD_cons_succ, List.contains_cons, List.contains_nil, Nat.reduceBEq, Bool.or_true, Bool.true_or, Bool.or_false, Bool.false_or, Bool.not_true, Bool.not_false, true_and, and_true]
    refine test_dec (fun hb => ?_) (fun hb => ?_)
    · have hlt' : k < bs.length := by omega
      have hkp : bs[k]? = some bs[k] := List.getElem?_eq_getElem hlt'
      generalize bs[k] = p at hkp
      obtain ⟨l, j, hia, hll, hrow⟩ := hv.at (m := k) (strRows_at hkp) .i64
      obtain ⟨l2, j2, hia2, hll2, hrow2⟩ := hw.at (m := k) (strRows_at hkp) .i64
      have hc := cellO_row hrow
      have hc2 := cellO_row hrow2
      simp only [e0, e1, e5, hlv, hia, hia2, hc, hc2, decide_true, go_sem, Hold.p, HoldK.k, HoldL.K, HoldL.body, Nat.reduceBEq, Nat.reduceAdd, List.getElem?_cons_zero, List.getElem?_cons_succ, Option.bind_some, List.map_cons, List.map_nil, Nat.zero_add, if_true, List.getD_cons_zero, List.getD_cons_succ, List.contains_cons, List.contains_nil, Nat.reduceBEq, Bool.or_true, Bool.true_or, Bool.or_false, Bool.false_or, Bool.not_true, Bool.not_false, true_and, and_true]
      exact ⟨_, by omega, k + 1, rfl, by omega, wr64_succ k (by omega)⟩
    · simp only [e0, e1, e5, go_sem, Hold.p, HoldK.k, HoldL.K, HoldL.body, Nat.reduceBEq, Nat.reduceAdd, List.getElem?_cons_zero, List.getElem?_cons_succ, Option.bind_some, List.map_cons, List.map_nil, Nat.zero_add, if_true, List.getD_cons_zero, List.getD_cons_succ, List.contains_cons, List.contains_nil, Nat.reduceBEq, Bool.or_true, Bool.true_or, Bool.or_false, Bool.false_or, Bool.not_true, Bool.not_false, true_and, and_true]
def marksB (n k0 : Nat) : List (List IV) := (List.range n).map fun j => [.int .u8 (wr .u8 ((k0 + j : Nat) : Int))]
set_option maxRecDepth 20000 in
theorem markByteS_n (h : IH) (l n k0 e0 : Nat) (rs : List (List IV)) (hn : rs.length = n) (h0 : n ≠ 0) (hob : h.obj l = .rows rs e0 1 false) (hl : l < h.n)
    (hrs : ∀ r ∈ rs, r.length = 1) (hk : k0 + n < 4611686018427387904) :
    ICalls Try.prog 19 [.slice l 0 n, .int .i64 k0] h fun r h' => r = .int .i64 ((k0 + n : Nat) : Int) ∧ h' = h.set l (.rows (marksB n k0) e0 1 false) := by
  refine icalls (.of ok19) (Nat.le_of_ble_eq_true rfl) ?_
  unfold c19
  have hml : (marksB n k0).length = n := by simp [marksB]
  simp only [go_sem, Hold.p, HoldK.k, HoldL.K, HoldL.body, Nat.reduceBEq, Nat.reduceAdd, List.getElem?_cons_zero, List.getElem?_cons_succ, Option.bind_some, List.map_cons, List.map_nil, Nat.zero_add, if_true, List.getD_cons_zero, List.getD_cons_succ, List.contains_cons, List.contains_nil, Nat.reduceBEq, Bool.or_true, Bool.true_or, Bool.or_false, Bool.false_or, Bool.not_true, Bool.not_false, true_and, and_true]
  refine loop_at (fun m e h' => ∃ k, m = n - k ∧ k ≤ n ∧ e 0 = .slice l 0 n ∧ e 1 = .int .i64 ((k0 + k : Nat) : Int) ∧ e 5 = .int .i64 (k : Nat) ∧
    h' = h.set l (.rows ((marksB n k0).take k ++ rs.drop k) e0 1 false)) n ?_ ?_
  · refine ⟨0, by omega, by omega, ?_⟩
    simp only [go_sem, Hold.p, HoldK.k, HoldL.K, HoldL.body, Nat.reduceBEq, Nat.reduceAdd, List.getElem?_cons_zero, List.getElem?_cons_succ, Option.bind_some, List.map_cons, List.map_nil, Nat.zero_add, if_true, List.getD_cons_zero, List.getD_cons_succ, List.contains_cons, List.contains_nil, Nat.reduceBEq, Bool.or_true, Bool.true_or, Bool.or_false, Bool.false_or, Bool.not_true, Bool.not_false, true_and, and_true]
    exact ⟨by simp, rfl, (set_self (by simpa using hob)).symm⟩
  · rintro m e h' ⟨k, rfl, hkn, e0', e1, e5, rfl⟩
    simp only [e0', e1, e5, go_sem, Hold.p, HoldK.k, HoldL.K, HoldL.body, Nat.reduceBEq, Nat.reduceAdd, List.getElem?_cons_zero, List.getElem?_cons_succ, Option.bind_some, List.map_cons, List.map_nil, Nat.zero_add, if_true, List.getD_cons_zero, List.getD_cons_succ, List.contains_cons, List.contains_nil, Nat.reduceBEq, Bool.or_true, Bool.true_or, Bool.or_false, Bool.false_or, Bool.not_true, Bool.not_false, true_and, and_true]
    refine test_dec (fun hb => ?_) (fun hb => ?_)
    · have hkn' : k < n := by omega
      obtain ⟨row, hrow⟩ : ∃ row, rs[k]? = some row := ⟨rs[k], List.getElem?_eq_getElem (by omega)⟩
      have hrl : row.length = 1 := hrs row (List.mem_of_getElem? hrow)
      match row, hrl with
      | [a0], _ =>
      generalize hh : h.set l (.rows ((marksB n k0).take k ++ rs.drop k) e0 1 false) = h1
      have hob1 : h1.obj l = .rows ((marksB n k0).take k ++ rs.drop k) e0 1 false := by rw [← hh, set_here]
      have hr1 : rowO (h1.obj l) k = some [a0] := by
        rw [hob1]
        show (_ ++ _)[k]? = _
        rw [List.getElem?_append_right (by simp; omega)]
        simp [hkn, hml, hrow]
      have hia : iadrF h1 1 (.slice l 0 n) (.int .i64 k) = some (.ptr l k 0) := by
        rw [iadrF_nat hkn' (by rw [hob1]; rfl), Nat.zero_add]
      rw [← put_self hr1]
      have hr2 : (rowO (h1.obj l) k).isSome = true := by rw [hr1]; rfl
      have ho1 : (h1.obj l).own = true := by rw [hob1]; rfl
      generalize hq : k0 + k = q at e1
      have hq' : q + 1 < 4611686018427387904 := by omega
      have w0 : wr .i64 (((q : Nat) : Int) + 1) = ((q + 1 : Nat) : Int) := by rw [wr64 _ (by omega)]; rfl
      simp only [e0', e1, e5, hia, iadrF_put, stA_put1 hr2 ho1, put_put, w0, go_sem, Hold.p, HoldK.k, HoldL.K, HoldL.body, Nat.reduceBEq, Nat.reduceAdd, List.getElem?_cons_zero, List.getElem?_cons_succ, Option.bind_some, List.map_cons, List.map_nil, Nat.zero_add, if_true, List.getD_cons_zero, List.getD_cons_succ, List.contains_cons, List.contains_nil, Nat.reduceBEq, Bool.or_true, Bool.true_or, Bool.or_false, Bool.false_or, Bool.not_true, Bool.not_false, true_and, and_true, rowA_whole, push_n, set_n, push_obj, set_obj, set_push, set_push_ne, set_set, Nat.add_assoc, Nat.left_eq_add, Nat.add_eq_left, Nat.add_left_cancel_iff, Nat.reduceEqDiff, stO_1s, stO_ws, boxA_s, one_bool, one_int, one_str, one_ptr, one_nilptr, one_slice, one_eslice, one_nilslice, one_func, one_iface, one_niliface, List.all_cons, List.all_nil, List.length_cons, List.length_nil, Nat.reduceLT, Nat.reduceEqDiff, Nat.reduceLeDiff, Bool.and_true, Nat.one_ne_zero, Nat.succ_ne_zero, reduceIte, if_false, List.getElem?_cons_zero, List.set_cons_zero, List.set_cons_succ]
      subst hq
      refine ⟨_, ?_, k + 1, rfl, by omega, by congr 2, wr64_succ k (by omega), ?_⟩
      · omega
      · unfold IH.put
        rw [hob1, ← hh, set_set]
        unfold putO
        have := over_set (xs := marksB n k0) (ys := rs) (k := k) (x := [.int .u8 (wr .u8 ((k0 + k : Nat) : Int))]) (by rw [hml, hn]) (by unfold marksB; simp [hkn'])
        rw [← this]
    · simp only [e0', e1, e5, go_sem, Hold.p, HoldK.k, HoldL.K, HoldL.body, Nat.reduceBEq, Nat.reduceAdd, List.getElem?_cons_zero, List.getElem?_cons_succ, Option.bind_some, List.map_cons, List.map_nil, Nat.zero_add, if_true, List.getD_cons_zero, List.getD_cons_succ, List.contains_cons, List.contains_nil, Nat.reduceBEq, Bool.or_true, Bool.true_or, Bool.or_false, Bool.false_or, Bool.not_true, Bool.not_false, true_and, and_true]
      obtain rfl : k = n := by omega
      exact ⟨rfl, by congr 2; rw [List.drop_eq_nil_of_le (by omega), List.append_nil, List.take_of_length_le (by omega)]⟩
theorem rows1 {bs : List UInt8} : ∀ r ∈ strRows bs, r.length = 1 := by
  intro r hr
  obtain ⟨p, _, rfl⟩ := List.mem_map.1 hr
  rfl
set_option maxRecDepth 20000 in
theorem markByteS_c {lo hi : Nat} (h : IH) (v : IV) (k0 : Nat) (rs : List (List IV)) (ho : Own lo hi h 5 1 v rs) (hrs : ∀ r ∈ rs, r.length = 1) (hk : k0 + rs.length < 4611686018427387904) :
    ICalls Try.prog 19 [v, .int .i64 k0] h fun r h' => r = .int .i64 ((k0 + rs.length : Nat) : Int) ∧ Own lo hi h' 5 1 v (marksB rs.length k0) ∧ Turn v h h' := by
  refine ho.mark (fun hr hlen h1 => ?_) (fun l hv h0 hl h1 h2 h3 hob => ?_)
  · subst hr
    refine icalls (.of ok19) (Nat.le_of_ble_eq_true rfl) ?_
    unfold c19
    simp only [hlen, go_sem, Hold.p, HoldK.k, HoldL.K, HoldL.body, Nat.reduceBEq, Nat.reduceAdd, List.getElem?_cons_zero, List.getElem?_cons_succ, Option.bind_some, List.map_cons, List.map_nil, Nat.zero_add, if_true, List.getD_cons_zero, List.getD_cons_succ, List.contains_cons, List.contains_nil, Nat.reduceBEq, Bool.or_true, Bool.true_or, Bool.or_false, Bool.false_or, Bool.not_true, Bool.not_false, true_and, and_true]
    refine loop_at (fun m e h' => m = 0 ∧ h' = h ∧ e 0 = v ∧ e 1 = .int .i64 k0 ∧ e 5 = .int .i64 0) 0 ?_ ?_
    · simp only [go_sem, Hold.p, HoldK.k, HoldL.K, HoldL.body, Nat.reduceBEq, Nat.reduceAdd, List.getElem?_cons_zero, List.getElem?_cons_succ, Option.bind_some, List.map_cons, List.map_nil, Nat.zero_add, if_true, List.getD_cons_zero, List.getD_cons_succ, List.contains_cons, List.contains_nil, Nat.reduceBEq, Bool.or_true, Bool.true_or, Bool.or_false, Bool.false_or, Bool.not_true, Bool.not_false, true_and, and_true]
    · rintro m e h' ⟨rfl, rfl, e0, e1, e5⟩
      simp only [e0, e1, e5, hlen, go_sem, Hold.p, HoldK.k, HoldL.K, HoldL.body, Nat.reduceBEq, Nat.reduceAdd, List.getElem?_cons_zero, List.getElem?_cons_succ, Option.bind_some, List.map_cons, List.map_nil, Nat.zero_add, if_true, List.getD_cons_zero, List.getD_cons_succ, List.contains_cons, List.contains_nil, Nat.reduceBEq, Bool.or_true, Bool.true_or, Bool.or_false, Bool.false_or, Bool.not_true, Bool.not_false, true_and, and_true]
      refine test_dec (fun hb => absurd hb (by simp)) (fun _ => ?_)
      simp only [e0, e1, e5, go_sem, Hold.p, HoldK.k, HoldL.K, HoldL.body, Nat.reduceBEq, Nat.reduceAdd, List.getElem?_cons_zero, List.getElem?_cons_succ, Option.bind_some, List.map_cons, List.map_nil, Nat.zero_add, if_true, List.getD_cons_zero, List.getD_cons_succ, List.contains_cons, List.contains_nil, Nat.reduceBEq, Bool.or_true, Bool.true_or, Bool.or_false, Bool.false_or, Bool.not_true, Bool.not_false, true_and, and_true]
      exact ⟨by simp, ho, Turn.refl _ _⟩
  · subst hv
    refine (markByteS_n h l rs.length k0 5 rs rfl h0 hob hl hrs hk).mono ?_
    rintro r h' ⟨rfl, rfl⟩
    exact ⟨rfl, Own.over (by simp [marksB]) h0 h1 h2 h3, Turn.set _⟩
set_option maxRecDepth 20000 in
theorem heldByteS_c (h : IH) (v : IV) (n k0 : Nat) (hs : SlR h 1 v (marksB n k0)) (hk : k0 + n < 4611686018427387904) :
    ICalls Try.prog 20 [v, .int .i64 k0] h fun r h' => r = .int .i64 ((k0 + n : Nat) : Int) ∧ h' = h := by
  refine icalls (.of ok20) (Nat.le_of_ble_eq_true rfl) ?_
  unfold c20
  have hlen := hs.lenF
  have hml : (marksB n k0).length = n := by simp [marksB]
  rw [hml] at hlen
  simp only [go_sem, Hold.p, HoldK.k, HoldL.K, HoldL.body, Nat.reduceBEq, Nat.reduceAdd, List.getElem?_cons_zero, List.getElem?_cons_succ, Option.bind_some, List.map_cons, List.map_nil, Nat.zero_add, if_true, List.getD_cons_zero, List.getD_cons_succ, List.contains_cons, List.contains_nil, Nat.reduceBEq, Bool.or_true, Bool.true_or, Bool.or_false, Bool.false_or, Bool.not_true, Bool.not_false, true_and, and_true]
  refine loop_at (fun m e h' => ∃ k, m = n - k ∧ k ≤ n ∧ e 0 = v ∧ e 1 = .int .i64 ((k0 + k : Nat) : Int) ∧ e 5 = .int .i64 (k : Nat) ∧ h' = h) n ?_ ?_
  · refine ⟨0, by omega, by omega, ?_⟩
    simp only [go_sem, Hold.p, HoldK.k, HoldL.K, HoldL.body, Nat.reduceBEq, Nat.reduceAdd, List.getElem?_cons_zero, List.getElem?_cons_succ, Option.bind_some, List.map_cons, List.map_nil, Nat.zero_add, if_true, List.getD_cons_zero, List.getD_cons_succ, List.contains_cons, List.contains_nil, Nat.reduceBEq, Bool.or_true, Bool.true_or, Bool.or_false, Bool.false_or, Bool.not_true, Bool.not_false, true_and, and_true]
    exact ⟨by simp, rfl⟩
  · rintro m e h' ⟨k, rfl, hkn, e0', e1, e5, rfl⟩
    simp only [e0', e1, e5, hlen, go_sem, Hold.p, HoldK.k, HoldL.K, HoldL.body, Nat.reduceBEq, Nat.reduceAdd, List.getElem?_cons_zero, List.getElem?_cons_succ, Option.bind_some, List.map_cons, List.map_nil, Nat.zero_add, if_true, List.getD_cons_zero, List.getD_cons_succ, List.contains_cons, List.contains_nil, Nat.reduceBEq, Bool.or_true, Bool.true_or, Bool.or_false, Bool.false_or, Bool.not_true, Bool.not_false, true_and, and_true]
    refine test_dec (fun hb => ?_) (fun hb => ?_)
    · have hkn' : k < n := by omega
      obtain ⟨l, j, hia, hll, hrow⟩ := hs.at (m := k) (row := [.int .u8 (wr .u8 ((k0 + k : Nat) : Int))]) (by unfold marksB; simp [hkn']) .i64
      have hc := cellO_row hrow
      generalize hq : k0 + k = q at e1 hc
      have hq' : q + 1 < 4611686018427387904 := by omega
      have w0 : wr .i64 (((q : Nat) : Int) + 1) = ((q + 1 : Nat) : Int) := by rw [wr64 _ (by omega)]; rfl
      simp only [e0', e1, e5, hia, hc, decide_true, w0, go_sem, Hold.p, HoldK.k, HoldL.K, HoldL.body, Nat.reduceBEq, Nat.reduceAdd, List.getElem?_cons_zero, List.getElem?_cons_succ, Option.bind_some, List.map_cons, List.map_nil, Nat.zero_add, if_true, List.getD_cons_zero, List.getD_cons_succ, List.contains_cons, List.contains_nil, Nat.reduceBEq, Bool.or_true, Bool.true_or, Bool.or_false, Bool.false_or, Bool.not_true, Bool.not_false, true_and, and_true]
      subst hq
      refine ⟨_, ?_, k + 1, rfl, by omega, by congr 2, wr64_succ k (by omega)⟩
      omega
    · simp only [e0', e1, e5, hlen, go_sem, Hold.p, HoldK.k, HoldL.K, HoldL.body, Nat.reduceBEq, Nat.reduceAdd, List.getElem?_cons_zero, List.getElem?_cons_succ, Option.bind_some, List.map_cons, List.map_nil, Nat.zero_add, if_true, List.getD_cons_zero, List.getD_cons_succ, List.contains_cons, List.contains_nil, Nat.reduceBEq, Bool.or_true, Bool.true_or, Bool.or_false, Bool.false_or, Bool.not_true, Bool.not_false, true_and, and_true]
      obtain rfl : k = n := by omega
      trivial
/-- Rows of bytes are a text's. -/
theorem fits_bytes {h : IH} : ∀ {rs : List (List IV)}, (∀ r ∈ rs, Fits h (.int .u8) r) → ∃ bs : List UInt8, rs = strRows bs
  | [], _ => ⟨[], rfl⟩
  | r :: rs, hf => by
    obtain ⟨bs, e⟩ := fits_bytes fun x hx => hf x (List.mem_cons_of_mem _ hx)
    obtain ⟨a, ha, hb⟩ := hf r List.mem_cons_self
    refine ⟨UInt8.ofNat a.toNat :: bs, ?_⟩
    have m1 : IntKind.u8.min = 0 := rfl
    have m2 : IntKind.u8.max = 255 := rfl
    have h2 : 0 ≤ a ∧ a < 256 := by simp [Lit.wf, m1, m2] at hb; omega
    subst ha
    rw [e]
    have h3 : ((UInt8.ofNat a.toNat).toNat : Int) = a := by
      have : (UInt8.ofNat a.toNat).toNat = a.toNat % 256 := UInt8.toNat_ofNat'
      omega
    show [IV.int .u8 a] :: strRows bs = [IV.int .u8 ((UInt8.ofNat a.toNat).toNat : Int)] :: strRows bs
    rw [h3]
set_option maxRecDepth 20000 in
theorem idxB_c (h : IH) (s : List UInt8) (c : UInt8) : ICalls Try.prog 105 [.str s, .int .u8 c.toNat] h fun r h' => r = .int .i64 (Lib.indexByte s c) ∧ h' = h := by
  have := idxByte_calls (P := Try.prog) (f := 105) Try.func105 (by kernel_rfl) (by kernel_rfl) (by kernel_rfl) (by kernel_rfl) h s c.toNat
  simpa using this
theorem idxS_at {s : List UInt8} {k : Nat} {q : IntKind} {b : UInt8} (hb : s[k]? = some b) : idxSF (.str s) (.int q (k : Int)) = some (.int .u8 b.toNat) :=
  idxSF_of (by omega) (by simpa using hb)
set_option maxRecDepth 20000 in
theorem sIndexByte_c (h : IH) (s : List UInt8) (c : UInt8) : ICalls Try.prog 93 [.str s, .int .u8 c.toNat] h fun r h' => r = .int .i64 (Lib.indexByte s c) ∧ h' = h := by
  refine icalls (.of ok93) (Nat.le_of_ble_eq_true rfl) ?_
  unfold c93
  simp only [go_sem, Hold.p, HoldK.k, HoldL.K, HoldL.body, Nat.reduceBEq, Nat.reduceAdd, List.getElem?_cons_zero, List.getElem?_cons_succ, Option.bind_some, List.map_cons, List.map_nil, Nat.zero_add, if_true, List.getD_cons_zero, List.getD_cons_succ, List.contains_cons, List.contains_nil, Nat.reduceBEq, Bool.or_true, Bool.true_or, Bool.or_false, Bool.false_or, Bool.not_true, Bool.not_false, true_and, and_true]
  refine callA_of (idxB_c h s c) ?_
  rintro r h' ⟨rfl, rfl⟩
  simp only [go_sem, Hold.p, HoldK.k, HoldL.K, HoldL.body, Nat.reduceBEq, Nat.reduceAdd, List.getElem?_cons_zero, List.getElem?_cons_succ, Option.bind_some, List.map_cons, List.map_nil, Nat.zero_add, if_true, List.getD_cons_zero, List.getD_cons_succ, List.contains_cons, List.contains_nil, Nat.reduceBEq, Bool.or_true, Bool.true_or, Bool.or_false, Bool.false_or, Bool.not_true, Bool.not_false, true_and, and_true]
theorem getD_at {bs : List UInt8} {k : Nat} (hk : k < bs.length) : bs[k]? = some (bs.getD k 0) := by
  rw [List.getD_eq_getElem?_getD, List.getElem?_eq_getElem hk]; rfl
theorem drop_at {bs : List UInt8} {k : Nat} (h : k < bs.length) : bs.drop k = bs.getD k 0 :: bs.drop (k + 1) := by
  rw [List.drop_eq_getElem_cons h]
  congr 1
  rw [List.getD_eq_getElem?_getD, List.getElem?_eq_getElem h]; rfl
set_option maxRecDepth 20000 in
theorem indexByte_c (h : IH) (s : List UInt8) (c : UInt8) : ICalls Try.prog 56 [.str s, .int .u8 c.toNat] h fun r h' => r = .int .i64 (Lib.indexByte s c) ∧ h' = h := by
  refine icalls (.of ok56) (Nat.le_of_ble_eq_true rfl) ?_
  unfold c56
  simp only [go_sem, Hold.p, HoldK.k, HoldL.K, HoldL.body, Nat.reduceBEq, Nat.reduceAdd, List.getElem?_cons_zero, List.getElem?_cons_succ, Option.bind_some, List.map_cons, List.map_nil, Nat.zero_add, if_true, List.getD_cons_zero, List.getD_cons_succ, List.contains_cons, List.contains_nil, Nat.reduceBEq, Bool.or_true, Bool.true_or, Bool.or_false, Bool.false_or, Bool.not_true, Bool.not_false, true_and, and_true]
  refine callA_of (sIndexByte_c h s c) ?_
  rintro r h' ⟨rfl, rfl⟩
  simp only [go_sem, Hold.p, HoldK.k, HoldL.K, HoldL.body, Nat.reduceBEq, Nat.reduceAdd, List.getElem?_cons_zero, List.getElem?_cons_succ, Option.bind_some, List.map_cons, List.map_nil, Nat.zero_add, if_true, List.getD_cons_zero, List.getD_cons_succ, List.contains_cons, List.contains_nil, Nat.reduceBEq, Bool.or_true, Bool.true_or, Bool.or_false, Bool.false_or, Bool.not_true, Bool.not_false, true_and, and_true]
set_option maxRecDepth 20000 in
theorem noEsc_c (h : IH) (v : IV) : ICalls Try.prog 106 [v] h fun r h' => r = v ∧ h' = h :=
  noEscape_calls Try.func106 (by kernel_rfl) (by kernel_rfl) (by kernel_rfl) (by kernel_rfl) h v
set_option maxRecDepth 20000 in
theorem copyCheck_c (h : IH) (p : Nat) (a v : IV) (hb : At h p (.rows [[a, v]] 91 2 false)) (ha : a = .nilptr ∨ a = .ptr p 0 0) : ICalls Try.prog 94 [.ptr p 0 0] h fun r h' => r = .tuple [] ∧ h' = h.set p (.rows [[.ptr p 0 0, v]] 91 2 false) :=
  copyCheck_calls (esc := 106) ok94 noEsc_c hb ha
end Go.Proofs.Ytecljenjlncfhaa

namespace Go.Proofs.Ytecljenjlncfhaa
open Go Go.IW

/-- A byte that is written as it is. -/
def plainB (b : UInt8) : Bool := (decide (97 ≤ (b.toNat : Int)) && decide ((b.toNat : Int) ≤ 122)) || (decide (65 ≤ (b.toNat : Int)) && decide ((b.toNat : Int) ≤ 90)) || (decide (48 ≤ (b.toNat : Int)) && decide ((b.toNat : Int) ≤ 57)) || decide ((b.toNat : Int) = 46) || decide ((b.toNat : Int) = 45) || decide ((b.toNat : Int) = 95) || decide ((b.toNat : Int) = 47) || decide ((b.toNat : Int) = 58)
def hexS : List UInt8 := [48, 49, 50, 51, 52, 53, 54, 55, 56, 57, 97, 98, 99, 100, 101, 102]
def hexD (k : Nat) : UInt8 := hexS.getD k 0
theorem hexS_at {k : Nat} (h : k < 16) : hexS[k]? = some (hexD k) := by
  unfold hexD
  rw [List.getD_eq_getElem?_getD, List.getElem?_eq_getElem h]; rfl
def hex2 (b : UInt8) : List UInt8 := [hexD (b.toNat / 16), hexD (b.toNat % 16)]
def escB (b : UInt8) : List UInt8 := if plainB b = true then [b] else 37 :: hex2 b
def showD (bs : List UInt8) : List UInt8 × Int := if 60000 < bs.length then ([], 7) else if bs = [] then ([61], 0) else (bs.flatMap escB, 0)
theorem escB_len (b : UInt8) : (escB b).length ≤ 3 := by unfold escB hex2; split <;> simp
theorem flat_esc_len : ∀ (bs : List UInt8), (bs.flatMap escB).length ≤ 3 * bs.length
  | [] => by simp
  | b :: r => by
    have h1 := escB_len b
    have h2 := flat_esc_len r
    rw [List.flatMap_cons, List.length_append, List.length_cons]; omega
theorem flat_snoc {f : UInt8 → List UInt8} {bs : List UInt8} {k : Nat} {b : UInt8} (h : bs[k]? = some b) : (bs.take (k + 1)).flatMap f = (bs.take k).flatMap f ++ f b := by
  rw [List.take_add_one, h]; simp
theorem and15 (b : UInt8) : IW.bits .and .u8 (b.toNat : Int) 15 = ((b.toNat % 16 : Nat) : Int) := by
  have key : ∀ n : Fin 256, IW.bits .and .u8 (n.val : Int) 15 = ((n.val % 16 : Nat) : Int) := by decide +kernel
  exact key ⟨b.toNat, b.toNat_lt⟩
theorem shr4 (b : UInt8) : ibin .shr (.int .u8 (b.toNat : Int)) (.int .u64 4) = some (.int .u8 ((b.toNat / 16 : Nat) : Int)) := by
  have h := ib_shr (k := .u8) (a := (b.toNat : Int)) (b := 4) .u64 (by decide)
  have hm : min (4 : Int).toNat IntKind.u8.bits = 4 := rfl
  rw [hm, Int.fdiv_eq_ediv_of_nonneg _ (by decide)] at h
  have : ((b.toNat : Int) / 2 ^ 4) = ((b.toNat / 16 : Nat) : Int) := by simp
  rw [this] at h
  exact h
theorem idx_plain (b : UInt8) : decide (0 ≤ Lib.indexByte [46, 45, 95, 47, 58] b) = (decide ((b.toNat : Int) = 46) || decide ((b.toNat : Int) = 45) || decide ((b.toNat : Int) = 95) || decide ((b.toNat : Int) = 47) || decide ((b.toNat : Int) = 58)) := by
  have key : ∀ n : Fin 256, decide (0 ≤ Lib.indexByte [46, 45, 95, 47, 58] (UInt8.ofNat n.val)) = (decide ((n.val : Int) = 46) || decide ((n.val : Int) = 45) || decide ((n.val : Int) = 95) || decide ((n.val : Int) = 47) || decide ((n.val : Int) = 58)) := by decide +kernel
  have := key ⟨b.toNat, b.toNat_lt⟩
  simpa using this

set_option maxRecDepth 20000 in
theorem l20Plain_c (h : IH) (b : UInt8) : ICalls Try.prog 54 [.int .u8 b.toNat] h fun r h' => r = .bool (plainB b) ∧ h' = h := by
  refine icalls (.of ok54) (Nat.le_of_ble_eq_true rfl) ?_
  unfold c54 plainB
  cases d0 : decide (97 ≤ (b.toNat : Int))
  · skip
    cases d1 : decide (65 ≤ (b.toNat : Int))
    · skip
      cases d2 : decide (48 ≤ (b.toNat : Int))
      · skip
        cases d3 : decide ((b.toNat : Int) = 46)
        · skip
          cases d4 : decide ((b.toNat : Int) = 45)
          · skip
            cases d5 : decide ((b.toNat : Int) = 95)
            · skip
              cases d6 : decide ((b.toNat : Int) = 47)
              · skip
                cases d7 : decide ((b.toNat : Int) = 58)
                · skip
                  simp only [d0, d1, d2, d3, d4, d5, d6, d7, Bool.true_and, Bool.false_and, Bool.and_true, Bool.and_false, Bool.true_or, Bool.false_or, Bool.or_true, Bool.or_false, go_sem, Hold.p, HoldK.k, HoldL.K, HoldL.body, Nat.reduceBEq, Nat.reduceAdd, List.getElem?_cons_zero, List.getElem?_cons_succ, Option.bind_some, List.map_cons, List.map_nil, Nat.zero_add, if_true, List.getD_cons_zero, List.getD_cons_succ, List.contains_cons, List.contains_nil, Nat.reduceBEq, Bool.or_true, Bool.true_or, Bool.or_false, Bool.false_or, Bool.not_true, Bool.not_false, true_and, and_true]
                · skip
                  simp only [d0, d1, d2, d3, d4, d5, d6, d7, Bool.true_and, Bool.false_and, Bool.and_true, Bool.and_false, Bool.true_or, Bool.false_or, Bool.or_true, Bool.or_false, go_sem, Hold.p, HoldK.k, HoldL.K, HoldL.body, Nat.reduceBEq, Nat.reduceAdd, List.getElem?_cons_zero, List.getElem?_cons_succ, Option.bind_some, List.map_cons, List.map_nil, Nat.zero_add, if_true, List.getD_cons_zero, List.getD_cons_succ, List.contains_cons, List.contains_nil, Nat.reduceBEq, Bool.or_true, Bool.true_or, Bool.or_false, Bool.false_or, Bool.not_true, Bool.not_false, true_and, and_true]
              · skip
                simp only [d0, d1, d2, d3, d4, d5, d6, Bool.true_and, Bool.false_and, Bool.and_true, Bool.and_false, Bool.true_or, Bool.false_or, Bool.or_true, Bool.or_false, go_sem, Hold.p, HoldK.k, HoldL.K, HoldL.body, Nat.reduceBEq, Nat.reduceAdd, List.getElem?_cons_zero, List.getElem?_cons_succ, Option.bind_some, List.map_cons, List.map_nil, Nat.zero_add, if_true, List.getD_cons_zero, List.getD_cons_succ, List.contains_cons, List.contains_nil, Nat.reduceBEq, Bool.or_true, Bool.true_or, Bool.or_false, Bool.false_or, Bool.not_true, Bool.not_false, true_and, and_true]
            · skip
              simp only [d0, d1, d2, d3, d4, d5, Bool.true_and, Bool.false_and, Bool.and_true, Bool.and_false, Bool.true_or, Bool.false_or, Bool.or_true, Bool.or_false, go_sem, Hold.p, HoldK.k, HoldL.K, HoldL.body, Nat.reduceBEq, Nat.reduceAdd, List.getElem?_cons_zero, List.getElem?_cons_succ, Option.bind_some, List.map_cons, List.map_nil, Nat.zero_add, if_true, List.getD_cons_zero, List.getD_cons_succ, List.contains_cons, List.contains_nil, Nat.reduceBEq, Bool.or_true, Bool.true_or, Bool.or_false, Bool.false_or, Bool.not_true, Bool.not_false, true_and, and_true]
          · skip
            simp only [d0, d1, d2, d3, d4, Bool.true_and, Bool.false_and, Bool.and_true, Bool.and_false, Bool.true_or, Bool.false_or, Bool.or_true, Bool.or_false, go_sem, Hold.p, HoldK.k, HoldL.K, HoldL.body, Nat.reduceBEq, Nat.reduceAdd, List.getElem?_cons_zero, List.getElem?_cons_succ, Option.bind_some, List.map_cons, List.map_nil, Nat.zero_add, if_true, List.getD_cons_zero, List.getD_cons_succ, List.contains_cons, List.contains_nil, Nat.reduceBEq, Bool.or_true, Bool.true_or, Bool.or_false, Bool.false_or, Bool.not_true, Bool.not_false, true_and, and_true]
        · skip
          simp only [d0, d1, d2, d3, Bool.true_and, Bool.false_and, Bool.and_true, Bool.and_false, Bool.true_or, Bool.false_or, Bool.or_true, Bool.or_false, go_sem, Hold.p, HoldK.k, HoldL.K, HoldL.body, Nat.reduceBEq, Nat.reduceAdd, List.getElem?_cons_zero, List.getElem?_cons_succ, Option.bind_some, List.map_cons, List.map_nil, Nat.zero_add, if_true, List.getD_cons_zero, List.getD_cons_succ, List.contains_cons, List.contains_nil, Nat.reduceBEq, Bool.or_true, Bool.true_or, Bool.or_false, Bool.false_or, Bool.not_true, Bool.not_false, true_and, and_true]
      · cases d3 : decide ((b.toNat : Int) ≤ 57)
        · skip
          cases d4 : decide ((b.toNat : Int) = 46)
          · skip
            cases d5 : decide ((b.toNat : Int) = 45)
            · skip
              cases d6 : decide ((b.toNat : Int) = 95)
              · skip
                cases d7 : decide ((b.toNat : Int) = 47)
                · skip
                  cases d8 : decide ((b.toNat : Int) = 58)
                  · skip
                    simp only [d0, d1, d2, d3, d4, d5, d6, d7, d8, Bool.true_and, Bool.false_and, Bool.and_true, Bool.and_false, Bool.true_or, Bool.false_or, Bool.or_true, Bool.or_false, go_sem, Hold.p, HoldK.k, HoldL.K, HoldL.body, Nat.reduceBEq, Nat.reduceAdd, List.getElem?_cons_zero, List.getElem?_cons_succ, Option.bind_some, List.map_cons, List.map_nil, Nat.zero_add, if_true, List.getD_cons_zero, List.getD_cons_succ, List.contains_cons, List.contains_nil, Nat.reduceBEq, Bool.or_true, Bool.true_or, Bool.or_false, Bool.false_or, Bool.not_true, Bool.not_false, true_and, and_true]
                  · skip
                    simp only [d0, d1, d2, d3, d4, d5, d6, d7, d8, Bool.true_and, Bool.false_and, Bool.and_true, Bool.and_false, Bool.true_or, Bool.false_or, Bool.or_true, Bool.or_false, go_sem, Hold.p, HoldK.k, HoldL.K, HoldL.body, Nat.reduceBEq, Nat.reduceAdd, List.getElem?_cons_zero, List.getElem?_cons_succ, Option.bind_some, List.map_cons, List.map_nil, Nat.zero_add, if_true, List.getD_cons_zero, List.getD_cons_succ, List.contains_cons, List.contains_nil, Nat.reduceBEq, Bool.or_true, Bool.true_or, Bool.or_false, Bool.false_or, Bool.not_true, Bool.not_false, true_and, and_true]
                · skip
                  simp only [d0, d1, d2, d3, d4, d5, d6, d7, Bool.true_and, Bool.false_and, Bool.and_true, Bool.and_false, Bool.true_or, Bool.false_or, Bool.or_true, Bool.or_false, go_sem, Hold.p, HoldK.k, HoldL.K, HoldL.body, Nat.reduceBEq, Nat.reduceAdd, List.getElem?_cons_zero, List.getElem?_cons_succ, Option.bind_some, List.map_cons, List.map_nil, Nat.zero_add, if_true, List.getD_cons_zero, List.getD_cons_succ, List.contains_cons, List.contains_nil, Nat.reduceBEq, Bool.or_true, Bool.true_or, Bool.or_false, Bool.false_or, Bool.not_true, Bool.not_false, true_and, and_true]
              · skip
                simp only [d0, d1, d2, d3, d4, d5, d6, Bool.true_and, Bool.false_and, Bool.and_true, Bool.and_false, Bool.true_or, Bool.false_or, Bool.or_true, Bool.or_false, go_sem, Hold.p, HoldK.k, HoldL.K, HoldL.body, Nat.reduceBEq, Nat.reduceAdd, List.getElem?_cons_zero, List.getElem?_cons_succ, Option.bind_some, List.map_cons, List.map_nil, Nat.zero_add, if_true, List.getD_cons_zero, List.getD_cons_succ, List.contains_cons, List.contains_nil, Nat.reduceBEq, Bool.or_true, Bool.true_or, Bool.or_false, Bool.false_or, Bool.not_true, Bool.not_false, true_and, and_true]
            · skip
              simp only [d0, d1, d2, d3, d4, d5, Bool.true_and, Bool.false_and, Bool.and_true, Bool.and_false, Bool.true_or, Bool.false_or, Bool.or_true, Bool.or_false, go_sem, Hold.p, HoldK.k, HoldL.K, HoldL.body, Nat.reduceBEq, Nat.reduceAdd, List.getElem?_cons_zero, List.getElem?_cons_succ, Option.bind_some, List.map_cons, List.map_nil, Nat.zero_add, if_true, List.getD_cons_zero, List.getD_cons_succ, List.contains_cons, List.contains_nil, Nat.reduceBEq, Bool.or_true, Bool.true_or, Bool.or_false, Bool.false_or, Bool.not_true, Bool.not_false, true_and, and_true]
          · skip
            simp only [d0, d1, d2, d3, d4, Bool.true_and, Bool.false_and, Bool.and_true, Bool.and_false, Bool.true_or, Bool.false_or, Bool.or_true, Bool.or_false, go_sem, Hold.p, HoldK.k, HoldL.K, HoldL.body, Nat.reduceBEq, Nat.reduceAdd, List.getElem?_cons_zero, List.getElem?_cons_succ, Option.bind_some, List.map_cons, List.map_nil, Nat.zero_add, if_true, List.getD_cons_zero, List.getD_cons_succ, List.contains_cons, List.contains_nil, Nat.reduceBEq, Bool.or_true, Bool.true_or, Bool.or_false, Bool.false_or, Bool.not_true, Bool.not_false, true_and, and_true]
        · skip
          simp only [d0, d1, d2, d3, Bool.true_and, Bool.false_and, Bool.and_true, Bool.and_false, Bool.true_or, Bool.false_or, Bool.or_true, Bool.or_false, go_sem, Hold.p, HoldK.k, HoldL.K, HoldL.body, Nat.reduceBEq, Nat.reduceAdd, List.getElem?_cons_zero, List.getElem?_cons_succ, Option.bind_some, List.map_cons, List.map_nil, Nat.zero_add, if_true, List.getD_cons_zero, List.getD_cons_succ, List.contains_cons, List.contains_nil, Nat.reduceBEq, Bool.or_true, Bool.true_or, Bool.or_false, Bool.false_or, Bool.not_true, Bool.not_false, true_and, and_true]
    · cases d2 : decide ((b.toNat : Int) ≤ 90)
      · skip
        cases d3 : decide (48 ≤ (b.toNat : Int))
        · skip
          cases d4 : decide ((b.toNat : Int) = 46)
          · skip
            cases d5 : decide ((b.toNat : Int) = 45)
            · skip
              cases d6 : decide ((b.toNat : Int) = 95)
              · skip
                cases d7 : decide ((b.toNat : Int) = 47)
                · skip
                  cases d8 : decide ((b.toNat : Int) = 58)
                  · skip
                    simp only [d0, d1, d2, d3, d4, d5, d6, d7, d8, Bool.true_and, Bool.false_and, Bool.and_true, Bool.and_false, Bool.true_or, Bool.false_or, Bool.or_true, Bool.or_false, go_sem, Hold.p, HoldK.k, HoldL.K, HoldL.body, Nat.reduceBEq, Nat.reduceAdd, List.getElem?_cons_zero, List.getElem?_cons_succ, Option.bind_some, List.map_cons, List.map_nil, Nat.zero_add, if_true, List.getD_cons_zero, List.getD_cons_succ, List.contains_cons, List.contains_nil, Nat.reduceBEq, Bool.or_true, Bool.true_or, Bool.or_false, Bool.false_or, Bool.not_true, Bool.not_false, true_and, and_true]
                  · skip
                    simp only [d0, d1, d2, d3, d4, d5, d6, d7, d8, Bool.true_and, Bool.false_and, Bool.and_true, Bool.and_false, Bool.true_or, Bool.false_or, Bool.or_true, Bool.or_false, go_sem, Hold.p, HoldK.k, HoldL.K, HoldL.body, Nat.reduceBEq, Nat.reduceAdd, List.getElem?_cons_zero, List.getElem?_cons_succ, Option.bind_some, List.map_cons, List.map_nil, Nat.zero_add, if_true, List.getD_cons_zero, List.getD_cons_succ, List.contains_cons, List.contains_nil, Nat.reduceBEq, Bool.or_true, Bool.true_or, Bool.or_false, Bool.false_or, Bool.not_true, Bool.not_false, true_and, and_true]
                · skip
                  simp only [d0, d1, d2, d3, d4, d5, d6, d7, Bool.true_and, Bool.false_and, Bool.and_true, Bool.and_false, Bool.true_or, Bool.false_or, Bool.or_true, Bool.or_false, go_sem, Hold.p, HoldK.k, HoldL.K, HoldL.body, Nat.reduceBEq, Nat.reduceAdd, List.getElem?_cons_zero, List.getElem?_cons_succ, Option.bind_some, List.map_cons, List.map_nil, Nat.zero_add, if_true, List.getD_cons_zero, List.getD_cons_succ, List.contains_cons, List.contains_nil, Nat.reduceBEq, Bool.or_true, Bool.true_or, Bool.or_false, Bool.false_or, Bool.not_true, Bool.not_false, true_and, and_true]
              · skip
                simp only [d0, d1, d2, d3, d4, d5, d6, Bool.true_and, Bool.false_and, Bool.and_true, Bool.and_false, Bool.true_or, Bool.false_or, Bool.or_true, Bool.or_false, go_sem, Hold.p, HoldK.k, HoldL.K, HoldL.body, Nat.reduceBEq, Nat.reduceAdd, List.getElem?_cons_zero, List.getElem?_cons_succ, Option.bind_some, List.map_cons, List.map_nil, Nat.zero_add, if_true, List.getD_cons_zero, List.getD_cons_succ, List.contains_cons, List.contains_nil, Nat.reduceBEq, Bool.or_true, Bool.true_or, Bool.or_false, Bool.false_or, Bool.not_true, Bool.not_false, true_and, and_true]
            · skip
              simp only [d0, d1, d2, d3, d4, d5, Bool.true_and, Bool.false_and, Bool.and_true, Bool.and_false, Bool.true_or, Bool.false_or, Bool.or_true, Bool.or_false, go_sem, Hold.p, HoldK.k, HoldL.K, HoldL.body, Nat.reduceBEq, Nat.reduceAdd, List.getElem?_cons_zero, List.getElem?_cons_succ, Option.bind_some, List.map_cons, List.map_nil, Nat.zero_add, if_true, List.getD_cons_zero, List.getD_cons_succ, List.contains_cons, List.contains_nil, Nat.reduceBEq, Bool.or_true, Bool.true_or, Bool.or_false, Bool.false_or, Bool.not_true, Bool.not_false, true_and, and_true]
          · skip
            simp only [d0, d1, d2, d3, d4, Bool.true_and, Bool.false_and, Bool.and_true, Bool.and_false, Bool.true_or, Bool.false_or, Bool.or_true, Bool.or_false, go_sem, Hold.p, HoldK.k, HoldL.K, HoldL.body, Nat.reduceBEq, Nat.reduceAdd, List.getElem?_cons_zero, List.getElem?_cons_succ, Option.bind_some, List.map_cons, List.map_nil, Nat.zero_add, if_true, List.getD_cons_zero, List.getD_cons_succ, List.contains_cons, List.contains_nil, Nat.reduceBEq, Bool.or_true, Bool.true_or, Bool.or_false, Bool.false_or, Bool.not_true, Bool.not_false, true_and, and_true]
        · cases d4 : decide ((b.toNat : Int) ≤ 57)
          · skip
            cases d5 : decide ((b.toNat : Int) = 46)
            · skip
              cases d6 : decide ((b.toNat : Int) = 45)
              · skip
                cases d7 : decide ((b.toNat : Int) = 95)
                · skip
                  cases d8 : decide ((b.toNat : Int) = 47)
                  · skip
                    cases d9 : decide ((b.toNat : Int) = 58)
                    · skip
                      simp only [d0, d1, d2, d3, d4, d5, d6, d7, d8, d9, Bool.true_and, Bool.false_and, Bool.and_true, Bool.and_false, Bool.true_or, Bool.false_or, Bool.or_true, Bool.or_false, go_sem, Hold.p, HoldK.k, HoldL.K, HoldL.body, Nat.reduceBEq, Nat.reduceAdd, List.getElem?_cons_zero, List.getElem?_cons_succ, Option.bind_some, List.map_cons, List.map_nil, Nat.zero_add, if_true, List.getD_cons_zero, List.getD_cons_succ, List.contains_cons, List.contains_nil, Nat.reduceBEq, Bool.or_true, Bool.true_or, Bool.or_false, Bool.false_or, Bool.not_true, Bool.not_false, true_and, and_true]
                    · skip
                      simp only [d0, d1, d2, d3, d4, d5, d6, d7, d8, d9, Bool.true_and, Bool.false_and, Bool.and_true, Bool.and_false, Bool.true_or, Bool.false_or, Bool.or_true, Bool.or_false, go_sem, Hold.p, HoldK.k, HoldL.K, HoldL.body, Nat.reduceBEq, Nat.reduceAdd, List.getElem?_cons_zero, List.getElem?_cons_succ, Option.bind_some, List.map_cons, List.map_nil, Nat.zero_add, if_true, List.getD_cons_zero, List.getD_cons_succ, List.contains_cons, List.contains_nil, Nat.reduceBEq, Bool.or_true, Bool.true_or, Bool.or_false, Bool.false_or, Bool.not_true, Bool.not_false, true_and, and_true]
                  · skip
                    simp only [d0, d1, d2, d3, d4, d5, d6, d7, d8, Bool.true_and, Bool.false_and, Bool.and_true, Bool.and_false, Bool.true_or, Bool.false_or, Bool.or_true, Bool.or_false, go_sem, Hold.p, HoldK.k, HoldL.K, HoldL.body, Nat.reduceBEq, Nat.reduceAdd, List.getElem?_cons_zero, List.getElem?_cons_succ, Option.bind_some, List.map_cons, List.map_nil, Nat.zero_add, if_true, List.getD_cons_zero, List.getD_cons_succ, List.contains_cons, List.contains_nil, Nat.reduceBEq, Bool.or_true, Bool.true_or, Bool.or_false, Bool.false_or, Bool.not_true, Bool.not_false, true_and, and_true]
                · skip
                  simp only [d0, d1, d2, d3, d4, d5, d6, d7, Bool.true_and, Bool.false_and, Bool.and_true, Bool.and_false, Bool.true_or, Bool.false_or, Bool.or_true, Bool.or_false, go_sem, Hold.p, HoldK.k, HoldL.K, HoldL.body, Nat.reduceBEq, Nat.reduceAdd, List.getElem?_cons_zero, List.getElem?_cons_succ, Option.bind_some, List.map_cons, List.map_nil, Nat.zero_add, if_true, List.getD_cons_zero, List.getD_cons_succ, List.contains_cons, List.contains_nil, Nat.reduceBEq, Bool.or_true, Bool.true_or, Bool.or_false, Bool.false_or, Bool.not_true, Bool.not_false, true_and, and_true]
              · skip
                simp only [d0, d1, d2, d3, d4, d5, d6, Bool.true_and, Bool.false_and, Bool.and_true, Bool.and_false, Bool.true_or, Bool.false_or, Bool.or_true, Bool.or_false, go_sem, Hold.p, HoldK.k, HoldL.K, HoldL.body, Nat.reduceBEq, Nat.reduceAdd, List.getElem?_cons_zero, List.getElem?_cons_succ, Option.bind_some, List.map_cons, List.map_nil, Nat.zero_add, if_true, List.getD_cons_zero, List.getD_cons_succ, List.contains_cons, List.contains_nil, Nat.reduceBEq, Bool.or_true, Bool.true_or, Bool.or_false, Bool.false_or, Bool.not_true, Bool.not_false, true_and, and_true]
            · skip
              simp only [d0, d1, d2, d3, d4, d5, Bool.true_and, Bool.false_and, Bool.and_true, Bool.and_false, Bool.true_or, Bool.false_or, Bool.or_true, Bool.or_false, go_sem, Hold.p, HoldK.k, HoldL.K, HoldL.body, Nat.reduceBEq, Nat.reduceAdd, List.getElem?_cons_zero, List.getElem?_cons_succ, Option.bind_some, List.map_cons, List.map_nil, Nat.zero_add, if_true, List.getD_cons_zero, List.getD_cons_succ, List.contains_cons, List.contains_nil, Nat.reduceBEq, Bool.or_true, Bool.true_or, Bool.or_false, Bool.false_or, Bool.not_true, Bool.not_false, true_and, and_true]
          · skip
            simp only [d0, d1, d2, d3, d4, Bool.true_and, Bool.false_and, Bool.and_true, Bool.and_false, Bool.true_or, Bool.false_or, Bool.or_true, Bool.or_false, go_sem, Hold.p, HoldK.k, HoldL.K, HoldL.body, Nat.reduceBEq, Nat.reduceAdd, List.getElem?_cons_zero, List.getElem?_cons_succ, Option.bind_some, List.map_cons, List.map_nil, Nat.zero_add, if_true, List.getD_cons_zero, List.getD_cons_succ, List.contains_cons, List.contains_nil, Nat.reduceBEq, Bool.or_true, Bool.true_or, Bool.or_false, Bool.false_or, Bool.not_true, Bool.not_false, true_and, and_true]
      · skip
        simp only [d0, d1, d2, Bool.true_and, Bool.false_and, Bool.and_true, Bool.and_false, Bool.true_or, Bool.false_or, Bool.or_true, Bool.or_false, go_sem, Hold.p, HoldK.k, HoldL.K, HoldL.body, Nat.reduceBEq, Nat.reduceAdd, List.getElem?_cons_zero, List.getElem?_cons_succ, Option.bind_some, List.map_cons, List.map_nil, Nat.zero_add, if_true, List.getD_cons_zero, List.getD_cons_succ, List.contains_cons, List.contains_nil, Nat.reduceBEq, Bool.or_true, Bool.true_or, Bool.or_false, Bool.false_or, Bool.not_true, Bool.not_false, true_and, and_true]
  · cases d1 : decide ((b.toNat : Int) ≤ 122)
    · skip
      cases d2 : decide (65 ≤ (b.toNat : Int))
      · skip
        cases d3 : decide (48 ≤ (b.toNat : Int))
        · skip
          cases d4 : decide ((b.toNat : Int) = 46)
          · skip
            cases d5 : decide ((b.toNat : Int) = 45)
            · skip
              cases d6 : decide ((b.toNat : Int) = 95)
              · skip
                cases d7 : decide ((b.toNat : Int) = 47)
                · skip
                  cases d8 : decide ((b.toNat : Int) = 58)
                  · skip
                    simp only [d0, d1, d2, d3, d4, d5, d6, d7, d8, Bool.true_and, Bool.false_and, Bool.and_true, Bool.and_false, Bool.true_or, Bool.false_or, Bool.or_true, Bool.or_false, go_sem, Hold.p, HoldK.k, HoldL.K, HoldL.body, Nat.reduceBEq, Nat.reduceAdd, List.getElem?_cons_zero, List.getElem?_cons_succ, Option.bind_some, List.map_cons, List.map_nil, Nat.zero_add, if_true, List.getD_cons_zero, List.getD_cons_succ, List.contains_cons, List.contains_nil, Nat.reduceBEq, Bool.or_true, Bool.true_or, Bool.or_false, Bool.false_or, Bool.not_true, Bool.not_false, true_and, and_true]
                  · skip
                    simp only [d0, d1, d2, d3, d4, d5, d6, d7, d8, Bool.true_and, Bool.false_and, Bool.and_true, Bool.and_false, Bool.true_or, Bool.false_or, Bool.or_true, Bool.or_false, go_sem, Hold.p, HoldK.k, HoldL.K, HoldL.body, Nat.reduceBEq, Nat.reduceAdd, List.getElem?_cons_zero, List.getElem?_cons_succ, Option.bind_some, List.map_cons, List.map_nil, Nat.zero_add, if_true, List.getD_cons_zero, List.getD_cons_succ, List.contains_cons, List.contains_nil, Nat.reduceBEq, Bool.or_true, Bool.true_or, Bool.or_false, Bool.false_or, Bool.not_true, Bool.not_false, true_and, and_true]
                · skip
                  simp only [d0, d1, d2, d3, d4, d5, d6, d7, Bool.true_and, Bool.false_and, Bool.and_true, Bool.and_false, Bool.true_or, Bool.false_or, Bool.or_true, Bool.or_false, go_sem, Hold.p, HoldK.k, HoldL.K, HoldL.body, Nat.reduceBEq, Nat.reduceAdd, List.getElem?_cons_zero, List.getElem?_cons_succ, Option.bind_some, List.map_cons, List.map_nil, Nat.zero_add, if_true, List.getD_cons_zero, List.getD_cons_succ, List.contains_cons, List.contains_nil, Nat.reduceBEq, Bool.or_true, Bool.true_or, Bool.or_false, Bool.false_or, Bool.not_true, Bool.not_false, true_and, and_true]
              · skip
                simp only [d0, d1, d2, d3, d4, d5, d6, Bool.true_and, Bool.false_and, Bool.and_true, Bool.and_false, Bool.true_or, Bool.false_or, Bool.or_true, Bool.or_false, go_sem, Hold.p, HoldK.k, HoldL.K, HoldL.body, Nat.reduceBEq, Nat.reduceAdd, List.getElem?_cons_zero, List.getElem?_cons_succ, Option.bind_some, List.map_cons, List.map_nil, Nat.zero_add, if_true, List.getD_cons_zero, List.getD_cons_succ, List.contains_cons, List.contains_nil, Nat.reduceBEq, Bool.or_true, Bool.true_or, Bool.or_false, Bool.false_or, Bool.not_true, Bool.not_false, true_and, and_true]
            · skip
              simp only [d0, d1, d2, d3, d4, d5, Bool.true_and, Bool.false_and, Bool.and_true, Bool.and_false, Bool.true_or, Bool.false_or, Bool.or_true, Bool.or_false, go_sem, Hold.p, HoldK.k, HoldL.K, HoldL.body, Nat.reduceBEq, Nat.reduceAdd, List.getElem?_cons_zero, List.getElem?_cons_succ, Option.bind_some, List.map_cons, List.map_nil, Nat.zero_add, if_true, List.getD_cons_zero, List.getD_cons_succ, List.contains_cons, List.contains_nil, Nat.reduceBEq, Bool.or_true, Bool.true_or, Bool.or_false, Bool.false_or, Bool.not_true, Bool.not_false, true_and, and_true]
          · skip
            simp only [d0, d1, d2, d3, d4, Bool.true_and, Bool.false_and, Bool.and_true, Bool.and_false, Bool.true_or, Bool.false_or, Bool.or_true, Bool.or_false, go_sem, Hold.p, HoldK.k, HoldL.K, HoldL.body, Nat.reduceBEq, Nat.reduceAdd, List.getElem?_cons_zero, List.getElem?_cons_succ, Option.bind_some, List.map_cons, List.map_nil, Nat.zero_add, if_true, List.getD_cons_zero, List.getD_cons_succ, List.contains_cons, List.contains_nil, Nat.reduceBEq, Bool.or_true, Bool.true_or, Bool.or_false, Bool.false_or, Bool.not_true, Bool.not_false, true_and, and_true]
        · cases d4 : decide ((b.toNat : Int) ≤ 57)
          · skip
            cases d5 : decide ((b.toNat : Int) = 46)
            · skip
              cases d6 : decide ((b.toNat : Int) = 45)
              · skip
                cases d7 : decide ((b.toNat : Int) = 95)
                · skip
                  cases d8 : decide ((b.toNat : Int) = 47)
                  · skip
                    cases d9 : decide ((b.toNat : Int) = 58)
                    · skip
                      simp only [d0, d1, d2, d3, d4, d5, d6, d7, d8, d9, Bool.true_and, Bool.false_and, Bool.and_true, Bool.and_false, Bool.true_or, Bool.false_or, Bool.or_true, Bool.or_false, go_sem, Hold.p, HoldK.k, HoldL.K, HoldL.body, Nat.reduceBEq, Nat.reduceAdd, List.getElem?_cons_zero, List.getElem?_cons_succ, Option.bind_some, List.map_cons, List.map_nil, Nat.zero_add, if_true, List.getD_cons_zero, List.getD_cons_succ, List.contains_cons, List.contains_nil, Nat.reduceBEq, Bool.or_true, Bool.true_or, Bool.or_false, Bool.false_or, Bool.not_true, Bool.not_false, true_and, and_true]
                    · skip
                      simp only [d0, d1, d2, d3, d4, d5, d6, d7, d8, d9, Bool.true_and, Bool.false_and, Bool.and_true, Bool.and_false, Bool.true_or, Bool.false_or, Bool.or_true, Bool.or_false, go_sem, Hold.p, HoldK.k, HoldL.K, HoldL.body, Nat.reduceBEq, Nat.reduceAdd, List.getElem?_cons_zero, List.getElem?_cons_succ, Option.bind_some, List.map_cons, List.map_nil, Nat.zero_add, if_true, List.getD_cons_zero, List.getD_cons_succ, List.contains_cons, List.contains_nil, Nat.reduceBEq, Bool.or_true, Bool.true_or, Bool.or_false, Bool.false_or, Bool.not_true, Bool.not_false, true_and, and_true]
                  · skip
                    simp only [d0, d1, d2, d3, d4, d5, d6, d7, d8, Bool.true_and, Bool.false_and, Bool.and_true, Bool.and_false, Bool.true_or, Bool.false_or, Bool.or_true, Bool.or_false, go_sem, Hold.p, HoldK.k, HoldL.K, HoldL.body, Nat.reduceBEq, Nat.reduceAdd, List.getElem?_cons_zero, List.getElem?_cons_succ, Option.bind_some, List.map_cons, List.map_nil, Nat.zero_add, if_true, List.getD_cons_zero, List.getD_cons_succ, List.contains_cons, List.contains_nil, Nat.reduceBEq, Bool.or_true, Bool.true_or, Bool.or_false, Bool.false_or, Bool.not_true, Bool.not_false, true_and, and_true]
                · skip
                  simp only [d0, d1, d2, d3, d4, d5, d6, d7, Bool.true_and, Bool.false_and, Bool.and_true, Bool.and_false, Bool.true_or, Bool.false_or, Bool.or_true, Bool.or_false, go_sem, Hold.p, HoldK.k, HoldL.K, HoldL.body, Nat.reduceBEq, Nat.reduceAdd, List.getElem?_cons_zero, List.getElem?_cons_succ, Option.bind_some, List.map_cons, List.map_nil, Nat.zero_add, if_true, List.getD_cons_zero, List.getD_cons_succ, List.contains_cons, List.contains_nil, Nat.reduceBEq, Bool.or_true, Bool.true_or, Bool.or_false, Bool.false_or, Bool.not_true, Bool.not_false, true_and, and_true]
              · skip
                simp only [d0, d1, d2, d3, d4, d5, d6, Bool.true_and, Bool.false_and, Bool.and_true, Bool.and_false, Bool.true_or, Bool.false_or, Bool.or_true, Bool.or_false, go_sem, Hold.p, HoldK.k, HoldL.K, HoldL.body, Nat.reduceBEq, Nat.reduceAdd, List.getElem?_cons_zero, List.getElem?_cons_succ, Option.bind_some, List.map_cons, List.map_nil, Nat.zero_add, if_true, List.getD_cons_zero, List.getD_cons_succ, List.contains_cons, List.contains_nil, Nat.reduceBEq, Bool.or_true, Bool.true_or, Bool.or_false, Bool.false_or, Bool.not_true, Bool.not_false, true_and, and_true]
            · skip
              simp only [d0, d1, d2, d3, d4, d5, Bool.true_and, Bool.false_and, Bool.and_true, Bool.and_false, Bool.true_or, Bool.false_or, Bool.or_true, Bool.or_false, go_sem, Hold.p, HoldK.k, HoldL.K, HoldL.body, Nat.reduceBEq, Nat.reduceAdd, List.getElem?_cons_zero, List.getElem?_cons_succ, Option.bind_some, List.map_cons, List.map_nil, Nat.zero_add, if_true, List.getD_cons_zero, List.getD_cons_succ, List.contains_cons, List.contains_nil, Nat.reduceBEq, Bool.or_true, Bool.true_or, Bool.or_false, Bool.false_or, Bool.not_true, Bool.not_false, true_and, and_true]
          · skip
            simp only [d0, d1, d2, d3, d4, Bool.true_and, Bool.false_and, Bool.and_true, Bool.and_false, Bool.true_or, Bool.false_or, Bool.or_true, Bool.or_false, go_sem, Hold.p, HoldK.k, HoldL.K, HoldL.body, Nat.reduceBEq, Nat.reduceAdd, List.getElem?_cons_zero, List.getElem?_cons_succ, Option.bind_some, List.map_cons, List.map_nil, Nat.zero_add, if_true, List.getD_cons_zero, List.getD_cons_succ, List.contains_cons, List.contains_nil, Nat.reduceBEq, Bool.or_true, Bool.true_or, Bool.or_false, Bool.false_or, Bool.not_true, Bool.not_false, true_and, and_true]
      · cases d3 : decide ((b.toNat : Int) ≤ 90)
        · skip
          cases d4 : decide (48 ≤ (b.toNat : Int))
          · skip
            cases d5 : decide ((b.toNat : Int) = 46)
            · skip
              cases d6 : decide ((b.toNat : Int) = 45)
              · skip
                cases d7 : decide ((b.toNat : Int) = 95)
                · skip
                  cases d8 : decide ((b.toNat : Int) = 47)
                  · skip
                    cases d9 : decide ((b.toNat : Int) = 58)
                    · skip
                      simp only [d0, d1, d2, d3, d4, d5, d6, d7, d8, d9, Bool.true_and, Bool.false_and, Bool.and_true, Bool.and_false, Bool.true_or, Bool.false_or, Bool.or_true, Bool.or_false, go_sem, Hold.p, HoldK.k, HoldL.K, HoldL.body, Nat.reduceBEq, Nat.reduceAdd, List.getElem?_cons_zero, List.getElem?_cons_succ, Option.bind_some, List.map_cons, List.map_nil, Nat.zero_add, if_true, List.getD_cons_zero, List.getD_cons_succ, List.contains_cons, List.contains_nil, Nat.reduceBEq, Bool.or_true, Bool.true_or, Bool.or_false, Bool.false_or, Bool.not_true, Bool.not_false, true_and, and_true]
                    · skip
                      simp only [d0, d1, d2, d3, d4, d5, d6, d7, d8, d9, Bool.true_and, Bool.false_and, Bool.and_true, Bool.and_false, Bool.true_or, Bool.false_or, Bool.or_true, Bool.or_false, go_sem, Hold.p, HoldK.k, HoldL.K, HoldL.body, Nat.reduceBEq, Nat.reduceAdd, List.getElem?_cons_zero, List.getElem?_cons_succ, Option.bind_some, List.map_cons, List.map_nil, Nat.zero_add, if_true, List.getD_cons_zero, List.getD_cons_succ, List.contains_cons, List.contains_nil, Nat.reduceBEq, Bool.or_true, Bool.true_or, Bool.or_false, Bool.false_or, Bool.not_true, Bool.not_false, true_and, and_true]
                  · skip
                    simp only [d0, d1, d2, d3, d4, d5, d6, d7, d8, Bool.true_and, Bool.false_and, Bool.and_true, Bool.and_false, Bool.true_or, Bool.false_or, Bool.or_true, Bool.or_false, go_sem, Hold.p, HoldK.k, HoldL.K, HoldL.body, Nat.reduceBEq, Nat.reduceAdd, List.getElem?_cons_zero, List.getElem?_cons_succ, Option.bind_some, List.map_cons, List.map_nil, Nat.zero_add, if_true, List.getD_cons_zero, List.getD_cons_succ, List.contains_cons, List.contains_nil, Nat.reduceBEq, Bool.or_true, Bool.true_or, Bool.or_false, Bool.false_or, Bool.not_true, Bool.not_false, true_and, and_true]
                · skip
                  simp only [d0, d1, d2, d3, d4, d5, d6, d7, Bool.true_and, Bool.false_and, Bool.and_true, Bool.and_false, Bool.true_or, Bool.false_or, Bool.or_true, Bool.or_false, go_sem, Hold.p, HoldK.k, HoldL.K, HoldL.body, Nat.reduceBEq, Nat.reduceAdd, List.getElem?_cons_zero, List.getElem?_cons_succ, Option.bind_some, List.map_cons, List.map_nil, Nat.zero_add, if_true, List.getD_cons_zero, List.getD_cons_succ, List.contains_cons, List.contains_nil, Nat.reduceBEq, Bool.or_true, Bool.true_or, Bool.or_false, Bool.false_or, Bool.not_true, Bool.not_false, true_and, and_true]
              · skip
                simp only [d0, d1, d2, d3, d4, d5, d6, Bool.true_and, Bool.false_and, Bool.and_true, Bool.and_false, Bool.true_or, Bool.false_or, Bool.or_true, Bool.or_false, go_sem, Hold.p, HoldK.k, HoldL.K, HoldL.body, Nat.reduceBEq, Nat.reduceAdd, List.getElem?_cons_zero, List.getElem?_cons_succ, Option.bind_some, List.map_cons, List.map_nil, Nat.zero_add, if_true, List.getD_cons_zero, List.getD_cons_succ, List.contains_cons, List.contains_nil, Nat.reduceBEq, Bool.or_true, Bool.true_or, Bool.or_false, Bool.false_or, Bool.not_true, Bool.not_false, true_and, and_true]
            · skip
              simp only [d0, d1, d2, d3, d4, d5, Bool.true_and, Bool.false_and, Bool.and_true, Bool.and_false, Bool.true_or, Bool.false_or, Bool.or_true, Bool.or_false, go_sem, Hold.p, HoldK.k, HoldL.K, HoldL.body, Nat.reduceBEq, Nat.reduceAdd, List.getElem?_cons_zero, List.getElem?_cons_succ, Option.bind_some, List.map_cons, List.map_nil, Nat.zero_add, if_true, List.getD_cons_zero, List.getD_cons_succ, List.contains_cons, List.contains_nil, Nat.reduceBEq, Bool.or_true, Bool.true_or, Bool.or_false, Bool.false_or, Bool.not_true, Bool.not_false, true_and, and_true]
          · cases d5 : decide ((b.toNat : Int) ≤ 57)
            · skip
              cases d6 : decide ((b.toNat : Int) = 46)
              · skip
                cases d7 : decide ((b.toNat : Int) = 45)
                · skip
                  cases d8 : decide ((b.toNat : Int) = 95)
                  · skip
                    cases d9 : decide ((b.toNat : Int) = 47)
                    · skip
                      cases d10 : decide ((b.toNat : Int) = 58)
                      · skip
                        simp only [d0, d1, d2, d3, d4, d5, d6, d7, d8, d9, d10, Bool.true_and, Bool.false_and, Bool.and_true, Bool.and_false, Bool.true_or, Bool.false_or, Bool.or_true, Bool.or_false, go_sem, Hold.p, HoldK.k, HoldL.K, HoldL.body, Nat.reduceBEq, Nat.reduceAdd, List.getElem?_cons_zero, List.getElem?_cons_succ, Option.bind_some, List.map_cons, List.map_nil, Nat.zero_add, if_true, List.getD_cons_zero, List.getD_cons_succ, List.contains_cons, List.contains_nil, Nat.reduceBEq, Bool.or_true, Bool.true_or, Bool.or_false, Bool.false_or, Bool.not_true, Bool.not_false, true_and, and_true]
                      · skip
                        simp only [d0, d1, d2, d3, d4, d5, d6, d7, d8, d9, d10, Bool.true_and, Bool.false_and, Bool.and_true, Bool.and_false, Bool.true_or, Bool.false_or, Bool.or_true, Bool.or_false, go_sem, Hold.p, HoldK.k, HoldL.K, HoldL.body, Nat.reduceBEq, Nat.reduceAdd, List.getElem?_cons_zero, List.getElem?_cons_succ, Option.bind_some, List.map_cons, List.map_nil, Nat.zero_add, if_true, List.getD_cons_zero, List.getD_cons_succ, List.contains_cons, List.contains_nil, Nat.reduceBEq, Bool.or_true, Bool.true_or, Bool.or_false, Bool.false_or, Bool.not_true, Bool.not_false, true_and, and_true]
                    · skip
                      simp only [d0, d1, d2, d3, d4, d5, d6, d7, d8, d9, Bool.true_and, Bool.false_and, Bool.and_true, Bool.and_false, Bool.true_or, Bool.false_or, Bool.or_true, Bool.or_false, go_sem, Hold.p, HoldK.k, HoldL.K, HoldL.body, Nat.reduceBEq, Nat.reduceAdd, List.getElem?_cons_zero, List.getElem?_cons_succ, Option.bind_some, List.map_cons, List.map_nil, Nat.zero_add, if_true, List.getD_cons_zero, List.getD_cons_succ, List.contains_cons, List.contains_nil, Nat.reduceBEq, Bool.or_true, Bool.true_or, Bool.or_false, Bool.false_or, Bool.not_true, Bool.not_false, true_and, and_true]
                  · skip
                    simp only [d0, d1, d2, d3, d4, d5, d6, d7, d8, Bool.true_and, Bool.false_and, Bool.and_true, Bool.and_false, Bool.true_or, Bool.false_or, Bool.or_true, Bool.or_false, go_sem, Hold.p, HoldK.k, HoldL.K, HoldL.body, Nat.reduceBEq, Nat.reduceAdd, List.getElem?_cons_zero, List.getElem?_cons_succ, Option.bind_some, List.map_cons, List.map_nil, Nat.zero_add, if_true, List.getD_cons_zero, List.getD_cons_succ, List.contains_cons, List.contains_nil, Nat.reduceBEq, Bool.or_true, Bool.true_or, Bool.or_false, Bool.false_or, Bool.not_true, Bool.not_false, true_and, and_true]
                · skip
                  simp only [d0, d1, d2, d3, d4, d5, d6, d7, Bool.true_and, Bool.false_and, Bool.and_true, Bool.and_false, Bool.true_or, Bool.false_or, Bool.or_true, Bool.or_false, go_sem, Hold.p, HoldK.k, HoldL.K, HoldL.body, Nat.reduceBEq, Nat.reduceAdd, List.getElem?_cons_zero, List.getElem?_cons_succ, Option.bind_some, List.map_cons, List.map_nil, Nat.zero_add, if_true, List.getD_cons_zero, List.getD_cons_succ, List.contains_cons, List.contains_nil, Nat.reduceBEq, Bool.or_true, Bool.true_or, Bool.or_false, Bool.false_or, Bool.not_true, Bool.not_false, true_and, and_true]
              · skip
                simp only [d0, d1, d2, d3, d4, d5, d6, Bool.true_and, Bool.false_and, Bool.and_true, Bool.and_false, Bool.true_or, Bool.false_or, Bool.or_true, Bool.or_false, go_sem, Hold.p, HoldK.k, HoldL.K, HoldL.body, Nat.reduceBEq, Nat.reduceAdd, List.getElem?_cons_zero, List.getElem?_cons_succ, Option.bind_some, List.map_cons, List.map_nil, Nat.zero_add, if_true, List.getD_cons_zero, List.getD_cons_succ, List.contains_cons, List.contains_nil, Nat.reduceBEq, Bool.or_true, Bool.true_or, Bool.or_false, Bool.false_or, Bool.not_true, Bool.not_false, true_and, and_true]
            · skip
              simp only [d0, d1, d2, d3, d4, d5, Bool.true_and, Bool.false_and, Bool.and_true, Bool.and_false, Bool.true_or, Bool.false_or, Bool.or_true, Bool.or_false, go_sem, Hold.p, HoldK.k, HoldL.K, HoldL.body, Nat.reduceBEq, Nat.reduceAdd, List.getElem?_cons_zero, List.getElem?_cons_succ, Option.bind_some, List.map_cons, List.map_nil, Nat.zero_add, if_true, List.getD_cons_zero, List.getD_cons_succ, List.contains_cons, List.contains_nil, Nat.reduceBEq, Bool.or_true, Bool.true_or, Bool.or_false, Bool.false_or, Bool.not_true, Bool.not_false, true_and, and_true]
        · skip
          simp only [d0, d1, d2, d3, Bool.true_and, Bool.false_and, Bool.and_true, Bool.and_false, Bool.true_or, Bool.false_or, Bool.or_true, Bool.or_false, go_sem, Hold.p, HoldK.k, HoldL.K, HoldL.body, Nat.reduceBEq, Nat.reduceAdd, List.getElem?_cons_zero, List.getElem?_cons_succ, Option.bind_some, List.map_cons, List.map_nil, Nat.zero_add, if_true, List.getD_cons_zero, List.getD_cons_succ, List.contains_cons, List.contains_nil, Nat.reduceBEq, Bool.or_true, Bool.true_or, Bool.or_false, Bool.false_or, Bool.not_true, Bool.not_false, true_and, and_true]
    · skip
      simp only [d0, d1, Bool.true_and, Bool.false_and, Bool.and_true, Bool.and_false, Bool.true_or, Bool.false_or, Bool.or_true, Bool.or_false, go_sem, Hold.p, HoldK.k, HoldL.K, HoldL.body, Nat.reduceBEq, Nat.reduceAdd, List.getElem?_cons_zero, List.getElem?_cons_succ, Option.bind_some, List.map_cons, List.map_nil, Nat.zero_add, if_true, List.getD_cons_zero, List.getD_cons_succ, List.contains_cons, List.contains_nil, Nat.reduceBEq, Bool.or_true, Bool.true_or, Bool.or_false, Bool.false_or, Bool.not_true, Bool.not_false, true_and, and_true]

set_option maxRecDepth 20000 in
theorem l11HexText_c (h : IH) (v : IV) (bs : List UInt8) (hs : SlR h 1 v (strRows bs)) (hl : bs.length ≤ 1048576) : ICalls Try.prog 55 [v] h fun r h' => r = .str (bs.flatMap hex2) ∧ Ext h h' := by
  refine icalls (.of ok55) (Nat.le_of_ble_eq_true rfl) ?_
  unfold c55
  have hlen := hs.lenF
  rw [strRows_len] at hlen
  simp only [go_sem, Hold.p, HoldK.k, HoldL.K, HoldL.body, Nat.reduceBEq, Nat.reduceAdd, List.getElem?_cons_zero, List.getElem?_cons_succ, Option.bind_some, List.map_cons, List.map_nil, Nat.zero_add, if_true, List.getD_cons_zero, List.getD_cons_succ, List.contains_cons, List.contains_nil, Nat.reduceBEq, Bool.or_true, Bool.true_or, Bool.or_false, Bool.false_or, Bool.not_true, Bool.not_false, true_and, and_true, rowA_whole, push_n, set_n, push_obj, set_obj, set_push, set_push_ne, set_set, Nat.add_assoc, Nat.left_eq_add, Nat.add_eq_left, Nat.add_left_cancel_iff, Nat.reduceEqDiff, stO_1s, stO_ws, boxA_s, one_bool, one_int, one_str, one_ptr, one_nilptr, one_slice, one_eslice, one_nilslice, one_func, one_iface, one_niliface, List.all_cons, List.all_nil, List.length_cons, List.length_nil, Nat.reduceLT, Nat.reduceEqDiff, Nat.reduceLeDiff, Bool.and_true, Nat.one_ne_zero, Nat.succ_ne_zero, reduceIte, if_false, List.getElem?_cons_zero, List.set_cons_zero, List.set_cons_succ]
  refine loop_at (fun n e g => ∃ (x : IV) (lo hi k : Nat), n = bs.length - k ∧ k ≤ bs.length ∧ e 0 = v ∧ e 3 = .str hexS ∧ e 4 = x ∧ e 5 = .int .i64 (k : Nat) ∧ Ext h g ∧ h.n ≤ lo ∧ hi ≤ g.n ∧ Own lo hi g 5 1 x (strRows ((bs.take k).flatMap hex2))) bs.length ?_ ?_
  · refine ⟨.eslice true, h.n, h.n, 0, by omega, by omega, ?_⟩
    simp only [go_sem, Hold.p, HoldK.k, HoldL.K, HoldL.body, Nat.reduceBEq, Nat.reduceAdd, List.getElem?_cons_zero, List.getElem?_cons_succ, Option.bind_some, List.map_cons, List.map_nil, Nat.zero_add, if_true, List.getD_cons_zero, List.getD_cons_succ, List.contains_cons, List.contains_nil, Nat.reduceBEq, Bool.or_true, Bool.true_or, Bool.or_false, Bool.false_or, Bool.not_true, Bool.not_false, true_and, and_true, rowA_whole, push_n, set_n, push_obj, set_obj, set_push, set_push_ne, set_set, Nat.add_assoc, Nat.left_eq_add, Nat.add_eq_left, Nat.add_left_cancel_iff, Nat.reduceEqDiff, stO_1s, stO_ws, boxA_s, one_bool, one_int, one_str, one_ptr, one_nilptr, one_slice, one_eslice, one_nilslice, one_func, one_iface, one_niliface, List.all_cons, List.all_nil, List.length_cons, List.length_nil, Nat.reduceLT, Nat.reduceEqDiff, Nat.reduceLeDiff, Bool.and_true, Nat.one_ne_zero, Nat.succ_ne_zero, reduceIte, if_false, List.getElem?_cons_zero, List.set_cons_zero, List.set_cons_succ]
    exact ⟨rfl, rfl, Ext.refl _, Nat.le_refl _, Nat.le_refl _, Own.empty⟩
  · rintro n e g ⟨x, lo, hi, k, rfl, hk, i0, i3, i4, i5, E, hlo, hhi, o⟩
    have hle := E.le
    have hfl : ((bs.take k).flatMap hex2).length ≤ 2 * bs.length := by
      have key : ∀ l : List UInt8, (l.flatMap hex2).length = 2 * l.length := fun l => by
        induction l with
        | nil => rfl
        | cons a l ih => rw [List.flatMap_cons, List.length_append, ih]; simp [hex2]; omega
      rw [key, List.length_take]; omega
    simp only [i0, i3, i4, i5, hlen, go_sem, Hold.p, HoldK.k, HoldL.K, HoldL.body, Nat.reduceBEq, Nat.reduceAdd, List.getElem?_cons_zero, List.getElem?_cons_succ, Option.bind_some, List.map_cons, List.map_nil, Nat.zero_add, if_true, List.getD_cons_zero, List.getD_cons_succ, List.contains_cons, List.contains_nil, Nat.reduceBEq, Bool.or_true, Bool.true_or, Bool.or_false, Bool.false_or, Bool.not_true, Bool.not_false, true_and, and_true, rowA_whole, push_n, set_n, push_obj, set_obj, set_push, set_push_ne, set_set, Nat.add_assoc, Nat.left_eq_add, Nat.add_eq_left, Nat.add_left_cancel_iff, Nat.reduceEqDiff, stO_1s, stO_ws, boxA_s, one_bool, one_int, one_str, one_ptr, one_nilptr, one_slice, one_eslice, one_nilslice, one_func, one_iface, one_niliface, List.all_cons, List.all_nil, List.length_cons, List.length_nil, Nat.reduceLT, Nat.reduceEqDiff, Nat.reduceLeDiff, Bool.and_true, Nat.one_ne_zero, Nat.succ_ne_zero, reduceIte, if_false, List.getElem?_cons_zero, List.set_cons_zero, List.set_cons_succ]
    refine test_dec (fun hlt => ?_) (fun hlt => ?_)
    · have hlt' : k < bs.length := by omega
      have hkp : bs[k]? = some bs[k] := List.getElem?_eq_getElem hlt'
      generalize bs[k] = b at hkp
      have hb := b.toNat_lt
      obtain ⟨l, j, hia, hll, hrow⟩ := (hs.ext E).at (m := k) (strRows_at hkp) .i64
      have hc := cellO_row hrow
      have x1 := idxS_at (q := .u8) (hexS_at (k := b.toNat / 16) (by omega))
      have x2 := idxS_at (q := .u8) (hexS_at (k := b.toNat % 16) (by omega))
      have nl : (l = g.n) = False := by simp; omega
      simp only [i0, i3, i4, i5, hia, hc, shr4, x1, bslA_1, go_sem, Hold.p, HoldK.k, HoldL.K, HoldL.body, Nat.reduceBEq, Nat.reduceAdd, List.getElem?_cons_zero, List.getElem?_cons_succ, Option.bind_some, List.map_cons, List.map_nil, Nat.zero_add, if_true, List.getD_cons_zero, List.getD_cons_succ, List.contains_cons, List.contains_nil, Nat.reduceBEq, Bool.or_true, Bool.true_or, Bool.or_false, Bool.false_or, Bool.not_true, Bool.not_false, true_and, and_true, rowA_whole, push_n, set_n, push_obj, set_obj, set_push, set_push_ne, set_set, Nat.add_assoc, Nat.left_eq_add, Nat.add_eq_left, Nat.add_left_cancel_iff, Nat.reduceEqDiff, stO_1s, stO_ws, boxA_s, one_bool, one_int, one_str, one_ptr, one_nilptr, one_slice, one_eslice, one_nilslice, one_func, one_iface, one_niliface, List.all_cons, List.all_nil, List.length_cons, List.length_nil, Nat.reduceLT, Nat.reduceEqDiff, Nat.reduceLeDiff, Bool.and_true, Nat.one_ne_zero, Nat.succ_ne_zero, reduceIte, if_false, List.getElem?_cons_zero, List.set_cons_zero, List.set_cons_succ]
      generalize hq_g1 : IH.push g (IObj.rows [[.int .u8 (hexD (b.toNat / 16)).toNat]] 5 1 false) = g1
      have e_g1 : Ext g g1 := by rw [← hq_g1]; exact (Ext.refl _).push _
      have l_g1 : g1.n = g.n + 1 := by rw [← hq_g1]; rfl
      have ba : At g1 g.n (IObj.rows [[.int .u8 (hexD (b.toNat / 16)).toNat]] 5 1 false) := by rw [← hq_g1]; exact At.new _ _
      clear hq_g1
      have o := o.ext e_g1
      have E := E.ext e_g1
      refine o.app (by simp) (by rw [strRows_len, List.length_singleton]; omega) ?_
      intro v6 h6 o6 t6 n6 v6o v6c
      have E := E.turn o (by omega) t6
      have le_t6 := t6.le
      have hs6 := hs.ext E
      obtain ⟨l2, j2, hia2, hll2, hrow2⟩ := hs6.at (m := k) (strRows_at hkp) .i64
      have hc2 := cellO_row hrow2
      have o7 : Own g1.n (g1.n + 1) h6 5 1 v6 (strRows ((bs.take k).flatMap hex2 ++ [hexD (b.toNat / 16)])) := by rw [strRows_append]; exact o6
      simp only [i0, i3, i4, i5, hia2, hc2, and15, x2, bslA_1, go_sem, Hold.p, HoldK.k, HoldL.K, HoldL.body, Nat.reduceBEq, Nat.reduceAdd, List.getElem?_cons_zero, List.getElem?_cons_succ, Option.bind_some, List.map_cons, List.map_nil, Nat.zero_add, if_true, List.getD_cons_zero, List.getD_cons_succ, List.contains_cons, List.contains_nil, Nat.reduceBEq, Bool.or_true, Bool.true_or, Bool.or_false, Bool.false_or, Bool.not_true, Bool.not_false, true_and, and_true, rowA_whole, push_n, set_n, push_obj, set_obj, set_push, set_push_ne, set_set, Nat.add_assoc, Nat.left_eq_add, Nat.add_eq_left, Nat.add_left_cancel_iff, Nat.reduceEqDiff, stO_1s, stO_ws, boxA_s, one_bool, one_int, one_str, one_ptr, one_nilptr, one_slice, one_eslice, one_nilslice, one_func, one_iface, one_niliface, List.all_cons, List.all_nil, List.length_cons, List.length_nil, Nat.reduceLT, Nat.reduceEqDiff, Nat.reduceLeDiff, Bool.and_true, Nat.one_ne_zero, Nat.succ_ne_zero, reduceIte, if_false, List.getElem?_cons_zero, List.set_cons_zero, List.set_cons_succ]
      generalize hq_g8 : IH.push h6 (IObj.rows [[.int .u8 (hexD (b.toNat % 16)).toNat]] 5 1 false) = g8
      have e_g8 : Ext h6 g8 := by rw [← hq_g8]; exact (Ext.refl _).push _
      have l_g8 : g8.n = h6.n + 1 := by rw [← hq_g8]; rfl
      have bb : At g8 h6.n (IObj.rows [[.int .u8 (hexD (b.toNat % 16)).toNat]] 5 1 false) := by rw [← hq_g8]; exact At.new _ _
      clear hq_g8
      have o7 := o7.ext e_g8
      have E := E.ext e_g8
      refine o7.app (by simp) (by rw [strRows_len, List.length_append, List.length_singleton, List.length_singleton]; omega) ?_
      intro v9 h9 o9 t9 n9 v9o v9c
      have E := E.turn o7 (by omega) t9
      have le_t9 := t9.le
      simp only [i0, i3, i4, i5, go_sem, Hold.p, HoldK.k, HoldL.K, HoldL.body, Nat.reduceBEq, Nat.reduceAdd, List.getElem?_cons_zero, List.getElem?_cons_succ, Option.bind_some, List.map_cons, List.map_nil, Nat.zero_add, if_true, List.getD_cons_zero, List.getD_cons_succ, List.contains_cons, List.contains_nil, Nat.reduceBEq, Bool.or_true, Bool.true_or, Bool.or_false, Bool.false_or, Bool.not_true, Bool.not_false, true_and, and_true, rowA_whole, push_n, set_n, push_obj, set_obj, set_push, set_push_ne, set_set, Nat.add_assoc, Nat.left_eq_add, Nat.add_eq_left, Nat.add_left_cancel_iff, Nat.reduceEqDiff, stO_1s, stO_ws, boxA_s, one_bool, one_int, one_str, one_ptr, one_nilptr, one_slice, one_eslice, one_nilslice, one_func, one_iface, one_niliface, List.all_cons, List.all_nil, List.length_cons, List.length_nil, Nat.reduceLT, Nat.reduceEqDiff, Nat.reduceLeDiff, Bool.and_true, Nat.one_ne_zero, Nat.succ_ne_zero, reduceIte, if_false, List.getElem?_cons_zero, List.set_cons_zero, List.set_cons_succ]
      refine ⟨_, ?_, v9, g8.n, g8.n + 1, k + 1, rfl, by omega, rfl, wr64_succ k (by omega), E, by omega, by omega, ?_⟩
      · omega
      · rw [flat_snoc hkp]
        have : strRows ((bs.take k).flatMap hex2 ++ hex2 b) = strRows ((bs.take k).flatMap hex2 ++ [hexD (b.toNat / 16)]) ++ [[IV.int .u8 (hexD (b.toNat % 16)).toNat]] := by simp [strRows, hex2]
        rw [this]; exact o9
    · obtain rfl : k = bs.length := by omega
      rw [List.take_length] at o
      have hb2 := o.sl.b2s
      simp only [i0, i4, hb2, go_sem, Hold.p, HoldK.k, HoldL.K, HoldL.body, Nat.reduceBEq, Nat.reduceAdd, List.getElem?_cons_zero, List.getElem?_cons_succ, Option.bind_some, List.map_cons, List.map_nil, Nat.zero_add, if_true, List.getD_cons_zero, List.getD_cons_succ, List.contains_cons, List.contains_nil, Nat.reduceBEq, Bool.or_true, Bool.true_or, Bool.or_false, Bool.false_or, Bool.not_true, Bool.not_false, true_and, and_true, rowA_whole, push_n, set_n, push_obj, set_obj, set_push, set_push_ne, set_set, Nat.add_assoc, Nat.left_eq_add, Nat.add_eq_left, Nat.add_left_cancel_iff, Nat.reduceEqDiff, stO_1s, stO_ws, boxA_s, one_bool, one_int, one_str, one_ptr, one_nilptr, one_slice, one_eslice, one_nilslice, one_func, one_iface, one_niliface, List.all_cons, List.all_nil, List.length_cons, List.length_nil, Nat.reduceLT, Nat.reduceEqDiff, Nat.reduceLeDiff, Bool.and_true, Nat.one_ne_zero, Nat.succ_ne_zero, reduceIte, if_false, List.getElem?_cons_zero, List.set_cons_zero, List.set_cons_succ]
      exact E
end Go.Proofs.Ytecljenjlncfhaa

namespace Go.Proofs.Ytecljenjlncfhaa
open Go Go.IW

set_option maxRecDepth 20000 in
theorem specShowData_c (h : IH) (v : IV) (bs : List UInt8) (hs : SlR h 1 v (strRows bs)) (hl : bs.length ≤ 1048576) : ICalls Try.prog 13 [v] h fun r h' => r = .tuple [.str (showD bs).1, .int .i64 (showD bs).2] ∧ Ext h h' := by
  refine icalls (.of ok13) (Nat.le_of_ble_eq_true rfl) ?_
  unfold c13 showD
  have hlen := hs.lenF
  rw [strRows_len] at hlen
  by_cases c1 : 60000 < bs.length
  · have d1 : decide ((60000 : Int) < (bs.length : Int)) = true := decide_eq_true (by omega)
    simp only [hlen, d1, go_sem, Hold.p, HoldK.k, HoldL.K, HoldL.body, Nat.reduceBEq, Nat.reduceAdd, List.getElem?_cons_zero, List.getElem?_cons_succ, Option.bind_some, List.map_cons, List.map_nil, Nat.zero_add, if_true, List.getD_cons_zero, List.getD_cons_succ, List.contains_cons, List.contains_nil, Nat.reduceBEq, Bool.or_true, Bool.true_or, Bool.or_false, Bool.false_or, Bool.not_true, Bool.not_false, true_and, and_true, rowA_whole, push_n, set_n, push_obj, set_obj, set_push, set_push_ne, set_set, Nat.add_assoc, Nat.left_eq_add, Nat.add_eq_left, Nat.add_left_cancel_iff, Nat.reduceEqDiff, stO_1s, stO_ws, boxA_s, one_bool, one_int, one_str, one_ptr, one_nilptr, one_slice, one_eslice, one_nilslice, one_func, one_iface, one_niliface, List.all_cons, List.all_nil, List.length_cons, List.length_nil, Nat.reduceLT, Nat.reduceEqDiff, Nat.reduceLeDiff, Bool.and_true, Nat.one_ne_zero, Nat.succ_ne_zero, reduceIte, if_false, List.getElem?_cons_zero, List.set_cons_zero, List.set_cons_succ]
    rw [if_pos c1]
    exact ⟨rfl, Ext.refl _⟩
  have d1 : decide ((60000 : Int) < (bs.length : Int)) = false := decide_eq_false (by omega)
  rw [if_neg c1]
  by_cases c2 : bs = []
  · have d2 : decide ((bs.length : Int) = 0) = true := decide_eq_true (by rw [c2]; rfl)
    simp only [hlen, d1, d2, go_sem, Hold.p, HoldK.k, HoldL.K, HoldL.body, Nat.reduceBEq, Nat.reduceAdd, List.getElem?_cons_zero, List.getElem?_cons_succ, Option.bind_some, List.map_cons, List.map_nil, Nat.zero_add, if_true, List.getD_cons_zero, List.getD_cons_succ, List.contains_cons, List.contains_nil, Nat.reduceBEq, Bool.or_true, Bool.true_or, Bool.or_false, Bool.false_or, Bool.not_true, Bool.not_false, true_and, and_true, rowA_whole, push_n, set_n, push_obj, set_obj, set_push, set_push_ne, set_set, Nat.add_assoc, Nat.left_eq_add, Nat.add_eq_left, Nat.add_left_cancel_iff, Nat.reduceEqDiff, stO_1s, stO_ws, boxA_s, one_bool, one_int, one_str, one_ptr, one_nilptr, one_slice, one_eslice, one_nilslice, one_func, one_iface, one_niliface, List.all_cons, List.all_nil, List.length_cons, List.length_nil, Nat.reduceLT, Nat.reduceEqDiff, Nat.reduceLeDiff, Bool.and_true, Nat.one_ne_zero, Nat.succ_ne_zero, reduceIte, if_false, List.getElem?_cons_zero, List.set_cons_zero, List.set_cons_succ]
    rw [if_pos c2]
    exact ⟨rfl, Ext.refl _⟩
  have hpos : 0 < bs.length := List.length_pos_iff.2 c2
  have d2 : decide ((bs.length : Int) = 0) = false := decide_eq_false (by omega)
  rw [if_neg c2]
  simp only [hlen, d1, d2, go_sem, Hold.p, HoldK.k, HoldL.K, HoldL.body, Nat.reduceBEq, Nat.reduceAdd, List.getElem?_cons_zero, List.getElem?_cons_succ, Option.bind_some, List.map_cons, List.map_nil, Nat.zero_add, if_true, List.getD_cons_zero, List.getD_cons_succ, List.contains_cons, List.contains_nil, Nat.reduceBEq, Bool.or_true, Bool.true_or, Bool.or_false, Bool.false_or, Bool.not_true, Bool.not_false, true_and, and_true, rowA_whole, push_n, set_n, push_obj, set_obj, set_push, set_push_ne, set_set, Nat.add_assoc, Nat.left_eq_add, Nat.add_eq_left, Nat.add_left_cancel_iff, Nat.reduceEqDiff, stO_1s, stO_ws, boxA_s, one_bool, one_int, one_str, one_ptr, one_nilptr, one_slice, one_eslice, one_nilslice, one_func, one_iface, one_niliface, List.all_cons, List.all_nil, List.length_cons, List.length_nil, Nat.reduceLT, Nat.reduceEqDiff, Nat.reduceLeDiff, Bool.and_true, Nat.one_ne_zero, Nat.succ_ne_zero, reduceIte, if_false, List.getElem?_cons_zero, List.set_cons_zero, List.set_cons_succ]
  refine loop_at (fun n e g => ∃ (x : IV) (lo hi k : Nat), n = bs.length - k ∧ k ≤ bs.length ∧ e 0 = v ∧ e 4 = x ∧ e 5 = .int .i64 (k : Nat) ∧ Ext h g ∧ h.n ≤ lo ∧ hi ≤ g.n ∧ Own lo hi g 5 1 x (strRows ((bs.take k).flatMap escB))) bs.length ?_ ?_
  · refine ⟨.eslice true, h.n, h.n, 0, by omega, by omega, ?_⟩
    simp only [go_sem, Hold.p, HoldK.k, HoldL.K, HoldL.body, Nat.reduceBEq, Nat.reduceAdd, List.getElem?_cons_zero, List.getElem?_cons_succ, Option.bind_some, List.map_cons, List.map_nil, Nat.zero_add, if_true, List.getD_cons_zero, List.getD_cons_succ, List.contains_cons, List.contains_nil, Nat.reduceBEq, Bool.or_true, Bool.true_or, Bool.or_false, Bool.false_or, Bool.not_true, Bool.not_false, true_and, and_true, rowA_whole, push_n, set_n, push_obj, set_obj, set_push, set_push_ne, set_set, Nat.add_assoc, Nat.left_eq_add, Nat.add_eq_left, Nat.add_left_cancel_iff, Nat.reduceEqDiff, stO_1s, stO_ws, boxA_s, one_bool, one_int, one_str, one_ptr, one_nilptr, one_slice, one_eslice, one_nilslice, one_func, one_iface, one_niliface, List.all_cons, List.all_nil, List.length_cons, List.length_nil, Nat.reduceLT, Nat.reduceEqDiff, Nat.reduceLeDiff, Bool.and_true, Nat.one_ne_zero, Nat.succ_ne_zero, reduceIte, if_false, List.getElem?_cons_zero, List.set_cons_zero, List.set_cons_succ]
    exact ⟨rfl, Ext.refl _, Nat.le_refl _, Nat.le_refl _, Own.empty⟩
  · rintro n e g ⟨x, lo, hi, k, rfl, hk, i0, i4, i5, E, hlo, hhi, o⟩
    have hle := E.le
    have hfl := flat_esc_len (bs.take k)
    rw [List.length_take] at hfl
    simp only [i0, i4, i5, hlen, go_sem, Hold.p, HoldK.k, HoldL.K, HoldL.body, Nat.reduceBEq, Nat.reduceAdd, List.getElem?_cons_zero, List.getElem?_cons_succ, Option.bind_some, List.map_cons, List.map_nil, Nat.zero_add, if_true, List.getD_cons_zero, List.getD_cons_succ, List.contains_cons, List.contains_nil, Nat.reduceBEq, Bool.or_true, Bool.true_or, Bool.or_false, Bool.false_or, Bool.not_true, Bool.not_false, true_and, and_true, rowA_whole, push_n, set_n, push_obj, set_obj, set_push, set_push_ne, set_set, Nat.add_assoc, Nat.left_eq_add, Nat.add_eq_left, Nat.add_left_cancel_iff, Nat.reduceEqDiff, stO_1s, stO_ws, boxA_s, one_bool, one_int, one_str, one_ptr, one_nilptr, one_slice, one_eslice, one_nilslice, one_func, one_iface, one_niliface, List.all_cons, List.all_nil, List.length_cons, List.length_nil, Nat.reduceLT, Nat.reduceEqDiff, Nat.reduceLeDiff, Bool.and_true, Nat.one_ne_zero, Nat.succ_ne_zero, reduceIte, if_false, List.getElem?_cons_zero, List.set_cons_zero, List.set_cons_succ]
    refine test_dec (fun hlt => ?_) (fun hlt => ?_)
    · have hlt' : k < bs.length := by omega
      have hkp : bs[k]? = some bs[k] := List.getElem?_eq_getElem hlt'
      have htk : (bs.take (k + 1)).drop k = [bs[k]] := by
        rw [List.drop_take, Nat.add_sub_cancel_left, List.drop_eq_getElem_cons hlt']; rfl
      generalize bs[k] = b at hkp htk
      have hs1 := hs.ext E
      obtain ⟨l, j, hia, hll, hrow⟩ := hs1.at (m := k) (strRows_at hkp) .i64
      have hc := cellO_row hrow
      simp only [i0, i4, i5, hia, hc, go_sem, Hold.p, HoldK.k, HoldL.K, HoldL.body, Nat.reduceBEq, Nat.reduceAdd, List.getElem?_cons_zero, List.getElem?_cons_succ, Option.bind_some, List.map_cons, List.map_nil, Nat.zero_add, if_true, List.getD_cons_zero, List.getD_cons_succ, List.contains_cons, List.contains_nil, Nat.reduceBEq, Bool.or_true, Bool.true_or, Bool.or_false, Bool.false_or, Bool.not_true, Bool.not_false, true_and, and_true, rowA_whole, push_n, set_n, push_obj, set_obj, set_push, set_push_ne, set_set, Nat.add_assoc, Nat.left_eq_add, Nat.add_eq_left, Nat.add_left_cancel_iff, Nat.reduceEqDiff, stO_1s, stO_ws, boxA_s, one_bool, one_int, one_str, one_ptr, one_nilptr, one_slice, one_eslice, one_nilslice, one_func, one_iface, one_niliface, List.all_cons, List.all_nil, List.length_cons, List.length_nil, Nat.reduceLT, Nat.reduceEqDiff, Nat.reduceLeDiff, Bool.and_true, Nat.one_ne_zero, Nat.succ_ne_zero, reduceIte, if_false, List.getElem?_cons_zero, List.set_cons_zero, List.set_cons_succ]
      refine callA_of (l20Plain_c _ b) ?_
      rintro r g1 ⟨rfl, rfl⟩
      cases hp : plainB b
      · simp only [i0, i4, i5, bslA_1, go_sem, Hold.p, HoldK.k, HoldL.K, HoldL.body, Nat.reduceBEq, Nat.reduceAdd, List.getElem?_cons_zero, List.getElem?_cons_succ, Option.bind_some, List.map_cons, List.map_nil, Nat.zero_add, if_true, List.getD_cons_zero, List.getD_cons_succ, List.contains_cons, List.contains_nil, Nat.reduceBEq, Bool.or_true, Bool.true_or, Bool.or_false, Bool.false_or, Bool.not_true, Bool.not_false, true_and, and_true, rowA_whole, push_n, set_n, push_obj, set_obj, set_push, set_push_ne, set_set, Nat.add_assoc, Nat.left_eq_add, Nat.add_eq_left, Nat.add_left_cancel_iff, Nat.reduceEqDiff, stO_1s, stO_ws, boxA_s, one_bool, one_int, one_str, one_ptr, one_nilptr, one_slice, one_eslice, one_nilslice, one_func, one_iface, one_niliface, List.all_cons, List.all_nil, List.length_cons, List.length_nil, Nat.reduceLT, Nat.reduceEqDiff, Nat.reduceLeDiff, Bool.and_true, Nat.one_ne_zero, Nat.succ_ne_zero, reduceIte, if_false, List.getElem?_cons_zero, List.set_cons_zero, List.set_cons_succ]
        generalize hq_g2 : IH.push g1 (IObj.rows [[.int .u8 37]] 5 1 false) = g2
        have e_g2 : Ext g1 g2 := by rw [← hq_g2]; exact (Ext.refl _).push _
        have l_g2 : g2.n = g1.n + 1 := by rw [← hq_g2]; rfl
        have ba : At g2 g1.n (IObj.rows [[.int .u8 37]] 5 1 false) := by rw [← hq_g2]; exact At.new _ _
        clear hq_g2
        have o := o.ext e_g2
        have E := E.ext e_g2
        refine o.app (by simp) (by rw [strRows_len, List.length_singleton]; omega) ?_
        intro v6 h6 o6 t6 n6 v6o v6c
        have E := E.turn o (by omega) t6
        have le_t6 := t6.le
        have o7 : Own g2.n (g2.n + 1) h6 5 1 v6 (strRows ((bs.take k).flatMap escB ++ [37])) := by rw [strRows_append]; exact o6
        have w1 : wr .i64 ((k : Int) + 1) = ((k + 1 : Nat) : Int) := by rw [wr64 _ (by omega)]; rfl
        obtain ⟨vs, hvs, hss⟩ := (hs.ext E).lohi (a := k) (b := k + 1) (q := .i64) (q' := .i64) (by omega) (by rw [strRows_len]; omega)
        rw [strRows_take, strRows_drop, htk] at hss
        simp only [i0, i4, i5, w1, hvs, Option.map_some, Option.map_none, go_sem, Hold.p, HoldK.k, HoldL.K, HoldL.body, Nat.reduceBEq, Nat.reduceAdd, List.getElem?_cons_zero, List.getElem?_cons_succ, Option.bind_some, List.map_cons, List.map_nil, Nat.zero_add, if_true, List.getD_cons_zero, List.getD_cons_succ, List.contains_cons, List.contains_nil, Nat.reduceBEq, Bool.or_true, Bool.true_or, Bool.or_false, Bool.false_or, Bool.not_true, Bool.not_false, true_and, and_true, rowA_whole, push_n, set_n, push_obj, set_obj, set_push, set_push_ne, set_set, Nat.add_assoc, Nat.left_eq_add, Nat.add_eq_left, Nat.add_left_cancel_iff, Nat.reduceEqDiff, stO_1s, stO_ws, boxA_s, one_bool, one_int, one_str, one_ptr, one_nilptr, one_slice, one_eslice, one_nilslice, one_func, one_iface, one_niliface, List.all_cons, List.all_nil, List.length_cons, List.length_nil, Nat.reduceLT, Nat.reduceEqDiff, Nat.reduceLeDiff, Bool.and_true, Nat.one_ne_zero, Nat.succ_ne_zero, reduceIte, if_false, List.getElem?_cons_zero, List.set_cons_zero, List.set_cons_succ]
        refine callA_of (l11HexText_c _ vs [b] hss (by simp)) ?_
        rintro r h8 ⟨rfl, E8⟩
        have o7 := o7.ext E8
        have E := E.ext E8
        have le_E8 := E8.le
        have hx : [b].flatMap hex2 = hex2 b := by simp
        rw [hx]
        have hne : hex2 b ≠ [] := by unfold hex2; simp
        simp only [i0, i4, i5, s2bA_some hne (by unfold hex2; simp), go_sem, Hold.p, HoldK.k, HoldL.K, HoldL.body, Nat.reduceBEq, Nat.reduceAdd, List.getElem?_cons_zero, List.getElem?_cons_succ, Option.bind_some, List.map_cons, List.map_nil, Nat.zero_add, if_true, List.getD_cons_zero, List.getD_cons_succ, List.contains_cons, List.contains_nil, Nat.reduceBEq, Bool.or_true, Bool.true_or, Bool.or_false, Bool.false_or, Bool.not_true, Bool.not_false, true_and, and_true, rowA_whole, push_n, set_n, push_obj, set_obj, set_push, set_push_ne, set_set, Nat.add_assoc, Nat.left_eq_add, Nat.add_eq_left, Nat.add_left_cancel_iff, Nat.reduceEqDiff, stO_1s, stO_ws, boxA_s, one_bool, one_int, one_str, one_ptr, one_nilptr, one_slice, one_eslice, one_nilslice, one_func, one_iface, one_niliface, List.all_cons, List.all_nil, List.length_cons, List.length_nil, Nat.reduceLT, Nat.reduceEqDiff, Nat.reduceLeDiff, Bool.and_true, Nat.one_ne_zero, Nat.succ_ne_zero, reduceIte, if_false, List.getElem?_cons_zero, List.set_cons_zero, List.set_cons_succ]
        generalize hq_g9 : IH.push h8 (IObj.rows (strRows (hex2 b)) 5 1 false) = g9
        have e_g9 : Ext h8 g9 := by rw [← hq_g9]; exact (Ext.refl _).push _
        have l_g9 : g9.n = h8.n + 1 := by rw [← hq_g9]; rfl
        have bb : At g9 h8.n (IObj.rows (strRows (hex2 b)) 5 1 false) := by rw [← hq_g9]; exact At.new _ _
        clear hq_g9
        have o7 := o7.ext e_g9
        have E := E.ext e_g9
        have hsr : srcO (IObj.rows (strRows (hex2 b)) 5 1 false) 1 0 (hex2 b).length = some (strRows (hex2 b)) := by
          simp only [srcO]
          rw [if_pos ⟨trivial, by rw [strRows_len]; omega⟩, List.drop_zero, List.take_of_length_le (by rw [strRows_len]; omega)]
        try simp only [bb.eq, hsr, go_sem, Hold.p, HoldK.k, HoldL.K, HoldL.body, Nat.reduceBEq, Nat.reduceAdd, List.getElem?_cons_zero, List.getElem?_cons_succ, Option.bind_some, List.map_cons, List.map_nil, Nat.zero_add, if_true, List.getD_cons_zero, List.getD_cons_succ, List.contains_cons, List.contains_nil, Nat.reduceBEq, Bool.or_true, Bool.true_or, Bool.or_false, Bool.false_or, Bool.not_true, Bool.not_false, true_and, and_true, rowA_whole, push_n, set_n, push_obj, set_obj, set_push, set_push_ne, set_set, Nat.add_assoc, Nat.left_eq_add, Nat.add_eq_left, Nat.add_left_cancel_iff, Nat.reduceEqDiff, stO_1s, stO_ws, boxA_s, one_bool, one_int, one_str, one_ptr, one_nilptr, one_slice, one_eslice, one_nilslice, one_func, one_iface, one_niliface, List.all_cons, List.all_nil, List.length_cons, List.length_nil, Nat.reduceLT, Nat.reduceEqDiff, Nat.reduceLeDiff, Bool.and_true, Nat.one_ne_zero, Nat.succ_ne_zero, reduceIte, if_false, List.getElem?_cons_zero, List.set_cons_zero, List.set_cons_succ]
        have hx2 : (hex2 b).length = 2 := rfl
        refine o7.app (by unfold hex2 strRows; simp) (by rw [strRows_len, strRows_len, List.length_append, List.length_singleton, hx2]; omega) ?_
        intro vA hA oA tA nA vAo vAc
        have E := E.turn o7 (by omega) tA
        have le_tA := tA.le
        simp only [i0, i4, i5, go_sem, Hold.p, HoldK.k, HoldL.K, HoldL.body, Nat.reduceBEq, Nat.reduceAdd, List.getElem?_cons_zero, List.getElem?_cons_succ, Option.bind_some, List.map_cons, List.map_nil, Nat.zero_add, if_true, List.getD_cons_zero, List.getD_cons_succ, List.contains_cons, List.contains_nil, Nat.reduceBEq, Bool.or_true, Bool.true_or, Bool.or_false, Bool.false_or, Bool.not_true, Bool.not_false, true_and, and_true, rowA_whole, push_n, set_n, push_obj, set_obj, set_push, set_push_ne, set_set, Nat.add_assoc, Nat.left_eq_add, Nat.add_eq_left, Nat.add_left_cancel_iff, Nat.reduceEqDiff, stO_1s, stO_ws, boxA_s, one_bool, one_int, one_str, one_ptr, one_nilptr, one_slice, one_eslice, one_nilslice, one_func, one_iface, one_niliface, List.all_cons, List.all_nil, List.length_cons, List.length_nil, Nat.reduceLT, Nat.reduceEqDiff, Nat.reduceLeDiff, Bool.and_true, Nat.one_ne_zero, Nat.succ_ne_zero, reduceIte, if_false, List.getElem?_cons_zero, List.set_cons_zero, List.set_cons_succ]
        refine ⟨_, ?_, vA, g9.n, g9.n + 1, k + 1, rfl, by omega, rfl, wr64_succ k (by omega), E, by omega, by omega, ?_⟩
        · omega
        · rw [flat_snoc hkp]
          have : strRows ((bs.take k).flatMap escB ++ escB b) = strRows ((bs.take k).flatMap escB ++ [37]) ++ strRows (hex2 b) := by
            unfold escB
            rw [hp]
            simp [strRows]
          rw [this]; exact oA
      · simp only [i0, i4, i5, hia, hc, bslA_1, go_sem, Hold.p, HoldK.k, HoldL.K, HoldL.body, Nat.reduceBEq, Nat.reduceAdd, List.getElem?_cons_zero, List.getElem?_cons_succ, Option.bind_some, List.map_cons, List.map_nil, Nat.zero_add, if_true, List.getD_cons_zero, List.getD_cons_succ, List.contains_cons, List.contains_nil, Nat.reduceBEq, Bool.or_true, Bool.true_or, Bool.or_false, Bool.false_or, Bool.not_true, Bool.not_false, true_and, and_true, rowA_whole, push_n, set_n, push_obj, set_obj, set_push, set_push_ne, set_set, Nat.add_assoc, Nat.left_eq_add, Nat.add_eq_left, Nat.add_left_cancel_iff, Nat.reduceEqDiff, stO_1s, stO_ws, boxA_s, one_bool, one_int, one_str, one_ptr, one_nilptr, one_slice, one_eslice, one_nilslice, one_func, one_iface, one_niliface, List.all_cons, List.all_nil, List.length_cons, List.length_nil, Nat.reduceLT, Nat.reduceEqDiff, Nat.reduceLeDiff, Bool.and_true, Nat.one_ne_zero, Nat.succ_ne_zero, reduceIte, if_false, List.getElem?_cons_zero, List.set_cons_zero, List.set_cons_succ]
        generalize hq_g2 : IH.push g1 (IObj.rows [[.int .u8 b.toNat]] 5 1 false) = g2
        have e_g2 : Ext g1 g2 := by rw [← hq_g2]; exact (Ext.refl _).push _
        have l_g2 : g2.n = g1.n + 1 := by rw [← hq_g2]; rfl
        have ba : At g2 g1.n (IObj.rows [[.int .u8 b.toNat]] 5 1 false) := by rw [← hq_g2]; exact At.new _ _
        clear hq_g2
        have o := o.ext e_g2
        have E := E.ext e_g2
        refine o.app (by simp) (by rw [strRows_len, List.length_singleton]; omega) ?_
        intro v6 h6 o6 t6 n6 v6o v6c
        have E := E.turn o (by omega) t6
        have le_t6 := t6.le
        simp only [i0, i4, i5, go_sem, Hold.p, HoldK.k, HoldL.K, HoldL.body, Nat.reduceBEq, Nat.reduceAdd, List.getElem?_cons_zero, List.getElem?_cons_succ, Option.bind_some, List.map_cons, List.map_nil, Nat.zero_add, if_true, List.getD_cons_zero, List.getD_cons_succ, List.contains_cons, List.contains_nil, Nat.reduceBEq, Bool.or_true, Bool.true_or, Bool.or_false, Bool.false_or, Bool.not_true, Bool.not_false, true_and, and_true, rowA_whole, push_n, set_n, push_obj, set_obj, set_push, set_push_ne, set_set, Nat.add_assoc, Nat.left_eq_add, Nat.add_eq_left, Nat.add_left_cancel_iff, Nat.reduceEqDiff, stO_1s, stO_ws, boxA_s, one_bool, one_int, one_str, one_ptr, one_nilptr, one_slice, one_eslice, one_nilslice, one_func, one_iface, one_niliface, List.all_cons, List.all_nil, List.length_cons, List.length_nil, Nat.reduceLT, Nat.reduceEqDiff, Nat.reduceLeDiff, Bool.and_true, Nat.one_ne_zero, Nat.succ_ne_zero, reduceIte, if_false, List.getElem?_cons_zero, List.set_cons_zero, List.set_cons_succ]
        refine ⟨_, ?_, v6, g2.n, g2.n + 1, k + 1, rfl, by omega, rfl, wr64_succ k (by omega), E, by omega, by omega, ?_⟩
        · omega
        · rw [flat_snoc hkp]
          have : strRows ((bs.take k).flatMap escB ++ escB b) = strRows ((bs.take k).flatMap escB) ++ [[IV.int .u8 b.toNat]] := by
            unfold escB
            rw [hp]
            simp [strRows]
          rw [this]; exact o6
    · obtain rfl : k = bs.length := by omega
      rw [List.take_length] at o
      have hb2 := o.sl.b2s
      simp only [i0, i4, hb2, go_sem, Hold.p, HoldK.k, HoldL.K, HoldL.body, Nat.reduceBEq, Nat.reduceAdd, List.getElem?_cons_zero, List.getElem?_cons_succ, Option.bind_some, List.map_cons, List.map_nil, Nat.zero_add, if_true, List.getD_cons_zero, List.getD_cons_succ, List.contains_cons, List.contains_nil, Nat.reduceBEq, Bool.or_true, Bool.true_or, Bool.or_false, Bool.false_or, Bool.not_true, Bool.not_false, true_and, and_true, rowA_whole, push_n, set_n, push_obj, set_obj, set_push, set_push_ne, set_set, Nat.add_assoc, Nat.left_eq_add, Nat.add_eq_left, Nat.add_left_cancel_iff, Nat.reduceEqDiff, stO_1s, stO_ws, boxA_s, one_bool, one_int, one_str, one_ptr, one_nilptr, one_slice, one_eslice, one_nilslice, one_func, one_iface, one_niliface, List.all_cons, List.all_nil, List.length_cons, List.length_nil, Nat.reduceLT, Nat.reduceEqDiff, Nat.reduceLeDiff, Bool.and_true, Nat.one_ne_zero, Nat.succ_ne_zero, reduceIte, if_false, List.getElem?_cons_zero, List.set_cons_zero, List.set_cons_succ]
      exact E
end Go.Proofs.Ytecljenjlncfhaa

namespace Go.Proofs.Ytecljenjlncfhaa
open Go Go.IW

set_option maxRecDepth 20000 in
theorem wb_c {lo hi : Nat} {h0 h : IH} {p : Nat} {s : List UInt8} (hE : Ext h0 h) (hb : Bld 91 5 lo hi h p s) (hp : h0.n ≤ p) (hlo : p < lo) (hhi : hi ≤ h.n) (hl : s.length ≤ 16777216) (c : UInt8) :
    ICalls Try.prog 57 [.ptr p 0 0, .int .u8 c.toNat] h fun r h' => r = .niliface ∧ ∃ lo' hi', Bld 91 5 lo' hi' h' p (s ++ [c]) ∧ Ext h0 h' ∧ p < lo' ∧ hi' ≤ h'.n :=
  writeByte_calls (z := .int .u8 0) ok57 copyCheck_c hE hb hp hlo hhi hl c
set_option maxRecDepth 20000 in
theorem w_c {lo hi : Nat} {h0 h : IH} {p : Nat} {s t : List UInt8} {w : IV} {lw hw : Nat} (hE : Ext h0 h) (hb : Bld 91 5 lo hi h p s) (hp : h0.n ≤ p) (hlo : p < lo) (hhi : hi ≤ h.n) (hl : s.length ≤ 16777216) (ht : t ≠ []) (hlt : t.length ≤ 16777216)
    (hw0 : Own lw hw h 5 1 w (strRows t)) (hwp : p < lw) (hww : hw ≤ h.n) (hdis : hi ≤ lw) :
    ICalls Try.prog 58 [.ptr p 0 0, w] h fun r h' => r = .tuple [.int .i64 (t.length : Nat), .niliface] ∧ ∃ lo' hi', Bld 91 5 lo' hi' h' p (s ++ t) ∧ Ext h0 h' ∧ p < lo' ∧ hi' ≤ h'.n :=
  write_calls ok58 copyCheck_c hE hb hp hlo hhi hl ht hlt hw0 hwp hww hdis
set_option maxRecDepth 20000 in
theorem bs_c {lo hi : Nat} {h0 h : IH} {p : Nat} {s : List UInt8} (hE : Ext h0 h) (hb : Bld 91 5 lo hi h p s) (hp : h0.n ≤ p) (hlo : p < lo) (hl : s.length ≤ 9223372036854775807) :
    ICalls Try.prog 59 [.ptr p 0 0] h fun r h' => r = .str s ∧ Ext h0 h' :=
  bstring_calls ok59 hE hb hp hlo hl
set_option maxRecDepth 20000 in
theorem implShowData_c (h : IH) (v : IV) (bs : List UInt8) (hs : SlR h 1 v (strRows bs)) (hl : bs.length ≤ 1048576) : ICalls Try.prog 15 [v] h fun r h' => r = .tuple [.str (showD bs).1, .int .i64 (showD bs).2] ∧ Ext h h' := by
  refine icalls (.of ok15) (Nat.le_of_ble_eq_true rfl) ?_
  unfold c15 showD
  have hlen := hs.lenF
  rw [strRows_len] at hlen
  by_cases c1 : 60000 < bs.length
  · have d1 : decide ((60000 : Int) < (bs.length : Int)) = true := decide_eq_true (by omega)
    simp only [hlen, d1, go_sem, Hold.p, HoldK.k, HoldL.K, HoldL.body, Nat.reduceBEq, Nat.reduceAdd, List.getElem?_cons_zero, List.getElem?_cons_succ, Option.bind_some, List.map_cons, List.map_nil, Nat.zero_add, if_true, List.getD_cons_zero, List.getD_cons_succ, List.contains_cons, List.contains_nil, Nat.reduceBEq, Bool.or_true, Bool.true_or, Bool.or_false, Bool.false_or, Bool.not_true, Bool.not_false, true_and, and_true, rowA_whole, push_n, set_n, push_obj, set_obj, set_push, set_push_ne, set_set, Nat.add_assoc, Nat.left_eq_add, Nat.add_eq_left, Nat.add_left_cancel_iff, Nat.reduceEqDiff, stO_1s, stO_ws, boxA_s, one_bool, one_int, one_str, one_ptr, one_nilptr, one_slice, one_eslice, one_nilslice, one_func, one_iface, one_niliface, List.all_cons, List.all_nil, List.length_cons, List.length_nil, Nat.reduceLT, Nat.reduceEqDiff, Nat.reduceLeDiff, Bool.and_true, Nat.one_ne_zero, Nat.succ_ne_zero, reduceIte, if_false, List.getElem?_cons_zero, List.set_cons_zero, List.set_cons_succ]
    rw [if_pos c1]
    exact ⟨rfl, Ext.refl _⟩
  have d1 : decide ((60000 : Int) < (bs.length : Int)) = false := decide_eq_false (by omega)
  rw [if_neg c1]
  by_cases c2 : bs = []
  · have d2 : decide ((bs.length : Int) = 0) = true := decide_eq_true (by rw [c2]; rfl)
    simp only [hlen, d1, d2, go_sem, Hold.p, HoldK.k, HoldL.K, HoldL.body, Nat.reduceBEq, Nat.reduceAdd, List.getElem?_cons_zero, List.getElem?_cons_succ, Option.bind_some, List.map_cons, List.map_nil, Nat.zero_add, if_true, List.getD_cons_zero, List.getD_cons_succ, List.contains_cons, List.contains_nil, Nat.reduceBEq, Bool.or_true, Bool.true_or, Bool.or_false, Bool.false_or, Bool.not_true, Bool.not_false, true_and, and_true, rowA_whole, push_n, set_n, push_obj, set_obj, set_push, set_push_ne, set_set, Nat.add_assoc, Nat.left_eq_add, Nat.add_eq_left, Nat.add_left_cancel_iff, Nat.reduceEqDiff, stO_1s, stO_ws, boxA_s, one_bool, one_int, one_str, one_ptr, one_nilptr, one_slice, one_eslice, one_nilslice, one_func, one_iface, one_niliface, List.all_cons, List.all_nil, List.length_cons, List.length_nil, Nat.reduceLT, Nat.reduceEqDiff, Nat.reduceLeDiff, Bool.and_true, Nat.one_ne_zero, Nat.succ_ne_zero, reduceIte, if_false, List.getElem?_cons_zero, List.set_cons_zero, List.set_cons_succ]
    rw [if_pos c2]
    exact ⟨rfl, Ext.refl _⟩
  have hpos : 0 < bs.length := List.length_pos_iff.2 c2
  have d2 : decide ((bs.length : Int) = 0) = false := decide_eq_false (by omega)
  rw [if_neg c2]
  simp only [hlen, d1, d2, go_sem, Hold.p, HoldK.k, HoldL.K, HoldL.body, Nat.reduceBEq, Nat.reduceAdd, List.getElem?_cons_zero, List.getElem?_cons_succ, Option.bind_some, List.map_cons, List.map_nil, Nat.zero_add, if_true, List.getD_cons_zero, List.getD_cons_succ, List.contains_cons, List.contains_nil, Nat.reduceBEq, Bool.or_true, Bool.true_or, Bool.or_false, Bool.false_or, Bool.not_true, Bool.not_false, true_and, and_true, rowA_whole, push_n, set_n, push_obj, set_obj, set_push, set_push_ne, set_set, Nat.add_assoc, Nat.left_eq_add, Nat.add_eq_left, Nat.add_left_cancel_iff, Nat.reduceEqDiff, stO_1s, stO_ws, boxA_s, one_bool, one_int, one_str, one_ptr, one_nilptr, one_slice, one_eslice, one_nilslice, one_func, one_iface, one_niliface, List.all_cons, List.all_nil, List.length_cons, List.length_nil, Nat.reduceLT, Nat.reduceEqDiff, Nat.reduceLeDiff, Bool.and_true, Nat.one_ne_zero, Nat.succ_ne_zero, reduceIte, if_false, List.getElem?_cons_zero, List.set_cons_zero, List.set_cons_succ]
  refine loop_at (fun n e g => ∃ (lo hi k : Nat), n = bs.length - k ∧ k ≤ bs.length ∧ e 4 = .ptr h.n 0 0 ∧ e 13 = v ∧ e 14 = .int .i64 (bs.length : Nat) ∧ e 15 = .int .i64 (k : Nat) ∧ Ext h g ∧ Bld 91 5 lo hi g h.n ((bs.take k).flatMap escB) ∧ h.n < lo ∧ hi ≤ g.n) bs.length ?_ ?_
  · refine ⟨h.n + 1, h.n + 1, 0, by omega, by omega, ?_⟩
    simp only [go_sem, Hold.p, HoldK.k, HoldL.K, HoldL.body, Nat.reduceBEq, Nat.reduceAdd, List.getElem?_cons_zero, List.getElem?_cons_succ, Option.bind_some, List.map_cons, List.map_nil, Nat.zero_add, if_true, List.getD_cons_zero, List.getD_cons_succ, List.contains_cons, List.contains_nil, Nat.reduceBEq, Bool.or_true, Bool.true_or, Bool.or_false, Bool.false_or, Bool.not_true, Bool.not_false, true_and, and_true, rowA_whole, push_n, set_n, push_obj, set_obj, set_push, set_push_ne, set_set, Nat.add_assoc, Nat.left_eq_add, Nat.add_eq_left, Nat.add_left_cancel_iff, Nat.reduceEqDiff, stO_1s, stO_ws, boxA_s, one_bool, one_int, one_str, one_ptr, one_nilptr, one_slice, one_eslice, one_nilslice, one_func, one_iface, one_niliface, List.all_cons, List.all_nil, List.length_cons, List.length_nil, Nat.reduceLT, Nat.reduceEqDiff, Nat.reduceLeDiff, Bool.and_true, Nat.one_ne_zero, Nat.succ_ne_zero, reduceIte, if_false, List.getElem?_cons_zero, List.set_cons_zero, List.set_cons_succ]
    exact ⟨rfl, (Ext.refl _).push _, ⟨.nilptr, .nilslice, At.new _ _, .inl rfl, .inl rfl, Own.nil⟩, by omega, Nat.le_refl _⟩
  · rintro n e g ⟨lo, hi, k, rfl, hk, i4, i13, i14, i15, E, B, hlo, hhi⟩
    have hle := E.le
    have hfl := flat_esc_len (bs.take k)
    rw [List.length_take] at hfl
    simp only [i4, i13, i14, i15, go_sem, Hold.p, HoldK.k, HoldL.K, HoldL.body, Nat.reduceBEq, Nat.reduceAdd, List.getElem?_cons_zero, List.getElem?_cons_succ, Option.bind_some, List.map_cons, List.map_nil, Nat.zero_add, if_true, List.getD_cons_zero, List.getD_cons_succ, List.contains_cons, List.contains_nil, Nat.reduceBEq, Bool.or_true, Bool.true_or, Bool.or_false, Bool.false_or, Bool.not_true, Bool.not_false, true_and, and_true, rowA_whole, push_n, set_n, push_obj, set_obj, set_push, set_push_ne, set_set, Nat.add_assoc, Nat.left_eq_add, Nat.add_eq_left, Nat.add_left_cancel_iff, Nat.reduceEqDiff, stO_1s, stO_ws, boxA_s, one_bool, one_int, one_str, one_ptr, one_nilptr, one_slice, one_eslice, one_nilslice, one_func, one_iface, one_niliface, List.all_cons, List.all_nil, List.length_cons, List.length_nil, Nat.reduceLT, Nat.reduceEqDiff, Nat.reduceLeDiff, Bool.and_true, Nat.one_ne_zero, Nat.succ_ne_zero, reduceIte, if_false, List.getElem?_cons_zero, List.set_cons_zero, List.set_cons_succ]
    refine test_dec (fun hlt => ?_) (fun hlt => ?_)
    · have hlt' : k < bs.length := by omega
      have hkp : bs[k]? = some bs[k] := List.getElem?_eq_getElem hlt'
      generalize bs[k] = b at hkp
      have hs1 := hs.ext E
      obtain ⟨l, j, hia, hll, hrow⟩ := hs1.at (m := k) (strRows_at hkp) .i64
      have hc := cellO_row hrow
      change vc Try.prog (.seq (.block 1 (.seq _ (.seq _ _))) _) _ _ _
      refine vc_cut (fun e' g' => ∃ (lo hi : Nat), e' 4 = .ptr h.n 0 0 ∧ e' 13 = v ∧ e' 14 = .int .i64 (bs.length : Nat) ∧ e' 15 = .int .i64 (k : Nat) ∧ Ext h g' ∧ Bld 91 5 lo hi g' h.n ((bs.take (k + 1)).flatMap escB) ∧ h.n < lo ∧ hi ≤ g'.n) ?_ ?_
      · change vc Try.prog (.seq _ (.seq _ _)) _ _ _
        refine vc_cut2 (fun e' g' => e' 4 = .ptr h.n 0 0 ∧ e' 6 = .int .u8 b.toNat ∧ e' 13 = v ∧ e' 14 = .int .i64 (bs.length : Nat) ∧ e' 15 = .int .i64 (k : Nat) ∧ e' 45 = .bool (plainB b) ∧ g' = g) ?_ ?_
        · cases d0 : decide (97 ≤ (b.toNat : Int))
          · skip
            cases d1 : decide (65 ≤ (b.toNat : Int))
            · skip
              cases d2 : decide (48 ≤ (b.toNat : Int))
              · skip
                simp only [i4, i13, i14, i15, hia, hc, d0, d1, d2, Bool.true_and, Bool.false_and, Bool.and_true, Bool.and_false, Bool.true_or, Bool.false_or, Bool.or_true, Bool.or_false, go_sem, Hold.p, HoldK.k, HoldL.K, HoldL.body, Nat.reduceBEq, Nat.reduceAdd, List.getElem?_cons_zero, List.getElem?_cons_succ, Option.bind_some, List.map_cons, List.map_nil, Nat.zero_add, if_true, List.getD_cons_zero, List.getD_cons_succ, List.contains_cons, List.contains_nil, Nat.reduceBEq, Bool.or_true, Bool.true_or, Bool.or_false, Bool.false_or, Bool.not_true, Bool.not_false, true_and, and_true, rowA_whole, push_n, set_n, push_obj, set_obj, set_push, set_push_ne, set_set, Nat.add_assoc, Nat.left_eq_add, Nat.add_eq_left, Nat.add_left_cancel_iff, Nat.reduceEqDiff, stO_1s, stO_ws, boxA_s, one_bool, one_int, one_str, one_ptr, one_nilptr, one_slice, one_eslice, one_nilslice, one_func, one_iface, one_niliface, List.all_cons, List.all_nil, List.length_cons, List.length_nil, Nat.reduceLT, Nat.reduceEqDiff, Nat.reduceLeDiff, Bool.and_true, Nat.one_ne_zero, Nat.succ_ne_zero, reduceIte, if_false, List.getElem?_cons_zero, List.set_cons_zero, List.set_cons_succ]
                refine callA_of (indexByte_c g _ b) ?_
                rintro r h2 ⟨rfl, rfl⟩
                simp only [i4, i13, i14, i15, hia, hc, d0, d1, d2, Bool.true_and, Bool.false_and, Bool.and_true, Bool.and_false, Bool.true_or, Bool.false_or, Bool.or_true, Bool.or_false, go_sem, Hold.p, HoldK.k, HoldL.K, HoldL.body, Nat.reduceBEq, Nat.reduceAdd, List.getElem?_cons_zero, List.getElem?_cons_succ, Option.bind_some, List.map_cons, List.map_nil, Nat.zero_add, if_true, List.getD_cons_zero, List.getD_cons_succ, List.contains_cons, List.contains_nil, Nat.reduceBEq, Bool.or_true, Bool.true_or, Bool.or_false, Bool.false_or, Bool.not_true, Bool.not_false, true_and, and_true, rowA_whole, push_n, set_n, push_obj, set_obj, set_push, set_push_ne, set_set, Nat.add_assoc, Nat.left_eq_add, Nat.add_eq_left, Nat.add_left_cancel_iff, Nat.reduceEqDiff, stO_1s, stO_ws, boxA_s, one_bool, one_int, one_str, one_ptr, one_nilptr, one_slice, one_eslice, one_nilslice, one_func, one_iface, one_niliface, List.all_cons, List.all_nil, List.length_cons, List.length_nil, Nat.reduceLT, Nat.reduceEqDiff, Nat.reduceLeDiff, Bool.and_true, Nat.one_ne_zero, Nat.succ_ne_zero, reduceIte, if_false, List.getElem?_cons_zero, List.set_cons_zero, List.set_cons_succ]
                rw [idx_plain]
                unfold plainB
                simp only [d0, d1, d2, Bool.true_and, Bool.false_and, Bool.and_true, Bool.and_false, Bool.true_or, Bool.false_or, Bool.or_true, Bool.or_false]
              · cases d3 : decide ((b.toNat : Int) ≤ 57)
                · skip
                  simp only [i4, i13, i14, i15, hia, hc, d0, d1, d2, d3, Bool.true_and, Bool.false_and, Bool.and_true, Bool.and_false, Bool.true_or, Bool.false_or, Bool.or_true, Bool.or_false, go_sem, Hold.p, HoldK.k, HoldL.K, HoldL.body, Nat.reduceBEq, Nat.reduceAdd, List.getElem?_cons_zero, List.getElem?_cons_succ, Option.bind_some, List.map_cons, List.map_nil, Nat.zero_add, if_true, List.getD_cons_zero, List.getD_cons_succ, List.contains_cons, List.contains_nil, Nat.reduceBEq, Bool.or_true, Bool.true_or, Bool.or_false, Bool.false_or, Bool.not_true, Bool.not_false, true_and, and_true, rowA_whole, push_n, set_n, push_obj, set_obj, set_push, set_push_ne, set_set, Nat.add_assoc, Nat.left_eq_add, Nat.add_eq_left, Nat.add_left_cancel_iff, Nat.reduceEqDiff, stO_1s, stO_ws, boxA_s, one_bool, one_int, one_str, one_ptr, one_nilptr, one_slice, one_eslice, one_nilslice, one_func, one_iface, one_niliface, List.all_cons, List.all_nil, List.length_cons, List.length_nil, Nat.reduceLT, Nat.reduceEqDiff, Nat.reduceLeDiff, Bool.and_true, Nat.one_ne_zero, Nat.succ_ne_zero, reduceIte, if_false, List.getElem?_cons_zero, List.set_cons_zero, List.set_cons_succ]
                  refine callA_of (indexByte_c g _ b) ?_
                  rintro r h2 ⟨rfl, rfl⟩
                  simp only [i4, i13, i14, i15, hia, hc, d0, d1, d2, d3, Bool.true_and, Bool.false_and, Bool.and_true, Bool.and_false, Bool.true_or, Bool.false_or, Bool.or_true, Bool.or_false, go_sem, Hold.p, HoldK.k, HoldL.K, HoldL.body, Nat.reduceBEq, Nat.reduceAdd, List.getElem?_cons_zero, List.getElem?_cons_succ, Option.bind_some, List.map_cons, List.map_nil, Nat.zero_add, if_true, List.getD_cons_zero, List.getD_cons_succ, List.contains_cons, List.contains_nil, Nat.reduceBEq, Bool.or_true, Bool.true_or, Bool.or_false, Bool.false_or, Bool.not_true, Bool.not_false, true_and, and_true, rowA_whole, push_n, set_n, push_obj, set_obj, set_push, set_push_ne, set_set, Nat.add_assoc, Nat.left_eq_add, Nat.add_eq_left, Nat.add_left_cancel_iff, Nat.reduceEqDiff, stO_1s, stO_ws, boxA_s, one_bool, one_int, one_str, one_ptr, one_nilptr, one_slice, one_eslice, one_nilslice, one_func, one_iface, one_niliface, List.all_cons, List.all_nil, List.length_cons, List.length_nil, Nat.reduceLT, Nat.reduceEqDiff, Nat.reduceLeDiff, Bool.and_true, Nat.one_ne_zero, Nat.succ_ne_zero, reduceIte, if_false, List.getElem?_cons_zero, List.set_cons_zero, List.set_cons_succ]
                  rw [idx_plain]
                  unfold plainB
                  simp only [d0, d1, d2, d3, Bool.true_and, Bool.false_and, Bool.and_true, Bool.and_false, Bool.true_or, Bool.false_or, Bool.or_true, Bool.or_false]
                · skip
                  simp only [i4, i13, i14, i15, hia, hc, d0, d1, d2, d3, Bool.true_and, Bool.false_and, Bool.and_true, Bool.and_false, Bool.true_or, Bool.false_or, Bool.or_true, Bool.or_false, go_sem, Hold.p, HoldK.k, HoldL.K, HoldL.body, Nat.reduceBEq, Nat.reduceAdd, List.getElem?_cons_zero, List.getElem?_cons_succ, Option.bind_some, List.map_cons, List.map_nil, Nat.zero_add, if_true, List.getD_cons_zero, List.getD_cons_succ, List.contains_cons, List.contains_nil, Nat.reduceBEq, Bool.or_true, Bool.true_or, Bool.or_false, Bool.false_or, Bool.not_true, Bool.not_false, true_and, and_true, rowA_whole, push_n, set_n, push_obj, set_obj, set_push, set_push_ne, set_set, Nat.add_assoc, Nat.left_eq_add, Nat.add_eq_left, Nat.add_left_cancel_iff, Nat.reduceEqDiff, stO_1s, stO_ws, boxA_s, one_bool, one_int, one_str, one_ptr, one_nilptr, one_slice, one_eslice, one_nilslice, one_func, one_iface, one_niliface, List.all_cons, List.all_nil, List.length_cons, List.length_nil, Nat.reduceLT, Nat.reduceEqDiff, Nat.reduceLeDiff, Bool.and_true, Nat.one_ne_zero, Nat.succ_ne_zero, reduceIte, if_false, List.getElem?_cons_zero, List.set_cons_zero, List.set_cons_succ]
                  unfold plainB
                  simp only [d0, d1, d2, d3, Bool.true_and, Bool.false_and, Bool.and_true, Bool.and_false, Bool.true_or, Bool.false_or, Bool.or_true, Bool.or_false]
            · cases d2 : decide ((b.toNat : Int) ≤ 90)
              · skip
                cases d3 : decide (48 ≤ (b.toNat : Int))
                · skip
                  simp only [i4, i13, i14, i15, hia, hc, d0, d1, d2, d3, Bool.true_and, Bool.false_and, Bool.and_true, Bool.and_false, Bool.true_or, Bool.false_or, Bool.or_true, Bool.or_false, go_sem, Hold.p, HoldK.k, HoldL.K, HoldL.body, Nat.reduceBEq, Nat.reduceAdd, List.getElem?_cons_zero, List.getElem?_cons_succ, Option.bind_some, List.map_cons, List.map_nil, Nat.zero_add, if_true, List.getD_cons_zero, List.getD_cons_succ, List.contains_cons, List.contains_nil, Nat.reduceBEq, Bool.or_true, Bool.true_or, Bool.or_false, Bool.false_or, Bool.not_true, Bool.not_false, true_and, and_true, rowA_whole, push_n, set_n, push_obj, set_obj, set_push, set_push_ne, set_set, Nat.add_assoc, Nat.left_eq_add, Nat.add_eq_left, Nat.add_left_cancel_iff, Nat.reduceEqDiff, stO_1s, stO_ws, boxA_s, one_bool, one_int, one_str, one_ptr, one_nilptr, one_slice, one_eslice, one_nilslice, one_func, one_iface, one_niliface, List.all_cons, List.all_nil, List.length_cons, List.length_nil, Nat.reduceLT, Nat.reduceEqDiff, Nat.reduceLeDiff, Bool.and_true, Nat.one_ne_zero, Nat.succ_ne_zero, reduceIte, if_false, List.getElem?_cons_zero, List.set_cons_zero, List.set_cons_succ]
                  refine callA_of (indexByte_c g _ b) ?_
                  rintro r h2 ⟨rfl, rfl⟩
                  simp only [i4, i13, i14, i15, hia, hc, d0, d1, d2, d3, Bool.true_and, Bool.false_and, Bool.and_true, Bool.and_false, Bool.true_or, Bool.false_or, Bool.or_true, Bool.or_false, go_sem, Hold.p, HoldK.k, HoldL.K, HoldL.body, Nat.reduceBEq, Nat.reduceAdd, List.getElem?_cons_zero, List.getElem?_cons_succ, Option.bind_some, List.map_cons, List.map_nil, Nat.zero_add, if_true, List.getD_cons_zero, List.getD_cons_succ, List.contains_cons, List.contains_nil, Nat.reduceBEq, Bool.or_true, Bool.true_or, Bool.or_false, Bool.false_or, Bool.not_true, Bool.not_false, true_and, and_true, rowA_whole, push_n, set_n, push_obj, set_obj, set_push, set_push_ne, set_set, Nat.add_assoc, Nat.left_eq_add, Nat.add_eq_left, Nat.add_left_cancel_iff, Nat.reduceEqDiff, stO_1s, stO_ws, boxA_s, one_bool, one_int, one_str, one_ptr, one_nilptr, one_slice, one_eslice, one_nilslice, one_func, one_iface, one_niliface, List.all_cons, List.all_nil, List.length_cons, List.length_nil, Nat.reduceLT, Nat.reduceEqDiff, Nat.reduceLeDiff, Bool.and_true, Nat.one_ne_zero, Nat.succ_ne_zero, reduceIte, if_false, List.getElem?_cons_zero, List.set_cons_zero, List.set_cons_succ]
                  rw [idx_plain]
                  unfold plainB
                  simp only [d0, d1, d2, d3, Bool.true_and, Bool.false_and, Bool.and_true, Bool.and_false, Bool.true_or, Bool.false_or, Bool.or_true, Bool.or_false]
                · cases d4 : decide ((b.toNat : Int) ≤ 57)
                  · skip
                    simp only [i4, i13, i14, i15, hia, hc, d0, d1, d2, d3, d4, Bool.true_and, Bool.false_and, Bool.and_true, Bool.and_false, Bool.true_or, Bool.false_or, Bool.or_true, Bool.or_false, go_sem, Hold.p, HoldK.k, HoldL.K, HoldL.body, Nat.reduceBEq, Nat.reduceAdd, List.getElem?_cons_zero, List.getElem?_cons_succ, Option.bind_some, List.map_cons, List.map_nil, Nat.zero_add, if_true, List.getD_cons_zero, List.getD_cons_succ, List.contains_cons, List.contains_nil, Nat.reduceBEq, Bool.or_true, Bool.true_or, Bool.or_false, Bool.false_or, Bool.not_true, Bool.not_false, true_and, and_true, rowA_whole, push_n, set_n, push_obj, set_obj, set_push, set_push_ne, set_set, Nat.add_assoc, Nat.left_eq_add, Nat.add_eq_left, Nat.add_left_cancel_iff, Nat.reduceEqDiff, stO_1s, stO_ws, boxA_s, one_bool, one_int, one_str, one_ptr, one_nilptr, one_slice, one_eslice, one_nilslice, one_func, one_iface, one_niliface, List.all_cons, List.all_nil, List.length_cons, List.length_nil, Nat.reduceLT, Nat.reduceEqDiff, Nat.reduceLeDiff, Bool.and_true, Nat.one_ne_zero, Nat.succ_ne_zero, reduceIte, if_false, List.getElem?_cons_zero, List.set_cons_zero, List.set_cons_succ]
                    refine callA_of (indexByte_c g _ b) ?_
                    rintro r h2 ⟨rfl, rfl⟩
                    simp only [i4, i13, i14, i15, hia, hc, d0, d1, d2, d3, d4, Bool.true_and, Bool.false_and, Bool.and_true, Bool.and_false, Bool.true_or, Bool.false_or, Bool.or_true, Bool.or_false, go_sem, Hold.p, HoldK.k, HoldL.K, HoldL.body, Nat.reduceBEq, Nat.reduceAdd, List.getElem?_cons_zero, List.getElem?_cons_succ, Option.bind_some, List.map_cons, List.map_nil, Nat.zero_add, if_true, List.getD_cons_zero, List.getD_cons_succ, List.contains_cons, List.contains_nil, Nat.reduceBEq, Bool.or_true, Bool.true_or, Bool.or_false, Bool.false_or, Bool.not_true, Bool.not_false, true_and, and_true, rowA_whole, push_n, set_n, push_obj, set_obj, set_push, set_push_ne, set_set, Nat.add_assoc, Nat.left_eq_add, Nat.add_eq_left, Nat.add_left_cancel_iff, Nat.reduceEqDiff, stO_1s, stO_ws, boxA_s, one_bool, one_int, one_str, one_ptr, one_nilptr, one_slice, one_eslice, one_nilslice, one_func, one_iface, one_niliface, List.all_cons, List.all_nil, List.length_cons, List.length_nil, Nat.reduceLT, Nat.reduceEqDiff, Nat.reduceLeDiff, Bool.and_true, Nat.one_ne_zero, Nat.succ_ne_zero, reduceIte, if_false, List.getElem?_cons_zero, List.set_cons_zero, List.set_cons_succ]
                    rw [idx_plain]
                    unfold plainB
                    simp only [d0, d1, d2, d3, d4, Bool.true_and, Bool.false_and, Bool.and_true, Bool.and_false, Bool.true_or, Bool.false_or, Bool.or_true, Bool.or_false]
                  · skip
                    simp only [i4, i13, i14, i15, hia, hc, d0, d1, d2, d3, d4, Bool.true_and, Bool.false_and, Bool.and_true, Bool.and_false, Bool.true_or, Bool.false_or, Bool.or_true, Bool.or_false, go_sem, Hold.p, HoldK.k, HoldL.K, HoldL.body, Nat.reduceBEq, Nat.reduceAdd, List.getElem?_cons_zero, List.getElem?_cons_succ, Option.bind_some, List.map_cons, List.map_nil, Nat.zero_add, if_true, List.getD_cons_zero, List.getD_cons_succ, List.contains_cons, List.contains_nil, Nat.reduceBEq, Bool.or_true, Bool.true_or, Bool.or_false, Bool.false_or, Bool.not_true, Bool.not_false, true_and, and_true, rowA_whole, push_n, set_n, push_obj, set_obj, set_push, set_push_ne, set_set, Nat.add_assoc, Nat.left_eq_add, Nat.add_eq_left, Nat.add_left_cancel_iff, Nat.reduceEqDiff, stO_1s, stO_ws, boxA_s, one_bool, one_int, one_str, one_ptr, one_nilptr, one_slice, one_eslice, one_nilslice, one_func, one_iface, one_niliface, List.all_cons, List.all_nil, List.length_cons, List.length_nil, Nat.reduceLT, Nat.reduceEqDiff, Nat.reduceLeDiff, Bool.and_true, Nat.one_ne_zero, Nat.succ_ne_zero, reduceIte, if_false, List.getElem?_cons_zero, List.set_cons_zero, List.set_cons_succ]
                    unfold plainB
                    simp only [d0, d1, d2, d3, d4, Bool.true_and, Bool.false_and, Bool.and_true, Bool.and_false, Bool.true_or, Bool.false_or, Bool.or_true, Bool.or_false]
              · skip
                simp only [i4, i13, i14, i15, hia, hc, d0, d1, d2, Bool.true_and, Bool.false_and, Bool.and_true, Bool.and_false, Bool.true_or, Bool.false_or, Bool.or_true, Bool.or_false, go_sem, Hold.p, HoldK.k, HoldL.K, HoldL.body, Nat.reduceBEq, Nat.reduceAdd, List.getElem?_cons_zero, List.getElem?_cons_succ, Option.bind_some, List.map_cons, List.map_nil, Nat.zero_add, if_true, List.getD_cons_zero, List.getD_cons_succ, List.contains_cons, List.contains_nil, Nat.reduceBEq, Bool.or_true, Bool.true_or, Bool.or_false, Bool.false_or, Bool.not_true, Bool.not_false, true_and, and_true, rowA_whole, push_n, set_n, push_obj, set_obj, set_push, set_push_ne, set_set, Nat.add_assoc, Nat.left_eq_add, Nat.add_eq_left, Nat.add_left_cancel_iff, Nat.reduceEqDiff, stO_1s, stO_ws, boxA_s, one_bool, one_int, one_str, one_ptr, one_nilptr, one_slice, one_eslice, one_nilslice, one_func, one_iface, one_niliface, List.all_cons, List.all_nil, List.length_cons, List.length_nil, Nat.reduceLT, Nat.reduceEqDiff, Nat.reduceLeDiff, Bool.and_true, Nat.one_ne_zero, Nat.succ_ne_zero, reduceIte, if_false, List.getElem?_cons_zero, List.set_cons_zero, List.set_cons_succ]
                unfold plainB
                simp only [d0, d1, d2, Bool.true_and, Bool.false_and, Bool.and_true, Bool.and_false, Bool.true_or, Bool.false_or, Bool.or_true, Bool.or_false]
          · cases d1 : decide ((b.toNat : Int) ≤ 122)
            · skip
              cases d2 : decide (65 ≤ (b.toNat : Int))
              · skip
                cases d3 : decide (48 ≤ (b.toNat : Int))
                · skip
                  simp only [i4, i13, i14, i15, hia, hc, d0, d1, d2, d3, Bool.true_and, Bool.false_and, Bool.and_true, Bool.and_false, Bool.true_or, Bool.false_or, Bool.or_true, Bool.or_false, go_sem, Hold.p, HoldK.k, HoldL.K, HoldL.body, Nat.reduceBEq, Nat.reduceAdd, List.getElem?_cons_zero, List.getElem?_cons_succ, Option.bind_some, List.map_cons, List.map_nil, Nat.zero_add, if_true, List.getD_cons_zero, List.getD_cons_succ, List.contains_cons, List.contains_nil, Nat.reduceBEq, Bool.or_true, Bool.true_or, Bool.or_false, Bool.false_or, Bool.not_true, Bool.not_false, true_and, and_true, rowA_whole, push_n, set_n, push_obj, set_obj, set_push, set_push_ne, set_set, Nat.add_assoc, Nat.left_eq_add, Nat.add_eq_left, Nat.add_left_cancel_iff, Nat.reduceEqDiff, stO_1s, stO_ws, boxA_s, one_bool, one_int, one_str, one_ptr, one_nilptr, one_slice, one_eslice, one_nilslice, one_func, one_iface, one_niliface, List.all_cons, List.all_nil, List.length_cons, List.length_nil, Nat.reduceLT, Nat.reduceEqDiff, Nat.reduceLeDiff, Bool.and_true, Nat.one_ne_zero, Nat.succ_ne_zero, reduceIte, if_false, List.getElem?_cons_zero, List.set_cons_zero, List.set_cons_succ]
                  refine callA_of (indexByte_c g _ b) ?_
                  rintro r h2 ⟨rfl, rfl⟩
                  simp only [i4, i13, i14, i15, hia, hc, d0, d1, d2, d3, Bool.true_and, Bool.false_and, Bool.and_true, Bool.and_false, Bool.true_or, Bool.false_or, Bool.or_true, Bool.or_false, go_sem, Hold.p, HoldK.k, HoldL.K, HoldL.body, Nat.reduceBEq, Nat.reduceAdd, List.getElem?_cons_zero, List.getElem?_cons_succ, Option.bind_some, List.map_cons, List.map_nil, Nat.zero_add, if_true, List.getD_cons_zero, List.getD_cons_succ, List.contains_cons, List.contains_nil, Nat.reduceBEq, Bool.or_true, Bool.true_or, Bool.or_false, Bool.false_or, Bool.not_true, Bool.not_false, true_and, and_true, rowA_whole, push_n, set_n, push_obj, set_obj, set_push, set_push_ne, set_set, Nat.add_assoc, Nat.left_eq_add, Nat.add_eq_left, Nat.add_left_cancel_iff, Nat.reduceEqDiff, stO_1s, stO_ws, boxA_s, one_bool, one_int, one_str, one_ptr, one_nilptr, one_slice, one_eslice, one_nilslice, one_func, one_iface, one_niliface, List.all_cons, List.all_nil, List.length_cons, List.length_nil, Nat.reduceLT, Nat.reduceEqDiff, Nat.reduceLeDiff, Bool.and_true, Nat.one_ne_zero, Nat.succ_ne_zero, reduceIte, if_false, List.getElem?_cons_zero, List.set_cons_zero, List.set_cons_succ]
                  rw [idx_plain]
                  unfold plainB
                  simp only [d0, d1, d2, d3, Bool.true_and, Bool.false_and, Bool.and_true, Bool.and_false, Bool.true_or, Bool.false_or, Bool.or_true, Bool.or_false]
                · cases d4 : decide ((b.toNat : Int) ≤ 57)
                  · skip
                    simp only [i4, i13, i14, i15, hia, hc, d0, d1, d2, d3, d4, Bool.true_and, Bool.false_and, Bool.and_true, Bool.and_false, Bool.true_or, Bool.false_or, Bool.or_true, Bool.or_false, go_sem, Hold.p, HoldK.k, HoldL.K, HoldL.body, Nat.reduceBEq, Nat.reduceAdd, List.getElem?_cons_zero, List.getElem?_cons_succ, Option.bind_some, List.map_cons, List.map_nil, Nat.zero_add, if_true, List.getD_cons_zero, List.getD_cons_succ, List.contains_cons, List.contains_nil, Nat.reduceBEq, Bool.or_true, Bool.true_or, Bool.or_false, Bool.false_or, Bool.not_true, Bool.not_false, true_and, and_true, rowA_whole, push_n, set_n, push_obj, set_obj, set_push, set_push_ne, set_set, Nat.add_assoc, Nat.left_eq_add, Nat.add_eq_left, Nat.add_left_cancel_iff, Nat.reduceEqDiff, stO_1s, stO_ws, boxA_s, one_bool, one_int, one_str, one_ptr, one_nilptr, one_slice, one_eslice, one_nilslice, one_func, one_iface, one_niliface, List.all_cons, List.all_nil, List.length_cons, List.length_nil, Nat.reduceLT, Nat.reduceEqDiff, Nat.reduceLeDiff, Bool.and_true, Nat.one_ne_zero, Nat.succ_ne_zero, reduceIte, if_false, List.getElem?_cons_zero, List.set_cons_zero, List.set_cons_succ]
                    refine callA_of (indexByte_c g _ b) ?_
                    rintro r h2 ⟨rfl, rfl⟩
                    simp only [i4, i13, i14, i15, hia, hc, d0, d1, d2, d3, d4, Bool.true_and, Bool.false_and, Bool.and_true, Bool.and_false, Bool.true_or, Bool.false_or, Bool.or_true, Bool.or_false, go_sem, Hold.p, HoldK.k, HoldL.K, HoldL.body, Nat.reduceBEq, Nat.reduceAdd, List.getElem?_cons_zero, List.getElem?_cons_succ, Option.bind_some, List.map_cons, List.map_nil, Nat.zero_add, if_true, List.getD_cons_zero, List.getD_cons_succ, List.contains_cons, List.contains_nil, Nat.reduceBEq, Bool.or_true, Bool.true_or, Bool.or_false, Bool.false_or, Bool.not_true, Bool.not_false, true_and, and_true, rowA_whole, push_n, set_n, push_obj, set_obj, set_push, set_push_ne, set_set, Nat.add_assoc, Nat.left_eq_add, Nat.add_eq_left, Nat.add_left_cancel_iff, Nat.reduceEqDiff, stO_1s, stO_ws, boxA_s, one_bool, one_int, one_str, one_ptr, one_nilptr, one_slice, one_eslice, one_nilslice, one_func, one_iface, one_niliface, List.all_cons, List.all_nil, List.length_cons, List.length_nil, Nat.reduceLT, Nat.reduceEqDiff, Nat.reduceLeDiff, Bool.and_true, Nat.one_ne_zero, Nat.succ_ne_zero, reduceIte, if_false, List.getElem?_cons_zero, List.set_cons_zero, List.set_cons_succ]
                    rw [idx_plain]
                    unfold plainB
                    simp only [d0, d1, d2, d3, d4, Bool.true_and, Bool.false_and, Bool.and_true, Bool.and_false, Bool.true_or, Bool.false_or, Bool.or_true, Bool.or_false]
                  · skip
                    simp only [i4, i13, i14, i15, hia, hc, d0, d1, d2, d3, d4, Bool.true_and, Bool.false_and, Bool.and_true, Bool.and_false, Bool.true_or, Bool.false_or, Bool.or_true, Bool.or_false, go_sem, Hold.p, HoldK.k, HoldL.K, HoldL.body, Nat.reduceBEq, Nat.reduceAdd, List.getElem?_cons_zero, List.getElem?_cons_succ, Option.bind_some, List.map_cons, List.map_nil, Nat.zero_add, if_true, List.getD_cons_zero, List.getD_cons_succ, List.contains_cons, List.contains_nil, Nat.reduceBEq, Bool.or_true, Bool.true_or, Bool.or_false, Bool.false_or, Bool.not_true, Bool.not_false, true_and, and_true, rowA_whole, push_n, set_n, push_obj, set_obj, set_push, set_push_ne, set_set, Nat.add_assoc, Nat.left_eq_add, Nat.add_eq_left, Nat.add_left_cancel_iff, Nat.reduceEqDiff, stO_1s, stO_ws, boxA_s, one_bool, one_int, one_str, one_ptr, one_nilptr, one_slice, one_eslice, one_nilslice, one_func, one_iface, one_niliface, List.all_cons, List.all_nil, List.length_cons, List.length_nil, Nat.reduceLT, Nat.reduceEqDiff, Nat.reduceLeDiff, Bool.and_true, Nat.one_ne_zero, Nat.succ_ne_zero, reduceIte, if_false, List.getElem?_cons_zero, List.set_cons_zero, List.set_cons_succ]
                    unfold plainB
                    simp only [d0, d1, d2, d3, d4, Bool.true_and, Bool.false_and, Bool.and_true, Bool.and_false, Bool.true_or, Bool.false_or, Bool.or_true, Bool.or_false]
              · cases d3 : decide ((b.toNat : Int) ≤ 90)
                · skip
                  cases d4 : decide (48 ≤ (b.toNat : Int))
                  · skip
                    simp only [i4, i13, i14, i15, hia, hc, d0, d1, d2, d3, d4, Bool.true_and, Bool.false_and, Bool.and_true, Bool.and_false, Bool.true_or, Bool.false_or, Bool.or_true, Bool.or_false, go_sem, Hold.p, HoldK.k, HoldL.K, HoldL.body, Nat.reduceBEq, Nat.reduceAdd, List.getElem?_cons_zero, List.getElem?_cons_succ, Option.bind_some, List.map_cons, List.map_nil, Nat.zero_add, if_true, List.getD_cons_zero, List.getD_cons_succ, List.contains_cons, List.contains_nil, Nat.reduceBEq, Bool.or_true, Bool.true_or, Bool.or_false, Bool.false_or, Bool.not_true, Bool.not_false, true_and, and_true, rowA_whole, push_n, set_n, push_obj, set_obj, set_push, set_push_ne, set_set, Nat.add_assoc, Nat.left_eq_add, Nat.add_eq_left, Nat.add_left_cancel_iff, Nat.reduceEqDiff, stO_1s, stO_ws, boxA_s, one_bool, one_int, one_str, one_ptr, one_nilptr, one_slice, one_eslice, one_nilslice, one_func, one_iface, one_niliface, List.all_cons, List.all_nil, List.length_cons, List.length_nil, Nat.reduceLT, Nat.reduceEqDiff, Nat.reduceLeDiff, Bool.and_true, Nat.one_ne_zero, Nat.succ_ne_zero, reduceIte, if_false, List.getElem?_cons_zero, List.set_cons_zero, List.set_cons_succ]
                    refine callA_of (indexByte_c g _ b) ?_
                    rintro r h2 ⟨rfl, rfl⟩
                    simp only [i4, i13, i14, i15, hia, hc, d0, d1, d2, d3, d4, Bool.true_and, Bool.false_and, Bool.and_true, Bool.and_false, Bool.true_or, Bool.false_or, Bool.or_true, Bool.or_false, go_sem, Hold.p, HoldK.k, HoldL.K, HoldL.body, Nat.reduceBEq, Nat.reduceAdd, List.getElem?_cons_zero, List.getElem?_cons_succ, Option.bind_some, List.map_cons, List.map_nil, Nat.zero_add, if_true, List.getD_cons_zero, List.getD_cons_succ, List.contains_cons, List.contains_nil, Nat.reduceBEq, Bool.or_true, Bool.true_or, Bool.or_false, Bool.false_or, Bool.not_true, Bool.not_false, true_and, and_true, rowA_whole, push_n, set_n, push_obj, set_obj, set_push, set_push_ne, set_set, Nat.add_assoc, Nat.left_eq_add, Nat.add_eq_left, Nat.add_left_cancel_iff, Nat.reduceEqDiff, stO_1s, stO_ws, boxA_s, one_bool, one_int, one_str, one_ptr, one_nilptr, one_slice, one_eslice, one_nilslice, one_func, one_iface, one_niliface, List.all_cons, List.all_nil, List.length_cons, List.length_nil, Nat.reduceLT, Nat.reduceEqDiff, Nat.reduceLeDiff, Bool.and_true, Nat.one_ne_zero, Nat.succ_ne_zero, reduceIte, if_false, List.getElem?_cons_zero, List.set_cons_zero, List.set_cons_succ]
                    rw [idx_plain]
                    unfold plainB
                    simp only [d0, d1, d2, d3, d4, Bool.true_and, Bool.false_and, Bool.and_true, Bool.and_false, Bool.true_or, Bool.false_or, Bool.or_true, Bool.or_false]
                  · cases d5 : decide ((b.toNat : Int) ≤ 57)
                    · skip
                      simp only [i4, i13, i14, i15, hia, hc, d0, d1, d2, d3, d4, d5, Bool.true_and, Bool.false_and, Bool.and_true, Bool.and_false, Bool.true_or, Bool.false_or, Bool.or_true, Bool.or_false, go_sem, Hold.p, HoldK.k, HoldL.K, HoldL.body, Nat.reduceBEq, Nat.reduceAdd, List.getElem?_cons_zero, List.getElem?_cons_succ, Option.bind_some, List.map_cons, List.map_nil, Nat.zero_add, if_true, List.getD_cons_zero, List.getD_cons_succ, List.contains_cons, List.contains_nil, Nat.reduceBEq, Bool.or_true, Bool.true_or, Bool.or_false, Bool.false_or, Bool.not_true, Bool.not_false, true_and, and_true, rowA_whole, push_n, set_n, push_obj, set_obj, set_push, set_push_ne, set_set, Nat.add_assoc, Nat.left_eq_add, Nat.add_eq_left, Nat.add_left_cancel_iff, Nat.reduceEqDiff, stO_1s, stO_ws, boxA_s, one_bool, one_int, one_str, one_ptr, one_nilptr, one_slice, one_eslice, one_nilslice, one_func, one_iface, one_niliface, List.all_cons, List.all_nil, List.length_cons, List.length_nil, Nat.reduceLT, Nat.reduceEqDiff, Nat.reduceLeDiff, Bool.and_true, Nat.one_ne_zero, Nat.succ_ne_zero, reduceIte, if_false, List.getElem?_cons_zero, List.set_cons_zero, List.set_cons_succ]
                      refine callA_of (indexByte_c g _ b) ?_
                      rintro r h2 ⟨rfl, rfl⟩
                      simp only [i4, i13, i14, i15, hia, hc, d0, d1, d2, d3, d4, d5, Bool.true_and, Bool.false_and, Bool.and_true, Bool.and_false, Bool.true_or, Bool.false_or, Bool.or_true, Bool.or_false, go_sem, Hold.p, HoldK.k, HoldL.K, HoldL.body, Nat.reduceBEq, Nat.reduceAdd, List.getElem?_cons_zero, List.getElem?_cons_succ, Option.bind_some, List.map_cons, List.map_nil, Nat.zero_add, if_true, List.getD_cons_zero, List.getD_cons_succ, List.contains_cons, List.contains_nil, Nat.reduceBEq, Bool.or_true, Bool.true_or, Bool.or_false, Bool.false_or, Bool.not_true, Bool.not_false, true_and, and_true, rowA_whole, push_n, set_n, push_obj, set_obj, set_push, set_push_ne, set_set, Nat.add_assoc, Nat.left_eq_add, Nat.add_eq_left, Nat.add_left_cancel_iff, Nat.reduceEqDiff, stO_1s, stO_ws, boxA_s, one_bool, one_int, one_str, one_ptr, one_nilptr, one_slice, one_eslice, one_nilslice, one_func, one_iface, one_niliface, List.all_cons, List.all_nil, List.length_cons, List.length_nil, Nat.reduceLT, Nat.reduceEqDiff, Nat.reduceLeDiff, Bool.and_true, Nat.one_ne_zero, Nat.succ_ne_zero, reduceIte, if_false, List.getElem?_cons_zero, List.set_cons_zero, List.set_cons_succ]
                      rw [idx_plain]
                      unfold plainB
                      simp only [d0, d1, d2, d3, d4, d5, Bool.true_and, Bool.false_and, Bool.and_true, Bool.and_false, Bool.true_or, Bool.false_or, Bool.or_true, Bool.or_false]
                    · skip
                      simp only [i4, i13, i14, i15, hia, hc, d0, d1, d2, d3, d4, d5, Bool.true_and, Bool.false_and, Bool.and_true, Bool.and_false, Bool.true_or, Bool.false_or, Bool.or_true, Bool.or_false, go_sem, Hold.p, HoldK.k, HoldL.K, HoldL.body, Nat.reduceBEq, Nat.reduceAdd, List.getElem?_cons_zero, List.getElem?_cons_succ, Option.bind_some, List.map_cons, List.map_nil, Nat.zero_add, if_true, List.getD_cons_zero, List.getD_cons_succ, List.contains_cons, List.contains_nil, Nat.reduceBEq, Bool.or_true, Bool.true_or, Bool.or_false, Bool.false_or, Bool.not_true, Bool.not_false, true_and, and_true, rowA_whole, push_n, set_n, push_obj, set_obj, set_push, set_push_ne, set_set, Nat.add_assoc, Nat.left_eq_add, Nat.add_eq_left, Nat.add_left_cancel_iff, Nat.reduceEqDiff, stO_1s, stO_ws, boxA_s, one_bool, one_int, one_str, one_ptr, one_nilptr, one_slice, one_eslice, one_nilslice, one_func, one_iface, one_niliface, List.all_cons, List.all_nil, List.length_cons, List.length_nil, Nat.reduceLT, Nat.reduceEqDiff, Nat.reduceLeDiff, Bool.and_true, Nat.one_ne_zero, Nat.succ_ne_zero, reduceIte, if_false, List.getElem?_cons_zero, List.set_cons_zero, List.set_cons_succ]
                      unfold plainB
                      simp only [d0, d1, d2, d3, d4, d5, Bool.true_and, Bool.false_and, Bool.and_true, Bool.and_false, Bool.true_or, Bool.false_or, Bool.or_true, Bool.or_false]
                · skip
                  simp only [i4, i13, i14, i15, hia, hc, d0, d1, d2, d3, Bool.true_and, Bool.false_and, Bool.and_true, Bool.and_false, Bool.true_or, Bool.false_or, Bool.or_true, Bool.or_false, go_sem, Hold.p, HoldK.k, HoldL.K, HoldL.body, Nat.reduceBEq, Nat.reduceAdd, List.getElem?_cons_zero, List.getElem?_cons_succ, Option.bind_some, List.map_cons, List.map_nil, Nat.zero_add, if_true, List.getD_cons_zero, List.getD_cons_succ, List.contains_cons, List.contains_nil, Nat.reduceBEq, Bool.or_true, Bool.true_or, Bool.or_false, Bool.false_or, Bool.not_true, Bool.not_false, true_and, and_true, rowA_whole, push_n, set_n, push_obj, set_obj, set_push, set_push_ne, set_set, Nat.add_assoc, Nat.left_eq_add, Nat.add_eq_left, Nat.add_left_cancel_iff, Nat.reduceEqDiff, stO_1s, stO_ws, boxA_s, one_bool, one_int, one_str, one_ptr, one_nilptr, one_slice, one_eslice, one_nilslice, one_func, one_iface, one_niliface, List.all_cons, List.all_nil, List.length_cons, List.length_nil, Nat.reduceLT, Nat.reduceEqDiff, Nat.reduceLeDiff, Bool.and_true, Nat.one_ne_zero, Nat.succ_ne_zero, reduceIte, if_false, List.getElem?_cons_zero, List.set_cons_zero, List.set_cons_succ]
                  unfold plainB
                  simp only [d0, d1, d2, d3, Bool.true_and, Bool.false_and, Bool.and_true, Bool.and_false, Bool.true_or, Bool.false_or, Bool.or_true, Bool.or_false]
            · skip
              simp only [i4, i13, i14, i15, hia, hc, d0, d1, Bool.true_and, Bool.false_and, Bool.and_true, Bool.and_false, Bool.true_or, Bool.false_or, Bool.or_true, Bool.or_false, go_sem, Hold.p, HoldK.k, HoldL.K, HoldL.body, Nat.reduceBEq, Nat.reduceAdd, List.getElem?_cons_zero, List.getElem?_cons_succ, Option.bind_some, List.map_cons, List.map_nil, Nat.zero_add, if_true, List.getD_cons_zero, List.getD_cons_succ, List.contains_cons, List.contains_nil, Nat.reduceBEq, Bool.or_true, Bool.true_or, Bool.or_false, Bool.false_or, Bool.not_true, Bool.not_false, true_and, and_true, rowA_whole, push_n, set_n, push_obj, set_obj, set_push, set_push_ne, set_set, Nat.add_assoc, Nat.left_eq_add, Nat.add_eq_left, Nat.add_left_cancel_iff, Nat.reduceEqDiff, stO_1s, stO_ws, boxA_s, one_bool, one_int, one_str, one_ptr, one_nilptr, one_slice, one_eslice, one_nilslice, one_func, one_iface, one_niliface, List.all_cons, List.all_nil, List.length_cons, List.length_nil, Nat.reduceLT, Nat.reduceEqDiff, Nat.reduceLeDiff, Bool.and_true, Nat.one_ne_zero, Nat.succ_ne_zero, reduceIte, if_false, List.getElem?_cons_zero, List.set_cons_zero, List.set_cons_succ]
              unfold plainB
              simp only [d0, d1, Bool.true_and, Bool.false_and, Bool.and_true, Bool.and_false, Bool.true_or, Bool.false_or, Bool.or_true, Bool.or_false]
        · rintro e' g' ⟨i4, i6, i13, i14, i15, i45, rfl⟩
          cases hp : plainB b
          · rw [hp] at i45
            have hb := b.toNat_lt
            have x1 := idxS_at (q := .u8) (hexS_at (k := b.toNat / 16) (by omega))
            have x2 := idxS_at (q := .u8) (hexS_at (k := b.toNat % 16) (by omega))
            unfold hexS at x1 x2
            simp only [i4, i6, i13, i14, i15, i45, shr4, and15, x1, x2, go_sem, Hold.p, HoldK.k, HoldL.K, HoldL.body, Nat.reduceBEq, Nat.reduceAdd, List.getElem?_cons_zero, List.getElem?_cons_succ, Option.bind_some, List.map_cons, List.map_nil, Nat.zero_add, if_true, List.getD_cons_zero, List.getD_cons_succ, List.contains_cons, List.contains_nil, Nat.reduceBEq, Bool.or_true, Bool.true_or, Bool.or_false, Bool.false_or, Bool.not_true, Bool.not_false, true_and, and_true, rowA_whole, push_n, set_n, push_obj, set_obj, set_push, set_push_ne, set_set, Nat.add_assoc, Nat.left_eq_add, Nat.add_eq_left, Nat.add_left_cancel_iff, Nat.reduceEqDiff, stO_1s, stO_ws, boxA_s, one_bool, one_int, one_str, one_ptr, one_nilptr, one_slice, one_eslice, one_nilslice, one_func, one_iface, one_niliface, List.all_cons, List.all_nil, List.length_cons, List.length_nil, Nat.reduceLT, Nat.reduceEqDiff, Nat.reduceLeDiff, Bool.and_true, Nat.one_ne_zero, Nat.succ_ne_zero, reduceIte, if_false, List.getElem?_cons_zero, List.set_cons_zero, List.set_cons_succ]
            rw [bslA_3 rfl rfl rfl]
            have hpl : h.n < g'.n := by obtain ⟨_, _, hb, _⟩ := B.box; exact hb.lt
            have hne : ([37, hexD (b.toNat / 16), hexD (b.toNat % 16)] : List UInt8) ≠ [] := by simp
            simp only [go_sem, Hold.p, HoldK.k, HoldL.K, HoldL.body, Nat.reduceBEq, Nat.reduceAdd, List.getElem?_cons_zero, List.getElem?_cons_succ, Option.bind_some, List.map_cons, List.map_nil, Nat.zero_add, if_true, List.getD_cons_zero, List.getD_cons_succ, List.contains_cons, List.contains_nil, Nat.reduceBEq, Bool.or_true, Bool.true_or, Bool.or_false, Bool.false_or, Bool.not_true, Bool.not_false, true_and, and_true, rowA_whole, push_n, set_n, push_obj, set_obj, set_push, set_push_ne, set_set, Nat.add_assoc, Nat.left_eq_add, Nat.add_eq_left, Nat.add_left_cancel_iff, Nat.reduceEqDiff, stO_1s, stO_ws, boxA_s, one_bool, one_int, one_str, one_ptr, one_nilptr, one_slice, one_eslice, one_nilslice, one_func, one_iface, one_niliface, List.all_cons, List.all_nil, List.length_cons, List.length_nil, Nat.reduceLT, Nat.reduceEqDiff, Nat.reduceLeDiff, Bool.and_true, Nat.one_ne_zero, Nat.succ_ne_zero, reduceIte, if_false, List.getElem?_cons_zero, List.set_cons_zero, List.set_cons_succ]
            generalize hq_g2 : IH.push g' (IObj.rows [[.int .u8 37], [.int .u8 (hexD (b.toNat / 16)).toNat], [.int .u8 (hexD (b.toNat % 16)).toNat]] 5 1 false) = g2
            have e_g2 : Ext g' g2 := by rw [← hq_g2]; exact (Ext.refl _).push _
            have l_g2 : g2.n = g'.n + 1 := by rw [← hq_g2]; rfl
            have ba : At g2 g'.n (IObj.rows [[.int .u8 37], [.int .u8 (hexD (b.toNat / 16)).toNat], [.int .u8 (hexD (b.toNat % 16)).toNat]] 5 1 false) := by rw [← hq_g2]; exact At.new _ _
            clear hq_g2
            have B := B.ext e_g2
            have E := E.ext e_g2
            have ow : Own g'.n (g'.n + 1) g2 5 1 (.slice g'.n 0 3) (strRows [37, hexD (b.toNat / 16), hexD (b.toNat % 16)]) := Own.mk (by simp [strRows]) (Nat.le_refl _) (by omega) (by omega) ba.eq
            simp only [i4, go_sem, Hold.p, HoldK.k, HoldL.K, HoldL.body, Nat.reduceBEq, Nat.reduceAdd, List.getElem?_cons_zero, List.getElem?_cons_succ, Option.bind_some, List.map_cons, List.map_nil, Nat.zero_add, if_true, List.getD_cons_zero, List.getD_cons_succ, List.contains_cons, List.contains_nil, Nat.reduceBEq, Bool.or_true, Bool.true_or, Bool.or_false, Bool.false_or, Bool.not_true, Bool.not_false, true_and, and_true, rowA_whole, push_n, set_n, push_obj, set_obj, set_push, set_push_ne, set_set, Nat.add_assoc, Nat.left_eq_add, Nat.add_eq_left, Nat.add_left_cancel_iff, Nat.reduceEqDiff, stO_1s, stO_ws, boxA_s, one_bool, one_int, one_str, one_ptr, one_nilptr, one_slice, one_eslice, one_nilslice, one_func, one_iface, one_niliface, List.all_cons, List.all_nil, List.length_cons, List.length_nil, Nat.reduceLT, Nat.reduceEqDiff, Nat.reduceLeDiff, Bool.and_true, Nat.one_ne_zero, Nat.succ_ne_zero, reduceIte, if_false, List.getElem?_cons_zero, List.set_cons_zero, List.set_cons_succ]
            refine callA_of (w_c E B (Nat.le_refl _) hlo (by omega) (by omega) hne (by simp) ow (by omega) (by omega) (by omega)) ?_
            rintro r h3 ⟨rfl, lo3, hi3, B3, E3, hlo3, hhi3⟩
            simp only [i4, i6, i13, i14, i15, go_sem, Hold.p, HoldK.k, HoldL.K, HoldL.body, Nat.reduceBEq, Nat.reduceAdd, List.getElem?_cons_zero, List.getElem?_cons_succ, Option.bind_some, List.map_cons, List.map_nil, Nat.zero_add, if_true, List.getD_cons_zero, List.getD_cons_succ, List.contains_cons, List.contains_nil, Nat.reduceBEq, Bool.or_true, Bool.true_or, Bool.or_false, Bool.false_or, Bool.not_true, Bool.not_false, true_and, and_true, rowA_whole, push_n, set_n, push_obj, set_obj, set_push, set_push_ne, set_set, Nat.add_assoc, Nat.left_eq_add, Nat.add_eq_left, Nat.add_left_cancel_iff, Nat.reduceEqDiff, stO_1s, stO_ws, boxA_s, one_bool, one_int, one_str, one_ptr, one_nilptr, one_slice, one_eslice, one_nilslice, one_func, one_iface, one_niliface, List.all_cons, List.all_nil, List.length_cons, List.length_nil, Nat.reduceLT, Nat.reduceEqDiff, Nat.reduceLeDiff, Bool.and_true, Nat.one_ne_zero, Nat.succ_ne_zero, reduceIte, if_false, List.getElem?_cons_zero, List.set_cons_zero, List.set_cons_succ]
            refine ⟨lo3, hi3, E3, ?_, hlo3, hhi3⟩
            rw [flat_snoc hkp]
            have hx : escB b = [37, hexD (b.toNat / 16), hexD (b.toNat % 16)] := by unfold escB; rw [hp]; rfl
            rw [hx]; exact B3
          · rw [hp] at i45
            simp only [i4, i6, i13, i14, i15, i45, go_sem, Hold.p, HoldK.k, HoldL.K, HoldL.body, Nat.reduceBEq, Nat.reduceAdd, List.getElem?_cons_zero, List.getElem?_cons_succ, Option.bind_some, List.map_cons, List.map_nil, Nat.zero_add, if_true, List.getD_cons_zero, List.getD_cons_succ, List.contains_cons, List.contains_nil, Nat.reduceBEq, Bool.or_true, Bool.true_or, Bool.or_false, Bool.false_or, Bool.not_true, Bool.not_false, true_and, and_true, rowA_whole, push_n, set_n, push_obj, set_obj, set_push, set_push_ne, set_set, Nat.add_assoc, Nat.left_eq_add, Nat.add_eq_left, Nat.add_left_cancel_iff, Nat.reduceEqDiff, stO_1s, stO_ws, boxA_s, one_bool, one_int, one_str, one_ptr, one_nilptr, one_slice, one_eslice, one_nilslice, one_func, one_iface, one_niliface, List.all_cons, List.all_nil, List.length_cons, List.length_nil, Nat.reduceLT, Nat.reduceEqDiff, Nat.reduceLeDiff, Bool.and_true, Nat.one_ne_zero, Nat.succ_ne_zero, reduceIte, if_false, List.getElem?_cons_zero, List.set_cons_zero, List.set_cons_succ]
            refine callA_of (wb_c E B (Nat.le_refl _) hlo hhi (by omega) b) ?_
            rintro r h3 ⟨rfl, lo3, hi3, B3, E3, hlo3, hhi3⟩
            simp only [i4, i6, i13, i14, i15, go_sem, Hold.p, HoldK.k, HoldL.K, HoldL.body, Nat.reduceBEq, Nat.reduceAdd, List.getElem?_cons_zero, List.getElem?_cons_succ, Option.bind_some, List.map_cons, List.map_nil, Nat.zero_add, if_true, List.getD_cons_zero, List.getD_cons_succ, List.contains_cons, List.contains_nil, Nat.reduceBEq, Bool.or_true, Bool.true_or, Bool.or_false, Bool.false_or, Bool.not_true, Bool.not_false, true_and, and_true, rowA_whole, push_n, set_n, push_obj, set_obj, set_push, set_push_ne, set_set, Nat.add_assoc, Nat.left_eq_add, Nat.add_eq_left, Nat.add_left_cancel_iff, Nat.reduceEqDiff, stO_1s, stO_ws, boxA_s, one_bool, one_int, one_str, one_ptr, one_nilptr, one_slice, one_eslice, one_nilslice, one_func, one_iface, one_niliface, List.all_cons, List.all_nil, List.length_cons, List.length_nil, Nat.reduceLT, Nat.reduceEqDiff, Nat.reduceLeDiff, Bool.and_true, Nat.one_ne_zero, Nat.succ_ne_zero, reduceIte, if_false, List.getElem?_cons_zero, List.set_cons_zero, List.set_cons_succ]
            refine ⟨lo3, hi3, E3, ?_, hlo3, hhi3⟩
            rw [flat_snoc hkp]
            have hx : escB b = [b] := by unfold escB; rw [hp]; rfl
            rw [hx]; exact B3
      · rintro e' g' ⟨lo, hi, i4, i13, i14, i15, E, B, hlo, hhi⟩
        simp only [i4, i13, i14, i15, go_sem, Hold.p, HoldK.k, HoldL.K, HoldL.body, Nat.reduceBEq, Nat.reduceAdd, List.getElem?_cons_zero, List.getElem?_cons_succ, Option.bind_some, List.map_cons, List.map_nil, Nat.zero_add, if_true, List.getD_cons_zero, List.getD_cons_succ, List.contains_cons, List.contains_nil, Nat.reduceBEq, Bool.or_true, Bool.true_or, Bool.or_false, Bool.false_or, Bool.not_true, Bool.not_false, true_and, and_true, rowA_whole, push_n, set_n, push_obj, set_obj, set_push, set_push_ne, set_set, Nat.add_assoc, Nat.left_eq_add, Nat.add_eq_left, Nat.add_left_cancel_iff, Nat.reduceEqDiff, stO_1s, stO_ws, boxA_s, one_bool, one_int, one_str, one_ptr, one_nilptr, one_slice, one_eslice, one_nilslice, one_func, one_iface, one_niliface, List.all_cons, List.all_nil, List.length_cons, List.length_nil, Nat.reduceLT, Nat.reduceEqDiff, Nat.reduceLeDiff, Bool.and_true, Nat.one_ne_zero, Nat.succ_ne_zero, reduceIte, if_false, List.getElem?_cons_zero, List.set_cons_zero, List.set_cons_succ]
        exact ⟨_, by omega, lo, hi, k + 1, rfl, by omega, wr64_succ k (by omega), E, B, hlo, hhi⟩
    · obtain rfl : k = bs.length := by omega
      rw [List.take_length] at B
      simp only [i4, go_sem, Hold.p, HoldK.k, HoldL.K, HoldL.body, Nat.reduceBEq, Nat.reduceAdd, List.getElem?_cons_zero, List.getElem?_cons_succ, Option.bind_some, List.map_cons, List.map_nil, Nat.zero_add, if_true, List.getD_cons_zero, List.getD_cons_succ, List.contains_cons, List.contains_nil, Nat.reduceBEq, Bool.or_true, Bool.true_or, Bool.or_false, Bool.false_or, Bool.not_true, Bool.not_false, true_and, and_true, rowA_whole, push_n, set_n, push_obj, set_obj, set_push, set_push_ne, set_set, Nat.add_assoc, Nat.left_eq_add, Nat.add_eq_left, Nat.add_left_cancel_iff, Nat.reduceEqDiff, stO_1s, stO_ws, boxA_s, one_bool, one_int, one_str, one_ptr, one_nilptr, one_slice, one_eslice, one_nilslice, one_func, one_iface, one_niliface, List.all_cons, List.all_nil, List.length_cons, List.length_nil, Nat.reduceLT, Nat.reduceEqDiff, Nat.reduceLeDiff, Bool.and_true, Nat.one_ne_zero, Nat.succ_ne_zero, reduceIte, if_false, List.getElem?_cons_zero, List.set_cons_zero, List.set_cons_succ]
      have hf2 := flat_esc_len bs
      refine callA_of (bs_c E B (Nat.le_refl _) hlo (by omega)) ?_
      rintro r h3 ⟨rfl, E3⟩
      simp only [go_sem, Hold.p, HoldK.k, HoldL.K, HoldL.body, Nat.reduceBEq, Nat.reduceAdd, List.getElem?_cons_zero, List.getElem?_cons_succ, Option.bind_some, List.map_cons, List.map_nil, Nat.zero_add, if_true, List.getD_cons_zero, List.getD_cons_succ, List.contains_cons, List.contains_nil, Nat.reduceBEq, Bool.or_true, Bool.true_or, Bool.or_false, Bool.false_or, Bool.not_true, Bool.not_false, true_and, and_true, rowA_whole, push_n, set_n, push_obj, set_obj, set_push, set_push_ne, set_set, Nat.add_assoc, Nat.left_eq_add, Nat.add_eq_left, Nat.add_left_cancel_iff, Nat.reduceEqDiff, stO_1s, stO_ws, boxA_s, one_bool, one_int, one_str, one_ptr, one_nilptr, one_slice, one_eslice, one_nilslice, one_func, one_iface, one_niliface, List.all_cons, List.all_nil, List.length_cons, List.length_nil, Nat.reduceLT, Nat.reduceEqDiff, Nat.reduceLeDiff, Bool.and_true, Nat.one_ne_zero, Nat.succ_ne_zero, reduceIte, if_false, List.getElem?_cons_zero, List.set_cons_zero, List.set_cons_succ]
      exact E3
end Go.Proofs.Ytecljenjlncfhaa

namespace Go.Proofs.Ytecljenjlncfhaa
open Go Go.IW

theorem prs3_ok : parsOf Try.prog Try.f3.params.toList = some [(.slice (.int .u8), false)] := by kernel_rfl
theorem prs4_ok : parsOf Try.prog Try.f4.params.toList = some [(.str, false)] := by kernel_rfl
set_option maxRecDepth 20000 in
theorem lawShowData : LawTrue Try.prog 3 [(.slice (.int .u8), false)] := by
  rintro h ivs ha ⟨iv, r, rfl, ⟨v, rs, hv, hs, hm, hf⟩, rfl⟩
  obtain rfl := (List.cons.inj hv).1.symm
  obtain ⟨bs, rfl⟩ := fits_bytes hf
  refine icalls (.of ok3) (Nat.le_of_ble_eq_true rfl) ?_
  unfold c3
  have hlen := hs.lenF
  rw [strRows_len] at hlen hm
  by_cases hbig : (1048576 : Int) < bs.length
  · have hn : decide ((1048576 : Int) < bs.length) = true := decide_eq_true hbig
    simp only [hlen, hn, go_sem, Hold.p, HoldK.k, HoldL.K, HoldL.body, Nat.reduceBEq, Nat.reduceAdd, List.getElem?_cons_zero, List.getElem?_cons_succ, Option.bind_some, List.map_cons, List.map_nil, Nat.zero_add, if_true, List.getD_cons_zero, List.getD_cons_succ, List.contains_cons, List.contains_nil, Nat.reduceBEq, Bool.or_true, Bool.true_or, Bool.or_false, Bool.false_or, Bool.not_true, Bool.not_false, true_and, and_true, rowA_whole, push_n, set_n, push_obj, set_obj, set_push, set_push_ne, set_set, Nat.add_assoc, Nat.left_eq_add, Nat.add_eq_left, Nat.add_left_cancel_iff, Nat.reduceEqDiff, stO_1s, stO_ws, boxA_s, one_bool, one_int, one_str, one_ptr, one_nilptr, one_slice, one_eslice, one_nilslice, one_func, one_iface, one_niliface, List.all_cons, List.all_nil, List.length_cons, List.length_nil, Nat.reduceLT, Nat.reduceEqDiff, Nat.reduceLeDiff, Bool.and_true, Nat.one_ne_zero, Nat.succ_ne_zero, reduceIte, if_false, List.getElem?_cons_zero, List.set_cons_zero, List.set_cons_succ]
  have hn : decide ((1048576 : Int) < bs.length) = false := decide_eq_false hbig
  have hl : bs.length ≤ 1048576 := by omega
  simp only [hlen, hn, go_sem, Hold.p, HoldK.k, HoldL.K, HoldL.body, Nat.reduceBEq, Nat.reduceAdd, List.getElem?_cons_zero, List.getElem?_cons_succ, Option.bind_some, List.map_cons, List.map_nil, Nat.zero_add, if_true, List.getD_cons_zero, List.getD_cons_succ, List.contains_cons, List.contains_nil, Nat.reduceBEq, Bool.or_true, Bool.true_or, Bool.or_false, Bool.false_or, Bool.not_true, Bool.not_false, true_and, and_true, rowA_whole, push_n, set_n, push_obj, set_obj, set_push, set_push_ne, set_set, Nat.add_assoc, Nat.left_eq_add, Nat.add_eq_left, Nat.add_left_cancel_iff, Nat.reduceEqDiff, stO_1s, stO_ws, boxA_s, one_bool, one_int, one_str, one_ptr, one_nilptr, one_slice, one_eslice, one_nilslice, one_func, one_iface, one_niliface, List.all_cons, List.all_nil, List.length_cons, List.length_nil, Nat.reduceLT, Nat.reduceEqDiff, Nat.reduceLeDiff, Bool.and_true, Nat.one_ne_zero, Nat.succ_ne_zero, reduceIte, if_false, List.getElem?_cons_zero, List.set_cons_zero, List.set_cons_succ]
  refine callA_of (toByteS_c _ v bs hs hl) ?_
  rintro r h1 ⟨o1, E1⟩
  have hs := hs.ext E1
  have le_E1 := E1.le
  simp only [go_sem, Hold.p, HoldK.k, HoldL.K, HoldL.body, Nat.reduceBEq, Nat.reduceAdd, List.getElem?_cons_zero, List.getElem?_cons_succ, Option.bind_some, List.map_cons, List.map_nil, Nat.zero_add, if_true, List.getD_cons_zero, List.getD_cons_succ, List.contains_cons, List.contains_nil, Nat.reduceBEq, Bool.or_true, Bool.true_or, Bool.or_false, Bool.false_or, Bool.not_true, Bool.not_false, true_and, and_true, rowA_whole, push_n, set_n, push_obj, set_obj, set_push, set_push_ne, set_set, Nat.add_assoc, Nat.left_eq_add, Nat.add_eq_left, Nat.add_left_cancel_iff, Nat.reduceEqDiff, stO_1s, stO_ws, boxA_s, one_bool, one_int, one_str, one_ptr, one_nilptr, one_slice, one_eslice, one_nilslice, one_func, one_iface, one_niliface, List.all_cons, List.all_nil, List.length_cons, List.length_nil, Nat.reduceLT, Nat.reduceEqDiff, Nat.reduceLeDiff, Bool.and_true, Nat.one_ne_zero, Nat.succ_ne_zero, reduceIte, if_false, List.getElem?_cons_zero, List.set_cons_zero, List.set_cons_succ]
  refine callA_of (specShowData_c _ _ bs o1.sl hl) ?_
  rintro r2 h2 ⟨rfl, E2⟩
  have hs := hs.ext E2
  have le_E2 := E2.le
  simp only [go_sem, Hold.p, HoldK.k, HoldL.K, HoldL.body, Nat.reduceBEq, Nat.reduceAdd, List.getElem?_cons_zero, List.getElem?_cons_succ, Option.bind_some, List.map_cons, List.map_nil, Nat.zero_add, if_true, List.getD_cons_zero, List.getD_cons_succ, List.contains_cons, List.contains_nil, Nat.reduceBEq, Bool.or_true, Bool.true_or, Bool.or_false, Bool.false_or, Bool.not_true, Bool.not_false, true_and, and_true, rowA_whole, push_n, set_n, push_obj, set_obj, set_push, set_push_ne, set_set, Nat.add_assoc, Nat.left_eq_add, Nat.add_eq_left, Nat.add_left_cancel_iff, Nat.reduceEqDiff, stO_1s, stO_ws, boxA_s, one_bool, one_int, one_str, one_ptr, one_nilptr, one_slice, one_eslice, one_nilslice, one_func, one_iface, one_niliface, List.all_cons, List.all_nil, List.length_cons, List.length_nil, Nat.reduceLT, Nat.reduceEqDiff, Nat.reduceLeDiff, Bool.and_true, Nat.one_ne_zero, Nat.succ_ne_zero, reduceIte, if_false, List.getElem?_cons_zero, List.set_cons_zero, List.set_cons_succ]
  refine callA_of (toByteS_c _ v bs hs hl) ?_
  rintro x h3 ⟨o3, E3⟩
  have hs := hs.ext E3
  have le_E3 := E3.le
  simp only [go_sem, Hold.p, HoldK.k, HoldL.K, HoldL.body, Nat.reduceBEq, Nat.reduceAdd, List.getElem?_cons_zero, List.getElem?_cons_succ, Option.bind_some, List.map_cons, List.map_nil, Nat.zero_add, if_true, List.getD_cons_zero, List.getD_cons_succ, List.contains_cons, List.contains_nil, Nat.reduceBEq, Bool.or_true, Bool.true_or, Bool.or_false, Bool.false_or, Bool.not_true, Bool.not_false, true_and, and_true, rowA_whole, push_n, set_n, push_obj, set_obj, set_push, set_push_ne, set_set, Nat.add_assoc, Nat.left_eq_add, Nat.add_eq_left, Nat.add_left_cancel_iff, Nat.reduceEqDiff, stO_1s, stO_ws, boxA_s, one_bool, one_int, one_str, one_ptr, one_nilptr, one_slice, one_eslice, one_nilslice, one_func, one_iface, one_niliface, List.all_cons, List.all_nil, List.length_cons, List.length_nil, Nat.reduceLT, Nat.reduceEqDiff, Nat.reduceLeDiff, Bool.and_true, Nat.one_ne_zero, Nat.succ_ne_zero, reduceIte, if_false, List.getElem?_cons_zero, List.set_cons_zero, List.set_cons_succ]
  refine callA_of (implShowData_c _ _ bs o3.sl hl) ?_
  rintro r4 h4 ⟨rfl, E4⟩
  have hs := hs.ext E4
  have o3 := o3.ext E4
  have le_E4 := E4.le
  simp only [decide_true, go_sem, Hold.p, HoldK.k, HoldL.K, HoldL.body, Nat.reduceBEq, Nat.reduceAdd, List.getElem?_cons_zero, List.getElem?_cons_succ, Option.bind_some, List.map_cons, List.map_nil, Nat.zero_add, if_true, List.getD_cons_zero, List.getD_cons_succ, List.contains_cons, List.contains_nil, Nat.reduceBEq, Bool.or_true, Bool.true_or, Bool.or_false, Bool.false_or, Bool.not_true, Bool.not_false, true_and, and_true, rowA_whole, push_n, set_n, push_obj, set_obj, set_push, set_push_ne, set_set, Nat.add_assoc, Nat.left_eq_add, Nat.add_eq_left, Nat.add_left_cancel_iff, Nat.reduceEqDiff, stO_1s, stO_ws, boxA_s, one_bool, one_int, one_str, one_ptr, one_nilptr, one_slice, one_eslice, one_nilslice, one_func, one_iface, one_niliface, List.all_cons, List.all_nil, List.length_cons, List.length_nil, Nat.reduceLT, Nat.reduceEqDiff, Nat.reduceLeDiff, Bool.and_true, Nat.one_ne_zero, Nat.succ_ne_zero, reduceIte, if_false, List.getElem?_cons_zero, List.set_cons_zero, List.set_cons_succ]
  refine callA_of (toByteS_c _ v bs hs hl) ?_
  rintro y h5 ⟨o5, E5⟩
  have o3 := o3.ext E5
  have le_E5 := E5.le
  simp only [go_sem, Hold.p, HoldK.k, HoldL.K, HoldL.body, Nat.reduceBEq, Nat.reduceAdd, List.getElem?_cons_zero, List.getElem?_cons_succ, Option.bind_some, List.map_cons, List.map_nil, Nat.zero_add, if_true, List.getD_cons_zero, List.getD_cons_succ, List.contains_cons, List.contains_nil, Nat.reduceBEq, Bool.or_true, Bool.true_or, Bool.or_false, Bool.false_or, Bool.not_true, Bool.not_false, true_and, and_true, rowA_whole, push_n, set_n, push_obj, set_obj, set_push, set_push_ne, set_set, Nat.add_assoc, Nat.left_eq_add, Nat.add_eq_left, Nat.add_left_cancel_iff, Nat.reduceEqDiff, stO_1s, stO_ws, boxA_s, one_bool, one_int, one_str, one_ptr, one_nilptr, one_slice, one_eslice, one_nilslice, one_func, one_iface, one_niliface, List.all_cons, List.all_nil, List.length_cons, List.length_nil, Nat.reduceLT, Nat.reduceEqDiff, Nat.reduceLeDiff, Bool.and_true, Nat.one_ne_zero, Nat.succ_ne_zero, reduceIte, if_false, List.getElem?_cons_zero, List.set_cons_zero, List.set_cons_succ]
  refine callA_of (eqByteS_c _ _ _ bs o3.sl o5.sl (by omega)) ?_
  rintro r6 h6 ⟨rfl, rfl⟩
  simp only [go_sem, Hold.p, HoldK.k, HoldL.K, HoldL.body, Nat.reduceBEq, Nat.reduceAdd, List.getElem?_cons_zero, List.getElem?_cons_succ, Option.bind_some, List.map_cons, List.map_nil, Nat.zero_add, if_true, List.getD_cons_zero, List.getD_cons_succ, List.contains_cons, List.contains_nil, Nat.reduceBEq, Bool.or_true, Bool.true_or, Bool.or_false, Bool.false_or, Bool.not_true, Bool.not_false, true_and, and_true, rowA_whole, push_n, set_n, push_obj, set_obj, set_push, set_push_ne, set_set, Nat.add_assoc, Nat.left_eq_add, Nat.add_eq_left, Nat.add_left_cancel_iff, Nat.reduceEqDiff, stO_1s, stO_ws, boxA_s, one_bool, one_int, one_str, one_ptr, one_nilptr, one_slice, one_eslice, one_nilslice, one_func, one_iface, one_niliface, List.all_cons, List.all_nil, List.length_cons, List.length_nil, Nat.reduceLT, Nat.reduceEqDiff, Nat.reduceLeDiff, Bool.and_true, Nat.one_ne_zero, Nat.succ_ne_zero, reduceIte, if_false, List.getElem?_cons_zero, List.set_cons_zero, List.set_cons_succ]
end Go.Proofs.Ytecljenjlncfhaa

namespace Go.Proofs.Ytecljenjlncfhaa
open Go Go.IW

def BytesRes (h h' : IH) (r : IV) (x : List UInt8 × Int) : Prop := ∃ v, r = .tuple [v, .int .i64 x.2] ∧ Own h.n h'.n h' 5 1 v (strRows x.1) ∧ Ext h h'

def hexV (c : UInt8) : Int := if 48 ≤ (c.toNat : Int) ∧ (c.toNat : Int) ≤ 57 then (c.toNat : Int) - 48 else if 97 ≤ (c.toNat : Int) ∧ (c.toNat : Int) ≤ 102 then (c.toNat : Int) - 97 + 10 else if 65 ≤ (c.toNat : Int) ∧ (c.toNat : Int) ≤ 70 then (c.toNat : Int) - 65 + 10 else -1
/-- The bytes of a word, if each escape can be read. -/
def unE (g : UInt8 → UInt8 → Option UInt8) : List UInt8 → Option (List UInt8)
  | [] => some []
  | c :: r => if c ≠ 37 then (unE g r).map (c :: ·) else
    match r with
    | a :: b :: r' => match g a b with
      | some x => (unE g r').map (x :: ·)
      | none => none
    | _ => none
termination_by l => l.length
def gS (a b : UInt8) : Option UInt8 := some (UInt8.ofNat ((hexV a * 16 + hexV b) % 256).toNat)
def gI (a b : UInt8) : Option UInt8 := if Lib.indexByte hexS a < 0 ∨ Lib.indexByte hexS b < 0 then none else some (UInt8.ofNat ((Lib.indexByte hexS a * 16 + Lib.indexByte hexS b) % 256).toNat)
def readD (t : List UInt8) : List UInt8 × Int :=
  if t = [61] then ([], 0) else match unE gI t with
    | some bs => if showD bs = (t, 0) then (bs, 0) else ([], 6)
    | none => ([], 6)
theorem unE_plain {g : UInt8 → UInt8 → Option UInt8} {c : UInt8} (r : List UInt8) (hc : c ≠ 37) : unE g (c :: r) = (unE g r).map (c :: ·) := by
  rw [unE.eq_def]; simp only [if_pos hc]
theorem unE_two {g : UInt8 → UInt8 → Option UInt8} (a b : UInt8) (r : List UInt8) : unE g (37 :: a :: b :: r) = (match g a b with | some x => (unE g r).map (x :: ·) | none => none) := by
  rw [unE.eq_def]; simp only [ne_eq, not_true_eq_false, if_false]
theorem unE_few {g : UInt8 → UInt8 → Option UInt8} (r : List UInt8) (hr : r.length ≤ 1) : unE g (37 :: r) = none := by
  rw [unE.eq_def]
  match r, hr with
  | [], _ => simp
  | [x], _ => simp
theorem gS_hex (x : UInt8) : gS (hexD (x.toNat / 16)) (hexD (x.toNat % 16)) = some x := by
  have key : ∀ n : Fin 256, gS (hexD (n.val / 16)) (hexD (n.val % 16)) = some (UInt8.ofNat n.val) := by decide +kernel
  have := key ⟨x.toNat, x.toNat_lt⟩
  simpa using this
theorem gI_hex (x : UInt8) : gI (hexD (x.toNat / 16)) (hexD (x.toNat % 16)) = some x := by
  have key : ∀ n : Fin 256, gI (hexD (n.val / 16)) (hexD (n.val % 16)) = some (UInt8.ofNat n.val) := by decide +kernel
  have := key ⟨x.toNat, x.toNat_lt⟩
  simpa using this
theorem plain_ne {x : UInt8} (h : plainB x = true) : x ≠ 37 := by
  rintro rfl; revert h; decide
theorem unE_esc {g : UInt8 → UInt8 → Option UInt8} (hg : ∀ x : UInt8, g (hexD (x.toNat / 16)) (hexD (x.toNat % 16)) = some x) : ∀ bs : List UInt8, unE g (bs.flatMap escB) = some bs
  | [] => by simp [unE]
  | b :: bs => by
    have ih := unE_esc hg bs
    rw [List.flatMap_cons]
    cases hp : plainB b
    · have e : escB b = [37, hexD (b.toNat / 16), hexD (b.toNat % 16)] := by unfold escB hex2; rw [hp]; rfl
      rw [e]
      simp only [List.cons_append, List.nil_append, unE_two, hg, ih, Option.map_some]
    · have e : escB b = [b] := by unfold escB; rw [hp]; rfl
      rw [e, List.singleton_append, unE_plain _ (plain_ne hp), ih]; rfl
theorem showD_ok {bs t : List UInt8} (h : showD bs = (t, 0)) (ht : t ≠ [61]) : bs ≠ [] ∧ bs.length ≤ 60000 ∧ t = bs.flatMap escB := by
  unfold showD at h
  split at h
  · simp at h
  · split at h
    · rename_i h1 h2
      simp at h; exact absurd h.symm ht
    · rename_i h1 h2
      simp at h
      exact ⟨h2, by omega, h.symm⟩
/-- The answer, however the bytes were read. -/
theorem readD_of {t bs : List UInt8} (ht : t ≠ [61]) (h : showD bs = (t, 0)) : readD t = (bs, 0) := by
  obtain ⟨_, _, e⟩ := showD_ok h ht
  unfold readD
  rw [if_neg ht]
  have := unE_esc gI_hex bs
  rw [← e] at this
  rw [this]
  simp only [h, if_true]
theorem readD_bad {t : List UInt8} (ht : t ≠ [61]) (h : ∀ bs, showD bs ≠ (t, 0)) : readD t = ([], 6) := by
  unfold readD
  rw [if_neg ht]
  split
  · rename_i bs _
    rw [if_neg (h bs)]
  · rfl
/-- A loop that reads: what is told so far, what follows. -/
def Told (g : UInt8 → UInt8 → Option UInt8) (t out : List UInt8) (k : Nat) : Prop := unE g t = (unE g (t.drop k)).map (out ++ ·)
theorem Told.zero (g : UInt8 → UInt8 → Option UInt8) (t : List UInt8) : Told g t [] 0 := by
  unfold Told; simp
theorem Told.plain {g : UInt8 → UInt8 → Option UInt8} {t out : List UInt8} {k : Nat} {c : UInt8} (h : Told g t out k) (hk : t[k]? = some c) (hc : c ≠ 37) : Told g t (out ++ [c]) (k + 1) := by
  unfold Told at h ⊢
  obtain ⟨hlt, e⟩ := List.getElem?_eq_some_iff.1 hk
  rw [h, List.drop_eq_getElem_cons hlt, e, unE_plain _ hc, Option.map_map]
  congr 1
  funext x; simp
theorem drop3 {t : List UInt8} {k : Nat} {c a b : UInt8} (hk : t[k]? = some c) (ha : t[k + 1]? = some a) (hb : t[k + 2]? = some b) : t.drop k = c :: a :: b :: t.drop (k + 3) := by
  obtain ⟨h0, e0⟩ := List.getElem?_eq_some_iff.1 hk
  obtain ⟨h1, e1⟩ := List.getElem?_eq_some_iff.1 ha
  obtain ⟨h2, e2⟩ := List.getElem?_eq_some_iff.1 hb
  rw [List.drop_eq_getElem_cons h0, List.drop_eq_getElem_cons h1, List.drop_eq_getElem_cons h2, e0, e1, e2]
theorem Told.esc {g : UInt8 → UInt8 → Option UInt8} {t out : List UInt8} {k : Nat} {a b x : UInt8} (h : Told g t out k) (hk : t[k]? = some 37) (ha : t[k + 1]? = some a) (hb : t[k + 2]? = some b) (hx : g a b = some x) : Told g t (out ++ [x]) (k + 3) := by
  unfold Told at h ⊢
  rw [h, drop3 hk ha hb, unE_two]
  simp only [hx, Option.map_map]
  congr 1
  funext x; simp
theorem Told.bad {g : UInt8 → UInt8 → Option UInt8} {t out : List UInt8} {k : Nat} {a b : UInt8} (h : Told g t out k) (hk : t[k]? = some 37) (ha : t[k + 1]? = some a) (hb : t[k + 2]? = some b) (hx : g a b = none) : unE g t = none := by
  unfold Told at h
  rw [h, drop3 hk ha hb, unE_two]
  simp only [hx, Option.map_none]
theorem Told.short {g : UInt8 → UInt8 → Option UInt8} {t out : List UInt8} {k : Nat} (h : Told g t out k) (hk : t[k]? = some 37) (hl : t.length ≤ k + 2) : unE g t = none := by
  unfold Told at h
  obtain ⟨h0, e0⟩ := List.getElem?_eq_some_iff.1 hk
  rw [h, List.drop_eq_getElem_cons h0, e0, unE_few _ (by simp; omega)]; rfl
theorem Told.done {g : UInt8 → UInt8 → Option UInt8} {t out : List UInt8} {k : Nat} (h : Told g t out k) (hk : t.length ≤ k) : unE g t = some out := by
  unfold Told at h
  rw [h, List.drop_eq_nil_of_le hk]
  simp [unE]
theorem Told.long {g : UInt8 → UInt8 → Option UInt8} (hg : ∀ x : UInt8, g (hexD (x.toNat / 16)) (hexD (x.toNat % 16)) = some x) {t out : List UInt8} {k : Nat} (h : Told g t out k) (ht : t ≠ [61]) (hl : 60000 < out.length) : readD t = ([], 6) := by
  refine readD_bad ht fun bs hb => ?_
  obtain ⟨_, h1, e⟩ := showD_ok hb ht
  have := unE_esc hg bs
  rw [← e, show unE g t = _ from h] at this
  rw [Option.map_eq_some_iff] at this
  obtain ⟨x, _, e2⟩ := this
  have : bs.length = out.length + x.length := by rw [← e2, List.length_append]
  omega
theorem unE_none {g : UInt8 → UInt8 → Option UInt8} (hg : ∀ x : UInt8, g (hexD (x.toNat / 16)) (hexD (x.toNat % 16)) = some x) {t : List UInt8} (ht : t ≠ [61]) (h : unE g t = none) : readD t = ([], 6) := by
  refine readD_bad ht fun bs hb => ?_
  obtain ⟨_, h1, e⟩ := showD_ok hb ht
  have := unE_esc hg bs
  rw [← e, h] at this
  cases this
theorem unE_some {g : UInt8 → UInt8 → Option UInt8} (hg : ∀ x : UInt8, g (hexD (x.toNat / 16)) (hexD (x.toNat % 16)) = some x) {t out : List UInt8} (ht : t ≠ [61]) (h : unE g t = some out) (hne : showD out ≠ (t, 0)) : readD t = ([], 6) := by
  refine readD_bad ht fun bs hb => ?_
  obtain ⟨_, h1, e⟩ := showD_ok hb ht
  have := unE_esc hg bs
  rw [← e, h] at this
  exact hne (Option.some.inj this ▸ hb)
theorem hexS_idx (a : UInt8) : Lib.indexByte hexS a = -1 ∨ ∃ n : Nat, n < 16 ∧ Lib.indexByte hexS a = n := by
  have key : ∀ n : Fin 256, Lib.indexByte hexS (UInt8.ofNat n.val) = -1 ∨ ∃ m : Fin 16, Lib.indexByte hexS (UInt8.ofNat n.val) = (m.val : Int) := by decide +kernel
  have := key ⟨a.toNat, a.toNat_lt⟩
  simp at this
  rcases this with h | ⟨m, h⟩
  · exact .inl h
  · exact .inr ⟨m.val, m.isLt, h⟩
theorem or16 {a b : Nat} (ha : a < 16) (hb : b < 16) : IW.bits .or .i64 ((16 * a : Nat) : Int) (b : Int) = ((a * 16 + b : Nat) : Int) := by
  have key : ∀ a b : Fin 16, IW.bits .or .i64 ((16 * a.val : Nat) : Int) (b.val : Int) = ((a.val * 16 + b.val : Nat) : Int) := by decide +kernel
  exact key ⟨a, ha⟩ ⟨b, hb⟩
theorem shl4 {a : Nat} (ha : a < 16) : ibin .shl (.int .i64 (a : Int)) (.int .u64 4) = some (.int .i64 ((16 * a : Nat) : Int)) := by
  have key : ∀ a : Fin 16, wr .i64 ((a.val : Int) * 2 ^ 4) = ((16 * a.val : Nat) : Int) := by decide +kernel
  have h := ib_shl (k := .i64) (a := (a : Int)) (b := 4) .u64 (by decide)
  have hm : min (4 : Int).toNat IntKind.i64.bits = 4 := rfl
  rw [hm, key ⟨a, ha⟩] at h
  exact h
theorem hexV_rng (c : UInt8) : -1 ≤ hexV c ∧ hexV c < 16 := by
  have := c.toNat_lt
  unfold hexV
  repeat' split
  all_goals omega
end Go.Proofs.Ytecljenjlncfhaa
