import Derived.Test.YtjmmmmdpkfpojaaK2
import Derived.Test.YtjmmmmdpkfpojaaProg
import Derived.KernelRfl
import Derived.Test.YtjmmmmdpkfpojaaK3
set_option linter.unusedSimpArgs false
set_option linter.unusedVariables false
namespace Go.Proofs.Ytjmmmmdpkfpojaa
open Go Go.IW
/-- loop.example/g00003/spec.RunReasm -/
def c8 : CC :=
 (.seq (.reg [
   ⟨(some 2), none, .f (.mv (.c .nilslice))⟩,
   ⟨(some 3), none, .f (.mv (.c (.int .i64 0)))⟩])
 (.seq (.seq (.reg [
   ⟨(some 10), none, .f (.mv (.t 0))⟩,
   ⟨(some 11), none, .f (.len (.t 10))⟩,
   ⟨(some 12), none, .f (.bin .gtr (.t 11) (.c (.int .i64 2000)))⟩])
 (.cond (.t 12)
  (.seq (.reg [
    ⟨(some 2), none, .f (.mv (.c .nilslice))⟩,
    ⟨(some 3), none, .f (.mv (.c (.int .i64 8)))⟩])
  .ret)
  .skip))
 (.seq (.reg [
   ⟨(some 13), none, .f (.build [(.int .i64 0), .nilslice, (.int .i64 0), (.bool false), (.int .i64 0), (.int .i64 0), (.bool false), (.bool false), (.int .i64 0), (.int .i64 0), (.int .i64 0), (.int .i64 0), (.int .i64 0), .nilslice, .nilslice, .nilslice, (.int .i64 0), (.int .i64 0)] [])⟩,
   ⟨(some 4), none, .x (.zero 65 18 [(.int .i64 0), .nilslice, (.int .i64 0), (.bool false), (.int .i64 0), (.int .i64 0), (.bool false), (.bool false), (.int .i64 0), (.int .i64 0), (.int .i64 0), (.int .i64 0), (.int .i64 0), .nilslice, .nilslice, .nilslice, (.int .i64 0), (.int .i64 0)])⟩,
   ⟨none, none, .x (.st 18 (.t 4) (.t 13))⟩])
 (.seq (.reg [
   ⟨(some 14), none, .x (.bslice 52 16 [(.int .i64 0), (.bool false), (.int .i64 0), (.int .i64 0), (.bool false), (.bool false), (.int .i64 0), (.int .i64 0), (.int .i64 0), (.int .i64 0), (.int .i64 0), .nilslice, .nilslice, .nilslice, (.int .i64 0), (.int .i64 0)] 0 [])⟩,
   ⟨(some 5), none, .f (.mv (.t 14))⟩])
 (.seq (.seq (.reg [
   ⟨(some 6), none, .f (.mv (.c (.int .i64 0)))⟩])
 (.block 0 (.loop (.seq (.seq (.reg [
     ⟨(some 15), none, .f (.mv (.t 6))⟩,
     ⟨(some 16), none, .f (.mv (.t 0))⟩,
     ⟨(some 17), none, .f (.len (.t 16))⟩,
     ⟨(some 18), none, .f (.bin .lss (.t 15) (.t 17))⟩])
   (.cond (.t 18)
    .skip
    (.exit 0)))
   (.seq (.block 1 (.seq (.reg [
      ⟨(some 21), none, .f (.mv (.t 0))⟩,
      ⟨(some 22), none, .f (.mv (.t 6))⟩,
      ⟨(some 23), none, .f (.iadr 13 (.t 21) (.t 22))⟩,
      ⟨(some 24), none, .f (.ldA 13 (.t 23))⟩,
      ⟨(some 7), none, .x (.zero 58 13 [(.int .i64 0), (.int .i64 0), (.int .i64 0), (.int .i64 0), (.bool false), (.bool false), (.int .i64 0), (.int .i64 0), (.int .i64 0), (.int .i64 0), (.int .i64 0), .nilslice, .nilslice])⟩,
      ⟨none, none, .x (.st 13 (.t 7) (.t 24))⟩])
    (.seq (.reg [
      ⟨(some 25), none, .f (.build [(.int .i64 0), (.bool false), (.int .i64 0), (.int .i64 0), (.bool false), (.bool false), (.int .i64 0), (.int .i64 0), (.int .i64 0), (.int .i64 0), (.int .i64 0), .nilslice, .nilslice, .nilslice, (.int .i64 0), (.int .i64 0)] [])⟩,
      ⟨(some 26), none, .f (.fadr 2 (.t 4))⟩,
      ⟨none, none, .x (.st 16 (.t 26) (.t 25))⟩])
    (.seq (.reg [
      ⟨(some 28), none, .f (.fadr 2 (.t 7))⟩,
      ⟨(some 29), none, .f (.ldA 11 (.t 28))⟩,
      ⟨(some 30), none, .x (.call 27 [(.t 29)])⟩,
      ⟨(some 27), none, .f (.mv (.t 30))⟩,
      ⟨(some 31), none, .f (.ext 0 (.t 27))⟩,
      ⟨(some 32), none, .f (.ext 1 (.t 27))⟩,
      ⟨(some 8), none, .f (.mv (.t 31))⟩,
      ⟨(some 9), none, .f (.mv (.t 32))⟩])
    (.seq (.block 2 (.seq (.reg [
       ⟨(some 36), none, .f (.fadr 0 (.t 7))⟩,
       ⟨(some 37), none, .f (.ld (.t 36))⟩,
       ⟨(some 38), none, .f (.bin .eql (.t 37) (.c (.int .i64 1)))⟩,
       ⟨(some 39), none, .f (.mv (.t 38))⟩,
       ⟨(some 40), (some (39, true)), .f (.mv (.t 9))⟩,
       ⟨(some 41), (some (39, true)), .f (.bin .eql (.t 40) (.c (.int .i64 0)))⟩,
       ⟨(some 42), none, .f (.pick (.t 39) (.t 41) (.c (.bool false)))⟩,
       ⟨(some 35), none, .f (.mv (.t 42))⟩])
     (.cond (.t 35)
      (.reg [
        ⟨(some 43), none, .f (.fadr 2 (.t 7))⟩,
        ⟨(some 44), none, .f (.ldA 11 (.t 43))⟩,
        ⟨(some 45), none, .x (.call 28 [(.t 4), (.t 44)])⟩])
      (.seq (.reg [
        ⟨(some 47), none, .f (.fadr 0 (.t 7))⟩,
        ⟨(some 48), none, .f (.ld (.t 47))⟩,
        ⟨(some 49), none, .f (.bin .eql (.t 48) (.c (.int .i64 2)))⟩,
        ⟨(some 50), none, .f (.mv (.t 49))⟩,
        ⟨(some 51), (some (50, true)), .f (.fadr 1 (.t 7))⟩,
        ⟨(some 52), (some (50, true)), .f (.ld (.t 51))⟩,
        ⟨(some 53), (some (50, true)), .f (.bin .geq (.t 52) (.c (.int .i64 0)))⟩,
        ⟨(some 54), none, .f (.pick (.t 50) (.t 53) (.c (.bool false)))⟩,
        ⟨(some 55), none, .f (.mv (.t 54))⟩,
        ⟨(some 56), (some (55, true)), .f (.fadr 1 (.t 7))⟩,
        ⟨(some 57), (some (55, true)), .f (.ld (.t 56))⟩,
        ⟨(some 58), (some (55, true)), .f (.fadr 0 (.t 4))⟩,
        ⟨(some 59), (some (55, true)), .f (.ld (.t 58))⟩,
        ⟨(some 60), (some (55, true)), .f (.bin .sub (.c (.int .i64 1000000000)) (.t 59))⟩,
        ⟨(some 61), (some (55, true)), .f (.bin .leq (.t 57) (.t 60))⟩,
        ⟨(some 62), none, .f (.pick (.t 55) (.t 61) (.c (.bool false)))⟩,
        ⟨(some 46), none, .f (.mv (.t 62))⟩])
      (.cond (.t 46)
       (.reg [
         ⟨(some 63), none, .f (.fadr 1 (.t 7))⟩,
         ⟨(some 64), none, .f (.ld (.t 63))⟩,
         ⟨(some 65), none, .x (.call 29 [(.t 4), (.t 64)])⟩])
       (.reg [
         ⟨(some 33), none, .f (.fadr 2 (.t 4))⟩,
         ⟨(some 34), none, .f (.fadr 0 (.t 33))⟩,
         ⟨none, none, .x (.st 1 (.t 34) (.c (.int .i64 1)))⟩]))))))
    (.reg [
      ⟨(some 66), none, .f (.mv (.t 5))⟩,
      ⟨(some 67), none, .x (.call 30 [(.t 4)])⟩,
      ⟨(some 68), none, .x (.bslice 52 16 [(.int .i64 0), (.bool false), (.int .i64 0), (.int .i64 0), (.bool false), (.bool false), (.int .i64 0), (.int .i64 0), (.int .i64 0), (.int .i64 0), (.int .i64 0), .nilslice, .nilslice, .nilslice, (.int .i64 0), (.int .i64 0)] 1 [(0, (.t 67))])⟩,
      ⟨(some 69), none, .x (.app 52 16 168 (.t 66) (.t 68))⟩,
      ⟨(some 5), none, .f (.mv (.t 69))⟩]))))))
   (.reg [
     ⟨(some 19), none, .f (.mv (.t 6))⟩,
     ⟨(some 20), none, .f (.bin .add (.t 19) (.c (.int .i64 1)))⟩,
     ⟨(some 6), none, .f (.mv (.t 20))⟩]))))))
 (.seq (.reg [
   ⟨(some 70), none, .f (.mv (.t 5))⟩,
   ⟨(some 2), none, .f (.mv (.t 70))⟩,
   ⟨(some 3), none, .f (.mv (.c (.int .i64 0)))⟩])
 .ret))))))
/-- loop.example/g00003/impl.RunReasm -/
def c10 : CC :=
 (.seq (.reg [
   ⟨(some 2), none, .f (.mv (.c .nilslice))⟩,
   ⟨(some 3), none, .f (.mv (.c (.int .i64 0)))⟩])
 (.seq (.seq (.reg [
   ⟨(some 8), none, .f (.mv (.t 0))⟩,
   ⟨(some 9), none, .f (.len (.t 8))⟩,
   ⟨(some 10), none, .f (.bin .gtr (.t 9) (.c (.int .i64 2000)))⟩])
 (.cond (.t 10)
  (.seq (.reg [
    ⟨(some 2), none, .f (.mv (.c .nilslice))⟩,
    ⟨(some 3), none, .f (.mv (.c (.int .i64 8)))⟩])
  .ret)
  .skip))
 (.seq (.reg [
   ⟨(some 11), none, .f (.build [(.int .i64 0), .nilslice] [])⟩,
   ⟨(some 12), none, .x (.box 76 2 (.t 11))⟩,
   ⟨(some 4), none, .f (.mv (.t 12))⟩])
 (.seq (.reg [
   ⟨(some 5), none, .f (.mv (.c .nilslice))⟩])
 (.seq (.seq (.reg [
   ⟨(some 13), none, .f (.mv (.t 0))⟩,
   ⟨(some 14), none, .f (.len (.t 13))⟩,
   ⟨(some 15), none, .f (.mv (.c (.int .i64 0)))⟩])
 (.block 0 (.loop (.seq (.reg [
     ⟨(some 16), none, .f (.bin .lss (.t 15) (.t 14))⟩])
   (.seq (.cond (.t 16)
    .skip
    (.exit 0))
   (.seq (.block 1 (.seq (.reg [
      ⟨(some 17), none, .f (.iadr 13 (.t 13) (.t 15))⟩,
      ⟨(some 18), none, .f (.ldA 13 (.t 17))⟩,
      ⟨(some 7), none, .x (.zero 58 13 [(.int .i64 0), (.int .i64 0), (.int .i64 0), (.int .i64 0), (.bool false), (.bool false), (.int .i64 0), (.int .i64 0), (.int .i64 0), (.int .i64 0), (.int .i64 0), .nilslice, .nilslice])⟩,
      ⟨none, none, .x (.st 13 (.t 7) (.t 18))⟩])
    (.reg [
      ⟨(some 19), none, .f (.mv (.t 5))⟩,
      ⟨(some 20), none, .f (.mv (.t 4))⟩,
      ⟨(some 21), none, .f (.ldA 13 (.t 7))⟩,
      ⟨(some 22), none, .x (.call 32 [(.t 20), (.t 21)])⟩,
      ⟨(some 23), none, .x (.bslice 52 16 [(.int .i64 0), (.bool false), (.int .i64 0), (.int .i64 0), (.bool false), (.bool false), (.int .i64 0), (.int .i64 0), (.int .i64 0), (.int .i64 0), (.int .i64 0), .nilslice, .nilslice, .nilslice, (.int .i64 0), (.int .i64 0)] 1 [(0, (.t 22))])⟩,
      ⟨(some 24), none, .x (.app 52 16 168 (.t 19) (.t 23))⟩,
      ⟨(some 5), none, .f (.mv (.t 24))⟩])))
   (.reg [
     ⟨(some 25), none, .f (.bin .add (.t 15) (.c (.int .i64 1)))⟩,
     ⟨(some 15), none, .f (.mv (.t 25))⟩])))))))
 (.seq (.reg [
   ⟨(some 26), none, .f (.mv (.t 5))⟩,
   ⟨(some 2), none, .f (.mv (.t 26))⟩,
   ⟨(some 3), none, .f (.mv (.c (.int .i64 0)))⟩])
 .ret))))))
theorem ok10 : fnComp Try.prog 10 = some (27, c10, [(.mv (.t 2)), (.mv (.t 3))]) := by kernel_rfl

/-- loop.example/g00003/laws.lwBegin -/
def c16 : CC :=
 (.seq (.reg [
   ⟨(some 4), none, .x (.zero 37 3 [.nilslice, (.int .i64 0), (.int .u64 0)])⟩])
 (.seq (.reg [
   ⟨(some 7), none, .f (.mv (.t 0))⟩,
   ⟨(some 8), none, .f (.mv (.t 1))⟩,
   ⟨(some 9), none, .f (.bin .mul (.t 8) (.c (.int .u64 977)))⟩,
   ⟨(some 10), none, .f (.bin .add (.c (.int .u64 88172645463325252)) (.t 9))⟩,
   ⟨(some 11), none, .f (.build [.nilslice, (.int .i64 0), (.int .u64 0)] [(0, 1, (.t 7)), (2, 1, (.t 10))])⟩,
   ⟨(some 5), none, .x (.zero 37 3 [.nilslice, (.int .i64 0), (.int .u64 0)])⟩,
   ⟨none, none, .x (.st 3 (.t 5) (.t 11))⟩])
 (.seq (.seq (.reg [
   ⟨(some 6), none, .f (.mv (.c (.int .i64 0)))⟩])
 (.block 0 (.loop (.seq (.seq (.reg [
     ⟨(some 12), none, .f (.mv (.t 6))⟩,
     ⟨(some 13), none, .f (.mv (.t 0))⟩,
     ⟨(some 14), none, .f (.len (.t 13))⟩,
     ⟨(some 15), none, .f (.bin .lss (.t 12) (.t 14))⟩])
   (.cond (.t 15)
    .skip
    (.exit 0)))
   (.seq (.block 1 (.dreg [
      ⟨(some 18), none, .f (.fadr 2 (.t 5))⟩,
      ⟨(some 19), none, .f (.ld (.t 18))⟩,
      ⟨(some 20), none, .f (.mv (.t 0))⟩,
      ⟨(some 21), none, .f (.mv (.t 6))⟩,
      ⟨(some 22), none, .f (.iadr 1 (.t 20) (.t 21))⟩,
      ⟨(some 23), none, .f (.ld (.t 22))⟩,
      ⟨(some 24), none, .f (.cvI .u64 (.t 23))⟩,
      ⟨(some 25), none, .f (.bin .xor (.t 19) (.t 24))⟩,
      ⟨(some 26), none, .f (.bin .mul (.t 25) (.c (.int .u64 1099511628211)))⟩,
      ⟨(some 27), none, .f (.fadr 2 (.t 5))⟩,
      ⟨none, none, .x (.st 1 (.t 27) (.t 26))⟩]
      [false, false, false, false, false, false, false, false, false, false, true] [[], [0], [], [], [2, 3], [4, 2, 3], [5, 4, 2, 3], [1, 0, 6, 5, 4, 2, 3], [7, 1, 0, 6, 5, 4, 2, 3], [0, 1, 2, 3, 4, 5, 6, 7, 8], [9, 0, 1, 2, 3, 4, 5, 6, 7, 8]] [0, 1, 2, 3, 4, 5, 6, 7, 8, 9, 10]))
   (.reg [
     ⟨(some 16), none, .f (.mv (.t 6))⟩,
     ⟨(some 17), none, .f (.bin .add (.t 16) (.c (.int .i64 1)))⟩,
     ⟨(some 6), none, .f (.mv (.t 17))⟩]))))))
 (.seq (.reg [
   ⟨(some 28), none, .f (.ldA 3 (.t 5))⟩,
   ⟨none, none, .x (.st 3 (.t 4) (.t 28))⟩])
 .ret))))
theorem ok16 : fnComp Try.prog 16 = some (29, c16, [(.ldA 3 (.t 4))]) := by kernel_rfl

/-- loop.example/g00003/laws.lwNext -/
def c17 : CC :=
 (.seq (.reg [
   ⟨(some 4), none, .f (.mv (.c (.int .i64 0)))⟩])
 (.seq (.seq (.reg [
   ⟨(some 6), none, .f (.mv (.t 1))⟩,
   ⟨(some 7), none, .f (.bin .leq (.t 6) (.c (.int .i64 0)))⟩])
 (.cond (.t 7)
  (.seq (.reg [
    ⟨(some 4), none, .f (.mv (.c (.int .i64 0)))⟩])
  .ret)
  .skip))
 (.seq (.reg [
   ⟨(some 8), none, .f (.mv (.t 0))⟩,
   ⟨(some 9), none, .f (.mv (.t 0))⟩,
   ⟨(some 10), none, .f (.nck (.t 9))⟩,
   ⟨(some 11), none, .f (.fadr 2 (.t 10))⟩,
   ⟨(some 12), none, .f (.ld (.t 11))⟩,
   ⟨(some 13), none, .f (.bin .mul (.t 12) (.c (.int .u64 6364136223846793005)))⟩,
   ⟨(some 14), none, .f (.bin .add (.t 13) (.c (.int .u64 1442695040888963407)))⟩,
   ⟨(some 15), none, .f (.nck (.t 8))⟩,
   ⟨(some 16), none, .f (.fadr 2 (.t 15))⟩,
   ⟨none, none, .x (.st 1 (.t 16) (.t 14))⟩])
 (.seq (.reg [
   ⟨(some 17), none, .f (.mv (.t 0))⟩,
   ⟨(some 18), none, .f (.nck (.t 17))⟩,
   ⟨(some 19), none, .f (.fadr 2 (.t 18))⟩,
   ⟨(some 20), none, .f (.ld (.t 19))⟩,
   ⟨(some 21), none, .f (.bin .shr (.t 20) (.c (.int .u64 33)))⟩,
   ⟨(some 5), none, .f (.mv (.t 21))⟩])
 (.seq (.seq (.dreg [
   ⟨(some 22), none, .f (.mv (.t 0))⟩,
   ⟨(some 23), none, .f (.nck (.t 22))⟩,
   ⟨(some 24), none, .f (.fadr 1 (.t 23))⟩,
   ⟨(some 25), none, .f (.ld (.t 24))⟩,
   ⟨(some 26), none, .f (.mv (.t 0))⟩,
   ⟨(some 27), none, .f (.nck (.t 26))⟩,
   ⟨(some 28), none, .f (.fadr 0 (.t 27))⟩,
   ⟨(some 29), none, .f (.ld (.t 28))⟩,
   ⟨(some 30), none, .f (.len (.t 29))⟩,
   ⟨(some 31), none, .f (.bin .lss (.t 25) (.t 30))⟩]
   [false, false, false, false, false, false, false, false, false, false] [[], [0], [1, 0], [2, 1, 0], [], [4], [5, 4], [6, 5, 4], [7, 6, 5, 4], [3, 2, 1, 0, 8, 7, 6, 5, 4]] [0, 1, 2, 3, 4, 5, 6, 7, 8, 9])
 (.cond (.t 31)
  (.seq (.dreg [
    ⟨(some 32), none, .f (.mv (.t 5))⟩,
    ⟨(some 33), none, .f (.mv (.t 0))⟩,
    ⟨(some 34), none, .f (.nck (.t 33))⟩,
    ⟨(some 35), none, .f (.fadr 0 (.t 34))⟩,
    ⟨(some 36), none, .f (.ld (.t 35))⟩,
    ⟨(some 37), none, .f (.mv (.t 0))⟩,
    ⟨(some 38), none, .f (.nck (.t 37))⟩,
    ⟨(some 39), none, .f (.fadr 1 (.t 38))⟩,
    ⟨(some 40), none, .f (.ld (.t 39))⟩,
    ⟨(some 41), none, .f (.iadr 1 (.t 36) (.t 40))⟩,
    ⟨(some 42), none, .f (.ld (.t 41))⟩,
    ⟨(some 43), none, .f (.cvI .u64 (.t 42))⟩,
    ⟨(some 44), none, .f (.bin .xor (.t 32) (.t 43))⟩,
    ⟨(some 5), none, .f (.mv (.t 44))⟩]
    [false, false, false, false, false, false, false, false, false, false, false, false, false, true] [[], [], [1], [2, 1], [3, 2, 1], [], [5], [6, 5], [7, 6, 5], [4, 3, 2, 1, 8, 7, 6, 5], [9, 4, 3, 2, 1, 8, 7, 6, 5], [10, 9, 4, 3, 2, 1, 8, 7, 6, 5], [0, 11, 10, 9, 4, 3, 2, 1, 8, 7, 6, 5], [12, 0, 11, 10, 9, 4, 3, 2, 1, 8, 7, 6, 5]] [0, 1, 2, 3, 4, 5, 6, 7, 8, 9, 10, 11, 12, 13])
  (.reg [
    ⟨(some 45), none, .f (.mv (.t 0))⟩,
    ⟨(some 46), none, .f (.nck (.t 45))⟩,
    ⟨(some 47), none, .f (.fadr 1 (.t 46))⟩,
    ⟨(some 48), none, .f (.ld (.t 47))⟩,
    ⟨(some 49), none, .f (.bin .add (.t 48) (.c (.int .i64 1)))⟩,
    ⟨(some 50), none, .f (.nck (.t 45))⟩,
    ⟨(some 51), none, .f (.fadr 1 (.t 50))⟩,
    ⟨none, none, .x (.st 1 (.t 51) (.t 49))⟩]))
  .skip))
 (.seq (.reg [
   ⟨(some 52), none, .f (.mv (.t 5))⟩,
   ⟨(some 53), none, .f (.mv (.t 1))⟩,
   ⟨(some 54), none, .f (.cvI .u64 (.t 53))⟩,
   ⟨(some 55), none, .f (.bin .rem (.t 52) (.t 54))⟩,
   ⟨(some 56), none, .f (.cvI .i64 (.t 55))⟩,
   ⟨(some 4), none, .f (.mv (.t 56))⟩])
 .ret))))))
theorem ok17 : fnComp Try.prog 17 = some (57, c17, [(.mv (.t 4))]) := by kernel_rfl

/-- loop.example/g00003/laws.lwWhole -/
def c18 : CC :=
 (.seq (.reg [
   ⟨(some 4), none, .x (.zero 44 11 [(.int .i64 0), (.int .i64 0), (.bool false), (.bool false), (.int .i64 0), (.int .i64 0), (.int .i64 0), (.int .i64 0), (.int .i64 0), .nilslice, .nilslice])⟩])
 (.seq (.reg [
   ⟨(some 6), none, .f (.mv (.t 0))⟩,
   ⟨(some 7), none, .x (.call 17 [(.t 6), (.c (.int .i64 256))])⟩,
   ⟨(some 8), none, .f (.mv (.t 1))⟩,
   ⟨(some 9), none, .f (.mv (.t 0))⟩,
   ⟨(some 10), none, .x (.call 17 [(.t 9), (.c (.int .i64 255))])⟩,
   ⟨(some 11), none, .f (.bin .add (.c (.int .i64 1)) (.t 10))⟩,
   ⟨(some 12), none, .f (.mv (.t 0))⟩,
   ⟨(some 13), none, .x (.call 17 [(.t 12), (.c (.int .i64 256))])⟩,
   ⟨(some 14), none, .f (.mv (.t 0))⟩,
   ⟨(some 15), none, .x (.call 17 [(.t 14), (.c (.int .i64 9999))])⟩,
   ⟨(some 16), none, .f (.mv (.t 0))⟩,
   ⟨(some 17), none, .x (.call 17 [(.t 16), (.c (.int .i64 600))])⟩,
   ⟨(some 18), none, .f (.bin .add (.c (.int .i64 1)) (.t 17))⟩,
   ⟨(some 19), none, .x (.call 25 [(.t 15), (.t 18)])⟩,
   ⟨(some 20), none, .f (.build [(.int .i64 0), (.int .i64 0), (.bool false), (.bool false), (.int .i64 0), (.int .i64 0), (.int .i64 0), (.int .i64 0), (.int .i64 0), .nilslice, .nilslice] [(0, 1, (.t 7)), (1, 1, (.t 8)), (5, 1, (.t 11)), (6, 1, (.t 13)), (7, 1, (.c (.int .i64 167772161))), (8, 1, (.c (.int .i64 167772162))), (10, 1, (.t 19))])⟩,
   ⟨(some 5), none, .x (.zero 44 11 [(.int .i64 0), (.int .i64 0), (.bool false), (.bool false), (.int .i64 0), (.int .i64 0), (.int .i64 0), (.int .i64 0), (.int .i64 0), .nilslice, .nilslice])⟩,
   ⟨none, none, .x (.st 11 (.t 5) (.t 20))⟩])
 (.seq (.seq (.reg [
   ⟨(some 21), none, .f (.mv (.t 0))⟩,
   ⟨(some 22), none, .x (.call 17 [(.t 21), (.c (.int .i64 3))])⟩,
   ⟨(some 23), none, .f (.bin .eql (.t 22) (.c (.int .i64 0)))⟩])
 (.cond (.t 23)
  (.reg [
    ⟨(some 24), none, .f (.mv (.t 0))⟩,
    ⟨(some 25), none, .x (.call 17 [(.t 24), (.c (.int .i64 99))])⟩,
    ⟨(some 26), none, .f (.mv (.t 0))⟩,
    ⟨(some 27), none, .x (.call 17 [(.t 26), (.c (.int .i64 11))])⟩,
    ⟨(some 28), none, .f (.bin .mul (.c (.int .i64 4)) (.t 27))⟩,
    ⟨(some 29), none, .x (.call 25 [(.t 25), (.t 28)])⟩,
    ⟨(some 30), none, .f (.fadr 9 (.t 5))⟩,
    ⟨none, none, .x (.st 1 (.t 30) (.t 29))⟩])
  .skip))
 (.seq (.reg [
   ⟨(some 31), none, .f (.ldA 11 (.t 5))⟩,
   ⟨none, none, .x (.st 11 (.t 4) (.t 31))⟩])
 .ret))))
theorem ok18 : fnComp Try.prog 18 = some (32, c18, [(.ldA 11 (.t 4))]) := by kernel_rfl

/-- loop.example/g00003/impl.Fragment -/
def c19 : CC :=
 (.seq (.reg [
   ⟨(some 2), none, .x (.box 44 11 (.t 0))⟩,
   ⟨(some 4), none, .f (.mv (.c .nilslice))⟩,
   ⟨(some 5), none, .f (.mv (.c (.int .i64 0)))⟩])
 (.seq (.seq (.reg [
   ⟨(some 12), none, .f (.ldA 11 (.t 2))⟩,
   ⟨(some 13), none, .x (.call 39 [(.t 12)])⟩,
   ⟨(some 14), none, .f (.bin .neq (.t 13) (.c (.int .i64 0)))⟩,
   ⟨(some 15), none, .f (.mv (.t 14))⟩,
   ⟨(some 16), (some (15, false)), .f (.mv (.t 1))⟩,
   ⟨(some 17), (some (15, false)), .f (.bin .lss (.t 16) (.c (.int .i64 68)))⟩,
   ⟨(some 18), none, .f (.pick (.t 15) (.c (.bool true)) (.t 17))⟩,
   ⟨(some 19), none, .f (.mv (.t 18))⟩,
   ⟨(some 20), (some (19, false)), .f (.mv (.t 1))⟩,
   ⟨(some 21), (some (19, false)), .f (.bin .gtr (.t 20) (.c (.int .i64 65535)))⟩,
   ⟨(some 22), none, .f (.pick (.t 19) (.c (.bool true)) (.t 21))⟩])
 (.cond (.t 22)
  (.seq (.reg [
    ⟨(some 4), none, .f (.mv (.c .nilslice))⟩,
    ⟨(some 5), none, .f (.mv (.c (.int .i64 1)))⟩])
  .ret)
  .skip))
 (.seq (.seq (.reg [
   ⟨(some 23), none, .f (.ldA 11 (.t 2))⟩,
   ⟨(some 24), none, .x (.call 23 [(.t 23)])⟩,
   ⟨(some 25), none, .f (.mv (.t 1))⟩,
   ⟨(some 26), none, .f (.bin .leq (.t 24) (.t 25))⟩])
 (.cond (.t 26)
  (.seq (.reg [
    ⟨(some 27), none, .f (.ldA 11 (.t 2))⟩,
    ⟨(some 28), none, .x (.call 40 [(.t 27)])⟩,
    ⟨(some 29), none, .x (.bslice 44 11 [(.int .i64 0), (.int .i64 0), (.bool false), (.bool false), (.int .i64 0), (.int .i64 0), (.int .i64 0), (.int .i64 0), (.int .i64 0), .nilslice, .nilslice] 1 [(0, (.t 28))])⟩,
    ⟨(some 4), none, .f (.mv (.t 29))⟩,
    ⟨(some 5), none, .f (.mv (.c (.int .i64 0)))⟩])
  .ret)
  .skip))
 (.seq (.reg [
   ⟨(some 30), none, .f (.mv (.t 1))⟩,
   ⟨(some 31), none, .f (.bin .sub (.t 30) (.c (.int .i64 20)))⟩,
   ⟨(some 32), none, .f (.fadr 9 (.t 2))⟩,
   ⟨(some 33), none, .f (.ld (.t 32))⟩,
   ⟨(some 34), none, .f (.len (.t 33))⟩,
   ⟨(some 35), none, .f (.bin .sub (.t 31) (.t 34))⟩,
   ⟨(some 6), none, .f (.mv (.t 35))⟩])
 (.seq (.seq (.reg [
   ⟨(some 36), none, .f (.fadr 2 (.t 2))⟩,
   ⟨(some 37), none, .f (.ld (.t 36))⟩,
   ⟨(some 38), none, .f (.mv (.t 37))⟩,
   ⟨(some 39), (some (38, false)), .f (.mv (.t 6))⟩,
   ⟨(some 40), (some (38, false)), .f (.bin .lss (.t 39) (.c (.int .i64 8)))⟩,
   ⟨(some 41), none, .f (.pick (.t 38) (.c (.bool true)) (.t 40))⟩])
 (.cond (.t 41)
  (.seq (.reg [
    ⟨(some 4), none, .f (.mv (.c .nilslice))⟩,
    ⟨(some 5), none, .f (.mv (.c (.int .i64 7)))⟩])
  .ret)
  .skip))
 (.seq (.reg [
   ⟨(some 7), none, .f (.mv (.c .nilslice))⟩])
 (.seq (.reg [
   ⟨(some 42), none, .f (.mv (.t 6))⟩,
   ⟨(some 43), none, .f (.bin .quo (.t 42) (.c (.int .i64 8)))⟩,
   ⟨(some 44), none, .f (.bin .mul (.t 43) (.c (.int .i64 8)))⟩,
   ⟨(some 8), none, .f (.mv (.t 44))⟩])
 (.seq (.reg [
   ⟨(some 9), none, .f (.mv (.c (.int .i64 0)))⟩])
 (.block 0 (.loop (.block 1 (.seq (.reg [
      ⟨(some 45), none, .f (.ldA 11 (.t 2))⟩,
      ⟨(some 10), none, .x (.zero 44 11 [(.int .i64 0), (.int .i64 0), (.bool false), (.bool false), (.int .i64 0), (.int .i64 0), (.int .i64 0), (.int .i64 0), (.int .i64 0), .nilslice, .nilslice])⟩,
      ⟨none, none, .x (.st 11 (.t 10) (.t 45))⟩])
    (.seq (.reg [
      ⟨(some 46), none, .f (.fadr 9 (.t 2))⟩,
      ⟨(some 47), none, .f (.ld (.t 46))⟩,
      ⟨(some 48), none, .x (.call 41 [(.t 47)])⟩,
      ⟨(some 49), none, .f (.fadr 9 (.t 10))⟩,
      ⟨none, none, .x (.st 1 (.t 49) (.t 48))⟩])
    (.seq (.reg [
      ⟨(some 50), none, .f (.fadr 4 (.t 2))⟩,
      ⟨(some 51), none, .f (.ld (.t 50))⟩,
      ⟨(some 52), none, .f (.mv (.t 9))⟩,
      ⟨(some 53), none, .f (.bin .add (.t 51) (.t 52))⟩,
      ⟨(some 54), none, .f (.fadr 4 (.t 10))⟩,
      ⟨none, none, .x (.st 1 (.t 54) (.t 53))⟩])
    (.seq (.reg [
      ⟨(some 55), none, .f (.fadr 10 (.t 2))⟩,
      ⟨(some 56), none, .f (.ld (.t 55))⟩,
      ⟨(some 57), none, .f (.len (.t 56))⟩,
      ⟨(some 58), none, .f (.mv (.t 9))⟩,
      ⟨(some 59), none, .f (.bin .sub (.t 57) (.t 58))⟩,
      ⟨(some 11), none, .f (.mv (.t 59))⟩])
    (.seq (.seq (.reg [
      ⟨(some 60), none, .f (.mv (.t 11))⟩,
      ⟨(some 61), none, .f (.mv (.t 8))⟩,
      ⟨(some 62), none, .f (.bin .leq (.t 60) (.t 61))⟩])
    (.cond (.t 62)
     (.seq (.reg [
       ⟨(some 63), none, .f (.fadr 10 (.t 2))⟩,
       ⟨(some 64), none, .f (.ld (.t 63))⟩,
       ⟨(some 65), none, .f (.mv (.t 9))⟩,
       ⟨(some 66), none, .f (.slc 1 (.t 64) (some (.t 65)) none none)⟩,
       ⟨(some 67), none, .x (.call 41 [(.t 66)])⟩,
       ⟨(some 68), none, .f (.fadr 10 (.t 10))⟩,
       ⟨none, none, .x (.st 1 (.t 68) (.t 67))⟩])
     (.seq (.reg [
       ⟨(some 69), none, .f (.mv (.t 7))⟩,
       ⟨(some 70), none, .f (.ldA 11 (.t 10))⟩,
       ⟨(some 71), none, .x (.bslice 44 11 [(.int .i64 0), (.int .i64 0), (.bool false), (.bool false), (.int .i64 0), (.int .i64 0), (.int .i64 0), (.int .i64 0), (.int .i64 0), .nilslice, .nilslice] 1 [(0, (.t 70))])⟩,
       ⟨(some 72), none, .x (.app 44 11 112 (.t 69) (.t 71))⟩,
       ⟨(some 4), none, .f (.mv (.t 72))⟩,
       ⟨(some 5), none, .f (.mv (.c (.int .i64 0)))⟩])
     .ret))
     .skip))
    (.seq (.reg [
      ⟨(some 73), none, .f (.fadr 3 (.t 10))⟩,
      ⟨none, none, .x (.st 1 (.t 73) (.c (.bool true)))⟩])
    (.seq (.reg [
      ⟨(some 74), none, .f (.fadr 10 (.t 2))⟩,
      ⟨(some 75), none, .f (.ld (.t 74))⟩,
      ⟨(some 76), none, .f (.mv (.t 9))⟩,
      ⟨(some 77), none, .f (.mv (.t 9))⟩,
      ⟨(some 78), none, .f (.mv (.t 8))⟩,
      ⟨(some 79), none, .f (.bin .add (.t 77) (.t 78))⟩,
      ⟨(some 80), none, .f (.slc 1 (.t 75) (some (.t 76)) (some (.t 79)) none)⟩,
      ⟨(some 81), none, .x (.call 41 [(.t 80)])⟩,
      ⟨(some 82), none, .f (.fadr 10 (.t 10))⟩,
      ⟨none, none, .x (.st 1 (.t 82) (.t 81))⟩])
    (.seq (.reg [
      ⟨(some 83), none, .f (.mv (.t 7))⟩,
      ⟨(some 84), none, .f (.ldA 11 (.t 10))⟩,
      ⟨(some 85), none, .x (.bslice 44 11 [(.int .i64 0), (.int .i64 0), (.bool false), (.bool false), (.int .i64 0), (.int .i64 0), (.int .i64 0), (.int .i64 0), (.int .i64 0), .nilslice, .nilslice] 1 [(0, (.t 84))])⟩,
      ⟨(some 86), none, .x (.app 44 11 112 (.t 83) (.t 85))⟩,
      ⟨(some 7), none, .f (.mv (.t 86))⟩])
    (.reg [
      ⟨(some 87), none, .f (.mv (.t 9))⟩,
      ⟨(some 88), none, .f (.mv (.t 8))⟩,
      ⟨(some 89), none, .f (.bin .add (.t 87) (.t 88))⟩,
      ⟨(some 9), none, .f (.mv (.t 89))⟩]))))))))))))))))))))
theorem ok19 : fnComp Try.prog 19 = some (90, c19, [(.mv (.t 4)), (.mv (.t 5))]) := by kernel_rfl

/-- loop.example/g00003/laws.lwTakes -/
def c20 : CC :=
 (.seq (.reg [
   ⟨(some 2), none, .f (.mv (.c .nilslice))⟩])
 (.seq (.reg [
   ⟨(some 6), none, .x (.bslice 58 13 [(.int .i64 0), (.int .i64 0), (.int .i64 0), (.int .i64 0), (.bool false), (.bool false), (.int .i64 0), (.int .i64 0), (.int .i64 0), (.int .i64 0), (.int .i64 0), .nilslice, .nilslice] 0 [])⟩,
   ⟨(some 3), none, .f (.mv (.t 6))⟩])
 (.seq (.seq (.reg [
   ⟨(some 4), none, .f (.mv (.c (.int .i64 0)))⟩])
 (.block 0 (.loop (.seq (.seq (.reg [
     ⟨(some 7), none, .f (.mv (.t 4))⟩,
     ⟨(some 8), none, .f (.mv (.t 0))⟩,
     ⟨(some 9), none, .f (.len (.t 8))⟩,
     ⟨(some 10), none, .f (.bin .lss (.t 7) (.t 9))⟩])
   (.cond (.t 10)
    .skip
    (.exit 0)))
   (.seq (.block 1 (.seq (.reg [
      ⟨(some 13), none, .f (.mv (.t 0))⟩,
      ⟨(some 14), none, .f (.mv (.t 4))⟩,
      ⟨(some 15), none, .f (.iadr 11 (.t 13) (.t 14))⟩,
      ⟨(some 16), none, .f (.ldA 11 (.t 15))⟩,
      ⟨(some 5), none, .x (.zero 44 11 [(.int .i64 0), (.int .i64 0), (.bool false), (.bool false), (.int .i64 0), (.int .i64 0), (.int .i64 0), (.int .i64 0), (.int .i64 0), .nilslice, .nilslice])⟩,
      ⟨none, none, .x (.st 11 (.t 5) (.t 16))⟩])
    (.seq (.reg [
      ⟨(some 17), none, .x (.bslice 5 1 [(.int .u8 0)] 0 [])⟩,
      ⟨(some 18), none, .f (.fadr 10 (.t 5))⟩,
      ⟨(some 19), none, .f (.ld (.t 18))⟩,
      ⟨(some 20), none, .x (.app 5 1 1 (.t 17) (.t 19))⟩,
      ⟨(some 21), none, .f (.fadr 10 (.t 5))⟩,
      ⟨none, none, .x (.st 1 (.t 21) (.t 20))⟩])
    (.seq (.reg [
      ⟨(some 22), none, .x (.bslice 5 1 [(.int .u8 0)] 0 [])⟩,
      ⟨(some 23), none, .f (.fadr 9 (.t 5))⟩,
      ⟨(some 24), none, .f (.ld (.t 23))⟩,
      ⟨(some 25), none, .x (.app 5 1 1 (.t 22) (.t 24))⟩,
      ⟨(some 26), none, .f (.fadr 9 (.t 5))⟩,
      ⟨none, none, .x (.st 1 (.t 26) (.t 25))⟩])
    (.reg [
      ⟨(some 27), none, .f (.mv (.t 3))⟩,
      ⟨(some 28), none, .f (.ldA 11 (.t 5))⟩,
      ⟨(some 29), none, .f (.build [(.int .i64 0), (.int .i64 0), (.int .i64 0), (.int .i64 0), (.bool false), (.bool false), (.int .i64 0), (.int .i64 0), (.int .i64 0), (.int .i64 0), (.int .i64 0), .nilslice, .nilslice] [(0, 1, (.c (.int .i64 1))), (2, 11, (.t 28))])⟩,
      ⟨(some 30), none, .x (.bslice 58 13 [(.int .i64 0), (.int .i64 0), (.int .i64 0), (.int .i64 0), (.bool false), (.bool false), (.int .i64 0), (.int .i64 0), (.int .i64 0), (.int .i64 0), (.int .i64 0), .nilslice, .nilslice] 1 [(0, (.t 29))])⟩,
      ⟨(some 31), none, .x (.app 58 13 128 (.t 27) (.t 30))⟩,
      ⟨(some 3), none, .f (.mv (.t 31))⟩])))))
   (.reg [
     ⟨(some 11), none, .f (.mv (.t 4))⟩,
     ⟨(some 12), none, .f (.bin .add (.t 11) (.c (.int .i64 1)))⟩,
     ⟨(some 4), none, .f (.mv (.t 12))⟩]))))))
 (.seq (.reg [
   ⟨(some 32), none, .f (.mv (.t 3))⟩,
   ⟨(some 2), none, .f (.mv (.t 32))⟩])
 .ret))))
theorem ok20 : fnComp Try.prog 20 = some (33, c20, [(.mv (.t 2))]) := by kernel_rfl

/-- loop.example/g00003/laws.lwShuffle -/
def c21 : CC :=
 (.seq (.reg [
   ⟨(some 4), none, .f (.mv (.c .nilslice))⟩])
 (.seq (.reg [
   ⟨(some 10), none, .x (.bslice 44 11 [(.int .i64 0), (.int .i64 0), (.bool false), (.bool false), (.int .i64 0), (.int .i64 0), (.int .i64 0), (.int .i64 0), (.int .i64 0), .nilslice, .nilslice] 0 [])⟩,
   ⟨(some 11), none, .f (.mv (.t 1))⟩,
   ⟨(some 12), none, .x (.app 44 11 112 (.t 10) (.t 11))⟩,
   ⟨(some 5), none, .f (.mv (.t 12))⟩])
 (.seq (.seq (.reg [
   ⟨(some 13), none, .f (.mv (.t 5))⟩,
   ⟨(some 14), none, .f (.len (.t 13))⟩,
   ⟨(some 15), none, .f (.bin .sub (.t 14) (.c (.int .i64 1)))⟩,
   ⟨(some 6), none, .f (.mv (.t 15))⟩])
 (.block 0 (.loop (.seq (.seq (.reg [
     ⟨(some 16), none, .f (.mv (.t 6))⟩,
     ⟨(some 17), none, .f (.bin .gtr (.t 16) (.c (.int .i64 0)))⟩])
   (.cond (.t 17)
    .skip
    (.exit 0)))
   (.seq (.block 1 (.seq (.reg [
      ⟨(some 20), none, .f (.mv (.t 0))⟩,
      ⟨(some 21), none, .f (.mv (.t 6))⟩,
      ⟨(some 22), none, .f (.bin .add (.t 21) (.c (.int .i64 1)))⟩,
      ⟨(some 23), none, .x (.call 17 [(.t 20), (.t 22)])⟩,
      ⟨(some 7), none, .f (.mv (.t 23))⟩])
    (.seq (.reg [
      ⟨(some 24), none, .f (.mv (.t 5))⟩,
      ⟨(some 25), none, .f (.mv (.t 6))⟩,
      ⟨(some 26), none, .f (.iadr 11 (.t 24) (.t 25))⟩,
      ⟨(some 27), none, .f (.ldA 11 (.t 26))⟩,
      ⟨(some 8), none, .x (.zero 44 11 [(.int .i64 0), (.int .i64 0), (.bool false), (.bool false), (.int .i64 0), (.int .i64 0), (.int .i64 0), (.int .i64 0), (.int .i64 0), .nilslice, .nilslice])⟩,
      ⟨none, none, .x (.st 11 (.t 8) (.t 27))⟩])
    (.seq (.reg [
      ⟨(some 28), none, .f (.mv (.t 5))⟩,
      ⟨(some 29), none, .f (.mv (.t 7))⟩,
      ⟨(some 30), none, .f (.iadr 11 (.t 28) (.t 29))⟩,
      ⟨(some 31), none, .f (.ldA 11 (.t 30))⟩,
      ⟨(some 9), none, .x (.zero 44 11 [(.int .i64 0), (.int .i64 0), (.bool false), (.bool false), (.int .i64 0), (.int .i64 0), (.int .i64 0), (.int .i64 0), (.int .i64 0), .nilslice, .nilslice])⟩,
      ⟨none, none, .x (.st 11 (.t 9) (.t 31))⟩])
    (.seq (.reg [
      ⟨(some 32), none, .f (.mv (.t 5))⟩,
      ⟨(some 33), none, .f (.mv (.t 6))⟩,
      ⟨(some 34), none, .f (.ldA 11 (.t 9))⟩,
      ⟨(some 35), none, .f (.iadr 11 (.t 32) (.t 33))⟩,
      ⟨none, none, .x (.st 11 (.t 35) (.t 34))⟩])
    (.reg [
      ⟨(some 36), none, .f (.mv (.t 5))⟩,
      ⟨(some 37), none, .f (.mv (.t 7))⟩,
      ⟨(some 38), none, .f (.ldA 11 (.t 8))⟩,
      ⟨(some 39), none, .f (.iadr 11 (.t 36) (.t 37))⟩,
      ⟨none, none, .x (.st 11 (.t 39) (.t 38))⟩]))))))
   (.reg [
     ⟨(some 18), none, .f (.mv (.t 6))⟩,
     ⟨(some 19), none, .f (.bin .sub (.t 18) (.c (.int .i64 1)))⟩,
     ⟨(some 6), none, .f (.mv (.t 19))⟩]))))))
 (.seq (.reg [
   ⟨(some 40), none, .f (.mv (.t 5))⟩,
   ⟨(some 4), none, .f (.mv (.t 40))⟩])
 .ret))))
theorem ok21 : fnComp Try.prog 21 = some (41, c21, [(.mv (.t 4))]) := by kernel_rfl

/-- loop.example/g00003/laws.lwPacket -/
def c22 : CC :=
 (.seq (.reg [
   ⟨(some 2), none, .x (.box 44 11 (.t 0))⟩,
   ⟨(some 3), none, .x (.box 44 11 (.t 1))⟩,
   ⟨(some 4), none, .f (.mv (.c (.bool false)))⟩])
 (.seq (.reg [
   ⟨(some 5), none, .f (.fadr 0 (.t 2))⟩,
   ⟨(some 6), none, .f (.ld (.t 5))⟩,
   ⟨(some 7), none, .f (.fadr 0 (.t 3))⟩,
   ⟨(some 8), none, .f (.ld (.t 7))⟩,
   ⟨(some 9), none, .f (.bin .eql (.t 6) (.t 8))⟩,
   ⟨(some 10), none, .f (.mv (.t 9))⟩,
   ⟨(some 11), (some (10, true)), .f (.fadr 1 (.t 2))⟩,
   ⟨(some 12), (some (10, true)), .f (.ld (.t 11))⟩,
   ⟨(some 13), (some (10, true)), .f (.fadr 1 (.t 3))⟩,
   ⟨(some 14), (some (10, true)), .f (.ld (.t 13))⟩,
   ⟨(some 15), (some (10, true)), .f (.bin .eql (.t 12) (.t 14))⟩,
   ⟨(some 16), none, .f (.pick (.t 10) (.t 15) (.c (.bool false)))⟩,
   ⟨(some 17), none, .f (.mv (.t 16))⟩,
   ⟨(some 18), (some (17, true)), .f (.fadr 2 (.t 2))⟩,
   ⟨(some 19), (some (17, true)), .f (.ld (.t 18))⟩,
   ⟨(some 20), (some (17, true)), .f (.fadr 2 (.t 3))⟩,
   ⟨(some 21), (some (17, true)), .f (.ld (.t 20))⟩,
   ⟨(some 22), (some (17, true)), .f (.binB false (.t 19) (.t 21))⟩,
   ⟨(some 23), none, .f (.pick (.t 17) (.t 22) (.c (.bool false)))⟩,
   ⟨(some 24), none, .f (.mv (.t 23))⟩,
   ⟨(some 25), (some (24, true)), .f (.fadr 3 (.t 2))⟩,
   ⟨(some 26), (some (24, true)), .f (.ld (.t 25))⟩,
   ⟨(some 27), (some (24, true)), .f (.fadr 3 (.t 3))⟩,
   ⟨(some 28), (some (24, true)), .f (.ld (.t 27))⟩,
   ⟨(some 29), (some (24, true)), .f (.binB false (.t 26) (.t 28))⟩,
   ⟨(some 30), none, .f (.pick (.t 24) (.t 29) (.c (.bool false)))⟩,
   ⟨(some 31), none, .f (.mv (.t 30))⟩,
   ⟨(some 32), (some (31, true)), .f (.fadr 4 (.t 2))⟩,
   ⟨(some 33), (some (31, true)), .f (.ld (.t 32))⟩,
   ⟨(some 34), (some (31, true)), .f (.fadr 4 (.t 3))⟩,
   ⟨(some 35), (some (31, true)), .f (.ld (.t 34))⟩,
   ⟨(some 36), (some (31, true)), .f (.bin .eql (.t 33) (.t 35))⟩,
   ⟨(some 37), none, .f (.pick (.t 31) (.t 36) (.c (.bool false)))⟩,
   ⟨(some 38), none, .f (.mv (.t 37))⟩,
   ⟨(some 39), (some (38, true)), .f (.fadr 5 (.t 2))⟩,
   ⟨(some 40), (some (38, true)), .f (.ld (.t 39))⟩,
   ⟨(some 41), (some (38, true)), .f (.fadr 5 (.t 3))⟩,
   ⟨(some 42), (some (38, true)), .f (.ld (.t 41))⟩,
   ⟨(some 43), (some (38, true)), .f (.bin .eql (.t 40) (.t 42))⟩,
   ⟨(some 44), none, .f (.pick (.t 38) (.t 43) (.c (.bool false)))⟩,
   ⟨(some 45), none, .f (.mv (.t 44))⟩,
   ⟨(some 46), (some (45, true)), .f (.fadr 6 (.t 2))⟩,
   ⟨(some 47), (some (45, true)), .f (.ld (.t 46))⟩,
   ⟨(some 48), (some (45, true)), .f (.fadr 6 (.t 3))⟩,
   ⟨(some 49), (some (45, true)), .f (.ld (.t 48))⟩,
   ⟨(some 50), (some (45, true)), .f (.bin .eql (.t 47) (.t 49))⟩,
   ⟨(some 51), none, .f (.pick (.t 45) (.t 50) (.c (.bool false)))⟩,
   ⟨(some 52), none, .f (.mv (.t 51))⟩,
   ⟨(some 53), (some (52, true)), .f (.fadr 7 (.t 2))⟩,
   ⟨(some 54), (some (52, true)), .f (.ld (.t 53))⟩,
   ⟨(some 55), (some (52, true)), .f (.fadr 7 (.t 3))⟩,
   ⟨(some 56), (some (52, true)), .f (.ld (.t 55))⟩,
   ⟨(some 57), (some (52, true)), .f (.bin .eql (.t 54) (.t 56))⟩,
   ⟨(some 58), none, .f (.pick (.t 52) (.t 57) (.c (.bool false)))⟩,
   ⟨(some 59), none, .f (.mv (.t 58))⟩,
   ⟨(some 60), (some (59, true)), .f (.fadr 8 (.t 2))⟩,
   ⟨(some 61), (some (59, true)), .f (.ld (.t 60))⟩,
   ⟨(some 62), (some (59, true)), .f (.fadr 8 (.t 3))⟩,
   ⟨(some 63), (some (59, true)), .f (.ld (.t 62))⟩,
   ⟨(some 64), (some (59, true)), .f (.bin .eql (.t 61) (.t 63))⟩,
   ⟨(some 65), none, .f (.pick (.t 59) (.t 64) (.c (.bool false)))⟩,
   ⟨(some 66), none, .f (.mv (.t 65))⟩,
   ⟨(some 67), (some (66, true)), .f (.fadr 9 (.t 2))⟩,
   ⟨(some 68), (some (66, true)), .f (.ld (.t 67))⟩,
   ⟨(some 69), (some (66, true)), .f (.fadr 9 (.t 3))⟩,
   ⟨(some 70), (some (66, true)), .f (.ld (.t 69))⟩,
   ⟨(some 71), (some (66, true)), .x (.call 42 [(.t 68), (.t 70)])⟩,
   ⟨(some 72), none, .f (.pick (.t 66) (.t 71) (.c (.bool false)))⟩,
   ⟨(some 73), none, .f (.mv (.t 72))⟩,
   ⟨(some 74), (some (73, true)), .f (.fadr 10 (.t 2))⟩,
   ⟨(some 75), (some (73, true)), .f (.ld (.t 74))⟩,
   ⟨(some 76), (some (73, true)), .f (.fadr 10 (.t 3))⟩,
   ⟨(some 77), (some (73, true)), .f (.ld (.t 76))⟩,
   ⟨(some 78), (some (73, true)), .x (.call 42 [(.t 75), (.t 77)])⟩,
   ⟨(some 79), none, .f (.pick (.t 73) (.t 78) (.c (.bool false)))⟩,
   ⟨(some 4), none, .f (.mv (.t 79))⟩])
 .ret))
theorem ok22 : fnComp Try.prog 22 = some (80, c22, [(.mv (.t 4))]) := by kernel_rfl

/-- loop.example/g00003/impl.PacketSize -/
def c23 : CC :=
 (.seq (.reg [
   ⟨(some 1), none, .x (.box 44 11 (.t 0))⟩,
   ⟨(some 2), none, .f (.mv (.c (.int .i64 0)))⟩])
 (.seq (.seq (.reg [
   ⟨(some 3), none, .f (.ldA 11 (.t 1))⟩,
   ⟨(some 4), none, .x (.call 43 [(.t 3)])⟩,
   ⟨(some 5), none, .f (.un .not (.t 4))⟩])
 (.cond (.t 5)
  (.seq (.reg [
    ⟨(some 2), none, .f (.mv (.c (.int .i64 0)))⟩])
  .ret)
  .skip))
 (.seq (.reg [
   ⟨(some 6), none, .f (.fadr 9 (.t 1))⟩,
   ⟨(some 7), none, .f (.ld (.t 6))⟩,
   ⟨(some 8), none, .f (.len (.t 7))⟩,
   ⟨(some 9), none, .f (.bin .add (.c (.int .i64 20)) (.t 8))⟩,
   ⟨(some 10), none, .f (.fadr 10 (.t 1))⟩,
   ⟨(some 11), none, .f (.ld (.t 10))⟩,
   ⟨(some 12), none, .f (.len (.t 11))⟩,
   ⟨(some 13), none, .f (.bin .add (.t 9) (.t 12))⟩,
   ⟨(some 2), none, .f (.mv (.t 13))⟩])
 .ret)))
theorem ok23 : fnComp Try.prog 23 = some (14, c23, [(.mv (.t 2))]) := by kernel_rfl

/-- loop.example/g00003/laws.lwPattern -/
def c25 : CC :=
 (.seq (.reg [
   ⟨(some 4), none, .f (.mv (.c .nilslice))⟩])
 (.seq (.reg [
   ⟨(some 8), none, .x (.bslice 5 1 [(.int .u8 0)] 0 [])⟩,
   ⟨(some 5), none, .f (.mv (.t 8))⟩])
 (.seq (.seq (.reg [
   ⟨(some 6), none, .f (.mv (.c (.int .i64 0)))⟩])
 (.block 0 (.loop (.seq (.seq (.reg [
     ⟨(some 9), none, .f (.mv (.t 6))⟩,
     ⟨(some 10), none, .f (.mv (.t 1))⟩,
     ⟨(some 11), none, .f (.bin .lss (.t 9) (.t 10))⟩])
   (.cond (.t 11)
    .skip
    (.exit 0)))
   (.seq (.block 1 (.seq (.reg [
      ⟨(some 14), none, .f (.mv (.t 0))⟩,
      ⟨(some 15), none, .f (.mv (.t 6))⟩,
      ⟨(some 16), none, .f (.bin .add (.t 14) (.t 15))⟩,
      ⟨(some 7), none, .f (.mv (.t 16))⟩])
    (.reg [
      ⟨(some 17), none, .f (.mv (.t 5))⟩,
      ⟨(some 18), none, .f (.mv (.t 7))⟩,
      ⟨(some 19), none, .f (.bin .mul (.t 18) (.c (.int .i64 31)))⟩,
      ⟨(some 20), none, .f (.mv (.t 7))⟩,
      ⟨(some 21), none, .f (.bin .quo (.t 20) (.c (.int .i64 7)))⟩,
      ⟨(some 22), none, .f (.bin .add (.t 19) (.t 21))⟩,
      ⟨(some 23), none, .f (.mv (.t 7))⟩,
      ⟨(some 24), none, .f (.bin .quo (.t 23) (.c (.int .i64 251)))⟩,
      ⟨(some 25), none, .f (.bin .add (.t 22) (.t 24))⟩,
      ⟨(some 26), none, .f (.cvI .u8 (.t 25))⟩,
      ⟨(some 27), none, .x (.bslice 5 1 [(.int .u8 0)] 1 [(0, (.t 26))])⟩,
      ⟨(some 28), none, .x (.app 5 1 1 (.t 17) (.t 27))⟩,
      ⟨(some 5), none, .f (.mv (.t 28))⟩])))
   (.reg [
     ⟨(some 12), none, .f (.mv (.t 6))⟩,
     ⟨(some 13), none, .f (.bin .add (.t 12) (.c (.int .i64 1)))⟩,
     ⟨(some 6), none, .f (.mv (.t 13))⟩]))))))
 (.seq (.reg [
   ⟨(some 29), none, .f (.mv (.t 5))⟩,
   ⟨(some 4), none, .f (.mv (.t 29))⟩])
 .ret))))
theorem ok25 : fnComp Try.prog 25 = some (30, c25, [(.mv (.t 4))]) := by kernel_rfl

/-- (*loop.example/g00003/impl.reasm).do -/
def c32 : CC :=
 (.seq (.reg [
   ⟨(some 3), none, .x (.box 58 13 (.t 1))⟩,
   ⟨(some 4), none, .x (.zero 52 16 [(.int .i64 0), (.bool false), (.int .i64 0), (.int .i64 0), (.bool false), (.bool false), (.int .i64 0), (.int .i64 0), (.int .i64 0), (.int .i64 0), (.int .i64 0), .nilslice, .nilslice, .nilslice, (.int .i64 0), (.int .i64 0)])⟩])
 (.seq (.reg [
   ⟨(some 5), none, .x (.zero 52 16 [(.int .i64 0), (.bool false), (.int .i64 0), (.int .i64 0), (.bool false), (.bool false), (.int .i64 0), (.int .i64 0), (.int .i64 0), (.int .i64 0), (.int .i64 0), .nilslice, .nilslice, .nilslice, (.int .i64 0), (.int .i64 0)])⟩])
 (.seq (.block 0 (.seq (.reg [
    ⟨(some 14), none, .f (.fadr 0 (.t 3))⟩,
    ⟨(some 15), none, .f (.ld (.t 14))⟩,
    ⟨(some 16), none, .f (.bin .eql (.t 15) (.c (.int .i64 1)))⟩,
    ⟨(some 17), none, .f (.mv (.t 16))⟩,
    ⟨(some 18), (some (17, true)), .f (.fadr 2 (.t 3))⟩,
    ⟨(some 19), (some (17, true)), .f (.ldA 11 (.t 18))⟩,
    ⟨(some 20), (some (17, true)), .x (.call 39 [(.t 19)])⟩,
    ⟨(some 21), (some (17, true)), .f (.bin .eql (.t 20) (.c (.int .i64 0)))⟩,
    ⟨(some 22), none, .f (.pick (.t 17) (.t 21) (.c (.bool false)))⟩,
    ⟨(some 13), none, .f (.mv (.t 22))⟩])
  (.cond (.t 13)
   (.reg [
     ⟨(some 23), none, .f (.mv (.t 0))⟩,
     ⟨(some 24), none, .f (.fadr 2 (.t 3))⟩,
     ⟨(some 25), none, .f (.ldA 11 (.t 24))⟩,
     ⟨(some 26), none, .x (.call 54 [(.t 23), (.t 25), (.t 5)])⟩])
   (.seq (.dreg [
     ⟨(some 28), none, .f (.fadr 0 (.t 3))⟩,
     ⟨(some 29), none, .f (.ld (.t 28))⟩,
     ⟨(some 30), none, .f (.bin .eql (.t 29) (.c (.int .i64 2)))⟩,
     ⟨(some 31), none, .f (.mv (.t 30))⟩,
     ⟨(some 32), (some (31, true)), .f (.mv (.t 0))⟩,
     ⟨(some 33), (some (31, true)), .f (.nck (.t 32))⟩,
     ⟨(some 34), (some (31, true)), .f (.fadr 0 (.t 33))⟩,
     ⟨(some 35), (some (31, true)), .f (.ld (.t 34))⟩,
     ⟨(some 36), (some (31, true)), .f (.fadr 1 (.t 3))⟩,
     ⟨(some 37), (some (31, true)), .f (.ld (.t 36))⟩,
     ⟨(some 38), (some (31, true)), .x (.call 55 [(.t 35), (.t 37)])⟩,
     ⟨(some 39), none, .f (.pick (.t 31) (.t 38) (.c (.bool false)))⟩,
     ⟨(some 27), none, .f (.mv (.t 39))⟩]
     [false, false, false, false, false, false, false, false, false, false, true, false, false] [[], [0], [1, 0], [2, 1, 0], [3, 2, 1, 0], [4, 3, 2, 1, 0], [5, 4, 3, 2, 1, 0], [6, 5, 4, 3, 2, 1, 0], [3, 2, 1, 0], [8, 3, 2, 1, 0], [7, 6, 5, 4, 3, 2, 1, 0, 9, 8], [3, 2, 1, 0, 10, 7, 6, 5, 4, 9, 8], [11, 3, 2, 1, 0, 10, 7, 6, 5, 4, 9, 8]] [0, 1, 2, 3, 4, 5, 6, 7, 8, 9, 10, 11, 12])
   (.cond (.t 27)
    (.seq (.dreg [
      ⟨(some 40), none, .f (.mv (.t 0))⟩,
      ⟨(some 41), none, .f (.nck (.t 40))⟩,
      ⟨(some 42), none, .f (.fadr 0 (.t 41))⟩,
      ⟨(some 43), none, .f (.ld (.t 42))⟩,
      ⟨(some 44), none, .f (.fadr 1 (.t 3))⟩,
      ⟨(some 45), none, .f (.ld (.t 44))⟩,
      ⟨(some 46), none, .f (.bin .add (.t 43) (.t 45))⟩,
      ⟨(some 47), none, .f (.nck (.t 40))⟩,
      ⟨(some 48), none, .f (.fadr 0 (.t 47))⟩,
      ⟨none, none, .x (.st 1 (.t 48) (.t 46))⟩]
      [false, false, false, false, false, false, false, false, false, true] [[], [0], [1, 0], [2, 1, 0], [], [4], [3, 2, 1, 0, 5, 4], [0, 1, 2, 3, 4, 5, 6], [7, 0, 1, 2, 3, 4, 5, 6], [8, 7, 0, 1, 2, 3, 4, 5, 6]] [0, 1, 2, 3, 4, 5, 6, 7, 8, 9])
    (.seq (.reg [
      ⟨(some 49), none, .f (.mv (.t 0))⟩,
      ⟨(some 50), none, .x (.call 56 [(.t 49)])⟩,
      ⟨(some 51), none, .f (.len (.t 50))⟩,
      ⟨(some 52), none, .f (.mv (.c (.int .i64 0)))⟩])
    (.block 1 (.loop (.seq (.reg [
        ⟨(some 53), none, .f (.bin .lss (.t 52) (.t 51))⟩])
      (.seq (.cond (.t 53)
       .skip
       (.exit 1))
      (.seq (.block 2 (.seq (.reg [
         ⟨(some 54), none, .f (.iadr 1 (.t 50) (.t 52))⟩,
         ⟨(some 55), none, .f (.ld (.t 54))⟩,
         ⟨(some 7), none, .f (.mv (.t 55))⟩])
       (.seq (.reg [
         ⟨(some 56), none, .f (.mv (.t 7))⟩,
         ⟨(some 57), none, .f (.nck (.t 56))⟩,
         ⟨(some 58), none, .f (.fadr 8 (.t 57))⟩,
         ⟨(some 59), none, .f (.ld (.t 58))⟩,
         ⟨(some 60), none, .f (.un .not (.t 59))⟩])
       (.cond (.t 60)
        (.dreg [
          ⟨(some 61), none, .f (.fadr 13 (.t 5))⟩,
          ⟨(some 62), none, .f (.ld (.t 61))⟩,
          ⟨(some 63), none, .f (.mv (.t 7))⟩,
          ⟨(some 64), none, .x (.call 57 [(.t 63)])⟩,
          ⟨(some 65), none, .x (.bslice 113 5 [(.int .i64 0), (.int .i64 0), (.int .i64 0), (.int .i64 0), (.bool false)] 1 [(0, (.t 64))])⟩,
          ⟨(some 66), none, .x (.app 113 5 40 (.t 62) (.t 65))⟩,
          ⟨(some 67), none, .f (.fadr 13 (.t 5))⟩,
          ⟨none, none, .x (.st 1 (.t 67) (.t 66))⟩]
          [false, false, false, true, true, true, false, true] [[], [0], [], [2], [3, 2], [1, 0, 4, 3, 2], [0, 1, 2, 3, 4, 5], [6, 0, 1, 2, 3, 4, 5]] [0, 1, 2, 3, 4, 5, 6, 7])
        .skip))))
      (.reg [
        ⟨(some 68), none, .f (.bin .add (.t 52) (.c (.int .i64 1)))⟩,
        ⟨(some 52), none, .f (.mv (.t 68))⟩]))))))))
    (.reg [
      ⟨(some 12), none, .f (.fadr 0 (.t 5))⟩,
      ⟨none, none, .x (.st 1 (.t 12) (.c (.int .i64 1)))⟩]))))))
 (.seq (.reg [
   ⟨(some 69), none, .f (.mv (.t 0))⟩,
   ⟨(some 70), none, .f (.nck (.t 69))⟩,
   ⟨(some 71), none, .f (.fadr 1 (.t 70))⟩,
   ⟨(some 72), none, .f (.ld (.t 71))⟩,
   ⟨(some 73), none, .f (.len (.t 72))⟩,
   ⟨(some 74), none, .f (.fadr 14 (.t 5))⟩,
   ⟨none, none, .x (.st 1 (.t 74) (.t 73))⟩])
 (.seq (.seq (.reg [
   ⟨(some 75), none, .f (.mv (.t 0))⟩,
   ⟨(some 76), none, .f (.nck (.t 75))⟩,
   ⟨(some 77), none, .f (.fadr 1 (.t 76))⟩,
   ⟨(some 78), none, .f (.ld (.t 77))⟩,
   ⟨(some 79), none, .f (.len (.t 78))⟩,
   ⟨(some 80), none, .f (.mv (.c (.int .i64 0)))⟩])
 (.block 3 (.loop (.seq (.reg [
     ⟨(some 81), none, .f (.bin .lss (.t 80) (.t 79))⟩])
   (.seq (.cond (.t 81)
    .skip
    (.exit 3))
   (.seq (.block 4 (.seq (.reg [
      ⟨(some 82), none, .f (.iadr 1 (.t 78) (.t 80))⟩,
      ⟨(some 83), none, .f (.ld (.t 82))⟩,
      ⟨(some 9), none, .f (.mv (.t 83))⟩])
    (.seq (.reg [
      ⟨(some 84), none, .f (.mv (.t 9))⟩,
      ⟨(some 85), none, .f (.nck (.t 84))⟩,
      ⟨(some 86), none, .f (.fadr 4 (.t 85))⟩,
      ⟨(some 87), none, .f (.ld (.t 86))⟩,
      ⟨(some 88), none, .f (.len (.t 87))⟩,
      ⟨(some 89), none, .f (.mv (.c (.int .i64 0)))⟩])
    (.block 5 (.loop (.seq (.reg [
        ⟨(some 90), none, .f (.bin .lss (.t 89) (.t 88))⟩])
      (.seq (.cond (.t 90)
       .skip
       (.exit 5))
      (.seq (.block 6 (.seq (.reg [
         ⟨(some 91), none, .f (.iadr 2 (.t 87) (.t 89))⟩,
         ⟨(some 92), none, .f (.ldA 2 (.t 91))⟩,
         ⟨(some 11), none, .x (.zero 116 2 [(.int .i64 0), .nilslice])⟩,
         ⟨none, none, .x (.st 2 (.t 11) (.t 92))⟩])
       (.reg [
         ⟨(some 93), none, .f (.fadr 15 (.t 5))⟩,
         ⟨(some 94), none, .f (.ld (.t 93))⟩,
         ⟨(some 95), none, .f (.fadr 1 (.t 11))⟩,
         ⟨(some 96), none, .f (.ld (.t 95))⟩,
         ⟨(some 97), none, .f (.len (.t 96))⟩,
         ⟨(some 98), none, .f (.bin .add (.t 94) (.t 97))⟩,
         ⟨(some 99), none, .f (.fadr 15 (.t 5))⟩,
         ⟨none, none, .x (.st 1 (.t 99) (.t 98))⟩])))
      (.reg [
        ⟨(some 100), none, .f (.bin .add (.t 89) (.c (.int .i64 1)))⟩,
        ⟨(some 89), none, .f (.mv (.t 100))⟩])))))))))
   (.reg [
     ⟨(some 101), none, .f (.bin .add (.t 80) (.c (.int .i64 1)))⟩,
     ⟨(some 80), none, .f (.mv (.t 101))⟩])))))))
 (.seq (.reg [
   ⟨(some 102), none, .f (.ldA 16 (.t 5))⟩,
   ⟨none, none, .x (.st 16 (.t 4) (.t 102))⟩])
 .ret))))))
theorem ok32 : fnComp Try.prog 32 = some (103, c32, [(.ldA 16 (.t 4))]) := by kernel_rfl

/-- loop.example/g00003/impl.codeIP -/
def c39 : CC :=
 (.seq (.reg [
   ⟨(some 1), none, .x (.box 44 11 (.t 0))⟩,
   ⟨(some 2), none, .f (.mv (.c (.int .i64 0)))⟩])
 (.seq (.seq (.reg [
   ⟨(some 3), none, .f (.ldA 11 (.t 1))⟩,
   ⟨(some 4), none, .x (.call 43 [(.t 3)])⟩,
   ⟨(some 5), none, .f (.un .not (.t 4))⟩])
 (.cond (.t 5)
  (.seq (.reg [
    ⟨(some 2), none, .f (.mv (.c (.int .i64 1)))⟩])
  .ret)
  .skip))
 (.seq (.seq (.reg [
   ⟨(some 6), none, .f (.fadr 9 (.t 1))⟩,
   ⟨(some 7), none, .f (.ld (.t 6))⟩,
   ⟨(some 8), none, .f (.len (.t 7))⟩,
   ⟨(some 9), none, .f (.bin .add (.c (.int .i64 20)) (.t 8))⟩,
   ⟨(some 10), none, .f (.fadr 10 (.t 1))⟩,
   ⟨(some 11), none, .f (.ld (.t 10))⟩,
   ⟨(some 12), none, .f (.len (.t 11))⟩,
   ⟨(some 13), none, .f (.bin .add (.t 9) (.t 12))⟩,
   ⟨(some 14), none, .f (.bin .gtr (.t 13) (.c (.int .i64 65535)))⟩,
   ⟨(some 15), none, .f (.mv (.t 14))⟩,
   ⟨(some 16), (some (15, false)), .f (.fadr 4 (.t 1))⟩,
   ⟨(some 17), (some (15, false)), .f (.ld (.t 16))⟩,
   ⟨(some 18), (some (15, false)), .f (.fadr 10 (.t 1))⟩,
   ⟨(some 19), (some (15, false)), .f (.ld (.t 18))⟩,
   ⟨(some 20), (some (15, false)), .f (.len (.t 19))⟩,
   ⟨(some 21), (some (15, false)), .f (.bin .add (.t 17) (.t 20))⟩,
   ⟨(some 22), (some (15, false)), .f (.bin .gtr (.t 21) (.c (.int .i64 65535)))⟩,
   ⟨(some 23), none, .f (.pick (.t 15) (.c (.bool true)) (.t 22))⟩])
 (.cond (.t 23)
  (.seq (.reg [
    ⟨(some 2), none, .f (.mv (.c (.int .i64 7)))⟩])
  .ret)
  .skip))
 (.seq (.reg [
   ⟨(some 2), none, .f (.mv (.c (.int .i64 0)))⟩])
 .ret))))
theorem ok39 : fnComp Try.prog 39 = some (24, c39, [(.mv (.t 2))]) := by kernel_rfl

/-- loop.example/g00003/impl.ownPacket -/
def c40 : CC :=
 (.seq (.reg [
   ⟨(some 1), none, .x (.box 44 11 (.t 0))⟩,
   ⟨(some 2), none, .x (.zero 44 11 [(.int .i64 0), (.int .i64 0), (.bool false), (.bool false), (.int .i64 0), (.int .i64 0), (.int .i64 0), (.int .i64 0), (.int .i64 0), .nilslice, .nilslice])⟩])
 (.seq (.dreg [
   ⟨(some 3), none, .f (.fadr 9 (.t 1))⟩,
   ⟨(some 4), none, .f (.ld (.t 3))⟩,
   ⟨(some 5), none, .x (.call 41 [(.t 4)])⟩,
   ⟨(some 6), none, .f (.fadr 10 (.t 1))⟩,
   ⟨(some 7), none, .f (.ld (.t 6))⟩,
   ⟨(some 8), none, .x (.call 41 [(.t 7)])⟩,
   ⟨(some 9), none, .f (.fadr 9 (.t 1))⟩,
   ⟨none, none, .x (.st 1 (.t 9) (.t 5))⟩,
   ⟨(some 10), none, .f (.fadr 10 (.t 1))⟩,
   ⟨none, none, .x (.st 1 (.t 10) (.t 8))⟩]
   [false, false, true, false, false, true, false, true, false, true] [[], [0], [1, 0], [], [3], [4, 3, 2, 1, 0], [0, 1, 2, 3, 4], [6, 0, 1, 2, 3, 4, 5], [0, 1, 2, 3, 4, 5, 6, 7], [8, 0, 1, 2, 3, 4, 5, 6, 7]] [0, 1, 3, 4, 2, 6, 5, 7, 8, 9])
 (.seq (.reg [
   ⟨(some 11), none, .f (.ldA 11 (.t 1))⟩,
   ⟨none, none, .x (.st 11 (.t 2) (.t 11))⟩])
 .ret)))
theorem ok40 : fnComp Try.prog 40 = some (12, c40, [(.ldA 11 (.t 2))]) := by kernel_rfl

/-- loop.example/g00003/impl.dup -/
def c41 : CC :=
 (.seq (.reg [
   ⟨(some 2), none, .f (.mv (.c .nilslice))⟩])
 (.seq (.reg [
   ⟨(some 3), none, .f (.mv (.t 0))⟩,
   ⟨(some 4), none, .x (.app 5 1 1 (.c .nilslice) (.t 3))⟩,
   ⟨(some 2), none, .f (.mv (.t 4))⟩])
 .ret))
theorem ok41 : fnComp Try.prog 41 = some (5, c41, [(.mv (.t 2))]) := by kernel_rfl

/-- loop.example/g00003/laws.lwSame -/
def c42 : CC :=
 (.seq (.reg [
   ⟨(some 4), none, .f (.mv (.c (.bool false)))⟩])
 (.seq (.reg [
   ⟨(some 5), none, .f (.mv (.t 0))⟩,
   ⟨(some 6), none, .f (.b2s (.t 5))⟩,
   ⟨(some 7), none, .f (.mv (.t 1))⟩,
   ⟨(some 8), none, .f (.b2s (.t 7))⟩,
   ⟨(some 9), none, .f (.bin .eql (.t 6) (.t 8))⟩,
   ⟨(some 4), none, .f (.mv (.t 9))⟩])
 .ret))
theorem ok42 : fnComp Try.prog 42 = some (10, c42, [(.mv (.t 4))]) := by kernel_rfl

/-- loop.example/g00003/impl.okIP -/
def c43 : CC :=
 (.seq (.reg [
   ⟨(some 1), none, .x (.box 44 11 (.t 0))⟩,
   ⟨(some 2), none, .f (.mv (.c (.bool false)))⟩])
 (.seq (.reg [
   ⟨(some 3), none, .f (.fadr 0 (.t 1))⟩,
   ⟨(some 4), none, .f (.ld (.t 3))⟩,
   ⟨(some 5), none, .f (.bin .geq (.t 4) (.c (.int .i64 0)))⟩,
   ⟨(some 6), none, .f (.mv (.t 5))⟩,
   ⟨(some 7), (some (6, true)), .f (.fadr 0 (.t 1))⟩,
   ⟨(some 8), (some (6, true)), .f (.ld (.t 7))⟩,
   ⟨(some 9), (some (6, true)), .f (.bin .leq (.t 8) (.c (.int .i64 255)))⟩,
   ⟨(some 10), none, .f (.pick (.t 6) (.t 9) (.c (.bool false)))⟩,
   ⟨(some 11), none, .f (.mv (.t 10))⟩,
   ⟨(some 12), (some (11, true)), .f (.fadr 5 (.t 1))⟩,
   ⟨(some 13), (some (11, true)), .f (.ld (.t 12))⟩,
   ⟨(some 14), (some (11, true)), .f (.bin .geq (.t 13) (.c (.int .i64 0)))⟩,
   ⟨(some 15), none, .f (.pick (.t 11) (.t 14) (.c (.bool false)))⟩,
   ⟨(some 16), none, .f (.mv (.t 15))⟩,
   ⟨(some 17), (some (16, true)), .f (.fadr 5 (.t 1))⟩,
   ⟨(some 18), (some (16, true)), .f (.ld (.t 17))⟩,
   ⟨(some 19), (some (16, true)), .f (.bin .leq (.t 18) (.c (.int .i64 255)))⟩,
   ⟨(some 20), none, .f (.pick (.t 16) (.t 19) (.c (.bool false)))⟩,
   ⟨(some 21), none, .f (.mv (.t 20))⟩,
   ⟨(some 22), (some (21, true)), .f (.fadr 6 (.t 1))⟩,
   ⟨(some 23), (some (21, true)), .f (.ld (.t 22))⟩,
   ⟨(some 24), (some (21, true)), .f (.bin .geq (.t 23) (.c (.int .i64 0)))⟩,
   ⟨(some 25), none, .f (.pick (.t 21) (.t 24) (.c (.bool false)))⟩,
   ⟨(some 26), none, .f (.mv (.t 25))⟩,
   ⟨(some 27), (some (26, true)), .f (.fadr 6 (.t 1))⟩,
   ⟨(some 28), (some (26, true)), .f (.ld (.t 27))⟩,
   ⟨(some 29), (some (26, true)), .f (.bin .leq (.t 28) (.c (.int .i64 255)))⟩,
   ⟨(some 30), none, .f (.pick (.t 26) (.t 29) (.c (.bool false)))⟩,
   ⟨(some 31), none, .f (.mv (.t 30))⟩,
   ⟨(some 32), (some (31, true)), .f (.fadr 1 (.t 1))⟩,
   ⟨(some 33), (some (31, true)), .f (.ld (.t 32))⟩,
   ⟨(some 34), (some (31, true)), .f (.bin .geq (.t 33) (.c (.int .i64 0)))⟩,
   ⟨(some 35), none, .f (.pick (.t 31) (.t 34) (.c (.bool false)))⟩,
   ⟨(some 36), none, .f (.mv (.t 35))⟩,
   ⟨(some 37), (some (36, true)), .f (.fadr 1 (.t 1))⟩,
   ⟨(some 38), (some (36, true)), .f (.ld (.t 37))⟩,
   ⟨(some 39), (some (36, true)), .f (.bin .leq (.t 38) (.c (.int .i64 65535)))⟩,
   ⟨(some 40), none, .f (.pick (.t 36) (.t 39) (.c (.bool false)))⟩,
   ⟨(some 41), none, .f (.mv (.t 40))⟩,
   ⟨(some 42), (some (41, true)), .f (.fadr 4 (.t 1))⟩,
   ⟨(some 43), (some (41, true)), .f (.ld (.t 42))⟩,
   ⟨(some 44), (some (41, true)), .f (.bin .geq (.t 43) (.c (.int .i64 0)))⟩,
   ⟨(some 45), none, .f (.pick (.t 41) (.t 44) (.c (.bool false)))⟩,
   ⟨(some 46), none, .f (.mv (.t 45))⟩,
   ⟨(some 47), (some (46, true)), .f (.fadr 4 (.t 1))⟩,
   ⟨(some 48), (some (46, true)), .f (.ld (.t 47))⟩,
   ⟨(some 49), (some (46, true)), .f (.bin .leq (.t 48) (.c (.int .i64 65528)))⟩,
   ⟨(some 50), none, .f (.pick (.t 46) (.t 49) (.c (.bool false)))⟩,
   ⟨(some 51), none, .f (.mv (.t 50))⟩,
   ⟨(some 52), (some (51, true)), .f (.fadr 4 (.t 1))⟩,
   ⟨(some 53), (some (51, true)), .f (.ld (.t 52))⟩,
   ⟨(some 54), (some (51, true)), .f (.bin .rem (.t 53) (.c (.int .i64 8)))⟩,
   ⟨(some 55), (some (51, true)), .f (.bin .eql (.t 54) (.c (.int .i64 0)))⟩,
   ⟨(some 56), none, .f (.pick (.t 51) (.t 55) (.c (.bool false)))⟩,
   ⟨(some 57), none, .f (.mv (.t 56))⟩,
   ⟨(some 58), (some (57, true)), .f (.fadr 7 (.t 1))⟩,
   ⟨(some 59), (some (57, true)), .f (.ld (.t 58))⟩,
   ⟨(some 60), (some (57, true)), .x (.call 60 [(.t 59)])⟩,
   ⟨(some 61), none, .f (.pick (.t 57) (.t 60) (.c (.bool false)))⟩,
   ⟨(some 62), none, .f (.mv (.t 61))⟩,
   ⟨(some 63), (some (62, true)), .f (.fadr 8 (.t 1))⟩,
   ⟨(some 64), (some (62, true)), .f (.ld (.t 63))⟩,
   ⟨(some 65), (some (62, true)), .x (.call 60 [(.t 64)])⟩,
   ⟨(some 66), none, .f (.pick (.t 62) (.t 65) (.c (.bool false)))⟩,
   ⟨(some 67), none, .f (.mv (.t 66))⟩,
   ⟨(some 68), (some (67, true)), .f (.fadr 9 (.t 1))⟩,
   ⟨(some 69), (some (67, true)), .f (.ld (.t 68))⟩,
   ⟨(some 70), (some (67, true)), .f (.len (.t 69))⟩,
   ⟨(some 71), (some (67, true)), .f (.bin .leq (.t 70) (.c (.int .i64 40)))⟩,
   ⟨(some 72), none, .f (.pick (.t 67) (.t 71) (.c (.bool false)))⟩,
   ⟨(some 73), none, .f (.mv (.t 72))⟩,
   ⟨(some 74), (some (73, true)), .f (.fadr 9 (.t 1))⟩,
   ⟨(some 75), (some (73, true)), .f (.ld (.t 74))⟩,
   ⟨(some 76), (some (73, true)), .f (.len (.t 75))⟩,
   ⟨(some 77), (some (73, true)), .f (.bin .rem (.t 76) (.c (.int .i64 4)))⟩,
   ⟨(some 78), (some (73, true)), .f (.bin .eql (.t 77) (.c (.int .i64 0)))⟩,
   ⟨(some 79), none, .f (.pick (.t 73) (.t 78) (.c (.bool false)))⟩,
   ⟨(some 2), none, .f (.mv (.t 79))⟩])
 .ret))
theorem ok43 : fnComp Try.prog 43 = some (80, c43, [(.mv (.t 2))]) := by kernel_rfl

/-- (*loop.example/g00003/impl.reasm).take -/
def c54 : CC :=
 (.seq (.reg [
   ⟨(some 4), none, .x (.box 44 11 (.t 1))⟩])
 (.seq (.seq (.reg [
   ⟨(some 21), none, .f (.fadr 4 (.t 4))⟩,
   ⟨(some 22), none, .f (.ld (.t 21))⟩,
   ⟨(some 23), none, .f (.bin .eql (.t 22) (.c (.int .i64 0)))⟩,
   ⟨(some 24), none, .f (.mv (.t 23))⟩,
   ⟨(some 25), (some (24, true)), .f (.fadr 3 (.t 4))⟩,
   ⟨(some 26), (some (24, true)), .f (.ld (.t 25))⟩,
   ⟨(some 27), (some (24, true)), .f (.un .not (.t 26))⟩,
   ⟨(some 28), none, .f (.pick (.t 24) (.t 27) (.c (.bool false)))⟩])
 (.cond (.t 28)
  (.seq (.reg [
    ⟨(some 29), none, .f (.mv (.t 2))⟩,
    ⟨(some 30), none, .f (.mv (.t 2))⟩,
    ⟨(some 31), none, .f (.ldA 11 (.t 4))⟩,
    ⟨(some 32), none, .x (.call 40 [(.t 31)])⟩,
    ⟨(some 33), none, .f (.nck (.t 29))⟩,
    ⟨(some 34), none, .f (.fadr 1 (.t 33))⟩,
    ⟨none, none, .x (.st 1 (.t 34) (.c (.bool true)))⟩,
    ⟨(some 35), none, .f (.nck (.t 30))⟩,
    ⟨(some 36), none, .f (.fadr 2 (.t 35))⟩,
    ⟨none, none, .x (.st 11 (.t 36) (.t 32))⟩])
  .ret)
  .skip))
 (.seq (.reg [
   ⟨(some 37), none, .f (.fadr 10 (.t 4))⟩,
   ⟨(some 38), none, .f (.ld (.t 37))⟩,
   ⟨(some 39), none, .f (.len (.t 38))⟩,
   ⟨(some 6), none, .f (.mv (.t 39))⟩])
 (.seq (.seq (.reg [
   ⟨(some 40), none, .f (.mv (.t 6))⟩,
   ⟨(some 41), none, .f (.bin .eql (.t 40) (.c (.int .i64 0)))⟩,
   ⟨(some 42), none, .f (.mv (.t 41))⟩,
   ⟨(some 43), (some (42, false)), .f (.fadr 3 (.t 4))⟩,
   ⟨(some 44), (some (42, false)), .f (.ld (.t 43))⟩,
   ⟨(some 45), (some (42, false)), .f (.mv (.t 44))⟩,
   ⟨(some 46), (some (45, true)), .f (.mv (.t 6))⟩,
   ⟨(some 47), (some (45, true)), .f (.bin .rem (.t 46) (.c (.int .i64 8)))⟩,
   ⟨(some 48), (some (45, true)), .f (.bin .neq (.t 47) (.c (.int .i64 0)))⟩,
   ⟨(some 49), (some (42, false)), .f (.pick (.t 45) (.t 48) (.c (.bool false)))⟩,
   ⟨(some 50), none, .f (.pick (.t 42) (.c (.bool true)) (.t 49))⟩])
 (.cond (.t 50)
  (.seq (.reg [
    ⟨(some 51), none, .f (.mv (.t 2))⟩,
    ⟨(some 52), none, .f (.nck (.t 51))⟩,
    ⟨(some 53), none, .f (.fadr 0 (.t 52))⟩,
    ⟨none, none, .x (.st 1 (.t 53) (.c (.int .i64 5)))⟩])
  .ret)
  .skip))
 (.seq (.reg [
   ⟨(some 54), none, .f (.fadr 7 (.t 4))⟩,
   ⟨(some 55), none, .f (.ld (.t 54))⟩,
   ⟨(some 56), none, .f (.fadr 8 (.t 4))⟩,
   ⟨(some 57), none, .f (.ld (.t 56))⟩,
   ⟨(some 58), none, .f (.fadr 6 (.t 4))⟩,
   ⟨(some 59), none, .f (.ld (.t 58))⟩,
   ⟨(some 60), none, .f (.fadr 1 (.t 4))⟩,
   ⟨(some 61), none, .f (.ld (.t 60))⟩,
   ⟨(some 62), none, .f (.build [(.int .i64 0), (.int .i64 0), (.int .i64 0), (.int .i64 0)] [(0, 1, (.t 55)), (1, 1, (.t 57)), (2, 1, (.t 59)), (3, 1, (.t 61))])⟩,
   ⟨(some 7), none, .x (.zero 107 4 [(.int .i64 0), (.int .i64 0), (.int .i64 0), (.int .i64 0)])⟩,
   ⟨none, none, .x (.st 4 (.t 7) (.t 62))⟩])
 (.seq (.reg [
   ⟨(some 63), none, .f (.mv (.t 0))⟩,
   ⟨(some 64), none, .f (.nck (.t 63))⟩,
   ⟨(some 65), none, .f (.fadr 1 (.t 64))⟩,
   ⟨(some 66), none, .f (.ld (.t 65))⟩,
   ⟨(some 67), none, .f (.mkf 71 [] [(.t 7)])⟩,
   ⟨(some 68), none, .x (.call 70 [(.t 66), (.t 67)])⟩,
   ⟨(some 8), none, .f (.mv (.t 68))⟩])
 (.seq (.seq (.reg [
   ⟨(some 69), none, .f (.mv (.t 8))⟩,
   ⟨(some 70), none, .f (.bin .lss (.t 69) (.c (.int .i64 0)))⟩])
 (.cond (.t 70)
  (.seq (.seq (.reg [
    ⟨(some 71), none, .f (.mv (.t 0))⟩,
    ⟨(some 72), none, .f (.nck (.t 71))⟩,
    ⟨(some 73), none, .f (.fadr 1 (.t 72))⟩,
    ⟨(some 74), none, .f (.ld (.t 73))⟩,
    ⟨(some 75), none, .f (.len (.t 74))⟩,
    ⟨(some 76), none, .f (.bin .geq (.t 75) (.c (.int .i64 16)))⟩])
  (.cond (.t 76)
   (.seq (.seq (.reg [
     ⟨(some 77), none, .f (.mv (.t 0))⟩,
     ⟨(some 78), none, .f (.nck (.t 77))⟩,
     ⟨(some 79), none, .f (.fadr 1 (.t 78))⟩,
     ⟨(some 80), none, .f (.ld (.t 79))⟩,
     ⟨(some 81), none, .f (.iadr 1 (.t 80) (.c (.int .i64 0)))⟩,
     ⟨(some 82), none, .f (.ld (.t 81))⟩,
     ⟨(some 83), none, .f (.nck (.t 82))⟩,
     ⟨(some 84), none, .f (.fadr 8 (.t 83))⟩,
     ⟨(some 85), none, .f (.ld (.t 84))⟩,
     ⟨(some 86), none, .f (.un .not (.t 85))⟩])
   (.cond (.t 86)
    (.dreg [
      ⟨(some 87), none, .f (.mv (.t 2))⟩,
      ⟨(some 88), none, .f (.mv (.t 2))⟩,
      ⟨(some 89), none, .f (.nck (.t 88))⟩,
      ⟨(some 90), none, .f (.fadr 13 (.t 89))⟩,
      ⟨(some 91), none, .f (.ld (.t 90))⟩,
      ⟨(some 92), none, .f (.mv (.t 0))⟩,
      ⟨(some 93), none, .f (.nck (.t 92))⟩,
      ⟨(some 94), none, .f (.fadr 1 (.t 93))⟩,
      ⟨(some 95), none, .f (.ld (.t 94))⟩,
      ⟨(some 96), none, .f (.iadr 1 (.t 95) (.c (.int .i64 0)))⟩,
      ⟨(some 97), none, .f (.ld (.t 96))⟩,
      ⟨(some 98), none, .x (.call 57 [(.t 97)])⟩,
      ⟨(some 99), none, .x (.bslice 113 5 [(.int .i64 0), (.int .i64 0), (.int .i64 0), (.int .i64 0), (.bool false)] 1 [(0, (.t 98))])⟩,
      ⟨(some 100), none, .x (.app 113 5 40 (.t 91) (.t 99))⟩,
      ⟨(some 101), none, .f (.nck (.t 87))⟩,
      ⟨(some 102), none, .f (.fadr 13 (.t 101))⟩,
      ⟨none, none, .x (.st 1 (.t 102) (.t 100))⟩]
      [false, false, false, false, false, false, false, false, false, false, false, true, true, true, false, false, true] [[], [], [1], [2, 1], [3, 2, 1], [], [5], [6, 5], [7, 6, 5], [8, 7, 6, 5], [9, 8, 7, 6, 5], [10, 9, 8, 7, 6, 5], [11, 10, 9, 8, 7, 6, 5], [4, 3, 2, 1, 12, 11, 10, 9, 8, 7, 6, 5], [0, 1, 2, 3, 4, 5, 6, 7, 8, 9, 10, 11, 12, 13], [14, 0, 1, 2, 3, 4, 5, 6, 7, 8, 9, 10, 11, 12, 13], [15, 14, 0, 1, 2, 3, 4, 5, 6, 7, 8, 9, 10, 11, 12, 13]] [0, 1, 2, 3, 4, 5, 6, 7, 8, 9, 10, 11, 12, 13, 14, 15, 16])
    .skip))
   (.reg [
     ⟨(some 103), none, .f (.mv (.t 0))⟩,
     ⟨(some 104), none, .f (.mv (.t 0))⟩,
     ⟨(some 105), none, .f (.nck (.t 104))⟩,
     ⟨(some 106), none, .f (.fadr 1 (.t 105))⟩,
     ⟨(some 107), none, .f (.ld (.t 106))⟩,
     ⟨(some 108), none, .x (.call 72 [(.t 107), (.c (.int .i64 0)), (.c (.int .i64 1))])⟩,
     ⟨(some 109), none, .f (.nck (.t 103))⟩,
     ⟨(some 110), none, .f (.fadr 1 (.t 109))⟩,
     ⟨none, none, .x (.st 1 (.t 110) (.t 108))⟩]))
   .skip))
  (.seq (.dreg [
    ⟨(some 111), none, .f (.mv (.t 0))⟩,
    ⟨(some 112), none, .f (.mv (.t 0))⟩,
    ⟨(some 113), none, .f (.nck (.t 112))⟩,
    ⟨(some 114), none, .f (.fadr 1 (.t 113))⟩,
    ⟨(some 115), none, .f (.ld (.t 114))⟩,
    ⟨(some 116), none, .f (.ldA 4 (.t 7))⟩,
    ⟨(some 117), none, .f (.mv (.t 0))⟩,
    ⟨(some 118), none, .f (.nck (.t 117))⟩,
    ⟨(some 119), none, .f (.fadr 0 (.t 118))⟩,
    ⟨(some 120), none, .f (.ld (.t 119))⟩,
    ⟨(some 121), none, .f (.build [(.int .i64 0), (.int .i64 0), (.int .i64 0), (.int .i64 0), .nilslice, (.int .i64 0), .nilptr, (.int .i64 0), (.bool false)] [(0, 4, (.t 116)), (5, 1, (.c (.int .i64 (-1)))), (7, 1, (.t 120))])⟩,
    ⟨(some 122), none, .x (.box 111 9 (.t 121))⟩,
    ⟨(some 123), none, .x (.bslice 105 1 [.nilptr] 1 [(0, (.t 122))])⟩,
    ⟨(some 124), none, .x (.app 105 1 8 (.t 115) (.t 123))⟩,
    ⟨(some 125), none, .f (.nck (.t 111))⟩,
    ⟨(some 126), none, .f (.fadr 1 (.t 125))⟩,
    ⟨none, none, .x (.st 1 (.t 126) (.t 124))⟩]
    [false, false, false, false, false, false, false, false, false, false, false, true, true, true, false, false, true] [[], [], [1], [2, 1], [3, 2, 1], [], [], [6], [7, 6], [8, 7, 6], [5, 9, 8, 7, 6], [10, 5, 9, 8, 7, 6], [11, 10, 5, 9, 8, 7, 6], [4, 3, 2, 1, 12, 11, 10, 5, 9, 8, 7, 6], [0, 1, 2, 3, 4, 5, 6, 7, 8, 9, 10, 11, 12, 13], [14, 0, 1, 2, 3, 4, 5, 6, 7, 8, 9, 10, 11, 12, 13], [15, 14, 0, 1, 2, 3, 4, 5, 6, 7, 8, 9, 10, 11, 12, 13]] [0, 1, 2, 3, 4, 5, 6, 7, 8, 9, 10, 11, 12, 13, 14, 15, 16])
  (.reg [
    ⟨(some 127), none, .f (.mv (.t 0))⟩,
    ⟨(some 128), none, .f (.nck (.t 127))⟩,
    ⟨(some 129), none, .f (.fadr 1 (.t 128))⟩,
    ⟨(some 130), none, .f (.ld (.t 129))⟩,
    ⟨(some 131), none, .f (.len (.t 130))⟩,
    ⟨(some 132), none, .f (.bin .sub (.t 131) (.c (.int .i64 1)))⟩,
    ⟨(some 8), none, .f (.mv (.t 132))⟩])))
  .skip))
 (.seq (.reg [
   ⟨(some 133), none, .f (.mv (.t 0))⟩,
   ⟨(some 134), none, .f (.nck (.t 133))⟩,
   ⟨(some 135), none, .f (.fadr 1 (.t 134))⟩,
   ⟨(some 136), none, .f (.ld (.t 135))⟩,
   ⟨(some 137), none, .f (.mv (.t 8))⟩,
   ⟨(some 138), none, .f (.iadr 1 (.t 136) (.t 137))⟩,
   ⟨(some 139), none, .f (.ld (.t 138))⟩,
   ⟨(some 9), none, .f (.mv (.t 139))⟩])
 (.seq (.seq (.reg [
   ⟨(some 140), none, .f (.mv (.t 9))⟩,
   ⟨(some 141), none, .f (.nck (.t 140))⟩,
   ⟨(some 142), none, .f (.fadr 8 (.t 141))⟩,
   ⟨(some 143), none, .f (.ld (.t 142))⟩])
 (.cond (.t 143)
  .ret
  .skip))
 (.seq (.reg [
   ⟨(some 144), none, .f (.fadr 4 (.t 4))⟩,
   ⟨(some 145), none, .f (.ld (.t 144))⟩,
   ⟨(some 146), none, .f (.mv (.t 6))⟩,
   ⟨(some 147), none, .f (.bin .add (.t 145) (.t 146))⟩,
   ⟨(some 10), none, .f (.mv (.t 147))⟩])
 (.seq (.reg [
   ⟨(some 11), none, .f (.mv (.c (.bool false)))⟩])
 (.seq (.seq (.reg [
   ⟨(some 148), none, .f (.mv (.t 9))⟩,
   ⟨(some 149), none, .f (.nck (.t 148))⟩,
   ⟨(some 150), none, .f (.fadr 4 (.t 149))⟩,
   ⟨(some 151), none, .f (.ld (.t 150))⟩,
   ⟨(some 152), none, .f (.len (.t 151))⟩,
   ⟨(some 153), none, .f (.mv (.c (.int .i64 0)))⟩])
 (.block 0 (.loop (.seq (.reg [
     ⟨(some 154), none, .f (.bin .lss (.t 153) (.t 152))⟩])
   (.seq (.cond (.t 154)
    .skip
    (.exit 0))
   (.seq (.block 1 (.seq (.reg [
      ⟨(some 155), none, .f (.iadr 2 (.t 151) (.t 153))⟩,
      ⟨(some 156), none, .f (.ldA 2 (.t 155))⟩,
      ⟨(some 13), none, .x (.zero 116 2 [(.int .i64 0), .nilslice])⟩,
      ⟨none, none, .x (.st 2 (.t 13) (.t 156))⟩])
    (.seq (.reg [
      ⟨(some 157), none, .f (.fadr 0 (.t 13))⟩,
      ⟨(some 158), none, .f (.ld (.t 157))⟩,
      ⟨(some 159), none, .f (.fadr 1 (.t 13))⟩,
      ⟨(some 160), none, .f (.ld (.t 159))⟩,
      ⟨(some 161), none, .f (.len (.t 160))⟩,
      ⟨(some 162), none, .f (.bin .add (.t 158) (.t 161))⟩,
      ⟨(some 14), none, .f (.mv (.t 162))⟩])
    (.seq (.reg [
      ⟨(some 163), none, .f (.fadr 0 (.t 13))⟩,
      ⟨(some 164), none, .f (.ld (.t 163))⟩,
      ⟨(some 165), none, .f (.fadr 4 (.t 4))⟩,
      ⟨(some 166), none, .f (.ld (.t 165))⟩,
      ⟨(some 167), none, .f (.bin .eql (.t 164) (.t 166))⟩,
      ⟨(some 168), none, .f (.mv (.t 167))⟩,
      ⟨(some 169), (some (168, true)), .f (.mv (.t 14))⟩,
      ⟨(some 170), (some (168, true)), .f (.mv (.t 10))⟩,
      ⟨(some 171), (some (168, true)), .f (.bin .eql (.t 169) (.t 170))⟩,
      ⟨(some 172), none, .f (.pick (.t 168) (.t 171) (.c (.bool false)))⟩,
      ⟨(some 173), none, .f (.mv (.t 172))⟩,
      ⟨(some 174), (some (173, true)), .f (.fadr 1 (.t 13))⟩,
      ⟨(some 175), (some (173, true)), .f (.ld (.t 174))⟩,
      ⟨(some 176), (some (173, true)), .f (.fadr 10 (.t 4))⟩,
      ⟨(some 177), (some (173, true)), .f (.ld (.t 176))⟩,
      ⟨(some 178), (some (173, true)), .x (.call 73 [(.t 175), (.t 177)])⟩,
      ⟨(some 179), none, .f (.pick (.t 173) (.t 178) (.c (.bool false)))⟩])
    (.cond (.t 179)
     (.reg [
       ⟨(some 11), none, .f (.mv (.c (.bool true)))⟩])
     (.seq (.reg [
       ⟨(some 180), none, .f (.fadr 0 (.t 13))⟩,
       ⟨(some 181), none, .f (.ld (.t 180))⟩,
       ⟨(some 182), none, .f (.mv (.t 10))⟩,
       ⟨(some 183), none, .f (.bin .lss (.t 181) (.t 182))⟩,
       ⟨(some 184), none, .f (.mv (.t 183))⟩,
       ⟨(some 185), (some (184, true)), .f (.fadr 4 (.t 4))⟩,
       ⟨(some 186), (some (184, true)), .f (.ld (.t 185))⟩,
       ⟨(some 187), (some (184, true)), .f (.mv (.t 14))⟩,
       ⟨(some 188), (some (184, true)), .f (.bin .lss (.t 186) (.t 187))⟩,
       ⟨(some 189), none, .f (.pick (.t 184) (.t 188) (.c (.bool false)))⟩,
       ⟨(some 190), none, .f (.mv (.t 189))⟩,
       ⟨(some 191), (some (190, false)), .f (.fadr 3 (.t 4))⟩,
       ⟨(some 192), (some (190, false)), .f (.ld (.t 191))⟩,
       ⟨(some 193), (some (190, false)), .f (.un .not (.t 192))⟩,
       ⟨(some 194), (some (190, false)), .f (.mv (.t 193))⟩,
       ⟨(some 195), (some (194, true)), .f (.mv (.t 14))⟩,
       ⟨(some 196), (some (194, true)), .f (.mv (.t 10))⟩,
       ⟨(some 197), (some (194, true)), .f (.bin .gtr (.t 195) (.t 196))⟩,
       ⟨(some 198), (some (190, false)), .f (.pick (.t 194) (.t 197) (.c (.bool false)))⟩,
       ⟨(some 199), none, .f (.pick (.t 190) (.c (.bool true)) (.t 198))⟩])
     (.cond (.t 199)
      (.seq (.reg [
        ⟨(some 200), none, .f (.mv (.t 9))⟩,
        ⟨(some 201), none, .x (.call 74 [(.t 200)])⟩])
      .ret)
      .skip)))))))
   (.reg [
     ⟨(some 202), none, .f (.bin .add (.t 153) (.c (.int .i64 1)))⟩,
     ⟨(some 153), none, .f (.mv (.t 202))⟩])))))))
 (.seq (.seq (.reg [
   ⟨(some 203), none, .f (.fadr 3 (.t 4))⟩,
   ⟨(some 204), none, .f (.ld (.t 203))⟩,
   ⟨(some 205), none, .f (.un .not (.t 204))⟩,
   ⟨(some 206), none, .f (.mv (.t 205))⟩,
   ⟨(some 207), (some (206, true)), .f (.mv (.t 9))⟩,
   ⟨(some 208), (some (206, true)), .f (.nck (.t 207))⟩,
   ⟨(some 209), (some (206, true)), .f (.fadr 5 (.t 208))⟩,
   ⟨(some 210), (some (206, true)), .f (.ld (.t 209))⟩,
   ⟨(some 211), (some (206, true)), .f (.bin .geq (.t 210) (.c (.int .i64 0)))⟩,
   ⟨(some 212), none, .f (.pick (.t 206) (.t 211) (.c (.bool false)))⟩,
   ⟨(some 213), none, .f (.mv (.t 212))⟩,
   ⟨(some 214), (some (213, true)), .f (.mv (.t 9))⟩,
   ⟨(some 215), (some (213, true)), .f (.nck (.t 214))⟩,
   ⟨(some 216), (some (213, true)), .f (.fadr 5 (.t 215))⟩,
   ⟨(some 217), (some (213, true)), .f (.ld (.t 216))⟩,
   ⟨(some 218), (some (213, true)), .f (.mv (.t 10))⟩,
   ⟨(some 219), (some (213, true)), .f (.bin .neq (.t 217) (.t 218))⟩,
   ⟨(some 220), none, .f (.pick (.t 213) (.t 219) (.c (.bool false)))⟩,
   ⟨(some 221), none, .f (.mv (.t 220))⟩,
   ⟨(some 222), (some (221, false)), .f (.mv (.t 9))⟩,
   ⟨(some 223), (some (221, false)), .f (.nck (.t 222))⟩,
   ⟨(some 224), (some (221, false)), .f (.fadr 5 (.t 223))⟩,
   ⟨(some 225), (some (221, false)), .f (.ld (.t 224))⟩,
   ⟨(some 226), (some (221, false)), .f (.bin .geq (.t 225) (.c (.int .i64 0)))⟩,
   ⟨(some 227), (some (221, false)), .f (.mv (.t 226))⟩,
   ⟨(some 228), (some (227, true)), .f (.mv (.t 10))⟩,
   ⟨(some 229), (some (227, true)), .f (.mv (.t 9))⟩,
   ⟨(some 230), (some (227, true)), .f (.nck (.t 229))⟩,
   ⟨(some 231), (some (227, true)), .f (.fadr 5 (.t 230))⟩,
   ⟨(some 232), (some (227, true)), .f (.ld (.t 231))⟩,
   ⟨(some 233), (some (227, true)), .f (.bin .gtr (.t 228) (.t 232))⟩,
   ⟨(some 234), (some (221, false)), .f (.pick (.t 227) (.t 233) (.c (.bool false)))⟩,
   ⟨(some 235), none, .f (.pick (.t 221) (.c (.bool true)) (.t 234))⟩])
 (.cond (.t 235)
  (.seq (.reg [
    ⟨(some 236), none, .f (.mv (.t 9))⟩,
    ⟨(some 237), none, .x (.call 74 [(.t 236)])⟩])
  .ret)
  .skip))
 (.seq (.seq (.reg [
   ⟨(some 238), none, .f (.fadr 3 (.t 4))⟩,
   ⟨(some 239), none, .f (.ld (.t 238))⟩,
   ⟨(some 240), none, .f (.un .not (.t 239))⟩])
 (.cond (.t 240)
  (.reg [
    ⟨(some 241), none, .f (.mv (.t 9))⟩,
    ⟨(some 242), none, .f (.mv (.t 10))⟩,
    ⟨(some 243), none, .f (.nck (.t 241))⟩,
    ⟨(some 244), none, .f (.fadr 5 (.t 243))⟩,
    ⟨none, none, .x (.st 1 (.t 244) (.t 242))⟩])
  .skip))
 (.seq (.seq (.reg [
   ⟨(some 245), none, .f (.mv (.t 11))⟩,
   ⟨(some 246), none, .f (.un .not (.t 245))⟩])
 (.cond (.t 246)
  (.seq (.dreg [
    ⟨(some 247), none, .f (.mv (.t 9))⟩,
    ⟨(some 248), none, .f (.mv (.t 9))⟩,
    ⟨(some 249), none, .f (.nck (.t 248))⟩,
    ⟨(some 250), none, .f (.fadr 4 (.t 249))⟩,
    ⟨(some 251), none, .f (.ld (.t 250))⟩,
    ⟨(some 252), none, .f (.fadr 4 (.t 4))⟩,
    ⟨(some 253), none, .f (.ld (.t 252))⟩,
    ⟨(some 254), none, .f (.fadr 10 (.t 4))⟩,
    ⟨(some 255), none, .f (.ld (.t 254))⟩,
    ⟨(some 256), none, .x (.call 41 [(.t 255)])⟩,
    ⟨(some 257), none, .f (.build [(.int .i64 0), .nilslice] [(0, 1, (.t 253)), (1, 1, (.t 256))])⟩,
    ⟨(some 258), none, .x (.bslice 116 2 [(.int .i64 0), .nilslice] 1 [(0, (.t 257))])⟩,
    ⟨(some 259), none, .x (.app 116 2 32 (.t 251) (.t 258))⟩,
    ⟨(some 260), none, .f (.nck (.t 247))⟩,
    ⟨(some 261), none, .f (.fadr 4 (.t 260))⟩,
    ⟨none, none, .x (.st 1 (.t 261) (.t 259))⟩]
    [false, false, false, false, false, false, false, false, false, true, false, true, true, false, false, true] [[], [], [1], [2, 1], [3, 2, 1], [], [5], [], [7], [8, 7], [6, 5, 9, 8, 7], [10, 6, 5, 9, 8, 7], [4, 3, 2, 1, 11, 10, 6, 5, 9, 8, 7], [0, 1, 2, 3, 4, 5, 6, 7, 8, 9, 10, 11, 12], [13, 0, 1, 2, 3, 4, 5, 6, 7, 8, 9, 10, 11, 12], [14, 13, 0, 1, 2, 3, 4, 5, 6, 7, 8, 9, 10, 11, 12]] [0, 1, 2, 3, 4, 5, 6, 7, 8, 9, 10, 11, 12, 13, 14, 15])
  (.seq (.reg [
    ⟨(some 262), none, .f (.fadr 4 (.t 4))⟩,
    ⟨(some 263), none, .f (.ld (.t 262))⟩,
    ⟨(some 264), none, .f (.bin .eql (.t 263) (.c (.int .i64 0)))⟩])
  (.cond (.t 264)
   (.seq (.reg [
     ⟨(some 265), none, .f (.ldA 11 (.t 4))⟩,
     ⟨(some 266), none, .x (.call 40 [(.t 265)])⟩,
     ⟨(some 15), none, .x (.zero 44 11 [(.int .i64 0), (.int .i64 0), (.bool false), (.bool false), (.int .i64 0), (.int .i64 0), (.int .i64 0), (.int .i64 0), (.int .i64 0), .nilslice, .nilslice])⟩,
     ⟨none, none, .x (.st 11 (.t 15) (.t 266))⟩])
   (.reg [
     ⟨(some 267), none, .f (.mv (.t 9))⟩,
     ⟨(some 268), none, .f (.nck (.t 267))⟩,
     ⟨(some 269), none, .f (.fadr 6 (.t 268))⟩,
     ⟨none, none, .x (.st 1 (.t 269) (.t 15))⟩]))
   .skip)))
  .skip))
 (.seq (.seq (.reg [
   ⟨(some 270), none, .f (.mv (.t 9))⟩,
   ⟨(some 271), none, .f (.nck (.t 270))⟩,
   ⟨(some 272), none, .f (.fadr 6 (.t 271))⟩,
   ⟨(some 273), none, .f (.ld (.t 272))⟩,
   ⟨(some 274), none, .f (.eqn .ptr false (.t 273) (.c .nilptr))⟩,
   ⟨(some 275), none, .f (.mv (.t 274))⟩,
   ⟨(some 276), (some (275, false)), .f (.mv (.t 9))⟩,
   ⟨(some 277), (some (275, false)), .f (.nck (.t 276))⟩,
   ⟨(some 278), (some (275, false)), .f (.fadr 5 (.t 277))⟩,
   ⟨(some 279), (some (275, false)), .f (.ld (.t 278))⟩,
   ⟨(some 280), (some (275, false)), .f (.bin .lss (.t 279) (.c (.int .i64 0)))⟩,
   ⟨(some 281), none, .f (.pick (.t 275) (.c (.bool true)) (.t 280))⟩])
 (.cond (.t 281)
  .ret
  .skip))
 (.seq (.seq (.dreg [
   ⟨(some 282), none, .f (.mv (.t 9))⟩,
   ⟨(some 283), none, .f (.nck (.t 282))⟩,
   ⟨(some 284), none, .f (.fadr 6 (.t 283))⟩,
   ⟨(some 285), none, .f (.ld (.t 284))⟩,
   ⟨(some 286), none, .f (.nck (.t 285))⟩,
   ⟨(some 287), none, .f (.fadr 9 (.t 286))⟩,
   ⟨(some 288), none, .f (.ld (.t 287))⟩,
   ⟨(some 289), none, .f (.len (.t 288))⟩,
   ⟨(some 290), none, .f (.bin .add (.c (.int .i64 20)) (.t 289))⟩,
   ⟨(some 291), none, .f (.mv (.t 9))⟩,
   ⟨(some 292), none, .f (.nck (.t 291))⟩,
   ⟨(some 293), none, .f (.fadr 5 (.t 292))⟩,
   ⟨(some 294), none, .f (.ld (.t 293))⟩,
   ⟨(some 295), none, .f (.bin .add (.t 290) (.t 294))⟩,
   ⟨(some 296), none, .f (.bin .gtr (.t 295) (.c (.int .i64 65535)))⟩]
   [false, false, false, false, false, false, false, false, false, false, false, false, false, false, false] [[], [0], [1, 0], [2, 1, 0], [3, 2, 1, 0], [4, 3, 2, 1, 0], [5, 4, 3, 2, 1, 0], [6, 5, 4, 3, 2, 1, 0], [7, 6, 5, 4, 3, 2, 1, 0], [], [9], [10, 9], [11, 10, 9], [8, 7, 6, 5, 4, 3, 2, 1, 0, 12, 11, 10, 9], [13, 8, 7, 6, 5, 4, 3, 2, 1, 0, 12, 11, 10, 9]] [0, 1, 2, 3, 4, 5, 6, 7, 8, 9, 10, 11, 12, 13, 14])
 (.cond (.t 296)
  (.seq (.reg [
    ⟨(some 297), none, .f (.mv (.t 9))⟩,
    ⟨(some 298), none, .x (.call 74 [(.t 297)])⟩])
  .ret)
  .skip))
 (.seq (.reg [
   ⟨(some 16), none, .f (.mv (.c (.int .i64 0)))⟩])
 (.seq (.seq (.reg [
   ⟨(some 299), none, .f (.mv (.t 9))⟩,
   ⟨(some 300), none, .f (.nck (.t 299))⟩,
   ⟨(some 301), none, .f (.fadr 4 (.t 300))⟩,
   ⟨(some 302), none, .f (.ld (.t 301))⟩,
   ⟨(some 303), none, .f (.len (.t 302))⟩,
   ⟨(some 304), none, .f (.mv (.c (.int .i64 0)))⟩])
 (.block 2 (.loop (.seq (.reg [
     ⟨(some 305), none, .f (.bin .lss (.t 304) (.t 303))⟩])
   (.seq (.cond (.t 305)
    .skip
    (.exit 2))
   (.seq (.block 3 (.seq (.reg [
      ⟨(some 306), none, .f (.iadr 2 (.t 302) (.t 304))⟩,
      ⟨(some 307), none, .f (.ldA 2 (.t 306))⟩,
      ⟨(some 18), none, .x (.zero 116 2 [(.int .i64 0), .nilslice])⟩,
      ⟨none, none, .x (.st 2 (.t 18) (.t 307))⟩])
    (.reg [
      ⟨(some 308), none, .f (.mv (.t 16))⟩,
      ⟨(some 309), none, .f (.fadr 1 (.t 18))⟩,
      ⟨(some 310), none, .f (.ld (.t 309))⟩,
      ⟨(some 311), none, .f (.len (.t 310))⟩,
      ⟨(some 312), none, .f (.bin .add (.t 308) (.t 311))⟩,
      ⟨(some 16), none, .f (.mv (.t 312))⟩])))
   (.reg [
     ⟨(some 313), none, .f (.bin .add (.t 304) (.c (.int .i64 1)))⟩,
     ⟨(some 304), none, .f (.mv (.t 313))⟩])))))))
 (.seq (.seq (.reg [
   ⟨(some 314), none, .f (.mv (.t 16))⟩,
   ⟨(some 315), none, .f (.mv (.t 9))⟩,
   ⟨(some 316), none, .f (.nck (.t 315))⟩,
   ⟨(some 317), none, .f (.fadr 5 (.t 316))⟩,
   ⟨(some 318), none, .f (.ld (.t 317))⟩,
   ⟨(some 319), none, .f (.bin .lss (.t 314) (.t 318))⟩])
 (.cond (.t 319)
  .ret
  .skip))
 (.seq (.reg [
   ⟨(some 320), none, .f (.mv (.t 2))⟩,
   ⟨(some 321), none, .f (.nck (.t 320))⟩,
   ⟨(some 322), none, .f (.fadr 1 (.t 321))⟩,
   ⟨none, none, .x (.st 1 (.t 322) (.c (.bool true)))⟩])
 (.seq (.reg [
   ⟨(some 323), none, .f (.mv (.t 2))⟩,
   ⟨(some 324), none, .f (.mv (.t 9))⟩,
   ⟨(some 325), none, .f (.nck (.t 324))⟩,
   ⟨(some 326), none, .f (.fadr 6 (.t 325))⟩,
   ⟨(some 327), none, .f (.ld (.t 326))⟩,
   ⟨(some 328), none, .f (.nck (.t 327))⟩,
   ⟨(some 329), none, .f (.ldA 11 (.t 328))⟩,
   ⟨(some 330), none, .f (.nck (.t 323))⟩,
   ⟨(some 331), none, .f (.fadr 2 (.t 330))⟩,
   ⟨none, none, .x (.st 11 (.t 331) (.t 329))⟩])
 (.seq (.reg [
   ⟨(some 332), none, .f (.mv (.t 2))⟩,
   ⟨(some 333), none, .f (.nck (.t 332))⟩,
   ⟨(some 334), none, .f (.fadr 2 (.t 333))⟩,
   ⟨(some 335), none, .f (.fadr 3 (.t 334))⟩,
   ⟨none, none, .x (.st 1 (.t 335) (.c (.bool false)))⟩])
 (.seq (.reg [
   ⟨(some 336), none, .f (.mv (.t 2))⟩,
   ⟨(some 337), none, .f (.mv (.t 9))⟩,
   ⟨(some 338), none, .f (.nck (.t 337))⟩,
   ⟨(some 339), none, .f (.fadr 5 (.t 338))⟩,
   ⟨(some 340), none, .f (.ld (.t 339))⟩,
   ⟨(some 341), none, .x (.mks 5 1 1 [(.int .u8 0)] (.t 340) (.t 340))⟩,
   ⟨(some 342), none, .f (.nck (.t 336))⟩,
   ⟨(some 343), none, .f (.fadr 2 (.t 342))⟩,
   ⟨(some 344), none, .f (.fadr 10 (.t 343))⟩,
   ⟨none, none, .x (.st 1 (.t 344) (.t 341))⟩])
 (.seq (.seq (.reg [
   ⟨(some 345), none, .f (.mv (.t 9))⟩,
   ⟨(some 346), none, .f (.nck (.t 345))⟩,
   ⟨(some 347), none, .f (.fadr 4 (.t 346))⟩,
   ⟨(some 348), none, .f (.ld (.t 347))⟩,
   ⟨(some 349), none, .f (.len (.t 348))⟩,
   ⟨(some 350), none, .f (.mv (.c (.int .i64 0)))⟩])
 (.block 4 (.loop (.seq (.reg [
     ⟨(some 351), none, .f (.bin .lss (.t 350) (.t 349))⟩])
   (.seq (.cond (.t 351)
    .skip
    (.exit 4))
   (.seq (.block 5 (.seq (.reg [
      ⟨(some 352), none, .f (.iadr 2 (.t 348) (.t 350))⟩,
      ⟨(some 353), none, .f (.ldA 2 (.t 352))⟩,
      ⟨(some 20), none, .x (.zero 116 2 [(.int .i64 0), .nilslice])⟩,
      ⟨none, none, .x (.st 2 (.t 20) (.t 353))⟩])
    (.dreg [
      ⟨(some 354), none, .f (.mv (.t 2))⟩,
      ⟨(some 355), none, .f (.nck (.t 354))⟩,
      ⟨(some 356), none, .f (.fadr 2 (.t 355))⟩,
      ⟨(some 357), none, .f (.fadr 10 (.t 356))⟩,
      ⟨(some 358), none, .f (.ld (.t 357))⟩,
      ⟨(some 359), none, .f (.fadr 0 (.t 20))⟩,
      ⟨(some 360), none, .f (.ld (.t 359))⟩,
      ⟨(some 361), none, .f (.slc 1 (.t 358) (some (.t 360)) none none)⟩,
      ⟨(some 362), none, .f (.fadr 1 (.t 20))⟩,
      ⟨(some 363), none, .f (.ld (.t 362))⟩,
      ⟨(some 364), none, .x (.copy 1 (.t 361) (.t 363))⟩]
      [false, false, false, false, false, false, false, false, false, false, true] [[], [0], [1, 0], [2, 1, 0], [3, 2, 1, 0], [], [5], [4, 3, 2, 1, 0, 6, 5], [], [8], [7, 4, 3, 2, 1, 0, 6, 5, 9, 8]] [0, 1, 2, 3, 4, 5, 6, 7, 8, 9, 10])))
   (.reg [
     ⟨(some 365), none, .f (.bin .add (.t 350) (.c (.int .i64 1)))⟩,
     ⟨(some 350), none, .f (.mv (.t 365))⟩])))))))
 (.reg [
   ⟨(some 366), none, .f (.mv (.t 0))⟩,
   ⟨(some 367), none, .f (.mv (.t 0))⟩,
   ⟨(some 368), none, .f (.nck (.t 367))⟩,
   ⟨(some 369), none, .f (.fadr 1 (.t 368))⟩,
   ⟨(some 370), none, .f (.ld (.t 369))⟩,
   ⟨(some 371), none, .f (.mv (.t 8))⟩,
   ⟨(some 372), none, .f (.mv (.t 8))⟩,
   ⟨(some 373), none, .f (.bin .add (.t 372) (.c (.int .i64 1)))⟩,
   ⟨(some 374), none, .x (.call 72 [(.t 370), (.t 371), (.t 373)])⟩,
   ⟨(some 375), none, .f (.nck (.t 366))⟩,
   ⟨(some 376), none, .f (.fadr 1 (.t 375))⟩,
   ⟨none, none, .x (.st 1 (.t 376) (.t 374))⟩]))))))))))))))))))))))))))
theorem ok54 : fnComp Try.prog 54 = some (377, c54, []) := by kernel_rfl

/-- loop.example/g00003/impl.isTime -/
def c55 : CC :=
 (.seq (.reg [
   ⟨(some 4), none, .f (.mv (.c (.bool false)))⟩])
 (.seq (.reg [
   ⟨(some 5), none, .f (.mv (.t 1))⟩,
   ⟨(some 6), none, .f (.bin .geq (.t 5) (.c (.int .i64 0)))⟩,
   ⟨(some 7), none, .f (.mv (.t 6))⟩,
   ⟨(some 8), (some (7, true)), .f (.mv (.t 1))⟩,
   ⟨(some 9), (some (7, true)), .f (.bin .leq (.t 8) (.c (.int .i64 1000000000)))⟩,
   ⟨(some 10), none, .f (.pick (.t 7) (.t 9) (.c (.bool false)))⟩,
   ⟨(some 11), none, .f (.mv (.t 10))⟩,
   ⟨(some 12), (some (11, true)), .f (.mv (.t 0))⟩,
   ⟨(some 13), (some (11, true)), .f (.mv (.t 1))⟩,
   ⟨(some 14), (some (11, true)), .f (.bin .add (.t 12) (.t 13))⟩,
   ⟨(some 15), (some (11, true)), .f (.bin .leq (.t 14) (.c (.int .i64 1000000000)))⟩,
   ⟨(some 16), none, .f (.pick (.t 11) (.t 15) (.c (.bool false)))⟩,
   ⟨(some 4), none, .f (.mv (.t 16))⟩])
 .ret))
theorem ok55 : fnComp Try.prog 55 = some (17, c55, [(.mv (.t 4))]) := by kernel_rfl

/-- (*loop.example/g00003/impl.reasm).past -/
def c56 : CC :=
 (.seq (.reg [
   ⟨(some 2), none, .f (.mv (.c .nilslice))⟩])
 (.seq (.reg [
   ⟨(some 3), none, .f (.mv (.c .nilslice))⟩,
   ⟨(some 4), none, .f (.mv (.c .nilslice))⟩])
 (.seq (.seq (.reg [
   ⟨(some 7), none, .f (.mv (.t 0))⟩,
   ⟨(some 8), none, .f (.nck (.t 7))⟩,
   ⟨(some 9), none, .f (.fadr 1 (.t 8))⟩,
   ⟨(some 10), none, .f (.ld (.t 9))⟩,
   ⟨(some 11), none, .f (.len (.t 10))⟩,
   ⟨(some 12), none, .f (.mv (.c (.int .i64 0)))⟩])
 (.block 0 (.loop (.seq (.reg [
     ⟨(some 13), none, .f (.bin .lss (.t 12) (.t 11))⟩])
   (.seq (.cond (.t 13)
    .skip
    (.exit 0))
   (.seq (.block 1 (.seq (.reg [
      ⟨(some 14), none, .f (.iadr 1 (.t 10) (.t 12))⟩,
      ⟨(some 15), none, .f (.ld (.t 14))⟩,
      ⟨(some 6), none, .f (.mv (.t 15))⟩])
    (.seq (.dreg [
      ⟨(some 16), none, .f (.mv (.t 6))⟩,
      ⟨(some 17), none, .f (.nck (.t 16))⟩,
      ⟨(some 18), none, .f (.fadr 7 (.t 17))⟩,
      ⟨(some 19), none, .f (.ld (.t 18))⟩,
      ⟨(some 20), none, .f (.bin .add (.t 19) (.c (.int .i64 30000)))⟩,
      ⟨(some 21), none, .f (.mv (.t 0))⟩,
      ⟨(some 22), none, .f (.nck (.t 21))⟩,
      ⟨(some 23), none, .f (.fadr 0 (.t 22))⟩,
      ⟨(some 24), none, .f (.ld (.t 23))⟩,
      ⟨(some 25), none, .f (.bin .leq (.t 20) (.t 24))⟩]
      [false, false, false, false, false, false, false, false, false, false] [[], [0], [1, 0], [2, 1, 0], [3, 2, 1, 0], [], [5], [6, 5], [7, 6, 5], [4, 3, 2, 1, 0, 8, 7, 6, 5]] [0, 1, 2, 3, 4, 5, 6, 7, 8, 9])
    (.cond (.t 25)
     (.reg [
       ⟨(some 26), none, .f (.mv (.t 3))⟩,
       ⟨(some 27), none, .f (.mv (.t 6))⟩,
       ⟨(some 28), none, .x (.bslice 105 1 [.nilptr] 1 [(0, (.t 27))])⟩,
       ⟨(some 29), none, .x (.app 105 1 8 (.t 26) (.t 28))⟩,
       ⟨(some 3), none, .f (.mv (.t 29))⟩])
     (.reg [
       ⟨(some 30), none, .f (.mv (.t 4))⟩,
       ⟨(some 31), none, .f (.mv (.t 6))⟩,
       ⟨(some 32), none, .x (.bslice 105 1 [.nilptr] 1 [(0, (.t 31))])⟩,
       ⟨(some 33), none, .x (.app 105 1 8 (.t 30) (.t 32))⟩,
       ⟨(some 4), none, .f (.mv (.t 33))⟩])))))
   (.reg [
     ⟨(some 34), none, .f (.bin .add (.t 12) (.c (.int .i64 1)))⟩,
     ⟨(some 12), none, .f (.mv (.t 34))⟩])))))))
 (.seq (.reg [
   ⟨(some 35), none, .f (.mv (.t 0))⟩,
   ⟨(some 36), none, .f (.mv (.t 4))⟩,
   ⟨(some 37), none, .f (.nck (.t 35))⟩,
   ⟨(some 38), none, .f (.fadr 1 (.t 37))⟩,
   ⟨none, none, .x (.st 1 (.t 38) (.t 36))⟩])
 (.seq (.reg [
   ⟨(some 39), none, .f (.mv (.t 3))⟩,
   ⟨(some 2), none, .f (.mv (.t 39))⟩])
 .ret)))))
theorem ok56 : fnComp Try.prog 56 = some (40, c56, [(.mv (.t 2))]) := by kernel_rfl

/-- (*loop.example/g00003/impl.making).told -/
def c57 : CC :=
 (.seq (.reg [
   ⟨(some 2), none, .x (.zero 113 5 [(.int .i64 0), (.int .i64 0), (.int .i64 0), (.int .i64 0), (.bool false)])⟩])
 (.seq (.dreg [
   ⟨(some 3), none, .f (.mv (.t 0))⟩,
   ⟨(some 4), none, .f (.nck (.t 3))⟩,
   ⟨(some 5), none, .f (.fadr 0 (.t 4))⟩,
   ⟨(some 6), none, .f (.fadr 0 (.t 5))⟩,
   ⟨(some 7), none, .f (.ld (.t 6))⟩,
   ⟨(some 8), none, .f (.mv (.t 0))⟩,
   ⟨(some 9), none, .f (.nck (.t 8))⟩,
   ⟨(some 10), none, .f (.fadr 0 (.t 9))⟩,
   ⟨(some 11), none, .f (.fadr 1 (.t 10))⟩,
   ⟨(some 12), none, .f (.ld (.t 11))⟩,
   ⟨(some 13), none, .f (.mv (.t 0))⟩,
   ⟨(some 14), none, .f (.nck (.t 13))⟩,
   ⟨(some 15), none, .f (.fadr 0 (.t 14))⟩,
   ⟨(some 16), none, .f (.fadr 2 (.t 15))⟩,
   ⟨(some 17), none, .f (.ld (.t 16))⟩,
   ⟨(some 18), none, .f (.mv (.t 0))⟩,
   ⟨(some 19), none, .f (.nck (.t 18))⟩,
   ⟨(some 20), none, .f (.fadr 0 (.t 19))⟩,
   ⟨(some 21), none, .f (.fadr 3 (.t 20))⟩,
   ⟨(some 22), none, .f (.ld (.t 21))⟩,
   ⟨(some 23), none, .f (.mv (.t 0))⟩,
   ⟨(some 24), none, .f (.nck (.t 23))⟩,
   ⟨(some 25), none, .f (.fadr 6 (.t 24))⟩,
   ⟨(some 26), none, .f (.ld (.t 25))⟩,
   ⟨(some 27), none, .f (.eqn .ptr true (.t 26) (.c .nilptr))⟩,
   ⟨(some 28), none, .f (.build [(.int .i64 0), (.int .i64 0), (.int .i64 0), (.int .i64 0), (.bool false)] [(0, 1, (.t 7)), (1, 1, (.t 12)), (2, 1, (.t 17)), (3, 1, (.t 22)), (4, 1, (.t 27))])⟩,
   ⟨none, none, .x (.st 5 (.t 2) (.t 28))⟩]
   [false, false, false, false, false, false, false, false, false, false, false, false, false, false, false, false, false, false, false, false, false, false, false, false, false, false, true] [[], [0], [1, 0], [2, 1, 0], [3, 2, 1, 0], [], [5], [6, 5], [7, 6, 5], [8, 7, 6, 5], [], [10], [11, 10], [12, 11, 10], [13, 12, 11, 10], [], [15], [16, 15], [17, 16, 15], [18, 17, 16, 15], [], [20], [21, 20], [22, 21, 20], [23, 22, 21, 20], [4, 3, 2, 1, 0, 9, 8, 7, 6, 5, 14, 13, 12, 11, 10, 19, 18, 17, 16, 15, 24, 23, 22, 21, 20], [25, 4, 3, 2, 1, 0, 9, 8, 7, 6, 5, 14, 13, 12, 11, 10, 19, 18, 17, 16, 15, 24, 23, 22, 21, 20]] [0, 1, 2, 3, 4, 5, 6, 7, 8, 9, 10, 11, 12, 13, 14, 15, 16, 17, 18, 19, 20, 21, 22, 23, 24, 25, 26])
 .ret))
theorem ok57 : fnComp Try.prog 57 = some (29, c57, [(.ldA 5 (.t 2))]) := by kernel_rfl

/-- loop.example/g00003/impl.isAddr -/
def c60 : CC :=
 (.seq (.reg [
   ⟨(some 2), none, .f (.mv (.c (.bool false)))⟩])
 (.seq (.reg [
   ⟨(some 3), none, .f (.mv (.t 0))⟩,
   ⟨(some 4), none, .f (.bin .geq (.t 3) (.c (.int .i64 0)))⟩,
   ⟨(some 5), none, .f (.mv (.t 4))⟩,
   ⟨(some 6), (some (5, true)), .f (.mv (.t 0))⟩,
   ⟨(some 7), (some (5, true)), .f (.bin .leq (.t 6) (.c (.int .i64 4294967295)))⟩,
   ⟨(some 8), none, .f (.pick (.t 5) (.t 7) (.c (.bool false)))⟩,
   ⟨(some 2), none, .f (.mv (.t 8))⟩])
 .ret))
theorem ok60 : fnComp Try.prog 60 = some (9, c60, [(.mv (.t 2))]) := by kernel_rfl

/-- slices.IndexFunc[[]*loop.example/g00003/impl.making,*loop.example/g00003/impl.making] -/
def c70 : CC :=
 (.seq (.reg [
   ⟨(some 4), none, .f (.mv (.c (.int .i64 0)))⟩])
 (.seq (.seq (.reg [
   ⟨(some 6), none, .f (.mv (.t 0))⟩,
   ⟨(some 7), none, .f (.len (.t 6))⟩,
   ⟨(some 8), none, .f (.mv (.c (.int .i64 0)))⟩])
 (.block 0 (.loop (.seq (.reg [
     ⟨(some 9), none, .f (.bin .lss (.t 8) (.t 7))⟩])
   (.seq (.cond (.t 9)
    .skip
    (.exit 0))
   (.seq (.block 1 (.seq (.reg [
      ⟨(some 10), none, .f (.mv (.t 8))⟩,
      ⟨(some 5), none, .f (.mv (.t 10))⟩])
    (.seq (.reg [
      ⟨(some 11), none, .f (.mv (.t 1))⟩,
      ⟨(some 12), none, .f (.mv (.t 0))⟩,
      ⟨(some 13), none, .f (.mv (.t 5))⟩,
      ⟨(some 14), none, .f (.iadr 1 (.t 12) (.t 13))⟩,
      ⟨(some 15), none, .f (.ld (.t 14))⟩,
      ⟨(some 16), none, .x (.callv (.t 11) [(.t 15)])⟩])
    (.cond (.t 16)
     (.seq (.reg [
       ⟨(some 17), none, .f (.mv (.t 5))⟩,
       ⟨(some 4), none, .f (.mv (.t 17))⟩])
     .ret)
     .skip))))
   (.reg [
     ⟨(some 18), none, .f (.bin .add (.t 8) (.c (.int .i64 1)))⟩,
     ⟨(some 8), none, .f (.mv (.t 18))⟩])))))))
 (.seq (.reg [
   ⟨(some 4), none, .f (.mv (.c (.int .i64 (-1))))⟩])
 .ret)))
theorem ok70 : fnComp Try.prog 70 = some (19, c70, [(.mv (.t 4))]) := by kernel_rfl

/-- (*loop.example/g00003/impl.reasm).take$1 -/
def c71 : CC :=
 (.seq (.reg [
   ⟨(some 3), none, .f (.mv (.c (.bool false)))⟩])
 (.seq (.dreg [
   ⟨(some 4), none, .f (.mv (.t 0))⟩,
   ⟨(some 5), none, .f (.nck (.t 4))⟩,
   ⟨(some 6), none, .f (.fadr 0 (.t 5))⟩,
   ⟨(some 7), none, .f (.ldA 4 (.t 6))⟩,
   ⟨(some 8), none, .f (.ldA 4 (.t 1))⟩,
   ⟨(some 9), none, .f (.u (.aeq false [0, 0, 0, 0]) [(.t 7), (.t 8)])⟩,
   ⟨(some 3), none, .f (.mv (.t 9))⟩]
   [false, false, false, false, false, false, false] [[], [0], [1, 0], [2, 1, 0], [], [3, 2, 1, 0, 4], [5, 3, 2, 1, 0, 4]] [0, 1, 2, 3, 4, 5, 6])
 .ret))
theorem ok71 : fnComp Try.prog 71 = some (10, c71, [(.mv (.t 3))]) := by kernel_rfl

/-- bytes.Equal -/
def c73 : CC :=
 (.seq (.reg [
   ⟨(some 4), none, .f (.mv (.c (.bool false)))⟩])
 (.seq (.reg [
   ⟨(some 5), none, .f (.mv (.t 0))⟩,
   ⟨(some 6), none, .f (.b2s (.t 5))⟩,
   ⟨(some 7), none, .f (.mv (.t 1))⟩,
   ⟨(some 8), none, .f (.b2s (.t 7))⟩,
   ⟨(some 9), none, .f (.bin .eql (.t 6) (.t 8))⟩,
   ⟨(some 4), none, .f (.mv (.t 9))⟩])
 .ret))
theorem ok73 : fnComp Try.prog 73 = some (10, c73, [(.mv (.t 4))]) := by kernel_rfl

/-- (*loop.example/g00003/impl.making).refuse -/
def c74 : CC :=
 (.reg [
   ⟨(some 2), none, .f (.mv (.t 0))⟩,
   ⟨(some 3), none, .f (.mv (.t 0))⟩,
   ⟨(some 4), none, .f (.mv (.t 0))⟩,
   ⟨(some 5), none, .f (.mv (.t 0))⟩,
   ⟨(some 6), none, .f (.nck (.t 2))⟩,
   ⟨(some 7), none, .f (.fadr 8 (.t 6))⟩,
   ⟨none, none, .x (.st 1 (.t 7) (.c (.bool true)))⟩,
   ⟨(some 8), none, .f (.nck (.t 3))⟩,
   ⟨(some 9), none, .f (.fadr 4 (.t 8))⟩,
   ⟨none, none, .x (.st 1 (.t 9) (.c .nilslice))⟩,
   ⟨(some 10), none, .f (.nck (.t 4))⟩,
   ⟨(some 11), none, .f (.fadr 6 (.t 10))⟩,
   ⟨none, none, .x (.st 1 (.t 11) (.c .nilptr))⟩,
   ⟨(some 12), none, .f (.nck (.t 5))⟩,
   ⟨(some 13), none, .f (.fadr 5 (.t 12))⟩,
   ⟨none, none, .x (.st 1 (.t 13) (.c (.int .i64 (-1))))⟩])
theorem ok74 : fnComp Try.prog 74 = some (14, c74, []) := by kernel_rfl

end Go.Proofs.Ytjmmmmdpkfpojaa


namespace Go.Proofs.Ytjmmmmdpkfpojaa
open Go Go.IW

end Go.Proofs.Ytjmmmmdpkfpojaa



namespace Go.Proofs.Ytjmmmmdpkfpojaa
open Go Go.IW

theorem strRows_append (a b : List UInt8) : strRows (a ++ b) = strRows a ++ strRows b := by simp [strRows]
theorem strRows_len (a : List UInt8) : (strRows a).length = a.length := by simp [strRows]
end Go.Proofs.Ytjmmmmdpkfpojaa



namespace Go.Proofs.Ytjmmmmdpkfpojaa
open Go Go.IW

/-! When a reply is well. -/
def okAddr (a : Int) : Bool := decide (0 ≤ a) && decide (a ≤ 4294967295)
set_option maxRecDepth 20000 in
theorem isAddr_c (h : IH) (n : Int) : ICalls Try.prog 60 [.int .i64 n] h fun r h' => r = .bool (okAddr n) ∧ h' = h := by
  refine icalls (.of ok60) (Nat.le_of_ble_eq_true rfl) ?_
  unfold c60
  by_cases c1 : 0 ≤ n
  · have d1 : decide (0 ≤ n) = true := decide_eq_true c1
    simp only [d1, okAddr, Bool.true_and, Bool.false_and, go_sem, ↓act_zero, boxA_1, boxA_2, boxA_3, bslA_1, Hold.p, HoldK.k, HoldL.K, HoldL.body, Nat.reduceBEq, Nat.reduceAdd, List.getElem?_cons_zero, List.getElem?_cons_succ, Option.bind_some, List.map_cons, List.map_nil, Nat.zero_add, if_true, List.getD_cons_zero, List.getD_cons_succ, List.contains_cons, List.contains_nil, Nat.reduceBEq, Bool.or_true, Bool.true_or, Bool.or_false, Bool.false_or, Bool.not_true, Bool.not_false, true_and, and_true]
  · have d1 : decide (0 ≤ n) = false := decide_eq_false c1
    simp only [d1, okAddr, Bool.true_and, Bool.false_and, go_sem, ↓act_zero, boxA_1, boxA_2, boxA_3, bslA_1, Hold.p, HoldK.k, HoldL.K, HoldL.body, Nat.reduceBEq, Nat.reduceAdd, List.getElem?_cons_zero, List.getElem?_cons_succ, Option.bind_some, List.map_cons, List.map_nil, Nat.zero_add, if_true, List.getD_cons_zero, List.getD_cons_succ, List.contains_cons, List.contains_nil, Nat.reduceBEq, Bool.or_true, Bool.true_or, Bool.or_false, Bool.false_or, Bool.not_true, Bool.not_false, true_and, and_true]

end Go.Proofs.Ytjmmmmdpkfpojaa


namespace Go.Proofs.Ytjmmmmdpkfpojaa
open Go Go.IW
def t_Packet : Ty := .cat (.int .i64) (.cat (.int .i64) (.cat .bool (.cat .bool (.cat (.int .i64) (.cat (.int .i64) (.cat (.int .i64) (.cat (.int .i64) (.cat (.int .i64) (.cat (.slice 5 (.int .u8)) (.cat (.slice 5 (.int .u8)) (.nil)))))))))))
def t_ReasmEnd : Ty := .cat (.int .i64) (.cat (.int .i64) (.cat (.int .i64) (.cat (.int .i64) (.cat .bool (.nil)))))
def t_ReasmOut : Ty := .cat (.int .i64) (.cat .bool (.cat t_Packet (.cat (.slice 113 t_ReasmEnd) (.cat (.int .i64) (.cat (.int .i64) (.nil))))))
end Go.Proofs.Ytjmmmmdpkfpojaa

set_option maxRecDepth 20000
namespace Go.Proofs.Ytjmmmmdpkfpojaa
open Go Go.IW
section
attribute [local go_sem] boxA_1 boxA_2 boxA_3 bslA_1 List.getElem?_cons_zero List.getElem?_cons_succ Option.bind_some List.map_cons List.map_nil Nat.zero_add if_true List.getD_cons_zero List.getD_cons_succ List.contains_cons List.contains_nil Bool.or_true Bool.true_or Bool.or_false Bool.false_or Bool.not_true Bool.not_false true_and and_true rowA_whole mid_get stO_mid rowO_rows cellO_rows push_n set_n push_at push_old set_here set_there set_pushT set_pushN set_set upd_ne Nat.add_assoc Nat.add_zero stO_1s stO_ws boxA_s List.all_cons List.all_nil one_bool one_int one_str one_ptr one_nilptr one_slice one_eslice one_nilslice one_func one_iface one_niliface Bool.and_true Bool.and_self List.length_cons List.length_nil Nat.one_ne_zero Nat.succ_ne_zero if_false List.set_cons_zero List.set_cons_succ lay_nil lay_1 lay_w Option.map_some

abbrev Txt := List UInt8
/-- A packet. -/
structure Pk where
  tos : Int
  id : Int
  df : Bool
  mf : Bool
  off : Int
  ttl : Int
  proto : Int
  src : Int
  dst : Int
  opts : List UInt8
  pay : List UInt8
  deriving Inhabited
def pkRow (p : Pk) (vo vp : IV) : List IV := [.int .i64 p.tos, .int .i64 p.id, .bool p.df, .bool p.mf, .int .i64 p.off, .int .i64 p.ttl, .int .i64 p.proto, .int .i64 p.src, .int .i64 p.dst, vo, vp]
abbrev pkObj (p : Pk) (vo vp : IV) : IObj := .rows [[.int .i64 p.tos, .int .i64 p.id, .bool p.df, .bool p.mf, .int .i64 p.off, .int .i64 p.ttl, .int .i64 p.proto, .int .i64 p.src, .int .i64 p.dst, vo, vp]] 44 11 false
abbrev pkO0 : IObj := .rows [[.int .i64 0, .int .i64 0, .bool false, .bool false, .int .i64 0, .int .i64 0, .int .i64 0, .int .i64 0, .int .i64 0, .nilslice, .nilslice]] 44 11 false
/-- When a packet is well. -/
def okIPb (p : Pk) : Bool :=
  decide (0 ≤ p.tos) && decide (p.tos ≤ 255) && decide (0 ≤ p.ttl) && decide (p.ttl ≤ 255) && decide (0 ≤ p.proto) && decide (p.proto ≤ 255) && decide (0 ≤ p.id) && decide (p.id ≤ 65535) &&
    decide (0 ≤ p.off) && decide (p.off ≤ 65528) && decide (p.off.tmod 8 = 0) && okAddr p.src && okAddr p.dst && decide ((p.opts.length : Int) ≤ 40) && decide ((p.opts.length : Int).tmod 4 = 0)
def codeB (p : Pk) : Int := if okIPb p = false then 1 else if 65535 < 20 + (p.opts.length : Int) + p.pay.length ∨ 65535 < p.off + p.pay.length then 7 else 0
/-- A packet's cells and what they name. -/
structure PkAt (h : IH) (p : Pk) (vo vp : IV) : Prop where
  o : SlR h 1 vo (strRows p.opts)
  p : SlR h 1 vp (strRows p.pay)
theorem PkAt.ext {h h' : IH} {p : Pk} {vo vp : IV} (a : PkAt h p vo vp) (E : Ext h h') : PkAt h' p vo vp := ⟨a.o.ext E, a.p.ext E⟩

theorem okIP_c (h : IH) (p : Pk) (vo vp : IV) (a : PkAt h p vo vp) : ICalls Try.prog 43 [.agg (pkRow p vo vp)] h fun r h' => r = .bool (okIPb p) ∧ Ext h h' := by
  refine icalls (.of ok43) (Nat.le_of_ble_eq_true rfl) ?_
  unfold c43 pkRow
  have v1 := a.o.one
  have v2 := a.p.one
  have l1 := a.o.lenF
  rw [strRows_len] at l1
  have r8 := ib_rem .i64 p.off 8 (by decide)
  have r4 := ib_rem .i64 (p.opts.length : Int) 4 (by decide)
  simp (disch := (first | omega | assumption | (simp only [push_n, set_n, put_n, List.length_cons, List.length_nil, List.length_append, Nat.reduceAdd]; done) | (simp only [push_n, set_n, put_n, List.length_cons, List.length_nil, List.length_append]; omega) | (simp only [List.all_cons, List.all_nil, one_bool, one_int, one_str, one_ptr, one_nilptr, one_slice, one_eslice, one_nilslice, one_func, one_iface, one_niliface, Bool.and_true, Bool.true_and, List.getD_cons_zero, List.getD_cons_succ, List.contains_cons, List.contains_nil, Bool.or_true, Bool.true_or, Bool.or_false, Bool.false_or, Nat.reduceBEq, *]; done) | fail)) only [v1, v2, go_sem, ↓act_zero, Hold.p, HoldK.k, HoldL.K, HoldL.body, Nat.reduceBEq, Nat.reduceAdd, reduceIte]
  generalize hq_g : IH.push h (pkObj p vo vp) = g
  have e_g : Ext h g := by rw [← hq_g]; exact (Ext.refl _).push _
  have l_g : g.n = h.n + 1 := by rw [← hq_g]; rfl
  have b : At g h.n (pkObj p vo vp) := by rw [← hq_g]; exact At.new _ _
  clear hq_g
  have q := b.eq
  simp (disch := (first | omega | assumption | (simp only [push_n, set_n, put_n, List.length_cons, List.length_nil, List.length_append, Nat.reduceAdd]; done) | (simp only [push_n, set_n, put_n, List.length_cons, List.length_nil, List.length_append]; omega) | (simp only [List.all_cons, List.all_nil, one_bool, one_int, one_str, one_ptr, one_nilptr, one_slice, one_eslice, one_nilslice, one_func, one_iface, one_niliface, Bool.and_true, Bool.true_and, List.getD_cons_zero, List.getD_cons_succ, List.contains_cons, List.contains_nil, Bool.or_true, Bool.true_or, Bool.or_false, Bool.false_or, Nat.reduceBEq, *]; done) | fail)) only [q, r8, go_sem, ↓act_zero, Hold.p, HoldK.k, HoldL.K, HoldL.body, Nat.reduceBEq, Nat.reduceAdd, reduceIte]
  refine guard_pureT (v := .bool (okAddr p.src)) (fun hb => ?_) ?_
  · simp (disch := (first | omega | assumption | (simp only [push_n, set_n, put_n, List.length_cons, List.length_nil, List.length_append, Nat.reduceAdd]; done) | (simp only [push_n, set_n, put_n, List.length_cons, List.length_nil, List.length_append]; omega) | (simp only [List.all_cons, List.all_nil, one_bool, one_int, one_str, one_ptr, one_nilptr, one_slice, one_eslice, one_nilslice, one_func, one_iface, one_niliface, Bool.and_true, Bool.true_and, List.getD_cons_zero, List.getD_cons_succ, List.contains_cons, List.contains_nil, Bool.or_true, Bool.true_or, Bool.or_false, Bool.false_or, Nat.reduceBEq, *]; done) | fail)) only [hb, go_sem, ↓act_zero, Hold.p, HoldK.k, HoldL.K, HoldL.body, Nat.reduceBEq, Nat.reduceAdd, reduceIte]
    exact isAddr_c _ p.src
  simp (disch := (first | omega | assumption | (simp only [push_n, set_n, put_n, List.length_cons, List.length_nil, List.length_append, Nat.reduceAdd]; done) | (simp only [push_n, set_n, put_n, List.length_cons, List.length_nil, List.length_append]; omega) | (simp only [List.all_cons, List.all_nil, one_bool, one_int, one_str, one_ptr, one_nilptr, one_slice, one_eslice, one_nilslice, one_func, one_iface, one_niliface, Bool.and_true, Bool.true_and, List.getD_cons_zero, List.getD_cons_succ, List.contains_cons, List.contains_nil, Bool.or_true, Bool.true_or, Bool.or_false, Bool.false_or, Nat.reduceBEq, *]; done) | fail)) only [q, go_sem, ↓act_zero, Hold.p, HoldK.k, HoldL.K, HoldL.body, Nat.reduceBEq, Nat.reduceAdd, reduceIte]
  refine guard_pureT (v := .bool (okAddr p.dst)) (fun hb => ?_) ?_
  · simp (disch := (first | omega | assumption | (simp only [push_n, set_n, put_n, List.length_cons, List.length_nil, List.length_append, Nat.reduceAdd]; done) | (simp only [push_n, set_n, put_n, List.length_cons, List.length_nil, List.length_append]; omega) | (simp only [List.all_cons, List.all_nil, one_bool, one_int, one_str, one_ptr, one_nilptr, one_slice, one_eslice, one_nilslice, one_func, one_iface, one_niliface, Bool.and_true, Bool.true_and, List.getD_cons_zero, List.getD_cons_succ, List.contains_cons, List.contains_nil, Bool.or_true, Bool.true_or, Bool.or_false, Bool.false_or, Nat.reduceBEq, *]; done) | fail)) only [hb, go_sem, ↓act_zero, Hold.p, HoldK.k, HoldL.K, HoldL.body, Nat.reduceBEq, Nat.reduceAdd, reduceIte]
    exact isAddr_c _ p.dst
  simp (disch := (first | omega | assumption | (simp only [push_n, set_n, put_n, List.length_cons, List.length_nil, List.length_append, Nat.reduceAdd]; done) | (simp only [push_n, set_n, put_n, List.length_cons, List.length_nil, List.length_append]; omega) | (simp only [List.all_cons, List.all_nil, one_bool, one_int, one_str, one_ptr, one_nilptr, one_slice, one_eslice, one_nilslice, one_func, one_iface, one_niliface, Bool.and_true, Bool.true_and, List.getD_cons_zero, List.getD_cons_succ, List.contains_cons, List.contains_nil, Bool.or_true, Bool.true_or, Bool.or_false, Bool.false_or, Nat.reduceBEq, *]; done) | fail)) only [q, l1, r4, go_sem, ↓act_zero, Hold.p, HoldK.k, HoldL.K, HoldL.body, Nat.reduceBEq, Nat.reduceAdd, reduceIte]
  exact ⟨rfl, e_g⟩

theorem codeIP_c (h : IH) (p : Pk) (vo vp : IV) (a : PkAt h p vo vp) (hl : p.opts.length + p.pay.length ≤ 8388608) (ho : -9223372036854775808 ≤ p.off) : ICalls Try.prog 39 [.agg (pkRow p vo vp)] h fun r h' => r = .int .i64 (codeB p) ∧ Ext h h' := by
  refine icalls (.of ok39) (Nat.le_of_ble_eq_true rfl) ?_
  unfold c39 pkRow
  have v1 := a.o.one
  have v2 := a.p.one
  have l1 := a.o.lenF
  have l2 := a.p.lenF
  rw [strRows_len] at l1 l2
  simp (disch := (first | omega | assumption | (simp only [push_n, set_n, put_n, List.length_cons, List.length_nil, List.length_append, Nat.reduceAdd]; done) | (simp only [push_n, set_n, put_n, List.length_cons, List.length_nil, List.length_append]; omega) | (simp only [List.all_cons, List.all_nil, one_bool, one_int, one_str, one_ptr, one_nilptr, one_slice, one_eslice, one_nilslice, one_func, one_iface, one_niliface, Bool.and_true, Bool.true_and, List.getD_cons_zero, List.getD_cons_succ, List.contains_cons, List.contains_nil, Bool.or_true, Bool.true_or, Bool.or_false, Bool.false_or, Nat.reduceBEq, *]; done) | fail)) only [v1, v2, go_sem, ↓act_zero, Hold.p, HoldK.k, HoldL.K, HoldL.body, Nat.reduceBEq, Nat.reduceAdd, reduceIte]
  generalize hq_g : IH.push h (pkObj p vo vp) = g
  have e_g : Ext h g := by rw [← hq_g]; exact (Ext.refl _).push _
  have l_g : g.n = h.n + 1 := by rw [← hq_g]; rfl
  have b : At g h.n (pkObj p vo vp) := by rw [← hq_g]; exact At.new _ _
  clear hq_g
  have a := a.ext e_g
  have q := b.eq
  try simp (disch := (first | omega | assumption | (simp only [push_n, set_n, put_n, List.length_cons, List.length_nil, List.length_append, Nat.reduceAdd]; done) | (simp only [push_n, set_n, put_n, List.length_cons, List.length_nil, List.length_append]; omega) | (simp only [List.all_cons, List.all_nil, one_bool, one_int, one_str, one_ptr, one_nilptr, one_slice, one_eslice, one_nilslice, one_func, one_iface, one_niliface, Bool.and_true, Bool.true_and, List.getD_cons_zero, List.getD_cons_succ, List.contains_cons, List.contains_nil, Bool.or_true, Bool.true_or, Bool.or_false, Bool.false_or, Nat.reduceBEq, *]; done) | fail)) only [q, go_sem, ↓act_zero, Hold.p, HoldK.k, HoldL.K, HoldL.body, Nat.reduceBEq, Nat.reduceAdd, reduceIte]
  refine callA_of (okIP_c g p vo vp a) ?_
  rintro r g2 ⟨rfl, E⟩
  have b := b.ext E
  have le_E := E.le
  have q := b.eq
  have hE := e_g.trans E
  simp (disch := (first | omega | assumption | (simp only [push_n, set_n, put_n, List.length_cons, List.length_nil, List.length_append, Nat.reduceAdd]; done) | (simp only [push_n, set_n, put_n, List.length_cons, List.length_nil, List.length_append]; omega) | (simp only [List.all_cons, List.all_nil, one_bool, one_int, one_str, one_ptr, one_nilptr, one_slice, one_eslice, one_nilslice, one_func, one_iface, one_niliface, Bool.and_true, Bool.true_and, List.getD_cons_zero, List.getD_cons_succ, List.contains_cons, List.contains_nil, Bool.or_true, Bool.true_or, Bool.or_false, Bool.false_or, Nat.reduceBEq, *]; done) | fail)) only [go_sem, ↓act_zero, Hold.p, HoldK.k, HoldL.K, HoldL.body, Nat.reduceBEq, Nat.reduceAdd, reduceIte]
  refine test_of (fun hb => ?_) (fun hb => ?_)
  · have hf : okIPb p = false := by rwa [Bool.not_eq_true'] at hb
    simp (disch := (first | omega | assumption | (simp only [push_n, set_n, put_n, List.length_cons, List.length_nil, List.length_append, Nat.reduceAdd]; done) | (simp only [push_n, set_n, put_n, List.length_cons, List.length_nil, List.length_append]; omega) | (simp only [List.all_cons, List.all_nil, one_bool, one_int, one_str, one_ptr, one_nilptr, one_slice, one_eslice, one_nilslice, one_func, one_iface, one_niliface, Bool.and_true, Bool.true_and, List.getD_cons_zero, List.getD_cons_succ, List.contains_cons, List.contains_nil, Bool.or_true, Bool.true_or, Bool.or_false, Bool.false_or, Nat.reduceBEq, *]; done) | fail)) only [go_sem, ↓act_zero, Hold.p, HoldK.k, HoldL.K, HoldL.body, Nat.reduceBEq, Nat.reduceAdd, reduceIte]
    exact ⟨by rw [codeB, if_pos hf], hE⟩
  · have hf : okIPb p = true := by rwa [Bool.not_eq_false'] at hb
    have w1 : wr .i64 (20 + (p.opts.length : Int)) = 20 + (p.opts.length : Int) := wr64 _ (by omega)
    have w2 : wr .i64 (20 + (p.opts.length : Int) + (p.pay.length : Int)) = 20 + (p.opts.length : Int) + p.pay.length := wr64 _ (by omega)
    have hoff : 0 ≤ p.off ∧ p.off ≤ 65528 := by
      unfold okIPb at hf
      simp only [Bool.and_eq_true, decide_eq_true_eq] at hf
      exact ⟨hf.1.1.1.1.1.1.2, hf.1.1.1.1.1.2⟩
    have w3 : wr .i64 (p.off + (p.pay.length : Int)) = p.off + p.pay.length := wr64 _ (by omega)
    simp (disch := (first | omega | assumption | (simp only [push_n, set_n, put_n, List.length_cons, List.length_nil, List.length_append, Nat.reduceAdd]; done) | (simp only [push_n, set_n, put_n, List.length_cons, List.length_nil, List.length_append]; omega) | (simp only [List.all_cons, List.all_nil, one_bool, one_int, one_str, one_ptr, one_nilptr, one_slice, one_eslice, one_nilslice, one_func, one_iface, one_niliface, Bool.and_true, Bool.true_and, List.getD_cons_zero, List.getD_cons_succ, List.contains_cons, List.contains_nil, Bool.or_true, Bool.true_or, Bool.or_false, Bool.false_or, Nat.reduceBEq, *]; done) | fail)) only [q, l1, l2, w1, w2, w3, go_sem, ↓act_zero, Hold.p, HoldK.k, HoldL.K, HoldL.body, Nat.reduceBEq, Nat.reduceAdd, reduceIte]
    refine test_of (fun hc => ?_) (fun hc => ?_)
    · simp (disch := (first | omega | assumption | (simp only [push_n, set_n, put_n, List.length_cons, List.length_nil, List.length_append, Nat.reduceAdd]; done) | (simp only [push_n, set_n, put_n, List.length_cons, List.length_nil, List.length_append]; omega) | (simp only [List.all_cons, List.all_nil, one_bool, one_int, one_str, one_ptr, one_nilptr, one_slice, one_eslice, one_nilslice, one_func, one_iface, one_niliface, Bool.and_true, Bool.true_and, List.getD_cons_zero, List.getD_cons_succ, List.contains_cons, List.contains_nil, Bool.or_true, Bool.true_or, Bool.or_false, Bool.false_or, Nat.reduceBEq, *]; done) | fail)) only [go_sem, ↓act_zero, Hold.p, HoldK.k, HoldL.K, HoldL.body, Nat.reduceBEq, Nat.reduceAdd, reduceIte]
      refine ⟨?_, hE⟩
      rw [codeB, if_neg (by simp [hf]), if_pos (by simpa using hc)]
    · simp (disch := (first | omega | assumption | (simp only [push_n, set_n, put_n, List.length_cons, List.length_nil, List.length_append, Nat.reduceAdd]; done) | (simp only [push_n, set_n, put_n, List.length_cons, List.length_nil, List.length_append]; omega) | (simp only [List.all_cons, List.all_nil, one_bool, one_int, one_str, one_ptr, one_nilptr, one_slice, one_eslice, one_nilslice, one_func, one_iface, one_niliface, Bool.and_true, Bool.true_and, List.getD_cons_zero, List.getD_cons_succ, List.contains_cons, List.contains_nil, Bool.or_true, Bool.true_or, Bool.or_false, Bool.false_or, Nat.reduceBEq, *]; done) | fail)) only [go_sem, ↓act_zero, Hold.p, HoldK.k, HoldL.K, HoldL.body, Nat.reduceBEq, Nat.reduceAdd, reduceIte]
      refine ⟨?_, hE⟩
      rw [codeB, if_neg (by simp [hf]), if_neg (by simpa using hc)]
theorem okIPb_off {p : Pk} (hf : okIPb p = true) : 0 ≤ p.off ∧ p.off ≤ 65528 := by
  unfold okIPb at hf
  simp only [Bool.and_eq_true, decide_eq_true_eq] at hf
  exact ⟨hf.1.1.1.1.1.1.2, hf.1.1.1.1.1.2⟩
theorem dup_c (h : IH) (v : IV) (bs : Txt) (hs : SlR h 1 v (strRows bs)) (hl : bs.length ≤ 8388608) : ICalls Try.prog 41 [v] h fun r h' => Own h.n h'.n h' 5 1 r (strRows bs) ∧ Ext h h' := by
  refine icalls (.of ok41) (Nat.le_of_ble_eq_true rfl) ?_
  unfold c41
  have v1 := hs.one
  have hsrc := hs.src
  simp (disch := (first | omega | assumption | (simp only [push_n, set_n, put_n, List.length_cons, List.length_nil, List.length_append, Nat.reduceAdd]; done) | (simp only [push_n, set_n, put_n, List.length_cons, List.length_nil, List.length_append]; omega) | (simp only [List.all_cons, List.all_nil, one_bool, one_int, one_str, one_ptr, one_nilptr, one_slice, one_eslice, one_nilslice, one_func, one_iface, one_niliface, Bool.and_true, Bool.true_and, List.getD_cons_zero, List.getD_cons_succ, List.contains_cons, List.contains_nil, Bool.or_true, Bool.true_or, Bool.or_false, Bool.false_or, Nat.reduceBEq, *]; done) | fail)) only [v1, hsrc, go_sem, ↓act_zero, Hold.p, HoldK.k, HoldL.K, HoldL.body, Nat.reduceBEq, Nat.reduceAdd, reduceIte]
  by_cases hb : bs = []
  · subst hb
    refine appA_none rfl ?_
    simp (disch := (first | omega | assumption | (simp only [push_n, set_n, put_n, List.length_cons, List.length_nil, List.length_append, Nat.reduceAdd]; done) | (simp only [push_n, set_n, put_n, List.length_cons, List.length_nil, List.length_append]; omega) | (simp only [List.all_cons, List.all_nil, one_bool, one_int, one_str, one_ptr, one_nilptr, one_slice, one_eslice, one_nilslice, one_func, one_iface, one_niliface, Bool.and_true, Bool.true_and, List.getD_cons_zero, List.getD_cons_succ, List.contains_cons, List.contains_nil, Bool.or_true, Bool.true_or, Bool.or_false, Bool.false_or, Nat.reduceBEq, *]; done) | fail)) only [go_sem, ↓act_zero, Hold.p, HoldK.k, HoldL.K, HoldL.body, Nat.reduceBEq, Nat.reduceAdd, reduceIte]
    exact ⟨Own.nil, Ext.refl _⟩
  · refine (Own.nil (lo := h.n) (hi := h.n) (h := h) (el := 5) (sz := 1)).app (by simpa [strRows] using hb) (by simp only [strRows_len, List.length_nil]; omega) ?_
    intro v6 h6 o6 t6 n6 v6o v6c
    simp (disch := (first | omega | assumption | (simp only [push_n, set_n, put_n, List.length_cons, List.length_nil, List.length_append, Nat.reduceAdd]; done) | (simp only [push_n, set_n, put_n, List.length_cons, List.length_nil, List.length_append]; omega) | (simp only [List.all_cons, List.all_nil, one_bool, one_int, one_str, one_ptr, one_nilptr, one_slice, one_eslice, one_nilslice, one_func, one_iface, one_niliface, Bool.and_true, Bool.true_and, List.getD_cons_zero, List.getD_cons_succ, List.contains_cons, List.contains_nil, Bool.or_true, Bool.true_or, Bool.or_false, Bool.false_or, Nat.reduceBEq, *]; done) | fail)) only [go_sem, ↓act_zero, Hold.p, HoldK.k, HoldL.K, HoldL.body, Nat.reduceBEq, Nat.reduceAdd, reduceIte]
    exact ⟨o6.wide (Nat.le_refl _) (by omega) (Nat.le_refl _), (Ext.refl h).turn (Own.nil (lo := h.n) (hi := h.n) (h := h) (el := 5) (sz := 1)) (Nat.le_refl _) t6⟩
theorem isTime_c (h : IH) (a b : Int) (ha : 0 ≤ a ∧ a ≤ 1000000000) : ICalls Try.prog 55 [.int .i64 a, .int .i64 b] h fun r h' => r = .bool (decide (0 ≤ b) && decide (b ≤ 1000000000 - a)) ∧ h' = h := by
  refine icalls (.of ok55) (Nat.le_of_ble_eq_true rfl) ?_
  unfold c55
  by_cases hb : 0 ≤ b ∧ b ≤ 1000000000
  · have w : wr .i64 (a + b) = a + b := wr64 _ (by omega)
    have d1 : decide (0 ≤ b) = true := decide_eq_true hb.1
    have d2 : decide (b ≤ 1000000000) = true := decide_eq_true hb.2
    simp (disch := (first | omega | assumption | (simp only [push_n, set_n, put_n, List.length_cons, List.length_nil, List.length_append, Nat.reduceAdd]; done) | (simp only [push_n, set_n, put_n, List.length_cons, List.length_nil, List.length_append]; omega) | (simp only [List.all_cons, List.all_nil, one_bool, one_int, one_str, one_ptr, one_nilptr, one_slice, one_eslice, one_nilslice, one_func, one_iface, one_niliface, Bool.and_true, Bool.true_and, List.getD_cons_zero, List.getD_cons_succ, List.contains_cons, List.contains_nil, Bool.or_true, Bool.true_or, Bool.or_false, Bool.false_or, Nat.reduceBEq, *]; done) | fail)) only [w, d1, d2, go_sem, ↓act_zero, Hold.p, HoldK.k, HoldL.K, HoldL.body, Nat.reduceBEq, Nat.reduceAdd, reduceIte]
    by_cases h2 : a + b ≤ 1000000000
    · rw [decide_eq_true h2, decide_eq_true (by omega)]; rfl
    · rw [decide_eq_false h2, decide_eq_false (by omega)]; rfl
  · simp (disch := (first | omega | assumption | (simp only [push_n, set_n, put_n, List.length_cons, List.length_nil, List.length_append, Nat.reduceAdd]; done) | (simp only [push_n, set_n, put_n, List.length_cons, List.length_nil, List.length_append]; omega) | (simp only [List.all_cons, List.all_nil, one_bool, one_int, one_str, one_ptr, one_nilptr, one_slice, one_eslice, one_nilslice, one_func, one_iface, one_niliface, Bool.and_true, Bool.true_and, List.getD_cons_zero, List.getD_cons_succ, List.contains_cons, List.contains_nil, Bool.or_true, Bool.true_or, Bool.or_false, Bool.false_or, Nat.reduceBEq, *]; done) | fail)) only [go_sem, ↓act_zero, Hold.p, HoldK.k, HoldL.K, HoldL.body, Nat.reduceBEq, Nat.reduceAdd, reduceIte]
    congr 1
    rcases Classical.em (0 ≤ b) with h1 | h1
    · rw [decide_eq_false (p := b ≤ 1000000000) (by omega), decide_eq_false (p := b ≤ 1000000000 - a) (by omega)]; simp
    · rw [decide_eq_false h1]; simp
theorem lwSame_c (h : IH) (v w : IV) (a b : Txt) (hv : SlR h 1 v (strRows a)) (hw : SlR h 1 w (strRows b)) : ICalls Try.prog 42 [v, w] h fun r h' => r = .bool (decide (a = b)) ∧ h' = h := by
  refine icalls (.of ok42) (Nat.le_of_ble_eq_true rfl) ?_
  unfold c42
  have e1 := hv.b2s
  have e2 := hw.b2s
  simp (disch := (first | omega | assumption | (simp only [push_n, set_n, put_n, List.length_cons, List.length_nil, List.length_append, Nat.reduceAdd]; done) | (simp only [push_n, set_n, put_n, List.length_cons, List.length_nil, List.length_append]; omega) | (simp only [List.all_cons, List.all_nil, one_bool, one_int, one_str, one_ptr, one_nilptr, one_slice, one_eslice, one_nilslice, one_func, one_iface, one_niliface, Bool.and_true, Bool.true_and, List.getD_cons_zero, List.getD_cons_succ, List.contains_cons, List.contains_nil, Bool.or_true, Bool.true_or, Bool.or_false, Bool.false_or, Nat.reduceBEq, *]; done) | fail)) only [e1, e2, go_sem, ↓act_zero, Hold.p, HoldK.k, HoldL.K, HoldL.body, Nat.reduceBEq, Nat.reduceAdd, reduceIte]
theorem bEqual_c (h : IH) (v w : IV) (a b : Txt) (hv : SlR h 1 v (strRows a)) (hw : SlR h 1 w (strRows b)) : ICalls Try.prog 73 [v, w] h fun r h' => r = .bool (decide (a = b)) ∧ h' = h := by
  refine icalls (.of ok73) (Nat.le_of_ble_eq_true rfl) ?_
  unfold c73
  have e1 := hv.b2s
  have e2 := hw.b2s
  simp (disch := (first | omega | assumption | (simp only [push_n, set_n, put_n, List.length_cons, List.length_nil, List.length_append, Nat.reduceAdd]; done) | (simp only [push_n, set_n, put_n, List.length_cons, List.length_nil, List.length_append]; omega) | (simp only [List.all_cons, List.all_nil, one_bool, one_int, one_str, one_ptr, one_nilptr, one_slice, one_eslice, one_nilslice, one_func, one_iface, one_niliface, Bool.and_true, Bool.true_and, List.getD_cons_zero, List.getD_cons_succ, List.contains_cons, List.contains_nil, Bool.or_true, Bool.true_or, Bool.or_false, Bool.false_or, Nat.reduceBEq, *]; done) | fail)) only [e1, e2, go_sem, ↓act_zero, Hold.p, HoldK.k, HoldL.K, HoldL.body, Nat.reduceBEq, Nat.reduceAdd, reduceIte]
theorem sizeI_c (h : IH) (p : Pk) (vo vp : IV) (a : PkAt h p vo vp) (hl : p.opts.length + p.pay.length ≤ 8388608) : ICalls Try.prog 23 [.agg (pkRow p vo vp)] h fun r h' => r = .int .i64 (if okIPb p = true then 20 + (p.opts.length : Int) + p.pay.length else 0) ∧ Ext h h' := by
  refine icalls (.of ok23) (Nat.le_of_ble_eq_true rfl) ?_
  unfold c23 pkRow
  have v1 := a.o.one
  have v2 := a.p.one
  have l1 := a.o.lenF
  have l2 := a.p.lenF
  rw [strRows_len] at l1 l2
  simp (disch := (first | omega | assumption | (simp only [push_n, set_n, put_n, List.length_cons, List.length_nil, List.length_append, Nat.reduceAdd]; done) | (simp only [push_n, set_n, put_n, List.length_cons, List.length_nil, List.length_append]; omega) | (simp only [List.all_cons, List.all_nil, one_bool, one_int, one_str, one_ptr, one_nilptr, one_slice, one_eslice, one_nilslice, one_func, one_iface, one_niliface, Bool.and_true, Bool.true_and, List.getD_cons_zero, List.getD_cons_succ, List.contains_cons, List.contains_nil, Bool.or_true, Bool.true_or, Bool.or_false, Bool.false_or, Nat.reduceBEq, *]; done) | fail)) only [v1, v2, go_sem, ↓act_zero, Hold.p, HoldK.k, HoldL.K, HoldL.body, Nat.reduceBEq, Nat.reduceAdd, reduceIte]
  generalize hq_g : IH.push h (pkObj p vo vp) = g
  have e_g : Ext h g := by rw [← hq_g]; exact (Ext.refl _).push _
  have l_g : g.n = h.n + 1 := by rw [← hq_g]; rfl
  have b : At g h.n (pkObj p vo vp) := by rw [← hq_g]; exact At.new _ _
  clear hq_g
  have a := a.ext e_g
  have q := b.eq
  try simp (disch := (first | omega | assumption | (simp only [push_n, set_n, put_n, List.length_cons, List.length_nil, List.length_append, Nat.reduceAdd]; done) | (simp only [push_n, set_n, put_n, List.length_cons, List.length_nil, List.length_append]; omega) | (simp only [List.all_cons, List.all_nil, one_bool, one_int, one_str, one_ptr, one_nilptr, one_slice, one_eslice, one_nilslice, one_func, one_iface, one_niliface, Bool.and_true, Bool.true_and, List.getD_cons_zero, List.getD_cons_succ, List.contains_cons, List.contains_nil, Bool.or_true, Bool.true_or, Bool.or_false, Bool.false_or, Nat.reduceBEq, *]; done) | fail)) only [q, go_sem, ↓act_zero, Hold.p, HoldK.k, HoldL.K, HoldL.body, Nat.reduceBEq, Nat.reduceAdd, reduceIte]
  refine callA_of (okIP_c g p vo vp a) ?_
  rintro r g2 ⟨rfl, E⟩
  have b := b.ext E
  have le_E := E.le
  have q := b.eq
  have hE := e_g.trans E
  have w1 : wr .i64 (20 + (p.opts.length : Int)) = 20 + (p.opts.length : Int) := wr64 _ (by omega)
  have w2 : wr .i64 (20 + (p.opts.length : Int) + (p.pay.length : Int)) = 20 + (p.opts.length : Int) + p.pay.length := wr64 _ (by omega)
  simp (disch := (first | omega | assumption | (simp only [push_n, set_n, put_n, List.length_cons, List.length_nil, List.length_append, Nat.reduceAdd]; done) | (simp only [push_n, set_n, put_n, List.length_cons, List.length_nil, List.length_append]; omega) | (simp only [List.all_cons, List.all_nil, one_bool, one_int, one_str, one_ptr, one_nilptr, one_slice, one_eslice, one_nilslice, one_func, one_iface, one_niliface, Bool.and_true, Bool.true_and, List.getD_cons_zero, List.getD_cons_succ, List.contains_cons, List.contains_nil, Bool.or_true, Bool.true_or, Bool.or_false, Bool.false_or, Nat.reduceBEq, *]; done) | fail)) only [go_sem, ↓act_zero, Hold.p, HoldK.k, HoldL.K, HoldL.body, Nat.reduceBEq, Nat.reduceAdd, reduceIte]
  refine test_of (fun hb => ?_) (fun hb => ?_)
  · have hf : okIPb p = false := by rwa [Bool.not_eq_true'] at hb
    simp (disch := (first | omega | assumption | (simp only [push_n, set_n, put_n, List.length_cons, List.length_nil, List.length_append, Nat.reduceAdd]; done) | (simp only [push_n, set_n, put_n, List.length_cons, List.length_nil, List.length_append]; omega) | (simp only [List.all_cons, List.all_nil, one_bool, one_int, one_str, one_ptr, one_nilptr, one_slice, one_eslice, one_nilslice, one_func, one_iface, one_niliface, Bool.and_true, Bool.true_and, List.getD_cons_zero, List.getD_cons_succ, List.contains_cons, List.contains_nil, Bool.or_true, Bool.true_or, Bool.or_false, Bool.false_or, Nat.reduceBEq, *]; done) | fail)) only [go_sem, ↓act_zero, Hold.p, HoldK.k, HoldL.K, HoldL.body, Nat.reduceBEq, Nat.reduceAdd, reduceIte]
    exact ⟨by rw [if_neg (by simp [hf])], hE⟩
  · have hf : okIPb p = true := by rwa [Bool.not_eq_false'] at hb
    simp (disch := (first | omega | assumption | (simp only [push_n, set_n, put_n, List.length_cons, List.length_nil, List.length_append, Nat.reduceAdd]; done) | (simp only [push_n, set_n, put_n, List.length_cons, List.length_nil, List.length_append]; omega) | (simp only [List.all_cons, List.all_nil, one_bool, one_int, one_str, one_ptr, one_nilptr, one_slice, one_eslice, one_nilslice, one_func, one_iface, one_niliface, Bool.and_true, Bool.true_and, List.getD_cons_zero, List.getD_cons_succ, List.contains_cons, List.contains_nil, Bool.or_true, Bool.true_or, Bool.or_false, Bool.false_or, Nat.reduceBEq, *]; done) | fail)) only [q, l1, l2, w1, w2, go_sem, ↓act_zero, Hold.p, HoldK.k, HoldL.K, HoldL.body, Nat.reduceBEq, Nat.reduceAdd, reduceIte]
    exact ⟨by rw [if_pos hf], hE⟩
end
end Go.Proofs.Ytjmmmmdpkfpojaa

set_option maxRecDepth 20000
namespace Go.Proofs.Ytjmmmmdpkfpojaa
open Go Go.IW
section
attribute [local go_sem] boxA_1 boxA_2 boxA_3 bslA_1 List.getElem?_cons_zero List.getElem?_cons_succ Option.bind_some List.map_cons List.map_nil Nat.zero_add if_true List.getD_cons_zero List.getD_cons_succ List.contains_cons List.contains_nil Bool.or_true Bool.true_or Bool.or_false Bool.false_or Bool.not_true Bool.not_false true_and and_true rowA_whole mid_get stO_mid rowO_rows cellO_rows push_n set_n push_at push_old set_here set_there set_pushT set_pushN set_set upd_ne Nat.add_assoc Nat.add_zero stO_1s stO_ws boxA_s List.all_cons List.all_nil one_bool one_int one_str one_ptr one_nilptr one_slice one_eslice one_nilslice one_func one_iface one_niliface Bool.and_true Bool.and_self List.length_cons List.length_nil Nat.one_ne_zero Nat.succ_ne_zero if_false List.set_cons_zero List.set_cons_succ lay_nil lay_1 lay_w Option.map_some

/-! spec.EncodeIP: its code alone. -/
theorem strRows_get {bs : Txt} {k : Nat} (hk : k < bs.length) : (strRows bs)[k]? = some [.int .u8 ((bs[k]'hk).toNat : Int)] := by simp [strRows, hk]
theorem strRows_ne {bs : Txt} (h : 0 < bs.length) : strRows bs ≠ [] := by
  intro e
  have := congrArg List.length e
  rw [strRows_len] at this
  simp only [List.length_nil] at this
  omega
end
end Go.Proofs.Ytjmmmmdpkfpojaa

set_option maxRecDepth 20000
namespace Go.Proofs.Ytjmmmmdpkfpojaa
open Go Go.IW
section
attribute [local go_sem] List.getElem?_cons_zero List.getElem?_cons_succ Option.bind_some List.map_cons List.map_nil Nat.zero_add if_true List.getD_cons_zero List.getD_cons_succ List.contains_cons List.contains_nil Bool.or_true Bool.true_or Bool.or_false Bool.false_or Bool.not_true Bool.not_false true_and and_true rowA_whole mid_get rowO_rows cellO_rows upd_ne Nat.add_assoc Nat.add_zero List.all_cons List.all_nil one_bool one_int one_str one_ptr one_nilptr one_slice one_eslice one_nilslice one_func one_iface one_niliface Bool.and_true Bool.and_self List.length_cons List.length_nil Nat.one_ne_zero Nat.succ_ne_zero if_false List.set_cons_zero List.set_cons_succ lay_nil lay_1 lay_w Option.map_some cells_one rowA_some List.drop_succ_cons List.drop_zero List.take_succ_cons List.take_zero

theorem ownPacket_c (h : IH) (L : List As) (S : Sp h L) (p : Pk) (vo vp : IV) (a : PkAt h p vo vp) (hl : p.opts.length + p.pay.length ≤ 8388608) :
    ICalls Try.prog 40 [.agg (pkRow p vo vp)] h fun r h' => ∃ wo wp, r = .agg (pkRow p wo wp) ∧ Sp h' (sl false 5 1 wo (strRows p.opts) :: sl false 5 1 wp (strRows p.pay) :: L) := by
  refine icalls (.of ok40) (Nat.le_of_ble_eq_true rfl) ?_
  unfold c40 pkRow
  have v1 := a.o.one
  have v2 := a.p.one
  try simp (disch := (first | omega | assumption | (simp only [List.length_cons, List.length_nil, List.length_append]; first | done | omega) | (simp (disch := assumption) only [go_sem, one_as, Nat.reduceBEq]; done) | fail)) only [go_sem, Hold.p, HoldK.k, HoldL.K, HoldL.body, Nat.reduceBEq, Nat.reduceAdd, reduceIte]
  refine Sp.bxA S (by first | rfl | (rw [cells_one (by assumption)]; rfl)) (by first | rfl | simp (disch := assumption) only [go_sem, cells_one, one_as]) fun p1 g1 S E_g1 l_g1 => ?_
  try simp (disch := (first | omega | assumption | (simp only [List.length_cons, List.length_nil, List.length_append]; first | done | omega) | (simp (disch := assumption) only [go_sem, one_as, Nat.reduceBEq]; done) | fail)) only [go_sem, Hold.p, HoldK.k, HoldL.K, HoldL.body, Nat.reduceBEq, Nat.reduceAdd, reduceIte]
  refine Sp.zero S fun p2 g2 S E_g2 l_g2 => ?_
  have q0 := (S.bx 0 rfl).eq
  have q1 := (S.bx 1 rfl).eq
  try simp (disch := (first | omega | assumption | (simp only [List.length_cons, List.length_nil, List.length_append]; first | done | omega) | (simp (disch := assumption) only [go_sem, one_as, Nat.reduceBEq]; done) | fail)) only [q0, q1, go_sem, Hold.p, HoldK.k, HoldL.K, HoldL.body, Nat.reduceBEq, Nat.reduceAdd, reduceIte]
  have a := (a.ext E_g1).ext E_g2
  refine callA_of (dup_c g2 vo _ a.o (by omega)) ?_
  rintro w3 g3 ⟨o3, E3⟩
  have a := a.ext E3
  have S := S.own (x := false) E3 o3 (Nat.le_refl _)
  have s0 := S.slA 0 rfl
  have len_s0 := s0.lenF
  have z0 := s0.one
  have q1 := (S.bx 1 rfl).eq
  have q2 := (S.bx 2 rfl).eq
  try simp (disch := (first | omega | assumption | (simp only [List.length_cons, List.length_nil, List.length_append]; first | done | omega) | (simp (disch := assumption) only [go_sem, one_as, Nat.reduceBEq]; done) | fail)) only [len_s0, z0, q1, q2, go_sem, Hold.p, HoldK.k, HoldL.K, HoldL.body, Nat.reduceBEq, Nat.reduceAdd, reduceIte]
  refine callA_of (dup_c g3 vp _ a.p (by omega)) ?_
  rintro w4 g4 ⟨o4, E4⟩
  have S := S.own (x := false) E4 o4 (Nat.le_refl _)
  have z3 := o3.one
  have s0 := S.slA 0 rfl
  have len_s0 := s0.lenF
  have z0 := s0.one
  have q2 := (S.bx 2 rfl).eq
  have q3 := (S.bx 3 rfl).eq
  try simp (disch := (first | omega | assumption | (simp only [List.length_cons, List.length_nil, List.length_append]; first | done | omega) | (simp (disch := assumption) only [go_sem, one_as, Nat.reduceBEq]; done) | fail)) only [len_s0, z0, q2, q3, go_sem, Hold.p, HoldK.k, HoldL.K, HoldL.body, Nat.reduceBEq, Nat.reduceAdd, reduceIte]
  refine st1_of (Nat.le_of_ble_eq_true rfl) (by first | rfl | assumption) fun g5 hg => ?_
  have l_g5 := n_set hg
  have S := S.set3 hg
  clear hg
  simp only [List.set_cons_zero, List.set_cons_succ, List.take_succ_cons, List.take_zero, List.drop_succ_cons, List.drop_zero, List.cons_append, List.nil_append, Nat.reduceAdd] at S
  have q3 := (S.bx 3 rfl).eq
  try simp (disch := (first | omega | assumption | (simp only [List.length_cons, List.length_nil, List.length_append]; first | done | omega) | (simp (disch := assumption) only [go_sem, one_as, Nat.reduceBEq]; done) | fail)) only [q3, go_sem, Hold.p, HoldK.k, HoldL.K, HoldL.body, Nat.reduceBEq, Nat.reduceAdd, reduceIte]
  refine st1_of (Nat.le_of_ble_eq_true rfl) (by first | rfl | assumption) fun g6 hg => ?_
  have l_g6 := n_set hg
  have S := S.set3 hg
  clear hg
  simp only [List.set_cons_zero, List.set_cons_succ, List.take_succ_cons, List.take_zero, List.drop_succ_cons, List.drop_zero, List.cons_append, List.nil_append, Nat.reduceAdd] at S
  have q2 := (S.bx 2 rfl).eq
  have q3 := (S.bx 3 rfl).eq
  try simp (disch := (first | omega | assumption | (simp only [List.length_cons, List.length_nil, List.length_append]; first | done | omega) | (simp (disch := assumption) only [go_sem, one_as, Nat.reduceBEq]; done) | fail)) only [q2, q3, go_sem, Hold.p, HoldK.k, HoldL.K, HoldL.body, Nat.reduceBEq, Nat.reduceAdd, reduceIte]
  refine stw_of rfl rfl (by first | rfl | simp (disch := assumption) only [go_sem, cells_one, one_as]) fun g7 hg => ?_
  have l_g7 := n_set hg
  have S := S.set2 hg
  clear hg
  have q2 := (S.bx 2 rfl).eq
  try simp (disch := (first | omega | assumption | (simp only [List.length_cons, List.length_nil, List.length_append]; first | done | omega) | (simp (disch := assumption) only [go_sem, one_as, Nat.reduceBEq]; done) | fail)) only [q2, go_sem, Hold.p, HoldK.k, HoldL.K, HoldL.body, Nat.reduceBEq, Nat.reduceAdd, reduceIte]
  have S := by simpa only [List.map_cons, List.map_nil, List.getD_cons_zero, List.getD_cons_succ, List.drop_succ_cons, List.drop_zero, List.cons_append, List.nil_append] using Sp.sel S 4 [1, 0] (by simp only [List.length_cons]; omega) (by decide) (by decide)
  exact ⟨w3, w4, rfl, S⟩
end
end Go.Proofs.Ytjmmmmdpkfpojaa

namespace Go.Proofs.Ytjmmmmdpkfpojaa
open Go Go.IW

/-! Putting together, in plain words. -/
abbrev Pcs := List (Int × List UInt8)
def pTo (q : Int × List UInt8) : Int := q.1 + q.2.length
def totP (l : Pcs) : Nat := (l.map fun q => q.2.length).sum
/-- A datagram in the making. -/
structure Mk where
  src : Int
  dst : Int
  proto : Int
  id : Int
  ps : Pcs
  en : Int
  first : Option Pk
  begun : Int
  ref : Bool
  deriving Inhabited
def Mk.refuse (m : Mk) : Mk := { m with ref := true, ps := [], first := none, en := -1 }

/-- impl: the pieces that are there held against the one that comes. None: refused. -/
def scanI (off en : Int) (mf : Bool) (pay : List UInt8) : Pcs → Bool → Option Bool
  | [], same => some same
  | q :: r, same =>
    if q.1 = off ∧ pTo q = en ∧ q.2 = pay then scanI off en mf pay r true
    else if (q.1 < en ∧ off < pTo q) ∨ (mf = false ∧ en < pTo q) then none
    else scanI off en mf pay r same
/-- impl: a piece is taken in; is it whole? -/
def addI (m : Mk) (p : Pk) : Mk × Bool :=
  let en := p.off + p.pay.length
  match scanI p.off en p.mf p.pay m.ps false with
  | none => (m.refuse, false)
  | some same =>
    if (p.mf = false ∧ 0 ≤ m.en ∧ m.en ≠ en) ∨ (0 ≤ m.en ∧ m.en < en) then (m.refuse, false) else
    let m1 := if p.mf = false then { m with en := en } else m
    let m2 := if same = true then m1 else { m1 with ps := m1.ps ++ [(p.off, p.pay)], first := if p.off = 0 then some p else m1.first }
    match m2.first with
    | none => (m2, false)
    | some f => if m2.en < 0 then (m2, false) else
      if 65535 < 20 + (f.opts.length : Int) + m2.en then (m2.refuse, false) else
      (m2, !decide ((totP m2.ps : Int) < m2.en))

/-- spec: same, refused. -/
def scanS (off en : Int) (pay : List UInt8) : Pcs → Bool → Bool → Bool × Bool
  | [], same, ref => (same, ref)
  | q :: r, same, ref =>
    if q.1 = off ∧ q.2 = pay then scanS off en pay r true ref
    else if q.1 < en ∧ off < pTo q then scanS off en pay r same true
    else scanS off en pay r same ref
/-- spec's datagram in the making. -/
structure Ms where
  src : Int
  dst : Int
  proto : Int
  id : Int
  born : Int
  ps : Pcs
  en : Int
  ref : Bool
  has : Bool
  first : Pk
  deriving Inhabited
def addS (m : Ms) (p : Pk) : Ms :=
  let en := p.off + p.pay.length
  let (same, ref) := scanS p.off en p.pay m.ps false m.ref
  let ref := ref || (!p.mf && decide (0 ≤ m.en) && !decide (m.en = en))
  let e2 := if p.mf = false ∧ m.en < 0 then en else m.en
  let ps := if same = true then m.ps else m.ps ++ [(p.off, p.pay)]
  let ref := ref || (decide (0 ≤ e2) && ps.any fun q => decide (e2 < pTo q))
  let f := if p.off = 0 ∧ m.has = false then p else m.first
  let has := decide (p.off = 0) || m.has
  let ref := ref || (has && decide (0 ≤ e2) && decide (65535 < 20 + (f.opts.length : Int) + e2))
  if ref = true then { m with ps := [], en := e2, ref := true, has := false, first := f } else { m with ps := ps, en := e2, ref := false, has := has, first := f }
def wholeS (m : Ms) : Bool := !m.ref && !decide (m.en < 0) && decide ((totP m.ps : Int) = m.en)

/-- What is held is well: not empty, apart, within the end; the first of them told. -/
structure Good (m : Ms) : Prop where
  ne : ∀ q ∈ m.ps, q.2 ≠ []
  nn : ∀ q ∈ m.ps, 0 ≤ q.1
  apart : m.ps.Pairwise fun q r => pTo q ≤ r.1 ∨ pTo r ≤ q.1
  within : 0 ≤ m.en → ∀ q ∈ m.ps, pTo q ≤ m.en
  first : m.has = true ↔ ∃ q ∈ m.ps, q.1 = 0
  en : m.en = -1 ∨ 0 < m.en
/-- The two sides' datagrams. -/
structure Both (m : Mk) (s : Ms) : Prop where
  src : m.src = s.src
  dst : m.dst = s.dst
  proto : m.proto = s.proto
  id : m.id = s.id
  begun : m.begun = s.born
  ref : m.ref = s.ref
  off : m.ref = true → m.ps = [] ∧ m.first = none ∧ s.ps = [] ∧ s.has = false
  on : m.ref = false → m.ps = s.ps ∧ m.en = s.en ∧ m.first = (if s.has = true then some s.first else none) ∧ Good s

theorem pTo_lt {q : Int × List UInt8} (h : q.2 ≠ []) : q.1 < pTo q := by
  have := List.length_pos_iff.2 h
  unfold pTo; omega

/-! The pieces that are apart, within an end, are no more than the end. -/
def spots (q : Int × List UInt8) : List Nat := (List.range q.2.length).map fun k => q.1.toNat + k
theorem mem_spots {q : Int × List UInt8} (h0 : 0 ≤ q.1) {x : Nat} : x ∈ spots q ↔ q.1 ≤ x ∧ (x : Int) < pTo q := by
  unfold spots pTo
  simp only [List.mem_map, List.mem_range]
  constructor
  · rintro ⟨k, hk, rfl⟩; omega
  · intro ⟨h1, h2⟩; exact ⟨x - q.1.toNat, by omega, by omega⟩
theorem spots_len : ∀ (l : Pcs), (l.flatMap spots).length = totP l
  | [] => rfl
  | q :: l => by simp [List.flatMap_cons, spots_len l, totP, spots]
theorem spots_nodup : ∀ {l : Pcs}, (∀ q ∈ l, 0 ≤ q.1) → l.Pairwise (fun q r => pTo q ≤ r.1 ∨ pTo r ≤ q.1) → (l.flatMap spots).Nodup
  | [], _, _ => List.nodup_nil
  | q :: l, h0, hp => by
    rw [List.flatMap_cons, List.nodup_append]
    rw [List.pairwise_cons] at hp
    refine ⟨?_, spots_nodup (fun q hq => h0 q (List.mem_cons_of_mem _ hq)) hp.2, ?_⟩
    · unfold spots
      exact List.Pairwise.map _ (fun a b hab e => hab (by omega)) (List.nodup_range (n := q.2.length))
    · intro x hx y hy e
      subst e
      obtain ⟨r, hr, hxr⟩ := List.mem_flatMap.1 hy
      have h1 := (mem_spots (h0 q List.mem_cons_self)).1 hx
      have h2 := (mem_spots (h0 r (List.mem_cons_of_mem _ hr))).1 hxr
      have := hp.1 r hr
      omega
theorem tot_le {l : Pcs} {lo hi : Nat} (h0 : ∀ q ∈ l, (lo : Int) ≤ q.1 ∧ pTo q ≤ hi) (hp : l.Pairwise (fun q r => pTo q ≤ r.1 ∨ pTo r ≤ q.1)) : totP l ≤ hi - lo := by
  rw [← spots_len]
  have hn := spots_nodup (fun q hq => by have := h0 q hq; omega) hp
  have := nodup_le (l.flatMap spots) (List.range' lo (hi - lo)) hn (fun x hx => by
    obtain ⟨q, hq, hxq⟩ := List.mem_flatMap.1 hx
    have h1 := h0 q hq
    have h2 := (mem_spots (by omega)).1 hxq
    rw [List.mem_range'_1]
    omega)
  simpa using this

/-! Scanning. -/
theorem scanS_ref : ∀ {off en : Int} {pay : List UInt8} {l : Pcs} {same : Bool}, (scanS off en pay l same true).2 = true
  | _, _, _, [], _ => rfl
  | off, en, pay, q :: l, same => by
    unfold scanS
    split
    · exact scanS_ref
    · split <;> exact scanS_ref
/-- No piece overlaps another way: both scans tell alike. -/
theorem scan_both {off en : Int} {mf : Bool} {pay : List UInt8} (hen : en = off + pay.length) : ∀ {l : Pcs} {same : Bool},
    (∀ s, scanI off en mf pay l same = some s → scanS off en pay l same false = (s, false) ∧ (mf = false → ∀ q ∈ l, pTo q ≤ en) ∧ (s = true → same = true ∨ ∃ q ∈ l, q.1 = off ∧ q.2 = pay) ∧ (s = false → ∀ q ∈ l, en ≤ q.1 ∨ pTo q ≤ off)) ∧
    (scanI off en mf pay l same = none → (scanS off en pay l same false).2 = true ∨ (mf = false ∧ ∃ q ∈ l, en < pTo q))
  | [], same => by
    refine ⟨fun s hs => ?_, fun h => by simp [scanI] at h⟩
    simp only [scanI, Option.some.injEq] at hs
    subst hs
    exact ⟨rfl, fun _ q hq => by simp at hq, fun h => .inl h, fun _ q hq => by simp at hq⟩
  | q :: l, same => by
    by_cases h1 : q.1 = off ∧ q.2 = pay
    · have hto : pTo q = en := by unfold pTo; rw [h1.1, h1.2, hen]
      have e1 : scanI off en mf pay (q :: l) same = scanI off en mf pay l true := by
        rw [scanI, if_pos ⟨h1.1, hto, h1.2⟩]
      have e2 : scanS off en pay (q :: l) same false = scanS off en pay l true false := by
        rw [scanS, if_pos h1]
      have ih := scan_both (mf := mf) hen (l := l) (same := true)
      rw [e1, e2]
      refine ⟨fun s hs => ?_, fun h => ?_⟩
      · obtain ⟨g1, g2, g3, g4⟩ := ih.1 s hs
        refine ⟨g1, fun hm r hr => ?_, fun _ => .inr ⟨q, List.mem_cons_self, h1⟩, fun hs' => ?_⟩
        · rcases List.mem_cons.1 hr with rfl | hr
          · omega
          · exact g2 hm r hr
        · exfalso
          subst hs'
          have : ∀ {l : Pcs}, scanI off en mf pay l true ≠ some false := by
            intro l
            induction l with
            | nil => simp [scanI]
            | cons a l ih => rw [scanI]; split; exact ih; split; simp; exact ih
          exact this hs
      · rcases ih.2 h with g | ⟨hm, r, hr, g⟩
        · exact .inl g
        · exact .inr ⟨hm, r, List.mem_cons_of_mem _ hr, g⟩
    · have n1 : ¬ (q.1 = off ∧ pTo q = en ∧ q.2 = pay) := fun h => h1 ⟨h.1, h.2.2⟩
      by_cases h2 : q.1 < en ∧ off < pTo q
      · have e1 : scanI off en mf pay (q :: l) same = none := by rw [scanI, if_neg n1, if_pos (.inl h2)]
        have e2 : scanS off en pay (q :: l) same false = scanS off en pay l same true := by rw [scanS, if_neg h1, if_pos h2]
        rw [e1, e2]
        exact ⟨fun s hs => by simp at hs, fun _ => .inl scanS_ref⟩
      · have e2 : scanS off en pay (q :: l) same false = scanS off en pay l same false := by rw [scanS, if_neg h1, if_neg h2]
        by_cases h3 : mf = false ∧ en < pTo q
        · have e1 : scanI off en mf pay (q :: l) same = none := by rw [scanI, if_neg n1, if_pos (.inr h3)]
          rw [e1]
          exact ⟨fun s hs => by simp at hs, fun _ => .inr ⟨h3.1, q, List.mem_cons_self, h3.2⟩⟩
        · have e1 : scanI off en mf pay (q :: l) same = scanI off en mf pay l same := by rw [scanI, if_neg n1, if_neg (by rintro (h | h); exact h2 h; exact h3 h)]
          have ih := scan_both (mf := mf) hen (l := l) (same := same)
          rw [e1, e2]
          refine ⟨fun s hs => ?_, fun h => ?_⟩
          · obtain ⟨g1, g2, g3, g4⟩ := ih.1 s hs
            refine ⟨g1, fun hm r hr => ?_, fun hs' => ?_, fun hs' r hr => ?_⟩
            · rcases List.mem_cons.1 hr with rfl | hr
              · have : ¬ en < pTo r := fun h => h3 ⟨hm, h⟩
                omega
              · exact g2 hm r hr
            · rcases g3 hs' with g | ⟨r, hr, g⟩
              · exact .inl g
              · exact .inr ⟨r, List.mem_cons_of_mem _ hr, g⟩
            · rcases List.mem_cons.1 hr with rfl | hr
              · omega
              · exact g4 hs' r hr
          · rcases ih.2 h with g | ⟨hm, r, hr, g⟩
            · exact .inl g
            · exact .inr ⟨hm, r, List.mem_cons_of_mem _ hr, g⟩

/-- A piece is taken in alike. -/
theorem add_both {m : Mk} {s : Ms} {p : Pk} (hb : Both m s) (hr : m.ref = false) (ho : 0 ≤ p.off) (hp : p.pay ≠ []) :
    Both (addI m p).1 (addS s p) ∧ (addI m p).2 = wholeS (addS s p) ∧ ((addI m p).2 = true → (addI m p).1.ref = false ∧ (addI m p).1.first = some (addS s p).first) := by
  obtain ⟨hps, hen, hfi, hG⟩ := hb.on hr
  have hsr : s.ref = false := hb.ref.symm.trans hr
  have hn : 0 < (p.pay.length : Int) := by have := List.length_pos_iff.2 hp; omega
  -- refused on both sides
  have bad : ∀ (f : Pk) (e : Int), Both m.refuse { s with ps := [], en := e, ref := true, has := false, first := f } := fun f e =>
    ⟨hb.src, hb.dst, hb.proto, hb.id, hb.begun, rfl, fun _ => ⟨rfl, rfl, rfl, rfl⟩, fun h => by cases h⟩
  have hE : ∃ E, E = p.off + (p.pay.length : Int) := ⟨_, rfl⟩
  obtain ⟨E, hE⟩ := hE
  have hEp : 0 < E := by omega
  have hsc := scan_both (mf := p.mf) (pay := p.pay) hE (l := s.ps) (same := false)
  unfold addI addS
  simp only [← hE, hps, hsr]
  have hnew : pTo (p.off, p.pay) = E := hE.symm
  cases hscan : scanI p.off E p.mf p.pay s.ps false with
  | none =>
    simp only
    have hbadS : ((scanS p.off E p.pay s.ps false false).2 || (!p.mf && decide (0 ≤ s.en) && !decide (s.en = E)) ||
        (decide (0 ≤ (if p.mf = false ∧ s.en < 0 then E else s.en)) && ((if (scanS p.off E p.pay s.ps false false).1 = true then s.ps else s.ps ++ [(p.off, p.pay)]).any fun q => decide ((if p.mf = false ∧ s.en < 0 then E else s.en) < pTo q)))) = true := by
      rcases hsc.2 hscan with h | ⟨hm, q, hq, h⟩
      · rw [h]; rfl
      · have hmem : q ∈ (if (scanS p.off E p.pay s.ps false false).1 = true then s.ps else s.ps ++ [(p.off, p.pay)]) := by
          split
          · exact hq
          · exact List.mem_append_left _ hq
        by_cases h0 : 0 ≤ s.en
        · have hw := hG.within h0 q hq
          have : s.en ≠ E := by omega
          simp [hm, h0, this]
        · have he : s.en < 0 := by omega
          have h1 : (if p.mf = false ∧ s.en < 0 then E else s.en) = E := if_pos ⟨hm, he⟩
          rw [h1]
          have h2 : (if (scanS p.off E p.pay s.ps false false).1 = true then s.ps else s.ps ++ [(p.off, p.pay)]).any (fun q => decide (E < pTo q)) = true := List.any_eq_true.2 ⟨q, hmem, by simpa using h⟩
          rw [h2]
          have h3 : decide (0 ≤ E) = true := decide_eq_true (by omega)
          simp [h3]
    rw [hbadS, Bool.true_or, if_pos rfl]
    refine ⟨bad _ _, ?_, fun h => by cases h⟩
    simp [wholeS]
  | some same =>
    obtain ⟨g1, g2, g3, g4⟩ := hsc.1 same hscan
    rw [g1]
    simp only [Bool.false_or]
    by_cases hC : (p.mf = false ∧ 0 ≤ m.en ∧ m.en ≠ E) ∨ (0 ≤ m.en ∧ m.en < E)
    · rw [if_pos hC]
      rw [hen] at hC
      have hbadS : ((!p.mf && decide (0 ≤ s.en) && !decide (s.en = E)) ||
          (decide (0 ≤ (if p.mf = false ∧ s.en < 0 then E else s.en)) && ((if same = true then s.ps else s.ps ++ [(p.off, p.pay)]).any fun q => decide ((if p.mf = false ∧ s.en < 0 then E else s.en) < pTo q)))) = true := by
        rcases hC with ⟨h1, h2, h3⟩ | ⟨h2, h3⟩
        · simp [h1, h2, h3]
        · cases hm : p.mf with
          | false =>
            have : s.en ≠ E := by omega
            simp [h2, this]
          | true =>
            have h1 : (if (true = false) ∧ s.en < 0 then E else s.en) = s.en := if_neg (by simp)
            rw [h1]
            cases hs : same with
            | true =>
              exfalso
              rcases g3 hs with h | ⟨q, hq, h4, h5⟩
              · cases h
              · have := hG.within h2 q hq
                have h6 : pTo q = E := by unfold pTo; rw [h4, h5, hE]
                omega
            | false =>
              have h4 : (s.ps ++ [(p.off, p.pay)]).any (fun q => decide (s.en < pTo q)) = true := List.any_eq_true.2 ⟨_, List.mem_append_right _ List.mem_cons_self, by rw [hnew]; simpa using h3⟩
              have h5 : decide (0 ≤ s.en) = true := decide_eq_true h2
              simp only [Bool.false_eq_true, if_false, h4, h5, Bool.and_true, Bool.or_true]
      rw [hbadS, Bool.true_or, if_pos rfl]
      refine ⟨bad _ _, ?_, fun h => by cases h⟩
      simp [wholeS]
    · rw [if_neg hC]
      rw [hen] at hC
      have hC1 : ∀ (_ : p.mf = false) (_ : 0 ≤ s.en), s.en = E := fun h1 h2 => Decidable.byContradiction fun h3 => hC (.inl ⟨h1, h2, h3⟩)
      have hC2 : ∀ (_ : 0 ≤ s.en), E ≤ s.en := fun h2 => Decidable.byContradiction fun h3 => hC (.inr ⟨h2, by omega⟩)
      have r2 : (!p.mf && decide (0 ≤ s.en) && !decide (s.en = E)) = false := by
        cases hm : p.mf
        · by_cases h0 : 0 ≤ s.en
          · simp [hC1 hm h0]
          · simp [h0]
        · simp
      rw [r2, Bool.false_or]
      -- the end
      generalize he2 : (if p.mf = false ∧ s.en < 0 then E else s.en) = e2
      have he2' : e2 = if p.mf = false then E else s.en := by
        rw [← he2]
        by_cases hm : p.mf = false
        · by_cases h0 : s.en < 0
          · rw [if_pos ⟨hm, h0⟩, if_pos hm]
          · rw [if_neg (fun h => h0 h.2), if_pos hm]; exact hC1 hm (by omega)
        · rw [if_neg (fun h => hm h.1), if_neg hm]
      have hEe : 0 ≤ e2 → E ≤ e2 := fun h => by
        rw [he2'] at h ⊢
        split
        · omega
        · rename_i hm; rw [if_neg hm] at h; exact hC2 h
      have hold : 0 ≤ e2 → ∀ q ∈ s.ps, pTo q ≤ e2 := fun h q hq => by
        by_cases hm : p.mf = false
        · rw [he2', if_pos hm]; exact g2 hm q hq
        · rw [he2', if_neg hm] at h ⊢; exact hG.within h q hq
      generalize hps2 : (if same = true then s.ps else s.ps ++ [(p.off, p.pay)]) = ps2
      have hmem : ∀ q ∈ ps2, q ∈ s.ps ∨ q = (p.off, p.pay) := fun q hq => by
        rw [← hps2] at hq
        split at hq
        · exact .inl hq
        · rcases List.mem_append.1 hq with h | h
          · exact .inl h
          · exact .inr (List.mem_singleton.1 h)
      have hsub : ∀ q ∈ s.ps, q ∈ ps2 := fun q hq => by
        rw [← hps2]
        split
        · exact hq
        · exact List.mem_append_left _ hq
      have hin : 0 ≤ e2 → ∀ q ∈ ps2, pTo q ≤ e2 := fun h q hq => by
        rcases hmem q hq with h1 | rfl
        · exact hold h q h1
        · rw [hnew]; exact hEe h
      have r3 : (decide (0 ≤ e2) && ps2.any fun q => decide (e2 < pTo q)) = false := by
        by_cases h0 : 0 ≤ e2
        · have : ps2.any (fun q => decide (e2 < pTo q)) = false := by
            rw [List.any_eq_false]
            intro q hq
            have := hin h0 q hq
            simpa using this
          rw [this, Bool.and_false]
        · simp [h0]
      rw [r3, Bool.false_or]
      -- the first one
      have hfirst : s.has = true → p.off = 0 → same = true := fun h1 h2 => by
        obtain ⟨q, hq, h3⟩ := hG.first.1 h1
        cases hs : same with
        | true => rfl
        | false =>
          exfalso
          rcases g4 hs q hq with h | h
          · omega
          · have := pTo_lt (hG.ne q hq); omega
      have hhas : same = true → p.off = 0 → s.has = true := fun h1 h2 => by
        rcases g3 h1 with h | ⟨q, hq, h3, h4⟩
        · cases h
        · exact hG.first.2 ⟨q, hq, by omega⟩
      generalize hf2 : (if p.off = 0 ∧ s.has = false then p else s.first) = f2
      generalize hh2 : (decide (p.off = 0) || s.has) = has2
      have hm2 : (if same = true then (if p.mf = false then { m with ps := s.ps, en := E } else m) else
          { (if p.mf = false then { m with ps := s.ps, en := E } else m) with ps := (if p.mf = false then { m with ps := s.ps, en := E } else m).ps ++ [(p.off, p.pay)], first := if p.off = 0 then some p else (if p.mf = false then { m with ps := s.ps, en := E } else m).first }) =
          { m with ps := ps2, en := e2, first := if has2 = true then some f2 else none } := by
        have hmf : (if p.mf = false then { m with ps := s.ps, en := E } else m) = { m with ps := s.ps, en := e2 } := by
          rw [he2']
          split
          · rfl
          · rw [← hen, ← hps]
        rw [hmf]
        cases hs : same with
        | true =>
          rw [if_pos rfl]
          have h1 : ps2 = s.ps := by rw [← hps2, hs, if_pos rfl]
          have h2 : (if has2 = true then some f2 else none) = m.first := by
            rw [hfi, ← hh2, ← hf2]
            by_cases h0 : p.off = 0
            · rw [hhas hs h0]; simp
            · simp [h0]
          rw [h1, h2]
        | false =>
          rw [if_neg (by simp)]
          have h1 : ps2 = s.ps ++ [(p.off, p.pay)] := by rw [← hps2, hs]; simp
          have h2 : (if has2 = true then some f2 else none) = if p.off = 0 then some p else m.first := by
            rw [hfi, ← hh2, ← hf2]
            by_cases h0 : p.off = 0
            · have : s.has = false := by
                cases hh : s.has
                · rfl
                · have := hfirst hh h0; rw [hs] at this; cases this
              simp [h0, this]
            · simp [h0]
          simp only [h1, h2]
      rw [hm2]
      have hGood : Good { s with ps := ps2, en := e2, ref := false, has := has2, first := f2 } := by
        refine ⟨fun q hq => ?_, fun q hq => ?_, ?_, hin, ?_, ?_⟩
        · rcases hmem q hq with h | rfl
          · exact hG.ne q h
          · exact hp
        · rcases hmem q hq with h | rfl
          · exact hG.nn q h
          · exact ho
        · show ps2.Pairwise _
          rw [← hps2]
          cases hs : same with
          | true => rw [if_pos rfl]; exact hG.apart
          | false =>
            rw [if_neg (by simp), List.pairwise_append]
            refine ⟨hG.apart, List.pairwise_singleton _ _, fun q hq r hr => ?_⟩
            obtain rfl := List.mem_singleton.1 hr
            rcases g4 hs q hq with h | h
            · right; rw [hnew]; exact h
            · left; exact h
        · show has2 = true ↔ ∃ q ∈ ps2, q.1 = 0
          rw [← hh2]
          constructor
          · intro h
            cases hs : same with
            | true =>
              have : s.has = true := by
                by_cases h0 : p.off = 0
                · exact hhas hs h0
                · simpa [h0] using h
              obtain ⟨q, hq, h1⟩ := hG.first.1 this
              exact ⟨q, hsub q hq, h1⟩
            | false =>
              by_cases h0 : p.off = 0
              · refine ⟨(p.off, p.pay), ?_, h0⟩
                rw [← hps2, hs]; simp
              · have : s.has = true := by simpa [h0] using h
                obtain ⟨q, hq, h1⟩ := hG.first.1 this
                exact ⟨q, hsub q hq, h1⟩
          · rintro ⟨q, hq, h1⟩
            rcases hmem q hq with h | rfl
            · rw [hG.first.2 ⟨q, h, h1⟩]; simp
            · simp at h1; simp [h1]
        · show e2 = -1 ∨ 0 < e2
          rw [he2']
          split
          · right; exact hEp
          · exact hG.en
      have bothok : Both { m with ps := ps2, en := e2, first := if has2 = true then some f2 else none } { s with ps := ps2, en := e2, ref := false, has := has2, first := f2 } :=
        ⟨hb.src, hb.dst, hb.proto, hb.id, hb.begun, hr, fun h => (by rw [hr] at h; cases h), fun _ => ⟨rfl, rfl, rfl, hGood⟩⟩
      have htot : 0 ≤ e2 → totP ps2 ≤ e2.toNat := fun h0 => by
        have := tot_le (l := ps2) (lo := 0) (hi := e2.toNat) (fun q hq => ⟨by have := hGood.nn q hq; omega, by have := hin h0 q hq; omega⟩) hGood.apart
        simpa using this
      cases has2 with
      | false =>
        simp only [Bool.false_and, Bool.false_eq_true, if_false]
        refine ⟨by simpa using bothok, ?_, fun h => by cases h⟩
        unfold wholeS
        simp only [Bool.not_false, Bool.true_and]
        by_cases h0 : e2 < 0
        · simp [h0]
        · have h1 : 0 < e2 := by rcases hGood.en with h | h <;> simp only at h <;> omega
          have hno : ∀ q ∈ ps2, q.1 ≠ 0 := fun q hq h => by
            have := hGood.first.2 ⟨q, hq, h⟩; cases this
          have := tot_le (l := ps2) (lo := 1) (hi := e2.toNat) (fun q hq => ⟨by have h2 := hGood.nn q hq; have h3 := hno q hq; omega, by have := hin (by omega) q hq; omega⟩) hGood.apart
          have h4 : (totP ps2 : Int) ≠ e2 := by omega
          simp [h4]
      | true =>
        simp only [Bool.true_and, if_true]
        by_cases h0 : e2 < 0
        · rw [if_pos h0]
          have h1 : decide (0 ≤ e2) = false := decide_eq_false (by omega)
          rw [h1, Bool.false_and, if_neg (by simp)]
          refine ⟨bothok, ?_, fun h => by cases h⟩
          simp [wholeS, h0]
        · rw [if_neg h0]
          have h1 : decide (0 ≤ e2) = true := decide_eq_true (by omega)
          rw [h1, Bool.true_and]
          by_cases h2 : 65535 < 20 + (f2.opts.length : Int) + e2
          · rw [if_pos h2, if_pos (by simpa using h2)]
            refine ⟨bad _ _, ?_, fun h => by cases h⟩
            simp [wholeS]
          · rw [if_neg h2, if_neg (show ¬ (decide (65535 < 20 + (f2.opts.length : Int) + e2) = true) by simpa using h2)]
            refine ⟨by simpa using bothok, ?_, fun _ => ⟨hr, rfl⟩⟩
            have := htot (by omega)
            unfold wholeS
            simp only [Bool.not_false, Bool.true_and]
            by_cases h3 : (totP ps2 : Int) = e2
            · simp [h3, h0]
            · have h4 : (totP ps2 : Int) < e2 := by omega
              simp [h3, h4]
end Go.Proofs.Ytjmmmmdpkfpojaa

set_option maxRecDepth 20000
namespace Go.Proofs.Ytjmmmmdpkfpojaa
open Go Go.IW
section
attribute [local go_sem] List.getElem?_cons_zero List.getElem?_cons_succ Option.bind_some List.map_cons List.map_nil Nat.zero_add if_true List.getD_cons_zero List.getD_cons_succ List.contains_cons List.contains_nil Bool.or_true Bool.true_or Bool.or_false Bool.false_or Bool.not_true Bool.not_false true_and and_true rowA_whole mid_get rowO_rows cellO_rows upd_ne Nat.add_assoc Nat.add_zero List.all_cons List.all_nil one_bool one_int one_str one_ptr one_nilptr one_slice one_eslice one_nilslice one_func one_iface one_niliface Bool.and_true Bool.and_self List.length_cons List.length_nil Nat.one_ne_zero Nat.succ_ne_zero if_false List.set_cons_zero List.set_cons_succ lay_nil lay_1 lay_w Option.map_some cells_one rowA_some List.drop_succ_cons List.drop_zero List.take_succ_cons List.take_zero

/-! ### The state of putting together, in memory -/
def byt (v : IV) (bs : Txt) : As := sl false 5 1 v (strRows bs)
def pcR (r : List IV) (q : Int × List UInt8) : As := exA fun vd : IV => stars (fact (r = [.int .i64 q.1, vd])) (sl false 5 1 vd (strRows q.2))
theorem pcs_at {h : IH} {L : List As} {rs : List (List IV)} {ps : Pcs} (S : Sp h L) (k : Nat) (hk : L[k]? = some (all2 pcR rs ps)) {i : Nat} {q : Int × List UInt8} (hi : ps[i]? = some q) : ∃ vd, rs[i]? = some [.int .i64 q.1, vd] ∧ SlR h 1 vd (strRows q.2) := by
  obtain ⟨f, hf⟩ := S.part k hk
  obtain ⟨r, f', h1, vd, f1, f2, _, ⟨_, rfl⟩, h3⟩ := all2_at hf hi
  refine ⟨vd, h1, ?_⟩
  rcases h3 with ⟨h4, _, rfl | rfl⟩ | ⟨l, h0, rfl, _, h5, h6⟩
  · rw [h4]; exact SlR.nil _ _
  · rw [h4]; exact SlR.empty _ _ _
  · exact SlR.whole h6 rfl h5
theorem a2_len {h : IH} {L : List As} {α : Type} {R : List IV → α → As} {rs : List (List IV)} {ps : List α} (S : Sp h L) (k : Nat) (hk : L[k]? = some (all2 R rs ps)) : rs.length = ps.length := by
  obtain ⟨f, hf⟩ := S.part k hk
  exact all2_len hf
def msRow (m : Ms) (vps vo vp : IV) : List IV := [.int .i64 m.src, .int .i64 m.dst, .int .i64 m.proto, .int .i64 m.id, .int .i64 m.born, vps, .int .i64 m.en, .bool m.ref, .bool m.has,
  .int .i64 m.first.tos, .int .i64 m.first.id, .bool m.first.df, .bool m.first.mf, .int .i64 m.first.off, .int .i64 m.first.ttl, .int .i64 m.first.proto, .int .i64 m.first.src, .int .i64 m.first.dst, vo, vp]
/-- A datagram in the making, on spec's side. -/
def madeR (r : List IV) (m : Ms) : As := exA fun v : IV × IV × IV × List (List IV) => stars (fact (r = msRow m v.1 v.2.1 v.2.2.1 ∧ v.2.1.one = true ∧ v.2.2.1.one = true)) (stars (sl false 99 2 v.1 v.2.2.2) (stars (all2 pcR v.2.2.2 m.ps) (stars (byt v.2.1 m.first.opts) (byt v.2.2.1 m.first.pay))))
theorem made_at {h : IH} {L : List As} {rs : List (List IV)} {l : List Ms} (S : Sp h L) (k : Nat) (hk : L[k]? = some (all2 madeR rs l)) {i : Nat} {m : Ms} (hi : l[i]? = some m) : ∃ vps vo vp, rs[i]? = some (msRow m vps vo vp) ∧ vps.one = true ∧ vo.one = true ∧ vp.one = true := by
  obtain ⟨f, hf⟩ := S.part k hk
  obtain ⟨r, f', h1, ⟨vps, vo, vp, rs'⟩, f1, f2, _, ⟨_, rfl, h4, h5⟩, g1, g2, _, h6, _⟩ := all2_at hf hi
  refine ⟨vps, vo, vp, h1, ?_, h4, h5⟩
  rcases h6 with ⟨_, _, h7 | h7⟩ | ⟨l, _, h7, _⟩ <;> · simp only at h7; rw [h7]; rfl
structure En where
  src : Int
  dst : Int
  proto : Int
  id : Int
  first : Bool
  deriving Inhabited
def enRow (e : En) : List IV := [.int .i64 e.src, .int .i64 e.dst, .int .i64 e.proto, .int .i64 e.id, .bool e.first]
/-- What comes of an operation. -/
structure Ot where
  code : Int
  done : Bool
  pk : Pk
  ended : List En
  held : Int
  bytes : Int
  deriving Inhabited
def pk0 : Pk := ⟨0, 0, false, false, 0, 0, 0, 0, 0, [], []⟩
def ot0 : Ot := ⟨0, false, pk0, [], 0, 0⟩
def findI {α : Type} (f : α → Bool) (l : List α) : Int := match l.findIdx? f with | some i => (i : Int) | none => -1
theorem findI_hit {α : Type} {f : α → Bool} {l : List α} {k : Nat} {x : α} (h0 : ∀ y ∈ l.take k, f y = false) (hk : l[k]? = some x) (hx : f x = true) : findI f l = k := by
  have : l.findIdx? f = some k := by
    rw [List.findIdx?_eq_some_iff_getElem]
    obtain ⟨h1, rfl⟩ := List.getElem?_eq_some_iff.1 hk
    refine ⟨h1, hx, fun j hj => ?_⟩
    rw [h0 _ (List.mem_take_iff_getElem.2 ⟨j, by omega, rfl⟩)]
    simp
  simp [findI, this]
theorem findI_none {α : Type} {f : α → Bool} {l : List α} (h0 : ∀ y ∈ l, f y = false) : findI f l = -1 := by
  have : l.findIdx? f = none := by simpa using h0
  simp [findI, this]
def keyS (p : Pk) (m : Ms) : Bool := decide (m.src = p.src) && decide (m.dst = p.dst) && decide (m.proto = p.proto) && decide (m.id = p.id)
theorem take_all {α : Type} {f : α → Bool} {l : List α} {k : Nat} {x : α} (h0 : ∀ y ∈ l.take k, f y = false) (hk : l[k]? = some x) (hx : f x = false) : ∀ y ∈ l.take (k + 1), f y = false := by
  intro y hy
  rw [List.take_add_one, hk] at hy
  rcases List.mem_append.1 hy with hy | hy
  · exact h0 y hy
  · have : y = x := by simpa using hy
    rw [this]; exact hx
end
end Go.Proofs.Ytjmmmmdpkfpojaa

set_option maxRecDepth 20000
namespace Go.Proofs.Ytjmmmmdpkfpojaa
open Go Go.IW
section
attribute [local go_sem] List.getElem?_cons_zero List.getElem?_cons_succ Option.bind_some List.map_cons List.map_nil Nat.zero_add if_true List.getD_cons_zero List.getD_cons_succ List.contains_cons List.contains_nil Bool.or_true Bool.true_or Bool.or_false Bool.false_or Bool.not_true Bool.not_false true_and and_true rowA_whole mid_get rowO_rows cellO_rows upd_ne Nat.add_assoc Nat.add_zero List.all_cons List.all_nil one_bool one_int one_str one_ptr one_nilptr one_slice one_eslice one_nilslice one_func one_iface one_niliface Bool.and_true Bool.and_self List.length_cons List.length_nil Nat.one_ne_zero Nat.succ_ne_zero if_false List.set_cons_zero List.set_cons_succ lay_nil lay_1 lay_w Option.map_some cells_one rowA_some List.drop_succ_cons List.drop_zero List.take_succ_cons List.take_zero

/-! ### Drawn numbers -/
theorem wr_u (x : Int) : 0 ≤ wr .u64 x ∧ wr .u64 x < 18446744073709551616 := by
  have h : wr .u64 x = x % 18446744073709551616 := by unfold wr IntKind.wrap; simp [IntKind.bits, IntKind.signed]
  omega
theorem wr_u_id {x : Int} (h0 : 0 ≤ x) (h1 : x < 18446744073709551616) : wr .u64 x = x := by
  have h : wr .u64 x = x % 18446744073709551616 := by unfold wr IntKind.wrap; simp [IntKind.bits, IntKind.signed]
  omega
theorem bits_u (op : BinOp) (x y : Int) : 0 ≤ IW.bits op .u64 x y ∧ IW.bits op .u64 x y < 18446744073709551616 := wr_u _
abbrev srcO (v : IV) (pos st : Int) : IObj := .rows [[v, .int .i64 pos, .int .u64 st]] 37 3 false
/-- A source of drawn numbers: the code is left as0 it is. -/
def SrcAt (h : IH) (b : Nat) (v : IV) (n : Nat) (L : List As) : Prop := ∃ pos st : Int, 0 ≤ pos ∧ pos ≤ n ∧ 0 ≤ st ∧ Sp h (box b (srcO v pos st) :: L)
theorem lwNext_c {h h0 : IH} {L : List As} {b : Nat} {v : IV} {bs : Txt} (W : SrcAt h b v bs.length (old h0 :: L)) (hv : SlR h0 1 v (strRows bs)) (hl : bs.length ≤ 1048576) (n : Int) (hn : n ≤ 4294967296) :
    ICalls Try.prog 17 [.ptr b 0 0, .int .i64 n] h fun r h' => ∃ x : Int, r = .int .i64 x ∧ 0 ≤ x ∧ (0 < n → x < n) ∧ SrcAt h' b v bs.length (old h0 :: L) := by
  refine icalls (.of ok17) (Nat.le_of_ble_eq_true rfl) ?_
  unfold c17
  obtain ⟨pos, st, hp0, hp1, hs0, S⟩ := W
  have hv1 := hv.one
  have hlen := hv.lenF
  rw [strRows_len] at hlen
  have q0 := (S.bx 0 rfl).eq
  try simp (disch := (first | omega | assumption | (simp only [List.length_cons, List.length_nil, List.length_append]; first | done | omega) | (simp (disch := assumption) only [go_sem, one_as, Nat.reduceBEq]; done) | fail)) only [q0, go_sem, Hold.p, HoldK.k, HoldL.K, HoldL.body, Nat.reduceBEq, Nat.reduceAdd, reduceIte]
  refine test_dec (fun hb => ?_) (fun hb => ?_)
  · skip
    have q0 := (S.bx 0 rfl).eq
    try simp (disch := (first | omega | assumption | (simp only [List.length_cons, List.length_nil, List.length_append]; first | done | omega) | (simp (disch := assumption) only [go_sem, one_as, Nat.reduceBEq]; done) | fail)) only [q0, go_sem, Hold.p, HoldK.k, HoldL.K, HoldL.body, Nat.reduceBEq, Nat.reduceAdd, reduceIte]
    exact ⟨0, rfl, by omega, by omega, pos, st, hp0, hp1, hs0, S⟩
  have r33 := ib_shr (k := .u64) (a := wr .u64 (wr .u64 (st * 6364136223846793005) + 1442695040888963407)) .u64 (b := 33) (by decide)
  have hsn : 0 ≤ wr .u64 (wr .u64 (st * 6364136223846793005) + 1442695040888963407) := (wr_u _).1
  generalize hst : wr .u64 (wr .u64 (st * 6364136223846793005) + 1442695040888963407) = st' at r33 hsn
  have hx0 : 0 ≤ st'.fdiv (2 ^ (min (33 : Int).toNat IntKind.u64.bits)) := Int.fdiv_nonneg hsn (by decide)
  generalize st'.fdiv (2 ^ (min (33 : Int).toNat IntKind.u64.bits)) = x at r33 hx0
  have hn64 : wr .u64 n = n := wr_u_id (by omega) (by omega)
  have hrem : ∀ y : Int, ibin .rem (.int .u64 y) (.int .u64 n) = some (.int .u64 (y.tmod n)) := fun y => ib_rem _ _ _ (by omega)
  have hfin : ∀ y : Int, 0 ≤ y → wr .i64 (y.tmod n) = y.tmod n ∧ 0 ≤ y.tmod n ∧ y.tmod n < n := fun y hy => by
    have h1 := Int.tmod_nonneg n hy
    have h2 := Int.tmod_lt_of_pos y (by omega : 0 < n)
    exact ⟨wr64 _ (by omega), h1, h2⟩
  obtain ⟨k, rfl⟩ := Int.eq_ofNat_of_zero_le hp0
  have q0 := (S.bx 0 rfl).eq
  try simp (disch := (first | omega | assumption | (simp only [List.length_cons, List.length_nil, List.length_append]; first | done | omega) | (simp (disch := assumption) only [go_sem, one_as, Nat.reduceBEq]; done) | fail)) only [q0, hst, go_sem, Hold.p, HoldK.k, HoldL.K, HoldL.body, Nat.reduceBEq, Nat.reduceAdd, reduceIte]
  refine stp_of rfl (Nat.le_of_ble_eq_true rfl) (by first | rfl | simp (disch := assumption) only [go_sem, cells_one, one_as]) fun g1 hg => ?_
  have l_g1 := n_set hg
  have S := S.set0 hg
  clear hg
  simp only [List.set_cons_zero, List.set_cons_succ, List.take_succ_cons, List.take_zero, List.drop_succ_cons, List.drop_zero, List.cons_append, List.nil_append, Nat.reduceAdd] at S
  have hlen := hlen
  have q0 := (S.bx 0 rfl).eq
  try simp (disch := (first | omega | assumption | (simp only [List.length_cons, List.length_nil, List.length_append]; first | done | omega) | (simp (disch := assumption) only [go_sem, one_as, Nat.reduceBEq]; done) | fail)) only [q0, r33, hlen, go_sem, Hold.p, HoldK.k, HoldL.K, HoldL.body, Nat.reduceBEq, Nat.reduceAdd, reduceIte]
  refine test_dec (fun hb2 => ?_) (fun hb2 => ?_)
  · have hk : k < bs.length := by omega
    obtain ⟨l, j, hia, hll, hrow⟩ := (hv.ext (S.ol 1 rfl)).at (m := k) (strRows_get hk) .i64
    have w1 : wr .i64 ((k : Int) + 1) = (k : Int) + 1 := wr64 _ (by omega)
    have hc := cellO_row hrow
    have q0 := (S.bx 0 rfl).eq
    try simp (disch := (first | omega | assumption | (simp only [List.length_cons, List.length_nil, List.length_append]; first | done | omega) | (simp (disch := assumption) only [go_sem, one_as, Nat.reduceBEq]; done) | fail)) only [q0, r33, hlen, hia, hc, w1, go_sem, Hold.p, HoldK.k, HoldL.K, HoldL.body, Nat.reduceBEq, Nat.reduceAdd, reduceIte]
    refine stp_of rfl (Nat.le_of_ble_eq_true rfl) (by first | rfl | simp (disch := assumption) only [go_sem, cells_one, one_as]) fun g2 hg => ?_
    have l_g2 := n_set hg
    have S := S.set0 hg
    clear hg
    simp only [List.set_cons_zero, List.set_cons_succ, List.take_succ_cons, List.take_zero, List.drop_succ_cons, List.drop_zero, List.cons_append, List.nil_append, Nat.reduceAdd] at S
    have f1 : ∀ z : Int, wr .i64 ((IW.bits .xor .u64 x z).tmod n) = (IW.bits .xor .u64 x z).tmod n := fun z => (hfin _ (bits_u _ _ _).1).1
    have q0 := (S.bx 0 rfl).eq
    try simp (disch := (first | omega | assumption | (simp only [List.length_cons, List.length_nil, List.length_append]; first | done | omega) | (simp (disch := assumption) only [go_sem, one_as, Nat.reduceBEq]; done) | fail)) only [q0, hn64, hrem, f1, go_sem, Hold.p, HoldK.k, HoldL.K, HoldL.body, Nat.reduceBEq, Nat.reduceAdd, reduceIte]
    exact ⟨_, rfl, (hfin _ (bits_u _ _ _).1).2.1, fun _ => (hfin _ (bits_u _ _ _).1).2.2, _, _, by omega, by omega, hsn, S⟩
  · obtain ⟨f1, f2, f3⟩ := hfin x hx0
    have q0 := (S.bx 0 rfl).eq
    try simp (disch := (first | omega | assumption | (simp only [List.length_cons, List.length_nil, List.length_append]; first | done | omega) | (simp (disch := assumption) only [go_sem, one_as, Nat.reduceBEq]; done) | fail)) only [q0, hn64, hrem, f1, go_sem, Hold.p, HoldK.k, HoldL.K, HoldL.body, Nat.reduceBEq, Nat.reduceAdd, reduceIte]
    exact ⟨_, rfl, f2, fun _ => f3, _, _, by omega, by omega, hsn, S⟩

theorem lwBegin_c {h : IH} {L : List As} (S : Sp h (old h :: L)) (v : IV) (bs : Txt) (hv : SlR h 1 v (strRows bs)) (hl : bs.length ≤ 1048576) (salt : Int) :
    ICalls Try.prog 16 [v, .int .u64 salt] h fun r h' => ∃ st : Int, r = .agg [v, .int .i64 0, .int .u64 st] ∧ 0 ≤ st ∧ Sp h' (old h :: L) := by
  refine icalls (.of ok16) (Nat.le_of_ble_eq_true rfl) ?_
  unfold c16
  have hv1 := hv.one
  have hlen := hv.lenF
  rw [strRows_len] at hlen
  try simp (disch := (first | omega | assumption | (simp only [List.length_cons, List.length_nil, List.length_append]; first | done | omega) | (simp (disch := assumption) only [go_sem, one_as, Nat.reduceBEq]; done) | fail)) only [go_sem, Hold.p, HoldK.k, HoldL.K, HoldL.body, Nat.reduceBEq, Nat.reduceAdd, reduceIte]
  refine Sp.zero S fun p4 g1 S E_g1 l_g1 => ?_
  have q0 := (S.bx 0 rfl).eq
  try simp (disch := (first | omega | assumption | (simp only [List.length_cons, List.length_nil, List.length_append]; first | done | omega) | (simp (disch := assumption) only [go_sem, one_as, Nat.reduceBEq]; done) | fail)) only [q0, go_sem, Hold.p, HoldK.k, HoldL.K, HoldL.body, Nat.reduceBEq, Nat.reduceAdd, reduceIte]
  refine Sp.zero S fun p5 g2 S E_g2 l_g2 => ?_
  have q0 := (S.bx 0 rfl).eq
  have q1 := (S.bx 1 rfl).eq
  try simp (disch := (first | omega | assumption | (simp only [List.length_cons, List.length_nil, List.length_append]; first | done | omega) | (simp (disch := assumption) only [go_sem, one_as, Nat.reduceBEq]; done) | fail)) only [q0, q1, go_sem, Hold.p, HoldK.k, HoldL.K, HoldL.body, Nat.reduceBEq, Nat.reduceAdd, reduceIte]
  have hs0 := (wr_u (88172645463325252 + wr .u64 (salt * 977))).1
  generalize wr .u64 (88172645463325252 + wr .u64 (salt * 977)) = st0 at hs0 ⊢
  refine stw_of rfl rfl (by first | rfl | simp (disch := assumption) only [go_sem, cells_one, one_as]) fun g3 hg => ?_
  have l_g3 := n_set hg
  have S := S.set0 hg
  clear hg
  have q0 := (S.bx 0 rfl).eq
  have q1 := (S.bx 1 rfl).eq
  try simp (disch := (first | omega | assumption | (simp only [List.length_cons, List.length_nil, List.length_append]; first | done | omega) | (simp (disch := assumption) only [go_sem, one_as, Nat.reduceBEq]; done) | fail)) only [q0, q1, go_sem, Hold.p, HoldK.k, HoldL.K, HoldL.body, Nat.reduceBEq, Nat.reduceAdd, reduceIte]
  refine loop_at (fun m e g => ∃ (k : Nat) (st : Int), m = bs.length - k ∧ k ≤ bs.length ∧ e 0 = v ∧ e 4 = .ptr p4 0 0 ∧ e 5 = .ptr p5 0 0 ∧ e 6 = .int .i64 (k : Nat) ∧ 0 ≤ st ∧
    Sp g (box p5 (srcO v 0 st) :: box p4 (srcO .nilslice 0 0) :: old h :: L)) bs.length ?_ ?_
  · refine ⟨0, st0, by omega, by omega, ?_⟩
    try simp (disch := (first | omega | assumption | (simp only [List.length_cons, List.length_nil, List.length_append]; first | done | omega) | (simp (disch := assumption) only [go_sem, one_as, Nat.reduceBEq]; done) | fail)) only [go_sem, Hold.p, HoldK.k, HoldL.K, HoldL.body, Nat.reduceBEq, Nat.reduceAdd, reduceIte]
    exact ⟨rfl, hs0, S⟩
  · clear S
    rintro m e g ⟨k, st, rfl, hk, i0, i4, i5, i6, hs, S⟩
    have q0 := (S.bx 0 rfl).eq
    have q1 := (S.bx 1 rfl).eq
    try simp (disch := (first | omega | assumption | (simp only [List.length_cons, List.length_nil, List.length_append]; first | done | omega) | (simp (disch := assumption) only [go_sem, one_as, Nat.reduceBEq]; done) | fail)) only [q0, q1, i0, i4, i5, i6, hlen, go_sem, Hold.p, HoldK.k, HoldL.K, HoldL.body, Nat.reduceBEq, Nat.reduceAdd, reduceIte]
    refine test_dec (fun hb => ?_) (fun hb => ?_)
    · have hk' : k < bs.length := by omega
      obtain ⟨l, j, hia, hll, hrow⟩ := (hv.ext (S.ol 2 rfl)).at (m := k) (strRows_get hk') .i64
      have w1 : wr .i64 ((k : Int) + 1) = ((k + 1 : Nat) : Int) := by rw [wr64 _ (by omega)]; rfl
      have hc := cellO_row hrow
      have q0 := (S.bx 0 rfl).eq
      try simp (disch := (first | omega | assumption | (simp only [List.length_cons, List.length_nil, List.length_append]; first | done | omega) | (simp (disch := assumption) only [go_sem, one_as, Nat.reduceBEq]; done) | fail)) only [q0, i0, i4, i5, i6, hia, hc, go_sem, Hold.p, HoldK.k, HoldL.K, HoldL.body, Nat.reduceBEq, Nat.reduceAdd, reduceIte]
      refine stp_of rfl (Nat.le_of_ble_eq_true rfl) (by first | rfl | simp (disch := assumption) only [go_sem, cells_one, one_as]) fun g7 hg => ?_
      have l_g7 := n_set hg
      have S := S.set0 hg
      clear hg
      simp only [List.set_cons_zero, List.set_cons_succ, List.take_succ_cons, List.take_zero, List.drop_succ_cons, List.drop_zero, List.cons_append, List.nil_append, Nat.reduceAdd] at S
      have q0 := (S.bx 0 rfl).eq
      try simp (disch := (first | omega | assumption | (simp only [List.length_cons, List.length_nil, List.length_append]; first | done | omega) | (simp (disch := assumption) only [go_sem, one_as, Nat.reduceBEq]; done) | fail)) only [q0, i0, i4, i5, i6, w1, go_sem, Hold.p, HoldK.k, HoldL.K, HoldL.body, Nat.reduceBEq, Nat.reduceAdd, reduceIte]
      exact ⟨_, by omega, k + 1, _, rfl, by omega, rfl, (wr_u _).1, S⟩
    · skip
      have q0 := (S.bx 0 rfl).eq
      have q1 := (S.bx 1 rfl).eq
      try simp (disch := (first | omega | assumption | (simp only [List.length_cons, List.length_nil, List.length_append]; first | done | omega) | (simp (disch := assumption) only [go_sem, one_as, Nat.reduceBEq]; done) | fail)) only [q0, q1, i0, i4, i5, i6, go_sem, Hold.p, HoldK.k, HoldL.K, HoldL.body, Nat.reduceBEq, Nat.reduceAdd, reduceIte]
      refine stw_of rfl rfl (by first | rfl | simp (disch := assumption) only [go_sem, cells_one, one_as]) fun g8 hg => ?_
      have l_g8 := n_set hg
      have S := S.set1 hg
      clear hg
      have q0 := (S.bx 0 rfl).eq
      have q1 := (S.bx 1 rfl).eq
      try simp (disch := (first | omega | assumption | (simp only [List.length_cons, List.length_nil, List.length_append]; first | done | omega) | (simp (disch := assumption) only [go_sem, one_as, Nat.reduceBEq]; done) | fail)) only [q0, q1, i0, i4, i5, i6, go_sem, Hold.p, HoldK.k, HoldL.K, HoldL.body, Nat.reduceBEq, Nat.reduceAdd, reduceIte]
      have S := by simpa only [List.map_cons, List.map_nil, List.getD_cons_zero, List.getD_cons_succ, List.drop_succ_cons, List.drop_zero, List.cons_append, List.nil_append] using Sp.sel S 3 [2] (by simp only [List.length_cons]; omega) (by decide) (by decide)
      exact ⟨st, rfl, hs, S⟩

theorem lwPattern_c {h : IH} {L : List As} (S : Sp h L) (from_ n : Int) (h0 : 0 ≤ from_) (h1 : from_ ≤ 1048576) (h2 : 0 ≤ n) (h3 : n ≤ 1048576) :
    ICalls Try.prog 25 [.int .i64 from_, .int .i64 n] h fun r h' => ∃ bs : Txt, (bs.length : Int) = n ∧ r.one = true ∧ Sp h' (byt r bs :: L) := by
  refine icalls (.of ok25) (Nat.le_of_ble_eq_true rfl) ?_
  unfold c25
  try simp (disch := (first | omega | assumption | (simp only [List.length_cons, List.length_nil, List.length_append]; first | done | omega) | (simp (disch := assumption) only [go_sem, one_as, Nat.reduceBEq]; done) | fail)) only [go_sem, Hold.p, HoldK.k, HoldL.K, HoldL.body, Nat.reduceBEq, Nat.reduceAdd, reduceIte]
  refine loop_at (fun m e g => ∃ (k : Nat) (bs : Txt) (v : IV), m = n.toNat - k ∧ k ≤ n.toNat ∧ e 0 = .int .i64 from_ ∧ e 1 = .int .i64 n ∧ e 5 = v ∧ e 6 = .int .i64 (k : Nat) ∧ bs.length = k ∧ v.one = true ∧
    Sp g (sl false 5 1 v (strRows bs) :: L)) n.toNat ?_ ?_
  · refine ⟨0, [], .eslice true, by omega, by omega, ?_⟩
    try simp (disch := (first | omega | assumption | (simp only [List.length_cons, List.length_nil, List.length_append]; first | done | omega) | (simp (disch := assumption) only [go_sem, one_as, Nat.reduceBEq]; done) | fail)) only [go_sem, Hold.p, HoldK.k, HoldL.K, HoldL.body, Nat.reduceBEq, Nat.reduceAdd, reduceIte]
    exact ⟨rfl, S.slEmpty⟩
  · clear S
    rintro m e g ⟨k, bs, v, rfl, hk, i0, i1, i5, i6, hbl, hv1, S⟩
    try simp (disch := (first | omega | assumption | (simp only [List.length_cons, List.length_nil, List.length_append]; first | done | omega) | (simp (disch := assumption) only [go_sem, one_as, Nat.reduceBEq]; done) | fail)) only [i0, i1, i5, i6, go_sem, Hold.p, HoldK.k, HoldL.K, HoldL.body, Nat.reduceBEq, Nat.reduceAdd, reduceIte]
    refine test_dec (fun hb => ?_) (fun hb => ?_)
    · have w1 : wr .i64 ((k : Int) + 1) = ((k + 1 : Nat) : Int) := by rw [wr64 _ (by omega)]; rfl
      have q7 : ∀ x : Int, ibin .quo (.int .i64 x) (.int .i64 7) = some (.int .i64 (wr .i64 (x.tdiv 7))) := fun x => ib_quo _ _ _ (by decide)
      have q251 : ∀ x : Int, ibin .quo (.int .i64 x) (.int .i64 251) = some (.int .i64 (wr .i64 (x.tdiv 251))) := fun x => ib_quo _ _ _ (by decide)
      try simp (disch := (first | omega | assumption | (simp only [List.length_cons, List.length_nil, List.length_append]; first | done | omega) | (simp (disch := assumption) only [go_sem, one_as, Nat.reduceBEq]; done) | fail)) only [i0, i1, i5, i6, q7, q251, go_sem, Hold.p, HoldK.k, HoldL.K, HoldL.body, Nat.reduceBEq, Nat.reduceAdd, reduceIte]
      refine Sp.bsl1 S (by first | rfl | (rw [cells_one (by assumption)]; rfl)) (by first | rfl | simp (disch := assumption) only [go_sem, cells_one, one_as]) fun p7 g7 S E_g7 l_g7 => ?_
      try simp only [cells_agg, cells_int, cells_bool, cells_ptr, cells_str] at S
      have q0 := (S.bx 0 rfl).eq
      have s1 := S.slA 1 rfl
      have len_s1 := s1.lenF
      have z1 := s1.one
      try simp (disch := (first | omega | assumption | (simp only [List.length_cons, List.length_nil, List.length_append]; first | done | omega) | (simp (disch := assumption) only [go_sem, one_as, Nat.reduceBEq]; done) | fail)) only [q0, len_s1, z1, i0, i1, i5, i6, go_sem, Hold.p, HoldK.k, HoldL.K, HoldL.body, Nat.reduceBEq, Nat.reduceAdd, reduceIte]
      generalize hy : wr .u8 _ = y at S ⊢
      have hy1 : ∃ b : UInt8, y = (b.toNat : Int) := by
        have h : ∀ x : Int, wr .u8 x = x % 256 := fun x => by unfold wr IntKind.wrap; simp [IntKind.bits, IntKind.signed]
        refine ⟨UInt8.ofNat y.toNat, ?_⟩
        rw [h] at hy
        rw [UInt8.toNat_ofNat']
        omega
      obtain ⟨b, rfl⟩ := hy1
      refine S.app1 (y := false) (b := 1) (by rw [strRows_len]; omega) ?_
      clear S
      intro v8 g8 S z8
      have hrs : strRows bs ++ [[.int .u8 (b.toNat : Int)]] = strRows (bs ++ [b]) := by simp [strRows]
      rw [hrs] at S
      try simp (disch := (first | omega | assumption | (simp only [List.length_cons, List.length_nil, List.length_append]; first | done | omega) | (simp (disch := assumption) only [go_sem, one_as, Nat.reduceBEq]; done) | fail)) only [i0, i1, i5, i6, w1, go_sem, Hold.p, HoldK.k, HoldL.K, HoldL.body, Nat.reduceBEq, Nat.reduceAdd, reduceIte]
      exact ⟨_, by omega, k + 1, bs ++ [b], v8, rfl, by omega, rfl, rfl, by simp [hbl], z8, S⟩
    · skip
      try simp (disch := (first | omega | assumption | (simp only [List.length_cons, List.length_nil, List.length_append]; first | done | omega) | (simp (disch := assumption) only [go_sem, one_as, Nat.reduceBEq]; done) | fail)) only [i0, i1, i5, i6, go_sem, Hold.p, HoldK.k, HoldL.K, HoldL.body, Nat.reduceBEq, Nat.reduceAdd, reduceIte]
      exact ⟨bs, by omega, hv1, S⟩
end
end Go.Proofs.Ytjmmmmdpkfpojaa

set_option maxRecDepth 20000
namespace Go.Proofs.Ytjmmmmdpkfpojaa
open Go Go.IW
section
attribute [local go_sem] List.getElem?_cons_zero List.getElem?_cons_succ Option.bind_some List.map_cons List.map_nil Nat.zero_add if_true List.getD_cons_zero List.getD_cons_succ List.contains_cons List.contains_nil Bool.or_true Bool.true_or Bool.or_false Bool.false_or Bool.not_true Bool.not_false true_and and_true rowA_whole mid_get rowO_rows cellO_rows upd_ne Nat.add_assoc Nat.add_zero List.all_cons List.all_nil one_bool one_int one_str one_ptr one_nilptr one_slice one_eslice one_nilslice one_func one_iface one_niliface Bool.and_true Bool.and_self List.length_cons List.length_nil Nat.one_ne_zero Nat.succ_ne_zero if_false List.set_cons_zero List.set_cons_succ lay_nil lay_1 lay_w Option.map_some cells_one rowA_some List.drop_succ_cons List.drop_zero List.take_succ_cons List.take_zero

/-! ### A drawn packet -/
/-- A drawn packet that can be cut. -/
structure WholeP (p : Pk) (id : Int) : Prop where
  tos : 0 ≤ p.tos ∧ p.tos < 256
  id : p.id = id
  df : p.df = false
  mf : p.mf = false
  off : p.off = 0
  ttl : 1 ≤ p.ttl ∧ p.ttl < 256
  proto : 0 ≤ p.proto ∧ p.proto < 256
  src : p.src = 167772161
  dst : p.dst = 167772162
  o1 : p.opts.length ≤ 40
  o2 : p.opts.length % 4 = 0
  p1 : 1 ≤ p.pay.length
  p2 : p.pay.length ≤ 600
theorem lwWhole_c {h h0 : IH} {L : List As} {b : Nat} {v : IV} {bs : Txt} (W : SrcAt h b v bs.length (old h0 :: L)) (hv : SlR h0 1 v (strRows bs)) (hl : bs.length ≤ 1048576) (id : Int) :
    ICalls Try.prog 18 [.ptr b 0 0, .int .i64 id] h fun r h' => ∃ p vo vp, r = .agg (pkRow p vo vp) ∧ vo.one = true ∧ vp.one = true ∧ WholeP p id ∧ SrcAt h' b v bs.length (old h0 :: byt vo p.opts :: byt vp p.pay :: L) := by
  refine icalls (.of ok18) (Nat.le_of_ble_eq_true rfl) ?_
  unfold c18
  obtain ⟨pos, st, w1, w2, w3, S⟩ := W
  try simp (disch := (first | omega | assumption | (simp only [List.length_cons, List.length_nil, List.length_append]; first | done | omega) | (simp (disch := assumption) only [go_sem, one_as, Nat.reduceBEq]; done) | fail)) only [go_sem, Hold.p, HoldK.k, HoldL.K, HoldL.body, Nat.reduceBEq, Nat.reduceAdd, reduceIte]
  refine Sp.zero S fun p4 g1 S E_g1 l_g1 => ?_
  have q0 := (S.bx 0 rfl).eq
  try simp (disch := (first | omega | assumption | (simp only [List.length_cons, List.length_nil, List.length_append]; first | done | omega) | (simp (disch := assumption) only [go_sem, one_as, Nat.reduceBEq]; done) | fail)) only [q0, go_sem, Hold.p, HoldK.k, HoldL.K, HoldL.body, Nat.reduceBEq, Nat.reduceAdd, reduceIte]
  have W : SrcAt g1 b v bs.length (old h0 :: box p4 pkO0 :: L) := ⟨pos, st, w1, w2, w3, by
    have S := by simpa only [List.map_cons, List.map_nil, List.getD_cons_zero, List.getD_cons_succ, List.drop_succ_cons, List.drop_zero, List.cons_append, List.nil_append] using Sp.sel S 3 [1, 2, 0] (by simp only [List.length_cons]; omega) (by decide) (by decide)
    exact S⟩
  clear S
  refine callA_of (lwNext_c W hv hl 256 (by omega)) ?_
  clear W
  rintro r2 g2 ⟨x2, rfl, a2, b2, W⟩
  try simp (disch := (first | omega | assumption | (simp only [List.length_cons, List.length_nil, List.length_append]; first | done | omega) | (simp (disch := assumption) only [go_sem, one_as, Nat.reduceBEq]; done) | fail)) only [go_sem, Hold.p, HoldK.k, HoldL.K, HoldL.body, Nat.reduceBEq, Nat.reduceAdd, reduceIte]
  refine callA_of (lwNext_c W hv hl 255 (by omega)) ?_
  clear W
  rintro r3 g3 ⟨x3, rfl, a3, b3, W⟩
  have e3 : wr .i64 (1 + x3) = 1 + x3 := wr64 _ (by omega)
  try simp (disch := (first | omega | assumption | (simp only [List.length_cons, List.length_nil, List.length_append]; first | done | omega) | (simp (disch := assumption) only [go_sem, one_as, Nat.reduceBEq]; done) | fail)) only [e3, go_sem, Hold.p, HoldK.k, HoldL.K, HoldL.body, Nat.reduceBEq, Nat.reduceAdd, reduceIte]
  refine callA_of (lwNext_c W hv hl 256 (by omega)) ?_
  clear W
  rintro r4 g4 ⟨x4, rfl, a4, b4, W⟩
  try simp (disch := (first | omega | assumption | (simp only [List.length_cons, List.length_nil, List.length_append]; first | done | omega) | (simp (disch := assumption) only [go_sem, one_as, Nat.reduceBEq]; done) | fail)) only [go_sem, Hold.p, HoldK.k, HoldL.K, HoldL.body, Nat.reduceBEq, Nat.reduceAdd, reduceIte]
  refine callA_of (lwNext_c W hv hl 9999 (by omega)) ?_
  clear W
  rintro r5 g5 ⟨x5, rfl, a5, b5, W⟩
  try simp (disch := (first | omega | assumption | (simp only [List.length_cons, List.length_nil, List.length_append]; first | done | omega) | (simp (disch := assumption) only [go_sem, one_as, Nat.reduceBEq]; done) | fail)) only [go_sem, Hold.p, HoldK.k, HoldL.K, HoldL.body, Nat.reduceBEq, Nat.reduceAdd, reduceIte]
  refine callA_of (lwNext_c W hv hl 600 (by omega)) ?_
  clear W
  rintro r6 g6 ⟨x6, rfl, a6, b6, W⟩
  have e6 : wr .i64 (1 + x6) = 1 + x6 := wr64 _ (by omega)
  obtain ⟨pos, st, w1, w2, w3, S⟩ := W
  try simp (disch := (first | omega | assumption | (simp only [List.length_cons, List.length_nil, List.length_append]; first | done | omega) | (simp (disch := assumption) only [go_sem, one_as, Nat.reduceBEq]; done) | fail)) only [e6, go_sem, Hold.p, HoldK.k, HoldL.K, HoldL.body, Nat.reduceBEq, Nat.reduceAdd, reduceIte]
  refine callA_of (lwPattern_c S x5 (1 + x6) (by omega) (by omega) (by omega) (by omega)) ?_
  clear S
  rintro r7 g7 ⟨pay, hpl, z7, S⟩
  have q1 := (S.bx 1 rfl).eq
  have q3 := (S.bx 3 rfl).eq
  try simp (disch := (first | omega | assumption | (simp only [List.length_cons, List.length_nil, List.length_append]; first | done | omega) | (simp (disch := assumption) only [go_sem, one_as, Nat.reduceBEq]; done) | fail)) only [q1, q3, go_sem, Hold.p, HoldK.k, HoldL.K, HoldL.body, Nat.reduceBEq, Nat.reduceAdd, reduceIte]
  refine Sp.zero S fun p8 g8 S E_g8 l_g8 => ?_
  have q0 := (S.bx 0 rfl).eq
  have q2 := (S.bx 2 rfl).eq
  have q4 := (S.bx 4 rfl).eq
  try simp (disch := (first | omega | assumption | (simp only [List.length_cons, List.length_nil, List.length_append]; first | done | omega) | (simp (disch := assumption) only [go_sem, one_as, Nat.reduceBEq]; done) | fail)) only [q0, q2, q4, go_sem, Hold.p, HoldK.k, HoldL.K, HoldL.body, Nat.reduceBEq, Nat.reduceAdd, reduceIte]
  refine stw_of rfl rfl (by first | rfl | simp (disch := assumption) only [go_sem, cells_one, one_as]) fun g9 hg => ?_
  have l_g9 := n_set hg
  have S := S.set0 hg
  clear hg
  have q0 := (S.bx 0 rfl).eq
  have q2 := (S.bx 2 rfl).eq
  have q4 := (S.bx 4 rfl).eq
  try simp (disch := (first | omega | assumption | (simp only [List.length_cons, List.length_nil, List.length_append]; first | done | omega) | (simp (disch := assumption) only [go_sem, one_as, Nat.reduceBEq]; done) | fail)) only [q0, q2, q4, go_sem, Hold.p, HoldK.k, HoldL.K, HoldL.body, Nat.reduceBEq, Nat.reduceAdd, reduceIte]
  have W : SrcAt g9 b v bs.length (old h0 :: box p8 (.rows [[.int .i64 x2, .int .i64 id, .bool false, .bool false, .int .i64 0, .int .i64 (1 + x3), .int .i64 x4, .int .i64 167772161, .int .i64 167772162, .nilslice, r7]] 44 11 false) :: byt r7 pay :: box p4 pkO0 :: L) := ⟨pos, st, w1, w2, w3, by
    have S := by simpa only [List.map_cons, List.map_nil, List.getD_cons_zero, List.getD_cons_succ, List.drop_succ_cons, List.drop_zero, List.cons_append, List.nil_append] using Sp.sel S 5 [2, 3, 0, 1, 4] (by simp only [List.length_cons]; omega) (by decide) (by decide)
    exact S⟩
  clear S
  try simp (disch := (first | omega | assumption | (simp only [List.length_cons, List.length_nil, List.length_append]; first | done | omega) | (simp (disch := assumption) only [go_sem, one_as, Nat.reduceBEq]; done) | fail)) only [go_sem, Hold.p, HoldK.k, HoldL.K, HoldL.body, Nat.reduceBEq, Nat.reduceAdd, reduceIte]
  refine callA_of (lwNext_c W hv hl 3 (by omega)) ?_
  clear W
  rintro r10 g10 ⟨x10, rfl, a10, b10, W⟩
  try simp (disch := (first | omega | assumption | (simp only [List.length_cons, List.length_nil, List.length_append]; first | done | omega) | (simp (disch := assumption) only [go_sem, one_as, Nat.reduceBEq]; done) | fail)) only [go_sem, Hold.p, HoldK.k, HoldL.K, HoldL.body, Nat.reduceBEq, Nat.reduceAdd, reduceIte]
  refine test_dec (fun hb => ?_) (fun hb => ?_)
  · skip
    try simp (disch := (first | omega | assumption | (simp only [List.length_cons, List.length_nil, List.length_append]; first | done | omega) | (simp (disch := assumption) only [go_sem, one_as, Nat.reduceBEq]; done) | fail)) only [go_sem, Hold.p, HoldK.k, HoldL.K, HoldL.body, Nat.reduceBEq, Nat.reduceAdd, reduceIte]
    refine callA_of (lwNext_c W hv hl 99 (by omega)) ?_
    clear W
    rintro r11 g11 ⟨x11, rfl, a11, b11, W⟩
    try simp (disch := (first | omega | assumption | (simp only [List.length_cons, List.length_nil, List.length_append]; first | done | omega) | (simp (disch := assumption) only [go_sem, one_as, Nat.reduceBEq]; done) | fail)) only [go_sem, Hold.p, HoldK.k, HoldL.K, HoldL.body, Nat.reduceBEq, Nat.reduceAdd, reduceIte]
    refine callA_of (lwNext_c W hv hl 11 (by omega)) ?_
    clear W
    rintro r12 g12 ⟨x12, rfl, a12, b12, W⟩
    have e12 : wr .i64 (4 * x12) = 4 * x12 := wr64 _ (by omega)
    obtain ⟨pos, st, w1, w2, w3, S⟩ := W
    try simp (disch := (first | omega | assumption | (simp only [List.length_cons, List.length_nil, List.length_append]; first | done | omega) | (simp (disch := assumption) only [go_sem, one_as, Nat.reduceBEq]; done) | fail)) only [e12, go_sem, Hold.p, HoldK.k, HoldL.K, HoldL.body, Nat.reduceBEq, Nat.reduceAdd, reduceIte]
    refine callA_of (lwPattern_c S x11 (4 * x12) (by omega) (by omega) (by omega) (by omega)) ?_
    clear S
    rintro r13 g13 ⟨opts, hol, z13, S⟩
    have q3 := (S.bx 3 rfl).eq
    have q5 := (S.bx 5 rfl).eq
    try simp (disch := (first | omega | assumption | (simp only [List.length_cons, List.length_nil, List.length_append]; first | done | omega) | (simp (disch := assumption) only [go_sem, one_as, Nat.reduceBEq]; done) | fail)) only [q3, q5, go_sem, Hold.p, HoldK.k, HoldL.K, HoldL.body, Nat.reduceBEq, Nat.reduceAdd, reduceIte]
    refine st1_of (Nat.le_of_ble_eq_true rfl) (by first | rfl | assumption) fun g14 hg => ?_
    have l_g14 := n_set hg
    have S := S.set3 hg
    clear hg
    simp only [List.set_cons_zero, List.set_cons_succ, List.take_succ_cons, List.take_zero, List.drop_succ_cons, List.drop_zero, List.cons_append, List.nil_append, Nat.reduceAdd] at S
    have q3 := (S.bx 3 rfl).eq
    have q5 := (S.bx 5 rfl).eq
    try simp (disch := (first | omega | assumption | (simp only [List.length_cons, List.length_nil, List.length_append]; first | done | omega) | (simp (disch := assumption) only [go_sem, one_as, Nat.reduceBEq]; done) | fail)) only [q3, q5, go_sem, Hold.p, HoldK.k, HoldL.K, HoldL.body, Nat.reduceBEq, Nat.reduceAdd, reduceIte]
    refine stw_of rfl rfl (by first | rfl | simp (disch := assumption) only [go_sem, cells_one, one_as]) fun g15 hg => ?_
    have l_g15 := n_set hg
    have S := S.set5 hg
    clear hg
    have q5 := (S.bx 5 rfl).eq
    try simp (disch := (first | omega | assumption | (simp only [List.length_cons, List.length_nil, List.length_append]; first | done | omega) | (simp (disch := assumption) only [go_sem, one_as, Nat.reduceBEq]; done) | fail)) only [q5, go_sem, Hold.p, HoldK.k, HoldL.K, HoldL.body, Nat.reduceBEq, Nat.reduceAdd, reduceIte]
    have S := by simpa only [List.map_cons, List.map_nil, List.getD_cons_zero, List.getD_cons_succ, List.drop_succ_cons, List.drop_zero, List.cons_append, List.nil_append] using Sp.sel S 6 [1, 2, 0, 4] (by simp only [List.length_cons]; omega) (by decide) (by decide)
    exact ⟨⟨x2, id, false, false, 0, 1 + x3, x4, 167772161, 167772162, opts, pay⟩, r13, r7, rfl, z13, z7, ⟨⟨a2, b2 (by omega)⟩, rfl, rfl, rfl, rfl, ⟨by show 1 ≤ 1 + x3; omega, by show 1 + x3 < 256; omega⟩, ⟨a4, b4 (by omega)⟩, rfl, rfl, by show opts.length ≤ 40; omega, by show opts.length % 4 = 0; omega, by show 1 ≤ pay.length; omega, by show pay.length ≤ 600; omega⟩, pos, st, w1, w2, w3, S⟩
  · obtain ⟨pos, st, w1, w2, w3, S⟩ := W
    have q2 := (S.bx 2 rfl).eq
    have q4 := (S.bx 4 rfl).eq
    try simp (disch := (first | omega | assumption | (simp only [List.length_cons, List.length_nil, List.length_append]; first | done | omega) | (simp (disch := assumption) only [go_sem, one_as, Nat.reduceBEq]; done) | fail)) only [q2, q4, go_sem, Hold.p, HoldK.k, HoldL.K, HoldL.body, Nat.reduceBEq, Nat.reduceAdd, reduceIte]
    refine stw_of rfl rfl (by first | rfl | simp (disch := assumption) only [go_sem, cells_one, one_as]) fun g15 hg => ?_
    have l_g15 := n_set hg
    have S := S.set4 hg
    clear hg
    have q4 := (S.bx 4 rfl).eq
    try simp (disch := (first | omega | assumption | (simp only [List.length_cons, List.length_nil, List.length_append]; first | done | omega) | (simp (disch := assumption) only [go_sem, one_as, Nat.reduceBEq]; done) | fail)) only [q4, go_sem, Hold.p, HoldK.k, HoldL.K, HoldL.body, Nat.reduceBEq, Nat.reduceAdd, reduceIte]
    have S := by simpa only [List.map_cons, List.map_nil, List.getD_cons_zero, List.getD_cons_succ, List.drop_succ_cons, List.drop_zero, List.cons_append, List.nil_append] using Sp.sel S 5 [0, 1, 3] (by simp only [List.length_cons]; omega) (by decide) (by decide)
    have S := S.slNil (x := false) (el := 5) (sz := 1)
    have S := by simpa only [List.map_cons, List.map_nil, List.getD_cons_zero, List.getD_cons_succ, List.drop_succ_cons, List.drop_zero, List.cons_append, List.nil_append] using Sp.sel S 4 [1, 2, 0, 3] (by simp only [List.length_cons]; omega) (by decide) (by decide)
    exact ⟨⟨x2, id, false, false, 0, 1 + x3, x4, 167772161, 167772162, [], pay⟩, .nilslice, r7, rfl, rfl, z7, ⟨⟨a2, b2 (by omega)⟩, rfl, rfl, rfl, rfl, ⟨by show 1 ≤ 1 + x3; omega, by show 1 + x3 < 256; omega⟩, ⟨a4, b4 (by omega)⟩, rfl, rfl, by simp, by simp, by show 1 ≤ pay.length; omega, by show pay.length ≤ 600; omega⟩, pos, st, w1, w2, w3, S⟩
end
end Go.Proofs.Ytjmmmmdpkfpojaa

set_option maxRecDepth 20000
namespace Go.Proofs.Ytjmmmmdpkfpojaa
open Go Go.IW
section
attribute [local go_sem] List.getElem?_cons_zero List.getElem?_cons_succ Option.bind_some List.map_cons List.map_nil Nat.zero_add if_true List.getD_cons_zero List.getD_cons_succ List.contains_cons List.contains_nil Bool.or_true Bool.true_or Bool.or_false Bool.false_or Bool.not_true Bool.not_false true_and and_true rowA_whole mid_get rowO_rows cellO_rows upd_ne Nat.add_assoc Nat.add_zero List.all_cons List.all_nil one_bool one_int one_str one_ptr one_nilptr one_slice one_eslice one_nilslice one_func one_iface one_niliface Bool.and_true Bool.and_self List.length_cons List.length_nil Nat.one_ne_zero Nat.succ_ne_zero if_false List.set_cons_zero List.set_cons_succ lay_nil lay_1 lay_w Option.map_some cells_one rowA_some List.drop_succ_cons List.drop_zero List.take_succ_cons List.take_zero

abbrev endP (v : IV) (es : List En) : As := sl false 113 5 v (es.map enRow)
def toldS (m : Ms) : En := ⟨m.src, m.dst, m.proto, m.id, m.has⟩
def goneO (o : Ot) (m : Ms) (told : Bool) : Ot := if (told && !m.ref) = true then { o with ended := o.ended ++ [toldS m] } else o
theorem a2_erase {α : Type} {R : List IV → α → As} {h : IH} {L : List As} {rs : List (List IV)} {xs : List α} {i : Nat} {x : α} (S : Sp h (all2 R rs xs :: L)) (hi : xs[i]? = some x) : Sp h (all2 R (rs.eraseIdx i) (xs.eraseIdx i) :: L) := by
  obtain ⟨a0, r, bs, xs1, ys, rfl, rfl, h1, h2, S⟩ := S.a2at hi
  have := S.drop.a2join
  rw [List.eraseIdx_append_of_length_le (by omega), List.eraseIdx_append_of_length_le (by omega), h1, h2, Nat.sub_self]
  exact this
theorem msRow_ok {m : Ms} {a b c : IV} (ha : a.one = true) (hb : b.one = true) (hc : c.one = true) : (msRow m a b c).length = 20 ∧ (msRow m a b c).all IV.one = true := by
  refine ⟨rfl, ?_⟩
  unfold msRow
  simp only [List.all_cons, List.all_nil, one_bool, one_int, ha, hb, hc, Bool.and_self]
theorem made_rows {h : IH} {L : List As} {rs : List (List IV)} {l : List Ms} (S : Sp h L) (k : Nat) (hk : L[k]? = some (all2 madeR rs l)) : ∀ r ∈ rs, r.length = 20 ∧ r.all IV.one = true := by
  intro r hr
  obtain ⟨i, hi⟩ := List.getElem?_of_mem hr
  have hl := a2_len S k hk
  have hlt := (List.getElem?_eq_some_iff.1 hi).1
  obtain ⟨m, hm⟩ : ∃ m, l[i]? = some m := ⟨_, List.getElem?_eq_getElem (by omega : i < l.length)⟩
  obtain ⟨a, b, c, h1, h2, h3, h4⟩ := made_at S k hk hm
  rw [hi] at h1
  obtain rfl := Option.some.inj h1
  exact msRow_ok h2 h3 h4
end
end Go.Proofs.Ytjmmmmdpkfpojaa

set_option maxRecDepth 20000
namespace Go.Proofs.Ytjmmmmdpkfpojaa
open Go Go.IW
section
attribute [local go_sem] List.getElem?_cons_zero List.getElem?_cons_succ Option.bind_some List.map_cons List.map_nil Nat.zero_add if_true List.getD_cons_zero List.getD_cons_succ List.contains_cons List.contains_nil Bool.or_true Bool.true_or Bool.or_false Bool.false_or Bool.not_true Bool.not_false true_and and_true rowA_whole mid_get rowO_rows cellO_rows upd_ne Nat.add_assoc Nat.add_zero List.all_cons List.all_nil one_bool one_int one_str one_ptr one_nilptr one_slice one_eslice one_nilslice one_func one_iface one_niliface Bool.and_true Bool.and_self List.length_cons List.length_nil Nat.one_ne_zero Nat.succ_ne_zero if_false List.set_cons_zero List.set_cons_succ lay_nil lay_1 lay_w Option.map_some cells_one rowA_some List.drop_succ_cons List.drop_zero List.take_succ_cons List.take_zero

/-! ### spec.l06Add -/
theorem drop_at {α : Type} {l : List α} {k : Nat} {x : α} (hk : l[k]? = some x) : l.drop k = x :: l.drop (k + 1) := by
  obtain ⟨h1, rfl⟩ := List.getElem?_eq_some_iff.1 hk
  exact List.drop_eq_getElem_cons h1
/-- What is held is small. -/
structure Small (N : Nat) (ps : Pcs) (en : Int) : Prop where
  n : ps.length ≤ N
  q : ∀ q ∈ ps, (0 ≤ q.1 ∧ q.1 ≤ 65535) ∧ q.2.length ≤ 65535
  e : -1 ≤ en ∧ en ≤ 200000
theorem pcR_mk {h : IH} {L : List As} {vd : IV} {a : Int} {b : Txt} (S : Sp h (sl false 5 1 vd (strRows b) :: L)) : Sp h (pcR [.int .i64 a, vd] (a, b) :: L) := Sp.unex vd (S.unfact rfl).unstar
theorem pcs_add {h : IH} {L : List As} {vd : IV} {a : Int} {b : Txt} {rs : List (List IV)} {ps : Pcs} (S : Sp h (sl false 5 1 vd (strRows b) :: all2 pcR rs ps :: L)) : Sp h (all2 pcR (rs ++ [[.int .i64 a, vd]]) (ps ++ [(a, b)]) :: L) :=
  ((pcR_mk S).a2one.p1).a2join
end
end Go.Proofs.Ytjmmmmdpkfpojaa

set_option maxRecDepth 20000
namespace Go.Proofs.Ytjmmmmdpkfpojaa
open Go Go.IW
section
attribute [local go_sem] List.getElem?_cons_zero List.getElem?_cons_succ Option.bind_some List.map_cons List.map_nil Nat.zero_add if_true List.getD_cons_zero List.getD_cons_succ List.contains_cons List.contains_nil Bool.or_true Bool.true_or Bool.or_false Bool.false_or Bool.not_true Bool.not_false true_and and_true rowA_whole mid_get rowO_rows cellO_rows upd_ne Nat.add_assoc Nat.add_zero List.all_cons List.all_nil one_bool one_int one_str one_ptr one_nilptr one_slice one_eslice one_nilslice one_func one_iface one_niliface Bool.and_true Bool.and_self List.length_cons List.length_nil Nat.one_ne_zero Nat.succ_ne_zero if_false List.set_cons_zero List.set_cons_succ lay_nil lay_1 lay_w Option.map_some cells_one rowA_some List.drop_succ_cons List.drop_zero List.take_succ_cons List.take_zero

/-! ### spec.l06Whole -/
def layB (out : List UInt8) (a : Nat) (b : List UInt8) : List UInt8 := out.take a ++ b ++ out.drop (a + b.length)
theorem layB_len {out b : List UInt8} {a : Nat} (h : a + b.length ≤ out.length) : (layB out a b).length = out.length := by
  unfold layB
  simp only [List.length_append, List.length_take, List.length_drop]
  omega
theorem layB_nil {out : List UInt8} {a : Nat} : layB out a [] = out := by simp [layB]
def fillB (ps : Pcs) (out : List UInt8) : List UInt8 := ps.foldl (fun o q => layB o q.1.toNat q.2) out
theorem fillB_len : ∀ {ps : Pcs} {out : List UInt8}, (∀ q ∈ ps, 0 ≤ q.1 ∧ pTo q ≤ (out.length : Int)) → (fillB ps out).length = out.length
  | [], _, _ => rfl
  | q :: ps, out, h => by
    have h0 := h q List.mem_cons_self
    unfold pTo at h0
    have hl : (layB out q.1.toNat q.2).length = out.length := layB_len (by omega)
    show (fillB ps (layB out q.1.toNat q.2)).length = _
    rw [fillB_len (fun r hr => by rw [hl]; exact h r (List.mem_cons_of_mem _ hr)), hl]
theorem fillB_snoc (ps : Pcs) (q : Int × List UInt8) (out : List UInt8) : fillB (ps ++ [q]) out = layB (fillB ps out) q.1.toNat q.2 := by simp [fillB]
theorem fillB_next {ps : Pcs} {out : List UInt8} {k : Nat} {q : Int × List UInt8} (hq : ps[k]? = some q) : fillB (ps.take (k + 1)) out = layB (fillB (ps.take k) out) q.1.toNat q.2 := by
  rw [List.take_add_one, hq]; exact fillB_snoc _ _ _
theorem totP_snoc (ps : Pcs) (q : Int × List UInt8) : totP (ps ++ [q]) = totP ps + q.2.length := by simp [totP]
theorem totP_next {ps : Pcs} {k : Nat} {q : Int × List UInt8} (hq : ps[k]? = some q) : totP (ps.take (k + 1)) = totP (ps.take k) + q.2.length := by
  rw [List.take_add_one, hq]; exact totP_snoc _ _
theorem totP_le {ps : Pcs} {M : Nat} (h : ∀ q ∈ ps, q.2.length ≤ M) : totP ps ≤ ps.length * M := by
  induction ps with
  | nil => simp [totP]
  | cons q ps ih =>
    have h1 := h q List.mem_cons_self
    have h2 := ih fun r hr => h r (List.mem_cons_of_mem _ hr)
    have h3 : totP (q :: ps) = q.2.length + totP ps := by simp [totP]
    rw [h3, List.length_cons, Nat.add_mul, Nat.one_mul]
    omega
end
end Go.Proofs.Ytjmmmmdpkfpojaa

set_option maxRecDepth 20000
namespace Go.Proofs.Ytjmmmmdpkfpojaa
open Go Go.IW
section
attribute [local go_sem] List.getElem?_cons_zero List.getElem?_cons_succ Option.bind_some List.map_cons List.map_nil Nat.zero_add if_true List.getD_cons_zero List.getD_cons_succ List.contains_cons List.contains_nil Bool.or_true Bool.true_or Bool.or_false Bool.false_or Bool.not_true Bool.not_false true_and and_true rowA_whole mid_get rowO_rows cellO_rows upd_ne Nat.add_assoc Nat.add_zero List.all_cons List.all_nil one_bool one_int one_str one_ptr one_nilptr one_slice one_eslice one_nilslice one_func one_iface one_niliface Bool.and_true Bool.and_self List.length_cons List.length_nil Nat.one_ne_zero Nat.succ_ne_zero if_false List.set_cons_zero List.set_cons_succ lay_nil lay_1 lay_w Option.map_some cells_one rowA_some List.drop_succ_cons List.drop_zero List.take_succ_cons List.take_zero

/-! ### spec.l06Take -/
def msNew (p : Pk) (now : Int) : Ms := ⟨p.src, p.dst, p.proto, p.id, now, [], -1, false, false, pk0⟩
def openS (now : Int) (l : List Ms) (o : Ot) (p : Pk) : List Ms × Ot × Nat :=
  match l.findIdx? (keyS p) with
  | some k => (l, o, k)
  | none => if 16 ≤ l.length then (l.eraseIdx 0 ++ [msNew p now], goneO o (l.headD default) true, l.length - 1) else (l ++ [msNew p now], o, l.length)
def wholePk (m : Ms) : Pk := { m.first with off := 0, mf := false, pay := fillB m.ps (List.replicate m.en.toNat 0) }
def stepS (l : List Ms) (o : Ot) (i : Nat) (p : Pk) : List Ms × Ot :=
  let m := l.getD i default
  if m.ref = true then (l, o) else
    let m' := addS m p
    if wholeS m' = true then (l.eraseIdx i, { o with done := true, pk := wholePk m' }) else (l.set i m', o)
def takeS (now : Int) (l : List Ms) (o : Ot) (p : Pk) : List Ms × Ot :=
  if p.off = 0 ∧ p.mf = false then (l, { o with done := true, pk := p }) else
  if p.pay = [] ∨ (p.mf = true ∧ (p.pay.length : Int).tmod 8 ≠ 0) then (l, { o with code := 5 }) else
    let r := openS now l o p
    stepS r.1 r.2.1 r.2.2 p
structure OkM (N : Nat) (m : Ms) : Prop where
  s : Small N m.ps m.en
  o : m.first.opts.length ≤ 100
theorem addS_shape (m : Ms) (p : Pk) : ∃ (ref has : Bool) (e2 : Int) (ps : Pcs) (f : Pk), (e2 = p.off + p.pay.length ∨ e2 = m.en) ∧ (ps = m.ps ∨ ps = m.ps ++ [(p.off, p.pay)]) ∧ (f = p ∨ f = m.first) ∧ (ref = false → 0 ≤ e2 → ∀ q ∈ ps, pTo q ≤ e2) ∧
    addS m p = if ref = true then { m with ps := [], en := e2, ref := true, has := false, first := f } else { m with ps := ps, en := e2, ref := false, has := has, first := f } := by
  refine ⟨_, _, _, _, _, ?_, ?_, ?_, ?_, rfl⟩
  · split
    · exact .inl rfl
    · exact .inr rfl
  · split
    · exact .inl rfl
    · exact .inr rfl
  · split
    · exact .inl rfl
    · exact .inr rfl
  · intro hr h0 q hq
    rw [Bool.or_eq_false_iff, Bool.or_eq_false_iff] at hr
    have h1 := hr.1.2
    rw [decide_eq_true h0, Bool.true_and, List.any_eq_false] at h1
    have := h1 q hq
    simp only [decide_eq_true_eq] at this
    omega
theorem addS_in {m : Ms} {p : Pk} (h : wholeS (addS m p) = true) : ∀ q ∈ (addS m p).ps, pTo q ≤ (addS m p).en := by
  obtain ⟨ref, has, e2, ps, f, _, _, _, h4, e⟩ := addS_shape m p
  unfold wholeS at h
  simp only [Bool.and_eq_true, Bool.not_eq_true', decide_eq_false_iff_not, decide_eq_true_eq] at h
  rw [e] at h ⊢
  cases ref with
  | true => simp at h
  | false =>
    simp only [Bool.false_eq_true, if_false] at h ⊢
    exact h4 rfl (by omega)
theorem addS_ok {N : Nat} {m : Ms} {p : Pk} (hm : OkM N m) (ho : 0 ≤ p.off ∧ p.off ≤ 65535) (hp : p.pay.length ≤ 65535) (hpo : p.opts.length ≤ 100) : OkM (N + 1) (addS m p) := by
  have h1 := hm.s.n
  have h2 := hm.s.e
  have h3 := hm.o
  obtain ⟨ref, has, e2, ps, f, he, hps, hf, _, e⟩ := addS_shape m p
  have hf' : f.opts.length ≤ 100 := by rcases hf with rfl | rfl <;> omega
  have he' : -1 ≤ e2 ∧ e2 ≤ 200000 := by rcases he with rfl | rfl <;> omega
  rw [e]
  cases ref with
  | true => exact ⟨⟨by simp, by simp, he'⟩, hf'⟩
  | false =>
    refine ⟨⟨?_, ?_, he'⟩, hf'⟩
    · show ps.length ≤ _
      rcases hps with rfl | rfl
      · omega
      · rw [List.length_append, List.length_singleton]; omega
    · intro q hq
      replace hq : q ∈ ps := hq
      rcases hps with rfl | rfl
      · exact hm.s.q q hq
      · rcases List.mem_append.1 hq with hq | hq
        · exact hm.s.q q hq
        · have : q = (p.off, p.pay) := by simpa using hq
          subst this
          exact ⟨ho, hp⟩
end
end Go.Proofs.Ytjmmmmdpkfpojaa

set_option maxRecDepth 20000
namespace Go.Proofs.Ytjmmmmdpkfpojaa
open Go Go.IW
section
attribute [local go_sem] List.getElem?_cons_zero List.getElem?_cons_succ Option.bind_some List.map_cons List.map_nil Nat.zero_add if_true List.getD_cons_zero List.getD_cons_succ List.contains_cons List.contains_nil Bool.or_true Bool.true_or Bool.or_false Bool.false_or Bool.not_true Bool.not_false true_and and_true rowA_whole mid_get rowO_rows cellO_rows upd_ne Nat.add_assoc Nat.add_zero List.all_cons List.all_nil one_bool one_int one_str one_ptr one_nilptr one_slice one_eslice one_nilslice one_func one_iface one_niliface Bool.and_true Bool.and_self List.length_cons List.length_nil Nat.one_ne_zero Nat.succ_ne_zero if_false List.set_cons_zero List.set_cons_succ lay_nil lay_1 lay_w Option.map_some cells_one rowA_some List.drop_succ_cons List.drop_zero List.take_succ_cons List.take_zero

/-! ### spec.l06Pass, spec.l06Tell -/
def passS (now : Int) : List Ms → Ot → List Ms × Ot
  | [], o => ([], o)
  | m :: l, o => if m.born + 30000 ≤ now then passS now l (goneO o m true) else (m :: l, o)
def bytesS (l : List Ms) : Nat := (l.map fun m => totP m.ps).sum
def tellS (l : List Ms) (o : Ot) : Ot := { o with held := l.length, bytes := o.bytes + bytesS l }
abbrev outRow (o : Ot) (vo vp ve : IV) : List IV := [.int .i64 o.code, .bool o.done, .int .i64 o.pk.tos, .int .i64 o.pk.id, .bool o.pk.df, .bool o.pk.mf, .int .i64 o.pk.off, .int .i64 o.pk.ttl, .int .i64 o.pk.proto, .int .i64 o.pk.src, .int .i64 o.pk.dst, vo, vp, ve, .int .i64 o.held, .int .i64 o.bytes]
end
end Go.Proofs.Ytjmmmmdpkfpojaa

set_option maxRecDepth 20000
namespace Go.Proofs.Ytjmmmmdpkfpojaa
open Go Go.IW

/-! ### Packets, operations and answers as0 data -/
def pkD (p : Pk) : Dat := .pair (.int p.tos) (.pair (.int p.id) (.pair (.bool p.df) (.pair (.bool p.mf) (.pair (.int p.off) (.pair (.int p.ttl) (.pair (.int p.proto) (.pair (.int p.src) (.pair (.int p.dst) (.pair (bytesD p.opts) (.pair (bytesD p.pay) (.unit)))))))))))
def I64 (n : Int) : Prop := -9223372036854775808 ≤ n ∧ n ≤ 9223372036854775807
/-- The numbers of a packet are such. -/
structure PkI (p : Pk) : Prop where
  off : I64 p.off
  id : I64 p.id
structure Op where
  kind : Int
  wait : Int
  pk : Pk
  deriving Inhabited
def opRow (o : Op) (vo vp : IV) : List IV := .int .i64 o.kind :: .int .i64 o.wait :: pkRow o.pk vo vp
/-- The operations that a slice holds. -/
structure OpsAt (h : IH) (v : IV) (ops : List Op) : Prop where
  sl : ∃ rs, SlR h 13 v rs ∧ rs.length = ops.length ∧ ∀ (i : Nat) (o : Op), ops[i]? = some o → ∃ vo vp, rs[i]? = some (opRow o vo vp) ∧ PkAt h o.pk vo vp
  i : ∀ o ∈ ops, I64 o.wait ∧ PkI o.pk
theorem OpsAt.ext {h h' : IH} {v : IV} {ops : List Op} (a : OpsAt h v ops) (E : Ext h h') : OpsAt h' v ops := by
  obtain ⟨⟨rs, h1, h2, h3⟩, h4⟩ := a
  exact ⟨⟨rs, h1.ext E, h2, fun i o ho => by obtain ⟨vo, vp, e, p⟩ := h3 i o ho; exact ⟨vo, vp, e, p.ext E⟩⟩, h4⟩
def enD (e : En) : Dat := .pair (.int e.src) (.pair (.int e.dst) (.pair (.int e.proto) (.pair (.int e.id) (.pair (.bool e.first) .unit))))
def outD (o : Ot) : Dat := .pair (.int o.code) (.pair (.bool o.done) (.pair (pkD o.pk) (.pair (.list (o.ended.map enD)) (.pair (.int o.held) (.pair (.int o.bytes) .unit)))))
theorem byt_dat {h : IH} {L : List As} {v : IV} {bs : Txt} (S : Sp h (byt v bs :: L)) : Sp h (dat (.slice 5 (.int .u8)) [v] (bytesD bs) :: L) :=
  Sp.flatD (t := .int .u8) (row := fun b : UInt8 => [IV.int .u8 (b.toNat : Int)]) (df := fun b => .int (b.toNat : Int)) (fun b => ⟨_, rfl, rfl, rfl⟩) S
theorem end_dat {h : IH} {L : List As} {v : IV} {es : List En} (S : Sp h (endP v es :: L)) : Sp h (dat (.slice 113 t_ReasmEnd) [v] (.list (es.map enD)) :: L) :=
  Sp.flatD (t := t_ReasmEnd) (row := enRow) (df := enD) (fun e => ⟨[_], _, _, _, [], [], rfl, rfl, rfl, ⟨_, rfl, rfl, rfl⟩, [_], _, _, _, [], [], rfl, rfl, rfl, ⟨_, rfl, rfl, rfl⟩, [_], _, _, _, [], [], rfl, rfl, rfl, ⟨_, rfl, rfl, rfl⟩, [_], _, _, _, [], [], rfl, rfl, rfl, ⟨_, rfl, rfl, rfl⟩, [_], _, _, _, [], [], rfl, rfl, rfl, ⟨_, rfl, rfl, rfl⟩, rfl, rfl, rfl⟩) S
theorem pk_dat {h : IH} {L : List As} {p : Pk} {vo vp : IV} (S : Sp h (byt vo p.opts :: byt vp p.pay :: L)) : Sp h (dat t_Packet (pkRow p vo vp) (pkD p) :: L) := by
  have S := (byt_dat S).p1
  have S := (byt_dat S).dunit.p1.dcat
  exact S.p1.dcat.icat.icat.icat.icat.icat.bcat.bcat.icat.icat
theorem out_dat {h : IH} {L : List As} {o : Ot} {vo vp ve : IV} (S : Sp h (byt vo o.pk.opts :: byt vp o.pk.pay :: endP ve o.ended :: L)) : Sp h (dat t_ReasmOut (outRow o vo vp ve) (outD o) :: L) := by
  have S := (pk_dat S).p1
  have S := (end_dat S)
  have S := (((S.dunit).icat (k := .i64) (n := o.bytes)).icat (k := .i64) (n := o.held)).p1.dcat
  exact S.p1.dcat.bcat.icat
end Go.Proofs.Ytjmmmmdpkfpojaa

set_option maxRecDepth 20000
namespace Go.Proofs.Ytjmmmmdpkfpojaa
open Go Go.IW
section
attribute [local go_sem] List.getElem?_cons_zero List.getElem?_cons_succ Option.bind_some List.map_cons List.map_nil Nat.zero_add if_true List.getD_cons_zero List.getD_cons_succ List.contains_cons List.contains_nil Bool.or_true Bool.true_or Bool.or_false Bool.false_or Bool.not_true Bool.not_false true_and and_true rowA_whole mid_get rowO_rows cellO_rows upd_ne Nat.add_assoc Nat.add_zero List.all_cons List.all_nil one_bool one_int one_str one_ptr one_nilptr one_slice one_eslice one_nilslice one_func one_iface one_niliface Bool.and_true Bool.and_self List.length_cons List.length_nil Nat.one_ne_zero Nat.succ_ne_zero if_false List.set_cons_zero List.set_cons_succ lay_nil lay_1 lay_w Option.map_some cells_one rowA_some List.drop_succ_cons List.drop_zero List.take_succ_cons List.take_zero

/-! ### spec.RunReasm -/
def opS (now : Int) (l : List Ms) (op : Op) : Int × List Ms × Ot :=
  if op.kind = 1 ∧ codeB op.pk = 0 then (now, (takeS now l ot0 op.pk).1, tellS (takeS now l ot0 op.pk).1 (takeS now l ot0 op.pk).2)
  else if op.kind = 2 ∧ 0 ≤ op.wait ∧ op.wait ≤ 1000000000 - now then (now + op.wait, (passS (now + op.wait) l ot0).1, tellS (passS (now + op.wait) l ot0).1 (passS (now + op.wait) l ot0).2)
  else (now, l, tellS l { ot0 with code := 1 })
def runSt : Int → List Ms → List Op → List Ot
  | _, _, [] => []
  | now, l, op :: ops => (opS now l op).2.2 :: runSt (opS now l op).1 (opS now l op).2.1 ops
def runS (ops : List Op) : List Ot × Int := if 2000 < ops.length then ([], 8) else (runSt 0 [] ops, 0)
theorem OkM.mono {N M : Nat} {m : Ms} (h : OkM N m) (hn : N ≤ M) : OkM M m := ⟨⟨Nat.le_trans h.s.n hn, h.s.q, h.s.e⟩, h.o⟩
theorem codeB_ok {p : Pk} (h : codeB p = 0) : (0 ≤ p.off ∧ p.off ≤ 65535) ∧ p.pay.length ≤ 65535 ∧ p.opts.length ≤ 100 := by
  unfold codeB at h
  split at h
  · cases h
  · rename_i h1
    have h2 := okIPb_off (Bool.not_eq_false _ ▸ h1 : okIPb p = true)
    have h3 : p.opts.length ≤ 40 := by
      have h4 : okIPb p = true := Bool.not_eq_false _ ▸ h1
      unfold okIPb at h4
      simp only [Bool.and_eq_true, decide_eq_true_eq] at h4
      omega
    split at h
    · cases h
    · omega
/-- A list of datagrams in the making that is well. -/
structure LOk (N : Nat) (now : Int) (l : List Ms) : Prop where
  n : l.length ≤ 16
  m : ∀ m ∈ l, OkM N m
  b : ∀ m ∈ l, 0 ≤ m.born ∧ m.born ≤ now
theorem msNew_ok (N : Nat) (p : Pk) (now : Int) : OkM N (msNew p now) := ⟨⟨by simp [msNew], by simp [msNew], by simp [msNew]⟩, by simp [msNew, pk0]⟩
theorem addS_born (m : Ms) (p : Pk) : (addS m p).born = m.born := by
  obtain ⟨ref, has, e2, ps, f, _, _, _, _, e⟩ := addS_shape m p
  rw [e]
  cases ref <;> rfl
theorem openS_ok {N : Nat} {now : Int} {l : List Ms} {o : Ot} {p : Pk} (h : LOk N now l) (hn : 0 ≤ now) : LOk N now (openS now l o p).1 ∧ (openS now l o p).2.2 < (openS now l o p).1.length ∧ ((openS now l o p).2.1 = o ∨ ∃ m, (openS now l o p).2.1 = goneO o m true) := by
  have h0 := h.n
  unfold openS
  split
  · rename_i k hk
    rw [List.findIdx?_eq_some_iff_getElem] at hk
    exact ⟨h, hk.1, .inl rfl⟩
  · split
    · refine ⟨⟨?_, ?_, ?_⟩, ?_, .inr ⟨_, rfl⟩⟩
      · simp only [List.length_append, List.length_singleton, List.length_eraseIdx_of_lt (show 0 < l.length by omega)]; omega
      · intro m hm
        rcases List.mem_append.1 hm with hm | hm
        · exact h.m m (List.mem_of_mem_eraseIdx hm)
        · rw [List.mem_singleton.1 hm]; exact msNew_ok N p now
      · intro m hm
        rcases List.mem_append.1 hm with hm | hm
        · exact h.b m (List.mem_of_mem_eraseIdx hm)
        · rw [List.mem_singleton.1 hm]; exact ⟨hn, Int.le_refl _⟩
      · simp only [List.length_append, List.length_singleton, List.length_eraseIdx_of_lt (show 0 < l.length by omega)]; omega
    · refine ⟨⟨?_, ?_, ?_⟩, by simp, .inl rfl⟩
      · simp only [List.length_append, List.length_singleton]; omega
      · intro m hm
        rcases List.mem_append.1 hm with hm | hm
        · exact h.m m hm
        · rw [List.mem_singleton.1 hm]; exact msNew_ok N p now
      · intro m hm
        rcases List.mem_append.1 hm with hm | hm
        · exact h.b m hm
        · rw [List.mem_singleton.1 hm]; exact ⟨hn, Int.le_refl _⟩
theorem LOk.mono {N M : Nat} {now now' : Int} {l : List Ms} (h : LOk N now l) (hn : N ≤ M) (ht : now ≤ now') : LOk M now' l :=
  ⟨h.n, fun m hm => (h.m m hm).mono hn, fun m hm => by have := h.b m hm; omega⟩
theorem goneO_bytes (o : Ot) (m : Ms) (b : Bool) : (goneO o m b).bytes = o.bytes := by unfold goneO; split <;> rfl
theorem takeS_ok {N : Nat} {now : Int} {l : List Ms} {o : Ot} {p : Pk} (h : LOk N now l) (hn : 0 ≤ now) (hp : codeB p = 0) : LOk (N + 1) now (takeS now l o p).1 ∧ (takeS now l o p).2.bytes = o.bytes := by
  obtain ⟨c1, c2, c3⟩ := codeB_ok hp
  unfold takeS
  split
  · exact ⟨h.mono (by omega) (by omega), rfl⟩
  · split
    · exact ⟨h.mono (by omega) (by omega), rfl⟩
    · obtain ⟨h1, h2, h3⟩ := openS_ok (o := o) (p := p) h hn
      generalize openS now l o p = r at h1 h2 h3 ⊢
      obtain ⟨l1, o1, i⟩ := r
      simp only at h1 h2 h3 ⊢
      have hb : o1.bytes = o.bytes := by
        rcases h3 with rfl | ⟨m, rfl⟩
        · rfl
        · exact goneO_bytes _ _ _
      have hmem : l1.getD i default ∈ l1 := by rw [List.getD_eq_getElem?_getD, List.getElem?_eq_getElem h2]; exact List.getElem_mem h2
      unfold stepS
      simp only
      split
      · exact ⟨h1.mono (by omega) (by omega), hb⟩
      · split
        · refine ⟨⟨?_, fun m hm => (h1.m m (List.mem_of_mem_eraseIdx hm)).mono (by omega), fun m hm => h1.b m (List.mem_of_mem_eraseIdx hm)⟩, hb⟩
          have := List.length_eraseIdx_le l1 i
          have := h1.n
          simp only
          omega
        · refine ⟨⟨by simp only [List.length_set]; exact h1.n, ?_, ?_⟩, hb⟩
          · intro m hm
            rcases List.mem_or_eq_of_mem_set hm with hm | rfl
            · exact (h1.m m hm).mono (by omega)
            · exact addS_ok (h1.m _ hmem) c1 c2 c3
          · intro m hm
            rcases List.mem_or_eq_of_mem_set hm with hm | rfl
            · exact h1.b m hm
            · rw [addS_born]; exact h1.b _ hmem
theorem passS_ok {N : Nat} {now t : Int} : ∀ {l : List Ms} {o : Ot}, LOk N now l → LOk N now (passS t l o).1 ∧ (passS t l o).2.bytes = o.bytes
  | [], o, h => ⟨h, rfl⟩
  | m :: l, o, h => by
    unfold passS
    split
    · have := passS_ok (t := t) (l := l) (o := goneO o m true) ⟨by have := h.n; simp at this; omega, fun x hx => h.m x (List.mem_cons_of_mem _ hx), fun x hx => h.b x (List.mem_cons_of_mem _ hx)⟩
      exact ⟨this.1, this.2.trans (goneO_bytes _ _ _)⟩
    · exact ⟨h, rfl⟩
/-- What RunReasm answers. -/
def RunRes (h h' : IH) (r : IV) (X : List Ot × Int) : Prop := ∃ v, r = .tuple [v, .int .i64 X.2] ∧ Ow h.n h'.n h' (.slice 52 t_ReasmOut) [v] (.list (X.1.map outD))
end
end Go.Proofs.Ytjmmmmdpkfpojaa
