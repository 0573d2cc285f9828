import Derived.Test.YtjmmmmdpkfpojaaK2
import Derived.Test.YtjmmmmdpkfpojaaProg
import Derived.KernelRfl
import Derived.Test.YtjmmmmdpkfpojaaK3
set_option linter.unusedSimpArgs false
set_option linter.unusedVariables false
namespace Go.Proofs.Ytjmmmmdpkfpojaa
open Go Go.IW
def c8 : CC :=
 (.seq (.reg [
   ⟨(some 2), none, .f (.mv (.c .nilslice))⟩,
   ⟨(some 3), none, .f (.mv (.c (.int .i64 0)))⟩])
 (.seq (.seq (.reg [
   ⟨(some 10), none, .f (.mv (.t 0))⟩,
   ⟨(some 11), none, .f (.len (.t 10))⟩,
   ⟨(some 12), none, .f (.bin .gtr (.t 11) (.c (.int .i64 2000)))⟩])
 (.cond (.t 12)
  (.seq (.reg [
    ⟨(some 2), none, .f (.mv (.c .nilslice))⟩,
    ⟨(some 3), none, .f (.mv (.c (.int .i64 8)))⟩])
  .ret)
  .skip))
 (.seq (.reg [
   ⟨(some 13), none, .f (.build [(.int .i64 0), .nilslice, (.int .i64 0), (.bool false), (.int .i64 0), (.int .i64 0), (.bool false), (.bool false), (.int .i64 0), (.int .i64 0), (.int .i64 0), (.int .i64 0), (.int .i64 0), .nilslice, .nilslice, .nilslice, (.int .i64 0), (.int .i64 0)] [])⟩,
   ⟨(some 4), none, .x (.zero 65 18 [(.int .i64 0), .nilslice, (.int .i64 0), (.bool false), (.int .i64 0), (.int .i64 0), (.bool false), (.bool false), (.int .i64 0), (.int .i64 0), (.int .i64 0), (.int .i64 0), (.int .i64 0), .nilslice, .nilslice, .nilslice, (.int .i64 0), (.int .i64 0)])⟩,
   ⟨none, none, .x (.st 18 (.t 4) (.t 13))⟩])
 (.seq (.reg [
   ⟨(some 14), none, .x (.bslice 52 16 [(.int .i64 0), (.bool false), (.int .i64 0), (.int .i64 0), (.bool false), (.bool false), (.int .i64 0), (.int .i64 0), (.int .i64 0), (.int .i64 0), (.int .i64 0), .nilslice, .nilslice, .nilslice, (.int .i64 0), (.int .i64 0)] 0 [])⟩,
   ⟨(some 5), none, .f (.mv (.t 14))⟩])
 (.seq (.seq (.reg [
   ⟨(some 6), none, .f (.mv (.c (.int .i64 0)))⟩])
 (.block 0 (.loop (.seq (.seq (.reg [
     ⟨(some 15), none, .f (.mv (.t 6))⟩,
     ⟨(some 16), none, .f (.mv (.t 0))⟩,
     ⟨(some 17), none, .f (.len (.t 16))⟩,
     ⟨(some 18), none, .f (.bin .lss (.t 15) (.t 17))⟩])
   (.cond (.t 18)
    .skip
    (.exit 0)))
   (.seq (.block 1 (.seq (.reg [
      ⟨(some 21), none, .f (.mv (.t 0))⟩,
      ⟨(some 22), none, .f (.mv (.t 6))⟩,
      ⟨(some 23), none, .f (.iadr 13 (.t 21) (.t 22))⟩,
      ⟨(some 24), none, .f (.ldA 13 (.t 23))⟩,
      ⟨(some 7), none, .x (.zero 58 13 [(.int .i64 0), (.int .i64 0), (.int .i64 0), (.int .i64 0), (.bool false), (.bool false), (.int .i64 0), (.int .i64 0), (.int .i64 0), (.int .i64 0), (.int .i64 0), .nilslice, .nilslice])⟩,
      ⟨none, none, .x (.st 13 (.t 7) (.t 24))⟩])
    (.seq (.reg [
      ⟨(some 25), none, .f (.build [(.int .i64 0), (.bool false), (.int .i64 0), (.int .i64 0), (.bool false), (.bool false), (.int .i64 0), (.int .i64 0), (.int .i64 0), (.int .i64 0), (.int .i64 0), .nilslice, .nilslice, .nilslice, (.int .i64 0), (.int .i64 0)] [])⟩,
      ⟨(some 26), none, .f (.fadr 2 (.t 4))⟩,
      ⟨none, none, .x (.st 16 (.t 26) (.t 25))⟩])
    (.seq (.reg [
      ⟨(some 28), none, .f (.fadr 2 (.t 7))⟩,
      ⟨(some 29), none, .f (.ldA 11 (.t 28))⟩,
      ⟨(some 30), none, .x (.call 27 [(.t 29)])⟩,
      ⟨(some 27), none, .f (.mv (.t 30))⟩,
      ⟨(some 31), none, .f (.ext 0 (.t 27))⟩,
      ⟨(some 32), none, .f (.ext 1 (.t 27))⟩,
      ⟨(some 8), none, .f (.mv (.t 31))⟩,
      ⟨(some 9), none, .f (.mv (.t 32))⟩])
    (.seq (.block 2 (.seq (.reg [
       ⟨(some 36), none, .f (.fadr 0 (.t 7))⟩,
       ⟨(some 37), none, .f (.ld (.t 36))⟩,
       ⟨(some 38), none, .f (.bin .eql (.t 37) (.c (.int .i64 1)))⟩,
       ⟨(some 39), none, .f (.mv (.t 38))⟩,
       ⟨(some 40), (some (39, true)), .f (.mv (.t 9))⟩,
       ⟨(some 41), (some (39, true)), .f (.bin .eql (.t 40) (.c (.int .i64 0)))⟩,
       ⟨(some 42), none, .f (.pick (.t 39) (.t 41) (.c (.bool false)))⟩,
       ⟨(some 35), none, .f (.mv (.t 42))⟩])
     (.cond (.t 35)
      (.reg [
        ⟨(some 43), none, .f (.fadr 2 (.t 7))⟩,
        ⟨(some 44), none, .f (.ldA 11 (.t 43))⟩,
        ⟨(some 45), none, .x (.call 28 [(.t 4), (.t 44)])⟩])
      (.seq (.reg [
        ⟨(some 47), none, .f (.fadr 0 (.t 7))⟩,
        ⟨(some 48), none, .f (.ld (.t 47))⟩,
        ⟨(some 49), none, .f (.bin .eql (.t 48) (.c (.int .i64 2)))⟩,
        ⟨(some 50), none, .f (.mv (.t 49))⟩,
        ⟨(some 51), (some (50, true)), .f (.fadr 1 (.t 7))⟩,
        ⟨(some 52), (some (50, true)), .f (.ld (.t 51))⟩,
        ⟨(some 53), (some (50, true)), .f (.bin .geq (.t 52) (.c (.int .i64 0)))⟩,
        ⟨(some 54), none, .f (.pick (.t 50) (.t 53) (.c (.bool false)))⟩,
        ⟨(some 55), none, .f (.mv (.t 54))⟩,
        ⟨(some 56), (some (55, true)), .f (.fadr 1 (.t 7))⟩,
        ⟨(some 57), (some (55, true)), .f (.ld (.t 56))⟩,
        ⟨(some 58), (some (55, true)), .f (.fadr 0 (.t 4))⟩,
        ⟨(some 59), (some (55, true)), .f (.ld (.t 58))⟩,
        ⟨(some 60), (some (55, true)), .f (.bin .sub (.c (.int .i64 1000000000)) (.t 59))⟩,
        ⟨(some 61), (some (55, true)), .f (.bin .leq (.t 57) (.t 60))⟩,
        ⟨(some 62), none, .f (.pick (.t 55) (.t 61) (.c (.bool false)))⟩,
        ⟨(some 46), none, .f (.mv (.t 62))⟩])
      (.cond (.t 46)
       (.reg [
         ⟨(some 63), none, .f (.fadr 1 (.t 7))⟩,
         ⟨(some 64), none, .f (.ld (.t 63))⟩,
         ⟨(some 65), none, .x (.call 29 [(.t 4), (.t 64)])⟩])
       (.reg [
         ⟨(some 33), none, .f (.fadr 2 (.t 4))⟩,
         ⟨(some 34), none, .f (.fadr 0 (.t 33))⟩,
         ⟨none, none, .x (.st 1 (.t 34) (.c (.int .i64 1)))⟩]))))))
    (.reg [
      ⟨(some 66), none, .f (.mv (.t 5))⟩,
      ⟨(some 67), none, .x (.call 30 [(.t 4)])⟩,
      ⟨(some 68), none, .x (.bslice 52 16 [(.int .i64 0), (.bool false), (.int .i64 0), (.int .i64 0), (.bool false), (.bool false), (.int .i64 0), (.int .i64 0), (.int .i64 0), (.int .i64 0), (.int .i64 0), .nilslice, .nilslice, .nilslice, (.int .i64 0), (.int .i64 0)] 1 [(0, (.t 67))])⟩,
      ⟨(some 69), none, .x (.app 52 16 168 (.t 66) (.t 68))⟩,
      ⟨(some 5), none, .f (.mv (.t 69))⟩]))))))
   (.reg [
     ⟨(some 19), none, .f (.mv (.t 6))⟩,
     ⟨(some 20), none, .f (.bin .add (.t 19) (.c (.int .i64 1)))⟩,
     ⟨(some 6), none, .f (.mv (.t 20))⟩]))))))
 (.seq (.reg [
   ⟨(some 70), none, .f (.mv (.t 5))⟩,
   ⟨(some 2), none, .f (.mv (.t 70))⟩,
   ⟨(some 3), none, .f (.mv (.c (.int .i64 0)))⟩])
 .ret))))))
theorem ok8 : fnComp Try.prog 8 = some (71, c8, [(.mv (.t 2)), (.mv (.t 3))]) := by kernel_rfl

def c10 : CC :=
 (.seq (.reg [
   ⟨(some 2), none, .f (.mv (.c .nilslice))⟩,
   ⟨(some 3), none, .f (.mv (.c (.int .i64 0)))⟩])
 (.seq (.seq (.reg [
   ⟨(some 8), none, .f (.mv (.t 0))⟩,
   ⟨(some 9), none, .f (.len (.t 8))⟩,
   ⟨(some 10), none, .f (.bin .gtr (.t 9) (.c (.int .i64 2000)))⟩])
 (.cond (.t 10)
  (.seq (.reg [
    ⟨(some 2), none, .f (.mv (.c .nilslice))⟩,
    ⟨(some 3), none, .f (.mv (.c (.int .i64 8)))⟩])
  .ret)
  .skip))
 (.seq (.reg [
   ⟨(some 11), none, .f (.build [(.int .i64 0), .nilslice] [])⟩,
   ⟨(some 12), none, .x (.box 76 2 (.t 11))⟩,
   ⟨(some 4), none, .f (.mv (.t 12))⟩])
 (.seq (.reg [
   ⟨(some 5), none, .f (.mv (.c .nilslice))⟩])
 (.seq (.seq (.reg [
   ⟨(some 13), none, .f (.mv (.t 0))⟩,
   ⟨(some 14), none, .f (.len (.t 13))⟩,
   ⟨(some 15), none, .f (.mv (.c (.int .i64 0)))⟩])
 (.block 0 (.loop (.seq (.reg [
     ⟨(some 16), none, .f (.bin .lss (.t 15) (.t 14))⟩])
   (.seq (.cond (.t 16)
    .skip
    (.exit 0))
   (.seq (.block 1 (.seq (.reg [
      ⟨(some 17), none, .f (.iadr 13 (.t 13) (.t 15))⟩,
      ⟨(some 18), none, .f (.ldA 13 (.t 17))⟩,
      ⟨(some 7), none, .x (.zero 58 13 [(.int .i64 0), (.int .i64 0), (.int .i64 0), (.int .i64 0), (.bool false), (.bool false), (.int .i64 0), (.int .i64 0), (.int .i64 0), (.int .i64 0), (.int .i64 0), .nilslice, .nilslice])⟩,
      ⟨none, none, .x (.st 13 (.t 7) (.t 18))⟩])
    (.reg [
      ⟨(some 19), none, .f (.mv (.t 5))⟩,
      ⟨(some 20), none, .f (.mv (.t 4))⟩,
      ⟨(some 21), none, .f (.ldA 13 (.t 7))⟩,
      ⟨(some 22), none, .x (.call 32 [(.t 20), (.t 21)])⟩,
      ⟨(some 23), none, .x (.bslice 52 16 [(.int .i64 0), (.bool false), (.int .i64 0), (.int .i64 0), (.bool false), (.bool false), (.int .i64 0), (.int .i64 0), (.int .i64 0), (.int .i64 0), (.int .i64 0), .nilslice, .nilslice, .nilslice, (.int .i64 0), (.int .i64 0)] 1 [(0, (.t 22))])⟩,
      ⟨(some 24), none, .x (.app 52 16 168 (.t 19) (.t 23))⟩,
      ⟨(some 5), none, .f (.mv (.t 24))⟩])))
   (.reg [
     ⟨(some 25), none, .f (.bin .add (.t 15) (.c (.int .i64 1)))⟩,
     ⟨(some 15), none, .f (.mv (.t 25))⟩])))))))
 (.seq (.reg [
   ⟨(some 26), none, .f (.mv (.t 5))⟩,
   ⟨(some 2), none, .f (.mv (.t 26))⟩,
   ⟨(some 3), none, .f (.mv (.c (.int .i64 0)))⟩])
 .ret))))))
theorem ok10 : fnComp Try.prog 10 = some (27, c10, [(.mv (.t 2)), (.mv (.t 3))]) := by kernel_rfl

def c16 : CC :=
 (.seq (.reg [
   ⟨(some 4), none, .x (.zero 37 3 [.nilslice, (.int .i64 0), (.int .u64 0)])⟩])
 (.seq (.reg [
   ⟨(some 7), none, .f (.mv (.t 0))⟩,
   ⟨(some 8), none, .f (.mv (.t 1))⟩,
   ⟨(some 9), none, .f (.bin .mul (.t 8) (.c (.int .u64 977)))⟩,
   ⟨(some 10), none, .f (.bin .add (.c (.int .u64 88172645463325252)) (.t 9))⟩,
   ⟨(some 11), none, .f (.build [.nilslice, (.int .i64 0), (.int .u64 0)] [(0, 1, (.t 7)), (2, 1, (.t 10))])⟩,
   ⟨(some 5), none, .x (.zero 37 3 [.nilslice, (.int .i64 0), (.int .u64 0)])⟩,
   ⟨none, none, .x (.st 3 (.t 5) (.t 11))⟩])
 (.seq (.seq (.reg [
   ⟨(some 6), none, .f (.mv (.c (.int .i64 0)))⟩])
 (.block 0 (.loop (.seq (.seq (.reg [
     ⟨(some 12), none, .f (.mv (.t 6))⟩,
     ⟨(some 13), none, .f (.mv (.t 0))⟩,
     ⟨(some 14), none, .f (.len (.t 13))⟩,
     ⟨(some 15), none, .f (.bin .lss (.t 12) (.t 14))⟩])
   (.cond (.t 15)
    .skip
    (.exit 0)))
   (.seq (.block 1 (.dreg [
      ⟨(some 18), none, .f (.fadr 2 (.t 5))⟩,
      ⟨(some 19), none, .f (.ld (.t 18))⟩,
      ⟨(some 20), none, .f (.mv (.t 0))⟩,
      ⟨(some 21), none, .f (.mv (.t 6))⟩,
      ⟨(some 22), none, .f (.iadr 1 (.t 20) (.t 21))⟩,
      ⟨(some 23), none, .f (.ld (.t 22))⟩,
      ⟨(some 24), none, .f (.cvI .u64 (.t 23))⟩,
      ⟨(some 25), none, .f (.bin .xor (.t 19) (.t 24))⟩,
      ⟨(some 26), none, .f (.bin .mul (.t 25) (.c (.int .u64 1099511628211)))⟩,
      ⟨(some 27), none, .f (.fadr 2 (.t 5))⟩,
      ⟨none, none, .x (.st 1 (.t 27) (.t 26))⟩]
      [false, false, false, false, false, false, false, false, false, false, true] [[], [0], [], [], [2, 3], [4, 2, 3], [5, 4, 2, 3], [1, 0, 6, 5, 4, 2, 3], [7, 1, 0, 6, 5, 4, 2, 3], [0, 1, 2, 3, 4, 5, 6, 7, 8], [9, 0, 1, 2, 3, 4, 5, 6, 7, 8]] [0, 1, 2, 3, 4, 5, 6, 7, 8, 9, 10]))
   (.reg [
     ⟨(some 16), none, .f (.mv (.t 6))⟩,
     ⟨(some 17), none, .f (.bin .add (.t 16) (.c (.int .i64 1)))⟩,
     ⟨(some 6), none, .f (.mv (.t 17))⟩]))))))
 (.seq (.reg [
   ⟨(some 28), none, .f (.ldA 3 (.t 5))⟩,
   ⟨none, none, .x (.st 3 (.t 4) (.t 28))⟩])
 .ret))))
theorem ok16 : fnComp Try.prog 16 = some (29, c16, [(.ldA 3 (.t 4))]) := by kernel_rfl

def c17 : CC :=
 (.seq (.reg [
   ⟨(some 4), none, .f (.mv (.c (.int .i64 0)))⟩])
 (.seq (.seq (.reg [
   ⟨(some 6), none, .f (.mv (.t 1))⟩,
   ⟨(some 7), none, .f (.bin .leq (.t 6) (.c (.int .i64 0)))⟩])
 (.cond (.t 7)
  (.seq (.reg [
    ⟨(some 4), none, .f (.mv (.c (.int .i64 0)))⟩])
  .ret)
  .skip))
 (.seq (.reg [
   ⟨(some 8), none, .f (.mv (.t 0))⟩,
   ⟨(some 9), none, .f (.mv (.t 0))⟩,
   ⟨(some 10), none, .f (.nck (.t 9))⟩,
   ⟨(some 11), none, .f (.fadr 2 (.t 10))⟩,
   ⟨(some 12), none, .f (.ld (.t 11))⟩,
   ⟨(some 13), none, .f (.bin .mul (.t 12) (.c (.int .u64 6364136223846793005)))⟩,
   ⟨(some 14), none, .f (.bin .add (.t 13) (.c (.int .u64 1442695040888963407)))⟩,
   ⟨(some 15), none, .f (.nck (.t 8))⟩,
   ⟨(some 16), none, .f (.fadr 2 (.t 15))⟩,
   ⟨none, none, .x (.st 1 (.t 16) (.t 14))⟩])
 (.seq (.reg [
   ⟨(some 17), none, .f (.mv (.t 0))⟩,
   ⟨(some 18), none, .f (.nck (.t 17))⟩,
   ⟨(some 19), none, .f (.fadr 2 (.t 18))⟩,
   ⟨(some 20), none, .f (.ld (.t 19))⟩,
   ⟨(some 21), none, .f (.bin .shr (.t 20) (.c (.int .u64 33)))⟩,
   ⟨(some 5), none, .f (.mv (.t 21))⟩])
 (.seq (.seq (.dreg [
   ⟨(some 22), none, .f (.mv (.t 0))⟩,
   ⟨(some 23), none, .f (.nck (.t 22))⟩,
   ⟨(some 24), none, .f (.fadr 1 (.t 23))⟩,
   ⟨(some 25), none, .f (.ld (.t 24))⟩,
   ⟨(some 26), none, .f (.mv (.t 0))⟩,
   ⟨(some 27), none, .f (.nck (.t 26))⟩,
   ⟨(some 28), none, .f (.fadr 0 (.t 27))⟩,
   ⟨(some 29), none, .f (.ld (.t 28))⟩,
   ⟨(some 30), none, .f (.len (.t 29))⟩,
   ⟨(some 31), none, .f (.bin .lss (.t 25) (.t 30))⟩]
   [false, false, false, false, false, false, false, false, false, false] [[], [0], [1, 0], [2, 1, 0], [], [4], [5, 4], [6, 5, 4], [7, 6, 5, 4], [3, 2, 1, 0, 8, 7, 6, 5, 4]] [0, 1, 2, 3, 4, 5, 6, 7, 8, 9])
 (.cond (.t 31)
  (.seq (.dreg [
    ⟨(some 32), none, .f (.mv (.t 5))⟩,
    ⟨(some 33), none, .f (.mv (.t 0))⟩,
    ⟨(some 34), none, .f (.nck (.t 33))⟩,
    ⟨(some 35), none, .f (.fadr 0 (.t 34))⟩,
    ⟨(some 36), none, .f (.ld (.t 35))⟩,
    ⟨(some 37), none, .f (.mv (.t 0))⟩,
    ⟨(some 38), none, .f (.nck (.t 37))⟩,
    ⟨(some 39), none, .f (.fadr 1 (.t 38))⟩,
    ⟨(some 40), none, .f (.ld (.t 39))⟩,
    ⟨(some 41), none, .f (.iadr 1 (.t 36) (.t 40))⟩,
    ⟨(some 42), none, .f (.ld (.t 41))⟩,
    ⟨(some 43), none, .f (.cvI .u64 (.t 42))⟩,
    ⟨(some 44), none, .f (.bin .xor (.t 32) (.t 43))⟩,
    ⟨(some 5), none, .f (.mv (.t 44))⟩]
    [false, false, false, false, false, false, false, false, false, false, false, false, false, true] [[], [], [1], [2, 1], [3, 2, 1], [], [5], [6, 5], [7, 6, 5], [4, 3, 2, 1, 8, 7, 6, 5], [9, 4, 3, 2, 1, 8, 7, 6, 5], [10, 9, 4, 3, 2, 1, 8, 7, 6, 5], [0, 11, 10, 9, 4, 3, 2, 1, 8, 7, 6, 5], [12, 0, 11, 10, 9, 4, 3, 2, 1, 8, 7, 6, 5]] [0, 1, 2, 3, 4, 5, 6, 7, 8, 9, 10, 11, 12, 13])
  (.reg [
    ⟨(some 45), none, .f (.mv (.t 0))⟩,
    ⟨(some 46), none, .f (.nck (.t 45))⟩,
    ⟨(some 47), none, .f (.fadr 1 (.t 46))⟩,
    ⟨(some 48), none, .f (.ld (.t 47))⟩,
    ⟨(some 49), none, .f (.bin .add (.t 48) (.c (.int .i64 1)))⟩,
    ⟨(some 50), none, .f (.nck (.t 45))⟩,
    ⟨(some 51), none, .f (.fadr 1 (.t 50))⟩,
    ⟨none, none, .x (.st 1 (.t 51) (.t 49))⟩]))
  .skip))
 (.seq (.reg [
   ⟨(some 52), none, .f (.mv (.t 5))⟩,
   ⟨(some 53), none, .f (.mv (.t 1))⟩,
   ⟨(some 54), none, .f (.cvI .u64 (.t 53))⟩,
   ⟨(some 55), none, .f (.bin .rem (.t 52) (.t 54))⟩,
   ⟨(some 56), none, .f (.cvI .i64 (.t 55))⟩,
   ⟨(some 4), none, .f (.mv (.t 56))⟩])
 .ret))))))
theorem ok17 : fnComp Try.prog 17 = some (57, c17, [(.mv (.t 4))]) := by kernel_rfl

def c18 : CC :=
 (.seq (.reg [
   ⟨(some 4), none, .x (.zero 44 11 [(.int .i64 0), (.int .i64 0), (.bool false), (.bool false), (.int .i64 0), (.int .i64 0), (.int .i64 0), (.int .i64 0), (.int .i64 0), .nilslice, .nilslice])⟩])
 (.seq (.reg [
   ⟨(some 6), none, .f (.mv (.t 0))⟩,
   ⟨(some 7), none, .x (.call 17 [(.t 6), (.c (.int .i64 256))])⟩,
   ⟨(some 8), none, .f (.mv (.t 1))⟩,
   ⟨(some 9), none, .f (.mv (.t 0))⟩,
   ⟨(some 10), none, .x (.call 17 [(.t 9), (.c (.int .i64 255))])⟩,
   ⟨(some 11), none, .f (.bin .add (.c (.int .i64 1)) (.t 10))⟩,
   ⟨(some 12), none, .f (.mv (.t 0))⟩,
   ⟨(some 13), none, .x (.call 17 [(.t 12), (.c (.int .i64 256))])⟩,
   ⟨(some 14), none, .f (.mv (.t 0))⟩,
   ⟨(some 15), none, .x (.call 17 [(.t 14), (.c (.int .i64 9999))])⟩,
   ⟨(some 16), none, .f (.mv (.t 0))⟩,
   ⟨(some 17), none, .x (.call 17 [(.t 16), (.c (.int .i64 600))])⟩,
   ⟨(some 18), none, .f (.bin .add (.c (.int .i64 1)) (.t 17))⟩,
   ⟨(some 19), none, .x (.call 25 [(.t 15), (.t 18)])⟩,
   ⟨(some 20), none, .f (.build [(.int .i64 0), (.int .i64 0), (.bool false), (.bool false), (.int .i64 0), (.int .i64 0), (.int .i64 0), (.int .i64 0), (.int .i64 0), .nilslice, .nilslice] [(0, 1, (.t 7)), (1, 1, (.t 8)), (5, 1, (.t 11)), (6, 1, (.t 13)), (7, 1, (.c (.int .i64 167772161))), (8, 1, (.c (.int .i64 167772162))), (10, 1, (.t 19))])⟩,
   ⟨(some 5), none, .x (.zero 44 11 [(.int .i64 0), (.int .i64 0), (.bool false), (.bool false), (.int .i64 0), (.int .i64 0), (.int .i64 0), (.int .i64 0), (.int .i64 0), .nilslice, .nilslice])⟩,
   ⟨none, none, .x (.st 11 (.t 5) (.t 20))⟩])
 (.seq (.seq (.reg [
   ⟨(some 21), none, .f (.mv (.t 0))⟩,
   ⟨(some 22), none, .x (.call 17 [(.t 21), (.c (.int .i64 3))])⟩,
   ⟨(some 23), none, .f (.bin .eql (.t 22) (.c (.int .i64 0)))⟩])
 (.cond (.t 23)
  (.reg [
    ⟨(some 24), none, .f (.mv (.t 0))⟩,
    ⟨(some 25), none, .x (.call 17 [(.t 24), (.c (.int .i64 99))])⟩,
    ⟨(some 26), none, .f (.mv (.t 0))⟩,
    ⟨(some 27), none, .x (.call 17 [(.t 26), (.c (.int .i64 11))])⟩,
    ⟨(some 28), none, .f (.bin .mul (.c (.int .i64 4)) (.t 27))⟩,
    ⟨(some 29), none, .x (.call 25 [(.t 25), (.t 28)])⟩,
    ⟨(some 30), none, .f (.fadr 9 (.t 5))⟩,
    ⟨none, none, .x (.st 1 (.t 30) (.t 29))⟩])
  .skip))
 (.seq (.reg [
   ⟨(some 31), none, .f (.ldA 11 (.t 5))⟩,
   ⟨none, none, .x (.st 11 (.t 4) (.t 31))⟩])
 .ret))))
theorem ok18 : fnComp Try.prog 18 = some (32, c18, [(.ldA 11 (.t 4))]) := by kernel_rfl

def c19 : CC :=
 (.seq (.reg [
   ⟨(some 2), none, .x (.box 44 11 (.t 0))⟩,
   ⟨(some 4), none, .f (.mv (.c .nilslice))⟩,
   ⟨(some 5), none, .f (.mv (.c (.int .i64 0)))⟩])
 (.seq (.seq (.reg [
   ⟨(some 12), none, .f (.ldA 11 (.t 2))⟩,
   ⟨(some 13), none, .x (.call 39 [(.t 12)])⟩,
   ⟨(some 14), none, .f (.bin .neq (.t 13) (.c (.int .i64 0)))⟩,
   ⟨(some 15), none, .f (.mv (.t 14))⟩,
   ⟨(some 16), (some (15, false)), .f (.mv (.t 1))⟩,
   ⟨(some 17), (some (15, false)), .f (.bin .lss (.t 16) (.c (.int .i64 68)))⟩,
   ⟨(some 18), none, .f (.pick (.t 15) (.c (.bool true)) (.t 17))⟩,
   ⟨(some 19), none, .f (.mv (.t 18))⟩,
   ⟨(some 20), (some (19, false)), .f (.mv (.t 1))⟩,
   ⟨(some 21), (some (19, false)), .f (.bin .gtr (.t 20) (.c (.int .i64 65535)))⟩,
   ⟨(some 22), none, .f (.pick (.t 19) (.c (.bool true)) (.t 21))⟩])
 (.cond (.t 22)
  (.seq (.reg [
    ⟨(some 4), none, .f (.mv (.c .nilslice))⟩,
    ⟨(some 5), none, .f (.mv (.c (.int .i64 1)))⟩])
  .ret)
  .skip))
 (.seq (.seq (.reg [
   ⟨(some 23), none, .f (.ldA 11 (.t 2))⟩,
   ⟨(some 24), none, .x (.call 23 [(.t 23)])⟩,
   ⟨(some 25), none, .f (.mv (.t 1))⟩,
   ⟨(some 26), none, .f (.bin .leq (.t 24) (.t 25))⟩])
 (.cond (.t 26)
  (.seq (.reg [
    ⟨(some 27), none, .f (.ldA 11 (.t 2))⟩,
    ⟨(some 28), none, .x (.call 40 [(.t 27)])⟩,
    ⟨(some 29), none, .x (.bslice 44 11 [(.int .i64 0), (.int .i64 0), (.bool false), (.bool false), (.int .i64 0), (.int .i64 0), (.int .i64 0), (.int .i64 0), (.int .i64 0), .nilslice, .nilslice] 1 [(0, (.t 28))])⟩,
    ⟨(some 4), none, .f (.mv (.t 29))⟩,
    ⟨(some 5), none, .f (.mv (.c (.int .i64 0)))⟩])
  .ret)
  .skip))
 (.seq (.reg [
   ⟨(some 30), none, .f (.mv (.t 1))⟩,
   ⟨(some 31), none, .f (.bin .sub (.t 30) (.c (.int .i64 20)))⟩,
   ⟨(some 32), none, .f (.fadr 9 (.t 2))⟩,
   ⟨(some 33), none, .f (.ld (.t 32))⟩,
   ⟨(some 34), none, .f (.len (.t 33))⟩,
   ⟨(some 35), none, .f (.bin .sub (.t 31) (.t 34))⟩,
   ⟨(some 6), none, .f (.mv (.t 35))⟩])
 (.seq (.seq (.reg [
   ⟨(some 36), none, .f (.fadr 2 (.t 2))⟩,
   ⟨(some 37), none, .f (.ld (.t 36))⟩,
   ⟨(some 38), none, .f (.mv (.t 37))⟩,
   ⟨(some 39), (some (38, false)), .f (.mv (.t 6))⟩,
   ⟨(some 40), (some (38, false)), .f (.bin .lss (.t 39) (.c (.int .i64 8)))⟩,
   ⟨(some 41), none, .f (.pick (.t 38) (.c (.bool true)) (.t 40))⟩])
 (.cond (.t 41)
  (.seq (.reg [
    ⟨(some 4), none, .f (.mv (.c .nilslice))⟩,
    ⟨(some 5), none, .f (.mv (.c (.int .i64 7)))⟩])
  .ret)
  .skip))
 (.seq (.reg [
   ⟨(some 7), none, .f (.mv (.c .nilslice))⟩])
 (.seq (.reg [
   ⟨(some 42), none, .f (.mv (.t 6))⟩,
   ⟨(some 43), none, .f (.bin .quo (.t 42) (.c (.int .i64 8)))⟩,
   ⟨(some 44), none, .f (.bin .mul (.t 43) (.c (.int .i64 8)))⟩,
   ⟨(some 8), none, .f (.mv (.t 44))⟩])
 (.seq (.reg [
   ⟨(some 9), none, .f (.mv (.c (.int .i64 0)))⟩])
 (.block 0 (.loop (.block 1 (.seq (.reg [
      ⟨(some 45), none, .f (.ldA 11 (.t 2))⟩,
      ⟨(some 10), none, .x (.zero 44 11 [(.int .i64 0), (.int .i64 0), (.bool false), (.bool false), (.int .i64 0), (.int .i64 0), (.int .i64 0), (.int .i64 0), (.int .i64 0), .nilslice, .nilslice])⟩,
      ⟨none, none, .x (.st 11 (.t 10) (.t 45))⟩])
    (.seq (.reg [
      ⟨(some 46), none, .f (.fadr 9 (.t 2))⟩,
      ⟨(some 47), none, .f (.ld (.t 46))⟩,
      ⟨(some 48), none, .x (.call 41 [(.t 47)])⟩,
      ⟨(some 49), none, .f (.fadr 9 (.t 10))⟩,
      ⟨none, none, .x (.st 1 (.t 49) (.t 48))⟩])
    (.seq (.reg [
      ⟨(some 50), none, .f (.fadr 4 (.t 2))⟩,
      ⟨(some 51), none, .f (.ld (.t 50))⟩,
      ⟨(some 52), none, .f (.mv (.t 9))⟩,
      ⟨(some 53), none, .f (.bin .add (.t 51) (.t 52))⟩,
      ⟨(some 54), none, .f (.fadr 4 (.t 10))⟩,
      ⟨none, none, .x (.st 1 (.t 54) (.t 53))⟩])
    (.seq (.reg [
      ⟨(some 55), none, .f (.fadr 10 (.t 2))⟩,
      ⟨(some 56), none, .f (.ld (.t 55))⟩,
      ⟨(some 57), none, .f (.len (.t 56))⟩,
      ⟨(some 58), none, .f (.mv (.t 9))⟩,
      ⟨(some 59), none, .f (.bin .sub (.t 57) (.t 58))⟩,
      ⟨(some 11), none, .f (.mv (.t 59))⟩])
    (.seq (.seq (.reg [
      ⟨(some 60), none, .f (.mv (.t 11))⟩,
      ⟨(some 61), none, .f (.mv (.t 8))⟩,
      ⟨(some 62), none, .f (.bin .leq (.t 60) (.t 61))⟩])
    (.cond (.t 62)
     (.seq (.reg [
       ⟨(some 63), none, .f (.fadr 10 (.t 2))⟩,
       ⟨(some 64), none, .f (.ld (.t 63))⟩,
       ⟨(some 65), none, .f (.mv (.t 9))⟩,
       ⟨(some 66), none, .f (.slc 1 (.t 64) (some (.t 65)) none none)⟩,
       ⟨(some 67), none, .x (.call 41 [(.t 66)])⟩,
       ⟨(some 68), none, .f (.fadr 10 (.t 10))⟩,
       ⟨none, none, .x (.st 1 (.t 68) (.t 67))⟩])
     (.seq (.reg [
       ⟨(some 69), none, .f (.mv (.t 7))⟩,
       ⟨(some 70), none, .f (.ldA 11 (.t 10))⟩,
       ⟨(some 71), none, .x (.bslice 44 11 [(.int .i64 0), (.int .i64 0), (.bool false), (.bool false), (.int .i64 0), (.int .i64 0), (.int .i64 0), (.int .i64 0), (.int .i64 0), .nilslice, .nilslice] 1 [(0, (.t 70))])⟩,
       ⟨(some 72), none, .x (.app 44 11 112 (.t 69) (.t 71))⟩,
       ⟨(some 4), none, .f (.mv (.t 72))⟩,
       ⟨(some 5), none, .f (.mv (.c (.int .i64 0)))⟩])
     .ret))
     .skip))
    (.seq (.reg [
      ⟨(some 73), none, .f (.fadr 3 (.t 10))⟩,
      ⟨none, none, .x (.st 1 (.t 73) (.c (.bool true)))⟩])
    (.seq (.reg [
      ⟨(some 74), none, .f (.fadr 10 (.t 2))⟩,
      ⟨(some 75), none, .f (.ld (.t 74))⟩,
      ⟨(some 76), none, .f (.mv (.t 9))⟩,
      ⟨(some 77), none, .f (.mv (.t 9))⟩,
      ⟨(some 78), none, .f (.mv (.t 8))⟩,
      ⟨(some 79), none, .f (.bin .add (.t 77) (.t 78))⟩,
      ⟨(some 80), none, .f (.slc 1 (.t 75) (some (.t 76)) (some (.t 79)) none)⟩,
      ⟨(some 81), none, .x (.call 41 [(.t 80)])⟩,
      ⟨(some 82), none, .f (.fadr 10 (.t 10))⟩,
      ⟨none, none, .x (.st 1 (.t 82) (.t 81))⟩])
    (.seq (.reg [
      ⟨(some 83), none, .f (.mv (.t 7))⟩,
      ⟨(some 84), none, .f (.ldA 11 (.t 10))⟩,
      ⟨(some 85), none, .x (.bslice 44 11 [(.int .i64 0), (.int .i64 0), (.bool false), (.bool false), (.int .i64 0), (.int .i64 0), (.int .i64 0), (.int .i64 0), (.int .i64 0), .nilslice, .nilslice] 1 [(0, (.t 84))])⟩,
      ⟨(some 86), none, .x (.app 44 11 112 (.t 83) (.t 85))⟩,
      ⟨(some 7), none, .f (.mv (.t 86))⟩])
    (.reg [
      ⟨(some 87), none, .f (.mv (.t 9))⟩,
      ⟨(some 88), none, .f (.mv (.t 8))⟩,
      ⟨(some 89), none, .f (.bin .add (.t 87) (.t 88))⟩,
      ⟨(some 9), none, .f (.mv (.t 89))⟩]))))))))))))))))))))
theorem ok19 : fnComp Try.prog 19 = some (90, c19, [(.mv (.t 4)), (.mv (.t 5))]) := by kernel_rfl

def c20 : CC :=
 (.seq (.reg [
   ⟨(some 2), none, .f (.mv (.c .nilslice))⟩])
 (.seq (.reg [
   ⟨(some 6), none, .x (.bslice 58 13 [(.int .i64 0), (.int .i64 0), (.int .i64 0), (.int .i64 0), (.bool false), (.bool false), (.int .i64 0), (.int .i64 0), (.int .i64 0), (.int .i64 0), (.int .i64 0), .nilslice, .nilslice] 0 [])⟩,
   ⟨(some 3), none, .f (.mv (.t 6))⟩])
 (.seq (.seq (.reg [
   ⟨(some 4), none, .f (.mv (.c (.int .i64 0)))⟩])
 (.block 0 (.loop (.seq (.seq (.reg [
     ⟨(some 7), none, .f (.mv (.t 4))⟩,
     ⟨(some 8), none, .f (.mv (.t 0))⟩,
     ⟨(some 9), none, .f (.len (.t 8))⟩,
     ⟨(some 10), none, .f (.bin .lss (.t 7) (.t 9))⟩])
   (.cond (.t 10)
    .skip
    (.exit 0)))
   (.seq (.block 1 (.seq (.reg [
      ⟨(some 13), none, .f (.mv (.t 0))⟩,
      ⟨(some 14), none, .f (.mv (.t 4))⟩,
      ⟨(some 15), none, .f (.iadr 11 (.t 13) (.t 14))⟩,
      ⟨(some 16), none, .f (.ldA 11 (.t 15))⟩,
      ⟨(some 5), none, .x (.zero 44 11 [(.int .i64 0), (.int .i64 0), (.bool false), (.bool false), (.int .i64 0), (.int .i64 0), (.int .i64 0), (.int .i64 0), (.int .i64 0), .nilslice, .nilslice])⟩,
      ⟨none, none, .x (.st 11 (.t 5) (.t 16))⟩])
    (.seq (.reg [
      ⟨(some 17), none, .x (.bslice 5 1 [(.int .u8 0)] 0 [])⟩,
      ⟨(some 18), none, .f (.fadr 10 (.t 5))⟩,
      ⟨(some 19), none, .f (.ld (.t 18))⟩,
      ⟨(some 20), none, .x (.app 5 1 1 (.t 17) (.t 19))⟩,
      ⟨(some 21), none, .f (.fadr 10 (.t 5))⟩,
      ⟨none, none, .x (.st 1 (.t 21) (.t 20))⟩])
    (.seq (.reg [
      ⟨(some 22), none, .x (.bslice 5 1 [(.int .u8 0)] 0 [])⟩,
      ⟨(some 23), none, .f (.fadr 9 (.t 5))⟩,
      ⟨(some 24), none, .f (.ld (.t 23))⟩,
      ⟨(some 25), none, .x (.app 5 1 1 (.t 22) (.t 24))⟩,
      ⟨(some 26), none, .f (.fadr 9 (.t 5))⟩,
      ⟨none, none, .x (.st 1 (.t 26) (.t 25))⟩])
    (.reg [
      ⟨(some 27), none, .f (.mv (.t 3))⟩,
      ⟨(some 28), none, .f (.ldA 11 (.t 5))⟩,
      ⟨(some 29), none, .f (.build [(.int .i64 0), (.int .i64 0), (.int .i64 0), (.int .i64 0), (.bool false), (.bool false), (.int .i64 0), (.int .i64 0), (.int .i64 0), (.int .i64 0), (.int .i64 0), .nilslice, .nilslice] [(0, 1, (.c (.int .i64 1))), (2, 11, (.t 28))])⟩,
      ⟨(some 30), none, .x (.bslice 58 13 [(.int .i64 0), (.int .i64 0), (.int .i64 0), (.int .i64 0), (.bool false), (.bool false), (.int .i64 0), (.int .i64 0), (.int .i64 0), (.int .i64 0), (.int .i64 0), .nilslice, .nilslice] 1 [(0, (.t 29))])⟩,
      ⟨(some 31), none, .x (.app 58 13 128 (.t 27) (.t 30))⟩,
      ⟨(some 3), none, .f (.mv (.t 31))⟩])))))
   (.reg [
     ⟨(some 11), none, .f (.mv (.t 4))⟩,
     ⟨(some 12), none, .f (.bin .add (.t 11) (.c (.int .i64 1)))⟩,
     ⟨(some 4), none, .f (.mv (.t 12))⟩]))))))
 (.seq (.reg [
   ⟨(some 32), none, .f (.mv (.t 3))⟩,
   ⟨(some 2), none, .f (.mv (.t 32))⟩])
 .ret))))
theorem ok20 : fnComp Try.prog 20 = some (33, c20, [(.mv (.t 2))]) := by kernel_rfl

def c21 : CC :=
 (.seq (.reg [
   ⟨(some 4), none, .f (.mv (.c .nilslice))⟩])
 (.seq (.reg [
   ⟨(some 10), none, .x (.bslice 44 11 [(.int .i64 0), (.int .i64 0), (.bool false), (.bool false), (.int .i64 0), (.int .i64 0), (.int .i64 0), (.int .i64 0), (.int .i64 0), .nilslice, .nilslice] 0 [])⟩,
   ⟨(some 11), none, .f (.mv (.t 1))⟩,
   ⟨(some 12), none, .x (.app 44 11 112 (.t 10) (.t 11))⟩,
   ⟨(some 5), none, .f (.mv (.t 12))⟩])
 (.seq (.seq (.reg [
   ⟨(some 13), none, .f (.mv (.t 5))⟩,
   ⟨(some 14), none, .f (.len (.t 13))⟩,
   ⟨(some 15), none, .f (.bin .sub (.t 14) (.c (.int .i64 1)))⟩,
   ⟨(some 6), none, .f (.mv (.t 15))⟩])
 (.block 0 (.loop (.seq (.seq (.reg [
     ⟨(some 16), none, .f (.mv (.t 6))⟩,
     ⟨(some 17), none, .f (.bin .gtr (.t 16) (.c (.int .i64 0)))⟩])
   (.cond (.t 17)
    .skip
    (.exit 0)))
   (.seq (.block 1 (.seq (.reg [
      ⟨(some 20), none, .f (.mv (.t 0))⟩,
      ⟨(some 21), none, .f (.mv (.t 6))⟩,
      ⟨(some 22), none, .f (.bin .add (.t 21) (.c (.int .i64 1)))⟩,
      ⟨(some 23), none, .x (.call 17 [(.t 20), (.t 22)])⟩,
      ⟨(some 7), none, .f (.mv (.t 23))⟩])
    (.seq (.reg [
      ⟨(some 24), none, .f (.mv (.t 5))⟩,
      ⟨(some 25), none, .f (.mv (.t 6))⟩,
      ⟨(some 26), none, .f (.iadr 11 (.t 24) (.t 25))⟩,
      ⟨(some 27), none, .f (.ldA 11 (.t 26))⟩,
      ⟨(some 8), none, .x (.zero 44 11 [(.int .i64 0), (.int .i64 0), (.bool false), (.bool false), (.int .i64 0), (.int .i64 0), (.int .i64 0), (.int .i64 0), (.int .i64 0), .nilslice, .nilslice])⟩,
      ⟨none, none, .x (.st 11 (.t 8) (.t 27))⟩])
    (.seq (.reg [
      ⟨(some 28), none, .f (.mv (.t 5))⟩,
      ⟨(some 29), none, .f (.mv (.t 7))⟩,
      ⟨(some 30), none, .f (.iadr 11 (.t 28) (.t 29))⟩,
      ⟨(some 31), none, .f (.ldA 11 (.t 30))⟩,
      ⟨(some 9), none, .x (.zero 44 11 [(.int .i64 0), (.int .i64 0), (.bool false), (.bool false), (.int .i64 0), (.int .i64 0), (.int .i64 0), (.int .i64 0), (.int .i64 0), .nilslice, .nilslice])⟩,
      ⟨none, none, .x (.st 11 (.t 9) (.t 31))⟩])
    (.seq (.reg [
      ⟨(some 32), none, .f (.mv (.t 5))⟩,
      ⟨(some 33), none, .f (.mv (.t 6))⟩,
      ⟨(some 34), none, .f (.ldA 11 (.t 9))⟩,
      ⟨(some 35), none, .f (.iadr 11 (.t 32) (.t 33))⟩,
      ⟨none, none, .x (.st 11 (.t 35) (.t 34))⟩])
    (.reg [
      ⟨(some 36), none, .f (.mv (.t 5))⟩,
      ⟨(some 37), none, .f (.mv (.t 7))⟩,
      ⟨(some 38), none, .f (.ldA 11 (.t 8))⟩,
      ⟨(some 39), none, .f (.iadr 11 (.t 36) (.t 37))⟩,
      ⟨none, none, .x (.st 11 (.t 39) (.t 38))⟩]))))))
   (.reg [
     ⟨(some 18), none, .f (.mv (.t 6))⟩,
     ⟨(some 19), none, .f (.bin .sub (.t 18) (.c (.int .i64 1)))⟩,
     ⟨(some 6), none, .f (.mv (.t 19))⟩]))))))
 (.seq (.reg [
   ⟨(some 40), none, .f (.mv (.t 5))⟩,
   ⟨(some 4), none, .f (.mv (.t 40))⟩])
 .ret))))
theorem ok21 : fnComp Try.prog 21 = some (41, c21, [(.mv (.t 4))]) := by kernel_rfl

def c22 : CC :=
 (.seq (.reg [
   ⟨(some 2), none, .x (.box 44 11 (.t 0))⟩,
   ⟨(some 3), none, .x (.box 44 11 (.t 1))⟩,
   ⟨(some 4), none, .f (.mv (.c (.bool false)))⟩])
 (.seq (.reg [
   ⟨(some 5), none, .f (.fadr 0 (.t 2))⟩,
   ⟨(some 6), none, .f (.ld (.t 5))⟩,
   ⟨(some 7), none, .f (.fadr 0 (.t 3))⟩,
   ⟨(some 8), none, .f (.ld (.t 7))⟩,
   ⟨(some 9), none, .f (.bin .eql (.t 6) (.t 8))⟩,
   ⟨(some 10), none, .f (.mv (.t 9))⟩,
   ⟨(some 11), (some (10, true)), .f (.fadr 1 (.t 2))⟩,
   ⟨(some 12), (some (10, true)), .f (.ld (.t 11))⟩,
   ⟨(some 13), (some (10, true)), .f (.fadr 1 (.t 3))⟩,
   ⟨(some 14), (some (10, true)), .f (.ld (.t 13))⟩,
   ⟨(some 15), (some (10, true)), .f (.bin .eql (.t 12) (.t 14))⟩,
   ⟨(some 16), none, .f (.pick (.t 10) (.t 15) (.c (.bool false)))⟩,
   ⟨(some 17), none, .f (.mv (.t 16))⟩,
   ⟨(some 18), (some (17, true)), .f (.fadr 2 (.t 2))⟩,
   ⟨(some 19), (some (17, true)), .f (.ld (.t 18))⟩,
   ⟨(some 20), (some (17, true)), .f (.fadr 2 (.t 3))⟩,
   ⟨(some 21), (some (17, true)), .f (.ld (.t 20))⟩,
   ⟨(some 22), (some (17, true)), .f (.binB false (.t 19) (.t 21))⟩,
   ⟨(some 23), none, .f (.pick (.t 17) (.t 22) (.c (.bool false)))⟩,
   ⟨(some 24), none, .f (.mv (.t 23))⟩,
   ⟨(some 25), (some (24, true)), .f (.fadr 3 (.t 2))⟩,
   ⟨(some 26), (some (24, true)), .f (.ld (.t 25))⟩,
   ⟨(some 27), (some (24, true)), .f (.fadr 3 (.t 3))⟩,
   ⟨(some 28), (some (24, true)), .f (.ld (.t 27))⟩,
   ⟨(some 29), (some (24, true)), .f (.binB false (.t 26) (.t 28))⟩,
   ⟨(some 30), none, .f (.pick (.t 24) (.t 29) (.c (.bool false)))⟩,
   ⟨(some 31), none, .f (.mv (.t 30))⟩,
   ⟨(some 32), (some (31, true)), .f (.fadr 4 (.t 2))⟩,
   ⟨(some 33), (some (31, true)), .f (.ld (.t 32))⟩,
   ⟨(some 34), (some (31, true)), .f (.fadr 4 (.t 3))⟩,
   ⟨(some 35), (some (31, true)), .f (.ld (.t 34))⟩,
   ⟨(some 36), (some (31, true)), .f (.bin .eql (.t 33) (.t 35))⟩,
   ⟨(some 37), none, .f (.pick (.t 31) (.t 36) (.c (.bool false)))⟩,
   ⟨(some 38), none, .f (.mv (.t 37))⟩,
   ⟨(some 39), (some (38, true)), .f (.fadr 5 (.t 2))⟩,
   ⟨(some 40), (some (38, true)), .f (.ld (.t 39))⟩,
   ⟨(some 41), (some (38, true)), .f (.fadr 5 (.t 3))⟩,
   ⟨(some 42), (some (38, true)), .f (.ld (.t 41))⟩,
   ⟨(some 43), (some (38, true)), .f (.bin .eql (.t 40) (.t 42))⟩,
   ⟨(some 44), none, .f (.pick (.t 38) (.t 43) (.c (.bool false)))⟩,
   ⟨(some 45), none, .f (.mv (.t 44))⟩,
   ⟨(some 46), (some (45, true)), .f (.fadr 6 (.t 2))⟩,
   ⟨(some 47), (some (45, true)), .f (.ld (.t 46))⟩,
   ⟨(some 48), (some (45, true)), .f (.fadr 6 (.t 3))⟩,
   ⟨(some 49), (some (45, true)), .f (.ld (.t 48))⟩,
   ⟨(some 50), (some (45, true)), .f (.bin .eql (.t 47) (.t 49))⟩,
   ⟨(some 51), none, .f (.pick (.t 45) (.t 50) (.c (.bool false)))⟩,
   ⟨(some 52), none, .f (.mv (.t 51))⟩,
   ⟨(some 53), (some (52, true)), .f (.fadr 7 (.t 2))⟩,
   ⟨(some 54), (some (52, true)), .f (.ld (.t 53))⟩,
   ⟨(some 55), (some (52, true)), .f (.fadr 7 (.t 3))⟩,
   ⟨(some 56), (some (52, true)), .f (.ld (.t 55))⟩,
   ⟨(some 57), (some (52, true)), .f (.bin .eql (.t 54) (.t 56))⟩,
   ⟨(some 58), none, .f (.pick (.t 52) (.t 57) (.c (.bool false)))⟩,
   ⟨(some 59), none, .f (.mv (.t 58))⟩,
   ⟨(some 60), (some (59, true)), .f (.fadr 8 (.t 2))⟩,
   ⟨(some 61), (some (59, true)), .f (.ld (.t 60))⟩,
   ⟨(some 62), (some (59, true)), .f (.fadr 8 (.t 3))⟩,
   ⟨(some 63), (some (59, true)), .f (.ld (.t 62))⟩,
   ⟨(some 64), (some (59, true)), .f (.bin .eql (.t 61) (.t 63))⟩,
   ⟨(some 65), none, .f (.pick (.t 59) (.t 64) (.c (.bool false)))⟩,
   ⟨(some 66), none, .f (.mv (.t 65))⟩,
   ⟨(some 67), (some (66, true)), .f (.fadr 9 (.t 2))⟩,
   ⟨(some 68), (some (66, true)), .f (.ld (.t 67))⟩,
   ⟨(some 69), (some (66, true)), .f (.fadr 9 (.t 3))⟩,
   ⟨(some 70), (some (66, true)), .f (.ld (.t 69))⟩,
   ⟨(some 71), (some (66, true)), .x (.call 42 [(.t 68), (.t 70)])⟩,
   ⟨(some 72), none, .f (.pick (.t 66) (.t 71) (.c (.bool false)))⟩,
   ⟨(some 73), none, .f (.mv (.t 72))⟩,
   ⟨(some 74), (some (73, true)), .f (.fadr 10 (.t 2))⟩,
   ⟨(some 75), (some (73, true)), .f (.ld (.t 74))⟩,
   ⟨(some 76), (some (73, true)), .f (.fadr 10 (.t 3))⟩,
   ⟨(some 77), (some (73, true)), .f (.ld (.t 76))⟩,
   ⟨(some 78), (some (73, true)), .x (.call 42 [(.t 75), (.t 77)])⟩,
   ⟨(some 79), none, .f (.pick (.t 73) (.t 78) (.c (.bool false)))⟩,
   ⟨(some 4), none, .f (.mv (.t 79))⟩])
 .ret))
theorem ok22 : fnComp Try.prog 22 = some (80, c22, [(.mv (.t 4))]) := by kernel_rfl

def c23 : CC :=
 (.seq (.reg [
   ⟨(some 1), none, .x (.box 44 11 (.t 0))⟩,
   ⟨(some 2), none, .f (.mv (.c (.int .i64 0)))⟩])
 (.seq (.seq (.reg [
   ⟨(some 3), none, .f (.ldA 11 (.t 1))⟩,
   ⟨(some 4), none, .x (.call 43 [(.t 3)])⟩,
   ⟨(some 5), none, .f (.un .not (.t 4))⟩])
 (.cond (.t 5)
  (.seq (.reg [
    ⟨(some 2), none, .f (.mv (.c (.int .i64 0)))⟩])
  .ret)
  .skip))
 (.seq (.reg [
   ⟨(some 6), none, .f (.fadr 9 (.t 1))⟩,
   ⟨(some 7), none, .f (.ld (.t 6))⟩,
   ⟨(some 8), none, .f (.len (.t 7))⟩,
   ⟨(some 9), none, .f (.bin .add (.c (.int .i64 20)) (.t 8))⟩,
   ⟨(some 10), none, .f (.fadr 10 (.t 1))⟩,
   ⟨(some 11), none, .f (.ld (.t 10))⟩,
   ⟨(some 12), none, .f (.len (.t 11))⟩,
   ⟨(some 13), none, .f (.bin .add (.t 9) (.t 12))⟩,
   ⟨(some 2), none, .f (.mv (.t 13))⟩])
 .ret)))
theorem ok23 : fnComp Try.prog 23 = some (14, c23, [(.mv (.t 2))]) := by kernel_rfl

def c25 : CC :=
 (.seq (.reg [
   ⟨(some 4), none, .f (.mv (.c .nilslice))⟩])
 (.seq (.reg [
   ⟨(some 8), none, .x (.bslice 5 1 [(.int .u8 0)] 0 [])⟩,
   ⟨(some 5), none, .f (.mv (.t 8))⟩])
 (.seq (.seq (.reg [
   ⟨(some 6), none, .f (.mv (.c (.int .i64 0)))⟩])
 (.block 0 (.loop (.seq (.seq (.reg [
     ⟨(some 9), none, .f (.mv (.t 6))⟩,
     ⟨(some 10), none, .f (.mv (.t 1))⟩,
     ⟨(some 11), none, .f (.bin .lss (.t 9) (.t 10))⟩])
   (.cond (.t 11)
    .skip
    (.exit 0)))
   (.seq (.block 1 (.seq (.reg [
      ⟨(some 14), none, .f (.mv (.t 0))⟩,
      ⟨(some 15), none, .f (.mv (.t 6))⟩,
      ⟨(some 16), none, .f (.bin .add (.t 14) (.t 15))⟩,
      ⟨(some 7), none, .f (.mv (.t 16))⟩])
    (.reg [
      ⟨(some 17), none, .f (.mv (.t 5))⟩,
      ⟨(some 18), none, .f (.mv (.t 7))⟩,
      ⟨(some 19), none, .f (.bin .mul (.t 18) (.c (.int .i64 31)))⟩,
      ⟨(some 20), none, .f (.mv (.t 7))⟩,
      ⟨(some 21), none, .f (.bin .quo (.t 20) (.c (.int .i64 7)))⟩,
      ⟨(some 22), none, .f (.bin .add (.t 19) (.t 21))⟩,
      ⟨(some 23), none, .f (.mv (.t 7))⟩,
      ⟨(some 24), none, .f (.bin .quo (.t 23) (.c (.int .i64 251)))⟩,
      ⟨(some 25), none, .f (.bin .add (.t 22) (.t 24))⟩,
      ⟨(some 26), none, .f (.cvI .u8 (.t 25))⟩,
      ⟨(some 27), none, .x (.bslice 5 1 [(.int .u8 0)] 1 [(0, (.t 26))])⟩,
      ⟨(some 28), none, .x (.app 5 1 1 (.t 17) (.t 27))⟩,
      ⟨(some 5), none, .f (.mv (.t 28))⟩])))
   (.reg [
     ⟨(some 12), none, .f (.mv (.t 6))⟩,
     ⟨(some 13), none, .f (.bin .add (.t 12) (.c (.int .i64 1)))⟩,
     ⟨(some 6), none, .f (.mv (.t 13))⟩]))))))
 (.seq (.reg [
   ⟨(some 29), none, .f (.mv (.t 5))⟩,
   ⟨(some 4), none, .f (.mv (.t 29))⟩])
 .ret))))
theorem ok25 : fnComp Try.prog 25 = some (30, c25, [(.mv (.t 4))]) := by kernel_rfl

def c27 : CC :=
 (.seq (.reg [
   ⟨(some 1), none, .x (.box 44 11 (.t 0))⟩,
   ⟨(some 2), none, .f (.mv (.c .nilslice))⟩,
   ⟨(some 3), none, .f (.mv (.c (.int .i64 0)))⟩])
 (.seq (.seq (.reg [
   ⟨(some 4), none, .f (.ldA 11 (.t 1))⟩,
   ⟨(some 5), none, .x (.call 44 [(.t 4)])⟩,
   ⟨(some 6), none, .f (.un .not (.t 5))⟩])
 (.cond (.t 6)
  (.seq (.reg [
    ⟨(some 2), none, .f (.mv (.c .nilslice))⟩,
    ⟨(some 3), none, .f (.mv (.c (.int .i64 1)))⟩])
  .ret)
  .skip))
 (.seq (.seq (.reg [
   ⟨(some 7), none, .f (.fadr 9 (.t 1))⟩,
   ⟨(some 8), none, .f (.ld (.t 7))⟩,
   ⟨(some 9), none, .f (.len (.t 8))⟩,
   ⟨(some 10), none, .f (.bin .add (.c (.int .i64 20)) (.t 9))⟩,
   ⟨(some 11), none, .f (.fadr 10 (.t 1))⟩,
   ⟨(some 12), none, .f (.ld (.t 11))⟩,
   ⟨(some 13), none, .f (.len (.t 12))⟩,
   ⟨(some 14), none, .f (.bin .add (.t 10) (.t 13))⟩,
   ⟨(some 15), none, .f (.bin .gtr (.t 14) (.c (.int .i64 65535)))⟩,
   ⟨(some 16), none, .f (.mv (.t 15))⟩,
   ⟨(some 17), (some (16, false)), .f (.fadr 4 (.t 1))⟩,
   ⟨(some 18), (some (16, false)), .f (.ld (.t 17))⟩,
   ⟨(some 19), (some (16, false)), .f (.fadr 10 (.t 1))⟩,
   ⟨(some 20), (some (16, false)), .f (.ld (.t 19))⟩,
   ⟨(some 21), (some (16, false)), .f (.len (.t 20))⟩,
   ⟨(some 22), (some (16, false)), .f (.bin .add (.t 18) (.t 21))⟩,
   ⟨(some 23), (some (16, false)), .f (.bin .gtr (.t 22) (.c (.int .i64 65535)))⟩,
   ⟨(some 24), none, .f (.pick (.t 16) (.c (.bool true)) (.t 23))⟩])
 (.cond (.t 24)
  (.seq (.reg [
    ⟨(some 2), none, .f (.mv (.c .nilslice))⟩,
    ⟨(some 3), none, .f (.mv (.c (.int .i64 7)))⟩])
  .ret)
  .skip))
 (.seq (.dreg [
   ⟨(some 25), none, .f (.ldA 11 (.t 1))⟩,
   ⟨(some 26), none, .x (.call 47 [(.t 25)])⟩,
   ⟨(some 27), none, .f (.fadr 10 (.t 1))⟩,
   ⟨(some 28), none, .f (.ld (.t 27))⟩,
   ⟨(some 29), none, .x (.call 46 [(.t 26), (.t 28)])⟩,
   ⟨(some 2), none, .f (.mv (.t 29))⟩,
   ⟨(some 3), none, .f (.mv (.c (.int .i64 0)))⟩]
   [false, true, false, false, true, false, false] [[], [0], [], [2], [1, 0, 3, 2], [4, 1, 0, 3, 2], [5, 4, 1, 0, 3, 2]] [0, 2, 3, 1, 4, 5, 6])
 .ret))))
theorem ok27 : fnComp Try.prog 27 = some (30, c27, [(.mv (.t 2)), (.mv (.t 3))]) := by kernel_rfl

def c28 : CC :=
 (.seq (.reg [
   ⟨(some 3), none, .x (.box 44 11 (.t 1))⟩])
 (.seq (.seq (.reg [
   ⟨(some 8), none, .f (.fadr 4 (.t 3))⟩,
   ⟨(some 9), none, .f (.ld (.t 8))⟩,
   ⟨(some 10), none, .f (.bin .eql (.t 9) (.c (.int .i64 0)))⟩,
   ⟨(some 11), none, .f (.mv (.t 10))⟩,
   ⟨(some 12), (some (11, true)), .f (.fadr 3 (.t 3))⟩,
   ⟨(some 13), (some (11, true)), .f (.ld (.t 12))⟩,
   ⟨(some 14), (some (11, true)), .f (.un .not (.t 13))⟩,
   ⟨(some 15), none, .f (.pick (.t 11) (.t 14) (.c (.bool false)))⟩])
 (.cond (.t 15)
  (.seq (.reg [
    ⟨(some 16), none, .f (.mv (.t 0))⟩,
    ⟨(some 17), none, .f (.nck (.t 16))⟩,
    ⟨(some 18), none, .f (.fadr 2 (.t 17))⟩,
    ⟨(some 19), none, .f (.fadr 1 (.t 18))⟩,
    ⟨none, none, .x (.st 1 (.t 19) (.c (.bool true)))⟩])
  (.seq (.reg [
    ⟨(some 20), none, .f (.mv (.t 0))⟩,
    ⟨(some 21), none, .f (.ldA 11 (.t 3))⟩,
    ⟨(some 22), none, .x (.call 48 [(.t 21)])⟩,
    ⟨(some 23), none, .f (.nck (.t 20))⟩,
    ⟨(some 24), none, .f (.fadr 2 (.t 23))⟩,
    ⟨(some 25), none, .f (.fadr 2 (.t 24))⟩,
    ⟨none, none, .x (.st 11 (.t 25) (.t 22))⟩])
  .ret))
  .skip))
 (.seq (.seq (.reg [
   ⟨(some 26), none, .f (.fadr 10 (.t 3))⟩,
   ⟨(some 27), none, .f (.ld (.t 26))⟩,
   ⟨(some 28), none, .f (.len (.t 27))⟩,
   ⟨(some 29), none, .f (.bin .eql (.t 28) (.c (.int .i64 0)))⟩,
   ⟨(some 30), none, .f (.mv (.t 29))⟩,
   ⟨(some 31), (some (30, false)), .f (.fadr 3 (.t 3))⟩,
   ⟨(some 32), (some (30, false)), .f (.ld (.t 31))⟩,
   ⟨(some 33), (some (30, false)), .f (.mv (.t 32))⟩,
   ⟨(some 34), (some (33, true)), .f (.fadr 10 (.t 3))⟩,
   ⟨(some 35), (some (33, true)), .f (.ld (.t 34))⟩,
   ⟨(some 36), (some (33, true)), .f (.len (.t 35))⟩,
   ⟨(some 37), (some (33, true)), .f (.bin .rem (.t 36) (.c (.int .i64 8)))⟩,
   ⟨(some 38), (some (33, true)), .f (.bin .neq (.t 37) (.c (.int .i64 0)))⟩,
   ⟨(some 39), (some (30, false)), .f (.pick (.t 33) (.t 38) (.c (.bool false)))⟩,
   ⟨(some 40), none, .f (.pick (.t 30) (.c (.bool true)) (.t 39))⟩])
 (.cond (.t 40)
  (.seq (.reg [
    ⟨(some 41), none, .f (.mv (.t 0))⟩,
    ⟨(some 42), none, .f (.nck (.t 41))⟩,
    ⟨(some 43), none, .f (.fadr 2 (.t 42))⟩,
    ⟨(some 44), none, .f (.fadr 0 (.t 43))⟩,
    ⟨none, none, .x (.st 1 (.t 44) (.c (.int .i64 5)))⟩])
  .ret)
  .skip))
 (.seq (.reg [
   ⟨(some 45), none, .f (.mv (.t 0))⟩,
   ⟨(some 46), none, .f (.ldA 11 (.t 3))⟩,
   ⟨(some 47), none, .x (.call 49 [(.t 45), (.t 46)])⟩,
   ⟨(some 4), none, .f (.mv (.t 47))⟩])
 (.seq (.seq (.reg [
   ⟨(some 48), none, .f (.mv (.t 4))⟩,
   ⟨(some 49), none, .f (.bin .lss (.t 48) (.c (.int .i64 0)))⟩])
 (.cond (.t 49)
  (.seq (.seq (.reg [
    ⟨(some 50), none, .f (.mv (.t 0))⟩,
    ⟨(some 51), none, .f (.nck (.t 50))⟩,
    ⟨(some 52), none, .f (.fadr 1 (.t 51))⟩,
    ⟨(some 53), none, .f (.ld (.t 52))⟩,
    ⟨(some 54), none, .f (.len (.t 53))⟩,
    ⟨(some 55), none, .f (.bin .geq (.t 54) (.c (.int .i64 16)))⟩])
  (.cond (.t 55)
   (.reg [
     ⟨(some 56), none, .f (.mv (.t 0))⟩,
     ⟨(some 57), none, .x (.call 50 [(.t 56), (.c (.int .i64 0)), (.c (.bool true))])⟩])
   .skip))
  (.seq (.dreg [
    ⟨(some 58), none, .f (.mv (.t 0))⟩,
    ⟨(some 59), none, .f (.mv (.t 0))⟩,
    ⟨(some 60), none, .f (.nck (.t 59))⟩,
    ⟨(some 61), none, .f (.fadr 1 (.t 60))⟩,
    ⟨(some 62), none, .f (.ld (.t 61))⟩,
    ⟨(some 63), none, .f (.fadr 7 (.t 3))⟩,
    ⟨(some 64), none, .f (.ld (.t 63))⟩,
    ⟨(some 65), none, .f (.fadr 8 (.t 3))⟩,
    ⟨(some 66), none, .f (.ld (.t 65))⟩,
    ⟨(some 67), none, .f (.fadr 6 (.t 3))⟩,
    ⟨(some 68), none, .f (.ld (.t 67))⟩,
    ⟨(some 69), none, .f (.fadr 1 (.t 3))⟩,
    ⟨(some 70), none, .f (.ld (.t 69))⟩,
    ⟨(some 71), none, .f (.mv (.t 0))⟩,
    ⟨(some 72), none, .f (.nck (.t 71))⟩,
    ⟨(some 73), none, .f (.fadr 0 (.t 72))⟩,
    ⟨(some 74), none, .f (.ld (.t 73))⟩,
    ⟨(some 75), none, .f (.build [(.int .i64 0), (.int .i64 0), (.int .i64 0), (.int .i64 0), (.int .i64 0), .nilslice, (.int .i64 0), (.bool false), (.bool false), (.int .i64 0), (.int .i64 0), (.bool false), (.bool false), (.int .i64 0), (.int .i64 0), (.int .i64 0), (.int .i64 0), (.int .i64 0), .nilslice, .nilslice] [(0, 1, (.t 64)), (1, 1, (.t 66)), (2, 1, (.t 68)), (3, 1, (.t 70)), (4, 1, (.t 74)), (6, 1, (.c (.int .i64 (-1))))])⟩,
    ⟨(some 76), none, .x (.bslice 94 20 [(.int .i64 0), (.int .i64 0), (.int .i64 0), (.int .i64 0), (.int .i64 0), .nilslice, (.int .i64 0), (.bool false), (.bool false), (.int .i64 0), (.int .i64 0), (.bool false), (.bool false), (.int .i64 0), (.int .i64 0), (.int .i64 0), (.int .i64 0), (.int .i64 0), .nilslice, .nilslice] 1 [(0, (.t 75))])⟩,
    ⟨(some 77), none, .x (.app 94 20 192 (.t 62) (.t 76))⟩,
    ⟨(some 78), none, .f (.nck (.t 58))⟩,
    ⟨(some 79), none, .f (.fadr 1 (.t 78))⟩,
    ⟨none, none, .x (.st 1 (.t 79) (.t 77))⟩]
    [false, false, false, false, false, false, false, false, false, false, false, false, false, false, false, false, false, false, true, true, false, false, true] [[], [], [1], [2, 1], [3, 2, 1], [], [5], [], [7], [], [9], [], [11], [], [13], [14, 13], [15, 14, 13], [6, 5, 8, 7, 10, 9, 12, 11, 16, 15, 14, 13], [17, 6, 5, 8, 7, 10, 9, 12, 11, 16, 15, 14, 13], [4, 3, 2, 1, 18, 17, 6, 5, 8, 7, 10, 9, 12, 11, 16, 15, 14, 13], [0, 1, 2, 3, 4, 5, 6, 7, 8, 9, 10, 11, 12, 13, 14, 15, 16, 17, 18, 19], [20, 0, 1, 2, 3, 4, 5, 6, 7, 8, 9, 10, 11, 12, 13, 14, 15, 16, 17, 18, 19], [21, 20, 0, 1, 2, 3, 4, 5, 6, 7, 8, 9, 10, 11, 12, 13, 14, 15, 16, 17, 18, 19]] [0, 1, 2, 3, 4, 5, 6, 7, 8, 9, 10, 11, 12, 13, 14, 15, 16, 17, 18, 19, 20, 21, 22])
  (.reg [
    ⟨(some 80), none, .f (.mv (.t 0))⟩,
    ⟨(some 81), none, .f (.nck (.t 80))⟩,
    ⟨(some 82), none, .f (.fadr 1 (.t 81))⟩,
    ⟨(some 83), none, .f (.ld (.t 82))⟩,
    ⟨(some 84), none, .f (.len (.t 83))⟩,
    ⟨(some 85), none, .f (.bin .sub (.t 84) (.c (.int .i64 1)))⟩,
    ⟨(some 4), none, .f (.mv (.t 85))⟩])))
  .skip))
 (.seq (.seq (.reg [
   ⟨(some 86), none, .f (.mv (.t 0))⟩,
   ⟨(some 87), none, .f (.nck (.t 86))⟩,
   ⟨(some 88), none, .f (.fadr 1 (.t 87))⟩,
   ⟨(some 89), none, .f (.ld (.t 88))⟩,
   ⟨(some 90), none, .f (.mv (.t 4))⟩,
   ⟨(some 91), none, .f (.iadr 20 (.t 89) (.t 90))⟩,
   ⟨(some 92), none, .f (.fadr 7 (.t 91))⟩,
   ⟨(some 93), none, .f (.ld (.t 92))⟩])
 (.cond (.t 93)
  .ret
  .skip))
 (.seq (.dreg [
   ⟨(some 94), none, .f (.mv (.t 0))⟩,
   ⟨(some 95), none, .f (.nck (.t 94))⟩,
   ⟨(some 96), none, .f (.fadr 1 (.t 95))⟩,
   ⟨(some 97), none, .f (.ld (.t 96))⟩,
   ⟨(some 98), none, .f (.mv (.t 4))⟩,
   ⟨(some 99), none, .f (.mv (.t 0))⟩,
   ⟨(some 100), none, .f (.nck (.t 99))⟩,
   ⟨(some 101), none, .f (.fadr 1 (.t 100))⟩,
   ⟨(some 102), none, .f (.ld (.t 101))⟩,
   ⟨(some 103), none, .f (.mv (.t 4))⟩,
   ⟨(some 104), none, .f (.iadr 20 (.t 102) (.t 103))⟩,
   ⟨(some 105), none, .f (.ldA 20 (.t 104))⟩,
   ⟨(some 106), none, .f (.ldA 11 (.t 3))⟩,
   ⟨(some 107), none, .x (.call 51 [(.t 105), (.t 106)])⟩,
   ⟨(some 108), none, .f (.iadr 20 (.t 97) (.t 98))⟩,
   ⟨none, none, .x (.st 20 (.t 108) (.t 107))⟩]
   [false, false, false, false, false, false, false, false, false, false, false, false, false, true, false, true] [[], [0], [1, 0], [2, 1, 0], [], [], [5], [6, 5], [7, 6, 5], [], [8, 7, 6, 5, 9], [10, 8, 7, 6, 5, 9], [], [11, 10, 8, 7, 6, 5, 9, 12], [3, 2, 1, 0, 4, 5, 6, 7, 8, 9, 10, 11, 12, 13], [14, 3, 2, 1, 0, 4, 5, 6, 7, 8, 9, 10, 11, 12, 13]] [0, 1, 2, 3, 4, 5, 6, 7, 8, 9, 10, 11, 12, 13, 14, 15])
 (.seq (.reg [
   ⟨(some 110), none, .f (.mv (.t 0))⟩,
   ⟨(some 111), none, .f (.nck (.t 110))⟩,
   ⟨(some 112), none, .f (.fadr 1 (.t 111))⟩,
   ⟨(some 113), none, .f (.ld (.t 112))⟩,
   ⟨(some 114), none, .f (.mv (.t 4))⟩,
   ⟨(some 115), none, .f (.iadr 20 (.t 113) (.t 114))⟩,
   ⟨(some 116), none, .f (.ldA 20 (.t 115))⟩,
   ⟨(some 117), none, .x (.call 52 [(.t 116)])⟩,
   ⟨(some 109), none, .f (.mv (.t 117))⟩,
   ⟨(some 118), none, .f (.ext 0 (.t 109))⟩,
   ⟨(some 119), none, .f (.ext 1 (.t 109))⟩,
   ⟨(some 5), none, .f (.mv (.t 118))⟩,
   ⟨(some 6), none, .f (.mv (.t 119))⟩])
 (.seq (.reg [
   ⟨(some 120), none, .f (.mv (.t 6))⟩])
 (.cond (.t 120)
  (.seq (.reg [
    ⟨(some 121), none, .f (.mv (.t 0))⟩,
    ⟨(some 122), none, .f (.nck (.t 121))⟩,
    ⟨(some 123), none, .f (.fadr 1 (.t 122))⟩,
    ⟨(some 124), none, .f (.ld (.t 123))⟩,
    ⟨(some 125), none, .f (.mv (.t 4))⟩,
    ⟨(some 126), none, .f (.iadr 20 (.t 124) (.t 125))⟩,
    ⟨(some 127), none, .f (.fadr 9 (.t 126))⟩,
    ⟨(some 128), none, .f (.ldA 11 (.t 127))⟩,
    ⟨(some 7), none, .x (.zero 44 11 [(.int .i64 0), (.int .i64 0), (.bool false), (.bool false), (.int .i64 0), (.int .i64 0), (.int .i64 0), (.int .i64 0), (.int .i64 0), .nilslice, .nilslice])⟩,
    ⟨none, none, .x (.st 11 (.t 7) (.t 128))⟩])
  (.seq (.reg [
    ⟨(some 129), none, .f (.fadr 4 (.t 7))⟩,
    ⟨none, none, .x (.st 1 (.t 129) (.c (.int .i64 0)))⟩])
  (.seq (.reg [
    ⟨(some 130), none, .f (.fadr 3 (.t 7))⟩,
    ⟨none, none, .x (.st 1 (.t 130) (.c (.bool false)))⟩])
  (.seq (.reg [
    ⟨(some 131), none, .f (.mv (.t 5))⟩,
    ⟨(some 132), none, .f (.fadr 10 (.t 7))⟩,
    ⟨none, none, .x (.st 1 (.t 132) (.t 131))⟩])
  (.seq (.reg [
    ⟨(some 133), none, .f (.mv (.t 0))⟩,
    ⟨(some 134), none, .f (.nck (.t 133))⟩,
    ⟨(some 135), none, .f (.fadr 2 (.t 134))⟩,
    ⟨(some 136), none, .f (.fadr 1 (.t 135))⟩,
    ⟨none, none, .x (.st 1 (.t 136) (.c (.bool true)))⟩])
  (.seq (.reg [
    ⟨(some 137), none, .f (.mv (.t 0))⟩,
    ⟨(some 138), none, .f (.ldA 11 (.t 7))⟩,
    ⟨(some 139), none, .f (.nck (.t 137))⟩,
    ⟨(some 140), none, .f (.fadr 2 (.t 139))⟩,
    ⟨(some 141), none, .f (.fadr 2 (.t 140))⟩,
    ⟨none, none, .x (.st 11 (.t 141) (.t 138))⟩])
  (.reg [
    ⟨(some 142), none, .f (.mv (.t 0))⟩,
    ⟨(some 143), none, .f (.mv (.t 4))⟩,
    ⟨(some 144), none, .x (.call 50 [(.t 142), (.t 143), (.c (.bool false))])⟩])))))))
  .skip))))))))))
theorem ok28 : fnComp Try.prog 28 = some (145, c28, []) := by kernel_rfl

def c29 : CC :=
 (.seq (.reg [
   ⟨(some 4), none, .f (.mv (.t 0))⟩,
   ⟨(some 5), none, .f (.mv (.t 0))⟩,
   ⟨(some 6), none, .f (.nck (.t 5))⟩,
   ⟨(some 7), none, .f (.fadr 0 (.t 6))⟩,
   ⟨(some 8), none, .f (.ld (.t 7))⟩,
   ⟨(some 9), none, .f (.mv (.t 1))⟩,
   ⟨(some 10), none, .f (.bin .add (.t 8) (.t 9))⟩,
   ⟨(some 11), none, .f (.nck (.t 4))⟩,
   ⟨(some 12), none, .f (.fadr 0 (.t 11))⟩,
   ⟨none, none, .x (.st 1 (.t 12) (.t 10))⟩])
 (.block 0 (.loop (.seq (.seq (.dreg [
     ⟨(some 13), none, .f (.mv (.t 0))⟩,
     ⟨(some 14), none, .f (.nck (.t 13))⟩,
     ⟨(some 15), none, .f (.fadr 1 (.t 14))⟩,
     ⟨(some 16), none, .f (.ld (.t 15))⟩,
     ⟨(some 17), none, .f (.len (.t 16))⟩,
     ⟨(some 18), none, .f (.bin .gtr (.t 17) (.c (.int .i64 0)))⟩,
     ⟨(some 19), none, .f (.mv (.t 18))⟩,
     ⟨(some 20), (some (19, true)), .f (.mv (.t 0))⟩,
     ⟨(some 21), (some (19, true)), .f (.nck (.t 20))⟩,
     ⟨(some 22), (some (19, true)), .f (.fadr 1 (.t 21))⟩,
     ⟨(some 23), (some (19, true)), .f (.ld (.t 22))⟩,
     ⟨(some 24), (some (19, true)), .f (.iadr 20 (.t 23) (.c (.int .i64 0)))⟩,
     ⟨(some 25), (some (19, true)), .f (.fadr 4 (.t 24))⟩,
     ⟨(some 26), (some (19, true)), .f (.ld (.t 25))⟩,
     ⟨(some 27), (some (19, true)), .f (.bin .add (.t 26) (.c (.int .i64 30000)))⟩,
     ⟨(some 28), (some (19, true)), .f (.mv (.t 0))⟩,
     ⟨(some 29), (some (19, true)), .f (.nck (.t 28))⟩,
     ⟨(some 30), (some (19, true)), .f (.fadr 0 (.t 29))⟩,
     ⟨(some 31), (some (19, true)), .f (.ld (.t 30))⟩,
     ⟨(some 32), (some (19, true)), .f (.bin .leq (.t 27) (.t 31))⟩,
     ⟨(some 33), none, .f (.pick (.t 19) (.t 32) (.c (.bool false)))⟩]
     [false, false, false, false, false, false, false, false, false, false, false, false, false, false, false, false, false, false, false, false, false] [[], [0], [1, 0], [2, 1, 0], [3, 2, 1, 0], [4, 3, 2, 1, 0], [5, 4, 3, 2, 1, 0], [6, 5, 4, 3, 2, 1, 0], [7, 6, 5, 4, 3, 2, 1, 0], [8, 7, 6, 5, 4, 3, 2, 1, 0], [9, 8, 7, 6, 5, 4, 3, 2, 1, 0], [10, 9, 8, 7, 6, 5, 4, 3, 2, 1, 0], [11, 10, 9, 8, 7, 6, 5, 4, 3, 2, 1, 0], [12, 11, 10, 9, 8, 7, 6, 5, 4, 3, 2, 1, 0], [13, 12, 11, 10, 9, 8, 7, 6, 5, 4, 3, 2, 1, 0], [6, 5, 4, 3, 2, 1, 0], [15, 6, 5, 4, 3, 2, 1, 0], [16, 15, 6, 5, 4, 3, 2, 1, 0], [17, 16, 15, 6, 5, 4, 3, 2, 1, 0], [14, 13, 12, 11, 10, 9, 8, 7, 6, 5, 4, 3, 2, 1, 0, 18, 17, 16, 15], [6, 5, 4, 3, 2, 1, 0, 19, 14, 13, 12, 11, 10, 9, 8, 7, 18, 17, 16, 15]] [0, 1, 2, 3, 4, 5, 6, 7, 8, 9, 10, 11, 12, 13, 14, 15, 16, 17, 18, 19, 20])
   (.cond (.t 33)
    .skip
    (.exit 0)))
   (.block 1 (.reg [
      ⟨(some 34), none, .f (.mv (.t 0))⟩,
      ⟨(some 35), none, .x (.call 50 [(.t 34), (.c (.int .i64 0)), (.c (.bool true))])⟩]))))))
theorem ok29 : fnComp Try.prog 29 = some (36, c29, []) := by kernel_rfl

def c30 : CC :=
 (.seq (.reg [
   ⟨(some 2), none, .x (.zero 52 16 [(.int .i64 0), (.bool false), (.int .i64 0), (.int .i64 0), (.bool false), (.bool false), (.int .i64 0), (.int .i64 0), (.int .i64 0), (.int .i64 0), (.int .i64 0), .nilslice, .nilslice, .nilslice, (.int .i64 0), (.int .i64 0)])⟩])
 (.seq (.reg [
   ⟨(some 5), none, .f (.mv (.t 0))⟩,
   ⟨(some 6), none, .f (.mv (.t 0))⟩,
   ⟨(some 7), none, .f (.nck (.t 6))⟩,
   ⟨(some 8), none, .f (.fadr 1 (.t 7))⟩,
   ⟨(some 9), none, .f (.ld (.t 8))⟩,
   ⟨(some 10), none, .f (.len (.t 9))⟩,
   ⟨(some 11), none, .f (.nck (.t 5))⟩,
   ⟨(some 12), none, .f (.fadr 2 (.t 11))⟩,
   ⟨(some 13), none, .f (.fadr 14 (.t 12))⟩,
   ⟨none, none, .x (.st 1 (.t 13) (.t 10))⟩])
 (.seq (.seq (.reg [
   ⟨(some 3), none, .f (.mv (.c (.int .i64 0)))⟩])
 (.block 0 (.loop (.seq (.seq (.reg [
     ⟨(some 14), none, .f (.mv (.t 3))⟩,
     ⟨(some 15), none, .f (.mv (.t 0))⟩,
     ⟨(some 16), none, .f (.nck (.t 15))⟩,
     ⟨(some 17), none, .f (.fadr 1 (.t 16))⟩,
     ⟨(some 18), none, .f (.ld (.t 17))⟩,
     ⟨(some 19), none, .f (.len (.t 18))⟩,
     ⟨(some 20), none, .f (.bin .lss (.t 14) (.t 19))⟩])
   (.cond (.t 20)
    .skip
    (.exit 0)))
   (.seq (.block 1 (.seq (.reg [
      ⟨(some 4), none, .f (.mv (.c (.int .i64 0)))⟩])
    (.block 2 (.loop (.seq (.seq (.reg [
        ⟨(some 23), none, .f (.mv (.t 4))⟩,
        ⟨(some 24), none, .f (.mv (.t 0))⟩,
        ⟨(some 25), none, .f (.nck (.t 24))⟩,
        ⟨(some 26), none, .f (.fadr 1 (.t 25))⟩,
        ⟨(some 27), none, .f (.ld (.t 26))⟩,
        ⟨(some 28), none, .f (.mv (.t 3))⟩,
        ⟨(some 29), none, .f (.iadr 20 (.t 27) (.t 28))⟩,
        ⟨(some 30), none, .f (.fadr 5 (.t 29))⟩,
        ⟨(some 31), none, .f (.ld (.t 30))⟩,
        ⟨(some 32), none, .f (.len (.t 31))⟩,
        ⟨(some 33), none, .f (.bin .lss (.t 23) (.t 32))⟩])
      (.cond (.t 33)
       .skip
       (.exit 2)))
      (.seq (.block 3 (.dreg [
         ⟨(some 36), none, .f (.mv (.t 0))⟩,
         ⟨(some 37), none, .f (.mv (.t 0))⟩,
         ⟨(some 38), none, .f (.nck (.t 37))⟩,
         ⟨(some 39), none, .f (.fadr 2 (.t 38))⟩,
         ⟨(some 40), none, .f (.fadr 15 (.t 39))⟩,
         ⟨(some 41), none, .f (.ld (.t 40))⟩,
         ⟨(some 42), none, .f (.mv (.t 0))⟩,
         ⟨(some 43), none, .f (.nck (.t 42))⟩,
         ⟨(some 44), none, .f (.fadr 1 (.t 43))⟩,
         ⟨(some 45), none, .f (.ld (.t 44))⟩,
         ⟨(some 46), none, .f (.mv (.t 3))⟩,
         ⟨(some 47), none, .f (.iadr 20 (.t 45) (.t 46))⟩,
         ⟨(some 48), none, .f (.fadr 5 (.t 47))⟩,
         ⟨(some 49), none, .f (.ld (.t 48))⟩,
         ⟨(some 50), none, .f (.mv (.t 4))⟩,
         ⟨(some 51), none, .f (.iadr 2 (.t 49) (.t 50))⟩,
         ⟨(some 52), none, .f (.fadr 1 (.t 51))⟩,
         ⟨(some 53), none, .f (.ld (.t 52))⟩,
         ⟨(some 54), none, .f (.len (.t 53))⟩,
         ⟨(some 55), none, .f (.bin .add (.t 41) (.t 54))⟩,
         ⟨(some 56), none, .f (.nck (.t 36))⟩,
         ⟨(some 57), none, .f (.fadr 2 (.t 56))⟩,
         ⟨(some 58), none, .f (.fadr 15 (.t 57))⟩,
         ⟨none, none, .x (.st 1 (.t 58) (.t 55))⟩]
         [false, false, false, false, false, false, false, false, false, false, false, false, false, false, false, false, false, false, false, false, false, false, false, true] [[], [], [1], [2, 1], [3, 2, 1], [4, 3, 2, 1], [], [6], [7, 6], [8, 7, 6], [], [9, 8, 7, 6, 10], [11, 9, 8, 7, 6, 10], [12, 11, 9, 8, 7, 6, 10], [], [13, 12, 11, 9, 8, 7, 6, 10, 14], [15, 13, 12, 11, 9, 8, 7, 6, 10, 14], [16, 15, 13, 12, 11, 9, 8, 7, 6, 10, 14], [17, 16, 15, 13, 12, 11, 9, 8, 7, 6, 10, 14], [5, 4, 3, 2, 1, 18, 17, 16, 15, 13, 12, 11, 9, 8, 7, 6, 10, 14], [0, 1, 2, 3, 4, 5, 6, 7, 8, 9, 10, 11, 12, 13, 14, 15, 16, 17, 18, 19], [20, 0, 1, 2, 3, 4, 5, 6, 7, 8, 9, 10, 11, 12, 13, 14, 15, 16, 17, 18, 19], [21, 20, 0, 1, 2, 3, 4, 5, 6, 7, 8, 9, 10, 11, 12, 13, 14, 15, 16, 17, 18, 19], [22, 21, 20, 0, 1, 2, 3, 4, 5, 6, 7, 8, 9, 10, 11, 12, 13, 14, 15, 16, 17, 18, 19]] [0, 1, 2, 3, 4, 5, 6, 7, 8, 9, 10, 11, 12, 13, 14, 15, 16, 17, 18, 19, 20, 21, 22, 23]))
      (.reg [
        ⟨(some 34), none, .f (.mv (.t 4))⟩,
        ⟨(some 35), none, .f (.bin .add (.t 34) (.c (.int .i64 1)))⟩,
        ⟨(some 4), none, .f (.mv (.t 35))⟩])))))))
   (.reg [
     ⟨(some 21), none, .f (.mv (.t 3))⟩,
     ⟨(some 22), none, .f (.bin .add (.t 21) (.c (.int .i64 1)))⟩,
     ⟨(some 3), none, .f (.mv (.t 22))⟩]))))))
 (.seq (.reg [
   ⟨(some 59), none, .f (.mv (.t 0))⟩,
   ⟨(some 60), none, .f (.nck (.t 59))⟩,
   ⟨(some 61), none, .f (.fadr 2 (.t 60))⟩,
   ⟨(some 62), none, .f (.ldA 16 (.t 61))⟩,
   ⟨none, none, .x (.st 16 (.t 2) (.t 62))⟩])
 .ret))))
theorem ok30 : fnComp Try.prog 30 = some (63, c30, [(.ldA 16 (.t 2))]) := by kernel_rfl

def c32 : CC :=
 (.seq (.reg [
   ⟨(some 3), none, .x (.box 58 13 (.t 1))⟩,
   ⟨(some 4), none, .x (.zero 52 16 [(.int .i64 0), (.bool false), (.int .i64 0), (.int .i64 0), (.bool false), (.bool false), (.int .i64 0), (.int .i64 0), (.int .i64 0), (.int .i64 0), (.int .i64 0), .nilslice, .nilslice, .nilslice, (.int .i64 0), (.int .i64 0)])⟩])
 (.seq (.reg [
   ⟨(some 5), none, .x (.zero 52 16 [(.int .i64 0), (.bool false), (.int .i64 0), (.int .i64 0), (.bool false), (.bool false), (.int .i64 0), (.int .i64 0), (.int .i64 0), (.int .i64 0), (.int .i64 0), .nilslice, .nilslice, .nilslice, (.int .i64 0), (.int .i64 0)])⟩])
 (.seq (.block 0 (.seq (.reg [
    ⟨(some 14), none, .f (.fadr 0 (.t 3))⟩,
    ⟨(some 15), none, .f (.ld (.t 14))⟩,
    ⟨(some 16), none, .f (.bin .eql (.t 15) (.c (.int .i64 1)))⟩,
    ⟨(some 17), none, .f (.mv (.t 16))⟩,
    ⟨(some 18), (some (17, true)), .f (.fadr 2 (.t 3))⟩,
    ⟨(some 19), (some (17, true)), .f (.ldA 11 (.t 18))⟩,
    ⟨(some 20), (some (17, true)), .x (.call 39 [(.t 19)])⟩,
    ⟨(some 21), (some (17, true)), .f (.bin .eql (.t 20) (.c (.int .i64 0)))⟩,
    ⟨(some 22), none, .f (.pick (.t 17) (.t 21) (.c (.bool false)))⟩,
    ⟨(some 13), none, .f (.mv (.t 22))⟩])
  (.cond (.t 13)
   (.reg [
     ⟨(some 23), none, .f (.mv (.t 0))⟩,
     ⟨(some 24), none, .f (.fadr 2 (.t 3))⟩,
     ⟨(some 25), none, .f (.ldA 11 (.t 24))⟩,
     ⟨(some 26), none, .x (.call 54 [(.t 23), (.t 25), (.t 5)])⟩])
   (.seq (.dreg [
     ⟨(some 28), none, .f (.fadr 0 (.t 3))⟩,
     ⟨(some 29), none, .f (.ld (.t 28))⟩,
     ⟨(some 30), none, .f (.bin .eql (.t 29) (.c (.int .i64 2)))⟩,
     ⟨(some 31), none, .f (.mv (.t 30))⟩,
     ⟨(some 32), (some (31, true)), .f (.mv (.t 0))⟩,
     ⟨(some 33), (some (31, true)), .f (.nck (.t 32))⟩,
     ⟨(some 34), (some (31, true)), .f (.fadr 0 (.t 33))⟩,
     ⟨(some 35), (some (31, true)), .f (.ld (.t 34))⟩,
     ⟨(some 36), (some (31, true)), .f (.fadr 1 (.t 3))⟩,
     ⟨(some 37), (some (31, true)), .f (.ld (.t 36))⟩,
     ⟨(some 38), (some (31, true)), .x (.call 55 [(.t 35), (.t 37)])⟩,
     ⟨(some 39), none, .f (.pick (.t 31) (.t 38) (.c (.bool false)))⟩,
     ⟨(some 27), none, .f (.mv (.t 39))⟩]
     [false, false, false, false, false, false, false, false, false, false, true, false, false] [[], [0], [1, 0], [2, 1, 0], [3, 2, 1, 0], [4, 3, 2, 1, 0], [5, 4, 3, 2, 1, 0], [6, 5, 4, 3, 2, 1, 0], [3, 2, 1, 0], [8, 3, 2, 1, 0], [7, 6, 5, 4, 3, 2, 1, 0, 9, 8], [3, 2, 1, 0, 10, 7, 6, 5, 4, 9, 8], [11, 3, 2, 1, 0, 10, 7, 6, 5, 4, 9, 8]] [0, 1, 2, 3, 4, 5, 6, 7, 8, 9, 10, 11, 12])
   (.cond (.t 27)
    (.seq (.dreg [
      ⟨(some 40), none, .f (.mv (.t 0))⟩,
      ⟨(some 41), none, .f (.nck (.t 40))⟩,
      ⟨(some 42), none, .f (.fadr 0 (.t 41))⟩,
      ⟨(some 43), none, .f (.ld (.t 42))⟩,
      ⟨(some 44), none, .f (.fadr 1 (.t 3))⟩,
      ⟨(some 45), none, .f (.ld (.t 44))⟩,
      ⟨(some 46), none, .f (.bin .add (.t 43) (.t 45))⟩,
      ⟨(some 47), none, .f (.nck (.t 40))⟩,
      ⟨(some 48), none, .f (.fadr 0 (.t 47))⟩,
      ⟨none, none, .x (.st 1 (.t 48) (.t 46))⟩]
      [false, false, false, false, false, false, false, false, false, true] [[], [0], [1, 0], [2, 1, 0], [], [4], [3, 2, 1, 0, 5, 4], [0, 1, 2, 3, 4, 5, 6], [7, 0, 1, 2, 3, 4, 5, 6], [8, 7, 0, 1, 2, 3, 4, 5, 6]] [0, 1, 2, 3, 4, 5, 6, 7, 8, 9])
    (.seq (.reg [
      ⟨(some 49), none, .f (.mv (.t 0))⟩,
      ⟨(some 50), none, .x (.call 56 [(.t 49)])⟩,
      ⟨(some 51), none, .f (.len (.t 50))⟩,
      ⟨(some 52), none, .f (.mv (.c (.int .i64 0)))⟩])
    (.block 1 (.loop (.seq (.reg [
        ⟨(some 53), none, .f (.bin .lss (.t 52) (.t 51))⟩])
      (.seq (.cond (.t 53)
       .skip
       (.exit 1))
      (.seq (.block 2 (.seq (.reg [
         ⟨(some 54), none, .f (.iadr 1 (.t 50) (.t 52))⟩,
         ⟨(some 55), none, .f (.ld (.t 54))⟩,
         ⟨(some 7), none, .f (.mv (.t 55))⟩])
       (.seq (.reg [
         ⟨(some 56), none, .f (.mv (.t 7))⟩,
         ⟨(some 57), none, .f (.nck (.t 56))⟩,
         ⟨(some 58), none, .f (.fadr 8 (.t 57))⟩,
         ⟨(some 59), none, .f (.ld (.t 58))⟩,
         ⟨(some 60), none, .f (.un .not (.t 59))⟩])
       (.cond (.t 60)
        (.dreg [
          ⟨(some 61), none, .f (.fadr 13 (.t 5))⟩,
          ⟨(some 62), none, .f (.ld (.t 61))⟩,
          ⟨(some 63), none, .f (.mv (.t 7))⟩,
          ⟨(some 64), none, .x (.call 57 [(.t 63)])⟩,
          ⟨(some 65), none, .x (.bslice 113 5 [(.int .i64 0), (.int .i64 0), (.int .i64 0), (.int .i64 0), (.bool false)] 1 [(0, (.t 64))])⟩,
          ⟨(some 66), none, .x (.app 113 5 40 (.t 62) (.t 65))⟩,
          ⟨(some 67), none, .f (.fadr 13 (.t 5))⟩,
          ⟨none, none, .x (.st 1 (.t 67) (.t 66))⟩]
          [false, false, false, true, true, true, false, true] [[], [0], [], [2], [3, 2], [1, 0, 4, 3, 2], [0, 1, 2, 3, 4, 5], [6, 0, 1, 2, 3, 4, 5]] [0, 1, 2, 3, 4, 5, 6, 7])
        .skip))))
      (.reg [
        ⟨(some 68), none, .f (.bin .add (.t 52) (.c (.int .i64 1)))⟩,
        ⟨(some 52), none, .f (.mv (.t 68))⟩]))))))))
    (.reg [
      ⟨(some 12), none, .f (.fadr 0 (.t 5))⟩,
      ⟨none, none, .x (.st 1 (.t 12) (.c (.int .i64 1)))⟩]))))))
 (.seq (.reg [
   ⟨(some 69), none, .f (.mv (.t 0))⟩,
   ⟨(some 70), none, .f (.nck (.t 69))⟩,
   ⟨(some 71), none, .f (.fadr 1 (.t 70))⟩,
   ⟨(some 72), none, .f (.ld (.t 71))⟩,
   ⟨(some 73), none, .f (.len (.t 72))⟩,
   ⟨(some 74), none, .f (.fadr 14 (.t 5))⟩,
   ⟨none, none, .x (.st 1 (.t 74) (.t 73))⟩])
 (.seq (.seq (.reg [
   ⟨(some 75), none, .f (.mv (.t 0))⟩,
   ⟨(some 76), none, .f (.nck (.t 75))⟩,
   ⟨(some 77), none, .f (.fadr 1 (.t 76))⟩,
   ⟨(some 78), none, .f (.ld (.t 77))⟩,
   ⟨(some 79), none, .f (.len (.t 78))⟩,
   ⟨(some 80), none, .f (.mv (.c (.int .i64 0)))⟩])
 (.block 3 (.loop (.seq (.reg [
     ⟨(some 81), none, .f (.bin .lss (.t 80) (.t 79))⟩])
   (.seq (.cond (.t 81)
    .skip
    (.exit 3))
   (.seq (.block 4 (.seq (.reg [
      ⟨(some 82), none, .f (.iadr 1 (.t 78) (.t 80))⟩,
      ⟨(some 83), none, .f (.ld (.t 82))⟩,
      ⟨(some 9), none, .f (.mv (.t 83))⟩])
    (.seq (.reg [
      ⟨(some 84), none, .f (.mv (.t 9))⟩,
      ⟨(some 85), none, .f (.nck (.t 84))⟩,
      ⟨(some 86), none, .f (.fadr 4 (.t 85))⟩,
      ⟨(some 87), none, .f (.ld (.t 86))⟩,
      ⟨(some 88), none, .f (.len (.t 87))⟩,
      ⟨(some 89), none, .f (.mv (.c (.int .i64 0)))⟩])
    (.block 5 (.loop (.seq (.reg [
        ⟨(some 90), none, .f (.bin .lss (.t 89) (.t 88))⟩])
      (.seq (.cond (.t 90)
       .skip
       (.exit 5))
      (.seq (.block 6 (.seq (.reg [
         ⟨(some 91), none, .f (.iadr 2 (.t 87) (.t 89))⟩,
         ⟨(some 92), none, .f (.ldA 2 (.t 91))⟩,
         ⟨(some 11), none, .x (.zero 116 2 [(.int .i64 0), .nilslice])⟩,
         ⟨none, none, .x (.st 2 (.t 11) (.t 92))⟩])
       (.reg [
         ⟨(some 93), none, .f (.fadr 15 (.t 5))⟩,
         ⟨(some 94), none, .f (.ld (.t 93))⟩,
         ⟨(some 95), none, .f (.fadr 1 (.t 11))⟩,
         ⟨(some 96), none, .f (.ld (.t 95))⟩,
         ⟨(some 97), none, .f (.len (.t 96))⟩,
         ⟨(some 98), none, .f (.bin .add (.t 94) (.t 97))⟩,
         ⟨(some 99), none, .f (.fadr 15 (.t 5))⟩,
         ⟨none, none, .x (.st 1 (.t 99) (.t 98))⟩])))
      (.reg [
        ⟨(some 100), none, .f (.bin .add (.t 89) (.c (.int .i64 1)))⟩,
        ⟨(some 89), none, .f (.mv (.t 100))⟩])))))))))
   (.reg [
     ⟨(some 101), none, .f (.bin .add (.t 80) (.c (.int .i64 1)))⟩,
     ⟨(some 80), none, .f (.mv (.t 101))⟩])))))))
 (.seq (.reg [
   ⟨(some 102), none, .f (.ldA 16 (.t 5))⟩,
   ⟨none, none, .x (.st 16 (.t 4) (.t 102))⟩])
 .ret))))))
theorem ok32 : fnComp Try.prog 32 = some (103, c32, [(.ldA 16 (.t 4))]) := by kernel_rfl

def c39 : CC :=
 (.seq (.reg [
   ⟨(some 1), none, .x (.box 44 11 (.t 0))⟩,
   ⟨(some 2), none, .f (.mv (.c (.int .i64 0)))⟩])
 (.seq (.seq (.reg [
   ⟨(some 3), none, .f (.ldA 11 (.t 1))⟩,
   ⟨(some 4), none, .x (.call 43 [(.t 3)])⟩,
   ⟨(some 5), none, .f (.un .not (.t 4))⟩])
 (.cond (.t 5)
  (.seq (.reg [
    ⟨(some 2), none, .f (.mv (.c (.int .i64 1)))⟩])
  .ret)
  .skip))
 (.seq (.seq (.reg [
   ⟨(some 6), none, .f (.fadr 9 (.t 1))⟩,
   ⟨(some 7), none, .f (.ld (.t 6))⟩,
   ⟨(some 8), none, .f (.len (.t 7))⟩,
   ⟨(some 9), none, .f (.bin .add (.c (.int .i64 20)) (.t 8))⟩,
   ⟨(some 10), none, .f (.fadr 10 (.t 1))⟩,
   ⟨(some 11), none, .f (.ld (.t 10))⟩,
   ⟨(some 12), none, .f (.len (.t 11))⟩,
   ⟨(some 13), none, .f (.bin .add (.t 9) (.t 12))⟩,
   ⟨(some 14), none, .f (.bin .gtr (.t 13) (.c (.int .i64 65535)))⟩,
   ⟨(some 15), none, .f (.mv (.t 14))⟩,
   ⟨(some 16), (some (15, false)), .f (.fadr 4 (.t 1))⟩,
   ⟨(some 17), (some (15, false)), .f (.ld (.t 16))⟩,
   ⟨(some 18), (some (15, false)), .f (.fadr 10 (.t 1))⟩,
   ⟨(some 19), (some (15, false)), .f (.ld (.t 18))⟩,
   ⟨(some 20), (some (15, false)), .f (.len (.t 19))⟩,
   ⟨(some 21), (some (15, false)), .f (.bin .add (.t 17) (.t 20))⟩,
   ⟨(some 22), (some (15, false)), .f (.bin .gtr (.t 21) (.c (.int .i64 65535)))⟩,
   ⟨(some 23), none, .f (.pick (.t 15) (.c (.bool true)) (.t 22))⟩])
 (.cond (.t 23)
  (.seq (.reg [
    ⟨(some 2), none, .f (.mv (.c (.int .i64 7)))⟩])
  .ret)
  .skip))
 (.seq (.reg [
   ⟨(some 2), none, .f (.mv (.c (.int .i64 0)))⟩])
 .ret))))
theorem ok39 : fnComp Try.prog 39 = some (24, c39, [(.mv (.t 2))]) := by kernel_rfl

def c40 : CC :=
 (.seq (.reg [
   ⟨(some 1), none, .x (.box 44 11 (.t 0))⟩,
   ⟨(some 2), none, .x (.zero 44 11 [(.int .i64 0), (.int .i64 0), (.bool false), (.bool false), (.int .i64 0), (.int .i64 0), (.int .i64 0), (.int .i64 0), (.int .i64 0), .nilslice, .nilslice])⟩])
 (.seq (.dreg [
   ⟨(some 3), none, .f (.fadr 9 (.t 1))⟩,
   ⟨(some 4), none, .f (.ld (.t 3))⟩,
   ⟨(some 5), none, .x (.call 41 [(.t 4)])⟩,
   ⟨(some 6), none, .f (.fadr 10 (.t 1))⟩,
   ⟨(some 7), none, .f (.ld (.t 6))⟩,
   ⟨(some 8), none, .x (.call 41 [(.t 7)])⟩,
   ⟨(some 9), none, .f (.fadr 9 (.t 1))⟩,
   ⟨none, none, .x (.st 1 (.t 9) (.t 5))⟩,
   ⟨(some 10), none, .f (.fadr 10 (.t 1))⟩,
   ⟨none, none, .x (.st 1 (.t 10) (.t 8))⟩]
   [false, false, true, false, false, true, false, true, false, true] [[], [0], [1, 0], [], [3], [4, 3, 2, 1, 0], [0, 1, 2, 3, 4], [6, 0, 1, 2, 3, 4, 5], [0, 1, 2, 3, 4, 5, 6, 7], [8, 0, 1, 2, 3, 4, 5, 6, 7]] [0, 1, 3, 4, 2, 6, 5, 7, 8, 9])
 (.seq (.reg [
   ⟨(some 11), none, .f (.ldA 11 (.t 1))⟩,
   ⟨none, none, .x (.st 11 (.t 2) (.t 11))⟩])
 .ret)))
theorem ok40 : fnComp Try.prog 40 = some (12, c40, [(.ldA 11 (.t 2))]) := by kernel_rfl

def c41 : CC :=
 (.seq (.reg [
   ⟨(some 2), none, .f (.mv (.c .nilslice))⟩])
 (.seq (.reg [
   ⟨(some 3), none, .f (.mv (.t 0))⟩,
   ⟨(some 4), none, .x (.app 5 1 1 (.c .nilslice) (.t 3))⟩,
   ⟨(some 2), none, .f (.mv (.t 4))⟩])
 .ret))
theorem ok41 : fnComp Try.prog 41 = some (5, c41, [(.mv (.t 2))]) := by kernel_rfl

def c42 : CC :=
 (.seq (.reg [
   ⟨(some 4), none, .f (.mv (.c (.bool false)))⟩])
 (.seq (.reg [
   ⟨(some 5), none, .f (.mv (.t 0))⟩,
   ⟨(some 6), none, .f (.b2s (.t 5))⟩,
   ⟨(some 7), none, .f (.mv (.t 1))⟩,
   ⟨(some 8), none, .f (.b2s (.t 7))⟩,
   ⟨(some 9), none, .f (.bin .eql (.t 6) (.t 8))⟩,
   ⟨(some 4), none, .f (.mv (.t 9))⟩])
 .ret))
theorem ok42 : fnComp Try.prog 42 = some (10, c42, [(.mv (.t 4))]) := by kernel_rfl

def c43 : CC :=
 (.seq (.reg [
   ⟨(some 1), none, .x (.box 44 11 (.t 0))⟩,
   ⟨(some 2), none, .f (.mv (.c (.bool false)))⟩])
 (.seq (.reg [
   ⟨(some 3), none, .f (.fadr 0 (.t 1))⟩,
   ⟨(some 4), none, .f (.ld (.t 3))⟩,
   ⟨(some 5), none, .f (.bin .geq (.t 4) (.c (.int .i64 0)))⟩,
   ⟨(some 6), none, .f (.mv (.t 5))⟩,
   ⟨(some 7), (some (6, true)), .f (.fadr 0 (.t 1))⟩,
   ⟨(some 8), (some (6, true)), .f (.ld (.t 7))⟩,
   ⟨(some 9), (some (6, true)), .f (.bin .leq (.t 8) (.c (.int .i64 255)))⟩,
   ⟨(some 10), none, .f (.pick (.t 6) (.t 9) (.c (.bool false)))⟩,
   ⟨(some 11), none, .f (.mv (.t 10))⟩,
   ⟨(some 12), (some (11, true)), .f (.fadr 5 (.t 1))⟩,
   ⟨(some 13), (some (11, true)), .f (.ld (.t 12))⟩,
   ⟨(some 14), (some (11, true)), .f (.bin .geq (.t 13) (.c (.int .i64 0)))⟩,
   ⟨(some 15), none, .f (.pick (.t 11) (.t 14) (.c (.bool false)))⟩,
   ⟨(some 16), none, .f (.mv (.t 15))⟩,
   ⟨(some 17), (some (16, true)), .f (.fadr 5 (.t 1))⟩,
   ⟨(some 18), (some (16, true)), .f (.ld (.t 17))⟩,
   ⟨(some 19), (some (16, true)), .f (.bin .leq (.t 18) (.c (.int .i64 255)))⟩,
   ⟨(some 20), none, .f (.pick (.t 16) (.t 19) (.c (.bool false)))⟩,
   ⟨(some 21), none, .f (.mv (.t 20))⟩,
   ⟨(some 22), (some (21, true)), .f (.fadr 6 (.t 1))⟩,
   ⟨(some 23), (some (21, true)), .f (.ld (.t 22))⟩,
   ⟨(some 24), (some (21, true)), .f (.bin .geq (.t 23) (.c (.int .i64 0)))⟩,
   ⟨(some 25), none, .f (.pick (.t 21) (.t 24) (.c (.bool false)))⟩,
   ⟨(some 26), none, .f (.mv (.t 25))⟩,
   ⟨(some 27), (some (26, true)), .f (.fadr 6 (.t 1))⟩,
   ⟨(some 28), (some (26, true)), .f (.ld (.t 27))⟩,
   ⟨(some 29), (some (26, true)), .f (.bin .leq (.t 28) (.c (.int .i64 255)))⟩,
   ⟨(some 30), none, .f (.pick (.t 26) (.t 29) (.c (.bool false)))⟩,
   ⟨(some 31), none, .f (.mv (.t 30))⟩,
   ⟨(some 32), (some (31, true)), .f (.fadr 1 (.t 1))⟩,
   ⟨(some 33), (some (31, true)), .f (.ld (.t 32))⟩,
   ⟨(some 34), (some (31, true)), .f (.bin .geq (.t 33) (.c (.int .i64 0)))⟩,
   ⟨(some 35), none, .f (.pick (.t 31) (.t 34) (.c (.bool false)))⟩,
   ⟨(some 36), none, .f (.mv (.t 35))⟩,
   ⟨(some 37), (some (36, true)), .f (.fadr 1 (.t 1))⟩,
   ⟨(some 38), (some (36, true)), .f (.ld (.t 37))⟩,
   ⟨(some 39), (some (36, true)), .f (.bin .leq (.t 38) (.c (.int .i64 65535)))⟩,
   ⟨(some 40), none, .f (.pick (.t 36) (.t 39) (.c (.bool false)))⟩,
   ⟨(some 41), none, .f (.mv (.t 40))⟩,
   ⟨(some 42), (some (41, true)), .f (.fadr 4 (.t 1))⟩,
   ⟨(some 43), (some (41, true)), .f (.ld (.t 42))⟩,
   ⟨(some 44), (some (41, true)), .f (.bin .geq (.t 43) (.c (.int .i64 0)))⟩,
   ⟨(some 45), none, .f (.pick (.t 41) (.t 44) (.c (.bool false)))⟩,
   ⟨(some 46), none, .f (.mv (.t 45))⟩,
   ⟨(some 47), (some (46, true)), .f (.fadr 4 (.t 1))⟩,
   ⟨(some 48), (some (46, true)), .f (.ld (.t 47))⟩,
   ⟨(some 49), (some (46, true)), .f (.bin .leq (.t 48) (.c (.int .i64 65528)))⟩,
   ⟨(some 50), none, .f (.pick (.t 46) (.t 49) (.c (.bool false)))⟩,
   ⟨(some 51), none, .f (.mv (.t 50))⟩,
   ⟨(some 52), (some (51, true)), .f (.fadr 4 (.t 1))⟩,
   ⟨(some 53), (some (51, true)), .f (.ld (.t 52))⟩,
   ⟨(some 54), (some (51, true)), .f (.bin .rem (.t 53) (.c (.int .i64 8)))⟩,
   ⟨(some 55), (some (51, true)), .f (.bin .eql (.t 54) (.c (.int .i64 0)))⟩,
   ⟨(some 56), none, .f (.pick (.t 51) (.t 55) (.c (.bool false)))⟩,
   ⟨(some 57), none, .f (.mv (.t 56))⟩,
   ⟨(some 58), (some (57, true)), .f (.fadr 7 (.t 1))⟩,
   ⟨(some 59), (some (57, true)), .f (.ld (.t 58))⟩,
   ⟨(some 60), (some (57, true)), .x (.call 60 [(.t 59)])⟩,
   ⟨(some 61), none, .f (.pick (.t 57) (.t 60) (.c (.bool false)))⟩,
   ⟨(some 62), none, .f (.mv (.t 61))⟩,
   ⟨(some 63), (some (62, true)), .f (.fadr 8 (.t 1))⟩,
   ⟨(some 64), (some (62, true)), .f (.ld (.t 63))⟩,
   ⟨(some 65), (some (62, true)), .x (.call 60 [(.t 64)])⟩,
   ⟨(some 66), none, .f (.pick (.t 62) (.t 65) (.c (.bool false)))⟩,
   ⟨(some 67), none, .f (.mv (.t 66))⟩,
   ⟨(some 68), (some (67, true)), .f (.fadr 9 (.t 1))⟩,
   ⟨(some 69), (some (67, true)), .f (.ld (.t 68))⟩,
   ⟨(some 70), (some (67, true)), .f (.len (.t 69))⟩,
   ⟨(some 71), (some (67, true)), .f (.bin .leq (.t 70) (.c (.int .i64 40)))⟩,
   ⟨(some 72), none, .f (.pick (.t 67) (.t 71) (.c (.bool false)))⟩,
   ⟨(some 73), none, .f (.mv (.t 72))⟩,
   ⟨(some 74), (some (73, true)), .f (.fadr 9 (.t 1))⟩,
   ⟨(some 75), (some (73, true)), .f (.ld (.t 74))⟩,
   ⟨(some 76), (some (73, true)), .f (.len (.t 75))⟩,
   ⟨(some 77), (some (73, true)), .f (.bin .rem (.t 76) (.c (.int .i64 4)))⟩,
   ⟨(some 78), (some (73, true)), .f (.bin .eql (.t 77) (.c (.int .i64 0)))⟩,
   ⟨(some 79), none, .f (.pick (.t 73) (.t 78) (.c (.bool false)))⟩,
   ⟨(some 2), none, .f (.mv (.t 79))⟩])
 .ret))
theorem ok43 : fnComp Try.prog 43 = some (80, c43, [(.mv (.t 2))]) := by kernel_rfl

def c44 : CC :=
 (.seq (.reg [
   ⟨(some 1), none, .x (.box 44 11 (.t 0))⟩,
   ⟨(some 2), none, .f (.mv (.c (.bool false)))⟩])
 (.seq (.reg [
   ⟨(some 3), none, .f (.fadr 0 (.t 1))⟩,
   ⟨(some 4), none, .f (.ld (.t 3))⟩,
   ⟨(some 5), none, .x (.call 61 [(.t 4), (.c (.int .i64 0)), (.c (.int .i64 255))])⟩,
   ⟨(some 6), none, .f (.mv (.t 5))⟩,
   ⟨(some 7), (some (6, true)), .f (.fadr 5 (.t 1))⟩,
   ⟨(some 8), (some (6, true)), .f (.ld (.t 7))⟩,
   ⟨(some 9), (some (6, true)), .x (.call 61 [(.t 8), (.c (.int .i64 0)), (.c (.int .i64 255))])⟩,
   ⟨(some 10), none, .f (.pick (.t 6) (.t 9) (.c (.bool false)))⟩,
   ⟨(some 11), none, .f (.mv (.t 10))⟩,
   ⟨(some 12), (some (11, true)), .f (.fadr 6 (.t 1))⟩,
   ⟨(some 13), (some (11, true)), .f (.ld (.t 12))⟩,
   ⟨(some 14), (some (11, true)), .x (.call 61 [(.t 13), (.c (.int .i64 0)), (.c (.int .i64 255))])⟩,
   ⟨(some 15), none, .f (.pick (.t 11) (.t 14) (.c (.bool false)))⟩,
   ⟨(some 16), none, .f (.mv (.t 15))⟩,
   ⟨(some 17), (some (16, true)), .f (.fadr 1 (.t 1))⟩,
   ⟨(some 18), (some (16, true)), .f (.ld (.t 17))⟩,
   ⟨(some 19), (some (16, true)), .x (.call 61 [(.t 18), (.c (.int .i64 0)), (.c (.int .i64 65535))])⟩,
   ⟨(some 20), none, .f (.pick (.t 16) (.t 19) (.c (.bool false)))⟩,
   ⟨(some 21), none, .f (.mv (.t 20))⟩,
   ⟨(some 22), (some (21, true)), .f (.fadr 4 (.t 1))⟩,
   ⟨(some 23), (some (21, true)), .f (.ld (.t 22))⟩,
   ⟨(some 24), (some (21, true)), .x (.call 61 [(.t 23), (.c (.int .i64 0)), (.c (.int .i64 65528))])⟩,
   ⟨(some 25), none, .f (.pick (.t 21) (.t 24) (.c (.bool false)))⟩,
   ⟨(some 26), none, .f (.mv (.t 25))⟩,
   ⟨(some 27), (some (26, true)), .f (.fadr 4 (.t 1))⟩,
   ⟨(some 28), (some (26, true)), .f (.ld (.t 27))⟩,
   ⟨(some 29), (some (26, true)), .f (.bin .rem (.t 28) (.c (.int .i64 8)))⟩,
   ⟨(some 30), (some (26, true)), .f (.bin .eql (.t 29) (.c (.int .i64 0)))⟩,
   ⟨(some 31), none, .f (.pick (.t 26) (.t 30) (.c (.bool false)))⟩,
   ⟨(some 32), none, .f (.mv (.t 31))⟩,
   ⟨(some 33), (some (32, true)), .f (.fadr 7 (.t 1))⟩,
   ⟨(some 34), (some (32, true)), .f (.ld (.t 33))⟩,
   ⟨(some 35), (some (32, true)), .x (.call 62 [(.t 34)])⟩,
   ⟨(some 36), none, .f (.pick (.t 32) (.t 35) (.c (.bool false)))⟩,
   ⟨(some 37), none, .f (.mv (.t 36))⟩,
   ⟨(some 38), (some (37, true)), .f (.fadr 8 (.t 1))⟩,
   ⟨(some 39), (some (37, true)), .f (.ld (.t 38))⟩,
   ⟨(some 40), (some (37, true)), .x (.call 62 [(.t 39)])⟩,
   ⟨(some 41), none, .f (.pick (.t 37) (.t 40) (.c (.bool false)))⟩,
   ⟨(some 42), none, .f (.mv (.t 41))⟩,
   ⟨(some 43), (some (42, true)), .f (.fadr 9 (.t 1))⟩,
   ⟨(some 44), (some (42, true)), .f (.ld (.t 43))⟩,
   ⟨(some 45), (some (42, true)), .f (.len (.t 44))⟩,
   ⟨(some 46), (some (42, true)), .f (.bin .leq (.t 45) (.c (.int .i64 40)))⟩,
   ⟨(some 47), none, .f (.pick (.t 42) (.t 46) (.c (.bool false)))⟩,
   ⟨(some 48), none, .f (.mv (.t 47))⟩,
   ⟨(some 49), (some (48, true)), .f (.fadr 9 (.t 1))⟩,
   ⟨(some 50), (some (48, true)), .f (.ld (.t 49))⟩,
   ⟨(some 51), (some (48, true)), .f (.len (.t 50))⟩,
   ⟨(some 52), (some (48, true)), .f (.bin .rem (.t 51) (.c (.int .i64 4)))⟩,
   ⟨(some 53), (some (48, true)), .f (.bin .eql (.t 52) (.c (.int .i64 0)))⟩,
   ⟨(some 54), none, .f (.pick (.t 48) (.t 53) (.c (.bool false)))⟩,
   ⟨(some 2), none, .f (.mv (.t 54))⟩])
 .ret))
theorem ok44 : fnComp Try.prog 44 = some (55, c44, [(.mv (.t 2))]) := by kernel_rfl

def c46 : CC :=
 (.seq (.reg [
   ⟨(some 4), none, .f (.mv (.c .nilslice))⟩])
 (.seq (.reg [
   ⟨(some 7), none, .f (.mv (.t 0))⟩,
   ⟨(some 8), none, .x (.call 64 [(.t 7)])⟩,
   ⟨(some 5), none, .f (.mv (.t 8))⟩])
 (.seq (.seq (.reg [
   ⟨(some 6), none, .f (.mv (.c (.int .i64 0)))⟩])
 (.block 0 (.loop (.seq (.seq (.reg [
     ⟨(some 9), none, .f (.mv (.t 6))⟩,
     ⟨(some 10), none, .f (.mv (.t 1))⟩,
     ⟨(some 11), none, .f (.len (.t 10))⟩,
     ⟨(some 12), none, .f (.bin .lss (.t 9) (.t 11))⟩])
   (.cond (.t 12)
    .skip
    (.exit 0)))
   (.seq (.block 1 (.reg [
      ⟨(some 15), none, .f (.mv (.t 5))⟩,
      ⟨(some 16), none, .f (.mv (.t 1))⟩,
      ⟨(some 17), none, .f (.mv (.t 6))⟩,
      ⟨(some 18), none, .f (.iadr 1 (.t 16) (.t 17))⟩,
      ⟨(some 19), none, .f (.ld (.t 18))⟩,
      ⟨(some 20), none, .x (.bslice 5 1 [(.int .u8 0)] 1 [(0, (.t 19))])⟩,
      ⟨(some 21), none, .x (.app 5 1 1 (.t 15) (.t 20))⟩,
      ⟨(some 5), none, .f (.mv (.t 21))⟩]))
   (.reg [
     ⟨(some 13), none, .f (.mv (.t 6))⟩,
     ⟨(some 14), none, .f (.bin .add (.t 13) (.c (.int .i64 1)))⟩,
     ⟨(some 6), none, .f (.mv (.t 14))⟩]))))))
 (.seq (.reg [
   ⟨(some 22), none, .f (.mv (.t 5))⟩,
   ⟨(some 4), none, .f (.mv (.t 22))⟩])
 .ret))))
theorem ok46 : fnComp Try.prog 46 = some (23, c46, [(.mv (.t 4))]) := by kernel_rfl

def c47 : CC :=
 (.seq (.reg [
   ⟨(some 1), none, .x (.box 44 11 (.t 0))⟩,
   ⟨(some 2), none, .f (.mv (.c .nilslice))⟩])
 (.seq (.reg [
   ⟨(some 6), none, .f (.fadr 9 (.t 1))⟩,
   ⟨(some 7), none, .f (.ld (.t 6))⟩,
   ⟨(some 8), none, .f (.len (.t 7))⟩,
   ⟨(some 9), none, .f (.bin .add (.c (.int .i64 20)) (.t 8))⟩,
   ⟨(some 3), none, .f (.mv (.t 9))⟩])
 (.seq (.reg [
   ⟨(some 10), none, .f (.mv (.t 3))⟩,
   ⟨(some 11), none, .f (.bin .quo (.t 10) (.c (.int .i64 4)))⟩,
   ⟨(some 12), none, .f (.bin .add (.c (.int .i64 64)) (.t 11))⟩,
   ⟨(some 13), none, .f (.cvI .u8 (.t 12))⟩,
   ⟨(some 14), none, .f (.fadr 0 (.t 1))⟩,
   ⟨(some 15), none, .f (.ld (.t 14))⟩,
   ⟨(some 16), none, .f (.cvI .u8 (.t 15))⟩,
   ⟨(some 17), none, .x (.bslice 5 1 [(.int .u8 0)] 2 [(0, (.t 13)), (1, (.t 16))])⟩,
   ⟨(some 4), none, .f (.mv (.t 17))⟩])
 (.seq (.reg [
   ⟨(some 18), none, .f (.mv (.t 4))⟩,
   ⟨(some 19), none, .f (.mv (.t 3))⟩,
   ⟨(some 20), none, .f (.fadr 10 (.t 1))⟩,
   ⟨(some 21), none, .f (.ld (.t 20))⟩,
   ⟨(some 22), none, .f (.len (.t 21))⟩,
   ⟨(some 23), none, .f (.bin .add (.t 19) (.t 22))⟩,
   ⟨(some 24), none, .x (.call 65 [(.t 23), (.c (.int .i64 2))])⟩,
   ⟨(some 25), none, .x (.call 46 [(.t 18), (.t 24)])⟩,
   ⟨(some 4), none, .f (.mv (.t 25))⟩])
 (.seq (.reg [
   ⟨(some 26), none, .f (.mv (.t 4))⟩,
   ⟨(some 27), none, .f (.fadr 1 (.t 1))⟩,
   ⟨(some 28), none, .f (.ld (.t 27))⟩,
   ⟨(some 29), none, .x (.call 65 [(.t 28), (.c (.int .i64 2))])⟩,
   ⟨(some 30), none, .x (.call 46 [(.t 26), (.t 29)])⟩,
   ⟨(some 4), none, .f (.mv (.t 30))⟩])
 (.seq (.dreg [
   ⟨(some 31), none, .f (.mv (.t 4))⟩,
   ⟨(some 32), none, .f (.fadr 2 (.t 1))⟩,
   ⟨(some 33), none, .f (.ld (.t 32))⟩,
   ⟨(some 34), none, .x (.call 66 [(.t 33), (.c (.int .i64 16384))])⟩,
   ⟨(some 35), none, .f (.fadr 3 (.t 1))⟩,
   ⟨(some 36), none, .f (.ld (.t 35))⟩,
   ⟨(some 37), none, .x (.call 66 [(.t 36), (.c (.int .i64 8192))])⟩,
   ⟨(some 38), none, .f (.bin .add (.t 34) (.t 37))⟩,
   ⟨(some 39), none, .f (.fadr 4 (.t 1))⟩,
   ⟨(some 40), none, .f (.ld (.t 39))⟩,
   ⟨(some 41), none, .f (.bin .quo (.t 40) (.c (.int .i64 8)))⟩,
   ⟨(some 42), none, .f (.bin .add (.t 38) (.t 41))⟩,
   ⟨(some 43), none, .x (.call 65 [(.t 42), (.c (.int .i64 2))])⟩,
   ⟨(some 44), none, .x (.call 46 [(.t 31), (.t 43)])⟩,
   ⟨(some 4), none, .f (.mv (.t 44))⟩]
   [false, false, false, true, false, false, true, false, false, false, false, false, true, true, true] [[], [], [1], [2, 1], [], [4], [5, 4, 3, 2, 1], [3, 2, 1, 6, 5, 4], [], [8], [9, 8], [7, 3, 2, 1, 6, 5, 4, 10, 9, 8], [11, 7, 3, 2, 1, 6, 5, 4, 10, 9, 8], [0, 12, 11, 7, 3, 2, 1, 6, 5, 4, 10, 9, 8], [13, 0, 12, 11, 7, 3, 2, 1, 6, 5, 4, 10, 9, 8]] [0, 1, 2, 4, 5, 8, 9, 10, 3, 6, 7, 11, 12, 13, 14])
 (.seq (.reg [
   ⟨(some 45), none, .f (.mv (.t 4))⟩,
   ⟨(some 46), none, .f (.fadr 5 (.t 1))⟩,
   ⟨(some 47), none, .f (.ld (.t 46))⟩,
   ⟨(some 48), none, .f (.cvI .u8 (.t 47))⟩,
   ⟨(some 49), none, .f (.fadr 6 (.t 1))⟩,
   ⟨(some 50), none, .f (.ld (.t 49))⟩,
   ⟨(some 51), none, .f (.cvI .u8 (.t 50))⟩,
   ⟨(some 52), none, .x (.bslice 5 1 [(.int .u8 0)] 4 [(0, (.t 48)), (1, (.t 51)), (2, (.c (.int .u8 0))), (3, (.c (.int .u8 0)))])⟩,
   ⟨(some 53), none, .x (.call 46 [(.t 45), (.t 52)])⟩,
   ⟨(some 4), none, .f (.mv (.t 53))⟩])
 (.seq (.dreg [
   ⟨(some 54), none, .f (.mv (.t 4))⟩,
   ⟨(some 55), none, .f (.fadr 7 (.t 1))⟩,
   ⟨(some 56), none, .f (.ld (.t 55))⟩,
   ⟨(some 57), none, .x (.call 65 [(.t 56), (.c (.int .i64 4))])⟩,
   ⟨(some 58), none, .x (.call 46 [(.t 54), (.t 57)])⟩,
   ⟨(some 59), none, .f (.fadr 8 (.t 1))⟩,
   ⟨(some 60), none, .f (.ld (.t 59))⟩,
   ⟨(some 61), none, .x (.call 65 [(.t 60), (.c (.int .i64 4))])⟩,
   ⟨(some 62), none, .x (.call 46 [(.t 58), (.t 61)])⟩,
   ⟨(some 4), none, .f (.mv (.t 62))⟩]
   [false, false, false, true, true, false, false, true, true, true] [[], [], [1], [2, 1], [0, 3, 2, 1], [], [5], [6, 5, 4, 0, 3, 2, 1], [4, 0, 3, 2, 1, 7, 6, 5], [8, 4, 0, 3, 2, 1, 7, 6, 5]] [0, 1, 2, 5, 6, 3, 4, 7, 8, 9])
 (.seq (.reg [
   ⟨(some 63), none, .f (.mv (.t 4))⟩,
   ⟨(some 64), none, .f (.fadr 9 (.t 1))⟩,
   ⟨(some 65), none, .f (.ld (.t 64))⟩,
   ⟨(some 66), none, .x (.call 46 [(.t 63), (.t 65)])⟩,
   ⟨(some 4), none, .f (.mv (.t 66))⟩])
 (.seq (.reg [
   ⟨(some 67), none, .f (.mv (.t 4))⟩,
   ⟨(some 68), none, .x (.call 67 [(.t 67)])⟩,
   ⟨(some 5), none, .f (.mv (.t 68))⟩])
 (.seq (.reg [
   ⟨(some 69), none, .f (.mv (.t 4))⟩,
   ⟨(some 70), none, .f (.mv (.t 5))⟩,
   ⟨(some 71), none, .f (.bin .shr (.t 70) (.c (.int .u64 8)))⟩,
   ⟨(some 72), none, .f (.cvI .u8 (.t 71))⟩,
   ⟨(some 73), none, .f (.iadr 1 (.t 69) (.c (.int .i64 10)))⟩,
   ⟨none, none, .x (.st 1 (.t 73) (.t 72))⟩])
 (.seq (.reg [
   ⟨(some 74), none, .f (.mv (.t 4))⟩,
   ⟨(some 75), none, .f (.mv (.t 5))⟩,
   ⟨(some 76), none, .f (.cvI .u8 (.t 75))⟩,
   ⟨(some 77), none, .f (.iadr 1 (.t 74) (.c (.int .i64 11)))⟩,
   ⟨none, none, .x (.st 1 (.t 77) (.t 76))⟩])
 (.seq (.reg [
   ⟨(some 78), none, .f (.mv (.t 4))⟩,
   ⟨(some 2), none, .f (.mv (.t 78))⟩])
 .ret)))))))))))))
theorem ok47 : fnComp Try.prog 47 = some (79, c47, [(.mv (.t 2))]) := by kernel_rfl

def c48 : CC :=
 (.seq (.reg [
   ⟨(some 1), none, .x (.box 44 11 (.t 0))⟩,
   ⟨(some 2), none, .x (.zero 44 11 [(.int .i64 0), (.int .i64 0), (.bool false), (.bool false), (.int .i64 0), (.int .i64 0), (.int .i64 0), (.int .i64 0), (.int .i64 0), .nilslice, .nilslice])⟩])
 (.seq (.reg [
   ⟨(some 3), none, .f (.fadr 9 (.t 1))⟩,
   ⟨(some 4), none, .f (.ld (.t 3))⟩,
   ⟨(some 5), none, .x (.call 64 [(.t 4)])⟩,
   ⟨(some 6), none, .f (.fadr 9 (.t 1))⟩,
   ⟨none, none, .x (.st 1 (.t 6) (.t 5))⟩])
 (.seq (.reg [
   ⟨(some 7), none, .f (.fadr 10 (.t 1))⟩,
   ⟨(some 8), none, .f (.ld (.t 7))⟩,
   ⟨(some 9), none, .x (.call 64 [(.t 8)])⟩,
   ⟨(some 10), none, .f (.fadr 10 (.t 1))⟩,
   ⟨none, none, .x (.st 1 (.t 10) (.t 9))⟩])
 (.seq (.reg [
   ⟨(some 11), none, .f (.ldA 11 (.t 1))⟩,
   ⟨none, none, .x (.st 11 (.t 2) (.t 11))⟩])
 .ret))))
theorem ok48 : fnComp Try.prog 48 = some (12, c48, [(.ldA 11 (.t 2))]) := by kernel_rfl

def c49 : CC :=
 (.seq (.reg [
   ⟨(some 3), none, .x (.box 44 11 (.t 1))⟩,
   ⟨(some 4), none, .f (.mv (.c (.int .i64 0)))⟩])
 (.seq (.seq (.reg [
   ⟨(some 5), none, .f (.mv (.c (.int .i64 0)))⟩])
 (.block 0 (.loop (.seq (.seq (.reg [
     ⟨(some 7), none, .f (.mv (.t 5))⟩,
     ⟨(some 8), none, .f (.mv (.t 0))⟩,
     ⟨(some 9), none, .f (.nck (.t 8))⟩,
     ⟨(some 10), none, .f (.fadr 1 (.t 9))⟩,
     ⟨(some 11), none, .f (.ld (.t 10))⟩,
     ⟨(some 12), none, .f (.len (.t 11))⟩,
     ⟨(some 13), none, .f (.bin .lss (.t 7) (.t 12))⟩])
   (.cond (.t 13)
    .skip
    (.exit 0)))
   (.seq (.block 1 (.seq (.reg [
      ⟨(some 16), none, .f (.mv (.t 0))⟩,
      ⟨(some 17), none, .f (.nck (.t 16))⟩,
      ⟨(some 18), none, .f (.fadr 1 (.t 17))⟩,
      ⟨(some 19), none, .f (.ld (.t 18))⟩,
      ⟨(some 20), none, .f (.mv (.t 5))⟩,
      ⟨(some 21), none, .f (.iadr 20 (.t 19) (.t 20))⟩,
      ⟨(some 22), none, .f (.ldA 20 (.t 21))⟩,
      ⟨(some 6), none, .x (.zero 94 20 [(.int .i64 0), (.int .i64 0), (.int .i64 0), (.int .i64 0), (.int .i64 0), .nilslice, (.int .i64 0), (.bool false), (.bool false), (.int .i64 0), (.int .i64 0), (.bool false), (.bool false), (.int .i64 0), (.int .i64 0), (.int .i64 0), (.int .i64 0), (.int .i64 0), .nilslice, .nilslice])⟩,
      ⟨none, none, .x (.st 20 (.t 6) (.t 22))⟩])
    (.seq (.reg [
      ⟨(some 23), none, .f (.fadr 0 (.t 6))⟩,
      ⟨(some 24), none, .f (.ld (.t 23))⟩,
      ⟨(some 25), none, .f (.fadr 7 (.t 3))⟩,
      ⟨(some 26), none, .f (.ld (.t 25))⟩,
      ⟨(some 27), none, .f (.bin .eql (.t 24) (.t 26))⟩,
      ⟨(some 28), none, .f (.mv (.t 27))⟩,
      ⟨(some 29), (some (28, true)), .f (.fadr 1 (.t 6))⟩,
      ⟨(some 30), (some (28, true)), .f (.ld (.t 29))⟩,
      ⟨(some 31), (some (28, true)), .f (.fadr 8 (.t 3))⟩,
      ⟨(some 32), (some (28, true)), .f (.ld (.t 31))⟩,
      ⟨(some 33), (some (28, true)), .f (.bin .eql (.t 30) (.t 32))⟩,
      ⟨(some 34), none, .f (.pick (.t 28) (.t 33) (.c (.bool false)))⟩,
      ⟨(some 35), none, .f (.mv (.t 34))⟩,
      ⟨(some 36), (some (35, true)), .f (.fadr 2 (.t 6))⟩,
      ⟨(some 37), (some (35, true)), .f (.ld (.t 36))⟩,
      ⟨(some 38), (some (35, true)), .f (.fadr 6 (.t 3))⟩,
      ⟨(some 39), (some (35, true)), .f (.ld (.t 38))⟩,
      ⟨(some 40), (some (35, true)), .f (.bin .eql (.t 37) (.t 39))⟩,
      ⟨(some 41), none, .f (.pick (.t 35) (.t 40) (.c (.bool false)))⟩,
      ⟨(some 42), none, .f (.mv (.t 41))⟩,
      ⟨(some 43), (some (42, true)), .f (.fadr 3 (.t 6))⟩,
      ⟨(some 44), (some (42, true)), .f (.ld (.t 43))⟩,
      ⟨(some 45), (some (42, true)), .f (.fadr 1 (.t 3))⟩,
      ⟨(some 46), (some (42, true)), .f (.ld (.t 45))⟩,
      ⟨(some 47), (some (42, true)), .f (.bin .eql (.t 44) (.t 46))⟩,
      ⟨(some 48), none, .f (.pick (.t 42) (.t 47) (.c (.bool false)))⟩])
    (.cond (.t 48)
     (.seq (.reg [
       ⟨(some 49), none, .f (.mv (.t 5))⟩,
       ⟨(some 4), none, .f (.mv (.t 49))⟩])
     .ret)
     .skip))))
   (.reg [
     ⟨(some 14), none, .f (.mv (.t 5))⟩,
     ⟨(some 15), none, .f (.bin .add (.t 14) (.c (.int .i64 1)))⟩,
     ⟨(some 5), none, .f (.mv (.t 15))⟩]))))))
 (.seq (.reg [
   ⟨(some 4), none, .f (.mv (.c (.int .i64 (-1))))⟩])
 .ret)))
theorem ok49 : fnComp Try.prog 49 = some (50, c49, [(.mv (.t 4))]) := by kernel_rfl

def c50 : CC :=
 (.seq (.reg [
   ⟨(some 9), none, .f (.mv (.t 0))⟩,
   ⟨(some 10), none, .f (.nck (.t 9))⟩,
   ⟨(some 11), none, .f (.fadr 1 (.t 10))⟩,
   ⟨(some 12), none, .f (.ld (.t 11))⟩,
   ⟨(some 13), none, .f (.mv (.t 1))⟩,
   ⟨(some 14), none, .f (.iadr 20 (.t 12) (.t 13))⟩,
   ⟨(some 15), none, .f (.ldA 20 (.t 14))⟩,
   ⟨(some 6), none, .x (.zero 94 20 [(.int .i64 0), (.int .i64 0), (.int .i64 0), (.int .i64 0), (.int .i64 0), .nilslice, (.int .i64 0), (.bool false), (.bool false), (.int .i64 0), (.int .i64 0), (.bool false), (.bool false), (.int .i64 0), (.int .i64 0), (.int .i64 0), (.int .i64 0), (.int .i64 0), .nilslice, .nilslice])⟩,
   ⟨none, none, .x (.st 20 (.t 6) (.t 15))⟩])
 (.seq (.seq (.reg [
   ⟨(some 16), none, .f (.mv (.t 2))⟩,
   ⟨(some 17), none, .f (.mv (.t 16))⟩,
   ⟨(some 18), (some (17, true)), .f (.fadr 7 (.t 6))⟩,
   ⟨(some 19), (some (17, true)), .f (.ld (.t 18))⟩,
   ⟨(some 20), (some (17, true)), .f (.un .not (.t 19))⟩,
   ⟨(some 21), none, .f (.pick (.t 17) (.t 20) (.c (.bool false)))⟩])
 (.cond (.t 21)
  (.dreg [
    ⟨(some 22), none, .f (.mv (.t 0))⟩,
    ⟨(some 23), none, .f (.mv (.t 0))⟩,
    ⟨(some 24), none, .f (.nck (.t 23))⟩,
    ⟨(some 25), none, .f (.fadr 2 (.t 24))⟩,
    ⟨(some 26), none, .f (.fadr 13 (.t 25))⟩,
    ⟨(some 27), none, .f (.ld (.t 26))⟩,
    ⟨(some 28), none, .f (.fadr 0 (.t 6))⟩,
    ⟨(some 29), none, .f (.ld (.t 28))⟩,
    ⟨(some 30), none, .f (.fadr 1 (.t 6))⟩,
    ⟨(some 31), none, .f (.ld (.t 30))⟩,
    ⟨(some 32), none, .f (.fadr 2 (.t 6))⟩,
    ⟨(some 33), none, .f (.ld (.t 32))⟩,
    ⟨(some 34), none, .f (.fadr 3 (.t 6))⟩,
    ⟨(some 35), none, .f (.ld (.t 34))⟩,
    ⟨(some 36), none, .f (.fadr 8 (.t 6))⟩,
    ⟨(some 37), none, .f (.ld (.t 36))⟩,
    ⟨(some 38), none, .f (.build [(.int .i64 0), (.int .i64 0), (.int .i64 0), (.int .i64 0), (.bool false)] [(0, 1, (.t 29)), (1, 1, (.t 31)), (2, 1, (.t 33)), (3, 1, (.t 35)), (4, 1, (.t 37))])⟩,
    ⟨(some 39), none, .x (.bslice 113 5 [(.int .i64 0), (.int .i64 0), (.int .i64 0), (.int .i64 0), (.bool false)] 1 [(0, (.t 38))])⟩,
    ⟨(some 40), none, .x (.app 113 5 40 (.t 27) (.t 39))⟩,
    ⟨(some 41), none, .f (.nck (.t 22))⟩,
    ⟨(some 42), none, .f (.fadr 2 (.t 41))⟩,
    ⟨(some 43), none, .f (.fadr 13 (.t 42))⟩,
    ⟨none, none, .x (.st 1 (.t 43) (.t 40))⟩]
    [false, false, false, false, false, false, false, false, false, false, false, false, false, false, false, false, false, true, true, false, false, false, true] [[], [], [1], [2, 1], [3, 2, 1], [4, 3, 2, 1], [], [6], [], [8], [], [10], [], [12], [], [14], [7, 6, 9, 8, 11, 10, 13, 12, 15, 14], [16, 7, 6, 9, 8, 11, 10, 13, 12, 15, 14], [5, 4, 3, 2, 1, 17, 16, 7, 6, 9, 8, 11, 10, 13, 12, 15, 14], [0, 1, 2, 3, 4, 5, 6, 7, 8, 9, 10, 11, 12, 13, 14, 15, 16, 17, 18], [19, 0, 1, 2, 3, 4, 5, 6, 7, 8, 9, 10, 11, 12, 13, 14, 15, 16, 17, 18], [20, 19, 0, 1, 2, 3, 4, 5, 6, 7, 8, 9, 10, 11, 12, 13, 14, 15, 16, 17, 18], [21, 20, 19, 0, 1, 2, 3, 4, 5, 6, 7, 8, 9, 10, 11, 12, 13, 14, 15, 16, 17, 18]] [0, 1, 2, 3, 4, 5, 6, 7, 8, 9, 10, 11, 12, 13, 14, 15, 16, 17, 18, 19, 20, 21, 22])
  .skip))
 (.seq (.reg [
   ⟨(some 44), none, .x (.bslice 94 20 [(.int .i64 0), (.int .i64 0), (.int .i64 0), (.int .i64 0), (.int .i64 0), .nilslice, (.int .i64 0), (.bool false), (.bool false), (.int .i64 0), (.int .i64 0), (.bool false), (.bool false), (.int .i64 0), (.int .i64 0), (.int .i64 0), (.int .i64 0), (.int .i64 0), .nilslice, .nilslice] 0 [])⟩,
   ⟨(some 7), none, .f (.mv (.t 44))⟩])
 (.seq (.seq (.reg [
   ⟨(some 8), none, .f (.mv (.c (.int .i64 0)))⟩])
 (.block 0 (.loop (.seq (.seq (.reg [
     ⟨(some 45), none, .f (.mv (.t 8))⟩,
     ⟨(some 46), none, .f (.mv (.t 0))⟩,
     ⟨(some 47), none, .f (.nck (.t 46))⟩,
     ⟨(some 48), none, .f (.fadr 1 (.t 47))⟩,
     ⟨(some 49), none, .f (.ld (.t 48))⟩,
     ⟨(some 50), none, .f (.len (.t 49))⟩,
     ⟨(some 51), none, .f (.bin .lss (.t 45) (.t 50))⟩])
   (.cond (.t 51)
    .skip
    (.exit 0)))
   (.seq (.block 1 (.seq (.reg [
      ⟨(some 54), none, .f (.mv (.t 8))⟩,
      ⟨(some 55), none, .f (.mv (.t 1))⟩,
      ⟨(some 56), none, .f (.bin .neq (.t 54) (.t 55))⟩])
    (.cond (.t 56)
     (.reg [
       ⟨(some 57), none, .f (.mv (.t 7))⟩,
       ⟨(some 58), none, .f (.mv (.t 0))⟩,
       ⟨(some 59), none, .f (.nck (.t 58))⟩,
       ⟨(some 60), none, .f (.fadr 1 (.t 59))⟩,
       ⟨(some 61), none, .f (.ld (.t 60))⟩,
       ⟨(some 62), none, .f (.mv (.t 8))⟩,
       ⟨(some 63), none, .f (.iadr 20 (.t 61) (.t 62))⟩,
       ⟨(some 64), none, .f (.ldA 20 (.t 63))⟩,
       ⟨(some 65), none, .x (.bslice 94 20 [(.int .i64 0), (.int .i64 0), (.int .i64 0), (.int .i64 0), (.int .i64 0), .nilslice, (.int .i64 0), (.bool false), (.bool false), (.int .i64 0), (.int .i64 0), (.bool false), (.bool false), (.int .i64 0), (.int .i64 0), (.int .i64 0), (.int .i64 0), (.int .i64 0), .nilslice, .nilslice] 1 [(0, (.t 64))])⟩,
       ⟨(some 66), none, .x (.app 94 20 192 (.t 57) (.t 65))⟩,
       ⟨(some 7), none, .f (.mv (.t 66))⟩])
     .skip)))
   (.reg [
     ⟨(some 52), none, .f (.mv (.t 8))⟩,
     ⟨(some 53), none, .f (.bin .add (.t 52) (.c (.int .i64 1)))⟩,
     ⟨(some 8), none, .f (.mv (.t 53))⟩]))))))
 (.reg [
   ⟨(some 67), none, .f (.mv (.t 0))⟩,
   ⟨(some 68), none, .f (.mv (.t 7))⟩,
   ⟨(some 69), none, .f (.nck (.t 67))⟩,
   ⟨(some 70), none, .f (.fadr 1 (.t 69))⟩,
   ⟨none, none, .x (.st 1 (.t 70) (.t 68))⟩])))))
theorem ok50 : fnComp Try.prog 50 = some (71, c50, []) := by kernel_rfl

def c51 : CC :=
 (.seq (.reg [
   ⟨(some 2), none, .x (.box 94 20 (.t 0))⟩,
   ⟨(some 3), none, .x (.box 44 11 (.t 1))⟩,
   ⟨(some 4), none, .x (.zero 94 20 [(.int .i64 0), (.int .i64 0), (.int .i64 0), (.int .i64 0), (.int .i64 0), .nilslice, (.int .i64 0), (.bool false), (.bool false), (.int .i64 0), (.int .i64 0), (.bool false), (.bool false), (.int .i64 0), (.int .i64 0), (.int .i64 0), (.int .i64 0), (.int .i64 0), .nilslice, .nilslice])⟩])
 (.seq (.reg [
   ⟨(some 11), none, .f (.fadr 4 (.t 3))⟩,
   ⟨(some 12), none, .f (.ld (.t 11))⟩,
   ⟨(some 13), none, .f (.fadr 10 (.t 3))⟩,
   ⟨(some 14), none, .f (.ld (.t 13))⟩,
   ⟨(some 15), none, .f (.len (.t 14))⟩,
   ⟨(some 16), none, .f (.bin .add (.t 12) (.t 15))⟩,
   ⟨(some 5), none, .f (.mv (.t 16))⟩])
 (.seq (.reg [
   ⟨(some 6), none, .f (.mv (.c (.bool false)))⟩])
 (.seq (.seq (.reg [
   ⟨(some 7), none, .f (.mv (.c (.int .i64 0)))⟩])
 (.block 0 (.loop (.seq (.seq (.reg [
     ⟨(some 17), none, .f (.mv (.t 7))⟩,
     ⟨(some 18), none, .f (.fadr 5 (.t 2))⟩,
     ⟨(some 19), none, .f (.ld (.t 18))⟩,
     ⟨(some 20), none, .f (.len (.t 19))⟩,
     ⟨(some 21), none, .f (.bin .lss (.t 17) (.t 20))⟩])
   (.cond (.t 21)
    .skip
    (.exit 0)))
   (.seq (.block 1 (.seq (.reg [
      ⟨(some 24), none, .f (.fadr 5 (.t 2))⟩,
      ⟨(some 25), none, .f (.ld (.t 24))⟩,
      ⟨(some 26), none, .f (.mv (.t 7))⟩,
      ⟨(some 27), none, .f (.iadr 2 (.t 25) (.t 26))⟩,
      ⟨(some 28), none, .f (.ldA 2 (.t 27))⟩,
      ⟨(some 8), none, .x (.zero 99 2 [(.int .i64 0), .nilslice])⟩,
      ⟨none, none, .x (.st 2 (.t 8) (.t 28))⟩])
    (.seq (.reg [
      ⟨(some 29), none, .f (.fadr 0 (.t 8))⟩,
      ⟨(some 30), none, .f (.ld (.t 29))⟩,
      ⟨(some 31), none, .f (.fadr 1 (.t 8))⟩,
      ⟨(some 32), none, .f (.ld (.t 31))⟩,
      ⟨(some 33), none, .f (.len (.t 32))⟩,
      ⟨(some 34), none, .f (.bin .add (.t 30) (.t 33))⟩,
      ⟨(some 9), none, .f (.mv (.t 34))⟩])
    (.seq (.reg [
      ⟨(some 35), none, .f (.fadr 0 (.t 8))⟩,
      ⟨(some 36), none, .f (.ld (.t 35))⟩,
      ⟨(some 37), none, .f (.fadr 4 (.t 3))⟩,
      ⟨(some 38), none, .f (.ld (.t 37))⟩,
      ⟨(some 39), none, .f (.bin .eql (.t 36) (.t 38))⟩,
      ⟨(some 40), none, .f (.mv (.t 39))⟩,
      ⟨(some 41), (some (40, true)), .f (.fadr 1 (.t 8))⟩,
      ⟨(some 42), (some (40, true)), .f (.ld (.t 41))⟩,
      ⟨(some 43), (some (40, true)), .f (.fadr 10 (.t 3))⟩,
      ⟨(some 44), (some (40, true)), .f (.ld (.t 43))⟩,
      ⟨(some 45), (some (40, true)), .x (.call 68 [(.t 42), (.t 44)])⟩,
      ⟨(some 46), none, .f (.pick (.t 40) (.t 45) (.c (.bool false)))⟩])
    (.cond (.t 46)
     (.reg [
       ⟨(some 6), none, .f (.mv (.c (.bool true)))⟩])
     (.seq (.reg [
       ⟨(some 47), none, .f (.fadr 0 (.t 8))⟩,
       ⟨(some 48), none, .f (.ld (.t 47))⟩,
       ⟨(some 49), none, .f (.mv (.t 5))⟩,
       ⟨(some 50), none, .f (.bin .lss (.t 48) (.t 49))⟩,
       ⟨(some 51), none, .f (.mv (.t 50))⟩,
       ⟨(some 52), (some (51, true)), .f (.fadr 4 (.t 3))⟩,
       ⟨(some 53), (some (51, true)), .f (.ld (.t 52))⟩,
       ⟨(some 54), (some (51, true)), .f (.mv (.t 9))⟩,
       ⟨(some 55), (some (51, true)), .f (.bin .lss (.t 53) (.t 54))⟩,
       ⟨(some 56), none, .f (.pick (.t 51) (.t 55) (.c (.bool false)))⟩])
     (.cond (.t 56)
      (.reg [
        ⟨(some 57), none, .f (.fadr 7 (.t 2))⟩,
        ⟨none, none, .x (.st 1 (.t 57) (.c (.bool true)))⟩])
      .skip)))))))
   (.reg [
     ⟨(some 22), none, .f (.mv (.t 7))⟩,
     ⟨(some 23), none, .f (.bin .add (.t 22) (.c (.int .i64 1)))⟩,
     ⟨(some 7), none, .f (.mv (.t 23))⟩]))))))
 (.seq (.seq (.reg [
   ⟨(some 58), none, .f (.fadr 3 (.t 3))⟩,
   ⟨(some 59), none, .f (.ld (.t 58))⟩,
   ⟨(some 60), none, .f (.un .not (.t 59))⟩,
   ⟨(some 61), none, .f (.mv (.t 60))⟩,
   ⟨(some 62), (some (61, true)), .f (.fadr 6 (.t 2))⟩,
   ⟨(some 63), (some (61, true)), .f (.ld (.t 62))⟩,
   ⟨(some 64), (some (61, true)), .f (.bin .geq (.t 63) (.c (.int .i64 0)))⟩,
   ⟨(some 65), none, .f (.pick (.t 61) (.t 64) (.c (.bool false)))⟩,
   ⟨(some 66), none, .f (.mv (.t 65))⟩,
   ⟨(some 67), (some (66, true)), .f (.fadr 6 (.t 2))⟩,
   ⟨(some 68), (some (66, true)), .f (.ld (.t 67))⟩,
   ⟨(some 69), (some (66, true)), .f (.mv (.t 5))⟩,
   ⟨(some 70), (some (66, true)), .f (.bin .neq (.t 68) (.t 69))⟩,
   ⟨(some 71), none, .f (.pick (.t 66) (.t 70) (.c (.bool false)))⟩])
 (.cond (.t 71)
  (.reg [
    ⟨(some 72), none, .f (.fadr 7 (.t 2))⟩,
    ⟨none, none, .x (.st 1 (.t 72) (.c (.bool true)))⟩])
  .skip))
 (.seq (.seq (.reg [
   ⟨(some 73), none, .f (.fadr 3 (.t 3))⟩,
   ⟨(some 74), none, .f (.ld (.t 73))⟩,
   ⟨(some 75), none, .f (.un .not (.t 74))⟩,
   ⟨(some 76), none, .f (.mv (.t 75))⟩,
   ⟨(some 77), (some (76, true)), .f (.fadr 6 (.t 2))⟩,
   ⟨(some 78), (some (76, true)), .f (.ld (.t 77))⟩,
   ⟨(some 79), (some (76, true)), .f (.bin .lss (.t 78) (.c (.int .i64 0)))⟩,
   ⟨(some 80), none, .f (.pick (.t 76) (.t 79) (.c (.bool false)))⟩])
 (.cond (.t 80)
  (.reg [
    ⟨(some 81), none, .f (.mv (.t 5))⟩,
    ⟨(some 82), none, .f (.fadr 6 (.t 2))⟩,
    ⟨none, none, .x (.st 1 (.t 82) (.t 81))⟩])
  .skip))
 (.seq (.seq (.reg [
   ⟨(some 83), none, .f (.mv (.t 6))⟩,
   ⟨(some 84), none, .f (.un .not (.t 83))⟩])
 (.cond (.t 84)
  (.dreg [
    ⟨(some 85), none, .f (.fadr 5 (.t 2))⟩,
    ⟨(some 86), none, .f (.ld (.t 85))⟩,
    ⟨(some 87), none, .f (.fadr 4 (.t 3))⟩,
    ⟨(some 88), none, .f (.ld (.t 87))⟩,
    ⟨(some 89), none, .f (.fadr 10 (.t 3))⟩,
    ⟨(some 90), none, .f (.ld (.t 89))⟩,
    ⟨(some 91), none, .x (.call 64 [(.t 90)])⟩,
    ⟨(some 92), none, .f (.build [(.int .i64 0), .nilslice] [(0, 1, (.t 88)), (1, 1, (.t 91))])⟩,
    ⟨(some 93), none, .x (.bslice 99 2 [(.int .i64 0), .nilslice] 1 [(0, (.t 92))])⟩,
    ⟨(some 94), none, .x (.app 99 2 32 (.t 86) (.t 93))⟩,
    ⟨(some 95), none, .f (.fadr 5 (.t 2))⟩,
    ⟨none, none, .x (.st 1 (.t 95) (.t 94))⟩]
    [false, false, false, false, false, false, true, false, true, true, false, true] [[], [0], [], [2], [], [4], [5, 4], [3, 2, 6, 5, 4], [7, 3, 2, 6, 5, 4], [1, 0, 8, 7, 3, 2, 6, 5, 4], [0, 1, 2, 3, 4, 5, 6, 7, 8, 9], [10, 0, 1, 2, 3, 4, 5, 6, 7, 8, 9]] [0, 1, 2, 3, 4, 5, 6, 7, 8, 9, 10, 11])
  .skip))
 (.seq (.seq (.reg [
   ⟨(some 10), none, .f (.mv (.c (.int .i64 0)))⟩])
 (.block 2 (.loop (.seq (.seq (.reg [
     ⟨(some 96), none, .f (.mv (.t 10))⟩,
     ⟨(some 97), none, .f (.fadr 5 (.t 2))⟩,
     ⟨(some 98), none, .f (.ld (.t 97))⟩,
     ⟨(some 99), none, .f (.len (.t 98))⟩,
     ⟨(some 100), none, .f (.bin .lss (.t 96) (.t 99))⟩,
     ⟨(some 101), none, .f (.mv (.t 100))⟩,
     ⟨(some 102), (some (101, true)), .f (.fadr 6 (.t 2))⟩,
     ⟨(some 103), (some (101, true)), .f (.ld (.t 102))⟩,
     ⟨(some 104), (some (101, true)), .f (.bin .geq (.t 103) (.c (.int .i64 0)))⟩,
     ⟨(some 105), none, .f (.pick (.t 101) (.t 104) (.c (.bool false)))⟩])
   (.cond (.t 105)
    .skip
    (.exit 2)))
   (.seq (.block 3 (.seq (.dreg [
      ⟨(some 108), none, .f (.fadr 5 (.t 2))⟩,
      ⟨(some 109), none, .f (.ld (.t 108))⟩,
      ⟨(some 110), none, .f (.mv (.t 10))⟩,
      ⟨(some 111), none, .f (.iadr 2 (.t 109) (.t 110))⟩,
      ⟨(some 112), none, .f (.fadr 0 (.t 111))⟩,
      ⟨(some 113), none, .f (.ld (.t 112))⟩,
      ⟨(some 114), none, .f (.fadr 5 (.t 2))⟩,
      ⟨(some 115), none, .f (.ld (.t 114))⟩,
      ⟨(some 116), none, .f (.mv (.t 10))⟩,
      ⟨(some 117), none, .f (.iadr 2 (.t 115) (.t 116))⟩,
      ⟨(some 118), none, .f (.fadr 1 (.t 117))⟩,
      ⟨(some 119), none, .f (.ld (.t 118))⟩,
      ⟨(some 120), none, .f (.len (.t 119))⟩,
      ⟨(some 121), none, .f (.bin .add (.t 113) (.t 120))⟩,
      ⟨(some 122), none, .f (.fadr 6 (.t 2))⟩,
      ⟨(some 123), none, .f (.ld (.t 122))⟩,
      ⟨(some 124), none, .f (.bin .gtr (.t 121) (.t 123))⟩]
      [false, false, false, false, false, false, false, false, false, false, false, false, false, false, false, false, false] [[], [0], [], [1, 0, 2], [3, 1, 0, 2], [4, 3, 1, 0, 2], [], [6], [], [7, 6, 8], [9, 7, 6, 8], [10, 9, 7, 6, 8], [11, 10, 9, 7, 6, 8], [5, 4, 3, 1, 0, 2, 12, 11, 10, 9, 7, 6, 8], [], [14], [13, 5, 4, 3, 1, 0, 2, 12, 11, 10, 9, 7, 6, 8, 15, 14]] [0, 1, 2, 3, 4, 5, 6, 7, 8, 9, 10, 11, 12, 13, 14, 15, 16])
    (.cond (.t 124)
     (.reg [
       ⟨(some 125), none, .f (.fadr 7 (.t 2))⟩,
       ⟨none, none, .x (.st 1 (.t 125) (.c (.bool true)))⟩])
     .skip)))
   (.reg [
     ⟨(some 106), none, .f (.mv (.t 10))⟩,
     ⟨(some 107), none, .f (.bin .add (.t 106) (.c (.int .i64 1)))⟩,
     ⟨(some 10), none, .f (.mv (.t 107))⟩]))))))
 (.seq (.seq (.reg [
   ⟨(some 126), none, .f (.fadr 4 (.t 3))⟩,
   ⟨(some 127), none, .f (.ld (.t 126))⟩,
   ⟨(some 128), none, .f (.bin .eql (.t 127) (.c (.int .i64 0)))⟩,
   ⟨(some 129), none, .f (.mv (.t 128))⟩,
   ⟨(some 130), (some (129, true)), .f (.fadr 8 (.t 2))⟩,
   ⟨(some 131), (some (129, true)), .f (.ld (.t 130))⟩,
   ⟨(some 132), (some (129, true)), .f (.un .not (.t 131))⟩,
   ⟨(some 133), none, .f (.pick (.t 129) (.t 132) (.c (.bool false)))⟩])
 (.cond (.t 133)
  (.seq (.reg [
    ⟨(some 134), none, .f (.fadr 8 (.t 2))⟩,
    ⟨none, none, .x (.st 1 (.t 134) (.c (.bool true)))⟩])
  (.reg [
    ⟨(some 135), none, .f (.ldA 11 (.t 3))⟩,
    ⟨(some 136), none, .x (.call 48 [(.t 135)])⟩,
    ⟨(some 137), none, .f (.fadr 9 (.t 2))⟩,
    ⟨none, none, .x (.st 11 (.t 137) (.t 136))⟩]))
  .skip))
 (.seq (.seq (.reg [
   ⟨(some 138), none, .f (.fadr 8 (.t 2))⟩,
   ⟨(some 139), none, .f (.ld (.t 138))⟩,
   ⟨(some 140), none, .f (.mv (.t 139))⟩,
   ⟨(some 141), (some (140, true)), .f (.fadr 6 (.t 2))⟩,
   ⟨(some 142), (some (140, true)), .f (.ld (.t 141))⟩,
   ⟨(some 143), (some (140, true)), .f (.bin .geq (.t 142) (.c (.int .i64 0)))⟩,
   ⟨(some 144), none, .f (.pick (.t 140) (.t 143) (.c (.bool false)))⟩,
   ⟨(some 145), none, .f (.mv (.t 144))⟩,
   ⟨(some 146), (some (145, true)), .f (.fadr 9 (.t 2))⟩,
   ⟨(some 147), (some (145, true)), .f (.fadr 9 (.t 146))⟩,
   ⟨(some 148), (some (145, true)), .f (.ld (.t 147))⟩,
   ⟨(some 149), (some (145, true)), .f (.len (.t 148))⟩,
   ⟨(some 150), (some (145, true)), .f (.bin .add (.c (.int .i64 20)) (.t 149))⟩,
   ⟨(some 151), (some (145, true)), .f (.fadr 6 (.t 2))⟩,
   ⟨(some 152), (some (145, true)), .f (.ld (.t 151))⟩,
   ⟨(some 153), (some (145, true)), .f (.bin .add (.t 150) (.t 152))⟩,
   ⟨(some 154), (some (145, true)), .f (.bin .gtr (.t 153) (.c (.int .i64 65535)))⟩,
   ⟨(some 155), none, .f (.pick (.t 145) (.t 154) (.c (.bool false)))⟩])
 (.cond (.t 155)
  (.reg [
    ⟨(some 156), none, .f (.fadr 7 (.t 2))⟩,
    ⟨none, none, .x (.st 1 (.t 156) (.c (.bool true)))⟩])
  .skip))
 (.seq (.seq (.reg [
   ⟨(some 157), none, .f (.fadr 7 (.t 2))⟩,
   ⟨(some 158), none, .f (.ld (.t 157))⟩])
 (.cond (.t 158)
  (.seq (.reg [
    ⟨(some 159), none, .f (.fadr 5 (.t 2))⟩,
    ⟨none, none, .x (.st 1 (.t 159) (.c .nilslice))⟩])
  (.reg [
    ⟨(some 160), none, .f (.fadr 8 (.t 2))⟩,
    ⟨none, none, .x (.st 1 (.t 160) (.c (.bool false)))⟩]))
  .skip))
 (.seq (.reg [
   ⟨(some 161), none, .f (.ldA 20 (.t 2))⟩,
   ⟨none, none, .x (.st 20 (.t 4) (.t 161))⟩])
 .ret))))))))))))
theorem ok51 : fnComp Try.prog 51 = some (162, c51, [(.ldA 20 (.t 4))]) := by kernel_rfl

def c52 : CC :=
 (.seq (.reg [
   ⟨(some 1), none, .x (.box 94 20 (.t 0))⟩,
   ⟨(some 2), none, .f (.mv (.c .nilslice))⟩,
   ⟨(some 3), none, .f (.mv (.c (.bool false)))⟩])
 (.seq (.reg [
   ⟨(some 4), none, .f (.mv (.c (.int .i64 0)))⟩])
 (.seq (.seq (.reg [
   ⟨(some 5), none, .f (.mv (.c (.int .i64 0)))⟩])
 (.block 0 (.loop (.seq (.seq (.reg [
     ⟨(some 9), none, .f (.mv (.t 5))⟩,
     ⟨(some 10), none, .f (.fadr 5 (.t 1))⟩,
     ⟨(some 11), none, .f (.ld (.t 10))⟩,
     ⟨(some 12), none, .f (.len (.t 11))⟩,
     ⟨(some 13), none, .f (.bin .lss (.t 9) (.t 12))⟩])
   (.cond (.t 13)
    .skip
    (.exit 0)))
   (.seq (.block 1 (.reg [
      ⟨(some 16), none, .f (.mv (.t 4))⟩,
      ⟨(some 17), none, .f (.fadr 5 (.t 1))⟩,
      ⟨(some 18), none, .f (.ld (.t 17))⟩,
      ⟨(some 19), none, .f (.mv (.t 5))⟩,
      ⟨(some 20), none, .f (.iadr 2 (.t 18) (.t 19))⟩,
      ⟨(some 21), none, .f (.fadr 1 (.t 20))⟩,
      ⟨(some 22), none, .f (.ld (.t 21))⟩,
      ⟨(some 23), none, .f (.len (.t 22))⟩,
      ⟨(some 24), none, .f (.bin .add (.t 16) (.t 23))⟩,
      ⟨(some 4), none, .f (.mv (.t 24))⟩]))
   (.reg [
     ⟨(some 14), none, .f (.mv (.t 5))⟩,
     ⟨(some 15), none, .f (.bin .add (.t 14) (.c (.int .i64 1)))⟩,
     ⟨(some 5), none, .f (.mv (.t 15))⟩]))))))
 (.seq (.seq (.reg [
   ⟨(some 25), none, .f (.fadr 7 (.t 1))⟩,
   ⟨(some 26), none, .f (.ld (.t 25))⟩,
   ⟨(some 27), none, .f (.mv (.t 26))⟩,
   ⟨(some 28), (some (27, false)), .f (.fadr 6 (.t 1))⟩,
   ⟨(some 29), (some (27, false)), .f (.ld (.t 28))⟩,
   ⟨(some 30), (some (27, false)), .f (.bin .lss (.t 29) (.c (.int .i64 0)))⟩,
   ⟨(some 31), none, .f (.pick (.t 27) (.c (.bool true)) (.t 30))⟩,
   ⟨(some 32), none, .f (.mv (.t 31))⟩,
   ⟨(some 33), (some (32, false)), .f (.mv (.t 4))⟩,
   ⟨(some 34), (some (32, false)), .f (.fadr 6 (.t 1))⟩,
   ⟨(some 35), (some (32, false)), .f (.ld (.t 34))⟩,
   ⟨(some 36), (some (32, false)), .f (.bin .neq (.t 33) (.t 35))⟩,
   ⟨(some 37), none, .f (.pick (.t 32) (.c (.bool true)) (.t 36))⟩])
 (.cond (.t 37)
  (.seq (.reg [
    ⟨(some 2), none, .f (.mv (.c .nilslice))⟩,
    ⟨(some 3), none, .f (.mv (.c (.bool false)))⟩])
  .ret)
  .skip))
 (.seq (.reg [
   ⟨(some 38), none, .f (.fadr 6 (.t 1))⟩,
   ⟨(some 39), none, .f (.ld (.t 38))⟩,
   ⟨(some 40), none, .x (.mks 5 1 1 [(.int .u8 0)] (.t 39) (.t 39))⟩,
   ⟨(some 6), none, .f (.mv (.t 40))⟩])
 (.seq (.seq (.reg [
   ⟨(some 7), none, .f (.mv (.c (.int .i64 0)))⟩])
 (.block 2 (.loop (.seq (.seq (.reg [
     ⟨(some 41), none, .f (.mv (.t 7))⟩,
     ⟨(some 42), none, .f (.fadr 5 (.t 1))⟩,
     ⟨(some 43), none, .f (.ld (.t 42))⟩,
     ⟨(some 44), none, .f (.len (.t 43))⟩,
     ⟨(some 45), none, .f (.bin .lss (.t 41) (.t 44))⟩])
   (.cond (.t 45)
    .skip
    (.exit 2)))
   (.seq (.block 3 (.seq (.reg [
      ⟨(some 8), none, .f (.mv (.c (.int .i64 0)))⟩])
    (.block 4 (.loop (.seq (.seq (.reg [
        ⟨(some 48), none, .f (.mv (.t 8))⟩,
        ⟨(some 49), none, .f (.fadr 5 (.t 1))⟩,
        ⟨(some 50), none, .f (.ld (.t 49))⟩,
        ⟨(some 51), none, .f (.mv (.t 7))⟩,
        ⟨(some 52), none, .f (.iadr 2 (.t 50) (.t 51))⟩,
        ⟨(some 53), none, .f (.fadr 1 (.t 52))⟩,
        ⟨(some 54), none, .f (.ld (.t 53))⟩,
        ⟨(some 55), none, .f (.len (.t 54))⟩,
        ⟨(some 56), none, .f (.bin .lss (.t 48) (.t 55))⟩])
      (.cond (.t 56)
       .skip
       (.exit 4)))
      (.seq (.block 5 (.dreg [
         ⟨(some 59), none, .f (.mv (.t 6))⟩,
         ⟨(some 60), none, .f (.fadr 5 (.t 1))⟩,
         ⟨(some 61), none, .f (.ld (.t 60))⟩,
         ⟨(some 62), none, .f (.mv (.t 7))⟩,
         ⟨(some 63), none, .f (.iadr 2 (.t 61) (.t 62))⟩,
         ⟨(some 64), none, .f (.fadr 0 (.t 63))⟩,
         ⟨(some 65), none, .f (.ld (.t 64))⟩,
         ⟨(some 66), none, .f (.mv (.t 8))⟩,
         ⟨(some 67), none, .f (.bin .add (.t 65) (.t 66))⟩,
         ⟨(some 68), none, .f (.fadr 5 (.t 1))⟩,
         ⟨(some 69), none, .f (.ld (.t 68))⟩,
         ⟨(some 70), none, .f (.mv (.t 7))⟩,
         ⟨(some 71), none, .f (.iadr 2 (.t 69) (.t 70))⟩,
         ⟨(some 72), none, .f (.fadr 1 (.t 71))⟩,
         ⟨(some 73), none, .f (.ld (.t 72))⟩,
         ⟨(some 74), none, .f (.mv (.t 8))⟩,
         ⟨(some 75), none, .f (.iadr 1 (.t 73) (.t 74))⟩,
         ⟨(some 76), none, .f (.ld (.t 75))⟩,
         ⟨(some 77), none, .f (.iadr 1 (.t 59) (.t 67))⟩,
         ⟨none, none, .x (.st 1 (.t 77) (.t 76))⟩]
         [false, false, false, false, false, false, false, false, false, false, false, false, false, false, false, false, false, false, false, true] [[], [], [1], [], [2, 1, 3], [4, 2, 1, 3], [5, 4, 2, 1, 3], [], [6, 5, 4, 2, 1, 3, 7], [], [9], [], [10, 9, 11], [12, 10, 9, 11], [13, 12, 10, 9, 11], [], [14, 13, 12, 10, 9, 11, 15], [16, 14, 13, 12, 10, 9, 11, 15], [0, 8, 6, 5, 4, 2, 1, 3, 7, 9, 10, 11, 12, 13, 14, 15, 16, 17], [18, 0, 8, 6, 5, 4, 2, 1, 3, 7, 9, 10, 11, 12, 13, 14, 15, 16, 17]] [0, 1, 2, 3, 4, 5, 6, 7, 8, 9, 10, 11, 12, 13, 14, 15, 16, 17, 18, 19]))
      (.reg [
        ⟨(some 57), none, .f (.mv (.t 8))⟩,
        ⟨(some 58), none, .f (.bin .add (.t 57) (.c (.int .i64 1)))⟩,
        ⟨(some 8), none, .f (.mv (.t 58))⟩])))))))
   (.reg [
     ⟨(some 46), none, .f (.mv (.t 7))⟩,
     ⟨(some 47), none, .f (.bin .add (.t 46) (.c (.int .i64 1)))⟩,
     ⟨(some 7), none, .f (.mv (.t 47))⟩]))))))
 (.seq (.reg [
   ⟨(some 78), none, .f (.mv (.t 6))⟩,
   ⟨(some 2), none, .f (.mv (.t 78))⟩,
   ⟨(some 3), none, .f (.mv (.c (.bool true)))⟩])
 .ret)))))))
theorem ok52 : fnComp Try.prog 52 = some (79, c52, [(.mv (.t 2)), (.mv (.t 3))]) := by kernel_rfl

def c54 : CC :=
 (.seq (.reg [
   ⟨(some 4), none, .x (.box 44 11 (.t 1))⟩])
 (.seq (.seq (.reg [
   ⟨(some 21), none, .f (.fadr 4 (.t 4))⟩,
   ⟨(some 22), none, .f (.ld (.t 21))⟩,
   ⟨(some 23), none, .f (.bin .eql (.t 22) (.c (.int .i64 0)))⟩,
   ⟨(some 24), none, .f (.mv (.t 23))⟩,
   ⟨(some 25), (some (24, true)), .f (.fadr 3 (.t 4))⟩,
   ⟨(some 26), (some (24, true)), .f (.ld (.t 25))⟩,
   ⟨(some 27), (some (24, true)), .f (.un .not (.t 26))⟩,
   ⟨(some 28), none, .f (.pick (.t 24) (.t 27) (.c (.bool false)))⟩])
 (.cond (.t 28)
  (.seq (.reg [
    ⟨(some 29), none, .f (.mv (.t 2))⟩,
    ⟨(some 30), none, .f (.mv (.t 2))⟩,
    ⟨(some 31), none, .f (.ldA 11 (.t 4))⟩,
    ⟨(some 32), none, .x (.call 40 [(.t 31)])⟩,
    ⟨(some 33), none, .f (.nck (.t 29))⟩,
    ⟨(some 34), none, .f (.fadr 1 (.t 33))⟩,
    ⟨none, none, .x (.st 1 (.t 34) (.c (.bool true)))⟩,
    ⟨(some 35), none, .f (.nck (.t 30))⟩,
    ⟨(some 36), none, .f (.fadr 2 (.t 35))⟩,
    ⟨none, none, .x (.st 11 (.t 36) (.t 32))⟩])
  .ret)
  .skip))
 (.seq (.reg [
   ⟨(some 37), none, .f (.fadr 10 (.t 4))⟩,
   ⟨(some 38), none, .f (.ld (.t 37))⟩,
   ⟨(some 39), none, .f (.len (.t 38))⟩,
   ⟨(some 6), none, .f (.mv (.t 39))⟩])
 (.seq (.seq (.reg [
   ⟨(some 40), none, .f (.mv (.t 6))⟩,
   ⟨(some 41), none, .f (.bin .eql (.t 40) (.c (.int .i64 0)))⟩,
   ⟨(some 42), none, .f (.mv (.t 41))⟩,
   ⟨(some 43), (some (42, false)), .f (.fadr 3 (.t 4))⟩,
   ⟨(some 44), (some (42, false)), .f (.ld (.t 43))⟩,
   ⟨(some 45), (some (42, false)), .f (.mv (.t 44))⟩,
   ⟨(some 46), (some (45, true)), .f (.mv (.t 6))⟩,
   ⟨(some 47), (some (45, true)), .f (.bin .rem (.t 46) (.c (.int .i64 8)))⟩,
   ⟨(some 48), (some (45, true)), .f (.bin .neq (.t 47) (.c (.int .i64 0)))⟩,
   ⟨(some 49), (some (42, false)), .f (.pick (.t 45) (.t 48) (.c (.bool false)))⟩,
   ⟨(some 50), none, .f (.pick (.t 42) (.c (.bool true)) (.t 49))⟩])
 (.cond (.t 50)
  (.seq (.reg [
    ⟨(some 51), none, .f (.mv (.t 2))⟩,
    ⟨(some 52), none, .f (.nck (.t 51))⟩,
    ⟨(some 53), none, .f (.fadr 0 (.t 52))⟩,
    ⟨none, none, .x (.st 1 (.t 53) (.c (.int .i64 5)))⟩])
  .ret)
  .skip))
 (.seq (.reg [
   ⟨(some 54), none, .f (.fadr 7 (.t 4))⟩,
   ⟨(some 55), none, .f (.ld (.t 54))⟩,
   ⟨(some 56), none, .f (.fadr 8 (.t 4))⟩,
   ⟨(some 57), none, .f (.ld (.t 56))⟩,
   ⟨(some 58), none, .f (.fadr 6 (.t 4))⟩,
   ⟨(some 59), none, .f (.ld (.t 58))⟩,
   ⟨(some 60), none, .f (.fadr 1 (.t 4))⟩,
   ⟨(some 61), none, .f (.ld (.t 60))⟩,
   ⟨(some 62), none, .f (.build [(.int .i64 0), (.int .i64 0), (.int .i64 0), (.int .i64 0)] [(0, 1, (.t 55)), (1, 1, (.t 57)), (2, 1, (.t 59)), (3, 1, (.t 61))])⟩,
   ⟨(some 7), none, .x (.zero 107 4 [(.int .i64 0), (.int .i64 0), (.int .i64 0), (.int .i64 0)])⟩,
   ⟨none, none, .x (.st 4 (.t 7) (.t 62))⟩])
 (.seq (.reg [
   ⟨(some 63), none, .f (.mv (.t 0))⟩,
   ⟨(some 64), none, .f (.nck (.t 63))⟩,
   ⟨(some 65), none, .f (.fadr 1 (.t 64))⟩,
   ⟨(some 66), none, .f (.ld (.t 65))⟩,
   ⟨(some 67), none, .f (.mkf 71 [] [(.t 7)])⟩,
   ⟨(some 68), none, .x (.call 70 [(.t 66), (.t 67)])⟩,
   ⟨(some 8), none, .f (.mv (.t 68))⟩])
 (.seq (.seq (.reg [
   ⟨(some 69), none, .f (.mv (.t 8))⟩,
   ⟨(some 70), none, .f (.bin .lss (.t 69) (.c (.int .i64 0)))⟩])
 (.cond (.t 70)
  (.seq (.seq (.reg [
    ⟨(some 71), none, .f (.mv (.t 0))⟩,
    ⟨(some 72), none, .f (.nck (.t 71))⟩,
    ⟨(some 73), none, .f (.fadr 1 (.t 72))⟩,
    ⟨(some 74), none, .f (.ld (.t 73))⟩,
    ⟨(some 75), none, .f (.len (.t 74))⟩,
    ⟨(some 76), none, .f (.bin .geq (.t 75) (.c (.int .i64 16)))⟩])
  (.cond (.t 76)
   (.seq (.seq (.reg [
     ⟨(some 77), none, .f (.mv (.t 0))⟩,
     ⟨(some 78), none, .f (.nck (.t 77))⟩,
     ⟨(some 79), none, .f (.fadr 1 (.t 78))⟩,
     ⟨(some 80), none, .f (.ld (.t 79))⟩,
     ⟨(some 81), none, .f (.iadr 1 (.t 80) (.c (.int .i64 0)))⟩,
     ⟨(some 82), none, .f (.ld (.t 81))⟩,
     ⟨(some 83), none, .f (.nck (.t 82))⟩,
     ⟨(some 84), none, .f (.fadr 8 (.t 83))⟩,
     ⟨(some 85), none, .f (.ld (.t 84))⟩,
     ⟨(some 86), none, .f (.un .not (.t 85))⟩])
   (.cond (.t 86)
    (.dreg [
      ⟨(some 87), none, .f (.mv (.t 2))⟩,
      ⟨(some 88), none, .f (.mv (.t 2))⟩,
      ⟨(some 89), none, .f (.nck (.t 88))⟩,
      ⟨(some 90), none, .f (.fadr 13 (.t 89))⟩,
      ⟨(some 91), none, .f (.ld (.t 90))⟩,
      ⟨(some 92), none, .f (.mv (.t 0))⟩,
      ⟨(some 93), none, .f (.nck (.t 92))⟩,
      ⟨(some 94), none, .f (.fadr 1 (.t 93))⟩,
      ⟨(some 95), none, .f (.ld (.t 94))⟩,
      ⟨(some 96), none, .f (.iadr 1 (.t 95) (.c (.int .i64 0)))⟩,
      ⟨(some 97), none, .f (.ld (.t 96))⟩,
      ⟨(some 98), none, .x (.call 57 [(.t 97)])⟩,
      ⟨(some 99), none, .x (.bslice 113 5 [(.int .i64 0), (.int .i64 0), (.int .i64 0), (.int .i64 0), (.bool false)] 1 [(0, (.t 98))])⟩,
      ⟨(some 100), none, .x (.app 113 5 40 (.t 91) (.t 99))⟩,
      ⟨(some 101), none, .f (.nck (.t 87))⟩,
      ⟨(some 102), none, .f (.fadr 13 (.t 101))⟩,
      ⟨none, none, .x (.st 1 (.t 102) (.t 100))⟩]
      [false, false, false, false, false, false, false, false, false, false, false, true, true, true, false, false, true] [[], [], [1], [2, 1], [3, 2, 1], [], [5], [6, 5], [7, 6, 5], [8, 7, 6, 5], [9, 8, 7, 6, 5], [10, 9, 8, 7, 6, 5], [11, 10, 9, 8, 7, 6, 5], [4, 3, 2, 1, 12, 11, 10, 9, 8, 7, 6, 5], [0, 1, 2, 3, 4, 5, 6, 7, 8, 9, 10, 11, 12, 13], [14, 0, 1, 2, 3, 4, 5, 6, 7, 8, 9, 10, 11, 12, 13], [15, 14, 0, 1, 2, 3, 4, 5, 6, 7, 8, 9, 10, 11, 12, 13]] [0, 1, 2, 3, 4, 5, 6, 7, 8, 9, 10, 11, 12, 13, 14, 15, 16])
    .skip))
   (.reg [
     ⟨(some 103), none, .f (.mv (.t 0))⟩,
     ⟨(some 104), none, .f (.mv (.t 0))⟩,
     ⟨(some 105), none, .f (.nck (.t 104))⟩,
     ⟨(some 106), none, .f (.fadr 1 (.t 105))⟩,
     ⟨(some 107), none, .f (.ld (.t 106))⟩,
     ⟨(some 108), none, .x (.call 72 [(.t 107), (.c (.int .i64 0)), (.c (.int .i64 1))])⟩,
     ⟨(some 109), none, .f (.nck (.t 103))⟩,
     ⟨(some 110), none, .f (.fadr 1 (.t 109))⟩,
     ⟨none, none, .x (.st 1 (.t 110) (.t 108))⟩]))
   .skip))
  (.seq (.dreg [
    ⟨(some 111), none, .f (.mv (.t 0))⟩,
    ⟨(some 112), none, .f (.mv (.t 0))⟩,
    ⟨(some 113), none, .f (.nck (.t 112))⟩,
    ⟨(some 114), none, .f (.fadr 1 (.t 113))⟩,
    ⟨(some 115), none, .f (.ld (.t 114))⟩,
    ⟨(some 116), none, .f (.ldA 4 (.t 7))⟩,
    ⟨(some 117), none, .f (.mv (.t 0))⟩,
    ⟨(some 118), none, .f (.nck (.t 117))⟩,
    ⟨(some 119), none, .f (.fadr 0 (.t 118))⟩,
    ⟨(some 120), none, .f (.ld (.t 119))⟩,
    ⟨(some 121), none, .f (.build [(.int .i64 0), (.int .i64 0), (.int .i64 0), (.int .i64 0), .nilslice, (.int .i64 0), .nilptr, (.int .i64 0), (.bool false)] [(0, 4, (.t 116)), (5, 1, (.c (.int .i64 (-1)))), (7, 1, (.t 120))])⟩,
    ⟨(some 122), none, .x (.box 111 9 (.t 121))⟩,
    ⟨(some 123), none, .x (.bslice 105 1 [.nilptr] 1 [(0, (.t 122))])⟩,
    ⟨(some 124), none, .x (.app 105 1 8 (.t 115) (.t 123))⟩,
    ⟨(some 125), none, .f (.nck (.t 111))⟩,
    ⟨(some 126), none, .f (.fadr 1 (.t 125))⟩,
    ⟨none, none, .x (.st 1 (.t 126) (.t 124))⟩]
    [false, false, false, false, false, false, false, false, false, false, false, true, true, true, false, false, true] [[], [], [1], [2, 1], [3, 2, 1], [], [], [6], [7, 6], [8, 7, 6], [5, 9, 8, 7, 6], [10, 5, 9, 8, 7, 6], [11, 10, 5, 9, 8, 7, 6], [4, 3, 2, 1, 12, 11, 10, 5, 9, 8, 7, 6], [0, 1, 2, 3, 4, 5, 6, 7, 8, 9, 10, 11, 12, 13], [14, 0, 1, 2, 3, 4, 5, 6, 7, 8, 9, 10, 11, 12, 13], [15, 14, 0, 1, 2, 3, 4, 5, 6, 7, 8, 9, 10, 11, 12, 13]] [0, 1, 2, 3, 4, 5, 6, 7, 8, 9, 10, 11, 12, 13, 14, 15, 16])
  (.reg [
    ⟨(some 127), none, .f (.mv (.t 0))⟩,
    ⟨(some 128), none, .f (.nck (.t 127))⟩,
    ⟨(some 129), none, .f (.fadr 1 (.t 128))⟩,
    ⟨(some 130), none, .f (.ld (.t 129))⟩,
    ⟨(some 131), none, .f (.len (.t 130))⟩,
    ⟨(some 132), none, .f (.bin .sub (.t 131) (.c (.int .i64 1)))⟩,
    ⟨(some 8), none, .f (.mv (.t 132))⟩])))
  .skip))
 (.seq (.reg [
   ⟨(some 133), none, .f (.mv (.t 0))⟩,
   ⟨(some 134), none, .f (.nck (.t 133))⟩,
   ⟨(some 135), none, .f (.fadr 1 (.t 134))⟩,
   ⟨(some 136), none, .f (.ld (.t 135))⟩,
   ⟨(some 137), none, .f (.mv (.t 8))⟩,
   ⟨(some 138), none, .f (.iadr 1 (.t 136) (.t 137))⟩,
   ⟨(some 139), none, .f (.ld (.t 138))⟩,
   ⟨(some 9), none, .f (.mv (.t 139))⟩])
 (.seq (.seq (.reg [
   ⟨(some 140), none, .f (.mv (.t 9))⟩,
   ⟨(some 141), none, .f (.nck (.t 140))⟩,
   ⟨(some 142), none, .f (.fadr 8 (.t 141))⟩,
   ⟨(some 143), none, .f (.ld (.t 142))⟩])
 (.cond (.t 143)
  .ret
  .skip))
 (.seq (.reg [
   ⟨(some 144), none, .f (.fadr 4 (.t 4))⟩,
   ⟨(some 145), none, .f (.ld (.t 144))⟩,
   ⟨(some 146), none, .f (.mv (.t 6))⟩,
   ⟨(some 147), none, .f (.bin .add (.t 145) (.t 146))⟩,
   ⟨(some 10), none, .f (.mv (.t 147))⟩])
 (.seq (.reg [
   ⟨(some 11), none, .f (.mv (.c (.bool false)))⟩])
 (.seq (.seq (.reg [
   ⟨(some 148), none, .f (.mv (.t 9))⟩,
   ⟨(some 149), none, .f (.nck (.t 148))⟩,
   ⟨(some 150), none, .f (.fadr 4 (.t 149))⟩,
   ⟨(some 151), none, .f (.ld (.t 150))⟩,
   ⟨(some 152), none, .f (.len (.t 151))⟩,
   ⟨(some 153), none, .f (.mv (.c (.int .i64 0)))⟩])
 (.block 0 (.loop (.seq (.reg [
     ⟨(some 154), none, .f (.bin .lss (.t 153) (.t 152))⟩])
   (.seq (.cond (.t 154)
    .skip
    (.exit 0))
   (.seq (.block 1 (.seq (.reg [
      ⟨(some 155), none, .f (.iadr 2 (.t 151) (.t 153))⟩,
      ⟨(some 156), none, .f (.ldA 2 (.t 155))⟩,
      ⟨(some 13), none, .x (.zero 116 2 [(.int .i64 0), .nilslice])⟩,
      ⟨none, none, .x (.st 2 (.t 13) (.t 156))⟩])
    (.seq (.reg [
      ⟨(some 157), none, .f (.fadr 0 (.t 13))⟩,
      ⟨(some 158), none, .f (.ld (.t 157))⟩,
      ⟨(some 159), none, .f (.fadr 1 (.t 13))⟩,
      ⟨(some 160), none, .f (.ld (.t 159))⟩,
      ⟨(some 161), none, .f (.len (.t 160))⟩,
      ⟨(some 162), none, .f (.bin .add (.t 158) (.t 161))⟩,
      ⟨(some 14), none, .f (.mv (.t 162))⟩])
    (.seq (.reg [
      ⟨(some 163), none, .f (.fadr 0 (.t 13))⟩,
      ⟨(some 164), none, .f (.ld (.t 163))⟩,
      ⟨(some 165), none, .f (.fadr 4 (.t 4))⟩,
      ⟨(some 166), none, .f (.ld (.t 165))⟩,
      ⟨(some 167), none, .f (.bin .eql (.t 164) (.t 166))⟩,
      ⟨(some 168), none, .f (.mv (.t 167))⟩,
      ⟨(some 169), (some (168, true)), .f (.mv (.t 14))⟩,
      ⟨(some 170), (some (168, true)), .f (.mv (.t 10))⟩,
      ⟨(some 171), (some (168, true)), .f (.bin .eql (.t 169) (.t 170))⟩,
      ⟨(some 172), none, .f (.pick (.t 168) (.t 171) (.c (.bool false)))⟩,
      ⟨(some 173), none, .f (.mv (.t 172))⟩,
      ⟨(some 174), (some (173, true)), .f (.fadr 1 (.t 13))⟩,
      ⟨(some 175), (some (173, true)), .f (.ld (.t 174))⟩,
      ⟨(some 176), (some (173, true)), .f (.fadr 10 (.t 4))⟩,
      ⟨(some 177), (some (173, true)), .f (.ld (.t 176))⟩,
      ⟨(some 178), (some (173, true)), .x (.call 73 [(.t 175), (.t 177)])⟩,
      ⟨(some 179), none, .f (.pick (.t 173) (.t 178) (.c (.bool false)))⟩])
    (.cond (.t 179)
     (.reg [
       ⟨(some 11), none, .f (.mv (.c (.bool true)))⟩])
     (.seq (.reg [
       ⟨(some 180), none, .f (.fadr 0 (.t 13))⟩,
       ⟨(some 181), none, .f (.ld (.t 180))⟩,
       ⟨(some 182), none, .f (.mv (.t 10))⟩,
       ⟨(some 183), none, .f (.bin .lss (.t 181) (.t 182))⟩,
       ⟨(some 184), none, .f (.mv (.t 183))⟩,
       ⟨(some 185), (some (184, true)), .f (.fadr 4 (.t 4))⟩,
       ⟨(some 186), (some (184, true)), .f (.ld (.t 185))⟩,
       ⟨(some 187), (some (184, true)), .f (.mv (.t 14))⟩,
       ⟨(some 188), (some (184, true)), .f (.bin .lss (.t 186) (.t 187))⟩,
       ⟨(some 189), none, .f (.pick (.t 184) (.t 188) (.c (.bool false)))⟩,
       ⟨(some 190), none, .f (.mv (.t 189))⟩,
       ⟨(some 191), (some (190, false)), .f (.fadr 3 (.t 4))⟩,
       ⟨(some 192), (some (190, false)), .f (.ld (.t 191))⟩,
       ⟨(some 193), (some (190, false)), .f (.un .not (.t 192))⟩,
       ⟨(some 194), (some (190, false)), .f (.mv (.t 193))⟩,
       ⟨(some 195), (some (194, true)), .f (.mv (.t 14))⟩,
       ⟨(some 196), (some (194, true)), .f (.mv (.t 10))⟩,
       ⟨(some 197), (some (194, true)), .f (.bin .gtr (.t 195) (.t 196))⟩,
       ⟨(some 198), (some (190, false)), .f (.pick (.t 194) (.t 197) (.c (.bool false)))⟩,
       ⟨(some 199), none, .f (.pick (.t 190) (.c (.bool true)) (.t 198))⟩])
     (.cond (.t 199)
      (.seq (.reg [
        ⟨(some 200), none, .f (.mv (.t 9))⟩,
        ⟨(some 201), none, .x (.call 74 [(.t 200)])⟩])
      .ret)
      .skip)))))))
   (.reg [
     ⟨(some 202), none, .f (.bin .add (.t 153) (.c (.int .i64 1)))⟩,
     ⟨(some 153), none, .f (.mv (.t 202))⟩])))))))
 (.seq (.seq (.reg [
   ⟨(some 203), none, .f (.fadr 3 (.t 4))⟩,
   ⟨(some 204), none, .f (.ld (.t 203))⟩,
   ⟨(some 205), none, .f (.un .not (.t 204))⟩,
   ⟨(some 206), none, .f (.mv (.t 205))⟩,
   ⟨(some 207), (some (206, true)), .f (.mv (.t 9))⟩,
   ⟨(some 208), (some (206, true)), .f (.nck (.t 207))⟩,
   ⟨(some 209), (some (206, true)), .f (.fadr 5 (.t 208))⟩,
   ⟨(some 210), (some (206, true)), .f (.ld (.t 209))⟩,
   ⟨(some 211), (some (206, true)), .f (.bin .geq (.t 210) (.c (.int .i64 0)))⟩,
   ⟨(some 212), none, .f (.pick (.t 206) (.t 211) (.c (.bool false)))⟩,
   ⟨(some 213), none, .f (.mv (.t 212))⟩,
   ⟨(some 214), (some (213, true)), .f (.mv (.t 9))⟩,
   ⟨(some 215), (some (213, true)), .f (.nck (.t 214))⟩,
   ⟨(some 216), (some (213, true)), .f (.fadr 5 (.t 215))⟩,
   ⟨(some 217), (some (213, true)), .f (.ld (.t 216))⟩,
   ⟨(some 218), (some (213, true)), .f (.mv (.t 10))⟩,
   ⟨(some 219), (some (213, true)), .f (.bin .neq (.t 217) (.t 218))⟩,
   ⟨(some 220), none, .f (.pick (.t 213) (.t 219) (.c (.bool false)))⟩,
   ⟨(some 221), none, .f (.mv (.t 220))⟩,
   ⟨(some 222), (some (221, false)), .f (.mv (.t 9))⟩,
   ⟨(some 223), (some (221, false)), .f (.nck (.t 222))⟩,
   ⟨(some 224), (some (221, false)), .f (.fadr 5 (.t 223))⟩,
   ⟨(some 225), (some (221, false)), .f (.ld (.t 224))⟩,
   ⟨(some 226), (some (221, false)), .f (.bin .geq (.t 225) (.c (.int .i64 0)))⟩,
   ⟨(some 227), (some (221, false)), .f (.mv (.t 226))⟩,
   ⟨(some 228), (some (227, true)), .f (.mv (.t 10))⟩,
   ⟨(some 229), (some (227, true)), .f (.mv (.t 9))⟩,
   ⟨(some 230), (some (227, true)), .f (.nck (.t 229))⟩,
   ⟨(some 231), (some (227, true)), .f (.fadr 5 (.t 230))⟩,
   ⟨(some 232), (some (227, true)), .f (.ld (.t 231))⟩,
   ⟨(some 233), (some (227, true)), .f (.bin .gtr (.t 228) (.t 232))⟩,
   ⟨(some 234), (some (221, false)), .f (.pick (.t 227) (.t 233) (.c (.bool false)))⟩,
   ⟨(some 235), none, .f (.pick (.t 221) (.c (.bool true)) (.t 234))⟩])
 (.cond (.t 235)
  (.seq (.reg [
    ⟨(some 236), none, .f (.mv (.t 9))⟩,
    ⟨(some 237), none, .x (.call 74 [(.t 236)])⟩])
  .ret)
  .skip))
 (.seq (.seq (.reg [
   ⟨(some 238), none, .f (.fadr 3 (.t 4))⟩,
   ⟨(some 239), none, .f (.ld (.t 238))⟩,
   ⟨(some 240), none, .f (.un .not (.t 239))⟩])
 (.cond (.t 240)
  (.reg [
    ⟨(some 241), none, .f (.mv (.t 9))⟩,
    ⟨(some 242), none, .f (.mv (.t 10))⟩,
    ⟨(some 243), none, .f (.nck (.t 241))⟩,
    ⟨(some 244), none, .f (.fadr 5 (.t 243))⟩,
    ⟨none, none, .x (.st 1 (.t 244) (.t 242))⟩])
  .skip))
 (.seq (.seq (.reg [
   ⟨(some 245), none, .f (.mv (.t 11))⟩,
   ⟨(some 246), none, .f (.un .not (.t 245))⟩])
 (.cond (.t 246)
  (.seq (.dreg [
    ⟨(some 247), none, .f (.mv (.t 9))⟩,
    ⟨(some 248), none, .f (.mv (.t 9))⟩,
    ⟨(some 249), none, .f (.nck (.t 248))⟩,
    ⟨(some 250), none, .f (.fadr 4 (.t 249))⟩,
    ⟨(some 251), none, .f (.ld (.t 250))⟩,
    ⟨(some 252), none, .f (.fadr 4 (.t 4))⟩,
    ⟨(some 253), none, .f (.ld (.t 252))⟩,
    ⟨(some 254), none, .f (.fadr 10 (.t 4))⟩,
    ⟨(some 255), none, .f (.ld (.t 254))⟩,
    ⟨(some 256), none, .x (.call 41 [(.t 255)])⟩,
    ⟨(some 257), none, .f (.build [(.int .i64 0), .nilslice] [(0, 1, (.t 253)), (1, 1, (.t 256))])⟩,
    ⟨(some 258), none, .x (.bslice 116 2 [(.int .i64 0), .nilslice] 1 [(0, (.t 257))])⟩,
    ⟨(some 259), none, .x (.app 116 2 32 (.t 251) (.t 258))⟩,
    ⟨(some 260), none, .f (.nck (.t 247))⟩,
    ⟨(some 261), none, .f (.fadr 4 (.t 260))⟩,
    ⟨none, none, .x (.st 1 (.t 261) (.t 259))⟩]
    [false, false, false, false, false, false, false, false, false, true, false, true, true, false, false, true] [[], [], [1], [2, 1], [3, 2, 1], [], [5], [], [7], [8, 7], [6, 5, 9, 8, 7], [10, 6, 5, 9, 8, 7], [4, 3, 2, 1, 11, 10, 6, 5, 9, 8, 7], [0, 1, 2, 3, 4, 5, 6, 7, 8, 9, 10, 11, 12], [13, 0, 1, 2, 3, 4, 5, 6, 7, 8, 9, 10, 11, 12], [14, 13, 0, 1, 2, 3, 4, 5, 6, 7, 8, 9, 10, 11, 12]] [0, 1, 2, 3, 4, 5, 6, 7, 8, 9, 10, 11, 12, 13, 14, 15])
  (.seq (.reg [
    ⟨(some 262), none, .f (.fadr 4 (.t 4))⟩,
    ⟨(some 263), none, .f (.ld (.t 262))⟩,
    ⟨(some 264), none, .f (.bin .eql (.t 263) (.c (.int .i64 0)))⟩])
  (.cond (.t 264)
   (.seq (.reg [
     ⟨(some 265), none, .f (.ldA 11 (.t 4))⟩,
     ⟨(some 266), none, .x (.call 40 [(.t 265)])⟩,
     ⟨(some 15), none, .x (.zero 44 11 [(.int .i64 0), (.int .i64 0), (.bool false), (.bool false), (.int .i64 0), (.int .i64 0), (.int .i64 0), (.int .i64 0), (.int .i64 0), .nilslice, .nilslice])⟩,
     ⟨none, none, .x (.st 11 (.t 15) (.t 266))⟩])
   (.reg [
     ⟨(some 267), none, .f (.mv (.t 9))⟩,
     ⟨(some 268), none, .f (.nck (.t 267))⟩,
     ⟨(some 269), none, .f (.fadr 6 (.t 268))⟩,
     ⟨none, none, .x (.st 1 (.t 269) (.t 15))⟩]))
   .skip)))
  .skip))
 (.seq (.seq (.reg [
   ⟨(some 270), none, .f (.mv (.t 9))⟩,
   ⟨(some 271), none, .f (.nck (.t 270))⟩,
   ⟨(some 272), none, .f (.fadr 6 (.t 271))⟩,
   ⟨(some 273), none, .f (.ld (.t 272))⟩,
   ⟨(some 274), none, .f (.eqn .ptr false (.t 273) (.c .nilptr))⟩,
   ⟨(some 275), none, .f (.mv (.t 274))⟩,
   ⟨(some 276), (some (275, false)), .f (.mv (.t 9))⟩,
   ⟨(some 277), (some (275, false)), .f (.nck (.t 276))⟩,
   ⟨(some 278), (some (275, false)), .f (.fadr 5 (.t 277))⟩,
   ⟨(some 279), (some (275, false)), .f (.ld (.t 278))⟩,
   ⟨(some 280), (some (275, false)), .f (.bin .lss (.t 279) (.c (.int .i64 0)))⟩,
   ⟨(some 281), none, .f (.pick (.t 275) (.c (.bool true)) (.t 280))⟩])
 (.cond (.t 281)
  .ret
  .skip))
 (.seq (.seq (.dreg [
   ⟨(some 282), none, .f (.mv (.t 9))⟩,
   ⟨(some 283), none, .f (.nck (.t 282))⟩,
   ⟨(some 284), none, .f (.fadr 6 (.t 283))⟩,
   ⟨(some 285), none, .f (.ld (.t 284))⟩,
   ⟨(some 286), none, .f (.nck (.t 285))⟩,
   ⟨(some 287), none, .f (.fadr 9 (.t 286))⟩,
   ⟨(some 288), none, .f (.ld (.t 287))⟩,
   ⟨(some 289), none, .f (.len (.t 288))⟩,
   ⟨(some 290), none, .f (.bin .add (.c (.int .i64 20)) (.t 289))⟩,
   ⟨(some 291), none, .f (.mv (.t 9))⟩,
   ⟨(some 292), none, .f (.nck (.t 291))⟩,
   ⟨(some 293), none, .f (.fadr 5 (.t 292))⟩,
   ⟨(some 294), none, .f (.ld (.t 293))⟩,
   ⟨(some 295), none, .f (.bin .add (.t 290) (.t 294))⟩,
   ⟨(some 296), none, .f (.bin .gtr (.t 295) (.c (.int .i64 65535)))⟩]
   [false, false, false, false, false, false, false, false, false, false, false, false, false, false, false] [[], [0], [1, 0], [2, 1, 0], [3, 2, 1, 0], [4, 3, 2, 1, 0], [5, 4, 3, 2, 1, 0], [6, 5, 4, 3, 2, 1, 0], [7, 6, 5, 4, 3, 2, 1, 0], [], [9], [10, 9], [11, 10, 9], [8, 7, 6, 5, 4, 3, 2, 1, 0, 12, 11, 10, 9], [13, 8, 7, 6, 5, 4, 3, 2, 1, 0, 12, 11, 10, 9]] [0, 1, 2, 3, 4, 5, 6, 7, 8, 9, 10, 11, 12, 13, 14])
 (.cond (.t 296)
  (.seq (.reg [
    ⟨(some 297), none, .f (.mv (.t 9))⟩,
    ⟨(some 298), none, .x (.call 74 [(.t 297)])⟩])
  .ret)
  .skip))
 (.seq (.reg [
   ⟨(some 16), none, .f (.mv (.c (.int .i64 0)))⟩])
 (.seq (.seq (.reg [
   ⟨(some 299), none, .f (.mv (.t 9))⟩,
   ⟨(some 300), none, .f (.nck (.t 299))⟩,
   ⟨(some 301), none, .f (.fadr 4 (.t 300))⟩,
   ⟨(some 302), none, .f (.ld (.t 301))⟩,
   ⟨(some 303), none, .f (.len (.t 302))⟩,
   ⟨(some 304), none, .f (.mv (.c (.int .i64 0)))⟩])
 (.block 2 (.loop (.seq (.reg [
     ⟨(some 305), none, .f (.bin .lss (.t 304) (.t 303))⟩])
   (.seq (.cond (.t 305)
    .skip
    (.exit 2))
   (.seq (.block 3 (.seq (.reg [
      ⟨(some 306), none, .f (.iadr 2 (.t 302) (.t 304))⟩,
      ⟨(some 307), none, .f (.ldA 2 (.t 306))⟩,
      ⟨(some 18), none, .x (.zero 116 2 [(.int .i64 0), .nilslice])⟩,
      ⟨none, none, .x (.st 2 (.t 18) (.t 307))⟩])
    (.reg [
      ⟨(some 308), none, .f (.mv (.t 16))⟩,
      ⟨(some 309), none, .f (.fadr 1 (.t 18))⟩,
      ⟨(some 310), none, .f (.ld (.t 309))⟩,
      ⟨(some 311), none, .f (.len (.t 310))⟩,
      ⟨(some 312), none, .f (.bin .add (.t 308) (.t 311))⟩,
      ⟨(some 16), none, .f (.mv (.t 312))⟩])))
   (.reg [
     ⟨(some 313), none, .f (.bin .add (.t 304) (.c (.int .i64 1)))⟩,
     ⟨(some 304), none, .f (.mv (.t 313))⟩])))))))
 (.seq (.seq (.reg [
   ⟨(some 314), none, .f (.mv (.t 16))⟩,
   ⟨(some 315), none, .f (.mv (.t 9))⟩,
   ⟨(some 316), none, .f (.nck (.t 315))⟩,
   ⟨(some 317), none, .f (.fadr 5 (.t 316))⟩,
   ⟨(some 318), none, .f (.ld (.t 317))⟩,
   ⟨(some 319), none, .f (.bin .lss (.t 314) (.t 318))⟩])
 (.cond (.t 319)
  .ret
  .skip))
 (.seq (.reg [
   ⟨(some 320), none, .f (.mv (.t 2))⟩,
   ⟨(some 321), none, .f (.nck (.t 320))⟩,
   ⟨(some 322), none, .f (.fadr 1 (.t 321))⟩,
   ⟨none, none, .x (.st 1 (.t 322) (.c (.bool true)))⟩])
 (.seq (.reg [
   ⟨(some 323), none, .f (.mv (.t 2))⟩,
   ⟨(some 324), none, .f (.mv (.t 9))⟩,
   ⟨(some 325), none, .f (.nck (.t 324))⟩,
   ⟨(some 326), none, .f (.fadr 6 (.t 325))⟩,
   ⟨(some 327), none, .f (.ld (.t 326))⟩,
   ⟨(some 328), none, .f (.nck (.t 327))⟩,
   ⟨(some 329), none, .f (.ldA 11 (.t 328))⟩,
   ⟨(some 330), none, .f (.nck (.t 323))⟩,
   ⟨(some 331), none, .f (.fadr 2 (.t 330))⟩,
   ⟨none, none, .x (.st 11 (.t 331) (.t 329))⟩])
 (.seq (.reg [
   ⟨(some 332), none, .f (.mv (.t 2))⟩,
   ⟨(some 333), none, .f (.nck (.t 332))⟩,
   ⟨(some 334), none, .f (.fadr 2 (.t 333))⟩,
   ⟨(some 335), none, .f (.fadr 3 (.t 334))⟩,
   ⟨none, none, .x (.st 1 (.t 335) (.c (.bool false)))⟩])
 (.seq (.reg [
   ⟨(some 336), none, .f (.mv (.t 2))⟩,
   ⟨(some 337), none, .f (.mv (.t 9))⟩,
   ⟨(some 338), none, .f (.nck (.t 337))⟩,
   ⟨(some 339), none, .f (.fadr 5 (.t 338))⟩,
   ⟨(some 340), none, .f (.ld (.t 339))⟩,
   ⟨(some 341), none, .x (.mks 5 1 1 [(.int .u8 0)] (.t 340) (.t 340))⟩,
   ⟨(some 342), none, .f (.nck (.t 336))⟩,
   ⟨(some 343), none, .f (.fadr 2 (.t 342))⟩,
   ⟨(some 344), none, .f (.fadr 10 (.t 343))⟩,
   ⟨none, none, .x (.st 1 (.t 344) (.t 341))⟩])
 (.seq (.seq (.reg [
   ⟨(some 345), none, .f (.mv (.t 9))⟩,
   ⟨(some 346), none, .f (.nck (.t 345))⟩,
   ⟨(some 347), none, .f (.fadr 4 (.t 346))⟩,
   ⟨(some 348), none, .f (.ld (.t 347))⟩,
   ⟨(some 349), none, .f (.len (.t 348))⟩,
   ⟨(some 350), none, .f (.mv (.c (.int .i64 0)))⟩])
 (.block 4 (.loop (.seq (.reg [
     ⟨(some 351), none, .f (.bin .lss (.t 350) (.t 349))⟩])
   (.seq (.cond (.t 351)
    .skip
    (.exit 4))
   (.seq (.block 5 (.seq (.reg [
      ⟨(some 352), none, .f (.iadr 2 (.t 348) (.t 350))⟩,
      ⟨(some 353), none, .f (.ldA 2 (.t 352))⟩,
      ⟨(some 20), none, .x (.zero 116 2 [(.int .i64 0), .nilslice])⟩,
      ⟨none, none, .x (.st 2 (.t 20) (.t 353))⟩])
    (.dreg [
      ⟨(some 354), none, .f (.mv (.t 2))⟩,
      ⟨(some 355), none, .f (.nck (.t 354))⟩,
      ⟨(some 356), none, .f (.fadr 2 (.t 355))⟩,
      ⟨(some 357), none, .f (.fadr 10 (.t 356))⟩,
      ⟨(some 358), none, .f (.ld (.t 357))⟩,
      ⟨(some 359), none, .f (.fadr 0 (.t 20))⟩,
      ⟨(some 360), none, .f (.ld (.t 359))⟩,
      ⟨(some 361), none, .f (.slc 1 (.t 358) (some (.t 360)) none none)⟩,
      ⟨(some 362), none, .f (.fadr 1 (.t 20))⟩,
      ⟨(some 363), none, .f (.ld (.t 362))⟩,
      ⟨(some 364), none, .x (.copy 1 (.t 361) (.t 363))⟩]
      [false, false, false, false, false, false, false, false, false, false, true] [[], [0], [1, 0], [2, 1, 0], [3, 2, 1, 0], [], [5], [4, 3, 2, 1, 0, 6, 5], [], [8], [7, 4, 3, 2, 1, 0, 6, 5, 9, 8]] [0, 1, 2, 3, 4, 5, 6, 7, 8, 9, 10])))
   (.reg [
     ⟨(some 365), none, .f (.bin .add (.t 350) (.c (.int .i64 1)))⟩,
     ⟨(some 350), none, .f (.mv (.t 365))⟩])))))))
 (.reg [
   ⟨(some 366), none, .f (.mv (.t 0))⟩,
   ⟨(some 367), none, .f (.mv (.t 0))⟩,
   ⟨(some 368), none, .f (.nck (.t 367))⟩,
   ⟨(some 369), none, .f (.fadr 1 (.t 368))⟩,
   ⟨(some 370), none, .f (.ld (.t 369))⟩,
   ⟨(some 371), none, .f (.mv (.t 8))⟩,
   ⟨(some 372), none, .f (.mv (.t 8))⟩,
   ⟨(some 373), none, .f (.bin .add (.t 372) (.c (.int .i64 1)))⟩,
   ⟨(some 374), none, .x (.call 72 [(.t 370), (.t 371), (.t 373)])⟩,
   ⟨(some 375), none, .f (.nck (.t 366))⟩,
   ⟨(some 376), none, .f (.fadr 1 (.t 375))⟩,
   ⟨none, none, .x (.st 1 (.t 376) (.t 374))⟩]))))))))))))))))))))))))))
theorem ok54 : fnComp Try.prog 54 = some (377, c54, []) := by kernel_rfl

def c55 : CC :=
 (.seq (.reg [
   ⟨(some 4), none, .f (.mv (.c (.bool false)))⟩])
 (.seq (.reg [
   ⟨(some 5), none, .f (.mv (.t 1))⟩,
   ⟨(some 6), none, .f (.bin .geq (.t 5) (.c (.int .i64 0)))⟩,
   ⟨(some 7), none, .f (.mv (.t 6))⟩,
   ⟨(some 8), (some (7, true)), .f (.mv (.t 1))⟩,
   ⟨(some 9), (some (7, true)), .f (.bin .leq (.t 8) (.c (.int .i64 1000000000)))⟩,
   ⟨(some 10), none, .f (.pick (.t 7) (.t 9) (.c (.bool false)))⟩,
   ⟨(some 11), none, .f (.mv (.t 10))⟩,
   ⟨(some 12), (some (11, true)), .f (.mv (.t 0))⟩,
   ⟨(some 13), (some (11, true)), .f (.mv (.t 1))⟩,
   ⟨(some 14), (some (11, true)), .f (.bin .add (.t 12) (.t 13))⟩,
   ⟨(some 15), (some (11, true)), .f (.bin .leq (.t 14) (.c (.int .i64 1000000000)))⟩,
   ⟨(some 16), none, .f (.pick (.t 11) (.t 15) (.c (.bool false)))⟩,
   ⟨(some 4), none, .f (.mv (.t 16))⟩])
 .ret))
theorem ok55 : fnComp Try.prog 55 = some (17, c55, [(.mv (.t 4))]) := by kernel_rfl

def c56 : CC :=
 (.seq (.reg [
   ⟨(some 2), none, .f (.mv (.c .nilslice))⟩])
 (.seq (.reg [
   ⟨(some 3), none, .f (.mv (.c .nilslice))⟩,
   ⟨(some 4), none, .f (.mv (.c .nilslice))⟩])
 (.seq (.seq (.reg [
   ⟨(some 7), none, .f (.mv (.t 0))⟩,
   ⟨(some 8), none, .f (.nck (.t 7))⟩,
   ⟨(some 9), none, .f (.fadr 1 (.t 8))⟩,
   ⟨(some 10), none, .f (.ld (.t 9))⟩,
   ⟨(some 11), none, .f (.len (.t 10))⟩,
   ⟨(some 12), none, .f (.mv (.c (.int .i64 0)))⟩])
 (.block 0 (.loop (.seq (.reg [
     ⟨(some 13), none, .f (.bin .lss (.t 12) (.t 11))⟩])
   (.seq (.cond (.t 13)
    .skip
    (.exit 0))
   (.seq (.block 1 (.seq (.reg [
      ⟨(some 14), none, .f (.iadr 1 (.t 10) (.t 12))⟩,
      ⟨(some 15), none, .f (.ld (.t 14))⟩,
      ⟨(some 6), none, .f (.mv (.t 15))⟩])
    (.seq (.dreg [
      ⟨(some 16), none, .f (.mv (.t 6))⟩,
      ⟨(some 17), none, .f (.nck (.t 16))⟩,
      ⟨(some 18), none, .f (.fadr 7 (.t 17))⟩,
      ⟨(some 19), none, .f (.ld (.t 18))⟩,
      ⟨(some 20), none, .f (.bin .add (.t 19) (.c (.int .i64 30000)))⟩,
      ⟨(some 21), none, .f (.mv (.t 0))⟩,
      ⟨(some 22), none, .f (.nck (.t 21))⟩,
      ⟨(some 23), none, .f (.fadr 0 (.t 22))⟩,
      ⟨(some 24), none, .f (.ld (.t 23))⟩,
      ⟨(some 25), none, .f (.bin .leq (.t 20) (.t 24))⟩]
      [false, false, false, false, false, false, false, false, false, false] [[], [0], [1, 0], [2, 1, 0], [3, 2, 1, 0], [], [5], [6, 5], [7, 6, 5], [4, 3, 2, 1, 0, 8, 7, 6, 5]] [0, 1, 2, 3, 4, 5, 6, 7, 8, 9])
    (.cond (.t 25)
     (.reg [
       ⟨(some 26), none, .f (.mv (.t 3))⟩,
       ⟨(some 27), none, .f (.mv (.t 6))⟩,
       ⟨(some 28), none, .x (.bslice 105 1 [.nilptr] 1 [(0, (.t 27))])⟩,
       ⟨(some 29), none, .x (.app 105 1 8 (.t 26) (.t 28))⟩,
       ⟨(some 3), none, .f (.mv (.t 29))⟩])
     (.reg [
       ⟨(some 30), none, .f (.mv (.t 4))⟩,
       ⟨(some 31), none, .f (.mv (.t 6))⟩,
       ⟨(some 32), none, .x (.bslice 105 1 [.nilptr] 1 [(0, (.t 31))])⟩,
       ⟨(some 33), none, .x (.app 105 1 8 (.t 30) (.t 32))⟩,
       ⟨(some 4), none, .f (.mv (.t 33))⟩])))))
   (.reg [
     ⟨(some 34), none, .f (.bin .add (.t 12) (.c (.int .i64 1)))⟩,
     ⟨(some 12), none, .f (.mv (.t 34))⟩])))))))
 (.seq (.reg [
   ⟨(some 35), none, .f (.mv (.t 0))⟩,
   ⟨(some 36), none, .f (.mv (.t 4))⟩,
   ⟨(some 37), none, .f (.nck (.t 35))⟩,
   ⟨(some 38), none, .f (.fadr 1 (.t 37))⟩,
   ⟨none, none, .x (.st 1 (.t 38) (.t 36))⟩])
 (.seq (.reg [
   ⟨(some 39), none, .f (.mv (.t 3))⟩,
   ⟨(some 2), none, .f (.mv (.t 39))⟩])
 .ret)))))
theorem ok56 : fnComp Try.prog 56 = some (40, c56, [(.mv (.t 2))]) := by kernel_rfl

def c57 : CC :=
 (.seq (.reg [
   ⟨(some 2), none, .x (.zero 113 5 [(.int .i64 0), (.int .i64 0), (.int .i64 0), (.int .i64 0), (.bool false)])⟩])
 (.seq (.dreg [
   ⟨(some 3), none, .f (.mv (.t 0))⟩,
   ⟨(some 4), none, .f (.nck (.t 3))⟩,
   ⟨(some 5), none, .f (.fadr 0 (.t 4))⟩,
   ⟨(some 6), none, .f (.fadr 0 (.t 5))⟩,
   ⟨(some 7), none, .f (.ld (.t 6))⟩,
   ⟨(some 8), none, .f (.mv (.t 0))⟩,
   ⟨(some 9), none, .f (.nck (.t 8))⟩,
   ⟨(some 10), none, .f (.fadr 0 (.t 9))⟩,
   ⟨(some 11), none, .f (.fadr 1 (.t 10))⟩,
   ⟨(some 12), none, .f (.ld (.t 11))⟩,
   ⟨(some 13), none, .f (.mv (.t 0))⟩,
   ⟨(some 14), none, .f (.nck (.t 13))⟩,
   ⟨(some 15), none, .f (.fadr 0 (.t 14))⟩,
   ⟨(some 16), none, .f (.fadr 2 (.t 15))⟩,
   ⟨(some 17), none, .f (.ld (.t 16))⟩,
   ⟨(some 18), none, .f (.mv (.t 0))⟩,
   ⟨(some 19), none, .f (.nck (.t 18))⟩,
   ⟨(some 20), none, .f (.fadr 0 (.t 19))⟩,
   ⟨(some 21), none, .f (.fadr 3 (.t 20))⟩,
   ⟨(some 22), none, .f (.ld (.t 21))⟩,
   ⟨(some 23), none, .f (.mv (.t 0))⟩,
   ⟨(some 24), none, .f (.nck (.t 23))⟩,
   ⟨(some 25), none, .f (.fadr 6 (.t 24))⟩,
   ⟨(some 26), none, .f (.ld (.t 25))⟩,
   ⟨(some 27), none, .f (.eqn .ptr true (.t 26) (.c .nilptr))⟩,
   ⟨(some 28), none, .f (.build [(.int .i64 0), (.int .i64 0), (.int .i64 0), (.int .i64 0), (.bool false)] [(0, 1, (.t 7)), (1, 1, (.t 12)), (2, 1, (.t 17)), (3, 1, (.t 22)), (4, 1, (.t 27))])⟩,
   ⟨none, none, .x (.st 5 (.t 2) (.t 28))⟩]
   [false, false, false, false, false, false, false, false, false, false, false, false, false, false, false, false, false, false, false, false, false, false, false, false, false, false, true] [[], [0], [1, 0], [2, 1, 0], [3, 2, 1, 0], [], [5], [6, 5], [7, 6, 5], [8, 7, 6, 5], [], [10], [11, 10], [12, 11, 10], [13, 12, 11, 10], [], [15], [16, 15], [17, 16, 15], [18, 17, 16, 15], [], [20], [21, 20], [22, 21, 20], [23, 22, 21, 20], [4, 3, 2, 1, 0, 9, 8, 7, 6, 5, 14, 13, 12, 11, 10, 19, 18, 17, 16, 15, 24, 23, 22, 21, 20], [25, 4, 3, 2, 1, 0, 9, 8, 7, 6, 5, 14, 13, 12, 11, 10, 19, 18, 17, 16, 15, 24, 23, 22, 21, 20]] [0, 1, 2, 3, 4, 5, 6, 7, 8, 9, 10, 11, 12, 13, 14, 15, 16, 17, 18, 19, 20, 21, 22, 23, 24, 25, 26])
 .ret))
theorem ok57 : fnComp Try.prog 57 = some (29, c57, [(.ldA 5 (.t 2))]) := by kernel_rfl

def c60 : CC :=
 (.seq (.reg [
   ⟨(some 2), none, .f (.mv (.c (.bool false)))⟩])
 (.seq (.reg [
   ⟨(some 3), none, .f (.mv (.t 0))⟩,
   ⟨(some 4), none, .f (.bin .geq (.t 3) (.c (.int .i64 0)))⟩,
   ⟨(some 5), none, .f (.mv (.t 4))⟩,
   ⟨(some 6), (some (5, true)), .f (.mv (.t 0))⟩,
   ⟨(some 7), (some (5, true)), .f (.bin .leq (.t 6) (.c (.int .i64 4294967295)))⟩,
   ⟨(some 8), none, .f (.pick (.t 5) (.t 7) (.c (.bool false)))⟩,
   ⟨(some 2), none, .f (.mv (.t 8))⟩])
 .ret))
theorem ok60 : fnComp Try.prog 60 = some (9, c60, [(.mv (.t 2))]) := by kernel_rfl

def c61 : CC :=
 (.seq (.reg [
   ⟨(some 6), none, .f (.mv (.c (.bool false)))⟩])
 (.seq (.reg [
   ⟨(some 7), none, .f (.mv (.t 0))⟩,
   ⟨(some 8), none, .f (.mv (.t 1))⟩,
   ⟨(some 9), none, .f (.bin .geq (.t 7) (.t 8))⟩,
   ⟨(some 10), none, .f (.mv (.t 9))⟩,
   ⟨(some 11), (some (10, true)), .f (.mv (.t 0))⟩,
   ⟨(some 12), (some (10, true)), .f (.mv (.t 2))⟩,
   ⟨(some 13), (some (10, true)), .f (.bin .leq (.t 11) (.t 12))⟩,
   ⟨(some 14), none, .f (.pick (.t 10) (.t 13) (.c (.bool false)))⟩,
   ⟨(some 6), none, .f (.mv (.t 14))⟩])
 .ret))
theorem ok61 : fnComp Try.prog 61 = some (15, c61, [(.mv (.t 6))]) := by kernel_rfl

def c62 : CC :=
 (.seq (.reg [
   ⟨(some 2), none, .f (.mv (.c (.bool false)))⟩])
 (.seq (.reg [
   ⟨(some 3), none, .f (.mv (.t 0))⟩,
   ⟨(some 4), none, .x (.call 61 [(.t 3), (.c (.int .i64 0)), (.c (.int .i64 4294967295))])⟩,
   ⟨(some 2), none, .f (.mv (.t 4))⟩])
 .ret))
theorem ok62 : fnComp Try.prog 62 = some (5, c62, [(.mv (.t 2))]) := by kernel_rfl

def c64 : CC :=
 (.seq (.reg [
   ⟨(some 2), none, .f (.mv (.c .nilslice))⟩])
 (.seq (.reg [
   ⟨(some 5), none, .x (.bslice 5 1 [(.int .u8 0)] 0 [])⟩,
   ⟨(some 3), none, .f (.mv (.t 5))⟩])
 (.seq (.seq (.reg [
   ⟨(some 4), none, .f (.mv (.c (.int .i64 0)))⟩])
 (.block 0 (.loop (.seq (.seq (.reg [
     ⟨(some 6), none, .f (.mv (.t 4))⟩,
     ⟨(some 7), none, .f (.mv (.t 0))⟩,
     ⟨(some 8), none, .f (.len (.t 7))⟩,
     ⟨(some 9), none, .f (.bin .lss (.t 6) (.t 8))⟩])
   (.cond (.t 9)
    .skip
    (.exit 0)))
   (.seq (.block 1 (.reg [
      ⟨(some 12), none, .f (.mv (.t 3))⟩,
      ⟨(some 13), none, .f (.mv (.t 0))⟩,
      ⟨(some 14), none, .f (.mv (.t 4))⟩,
      ⟨(some 15), none, .f (.iadr 1 (.t 13) (.t 14))⟩,
      ⟨(some 16), none, .f (.ld (.t 15))⟩,
      ⟨(some 17), none, .x (.bslice 5 1 [(.int .u8 0)] 1 [(0, (.t 16))])⟩,
      ⟨(some 18), none, .x (.app 5 1 1 (.t 12) (.t 17))⟩,
      ⟨(some 3), none, .f (.mv (.t 18))⟩]))
   (.reg [
     ⟨(some 10), none, .f (.mv (.t 4))⟩,
     ⟨(some 11), none, .f (.bin .add (.t 10) (.c (.int .i64 1)))⟩,
     ⟨(some 4), none, .f (.mv (.t 11))⟩]))))))
 (.seq (.reg [
   ⟨(some 19), none, .f (.mv (.t 3))⟩,
   ⟨(some 2), none, .f (.mv (.t 19))⟩])
 .ret))))
theorem ok64 : fnComp Try.prog 64 = some (20, c64, [(.mv (.t 2))]) := by kernel_rfl

def c65 : CC :=
 (.seq (.reg [
   ⟨(some 4), none, .f (.mv (.c .nilslice))⟩])
 (.seq (.reg [
   ⟨(some 7), none, .x (.bslice 5 1 [(.int .u8 0)] 0 [])⟩,
   ⟨(some 5), none, .f (.mv (.t 7))⟩])
 (.seq (.seq (.reg [
   ⟨(some 8), none, .f (.mv (.t 1))⟩,
   ⟨(some 9), none, .f (.bin .sub (.t 8) (.c (.int .i64 1)))⟩,
   ⟨(some 6), none, .f (.mv (.t 9))⟩])
 (.block 0 (.loop (.seq (.seq (.reg [
     ⟨(some 10), none, .f (.mv (.t 6))⟩,
     ⟨(some 11), none, .f (.bin .geq (.t 10) (.c (.int .i64 0)))⟩])
   (.cond (.t 11)
    .skip
    (.exit 0)))
   (.seq (.block 1 (.reg [
      ⟨(some 14), none, .f (.mv (.t 5))⟩,
      ⟨(some 15), none, .f (.mv (.t 0))⟩,
      ⟨(some 16), none, .f (.mv (.t 6))⟩,
      ⟨(some 17), none, .f (.bin .mul (.c (.int .i64 8)) (.t 16))⟩,
      ⟨(some 18), none, .f (.cvI .u64 (.t 17))⟩,
      ⟨(some 19), none, .f (.bin .shr (.t 15) (.t 18))⟩,
      ⟨(some 20), none, .f (.cvI .u8 (.t 19))⟩,
      ⟨(some 21), none, .x (.bslice 5 1 [(.int .u8 0)] 1 [(0, (.t 20))])⟩,
      ⟨(some 22), none, .x (.app 5 1 1 (.t 14) (.t 21))⟩,
      ⟨(some 5), none, .f (.mv (.t 22))⟩]))
   (.reg [
     ⟨(some 12), none, .f (.mv (.t 6))⟩,
     ⟨(some 13), none, .f (.bin .sub (.t 12) (.c (.int .i64 1)))⟩,
     ⟨(some 6), none, .f (.mv (.t 13))⟩]))))))
 (.seq (.reg [
   ⟨(some 23), none, .f (.mv (.t 5))⟩,
   ⟨(some 4), none, .f (.mv (.t 23))⟩])
 .ret))))
theorem ok65 : fnComp Try.prog 65 = some (24, c65, [(.mv (.t 4))]) := by kernel_rfl

def c66 : CC :=
 (.seq (.reg [
   ⟨(some 4), none, .f (.mv (.c (.int .i64 0)))⟩])
 (.seq (.seq (.reg [
   ⟨(some 5), none, .f (.mv (.t 0))⟩])
 (.cond (.t 5)
  (.seq (.reg [
    ⟨(some 6), none, .f (.mv (.t 1))⟩,
    ⟨(some 4), none, .f (.mv (.t 6))⟩])
  .ret)
  .skip))
 (.seq (.reg [
   ⟨(some 4), none, .f (.mv (.c (.int .i64 0)))⟩])
 .ret)))
theorem ok66 : fnComp Try.prog 66 = some (7, c66, [(.mv (.t 4))]) := by kernel_rfl

def c67 : CC :=
 (.seq (.reg [
   ⟨(some 2), none, .f (.mv (.c (.int .i64 0)))⟩])
 (.seq (.reg [
   ⟨(some 3), none, .f (.mv (.t 0))⟩,
   ⟨(some 4), none, .x (.call 77 [(.t 3)])⟩,
   ⟨(some 5), none, .f (.bin .sub (.c (.int .i64 65535)) (.t 4))⟩,
   ⟨(some 2), none, .f (.mv (.t 5))⟩])
 .ret))
theorem ok67 : fnComp Try.prog 67 = some (6, c67, [(.mv (.t 2))]) := by kernel_rfl

def c68 : CC :=
 (.seq (.reg [
   ⟨(some 4), none, .f (.mv (.c (.bool false)))⟩])
 (.seq (.reg [
   ⟨(some 5), none, .f (.mv (.t 0))⟩,
   ⟨(some 6), none, .f (.b2s (.t 5))⟩,
   ⟨(some 7), none, .f (.mv (.t 1))⟩,
   ⟨(some 8), none, .f (.b2s (.t 7))⟩,
   ⟨(some 9), none, .f (.bin .eql (.t 6) (.t 8))⟩,
   ⟨(some 4), none, .f (.mv (.t 9))⟩])
 .ret))
theorem ok68 : fnComp Try.prog 68 = some (10, c68, [(.mv (.t 4))]) := by kernel_rfl

def c70 : CC :=
 (.seq (.reg [
   ⟨(some 4), none, .f (.mv (.c (.int .i64 0)))⟩])
 (.seq (.seq (.reg [
   ⟨(some 6), none, .f (.mv (.t 0))⟩,
   ⟨(some 7), none, .f (.len (.t 6))⟩,
   ⟨(some 8), none, .f (.mv (.c (.int .i64 0)))⟩])
 (.block 0 (.loop (.seq (.reg [
     ⟨(some 9), none, .f (.bin .lss (.t 8) (.t 7))⟩])
   (.seq (.cond (.t 9)
    .skip
    (.exit 0))
   (.seq (.block 1 (.seq (.reg [
      ⟨(some 10), none, .f (.mv (.t 8))⟩,
      ⟨(some 5), none, .f (.mv (.t 10))⟩])
    (.seq (.reg [
      ⟨(some 11), none, .f (.mv (.t 1))⟩,
      ⟨(some 12), none, .f (.mv (.t 0))⟩,
      ⟨(some 13), none, .f (.mv (.t 5))⟩,
      ⟨(some 14), none, .f (.iadr 1 (.t 12) (.t 13))⟩,
      ⟨(some 15), none, .f (.ld (.t 14))⟩,
      ⟨(some 16), none, .x (.callv (.t 11) [(.t 15)])⟩])
    (.cond (.t 16)
     (.seq (.reg [
       ⟨(some 17), none, .f (.mv (.t 5))⟩,
       ⟨(some 4), none, .f (.mv (.t 17))⟩])
     .ret)
     .skip))))
   (.reg [
     ⟨(some 18), none, .f (.bin .add (.t 8) (.c (.int .i64 1)))⟩,
     ⟨(some 8), none, .f (.mv (.t 18))⟩])))))))
 (.seq (.reg [
   ⟨(some 4), none, .f (.mv (.c (.int .i64 (-1))))⟩])
 .ret)))
theorem ok70 : fnComp Try.prog 70 = some (19, c70, [(.mv (.t 4))]) := by kernel_rfl

def c71 : CC :=
 (.seq (.reg [
   ⟨(some 3), none, .f (.mv (.c (.bool false)))⟩])
 (.seq (.dreg [
   ⟨(some 4), none, .f (.mv (.t 0))⟩,
   ⟨(some 5), none, .f (.nck (.t 4))⟩,
   ⟨(some 6), none, .f (.fadr 0 (.t 5))⟩,
   ⟨(some 7), none, .f (.ldA 4 (.t 6))⟩,
   ⟨(some 8), none, .f (.ldA 4 (.t 1))⟩,
   ⟨(some 9), none, .f (.u (.aeq false [0, 0, 0, 0]) [(.t 7), (.t 8)])⟩,
   ⟨(some 3), none, .f (.mv (.t 9))⟩]
   [false, false, false, false, false, false, false] [[], [0], [1, 0], [2, 1, 0], [], [3, 2, 1, 0, 4], [5, 3, 2, 1, 0, 4]] [0, 1, 2, 3, 4, 5, 6])
 .ret))
theorem ok71 : fnComp Try.prog 71 = some (10, c71, [(.mv (.t 3))]) := by kernel_rfl

def c73 : CC :=
 (.seq (.reg [
   ⟨(some 4), none, .f (.mv (.c (.bool false)))⟩])
 (.seq (.reg [
   ⟨(some 5), none, .f (.mv (.t 0))⟩,
   ⟨(some 6), none, .f (.b2s (.t 5))⟩,
   ⟨(some 7), none, .f (.mv (.t 1))⟩,
   ⟨(some 8), none, .f (.b2s (.t 7))⟩,
   ⟨(some 9), none, .f (.bin .eql (.t 6) (.t 8))⟩,
   ⟨(some 4), none, .f (.mv (.t 9))⟩])
 .ret))
theorem ok73 : fnComp Try.prog 73 = some (10, c73, [(.mv (.t 4))]) := by kernel_rfl

def c74 : CC :=
 (.reg [
   ⟨(some 2), none, .f (.mv (.t 0))⟩,
   ⟨(some 3), none, .f (.mv (.t 0))⟩,
   ⟨(some 4), none, .f (.mv (.t 0))⟩,
   ⟨(some 5), none, .f (.mv (.t 0))⟩,
   ⟨(some 6), none, .f (.nck (.t 2))⟩,
   ⟨(some 7), none, .f (.fadr 8 (.t 6))⟩,
   ⟨none, none, .x (.st 1 (.t 7) (.c (.bool true)))⟩,
   ⟨(some 8), none, .f (.nck (.t 3))⟩,
   ⟨(some 9), none, .f (.fadr 4 (.t 8))⟩,
   ⟨none, none, .x (.st 1 (.t 9) (.c .nilslice))⟩,
   ⟨(some 10), none, .f (.nck (.t 4))⟩,
   ⟨(some 11), none, .f (.fadr 6 (.t 10))⟩,
   ⟨none, none, .x (.st 1 (.t 11) (.c .nilptr))⟩,
   ⟨(some 12), none, .f (.nck (.t 5))⟩,
   ⟨(some 13), none, .f (.fadr 5 (.t 12))⟩,
   ⟨none, none, .x (.st 1 (.t 13) (.c (.int .i64 (-1))))⟩])
theorem ok74 : fnComp Try.prog 74 = some (14, c74, []) := by kernel_rfl

def c77 : CC :=
 (.seq (.reg [
   ⟨(some 2), none, .f (.mv (.c (.int .i64 0)))⟩])
 (.seq (.reg [
   ⟨(some 3), none, .f (.mv (.c (.int .i64 0)))⟩])
 (.seq (.seq (.reg [
   ⟨(some 4), none, .f (.mv (.c (.int .i64 0)))⟩])
 (.block 0 (.loop (.seq (.seq (.reg [
     ⟨(some 6), none, .f (.mv (.t 4))⟩,
     ⟨(some 7), none, .f (.mv (.t 0))⟩,
     ⟨(some 8), none, .f (.len (.t 7))⟩,
     ⟨(some 9), none, .f (.bin .lss (.t 6) (.t 8))⟩])
   (.cond (.t 9)
    .skip
    (.exit 0)))
   (.seq (.block 1 (.seq (.reg [
      ⟨(some 12), none, .f (.mv (.t 0))⟩,
      ⟨(some 13), none, .f (.mv (.t 4))⟩,
      ⟨(some 14), none, .f (.iadr 1 (.t 12) (.t 13))⟩,
      ⟨(some 15), none, .f (.ld (.t 14))⟩,
      ⟨(some 16), none, .f (.cvI .i64 (.t 15))⟩,
      ⟨(some 17), none, .f (.bin .mul (.t 16) (.c (.int .i64 256)))⟩,
      ⟨(some 5), none, .f (.mv (.t 17))⟩])
    (.seq (.seq (.reg [
      ⟨(some 18), none, .f (.mv (.t 4))⟩,
      ⟨(some 19), none, .f (.bin .add (.t 18) (.c (.int .i64 1)))⟩,
      ⟨(some 20), none, .f (.mv (.t 0))⟩,
      ⟨(some 21), none, .f (.len (.t 20))⟩,
      ⟨(some 22), none, .f (.bin .lss (.t 19) (.t 21))⟩])
    (.cond (.t 22)
     (.reg [
       ⟨(some 23), none, .f (.mv (.t 5))⟩,
       ⟨(some 24), none, .f (.mv (.t 0))⟩,
       ⟨(some 25), none, .f (.mv (.t 4))⟩,
       ⟨(some 26), none, .f (.bin .add (.t 25) (.c (.int .i64 1)))⟩,
       ⟨(some 27), none, .f (.iadr 1 (.t 24) (.t 26))⟩,
       ⟨(some 28), none, .f (.ld (.t 27))⟩,
       ⟨(some 29), none, .f (.cvI .i64 (.t 28))⟩,
       ⟨(some 30), none, .f (.bin .add (.t 23) (.t 29))⟩,
       ⟨(some 5), none, .f (.mv (.t 30))⟩])
     .skip))
    (.seq (.reg [
      ⟨(some 31), none, .f (.mv (.t 3))⟩,
      ⟨(some 32), none, .f (.mv (.t 5))⟩,
      ⟨(some 33), none, .f (.bin .add (.t 31) (.t 32))⟩,
      ⟨(some 3), none, .f (.mv (.t 33))⟩])
    (.seq (.reg [
      ⟨(some 34), none, .f (.mv (.t 3))⟩,
      ⟨(some 35), none, .f (.bin .gtr (.t 34) (.c (.int .i64 65535)))⟩])
    (.cond (.t 35)
     (.reg [
       ⟨(some 36), none, .f (.mv (.t 3))⟩,
       ⟨(some 37), none, .f (.bin .sub (.t 36) (.c (.int .i64 65535)))⟩,
       ⟨(some 3), none, .f (.mv (.t 37))⟩])
     .skip))))))
   (.reg [
     ⟨(some 10), none, .f (.mv (.t 4))⟩,
     ⟨(some 11), none, .f (.bin .add (.t 10) (.c (.int .i64 2)))⟩,
     ⟨(some 4), none, .f (.mv (.t 11))⟩]))))))
 (.seq (.reg [
   ⟨(some 38), none, .f (.mv (.t 3))⟩,
   ⟨(some 2), none, .f (.mv (.t 38))⟩])
 .ret))))
theorem ok77 : fnComp Try.prog 77 = some (39, c77, [(.mv (.t 2))]) := by kernel_rfl

end Go.Proofs.Ytjmmmmdpkfpojaa


namespace Go.Proofs.Ytjmmmmdpkfpojaa
open Go Go.IW

end Go.Proofs.Ytjmmmmdpkfpojaa



namespace Go.Proofs.Ytjmmmmdpkfpojaa
open Go Go.IW

theorem wr_u8 (x : Int) : wr .u8 x = ((UInt8.ofNat (x % 256).toNat).toNat : Int) := by
  have h1 : wr .u8 x = x % 256 := by unfold wr; rw [IntKind.wrap_u8]
  rw [h1]
  have h2 : (x % 256).toNat < 256 := by omega
  simp [UInt8.toNat_ofNat']
  omega
def byteAt (v : Int) (i : Nat) : UInt8 := UInt8.ofNat (v.fdiv (2 ^ (8 * i)) % 256).toNat
def beB : Nat → Int → List UInt8
  | 0, _ => []
  | k + 1, v => byteAt v k :: beB k v
theorem beB_len : ∀ (k : Nat) (v : Int), (beB k v).length = k
  | 0, _ => rfl
  | k + 1, v => by simp [beB, beB_len k v]
theorem strRows_append (a b : List UInt8) : strRows (a ++ b) = strRows a ++ strRows b := by simp [strRows]
theorem strRows_len (a : List UInt8) : (strRows a).length = a.length := by simp [strRows]
theorem strRows_at {a : List UInt8} {k : Nat} {b : UInt8} (h : a[k]? = some b) : (strRows a)[k]? = some [.int .u8 b.toNat] := by
  unfold strRows; rw [List.getElem?_map, h]; rfl

set_option maxRecDepth 20000 in
theorem l03Put_c (h : IH) (v : Int) (w : Nat) (hw : w ≤ 8) : ICalls Try.prog 65 [.int .i64 v, .int .i64 w] h fun r h' => Own h.n h'.n h' 5 1 r (strRows (beB w v)) ∧ Ext h h' := by
  refine icalls (.of ok65) (Nat.le_of_ble_eq_true rfl) ?_
  unfold c65
  have w0 : wr .i64 ((w : Int) - 1) = (w : Int) - 1 := wr64 _ (by omega)
  simp only [w0, go_sem, ↓act_zero, boxA_1, boxA_2, boxA_3, bslA_1, Hold.p, HoldK.k, HoldL.K, HoldL.body, Nat.reduceBEq, Nat.reduceAdd, List.getElem?_cons_zero, List.getElem?_cons_succ, Option.bind_some, mc0, mn0, Nat.zero_add, if_true, List.getD_cons_zero, List.getD_cons_succ, List.contains_cons, List.contains_nil, Nat.reduceBEq, Bool.or_true, Bool.true_or, Bool.or_false, Bool.false_or, Bool.not_true, Bool.not_false, true_and, and_true, rowA_whole, push_n, set_n, push_obj, set_obj, set_push, set_push_ne, set_set, Nat.add_assoc, Nat.left_eq_add, Nat.add_eq_left, Nat.add_left_cancel_iff, Nat.reduceEqDiff, stO_1s, stO_ws, boxA_s, one_bool, one_int, one_str, one_ptr, one_nilptr, one_slice, one_eslice, one_nilslice, one_func, one_iface, one_niliface, List.all_cons, List.all_nil, lc0, ln0, Nat.reduceLT, Nat.reduceEqDiff, Nat.reduceLeDiff, Bool.and_true, Nat.one_ne_zero, Nat.succ_ne_zero, reduceIte, if_false, List.getElem?_cons_zero, sz0, ss0]
  refine loop_at (fun n e g => ∃ (x : IV) (lo hi : Nat) (out : List UInt8), n ≤ w ∧ e 0 = .int .i64 v ∧ e 5 = x ∧ e 6 = .int .i64 ((n : Int) - 1) ∧ Ext h g ∧ h.n ≤ lo ∧ hi ≤ g.n ∧ Own lo hi g 5 1 x (strRows out) ∧ out ++ beB n v = beB w v) w ?_ ?_
  · refine ⟨.eslice true, h.n, h.n, [], Nat.le_refl _, ?_⟩
    simp only [go_sem, ↓act_zero, boxA_1, boxA_2, boxA_3, bslA_1, Hold.p, HoldK.k, HoldL.K, HoldL.body, Nat.reduceBEq, Nat.reduceAdd, List.getElem?_cons_zero, List.getElem?_cons_succ, Option.bind_some, mc0, mn0, Nat.zero_add, if_true, List.getD_cons_zero, List.getD_cons_succ, List.contains_cons, List.contains_nil, Nat.reduceBEq, Bool.or_true, Bool.true_or, Bool.or_false, Bool.false_or, Bool.not_true, Bool.not_false, true_and, and_true, rowA_whole, push_n, set_n, push_obj, set_obj, set_push, set_push_ne, set_set, Nat.add_assoc, Nat.left_eq_add, Nat.add_eq_left, Nat.add_left_cancel_iff, Nat.reduceEqDiff, stO_1s, stO_ws, boxA_s, one_bool, one_int, one_str, one_ptr, one_nilptr, one_slice, one_eslice, one_nilslice, one_func, one_iface, one_niliface, List.all_cons, List.all_nil, lc0, ln0, Nat.reduceLT, Nat.reduceEqDiff, Nat.reduceLeDiff, Bool.and_true, Nat.one_ne_zero, Nat.succ_ne_zero, reduceIte, if_false, List.getElem?_cons_zero, sz0, ss0]
    exact ⟨Ext.refl _, Nat.le_refl _, Nat.le_refl _, Own.empty, by simp⟩
  · rintro n e g ⟨x, lo, hi, out, hn, i0, i5, i6, E, hlo, hhi, o, hout⟩
    have hle := E.le
    cases n with
    | zero =>
      have d0 : decide ((0 : Int) ≤ ((0 : Nat) : Int) - 1) = false := decide_eq_false (by omega)
      simp only [i0, i5, i6, d0, go_sem, ↓act_zero, boxA_1, boxA_2, boxA_3, bslA_1, Hold.p, HoldK.k, HoldL.K, HoldL.body, Nat.reduceBEq, Nat.reduceAdd, List.getElem?_cons_zero, List.getElem?_cons_succ, Option.bind_some, mc0, mn0, Nat.zero_add, if_true, List.getD_cons_zero, List.getD_cons_succ, List.contains_cons, List.contains_nil, Nat.reduceBEq, Bool.or_true, Bool.true_or, Bool.or_false, Bool.false_or, Bool.not_true, Bool.not_false, true_and, and_true, rowA_whole, push_n, set_n, push_obj, set_obj, set_push, set_push_ne, set_set, Nat.add_assoc, Nat.left_eq_add, Nat.add_eq_left, Nat.add_left_cancel_iff, Nat.reduceEqDiff, stO_1s, stO_ws, boxA_s, one_bool, one_int, one_str, one_ptr, one_nilptr, one_slice, one_eslice, one_nilslice, one_func, one_iface, one_niliface, List.all_cons, List.all_nil, lc0, ln0, Nat.reduceLT, Nat.reduceEqDiff, Nat.reduceLeDiff, Bool.and_true, Nat.one_ne_zero, Nat.succ_ne_zero, reduceIte, if_false, List.getElem?_cons_zero, sz0, ss0]
      have : out = beB w v := by simpa [beB] using hout
      rw [← this]
      exact ⟨o.wide hlo hhi (Nat.le_refl _), E⟩
    | succ k =>
      have d0 : decide ((0 : Int) ≤ ((k + 1 : Nat) : Int) - 1) = true := decide_eq_true (by omega)
      have e1 : ((k + 1 : Nat) : Int) - 1 = (k : Int) := by omega
      have w1 : wr .i64 (8 * (k : Int)) = ((8 * k : Nat) : Int) := by rw [wr64 _ (by omega)]; omega
      have w2 : wr .u64 (((8 * k : Nat) : Int)) = ((8 * k : Nat) : Int) := by unfold wr; rw [IntKind.wrap_u64]; omega
      have w3 := ib_shr .i64 v ((8 * k : Nat) : Int) .u64 (by omega)
      have hmin : min ((8 * k : Nat) : Int).toNat IntKind.i64.bits = 8 * k := by
        have : IntKind.i64.bits = 64 := rfl
        rw [this]; omega
      rw [hmin] at w3
      have hol : out.length ≤ 8 := by
        have := congrArg List.length hout
        rw [la0, beB_len, beB_len] at this
        omega
      have w4 : wr .i64 ((k : Int) - 1) = (k : Int) - 1 := wr64 _ (by omega)
      have w5 : wr .u8 (v.fdiv (2 ^ (8 * k))) = ((byteAt v k).toNat : Int) := wr_u8 _
      rw [e1] at i6 d0
      simp only [i0, i5, i6, d0, w1, w2, w3, w5, go_sem, ↓act_zero, boxA_1, boxA_2, boxA_3, bslA_1, Hold.p, HoldK.k, HoldL.K, HoldL.body, Nat.reduceBEq, Nat.reduceAdd, List.getElem?_cons_zero, List.getElem?_cons_succ, Option.bind_some, mc0, mn0, Nat.zero_add, if_true, List.getD_cons_zero, List.getD_cons_succ, List.contains_cons, List.contains_nil, Nat.reduceBEq, Bool.or_true, Bool.true_or, Bool.or_false, Bool.false_or, Bool.not_true, Bool.not_false, true_and, and_true, rowA_whole, push_n, set_n, push_obj, set_obj, set_push, set_push_ne, set_set, Nat.add_assoc, Nat.left_eq_add, Nat.add_eq_left, Nat.add_left_cancel_iff, Nat.reduceEqDiff, stO_1s, stO_ws, boxA_s, one_bool, one_int, one_str, one_ptr, one_nilptr, one_slice, one_eslice, one_nilslice, one_func, one_iface, one_niliface, List.all_cons, List.all_nil, lc0, ln0, Nat.reduceLT, Nat.reduceEqDiff, Nat.reduceLeDiff, Bool.and_true, Nat.one_ne_zero, Nat.succ_ne_zero, reduceIte, if_false, List.getElem?_cons_zero, sz0, ss0]
      generalize hq_g1 : IH.push g (IObj.rows [[.int .u8 (byteAt v k).toNat]] 5 1 false) = g1
      have e_g1 : Ext g g1 := by rw [← hq_g1]; exact (Ext.refl _).push _
      have l_g1 : g1.n = g.n + 1 := by rw [← hq_g1]; rfl
      have ba : At g1 g.n (IObj.rows [[.int .u8 (byteAt v k).toNat]] 5 1 false) := by rw [← hq_g1]; exact At.new _ _
      clear hq_g1
      have o := o.ext e_g1
      have E := E.ext e_g1
      refine o.app (by simp) (by rw [strRows_len]; simp; omega) ?_
      intro v6 h6 o6 t6 n6 v6o v6c
      have E := E.turn o (by omega) t6
      have le_t6 := t6.le
      simp only [i0, i5, i6, w4, go_sem, ↓act_zero, boxA_1, boxA_2, boxA_3, bslA_1, Hold.p, HoldK.k, HoldL.K, HoldL.body, Nat.reduceBEq, Nat.reduceAdd, List.getElem?_cons_zero, List.getElem?_cons_succ, Option.bind_some, mc0, mn0, Nat.zero_add, if_true, List.getD_cons_zero, List.getD_cons_succ, List.contains_cons, List.contains_nil, Nat.reduceBEq, Bool.or_true, Bool.true_or, Bool.or_false, Bool.false_or, Bool.not_true, Bool.not_false, true_and, and_true, rowA_whole, push_n, set_n, push_obj, set_obj, set_push, set_push_ne, set_set, Nat.add_assoc, Nat.left_eq_add, Nat.add_eq_left, Nat.add_left_cancel_iff, Nat.reduceEqDiff, stO_1s, stO_ws, boxA_s, one_bool, one_int, one_str, one_ptr, one_nilptr, one_slice, one_eslice, one_nilslice, one_func, one_iface, one_niliface, List.all_cons, List.all_nil, lc0, ln0, Nat.reduceLT, Nat.reduceEqDiff, Nat.reduceLeDiff, Bool.and_true, Nat.one_ne_zero, Nat.succ_ne_zero, reduceIte, if_false, List.getElem?_cons_zero, sz0, ss0]
      refine ⟨k, Nat.lt_succ_self _, v6, g1.n, g1.n + 1, out ++ [byteAt v k], by omega, rfl, rfl, E, by omega, by omega, ?_, ?_⟩
      · rw [strRows_append]; exact o6
      · rw [← hout]; simp [beB]

set_option maxRecDepth 20000 in
theorem l01Copy_c (h : IH) (v : IV) (bs : List UInt8) (hs : SlR h 1 v (strRows bs)) (hbl : bs.length ≤ 16777216) : ICalls Try.prog 64 [v] h fun r h' => Own h.n h'.n h' 5 1 r (strRows bs) ∧ Ext h h' := by
  refine icalls (.of ok64) (Nat.le_of_ble_eq_true rfl) ?_
  unfold c64
  have hlen := hs.lenF
  rw [strRows_len] at hlen
  simp only [go_sem, ↓act_zero, boxA_1, boxA_2, boxA_3, bslA_1, Hold.p, HoldK.k, HoldL.K, HoldL.body, Nat.reduceBEq, Nat.reduceAdd, List.getElem?_cons_zero, List.getElem?_cons_succ, Option.bind_some, mc0, mn0, Nat.zero_add, if_true, List.getD_cons_zero, List.getD_cons_succ, List.contains_cons, List.contains_nil, Nat.reduceBEq, Bool.or_true, Bool.true_or, Bool.or_false, Bool.false_or, Bool.not_true, Bool.not_false, true_and, and_true, rowA_whole, push_n, set_n, push_obj, set_obj, set_push, set_push_ne, set_set, Nat.add_assoc, Nat.left_eq_add, Nat.add_eq_left, Nat.add_left_cancel_iff, Nat.reduceEqDiff, stO_1s, stO_ws, boxA_s, one_bool, one_int, one_str, one_ptr, one_nilptr, one_slice, one_eslice, one_nilslice, one_func, one_iface, one_niliface, List.all_cons, List.all_nil, lc0, ln0, Nat.reduceLT, Nat.reduceEqDiff, Nat.reduceLeDiff, Bool.and_true, Nat.one_ne_zero, Nat.succ_ne_zero, reduceIte, if_false, List.getElem?_cons_zero, sz0, ss0]
  refine loop_at (fun n e g => ∃ (x : IV) (lo hi k : Nat), n = bs.length - k ∧ k ≤ bs.length ∧ e 0 = v ∧ e 3 = x ∧ e 4 = .int .i64 (k : Nat) ∧ Ext h g ∧ h.n ≤ lo ∧ hi ≤ g.n ∧ Own lo hi g 5 1 x (strRows (bs.take k))) bs.length ?_ ?_
  · refine ⟨.eslice true, h.n, h.n, 0, by omega, by omega, ?_⟩
    simp only [go_sem, ↓act_zero, boxA_1, boxA_2, boxA_3, bslA_1, Hold.p, HoldK.k, HoldL.K, HoldL.body, Nat.reduceBEq, Nat.reduceAdd, List.getElem?_cons_zero, List.getElem?_cons_succ, Option.bind_some, mc0, mn0, Nat.zero_add, if_true, List.getD_cons_zero, List.getD_cons_succ, List.contains_cons, List.contains_nil, Nat.reduceBEq, Bool.or_true, Bool.true_or, Bool.or_false, Bool.false_or, Bool.not_true, Bool.not_false, true_and, and_true, rowA_whole, push_n, set_n, push_obj, set_obj, set_push, set_push_ne, set_set, Nat.add_assoc, Nat.left_eq_add, Nat.add_eq_left, Nat.add_left_cancel_iff, Nat.reduceEqDiff, stO_1s, stO_ws, boxA_s, one_bool, one_int, one_str, one_ptr, one_nilptr, one_slice, one_eslice, one_nilslice, one_func, one_iface, one_niliface, List.all_cons, List.all_nil, lc0, ln0, Nat.reduceLT, Nat.reduceEqDiff, Nat.reduceLeDiff, Bool.and_true, Nat.one_ne_zero, Nat.succ_ne_zero, reduceIte, if_false, List.getElem?_cons_zero, sz0, ss0]
    exact ⟨rfl, Ext.refl _, Nat.le_refl _, Nat.le_refl _, Own.empty⟩
  · rintro n e g ⟨x, lo, hi, k, rfl, hk, i0, i3, i4, E, hlo, hhi, o⟩
    have hle := E.le
    simp only [i0, i3, i4, hlen, go_sem, ↓act_zero, boxA_1, boxA_2, boxA_3, bslA_1, Hold.p, HoldK.k, HoldL.K, HoldL.body, Nat.reduceBEq, Nat.reduceAdd, List.getElem?_cons_zero, List.getElem?_cons_succ, Option.bind_some, mc0, mn0, Nat.zero_add, if_true, List.getD_cons_zero, List.getD_cons_succ, List.contains_cons, List.contains_nil, Nat.reduceBEq, Bool.or_true, Bool.true_or, Bool.or_false, Bool.false_or, Bool.not_true, Bool.not_false, true_and, and_true, rowA_whole, push_n, set_n, push_obj, set_obj, set_push, set_push_ne, set_set, Nat.add_assoc, Nat.left_eq_add, Nat.add_eq_left, Nat.add_left_cancel_iff, Nat.reduceEqDiff, stO_1s, stO_ws, boxA_s, one_bool, one_int, one_str, one_ptr, one_nilptr, one_slice, one_eslice, one_nilslice, one_func, one_iface, one_niliface, List.all_cons, List.all_nil, lc0, ln0, Nat.reduceLT, Nat.reduceEqDiff, Nat.reduceLeDiff, Bool.and_true, Nat.one_ne_zero, Nat.succ_ne_zero, reduceIte, if_false, List.getElem?_cons_zero, sz0, ss0]
    refine test_dec (fun hlt => ?_) (fun hlt => ?_)
    · have hlt' : k < bs.length := by omega
      have hkp : bs[k]? = some bs[k] := List.getElem?_eq_getElem hlt'
      generalize bs[k] = b at hkp
      obtain ⟨l, j, hia, hll, hrow⟩ := (hs.ext E).at (m := k) (strRows_at hkp) .i64
      have hc := cellO_row hrow
      simp only [i0, i3, i4, hia, hc, go_sem, ↓act_zero, boxA_1, boxA_2, boxA_3, bslA_1, Hold.p, HoldK.k, HoldL.K, HoldL.body, Nat.reduceBEq, Nat.reduceAdd, List.getElem?_cons_zero, List.getElem?_cons_succ, Option.bind_some, mc0, mn0, Nat.zero_add, if_true, List.getD_cons_zero, List.getD_cons_succ, List.contains_cons, List.contains_nil, Nat.reduceBEq, Bool.or_true, Bool.true_or, Bool.or_false, Bool.false_or, Bool.not_true, Bool.not_false, true_and, and_true, rowA_whole, push_n, set_n, push_obj, set_obj, set_push, set_push_ne, set_set, Nat.add_assoc, Nat.left_eq_add, Nat.add_eq_left, Nat.add_left_cancel_iff, Nat.reduceEqDiff, stO_1s, stO_ws, boxA_s, one_bool, one_int, one_str, one_ptr, one_nilptr, one_slice, one_eslice, one_nilslice, one_func, one_iface, one_niliface, List.all_cons, List.all_nil, lc0, ln0, Nat.reduceLT, Nat.reduceEqDiff, Nat.reduceLeDiff, Bool.and_true, Nat.one_ne_zero, Nat.succ_ne_zero, reduceIte, if_false, List.getElem?_cons_zero, sz0, ss0]
      generalize hq_g1 : IH.push g (IObj.rows [[.int .u8 b.toNat]] 5 1 false) = g1
      have e_g1 : Ext g g1 := by rw [← hq_g1]; exact (Ext.refl _).push _
      have l_g1 : g1.n = g.n + 1 := by rw [← hq_g1]; rfl
      have ba : At g1 g.n (IObj.rows [[.int .u8 b.toNat]] 5 1 false) := by rw [← hq_g1]; exact At.new _ _
      clear hq_g1
      have o := o.ext e_g1
      have E := E.ext e_g1
      refine o.app (by simp) (by rw [strRows_len]; simp; omega) ?_
      intro v6 h6 o6 t6 n6 v6o v6c
      have E := E.turn o (by omega) t6
      have le_t6 := t6.le
      simp only [i0, i3, i4, go_sem, ↓act_zero, boxA_1, boxA_2, boxA_3, bslA_1, Hold.p, HoldK.k, HoldL.K, HoldL.body, Nat.reduceBEq, Nat.reduceAdd, List.getElem?_cons_zero, List.getElem?_cons_succ, Option.bind_some, mc0, mn0, Nat.zero_add, if_true, List.getD_cons_zero, List.getD_cons_succ, List.contains_cons, List.contains_nil, Nat.reduceBEq, Bool.or_true, Bool.true_or, Bool.or_false, Bool.false_or, Bool.not_true, Bool.not_false, true_and, and_true, rowA_whole, push_n, set_n, push_obj, set_obj, set_push, set_push_ne, set_set, Nat.add_assoc, Nat.left_eq_add, Nat.add_eq_left, Nat.add_left_cancel_iff, Nat.reduceEqDiff, stO_1s, stO_ws, boxA_s, one_bool, one_int, one_str, one_ptr, one_nilptr, one_slice, one_eslice, one_nilslice, one_func, one_iface, one_niliface, List.all_cons, List.all_nil, lc0, ln0, Nat.reduceLT, Nat.reduceEqDiff, Nat.reduceLeDiff, Bool.and_true, Nat.one_ne_zero, Nat.succ_ne_zero, reduceIte, if_false, List.getElem?_cons_zero, sz0, ss0]
      refine ⟨_, ?_, v6, g1.n, g1.n + 1, k + 1, rfl, by omega, rfl, wr64_succ k (by omega), E, by omega, by omega, ?_⟩
      · omega
      · rw [List.take_add_one, hkp, strRows_append]; exact o6
    · obtain rfl : k = bs.length := by omega
      rw [List.take_length] at o
      simp only [i3, go_sem, ↓act_zero, boxA_1, boxA_2, boxA_3, bslA_1, Hold.p, HoldK.k, HoldL.K, HoldL.body, Nat.reduceBEq, Nat.reduceAdd, List.getElem?_cons_zero, List.getElem?_cons_succ, Option.bind_some, mc0, mn0, Nat.zero_add, if_true, List.getD_cons_zero, List.getD_cons_succ, List.contains_cons, List.contains_nil, Nat.reduceBEq, Bool.or_true, Bool.true_or, Bool.or_false, Bool.false_or, Bool.not_true, Bool.not_false, true_and, and_true, rowA_whole, push_n, set_n, push_obj, set_obj, set_push, set_push_ne, set_set, Nat.add_assoc, Nat.left_eq_add, Nat.add_eq_left, Nat.add_left_cancel_iff, Nat.reduceEqDiff, stO_1s, stO_ws, boxA_s, one_bool, one_int, one_str, one_ptr, one_nilptr, one_slice, one_eslice, one_nilslice, one_func, one_iface, one_niliface, List.all_cons, List.all_nil, lc0, ln0, Nat.reduceLT, Nat.reduceEqDiff, Nat.reduceLeDiff, Bool.and_true, Nat.one_ne_zero, Nat.succ_ne_zero, reduceIte, if_false, List.getElem?_cons_zero, sz0, ss0]
      exact ⟨o.wide hlo hhi (Nat.le_refl _), E⟩

set_option maxRecDepth 20000 in
theorem l01Join_c (h : IH) (v w : IV) (az bs : List UInt8) (hv : SlR h 1 v (strRows az)) (hw : SlR h 1 w (strRows bs)) (hal : az.length ≤ 8388608) (hbl : bs.length ≤ 8388608) : ICalls Try.prog 46 [v, w] h fun r h' => Own h.n h'.n h' 5 1 r (strRows (az ++ bs)) ∧ Ext h h' := by
  refine icalls (.of ok46) (Nat.le_of_ble_eq_true rfl) ?_
  unfold c46
  have hlen := hw.lenF
  rw [strRows_len] at hlen
  simp only [go_sem, ↓act_zero, boxA_1, boxA_2, boxA_3, bslA_1, Hold.p, HoldK.k, HoldL.K, HoldL.body, Nat.reduceBEq, Nat.reduceAdd, List.getElem?_cons_zero, List.getElem?_cons_succ, Option.bind_some, mc0, mn0, Nat.zero_add, if_true, List.getD_cons_zero, List.getD_cons_succ, List.contains_cons, List.contains_nil, Nat.reduceBEq, Bool.or_true, Bool.true_or, Bool.or_false, Bool.false_or, Bool.not_true, Bool.not_false, true_and, and_true, rowA_whole, push_n, set_n, push_obj, set_obj, set_push, set_push_ne, set_set, Nat.add_assoc, Nat.left_eq_add, Nat.add_eq_left, Nat.add_left_cancel_iff, Nat.reduceEqDiff, stO_1s, stO_ws, boxA_s, one_bool, one_int, one_str, one_ptr, one_nilptr, one_slice, one_eslice, one_nilslice, one_func, one_iface, one_niliface, List.all_cons, List.all_nil, lc0, ln0, Nat.reduceLT, Nat.reduceEqDiff, Nat.reduceLeDiff, Bool.and_true, Nat.one_ne_zero, Nat.succ_ne_zero, reduceIte, if_false, List.getElem?_cons_zero, sz0, ss0]
  refine callA_of (l01Copy_c h v az hv (by omega)) ?_
  rintro x0 h1 ⟨o0, E0⟩
  simp only [go_sem, ↓act_zero, boxA_1, boxA_2, boxA_3, bslA_1, Hold.p, HoldK.k, HoldL.K, HoldL.body, Nat.reduceBEq, Nat.reduceAdd, List.getElem?_cons_zero, List.getElem?_cons_succ, Option.bind_some, mc0, mn0, Nat.zero_add, if_true, List.getD_cons_zero, List.getD_cons_succ, List.contains_cons, List.contains_nil, Nat.reduceBEq, Bool.or_true, Bool.true_or, Bool.or_false, Bool.false_or, Bool.not_true, Bool.not_false, true_and, and_true, rowA_whole, push_n, set_n, push_obj, set_obj, set_push, set_push_ne, set_set, Nat.add_assoc, Nat.left_eq_add, Nat.add_eq_left, Nat.add_left_cancel_iff, Nat.reduceEqDiff, stO_1s, stO_ws, boxA_s, one_bool, one_int, one_str, one_ptr, one_nilptr, one_slice, one_eslice, one_nilslice, one_func, one_iface, one_niliface, List.all_cons, List.all_nil, lc0, ln0, Nat.reduceLT, Nat.reduceEqDiff, Nat.reduceLeDiff, Bool.and_true, Nat.one_ne_zero, Nat.succ_ne_zero, reduceIte, if_false, List.getElem?_cons_zero, sz0, ss0]
  have hle0 := E0.le
  refine loop_at (fun n e g => ∃ (x : IV) (lo hi k : Nat), n = bs.length - k ∧ k ≤ bs.length ∧ e 1 = w ∧ e 5 = x ∧ e 6 = .int .i64 (k : Nat) ∧ Ext h g ∧ h.n ≤ lo ∧ hi ≤ g.n ∧ Own lo hi g 5 1 x (strRows (az ++ bs.take k))) bs.length ?_ ?_
  · refine ⟨x0, h.n, h1.n, 0, by omega, by omega, ?_⟩
    simp only [go_sem, ↓act_zero, boxA_1, boxA_2, boxA_3, bslA_1, Hold.p, HoldK.k, HoldL.K, HoldL.body, Nat.reduceBEq, Nat.reduceAdd, List.getElem?_cons_zero, List.getElem?_cons_succ, Option.bind_some, mc0, mn0, Nat.zero_add, if_true, List.getD_cons_zero, List.getD_cons_succ, List.contains_cons, List.contains_nil, Nat.reduceBEq, Bool.or_true, Bool.true_or, Bool.or_false, Bool.false_or, Bool.not_true, Bool.not_false, true_and, and_true, rowA_whole, push_n, set_n, push_obj, set_obj, set_push, set_push_ne, set_set, Nat.add_assoc, Nat.left_eq_add, Nat.add_eq_left, Nat.add_left_cancel_iff, Nat.reduceEqDiff, stO_1s, stO_ws, boxA_s, one_bool, one_int, one_str, one_ptr, one_nilptr, one_slice, one_eslice, one_nilslice, one_func, one_iface, one_niliface, List.all_cons, List.all_nil, lc0, ln0, Nat.reduceLT, Nat.reduceEqDiff, Nat.reduceLeDiff, Bool.and_true, Nat.one_ne_zero, Nat.succ_ne_zero, reduceIte, if_false, List.getElem?_cons_zero, sz0, ss0]
    exact ⟨rfl, E0, Nat.le_refl _, Nat.le_refl _, by simpa using o0⟩
  · rintro n e g ⟨x, lo, hi, k, rfl, hk, i1, i5, i6, E, hlo, hhi, o⟩
    have hle := E.le
    simp only [i1, i5, i6, hlen, go_sem, ↓act_zero, boxA_1, boxA_2, boxA_3, bslA_1, Hold.p, HoldK.k, HoldL.K, HoldL.body, Nat.reduceBEq, Nat.reduceAdd, List.getElem?_cons_zero, List.getElem?_cons_succ, Option.bind_some, mc0, mn0, Nat.zero_add, if_true, List.getD_cons_zero, List.getD_cons_succ, List.contains_cons, List.contains_nil, Nat.reduceBEq, Bool.or_true, Bool.true_or, Bool.or_false, Bool.false_or, Bool.not_true, Bool.not_false, true_and, and_true, rowA_whole, push_n, set_n, push_obj, set_obj, set_push, set_push_ne, set_set, Nat.add_assoc, Nat.left_eq_add, Nat.add_eq_left, Nat.add_left_cancel_iff, Nat.reduceEqDiff, stO_1s, stO_ws, boxA_s, one_bool, one_int, one_str, one_ptr, one_nilptr, one_slice, one_eslice, one_nilslice, one_func, one_iface, one_niliface, List.all_cons, List.all_nil, lc0, ln0, Nat.reduceLT, Nat.reduceEqDiff, Nat.reduceLeDiff, Bool.and_true, Nat.one_ne_zero, Nat.succ_ne_zero, reduceIte, if_false, List.getElem?_cons_zero, sz0, ss0]
    refine test_dec (fun hlt => ?_) (fun hlt => ?_)
    · have hlt' : k < bs.length := by omega
      have hkp : bs[k]? = some bs[k] := List.getElem?_eq_getElem hlt'
      generalize bs[k] = b at hkp
      obtain ⟨l, j, hia, hll, hrow⟩ := (hw.ext E).at (m := k) (strRows_at hkp) .i64
      have hc := cellO_row hrow
      simp only [i1, i5, i6, hia, hc, go_sem, ↓act_zero, boxA_1, boxA_2, boxA_3, bslA_1, Hold.p, HoldK.k, HoldL.K, HoldL.body, Nat.reduceBEq, Nat.reduceAdd, List.getElem?_cons_zero, List.getElem?_cons_succ, Option.bind_some, mc0, mn0, Nat.zero_add, if_true, List.getD_cons_zero, List.getD_cons_succ, List.contains_cons, List.contains_nil, Nat.reduceBEq, Bool.or_true, Bool.true_or, Bool.or_false, Bool.false_or, Bool.not_true, Bool.not_false, true_and, and_true, rowA_whole, push_n, set_n, push_obj, set_obj, set_push, set_push_ne, set_set, Nat.add_assoc, Nat.left_eq_add, Nat.add_eq_left, Nat.add_left_cancel_iff, Nat.reduceEqDiff, stO_1s, stO_ws, boxA_s, one_bool, one_int, one_str, one_ptr, one_nilptr, one_slice, one_eslice, one_nilslice, one_func, one_iface, one_niliface, List.all_cons, List.all_nil, lc0, ln0, Nat.reduceLT, Nat.reduceEqDiff, Nat.reduceLeDiff, Bool.and_true, Nat.one_ne_zero, Nat.succ_ne_zero, reduceIte, if_false, List.getElem?_cons_zero, sz0, ss0]
      generalize hq_g1 : IH.push g (IObj.rows [[.int .u8 b.toNat]] 5 1 false) = g1
      have e_g1 : Ext g g1 := by rw [← hq_g1]; exact (Ext.refl _).push _
      have l_g1 : g1.n = g.n + 1 := by rw [← hq_g1]; rfl
      have ba : At g1 g.n (IObj.rows [[.int .u8 b.toNat]] 5 1 false) := by rw [← hq_g1]; exact At.new _ _
      clear hq_g1
      have o := o.ext e_g1
      have E := E.ext e_g1
      refine o.app (by simp) (by rw [strRows_len]; simp; omega) ?_
      intro v6 h6 o6 t6 n6 v6o v6c
      have E := E.turn o (by omega) t6
      have le_t6 := t6.le
      simp only [i1, i5, i6, go_sem, ↓act_zero, boxA_1, boxA_2, boxA_3, bslA_1, Hold.p, HoldK.k, HoldL.K, HoldL.body, Nat.reduceBEq, Nat.reduceAdd, List.getElem?_cons_zero, List.getElem?_cons_succ, Option.bind_some, mc0, mn0, Nat.zero_add, if_true, List.getD_cons_zero, List.getD_cons_succ, List.contains_cons, List.contains_nil, Nat.reduceBEq, Bool.or_true, Bool.true_or, Bool.or_false, Bool.false_or, Bool.not_true, Bool.not_false, true_and, and_true, rowA_whole, push_n, set_n, push_obj, set_obj, set_push, set_push_ne, set_set, Nat.add_assoc, Nat.left_eq_add, Nat.add_eq_left, Nat.add_left_cancel_iff, Nat.reduceEqDiff, stO_1s, stO_ws, boxA_s, one_bool, one_int, one_str, one_ptr, one_nilptr, one_slice, one_eslice, one_nilslice, one_func, one_iface, one_niliface, List.all_cons, List.all_nil, lc0, ln0, Nat.reduceLT, Nat.reduceEqDiff, Nat.reduceLeDiff, Bool.and_true, Nat.one_ne_zero, Nat.succ_ne_zero, reduceIte, if_false, List.getElem?_cons_zero, sz0, ss0]
      refine ⟨_, ?_, v6, g1.n, g1.n + 1, k + 1, rfl, by omega, rfl, wr64_succ k (by omega), E, by omega, by omega, ?_⟩
      · omega
      · rw [List.take_add_one, hkp, ← List.append_assoc, strRows_append]; exact o6
    · obtain rfl : k = bs.length := by omega
      rw [List.take_length] at o
      simp only [i5, go_sem, ↓act_zero, boxA_1, boxA_2, boxA_3, bslA_1, Hold.p, HoldK.k, HoldL.K, HoldL.body, Nat.reduceBEq, Nat.reduceAdd, List.getElem?_cons_zero, List.getElem?_cons_succ, Option.bind_some, mc0, mn0, Nat.zero_add, if_true, List.getD_cons_zero, List.getD_cons_succ, List.contains_cons, List.contains_nil, Nat.reduceBEq, Bool.or_true, Bool.true_or, Bool.or_false, Bool.false_or, Bool.not_true, Bool.not_false, true_and, and_true, rowA_whole, push_n, set_n, push_obj, set_obj, set_push, set_push_ne, set_set, Nat.add_assoc, Nat.left_eq_add, Nat.add_eq_left, Nat.add_left_cancel_iff, Nat.reduceEqDiff, stO_1s, stO_ws, boxA_s, one_bool, one_int, one_str, one_ptr, one_nilptr, one_slice, one_eslice, one_nilslice, one_func, one_iface, one_niliface, List.all_cons, List.all_nil, lc0, ln0, Nat.reduceLT, Nat.reduceEqDiff, Nat.reduceLeDiff, Bool.and_true, Nat.one_ne_zero, Nat.succ_ne_zero, reduceIte, if_false, List.getElem?_cons_zero, sz0, ss0]
      exact ⟨o.wide hlo hhi (Nat.le_refl _), E⟩

set_option maxRecDepth 20000 in
theorem l01In_c (h : IH) (n lo hi : Int) :
    ICalls Try.prog 61 [.int .i64 n, .int .i64 lo, .int .i64 hi] h fun r h' => r = .bool (decide (lo ≤ n) && decide (n ≤ hi)) ∧ h' = h := by
  refine icalls (.of ok61) (Nat.le_of_ble_eq_true rfl) ?_
  unfold c61
  simp only [go_sem, ↓act_zero, boxA_1, boxA_2, boxA_3, bslA_1, Hold.p, HoldK.k, HoldL.K, HoldL.body, Nat.reduceBEq, Nat.reduceAdd, List.getElem?_cons_zero, List.getElem?_cons_succ, Option.bind_some, mc0, mn0, Nat.zero_add, if_true, List.getD_cons_zero, List.getD_cons_succ, List.contains_cons, List.contains_nil, Nat.reduceBEq, Bool.or_true, Bool.true_or, Bool.or_false, Bool.false_or, Bool.not_true, Bool.not_false, true_and, and_true]
end Go.Proofs.Ytjmmmmdpkfpojaa



namespace Go.Proofs.Ytjmmmmdpkfpojaa
open Go Go.IW

def okAddr (a : Int) : Bool := decide (0 ≤ a) && decide (a ≤ 4294967295)
set_option maxRecDepth 20000 in
theorem l02AddrOK_c (h : IH) (n : Int) : ICalls Try.prog 62 [.int .i64 n] h fun r h' => r = .bool (okAddr n) ∧ h' = h := by
  refine icalls (.of ok62) (Nat.le_of_ble_eq_true rfl) ?_
  unfold c62
  simp only [go_sem, ↓act_zero, boxA_1, boxA_2, boxA_3, bslA_1, Hold.p, HoldK.k, HoldL.K, HoldL.body, Nat.reduceBEq, Nat.reduceAdd, List.getElem?_cons_zero, List.getElem?_cons_succ, Option.bind_some, mc0, mn0, Nat.zero_add, if_true, List.getD_cons_zero, List.getD_cons_succ, List.contains_cons, List.contains_nil, Nat.reduceBEq, Bool.or_true, Bool.true_or, Bool.or_false, Bool.false_or, Bool.not_true, Bool.not_false, true_and, and_true]
  refine callA_of (l01In_c h n 0 4294967295) ?_
  rintro r h' ⟨rfl, rfl⟩
  simp only [okAddr, go_sem, ↓act_zero, boxA_1, boxA_2, boxA_3, bslA_1, Hold.p, HoldK.k, HoldL.K, HoldL.body, Nat.reduceBEq, Nat.reduceAdd, List.getElem?_cons_zero, List.getElem?_cons_succ, Option.bind_some, mc0, mn0, Nat.zero_add, if_true, List.getD_cons_zero, List.getD_cons_succ, List.contains_cons, List.contains_nil, Nat.reduceBEq, Bool.or_true, Bool.true_or, Bool.or_false, Bool.false_or, Bool.not_true, Bool.not_false, true_and, and_true]

set_option maxRecDepth 20000 in
theorem isAddr_c (h : IH) (n : Int) : ICalls Try.prog 60 [.int .i64 n] h fun r h' => r = .bool (okAddr n) ∧ h' = h := by
  refine icalls (.of ok60) (Nat.le_of_ble_eq_true rfl) ?_
  unfold c60
  by_cases c1 : 0 ≤ n
  · have d1 : decide (0 ≤ n) = true := decide_eq_true c1
    simp only [d1, okAddr, Bool.true_and, Bool.false_and, go_sem, ↓act_zero, boxA_1, boxA_2, boxA_3, bslA_1, Hold.p, HoldK.k, HoldL.K, HoldL.body, Nat.reduceBEq, Nat.reduceAdd, List.getElem?_cons_zero, List.getElem?_cons_succ, Option.bind_some, mc0, mn0, Nat.zero_add, if_true, List.getD_cons_zero, List.getD_cons_succ, List.contains_cons, List.contains_nil, Nat.reduceBEq, Bool.or_true, Bool.true_or, Bool.or_false, Bool.false_or, Bool.not_true, Bool.not_false, true_and, and_true]
  · have d1 : decide (0 ≤ n) = false := decide_eq_false c1
    simp only [d1, okAddr, Bool.true_and, Bool.false_and, go_sem, ↓act_zero, boxA_1, boxA_2, boxA_3, bslA_1, Hold.p, HoldK.k, HoldL.K, HoldL.body, Nat.reduceBEq, Nat.reduceAdd, List.getElem?_cons_zero, List.getElem?_cons_succ, Option.bind_some, mc0, mn0, Nat.zero_add, if_true, List.getD_cons_zero, List.getD_cons_succ, List.contains_cons, List.contains_nil, Nat.reduceBEq, Bool.or_true, Bool.true_or, Bool.or_false, Bool.false_or, Bool.not_true, Bool.not_false, true_and, and_true]

end Go.Proofs.Ytjmmmmdpkfpojaa


namespace Go.Proofs.Ytjmmmmdpkfpojaa
open Go Go.IW
def t_Packet : Ty := .cat (.int .i64) (.cat (.int .i64) (.cat .bool (.cat .bool (.cat (.int .i64) (.cat (.int .i64) (.cat (.int .i64) (.cat (.int .i64) (.cat (.int .i64) (.cat (.slice 5 (.int .u8)) (.cat (.slice 5 (.int .u8)) (.nil)))))))))))
def t_ReasmEnd : Ty := .cat (.int .i64) (.cat (.int .i64) (.cat (.int .i64) (.cat (.int .i64) (.cat .bool (.nil)))))
def t_ReasmOut : Ty := .cat (.int .i64) (.cat .bool (.cat t_Packet (.cat (.slice 113 t_ReasmEnd) (.cat (.int .i64) (.cat (.int .i64) (.nil))))))
end Go.Proofs.Ytjmmmmdpkfpojaa

set_option maxRecDepth 20000
namespace Go.Proofs.Ytjmmmmdpkfpojaa
open Go Go.IW
section
attribute [local go_sem] boxA_1 boxA_2 boxA_3 bslA_1 List.getElem?_cons_zero List.getElem?_cons_succ Option.bind_some List.map_cons List.map_nil Nat.zero_add if_true List.getD_cons_zero List.getD_cons_succ List.contains_cons List.contains_nil Bool.or_true Bool.true_or Bool.or_false Bool.false_or Bool.not_true Bool.not_false true_and and_true rowA_whole mid_get stO_mid rowO_rows cellO_rows push_n set_n push_at push_old set_here set_there set_pushT set_pushN set_set upd_ne Nat.add_assoc Nat.add_zero stO_1s stO_ws boxA_s List.all_cons List.all_nil one_bool one_int one_str one_ptr one_nilptr one_slice one_eslice one_nilslice one_func one_iface one_niliface Bool.and_true Bool.and_self List.length_cons List.length_nil Nat.one_ne_zero Nat.succ_ne_zero if_false List.set_cons_zero List.set_cons_succ lay_nil lay_1 lay_w Option.map_some

abbrev Txt := List UInt8
structure Pk where
  tos : Int
  id : Int
  df : Bool
  mf : Bool
  off : Int
  ttl : Int
  proto : Int
  src : Int
  dst : Int
  opts : List UInt8
  pay : List UInt8
  deriving Inhabited
def pkRow (p : Pk) (vo vp : IV) : List IV := [.int .i64 p.tos, .int .i64 p.id, .bool p.df, .bool p.mf, .int .i64 p.off, .int .i64 p.ttl, .int .i64 p.proto, .int .i64 p.src, .int .i64 p.dst, vo, vp]
abbrev pkObj (p : Pk) (vo vp : IV) : IObj := .rows [[.int .i64 p.tos, .int .i64 p.id, .bool p.df, .bool p.mf, .int .i64 p.off, .int .i64 p.ttl, .int .i64 p.proto, .int .i64 p.src, .int .i64 p.dst, vo, vp]] 44 11 false
abbrev pkO0 : IObj := .rows [[.int .i64 0, .int .i64 0, .bool false, .bool false, .int .i64 0, .int .i64 0, .int .i64 0, .int .i64 0, .int .i64 0, .nilslice, .nilslice]] 44 11 false
def okIPb (p : Pk) : Bool :=
  decide (0 ≤ p.tos) && decide (p.tos ≤ 255) && decide (0 ≤ p.ttl) && decide (p.ttl ≤ 255) && decide (0 ≤ p.proto) && decide (p.proto ≤ 255) && decide (0 ≤ p.id) && decide (p.id ≤ 65535) &&
    decide (0 ≤ p.off) && decide (p.off ≤ 65528) && decide (p.off.tmod 8 = 0) && okAddr p.src && okAddr p.dst && decide ((p.opts.length : Int) ≤ 40) && decide ((p.opts.length : Int).tmod 4 = 0)
def codeB (p : Pk) : Int := if okIPb p = false then 1 else if 65535 < 20 + (p.opts.length : Int) + p.pay.length ∨ 65535 < p.off + p.pay.length then 7 else 0
structure PkAt (h : IH) (p : Pk) (vo vp : IV) : Prop where
  o : SlR h 1 vo (strRows p.opts)
  p : SlR h 1 vp (strRows p.pay)
theorem PkAt.ext {h h' : IH} {p : Pk} {vo vp : IV} (a : PkAt h p vo vp) (E : Ext h h') : PkAt h' p vo vp := ⟨a.o.ext E, a.p.ext E⟩

theorem okIP_c (h : IH) (p : Pk) (vo vp : IV) (a : PkAt h p vo vp) : ICalls Try.prog 43 [.agg (pkRow p vo vp)] h fun r h' => r = .bool (okIPb p) ∧ Ext h h' := by
  refine icalls (.of ok43) (Nat.le_of_ble_eq_true rfl) ?_
  unfold c43 pkRow
  have v1 := a.o.one
  have v2 := a.p.one
  have l1 := a.o.lenF
  rw [strRows_len] at l1
  have r8 := ib_rem .i64 p.off 8 (by decide)
  have r4 := ib_rem .i64 (p.opts.length : Int) 4 (by decide)
  simp (disch := (first | omega | assumption | (simp only [push_n, set_n, put_n, lc0, ln0, la0, Nat.reduceAdd]; done) | (simp only [push_n, set_n, put_n, lc0, ln0, la0]; omega) | (simp only [List.all_cons, List.all_nil, one_bool, one_int, one_str, one_ptr, one_nilptr, one_slice, one_eslice, one_nilslice, one_func, one_iface, one_niliface, Bool.and_true, Bool.true_and, List.getD_cons_zero, List.getD_cons_succ, List.contains_cons, List.contains_nil, Bool.or_true, Bool.true_or, Bool.or_false, Bool.false_or, Nat.reduceBEq, *]; done) | fail)) only [v1, v2, go_sem, ↓act_zero, Hold.p, HoldK.k, HoldL.K, HoldL.body, Nat.reduceBEq, Nat.reduceAdd, reduceIte]
  generalize hq_g : IH.push h (pkObj p vo vp) = g
  have e_g : Ext h g := by rw [← hq_g]; exact (Ext.refl _).push _
  have l_g : g.n = h.n + 1 := by rw [← hq_g]; rfl
  have b : At g h.n (pkObj p vo vp) := by rw [← hq_g]; exact At.new _ _
  clear hq_g
  have q := b.eq
  simp (disch := (first | omega | assumption | (simp only [push_n, set_n, put_n, lc0, ln0, la0, Nat.reduceAdd]; done) | (simp only [push_n, set_n, put_n, lc0, ln0, la0]; omega) | (simp only [List.all_cons, List.all_nil, one_bool, one_int, one_str, one_ptr, one_nilptr, one_slice, one_eslice, one_nilslice, one_func, one_iface, one_niliface, Bool.and_true, Bool.true_and, List.getD_cons_zero, List.getD_cons_succ, List.contains_cons, List.contains_nil, Bool.or_true, Bool.true_or, Bool.or_false, Bool.false_or, Nat.reduceBEq, *]; done) | fail)) only [q, r8, go_sem, ↓act_zero, Hold.p, HoldK.k, HoldL.K, HoldL.body, Nat.reduceBEq, Nat.reduceAdd, reduceIte]
  refine guard_pureT (v := .bool (okAddr p.src)) (fun hb => ?_) ?_
  · simp (disch := (first | omega | assumption | (simp only [push_n, set_n, put_n, lc0, ln0, la0, Nat.reduceAdd]; done) | (simp only [push_n, set_n, put_n, lc0, ln0, la0]; omega) | (simp only [List.all_cons, List.all_nil, one_bool, one_int, one_str, one_ptr, one_nilptr, one_slice, one_eslice, one_nilslice, one_func, one_iface, one_niliface, Bool.and_true, Bool.true_and, List.getD_cons_zero, List.getD_cons_succ, List.contains_cons, List.contains_nil, Bool.or_true, Bool.true_or, Bool.or_false, Bool.false_or, Nat.reduceBEq, *]; done) | fail)) only [hb, go_sem, ↓act_zero, Hold.p, HoldK.k, HoldL.K, HoldL.body, Nat.reduceBEq, Nat.reduceAdd, reduceIte]
    exact isAddr_c _ p.src
  simp (disch := (first | omega | assumption | (simp only [push_n, set_n, put_n, lc0, ln0, la0, Nat.reduceAdd]; done) | (simp only [push_n, set_n, put_n, lc0, ln0, la0]; omega) | (simp only [List.all_cons, List.all_nil, one_bool, one_int, one_str, one_ptr, one_nilptr, one_slice, one_eslice, one_nilslice, one_func, one_iface, one_niliface, Bool.and_true, Bool.true_and, List.getD_cons_zero, List.getD_cons_succ, List.contains_cons, List.contains_nil, Bool.or_true, Bool.true_or, Bool.or_false, Bool.false_or, Nat.reduceBEq, *]; done) | fail)) only [q, go_sem, ↓act_zero, Hold.p, HoldK.k, HoldL.K, HoldL.body, Nat.reduceBEq, Nat.reduceAdd, reduceIte]
  refine guard_pureT (v := .bool (okAddr p.dst)) (fun hb => ?_) ?_
  · simp (disch := (first | omega | assumption | (simp only [push_n, set_n, put_n, lc0, ln0, la0, Nat.reduceAdd]; done) | (simp only [push_n, set_n, put_n, lc0, ln0, la0]; omega) | (simp only [List.all_cons, List.all_nil, one_bool, one_int, one_str, one_ptr, one_nilptr, one_slice, one_eslice, one_nilslice, one_func, one_iface, one_niliface, Bool.and_true, Bool.true_and, List.getD_cons_zero, List.getD_cons_succ, List.contains_cons, List.contains_nil, Bool.or_true, Bool.true_or, Bool.or_false, Bool.false_or, Nat.reduceBEq, *]; done) | fail)) only [hb, go_sem, ↓act_zero, Hold.p, HoldK.k, HoldL.K, HoldL.body, Nat.reduceBEq, Nat.reduceAdd, reduceIte]
    exact isAddr_c _ p.dst
  simp (disch := (first | omega | assumption | (simp only [push_n, set_n, put_n, lc0, ln0, la0, Nat.reduceAdd]; done) | (simp only [push_n, set_n, put_n, lc0, ln0, la0]; omega) | (simp only [List.all_cons, List.all_nil, one_bool, one_int, one_str, one_ptr, one_nilptr, one_slice, one_eslice, one_nilslice, one_func, one_iface, one_niliface, Bool.and_true, Bool.true_and, List.getD_cons_zero, List.getD_cons_succ, List.contains_cons, List.contains_nil, Bool.or_true, Bool.true_or, Bool.or_false, Bool.false_or, Nat.reduceBEq, *]; done) | fail)) only [q, l1, r4, go_sem, ↓act_zero, Hold.p, HoldK.k, HoldL.K, HoldL.body, Nat.reduceBEq, Nat.reduceAdd, reduceIte]
  exact ⟨rfl, e_g⟩

theorem codeIP_c (h : IH) (p : Pk) (vo vp : IV) (a : PkAt h p vo vp) (hl : p.opts.length + p.pay.length ≤ 8388608) (ho : -9223372036854775808 ≤ p.off) : ICalls Try.prog 39 [.agg (pkRow p vo vp)] h fun r h' => r = .int .i64 (codeB p) ∧ Ext h h' := by
  refine icalls (.of ok39) (Nat.le_of_ble_eq_true rfl) ?_
  unfold c39 pkRow
  have v1 := a.o.one
  have v2 := a.p.one
  have l1 := a.o.lenF
  have l2 := a.p.lenF
  rw [strRows_len] at l1 l2
  simp (disch := (first | omega | assumption | (simp only [push_n, set_n, put_n, lc0, ln0, la0, Nat.reduceAdd]; done) | (simp only [push_n, set_n, put_n, lc0, ln0, la0]; omega) | (simp only [List.all_cons, List.all_nil, one_bool, one_int, one_str, one_ptr, one_nilptr, one_slice, one_eslice, one_nilslice, one_func, one_iface, one_niliface, Bool.and_true, Bool.true_and, List.getD_cons_zero, List.getD_cons_succ, List.contains_cons, List.contains_nil, Bool.or_true, Bool.true_or, Bool.or_false, Bool.false_or, Nat.reduceBEq, *]; done) | fail)) only [v1, v2, go_sem, ↓act_zero, Hold.p, HoldK.k, HoldL.K, HoldL.body, Nat.reduceBEq, Nat.reduceAdd, reduceIte]
  generalize hq_g : IH.push h (pkObj p vo vp) = g
  have e_g : Ext h g := by rw [← hq_g]; exact (Ext.refl _).push _
  have l_g : g.n = h.n + 1 := by rw [← hq_g]; rfl
  have b : At g h.n (pkObj p vo vp) := by rw [← hq_g]; exact At.new _ _
  clear hq_g
  have a := a.ext e_g
  have q := b.eq
  try simp (disch := (first | omega | assumption | (simp only [push_n, set_n, put_n, lc0, ln0, la0, Nat.reduceAdd]; done) | (simp only [push_n, set_n, put_n, lc0, ln0, la0]; omega) | (simp only [List.all_cons, List.all_nil, one_bool, one_int, one_str, one_ptr, one_nilptr, one_slice, one_eslice, one_nilslice, one_func, one_iface, one_niliface, Bool.and_true, Bool.true_and, List.getD_cons_zero, List.getD_cons_succ, List.contains_cons, List.contains_nil, Bool.or_true, Bool.true_or, Bool.or_false, Bool.false_or, Nat.reduceBEq, *]; done) | fail)) only [q, go_sem, ↓act_zero, Hold.p, HoldK.k, HoldL.K, HoldL.body, Nat.reduceBEq, Nat.reduceAdd, reduceIte]
  refine callA_of (okIP_c g p vo vp a) ?_
  rintro r g2 ⟨rfl, E⟩
  have b := b.ext E
  have le_E := E.le
  have q := b.eq
  have hE := e_g.trans E
  simp (disch := (first | omega | assumption | (simp only [push_n, set_n, put_n, lc0, ln0, la0, Nat.reduceAdd]; done) | (simp only [push_n, set_n, put_n, lc0, ln0, la0]; omega) | (simp only [List.all_cons, List.all_nil, one_bool, one_int, one_str, one_ptr, one_nilptr, one_slice, one_eslice, one_nilslice, one_func, one_iface, one_niliface, Bool.and_true, Bool.true_and, List.getD_cons_zero, List.getD_cons_succ, List.contains_cons, List.contains_nil, Bool.or_true, Bool.true_or, Bool.or_false, Bool.false_or, Nat.reduceBEq, *]; done) | fail)) only [go_sem, ↓act_zero, Hold.p, HoldK.k, HoldL.K, HoldL.body, Nat.reduceBEq, Nat.reduceAdd, reduceIte]
  refine test_of (fun hb => ?_) (fun hb => ?_)
  · have hf : okIPb p = false := by rwa [Bool.not_eq_true'] at hb
    simp (disch := (first | omega | assumption | (simp only [push_n, set_n, put_n, lc0, ln0, la0, Nat.reduceAdd]; done) | (simp only [push_n, set_n, put_n, lc0, ln0, la0]; omega) | (simp only [List.all_cons, List.all_nil, one_bool, one_int, one_str, one_ptr, one_nilptr, one_slice, one_eslice, one_nilslice, one_func, one_iface, one_niliface, Bool.and_true, Bool.true_and, List.getD_cons_zero, List.getD_cons_succ, List.contains_cons, List.contains_nil, Bool.or_true, Bool.true_or, Bool.or_false, Bool.false_or, Nat.reduceBEq, *]; done) | fail)) only [go_sem, ↓act_zero, Hold.p, HoldK.k, HoldL.K, HoldL.body, Nat.reduceBEq, Nat.reduceAdd, reduceIte]
    exact ⟨by rw [codeB, if_pos hf], hE⟩
  · have hf : okIPb p = true := by rwa [Bool.not_eq_false'] at hb
    have w1 : wr .i64 (20 + (p.opts.length : Int)) = 20 + (p.opts.length : Int) := wr64 _ (by omega)
    have w2 : wr .i64 (20 + (p.opts.length : Int) + (p.pay.length : Int)) = 20 + (p.opts.length : Int) + p.pay.length := wr64 _ (by omega)
    have hoff : 0 ≤ p.off ∧ p.off ≤ 65528 := by
      unfold okIPb at hf
      simp only [Bool.and_eq_true, decide_eq_true_eq] at hf
      exact ⟨hf.1.1.1.1.1.1.2, hf.1.1.1.1.1.2⟩
    have w3 : wr .i64 (p.off + (p.pay.length : Int)) = p.off + p.pay.length := wr64 _ (by omega)
    simp (disch := (first | omega | assumption | (simp only [push_n, set_n, put_n, lc0, ln0, la0, Nat.reduceAdd]; done) | (simp only [push_n, set_n, put_n, lc0, ln0, la0]; omega) | (simp only [List.all_cons, List.all_nil, one_bool, one_int, one_str, one_ptr, one_nilptr, one_slice, one_eslice, one_nilslice, one_func, one_iface, one_niliface, Bool.and_true, Bool.true_and, List.getD_cons_zero, List.getD_cons_succ, List.contains_cons, List.contains_nil, Bool.or_true, Bool.true_or, Bool.or_false, Bool.false_or, Nat.reduceBEq, *]; done) | fail)) only [q, l1, l2, w1, w2, w3, go_sem, ↓act_zero, Hold.p, HoldK.k, HoldL.K, HoldL.body, Nat.reduceBEq, Nat.reduceAdd, reduceIte]
    refine test_of (fun hc => ?_) (fun hc => ?_)
    · simp (disch := (first | omega | assumption | (simp only [push_n, set_n, put_n, lc0, ln0, la0, Nat.reduceAdd]; done) | (simp only [push_n, set_n, put_n, lc0, ln0, la0]; omega) | (simp only [List.all_cons, List.all_nil, one_bool, one_int, one_str, one_ptr, one_nilptr, one_slice, one_eslice, one_nilslice, one_func, one_iface, one_niliface, Bool.and_true, Bool.true_and, List.getD_cons_zero, List.getD_cons_succ, List.contains_cons, List.contains_nil, Bool.or_true, Bool.true_or, Bool.or_false, Bool.false_or, Nat.reduceBEq, *]; done) | fail)) only [go_sem, ↓act_zero, Hold.p, HoldK.k, HoldL.K, HoldL.body, Nat.reduceBEq, Nat.reduceAdd, reduceIte]
      refine ⟨?_, hE⟩
      rw [codeB, if_neg (by simp [hf]), if_pos (by simpa using hc)]
    · simp (disch := (first | omega | assumption | (simp only [push_n, set_n, put_n, lc0, ln0, la0, Nat.reduceAdd]; done) | (simp only [push_n, set_n, put_n, lc0, ln0, la0]; omega) | (simp only [List.all_cons, List.all_nil, one_bool, one_int, one_str, one_ptr, one_nilptr, one_slice, one_eslice, one_nilslice, one_func, one_iface, one_niliface, Bool.and_true, Bool.true_and, List.getD_cons_zero, List.getD_cons_succ, List.contains_cons, List.contains_nil, Bool.or_true, Bool.true_or, Bool.or_false, Bool.false_or, Nat.reduceBEq, *]; done) | fail)) only [go_sem, ↓act_zero, Hold.p, HoldK.k, HoldL.K, HoldL.body, Nat.reduceBEq, Nat.reduceAdd, reduceIte]
      refine ⟨?_, hE⟩
      rw [codeB, if_neg (by simp [hf]), if_neg (by simpa using hc)]
theorem okIPb_off {p : Pk} (hf : okIPb p = true) : 0 ≤ p.off ∧ p.off ≤ 65528 := by
  unfold okIPb at hf
  simp only [Bool.and_eq_true, decide_eq_true_eq] at hf
  exact ⟨hf.1.1.1.1.1.1.2, hf.1.1.1.1.1.2⟩
theorem l05OK_c (h : IH) (p : Pk) (vo vp : IV) (a : PkAt h p vo vp) : ICalls Try.prog 44 [.agg (pkRow p vo vp)] h fun r h' => r = .bool (okIPb p) ∧ Ext h h' := by
  refine icalls (.of ok44) (Nat.le_of_ble_eq_true rfl) ?_
  unfold c44 pkRow
  have v1 := a.o.one
  have v2 := a.p.one
  have l1 := a.o.lenF
  rw [strRows_len] at l1
  have r8 := ib_rem .i64 p.off 8 (by decide)
  have r4 := ib_rem .i64 (p.opts.length : Int) 4 (by decide)
  simp (disch := (first | omega | assumption | (simp only [push_n, set_n, put_n, lc0, ln0, la0, Nat.reduceAdd]; done) | (simp only [push_n, set_n, put_n, lc0, ln0, la0]; omega) | (simp only [List.all_cons, List.all_nil, one_bool, one_int, one_str, one_ptr, one_nilptr, one_slice, one_eslice, one_nilslice, one_func, one_iface, one_niliface, Bool.and_true, Bool.true_and, List.getD_cons_zero, List.getD_cons_succ, List.contains_cons, List.contains_nil, Bool.or_true, Bool.true_or, Bool.or_false, Bool.false_or, Nat.reduceBEq, *]; done) | fail)) only [v1, v2, go_sem, ↓act_zero, Hold.p, HoldK.k, HoldL.K, HoldL.body, Nat.reduceBEq, Nat.reduceAdd, reduceIte]
  generalize hq_g : IH.push h (pkObj p vo vp) = g
  have e_g : Ext h g := by rw [← hq_g]; exact (Ext.refl _).push _
  have l_g : g.n = h.n + 1 := by rw [← hq_g]; rfl
  have b : At g h.n (pkObj p vo vp) := by rw [← hq_g]; exact At.new _ _
  clear hq_g
  have q := b.eq
  try simp (disch := (first | omega | assumption | (simp only [push_n, set_n, put_n, lc0, ln0, la0, Nat.reduceAdd]; done) | (simp only [push_n, set_n, put_n, lc0, ln0, la0]; omega) | (simp only [List.all_cons, List.all_nil, one_bool, one_int, one_str, one_ptr, one_nilptr, one_slice, one_eslice, one_nilslice, one_func, one_iface, one_niliface, Bool.and_true, Bool.true_and, List.getD_cons_zero, List.getD_cons_succ, List.contains_cons, List.contains_nil, Bool.or_true, Bool.true_or, Bool.or_false, Bool.false_or, Nat.reduceBEq, *]; done) | fail)) only [q, go_sem, ↓act_zero, Hold.p, HoldK.k, HoldL.K, HoldL.body, Nat.reduceBEq, Nat.reduceAdd, reduceIte]
  refine callA_of (l01In_c g p.tos 0 255) ?_
  rintro r g1 ⟨rfl, rfl⟩
  simp (disch := (first | omega | assumption | (simp only [push_n, set_n, put_n, lc0, ln0, la0, Nat.reduceAdd]; done) | (simp only [push_n, set_n, put_n, lc0, ln0, la0]; omega) | (simp only [List.all_cons, List.all_nil, one_bool, one_int, one_str, one_ptr, one_nilptr, one_slice, one_eslice, one_nilslice, one_func, one_iface, one_niliface, Bool.and_true, Bool.true_and, List.getD_cons_zero, List.getD_cons_succ, List.contains_cons, List.contains_nil, Bool.or_true, Bool.true_or, Bool.or_false, Bool.false_or, Nat.reduceBEq, *]; done) | fail)) only [q, go_sem, ↓act_zero, Hold.p, HoldK.k, HoldL.K, HoldL.body, Nat.reduceBEq, Nat.reduceAdd, reduceIte]
  refine guard_pureT (v := .bool (decide (0 ≤ p.ttl) && decide (p.ttl ≤ 255))) (fun hb => ?_) ?_
  · simp (disch := (first | omega | assumption | (simp only [push_n, set_n, put_n, lc0, ln0, la0, Nat.reduceAdd]; done) | (simp only [push_n, set_n, put_n, lc0, ln0, la0]; omega) | (simp only [List.all_cons, List.all_nil, one_bool, one_int, one_str, one_ptr, one_nilptr, one_slice, one_eslice, one_nilslice, one_func, one_iface, one_niliface, Bool.and_true, Bool.true_and, List.getD_cons_zero, List.getD_cons_succ, List.contains_cons, List.contains_nil, Bool.or_true, Bool.true_or, Bool.or_false, Bool.false_or, Nat.reduceBEq, *]; done) | fail)) only [hb, go_sem, ↓act_zero, Hold.p, HoldK.k, HoldL.K, HoldL.body, Nat.reduceBEq, Nat.reduceAdd, reduceIte]
    exact l01In_c _ _ _ _
  simp (disch := (first | omega | assumption | (simp only [push_n, set_n, put_n, lc0, ln0, la0, Nat.reduceAdd]; done) | (simp only [push_n, set_n, put_n, lc0, ln0, la0]; omega) | (simp only [List.all_cons, List.all_nil, one_bool, one_int, one_str, one_ptr, one_nilptr, one_slice, one_eslice, one_nilslice, one_func, one_iface, one_niliface, Bool.and_true, Bool.true_and, List.getD_cons_zero, List.getD_cons_succ, List.contains_cons, List.contains_nil, Bool.or_true, Bool.true_or, Bool.or_false, Bool.false_or, Nat.reduceBEq, *]; done) | fail)) only [q, go_sem, ↓act_zero, Hold.p, HoldK.k, HoldL.K, HoldL.body, Nat.reduceBEq, Nat.reduceAdd, reduceIte]
  refine guard_pureT (v := .bool (decide (0 ≤ p.proto) && decide (p.proto ≤ 255))) (fun hb => ?_) ?_
  · simp (disch := (first | omega | assumption | (simp only [push_n, set_n, put_n, lc0, ln0, la0, Nat.reduceAdd]; done) | (simp only [push_n, set_n, put_n, lc0, ln0, la0]; omega) | (simp only [List.all_cons, List.all_nil, one_bool, one_int, one_str, one_ptr, one_nilptr, one_slice, one_eslice, one_nilslice, one_func, one_iface, one_niliface, Bool.and_true, Bool.true_and, List.getD_cons_zero, List.getD_cons_succ, List.contains_cons, List.contains_nil, Bool.or_true, Bool.true_or, Bool.or_false, Bool.false_or, Nat.reduceBEq, *]; done) | fail)) only [hb, go_sem, ↓act_zero, Hold.p, HoldK.k, HoldL.K, HoldL.body, Nat.reduceBEq, Nat.reduceAdd, reduceIte]
    exact l01In_c _ _ _ _
  simp (disch := (first | omega | assumption | (simp only [push_n, set_n, put_n, lc0, ln0, la0, Nat.reduceAdd]; done) | (simp only [push_n, set_n, put_n, lc0, ln0, la0]; omega) | (simp only [List.all_cons, List.all_nil, one_bool, one_int, one_str, one_ptr, one_nilptr, one_slice, one_eslice, one_nilslice, one_func, one_iface, one_niliface, Bool.and_true, Bool.true_and, List.getD_cons_zero, List.getD_cons_succ, List.contains_cons, List.contains_nil, Bool.or_true, Bool.true_or, Bool.or_false, Bool.false_or, Nat.reduceBEq, *]; done) | fail)) only [q, go_sem, ↓act_zero, Hold.p, HoldK.k, HoldL.K, HoldL.body, Nat.reduceBEq, Nat.reduceAdd, reduceIte]
  refine guard_pureT (v := .bool (decide (0 ≤ p.id) && decide (p.id ≤ 65535))) (fun hb => ?_) ?_
  · simp (disch := (first | omega | assumption | (simp only [push_n, set_n, put_n, lc0, ln0, la0, Nat.reduceAdd]; done) | (simp only [push_n, set_n, put_n, lc0, ln0, la0]; omega) | (simp only [List.all_cons, List.all_nil, one_bool, one_int, one_str, one_ptr, one_nilptr, one_slice, one_eslice, one_nilslice, one_func, one_iface, one_niliface, Bool.and_true, Bool.true_and, List.getD_cons_zero, List.getD_cons_succ, List.contains_cons, List.contains_nil, Bool.or_true, Bool.true_or, Bool.or_false, Bool.false_or, Nat.reduceBEq, *]; done) | fail)) only [hb, go_sem, ↓act_zero, Hold.p, HoldK.k, HoldL.K, HoldL.body, Nat.reduceBEq, Nat.reduceAdd, reduceIte]
    exact l01In_c _ _ _ _
  simp (disch := (first | omega | assumption | (simp only [push_n, set_n, put_n, lc0, ln0, la0, Nat.reduceAdd]; done) | (simp only [push_n, set_n, put_n, lc0, ln0, la0]; omega) | (simp only [List.all_cons, List.all_nil, one_bool, one_int, one_str, one_ptr, one_nilptr, one_slice, one_eslice, one_nilslice, one_func, one_iface, one_niliface, Bool.and_true, Bool.true_and, List.getD_cons_zero, List.getD_cons_succ, List.contains_cons, List.contains_nil, Bool.or_true, Bool.true_or, Bool.or_false, Bool.false_or, Nat.reduceBEq, *]; done) | fail)) only [q, go_sem, ↓act_zero, Hold.p, HoldK.k, HoldL.K, HoldL.body, Nat.reduceBEq, Nat.reduceAdd, reduceIte]
  refine guard_pureT (v := .bool (decide (0 ≤ p.off) && decide (p.off ≤ 65528))) (fun hb => ?_) ?_
  · simp (disch := (first | omega | assumption | (simp only [push_n, set_n, put_n, lc0, ln0, la0, Nat.reduceAdd]; done) | (simp only [push_n, set_n, put_n, lc0, ln0, la0]; omega) | (simp only [List.all_cons, List.all_nil, one_bool, one_int, one_str, one_ptr, one_nilptr, one_slice, one_eslice, one_nilslice, one_func, one_iface, one_niliface, Bool.and_true, Bool.true_and, List.getD_cons_zero, List.getD_cons_succ, List.contains_cons, List.contains_nil, Bool.or_true, Bool.true_or, Bool.or_false, Bool.false_or, Nat.reduceBEq, *]; done) | fail)) only [hb, go_sem, ↓act_zero, Hold.p, HoldK.k, HoldL.K, HoldL.body, Nat.reduceBEq, Nat.reduceAdd, reduceIte]
    exact l01In_c _ _ _ _
  simp (disch := (first | omega | assumption | (simp only [push_n, set_n, put_n, lc0, ln0, la0, Nat.reduceAdd]; done) | (simp only [push_n, set_n, put_n, lc0, ln0, la0]; omega) | (simp only [List.all_cons, List.all_nil, one_bool, one_int, one_str, one_ptr, one_nilptr, one_slice, one_eslice, one_nilslice, one_func, one_iface, one_niliface, Bool.and_true, Bool.true_and, List.getD_cons_zero, List.getD_cons_succ, List.contains_cons, List.contains_nil, Bool.or_true, Bool.true_or, Bool.or_false, Bool.false_or, Nat.reduceBEq, *]; done) | fail)) only [q, r8, go_sem, ↓act_zero, Hold.p, HoldK.k, HoldL.K, HoldL.body, Nat.reduceBEq, Nat.reduceAdd, reduceIte]
  refine guard_pureT (v := .bool (okAddr p.src)) (fun hb => ?_) ?_
  · simp (disch := (first | omega | assumption | (simp only [push_n, set_n, put_n, lc0, ln0, la0, Nat.reduceAdd]; done) | (simp only [push_n, set_n, put_n, lc0, ln0, la0]; omega) | (simp only [List.all_cons, List.all_nil, one_bool, one_int, one_str, one_ptr, one_nilptr, one_slice, one_eslice, one_nilslice, one_func, one_iface, one_niliface, Bool.and_true, Bool.true_and, List.getD_cons_zero, List.getD_cons_succ, List.contains_cons, List.contains_nil, Bool.or_true, Bool.true_or, Bool.or_false, Bool.false_or, Nat.reduceBEq, *]; done) | fail)) only [hb, go_sem, ↓act_zero, Hold.p, HoldK.k, HoldL.K, HoldL.body, Nat.reduceBEq, Nat.reduceAdd, reduceIte]
    exact l02AddrOK_c _ p.src
  simp (disch := (first | omega | assumption | (simp only [push_n, set_n, put_n, lc0, ln0, la0, Nat.reduceAdd]; done) | (simp only [push_n, set_n, put_n, lc0, ln0, la0]; omega) | (simp only [List.all_cons, List.all_nil, one_bool, one_int, one_str, one_ptr, one_nilptr, one_slice, one_eslice, one_nilslice, one_func, one_iface, one_niliface, Bool.and_true, Bool.true_and, List.getD_cons_zero, List.getD_cons_succ, List.contains_cons, List.contains_nil, Bool.or_true, Bool.true_or, Bool.or_false, Bool.false_or, Nat.reduceBEq, *]; done) | fail)) only [q, go_sem, ↓act_zero, Hold.p, HoldK.k, HoldL.K, HoldL.body, Nat.reduceBEq, Nat.reduceAdd, reduceIte]
  refine guard_pureT (v := .bool (okAddr p.dst)) (fun hb => ?_) ?_
  · simp (disch := (first | omega | assumption | (simp only [push_n, set_n, put_n, lc0, ln0, la0, Nat.reduceAdd]; done) | (simp only [push_n, set_n, put_n, lc0, ln0, la0]; omega) | (simp only [List.all_cons, List.all_nil, one_bool, one_int, one_str, one_ptr, one_nilptr, one_slice, one_eslice, one_nilslice, one_func, one_iface, one_niliface, Bool.and_true, Bool.true_and, List.getD_cons_zero, List.getD_cons_succ, List.contains_cons, List.contains_nil, Bool.or_true, Bool.true_or, Bool.or_false, Bool.false_or, Nat.reduceBEq, *]; done) | fail)) only [hb, go_sem, ↓act_zero, Hold.p, HoldK.k, HoldL.K, HoldL.body, Nat.reduceBEq, Nat.reduceAdd, reduceIte]
    exact l02AddrOK_c _ p.dst
  simp (disch := (first | omega | assumption | (simp only [push_n, set_n, put_n, lc0, ln0, la0, Nat.reduceAdd]; done) | (simp only [push_n, set_n, put_n, lc0, ln0, la0]; omega) | (simp only [List.all_cons, List.all_nil, one_bool, one_int, one_str, one_ptr, one_nilptr, one_slice, one_eslice, one_nilslice, one_func, one_iface, one_niliface, Bool.and_true, Bool.true_and, List.getD_cons_zero, List.getD_cons_succ, List.contains_cons, List.contains_nil, Bool.or_true, Bool.true_or, Bool.or_false, Bool.false_or, Nat.reduceBEq, *]; done) | fail)) only [q, l1, r4, go_sem, ↓act_zero, Hold.p, HoldK.k, HoldL.K, HoldL.body, Nat.reduceBEq, Nat.reduceAdd, reduceIte]
  refine ⟨?_, e_g⟩
  simp only [okIPb, Bool.and_assoc]
theorem dup_c (h : IH) (v : IV) (bs : Txt) (hs : SlR h 1 v (strRows bs)) (hl : bs.length ≤ 8388608) : ICalls Try.prog 41 [v] h fun r h' => Own h.n h'.n h' 5 1 r (strRows bs) ∧ Ext h h' := by
  refine icalls (.of ok41) (Nat.le_of_ble_eq_true rfl) ?_
  unfold c41
  have v1 := hs.one
  have hsrc := hs.src
  simp (disch := (first | omega | assumption | (simp only [push_n, set_n, put_n, lc0, ln0, la0, Nat.reduceAdd]; done) | (simp only [push_n, set_n, put_n, lc0, ln0, la0]; omega) | (simp only [List.all_cons, List.all_nil, one_bool, one_int, one_str, one_ptr, one_nilptr, one_slice, one_eslice, one_nilslice, one_func, one_iface, one_niliface, Bool.and_true, Bool.true_and, List.getD_cons_zero, List.getD_cons_succ, List.contains_cons, List.contains_nil, Bool.or_true, Bool.true_or, Bool.or_false, Bool.false_or, Nat.reduceBEq, *]; done) | fail)) only [v1, hsrc, go_sem, ↓act_zero, Hold.p, HoldK.k, HoldL.K, HoldL.body, Nat.reduceBEq, Nat.reduceAdd, reduceIte]
  by_cases hb : bs = []
  · subst hb
    refine appA_none rfl ?_
    simp (disch := (first | omega | assumption | (simp only [push_n, set_n, put_n, lc0, ln0, la0, Nat.reduceAdd]; done) | (simp only [push_n, set_n, put_n, lc0, ln0, la0]; omega) | (simp only [List.all_cons, List.all_nil, one_bool, one_int, one_str, one_ptr, one_nilptr, one_slice, one_eslice, one_nilslice, one_func, one_iface, one_niliface, Bool.and_true, Bool.true_and, List.getD_cons_zero, List.getD_cons_succ, List.contains_cons, List.contains_nil, Bool.or_true, Bool.true_or, Bool.or_false, Bool.false_or, Nat.reduceBEq, *]; done) | fail)) only [go_sem, ↓act_zero, Hold.p, HoldK.k, HoldL.K, HoldL.body, Nat.reduceBEq, Nat.reduceAdd, reduceIte]
    exact ⟨Own.nil, Ext.refl _⟩
  · refine (Own.nil (lo := h.n) (hi := h.n) (h := h) (el := 5) (sz := 1)).app (by simpa [strRows] using hb) (by simp only [strRows_len, ln0]; omega) ?_
    intro v6 h6 o6 t6 n6 v6o v6c
    simp (disch := (first | omega | assumption | (simp only [push_n, set_n, put_n, lc0, ln0, la0, Nat.reduceAdd]; done) | (simp only [push_n, set_n, put_n, lc0, ln0, la0]; omega) | (simp only [List.all_cons, List.all_nil, one_bool, one_int, one_str, one_ptr, one_nilptr, one_slice, one_eslice, one_nilslice, one_func, one_iface, one_niliface, Bool.and_true, Bool.true_and, List.getD_cons_zero, List.getD_cons_succ, List.contains_cons, List.contains_nil, Bool.or_true, Bool.true_or, Bool.or_false, Bool.false_or, Nat.reduceBEq, *]; done) | fail)) only [go_sem, ↓act_zero, Hold.p, HoldK.k, HoldL.K, HoldL.body, Nat.reduceBEq, Nat.reduceAdd, reduceIte]
    exact ⟨o6.wide (Nat.le_refl _) (by omega) (Nat.le_refl _), (Ext.refl h).turn (Own.nil (lo := h.n) (hi := h.n) (h := h) (el := 5) (sz := 1)) (Nat.le_refl _) t6⟩
theorem isTime_c (h : IH) (a b : Int) (ha : 0 ≤ a ∧ a ≤ 1000000000) : ICalls Try.prog 55 [.int .i64 a, .int .i64 b] h fun r h' => r = .bool (decide (0 ≤ b) && decide (b ≤ 1000000000 - a)) ∧ h' = h := by
  refine icalls (.of ok55) (Nat.le_of_ble_eq_true rfl) ?_
  unfold c55
  by_cases hb : 0 ≤ b ∧ b ≤ 1000000000
  · have w : wr .i64 (a + b) = a + b := wr64 _ (by omega)
    have d1 : decide (0 ≤ b) = true := decide_eq_true hb.1
    have d2 : decide (b ≤ 1000000000) = true := decide_eq_true hb.2
    simp (disch := (first | omega | assumption | (simp only [push_n, set_n, put_n, lc0, ln0, la0, Nat.reduceAdd]; done) | (simp only [push_n, set_n, put_n, lc0, ln0, la0]; omega) | (simp only [List.all_cons, List.all_nil, one_bool, one_int, one_str, one_ptr, one_nilptr, one_slice, one_eslice, one_nilslice, one_func, one_iface, one_niliface, Bool.and_true, Bool.true_and, List.getD_cons_zero, List.getD_cons_succ, List.contains_cons, List.contains_nil, Bool.or_true, Bool.true_or, Bool.or_false, Bool.false_or, Nat.reduceBEq, *]; done) | fail)) only [w, d1, d2, go_sem, ↓act_zero, Hold.p, HoldK.k, HoldL.K, HoldL.body, Nat.reduceBEq, Nat.reduceAdd, reduceIte]
    by_cases h2 : a + b ≤ 1000000000
    · rw [decide_eq_true h2, decide_eq_true (by omega)]; rfl
    · rw [decide_eq_false h2, decide_eq_false (by omega)]; rfl
  · simp (disch := (first | omega | assumption | (simp only [push_n, set_n, put_n, lc0, ln0, la0, Nat.reduceAdd]; done) | (simp only [push_n, set_n, put_n, lc0, ln0, la0]; omega) | (simp only [List.all_cons, List.all_nil, one_bool, one_int, one_str, one_ptr, one_nilptr, one_slice, one_eslice, one_nilslice, one_func, one_iface, one_niliface, Bool.and_true, Bool.true_and, List.getD_cons_zero, List.getD_cons_succ, List.contains_cons, List.contains_nil, Bool.or_true, Bool.true_or, Bool.or_false, Bool.false_or, Nat.reduceBEq, *]; done) | fail)) only [go_sem, ↓act_zero, Hold.p, HoldK.k, HoldL.K, HoldL.body, Nat.reduceBEq, Nat.reduceAdd, reduceIte]
    congr 1
    rcases Classical.em (0 ≤ b) with h1 | h1
    · rw [decide_eq_false (p := b ≤ 1000000000) (by omega), decide_eq_false (p := b ≤ 1000000000 - a) (by omega)]; simp
    · rw [decide_eq_false h1]; simp
theorem l03Same_c (h : IH) (v w : IV) (a b : Txt) (hv : SlR h 1 v (strRows a)) (hw : SlR h 1 w (strRows b)) : ICalls Try.prog 68 [v, w] h fun r h' => r = .bool (decide (a = b)) ∧ h' = h := by
  refine icalls (.of ok68) (Nat.le_of_ble_eq_true rfl) ?_
  unfold c68
  have e1 := hv.b2s
  have e2 := hw.b2s
  simp (disch := (first | omega | assumption | (simp only [push_n, set_n, put_n, lc0, ln0, la0, Nat.reduceAdd]; done) | (simp only [push_n, set_n, put_n, lc0, ln0, la0]; omega) | (simp only [List.all_cons, List.all_nil, one_bool, one_int, one_str, one_ptr, one_nilptr, one_slice, one_eslice, one_nilslice, one_func, one_iface, one_niliface, Bool.and_true, Bool.true_and, List.getD_cons_zero, List.getD_cons_succ, List.contains_cons, List.contains_nil, Bool.or_true, Bool.true_or, Bool.or_false, Bool.false_or, Nat.reduceBEq, *]; done) | fail)) only [e1, e2, go_sem, ↓act_zero, Hold.p, HoldK.k, HoldL.K, HoldL.body, Nat.reduceBEq, Nat.reduceAdd, reduceIte]
theorem lwSame_c (h : IH) (v w : IV) (a b : Txt) (hv : SlR h 1 v (strRows a)) (hw : SlR h 1 w (strRows b)) : ICalls Try.prog 42 [v, w] h fun r h' => r = .bool (decide (a = b)) ∧ h' = h := by
  refine icalls (.of ok42) (Nat.le_of_ble_eq_true rfl) ?_
  unfold c42
  have e1 := hv.b2s
  have e2 := hw.b2s
  simp (disch := (first | omega | assumption | (simp only [push_n, set_n, put_n, lc0, ln0, la0, Nat.reduceAdd]; done) | (simp only [push_n, set_n, put_n, lc0, ln0, la0]; omega) | (simp only [List.all_cons, List.all_nil, one_bool, one_int, one_str, one_ptr, one_nilptr, one_slice, one_eslice, one_nilslice, one_func, one_iface, one_niliface, Bool.and_true, Bool.true_and, List.getD_cons_zero, List.getD_cons_succ, List.contains_cons, List.contains_nil, Bool.or_true, Bool.true_or, Bool.or_false, Bool.false_or, Nat.reduceBEq, *]; done) | fail)) only [e1, e2, go_sem, ↓act_zero, Hold.p, HoldK.k, HoldL.K, HoldL.body, Nat.reduceBEq, Nat.reduceAdd, reduceIte]
theorem bEqual_c (h : IH) (v w : IV) (a b : Txt) (hv : SlR h 1 v (strRows a)) (hw : SlR h 1 w (strRows b)) : ICalls Try.prog 73 [v, w] h fun r h' => r = .bool (decide (a = b)) ∧ h' = h := by
  refine icalls (.of ok73) (Nat.le_of_ble_eq_true rfl) ?_
  unfold c73
  have e1 := hv.b2s
  have e2 := hw.b2s
  simp (disch := (first | omega | assumption | (simp only [push_n, set_n, put_n, lc0, ln0, la0, Nat.reduceAdd]; done) | (simp only [push_n, set_n, put_n, lc0, ln0, la0]; omega) | (simp only [List.all_cons, List.all_nil, one_bool, one_int, one_str, one_ptr, one_nilptr, one_slice, one_eslice, one_nilslice, one_func, one_iface, one_niliface, Bool.and_true, Bool.true_and, List.getD_cons_zero, List.getD_cons_succ, List.contains_cons, List.contains_nil, Bool.or_true, Bool.true_or, Bool.or_false, Bool.false_or, Nat.reduceBEq, *]; done) | fail)) only [e1, e2, go_sem, ↓act_zero, Hold.p, HoldK.k, HoldL.K, HoldL.body, Nat.reduceBEq, Nat.reduceAdd, reduceIte]
theorem sizeI_c (h : IH) (p : Pk) (vo vp : IV) (a : PkAt h p vo vp) (hl : p.opts.length + p.pay.length ≤ 8388608) : ICalls Try.prog 23 [.agg (pkRow p vo vp)] h fun r h' => r = .int .i64 (if okIPb p = true then 20 + (p.opts.length : Int) + p.pay.length else 0) ∧ Ext h h' := by
  refine icalls (.of ok23) (Nat.le_of_ble_eq_true rfl) ?_
  unfold c23 pkRow
  have v1 := a.o.one
  have v2 := a.p.one
  have l1 := a.o.lenF
  have l2 := a.p.lenF
  rw [strRows_len] at l1 l2
  simp (disch := (first | omega | assumption | (simp only [push_n, set_n, put_n, lc0, ln0, la0, Nat.reduceAdd]; done) | (simp only [push_n, set_n, put_n, lc0, ln0, la0]; omega) | (simp only [List.all_cons, List.all_nil, one_bool, one_int, one_str, one_ptr, one_nilptr, one_slice, one_eslice, one_nilslice, one_func, one_iface, one_niliface, Bool.and_true, Bool.true_and, List.getD_cons_zero, List.getD_cons_succ, List.contains_cons, List.contains_nil, Bool.or_true, Bool.true_or, Bool.or_false, Bool.false_or, Nat.reduceBEq, *]; done) | fail)) only [v1, v2, go_sem, ↓act_zero, Hold.p, HoldK.k, HoldL.K, HoldL.body, Nat.reduceBEq, Nat.reduceAdd, reduceIte]
  generalize hq_g : IH.push h (pkObj p vo vp) = g
  have e_g : Ext h g := by rw [← hq_g]; exact (Ext.refl _).push _
  have l_g : g.n = h.n + 1 := by rw [← hq_g]; rfl
  have b : At g h.n (pkObj p vo vp) := by rw [← hq_g]; exact At.new _ _
  clear hq_g
  have a := a.ext e_g
  have q := b.eq
  try simp (disch := (first | omega | assumption | (simp only [push_n, set_n, put_n, lc0, ln0, la0, Nat.reduceAdd]; done) | (simp only [push_n, set_n, put_n, lc0, ln0, la0]; omega) | (simp only [List.all_cons, List.all_nil, one_bool, one_int, one_str, one_ptr, one_nilptr, one_slice, one_eslice, one_nilslice, one_func, one_iface, one_niliface, Bool.and_true, Bool.true_and, List.getD_cons_zero, List.getD_cons_succ, List.contains_cons, List.contains_nil, Bool.or_true, Bool.true_or, Bool.or_false, Bool.false_or, Nat.reduceBEq, *]; done) | fail)) only [q, go_sem, ↓act_zero, Hold.p, HoldK.k, HoldL.K, HoldL.body, Nat.reduceBEq, Nat.reduceAdd, reduceIte]
  refine callA_of (okIP_c g p vo vp a) ?_
  rintro r g2 ⟨rfl, E⟩
  have b := b.ext E
  have le_E := E.le
  have q := b.eq
  have hE := e_g.trans E
  have w1 : wr .i64 (20 + (p.opts.length : Int)) = 20 + (p.opts.length : Int) := wr64 _ (by omega)
  have w2 : wr .i64 (20 + (p.opts.length : Int) + (p.pay.length : Int)) = 20 + (p.opts.length : Int) + p.pay.length := wr64 _ (by omega)
  simp (disch := (first | omega | assumption | (simp only [push_n, set_n, put_n, lc0, ln0, la0, Nat.reduceAdd]; done) | (simp only [push_n, set_n, put_n, lc0, ln0, la0]; omega) | (simp only [List.all_cons, List.all_nil, one_bool, one_int, one_str, one_ptr, one_nilptr, one_slice, one_eslice, one_nilslice, one_func, one_iface, one_niliface, Bool.and_true, Bool.true_and, List.getD_cons_zero, List.getD_cons_succ, List.contains_cons, List.contains_nil, Bool.or_true, Bool.true_or, Bool.or_false, Bool.false_or, Nat.reduceBEq, *]; done) | fail)) only [go_sem, ↓act_zero, Hold.p, HoldK.k, HoldL.K, HoldL.body, Nat.reduceBEq, Nat.reduceAdd, reduceIte]
  refine test_of (fun hb => ?_) (fun hb => ?_)
  · have hf : okIPb p = false := by rwa [Bool.not_eq_true'] at hb
    simp (disch := (first | omega | assumption | (simp only [push_n, set_n, put_n, lc0, ln0, la0, Nat.reduceAdd]; done) | (simp only [push_n, set_n, put_n, lc0, ln0, la0]; omega) | (simp only [List.all_cons, List.all_nil, one_bool, one_int, one_str, one_ptr, one_nilptr, one_slice, one_eslice, one_nilslice, one_func, one_iface, one_niliface, Bool.and_true, Bool.true_and, List.getD_cons_zero, List.getD_cons_succ, List.contains_cons, List.contains_nil, Bool.or_true, Bool.true_or, Bool.or_false, Bool.false_or, Nat.reduceBEq, *]; done) | fail)) only [go_sem, ↓act_zero, Hold.p, HoldK.k, HoldL.K, HoldL.body, Nat.reduceBEq, Nat.reduceAdd, reduceIte]
    exact ⟨by rw [if_neg (by simp [hf])], hE⟩
  · have hf : okIPb p = true := by rwa [Bool.not_eq_false'] at hb
    simp (disch := (first | omega | assumption | (simp only [push_n, set_n, put_n, lc0, ln0, la0, Nat.reduceAdd]; done) | (simp only [push_n, set_n, put_n, lc0, ln0, la0]; omega) | (simp only [List.all_cons, List.all_nil, one_bool, one_int, one_str, one_ptr, one_nilptr, one_slice, one_eslice, one_nilslice, one_func, one_iface, one_niliface, Bool.and_true, Bool.true_and, List.getD_cons_zero, List.getD_cons_succ, List.contains_cons, List.contains_nil, Bool.or_true, Bool.true_or, Bool.or_false, Bool.false_or, Nat.reduceBEq, *]; done) | fail)) only [q, l1, l2, w1, w2, go_sem, ↓act_zero, Hold.p, HoldK.k, HoldL.K, HoldL.body, Nat.reduceBEq, Nat.reduceAdd, reduceIte]
    exact ⟨by rw [if_pos hf], hE⟩
end
end Go.Proofs.Ytjmmmmdpkfpojaa
