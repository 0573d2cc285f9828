import Derived.Test.YtcmcfmgabafljaaDoorIwP
import Derived.Test.YtcmcfmgabafljaaDoorProg
import Derived.KernelRfl
set_option linter.unusedVariables false
set_option linter.unusedSimpArgs false
namespace Go.Proofs.YtcmcfmgabafljaaDoor
open Go Go.IW
/-- loop.example/g00003/laws.FnExactEncodeReply -/
def c6 : CC :=
 (.seq (.reg [
   ⟨(some 1), none, .x (.box 41 5 (.t 0))⟩,
   ⟨(some 2), none, .f (.mv (.c (.bool false)))⟩])
 (.seq (.reg [
   ⟨(some 3), none, .f (.mv (.c (.int .i64 1048576)))⟩])
 (.seq (.reg [
   ⟨(some 14), none, .f (.ldA 5 (.t 1))⟩,
   ⟨(some 15), none, .f (.mv (.t 3))⟩,
   ⟨(some 16), none, .x (.call 25 [(.t 14), (.t 15)])⟩,
   ⟨(some 3), none, .f (.mv (.t 16))⟩])
 (.seq (.seq (.reg [
   ⟨(some 17), none, .f (.mv (.t 3))⟩,
   ⟨(some 18), none, .f (.bin .lss (.t 17) (.c (.int .i64 0)))⟩])
 (.cond (.t 18)
  (.seq (.reg [
    ⟨(some 2), none, .f (.mv (.c (.bool true)))⟩])
  .ret)
  .skip))
 (.seq (.reg [
   ⟨(some 20), none, .f (.ldA 5 (.t 1))⟩,
   ⟨(some 21), none, .x (.call 27 [(.t 20)])⟩,
   ⟨(some 22), none, .x (.call 26 [(.t 21)])⟩,
   ⟨(some 19), none, .f (.mv (.t 22))⟩,
   ⟨(some 23), none, .f (.ext 0 (.t 19))⟩,
   ⟨(some 24), none, .f (.ext 1 (.t 19))⟩,
   ⟨(some 4), none, .f (.mv (.t 23))⟩,
   ⟨(some 5), none, .f (.mv (.t 24))⟩])
 (.seq (.reg [
   ⟨(some 25), none, .f (.ldA 5 (.t 1))⟩,
   ⟨(some 26), none, .x (.call 27 [(.t 25)])⟩,
   ⟨(some 6), none, .x (.zero 44 5 [(.int .i64 0), (.int .i64 0), (.int .i64 0), (.str []), .nilslice])⟩,
   ⟨none, none, .x (.st 5 (.t 6) (.t 26))⟩])
 (.seq (.reg [
   ⟨(some 28), none, .f (.ldA 5 (.t 6))⟩,
   ⟨(some 29), none, .x (.call 28 [(.t 28)])⟩,
   ⟨(some 27), none, .f (.mv (.t 29))⟩,
   ⟨(some 30), none, .f (.ext 0 (.t 27))⟩,
   ⟨(some 31), none, .f (.ext 1 (.t 27))⟩,
   ⟨(some 7), none, .f (.mv (.t 30))⟩,
   ⟨(some 8), none, .f (.mv (.t 31))⟩])
 (.seq (.seq (.reg [
   ⟨(some 32), none, .f (.mv (.t 7))⟩,
   ⟨(some 33), none, .f (.mv (.t 4))⟩,
   ⟨(some 34), none, .x (.call 18 [(.t 32), (.t 33)])⟩,
   ⟨(some 35), none, .f (.un .not (.t 34))⟩,
   ⟨(some 36), none, .f (.mv (.t 35))⟩,
   ⟨(some 37), (some (36, false)), .f (.mv (.t 8))⟩,
   ⟨(some 38), (some (36, false)), .f (.mv (.t 5))⟩,
   ⟨(some 39), (some (36, false)), .f (.bin .neq (.t 37) (.t 38))⟩,
   ⟨(some 40), none, .f (.pick (.t 36) (.c (.bool true)) (.t 39))⟩])
 (.cond (.t 40)
  (.seq (.reg [
    ⟨(some 2), none, .f (.mv (.c (.bool false)))⟩])
  .ret)
  .skip))
 (.seq (.seq (.dreg [
   ⟨(some 41), none, .f (.ldA 5 (.t 6))⟩,
   ⟨(some 42), none, .f (.ldA 5 (.t 1))⟩,
   ⟨(some 43), none, .x (.call 27 [(.t 42)])⟩,
   ⟨(some 44), none, .x (.call 29 [(.t 41), (.t 43)])⟩,
   ⟨(some 45), none, .f (.un .not (.t 44))⟩]
   [false, false, true, true, false] [[], [], [1], [0, 2, 1], [3, 0, 2, 1]] [0, 1, 2, 3, 4])
 (.cond (.t 45)
  (.seq (.reg [
    ⟨(some 2), none, .f (.mv (.c (.bool false)))⟩])
  .ret)
  .skip))
 (.seq (.reg [
   ⟨(some 9), none, .f (.mv (.c (.int .i64 1)))⟩])
 (.seq (.reg [
   ⟨(some 46), none, .f (.ldA 5 (.t 6))⟩,
   ⟨(some 47), none, .f (.mv (.t 9))⟩,
   ⟨(some 48), none, .x (.call 30 [(.t 46), (.t 47)])⟩,
   ⟨(some 9), none, .f (.mv (.t 48))⟩])
 (.seq (.seq (.reg [
   ⟨(some 49), none, .f (.mv (.t 9))⟩,
   ⟨(some 50), none, .f (.bin .lss (.t 49) (.c (.int .i64 0)))⟩,
   ⟨(some 51), none, .f (.mv (.t 50))⟩,
   ⟨(some 52), (some (51, false)), .f (.mv (.t 7))⟩,
   ⟨(some 53), (some (51, false)), .f (.mv (.t 4))⟩,
   ⟨(some 54), (some (51, false)), .x (.call 18 [(.t 52), (.t 53)])⟩,
   ⟨(some 55), (some (51, false)), .f (.un .not (.t 54))⟩,
   ⟨(some 56), none, .f (.pick (.t 51) (.c (.bool true)) (.t 55))⟩,
   ⟨(some 57), none, .f (.mv (.t 56))⟩,
   ⟨(some 58), (some (57, false)), .f (.mv (.t 8))⟩,
   ⟨(some 59), (some (57, false)), .f (.mv (.t 5))⟩,
   ⟨(some 60), (some (57, false)), .f (.bin .neq (.t 58) (.t 59))⟩,
   ⟨(some 61), none, .f (.pick (.t 57) (.c (.bool true)) (.t 60))⟩])
 (.cond (.t 61)
  (.seq (.reg [
    ⟨(some 2), none, .f (.mv (.c (.bool false)))⟩])
  .ret)
  .skip))
 (.seq (.reg [
   ⟨(some 10), none, .f (.mv (.c (.int .i64 1)))⟩])
 (.seq (.reg [
   ⟨(some 62), none, .f (.mv (.t 7))⟩,
   ⟨(some 63), none, .f (.mv (.t 10))⟩,
   ⟨(some 64), none, .x (.call 19 [(.t 62), (.t 63)])⟩,
   ⟨(some 10), none, .f (.mv (.t 64))⟩])
 (.seq (.reg [
   ⟨(some 11), none, .f (.mv (.c (.int .i64 1)))⟩])
 (.seq (.reg [
   ⟨(some 65), none, .f (.mv (.t 7))⟩,
   ⟨(some 66), none, .f (.mv (.t 11))⟩,
   ⟨(some 67), none, .x (.call 20 [(.t 65), (.t 66)])⟩,
   ⟨(some 11), none, .f (.mv (.t 67))⟩])
 (.seq (.seq (.reg [
   ⟨(some 68), none, .f (.mv (.t 11))⟩,
   ⟨(some 69), none, .f (.bin .lss (.t 68) (.c (.int .i64 0)))⟩])
 (.cond (.t 69)
  (.seq (.reg [
    ⟨(some 2), none, .f (.mv (.c (.bool false)))⟩])
  .ret)
  .skip))
 (.seq (.seq (.reg [
   ⟨(some 70), none, .f (.mv (.t 11))⟩,
   ⟨(some 71), none, .f (.mv (.t 10))⟩,
   ⟨(some 72), none, .f (.bin .neq (.t 70) (.t 71))⟩])
 (.cond (.t 72)
  (.seq (.reg [
    ⟨(some 2), none, .f (.mv (.c (.bool false)))⟩])
  .ret)
  .skip))
 (.seq (.reg [
   ⟨(some 74), none, .f (.ldA 5 (.t 1))⟩,
   ⟨(some 75), none, .x (.call 27 [(.t 74)])⟩,
   ⟨(some 76), none, .x (.call 28 [(.t 75)])⟩,
   ⟨(some 73), none, .f (.mv (.t 76))⟩,
   ⟨(some 77), none, .f (.ext 0 (.t 73))⟩,
   ⟨(some 78), none, .f (.ext 1 (.t 73))⟩,
   ⟨(some 12), none, .f (.mv (.t 77))⟩,
   ⟨(some 13), none, .f (.mv (.t 78))⟩])
 (.seq (.seq (.reg [
   ⟨(some 79), none, .f (.mv (.t 12))⟩,
   ⟨(some 80), none, .f (.mv (.t 4))⟩,
   ⟨(some 81), none, .x (.call 18 [(.t 79), (.t 80)])⟩,
   ⟨(some 82), none, .f (.un .not (.t 81))⟩,
   ⟨(some 83), none, .f (.mv (.t 82))⟩,
   ⟨(some 84), (some (83, false)), .f (.mv (.t 13))⟩,
   ⟨(some 85), (some (83, false)), .f (.mv (.t 5))⟩,
   ⟨(some 86), (some (83, false)), .f (.bin .neq (.t 84) (.t 85))⟩,
   ⟨(some 87), none, .f (.pick (.t 83) (.c (.bool true)) (.t 86))⟩])
 (.cond (.t 87)
  (.seq (.reg [
    ⟨(some 2), none, .f (.mv (.c (.bool false)))⟩])
  .ret)
  .skip))
 (.seq (.reg [
   ⟨(some 11), none, .f (.mv (.c (.int .i64 1)))⟩])
 (.seq (.reg [
   ⟨(some 88), none, .f (.mv (.t 7))⟩,
   ⟨(some 89), none, .f (.mv (.t 11))⟩,
   ⟨(some 90), none, .x (.call 20 [(.t 88), (.t 89)])⟩,
   ⟨(some 11), none, .f (.mv (.t 90))⟩])
 (.seq (.seq (.reg [
   ⟨(some 91), none, .f (.mv (.t 11))⟩,
   ⟨(some 92), none, .f (.bin .lss (.t 91) (.c (.int .i64 0)))⟩])
 (.cond (.t 92)
  (.seq (.reg [
    ⟨(some 2), none, .f (.mv (.c (.bool false)))⟩])
  .ret)
  .skip))
 (.seq (.seq (.reg [
   ⟨(some 93), none, .f (.mv (.t 11))⟩,
   ⟨(some 94), none, .f (.mv (.t 10))⟩,
   ⟨(some 95), none, .f (.bin .neq (.t 93) (.t 94))⟩])
 (.cond (.t 95)
  (.seq (.reg [
    ⟨(some 2), none, .f (.mv (.c (.bool false)))⟩])
  .ret)
  .skip))
 (.seq (.reg [
   ⟨(some 2), none, .f (.mv (.c (.bool true)))⟩])
 .ret)))))))))))))))))))))))))
theorem ok6 : fnComp Tryd.prog 6 = some (96, c6, [(.mv (.t 2))]) := by kernel_rfl

/-- loop.example/g00003/laws.szNameReply -/
def c25 : CC :=
 (.seq (.reg [
   ⟨(some 2), none, .x (.box 41 5 (.t 0))⟩,
   ⟨(some 4), none, .f (.mv (.c (.int .i64 0)))⟩])
 (.seq (.reg [
   ⟨(some 5), none, .f (.mv (.t 1))⟩,
   ⟨(some 6), none, .f (.fadr 3 (.t 2))⟩,
   ⟨(some 7), none, .f (.ld (.t 6))⟩,
   ⟨(some 8), none, .f (.lenS (.t 7))⟩,
   ⟨(some 9), none, .f (.bin .sub (.t 5) (.t 8))⟩,
   ⟨(some 1), none, .f (.mv (.t 9))⟩])
 (.seq (.seq (.reg [
   ⟨(some 10), none, .f (.mv (.t 1))⟩,
   ⟨(some 11), none, .f (.bin .lss (.t 10) (.c (.int .i64 0)))⟩])
 (.cond (.t 11)
  (.seq (.reg [
    ⟨(some 4), none, .f (.mv (.c (.int .i64 (-1))))⟩])
  .ret)
  .skip))
 (.seq (.reg [
   ⟨(some 12), none, .f (.fadr 4 (.t 2))⟩,
   ⟨(some 13), none, .f (.ld (.t 12))⟩,
   ⟨(some 14), none, .f (.mv (.t 1))⟩,
   ⟨(some 15), none, .x (.call 69 [(.t 13), (.t 14)])⟩,
   ⟨(some 1), none, .f (.mv (.t 15))⟩])
 (.seq (.seq (.reg [
   ⟨(some 16), none, .f (.mv (.t 1))⟩,
   ⟨(some 17), none, .f (.bin .lss (.t 16) (.c (.int .i64 0)))⟩])
 (.cond (.t 17)
  (.seq (.reg [
    ⟨(some 4), none, .f (.mv (.c (.int .i64 (-1))))⟩])
  .ret)
  .skip))
 (.seq (.reg [
   ⟨(some 18), none, .f (.mv (.t 1))⟩,
   ⟨(some 4), none, .f (.mv (.t 18))⟩])
 .ret))))))
theorem ok25 : fnComp Tryd.prog 25 = some (19, c25, [(.mv (.t 4))]) := by kernel_rfl

/-- loop.example/g00003/spec.EncodeReply -/
def c26 : CC :=
 (.seq (.reg [
   ⟨(some 1), none, .x (.box 44 5 (.t 0))⟩,
   ⟨(some 2), none, .f (.mv (.c .nilslice))⟩,
   ⟨(some 3), none, .f (.mv (.c (.int .i64 0)))⟩])
 (.seq (.seq (.reg [
   ⟨(some 6), none, .f (.ldA 5 (.t 1))⟩,
   ⟨(some 7), none, .x (.call 70 [(.t 6)])⟩,
   ⟨(some 8), none, .f (.un .not (.t 7))⟩])
 (.cond (.t 8)
  (.seq (.reg [
    ⟨(some 2), none, .f (.mv (.c .nilslice))⟩,
    ⟨(some 3), none, .f (.mv (.c (.int .i64 1)))⟩])
  .ret)
  .skip))
 (.seq (.treg [
   ⟨(some 9), none, .f (.fadr 0 (.t 1))⟩,
   ⟨(some 10), none, .f (.ld (.t 9))⟩,
   ⟨(some 11), none, .x (.call 62 [(.t 10), (.c (.int .i64 2))])⟩,
   ⟨(some 12), none, .f (.fadr 1 (.t 1))⟩,
   ⟨(some 13), none, .f (.ld (.t 12))⟩,
   ⟨(some 14), none, .f (.cvI .u8 (.t 13))⟩,
   ⟨(some 15), none, .x (.bslice 5 1 [(.int .u8 0)] 2 [(0, (.c (.int .u8 1))), (1, (.t 14))])⟩,
   ⟨(some 16), none, .x (.call 61 [(.t 11), (.t 15)])⟩,
   ⟨(some 4), none, .f (.mv (.t 16))⟩]
   [[], [0], [1, 0], [], [3], [4, 3], [5, 4, 3], [2, 1, 0, 6, 5, 4, 3], [7, 2, 1, 0, 6, 5, 4, 3]] (.fl 0 (.fl 1 (.fl 3 (.fl 4 (.fl 5 (.br 2 (.br 6 (.br 7 (.fl 8 .fin) .stop) .stop) (.br 6 (.br 2 (.br 7 (.fl 8 .fin) .stop) .stop) .stop))))))))
 (.seq (.treg [
   ⟨(some 17), none, .f (.mv (.t 4))⟩,
   ⟨(some 18), none, .f (.fadr 2 (.t 1))⟩,
   ⟨(some 19), none, .f (.ld (.t 18))⟩,
   ⟨(some 20), none, .x (.call 62 [(.t 19), (.c (.int .i64 4))])⟩,
   ⟨(some 21), none, .x (.call 61 [(.t 17), (.t 20)])⟩,
   ⟨(some 22), none, .f (.fadr 3 (.t 1))⟩,
   ⟨(some 23), none, .f (.ld (.t 22))⟩,
   ⟨(some 24), none, .f (.lenS (.t 23))⟩,
   ⟨(some 25), none, .f (.cvI .u8 (.t 24))⟩,
   ⟨(some 26), none, .x (.bslice 5 1 [(.int .u8 0)] 1 [(0, (.t 25))])⟩,
   ⟨(some 27), none, .x (.call 61 [(.t 21), (.t 26)])⟩,
   ⟨(some 4), none, .f (.mv (.t 27))⟩]
   [[], [], [1], [2, 1], [0, 3, 2, 1], [], [5], [6, 5], [7, 6, 5], [8, 7, 6, 5], [4, 0, 3, 2, 1, 9, 8, 7, 6, 5], [10, 4, 0, 3, 2, 1, 9, 8, 7, 6, 5]] (.fl 0 (.fl 1 (.fl 2 (.fl 5 (.fl 6 (.fl 7 (.fl 8 (.br 3 (.br 4 (.br 9 (.br 10 (.br 11 .fin .stop) .stop) .stop) (.br 9 (.br 4 (.br 10 (.br 11 .fin .stop) .stop) .stop) .stop)) (.br 9 (.br 3 (.br 4 (.br 10 (.br 11 .fin .stop) .stop) .stop) .stop) .stop))))))))))
 (.seq (.treg [
   ⟨(some 28), none, .f (.mv (.t 4))⟩,
   ⟨(some 29), none, .f (.fadr 3 (.t 1))⟩,
   ⟨(some 30), none, .f (.ld (.t 29))⟩,
   ⟨(some 31), none, .x (.s2b 5 (.t 30))⟩,
   ⟨(some 32), none, .x (.call 61 [(.t 28), (.t 31)])⟩,
   ⟨(some 33), none, .f (.fadr 4 (.t 1))⟩,
   ⟨(some 34), none, .f (.ld (.t 33))⟩,
   ⟨(some 35), none, .f (.len (.t 34))⟩,
   ⟨(some 36), none, .f (.cvI .u8 (.t 35))⟩,
   ⟨(some 37), none, .x (.bslice 5 1 [(.int .u8 0)] 1 [(0, (.t 36))])⟩,
   ⟨(some 38), none, .x (.call 61 [(.t 32), (.t 37)])⟩,
   ⟨(some 4), none, .f (.mv (.t 38))⟩]
   [[], [], [1], [2, 1], [0, 3, 2, 1], [], [5], [6, 5], [7, 6, 5], [8, 7, 6, 5], [4, 0, 3, 2, 1, 9, 8, 7, 6, 5], [10, 4, 0, 3, 2, 1, 9, 8, 7, 6, 5]] (.fl 0 (.fl 1 (.fl 2 (.fl 5 (.fl 6 (.fl 7 (.fl 8 (.br 3 (.br 4 (.br 9 (.br 10 (.br 11 .fin .stop) .stop) .stop) (.br 9 (.br 4 (.br 10 (.br 11 .fin .stop) .stop) .stop) .stop)) (.br 9 (.br 3 (.br 4 (.br 10 (.br 11 .fin .stop) .stop) .stop) .stop) .stop))))))))))
 (.seq (.seq (.reg [
   ⟨(some 5), none, .f (.mv (.c (.int .i64 0)))⟩])
 (.block 0 (.loop (.seq (.seq (.reg [
     ⟨(some 39), none, .f (.mv (.t 5))⟩,
     ⟨(some 40), none, .f (.fadr 4 (.t 1))⟩,
     ⟨(some 41), none, .f (.ld (.t 40))⟩,
     ⟨(some 42), none, .f (.len (.t 41))⟩,
     ⟨(some 43), none, .f (.bin .lss (.t 39) (.t 42))⟩])
   (.cond (.t 43)
    .skip
    (.exit 0)))
   (.seq (.block 1 (.reg [
      ⟨(some 46), none, .f (.mv (.t 4))⟩,
      ⟨(some 47), none, .f (.fadr 4 (.t 1))⟩,
      ⟨(some 48), none, .f (.ld (.t 47))⟩,
      ⟨(some 49), none, .f (.mv (.t 5))⟩,
      ⟨(some 50), none, .f (.iadr 1 (.t 48) (.t 49))⟩,
      ⟨(some 51), none, .f (.ld (.t 50))⟩,
      ⟨(some 52), none, .x (.call 62 [(.t 51), (.c (.int .i64 4))])⟩,
      ⟨(some 53), none, .x (.call 61 [(.t 46), (.t 52)])⟩,
      ⟨(some 4), none, .f (.mv (.t 53))⟩]))
   (.reg [
     ⟨(some 44), none, .f (.mv (.t 5))⟩,
     ⟨(some 45), none, .f (.bin .add (.t 44) (.c (.int .i64 1)))⟩,
     ⟨(some 5), none, .f (.mv (.t 45))⟩]))))))
 (.seq (.reg [
   ⟨(some 54), none, .f (.mv (.t 4))⟩,
   ⟨(some 2), none, .f (.mv (.t 54))⟩,
   ⟨(some 3), none, .f (.mv (.c (.int .i64 0)))⟩])
 .ret)))))))
theorem ok26 : fnComp Tryd.prog 26 = some (55, c26, [(.mv (.t 2)), (.mv (.t 3))]) := by kernel_rfl

/-- loop.example/g00003/laws.toNameReply -/
def c27 : CC :=
 (.seq (.reg [
   ⟨(some 1), none, .x (.box 41 5 (.t 0))⟩,
   ⟨(some 2), none, .x (.zero 44 5 [(.int .i64 0), (.int .i64 0), (.int .i64 0), (.str []), .nilslice])⟩])
 (.seq (.reg [
   ⟨(some 3), none, .x (.zero 44 5 [(.int .i64 0), (.int .i64 0), (.int .i64 0), (.str []), .nilslice])⟩])
 (.seq (.reg [
   ⟨(some 4), none, .f (.fadr 0 (.t 1))⟩,
   ⟨(some 5), none, .f (.ld (.t 4))⟩,
   ⟨(some 6), none, .f (.fadr 0 (.t 3))⟩,
   ⟨none, none, .x (.st 1 (.t 6) (.t 5))⟩])
 (.seq (.reg [
   ⟨(some 7), none, .f (.fadr 1 (.t 1))⟩,
   ⟨(some 8), none, .f (.ld (.t 7))⟩,
   ⟨(some 9), none, .f (.fadr 1 (.t 3))⟩,
   ⟨none, none, .x (.st 1 (.t 9) (.t 8))⟩])
 (.seq (.reg [
   ⟨(some 10), none, .f (.fadr 2 (.t 1))⟩,
   ⟨(some 11), none, .f (.ld (.t 10))⟩,
   ⟨(some 12), none, .f (.fadr 2 (.t 3))⟩,
   ⟨none, none, .x (.st 1 (.t 12) (.t 11))⟩])
 (.seq (.reg [
   ⟨(some 13), none, .f (.fadr 3 (.t 1))⟩,
   ⟨(some 14), none, .f (.ld (.t 13))⟩,
   ⟨(some 15), none, .f (.fadr 3 (.t 3))⟩,
   ⟨none, none, .x (.st 1 (.t 15) (.t 14))⟩])
 (.seq (.reg [
   ⟨(some 16), none, .f (.fadr 4 (.t 1))⟩,
   ⟨(some 17), none, .f (.ld (.t 16))⟩,
   ⟨(some 18), none, .x (.call 71 [(.t 17)])⟩,
   ⟨(some 19), none, .f (.fadr 4 (.t 3))⟩,
   ⟨none, none, .x (.st 1 (.t 19) (.t 18))⟩])
 (.seq (.reg [
   ⟨(some 20), none, .f (.ldA 5 (.t 3))⟩,
   ⟨none, none, .x (.st 5 (.t 2) (.t 20))⟩])
 .ret))))))))
theorem ok27 : fnComp Tryd.prog 27 = some (21, c27, [(.ldA 5 (.t 2))]) := by kernel_rfl

/-- loop.example/g00003/impl.EncodeReply -/
def c28 : CC :=
 (.seq (.reg [
   ⟨(some 1), none, .x (.box 44 5 (.t 0))⟩,
   ⟨(some 2), none, .f (.mv (.c .nilslice))⟩,
   ⟨(some 3), none, .f (.mv (.c (.int .i64 0)))⟩])
 (.seq (.seq (.reg [
   ⟨(some 7), none, .f (.ldA 5 (.t 1))⟩,
   ⟨(some 8), none, .x (.call 72 [(.t 7)])⟩,
   ⟨(some 9), none, .f (.un .not (.t 8))⟩,
   ⟨(some 10), none, .f (.mv (.t 9))⟩,
   ⟨(some 11), (some (10, false)), .f (.fadr 3 (.t 1))⟩,
   ⟨(some 12), (some (10, false)), .f (.ld (.t 11))⟩,
   ⟨(some 13), (some (10, false)), .x (.call 13 [(.t 12)])⟩,
   ⟨(some 14), (some (10, false)), .f (.un .not (.t 13))⟩,
   ⟨(some 15), none, .f (.pick (.t 10) (.c (.bool true)) (.t 14))⟩])
 (.cond (.t 15)
  (.seq (.reg [
    ⟨(some 2), none, .f (.mv (.c .nilslice))⟩,
    ⟨(some 3), none, .f (.mv (.c (.int .i64 1)))⟩])
  .ret)
  .skip))
 (.seq (.treg [
   ⟨(some 16), none, .f (.fadr 0 (.t 1))⟩,
   ⟨(some 17), none, .f (.ld (.t 16))⟩,
   ⟨(some 18), none, .x (.call 63 [(.c .nilslice), (.c (.int .i64 2)), (.t 17)])⟩,
   ⟨(some 19), none, .f (.fadr 1 (.t 1))⟩,
   ⟨(some 20), none, .f (.ld (.t 19))⟩,
   ⟨(some 21), none, .f (.cvI .u8 (.t 20))⟩,
   ⟨(some 22), none, .x (.bslice 5 1 [(.int .u8 0)] 2 [(0, (.c (.int .u8 1))), (1, (.t 21))])⟩,
   ⟨(some 23), none, .x (.app 5 1 1 (.t 18) (.t 22))⟩,
   ⟨(some 24), none, .f (.fadr 2 (.t 1))⟩,
   ⟨(some 25), none, .f (.ld (.t 24))⟩,
   ⟨(some 26), none, .x (.call 63 [(.t 23), (.c (.int .i64 4)), (.t 25)])⟩,
   ⟨(some 4), none, .f (.mv (.t 26))⟩]
   [[], [0], [1, 0], [], [3], [4, 3], [5, 4, 3], [2, 1, 0, 6, 5, 4, 3], [], [8], [7, 2, 1, 0, 6, 5, 4, 3, 9, 8], [10, 7, 2, 1, 0, 6, 5, 4, 3, 9, 8]] (.fl 0 (.fl 1 (.fl 3 (.fl 4 (.fl 5 (.fl 8 (.fl 9 (.br 2 (.br 6 (.br 7 (.br 10 (.fl 11 .fin) .stop) .stop) .stop) (.br 6 (.br 2 (.br 7 (.br 10 (.fl 11 .fin) .stop) .stop) .stop) .stop))))))))))
 (.seq (.dreg [
   ⟨(some 27), none, .f (.mv (.t 4))⟩,
   ⟨(some 28), none, .f (.fadr 3 (.t 1))⟩,
   ⟨(some 29), none, .f (.ld (.t 28))⟩,
   ⟨(some 30), none, .f (.lenS (.t 29))⟩,
   ⟨(some 31), none, .f (.cvI .u8 (.t 30))⟩,
   ⟨(some 32), none, .x (.bslice 5 1 [(.int .u8 0)] 1 [(0, (.t 31))])⟩,
   ⟨(some 33), none, .x (.app 5 1 1 (.t 27) (.t 32))⟩,
   ⟨(some 34), none, .f (.fadr 3 (.t 1))⟩,
   ⟨(some 35), none, .f (.ld (.t 34))⟩,
   ⟨(some 36), none, .x (.appS 5 1 (.t 33) (.t 35))⟩,
   ⟨(some 4), none, .f (.mv (.t 36))⟩]
   [false, false, false, false, false, true, true, false, false, true, true] [[], [], [1], [2, 1], [3, 2, 1], [4, 3, 2, 1], [0, 5, 4, 3, 2, 1], [], [7], [6, 0, 5, 4, 3, 2, 1, 8, 7], [9, 6, 0, 5, 4, 3, 2, 1, 8, 7]] [0, 1, 2, 3, 4, 7, 8, 5, 6, 9, 10])
 (.seq (.reg [
   ⟨(some 37), none, .f (.mv (.t 4))⟩,
   ⟨(some 38), none, .f (.fadr 4 (.t 1))⟩,
   ⟨(some 39), none, .f (.ld (.t 38))⟩,
   ⟨(some 40), none, .f (.len (.t 39))⟩,
   ⟨(some 41), none, .f (.cvI .u8 (.t 40))⟩,
   ⟨(some 42), none, .x (.bslice 5 1 [(.int .u8 0)] 1 [(0, (.t 41))])⟩,
   ⟨(some 43), none, .x (.app 5 1 1 (.t 37) (.t 42))⟩,
   ⟨(some 4), none, .f (.mv (.t 43))⟩])
 (.seq (.seq (.reg [
   ⟨(some 44), none, .f (.fadr 4 (.t 1))⟩,
   ⟨(some 45), none, .f (.ld (.t 44))⟩,
   ⟨(some 46), none, .f (.len (.t 45))⟩,
   ⟨(some 47), none, .f (.mv (.c (.int .i64 0)))⟩])
 (.block 0 (.loop (.seq (.reg [
     ⟨(some 48), none, .f (.bin .lss (.t 47) (.t 46))⟩])
   (.seq (.cond (.t 48)
    .skip
    (.exit 0))
   (.seq (.block 1 (.seq (.reg [
      ⟨(some 49), none, .f (.iadr 1 (.t 45) (.t 47))⟩,
      ⟨(some 50), none, .f (.ld (.t 49))⟩,
      ⟨(some 6), none, .f (.mv (.t 50))⟩])
    (.reg [
      ⟨(some 51), none, .f (.mv (.t 4))⟩,
      ⟨(some 52), none, .f (.mv (.t 6))⟩,
      ⟨(some 53), none, .x (.call 63 [(.t 51), (.c (.int .i64 4)), (.t 52)])⟩,
      ⟨(some 4), none, .f (.mv (.t 53))⟩])))
   (.reg [
     ⟨(some 54), none, .f (.bin .add (.t 47) (.c (.int .i64 1)))⟩,
     ⟨(some 47), none, .f (.mv (.t 54))⟩])))))))
 (.seq (.reg [
   ⟨(some 55), none, .f (.mv (.t 4))⟩,
   ⟨(some 2), none, .f (.mv (.t 55))⟩,
   ⟨(some 3), none, .f (.mv (.c (.int .i64 0)))⟩])
 .ret)))))))
theorem ok28 : fnComp Tryd.prog 28 = some (56, c28, [(.mv (.t 2)), (.mv (.t 3))]) := by kernel_rfl

/-- loop.example/g00003/laws.szInt64S -/
def c69 : CC :=
 (.seq (.reg [
   ⟨(some 4), none, .f (.mv (.c (.int .i64 0)))⟩])
 (.seq (.reg [
   ⟨(some 5), none, .f (.mv (.t 1))⟩,
   ⟨(some 6), none, .f (.mv (.t 0))⟩,
   ⟨(some 7), none, .f (.len (.t 6))⟩,
   ⟨(some 8), none, .f (.bin .sub (.t 5) (.t 7))⟩,
   ⟨(some 1), none, .f (.mv (.t 8))⟩])
 (.seq (.seq (.reg [
   ⟨(some 9), none, .f (.mv (.t 1))⟩,
   ⟨(some 10), none, .f (.bin .lss (.t 9) (.c (.int .i64 0)))⟩])
 (.cond (.t 10)
  (.seq (.reg [
    ⟨(some 4), none, .f (.mv (.c (.int .i64 (-1))))⟩])
  .ret)
  .skip))
 (.seq (.reg [
   ⟨(some 11), none, .f (.mv (.t 1))⟩,
   ⟨(some 4), none, .f (.mv (.t 11))⟩])
 .ret))))
theorem ok69 : fnComp Tryd.prog 69 = some (12, c69, [(.mv (.t 4))]) := by kernel_rfl

/-- loop.example/g00003/spec.l19ReplyOK -/
def c70 : CC :=
 (.seq (.reg [
   ⟨(some 1), none, .x (.box 44 5 (.t 0))⟩,
   ⟨(some 2), none, .f (.mv (.c (.bool false)))⟩])
 (.seq (.seq (.reg [
   ⟨(some 4), none, .f (.fadr 0 (.t 1))⟩,
   ⟨(some 5), none, .f (.ld (.t 4))⟩,
   ⟨(some 6), none, .x (.call 60 [(.t 5)])⟩,
   ⟨(some 7), none, .f (.un .not (.t 6))⟩,
   ⟨(some 8), none, .f (.mv (.t 7))⟩,
   ⟨(some 9), (some (8, false)), .f (.fadr 3 (.t 1))⟩,
   ⟨(some 10), (some (8, false)), .f (.ld (.t 9))⟩,
   ⟨(some 11), (some (8, false)), .x (.call 12 [(.t 10)])⟩,
   ⟨(some 12), (some (8, false)), .f (.un .not (.t 11))⟩,
   ⟨(some 13), none, .f (.pick (.t 8) (.c (.bool true)) (.t 12))⟩,
   ⟨(some 14), none, .f (.mv (.t 13))⟩,
   ⟨(some 15), (some (14, false)), .f (.fadr 1 (.t 1))⟩,
   ⟨(some 16), (some (14, false)), .f (.ld (.t 15))⟩,
   ⟨(some 17), (some (14, false)), .x (.call 78 [(.t 16), (.c (.int .i64 0)), (.c (.int .i64 255))])⟩,
   ⟨(some 18), (some (14, false)), .f (.un .not (.t 17))⟩,
   ⟨(some 19), none, .f (.pick (.t 14) (.c (.bool true)) (.t 18))⟩,
   ⟨(some 20), none, .f (.mv (.t 19))⟩,
   ⟨(some 21), (some (20, false)), .f (.fadr 2 (.t 1))⟩,
   ⟨(some 22), (some (20, false)), .f (.ld (.t 21))⟩,
   ⟨(some 23), (some (20, false)), .x (.call 78 [(.t 22), (.c (.int .i64 0)), (.c (.int .i64 86400))])⟩,
   ⟨(some 24), (some (20, false)), .f (.un .not (.t 23))⟩,
   ⟨(some 25), none, .f (.pick (.t 20) (.c (.bool true)) (.t 24))⟩,
   ⟨(some 26), none, .f (.mv (.t 25))⟩,
   ⟨(some 27), (some (26, false)), .f (.fadr 4 (.t 1))⟩,
   ⟨(some 28), (some (26, false)), .f (.ld (.t 27))⟩,
   ⟨(some 29), (some (26, false)), .f (.len (.t 28))⟩,
   ⟨(some 30), (some (26, false)), .f (.bin .gtr (.t 29) (.c (.int .i64 8)))⟩,
   ⟨(some 31), none, .f (.pick (.t 26) (.c (.bool true)) (.t 30))⟩])
 (.cond (.t 31)
  (.seq (.reg [
    ⟨(some 2), none, .f (.mv (.c (.bool false)))⟩])
  .ret)
  .skip))
 (.seq (.seq (.reg [
   ⟨(some 3), none, .f (.mv (.c (.int .i64 0)))⟩])
 (.block 0 (.loop (.seq (.seq (.reg [
     ⟨(some 32), none, .f (.mv (.t 3))⟩,
     ⟨(some 33), none, .f (.fadr 4 (.t 1))⟩,
     ⟨(some 34), none, .f (.ld (.t 33))⟩,
     ⟨(some 35), none, .f (.len (.t 34))⟩,
     ⟨(some 36), none, .f (.bin .lss (.t 32) (.t 35))⟩])
   (.cond (.t 36)
    .skip
    (.exit 0)))
   (.seq (.block 1 (.seq (.reg [
      ⟨(some 39), none, .f (.fadr 4 (.t 1))⟩,
      ⟨(some 40), none, .f (.ld (.t 39))⟩,
      ⟨(some 41), none, .f (.mv (.t 3))⟩,
      ⟨(some 42), none, .f (.iadr 1 (.t 40) (.t 41))⟩,
      ⟨(some 43), none, .f (.ld (.t 42))⟩,
      ⟨(some 44), none, .x (.call 77 [(.t 43)])⟩,
      ⟨(some 45), none, .f (.un .not (.t 44))⟩])
    (.cond (.t 45)
     (.seq (.reg [
       ⟨(some 2), none, .f (.mv (.c (.bool false)))⟩])
     .ret)
     .skip)))
   (.reg [
     ⟨(some 37), none, .f (.mv (.t 3))⟩,
     ⟨(some 38), none, .f (.bin .add (.t 37) (.c (.int .i64 1)))⟩,
     ⟨(some 3), none, .f (.mv (.t 38))⟩]))))))
 (.seq (.reg [
   ⟨(some 2), none, .f (.mv (.c (.bool true)))⟩])
 .ret))))
theorem ok70 : fnComp Tryd.prog 70 = some (46, c70, [(.mv (.t 2))]) := by kernel_rfl

/-- loop.example/g00003/laws.toInt64S -/
def c71 : CC :=
 (.seq (.reg [
   ⟨(some 2), none, .f (.mv (.c .nilslice))⟩])
 (.seq (.reg [
   ⟨(some 5), none, .f (.mv (.t 0))⟩,
   ⟨(some 6), none, .f (.len (.t 5))⟩,
   ⟨(some 7), none, .x (.mks 2 1 8 [(.int .i64 0)] (.t 6) (.t 6))⟩,
   ⟨(some 3), none, .f (.mv (.t 7))⟩])
 (.seq (.seq (.reg [
   ⟨(some 4), none, .f (.mv (.c (.int .i64 0)))⟩])
 (.block 0 (.loop (.seq (.seq (.reg [
     ⟨(some 8), none, .f (.mv (.t 4))⟩,
     ⟨(some 9), none, .f (.mv (.t 0))⟩,
     ⟨(some 10), none, .f (.len (.t 9))⟩,
     ⟨(some 11), none, .f (.bin .lss (.t 8) (.t 10))⟩])
   (.cond (.t 11)
    .skip
    (.exit 0)))
   (.seq (.block 1 (.reg [
      ⟨(some 14), none, .f (.mv (.t 3))⟩,
      ⟨(some 15), none, .f (.mv (.t 4))⟩,
      ⟨(some 16), none, .f (.mv (.t 0))⟩,
      ⟨(some 17), none, .f (.mv (.t 4))⟩,
      ⟨(some 18), none, .f (.iadr 1 (.t 16) (.t 17))⟩,
      ⟨(some 19), none, .f (.ld (.t 18))⟩,
      ⟨(some 20), none, .f (.iadr 1 (.t 14) (.t 15))⟩,
      ⟨none, none, .x (.st 1 (.t 20) (.t 19))⟩]))
   (.reg [
     ⟨(some 12), none, .f (.mv (.t 4))⟩,
     ⟨(some 13), none, .f (.bin .add (.t 12) (.c (.int .i64 1)))⟩,
     ⟨(some 4), none, .f (.mv (.t 13))⟩]))))))
 (.seq (.reg [
   ⟨(some 21), none, .f (.mv (.t 3))⟩,
   ⟨(some 2), none, .f (.mv (.t 21))⟩])
 .ret))))
theorem ok71 : fnComp Tryd.prog 71 = some (22, c71, [(.mv (.t 2))]) := by kernel_rfl

/-- loop.example/g00003/impl.okReply -/
def c72 : CC :=
 (.seq (.reg [
   ⟨(some 1), none, .x (.box 44 5 (.t 0))⟩,
   ⟨(some 2), none, .f (.mv (.c (.bool false)))⟩])
 (.seq (.seq (.reg [
   ⟨(some 3), none, .f (.fadr 0 (.t 1))⟩,
   ⟨(some 4), none, .f (.ld (.t 3))⟩,
   ⟨(some 5), none, .f (.bin .lss (.t 4) (.c (.int .i64 0)))⟩,
   ⟨(some 6), none, .f (.mv (.t 5))⟩,
   ⟨(some 7), (some (6, false)), .f (.fadr 0 (.t 1))⟩,
   ⟨(some 8), (some (6, false)), .f (.ld (.t 7))⟩,
   ⟨(some 9), (some (6, false)), .f (.bin .gtr (.t 8) (.c (.int .i64 65535)))⟩,
   ⟨(some 10), none, .f (.pick (.t 6) (.c (.bool true)) (.t 9))⟩,
   ⟨(some 11), none, .f (.mv (.t 10))⟩,
   ⟨(some 12), (some (11, false)), .f (.fadr 1 (.t 1))⟩,
   ⟨(some 13), (some (11, false)), .f (.ld (.t 12))⟩,
   ⟨(some 14), (some (11, false)), .f (.bin .lss (.t 13) (.c (.int .i64 0)))⟩,
   ⟨(some 15), none, .f (.pick (.t 11) (.c (.bool true)) (.t 14))⟩,
   ⟨(some 16), none, .f (.mv (.t 15))⟩,
   ⟨(some 17), (some (16, false)), .f (.fadr 1 (.t 1))⟩,
   ⟨(some 18), (some (16, false)), .f (.ld (.t 17))⟩,
   ⟨(some 19), (some (16, false)), .f (.bin .gtr (.t 18) (.c (.int .i64 255)))⟩,
   ⟨(some 20), none, .f (.pick (.t 16) (.c (.bool true)) (.t 19))⟩,
   ⟨(some 21), none, .f (.mv (.t 20))⟩,
   ⟨(some 22), (some (21, false)), .f (.fadr 2 (.t 1))⟩,
   ⟨(some 23), (some (21, false)), .f (.ld (.t 22))⟩,
   ⟨(some 24), (some (21, false)), .f (.bin .lss (.t 23) (.c (.int .i64 0)))⟩,
   ⟨(some 25), none, .f (.pick (.t 21) (.c (.bool true)) (.t 24))⟩,
   ⟨(some 26), none, .f (.mv (.t 25))⟩,
   ⟨(some 27), (some (26, false)), .f (.fadr 2 (.t 1))⟩,
   ⟨(some 28), (some (26, false)), .f (.ld (.t 27))⟩,
   ⟨(some 29), (some (26, false)), .f (.bin .gtr (.t 28) (.c (.int .i64 86400)))⟩,
   ⟨(some 30), none, .f (.pick (.t 26) (.c (.bool true)) (.t 29))⟩,
   ⟨(some 31), none, .f (.mv (.t 30))⟩,
   ⟨(some 32), (some (31, false)), .f (.fadr 4 (.t 1))⟩,
   ⟨(some 33), (some (31, false)), .f (.ld (.t 32))⟩,
   ⟨(some 34), (some (31, false)), .f (.len (.t 33))⟩,
   ⟨(some 35), (some (31, false)), .f (.bin .gtr (.t 34) (.c (.int .i64 8)))⟩,
   ⟨(some 36), none, .f (.pick (.t 31) (.c (.bool true)) (.t 35))⟩])
 (.cond (.t 36)
  (.seq (.reg [
    ⟨(some 2), none, .f (.mv (.c (.bool false)))⟩])
  .ret)
  .skip))
 (.seq (.reg [
   ⟨(some 37), none, .f (.fadr 4 (.t 1))⟩,
   ⟨(some 38), none, .f (.ld (.t 37))⟩,
   ⟨(some 39), none, .x (.call 109 [(.t 38), (.fn 110)])⟩,
   ⟨(some 40), none, .f (.un .not (.t 39))⟩,
   ⟨(some 2), none, .f (.mv (.t 40))⟩])
 .ret)))
theorem ok72 : fnComp Tryd.prog 72 = some (41, c72, [(.mv (.t 2))]) := by kernel_rfl

/-- loop.example/g00003/spec.l02AddrOK -/
def c77 : CC :=
 (.seq (.reg [
   ⟨(some 2), none, .f (.mv (.c (.bool false)))⟩])
 (.seq (.reg [
   ⟨(some 3), none, .f (.mv (.t 0))⟩,
   ⟨(some 4), none, .x (.call 78 [(.t 3), (.c (.int .i64 0)), (.c (.int .i64 4294967295))])⟩,
   ⟨(some 2), none, .f (.mv (.t 4))⟩])
 .ret))
theorem ok77 : fnComp Tryd.prog 77 = some (5, c77, [(.mv (.t 2))]) := by kernel_rfl

/-- loop.example/g00003/impl.isAddr -/
def c80 : CC :=
 (.seq (.reg [
   ⟨(some 2), none, .f (.mv (.c (.bool false)))⟩])
 (.seq (.reg [
   ⟨(some 3), none, .f (.mv (.t 0))⟩,
   ⟨(some 4), none, .f (.bin .geq (.t 3) (.c (.int .i64 0)))⟩,
   ⟨(some 5), none, .f (.mv (.t 4))⟩,
   ⟨(some 6), (some (5, true)), .f (.mv (.t 0))⟩,
   ⟨(some 7), (some (5, true)), .f (.bin .leq (.t 6) (.c (.int .i64 4294967295)))⟩,
   ⟨(some 8), none, .f (.pick (.t 5) (.t 7) (.c (.bool false)))⟩,
   ⟨(some 2), none, .f (.mv (.t 8))⟩])
 .ret))
theorem ok80 : fnComp Tryd.prog 80 = some (9, c80, [(.mv (.t 2))]) := by kernel_rfl

/-- slices.ContainsFunc[[]int64,int64] -/
def c109 : CC :=
 (.seq (.reg [
   ⟨(some 4), none, .f (.mv (.c (.bool false)))⟩])
 (.seq (.reg [
   ⟨(some 5), none, .f (.mv (.t 0))⟩,
   ⟨(some 6), none, .f (.mv (.t 1))⟩,
   ⟨(some 7), none, .x (.call 133 [(.t 5), (.t 6)])⟩,
   ⟨(some 8), none, .f (.bin .geq (.t 7) (.c (.int .i64 0)))⟩,
   ⟨(some 4), none, .f (.mv (.t 8))⟩])
 .ret))
theorem ok109 : fnComp Tryd.prog 109 = some (9, c109, [(.mv (.t 4))]) := by kernel_rfl

/-- loop.example/g00003/impl.okReply$1 -/
def c110 : CC :=
 (.seq (.reg [
   ⟨(some 2), none, .f (.mv (.c (.bool false)))⟩])
 (.seq (.reg [
   ⟨(some 3), none, .f (.mv (.t 0))⟩,
   ⟨(some 4), none, .x (.call 80 [(.t 3)])⟩,
   ⟨(some 5), none, .f (.un .not (.t 4))⟩,
   ⟨(some 2), none, .f (.mv (.t 5))⟩])
 .ret))
theorem ok110 : fnComp Tryd.prog 110 = some (6, c110, [(.mv (.t 2))]) := by kernel_rfl

/-- slices.IndexFunc[[]int64,int64] -/
def c133 : CC :=
 (.seq (.reg [
   ⟨(some 4), none, .f (.mv (.c (.int .i64 0)))⟩])
 (.seq (.seq (.reg [
   ⟨(some 6), none, .f (.mv (.t 0))⟩,
   ⟨(some 7), none, .f (.len (.t 6))⟩,
   ⟨(some 8), none, .f (.mv (.c (.int .i64 0)))⟩])
 (.block 0 (.loop (.seq (.reg [
     ⟨(some 9), none, .f (.bin .lss (.t 8) (.t 7))⟩])
   (.seq (.cond (.t 9)
    .skip
    (.exit 0))
   (.seq (.block 1 (.seq (.reg [
      ⟨(some 10), none, .f (.mv (.t 8))⟩,
      ⟨(some 5), none, .f (.mv (.t 10))⟩])
    (.seq (.reg [
      ⟨(some 11), none, .f (.mv (.t 1))⟩,
      ⟨(some 12), none, .f (.mv (.t 0))⟩,
      ⟨(some 13), none, .f (.mv (.t 5))⟩,
      ⟨(some 14), none, .f (.iadr 1 (.t 12) (.t 13))⟩,
      ⟨(some 15), none, .f (.ld (.t 14))⟩,
      ⟨(some 16), none, .x (.callv (.t 11) [(.t 15)])⟩])
    (.cond (.t 16)
     (.seq (.reg [
       ⟨(some 17), none, .f (.mv (.t 5))⟩,
       ⟨(some 4), none, .f (.mv (.t 17))⟩])
     .ret)
     .skip))))
   (.reg [
     ⟨(some 18), none, .f (.bin .add (.t 8) (.c (.int .i64 1)))⟩,
     ⟨(some 8), none, .f (.mv (.t 18))⟩])))))))
 (.seq (.reg [
   ⟨(some 4), none, .f (.mv (.c (.int .i64 (-1))))⟩])
 .ret)))
theorem ok133 : fnComp Tryd.prog 133 = some (19, c133, [(.mv (.t 4))]) := by kernel_rfl

end Go.Proofs.YtcmcfmgabafljaaDoor
