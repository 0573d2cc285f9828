import Derived.Test.YtcmcfmgabafljaaDoorIwP
import Derived.Test.YtcmcfmgabafljaaDoorProg
import Derived.KernelRfl
set_option linter.unusedVariables false
set_option linter.unusedSimpArgs false
namespace Go.Proofs.YtcmcfmgabafljaaDoor
open Go Go.IW
/-- loop.example/g00003/laws.FnExactEncodeQuery -/
def c4 : CC :=
 (.seq (.reg [
   ⟨(some 1), none, .x (.box 24 2 (.t 0))⟩,
   ⟨(some 2), none, .f (.mv (.c (.bool false)))⟩])
 (.seq (.reg [
   ⟨(some 3), none, .f (.mv (.c (.int .i64 1048576)))⟩])
 (.seq (.reg [
   ⟨(some 12), none, .f (.ldA 2 (.t 1))⟩,
   ⟨(some 13), none, .f (.mv (.t 3))⟩,
   ⟨(some 14), none, .x (.call 14 [(.t 12), (.t 13)])⟩,
   ⟨(some 3), none, .f (.mv (.t 14))⟩])
 (.seq (.seq (.reg [
   ⟨(some 15), none, .f (.mv (.t 3))⟩,
   ⟨(some 16), none, .f (.bin .lss (.t 15) (.c (.int .i64 0)))⟩])
 (.cond (.t 16)
  (.seq (.reg [
    ⟨(some 2), none, .f (.mv (.c (.bool true)))⟩])
  .ret)
  .skip))
 (.seq (.reg [
   ⟨(some 18), none, .f (.ldA 2 (.t 1))⟩,
   ⟨(some 19), none, .x (.call 16 [(.t 18)])⟩,
   ⟨(some 20), none, .x (.call 15 [(.t 19)])⟩,
   ⟨(some 17), none, .f (.mv (.t 20))⟩,
   ⟨(some 21), none, .f (.ext 0 (.t 17))⟩,
   ⟨(some 22), none, .f (.ext 1 (.t 17))⟩,
   ⟨(some 4), none, .f (.mv (.t 21))⟩,
   ⟨(some 5), none, .f (.mv (.t 22))⟩])
 (.seq (.reg [
   ⟨(some 24), none, .f (.ldA 2 (.t 1))⟩,
   ⟨(some 25), none, .x (.call 16 [(.t 24)])⟩,
   ⟨(some 26), none, .x (.call 17 [(.t 25)])⟩,
   ⟨(some 23), none, .f (.mv (.t 26))⟩,
   ⟨(some 27), none, .f (.ext 0 (.t 23))⟩,
   ⟨(some 28), none, .f (.ext 1 (.t 23))⟩,
   ⟨(some 6), none, .f (.mv (.t 27))⟩,
   ⟨(some 7), none, .f (.mv (.t 28))⟩])
 (.seq (.seq (.reg [
   ⟨(some 29), none, .f (.mv (.t 6))⟩,
   ⟨(some 30), none, .f (.mv (.t 4))⟩,
   ⟨(some 31), none, .x (.call 18 [(.t 29), (.t 30)])⟩,
   ⟨(some 32), none, .f (.un .not (.t 31))⟩,
   ⟨(some 33), none, .f (.mv (.t 32))⟩,
   ⟨(some 34), (some (33, false)), .f (.mv (.t 7))⟩,
   ⟨(some 35), (some (33, false)), .f (.mv (.t 5))⟩,
   ⟨(some 36), (some (33, false)), .f (.bin .neq (.t 34) (.t 35))⟩,
   ⟨(some 37), none, .f (.pick (.t 33) (.c (.bool true)) (.t 36))⟩])
 (.cond (.t 37)
  (.seq (.reg [
    ⟨(some 2), none, .f (.mv (.c (.bool false)))⟩])
  .ret)
  .skip))
 (.seq (.reg [
   ⟨(some 8), none, .f (.mv (.c (.int .i64 1)))⟩])
 (.seq (.reg [
   ⟨(some 38), none, .f (.mv (.t 6))⟩,
   ⟨(some 39), none, .f (.mv (.t 8))⟩,
   ⟨(some 40), none, .x (.call 19 [(.t 38), (.t 39)])⟩,
   ⟨(some 8), none, .f (.mv (.t 40))⟩])
 (.seq (.reg [
   ⟨(some 9), none, .f (.mv (.c (.int .i64 1)))⟩])
 (.seq (.reg [
   ⟨(some 41), none, .f (.mv (.t 6))⟩,
   ⟨(some 42), none, .f (.mv (.t 9))⟩,
   ⟨(some 43), none, .x (.call 20 [(.t 41), (.t 42)])⟩,
   ⟨(some 9), none, .f (.mv (.t 43))⟩])
 (.seq (.seq (.reg [
   ⟨(some 44), none, .f (.mv (.t 9))⟩,
   ⟨(some 45), none, .f (.bin .lss (.t 44) (.c (.int .i64 0)))⟩])
 (.cond (.t 45)
  (.seq (.reg [
    ⟨(some 2), none, .f (.mv (.c (.bool false)))⟩])
  .ret)
  .skip))
 (.seq (.seq (.reg [
   ⟨(some 46), none, .f (.mv (.t 9))⟩,
   ⟨(some 47), none, .f (.mv (.t 8))⟩,
   ⟨(some 48), none, .f (.bin .neq (.t 46) (.t 47))⟩])
 (.cond (.t 48)
  (.seq (.reg [
    ⟨(some 2), none, .f (.mv (.c (.bool false)))⟩])
  .ret)
  .skip))
 (.seq (.reg [
   ⟨(some 50), none, .f (.ldA 2 (.t 1))⟩,
   ⟨(some 51), none, .x (.call 16 [(.t 50)])⟩,
   ⟨(some 52), none, .x (.call 17 [(.t 51)])⟩,
   ⟨(some 49), none, .f (.mv (.t 52))⟩,
   ⟨(some 53), none, .f (.ext 0 (.t 49))⟩,
   ⟨(some 54), none, .f (.ext 1 (.t 49))⟩,
   ⟨(some 10), none, .f (.mv (.t 53))⟩,
   ⟨(some 11), none, .f (.mv (.t 54))⟩])
 (.seq (.seq (.reg [
   ⟨(some 55), none, .f (.mv (.t 10))⟩,
   ⟨(some 56), none, .f (.mv (.t 4))⟩,
   ⟨(some 57), none, .x (.call 18 [(.t 55), (.t 56)])⟩,
   ⟨(some 58), none, .f (.un .not (.t 57))⟩,
   ⟨(some 59), none, .f (.mv (.t 58))⟩,
   ⟨(some 60), (some (59, false)), .f (.mv (.t 11))⟩,
   ⟨(some 61), (some (59, false)), .f (.mv (.t 5))⟩,
   ⟨(some 62), (some (59, false)), .f (.bin .neq (.t 60) (.t 61))⟩,
   ⟨(some 63), none, .f (.pick (.t 59) (.c (.bool true)) (.t 62))⟩])
 (.cond (.t 63)
  (.seq (.reg [
    ⟨(some 2), none, .f (.mv (.c (.bool false)))⟩])
  .ret)
  .skip))
 (.seq (.reg [
   ⟨(some 9), none, .f (.mv (.c (.int .i64 1)))⟩])
 (.seq (.reg [
   ⟨(some 64), none, .f (.mv (.t 6))⟩,
   ⟨(some 65), none, .f (.mv (.t 9))⟩,
   ⟨(some 66), none, .x (.call 20 [(.t 64), (.t 65)])⟩,
   ⟨(some 9), none, .f (.mv (.t 66))⟩])
 (.seq (.seq (.reg [
   ⟨(some 67), none, .f (.mv (.t 9))⟩,
   ⟨(some 68), none, .f (.bin .lss (.t 67) (.c (.int .i64 0)))⟩])
 (.cond (.t 68)
  (.seq (.reg [
    ⟨(some 2), none, .f (.mv (.c (.bool false)))⟩])
  .ret)
  .skip))
 (.seq (.seq (.reg [
   ⟨(some 69), none, .f (.mv (.t 9))⟩,
   ⟨(some 70), none, .f (.mv (.t 8))⟩,
   ⟨(some 71), none, .f (.bin .neq (.t 69) (.t 70))⟩])
 (.cond (.t 71)
  (.seq (.reg [
    ⟨(some 2), none, .f (.mv (.c (.bool false)))⟩])
  .ret)
  .skip))
 (.seq (.reg [
   ⟨(some 2), none, .f (.mv (.c (.bool true)))⟩])
 .ret))))))))))))))))))))
theorem ok4 : fnComp Tryd.prog 4 = some (72, c4, [(.mv (.t 2))]) := by kernel_rfl

/-- loop.example/g00003/laws.szNameQuery -/
def c14 : CC :=
 (.seq (.reg [
   ⟨(some 2), none, .x (.box 24 2 (.t 0))⟩,
   ⟨(some 4), none, .f (.mv (.c (.int .i64 0)))⟩])
 (.seq (.reg [
   ⟨(some 5), none, .f (.mv (.t 1))⟩,
   ⟨(some 6), none, .f (.fadr 1 (.t 2))⟩,
   ⟨(some 7), none, .f (.ld (.t 6))⟩,
   ⟨(some 8), none, .f (.lenS (.t 7))⟩,
   ⟨(some 9), none, .f (.bin .sub (.t 5) (.t 8))⟩,
   ⟨(some 1), none, .f (.mv (.t 9))⟩])
 (.seq (.seq (.reg [
   ⟨(some 10), none, .f (.mv (.t 1))⟩,
   ⟨(some 11), none, .f (.bin .lss (.t 10) (.c (.int .i64 0)))⟩])
 (.cond (.t 11)
  (.seq (.reg [
    ⟨(some 4), none, .f (.mv (.c (.int .i64 (-1))))⟩])
  .ret)
  .skip))
 (.seq (.reg [
   ⟨(some 12), none, .f (.mv (.t 1))⟩,
   ⟨(some 4), none, .f (.mv (.t 12))⟩])
 .ret))))
theorem ok14 : fnComp Tryd.prog 14 = some (13, c14, [(.mv (.t 4))]) := by kernel_rfl

/-- loop.example/g00003/spec.EncodeQuery -/
def c15 : CC :=
 (.seq (.reg [
   ⟨(some 1), none, .x (.box 29 2 (.t 0))⟩,
   ⟨(some 2), none, .f (.mv (.c .nilslice))⟩,
   ⟨(some 3), none, .f (.mv (.c (.int .i64 0)))⟩])
 (.seq (.seq (.reg [
   ⟨(some 5), none, .f (.fadr 0 (.t 1))⟩,
   ⟨(some 6), none, .f (.ld (.t 5))⟩,
   ⟨(some 7), none, .x (.call 60 [(.t 6)])⟩,
   ⟨(some 8), none, .f (.un .not (.t 7))⟩,
   ⟨(some 9), none, .f (.mv (.t 8))⟩,
   ⟨(some 10), (some (9, false)), .f (.fadr 1 (.t 1))⟩,
   ⟨(some 11), (some (9, false)), .f (.ld (.t 10))⟩,
   ⟨(some 12), (some (9, false)), .x (.call 12 [(.t 11)])⟩,
   ⟨(some 13), (some (9, false)), .f (.un .not (.t 12))⟩,
   ⟨(some 14), none, .f (.pick (.t 9) (.c (.bool true)) (.t 13))⟩])
 (.cond (.t 14)
  (.seq (.reg [
    ⟨(some 2), none, .f (.mv (.c .nilslice))⟩,
    ⟨(some 3), none, .f (.mv (.c (.int .i64 1)))⟩])
  .ret)
  .skip))
 (.seq (.treg [
   ⟨(some 15), none, .f (.fadr 0 (.t 1))⟩,
   ⟨(some 16), none, .f (.ld (.t 15))⟩,
   ⟨(some 17), none, .x (.call 62 [(.t 16), (.c (.int .i64 2))])⟩,
   ⟨(some 18), none, .f (.fadr 1 (.t 1))⟩,
   ⟨(some 19), none, .f (.ld (.t 18))⟩,
   ⟨(some 20), none, .f (.lenS (.t 19))⟩,
   ⟨(some 21), none, .f (.cvI .u8 (.t 20))⟩,
   ⟨(some 22), none, .x (.bslice 5 1 [(.int .u8 0)] 2 [(0, (.c (.int .u8 0))), (1, (.t 21))])⟩,
   ⟨(some 23), none, .x (.call 61 [(.t 17), (.t 22)])⟩,
   ⟨(some 4), none, .f (.mv (.t 23))⟩]
   [[], [0], [1, 0], [], [3], [4, 3], [5, 4, 3], [6, 5, 4, 3], [2, 1, 0, 7, 6, 5, 4, 3], [8, 2, 1, 0, 7, 6, 5, 4, 3]] (.fl 0 (.fl 1 (.fl 3 (.fl 4 (.fl 5 (.fl 6 (.br 2 (.br 7 (.br 8 (.fl 9 .fin) .stop) .stop) (.br 7 (.br 2 (.br 8 (.fl 9 .fin) .stop) .stop) .stop)))))))))
 (.seq (.reg [
   ⟨(some 24), none, .f (.mv (.t 4))⟩,
   ⟨(some 25), none, .f (.fadr 1 (.t 1))⟩,
   ⟨(some 26), none, .f (.ld (.t 25))⟩,
   ⟨(some 27), none, .x (.s2b 5 (.t 26))⟩,
   ⟨(some 28), none, .x (.call 61 [(.t 24), (.t 27)])⟩,
   ⟨(some 2), none, .f (.mv (.t 28))⟩,
   ⟨(some 3), none, .f (.mv (.c (.int .i64 0)))⟩])
 .ret))))
theorem ok15 : fnComp Tryd.prog 15 = some (29, c15, [(.mv (.t 2)), (.mv (.t 3))]) := by kernel_rfl

/-- loop.example/g00003/laws.toNameQuery -/
def c16 : CC :=
 (.seq (.reg [
   ⟨(some 1), none, .x (.box 24 2 (.t 0))⟩,
   ⟨(some 2), none, .x (.zero 29 2 [(.int .i64 0), (.str [])])⟩])
 (.seq (.reg [
   ⟨(some 3), none, .x (.zero 29 2 [(.int .i64 0), (.str [])])⟩])
 (.seq (.reg [
   ⟨(some 4), none, .f (.fadr 0 (.t 1))⟩,
   ⟨(some 5), none, .f (.ld (.t 4))⟩,
   ⟨(some 6), none, .f (.fadr 0 (.t 3))⟩,
   ⟨none, none, .x (.st 1 (.t 6) (.t 5))⟩])
 (.seq (.reg [
   ⟨(some 7), none, .f (.fadr 1 (.t 1))⟩,
   ⟨(some 8), none, .f (.ld (.t 7))⟩,
   ⟨(some 9), none, .f (.fadr 1 (.t 3))⟩,
   ⟨none, none, .x (.st 1 (.t 9) (.t 8))⟩])
 (.seq (.reg [
   ⟨(some 10), none, .f (.ldA 2 (.t 3))⟩,
   ⟨none, none, .x (.st 2 (.t 2) (.t 10))⟩])
 .ret)))))
theorem ok16 : fnComp Tryd.prog 16 = some (11, c16, [(.ldA 2 (.t 2))]) := by kernel_rfl

/-- loop.example/g00003/impl.EncodeQuery -/
def c17 : CC :=
 (.seq (.reg [
   ⟨(some 1), none, .x (.box 29 2 (.t 0))⟩,
   ⟨(some 2), none, .f (.mv (.c .nilslice))⟩,
   ⟨(some 3), none, .f (.mv (.c (.int .i64 0)))⟩])
 (.seq (.seq (.reg [
   ⟨(some 4), none, .f (.fadr 0 (.t 1))⟩,
   ⟨(some 5), none, .f (.ld (.t 4))⟩,
   ⟨(some 6), none, .f (.bin .lss (.t 5) (.c (.int .i64 0)))⟩,
   ⟨(some 7), none, .f (.mv (.t 6))⟩,
   ⟨(some 8), (some (7, false)), .f (.fadr 0 (.t 1))⟩,
   ⟨(some 9), (some (7, false)), .f (.ld (.t 8))⟩,
   ⟨(some 10), (some (7, false)), .f (.bin .gtr (.t 9) (.c (.int .i64 65535)))⟩,
   ⟨(some 11), none, .f (.pick (.t 7) (.c (.bool true)) (.t 10))⟩,
   ⟨(some 12), none, .f (.mv (.t 11))⟩,
   ⟨(some 13), (some (12, false)), .f (.fadr 1 (.t 1))⟩,
   ⟨(some 14), (some (12, false)), .f (.ld (.t 13))⟩,
   ⟨(some 15), (some (12, false)), .x (.call 13 [(.t 14)])⟩,
   ⟨(some 16), (some (12, false)), .f (.un .not (.t 15))⟩,
   ⟨(some 17), none, .f (.pick (.t 12) (.c (.bool true)) (.t 16))⟩])
 (.cond (.t 17)
  (.seq (.reg [
    ⟨(some 2), none, .f (.mv (.c .nilslice))⟩,
    ⟨(some 3), none, .f (.mv (.c (.int .i64 1)))⟩])
  .ret)
  .skip))
 (.seq (.treg [
   ⟨(some 18), none, .f (.fadr 0 (.t 1))⟩,
   ⟨(some 19), none, .f (.ld (.t 18))⟩,
   ⟨(some 20), none, .x (.call 63 [(.c .nilslice), (.c (.int .i64 2)), (.t 19)])⟩,
   ⟨(some 21), none, .f (.fadr 1 (.t 1))⟩,
   ⟨(some 22), none, .f (.ld (.t 21))⟩,
   ⟨(some 23), none, .f (.lenS (.t 22))⟩,
   ⟨(some 24), none, .f (.cvI .u8 (.t 23))⟩,
   ⟨(some 25), none, .x (.bslice 5 1 [(.int .u8 0)] 2 [(0, (.c (.int .u8 0))), (1, (.t 24))])⟩,
   ⟨(some 26), none, .x (.app 5 1 1 (.t 20) (.t 25))⟩,
   ⟨(some 27), none, .f (.fadr 1 (.t 1))⟩,
   ⟨(some 28), none, .f (.ld (.t 27))⟩,
   ⟨(some 29), none, .x (.appS 5 1 (.t 26) (.t 28))⟩,
   ⟨(some 2), none, .f (.mv (.t 29))⟩,
   ⟨(some 3), none, .f (.mv (.c (.int .i64 0)))⟩]
   [[], [0], [1, 0], [], [3], [4, 3], [5, 4, 3], [6, 5, 4, 3], [2, 1, 0, 7, 6, 5, 4, 3], [], [9], [8, 2, 1, 0, 7, 6, 5, 4, 3, 10, 9], [11, 8, 2, 1, 0, 7, 6, 5, 4, 3, 10, 9], [12, 11, 8, 2, 1, 0, 7, 6, 5, 4, 3, 10, 9]] (.fl 0 (.fl 1 (.fl 3 (.fl 4 (.fl 5 (.fl 6 (.fl 9 (.fl 10 (.br 2 (.br 7 (.br 8 (.br 11 (.fl 12 (.fl 13 .fin)) .stop) .stop) .stop) (.br 7 (.br 2 (.br 8 (.br 11 (.fl 12 (.fl 13 .fin)) .stop) .stop) .stop) .stop)))))))))))
 .ret)))
theorem ok17 : fnComp Tryd.prog 17 = some (30, c17, [(.mv (.t 2)), (.mv (.t 3))]) := by kernel_rfl

/-- loop.example/g00003/laws.eqByteS -/
def c18 : CC :=
 (.seq (.reg [
   ⟨(some 4), none, .f (.mv (.c (.bool false)))⟩])
 (.seq (.seq (.reg [
   ⟨(some 6), none, .f (.mv (.t 0))⟩,
   ⟨(some 7), none, .f (.len (.t 6))⟩,
   ⟨(some 8), none, .f (.mv (.t 1))⟩,
   ⟨(some 9), none, .f (.len (.t 8))⟩,
   ⟨(some 10), none, .f (.bin .neq (.t 7) (.t 9))⟩])
 (.cond (.t 10)
  (.seq (.reg [
    ⟨(some 4), none, .f (.mv (.c (.bool false)))⟩])
  .ret)
  .skip))
 (.seq (.seq (.reg [
   ⟨(some 5), none, .f (.mv (.c (.int .i64 0)))⟩])
 (.block 0 (.loop (.seq (.seq (.reg [
     ⟨(some 11), none, .f (.mv (.t 5))⟩,
     ⟨(some 12), none, .f (.mv (.t 0))⟩,
     ⟨(some 13), none, .f (.len (.t 12))⟩,
     ⟨(some 14), none, .f (.bin .lss (.t 11) (.t 13))⟩])
   (.cond (.t 14)
    .skip
    (.exit 0)))
   (.seq (.block 1 (.seq (.dreg [
      ⟨(some 17), none, .f (.mv (.t 0))⟩,
      ⟨(some 18), none, .f (.mv (.t 5))⟩,
      ⟨(some 19), none, .f (.iadr 1 (.t 17) (.t 18))⟩,
      ⟨(some 20), none, .f (.ld (.t 19))⟩,
      ⟨(some 21), none, .f (.mv (.t 1))⟩,
      ⟨(some 22), none, .f (.mv (.t 5))⟩,
      ⟨(some 23), none, .f (.iadr 1 (.t 21) (.t 22))⟩,
      ⟨(some 24), none, .f (.ld (.t 23))⟩,
      ⟨(some 25), none, .f (.bin .neq (.t 20) (.t 24))⟩]
      [false, false, false, false, false, false, false, false, false] [[], [], [0, 1], [2, 0, 1], [], [], [4, 5], [6, 4, 5], [3, 2, 0, 1, 7, 6, 4, 5]] [0, 1, 2, 3, 4, 5, 6, 7, 8])
    (.cond (.t 25)
     (.seq (.reg [
       ⟨(some 4), none, .f (.mv (.c (.bool false)))⟩])
     .ret)
     .skip)))
   (.reg [
     ⟨(some 15), none, .f (.mv (.t 5))⟩,
     ⟨(some 16), none, .f (.bin .add (.t 15) (.c (.int .i64 1)))⟩,
     ⟨(some 5), none, .f (.mv (.t 16))⟩]))))))
 (.seq (.reg [
   ⟨(some 4), none, .f (.mv (.c (.bool true)))⟩])
 .ret))))
theorem ok18 : fnComp Tryd.prog 18 = some (26, c18, [(.mv (.t 4))]) := by kernel_rfl

/-- loop.example/g00003/laws.markByteS -/
def c19 : CC :=
 (.seq (.reg [
   ⟨(some 4), none, .f (.mv (.c (.int .i64 0)))⟩])
 (.seq (.seq (.reg [
   ⟨(some 5), none, .f (.mv (.c (.int .i64 0)))⟩])
 (.block 0 (.loop (.seq (.seq (.reg [
     ⟨(some 6), none, .f (.mv (.t 5))⟩,
     ⟨(some 7), none, .f (.mv (.t 0))⟩,
     ⟨(some 8), none, .f (.len (.t 7))⟩,
     ⟨(some 9), none, .f (.bin .lss (.t 6) (.t 8))⟩])
   (.cond (.t 9)
    .skip
    (.exit 0)))
   (.seq (.block 1 (.seq (.reg [
      ⟨(some 12), none, .f (.mv (.t 0))⟩,
      ⟨(some 13), none, .f (.mv (.t 5))⟩,
      ⟨(some 14), none, .f (.mv (.t 1))⟩,
      ⟨(some 15), none, .f (.cvI .u8 (.t 14))⟩,
      ⟨(some 16), none, .f (.iadr 1 (.t 12) (.t 13))⟩,
      ⟨none, none, .x (.st 1 (.t 16) (.t 15))⟩])
    (.reg [
      ⟨(some 17), none, .f (.mv (.t 1))⟩,
      ⟨(some 18), none, .f (.bin .add (.t 17) (.c (.int .i64 1)))⟩,
      ⟨(some 1), none, .f (.mv (.t 18))⟩])))
   (.reg [
     ⟨(some 10), none, .f (.mv (.t 5))⟩,
     ⟨(some 11), none, .f (.bin .add (.t 10) (.c (.int .i64 1)))⟩,
     ⟨(some 5), none, .f (.mv (.t 11))⟩]))))))
 (.seq (.reg [
   ⟨(some 19), none, .f (.mv (.t 1))⟩,
   ⟨(some 4), none, .f (.mv (.t 19))⟩])
 .ret)))
theorem ok19 : fnComp Tryd.prog 19 = some (20, c19, [(.mv (.t 4))]) := by kernel_rfl

/-- loop.example/g00003/laws.heldByteS -/
def c20 : CC :=
 (.seq (.reg [
   ⟨(some 4), none, .f (.mv (.c (.int .i64 0)))⟩])
 (.seq (.seq (.reg [
   ⟨(some 5), none, .f (.mv (.c (.int .i64 0)))⟩])
 (.block 0 (.loop (.seq (.seq (.reg [
     ⟨(some 6), none, .f (.mv (.t 5))⟩,
     ⟨(some 7), none, .f (.mv (.t 0))⟩,
     ⟨(some 8), none, .f (.len (.t 7))⟩,
     ⟨(some 9), none, .f (.bin .lss (.t 6) (.t 8))⟩])
   (.cond (.t 9)
    .skip
    (.exit 0)))
   (.seq (.block 1 (.seq (.seq (.reg [
      ⟨(some 12), none, .f (.mv (.t 0))⟩,
      ⟨(some 13), none, .f (.mv (.t 5))⟩,
      ⟨(some 14), none, .f (.iadr 1 (.t 12) (.t 13))⟩,
      ⟨(some 15), none, .f (.ld (.t 14))⟩,
      ⟨(some 16), none, .f (.mv (.t 1))⟩,
      ⟨(some 17), none, .f (.cvI .u8 (.t 16))⟩,
      ⟨(some 18), none, .f (.bin .neq (.t 15) (.t 17))⟩])
    (.cond (.t 18)
     (.seq (.reg [
       ⟨(some 4), none, .f (.mv (.c (.int .i64 (-1))))⟩])
     .ret)
     .skip))
    (.reg [
      ⟨(some 19), none, .f (.mv (.t 1))⟩,
      ⟨(some 20), none, .f (.bin .add (.t 19) (.c (.int .i64 1)))⟩,
      ⟨(some 1), none, .f (.mv (.t 20))⟩])))
   (.reg [
     ⟨(some 10), none, .f (.mv (.t 5))⟩,
     ⟨(some 11), none, .f (.bin .add (.t 10) (.c (.int .i64 1)))⟩,
     ⟨(some 5), none, .f (.mv (.t 11))⟩]))))))
 (.seq (.reg [
   ⟨(some 21), none, .f (.mv (.t 1))⟩,
   ⟨(some 4), none, .f (.mv (.t 21))⟩])
 .ret)))
theorem ok20 : fnComp Tryd.prog 20 = some (22, c20, [(.mv (.t 4))]) := by kernel_rfl

/-- loop.example/g00003/spec.l10PortOK -/
def c60 : CC :=
 (.seq (.reg [
   ⟨(some 2), none, .f (.mv (.c (.bool false)))⟩])
 (.seq (.reg [
   ⟨(some 3), none, .f (.mv (.t 0))⟩,
   ⟨(some 4), none, .x (.call 78 [(.t 3), (.c (.int .i64 0)), (.c (.int .i64 65535))])⟩,
   ⟨(some 2), none, .f (.mv (.t 4))⟩])
 .ret))
theorem ok60 : fnComp Tryd.prog 60 = some (5, c60, [(.mv (.t 2))]) := by kernel_rfl

/-- loop.example/g00003/spec.l01Join -/
def c61 : CC :=
 (.seq (.reg [
   ⟨(some 4), none, .f (.mv (.c .nilslice))⟩])
 (.seq (.reg [
   ⟨(some 7), none, .f (.mv (.t 0))⟩,
   ⟨(some 8), none, .x (.call 107 [(.t 7)])⟩,
   ⟨(some 5), none, .f (.mv (.t 8))⟩])
 (.seq (.seq (.reg [
   ⟨(some 6), none, .f (.mv (.c (.int .i64 0)))⟩])
 (.block 0 (.loop (.seq (.seq (.reg [
     ⟨(some 9), none, .f (.mv (.t 6))⟩,
     ⟨(some 10), none, .f (.mv (.t 1))⟩,
     ⟨(some 11), none, .f (.len (.t 10))⟩,
     ⟨(some 12), none, .f (.bin .lss (.t 9) (.t 11))⟩])
   (.cond (.t 12)
    .skip
    (.exit 0)))
   (.seq (.block 1 (.reg [
      ⟨(some 15), none, .f (.mv (.t 5))⟩,
      ⟨(some 16), none, .f (.mv (.t 1))⟩,
      ⟨(some 17), none, .f (.mv (.t 6))⟩,
      ⟨(some 18), none, .f (.iadr 1 (.t 16) (.t 17))⟩,
      ⟨(some 19), none, .f (.ld (.t 18))⟩,
      ⟨(some 20), none, .x (.bslice 5 1 [(.int .u8 0)] 1 [(0, (.t 19))])⟩,
      ⟨(some 21), none, .x (.app 5 1 1 (.t 15) (.t 20))⟩,
      ⟨(some 5), none, .f (.mv (.t 21))⟩]))
   (.reg [
     ⟨(some 13), none, .f (.mv (.t 6))⟩,
     ⟨(some 14), none, .f (.bin .add (.t 13) (.c (.int .i64 1)))⟩,
     ⟨(some 6), none, .f (.mv (.t 14))⟩]))))))
 (.seq (.reg [
   ⟨(some 22), none, .f (.mv (.t 5))⟩,
   ⟨(some 4), none, .f (.mv (.t 22))⟩])
 .ret))))
theorem ok61 : fnComp Tryd.prog 61 = some (23, c61, [(.mv (.t 4))]) := by kernel_rfl

/-- loop.example/g00003/spec.l03Put -/
def c62 : CC :=
 (.seq (.reg [
   ⟨(some 4), none, .f (.mv (.c .nilslice))⟩])
 (.seq (.reg [
   ⟨(some 7), none, .x (.bslice 5 1 [(.int .u8 0)] 0 [])⟩,
   ⟨(some 5), none, .f (.mv (.t 7))⟩])
 (.seq (.seq (.reg [
   ⟨(some 8), none, .f (.mv (.t 1))⟩,
   ⟨(some 9), none, .f (.bin .sub (.t 8) (.c (.int .i64 1)))⟩,
   ⟨(some 6), none, .f (.mv (.t 9))⟩])
 (.block 0 (.loop (.seq (.seq (.reg [
     ⟨(some 10), none, .f (.mv (.t 6))⟩,
     ⟨(some 11), none, .f (.bin .geq (.t 10) (.c (.int .i64 0)))⟩])
   (.cond (.t 11)
    .skip
    (.exit 0)))
   (.seq (.block 1 (.reg [
      ⟨(some 14), none, .f (.mv (.t 5))⟩,
      ⟨(some 15), none, .f (.mv (.t 0))⟩,
      ⟨(some 16), none, .f (.mv (.t 6))⟩,
      ⟨(some 17), none, .f (.bin .mul (.c (.int .i64 8)) (.t 16))⟩,
      ⟨(some 18), none, .f (.cvI .u64 (.t 17))⟩,
      ⟨(some 19), none, .f (.bin .shr (.t 15) (.t 18))⟩,
      ⟨(some 20), none, .f (.cvI .u8 (.t 19))⟩,
      ⟨(some 21), none, .x (.bslice 5 1 [(.int .u8 0)] 1 [(0, (.t 20))])⟩,
      ⟨(some 22), none, .x (.app 5 1 1 (.t 14) (.t 21))⟩,
      ⟨(some 5), none, .f (.mv (.t 22))⟩]))
   (.reg [
     ⟨(some 12), none, .f (.mv (.t 6))⟩,
     ⟨(some 13), none, .f (.bin .sub (.t 12) (.c (.int .i64 1)))⟩,
     ⟨(some 6), none, .f (.mv (.t 13))⟩]))))))
 (.seq (.reg [
   ⟨(some 23), none, .f (.mv (.t 5))⟩,
   ⟨(some 4), none, .f (.mv (.t 23))⟩])
 .ret))))
theorem ok62 : fnComp Tryd.prog 62 = some (24, c62, [(.mv (.t 4))]) := by kernel_rfl

/-- loop.example/g00003/impl.put -/
def c63 : CC :=
 (.seq (.reg [
   ⟨(some 6), none, .f (.mv (.c .nilslice))⟩])
 (.seq (.seq (.reg [
   ⟨(some 8), none, .f (.mv (.t 1))⟩,
   ⟨(some 9), none, .f (.bin .sub (.t 8) (.c (.int .i64 1)))⟩,
   ⟨(some 7), none, .f (.mv (.t 9))⟩])
 (.block 0 (.loop (.seq (.seq (.reg [
     ⟨(some 10), none, .f (.mv (.t 7))⟩,
     ⟨(some 11), none, .f (.bin .geq (.t 10) (.c (.int .i64 0)))⟩])
   (.cond (.t 11)
    .skip
    (.exit 0)))
   (.seq (.block 1 (.reg [
      ⟨(some 14), none, .f (.mv (.t 0))⟩,
      ⟨(some 15), none, .f (.mv (.t 2))⟩,
      ⟨(some 16), none, .f (.cvI .u64 (.t 15))⟩,
      ⟨(some 17), none, .f (.mv (.t 7))⟩,
      ⟨(some 18), none, .f (.bin .mul (.c (.int .i64 8)) (.t 17))⟩,
      ⟨(some 19), none, .f (.bin .shr (.t 16) (.t 18))⟩,
      ⟨(some 20), none, .f (.cvI .u8 (.t 19))⟩,
      ⟨(some 21), none, .x (.bslice 5 1 [(.int .u8 0)] 1 [(0, (.t 20))])⟩,
      ⟨(some 22), none, .x (.app 5 1 1 (.t 14) (.t 21))⟩,
      ⟨(some 0), none, .f (.mv (.t 22))⟩]))
   (.reg [
     ⟨(some 12), none, .f (.mv (.t 7))⟩,
     ⟨(some 13), none, .f (.bin .sub (.t 12) (.c (.int .i64 1)))⟩,
     ⟨(some 7), none, .f (.mv (.t 13))⟩]))))))
 (.seq (.reg [
   ⟨(some 23), none, .f (.mv (.t 0))⟩,
   ⟨(some 6), none, .f (.mv (.t 23))⟩])
 .ret)))
theorem ok63 : fnComp Tryd.prog 63 = some (24, c63, [(.mv (.t 6))]) := by kernel_rfl

/-- loop.example/g00003/spec.l01Copy -/
def c107 : CC :=
 (.seq (.reg [
   ⟨(some 2), none, .f (.mv (.c .nilslice))⟩])
 (.seq (.reg [
   ⟨(some 5), none, .x (.bslice 5 1 [(.int .u8 0)] 0 [])⟩,
   ⟨(some 3), none, .f (.mv (.t 5))⟩])
 (.seq (.seq (.reg [
   ⟨(some 4), none, .f (.mv (.c (.int .i64 0)))⟩])
 (.block 0 (.loop (.seq (.seq (.reg [
     ⟨(some 6), none, .f (.mv (.t 4))⟩,
     ⟨(some 7), none, .f (.mv (.t 0))⟩,
     ⟨(some 8), none, .f (.len (.t 7))⟩,
     ⟨(some 9), none, .f (.bin .lss (.t 6) (.t 8))⟩])
   (.cond (.t 9)
    .skip
    (.exit 0)))
   (.seq (.block 1 (.reg [
      ⟨(some 12), none, .f (.mv (.t 3))⟩,
      ⟨(some 13), none, .f (.mv (.t 0))⟩,
      ⟨(some 14), none, .f (.mv (.t 4))⟩,
      ⟨(some 15), none, .f (.iadr 1 (.t 13) (.t 14))⟩,
      ⟨(some 16), none, .f (.ld (.t 15))⟩,
      ⟨(some 17), none, .x (.bslice 5 1 [(.int .u8 0)] 1 [(0, (.t 16))])⟩,
      ⟨(some 18), none, .x (.app 5 1 1 (.t 12) (.t 17))⟩,
      ⟨(some 3), none, .f (.mv (.t 18))⟩]))
   (.reg [
     ⟨(some 10), none, .f (.mv (.t 4))⟩,
     ⟨(some 11), none, .f (.bin .add (.t 10) (.c (.int .i64 1)))⟩,
     ⟨(some 4), none, .f (.mv (.t 11))⟩]))))))
 (.seq (.reg [
   ⟨(some 19), none, .f (.mv (.t 3))⟩,
   ⟨(some 2), none, .f (.mv (.t 19))⟩])
 .ret))))
theorem ok107 : fnComp Tryd.prog 107 = some (20, c107, [(.mv (.t 2))]) := by kernel_rfl

/-- loop.example/g00003/spec.l01In -/
def c78 : CC :=
 (.seq (.reg [
   ⟨(some 6), none, .f (.mv (.c (.bool false)))⟩])
 (.seq (.reg [
   ⟨(some 7), none, .f (.mv (.t 0))⟩,
   ⟨(some 8), none, .f (.mv (.t 1))⟩,
   ⟨(some 9), none, .f (.bin .geq (.t 7) (.t 8))⟩,
   ⟨(some 10), none, .f (.mv (.t 9))⟩,
   ⟨(some 11), (some (10, true)), .f (.mv (.t 0))⟩,
   ⟨(some 12), (some (10, true)), .f (.mv (.t 2))⟩,
   ⟨(some 13), (some (10, true)), .f (.bin .leq (.t 11) (.t 12))⟩,
   ⟨(some 14), none, .f (.pick (.t 10) (.t 13) (.c (.bool false)))⟩,
   ⟨(some 6), none, .f (.mv (.t 14))⟩])
 .ret))
theorem ok78 : fnComp Tryd.prog 78 = some (15, c78, [(.mv (.t 6))]) := by kernel_rfl

end Go.Proofs.YtcmcfmgabafljaaDoor
