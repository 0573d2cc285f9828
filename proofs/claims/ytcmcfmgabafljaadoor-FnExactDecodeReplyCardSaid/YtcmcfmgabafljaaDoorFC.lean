import Derived.Test.YtcmcfmgabafljaaDoorIwP
import Derived.Test.YtcmcfmgabafljaaDoorProg
import Derived.KernelRfl
set_option linter.unusedVariables false
set_option linter.unusedSimpArgs false
namespace Go.Proofs.YtcmcfmgabafljaaDoor
open Go Go.IW
/-- loop.example/g00003/laws.FnExactDecodeQuery -/
def c5 : CC :=
 (.seq (.reg [
   ⟨(some 2), none, .f (.mv (.c (.bool false)))⟩])
 (.seq (.seq (.reg [
   ⟨(some 8), none, .f (.mv (.t 0))⟩,
   ⟨(some 9), none, .f (.len (.t 8))⟩,
   ⟨(some 10), none, .f (.bin .gtr (.t 9) (.c (.int .i64 1048576)))⟩])
 (.cond (.t 10)
  (.seq (.reg [
    ⟨(some 2), none, .f (.mv (.c (.bool true)))⟩])
  .ret)
  .skip))
 (.seq (.reg [
   ⟨(some 12), none, .f (.mv (.t 0))⟩,
   ⟨(some 13), none, .x (.call 22 [(.t 12)])⟩,
   ⟨(some 14), none, .x (.call 21 [(.t 13)])⟩,
   ⟨(some 11), none, .f (.mv (.t 14))⟩,
   ⟨(some 15), none, .f (.ext 0 (.t 11))⟩,
   ⟨(some 16), none, .f (.ext 1 (.t 11))⟩,
   ⟨(some 3), none, .x (.zero 29 2 [(.int .i64 0), (.str [])])⟩,
   ⟨none, none, .x (.st 2 (.t 3) (.t 15))⟩,
   ⟨(some 4), none, .f (.mv (.t 16))⟩])
 (.seq (.reg [
   ⟨(some 17), none, .f (.mv (.t 0))⟩,
   ⟨(some 18), none, .x (.call 22 [(.t 17)])⟩,
   ⟨(some 5), none, .f (.mv (.t 18))⟩])
 (.seq (.reg [
   ⟨(some 20), none, .f (.mv (.t 5))⟩,
   ⟨(some 21), none, .x (.call 23 [(.t 20)])⟩,
   ⟨(some 19), none, .f (.mv (.t 21))⟩,
   ⟨(some 22), none, .f (.ext 0 (.t 19))⟩,
   ⟨(some 23), none, .f (.ext 1 (.t 19))⟩,
   ⟨(some 6), none, .x (.zero 29 2 [(.int .i64 0), (.str [])])⟩,
   ⟨none, none, .x (.st 2 (.t 6) (.t 22))⟩,
   ⟨(some 7), none, .f (.mv (.t 23))⟩])
 (.seq (.seq (.reg [
   ⟨(some 24), none, .f (.ldA 2 (.t 6))⟩,
   ⟨(some 25), none, .f (.ldA 2 (.t 3))⟩,
   ⟨(some 26), none, .x (.call 24 [(.t 24), (.t 25)])⟩,
   ⟨(some 27), none, .f (.un .not (.t 26))⟩,
   ⟨(some 28), none, .f (.mv (.t 27))⟩,
   ⟨(some 29), (some (28, false)), .f (.mv (.t 7))⟩,
   ⟨(some 30), (some (28, false)), .f (.mv (.t 4))⟩,
   ⟨(some 31), (some (28, false)), .f (.bin .neq (.t 29) (.t 30))⟩,
   ⟨(some 32), none, .f (.pick (.t 28) (.c (.bool true)) (.t 31))⟩])
 (.cond (.t 32)
  (.seq (.reg [
    ⟨(some 2), none, .f (.mv (.c (.bool false)))⟩])
  .ret)
  .skip))
 (.seq (.seq (.reg [
   ⟨(some 33), none, .f (.mv (.t 5))⟩,
   ⟨(some 34), none, .f (.mv (.t 0))⟩,
   ⟨(some 35), none, .x (.call 22 [(.t 34)])⟩,
   ⟨(some 36), none, .x (.call 18 [(.t 33), (.t 35)])⟩,
   ⟨(some 37), none, .f (.un .not (.t 36))⟩])
 (.cond (.t 37)
  (.seq (.reg [
    ⟨(some 2), none, .f (.mv (.c (.bool false)))⟩])
  .ret)
  .skip))
 (.seq (.reg [
   ⟨(some 2), none, .f (.mv (.c (.bool true)))⟩])
 .ret))))))))
theorem ok5 : fnComp Tryd.prog 5 = some (38, c5, [(.mv (.t 2))]) := by kernel_rfl

/-- loop.example/g00003/spec.DecodeQuery -/
def c21 : CC :=
 (.seq (.reg [
   ⟨(some 2), none, .x (.zero 29 2 [(.int .i64 0), (.str [])])⟩,
   ⟨(some 3), none, .f (.mv (.c (.int .i64 0)))⟩])
 (.seq (.reg [
   ⟨(some 7), none, .f (.mv (.t 0))⟩,
   ⟨(some 8), none, .x (.call 64 [(.t 7), (.c (.int .i64 3))])⟩,
   ⟨(some 6), none, .f (.mv (.t 8))⟩,
   ⟨(some 9), none, .f (.ext 0 (.t 6))⟩,
   ⟨(some 10), none, .f (.ext 1 (.t 6))⟩,
   ⟨(some 4), none, .f (.mv (.t 9))⟩,
   ⟨(some 5), none, .f (.mv (.t 10))⟩])
 (.seq (.block 0 (.seq (.reg [
    ⟨(some 12), none, .f (.mv (.t 5))⟩,
    ⟨(some 13), none, .f (.bin .lss (.t 12) (.c (.int .i64 0)))⟩,
    ⟨(some 11), none, .f (.mv (.t 13))⟩])
  (.cond (.t 11)
   (.seq (.reg [
     ⟨(some 14), none, .f (.build [(.int .i64 0), (.str [])] [])⟩,
     ⟨none, none, .x (.st 2 (.t 2) (.t 14))⟩,
     ⟨(some 3), none, .f (.mv (.c (.int .i64 2)))⟩])
   .ret)
   (.seq (.reg [
     ⟨(some 16), none, .f (.mv (.t 5))⟩,
     ⟨(some 17), none, .f (.mv (.t 0))⟩,
     ⟨(some 18), none, .f (.len (.t 17))⟩,
     ⟨(some 19), none, .f (.bin .lss (.t 16) (.t 18))⟩,
     ⟨(some 15), none, .f (.mv (.t 19))⟩])
   (.cond (.t 15)
    (.seq (.reg [
      ⟨(some 20), none, .f (.build [(.int .i64 0), (.str [])] [])⟩,
      ⟨none, none, .x (.st 2 (.t 2) (.t 20))⟩,
      ⟨(some 3), none, .f (.mv (.c (.int .i64 5)))⟩])
    .ret)
    (.seq (.reg [
      ⟨(some 22), none, .f (.mv (.t 0))⟩,
      ⟨(some 23), none, .f (.iadr 1 (.t 22) (.c (.int .i64 2)))⟩,
      ⟨(some 24), none, .f (.ld (.t 23))⟩,
      ⟨(some 25), none, .f (.bin .neq (.t 24) (.c (.int .u8 0)))⟩,
      ⟨(some 21), none, .f (.mv (.t 25))⟩])
    (.cond (.t 21)
     (.seq (.reg [
       ⟨(some 26), none, .f (.build [(.int .i64 0), (.str [])] [])⟩,
       ⟨none, none, .x (.st 2 (.t 2) (.t 26))⟩,
       ⟨(some 3), none, .f (.mv (.c (.int .i64 9)))⟩])
     .ret)
     (.seq (.reg [
       ⟨(some 28), none, .f (.mv (.t 4))⟩,
       ⟨(some 29), none, .x (.call 12 [(.t 28)])⟩,
       ⟨(some 30), none, .f (.un .not (.t 29))⟩,
       ⟨(some 27), none, .f (.mv (.t 30))⟩])
     (.cond (.t 27)
      (.seq (.reg [
        ⟨(some 31), none, .f (.build [(.int .i64 0), (.str [])] [])⟩,
        ⟨none, none, .x (.st 2 (.t 2) (.t 31))⟩,
        ⟨(some 3), none, .f (.mv (.c (.int .i64 6)))⟩])
      .ret)
      .skip)))))))))
 (.seq (.reg [
   ⟨(some 32), none, .f (.mv (.t 0))⟩,
   ⟨(some 33), none, .f (.slc 1 (.t 32) none (some (.c (.int .i64 2))) none)⟩,
   ⟨(some 34), none, .x (.call 65 [(.t 33)])⟩,
   ⟨(some 35), none, .f (.mv (.t 4))⟩,
   ⟨(some 36), none, .f (.build [(.int .i64 0), (.str [])] [(0, 1, (.t 34)), (1, 1, (.t 35))])⟩,
   ⟨none, none, .x (.st 2 (.t 2) (.t 36))⟩,
   ⟨(some 3), none, .f (.mv (.c (.int .i64 0)))⟩])
 .ret))))
theorem ok21 : fnComp Tryd.prog 21 = some (37, c21, [(.ldA 2 (.t 2)), (.mv (.t 3))]) := by kernel_rfl

/-- loop.example/g00003/laws.toByteS -/
def c22 : CC :=
 (.seq (.reg [
   ⟨(some 2), none, .f (.mv (.c .nilslice))⟩])
 (.seq (.reg [
   ⟨(some 5), none, .f (.mv (.t 0))⟩,
   ⟨(some 6), none, .f (.len (.t 5))⟩,
   ⟨(some 7), none, .x (.mks 5 1 1 [(.int .u8 0)] (.t 6) (.t 6))⟩,
   ⟨(some 3), none, .f (.mv (.t 7))⟩])
 (.seq (.seq (.reg [
   ⟨(some 4), none, .f (.mv (.c (.int .i64 0)))⟩])
 (.block 0 (.loop (.seq (.seq (.reg [
     ⟨(some 8), none, .f (.mv (.t 4))⟩,
     ⟨(some 9), none, .f (.mv (.t 0))⟩,
     ⟨(some 10), none, .f (.len (.t 9))⟩,
     ⟨(some 11), none, .f (.bin .lss (.t 8) (.t 10))⟩])
   (.cond (.t 11)
    .skip
    (.exit 0)))
   (.seq (.block 1 (.reg [
      ⟨(some 14), none, .f (.mv (.t 3))⟩,
      ⟨(some 15), none, .f (.mv (.t 4))⟩,
      ⟨(some 16), none, .f (.mv (.t 0))⟩,
      ⟨(some 17), none, .f (.mv (.t 4))⟩,
      ⟨(some 18), none, .f (.iadr 1 (.t 16) (.t 17))⟩,
      ⟨(some 19), none, .f (.ld (.t 18))⟩,
      ⟨(some 20), none, .f (.iadr 1 (.t 14) (.t 15))⟩,
      ⟨none, none, .x (.st 1 (.t 20) (.t 19))⟩]))
   (.reg [
     ⟨(some 12), none, .f (.mv (.t 4))⟩,
     ⟨(some 13), none, .f (.bin .add (.t 12) (.c (.int .i64 1)))⟩,
     ⟨(some 4), none, .f (.mv (.t 13))⟩]))))))
 (.seq (.reg [
   ⟨(some 21), none, .f (.mv (.t 3))⟩,
   ⟨(some 2), none, .f (.mv (.t 21))⟩])
 .ret))))
theorem ok22 : fnComp Tryd.prog 22 = some (22, c22, [(.mv (.t 2))]) := by kernel_rfl

/-- loop.example/g00003/impl.DecodeQuery -/
def c23 : CC :=
 (.seq (.reg [
   ⟨(some 2), none, .x (.zero 29 2 [(.int .i64 0), (.str [])])⟩,
   ⟨(some 3), none, .f (.mv (.c (.int .i64 0)))⟩])
 (.seq (.reg [
   ⟨(some 8), none, .f (.mv (.t 0))⟩,
   ⟨(some 9), none, .f (.build [.nilslice, (.bool false)] [(0, 1, (.t 8))])⟩,
   ⟨(some 10), none, .x (.box 105 2 (.t 9))⟩,
   ⟨(some 4), none, .f (.mv (.t 10))⟩])
 (.seq (.reg [
   ⟨(some 11), none, .f (.mv (.t 4))⟩,
   ⟨(some 12), none, .x (.call 66 [(.t 11), (.c (.int .i64 2))])⟩,
   ⟨(some 13), none, .f (.build [(.int .i64 0), (.str [])] [(0, 1, (.t 12))])⟩,
   ⟨(some 5), none, .x (.zero 29 2 [(.int .i64 0), (.str [])])⟩,
   ⟨none, none, .x (.st 2 (.t 5) (.t 13))⟩])
 (.seq (.reg [
   ⟨(some 14), none, .f (.mv (.t 4))⟩,
   ⟨(some 15), none, .x (.call 66 [(.t 14), (.c (.int .i64 1))])⟩,
   ⟨(some 6), none, .f (.mv (.t 15))⟩])
 (.seq (.reg [
   ⟨(some 16), none, .f (.mv (.t 4))⟩,
   ⟨(some 17), none, .f (.mv (.t 4))⟩,
   ⟨(some 18), none, .x (.call 66 [(.t 17), (.c (.int .i64 1))])⟩,
   ⟨(some 19), none, .x (.call 67 [(.t 16), (.t 18)])⟩,
   ⟨(some 20), none, .f (.b2s (.t 19))⟩,
   ⟨(some 21), none, .f (.fadr 1 (.t 5))⟩,
   ⟨none, none, .x (.st 1 (.t 21) (.t 20))⟩])
 (.seq (.seq (.reg [
   ⟨(some 22), none, .f (.mv (.t 4))⟩,
   ⟨(some 23), none, .f (.mv (.t 6))⟩,
   ⟨(some 24), none, .f (.fadr 1 (.t 5))⟩,
   ⟨(some 25), none, .f (.ld (.t 24))⟩,
   ⟨(some 26), none, .x (.call 68 [(.t 22), (.t 23), (.c (.int .i64 0)), (.t 25)])⟩,
   ⟨(some 7), none, .f (.mv (.t 26))⟩])
 (.seq (.reg [
   ⟨(some 27), none, .f (.mv (.t 7))⟩,
   ⟨(some 28), none, .f (.bin .neq (.t 27) (.c (.int .i64 0)))⟩])
 (.cond (.t 28)
  (.seq (.reg [
    ⟨(some 29), none, .f (.build [(.int .i64 0), (.str [])] [])⟩,
    ⟨(some 30), none, .f (.mv (.t 7))⟩,
    ⟨none, none, .x (.st 2 (.t 2) (.t 29))⟩,
    ⟨(some 3), none, .f (.mv (.t 30))⟩])
  .ret)
  .skip)))
 (.seq (.reg [
   ⟨(some 31), none, .f (.ldA 2 (.t 5))⟩,
   ⟨none, none, .x (.st 2 (.t 2) (.t 31))⟩,
   ⟨(some 3), none, .f (.mv (.c (.int .i64 0)))⟩])
 .ret)))))))
theorem ok23 : fnComp Tryd.prog 23 = some (32, c23, [(.ldA 2 (.t 2)), (.mv (.t 3))]) := by kernel_rfl

/-- loop.example/g00003/laws.eqNameQuery -/
def c24 : CC :=
 (.seq (.reg [
   ⟨(some 2), none, .x (.box 29 2 (.t 0))⟩,
   ⟨(some 3), none, .x (.box 29 2 (.t 1))⟩,
   ⟨(some 4), none, .f (.mv (.c (.bool false)))⟩])
 (.seq (.seq (.reg [
   ⟨(some 5), none, .f (.fadr 0 (.t 2))⟩,
   ⟨(some 6), none, .f (.ld (.t 5))⟩,
   ⟨(some 7), none, .f (.fadr 0 (.t 3))⟩,
   ⟨(some 8), none, .f (.ld (.t 7))⟩,
   ⟨(some 9), none, .f (.bin .neq (.t 6) (.t 8))⟩])
 (.cond (.t 9)
  (.seq (.reg [
    ⟨(some 4), none, .f (.mv (.c (.bool false)))⟩])
  .ret)
  .skip))
 (.seq (.seq (.reg [
   ⟨(some 10), none, .f (.fadr 1 (.t 2))⟩,
   ⟨(some 11), none, .f (.ld (.t 10))⟩,
   ⟨(some 12), none, .f (.fadr 1 (.t 3))⟩,
   ⟨(some 13), none, .f (.ld (.t 12))⟩,
   ⟨(some 14), none, .f (.bin .neq (.t 11) (.t 13))⟩])
 (.cond (.t 14)
  (.seq (.reg [
    ⟨(some 4), none, .f (.mv (.c (.bool false)))⟩])
  .ret)
  .skip))
 (.seq (.reg [
   ⟨(some 4), none, .f (.mv (.c (.bool true)))⟩])
 .ret))))
theorem ok24 : fnComp Tryd.prog 24 = some (15, c24, [(.mv (.t 4))]) := by kernel_rfl

/-- loop.example/g00003/spec.l19Text -/
def c64 : CC :=
 (.seq (.reg [
   ⟨(some 4), none, .f (.mv (.c (.str [])))⟩,
   ⟨(some 5), none, .f (.mv (.c (.int .i64 0)))⟩])
 (.seq (.seq (.reg [
   ⟨(some 7), none, .f (.mv (.t 1))⟩,
   ⟨(some 8), none, .f (.bin .lss (.t 7) (.c (.int .i64 0)))⟩,
   ⟨(some 9), none, .f (.mv (.t 8))⟩,
   ⟨(some 10), (some (9, false)), .f (.mv (.t 1))⟩,
   ⟨(some 11), (some (9, false)), .f (.mv (.t 0))⟩,
   ⟨(some 12), (some (9, false)), .f (.len (.t 11))⟩,
   ⟨(some 13), (some (9, false)), .f (.bin .geq (.t 10) (.t 12))⟩,
   ⟨(some 14), none, .f (.pick (.t 9) (.c (.bool true)) (.t 13))⟩,
   ⟨(some 15), none, .f (.mv (.t 14))⟩,
   ⟨(some 16), (some (15, false)), .f (.mv (.t 1))⟩,
   ⟨(some 17), (some (15, false)), .f (.bin .add (.t 16) (.c (.int .i64 1)))⟩,
   ⟨(some 18), (some (15, false)), .f (.mv (.t 0))⟩,
   ⟨(some 19), (some (15, false)), .f (.mv (.t 1))⟩,
   ⟨(some 20), (some (15, false)), .f (.iadr 1 (.t 18) (.t 19))⟩,
   ⟨(some 21), (some (15, false)), .f (.ld (.t 20))⟩,
   ⟨(some 22), (some (15, false)), .f (.cvI .i64 (.t 21))⟩,
   ⟨(some 23), (some (15, false)), .f (.bin .add (.t 17) (.t 22))⟩,
   ⟨(some 24), (some (15, false)), .f (.mv (.t 0))⟩,
   ⟨(some 25), (some (15, false)), .f (.len (.t 24))⟩,
   ⟨(some 26), (some (15, false)), .f (.bin .gtr (.t 23) (.t 25))⟩,
   ⟨(some 27), none, .f (.pick (.t 15) (.c (.bool true)) (.t 26))⟩])
 (.cond (.t 27)
  (.seq (.reg [
    ⟨(some 4), none, .f (.mv (.c (.str [])))⟩,
    ⟨(some 5), none, .f (.mv (.c (.int .i64 (-1))))⟩])
  .ret)
  .skip))
 (.seq (.reg [
   ⟨(some 28), none, .f (.mv (.t 1))⟩,
   ⟨(some 29), none, .f (.bin .add (.t 28) (.c (.int .i64 1)))⟩,
   ⟨(some 30), none, .f (.mv (.t 0))⟩,
   ⟨(some 31), none, .f (.mv (.t 1))⟩,
   ⟨(some 32), none, .f (.iadr 1 (.t 30) (.t 31))⟩,
   ⟨(some 33), none, .f (.ld (.t 32))⟩,
   ⟨(some 34), none, .f (.cvI .i64 (.t 33))⟩,
   ⟨(some 35), none, .f (.bin .add (.t 29) (.t 34))⟩,
   ⟨(some 6), none, .f (.mv (.t 35))⟩])
 (.seq (.reg [
   ⟨(some 36), none, .f (.mv (.t 0))⟩,
   ⟨(some 37), none, .f (.mv (.t 1))⟩,
   ⟨(some 38), none, .f (.bin .add (.t 37) (.c (.int .i64 1)))⟩,
   ⟨(some 39), none, .f (.mv (.t 6))⟩,
   ⟨(some 40), none, .f (.slc 1 (.t 36) (some (.t 38)) (some (.t 39)) none)⟩,
   ⟨(some 41), none, .f (.b2s (.t 40))⟩,
   ⟨(some 42), none, .f (.mv (.t 6))⟩,
   ⟨(some 4), none, .f (.mv (.t 41))⟩,
   ⟨(some 5), none, .f (.mv (.t 42))⟩])
 .ret))))
theorem ok64 : fnComp Tryd.prog 64 = some (43, c64, [(.mv (.t 4)), (.mv (.t 5))]) := by kernel_rfl

/-- loop.example/g00003/spec.l03Num -/
def c65 : CC :=
 (.seq (.reg [
   ⟨(some 2), none, .f (.mv (.c (.int .i64 0)))⟩])
 (.seq (.reg [
   ⟨(some 3), none, .f (.mv (.c (.int .i64 0)))⟩])
 (.seq (.seq (.reg [
   ⟨(some 4), none, .f (.mv (.c (.int .i64 0)))⟩])
 (.block 0 (.loop (.seq (.seq (.reg [
     ⟨(some 5), none, .f (.mv (.t 4))⟩,
     ⟨(some 6), none, .f (.mv (.t 0))⟩,
     ⟨(some 7), none, .f (.len (.t 6))⟩,
     ⟨(some 8), none, .f (.bin .lss (.t 5) (.t 7))⟩])
   (.cond (.t 8)
    .skip
    (.exit 0)))
   (.seq (.block 1 (.reg [
      ⟨(some 11), none, .f (.mv (.t 3))⟩,
      ⟨(some 12), none, .f (.bin .mul (.t 11) (.c (.int .i64 256)))⟩,
      ⟨(some 13), none, .f (.mv (.t 0))⟩,
      ⟨(some 14), none, .f (.mv (.t 4))⟩,
      ⟨(some 15), none, .f (.iadr 1 (.t 13) (.t 14))⟩,
      ⟨(some 16), none, .f (.ld (.t 15))⟩,
      ⟨(some 17), none, .f (.cvI .i64 (.t 16))⟩,
      ⟨(some 18), none, .f (.bin .add (.t 12) (.t 17))⟩,
      ⟨(some 3), none, .f (.mv (.t 18))⟩]))
   (.reg [
     ⟨(some 9), none, .f (.mv (.t 4))⟩,
     ⟨(some 10), none, .f (.bin .add (.t 9) (.c (.int .i64 1)))⟩,
     ⟨(some 4), none, .f (.mv (.t 10))⟩]))))))
 (.seq (.reg [
   ⟨(some 19), none, .f (.mv (.t 3))⟩,
   ⟨(some 2), none, .f (.mv (.t 19))⟩])
 .ret))))
theorem ok65 : fnComp Tryd.prog 65 = some (20, c65, [(.mv (.t 2))]) := by kernel_rfl

/-- (*loop.example/g00003/impl.bites).num -/
def c66 : CC :=
 (.seq (.reg [
   ⟨(some 4), none, .f (.mv (.c (.int .i64 0)))⟩])
 (.seq (.reg [
   ⟨(some 5), none, .f (.mv (.t 0))⟩,
   ⟨(some 6), none, .f (.mv (.t 1))⟩,
   ⟨(some 7), none, .x (.call 67 [(.t 5), (.t 6)])⟩,
   ⟨(some 8), none, .x (.call 108 [(.t 7)])⟩,
   ⟨(some 4), none, .f (.mv (.t 8))⟩])
 .ret))
theorem ok66 : fnComp Tryd.prog 66 = some (9, c66, [(.mv (.t 4))]) := by kernel_rfl

/-- (*loop.example/g00003/impl.bites).take -/
def c67 : CC :=
 (.seq (.reg [
   ⟨(some 4), none, .f (.mv (.c .nilslice))⟩])
 (.seq (.seq (.reg [
   ⟨(some 6), none, .f (.mv (.t 1))⟩,
   ⟨(some 7), none, .f (.mv (.t 0))⟩,
   ⟨(some 8), none, .f (.nck (.t 7))⟩,
   ⟨(some 9), none, .f (.fadr 0 (.t 8))⟩,
   ⟨(some 10), none, .f (.ld (.t 9))⟩,
   ⟨(some 11), none, .f (.len (.t 10))⟩,
   ⟨(some 12), none, .f (.bin .gtr (.t 6) (.t 11))⟩])
 (.cond (.t 12)
  (.seq (.reg [
    ⟨(some 13), none, .f (.mv (.t 0))⟩,
    ⟨(some 14), none, .f (.nck (.t 13))⟩,
    ⟨(some 15), none, .f (.fadr 1 (.t 14))⟩,
    ⟨none, none, .x (.st 1 (.t 15) (.c (.bool true)))⟩])
  (.seq (.reg [
    ⟨(some 16), none, .f (.mv (.t 0))⟩,
    ⟨(some 17), none, .f (.nck (.t 16))⟩,
    ⟨(some 18), none, .f (.fadr 0 (.t 17))⟩,
    ⟨none, none, .x (.st 1 (.t 18) (.c .nilslice))⟩])
  (.seq (.reg [
    ⟨(some 19), none, .f (.mv (.t 1))⟩,
    ⟨(some 20), none, .f (.mm false (.t 19) (.c (.int .i64 8)))⟩,
    ⟨(some 21), none, .x (.mks 5 1 1 [(.int .u8 0)] (.t 20) (.t 20))⟩,
    ⟨(some 4), none, .f (.mv (.t 21))⟩])
  .ret)))
  .skip))
 (.seq (.reg [
   ⟨(some 22), none, .f (.mv (.t 0))⟩,
   ⟨(some 23), none, .f (.nck (.t 22))⟩,
   ⟨(some 24), none, .f (.fadr 0 (.t 23))⟩,
   ⟨(some 25), none, .f (.ld (.t 24))⟩,
   ⟨(some 26), none, .f (.mv (.t 1))⟩,
   ⟨(some 27), none, .f (.slc 1 (.t 25) none (some (.t 26)) none)⟩,
   ⟨(some 5), none, .f (.mv (.t 27))⟩])
 (.seq (.reg [
   ⟨(some 28), none, .f (.mv (.t 0))⟩,
   ⟨(some 29), none, .f (.mv (.t 0))⟩,
   ⟨(some 30), none, .f (.nck (.t 29))⟩,
   ⟨(some 31), none, .f (.fadr 0 (.t 30))⟩,
   ⟨(some 32), none, .f (.ld (.t 31))⟩,
   ⟨(some 33), none, .f (.mv (.t 1))⟩,
   ⟨(some 34), none, .f (.slc 1 (.t 32) (some (.t 33)) none none)⟩,
   ⟨(some 35), none, .f (.nck (.t 28))⟩,
   ⟨(some 36), none, .f (.fadr 0 (.t 35))⟩,
   ⟨none, none, .x (.st 1 (.t 36) (.t 34))⟩])
 (.seq (.reg [
   ⟨(some 37), none, .f (.mv (.t 5))⟩,
   ⟨(some 4), none, .f (.mv (.t 37))⟩])
 .ret)))))
theorem ok67 : fnComp Tryd.prog 67 = some (38, c67, [(.mv (.t 4))]) := by kernel_rfl

/-- (*loop.example/g00003/impl.bites).code -/
def c68 : CC :=
 (.seq (.reg [
   ⟨(some 8), none, .f (.mv (.c (.int .i64 0)))⟩])
 (.seq (.block 0 (.seq (.reg [
    ⟨(some 10), none, .f (.mv (.t 0))⟩,
    ⟨(some 11), none, .f (.nck (.t 10))⟩,
    ⟨(some 12), none, .f (.fadr 1 (.t 11))⟩,
    ⟨(some 13), none, .f (.ld (.t 12))⟩,
    ⟨(some 9), none, .f (.mv (.t 13))⟩])
  (.cond (.t 9)
   (.seq (.reg [
     ⟨(some 8), none, .f (.mv (.c (.int .i64 2)))⟩])
   .ret)
   (.seq (.reg [
     ⟨(some 15), none, .f (.mv (.t 0))⟩,
     ⟨(some 16), none, .f (.nck (.t 15))⟩,
     ⟨(some 17), none, .f (.fadr 0 (.t 16))⟩,
     ⟨(some 18), none, .f (.ld (.t 17))⟩,
     ⟨(some 19), none, .f (.len (.t 18))⟩,
     ⟨(some 20), none, .f (.bin .gtr (.t 19) (.c (.int .i64 0)))⟩,
     ⟨(some 14), none, .f (.mv (.t 20))⟩])
   (.cond (.t 14)
    (.seq (.reg [
      ⟨(some 8), none, .f (.mv (.c (.int .i64 5)))⟩])
    .ret)
    (.seq (.reg [
      ⟨(some 22), none, .f (.mv (.t 1))⟩,
      ⟨(some 23), none, .f (.mv (.t 2))⟩,
      ⟨(some 24), none, .f (.bin .neq (.t 22) (.t 23))⟩,
      ⟨(some 21), none, .f (.mv (.t 24))⟩])
    (.cond (.t 21)
     (.seq (.reg [
       ⟨(some 8), none, .f (.mv (.c (.int .i64 9)))⟩])
     .ret)
     (.seq (.reg [
       ⟨(some 26), none, .f (.mv (.t 3))⟩,
       ⟨(some 27), none, .x (.call 13 [(.t 26)])⟩,
       ⟨(some 28), none, .f (.un .not (.t 27))⟩,
       ⟨(some 25), none, .f (.mv (.t 28))⟩])
     (.cond (.t 25)
      (.seq (.reg [
        ⟨(some 8), none, .f (.mv (.c (.int .i64 6)))⟩])
      .ret)
      .skip)))))))))
 (.seq (.reg [
   ⟨(some 8), none, .f (.mv (.c (.int .i64 0)))⟩])
 .ret)))
theorem ok68 : fnComp Tryd.prog 68 = some (29, c68, [(.mv (.t 8))]) := by kernel_rfl

/-- loop.example/g00003/impl.get -/
def c108 : CC :=
 (.seq (.reg [
   ⟨(some 2), none, .f (.mv (.c (.int .i64 0)))⟩])
 (.seq (.reg [
   ⟨(some 3), none, .f (.mv (.c (.int .i64 0)))⟩])
 (.seq (.seq (.reg [
   ⟨(some 6), none, .f (.mv (.t 0))⟩,
   ⟨(some 7), none, .f (.len (.t 6))⟩,
   ⟨(some 8), none, .f (.mv (.c (.int .i64 0)))⟩])
 (.block 0 (.loop (.seq (.reg [
     ⟨(some 9), none, .f (.bin .lss (.t 8) (.t 7))⟩])
   (.seq (.cond (.t 9)
    .skip
    (.exit 0))
   (.seq (.block 1 (.seq (.reg [
      ⟨(some 10), none, .f (.iadr 1 (.t 6) (.t 8))⟩,
      ⟨(some 11), none, .f (.ld (.t 10))⟩,
      ⟨(some 5), none, .f (.mv (.t 11))⟩])
    (.reg [
      ⟨(some 12), none, .f (.mv (.t 3))⟩,
      ⟨(some 13), none, .f (.bin .shl (.t 12) (.c (.int .u64 8)))⟩,
      ⟨(some 14), none, .f (.mv (.t 5))⟩,
      ⟨(some 15), none, .f (.cvI .i64 (.t 14))⟩,
      ⟨(some 16), none, .f (.bin .or (.t 13) (.t 15))⟩,
      ⟨(some 3), none, .f (.mv (.t 16))⟩])))
   (.reg [
     ⟨(some 17), none, .f (.bin .add (.t 8) (.c (.int .i64 1)))⟩,
     ⟨(some 8), none, .f (.mv (.t 17))⟩])))))))
 (.seq (.reg [
   ⟨(some 18), none, .f (.mv (.t 3))⟩,
   ⟨(some 2), none, .f (.mv (.t 18))⟩])
 .ret))))
theorem ok108 : fnComp Tryd.prog 108 = some (19, c108, [(.mv (.t 2))]) := by kernel_rfl

end Go.Proofs.YtcmcfmgabafljaaDoor
