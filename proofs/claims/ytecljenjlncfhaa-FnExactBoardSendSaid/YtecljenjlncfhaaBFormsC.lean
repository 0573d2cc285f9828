import Derived.Test.YtecljenjlncfhaaIwP
import Derived.Test.YtecljenjlncfhaaProg
import Derived.KernelRfl
set_option linter.unusedVariables false
set_option linter.unusedSimpArgs false
namespace Go.Proofs.Ytecljenjlncfhaa
open Go Go.IW
/-- loop.example/g00003/laws.FnExactBoardSend -/
def c8 : CC :=
 (.seq (.reg [
   ⟨(some 3), none, .x (.box 35 3 (.t 0))⟩,
   ⟨(some 6), none, .f (.mv (.c (.bool false)))⟩])
 (.seq (.reg [
   ⟨(some 7), none, .f (.mv (.c (.int .i64 1048576)))⟩])
 (.seq (.reg [
   ⟨(some 18), none, .f (.ldA 3 (.t 3))⟩,
   ⟨(some 19), none, .f (.mv (.t 7))⟩,
   ⟨(some 20), none, .x (.call 24 [(.t 18), (.t 19)])⟩,
   ⟨(some 7), none, .f (.mv (.t 20))⟩])
 (.seq (.seq (.reg [
   ⟨(some 21), none, .f (.mv (.t 7))⟩,
   ⟨(some 22), none, .f (.bin .lss (.t 21) (.c (.int .i64 0)))⟩])
 (.cond (.t 22)
  (.seq (.reg [
    ⟨(some 6), none, .f (.mv (.c (.bool true)))⟩])
  .ret)
  .skip))
 (.seq (.reg [
   ⟨(some 24), none, .f (.ldA 3 (.t 3))⟩,
   ⟨(some 25), none, .x (.call 26 [(.t 24)])⟩,
   ⟨(some 26), none, .f (.mv (.t 1))⟩,
   ⟨(some 27), none, .f (.mv (.t 2))⟩,
   ⟨(some 28), none, .x (.call 33 [(.t 25), (.t 26), (.t 27)])⟩,
   ⟨(some 23), none, .f (.mv (.t 28))⟩,
   ⟨(some 29), none, .f (.ext 0 (.t 23))⟩,
   ⟨(some 30), none, .f (.ext 1 (.t 23))⟩,
   ⟨(some 8), none, .x (.zero 40 3 [(.int .i64 0), (.int .i64 0), .nilslice])⟩,
   ⟨none, none, .x (.st 3 (.t 8) (.t 29))⟩,
   ⟨(some 9), none, .f (.mv (.t 30))⟩])
 (.seq (.reg [
   ⟨(some 31), none, .f (.ldA 3 (.t 3))⟩,
   ⟨(some 32), none, .x (.call 26 [(.t 31)])⟩,
   ⟨(some 10), none, .x (.zero 40 3 [(.int .i64 0), (.int .i64 0), .nilslice])⟩,
   ⟨none, none, .x (.st 3 (.t 10) (.t 32))⟩])
 (.seq (.reg [
   ⟨(some 34), none, .f (.ldA 3 (.t 10))⟩,
   ⟨(some 35), none, .f (.mv (.t 1))⟩,
   ⟨(some 36), none, .f (.mv (.t 2))⟩,
   ⟨(some 37), none, .x (.call 34 [(.t 34), (.t 35), (.t 36)])⟩,
   ⟨(some 33), none, .f (.mv (.t 37))⟩,
   ⟨(some 38), none, .f (.ext 0 (.t 33))⟩,
   ⟨(some 39), none, .f (.ext 1 (.t 33))⟩,
   ⟨(some 11), none, .x (.zero 40 3 [(.int .i64 0), (.int .i64 0), .nilslice])⟩,
   ⟨none, none, .x (.st 3 (.t 11) (.t 38))⟩,
   ⟨(some 12), none, .f (.mv (.t 39))⟩])
 (.seq (.seq (.reg [
   ⟨(some 40), none, .f (.ldA 3 (.t 11))⟩,
   ⟨(some 41), none, .f (.ldA 3 (.t 8))⟩,
   ⟨(some 42), none, .x (.call 28 [(.t 40), (.t 41)])⟩,
   ⟨(some 43), none, .f (.un .not (.t 42))⟩,
   ⟨(some 44), none, .f (.mv (.t 43))⟩,
   ⟨(some 45), (some (44, false)), .f (.mv (.t 12))⟩,
   ⟨(some 46), (some (44, false)), .f (.mv (.t 9))⟩,
   ⟨(some 47), (some (44, false)), .f (.bin .neq (.t 45) (.t 46))⟩,
   ⟨(some 48), none, .f (.pick (.t 44) (.c (.bool true)) (.t 47))⟩])
 (.cond (.t 48)
  (.seq (.reg [
    ⟨(some 6), none, .f (.mv (.c (.bool false)))⟩])
  .ret)
  .skip))
 (.seq (.seq (.dreg [
   ⟨(some 49), none, .f (.ldA 3 (.t 10))⟩,
   ⟨(some 50), none, .f (.ldA 3 (.t 3))⟩,
   ⟨(some 51), none, .x (.call 26 [(.t 50)])⟩,
   ⟨(some 52), none, .x (.call 28 [(.t 49), (.t 51)])⟩,
   ⟨(some 53), none, .f (.un .not (.t 52))⟩]
   [false, false, true, true, false] [[], [], [1], [0, 2, 1], [3, 0, 2, 1]] [0, 1, 2, 3, 4])
 (.cond (.t 53)
  (.seq (.reg [
    ⟨(some 6), none, .f (.mv (.c (.bool false)))⟩])
  .ret)
  .skip))
 (.seq (.reg [
   ⟨(some 13), none, .f (.mv (.c (.int .i64 1)))⟩])
 (.seq (.reg [
   ⟨(some 54), none, .f (.ldA 3 (.t 10))⟩,
   ⟨(some 55), none, .f (.mv (.t 13))⟩,
   ⟨(some 56), none, .x (.call 31 [(.t 54), (.t 55)])⟩,
   ⟨(some 13), none, .f (.mv (.t 56))⟩])
 (.seq (.seq (.reg [
   ⟨(some 57), none, .f (.mv (.t 13))⟩,
   ⟨(some 58), none, .f (.bin .lss (.t 57) (.c (.int .i64 0)))⟩,
   ⟨(some 59), none, .f (.mv (.t 58))⟩,
   ⟨(some 60), (some (59, false)), .f (.ldA 3 (.t 11))⟩,
   ⟨(some 61), (some (59, false)), .f (.ldA 3 (.t 8))⟩,
   ⟨(some 62), (some (59, false)), .x (.call 28 [(.t 60), (.t 61)])⟩,
   ⟨(some 63), (some (59, false)), .f (.un .not (.t 62))⟩,
   ⟨(some 64), none, .f (.pick (.t 59) (.c (.bool true)) (.t 63))⟩,
   ⟨(some 65), none, .f (.mv (.t 64))⟩,
   ⟨(some 66), (some (65, false)), .f (.mv (.t 12))⟩,
   ⟨(some 67), (some (65, false)), .f (.mv (.t 9))⟩,
   ⟨(some 68), (some (65, false)), .f (.bin .neq (.t 66) (.t 67))⟩,
   ⟨(some 69), none, .f (.pick (.t 65) (.c (.bool true)) (.t 68))⟩])
 (.cond (.t 69)
  (.seq (.reg [
    ⟨(some 6), none, .f (.mv (.c (.bool false)))⟩])
  .ret)
  .skip))
 (.seq (.reg [
   ⟨(some 14), none, .f (.mv (.c (.int .i64 1)))⟩])
 (.seq (.reg [
   ⟨(some 70), none, .f (.ldA 3 (.t 11))⟩,
   ⟨(some 71), none, .f (.mv (.t 14))⟩,
   ⟨(some 72), none, .x (.call 31 [(.t 70), (.t 71)])⟩,
   ⟨(some 14), none, .f (.mv (.t 72))⟩])
 (.seq (.reg [
   ⟨(some 15), none, .f (.mv (.c (.int .i64 1)))⟩])
 (.seq (.reg [
   ⟨(some 73), none, .f (.ldA 3 (.t 11))⟩,
   ⟨(some 74), none, .f (.mv (.t 15))⟩,
   ⟨(some 75), none, .x (.call 32 [(.t 73), (.t 74)])⟩,
   ⟨(some 15), none, .f (.mv (.t 75))⟩])
 (.seq (.seq (.reg [
   ⟨(some 76), none, .f (.mv (.t 15))⟩,
   ⟨(some 77), none, .f (.bin .lss (.t 76) (.c (.int .i64 0)))⟩])
 (.cond (.t 77)
  (.seq (.reg [
    ⟨(some 6), none, .f (.mv (.c (.bool false)))⟩])
  .ret)
  .skip))
 (.seq (.seq (.reg [
   ⟨(some 78), none, .f (.mv (.t 15))⟩,
   ⟨(some 79), none, .f (.mv (.t 14))⟩,
   ⟨(some 80), none, .f (.bin .neq (.t 78) (.t 79))⟩])
 (.cond (.t 80)
  (.seq (.reg [
    ⟨(some 6), none, .f (.mv (.c (.bool false)))⟩])
  .ret)
  .skip))
 (.seq (.reg [
   ⟨(some 82), none, .f (.ldA 3 (.t 3))⟩,
   ⟨(some 83), none, .x (.call 26 [(.t 82)])⟩,
   ⟨(some 84), none, .f (.mv (.t 1))⟩,
   ⟨(some 85), none, .f (.mv (.t 2))⟩,
   ⟨(some 86), none, .x (.call 34 [(.t 83), (.t 84), (.t 85)])⟩,
   ⟨(some 81), none, .f (.mv (.t 86))⟩,
   ⟨(some 87), none, .f (.ext 0 (.t 81))⟩,
   ⟨(some 88), none, .f (.ext 1 (.t 81))⟩,
   ⟨(some 16), none, .x (.zero 40 3 [(.int .i64 0), (.int .i64 0), .nilslice])⟩,
   ⟨none, none, .x (.st 3 (.t 16) (.t 87))⟩,
   ⟨(some 17), none, .f (.mv (.t 88))⟩])
 (.seq (.seq (.reg [
   ⟨(some 89), none, .f (.ldA 3 (.t 16))⟩,
   ⟨(some 90), none, .f (.ldA 3 (.t 8))⟩,
   ⟨(some 91), none, .x (.call 28 [(.t 89), (.t 90)])⟩,
   ⟨(some 92), none, .f (.un .not (.t 91))⟩,
   ⟨(some 93), none, .f (.mv (.t 92))⟩,
   ⟨(some 94), (some (93, false)), .f (.mv (.t 17))⟩,
   ⟨(some 95), (some (93, false)), .f (.mv (.t 9))⟩,
   ⟨(some 96), (some (93, false)), .f (.bin .neq (.t 94) (.t 95))⟩,
   ⟨(some 97), none, .f (.pick (.t 93) (.c (.bool true)) (.t 96))⟩])
 (.cond (.t 97)
  (.seq (.reg [
    ⟨(some 6), none, .f (.mv (.c (.bool false)))⟩])
  .ret)
  .skip))
 (.seq (.reg [
   ⟨(some 15), none, .f (.mv (.c (.int .i64 1)))⟩])
 (.seq (.reg [
   ⟨(some 98), none, .f (.ldA 3 (.t 11))⟩,
   ⟨(some 99), none, .f (.mv (.t 15))⟩,
   ⟨(some 100), none, .x (.call 32 [(.t 98), (.t 99)])⟩,
   ⟨(some 15), none, .f (.mv (.t 100))⟩])
 (.seq (.seq (.reg [
   ⟨(some 101), none, .f (.mv (.t 15))⟩,
   ⟨(some 102), none, .f (.bin .lss (.t 101) (.c (.int .i64 0)))⟩])
 (.cond (.t 102)
  (.seq (.reg [
    ⟨(some 6), none, .f (.mv (.c (.bool false)))⟩])
  .ret)
  .skip))
 (.seq (.seq (.reg [
   ⟨(some 103), none, .f (.mv (.t 15))⟩,
   ⟨(some 104), none, .f (.mv (.t 14))⟩,
   ⟨(some 105), none, .f (.bin .neq (.t 103) (.t 104))⟩])
 (.cond (.t 105)
  (.seq (.reg [
    ⟨(some 6), none, .f (.mv (.c (.bool false)))⟩])
  .ret)
  .skip))
 (.seq (.reg [
   ⟨(some 6), none, .f (.mv (.c (.bool true)))⟩])
 .ret)))))))))))))))))))))))))
theorem ok8 : fnComp Try.prog 8 = some (106, c8, [(.mv (.t 6))]) := by kernel_rfl

/-- loop.example/g00003/spec.BoardSend -/
def c33 : CC :=
 (.seq (.reg [
   ⟨(some 3), none, .x (.box 40 3 (.t 0))⟩,
   ⟨(some 6), none, .x (.zero 40 3 [(.int .i64 0), (.int .i64 0), .nilslice])⟩,
   ⟨(some 7), none, .f (.mv (.c (.int .i64 0)))⟩])
 (.seq (.seq (.reg [
   ⟨(some 8), none, .f (.ldA 3 (.t 3))⟩,
   ⟨(some 9), none, .x (.call 67 [(.t 8)])⟩,
   ⟨(some 10), none, .f (.un .not (.t 9))⟩,
   ⟨(some 11), none, .f (.mv (.t 10))⟩,
   ⟨(some 12), (some (11, false)), .f (.mv (.t 1))⟩,
   ⟨(some 13), (some (11, false)), .x (.call 77 [(.t 12), (.c (.int .i64 1)), (.c (.int .i64 65535))])⟩,
   ⟨(some 14), (some (11, false)), .f (.un .not (.t 13))⟩,
   ⟨(some 15), none, .f (.pick (.t 11) (.c (.bool true)) (.t 14))⟩,
   ⟨(some 16), none, .f (.mv (.t 15))⟩,
   ⟨(some 17), (some (16, false)), .f (.mv (.t 2))⟩,
   ⟨(some 18), (some (16, false)), .x (.call 77 [(.t 17), (.c (.int .i64 0)), (.c (.int .i64 1000000000))])⟩,
   ⟨(some 19), (some (16, false)), .f (.un .not (.t 18))⟩,
   ⟨(some 20), none, .f (.pick (.t 16) (.c (.bool true)) (.t 19))⟩])
 (.cond (.t 20)
  (.seq (.reg [
    ⟨(some 21), none, .f (.build [(.int .i64 0), (.int .i64 0), .nilslice] [])⟩,
    ⟨none, none, .x (.st 3 (.t 6) (.t 21))⟩,
    ⟨(some 7), none, .f (.mv (.c (.int .i64 1)))⟩])
  .ret)
  .skip))
 (.seq (.seq (.reg [
   ⟨(some 22), none, .f (.fadr 2 (.t 3))⟩,
   ⟨(some 23), none, .f (.ld (.t 22))⟩,
   ⟨(some 24), none, .f (.len (.t 23))⟩,
   ⟨(some 25), none, .f (.bin .geq (.t 24) (.c (.int .i64 4096)))⟩,
   ⟨(some 26), none, .f (.mv (.t 25))⟩,
   ⟨(some 27), (some (26, false)), .f (.fadr 1 (.t 3))⟩,
   ⟨(some 28), (some (26, false)), .f (.ld (.t 27))⟩,
   ⟨(some 29), (some (26, false)), .f (.mv (.t 1))⟩,
   ⟨(some 30), (some (26, false)), .f (.bin .add (.t 28) (.t 29))⟩,
   ⟨(some 31), (some (26, false)), .f (.bin .gtr (.t 30) (.c (.int .i64 1099511627776)))⟩,
   ⟨(some 32), none, .f (.pick (.t 26) (.c (.bool true)) (.t 31))⟩])
 (.cond (.t 32)
  (.seq (.reg [
    ⟨(some 33), none, .f (.build [(.int .i64 0), (.int .i64 0), .nilslice] [])⟩,
    ⟨none, none, .x (.st 3 (.t 6) (.t 33))⟩,
    ⟨(some 7), none, .f (.mv (.c (.int .i64 18)))⟩])
  .ret)
  .skip))
 (.seq (.reg [
   ⟨(some 34), none, .f (.ldA 3 (.t 3))⟩,
   ⟨(some 35), none, .x (.call 72 [(.t 34)])⟩,
   ⟨none, none, .x (.st 3 (.t 3) (.t 35))⟩])
 (.seq (.reg [
   ⟨(some 36), none, .f (.fadr 2 (.t 3))⟩,
   ⟨(some 37), none, .f (.ld (.t 36))⟩,
   ⟨(some 38), none, .f (.fadr 1 (.t 3))⟩,
   ⟨(some 39), none, .f (.ld (.t 38))⟩,
   ⟨(some 40), none, .f (.fadr 1 (.t 3))⟩,
   ⟨(some 41), none, .f (.ld (.t 40))⟩,
   ⟨(some 42), none, .f (.mv (.t 1))⟩,
   ⟨(some 43), none, .f (.bin .add (.t 41) (.t 42))⟩,
   ⟨(some 44), none, .f (.mv (.t 2))⟩,
   ⟨(some 45), none, .f (.build [(.int .i64 0), (.int .i64 0), (.int .i64 0), (.int .i64 0), (.bool false), (.bool false)] [(0, 1, (.t 39)), (1, 1, (.t 43)), (2, 1, (.t 44)), (3, 1, (.c (.int .i64 1)))])⟩,
   ⟨(some 46), none, .x (.bslice 113 6 [(.int .i64 0), (.int .i64 0), (.int .i64 0), (.int .i64 0), (.bool false), (.bool false)] 1 [(0, (.t 45))])⟩,
   ⟨(some 47), none, .x (.app 113 6 40 (.t 37) (.t 46))⟩,
   ⟨(some 48), none, .f (.fadr 2 (.t 3))⟩,
   ⟨none, none, .x (.st 1 (.t 48) (.t 47))⟩])
 (.seq (.reg [
   ⟨(some 49), none, .f (.fadr 1 (.t 3))⟩,
   ⟨(some 50), none, .f (.ld (.t 49))⟩,
   ⟨(some 51), none, .f (.mv (.t 1))⟩,
   ⟨(some 52), none, .f (.bin .add (.t 50) (.t 51))⟩,
   ⟨(some 53), none, .f (.fadr 1 (.t 3))⟩,
   ⟨none, none, .x (.st 1 (.t 53) (.t 52))⟩])
 (.seq (.reg [
   ⟨(some 54), none, .f (.ldA 3 (.t 3))⟩,
   ⟨none, none, .x (.st 3 (.t 6) (.t 54))⟩,
   ⟨(some 7), none, .f (.mv (.c (.int .i64 0)))⟩])
 .ret)))))))
theorem ok33 : fnComp Try.prog 33 = some (55, c33, [(.ldA 3 (.t 6)), (.mv (.t 7))]) := by kernel_rfl

/-- loop.example/g00003/impl.BoardSend -/
def c34 : CC :=
 (.seq (.reg [
   ⟨(some 3), none, .x (.box 40 3 (.t 0))⟩,
   ⟨(some 6), none, .x (.zero 40 3 [(.int .i64 0), (.int .i64 0), .nilslice])⟩,
   ⟨(some 7), none, .f (.mv (.c (.int .i64 0)))⟩])
 (.seq (.seq (.reg [
   ⟨(some 9), none, .f (.ldA 3 (.t 3))⟩,
   ⟨(some 10), none, .x (.call 69 [(.t 9)])⟩,
   ⟨(some 11), none, .f (.un .not (.t 10))⟩,
   ⟨(some 12), none, .f (.mv (.t 11))⟩,
   ⟨(some 13), (some (12, false)), .f (.mv (.t 1))⟩,
   ⟨(some 14), (some (12, false)), .f (.bin .lss (.t 13) (.c (.int .i64 1)))⟩,
   ⟨(some 15), none, .f (.pick (.t 12) (.c (.bool true)) (.t 14))⟩,
   ⟨(some 16), none, .f (.mv (.t 15))⟩,
   ⟨(some 17), (some (16, false)), .f (.mv (.t 1))⟩,
   ⟨(some 18), (some (16, false)), .f (.bin .gtr (.t 17) (.c (.int .i64 65535)))⟩,
   ⟨(some 19), none, .f (.pick (.t 16) (.c (.bool true)) (.t 18))⟩,
   ⟨(some 20), none, .f (.mv (.t 19))⟩,
   ⟨(some 21), (some (20, false)), .f (.mv (.t 2))⟩,
   ⟨(some 22), (some (20, false)), .f (.bin .lss (.t 21) (.c (.int .i64 0)))⟩,
   ⟨(some 23), none, .f (.pick (.t 20) (.c (.bool true)) (.t 22))⟩,
   ⟨(some 24), none, .f (.mv (.t 23))⟩,
   ⟨(some 25), (some (24, false)), .f (.mv (.t 2))⟩,
   ⟨(some 26), (some (24, false)), .f (.bin .gtr (.t 25) (.c (.int .i64 1000000000)))⟩,
   ⟨(some 27), none, .f (.pick (.t 24) (.c (.bool true)) (.t 26))⟩])
 (.cond (.t 27)
  (.seq (.reg [
    ⟨(some 28), none, .f (.build [(.int .i64 0), (.int .i64 0), .nilslice] [])⟩,
    ⟨none, none, .x (.st 3 (.t 6) (.t 28))⟩,
    ⟨(some 7), none, .f (.mv (.c (.int .i64 1)))⟩])
  .ret)
  .skip))
 (.seq (.reg [
   ⟨(some 29), none, .f (.ldA 3 (.t 3))⟩,
   ⟨(some 30), none, .x (.call 73 [(.t 29)])⟩,
   ⟨(some 31), none, .f (.build [(.int .i64 0), (.int .i64 0), .nilslice] [(0, 3, (.t 30))])⟩,
   ⟨(some 8), none, .x (.zero 116 3 [(.int .i64 0), (.int .i64 0), .nilslice])⟩,
   ⟨none, none, .x (.st 3 (.t 8) (.t 31))⟩])
 (.seq (.seq (.reg [
   ⟨(some 32), none, .f (.mv (.t 1))⟩,
   ⟨(some 33), none, .f (.mv (.t 2))⟩,
   ⟨(some 34), none, .x (.call 78 [(.t 8), (.t 32), (.t 33)])⟩,
   ⟨(some 35), none, .f (.un .not (.t 34))⟩])
 (.cond (.t 35)
  (.seq (.reg [
    ⟨(some 36), none, .f (.build [(.int .i64 0), (.int .i64 0), .nilslice] [])⟩,
    ⟨none, none, .x (.st 3 (.t 6) (.t 36))⟩,
    ⟨(some 7), none, .f (.mv (.c (.int .i64 18)))⟩])
  .ret)
  .skip))
 (.seq (.reg [
   ⟨(some 37), none, .f (.fadr 0 (.t 8))⟩,
   ⟨(some 38), none, .f (.ldA 3 (.t 37))⟩,
   ⟨none, none, .x (.st 3 (.t 6) (.t 38))⟩,
   ⟨(some 7), none, .f (.mv (.c (.int .i64 0)))⟩])
 .ret)))))
theorem ok34 : fnComp Try.prog 34 = some (39, c34, [(.ldA 3 (.t 6)), (.mv (.t 7))]) := by kernel_rfl

/-- (*loop.example/g00003/impl.board).send -/
def c78 : CC :=
 (.seq (.reg [
   ⟨(some 6), none, .f (.mv (.c (.bool false)))⟩])
 (.seq (.seq (.reg [
   ⟨(some 7), none, .f (.mv (.t 0))⟩,
   ⟨(some 8), none, .f (.nck (.t 7))⟩,
   ⟨(some 9), none, .f (.fadr 0 (.t 8))⟩,
   ⟨(some 10), none, .f (.fadr 2 (.t 9))⟩,
   ⟨(some 11), none, .f (.ld (.t 10))⟩,
   ⟨(some 12), none, .f (.len (.t 11))⟩,
   ⟨(some 13), none, .f (.bin .geq (.t 12) (.c (.int .i64 4096)))⟩,
   ⟨(some 14), none, .f (.mv (.t 13))⟩,
   ⟨(some 15), (some (14, false)), .f (.mv (.t 0))⟩,
   ⟨(some 16), (some (14, false)), .f (.nck (.t 15))⟩,
   ⟨(some 17), (some (14, false)), .f (.fadr 0 (.t 16))⟩,
   ⟨(some 18), (some (14, false)), .f (.fadr 1 (.t 17))⟩,
   ⟨(some 19), (some (14, false)), .f (.ld (.t 18))⟩,
   ⟨(some 20), (some (14, false)), .f (.mv (.t 1))⟩,
   ⟨(some 21), (some (14, false)), .f (.bin .add (.t 19) (.t 20))⟩,
   ⟨(some 22), (some (14, false)), .f (.bin .gtr (.t 21) (.c (.int .i64 1099511627776)))⟩,
   ⟨(some 23), none, .f (.pick (.t 14) (.c (.bool true)) (.t 22))⟩])
 (.cond (.t 23)
  (.seq (.reg [
    ⟨(some 6), none, .f (.mv (.c (.bool false)))⟩])
  .ret)
  .skip))
 (.seq (.dreg [
   ⟨(some 24), none, .f (.mv (.t 0))⟩,
   ⟨(some 25), none, .f (.mv (.t 0))⟩,
   ⟨(some 26), none, .f (.nck (.t 25))⟩,
   ⟨(some 27), none, .f (.fadr 0 (.t 26))⟩,
   ⟨(some 28), none, .f (.fadr 2 (.t 27))⟩,
   ⟨(some 29), none, .f (.ld (.t 28))⟩,
   ⟨(some 30), none, .f (.mv (.t 0))⟩,
   ⟨(some 31), none, .f (.nck (.t 30))⟩,
   ⟨(some 32), none, .f (.fadr 0 (.t 31))⟩,
   ⟨(some 33), none, .f (.fadr 1 (.t 32))⟩,
   ⟨(some 34), none, .f (.ld (.t 33))⟩,
   ⟨(some 35), none, .f (.mv (.t 0))⟩,
   ⟨(some 36), none, .f (.nck (.t 35))⟩,
   ⟨(some 37), none, .f (.fadr 0 (.t 36))⟩,
   ⟨(some 38), none, .f (.fadr 1 (.t 37))⟩,
   ⟨(some 39), none, .f (.ld (.t 38))⟩,
   ⟨(some 40), none, .f (.mv (.t 1))⟩,
   ⟨(some 41), none, .f (.bin .add (.t 39) (.t 40))⟩,
   ⟨(some 42), none, .f (.mv (.t 2))⟩,
   ⟨(some 43), none, .f (.build [(.int .i64 0), (.int .i64 0), (.int .i64 0), (.int .i64 0), (.bool false), (.bool false)] [(0, 1, (.t 34)), (1, 1, (.t 41)), (2, 1, (.t 42)), (3, 1, (.c (.int .i64 1)))])⟩,
   ⟨(some 44), none, .x (.bslice 113 6 [(.int .i64 0), (.int .i64 0), (.int .i64 0), (.int .i64 0), (.bool false), (.bool false)] 1 [(0, (.t 43))])⟩,
   ⟨(some 45), none, .x (.app 113 6 40 (.t 29) (.t 44))⟩,
   ⟨(some 46), none, .f (.nck (.t 24))⟩,
   ⟨(some 47), none, .f (.fadr 0 (.t 46))⟩,
   ⟨(some 48), none, .f (.fadr 2 (.t 47))⟩,
   ⟨none, none, .x (.st 1 (.t 48) (.t 45))⟩]
   [false, false, false, false, false, false, false, false, false, false, false, false, false, false, false, false, false, false, false, false, true, true, false, false, false, true] [[], [], [1], [2, 1], [3, 2, 1], [4, 3, 2, 1], [], [6], [7, 6], [8, 7, 6], [9, 8, 7, 6], [], [11], [12, 11], [13, 12, 11], [14, 13, 12, 11], [], [15, 14, 13, 12, 11, 16], [], [10, 9, 8, 7, 6, 17, 15, 14, 13, 12, 11, 16, 18], [19, 10, 9, 8, 7, 6, 17, 15, 14, 13, 12, 11, 16, 18], [5, 4, 3, 2, 1, 20, 19, 10, 9, 8, 7, 6, 17, 15, 14, 13, 12, 11, 16, 18], [0, 1, 2, 3, 4, 5, 6, 7, 8, 9, 10, 11, 12, 13, 14, 15, 16, 17, 18, 19, 20, 21], [22, 0, 1, 2, 3, 4, 5, 6, 7, 8, 9, 10, 11, 12, 13, 14, 15, 16, 17, 18, 19, 20, 21], [23, 22, 0, 1, 2, 3, 4, 5, 6, 7, 8, 9, 10, 11, 12, 13, 14, 15, 16, 17, 18, 19, 20, 21], [24, 23, 22, 0, 1, 2, 3, 4, 5, 6, 7, 8, 9, 10, 11, 12, 13, 14, 15, 16, 17, 18, 19, 20, 21]] [0, 1, 2, 3, 4, 5, 6, 7, 8, 9, 10, 11, 12, 13, 14, 15, 16, 17, 18, 19, 20, 21, 22, 23, 24, 25])
 (.seq (.reg [
   ⟨(some 49), none, .f (.mv (.t 0))⟩,
   ⟨(some 50), none, .f (.nck (.t 49))⟩,
   ⟨(some 51), none, .f (.fadr 0 (.t 50))⟩,
   ⟨(some 52), none, .f (.fadr 1 (.t 51))⟩,
   ⟨(some 53), none, .f (.ld (.t 52))⟩,
   ⟨(some 54), none, .f (.mv (.t 1))⟩,
   ⟨(some 55), none, .f (.bin .add (.t 53) (.t 54))⟩,
   ⟨(some 56), none, .f (.nck (.t 49))⟩,
   ⟨(some 57), none, .f (.fadr 0 (.t 56))⟩,
   ⟨(some 58), none, .f (.fadr 1 (.t 57))⟩,
   ⟨none, none, .x (.st 1 (.t 58) (.t 55))⟩])
 (.seq (.reg [
   ⟨(some 6), none, .f (.mv (.c (.bool true)))⟩])
 .ret)))))
theorem ok78 : fnComp Try.prog 78 = some (59, c78, [(.mv (.t 6))]) := by kernel_rfl

/-- loop.example/g00003/laws.FnExactBoardSplit -/
def c9 : CC :=
 (.seq (.reg [
   ⟨(some 2), none, .x (.box 35 3 (.t 0))⟩,
   ⟨(some 4), none, .f (.mv (.c (.bool false)))⟩])
 (.seq (.reg [
   ⟨(some 5), none, .f (.mv (.c (.int .i64 1048576)))⟩])
 (.seq (.reg [
   ⟨(some 16), none, .f (.ldA 3 (.t 2))⟩,
   ⟨(some 17), none, .f (.mv (.t 5))⟩,
   ⟨(some 18), none, .x (.call 24 [(.t 16), (.t 17)])⟩,
   ⟨(some 5), none, .f (.mv (.t 18))⟩])
 (.seq (.seq (.reg [
   ⟨(some 19), none, .f (.mv (.t 5))⟩,
   ⟨(some 20), none, .f (.bin .lss (.t 19) (.c (.int .i64 0)))⟩])
 (.cond (.t 20)
  (.seq (.reg [
    ⟨(some 4), none, .f (.mv (.c (.bool true)))⟩])
  .ret)
  .skip))
 (.seq (.reg [
   ⟨(some 22), none, .f (.ldA 3 (.t 2))⟩,
   ⟨(some 23), none, .x (.call 26 [(.t 22)])⟩,
   ⟨(some 24), none, .f (.mv (.t 1))⟩,
   ⟨(some 25), none, .x (.call 35 [(.t 23), (.t 24)])⟩,
   ⟨(some 21), none, .f (.mv (.t 25))⟩,
   ⟨(some 26), none, .f (.ext 0 (.t 21))⟩,
   ⟨(some 27), none, .f (.ext 1 (.t 21))⟩,
   ⟨(some 6), none, .x (.zero 40 3 [(.int .i64 0), (.int .i64 0), .nilslice])⟩,
   ⟨none, none, .x (.st 3 (.t 6) (.t 26))⟩,
   ⟨(some 7), none, .f (.mv (.t 27))⟩])
 (.seq (.reg [
   ⟨(some 28), none, .f (.ldA 3 (.t 2))⟩,
   ⟨(some 29), none, .x (.call 26 [(.t 28)])⟩,
   ⟨(some 8), none, .x (.zero 40 3 [(.int .i64 0), (.int .i64 0), .nilslice])⟩,
   ⟨none, none, .x (.st 3 (.t 8) (.t 29))⟩])
 (.seq (.reg [
   ⟨(some 31), none, .f (.ldA 3 (.t 8))⟩,
   ⟨(some 32), none, .f (.mv (.t 1))⟩,
   ⟨(some 33), none, .x (.call 36 [(.t 31), (.t 32)])⟩,
   ⟨(some 30), none, .f (.mv (.t 33))⟩,
   ⟨(some 34), none, .f (.ext 0 (.t 30))⟩,
   ⟨(some 35), none, .f (.ext 1 (.t 30))⟩,
   ⟨(some 9), none, .x (.zero 40 3 [(.int .i64 0), (.int .i64 0), .nilslice])⟩,
   ⟨none, none, .x (.st 3 (.t 9) (.t 34))⟩,
   ⟨(some 10), none, .f (.mv (.t 35))⟩])
 (.seq (.seq (.reg [
   ⟨(some 36), none, .f (.ldA 3 (.t 9))⟩,
   ⟨(some 37), none, .f (.ldA 3 (.t 6))⟩,
   ⟨(some 38), none, .x (.call 28 [(.t 36), (.t 37)])⟩,
   ⟨(some 39), none, .f (.un .not (.t 38))⟩,
   ⟨(some 40), none, .f (.mv (.t 39))⟩,
   ⟨(some 41), (some (40, false)), .f (.mv (.t 10))⟩,
   ⟨(some 42), (some (40, false)), .f (.mv (.t 7))⟩,
   ⟨(some 43), (some (40, false)), .f (.bin .neq (.t 41) (.t 42))⟩,
   ⟨(some 44), none, .f (.pick (.t 40) (.c (.bool true)) (.t 43))⟩])
 (.cond (.t 44)
  (.seq (.reg [
    ⟨(some 4), none, .f (.mv (.c (.bool false)))⟩])
  .ret)
  .skip))
 (.seq (.seq (.dreg [
   ⟨(some 45), none, .f (.ldA 3 (.t 8))⟩,
   ⟨(some 46), none, .f (.ldA 3 (.t 2))⟩,
   ⟨(some 47), none, .x (.call 26 [(.t 46)])⟩,
   ⟨(some 48), none, .x (.call 28 [(.t 45), (.t 47)])⟩,
   ⟨(some 49), none, .f (.un .not (.t 48))⟩]
   [false, false, true, true, false] [[], [], [1], [0, 2, 1], [3, 0, 2, 1]] [0, 1, 2, 3, 4])
 (.cond (.t 49)
  (.seq (.reg [
    ⟨(some 4), none, .f (.mv (.c (.bool false)))⟩])
  .ret)
  .skip))
 (.seq (.reg [
   ⟨(some 11), none, .f (.mv (.c (.int .i64 1)))⟩])
 (.seq (.reg [
   ⟨(some 50), none, .f (.ldA 3 (.t 8))⟩,
   ⟨(some 51), none, .f (.mv (.t 11))⟩,
   ⟨(some 52), none, .x (.call 31 [(.t 50), (.t 51)])⟩,
   ⟨(some 11), none, .f (.mv (.t 52))⟩])
 (.seq (.seq (.reg [
   ⟨(some 53), none, .f (.mv (.t 11))⟩,
   ⟨(some 54), none, .f (.bin .lss (.t 53) (.c (.int .i64 0)))⟩,
   ⟨(some 55), none, .f (.mv (.t 54))⟩,
   ⟨(some 56), (some (55, false)), .f (.ldA 3 (.t 9))⟩,
   ⟨(some 57), (some (55, false)), .f (.ldA 3 (.t 6))⟩,
   ⟨(some 58), (some (55, false)), .x (.call 28 [(.t 56), (.t 57)])⟩,
   ⟨(some 59), (some (55, false)), .f (.un .not (.t 58))⟩,
   ⟨(some 60), none, .f (.pick (.t 55) (.c (.bool true)) (.t 59))⟩,
   ⟨(some 61), none, .f (.mv (.t 60))⟩,
   ⟨(some 62), (some (61, false)), .f (.mv (.t 10))⟩,
   ⟨(some 63), (some (61, false)), .f (.mv (.t 7))⟩,
   ⟨(some 64), (some (61, false)), .f (.bin .neq (.t 62) (.t 63))⟩,
   ⟨(some 65), none, .f (.pick (.t 61) (.c (.bool true)) (.t 64))⟩])
 (.cond (.t 65)
  (.seq (.reg [
    ⟨(some 4), none, .f (.mv (.c (.bool false)))⟩])
  .ret)
  .skip))
 (.seq (.reg [
   ⟨(some 12), none, .f (.mv (.c (.int .i64 1)))⟩])
 (.seq (.reg [
   ⟨(some 66), none, .f (.ldA 3 (.t 9))⟩,
   ⟨(some 67), none, .f (.mv (.t 12))⟩,
   ⟨(some 68), none, .x (.call 31 [(.t 66), (.t 67)])⟩,
   ⟨(some 12), none, .f (.mv (.t 68))⟩])
 (.seq (.reg [
   ⟨(some 13), none, .f (.mv (.c (.int .i64 1)))⟩])
 (.seq (.reg [
   ⟨(some 69), none, .f (.ldA 3 (.t 9))⟩,
   ⟨(some 70), none, .f (.mv (.t 13))⟩,
   ⟨(some 71), none, .x (.call 32 [(.t 69), (.t 70)])⟩,
   ⟨(some 13), none, .f (.mv (.t 71))⟩])
 (.seq (.seq (.reg [
   ⟨(some 72), none, .f (.mv (.t 13))⟩,
   ⟨(some 73), none, .f (.bin .lss (.t 72) (.c (.int .i64 0)))⟩])
 (.cond (.t 73)
  (.seq (.reg [
    ⟨(some 4), none, .f (.mv (.c (.bool false)))⟩])
  .ret)
  .skip))
 (.seq (.seq (.reg [
   ⟨(some 74), none, .f (.mv (.t 13))⟩,
   ⟨(some 75), none, .f (.mv (.t 12))⟩,
   ⟨(some 76), none, .f (.bin .neq (.t 74) (.t 75))⟩])
 (.cond (.t 76)
  (.seq (.reg [
    ⟨(some 4), none, .f (.mv (.c (.bool false)))⟩])
  .ret)
  .skip))
 (.seq (.reg [
   ⟨(some 78), none, .f (.ldA 3 (.t 2))⟩,
   ⟨(some 79), none, .x (.call 26 [(.t 78)])⟩,
   ⟨(some 80), none, .f (.mv (.t 1))⟩,
   ⟨(some 81), none, .x (.call 36 [(.t 79), (.t 80)])⟩,
   ⟨(some 77), none, .f (.mv (.t 81))⟩,
   ⟨(some 82), none, .f (.ext 0 (.t 77))⟩,
   ⟨(some 83), none, .f (.ext 1 (.t 77))⟩,
   ⟨(some 14), none, .x (.zero 40 3 [(.int .i64 0), (.int .i64 0), .nilslice])⟩,
   ⟨none, none, .x (.st 3 (.t 14) (.t 82))⟩,
   ⟨(some 15), none, .f (.mv (.t 83))⟩])
 (.seq (.seq (.reg [
   ⟨(some 84), none, .f (.ldA 3 (.t 14))⟩,
   ⟨(some 85), none, .f (.ldA 3 (.t 6))⟩,
   ⟨(some 86), none, .x (.call 28 [(.t 84), (.t 85)])⟩,
   ⟨(some 87), none, .f (.un .not (.t 86))⟩,
   ⟨(some 88), none, .f (.mv (.t 87))⟩,
   ⟨(some 89), (some (88, false)), .f (.mv (.t 15))⟩,
   ⟨(some 90), (some (88, false)), .f (.mv (.t 7))⟩,
   ⟨(some 91), (some (88, false)), .f (.bin .neq (.t 89) (.t 90))⟩,
   ⟨(some 92), none, .f (.pick (.t 88) (.c (.bool true)) (.t 91))⟩])
 (.cond (.t 92)
  (.seq (.reg [
    ⟨(some 4), none, .f (.mv (.c (.bool false)))⟩])
  .ret)
  .skip))
 (.seq (.reg [
   ⟨(some 13), none, .f (.mv (.c (.int .i64 1)))⟩])
 (.seq (.reg [
   ⟨(some 93), none, .f (.ldA 3 (.t 9))⟩,
   ⟨(some 94), none, .f (.mv (.t 13))⟩,
   ⟨(some 95), none, .x (.call 32 [(.t 93), (.t 94)])⟩,
   ⟨(some 13), none, .f (.mv (.t 95))⟩])
 (.seq (.seq (.reg [
   ⟨(some 96), none, .f (.mv (.t 13))⟩,
   ⟨(some 97), none, .f (.bin .lss (.t 96) (.c (.int .i64 0)))⟩])
 (.cond (.t 97)
  (.seq (.reg [
    ⟨(some 4), none, .f (.mv (.c (.bool false)))⟩])
  .ret)
  .skip))
 (.seq (.seq (.reg [
   ⟨(some 98), none, .f (.mv (.t 13))⟩,
   ⟨(some 99), none, .f (.mv (.t 12))⟩,
   ⟨(some 100), none, .f (.bin .neq (.t 98) (.t 99))⟩])
 (.cond (.t 100)
  (.seq (.reg [
    ⟨(some 4), none, .f (.mv (.c (.bool false)))⟩])
  .ret)
  .skip))
 (.seq (.reg [
   ⟨(some 4), none, .f (.mv (.c (.bool true)))⟩])
 .ret)))))))))))))))))))))))))
theorem ok9 : fnComp Try.prog 9 = some (101, c9, [(.mv (.t 4))]) := by kernel_rfl

/-- loop.example/g00003/spec.BoardSplit -/
def c35 : CC :=
 (.seq (.reg [
   ⟨(some 2), none, .x (.box 40 3 (.t 0))⟩,
   ⟨(some 4), none, .x (.zero 40 3 [(.int .i64 0), (.int .i64 0), .nilslice])⟩,
   ⟨(some 5), none, .f (.mv (.c (.int .i64 0)))⟩])
 (.seq (.seq (.reg [
   ⟨(some 13), none, .f (.ldA 3 (.t 2))⟩,
   ⟨(some 14), none, .x (.call 67 [(.t 13)])⟩,
   ⟨(some 15), none, .f (.un .not (.t 14))⟩,
   ⟨(some 16), none, .f (.mv (.t 15))⟩,
   ⟨(some 17), (some (16, false)), .f (.mv (.t 1))⟩,
   ⟨(some 18), (some (16, false)), .x (.call 77 [(.t 17), (.c (.int .i64 1)), (.c (.int .i64 65535))])⟩,
   ⟨(some 19), (some (16, false)), .f (.un .not (.t 18))⟩,
   ⟨(some 20), none, .f (.pick (.t 16) (.c (.bool true)) (.t 19))⟩])
 (.cond (.t 20)
  (.seq (.reg [
    ⟨(some 21), none, .f (.build [(.int .i64 0), (.int .i64 0), .nilslice] [])⟩,
    ⟨none, none, .x (.st 3 (.t 4) (.t 21))⟩,
    ⟨(some 5), none, .f (.mv (.c (.int .i64 1)))⟩])
  .ret)
  .skip))
 (.seq (.reg [
   ⟨(some 22), none, .f (.fadr 0 (.t 2))⟩,
   ⟨(some 23), none, .f (.ld (.t 22))⟩,
   ⟨(some 24), none, .f (.fadr 1 (.t 2))⟩,
   ⟨(some 25), none, .f (.ld (.t 24))⟩,
   ⟨(some 26), none, .f (.build [(.int .i64 0), (.int .i64 0), .nilslice] [(0, 1, (.t 23)), (1, 1, (.t 25))])⟩,
   ⟨(some 6), none, .x (.zero 40 3 [(.int .i64 0), (.int .i64 0), .nilslice])⟩,
   ⟨none, none, .x (.st 3 (.t 6) (.t 26))⟩])
 (.seq (.reg [
   ⟨(some 7), none, .f (.mv (.c (.int .i64 0)))⟩])
 (.seq (.seq (.reg [
   ⟨(some 8), none, .f (.mv (.c (.int .i64 0)))⟩])
 (.block 0 (.loop (.seq (.seq (.reg [
     ⟨(some 27), none, .f (.mv (.t 8))⟩,
     ⟨(some 28), none, .f (.fadr 2 (.t 2))⟩,
     ⟨(some 29), none, .f (.ld (.t 28))⟩,
     ⟨(some 30), none, .f (.len (.t 29))⟩,
     ⟨(some 31), none, .f (.bin .lss (.t 27) (.t 30))⟩])
   (.cond (.t 31)
    .skip
    (.exit 0)))
   (.seq (.block 1 (.dreg [
      ⟨(some 34), none, .f (.mv (.t 7))⟩,
      ⟨(some 35), none, .f (.fadr 2 (.t 2))⟩,
      ⟨(some 36), none, .f (.ld (.t 35))⟩,
      ⟨(some 37), none, .f (.mv (.t 8))⟩,
      ⟨(some 38), none, .f (.iadr 6 (.t 36) (.t 37))⟩,
      ⟨(some 39), none, .f (.fadr 1 (.t 38))⟩,
      ⟨(some 40), none, .f (.ld (.t 39))⟩,
      ⟨(some 41), none, .f (.fadr 2 (.t 2))⟩,
      ⟨(some 42), none, .f (.ld (.t 41))⟩,
      ⟨(some 43), none, .f (.mv (.t 8))⟩,
      ⟨(some 44), none, .f (.iadr 6 (.t 42) (.t 43))⟩,
      ⟨(some 45), none, .f (.fadr 0 (.t 44))⟩,
      ⟨(some 46), none, .f (.ld (.t 45))⟩,
      ⟨(some 47), none, .f (.bin .sub (.t 40) (.t 46))⟩,
      ⟨(some 48), none, .f (.mv (.t 1))⟩,
      ⟨(some 49), none, .f (.bin .add (.t 47) (.t 48))⟩,
      ⟨(some 50), none, .f (.bin .sub (.t 49) (.c (.int .i64 1)))⟩,
      ⟨(some 51), none, .f (.mv (.t 1))⟩,
      ⟨(some 52), none, .f (.bin .quo (.t 50) (.t 51))⟩,
      ⟨(some 53), none, .f (.bin .add (.t 34) (.t 52))⟩,
      ⟨(some 7), none, .f (.mv (.t 53))⟩]
      [false, false, false, false, false, false, false, false, false, false, false, false, false, false, false, false, false, false, false, false, true] [[], [], [1], [], [2, 1, 3], [4, 2, 1, 3], [5, 4, 2, 1, 3], [], [7], [], [8, 7, 9], [10, 8, 7, 9], [11, 10, 8, 7, 9], [6, 5, 4, 2, 1, 3, 12, 11, 10, 8, 7, 9], [], [13, 6, 5, 4, 2, 1, 3, 12, 11, 10, 8, 7, 9, 14], [15, 13, 6, 5, 4, 2, 1, 3, 12, 11, 10, 8, 7, 9, 14], [], [16, 15, 13, 6, 5, 4, 2, 1, 3, 12, 11, 10, 8, 7, 9, 14, 17], [0, 18, 16, 15, 13, 6, 5, 4, 2, 1, 3, 12, 11, 10, 8, 7, 9, 14, 17], [19, 0, 18, 16, 15, 13, 6, 5, 4, 2, 1, 3, 12, 11, 10, 8, 7, 9, 14, 17]] [0, 1, 2, 3, 4, 5, 6, 7, 8, 9, 10, 11, 12, 13, 14, 15, 16, 17, 18, 19, 20]))
   (.reg [
     ⟨(some 32), none, .f (.mv (.t 8))⟩,
     ⟨(some 33), none, .f (.bin .add (.t 32) (.c (.int .i64 1)))⟩,
     ⟨(some 8), none, .f (.mv (.t 33))⟩]))))))
 (.seq (.seq (.reg [
   ⟨(some 54), none, .f (.mv (.t 7))⟩,
   ⟨(some 55), none, .f (.bin .gtr (.t 54) (.c (.int .i64 4096)))⟩])
 (.cond (.t 55)
  (.seq (.reg [
    ⟨(some 56), none, .f (.build [(.int .i64 0), (.int .i64 0), .nilslice] [])⟩,
    ⟨none, none, .x (.st 3 (.t 4) (.t 56))⟩,
    ⟨(some 5), none, .f (.mv (.c (.int .i64 18)))⟩])
  .ret)
  .skip))
 (.seq (.seq (.reg [
   ⟨(some 9), none, .f (.mv (.c (.int .i64 0)))⟩])
 (.block 2 (.loop (.seq (.seq (.reg [
     ⟨(some 57), none, .f (.mv (.t 9))⟩,
     ⟨(some 58), none, .f (.fadr 2 (.t 2))⟩,
     ⟨(some 59), none, .f (.ld (.t 58))⟩,
     ⟨(some 60), none, .f (.len (.t 59))⟩,
     ⟨(some 61), none, .f (.bin .lss (.t 57) (.t 60))⟩])
   (.cond (.t 61)
    .skip
    (.exit 2)))
   (.seq (.block 3 (.seq (.reg [
      ⟨(some 64), none, .f (.fadr 2 (.t 2))⟩,
      ⟨(some 65), none, .f (.ld (.t 64))⟩,
      ⟨(some 66), none, .f (.mv (.t 9))⟩,
      ⟨(some 67), none, .f (.iadr 6 (.t 65) (.t 66))⟩,
      ⟨(some 68), none, .f (.ldA 6 (.t 67))⟩,
      ⟨(some 10), none, .x (.zero 113 6 [(.int .i64 0), (.int .i64 0), (.int .i64 0), (.int .i64 0), (.bool false), (.bool false)])⟩,
      ⟨none, none, .x (.st 6 (.t 10) (.t 68))⟩])
    (.seq (.reg [
      ⟨(some 69), none, .f (.fadr 0 (.t 10))⟩,
      ⟨(some 70), none, .f (.ld (.t 69))⟩,
      ⟨(some 11), none, .f (.mv (.t 70))⟩])
    (.block 4 (.loop (.seq (.seq (.reg [
        ⟨(some 71), none, .f (.mv (.t 11))⟩,
        ⟨(some 72), none, .f (.fadr 1 (.t 10))⟩,
        ⟨(some 73), none, .f (.ld (.t 72))⟩,
        ⟨(some 74), none, .f (.bin .lss (.t 71) (.t 73))⟩])
      (.cond (.t 74)
       .skip
       (.exit 4)))
      (.seq (.block 5 (.seq (.reg [
         ⟨(some 78), none, .f (.ldA 6 (.t 10))⟩,
         ⟨(some 12), none, .x (.zero 113 6 [(.int .i64 0), (.int .i64 0), (.int .i64 0), (.int .i64 0), (.bool false), (.bool false)])⟩,
         ⟨none, none, .x (.st 6 (.t 12) (.t 78))⟩])
       (.seq (.reg [
         ⟨(some 79), none, .f (.mv (.t 11))⟩,
         ⟨(some 80), none, .f (.fadr 0 (.t 12))⟩,
         ⟨none, none, .x (.st 1 (.t 80) (.t 79))⟩])
       (.seq (.reg [
         ⟨(some 81), none, .f (.mv (.t 11))⟩,
         ⟨(some 82), none, .f (.mv (.t 1))⟩,
         ⟨(some 83), none, .f (.bin .add (.t 81) (.t 82))⟩,
         ⟨(some 84), none, .f (.fadr 1 (.t 10))⟩,
         ⟨(some 85), none, .f (.ld (.t 84))⟩,
         ⟨(some 86), none, .x (.call 79 [(.t 83), (.t 85)])⟩,
         ⟨(some 87), none, .f (.fadr 1 (.t 12))⟩,
         ⟨none, none, .x (.st 1 (.t 87) (.t 86))⟩])
       (.reg [
         ⟨(some 88), none, .f (.fadr 2 (.t 6))⟩,
         ⟨(some 89), none, .f (.ld (.t 88))⟩,
         ⟨(some 90), none, .f (.ldA 6 (.t 12))⟩,
         ⟨(some 91), none, .x (.bslice 113 6 [(.int .i64 0), (.int .i64 0), (.int .i64 0), (.int .i64 0), (.bool false), (.bool false)] 1 [(0, (.t 90))])⟩,
         ⟨(some 92), none, .x (.app 113 6 40 (.t 89) (.t 91))⟩,
         ⟨(some 93), none, .f (.fadr 2 (.t 6))⟩,
         ⟨none, none, .x (.st 1 (.t 93) (.t 92))⟩])))))
      (.reg [
        ⟨(some 75), none, .f (.mv (.t 11))⟩,
        ⟨(some 76), none, .f (.mv (.t 1))⟩,
        ⟨(some 77), none, .f (.bin .add (.t 75) (.t 76))⟩,
        ⟨(some 11), none, .f (.mv (.t 77))⟩]))))))))
   (.reg [
     ⟨(some 62), none, .f (.mv (.t 9))⟩,
     ⟨(some 63), none, .f (.bin .add (.t 62) (.c (.int .i64 1)))⟩,
     ⟨(some 9), none, .f (.mv (.t 63))⟩]))))))
 (.seq (.reg [
   ⟨(some 94), none, .f (.ldA 3 (.t 6))⟩,
   ⟨none, none, .x (.st 3 (.t 4) (.t 94))⟩,
   ⟨(some 5), none, .f (.mv (.c (.int .i64 0)))⟩])
 .ret))))))))
theorem ok35 : fnComp Try.prog 35 = some (95, c35, [(.ldA 3 (.t 4)), (.mv (.t 5))]) := by kernel_rfl

/-- loop.example/g00003/impl.BoardSplit -/
def c36 : CC :=
 (.seq (.reg [
   ⟨(some 2), none, .x (.box 40 3 (.t 0))⟩,
   ⟨(some 4), none, .x (.zero 40 3 [(.int .i64 0), (.int .i64 0), .nilslice])⟩,
   ⟨(some 5), none, .f (.mv (.c (.int .i64 0)))⟩])
 (.seq (.seq (.reg [
   ⟨(some 7), none, .f (.ldA 3 (.t 2))⟩,
   ⟨(some 8), none, .x (.call 69 [(.t 7)])⟩,
   ⟨(some 9), none, .f (.un .not (.t 8))⟩,
   ⟨(some 10), none, .f (.mv (.t 9))⟩,
   ⟨(some 11), (some (10, false)), .f (.mv (.t 1))⟩,
   ⟨(some 12), (some (10, false)), .f (.bin .lss (.t 11) (.c (.int .i64 1)))⟩,
   ⟨(some 13), none, .f (.pick (.t 10) (.c (.bool true)) (.t 12))⟩,
   ⟨(some 14), none, .f (.mv (.t 13))⟩,
   ⟨(some 15), (some (14, false)), .f (.mv (.t 1))⟩,
   ⟨(some 16), (some (14, false)), .f (.bin .gtr (.t 15) (.c (.int .i64 65535)))⟩,
   ⟨(some 17), none, .f (.pick (.t 14) (.c (.bool true)) (.t 16))⟩])
 (.cond (.t 17)
  (.seq (.reg [
    ⟨(some 18), none, .f (.build [(.int .i64 0), (.int .i64 0), .nilslice] [])⟩,
    ⟨none, none, .x (.st 3 (.t 4) (.t 18))⟩,
    ⟨(some 5), none, .f (.mv (.c (.int .i64 1)))⟩])
  .ret)
  .skip))
 (.seq (.reg [
   ⟨(some 19), none, .f (.ldA 3 (.t 2))⟩,
   ⟨(some 20), none, .x (.call 73 [(.t 19)])⟩,
   ⟨(some 21), none, .f (.build [(.int .i64 0), (.int .i64 0), .nilslice] [(0, 3, (.t 20))])⟩,
   ⟨(some 6), none, .x (.zero 116 3 [(.int .i64 0), (.int .i64 0), .nilslice])⟩,
   ⟨none, none, .x (.st 3 (.t 6) (.t 21))⟩])
 (.seq (.seq (.reg [
   ⟨(some 22), none, .f (.mv (.t 1))⟩,
   ⟨(some 23), none, .x (.call 80 [(.t 6), (.t 22)])⟩,
   ⟨(some 24), none, .f (.un .not (.t 23))⟩])
 (.cond (.t 24)
  (.seq (.reg [
    ⟨(some 25), none, .f (.build [(.int .i64 0), (.int .i64 0), .nilslice] [])⟩,
    ⟨none, none, .x (.st 3 (.t 4) (.t 25))⟩,
    ⟨(some 5), none, .f (.mv (.c (.int .i64 18)))⟩])
  .ret)
  .skip))
 (.seq (.reg [
   ⟨(some 26), none, .f (.fadr 0 (.t 6))⟩,
   ⟨(some 27), none, .f (.ldA 3 (.t 26))⟩,
   ⟨none, none, .x (.st 3 (.t 4) (.t 27))⟩,
   ⟨(some 5), none, .f (.mv (.c (.int .i64 0)))⟩])
 .ret)))))
theorem ok36 : fnComp Try.prog 36 = some (28, c36, [(.ldA 3 (.t 4)), (.mv (.t 5))]) := by kernel_rfl

/-- loop.example/g00003/spec.l14Min -/
def c79 : CC :=
 (.seq (.reg [
   ⟨(some 4), none, .f (.mv (.c (.int .i64 0)))⟩])
 (.seq (.seq (.reg [
   ⟨(some 5), none, .f (.mv (.t 0))⟩,
   ⟨(some 6), none, .f (.mv (.t 1))⟩,
   ⟨(some 7), none, .f (.bin .lss (.t 5) (.t 6))⟩])
 (.cond (.t 7)
  (.seq (.reg [
    ⟨(some 8), none, .f (.mv (.t 0))⟩,
    ⟨(some 4), none, .f (.mv (.t 8))⟩])
  .ret)
  .skip))
 (.seq (.reg [
   ⟨(some 9), none, .f (.mv (.t 1))⟩,
   ⟨(some 4), none, .f (.mv (.t 9))⟩])
 .ret)))
theorem ok79 : fnComp Try.prog 79 = some (10, c79, [(.mv (.t 4))]) := by kernel_rfl

/-- (*loop.example/g00003/impl.board).split -/
def c80 : CC :=
 (.seq (.reg [
   ⟨(some 4), none, .f (.mv (.c (.bool false)))⟩])
 (.seq (.reg [
   ⟨(some 5), none, .f (.mv (.c .nilslice))⟩])
 (.seq (.seq (.reg [
   ⟨(some 9), none, .f (.mv (.t 0))⟩,
   ⟨(some 10), none, .f (.nck (.t 9))⟩,
   ⟨(some 11), none, .f (.fadr 0 (.t 10))⟩,
   ⟨(some 12), none, .f (.fadr 2 (.t 11))⟩,
   ⟨(some 13), none, .f (.ld (.t 12))⟩,
   ⟨(some 14), none, .f (.len (.t 13))⟩,
   ⟨(some 15), none, .f (.mv (.c (.int .i64 0)))⟩])
 (.block 0 (.loop (.seq (.reg [
     ⟨(some 16), none, .f (.bin .lss (.t 15) (.t 14))⟩])
   (.seq (.cond (.t 16)
    .skip
    (.exit 0))
   (.seq (.block 1 (.seq (.reg [
      ⟨(some 17), none, .f (.iadr 6 (.t 13) (.t 15))⟩,
      ⟨(some 18), none, .f (.ldA 6 (.t 17))⟩,
      ⟨(some 7), none, .x (.zero 113 6 [(.int .i64 0), (.int .i64 0), (.int .i64 0), (.int .i64 0), (.bool false), (.bool false)])⟩,
      ⟨none, none, .x (.st 6 (.t 7) (.t 18))⟩])
    (.seq (.block 2 (.loop (.seq (.seq (.reg [
        ⟨(some 19), none, .f (.fadr 1 (.t 7))⟩,
        ⟨(some 20), none, .f (.ld (.t 19))⟩,
        ⟨(some 21), none, .f (.fadr 0 (.t 7))⟩,
        ⟨(some 22), none, .f (.ld (.t 21))⟩,
        ⟨(some 23), none, .f (.bin .sub (.t 20) (.t 22))⟩,
        ⟨(some 24), none, .f (.mv (.t 1))⟩,
        ⟨(some 25), none, .f (.bin .gtr (.t 23) (.t 24))⟩])
      (.cond (.t 25)
       .skip
       (.exit 2)))
      (.block 3 (.seq (.reg [
         ⟨(some 26), none, .f (.ldA 6 (.t 7))⟩,
         ⟨(some 8), none, .x (.zero 113 6 [(.int .i64 0), (.int .i64 0), (.int .i64 0), (.int .i64 0), (.bool false), (.bool false)])⟩,
         ⟨none, none, .x (.st 6 (.t 8) (.t 26))⟩])
       (.seq (.reg [
         ⟨(some 27), none, .f (.fadr 0 (.t 7))⟩,
         ⟨(some 28), none, .f (.ld (.t 27))⟩,
         ⟨(some 29), none, .f (.mv (.t 1))⟩,
         ⟨(some 30), none, .f (.bin .add (.t 28) (.t 29))⟩,
         ⟨(some 31), none, .f (.fadr 1 (.t 8))⟩,
         ⟨none, none, .x (.st 1 (.t 31) (.t 30))⟩])
       (.seq (.reg [
         ⟨(some 32), none, .f (.fadr 1 (.t 8))⟩,
         ⟨(some 33), none, .f (.ld (.t 32))⟩,
         ⟨(some 34), none, .f (.fadr 0 (.t 7))⟩,
         ⟨none, none, .x (.st 1 (.t 34) (.t 33))⟩])
       (.seq (.reg [
         ⟨(some 35), none, .f (.mv (.t 5))⟩,
         ⟨(some 36), none, .f (.ldA 6 (.t 8))⟩,
         ⟨(some 37), none, .x (.bslice 113 6 [(.int .i64 0), (.int .i64 0), (.int .i64 0), (.int .i64 0), (.bool false), (.bool false)] 1 [(0, (.t 36))])⟩,
         ⟨(some 38), none, .x (.app 113 6 40 (.t 35) (.t 37))⟩,
         ⟨(some 5), none, .f (.mv (.t 38))⟩])
       (.seq (.reg [
         ⟨(some 39), none, .f (.mv (.t 5))⟩,
         ⟨(some 40), none, .f (.len (.t 39))⟩,
         ⟨(some 41), none, .f (.bin .gtr (.t 40) (.c (.int .i64 4096)))⟩])
       (.cond (.t 41)
        (.seq (.reg [
          ⟨(some 4), none, .f (.mv (.c (.bool false)))⟩])
        .ret)
        .skip))))))))))
    (.reg [
      ⟨(some 42), none, .f (.mv (.t 5))⟩,
      ⟨(some 43), none, .f (.ldA 6 (.t 7))⟩,
      ⟨(some 44), none, .x (.bslice 113 6 [(.int .i64 0), (.int .i64 0), (.int .i64 0), (.int .i64 0), (.bool false), (.bool false)] 1 [(0, (.t 43))])⟩,
      ⟨(some 45), none, .x (.app 113 6 40 (.t 42) (.t 44))⟩,
      ⟨(some 5), none, .f (.mv (.t 45))⟩]))))
   (.reg [
     ⟨(some 46), none, .f (.bin .add (.t 15) (.c (.int .i64 1)))⟩,
     ⟨(some 15), none, .f (.mv (.t 46))⟩])))))))
 (.seq (.seq (.reg [
   ⟨(some 47), none, .f (.mv (.t 5))⟩,
   ⟨(some 48), none, .f (.len (.t 47))⟩,
   ⟨(some 49), none, .f (.bin .gtr (.t 48) (.c (.int .i64 4096)))⟩])
 (.cond (.t 49)
  (.seq (.reg [
    ⟨(some 4), none, .f (.mv (.c (.bool false)))⟩])
  .ret)
  .skip))
 (.seq (.reg [
   ⟨(some 50), none, .f (.mv (.t 0))⟩,
   ⟨(some 51), none, .f (.mv (.t 5))⟩,
   ⟨(some 52), none, .f (.nck (.t 50))⟩,
   ⟨(some 53), none, .f (.fadr 0 (.t 52))⟩,
   ⟨(some 54), none, .f (.fadr 2 (.t 53))⟩,
   ⟨none, none, .x (.st 1 (.t 54) (.t 51))⟩])
 (.seq (.reg [
   ⟨(some 4), none, .f (.mv (.c (.bool true)))⟩])
 .ret))))))
theorem ok80 : fnComp Try.prog 80 = some (55, c80, [(.mv (.t 4))]) := by kernel_rfl

/-- loop.example/g00003/spec.l14Max -/
def c81 : CC :=
 (.seq (.reg [
   ⟨(some 4), none, .f (.mv (.c (.int .i64 0)))⟩])
 (.seq (.seq (.reg [
   ⟨(some 5), none, .f (.mv (.t 0))⟩,
   ⟨(some 6), none, .f (.mv (.t 1))⟩,
   ⟨(some 7), none, .f (.bin .gtr (.t 5) (.t 6))⟩])
 (.cond (.t 7)
  (.seq (.reg [
    ⟨(some 8), none, .f (.mv (.t 0))⟩,
    ⟨(some 4), none, .f (.mv (.t 8))⟩])
  .ret)
  .skip))
 (.seq (.reg [
   ⟨(some 9), none, .f (.mv (.t 1))⟩,
   ⟨(some 4), none, .f (.mv (.t 9))⟩])
 .ret)))
theorem ok81 : fnComp Try.prog 81 = some (10, c81, [(.mv (.t 4))]) := by kernel_rfl

end Go.Proofs.Ytecljenjlncfhaa
