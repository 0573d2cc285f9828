import Derived.Test.YtaoffieemecioaaGreatDoorK2
import Derived.Test.YtaoffieemecioaaGreatDoorProg
import Derived.KernelRfl
import Derived.Test.YtaoffieemecioaaGreatDoorK3
set_option linter.unusedSimpArgs false
set_option linter.unusedVariables false
namespace Go.Proofs.YtaoffieemecioaaGreatDoor
open Go Go.IW
def c46 : CC :=
 (.seq (.reg [
 p0 2 (.mv (.c (.bool false)))])
 (.seq (.seq (.reg [
 p0 5 (.mv (.t 0)),
 p0 6 (.lenS (.t 5)),
 p0 7 (.bin .gtr (.t 6) (.c (.int .i64 63)))])
 (.cond (.t 7)
 (.seq (.reg [
 p0 2 (.mv (.c (.bool false)))])
 .ret)
 .skip))
 (.seq (.reg [
 p0 8 (.mv (.t 0)),
 x0 9 (.call 67 [(.t 8), (.c (.int .u8 46))]),
 p0 3 (.mv (.t 9))])
 (.seq (.seq (.reg [
 p0 4 (.mv (.c (.int .i64 0)))])
 (.block 0 (.loop (.seq (.seq (.reg [
 p0 10 (.mv (.t 4)),
 p0 11 (.mv (.t 3)),
 p0 12 (.len (.t 11)),
 p0 13 (.bin .lss (.t 10) (.t 12))])
 (.cond (.t 13)
 .skip
 (.exit 0)))
 (.seq (.block 1 (.seq (.reg [
 p0 16 (.mv (.t 3)),
 p0 17 (.mv (.t 4)),
 p0 18 (.iadr 1 (.t 16) (.t 17)),
 p0 19 (.ld (.t 18)),
 x0 20 (.call 68 [(.t 19)]),
 p0 21 (.un .not (.t 20))])
 (.cond (.t 21)
 (.seq (.reg [
 p0 2 (.mv (.c (.bool false)))])
 .ret)
 .skip)))
 (.reg [
 p0 14 (.mv (.t 4)),
 p0 15 (.bin .add (.t 14) (.c (.int .i64 1))),
 p0 4 (.mv (.t 15))]))))))
 (.seq (.reg [
 p0 2 (.mv (.c (.bool true)))])
 .ret)))))
theorem ok46 : fnComp Tryz.prog 46 = some (22, c46, [(.mv (.t 2))]) := by kernel_rfl

def c67 : CC :=
 (.seq (.reg [
 p0 4 (.mv (.c .nilslice))])
 (.seq (.reg [
 x0 8 (.bslice 9 1 [(.str [])] 0 []),
 p0 5 (.mv (.t 8))])
 (.seq (.reg [
 p0 6 (.mv (.c (.int .i64 0)))])
 (.seq (.seq (.reg [
 p0 7 (.mv (.c (.int .i64 0)))])
 (.block 0 (.loop (.seq (.seq (.reg [
 p0 9 (.mv (.t 7)),
 p0 10 (.mv (.t 0)),
 p0 11 (.lenS (.t 10)),
 p0 12 (.bin .lss (.t 9) (.t 11))])
 (.cond (.t 12)
 .skip
 (.exit 0)))
 (.seq (.block 1 (.seq (.reg [
 p0 15 (.mv (.t 0)),
 p0 16 (.mv (.t 7)),
 p0 17 (.idxS (.t 15) (.t 16)),
 p0 18 (.mv (.t 1)),
 p0 19 (.bin .eql (.t 17) (.t 18))])
 (.cond (.t 19)
 (.seq (.reg [
 p0 20 (.mv (.t 5)),
 p0 21 (.mv (.t 0)),
 p0 22 (.mv (.t 6)),
 p0 23 (.mv (.t 7)),
 p0 24 (.slcS (.t 21) (some (.t 22)) (some (.t 23))),
 x0 25 (.bslice 9 1 [(.str [])] 1 [(0, (.t 24))]),
 x0 26 (.app 9 1 16 (.t 20) (.t 25)),
 p0 5 (.mv (.t 26))])
 (.reg [
 p0 27 (.mv (.t 7)),
 p0 28 (.bin .add (.t 27) (.c (.int .i64 1))),
 p0 6 (.mv (.t 28))]))
 .skip)))
 (.reg [
 p0 13 (.mv (.t 7)),
 p0 14 (.bin .add (.t 13) (.c (.int .i64 1))),
 p0 7 (.mv (.t 14))]))))))
 (.seq (.reg [
 p0 29 (.mv (.t 5)),
 p0 30 (.mv (.t 0)),
 p0 31 (.mv (.t 6)),
 p0 32 (.slcS (.t 30) (some (.t 31)) none),
 x0 33 (.bslice 9 1 [(.str [])] 1 [(0, (.t 32))]),
 x0 34 (.app 9 1 16 (.t 29) (.t 33)),
 p0 4 (.mv (.t 34))])
 .ret)))))
theorem ok67 : fnComp Tryz.prog 67 = some (35, c67, [(.mv (.t 4))]) := by kernel_rfl

def c68 : CC :=
 (.seq (.reg [
 p0 2 (.mv (.c (.bool false)))])
 (.seq (.seq (.reg [
 p0 4 (.mv (.t 0)),
 p0 5 (.lenS (.t 4)),
 p0 6 (.bin .lss (.t 5) (.c (.int .i64 1))),
 p0 7 (.mv (.t 6)),
 g0 8 7 false (.mv (.t 0)),
 g0 9 7 false (.lenS (.t 8)),
 g0 10 7 false (.bin .gtr (.t 9) (.c (.int .i64 20))),
 p0 11 (.pick (.t 7) (.c (.bool true)) (.t 10)),
 p0 12 (.mv (.t 11)),
 g0 13 12 false (.mv (.t 0)),
 g0 14 12 false (.idxS (.t 13) (.c (.int .i64 0))),
 g0 15 12 false (.bin .eql (.t 14) (.c (.int .u8 45))),
 p0 16 (.pick (.t 12) (.c (.bool true)) (.t 15)),
 p0 17 (.mv (.t 16)),
 g0 18 17 false (.mv (.t 0)),
 g0 19 17 false (.mv (.t 0)),
 g0 20 17 false (.lenS (.t 19)),
 g0 21 17 false (.bin .sub (.t 20) (.c (.int .i64 1))),
 g0 22 17 false (.idxS (.t 18) (.t 21)),
 g0 23 17 false (.bin .eql (.t 22) (.c (.int .u8 45))),
 p0 24 (.pick (.t 17) (.c (.bool true)) (.t 23))])
 (.cond (.t 24)
 (.seq (.reg [
 p0 2 (.mv (.c (.bool false)))])
 .ret)
 .skip))
 (.seq (.seq (.reg [
 p0 3 (.mv (.c (.int .i64 0)))])
 (.block 0 (.loop (.seq (.seq (.reg [
 p0 25 (.mv (.t 3)),
 p0 26 (.mv (.t 0)),
 p0 27 (.lenS (.t 26)),
 p0 28 (.bin .lss (.t 25) (.t 27))])
 (.cond (.t 28)
 .skip
 (.exit 0)))
 (.seq (.block 1 (.seq (.reg [
 p0 31 (.mv (.t 0)),
 p0 32 (.mv (.t 3)),
 p0 33 (.idxS (.t 31) (.t 32)),
 p0 34 (.bin .lss (.t 33) (.c (.int .u8 97))),
 p0 35 (.mv (.t 34)),
 g0 36 35 false (.mv (.t 0)),
 g0 37 35 false (.mv (.t 3)),
 g0 38 35 false (.idxS (.t 36) (.t 37)),
 g0 39 35 false (.bin .gtr (.t 38) (.c (.int .u8 122))),
 p0 40 (.pick (.t 35) (.c (.bool true)) (.t 39)),
 p0 41 (.mv (.t 40)),
 g0 42 41 true (.mv (.t 0)),
 g0 43 41 true (.mv (.t 3)),
 g0 44 41 true (.idxS (.t 42) (.t 43)),
 g0 45 41 true (.bin .lss (.t 44) (.c (.int .u8 48))),
 g0 46 41 true (.mv (.t 45)),
 g0 47 46 false (.mv (.t 0)),
 g0 48 46 false (.mv (.t 3)),
 g0 49 46 false (.idxS (.t 47) (.t 48)),
 g0 50 46 false (.bin .gtr (.t 49) (.c (.int .u8 57))),
 g0 51 41 true (.pick (.t 46) (.c (.bool true)) (.t 50)),
 p0 52 (.pick (.t 41) (.t 51) (.c (.bool false))),
 p0 53 (.mv (.t 52)),
 g0 54 53 true (.mv (.t 0)),
 g0 55 53 true (.mv (.t 3)),
 g0 56 53 true (.idxS (.t 54) (.t 55)),
 g0 57 53 true (.bin .neq (.t 56) (.c (.int .u8 45))),
 p0 58 (.pick (.t 53) (.t 57) (.c (.bool false)))])
 (.cond (.t 58)
 (.seq (.reg [
 p0 2 (.mv (.c (.bool false)))])
 .ret)
 .skip)))
 (.reg [
 p0 29 (.mv (.t 3)),
 p0 30 (.bin .add (.t 29) (.c (.int .i64 1))),
 p0 3 (.mv (.t 30))]))))))
 (.seq (.reg [
 p0 2 (.mv (.c (.bool true)))])
 .ret))))
theorem ok68 : fnComp Tryz.prog 68 = some (59, c68, [(.mv (.t 2))]) := by kernel_rfl

def c26 : CC :=
 (.seq (.reg [
 p0 2 (.mv (.c (.bool false)))])
 (.seq (.seq (.reg [
 p0 7 (.mv (.t 0)),
 p0 8 (.lenS (.t 7)),
 p0 9 (.bin .lss (.t 8) (.c (.int .i64 1))),
 p0 10 (.mv (.t 9)),
 g0 11 10 false (.mv (.t 0)),
 g0 12 10 false (.lenS (.t 11)),
 g0 13 10 false (.bin .gtr (.t 12) (.c (.int .i64 63))),
 p0 14 (.pick (.t 10) (.c (.bool true)) (.t 13))])
 (.cond (.t 14)
 (.seq (.reg [
 p0 2 (.mv (.c (.bool false)))])
 .ret)
 .skip))
 (.seq (.seq (.reg [
 p0 15 (.mv (.t 0)),
 x0 16 (.call 56 [(.t 15), (.c (.str [46]))]),
 p0 17 (.len (.t 16)),
 p0 18 (.mv (.c (.int .i64 0)))])
 (.block 0 (.loop (.seq (.reg [
 p0 19 (.bin .lss (.t 18) (.t 17))])
 (.seq (.cond (.t 19)
 .skip
 (.exit 0))
 (.seq (.block 1 (.seq (.reg [
 p0 20 (.iadr 1 (.t 16) (.t 18)),
 p0 21 (.ld (.t 20)),
 p0 4 (.mv (.t 21))])
 (.seq (.seq (.reg [
 p0 22 (.mv (.t 4)),
 p0 23 (.lenS (.t 22)),
 p0 24 (.bin .lss (.t 23) (.c (.int .i64 1))),
 p0 25 (.mv (.t 24)),
 g0 26 25 false (.mv (.t 4)),
 g0 27 25 false (.lenS (.t 26)),
 g0 28 25 false (.bin .gtr (.t 27) (.c (.int .i64 20))),
 p0 29 (.pick (.t 25) (.c (.bool true)) (.t 28)),
 p0 30 (.mv (.t 29)),
 g0 31 30 false (.mv (.t 4)),
 g0 32 30 false (.idxS (.t 31) (.c (.int .i64 0))),
 g0 33 30 false (.bin .eql (.t 32) (.c (.int .u8 45))),
 p0 34 (.pick (.t 30) (.c (.bool true)) (.t 33)),
 p0 35 (.mv (.t 34)),
 g0 36 35 false (.mv (.t 4)),
 g0 37 35 false (.mv (.t 4)),
 g0 38 35 false (.lenS (.t 37)),
 g0 39 35 false (.bin .sub (.t 38) (.c (.int .i64 1))),
 g0 40 35 false (.idxS (.t 36) (.t 39)),
 g0 41 35 false (.bin .eql (.t 40) (.c (.int .u8 45))),
 p0 42 (.pick (.t 35) (.c (.bool true)) (.t 41))])
 (.cond (.t 42)
 (.seq (.reg [
 p0 2 (.mv (.c (.bool false)))])
 .ret)
 .skip))
 (.seq (.reg [
 p0 43 (.mv (.t 4)),
 x0 44 (.s2b 5 (.t 43)),
 p0 45 (.len (.t 44)),
 p0 46 (.mv (.c (.int .i64 0)))])
 (.block 2 (.loop (.seq (.reg [
 p0 47 (.bin .lss (.t 46) (.t 45))])
 (.seq (.cond (.t 47)
 .skip
 (.exit 2))
 (.seq (.block 3 (.seq (.reg [
 p0 48 (.iadr 1 (.t 44) (.t 46)),
 p0 49 (.ld (.t 48)),
 p0 6 (.mv (.t 49))])
 (.seq (.reg [
 p0 50 (.mv (.t 6)),
 p0 51 (.bin .geq (.t 50) (.c (.int .u8 97))),
 p0 52 (.mv (.t 51)),
 g0 53 52 true (.mv (.t 6)),
 g0 54 52 true (.bin .leq (.t 53) (.c (.int .u8 122))),
 p0 55 (.pick (.t 52) (.t 54) (.c (.bool false))),
 p0 56 (.mv (.t 55)),
 g0 57 56 false (.mv (.t 6)),
 g0 58 56 false (.bin .geq (.t 57) (.c (.int .u8 48))),
 g0 59 56 false (.mv (.t 58)),
 g0 60 59 true (.mv (.t 6)),
 g0 61 59 true (.bin .leq (.t 60) (.c (.int .u8 57))),
 g0 62 56 false (.pick (.t 59) (.t 61) (.c (.bool false))),
 p0 63 (.pick (.t 56) (.c (.bool true)) (.t 62)),
 p0 64 (.mv (.t 63)),
 g0 65 64 false (.mv (.t 6)),
 g0 66 64 false (.bin .eql (.t 65) (.c (.int .u8 45))),
 p0 67 (.pick (.t 64) (.c (.bool true)) (.t 66)),
 p0 68 (.un .not (.t 67))])
 (.cond (.t 68)
 (.seq (.reg [
 p0 2 (.mv (.c (.bool false)))])
 .ret)
 .skip))))
 (.reg [
 p0 69 (.bin .add (.t 46) (.c (.int .i64 1))),
 p0 46 (.mv (.t 69))]))))))))))
 (.reg [
 p0 70 (.bin .add (.t 18) (.c (.int .i64 1))),
 p0 18 (.mv (.t 70))])))))))
 (.seq (.reg [
 p0 2 (.mv (.c (.bool true)))])
 .ret))))
theorem ok26 : fnComp Tryz.prog 26 = some (71, c26, [(.mv (.t 2))]) := by kernel_rfl

def c56 : CC :=
 (.seq (.reg [
 p0 4 (.mv (.c .nilslice))])
 (.seq (.reg [
 p0 5 (.mv (.t 0)),
 p0 6 (.mv (.t 1)),
 x0 7 (.call 76 [(.t 5), (.t 6), (.c (.int .i64 0)), (.c (.int .i64 (-1)))]),
 p0 4 (.mv (.t 7))])
 .ret))
theorem ok56 : fnComp Tryz.prog 56 = some (8, c56, [(.mv (.t 4))]) := by kernel_rfl

def c76 : CC :=
 (.seq (.reg [
 p0 8 (.mv (.c .nilslice))])
 (.seq (.seq (.reg [
 p0 12 (.mv (.t 3)),
 p0 13 (.bin .eql (.t 12) (.c (.int .i64 0)))])
 (.cond (.t 13)
 (.seq (.reg [
 p0 8 (.mv (.c .nilslice))])
 .ret)
 .skip))
 (.seq (.seq (.reg [
 p0 14 (.mv (.t 1)),
 p0 15 (.bin .eql (.t 14) (.c (.str [])))])
 (.cond (.t 15)
 (.seq (.reg [
 p0 16 (.mv (.t 0)),
 p0 17 (.mv (.t 3)),
 x0 18 (.call 93 [(.t 16), (.t 17)]),
 p0 8 (.mv (.t 18))])
 .ret)
 .skip))
 (.seq (.seq (.reg [
 p0 19 (.mv (.t 3)),
 p0 20 (.bin .lss (.t 19) (.c (.int .i64 0)))])
 (.cond (.t 20)
 (.reg [
 p0 21 (.mv (.t 0)),
 p0 22 (.mv (.t 1)),
 x0 23 (.call 94 [(.t 21), (.t 22)]),
 p0 24 (.bin .add (.t 23) (.c (.int .i64 1))),
 p0 3 (.mv (.t 24))])
 .skip))
 (.seq (.reg [
 p0 25 (.mv (.t 3)),
 p0 26 (.mv (.t 0)),
 p0 27 (.lenS (.t 26)),
 p0 28 (.bin .add (.t 27) (.c (.int .i64 1))),
 p0 29 (.mm false (.t 25) (.t 28)),
 p0 3 (.mv (.t 29))])
 (.seq (.reg [
 p0 30 (.mv (.t 3)),
 x0 31 (.mks 9 1 16 [(.str [])] (.t 30) (.t 30)),
 p0 9 (.mv (.t 31))])
 (.seq (.reg [
 p0 32 (.mv (.t 3)),
 p0 33 (.bin .sub (.t 32) (.c (.int .i64 1))),
 p0 3 (.mv (.t 33))])
 (.seq (.reg [
 p0 10 (.mv (.c (.int .i64 0)))])
 (.seq (.block 0 (.loop (.seq (.seq (.reg [
 p0 34 (.mv (.t 10)),
 p0 35 (.mv (.t 3)),
 p0 36 (.bin .lss (.t 34) (.t 35))])
 (.cond (.t 36)
 .skip
 (.exit 0)))
 (.block 1 (.seq (.reg [
 p0 37 (.mv (.t 0)),
 p0 38 (.mv (.t 1)),
 x0 39 (.call 95 [(.t 37), (.t 38)]),
 p0 11 (.mv (.t 39))])
 (.seq (.seq (.reg [
 p0 40 (.mv (.t 11)),
 p0 41 (.bin .lss (.t 40) (.c (.int .i64 0)))])
 (.cond (.t 41)
 (.exit 0)
 .skip))
 (.seq (.reg [
 p0 42 (.mv (.t 9)),
 p0 43 (.mv (.t 10)),
 p0 44 (.mv (.t 0)),
 p0 45 (.mv (.t 11)),
 p0 46 (.mv (.t 2)),
 p0 47 (.bin .add (.t 45) (.t 46)),
 p0 48 (.slcS (.t 44) none (some (.t 47))),
 p0 49 (.iadr 1 (.t 42) (.t 43)),
 s0 (.st 1 (.t 49) (.t 48))])
 (.seq (.reg [
 p0 50 (.mv (.t 0)),
 p0 51 (.mv (.t 11)),
 p0 52 (.mv (.t 1)),
 p0 53 (.lenS (.t 52)),
 p0 54 (.bin .add (.t 51) (.t 53)),
 p0 55 (.slcS (.t 50) (some (.t 54)) none),
 p0 0 (.mv (.t 55))])
 (.reg [
 p0 56 (.mv (.t 10)),
 p0 57 (.bin .add (.t 56) (.c (.int .i64 1))),
 p0 10 (.mv (.t 57))])))))))))
 (.seq (.reg [
 p0 58 (.mv (.t 9)),
 p0 59 (.mv (.t 10)),
 p0 60 (.mv (.t 0)),
 p0 61 (.iadr 1 (.t 58) (.t 59)),
 s0 (.st 1 (.t 61) (.t 60))])
 (.seq (.reg [
 p0 62 (.mv (.t 9)),
 p0 63 (.mv (.t 10)),
 p0 64 (.bin .add (.t 63) (.c (.int .i64 1))),
 p0 65 (.slc 1 (.t 62) none (some (.t 64)) none),
 p0 8 (.mv (.t 65))])
 .ret)))))))))))
theorem ok76 : fnComp Tryz.prog 76 = some (66, c76, [(.mv (.t 8))]) := by kernel_rfl

def c94 : CC :=
 (.seq (.reg [
 p0 4 (.mv (.c (.int .i64 0)))])
 (.seq (.seq (.reg [
 p0 7 (.mv (.t 1)),
 p0 8 (.lenS (.t 7)),
 p0 9 (.bin .eql (.t 8) (.c (.int .i64 0)))])
 (.cond (.t 9)
 (.seq (.reg [
 p0 10 (.mv (.t 0)),
 x0 11 (.call 102 [(.t 10)]),
 p0 12 (.bin .add (.t 11) (.c (.int .i64 1))),
 p0 4 (.mv (.t 12))])
 .ret)
 .skip))
 (.seq (.seq (.reg [
 p0 13 (.mv (.t 1)),
 p0 14 (.lenS (.t 13)),
 p0 15 (.bin .eql (.t 14) (.c (.int .i64 1)))])
 (.cond (.t 15)
 (.seq (.reg [
 p0 16 (.mv (.t 0)),
 p0 17 (.mv (.t 1)),
 p0 18 (.idxS (.t 17) (.c (.int .i64 0))),
 x0 19 (.call 104 [(.t 16), (.t 18)]),
 p0 4 (.mv (.t 19))])
 .ret)
 .skip))
 (.seq (.reg [
 p0 5 (.mv (.c (.int .i64 0)))])
 (.block 0 (.loop (.block 1 (.seq (.reg [
 p0 20 (.mv (.t 0)),
 p0 21 (.mv (.t 1)),
 x0 22 (.call 95 [(.t 20), (.t 21)]),
 p0 6 (.mv (.t 22))])
 (.seq (.seq (.reg [
 p0 23 (.mv (.t 6)),
 p0 24 (.bin .eql (.t 23) (.c (.int .i64 (-1))))])
 (.cond (.t 24)
 (.seq (.reg [
 p0 25 (.mv (.t 5)),
 p0 4 (.mv (.t 25))])
 .ret)
 .skip))
 (.seq (.reg [
 p0 26 (.mv (.t 5)),
 p0 27 (.bin .add (.t 26) (.c (.int .i64 1))),
 p0 5 (.mv (.t 27))])
 (.reg [
 p0 28 (.mv (.t 0)),
 p0 29 (.mv (.t 6)),
 p0 30 (.mv (.t 1)),
 p0 31 (.lenS (.t 30)),
 p0 32 (.bin .add (.t 29) (.t 31)),
 p0 33 (.slcS (.t 28) (some (.t 32)) none),
 p0 0 (.mv (.t 33))])))))))))))
theorem ok94 : fnComp Tryz.prog 94 = some (34, c94, [(.mv (.t 4))]) := by kernel_rfl

def c95 : CC :=
 (.seq (.reg [
 p0 4 (.mv (.c (.int .i64 0)))])
 (.seq (.reg [
 p0 5 (.mv (.t 0)),
 p0 6 (.mv (.t 1)),
 x0 7 (.call 105 [(.t 5), (.t 6)]),
 p0 4 (.mv (.t 7))])
 .ret))
theorem ok95 : fnComp Tryz.prog 95 = some (8, c95, [(.mv (.t 4))]) := by kernel_rfl

def c105 : CC :=
 (.seq (.reg [
 p0 4 (.mv (.c (.int .i64 0)))])
 (.seq (.reg [
 p0 14 (.mv (.t 1)),
 p0 15 (.lenS (.t 14)),
 p0 5 (.mv (.t 15))])
 (.seq (.block 0 (.seq (.reg [
 p0 17 (.mv (.t 5)),
 p0 18 (.bin .eql (.t 17) (.c (.int .i64 0))),
 p0 19 (.mv (.t 18)),
 g0 20 19 false (.mv (.t 1)),
 g0 21 19 false (.mv (.t 0)),
 g0 22 19 false (.bin .eql (.t 20) (.t 21)),
 p0 23 (.pick (.t 19) (.c (.bool true)) (.t 22)),
 p0 16 (.mv (.t 23))])
 (.cond (.t 16)
 (.seq (.reg [
 p0 4 (.mv (.c (.int .i64 0)))])
 .ret)
 (.seq (.reg [
 p0 25 (.mv (.t 5)),
 p0 26 (.bin .eql (.t 25) (.c (.int .i64 1))),
 p0 24 (.mv (.t 26))])
 (.cond (.t 24)
 (.seq (.reg [
 p0 27 (.mv (.t 0)),
 p0 28 (.mv (.t 1)),
 p0 29 (.idxS (.t 28) (.c (.int .i64 0))),
 x0 30 (.call 108 [(.t 27), (.t 29)]),
 p0 4 (.mv (.t 30))])
 .ret)
 (.seq (.reg [
 p0 32 (.mv (.t 5)),
 p0 33 (.mv (.t 0)),
 p0 34 (.lenS (.t 33)),
 p0 35 (.bin .geq (.t 32) (.t 34)),
 p0 31 (.mv (.t 35))])
 (.cond (.t 31)
 (.seq (.reg [
 p0 4 (.mv (.c (.int .i64 (-1))))])
 .ret)
 (.seq (.reg [
 p0 37 (.mv (.t 5)),
 x0 38 (.ux .bad []),
 p0 39 (.bin .leq (.t 37) (.t 38)),
 p0 40 (.mv (.t 39)),
 g0 41 40 true (.mv (.t 0)),
 g0 42 40 true (.lenS (.t 41)),
 g0 43 40 true (.bin .leq (.t 42) (.c (.int .i64 64))),
 p0 44 (.pick (.t 40) (.t 43) (.c (.bool false))),
 p0 36 (.mv (.t 44))])
 (.cond (.t 36)
 (.seq (.reg [
 p0 45 (.mv (.t 0)),
 p0 46 (.mv (.t 1)),
 x0 47 (.call 109 [(.t 45), (.t 46)]),
 p0 4 (.mv (.t 47))])
 .ret)
 .skip)))))))))
 (.seq (.reg [
 p0 48 (.mv (.t 1)),
 p0 49 (.idxS (.t 48) (.c (.int .i64 0))),
 p0 6 (.mv (.t 49))])
 (.seq (.reg [
 p0 50 (.mv (.t 1)),
 p0 51 (.idxS (.t 50) (.c (.int .i64 1))),
 p0 7 (.mv (.t 51))])
 (.seq (.reg [
 p0 8 (.mv (.c (.int .i64 0)))])
 (.seq (.reg [
 p0 52 (.mv (.t 0)),
 p0 53 (.lenS (.t 52)),
 p0 54 (.mv (.t 5)),
 p0 55 (.bin .sub (.t 53) (.t 54)),
 p0 56 (.bin .add (.t 55) (.c (.int .i64 1))),
 p0 9 (.mv (.t 56))])
 (.seq (.reg [
 p0 10 (.mv (.c (.int .i64 0)))])
 (.seq (.block 1 (.loop (.seq (.seq (.reg [
 p0 57 (.mv (.t 8)),
 p0 58 (.mv (.t 9)),
 p0 59 (.bin .lss (.t 57) (.t 58))])
 (.cond (.t 59)
 .skip
 (.exit 1)))
 (.block 2 (.seq (.seq (.reg [
 p0 60 (.mv (.t 0)),
 p0 61 (.mv (.t 8)),
 p0 62 (.idxS (.t 60) (.t 61)),
 p0 63 (.mv (.t 6)),
 p0 64 (.bin .neq (.t 62) (.t 63))])
 (.cond (.t 64)
 (.seq (.reg [
 p0 65 (.mv (.t 0)),
 p0 66 (.mv (.t 8)),
 p0 67 (.bin .add (.t 66) (.c (.int .i64 1))),
 p0 68 (.mv (.t 9)),
 p0 69 (.slcS (.t 65) (some (.t 67)) (some (.t 68))),
 p0 70 (.mv (.t 6)),
 x0 71 (.call 108 [(.t 69), (.t 70)]),
 p0 11 (.mv (.t 71))])
 (.seq (.seq (.reg [
 p0 72 (.mv (.t 11)),
 p0 73 (.bin .lss (.t 72) (.c (.int .i64 0)))])
 (.cond (.t 73)
 (.seq (.reg [
 p0 4 (.mv (.c (.int .i64 (-1))))])
 .ret)
 .skip))
 (.reg [
 p0 74 (.mv (.t 8)),
 p0 75 (.mv (.t 11)),
 p0 76 (.bin .add (.t 75) (.c (.int .i64 1))),
 p0 77 (.bin .add (.t 74) (.t 76)),
 p0 8 (.mv (.t 77))])))
 .skip))
 (.seq (.seq (.reg [
 p0 78 (.mv (.t 0)),
 p0 79 (.mv (.t 8)),
 p0 80 (.bin .add (.t 79) (.c (.int .i64 1))),
 p0 81 (.idxS (.t 78) (.t 80)),
 p0 82 (.mv (.t 7)),
 p0 83 (.bin .eql (.t 81) (.t 82)),
 p0 84 (.mv (.t 83)),
 g0 85 84 true (.mv (.t 0)),
 g0 86 84 true (.mv (.t 8)),
 g0 87 84 true (.mv (.t 8)),
 g0 88 84 true (.mv (.t 5)),
 g0 89 84 true (.bin .add (.t 87) (.t 88)),
 g0 90 84 true (.slcS (.t 85) (some (.t 86)) (some (.t 89))),
 g0 91 84 true (.mv (.t 1)),
 g0 92 84 true (.bin .eql (.t 90) (.t 91)),
 p0 93 (.pick (.t 84) (.t 92) (.c (.bool false)))])
 (.cond (.t 93)
 (.seq (.reg [
 p0 94 (.mv (.t 8)),
 p0 4 (.mv (.t 94))])
 .ret)
 .skip))
 (.seq (.reg [
 p0 95 (.mv (.t 8)),
 p0 96 (.bin .add (.t 95) (.c (.int .i64 1))),
 p0 8 (.mv (.t 96))])
 (.seq (.reg [
 p0 97 (.mv (.t 10)),
 p0 98 (.bin .add (.t 97) (.c (.int .i64 1))),
 p0 10 (.mv (.t 98))])
 (.seq (.reg [
 p0 99 (.mv (.t 5)),
 x0 100 (.ux .bad []),
 p0 101 (.bin .leq (.t 99) (.t 100)),
 p0 102 (.mv (.t 101)),
 g0 103 102 true (.mv (.t 10)),
 g0 104 102 true (.mv (.t 8)),
 ⟨(some 105), (some (102, true)), .x (.call 110 [(.t 104)])⟩,
 g0 106 102 true (.bin .gtr (.t 103) (.t 105)),
 p0 107 (.pick (.t 102) (.t 106) (.c (.bool false)))])
 (.cond (.t 107)
 (.seq (.reg [
 p0 108 (.mv (.t 0)),
 p0 109 (.mv (.t 8)),
 p0 110 (.slcS (.t 108) (some (.t 109)) none),
 p0 111 (.mv (.t 1)),
 x0 112 (.call 109 [(.t 110), (.t 111)]),
 p0 12 (.mv (.t 112))])
 (.seq (.seq (.reg [
 p0 113 (.mv (.t 12)),
 p0 114 (.bin .geq (.t 113) (.c (.int .i64 0)))])
 (.cond (.t 114)
 (.seq (.reg [
 p0 115 (.mv (.t 12)),
 p0 116 (.mv (.t 8)),
 p0 117 (.bin .add (.t 115) (.t 116)),
 p0 4 (.mv (.t 117))])
 .ret)
 .skip))
 (.seq (.reg [
 p0 4 (.mv (.c (.int .i64 (-1))))])
 .ret)))
 (.seq (.reg [
 p0 118 (.mv (.t 5)),
 x0 119 (.ux .bad []),
 p0 120 (.bin .gtr (.t 118) (.t 119)),
 p0 121 (.mv (.t 120)),
 g0 122 121 true (.mv (.t 10)),
 g0 123 121 true (.mv (.t 8)),
 g0 124 121 true (.bin .shr (.t 123) (.c (.int .u64 4))),
 g0 125 121 true (.bin .add (.c (.int .i64 4)) (.t 124)),
 g0 126 121 true (.bin .geq (.t 122) (.t 125)),
 p0 127 (.pick (.t 121) (.t 126) (.c (.bool false))),
 p0 128 (.mv (.t 127)),
 g0 129 128 true (.mv (.t 8)),
 g0 130 128 true (.mv (.t 9)),
 g0 131 128 true (.bin .lss (.t 129) (.t 130)),
 p0 132 (.pick (.t 128) (.t 131) (.c (.bool false)))])
 (.cond (.t 132)
 (.seq (.reg [
 p0 133 (.mv (.t 0)),
 p0 134 (.mv (.t 8)),
 p0 135 (.slcS (.t 133) (some (.t 134)) none),
 p0 136 (.mv (.t 1)),
 x0 137 (.call 111 [(.t 135), (.t 136)]),
 p0 13 (.mv (.t 137))])
 (.seq (.seq (.reg [
 p0 138 (.mv (.t 13)),
 p0 139 (.bin .lss (.t 138) (.c (.int .i64 0)))])
 (.cond (.t 139)
 (.seq (.reg [
 p0 4 (.mv (.c (.int .i64 (-1))))])
 .ret)
 .skip))
 (.seq (.reg [
 p0 140 (.mv (.t 8)),
 p0 141 (.mv (.t 13)),
 p0 142 (.bin .add (.t 140) (.t 141)),
 p0 4 (.mv (.t 142))])
 .ret)))
 .skip))))))))))))
 (.seq (.reg [
 p0 4 (.mv (.c (.int .i64 (-1))))])
 .ret))))))))))
theorem ok105 : fnComp Tryz.prog 105 = some (143, c105, [(.mv (.t 4))]) := by kernel_rfl

def c108 : CC :=
 (.seq (.reg [
 p0 4 (.mv (.c (.int .i64 0)))])
 (.seq (.reg [
 p0 5 (.mv (.t 0)),
 p0 6 (.mv (.t 1)),
 x0 7 (.call 112 [(.t 5), (.t 6)]),
 p0 4 (.mv (.t 7))])
 .ret))
theorem ok108 : fnComp Tryz.prog 108 = some (8, c108, [(.mv (.t 4))]) := by kernel_rfl

def c89 : CC :=
 (.seq (.reg [
 x0 1 (.box 109 2 (.t 0)),
 p0 2 (.mv (.c .nilslice)),
 p0 3 (.mv (.c (.int .i64 0)))])
 (.seq (.seq (.reg [
 p0 5 (.fadr 0 (.t 1)),
 p0 6 (.ld (.t 5)),
 x0 7 (.call 19 [(.t 6)]),
 p0 8 (.un .not (.t 7)),
 p0 9 (.mv (.t 8)),
 g0 10 9 false (.fadr 1 (.t 1)),
 g0 11 9 false (.ld (.t 10)),
 ⟨(some 12), (some (9, false)), .x (.call 46 [(.t 11)])⟩,
 g0 13 9 false (.un .not (.t 12)),
 p0 14 (.pick (.t 9) (.c (.bool true)) (.t 13))])
 (.cond (.t 14)
 (.seq (.reg [
 p0 2 (.mv (.c .nilslice)),
 p0 3 (.mv (.c (.int .i64 1)))])
 .ret)
 .skip))
 (.seq (.treg [
 p0 15 (.fadr 0 (.t 1)),
 p0 16 (.ld (.t 15)),
 x0 17 (.call 101 [(.t 16), (.c (.int .i64 2))]),
 p0 18 (.fadr 1 (.t 1)),
 p0 19 (.ld (.t 18)),
 p0 20 (.lenS (.t 19)),
 p0 21 (.cvI .u8 (.t 20)),
 x0 22 (.bslice 5 1 [(.int .u8 0)] 2 [(0, (.c (.int .u8 0))), (1, (.t 21))]),
 x0 23 (.call 100 [(.t 17), (.t 22)]),
 p0 4 (.mv (.t 23))]
 [[],[0],[1,0],[],[3],[4,3],[5,4,3],[6,5,4,3],[2,1,0,7,6,5,4,3],[8,2,1,0,7,6,5,4,3]] (.fl 0 (.fl 1 (.fl 3 (.fl 4 (.fl 5 (.fl 6 (.br 2 (.br 7 (.br 8 (.fl 9 .fin) .stop) .stop) (.br 7 (.br 2 (.br 8 (.fl 9 .fin) .stop) .stop) .stop)))))))))
 (.seq (.reg [
 p0 24 (.mv (.t 4)),
 p0 25 (.fadr 1 (.t 1)),
 p0 26 (.ld (.t 25)),
 x0 27 (.s2b 5 (.t 26)),
 x0 28 (.call 100 [(.t 24), (.t 27)]),
 p0 2 (.mv (.t 28)),
 p0 3 (.mv (.c (.int .i64 0)))])
 .ret))))
theorem ok89 : fnComp Tryz.prog 89 = some (29, c89, [(.mv (.t 2)), (.mv (.t 3))]) := by kernel_rfl

def c61 : CC :=
 (.seq (.reg [
 x0 1 (.box 109 2 (.t 0)),
 p0 2 (.mv (.c .nilslice)),
 p0 3 (.mv (.c (.int .i64 0)))])
 (.seq (.seq (.reg [
 p0 4 (.fadr 0 (.t 1)),
 p0 5 (.ld (.t 4)),
 p0 6 (.bin .lss (.t 5) (.c (.int .i64 0))),
 p0 7 (.mv (.t 6)),
 g0 8 7 false (.fadr 0 (.t 1)),
 g0 9 7 false (.ld (.t 8)),
 g0 10 7 false (.bin .gtr (.t 9) (.c (.int .i64 65535))),
 p0 11 (.pick (.t 7) (.c (.bool true)) (.t 10)),
 p0 12 (.mv (.t 11)),
 g0 13 12 false (.fadr 1 (.t 1)),
 g0 14 12 false (.ld (.t 13)),
 ⟨(some 15), (some (12, false)), .x (.call 26 [(.t 14)])⟩,
 g0 16 12 false (.un .not (.t 15)),
 p0 17 (.pick (.t 12) (.c (.bool true)) (.t 16))])
 (.cond (.t 17)
 (.seq (.reg [
 p0 2 (.mv (.c .nilslice)),
 p0 3 (.mv (.c (.int .i64 1)))])
 .ret)
 .skip))
 (.seq (.treg [
 p0 18 (.fadr 0 (.t 1)),
 p0 19 (.ld (.t 18)),
 x0 20 (.call 86 [(.c .nilslice), (.c (.int .i64 2)), (.t 19)]),
 p0 21 (.fadr 1 (.t 1)),
 p0 22 (.ld (.t 21)),
 p0 23 (.lenS (.t 22)),
 p0 24 (.cvI .u8 (.t 23)),
 x0 25 (.bslice 5 1 [(.int .u8 0)] 2 [(0, (.c (.int .u8 0))), (1, (.t 24))]),
 x0 26 (.app 5 1 1 (.t 20) (.t 25)),
 p0 27 (.fadr 1 (.t 1)),
 p0 28 (.ld (.t 27)),
 x0 29 (.appS 5 1 (.t 26) (.t 28)),
 p0 2 (.mv (.t 29)),
 p0 3 (.mv (.c (.int .i64 0)))]
 [[],[0],[1,0],[],[3],[4,3],[5,4,3],[6,5,4,3],[2,1,0,7,6,5,4,3],[],[9],[8,2,1,0,7,6,5,4,3,10,9],[11,8,2,1,0,7,6,5,4,3,10,9],[12,11,8,2,1,0,7,6,5,4,3,10,9]] (.fl 0 (.fl 1 (.fl 3 (.fl 4 (.fl 5 (.fl 6 (.fl 9 (.fl 10 (.br 2 (.br 7 (.br 8 (.br 11 (.fl 12 (.fl 13 .fin)) .stop) .stop) .stop) (.br 7 (.br 2 (.br 8 (.br 11 (.fl 12 (.fl 13 .fin)) .stop) .stop) .stop) .stop)))))))))))
 .ret)))
theorem ok61 : fnComp Tryz.prog 61 = some (30, c61, [(.mv (.t 2)), (.mv (.t 3))]) := by kernel_rfl

def c19 : CC :=
 (.seq (.reg [
 p0 2 (.mv (.c (.bool false)))])
 (.seq (.reg [
 p0 3 (.mv (.t 0)),
 x0 4 (.call 44 [(.t 3), (.c (.int .i64 0)), (.c (.int .i64 65535))]),
 p0 2 (.mv (.t 4))])
 .ret))
theorem ok19 : fnComp Tryz.prog 19 = some (5, c19, [(.mv (.t 2))]) := by kernel_rfl

def c100 : CC :=
 (.seq (.reg [
 p0 4 (.mv (.c .nilslice))])
 (.seq (.reg [
 p0 7 (.mv (.t 0)),
 x0 8 (.call 106 [(.t 7)]),
 p0 5 (.mv (.t 8))])
 (.seq (.seq (.reg [
 p0 6 (.mv (.c (.int .i64 0)))])
 (.block 0 (.loop (.seq (.seq (.reg [
 p0 9 (.mv (.t 6)),
 p0 10 (.mv (.t 1)),
 p0 11 (.len (.t 10)),
 p0 12 (.bin .lss (.t 9) (.t 11))])
 (.cond (.t 12)
 .skip
 (.exit 0)))
 (.seq (.block 1 (.reg [
 p0 15 (.mv (.t 5)),
 p0 16 (.mv (.t 1)),
 p0 17 (.mv (.t 6)),
 p0 18 (.iadr 1 (.t 16) (.t 17)),
 p0 19 (.ld (.t 18)),
 x0 20 (.bslice 5 1 [(.int .u8 0)] 1 [(0, (.t 19))]),
 x0 21 (.app 5 1 1 (.t 15) (.t 20)),
 p0 5 (.mv (.t 21))]))
 (.reg [
 p0 13 (.mv (.t 6)),
 p0 14 (.bin .add (.t 13) (.c (.int .i64 1))),
 p0 6 (.mv (.t 14))]))))))
 (.seq (.reg [
 p0 22 (.mv (.t 5)),
 p0 4 (.mv (.t 22))])
 .ret))))
theorem ok100 : fnComp Tryz.prog 100 = some (23, c100, [(.mv (.t 4))]) := by kernel_rfl

def c101 : CC :=
 (.seq (.reg [
 p0 4 (.mv (.c .nilslice))])
 (.seq (.reg [
 x0 7 (.bslice 5 1 [(.int .u8 0)] 0 []),
 p0 5 (.mv (.t 7))])
 (.seq (.seq (.reg [
 p0 8 (.mv (.t 1)),
 p0 9 (.bin .sub (.t 8) (.c (.int .i64 1))),
 p0 6 (.mv (.t 9))])
 (.block 0 (.loop (.seq (.seq (.reg [
 p0 10 (.mv (.t 6)),
 p0 11 (.bin .geq (.t 10) (.c (.int .i64 0)))])
 (.cond (.t 11)
 .skip
 (.exit 0)))
 (.seq (.block 1 (.reg [
 p0 14 (.mv (.t 5)),
 p0 15 (.mv (.t 0)),
 p0 16 (.mv (.t 6)),
 p0 17 (.bin .mul (.c (.int .i64 8)) (.t 16)),
 p0 18 (.cvI .u64 (.t 17)),
 p0 19 (.bin .shr (.t 15) (.t 18)),
 p0 20 (.cvI .u8 (.t 19)),
 x0 21 (.bslice 5 1 [(.int .u8 0)] 1 [(0, (.t 20))]),
 x0 22 (.app 5 1 1 (.t 14) (.t 21)),
 p0 5 (.mv (.t 22))]))
 (.reg [
 p0 12 (.mv (.t 6)),
 p0 13 (.bin .sub (.t 12) (.c (.int .i64 1))),
 p0 6 (.mv (.t 13))]))))))
 (.seq (.reg [
 p0 23 (.mv (.t 5)),
 p0 4 (.mv (.t 23))])
 .ret))))
theorem ok101 : fnComp Tryz.prog 101 = some (24, c101, [(.mv (.t 4))]) := by kernel_rfl

def c86 : CC :=
 (.seq (.reg [
 p0 6 (.mv (.c .nilslice))])
 (.seq (.seq (.reg [
 p0 8 (.mv (.t 1)),
 p0 9 (.bin .sub (.t 8) (.c (.int .i64 1))),
 p0 7 (.mv (.t 9))])
 (.block 0 (.loop (.seq (.seq (.reg [
 p0 10 (.mv (.t 7)),
 p0 11 (.bin .geq (.t 10) (.c (.int .i64 0)))])
 (.cond (.t 11)
 .skip
 (.exit 0)))
 (.seq (.block 1 (.reg [
 p0 14 (.mv (.t 0)),
 p0 15 (.mv (.t 2)),
 p0 16 (.cvI .u64 (.t 15)),
 p0 17 (.mv (.t 7)),
 p0 18 (.bin .mul (.c (.int .i64 8)) (.t 17)),
 p0 19 (.bin .shr (.t 16) (.t 18)),
 p0 20 (.cvI .u8 (.t 19)),
 x0 21 (.bslice 5 1 [(.int .u8 0)] 1 [(0, (.t 20))]),
 x0 22 (.app 5 1 1 (.t 14) (.t 21)),
 p0 0 (.mv (.t 22))]))
 (.reg [
 p0 12 (.mv (.t 7)),
 p0 13 (.bin .sub (.t 12) (.c (.int .i64 1))),
 p0 7 (.mv (.t 13))]))))))
 (.seq (.reg [
 p0 23 (.mv (.t 0)),
 p0 6 (.mv (.t 23))])
 .ret)))
theorem ok86 : fnComp Tryz.prog 86 = some (24, c86, [(.mv (.t 6))]) := by kernel_rfl

def c106 : CC :=
 (.seq (.reg [
 p0 2 (.mv (.c .nilslice))])
 (.seq (.reg [
 x0 5 (.bslice 5 1 [(.int .u8 0)] 0 []),
 p0 3 (.mv (.t 5))])
 (.seq (.seq (.reg [
 p0 4 (.mv (.c (.int .i64 0)))])
 (.block 0 (.loop (.seq (.seq (.reg [
 p0 6 (.mv (.t 4)),
 p0 7 (.mv (.t 0)),
 p0 8 (.len (.t 7)),
 p0 9 (.bin .lss (.t 6) (.t 8))])
 (.cond (.t 9)
 .skip
 (.exit 0)))
 (.seq (.block 1 (.reg [
 p0 12 (.mv (.t 3)),
 p0 13 (.mv (.t 0)),
 p0 14 (.mv (.t 4)),
 p0 15 (.iadr 1 (.t 13) (.t 14)),
 p0 16 (.ld (.t 15)),
 x0 17 (.bslice 5 1 [(.int .u8 0)] 1 [(0, (.t 16))]),
 x0 18 (.app 5 1 1 (.t 12) (.t 17)),
 p0 3 (.mv (.t 18))]))
 (.reg [
 p0 10 (.mv (.t 4)),
 p0 11 (.bin .add (.t 10) (.c (.int .i64 1))),
 p0 4 (.mv (.t 11))]))))))
 (.seq (.reg [
 p0 19 (.mv (.t 3)),
 p0 2 (.mv (.t 19))])
 .ret))))
theorem ok106 : fnComp Tryz.prog 106 = some (20, c106, [(.mv (.t 2))]) := by kernel_rfl

def c44 : CC :=
 (.seq (.reg [
 p0 6 (.mv (.c (.bool false)))])
 (.seq (.reg [
 p0 7 (.mv (.t 0)),
 p0 8 (.mv (.t 1)),
 p0 9 (.bin .geq (.t 7) (.t 8)),
 p0 10 (.mv (.t 9)),
 g0 11 10 true (.mv (.t 0)),
 g0 12 10 true (.mv (.t 2)),
 g0 13 10 true (.bin .leq (.t 11) (.t 12)),
 p0 14 (.pick (.t 10) (.t 13) (.c (.bool false))),
 p0 6 (.mv (.t 14))])
 .ret))
theorem ok44 : fnComp Tryz.prog 44 = some (15, c44, [(.mv (.t 6))]) := by kernel_rfl

def c90 : CC :=
 (.seq (.reg [
 p0 4 (.mv (.c (.str []))),
 p0 5 (.mv (.c (.int .i64 0)))])
 (.seq (.seq (.reg [
 p0 7 (.mv (.t 1)),
 p0 8 (.bin .lss (.t 7) (.c (.int .i64 0))),
 p0 9 (.mv (.t 8)),
 g0 10 9 false (.mv (.t 1)),
 g0 11 9 false (.mv (.t 0)),
 g0 12 9 false (.len (.t 11)),
 g0 13 9 false (.bin .geq (.t 10) (.t 12)),
 p0 14 (.pick (.t 9) (.c (.bool true)) (.t 13)),
 p0 15 (.mv (.t 14)),
 g0 16 15 false (.mv (.t 1)),
 g0 17 15 false (.bin .add (.t 16) (.c (.int .i64 1))),
 g0 18 15 false (.mv (.t 0)),
 g0 19 15 false (.mv (.t 1)),
 g0 20 15 false (.iadr 1 (.t 18) (.t 19)),
 g0 21 15 false (.ld (.t 20)),
 g0 22 15 false (.cvI .i64 (.t 21)),
 g0 23 15 false (.bin .add (.t 17) (.t 22)),
 g0 24 15 false (.mv (.t 0)),
 g0 25 15 false (.len (.t 24)),
 g0 26 15 false (.bin .gtr (.t 23) (.t 25)),
 p0 27 (.pick (.t 15) (.c (.bool true)) (.t 26))])
 (.cond (.t 27)
 (.seq (.reg [
 p0 4 (.mv (.c (.str []))),
 p0 5 (.mv (.c (.int .i64 (-1))))])
 .ret)
 .skip))
 (.seq (.reg [
 p0 28 (.mv (.t 1)),
 p0 29 (.bin .add (.t 28) (.c (.int .i64 1))),
 p0 30 (.mv (.t 0)),
 p0 31 (.mv (.t 1)),
 p0 32 (.iadr 1 (.t 30) (.t 31)),
 p0 33 (.ld (.t 32)),
 p0 34 (.cvI .i64 (.t 33)),
 p0 35 (.bin .add (.t 29) (.t 34)),
 p0 6 (.mv (.t 35))])
 (.seq (.reg [
 p0 36 (.mv (.t 0)),
 p0 37 (.mv (.t 1)),
 p0 38 (.bin .add (.t 37) (.c (.int .i64 1))),
 p0 39 (.mv (.t 6)),
 p0 40 (.slc 1 (.t 36) (some (.t 38)) (some (.t 39)) none),
 p0 41 (.b2s (.t 40)),
 p0 42 (.mv (.t 6)),
 p0 4 (.mv (.t 41)),
 p0 5 (.mv (.t 42))])
 .ret))))
theorem ok90 : fnComp Tryz.prog 90 = some (43, c90, [(.mv (.t 4)), (.mv (.t 5))]) := by kernel_rfl

def c91 : CC :=
 (.seq (.reg [
 p0 2 (.mv (.c (.int .i64 0)))])
 (.seq (.reg [
 p0 3 (.mv (.c (.int .i64 0)))])
 (.seq (.seq (.reg [
 p0 4 (.mv (.c (.int .i64 0)))])
 (.block 0 (.loop (.seq (.seq (.reg [
 p0 5 (.mv (.t 4)),
 p0 6 (.mv (.t 0)),
 p0 7 (.len (.t 6)),
 p0 8 (.bin .lss (.t 5) (.t 7))])
 (.cond (.t 8)
 .skip
 (.exit 0)))
 (.seq (.block 1 (.reg [
 p0 11 (.mv (.t 3)),
 p0 12 (.bin .mul (.t 11) (.c (.int .i64 256))),
 p0 13 (.mv (.t 0)),
 p0 14 (.mv (.t 4)),
 p0 15 (.iadr 1 (.t 13) (.t 14)),
 p0 16 (.ld (.t 15)),
 p0 17 (.cvI .i64 (.t 16)),
 p0 18 (.bin .add (.t 12) (.t 17)),
 p0 3 (.mv (.t 18))]))
 (.reg [
 p0 9 (.mv (.t 4)),
 p0 10 (.bin .add (.t 9) (.c (.int .i64 1))),
 p0 4 (.mv (.t 10))]))))))
 (.seq (.reg [
 p0 19 (.mv (.t 3)),
 p0 2 (.mv (.t 19))])
 .ret))))
theorem ok91 : fnComp Tryz.prog 91 = some (20, c91, [(.mv (.t 2))]) := by kernel_rfl

def c77 : CC :=
 (.seq (.reg [
 p0 4 (.mv (.c (.int .i64 0)))])
 (.seq (.reg [
 p0 5 (.mv (.t 0)),
 p0 6 (.mv (.t 1)),
 x0 7 (.call 78 [(.t 5), (.t 6)]),
 x0 8 (.call 96 [(.t 7)]),
 p0 4 (.mv (.t 8))])
 .ret))
theorem ok77 : fnComp Tryz.prog 77 = some (9, c77, [(.mv (.t 4))]) := by kernel_rfl

def c78 : CC :=
 (.seq (.reg [
 p0 4 (.mv (.c .nilslice))])
 (.seq (.seq (.reg [
 p0 6 (.mv (.t 1)),
 p0 7 (.mv (.t 0)),
 p0 8 (.nck (.t 7)),
 p0 9 (.fadr 0 (.t 8)),
 p0 10 (.ld (.t 9)),
 p0 11 (.len (.t 10)),
 p0 12 (.bin .gtr (.t 6) (.t 11))])
 (.cond (.t 12)
 (.seq (.reg [
 p0 13 (.mv (.t 0)),
 p0 14 (.nck (.t 13)),
 p0 15 (.fadr 1 (.t 14)),
 s0 (.st 1 (.t 15) (.c (.bool true)))])
 (.seq (.reg [
 p0 16 (.mv (.t 0)),
 p0 17 (.nck (.t 16)),
 p0 18 (.fadr 0 (.t 17)),
 s0 (.st 1 (.t 18) (.c .nilslice))])
 (.seq (.reg [
 p0 19 (.mv (.t 1)),
 p0 20 (.mm false (.t 19) (.c (.int .i64 8))),
 x0 21 (.mks 5 1 1 [(.int .u8 0)] (.t 20) (.t 20)),
 p0 4 (.mv (.t 21))])
 .ret)))
 .skip))
 (.seq (.reg [
 p0 22 (.mv (.t 0)),
 p0 23 (.nck (.t 22)),
 p0 24 (.fadr 0 (.t 23)),
 p0 25 (.ld (.t 24)),
 p0 26 (.mv (.t 1)),
 p0 27 (.slc 1 (.t 25) none (some (.t 26)) none),
 p0 5 (.mv (.t 27))])
 (.seq (.reg [
 p0 28 (.mv (.t 0)),
 p0 29 (.mv (.t 0)),
 p0 30 (.nck (.t 29)),
 p0 31 (.fadr 0 (.t 30)),
 p0 32 (.ld (.t 31)),
 p0 33 (.mv (.t 1)),
 p0 34 (.slc 1 (.t 32) (some (.t 33)) none none),
 p0 35 (.nck (.t 28)),
 p0 36 (.fadr 0 (.t 35)),
 s0 (.st 1 (.t 36) (.t 34))])
 (.seq (.reg [
 p0 37 (.mv (.t 5)),
 p0 4 (.mv (.t 37))])
 .ret)))))
theorem ok78 : fnComp Tryz.prog 78 = some (38, c78, [(.mv (.t 4))]) := by kernel_rfl

def c79 : CC :=
 (.seq (.reg [
 p0 8 (.mv (.c (.int .i64 0)))])
 (.seq (.block 0 (.seq (.reg [
 p0 10 (.mv (.t 0)),
 p0 11 (.nck (.t 10)),
 p0 12 (.fadr 1 (.t 11)),
 p0 13 (.ld (.t 12)),
 p0 9 (.mv (.t 13))])
 (.cond (.t 9)
 (.seq (.reg [
 p0 8 (.mv (.c (.int .i64 2)))])
 .ret)
 (.seq (.reg [
 p0 15 (.mv (.t 0)),
 p0 16 (.nck (.t 15)),
 p0 17 (.fadr 0 (.t 16)),
 p0 18 (.ld (.t 17)),
 p0 19 (.len (.t 18)),
 p0 20 (.bin .gtr (.t 19) (.c (.int .i64 0))),
 p0 14 (.mv (.t 20))])
 (.cond (.t 14)
 (.seq (.reg [
 p0 8 (.mv (.c (.int .i64 5)))])
 .ret)
 (.seq (.reg [
 p0 22 (.mv (.t 1)),
 p0 23 (.mv (.t 2)),
 p0 24 (.bin .neq (.t 22) (.t 23)),
 p0 21 (.mv (.t 24))])
 (.cond (.t 21)
 (.seq (.reg [
 p0 8 (.mv (.c (.int .i64 9)))])
 .ret)
 (.seq (.reg [
 p0 26 (.mv (.t 3)),
 x0 27 (.call 26 [(.t 26)]),
 p0 28 (.un .not (.t 27)),
 p0 25 (.mv (.t 28))])
 (.cond (.t 25)
 (.seq (.reg [
 p0 8 (.mv (.c (.int .i64 6)))])
 .ret)
 .skip)))))))))
 (.seq (.reg [
 p0 8 (.mv (.c (.int .i64 0)))])
 .ret)))
theorem ok79 : fnComp Tryz.prog 79 = some (29, c79, [(.mv (.t 8))]) := by kernel_rfl

def c96 : CC :=
 (.seq (.reg [
 p0 2 (.mv (.c (.int .i64 0)))])
 (.seq (.reg [
 p0 3 (.mv (.c (.int .i64 0)))])
 (.seq (.seq (.reg [
 p0 6 (.mv (.t 0)),
 p0 7 (.len (.t 6)),
 p0 8 (.mv (.c (.int .i64 0)))])
 (.block 0 (.loop (.seq (.reg [
 p0 9 (.bin .lss (.t 8) (.t 7))])
 (.seq (.cond (.t 9)
 .skip
 (.exit 0))
 (.seq (.block 1 (.seq (.reg [
 p0 10 (.iadr 1 (.t 6) (.t 8)),
 p0 11 (.ld (.t 10)),
 p0 5 (.mv (.t 11))])
 (.reg [
 p0 12 (.mv (.t 3)),
 p0 13 (.bin .shl (.t 12) (.c (.int .u64 8))),
 p0 14 (.mv (.t 5)),
 p0 15 (.cvI .i64 (.t 14)),
 p0 16 (.bin .or (.t 13) (.t 15)),
 p0 3 (.mv (.t 16))])))
 (.reg [
 p0 17 (.bin .add (.t 8) (.c (.int .i64 1))),
 p0 8 (.mv (.t 17))])))))))
 (.seq (.reg [
 p0 18 (.mv (.t 3)),
 p0 2 (.mv (.t 18))])
 .ret))))
theorem ok96 : fnComp Tryz.prog 96 = some (19, c96, [(.mv (.t 2))]) := by kernel_rfl

def c92 : CC :=
 (.seq (.reg [
 x0 1 (.box 101 5 (.t 0)),
 p0 2 (.mv (.c (.bool false)))])
 (.seq (.seq (.reg [
 p0 4 (.fadr 0 (.t 1)),
 p0 5 (.ld (.t 4)),
 x0 6 (.call 19 [(.t 5)]),
 p0 7 (.un .not (.t 6)),
 p0 8 (.mv (.t 7)),
 g0 9 8 false (.fadr 3 (.t 1)),
 g0 10 8 false (.ld (.t 9)),
 ⟨(some 11), (some (8, false)), .x (.call 46 [(.t 10)])⟩,
 g0 12 8 false (.un .not (.t 11)),
 p0 13 (.pick (.t 8) (.c (.bool true)) (.t 12)),
 p0 14 (.mv (.t 13)),
 g0 15 14 false (.fadr 1 (.t 1)),
 g0 16 14 false (.ld (.t 15)),
 ⟨(some 17), (some (14, false)), .x (.call 44 [(.t 16), (.c (.int .i64 0)), (.c (.int .i64 255))])⟩,
 g0 18 14 false (.un .not (.t 17)),
 p0 19 (.pick (.t 14) (.c (.bool true)) (.t 18)),
 p0 20 (.mv (.t 19)),
 g0 21 20 false (.fadr 2 (.t 1)),
 g0 22 20 false (.ld (.t 21)),
 ⟨(some 23), (some (20, false)), .x (.call 44 [(.t 22), (.c (.int .i64 0)), (.c (.int .i64 86400))])⟩,
 g0 24 20 false (.un .not (.t 23)),
 p0 25 (.pick (.t 20) (.c (.bool true)) (.t 24)),
 p0 26 (.mv (.t 25)),
 g0 27 26 false (.fadr 4 (.t 1)),
 g0 28 26 false (.ld (.t 27)),
 g0 29 26 false (.len (.t 28)),
 g0 30 26 false (.bin .gtr (.t 29) (.c (.int .i64 8))),
 p0 31 (.pick (.t 26) (.c (.bool true)) (.t 30))])
 (.cond (.t 31)
 (.seq (.reg [
 p0 2 (.mv (.c (.bool false)))])
 .ret)
 .skip))
 (.seq (.seq (.reg [
 p0 3 (.mv (.c (.int .i64 0)))])
 (.block 0 (.loop (.seq (.seq (.reg [
 p0 32 (.mv (.t 3)),
 p0 33 (.fadr 4 (.t 1)),
 p0 34 (.ld (.t 33)),
 p0 35 (.len (.t 34)),
 p0 36 (.bin .lss (.t 32) (.t 35))])
 (.cond (.t 36)
 .skip
 (.exit 0)))
 (.seq (.block 1 (.seq (.reg [
 p0 39 (.fadr 4 (.t 1)),
 p0 40 (.ld (.t 39)),
 p0 41 (.mv (.t 3)),
 p0 42 (.iadr 1 (.t 40) (.t 41)),
 p0 43 (.ld (.t 42)),
 x0 44 (.call 45 [(.t 43)]),
 p0 45 (.un .not (.t 44))])
 (.cond (.t 45)
 (.seq (.reg [
 p0 2 (.mv (.c (.bool false)))])
 .ret)
 .skip)))
 (.reg [
 p0 37 (.mv (.t 3)),
 p0 38 (.bin .add (.t 37) (.c (.int .i64 1))),
 p0 3 (.mv (.t 38))]))))))
 (.seq (.reg [
 p0 2 (.mv (.c (.bool true)))])
 .ret))))
theorem ok92 : fnComp Tryz.prog 92 = some (46, c92, [(.mv (.t 2))]) := by kernel_rfl

def c80 : CC :=
 (.seq (.reg [
 x0 1 (.box 101 5 (.t 0)),
 p0 2 (.mv (.c (.bool false)))])
 (.seq (.seq (.reg [
 p0 3 (.fadr 0 (.t 1)),
 p0 4 (.ld (.t 3)),
 p0 5 (.bin .lss (.t 4) (.c (.int .i64 0))),
 p0 6 (.mv (.t 5)),
 g0 7 6 false (.fadr 0 (.t 1)),
 g0 8 6 false (.ld (.t 7)),
 g0 9 6 false (.bin .gtr (.t 8) (.c (.int .i64 65535))),
 p0 10 (.pick (.t 6) (.c (.bool true)) (.t 9)),
 p0 11 (.mv (.t 10)),
 g0 12 11 false (.fadr 1 (.t 1)),
 g0 13 11 false (.ld (.t 12)),
 g0 14 11 false (.bin .lss (.t 13) (.c (.int .i64 0))),
 p0 15 (.pick (.t 11) (.c (.bool true)) (.t 14)),
 p0 16 (.mv (.t 15)),
 g0 17 16 false (.fadr 1 (.t 1)),
 g0 18 16 false (.ld (.t 17)),
 g0 19 16 false (.bin .gtr (.t 18) (.c (.int .i64 255))),
 p0 20 (.pick (.t 16) (.c (.bool true)) (.t 19)),
 p0 21 (.mv (.t 20)),
 g0 22 21 false (.fadr 2 (.t 1)),
 g0 23 21 false (.ld (.t 22)),
 g0 24 21 false (.bin .lss (.t 23) (.c (.int .i64 0))),
 p0 25 (.pick (.t 21) (.c (.bool true)) (.t 24)),
 p0 26 (.mv (.t 25)),
 g0 27 26 false (.fadr 2 (.t 1)),
 g0 28 26 false (.ld (.t 27)),
 g0 29 26 false (.bin .gtr (.t 28) (.c (.int .i64 86400))),
 p0 30 (.pick (.t 26) (.c (.bool true)) (.t 29)),
 p0 31 (.mv (.t 30)),
 g0 32 31 false (.fadr 4 (.t 1)),
 g0 33 31 false (.ld (.t 32)),
 g0 34 31 false (.len (.t 33)),
 g0 35 31 false (.bin .gtr (.t 34) (.c (.int .i64 8))),
 p0 36 (.pick (.t 31) (.c (.bool true)) (.t 35))])
 (.cond (.t 36)
 (.seq (.reg [
 p0 2 (.mv (.c (.bool false)))])
 .ret)
 .skip))
 (.seq (.reg [
 p0 37 (.fadr 4 (.t 1)),
 p0 38 (.ld (.t 37)),
 x0 39 (.call 52 [(.t 38), (.fn 97)]),
 p0 40 (.un .not (.t 39)),
 p0 2 (.mv (.t 40))])
 .ret)))
theorem ok80 : fnComp Tryz.prog 80 = some (41, c80, [(.mv (.t 2))]) := by kernel_rfl

def c45 : CC :=
 (.seq (.reg [
 p0 2 (.mv (.c (.bool false)))])
 (.seq (.reg [
 p0 3 (.mv (.t 0)),
 x0 4 (.call 44 [(.t 3), (.c (.int .i64 0)), (.c (.int .i64 4294967295))]),
 p0 2 (.mv (.t 4))])
 .ret))
theorem ok45 : fnComp Tryz.prog 45 = some (5, c45, [(.mv (.t 2))]) := by kernel_rfl

def c75 : CC :=
 (.seq (.reg [
 p0 2 (.mv (.c (.bool false)))])
 (.seq (.reg [
 p0 3 (.mv (.t 0)),
 p0 4 (.bin .geq (.t 3) (.c (.int .i64 0))),
 p0 5 (.mv (.t 4)),
 g0 6 5 true (.mv (.t 0)),
 g0 7 5 true (.bin .leq (.t 6) (.c (.int .i64 4294967295))),
 p0 8 (.pick (.t 5) (.t 7) (.c (.bool false))),
 p0 2 (.mv (.t 8))])
 .ret))
theorem ok75 : fnComp Tryz.prog 75 = some (9, c75, [(.mv (.t 2))]) := by kernel_rfl

def c52 : CC :=
 (.seq (.reg [
 p0 4 (.mv (.c (.bool false)))])
 (.seq (.reg [
 p0 5 (.mv (.t 0)),
 p0 6 (.mv (.t 1)),
 x0 7 (.call 74 [(.t 5), (.t 6)]),
 p0 8 (.bin .geq (.t 7) (.c (.int .i64 0))),
 p0 4 (.mv (.t 8))])
 .ret))
theorem ok52 : fnComp Tryz.prog 52 = some (9, c52, [(.mv (.t 4))]) := by kernel_rfl

def c97 : CC :=
 (.seq (.reg [
 p0 2 (.mv (.c (.bool false)))])
 (.seq (.reg [
 p0 3 (.mv (.t 0)),
 x0 4 (.call 75 [(.t 3)]),
 p0 5 (.un .not (.t 4)),
 p0 2 (.mv (.t 5))])
 .ret))
theorem ok97 : fnComp Tryz.prog 97 = some (6, c97, [(.mv (.t 2))]) := by kernel_rfl

def c74 : CC :=
 (.seq (.reg [
 p0 4 (.mv (.c (.int .i64 0)))])
 (.seq (.seq (.reg [
 p0 6 (.mv (.t 0)),
 p0 7 (.len (.t 6)),
 p0 8 (.mv (.c (.int .i64 0)))])
 (.block 0 (.loop (.seq (.reg [
 p0 9 (.bin .lss (.t 8) (.t 7))])
 (.seq (.cond (.t 9)
 .skip
 (.exit 0))
 (.seq (.block 1 (.seq (.reg [
 p0 10 (.mv (.t 8)),
 p0 5 (.mv (.t 10))])
 (.seq (.reg [
 p0 11 (.mv (.t 1)),
 p0 12 (.mv (.t 0)),
 p0 13 (.mv (.t 5)),
 p0 14 (.iadr 1 (.t 12) (.t 13)),
 p0 15 (.ld (.t 14)),
 x0 16 (.callv (.t 11) [(.t 15)])])
 (.cond (.t 16)
 (.seq (.reg [
 p0 17 (.mv (.t 5)),
 p0 4 (.mv (.t 17))])
 .ret)
 .skip))))
 (.reg [
 p0 18 (.bin .add (.t 8) (.c (.int .i64 1))),
 p0 8 (.mv (.t 18))])))))))
 (.seq (.reg [
 p0 4 (.mv (.c (.int .i64 (-1))))])
 .ret)))
theorem ok74 : fnComp Tryz.prog 74 = some (19, c74, [(.mv (.t 4))]) := by kernel_rfl

def c57 : CC :=
 (.seq (.reg [
 x0 2 (.zero 101 5 [(.int .i64 0), (.int .i64 0), (.int .i64 0), (.str []), .nilslice]),
 p0 3 (.mv (.c (.int .i64 0)))])
 (.seq (.reg [
 p0 9 (.mv (.t 0)),
 p0 10 (.build [.nilslice, (.bool false)] [(0, 1, (.t 9))]),
 x0 11 (.box 127 2 (.t 10)),
 p0 4 (.mv (.t 11))])
 (.seq (.reg [
 p0 12 (.mv (.t 4)),
 x0 13 (.call 77 [(.t 12), (.c (.int .i64 2))]),
 p0 14 (.build [(.int .i64 0), (.int .i64 0), (.int .i64 0), (.str []), .nilslice] [(0, 1, (.t 13))]),
 x0 5 (.zero 101 5 [(.int .i64 0), (.int .i64 0), (.int .i64 0), (.str []), .nilslice]),
 s0 (.st 5 (.t 5) (.t 14))])
 (.seq (.reg [
 p0 15 (.mv (.t 4)),
 x0 16 (.call 77 [(.t 15), (.c (.int .i64 1))]),
 p0 6 (.mv (.t 16))])
 (.seq (.reg [
 p0 17 (.mv (.t 4)),
 x0 18 (.call 77 [(.t 17), (.c (.int .i64 1))]),
 p0 19 (.mv (.t 4)),
 x0 20 (.call 77 [(.t 19), (.c (.int .i64 4))]),
 p0 21 (.fadr 1 (.t 5)),
 s0 (.st 1 (.t 21) (.t 18)),
 p0 22 (.fadr 2 (.t 5)),
 s0 (.st 1 (.t 22) (.t 20))])
 (.seq (.reg [
 p0 23 (.mv (.t 4)),
 p0 24 (.mv (.t 4)),
 x0 25 (.call 77 [(.t 24), (.c (.int .i64 1))]),
 x0 26 (.call 78 [(.t 23), (.t 25)]),
 p0 27 (.b2s (.t 26)),
 p0 28 (.fadr 3 (.t 5)),
 s0 (.st 1 (.t 28) (.t 27))])
 (.seq (.seq (.reg [
 p0 29 (.mv (.t 4)),
 x0 30 (.call 77 [(.t 29), (.c (.int .i64 1))]),
 p0 7 (.mv (.t 30))])
 (.block 0 (.loop (.seq (.seq (.reg [
 p0 31 (.mv (.t 7)),
 p0 32 (.bin .gtr (.t 31) (.c (.int .i64 0))),
 p0 33 (.mv (.t 32)),
 g0 34 33 true (.mv (.t 4)),
 g0 35 33 true (.nck (.t 34)),
 g0 36 33 true (.fadr 1 (.t 35)),
 g0 37 33 true (.ld (.t 36)),
 g0 38 33 true (.un .not (.t 37)),
 p0 39 (.pick (.t 33) (.t 38) (.c (.bool false)))])
 (.cond (.t 39)
 .skip
 (.exit 0)))
 (.seq (.block 1 (.dreg [
 p0 42 (.fadr 4 (.t 5)),
 p0 43 (.ld (.t 42)),
 p0 44 (.mv (.t 4)),
 x0 45 (.call 77 [(.t 44), (.c (.int .i64 4))]),
 x0 46 (.bslice 2 1 [(.int .i64 0)] 1 [(0, (.t 45))]),
 x0 47 (.app 2 1 8 (.t 43) (.t 46)),
 p0 48 (.fadr 4 (.t 5)),
 s0 (.st 1 (.t 48) (.t 47))]
 [false, false, false, true, true, true, false, true] [[],[0],[],[2],[3,2],[1,0,4,3,2],[0,1,2,3,4,5],[6,0,1,2,3,4,5]] [0,1,2,3,4,5,6,7]))
 (.reg [
 p0 40 (.mv (.t 7)),
 p0 41 (.bin .sub (.t 40) (.c (.int .i64 1))),
 p0 7 (.mv (.t 41))]))))))
 (.seq (.reg [
 p0 49 (.mv (.t 4)),
 p0 50 (.mv (.t 6)),
 p0 51 (.fadr 3 (.t 5)),
 p0 52 (.ld (.t 51)),
 x0 53 (.call 79 [(.t 49), (.t 50), (.c (.int .i64 1)), (.t 52)]),
 p0 8 (.mv (.t 53))])
 (.seq (.seq (.reg [
 p0 54 (.mv (.t 8)),
 p0 55 (.bin .eql (.t 54) (.c (.int .i64 0))),
 p0 56 (.mv (.t 55)),
 g0 57 56 true (.ldA 5 (.t 5)),
 ⟨(some 58), (some (56, true)), .x (.call 80 [(.t 57)])⟩,
 g0 59 56 true (.un .not (.t 58)),
 p0 60 (.pick (.t 56) (.t 59) (.c (.bool false)))])
 (.cond (.t 60)
 (.reg [
 p0 8 (.mv (.c (.int .i64 1)))])
 .skip))
 (.seq (.seq (.reg [
 p0 61 (.mv (.t 8)),
 p0 62 (.bin .neq (.t 61) (.c (.int .i64 0)))])
 (.cond (.t 62)
 (.seq (.reg [
 p0 63 (.build [(.int .i64 0), (.int .i64 0), (.int .i64 0), (.str []), .nilslice] []),
 p0 64 (.mv (.t 8)),
 s0 (.st 5 (.t 2) (.t 63)),
 p0 3 (.mv (.t 64))])
 .ret)
 .skip))
 (.seq (.reg [
 p0 65 (.ldA 5 (.t 5)),
 s0 (.st 5 (.t 2) (.t 65)),
 p0 3 (.mv (.c (.int .i64 0)))])
 .ret)))))))))))
theorem ok57 : fnComp Tryz.prog 57 = some (66, c57, [(.ldA 5 (.t 2)), (.mv (.t 3))]) := by kernel_rfl

def c71 : CC :=
 (.seq (.reg [
 x0 2 (.zero 101 5 [(.int .i64 0), (.int .i64 0), (.int .i64 0), (.str []), .nilslice]),
 p0 3 (.mv (.c (.int .i64 0)))])
 (.seq (.reg [
 p0 9 (.mv (.t 0)),
 x0 10 (.call 90 [(.t 9), (.c (.int .i64 8))]),
 p0 8 (.mv (.t 10)),
 p0 11 (.ext 0 (.t 8)),
 p0 12 (.ext 1 (.t 8)),
 p0 4 (.mv (.t 11)),
 p0 5 (.mv (.t 12))])
 (.seq (.seq (.reg [
 p0 13 (.mv (.t 5)),
 p0 14 (.bin .lss (.t 13) (.c (.int .i64 0))),
 p0 15 (.mv (.t 14)),
 g0 16 15 false (.mv (.t 5)),
 g0 17 15 false (.mv (.t 0)),
 g0 18 15 false (.len (.t 17)),
 g0 19 15 false (.bin .geq (.t 16) (.t 18)),
 p0 20 (.pick (.t 15) (.c (.bool true)) (.t 19)),
 p0 21 (.mv (.t 20)),
 g0 22 21 false (.mv (.t 5)),
 g0 23 21 false (.bin .add (.t 22) (.c (.int .i64 1))),
 g0 24 21 false (.mv (.t 0)),
 g0 25 21 false (.mv (.t 5)),
 g0 26 21 false (.iadr 1 (.t 24) (.t 25)),
 g0 27 21 false (.ld (.t 26)),
 g0 28 21 false (.cvI .i64 (.t 27)),
 g0 29 21 false (.bin .mul (.c (.int .i64 4)) (.t 28)),
 g0 30 21 false (.bin .add (.t 23) (.t 29)),
 g0 31 21 false (.mv (.t 0)),
 g0 32 21 false (.len (.t 31)),
 g0 33 21 false (.bin .gtr (.t 30) (.t 32)),
 p0 34 (.pick (.t 21) (.c (.bool true)) (.t 33))])
 (.cond (.t 34)
 (.seq (.reg [
 p0 35 (.build [(.int .i64 0), (.int .i64 0), (.int .i64 0), (.str []), .nilslice] []),
 s0 (.st 5 (.t 2) (.t 35)),
 p0 3 (.mv (.c (.int .i64 2)))])
 .ret)
 .skip))
 (.seq (.seq (.reg [
 p0 36 (.mv (.t 5)),
 p0 37 (.bin .add (.t 36) (.c (.int .i64 1))),
 p0 38 (.mv (.t 0)),
 p0 39 (.mv (.t 5)),
 p0 40 (.iadr 1 (.t 38) (.t 39)),
 p0 41 (.ld (.t 40)),
 p0 42 (.cvI .i64 (.t 41)),
 p0 43 (.bin .mul (.c (.int .i64 4)) (.t 42)),
 p0 44 (.bin .add (.t 37) (.t 43)),
 p0 45 (.mv (.t 0)),
 p0 46 (.len (.t 45)),
 p0 47 (.bin .lss (.t 44) (.t 46))])
 (.cond (.t 47)
 (.seq (.reg [
 p0 48 (.build [(.int .i64 0), (.int .i64 0), (.int .i64 0), (.str []), .nilslice] []),
 s0 (.st 5 (.t 2) (.t 48)),
 p0 3 (.mv (.c (.int .i64 5)))])
 .ret)
 .skip))
 (.seq (.seq (.reg [
 p0 49 (.mv (.t 0)),
 p0 50 (.iadr 1 (.t 49) (.c (.int .i64 2))),
 p0 51 (.ld (.t 50)),
 p0 52 (.bin .neq (.t 51) (.c (.int .u8 1)))])
 (.cond (.t 52)
 (.seq (.reg [
 p0 53 (.build [(.int .i64 0), (.int .i64 0), (.int .i64 0), (.str []), .nilslice] []),
 s0 (.st 5 (.t 2) (.t 53)),
 p0 3 (.mv (.c (.int .i64 9)))])
 .ret)
 .skip))
 (.seq (.seq (.reg [
 p0 54 (.mv (.t 4)),
 x0 55 (.call 46 [(.t 54)]),
 p0 56 (.un .not (.t 55))])
 (.cond (.t 56)
 (.seq (.reg [
 p0 57 (.build [(.int .i64 0), (.int .i64 0), (.int .i64 0), (.str []), .nilslice] []),
 s0 (.st 5 (.t 2) (.t 57)),
 p0 3 (.mv (.c (.int .i64 6)))])
 .ret)
 .skip))
 (.seq (.treg [
 p0 58 (.mv (.t 0)),
 p0 59 (.slc 1 (.t 58) none (some (.c (.int .i64 2))) none),
 x0 60 (.call 91 [(.t 59)]),
 p0 61 (.mv (.t 0)),
 p0 62 (.iadr 1 (.t 61) (.c (.int .i64 3))),
 p0 63 (.ld (.t 62)),
 p0 64 (.cvI .i64 (.t 63)),
 p0 65 (.mv (.t 0)),
 p0 66 (.slc 1 (.t 65) (some (.c (.int .i64 4))) (some (.c (.int .i64 8))) none),
 x0 67 (.call 91 [(.t 66)]),
 p0 68 (.mv (.t 4)),
 p0 69 (.build [(.int .i64 0), (.int .i64 0), (.int .i64 0), (.str []), .nilslice] [(0, 1, (.t 60)), (1, 1, (.t 64)), (2, 1, (.t 67)), (3, 1, (.t 68))]),
 x0 6 (.zero 101 5 [(.int .i64 0), (.int .i64 0), (.int .i64 0), (.str []), .nilslice]),
 s0 (.st 5 (.t 6) (.t 69))]
 [[],[0],[1,0],[],[3],[4,3],[5,4,3],[],[7],[8,7,2,1,0],[],[2,1,0,6,5,4,3,9,8,7,10],[],[12,11,2,1,0,6,5,4,3,9,8,7,10]] (.fl 0 (.fl 1 (.fl 3 (.fl 4 (.fl 5 (.fl 6 (.fl 7 (.fl 8 (.fl 10 (.br 2 (.br 9 (.fl 11 (.br 12 (.br 13 .fin .stop) .stop)) (.br 12 (.br 9 (.fl 11 (.br 13 .fin .stop)) .stop) .stop)) (.br 12 (.br 2 (.br 9 (.fl 11 (.br 13 .fin .stop)) .stop) .stop) .stop))))))))))))
 (.seq (.seq (.reg [
 p0 70 (.mv (.t 5)),
 p0 71 (.bin .add (.t 70) (.c (.int .i64 1))),
 p0 7 (.mv (.t 71))])
 (.block 0 (.loop (.seq (.seq (.reg [
 p0 72 (.mv (.t 7)),
 p0 73 (.mv (.t 0)),
 p0 74 (.len (.t 73)),
 p0 75 (.bin .lss (.t 72) (.t 74))])
 (.cond (.t 75)
 .skip
 (.exit 0)))
 (.seq (.block 1 (.dreg [
 p0 78 (.fadr 4 (.t 6)),
 p0 79 (.ld (.t 78)),
 p0 80 (.mv (.t 0)),
 p0 81 (.mv (.t 7)),
 p0 82 (.mv (.t 7)),
 p0 83 (.bin .add (.t 82) (.c (.int .i64 4))),
 p0 84 (.slc 1 (.t 80) (some (.t 81)) (some (.t 83)) none),
 x0 85 (.call 91 [(.t 84)]),
 x0 86 (.bslice 2 1 [(.int .i64 0)] 1 [(0, (.t 85))]),
 x0 87 (.app 2 1 8 (.t 79) (.t 86)),
 p0 88 (.fadr 4 (.t 6)),
 s0 (.st 1 (.t 88) (.t 87))]
 [false, false, false, false, false, false, false, true, true, true, false, true] [[],[0],[],[],[],[4],[2,3,5,4],[6,2,3,5,4],[7,6,2,3,5,4],[1,0,8,7,6,2,3,5,4],[0,1,2,3,4,5,6,7,8,9],[10,0,1,2,3,4,5,6,7,8,9]] [0,1,2,3,4,5,6,7,8,9,10,11]))
 (.reg [
 p0 76 (.mv (.t 7)),
 p0 77 (.bin .add (.t 76) (.c (.int .i64 4))),
 p0 7 (.mv (.t 77))]))))))
 (.seq (.seq (.reg [
 p0 89 (.ldA 5 (.t 6)),
 x0 90 (.call 92 [(.t 89)]),
 p0 91 (.un .not (.t 90))])
 (.cond (.t 91)
 (.seq (.reg [
 p0 92 (.build [(.int .i64 0), (.int .i64 0), (.int .i64 0), (.str []), .nilslice] []),
 s0 (.st 5 (.t 2) (.t 92)),
 p0 3 (.mv (.c (.int .i64 1)))])
 .ret)
 .skip))
 (.seq (.reg [
 p0 93 (.ldA 5 (.t 6)),
 s0 (.st 5 (.t 2) (.t 93)),
 p0 3 (.mv (.c (.int .i64 0)))])
 .ret))))))))))
theorem ok71 : fnComp Tryz.prog 71 = some (94, c71, [(.ldA 5 (.t 2)), (.mv (.t 3))]) := by kernel_rfl

end Go.Proofs.YtaoffieemecioaaGreatDoor


namespace Go.Proofs.YtaoffieemecioaaGreatDoor
open Go Go.IW

def sRow (s : List UInt8) : List IV := [.str s]

set_option maxRecDepth 20000 in
theorem idxB_c (h : IH) (s : List UInt8) (c : UInt8) : ICalls Tryz.prog 112 [.str s, .int .u8 c.toNat] h fun r h' => r = .int .i64 (Lib.indexByte s c) ∧ h' = h := by
  have := idxByte_calls (P := Tryz.prog) (f := 112) Tryz.func112 (by kernel_rfl) (by kernel_rfl) (by kernel_rfl) (by kernel_rfl) h s c.toNat
  simpa using this
set_option maxRecDepth 20000 in
theorem cntB_c (h : IH) (s : List UInt8) (c : UInt8) : ICalls Tryz.prog 104 [.str s, .int .u8 c.toNat] h fun r h' => r = .int .i64 (s.count c : Nat) ∧ h' = h := by
  have := cntByte_calls (P := Tryz.prog) (f := 104) Tryz.func104 (by kernel_rfl) (by kernel_rfl) (by kernel_rfl) (by kernel_rfl) h s c.toNat
  simpa [Lib.countByte] using this

theorem idxS_at {s : List UInt8} {k : Nat} {q : IntKind} {b : UInt8} (hb : s[k]? = some b) : idxSF (.str s) (.int q (k : Int)) = some (.int .u8 b.toNat) :=
  idxSF_of (by omega) (by simpa using hb)

section
attribute [local go_sem] boxA_1 boxA_2 boxA_3 bslA_1 List.getElem?_cons_zero List.getElem?_cons_succ Option.bind_some List.map_cons List.map_nil Nat.zero_add if_true List.getD_cons_zero List.getD_cons_succ List.contains_cons List.contains_nil Bool.or_true Bool.true_or Bool.or_false Bool.false_or Bool.not_true Bool.not_false true_and and_true
set_option maxRecDepth 20000 in
theorem sIndexByte_c (h : IH) (s : List UInt8) (c : UInt8) : ICalls Tryz.prog 108 [.str s, .int .u8 c.toNat] h fun r h' => r = .int .i64 (Lib.indexByte s c) ∧ h' = h := by
  refine icalls (.of ok108) (Nat.le_of_ble_eq_true rfl) ?_
  unfold c108
  simp only [go_sem, ↓act_zero, Hold.p, HoldK.k, HoldL.K, HoldL.body, Nat.reduceBEq, Nat.reduceAdd, reduceIte, Nat.reduceEqDiff, Nat.reduceLT, Nat.reduceLeDiff]
  refine callA_of (idxB_c h s c) ?_
  rintro r h' ⟨rfl, rfl⟩
  simp only [go_sem, ↓act_zero, Hold.p, HoldK.k, HoldL.K, HoldL.body, Nat.reduceBEq, Nat.reduceAdd, reduceIte, Nat.reduceEqDiff, Nat.reduceLT, Nat.reduceLeDiff]
end
set_option maxRecDepth 20000 in
theorem sIndex_c (h : IH) (s : List UInt8) (c : UInt8) : ICalls Tryz.prog 105 [.str s, .str [c]] h fun r h' => r = .int .i64 (Lib.indexByte s c) ∧ h' = h := by
  refine icalls (.of ok105) (Nat.le_of_ble_eq_true rfl) ?_
  unfold c105
  have d0 : decide ((([c] : List UInt8).length : Int) = 0) = false := rfl
  have d1 : decide ((([c] : List UInt8).length : Int) = 1) = true := rfl
  have hi : idxSF (.str [c]) (.int .i64 0) = some (.int .u8 c.toNat) := rfl
  simp only [d0, d1, hi, go_sem, ↓act_zero, boxA_1, boxA_2, boxA_3, bslA_1, Hold.p, HoldK.k, HoldL.K, HoldL.body, Nat.reduceBEq, Nat.reduceAdd, List.getElem?_cons_zero, List.getElem?_cons_succ, Option.bind_some, mc0, mn0, Nat.zero_add, if_true, List.getD_cons_zero, List.getD_cons_succ, List.contains_cons, List.contains_nil, Nat.reduceBEq, Bool.or_true, Bool.true_or, Bool.or_false, Bool.false_or, Bool.not_true, Bool.not_false, true_and, and_true]
  by_cases hc : ([c] : List UInt8) = s
  · have hd : decide (([c] : List UInt8) = s) = true := by simpa using hc
    simp only [hd, go_sem, ↓act_zero, boxA_1, boxA_2, boxA_3, bslA_1, Hold.p, HoldK.k, HoldL.K, HoldL.body, Nat.reduceBEq, Nat.reduceAdd, List.getElem?_cons_zero, List.getElem?_cons_succ, Option.bind_some, mc0, mn0, Nat.zero_add, if_true, List.getD_cons_zero, List.getD_cons_succ, List.contains_cons, List.contains_nil, Nat.reduceBEq, Bool.or_true, Bool.true_or, Bool.or_false, Bool.false_or, Bool.not_true, Bool.not_false, true_and, and_true]
    subst hc
    simp [Lib.indexByte]
  · have hd : decide (([c] : List UInt8) = s) = false := by simpa using hc
    simp only [hd, d1, hi, go_sem, ↓act_zero, boxA_1, boxA_2, boxA_3, bslA_1, Hold.p, HoldK.k, HoldL.K, HoldL.body, Nat.reduceBEq, Nat.reduceAdd, List.getElem?_cons_zero, List.getElem?_cons_succ, Option.bind_some, mc0, mn0, Nat.zero_add, if_true, List.getD_cons_zero, List.getD_cons_succ, List.contains_cons, List.contains_nil, Nat.reduceBEq, Bool.or_true, Bool.true_or, Bool.or_false, Bool.false_or, Bool.not_true, Bool.not_false, true_and, and_true]
    refine callA_of (sIndexByte_c h s c) ?_
    rintro r h' ⟨rfl, rfl⟩
    simp only [go_sem, ↓act_zero, boxA_1, boxA_2, boxA_3, bslA_1, Hold.p, HoldK.k, HoldL.K, HoldL.body, Nat.reduceBEq, Nat.reduceAdd, List.getElem?_cons_zero, List.getElem?_cons_succ, Option.bind_some, mc0, mn0, Nat.zero_add, if_true, List.getD_cons_zero, List.getD_cons_succ, List.contains_cons, List.contains_nil, Nat.reduceBEq, Bool.or_true, Bool.true_or, Bool.or_false, Bool.false_or, Bool.not_true, Bool.not_false, true_and, and_true]

section
attribute [local go_sem] boxA_1 boxA_2 boxA_3 bslA_1 List.getElem?_cons_zero List.getElem?_cons_succ Option.bind_some List.map_cons List.map_nil Nat.zero_add if_true List.getD_cons_zero List.getD_cons_succ List.contains_cons List.contains_nil Bool.or_true Bool.true_or Bool.or_false Bool.false_or Bool.not_true Bool.not_false true_and and_true
set_option maxRecDepth 20000 in
theorem index_c (h : IH) (s : List UInt8) (c : UInt8) : ICalls Tryz.prog 95 [.str s, .str [c]] h fun r h' => r = .int .i64 (Lib.indexByte s c) ∧ h' = h := by
  refine icalls (.of ok95) (Nat.le_of_ble_eq_true rfl) ?_
  unfold c95
  simp only [go_sem, ↓act_zero, Hold.p, HoldK.k, HoldL.K, HoldL.body, Nat.reduceBEq, Nat.reduceAdd, reduceIte, Nat.reduceEqDiff, Nat.reduceLT, Nat.reduceLeDiff]
  refine callA_of (sIndex_c h s c) ?_
  rintro r h' ⟨rfl, rfl⟩
  simp only [go_sem, ↓act_zero, Hold.p, HoldK.k, HoldL.K, HoldL.body, Nat.reduceBEq, Nat.reduceAdd, reduceIte, Nat.reduceEqDiff, Nat.reduceLT, Nat.reduceLeDiff]
end
set_option maxRecDepth 20000 in
theorem count_c (h : IH) (s : List UInt8) (c : UInt8) : ICalls Tryz.prog 94 [.str s, .str [c]] h fun r h' => r = .int .i64 (s.count c : Nat) ∧ h' = h := by
  refine icalls (.of ok94) (Nat.le_of_ble_eq_true rfl) ?_
  unfold c94
  have d0 : decide ((([c] : List UInt8).length : Int) = 0) = false := rfl
  have d1 : decide ((([c] : List UInt8).length : Int) = 1) = true := rfl
  have hi : idxSF (.str [c]) (.int .i64 0) = some (.int .u8 c.toNat) := rfl
  simp only [d0, d1, hi, go_sem, ↓act_zero, boxA_1, boxA_2, boxA_3, bslA_1, Hold.p, HoldK.k, HoldL.K, HoldL.body, Nat.reduceBEq, Nat.reduceAdd, List.getElem?_cons_zero, List.getElem?_cons_succ, Option.bind_some, mc0, mn0, Nat.zero_add, if_true, List.getD_cons_zero, List.getD_cons_succ, List.contains_cons, List.contains_nil, Nat.reduceBEq, Bool.or_true, Bool.true_or, Bool.or_false, Bool.false_or, Bool.not_true, Bool.not_false, true_and, and_true]
  refine callA_of (cntB_c h s c) ?_
  rintro r h' ⟨rfl, rfl⟩
  simp only [go_sem, ↓act_zero, boxA_1, boxA_2, boxA_3, bslA_1, Hold.p, HoldK.k, HoldL.K, HoldL.body, Nat.reduceBEq, Nat.reduceAdd, List.getElem?_cons_zero, List.getElem?_cons_succ, Option.bind_some, mc0, mn0, Nat.zero_add, if_true, List.getD_cons_zero, List.getD_cons_succ, List.contains_cons, List.contains_nil, Nat.reduceBEq, Bool.or_true, Bool.true_or, Bool.or_false, Bool.false_or, Bool.not_true, Bool.not_false, true_and, and_true]

theorem count_le_len (c : UInt8) (s : List UInt8) : s.count c ≤ s.length := List.count_le_length

section
attribute [local go_sem] boxA_1 boxA_2 boxA_3 bslA_1 List.getElem?_cons_zero List.getElem?_cons_succ Option.bind_some List.map_cons List.map_nil Nat.zero_add if_true List.getD_cons_zero List.getD_cons_succ List.contains_cons List.contains_nil Bool.or_true Bool.true_or Bool.or_false Bool.false_or Bool.not_true Bool.not_false true_and and_true rowA_whole push_n set_n push_obj set_obj set_push set_push_ne set_set Nat.add_assoc Nat.left_eq_add Nat.add_eq_left Nat.add_left_cancel_iff stO_1s stO_ws boxA_s one_bool one_int one_str one_ptr one_nilptr one_slice one_eslice one_nilslice one_func one_iface one_niliface List.all_cons List.all_nil List.length_cons List.length_nil Bool.and_true Nat.one_ne_zero Nat.succ_ne_zero if_false List.set_cons_zero List.set_cons_succ
set_option maxRecDepth 20000 in
theorem genSplit_c (h : IH) (s : List UInt8) (c : UInt8) (hm : s.length ≤ 1048576) : ICalls Tryz.prog 76 [.str s, .str [c], .int .i64 0, .int .i64 (-1)] h fun r h' => SlR h' 1 r ((cutAt c s).map sRow) ∧ Ext h h' := by
  refine icalls (.of ok76) (Nat.le_of_ble_eq_true rfl) ?_
  unfold c76
  have hcl := count_le_len c s
  have d0 : decide ((-1 : Int) = 0) = false := rfl
  have d1 : decide (([c] : List UInt8) = []) = false := by simp
  have d2 : decide ((-1 : Int) < 0) = true := rfl
  simp only [d0, d1, d2, go_sem, ↓act_zero, Hold.p, HoldK.k, HoldL.K, HoldL.body, Nat.reduceBEq, Nat.reduceAdd, reduceIte, Nat.reduceEqDiff, Nat.reduceLT, Nat.reduceLeDiff]
  refine callA_of (count_c h s c) ?_
  rintro r h' ⟨rfl, rfl⟩
  have w1 : wr .i64 ((s.count c : Int) + 1) = ((s.count c + 1 : Nat) : Int) := by rw [wr64 _ (by omega)]; rfl
  have w2 : wr .i64 ((s.length : Int) + 1) = ((s.length + 1 : Nat) : Int) := by rw [wr64 _ (by omega)]; rfl
  have hmin : min ((s.count c + 1 : Nat) : Int) ((s.length + 1 : Nat) : Int) = ((s.count c + 1 : Nat) : Int) := by omega
  have w3 : wr .i64 (((s.count c + 1 : Nat) : Int) - 1) = ((s.count c : Nat) : Int) := by rw [wr64 _ (by omega)]; omega
  simp only [w1, w2, hmin, go_sem, ↓act_zero, Hold.p, HoldK.k, HoldL.K, HoldL.body, Nat.reduceBEq, Nat.reduceAdd, reduceIte, Nat.reduceEqDiff, Nat.reduceLT, Nat.reduceLeDiff]
  refine mksA_of (by omega) (by omega) (by omega) ?_
  simp only [w3, go_sem, ↓act_zero, Hold.p, HoldK.k, HoldL.K, HoldL.body, Nat.reduceBEq, Nat.reduceAdd, reduceIte, Nat.reduceEqDiff, Nat.reduceLT, Nat.reduceLeDiff]
  generalize hq_g0 : IH.push h' (IObj.rows (List.replicate (s.count c + 1) [IV.str []]) 9 1 false) = g0
  have e_g0 : Ext h' g0 := by rw [← hq_g0]; exact (Ext.refl _).push _
  have l_g0 : g0.n = h'.n + 1 := by rw [← hq_g0]; rfl
  have ba : At g0 h'.n (IObj.rows (List.replicate (s.count c + 1) [IV.str []]) 9 1 false) := by rw [← hq_g0]; exact At.new _ _
  clear hq_g0
  refine loop_at (fun n e g => ∃ (t : List UInt8) (done : List (List UInt8)), n = t.count c ∧ cutAt c s = done ++ cutAt c t ∧ done.length + t.count c = s.count c ∧ t.length ≤ s.length ∧ e 0 = .str t ∧ e 1 = .str [c] ∧ e 2 = .int .i64 0 ∧ e 3 = .int .i64 (s.count c : Nat) ∧
    e 9 = .slice h'.n 0 (s.count c + 1) ∧ e 10 = .int .i64 (done.length : Nat) ∧ Ext h' g ∧ At g h'.n (.rows (done.map sRow ++ List.replicate (s.count c + 1 - done.length) [IV.str []]) 9 1 false)) (s.count c) ?_ ?_
  · refine ⟨s, [], rfl, rfl, by simp, Nat.le_refl _, ?_⟩
    simp only [go_sem, ↓act_zero, Hold.p, HoldK.k, HoldL.K, HoldL.body, Nat.reduceBEq, Nat.reduceAdd, reduceIte, Nat.reduceEqDiff, Nat.reduceLT, Nat.reduceLeDiff]
    exact ⟨rfl, e_g0, ba⟩
  · rintro n e g ⟨t, done, rfl, hcut, hcnt, htl, i0, i1, i2, i3, i9, i10, E, ba⟩
    have bae := ba.eq
    have bal := ba.lt
    simp only [i0, i1, i2, i3, i9, i10, go_sem, ↓act_zero, Hold.p, HoldK.k, HoldL.K, HoldL.body, Nat.reduceBEq, Nat.reduceAdd, reduceIte, Nat.reduceEqDiff, Nat.reduceLT, Nat.reduceLeDiff]
    have fin : t.count c = 0 → Lib.indexByte t c = -1 → True := fun _ _ => trivial
    refine test_dec (fun hlt => ?_) (fun hlt => ?_)
    · have hpos : 0 < t.count c := by omega
      simp only [i0, i1, i2, i3, i9, i10, go_sem, ↓act_zero, Hold.p, HoldK.k, HoldL.K, HoldL.body, Nat.reduceBEq, Nat.reduceAdd, reduceIte, Nat.reduceEqDiff, Nat.reduceLT, Nat.reduceLeDiff]
      refine callA_of (index_c g t c) ?_
      rintro r g' ⟨rfl, rfl⟩
      have hne : Lib.indexByte t c ≠ -1 := by
        intro h0
        have := cutAt_len c t
        rw [cutAt_none c h0] at this
        simp at this
        omega
      have hge := Lib.indexByte_ge t c
      obtain ⟨m, hidx⟩ : ∃ m : Nat, Lib.indexByte t c = m := ⟨(Lib.indexByte t c).toNat, by omega⟩
      obtain ⟨hml, hc2, hc3⟩ := cutAt_some c hidx
      have dm : decide ((m : Int) < 0) = false := by simp
      have w4 : wr .i64 ((m : Int) + 0) = (m : Int) := by rw [wr64 _ (by omega)]; omega
      have w5 : wr .i64 ((m : Int) + 1) = ((m + 1 : Nat) : Int) := by rw [wr64 _ (by omega)]; rfl
      have hs1 : slcSF (.str t) none (some (.int .i64 (m : Int))) = some (.str (t.take m)) := by
        rw [slcSF_of (boundF_of (by omega) (by omega)) rfl]; simp
      have hs2 : slcSF (.str t) (some (.int .i64 ((m + 1 : Nat) : Int))) none = some (.str (t.drop (m + 1))) := by
        rw [slcSF_of rfl (boundF_of (by omega) (by omega))]; simp
      have w6 : wr .i64 ((m : Int) + ((1 : Nat) : Int)) = ((m + 1 : Nat) : Int) := w5
      simp only [i0, i1, i2, i3, i9, i10, hidx, dm, w4, w5, hs1, hs2, w6, iadrF_sl, bae, iadrO_nat (show done.length < s.count c + 1 by omega), Option.map_some, Option.map_none, go_sem, ↓act_zero, Hold.p, HoldK.k, HoldL.K, HoldL.body, Nat.reduceBEq, Nat.reduceAdd, reduceIte, Nat.reduceEqDiff, Nat.reduceLT, Nat.reduceLeDiff]
      refine stO_of (k := 0) (cs := [IV.str (t.take m)]) (row := [IV.str []]) ?_ rfl (by simp) (by simp [IV.one]) ?_
      · rw [List.getElem?_append_right (by simp), List.length_map, Nat.sub_self, List.getElem?_replicate, if_pos (by omega)]
      have hw : wrt [IV.str []] 0 [IV.str (t.take m)] = [IV.str (t.take m)] := rfl
      rw [hw]
      simp only [hidx, dm, w4, w5, hs1, hs2, w6, i0, i1, i2, i3, i9, i10, Option.map_some, Option.map_none, go_sem, ↓act_zero, Hold.p, HoldK.k, HoldL.K, HoldL.body, Nat.reduceBEq, Nat.reduceAdd, reduceIte, Nat.reduceEqDiff, Nat.reduceLT, Nat.reduceLeDiff]
      refine ⟨_, ?_, t.drop (m + 1), done ++ [t.take m], rfl, ?_, ?_, ?_, rfl, ?_, ?_⟩
      · omega
      · rw [hcut, hc2]; simp
      · simp; omega
      · simp; omega
      · congr 2
        rw [wr64 _ (by omega)]; simp
      · exact ⟨E.set _ (by omega) _, by
          have e1 : (List.map sRow done ++ List.replicate (List.count c s + 1 - done.length) [IV.str []]).set done.length [IV.str (t.take m)] = List.map sRow (done ++ [t.take m]) ++ List.replicate (List.count c s + 1 - (done ++ [t.take m]).length) [IV.str []] := by
            obtain ⟨k, hk⟩ : ∃ k, List.count c s + 1 - done.length = k + 1 := ⟨List.count c s - done.length, by omega⟩
            have hk2 : List.count c s + 1 - (done ++ [t.take m]).length = k := by simp; omega
            rw [hk, hk2, List.set_append_right _ _ (by simp)]
            simp [List.replicate_succ, sRow]
          rw [← e1]
          exact ba.here⟩
    · have h0 : t.count c = 0 := by omega
      have hidx : Lib.indexByte t c = -1 := by
        have hge := Lib.indexByte_ge t c
        apply Classical.byContradiction
        intro hne
        obtain ⟨m, hm2⟩ : ∃ m : Nat, Lib.indexByte t c = m := ⟨(Lib.indexByte t c).toNat, by omega⟩
        have := (cutAt_some c hm2).2.2
        omega
      have hct := cutAt_none c hidx
      have hdl : done.length = s.count c := by omega
      have w4 : wr .i64 (((s.count c : Nat) : Int) + 1) = ((s.count c + 1 : Nat) : Int) := by rw [wr64 _ (by omega)]; rfl
      rw [hdl] at i10 bae
      have hsub : s.count c + 1 - s.count c = 1 := by omega
      rw [hsub] at bae
      simp only [i0, i1, i2, i3, i9, i10, iadrF_sl, bae, iadrO_nat (show s.count c < s.count c + 1 by omega), go_sem, ↓act_zero, Hold.p, HoldK.k, HoldL.K, HoldL.body, Nat.reduceBEq, Nat.reduceAdd, reduceIte, Nat.reduceEqDiff, Nat.reduceLT, Nat.reduceLeDiff]
      refine stO_of (k := 0) (cs := [IV.str t]) (row := [IV.str []]) ?_ rfl (by simp) (by simp [IV.one]) ?_
      · rw [List.getElem?_append_right (by simp; omega)]; simp [hdl]
      have hw : wrt [IV.str []] 0 [IV.str t] = [IV.str t] := rfl
      have e1 : (List.map sRow done ++ List.replicate 1 [IV.str []]).set (s.count c) [IV.str t] = (cutAt c s).map sRow := by
        rw [hcut, hct, List.set_append_right _ _ (by simp; omega)]
        simp [hdl, sRow]
      have hlen : ((cutAt c s).map sRow).length = s.count c + 1 := by rw [List.length_map, cutAt_len]
      rw [hw, e1]
      have hsl : ∀ hh : IH, hh.obj h'.n = .rows ((cutAt c s).map sRow) 9 1 false → slcF hh 1 (.slice h'.n 0 (s.count c + 1)) none (some (.int .i64 ((s.count c + 1 : Nat) : Int))) = some (.slice h'.n 0 (s.count c + 1)) := by
        intro hh ho
        rw [slcF_of (n := s.count c + 1) (a := 0) (b := s.count c + 1) hh rfl (by rw [boundF_of (by omega) (by omega)]; simp) rfl, islc_some hh (by omega) (Nat.le_refl _) (by rw [size_eq, ho]; rfl)]
        simp
      have hsl1 := hsl (g.set h'.n (.rows ((cutAt c s).map sRow) 9 1 false)) (set_here _ _ _)
      simp only [i0, i1, i2, i3, i9, i10, w4, hsl1, Option.map_some, Option.map_none, go_sem, ↓act_zero, Hold.p, HoldK.k, HoldL.K, HoldL.body, Nat.reduceBEq, Nat.reduceAdd, reduceIte, Nat.reduceEqDiff, Nat.reduceLT, Nat.reduceLeDiff]
      exact ⟨SlR.whole (set_here _ _ _) hlen (by simp only [set_n]; omega), E.set _ (by omega) _⟩

set_option maxRecDepth 20000 in
theorem split_c (h : IH) (s : List UInt8) (c : UInt8) (hm : s.length ≤ 1048576) : ICalls Tryz.prog 56 [.str s, .str [c]] h fun r h' => SlR h' 1 r ((cutAt c s).map sRow) ∧ Ext h h' := by
  refine icalls (.of ok56) (Nat.le_of_ble_eq_true rfl) ?_
  unfold c56
  simp only [go_sem, ↓act_zero, Hold.p, HoldK.k, HoldL.K, HoldL.body, Nat.reduceBEq, Nat.reduceAdd, reduceIte, Nat.reduceEqDiff, Nat.reduceLT, Nat.reduceLeDiff]
  refine callA_of (genSplit_c h s c hm) ?_
  rintro r h' ⟨hs, hE⟩
  simp only [go_sem, ↓act_zero, Hold.p, HoldK.k, HoldL.K, HoldL.body, Nat.reduceBEq, Nat.reduceAdd, reduceIte, Nat.reduceEqDiff, Nat.reduceLT, Nat.reduceLeDiff]
  exact ⟨hs, hE⟩

set_option maxRecDepth 20000 in
theorem l02Cut_c (h : IH) (s : List UInt8) (c : UInt8) (hm : s.length ≤ 1048576) : ICalls Tryz.prog 67 [.str s, .int .u8 c.toNat] h fun r h' => SlR h' 1 r ((cutAt c s).map sRow) ∧ Ext h h' := by
  refine icalls (.of ok67) (Nat.le_of_ble_eq_true rfl) ?_
  unfold c67
  simp only [go_sem, ↓act_zero, Hold.p, HoldK.k, HoldL.K, HoldL.body, Nat.reduceBEq, Nat.reduceAdd, reduceIte, Nat.reduceEqDiff, Nat.reduceLT, Nat.reduceLeDiff]
  refine loop_at (fun n e g => ∃ (k from_ : Nat) (v : IV) (lo hi : Nat) (out : List (List UInt8)), n = s.length - k ∧ k ≤ s.length ∧ from_ ≤ k ∧ e 0 = .str s ∧ e 1 = .int .u8 c.toNat ∧ e 5 = v ∧ e 6 = .int .i64 (from_ : Nat) ∧ e 7 = .int .i64 (k : Nat) ∧
    Ext h g ∧ h.n ≤ lo ∧ Own lo hi g 9 1 v (out.map sRow) ∧ hi ≤ g.n ∧ out.length ≤ k ∧ cutAt c (s.take k) = out ++ [(s.take k).drop from_]) s.length ?_ ?_
  · refine ⟨0, 0, .eslice true, h.n, h.n, [], by omega, by omega, by omega, ?_⟩
    simp only [go_sem, ↓act_zero, Hold.p, HoldK.k, HoldL.K, HoldL.body, Nat.reduceBEq, Nat.reduceAdd, reduceIte, Nat.reduceEqDiff, Nat.reduceLT, Nat.reduceLeDiff]
    exact ⟨rfl, rfl, Ext.refl _, Nat.le_refl _, Own.empty, Nat.le_refl _, by simp [cutAt]⟩
  · rintro n e g ⟨k, from_, v, lo, hi, out, rfl, hk, hf, i0, i1, i5, i6, i7, E, hlo, o, hhi, hol, hcut⟩
    have hle := E.le
    simp only [i0, i1, i5, i6, i7, go_sem, ↓act_zero, Hold.p, HoldK.k, HoldL.K, HoldL.body, Nat.reduceBEq, Nat.reduceAdd, reduceIte, Nat.reduceEqDiff, Nat.reduceLT, Nat.reduceLeDiff]
    refine test_dec (fun hlt => ?_) (fun hlt => ?_)
    · have hlt' : k < s.length := by omega
      have hkp : s[k]? = some s[k] := List.getElem?_eq_getElem hlt'
      generalize s[k] = b at hkp
      have hix := idxS_at (q := .i64) hkp
      have hn := cutAt_snoc c (s.take k) out _ b hcut
      have htk : s.take k ++ [b] = s.take (k + 1) := by rw [List.take_add_one, hkp]; rfl
      rw [htk] at hn
      by_cases hb : b = c
      · subst hb
        have w1 : wr .i64 ((k : Int) + 1) = ((k + 1 : Nat) : Int) := by rw [wr64 _ (by omega)]; rfl
        have hs1 : slcSF (.str s) (some (.int .i64 (from_ : Int))) (some (.int .i64 (k : Int))) = some (.str ((s.take k).drop from_)) := by
          rw [slcSF_of (boundF_of (by omega) (by omega)) (boundF_of (by omega) (by simp; omega))]; simp
        simp only [i0, i1, i5, i6, i7, hix, decide_true, hs1, w1, Option.map_some, Option.map_none, go_sem, ↓act_zero, Hold.p, HoldK.k, HoldL.K, HoldL.body, Nat.reduceBEq, Nat.reduceAdd, reduceIte, Nat.reduceEqDiff, Nat.reduceLT, Nat.reduceLeDiff]
        generalize hq_g1 : IH.push g (IObj.rows [[IV.str ((s.take k).drop from_)]] 9 1 false) = g1
        have e_g1 : Ext g g1 := by rw [← hq_g1]; exact (Ext.refl _).push _
        have l_g1 : g1.n = g.n + 1 := by rw [← hq_g1]; rfl
        have ba : At g1 g.n (IObj.rows [[IV.str ((s.take k).drop from_)]] 9 1 false) := by rw [← hq_g1]; exact At.new _ _
        clear hq_g1
        have o := o.ext e_g1
        have E := E.ext e_g1
        refine o.app (by simp) (by simp; omega) ?_
        intro v6 h6 o6 t6 n6 v6o v6c
        have E := E.turn o (by omega) t6
        have le_t6 := t6.le
        simp only [i0, i1, i5, i6, i7, w1, go_sem, ↓act_zero, Hold.p, HoldK.k, HoldL.K, HoldL.body, Nat.reduceBEq, Nat.reduceAdd, reduceIte, Nat.reduceEqDiff, Nat.reduceLT, Nat.reduceLeDiff]
        rw [if_pos (by simp)] at hn
        refine ⟨_, ?_, k + 1, k + 1, v6, g1.n, g1.n + 1, out ++ [(s.take k).drop from_], rfl, by omega, Nat.le_refl _, rfl, rfl, rfl, E, by omega, by simpa [sRow] using o6, by omega, by simp; omega, ?_⟩
        · omega
        · rw [hn]; simp
      · have hb2 : decide ((b.toNat : Int) = (c.toNat : Int)) = false := by
          simp only [decide_eq_false_iff_not]
          intro h0
          exact hb (UInt8.toNat_inj.1 (by omega))
        simp only [i0, i1, i5, i6, i7, hix, hb2, go_sem, ↓act_zero, Hold.p, HoldK.k, HoldL.K, HoldL.body, Nat.reduceBEq, Nat.reduceAdd, reduceIte, Nat.reduceEqDiff, Nat.reduceLT, Nat.reduceLeDiff]
        rw [if_neg (by simpa using hb)] at hn
        refine ⟨_, ?_, k + 1, from_, v, lo, hi, out, rfl, by omega, by omega, rfl, rfl, wr64_succ k (by omega), E, hlo, o, hhi, by omega, ?_⟩
        · omega
        · rw [hn]
          congr 2
          rw [← htk, List.drop_append_of_le_length (by simp; omega)]
    · obtain rfl : k = s.length := by omega
      rw [List.take_length] at hcut
      have hs1 : slcSF (.str s) (some (.int .i64 (from_ : Int))) none = some (.str (s.drop from_)) := by
        rw [slcSF_of rfl (boundF_of (by omega) (by omega))]; simp
      simp only [i0, i1, i5, i6, i7, hs1, Option.map_some, Option.map_none, go_sem, ↓act_zero, Hold.p, HoldK.k, HoldL.K, HoldL.body, Nat.reduceBEq, Nat.reduceAdd, reduceIte, Nat.reduceEqDiff, Nat.reduceLT, Nat.reduceLeDiff]
      generalize hq_g1 : IH.push g (IObj.rows [[IV.str (s.drop from_)]] 9 1 false) = g1
      have e_g1 : Ext g g1 := by rw [← hq_g1]; exact (Ext.refl _).push _
      have l_g1 : g1.n = g.n + 1 := by rw [← hq_g1]; rfl
      have ba : At g1 g.n (IObj.rows [[IV.str (s.drop from_)]] 9 1 false) := by rw [← hq_g1]; exact At.new _ _
      clear hq_g1
      have o := o.ext e_g1
      have E := E.ext e_g1
      refine o.app (by simp) (by simp; omega) ?_
      intro v6 h6 o6 t6 n6 v6o v6c
      have E := E.turn o (by omega) t6
      have le_t6 := t6.le
      simp only [go_sem, ↓act_zero, Hold.p, HoldK.k, HoldL.K, HoldL.body, Nat.reduceBEq, Nat.reduceAdd, reduceIte, Nat.reduceEqDiff, Nat.reduceLT, Nat.reduceLeDiff]
      refine ⟨?_, E⟩
      rw [hcut]
      simpa [sRow] using o6.sl
end
end Go.Proofs.YtaoffieemecioaaGreatDoor


namespace Go.Proofs.YtaoffieemecioaaGreatDoor
open Go Go.IW

def okC (b : UInt8) : Bool := (decide (97 ≤ (b.toNat : Int)) && decide ((b.toNat : Int) ≤ 122)) || (decide (48 ≤ (b.toNat : Int)) && decide ((b.toNat : Int) ≤ 57)) || decide ((b.toNat : Int) = 45)
theorem class6 (b : UInt8) : (b.toNat : Int) = 45 ∨ ((b.toNat : Int) < 48 ∧ (b.toNat : Int) ≠ 45) ∨ (48 ≤ (b.toNat : Int) ∧ (b.toNat : Int) ≤ 57) ∨ (58 ≤ (b.toNat : Int) ∧ (b.toNat : Int) < 97) ∨ (97 ≤ (b.toNat : Int) ∧ (b.toNat : Int) ≤ 122) ∨ 122 < (b.toNat : Int) := by omega
def ends (s : List UInt8) : Bool := decide (((s.getD 0 0).toNat : Int) = 45) || decide (((s.getD (s.length - 1) 0).toNat : Int) = 45)
def okLabel (s : List UInt8) : Bool := decide (1 ≤ s.length) && decide (s.length ≤ 20) && !ends s && s.all okC
def okName (s : List UInt8) : Bool := decide (s.length ≤ 63) && (cutAt 46 s).all okLabel
theorem take_all {α : Type} {p : α → Bool} {s : List α} {k : Nat} {b : α} (hk : s[k]? = some b) (h : (s.take k).all p = true) : (s.take (k + 1)).all p = p b := by
  rw [List.take_add_one, hk, List.all_append, h]; simp
theorem not_all {α : Type} {p : α → Bool} {s : List α} {k : Nat} {b : α} (hk : s[k]? = some b) (h : p b = false) : s.all p = false := by
  rw [List.all_eq_false]
  exact ⟨b, List.mem_of_getElem? hk, by simp [h]⟩
theorem label_short {s : List UInt8} (h : s.length < 1 ∨ 20 < s.length) : okLabel s = false := by
  unfold okLabel
  rcases h with h | h
  · have : decide (1 ≤ s.length) = false := decide_eq_false (by omega)
    rw [this]; rfl
  · have : decide (s.length ≤ 20) = false := decide_eq_false (by omega)
    rw [this]; simp
theorem label_long {s : List UInt8} (h1 : ¬ s.length < 1) (h2 : ¬ 20 < s.length) : okLabel s = (!ends s && s.all okC) := by
  unfold okLabel
  have e1 : decide (1 ≤ s.length) = true := decide_eq_true (by omega)
  have e2 : decide (s.length ≤ 20) = true := decide_eq_true (by omega)
  rw [e1, e2]; rfl

section
attribute [local go_sem] boxA_1 boxA_2 boxA_3 bslA_1 List.getElem?_cons_zero List.getElem?_cons_succ Option.bind_some List.map_cons List.map_nil Nat.zero_add if_true List.getD_cons_zero List.getD_cons_succ List.contains_cons List.contains_nil Bool.or_true Bool.true_or Bool.or_false Bool.false_or Bool.not_true Bool.not_false true_and and_true rowA_whole push_n set_n push_obj set_obj set_push set_push_ne set_set Nat.add_assoc Nat.left_eq_add Nat.add_eq_left Nat.add_left_cancel_iff stO_1s stO_ws boxA_s one_bool one_int one_str one_ptr one_nilptr one_slice one_eslice one_nilslice one_func one_iface one_niliface List.all_cons List.all_nil List.length_cons List.length_nil Bool.and_true Nat.one_ne_zero Nat.succ_ne_zero if_false List.set_cons_zero List.set_cons_succ
set_option maxRecDepth 20000 in
theorem l19Label_c (h : IH) (s : List UInt8) : ICalls Tryz.prog 68 [.str s] h fun r h' => r = .bool (okLabel s) ∧ h' = h := by
  refine icalls (.of ok68) (Nat.le_of_ble_eq_true rfl) ?_
  unfold c68
  by_cases c1 : s.length < 1
  · have d1 : decide ((s.length : Int) < 1) = true := decide_eq_true (by omega)
    simp only [d1, go_sem, ↓act_zero, Hold.p, HoldK.k, HoldL.K, HoldL.body, Nat.reduceBEq, Nat.reduceAdd, reduceIte, Nat.reduceEqDiff, Nat.reduceLT, Nat.reduceLeDiff]
    rw [label_short (.inl c1)]
  · have d1 : decide ((s.length : Int) < 1) = false := decide_eq_false (by omega)
    by_cases c2 : 20 < s.length
    · have d2 : decide (20 < (s.length : Int)) = true := decide_eq_true (by omega)
      simp only [d1, d2, go_sem, ↓act_zero, Hold.p, HoldK.k, HoldL.K, HoldL.body, Nat.reduceBEq, Nat.reduceAdd, reduceIte, Nat.reduceEqDiff, Nat.reduceLT, Nat.reduceLeDiff]
      rw [label_short (.inr c2)]
    · have d2 : decide (20 < (s.length : Int)) = false := decide_eq_false (by omega)
      rw [label_long c1 c2]
      have g0 : s[0]? = some (s.getD 0 0) := by rw [List.getD_eq_getElem?_getD, List.getElem?_eq_getElem (by omega)]; rfl
      have g1 : s[s.length - 1]? = some (s.getD (s.length - 1) 0) := by rw [List.getD_eq_getElem?_getD, List.getElem?_eq_getElem (by omega)]; rfl
      have x0 : idxSF (.str s) (.int .i64 0) = some (.int .u8 (s.getD 0 0).toNat) := by simpa using idxS_at (q := .i64) g0
      have w1 : wr .i64 ((s.length : Int) - 1) = ((s.length - 1 : Nat) : Int) := by rw [wr64 _ (by omega)]; omega
      have x1 := idxS_at (q := .i64) g1
      unfold ends
      cases d3 : decide (((s.getD 0 0).toNat : Int) = 45)
      · cases d4 : decide (((s.getD (s.length - 1) 0).toNat : Int) = 45)
        · simp only [d1, d2, x0, w1, x1, d3, d4, go_sem, ↓act_zero, Hold.p, HoldK.k, HoldL.K, HoldL.body, Nat.reduceBEq, Nat.reduceAdd, reduceIte, Nat.reduceEqDiff, Nat.reduceLT, Nat.reduceLeDiff]
          refine loop_at (fun n e h' => ∃ k, n = s.length - k ∧ k ≤ s.length ∧ e 0 = .str s ∧ e 3 = .int .i64 (k : Nat) ∧ h' = h ∧ (s.take k).all okC = true) s.length ?_ ?_
          · refine ⟨0, by omega, by omega, ?_⟩
            simp only [go_sem, ↓act_zero, Hold.p, HoldK.k, HoldL.K, HoldL.body, Nat.reduceBEq, Nat.reduceAdd, reduceIte, Nat.reduceEqDiff, Nat.reduceLT, Nat.reduceLeDiff]
            exact ⟨rfl, by simp⟩
          · rintro n e h' ⟨k, rfl, hk, i0, i3, rfl, hall⟩
            simp only [i0, i3, go_sem, ↓act_zero, Hold.p, HoldK.k, HoldL.K, HoldL.body, Nat.reduceBEq, Nat.reduceAdd, reduceIte, Nat.reduceEqDiff, Nat.reduceLT, Nat.reduceLeDiff]
            refine test_dec (fun hlt => ?_) (fun hlt => ?_)
            · have hlt' : k < s.length := by omega
              have hkp : s[k]? = some s[k] := List.getElem?_eq_getElem hlt'
              generalize s[k] = b at hkp
              have hix := idxS_at (q := .i64) hkp
              rcases class6 b with hc | hc | hc | hc | hc | hc
              · have q1 : decide ((b.toNat : Int) < 97) = true := decide_eq_true (by omega)
                have q2 : decide (122 < (b.toNat : Int)) = false := decide_eq_false (by omega)
                have q3 : decide ((b.toNat : Int) < 48) = true := decide_eq_true (by omega)
                have q4 : decide (57 < (b.toNat : Int)) = false := decide_eq_false (by omega)
                have q5 : decide ((b.toNat : Int) = 45) = true := decide_eq_true (by omega)
                have hok : okC b = true := by unfold okC; simp; omega
                simp only [i0, i3, hix, q1, q2, q3, q4, q5, go_sem, ↓act_zero, Hold.p, HoldK.k, HoldL.K, HoldL.body, Nat.reduceBEq, Nat.reduceAdd, reduceIte, Nat.reduceEqDiff, Nat.reduceLT, Nat.reduceLeDiff]
                exact ⟨_, by omega, k + 1, rfl, by omega, wr64_succ k (by omega), by rw [take_all hkp hall, hok]⟩
              · have q1 : decide ((b.toNat : Int) < 97) = true := decide_eq_true (by omega)
                have q2 : decide (122 < (b.toNat : Int)) = false := decide_eq_false (by omega)
                have q3 : decide ((b.toNat : Int) < 48) = true := decide_eq_true (by omega)
                have q4 : decide (57 < (b.toNat : Int)) = false := decide_eq_false (by omega)
                have q5 : decide ((b.toNat : Int) = 45) = false := decide_eq_false (by omega)
                have hok : okC b = false := by unfold okC; simp; omega
                simp only [i0, i3, hix, q1, q2, q3, q4, q5, go_sem, ↓act_zero, Hold.p, HoldK.k, HoldL.K, HoldL.body, Nat.reduceBEq, Nat.reduceAdd, reduceIte, Nat.reduceEqDiff, Nat.reduceLT, Nat.reduceLeDiff]
                rw [not_all hkp hok]; rfl
              · have q1 : decide ((b.toNat : Int) < 97) = true := decide_eq_true (by omega)
                have q2 : decide (122 < (b.toNat : Int)) = false := decide_eq_false (by omega)
                have q3 : decide ((b.toNat : Int) < 48) = false := decide_eq_false (by omega)
                have q4 : decide (57 < (b.toNat : Int)) = false := decide_eq_false (by omega)
                have q5 : decide ((b.toNat : Int) = 45) = false := decide_eq_false (by omega)
                have hok : okC b = true := by unfold okC; simp; omega
                simp only [i0, i3, hix, q1, q2, q3, q4, q5, go_sem, ↓act_zero, Hold.p, HoldK.k, HoldL.K, HoldL.body, Nat.reduceBEq, Nat.reduceAdd, reduceIte, Nat.reduceEqDiff, Nat.reduceLT, Nat.reduceLeDiff]
                exact ⟨_, by omega, k + 1, rfl, by omega, wr64_succ k (by omega), by rw [take_all hkp hall, hok]⟩
              · have q1 : decide ((b.toNat : Int) < 97) = true := decide_eq_true (by omega)
                have q2 : decide (122 < (b.toNat : Int)) = false := decide_eq_false (by omega)
                have q3 : decide ((b.toNat : Int) < 48) = false := decide_eq_false (by omega)
                have q4 : decide (57 < (b.toNat : Int)) = true := decide_eq_true (by omega)
                have q5 : decide ((b.toNat : Int) = 45) = false := decide_eq_false (by omega)
                have hok : okC b = false := by unfold okC; simp; omega
                simp only [i0, i3, hix, q1, q2, q3, q4, q5, go_sem, ↓act_zero, Hold.p, HoldK.k, HoldL.K, HoldL.body, Nat.reduceBEq, Nat.reduceAdd, reduceIte, Nat.reduceEqDiff, Nat.reduceLT, Nat.reduceLeDiff]
                rw [not_all hkp hok]; rfl
              · have q1 : decide ((b.toNat : Int) < 97) = false := decide_eq_false (by omega)
                have q2 : decide (122 < (b.toNat : Int)) = false := decide_eq_false (by omega)
                have q3 : decide ((b.toNat : Int) < 48) = false := decide_eq_false (by omega)
                have q4 : decide (57 < (b.toNat : Int)) = true := decide_eq_true (by omega)
                have q5 : decide ((b.toNat : Int) = 45) = false := decide_eq_false (by omega)
                have hok : okC b = true := by unfold okC; simp; omega
                simp only [i0, i3, hix, q1, q2, q3, q4, q5, go_sem, ↓act_zero, Hold.p, HoldK.k, HoldL.K, HoldL.body, Nat.reduceBEq, Nat.reduceAdd, reduceIte, Nat.reduceEqDiff, Nat.reduceLT, Nat.reduceLeDiff]
                exact ⟨_, by omega, k + 1, rfl, by omega, wr64_succ k (by omega), by rw [take_all hkp hall, hok]⟩
              · have q1 : decide ((b.toNat : Int) < 97) = false := decide_eq_false (by omega)
                have q2 : decide (122 < (b.toNat : Int)) = true := decide_eq_true (by omega)
                have q3 : decide ((b.toNat : Int) < 48) = false := decide_eq_false (by omega)
                have q4 : decide (57 < (b.toNat : Int)) = true := decide_eq_true (by omega)
                have q5 : decide ((b.toNat : Int) = 45) = false := decide_eq_false (by omega)
                have hok : okC b = false := by unfold okC; simp; omega
                simp only [i0, i3, hix, q1, q2, q3, q4, q5, go_sem, ↓act_zero, Hold.p, HoldK.k, HoldL.K, HoldL.body, Nat.reduceBEq, Nat.reduceAdd, reduceIte, Nat.reduceEqDiff, Nat.reduceLT, Nat.reduceLeDiff]
                rw [not_all hkp hok]; rfl
            · obtain rfl : k = s.length := by omega
              rw [List.take_length] at hall
              simp only [i0, i3, go_sem, ↓act_zero, Hold.p, HoldK.k, HoldL.K, HoldL.body, Nat.reduceBEq, Nat.reduceAdd, reduceIte, Nat.reduceEqDiff, Nat.reduceLT, Nat.reduceLeDiff]
              rw [hall]; rfl
        · simp only [d1, d2, x0, w1, x1, d3, d4, go_sem, ↓act_zero, Hold.p, HoldK.k, HoldL.K, HoldL.body, Nat.reduceBEq, Nat.reduceAdd, reduceIte, Nat.reduceEqDiff, Nat.reduceLT, Nat.reduceLeDiff]
          rfl
      · simp only [d1, d2, x0, w1, x1, d3, go_sem, ↓act_zero, Hold.p, HoldK.k, HoldL.K, HoldL.body, Nat.reduceBEq, Nat.reduceAdd, reduceIte, Nat.reduceEqDiff, Nat.reduceLT, Nat.reduceLeDiff]
        rfl
end
end Go.Proofs.YtaoffieemecioaaGreatDoor


namespace Go.Proofs.YtaoffieemecioaaGreatDoor
open Go Go.IW

section
attribute [local go_sem] boxA_1 boxA_2 boxA_3 bslA_1 List.getElem?_cons_zero List.getElem?_cons_succ Option.bind_some List.map_cons List.map_nil Nat.zero_add if_true List.getD_cons_zero List.getD_cons_succ List.contains_cons List.contains_nil Bool.or_true Bool.true_or Bool.or_false Bool.false_or Bool.not_true Bool.not_false true_and and_true rowA_whole push_n set_n push_obj set_obj set_push set_push_ne set_set Nat.add_assoc Nat.left_eq_add Nat.add_eq_left Nat.add_left_cancel_iff stO_1s stO_ws boxA_s one_bool one_int one_str one_ptr one_nilptr one_slice one_eslice one_nilslice one_func one_iface one_niliface List.all_cons List.all_nil List.length_cons List.length_nil Bool.and_true Nat.one_ne_zero Nat.succ_ne_zero if_false List.set_cons_zero List.set_cons_succ
set_option maxRecDepth 20000 in
theorem specNameOK_c (h : IH) (s : List UInt8) (hm : s.length ≤ 1048576) : ICalls Tryz.prog 46 [.str s] h fun r h' => r = .bool (okName s) ∧ Ext h h' := by
  refine icalls (.of ok46) (Nat.le_of_ble_eq_true rfl) ?_
  unfold c46
  by_cases c1 : 63 < s.length
  · have d1 : decide (63 < (s.length : Int)) = true := decide_eq_true (by omega)
    simp only [d1, go_sem, ↓act_zero, Hold.p, HoldK.k, HoldL.K, HoldL.body, Nat.reduceBEq, Nat.reduceAdd, reduceIte, Nat.reduceEqDiff, Nat.reduceLT, Nat.reduceLeDiff]
    have : decide (s.length ≤ 63) = false := decide_eq_false (by omega)
    exact ⟨by unfold okName; rw [this]; rfl, Ext.refl _⟩
  · have d1 : decide (63 < (s.length : Int)) = false := decide_eq_false (by omega)
    have hdef : okName s = (cutAt 46 s).all okLabel := by
      have : decide (s.length ≤ 63) = true := decide_eq_true (by omega)
      unfold okName; rw [this]; rfl
    rw [hdef]
    simp only [d1, go_sem, ↓act_zero, Hold.p, HoldK.k, HoldL.K, HoldL.body, Nat.reduceBEq, Nat.reduceAdd, reduceIte, Nat.reduceEqDiff, Nat.reduceLT, Nat.reduceLeDiff]
    refine callA_of (l02Cut_c h s 46 hm) ?_
    rintro v h1 ⟨hs, hE⟩
    have hlen := hs.lenF
    rw [List.length_map] at hlen
    simp only [go_sem, ↓act_zero, Hold.p, HoldK.k, HoldL.K, HoldL.body, Nat.reduceBEq, Nat.reduceAdd, reduceIte, Nat.reduceEqDiff, Nat.reduceLT, Nat.reduceLeDiff]
    have hpl : (cutAt 46 s).length ≤ 1048577 := by rw [cutAt_len]; have := count_le_len 46 s; omega
    generalize cutAt 46 s = parts at hs hlen hpl
    refine loop_at (fun n e h' => ∃ k, n = parts.length - k ∧ k ≤ parts.length ∧ e 3 = v ∧ e 4 = .int .i64 (k : Nat) ∧ h' = h1 ∧ (parts.take k).all okLabel = true) parts.length ?_ ?_
    · refine ⟨0, by omega, by omega, ?_⟩
      simp only [go_sem, ↓act_zero, Hold.p, HoldK.k, HoldL.K, HoldL.body, Nat.reduceBEq, Nat.reduceAdd, reduceIte, Nat.reduceEqDiff, Nat.reduceLT, Nat.reduceLeDiff]
      exact ⟨rfl, by simp⟩
    · rintro n e h' ⟨k, rfl, hk, i3, i4, rfl, hall⟩
      simp only [i3, i4, hlen, go_sem, ↓act_zero, Hold.p, HoldK.k, HoldL.K, HoldL.body, Nat.reduceBEq, Nat.reduceAdd, reduceIte, Nat.reduceEqDiff, Nat.reduceLT, Nat.reduceLeDiff]
      refine test_dec (fun hlt => ?_) (fun hlt => ?_)
      · have hlt' : k < parts.length := by omega
        have hkp : parts[k]? = some parts[k] := List.getElem?_eq_getElem hlt'
        generalize parts[k] = p at hkp
        obtain ⟨l, j, hia, hll, hrow⟩ := hs.at (m := k) (row := sRow p) (by rw [List.getElem?_map, hkp]; rfl) .i64
        have hc := cellO_row hrow
        unfold sRow at hc
        simp only [i3, i4, hlen, hia, hc, go_sem, ↓act_zero, Hold.p, HoldK.k, HoldL.K, HoldL.body, Nat.reduceBEq, Nat.reduceAdd, reduceIte, Nat.reduceEqDiff, Nat.reduceLT, Nat.reduceLeDiff]
        refine callA_of (l19Label_c _ p) ?_
        rintro r h2 ⟨rfl, rfl⟩
        cases hok : okLabel p
        · simp only [i3, i4, go_sem, ↓act_zero, Hold.p, HoldK.k, HoldL.K, HoldL.body, Nat.reduceBEq, Nat.reduceAdd, reduceIte, Nat.reduceEqDiff, Nat.reduceLT, Nat.reduceLeDiff]
          exact ⟨by rw [not_all hkp hok], hE⟩
        · simp only [i3, i4, go_sem, ↓act_zero, Hold.p, HoldK.k, HoldL.K, HoldL.body, Nat.reduceBEq, Nat.reduceAdd, reduceIte, Nat.reduceEqDiff, Nat.reduceLT, Nat.reduceLeDiff]
          exact ⟨_, by omega, k + 1, rfl, by omega, wr64_succ k (by omega), by rw [take_all hkp hall, hok]⟩
      · obtain rfl : k = parts.length := by omega
        rw [List.take_length] at hall
        simp only [go_sem, ↓act_zero, Hold.p, HoldK.k, HoldL.K, HoldL.body, Nat.reduceBEq, Nat.reduceAdd, reduceIte, Nat.reduceEqDiff, Nat.reduceLT, Nat.reduceLeDiff]
        exact ⟨by rw [hall], hE⟩

set_option maxRecDepth 20000 in
theorem implNameOK_c (h : IH) (s : List UInt8) (hm : s.length ≤ 1048576) : ICalls Tryz.prog 26 [.str s] h fun r h' => r = .bool (okName s) ∧ Ext h h' := by
  refine icalls (.of ok26) (Nat.le_of_ble_eq_true rfl) ?_
  unfold c26
  by_cases c0 : s.length < 1
  · have d0 : decide ((s.length : Int) < 1) = true := decide_eq_true (by omega)
    have hs0 : s = [] := List.length_eq_zero_iff.1 (by omega)
    simp only [d0, go_sem, ↓act_zero, Hold.p, HoldK.k, HoldL.K, HoldL.body, Nat.reduceBEq, Nat.reduceAdd, reduceIte, Nat.reduceEqDiff, Nat.reduceLT, Nat.reduceLeDiff]
    exact ⟨by rw [hs0]; rfl, Ext.refl _⟩
  · have d0 : decide ((s.length : Int) < 1) = false := decide_eq_false (by omega)
    by_cases c1 : 63 < s.length
    · have d1 : decide (63 < (s.length : Int)) = true := decide_eq_true (by omega)
      simp only [d0, d1, go_sem, ↓act_zero, Hold.p, HoldK.k, HoldL.K, HoldL.body, Nat.reduceBEq, Nat.reduceAdd, reduceIte, Nat.reduceEqDiff, Nat.reduceLT, Nat.reduceLeDiff]
      have : decide (s.length ≤ 63) = false := decide_eq_false (by omega)
      exact ⟨by unfold okName; rw [this]; rfl, Ext.refl _⟩
    · have d1 : decide (63 < (s.length : Int)) = false := decide_eq_false (by omega)
      have hdef : okName s = (cutAt 46 s).all okLabel := by
        have : decide (s.length ≤ 63) = true := decide_eq_true (by omega)
        unfold okName; rw [this]; rfl
      rw [hdef]
      simp only [d0, d1, go_sem, ↓act_zero, Hold.p, HoldK.k, HoldL.K, HoldL.body, Nat.reduceBEq, Nat.reduceAdd, reduceIte, Nat.reduceEqDiff, Nat.reduceLT, Nat.reduceLeDiff]
      refine callA_of (split_c h s 46 hm) ?_
      rintro v h1 ⟨hs, hE⟩
      have hlen := hs.lenF
      rw [List.length_map] at hlen
      simp only [hlen, go_sem, ↓act_zero, Hold.p, HoldK.k, HoldL.K, HoldL.body, Nat.reduceBEq, Nat.reduceAdd, reduceIte, Nat.reduceEqDiff, Nat.reduceLT, Nat.reduceLeDiff]
      have hpl : (cutAt 46 s).length ≤ 1048577 := by rw [cutAt_len]; have := count_le_len 46 s; omega
      generalize cutAt 46 s = parts at hs hlen hpl
      refine loop_at (fun n e h' => ∃ k, n = parts.length - k ∧ k ≤ parts.length ∧ e 16 = v ∧ e 17 = .int .i64 (parts.length : Nat) ∧ e 18 = .int .i64 (k : Nat) ∧ Ext h1 h' ∧ (parts.take k).all okLabel = true) parts.length ?_ ?_
      · refine ⟨0, by omega, by omega, ?_⟩
        simp only [go_sem, ↓act_zero, Hold.p, HoldK.k, HoldL.K, HoldL.body, Nat.reduceBEq, Nat.reduceAdd, reduceIte, Nat.reduceEqDiff, Nat.reduceLT, Nat.reduceLeDiff]
        exact ⟨rfl, Ext.refl _, by simp⟩
      · rintro n e h' ⟨k, rfl, hk, i16, i17, i18, E, hall⟩
        simp only [i16, i17, i18, go_sem, ↓act_zero, Hold.p, HoldK.k, HoldL.K, HoldL.body, Nat.reduceBEq, Nat.reduceAdd, reduceIte, Nat.reduceEqDiff, Nat.reduceLT, Nat.reduceLeDiff]
        refine test_dec (fun hlt => ?_) (fun hlt => ?_)
        · have hlt' : k < parts.length := by omega
          have hkp : parts[k]? = some parts[k] := List.getElem?_eq_getElem hlt'
          generalize parts[k] = p at hkp
          obtain ⟨l, j, hia, hll, hrow⟩ := (hs.ext E).at (m := k) (row := sRow p) (by rw [List.getElem?_map, hkp]; rfl) .i64
          have hc := cellO_row hrow
          unfold sRow at hc
          by_cases c2 : p.length < 1
          · have d2 : decide ((p.length : Int) < 1) = true := decide_eq_true (by omega)
            simp only [i16, i17, i18, hia, hc, d2, go_sem, ↓act_zero, Hold.p, HoldK.k, HoldL.K, HoldL.body, Nat.reduceBEq, Nat.reduceAdd, reduceIte, Nat.reduceEqDiff, Nat.reduceLT, Nat.reduceLeDiff]
            exact ⟨by rw [not_all hkp (label_short (.inl c2))], hE.trans E⟩
          · have d2 : decide ((p.length : Int) < 1) = false := decide_eq_false (by omega)
            by_cases c3 : 20 < p.length
            · have d3 : decide (20 < (p.length : Int)) = true := decide_eq_true (by omega)
              simp only [i16, i17, i18, hia, hc, d2, d3, go_sem, ↓act_zero, Hold.p, HoldK.k, HoldL.K, HoldL.body, Nat.reduceBEq, Nat.reduceAdd, reduceIte, Nat.reduceEqDiff, Nat.reduceLT, Nat.reduceLeDiff]
              exact ⟨by rw [not_all hkp (label_short (.inr c3))], hE.trans E⟩
            · have d3 : decide (20 < (p.length : Int)) = false := decide_eq_false (by omega)
              have hlab := label_long c2 c3
              have g0 : p[0]? = some (p.getD 0 0) := by rw [List.getD_eq_getElem?_getD, List.getElem?_eq_getElem (by omega)]; rfl
              have g1 : p[p.length - 1]? = some (p.getD (p.length - 1) 0) := by rw [List.getD_eq_getElem?_getD, List.getElem?_eq_getElem (by omega)]; rfl
              have x0 : idxSF (.str p) (.int .i64 0) = some (.int .u8 (p.getD 0 0).toNat) := by simpa using idxS_at (q := .i64) g0
              have w1 : wr .i64 ((p.length : Int) - 1) = ((p.length - 1 : Nat) : Int) := by rw [wr64 _ (by omega)]; omega
              have x1 := idxS_at (q := .i64) g1
              unfold ends at hlab
              have bad : ((!(decide (((p.getD 0 0).toNat : Int) = 45) || decide (((p.getD (p.length - 1) 0).toNat : Int) = 45))) && p.all okC) = false → parts.all okLabel = false := fun hx => not_all hkp (hlab.trans hx)
              cases d4 : decide (((p.getD 0 0).toNat : Int) = 45)
              · cases d5 : decide (((p.getD (p.length - 1) 0).toNat : Int) = 45)
                · rw [d4, d5] at hlab bad
                  have hpne : p ≠ [] := fun h0 => c2 (by rw [h0]; decide)
                  simp only [i16, i17, i18, hia, hc, d2, d3, x0, w1, x1, d4, d5, go_sem, ↓act_zero, Hold.p, HoldK.k, HoldL.K, HoldL.body, Nat.reduceBEq, Nat.reduceAdd, reduceIte, Nat.reduceEqDiff, Nat.reduceLT, Nat.reduceLeDiff]
                  unfold s2bA
                  simp only [if_neg hpne]
                  refine ⟨by omega, ?_⟩
                  simp only [i16, i17, i18, go_sem, ↓act_zero, Hold.p, HoldK.k, HoldL.K, HoldL.body, Nat.reduceBEq, Nat.reduceAdd, reduceIte, Nat.reduceEqDiff, Nat.reduceLT, Nat.reduceLeDiff]
                  generalize hq_g0 : IH.push h' (IObj.rows (strRows p) 5 1 false) = g0
                  have e_g0 : Ext h' g0 := by rw [← hq_g0]; exact (Ext.refl _).push _
                  have l_g0 : g0.n = h'.n + 1 := by rw [← hq_g0]; rfl
                  have ba : At g0 h'.n (IObj.rows (strRows p) 5 1 false) := by rw [← hq_g0]; exact At.new _ _
                  clear hq_g0
                  have hsl : SlR g0 1 (.slice h'.n 0 p.length) (strRows p) := SlR.whole ba.eq (by simp [strRows]) ba.lt
                  refine loop_at (fun n e g => ∃ i, n = p.length - i ∧ i ≤ p.length ∧ e 16 = v ∧ e 17 = .int .i64 (parts.length : Nat) ∧ e 18 = .int .i64 (k : Nat) ∧ e 44 = .slice h'.n 0 p.length ∧ e 45 = .int .i64 (p.length : Nat) ∧ e 46 = .int .i64 (i : Nat) ∧ g = g0 ∧ (p.take i).all okC = true) p.length ?_ ?_
                  · refine ⟨0, by omega, by omega, ?_⟩
                    simp only [i16, i17, i18, go_sem, ↓act_zero, Hold.p, HoldK.k, HoldL.K, HoldL.body, Nat.reduceBEq, Nat.reduceAdd, reduceIte, Nat.reduceEqDiff, Nat.reduceLT, Nat.reduceLeDiff]
                    exact ⟨rfl, by simp⟩
                  · rintro n e g ⟨i, rfl, hi, i16, i17, i18, i44, i45, i46, rfl, hal2⟩
                    simp only [i16, i17, i18, i44, i45, i46, go_sem, ↓act_zero, Hold.p, HoldK.k, HoldL.K, HoldL.body, Nat.reduceBEq, Nat.reduceAdd, reduceIte, Nat.reduceEqDiff, Nat.reduceLT, Nat.reduceLeDiff]
                    refine test_dec (fun hlt2 => ?_) (fun hlt2 => ?_)
                    · have hlt2' : i < p.length := by omega
                      have hip : p[i]? = some p[i] := List.getElem?_eq_getElem hlt2'
                      generalize p[i] = b at hip
                      obtain ⟨l2, j2, hia2, hll2, hrow2⟩ := hsl.at (m := i) (row := [.int .u8 b.toNat]) (by unfold strRows; rw [List.getElem?_map, hip]; rfl) .i64
                      have hc2 := cellO_row hrow2
                      rcases class6 b with hc | hc | hc | hc | hc | hc
                      · have q1 : decide (97 ≤ (b.toNat : Int)) = false := decide_eq_false (by omega)
                        have q2 : decide ((b.toNat : Int) ≤ 122) = true := decide_eq_true (by omega)
                        have q3 : decide (48 ≤ (b.toNat : Int)) = false := decide_eq_false (by omega)
                        have q4 : decide ((b.toNat : Int) ≤ 57) = true := decide_eq_true (by omega)
                        have q5 : decide ((b.toNat : Int) = 45) = true := decide_eq_true (by omega)
                        have hok : okC b = true := by unfold okC; simp; omega
                        simp only [i16, i17, i18, i44, i45, i46, hia2, hc2, q1, q2, q3, q4, q5, go_sem, ↓act_zero, Hold.p, HoldK.k, HoldL.K, HoldL.body, Nat.reduceBEq, Nat.reduceAdd, reduceIte, Nat.reduceEqDiff, Nat.reduceLT, Nat.reduceLeDiff]
                        exact ⟨_, by omega, i + 1, rfl, by omega, wr64_succ i (by omega), by rw [take_all hip hal2, hok]⟩
                      · have q1 : decide (97 ≤ (b.toNat : Int)) = false := decide_eq_false (by omega)
                        have q2 : decide ((b.toNat : Int) ≤ 122) = true := decide_eq_true (by omega)
                        have q3 : decide (48 ≤ (b.toNat : Int)) = false := decide_eq_false (by omega)
                        have q4 : decide ((b.toNat : Int) ≤ 57) = true := decide_eq_true (by omega)
                        have q5 : decide ((b.toNat : Int) = 45) = false := decide_eq_false (by omega)
                        have hok : okC b = false := by unfold okC; simp; omega
                        simp only [i16, i17, i18, i44, i45, i46, hia2, hc2, q1, q2, q3, q4, q5, go_sem, ↓act_zero, Hold.p, HoldK.k, HoldL.K, HoldL.body, Nat.reduceBEq, Nat.reduceAdd, reduceIte, Nat.reduceEqDiff, Nat.reduceLT, Nat.reduceLeDiff]
                        exact ⟨by rw [bad (by rw [not_all hip hok]; rfl)], hE.trans (E.trans e_g0)⟩
                      · have q1 : decide (97 ≤ (b.toNat : Int)) = false := decide_eq_false (by omega)
                        have q2 : decide ((b.toNat : Int) ≤ 122) = true := decide_eq_true (by omega)
                        have q3 : decide (48 ≤ (b.toNat : Int)) = true := decide_eq_true (by omega)
                        have q4 : decide ((b.toNat : Int) ≤ 57) = true := decide_eq_true (by omega)
                        have q5 : decide ((b.toNat : Int) = 45) = false := decide_eq_false (by omega)
                        have hok : okC b = true := by unfold okC; simp; omega
                        simp only [i16, i17, i18, i44, i45, i46, hia2, hc2, q1, q2, q3, q4, q5, go_sem, ↓act_zero, Hold.p, HoldK.k, HoldL.K, HoldL.body, Nat.reduceBEq, Nat.reduceAdd, reduceIte, Nat.reduceEqDiff, Nat.reduceLT, Nat.reduceLeDiff]
                        exact ⟨_, by omega, i + 1, rfl, by omega, wr64_succ i (by omega), by rw [take_all hip hal2, hok]⟩
                      · have q1 : decide (97 ≤ (b.toNat : Int)) = false := decide_eq_false (by omega)
                        have q2 : decide ((b.toNat : Int) ≤ 122) = true := decide_eq_true (by omega)
                        have q3 : decide (48 ≤ (b.toNat : Int)) = true := decide_eq_true (by omega)
                        have q4 : decide ((b.toNat : Int) ≤ 57) = false := decide_eq_false (by omega)
                        have q5 : decide ((b.toNat : Int) = 45) = false := decide_eq_false (by omega)
                        have hok : okC b = false := by unfold okC; simp; omega
                        simp only [i16, i17, i18, i44, i45, i46, hia2, hc2, q1, q2, q3, q4, q5, go_sem, ↓act_zero, Hold.p, HoldK.k, HoldL.K, HoldL.body, Nat.reduceBEq, Nat.reduceAdd, reduceIte, Nat.reduceEqDiff, Nat.reduceLT, Nat.reduceLeDiff]
                        exact ⟨by rw [bad (by rw [not_all hip hok]; rfl)], hE.trans (E.trans e_g0)⟩
                      · have q1 : decide (97 ≤ (b.toNat : Int)) = true := decide_eq_true (by omega)
                        have q2 : decide ((b.toNat : Int) ≤ 122) = true := decide_eq_true (by omega)
                        have q3 : decide (48 ≤ (b.toNat : Int)) = true := decide_eq_true (by omega)
                        have q4 : decide ((b.toNat : Int) ≤ 57) = false := decide_eq_false (by omega)
                        have q5 : decide ((b.toNat : Int) = 45) = false := decide_eq_false (by omega)
                        have hok : okC b = true := by unfold okC; simp; omega
                        simp only [i16, i17, i18, i44, i45, i46, hia2, hc2, q1, q2, q3, q4, q5, go_sem, ↓act_zero, Hold.p, HoldK.k, HoldL.K, HoldL.body, Nat.reduceBEq, Nat.reduceAdd, reduceIte, Nat.reduceEqDiff, Nat.reduceLT, Nat.reduceLeDiff]
                        exact ⟨_, by omega, i + 1, rfl, by omega, wr64_succ i (by omega), by rw [take_all hip hal2, hok]⟩
                      · have q1 : decide (97 ≤ (b.toNat : Int)) = true := decide_eq_true (by omega)
                        have q2 : decide ((b.toNat : Int) ≤ 122) = false := decide_eq_false (by omega)
                        have q3 : decide (48 ≤ (b.toNat : Int)) = true := decide_eq_true (by omega)
                        have q4 : decide ((b.toNat : Int) ≤ 57) = false := decide_eq_false (by omega)
                        have q5 : decide ((b.toNat : Int) = 45) = false := decide_eq_false (by omega)
                        have hok : okC b = false := by unfold okC; simp; omega
                        simp only [i16, i17, i18, i44, i45, i46, hia2, hc2, q1, q2, q3, q4, q5, go_sem, ↓act_zero, Hold.p, HoldK.k, HoldL.K, HoldL.body, Nat.reduceBEq, Nat.reduceAdd, reduceIte, Nat.reduceEqDiff, Nat.reduceLT, Nat.reduceLeDiff]
                        exact ⟨by rw [bad (by rw [not_all hip hok]; rfl)], hE.trans (E.trans e_g0)⟩
                    · obtain rfl : i = p.length := by omega
                      rw [List.take_length] at hal2
                      rw [hal2] at hlab
                      simp only [i16, i17, i18, go_sem, ↓act_zero, Hold.p, HoldK.k, HoldL.K, HoldL.body, Nat.reduceBEq, Nat.reduceAdd, reduceIte, Nat.reduceEqDiff, Nat.reduceLT, Nat.reduceLeDiff]
                      exact ⟨_, by omega, k + 1, rfl, by omega, wr64_succ k (by omega), E.trans e_g0, by rw [take_all hkp hall, hlab]; rfl⟩
                · simp only [i16, i17, i18, hia, hc, d2, d3, x0, w1, x1, d4, d5, go_sem, ↓act_zero, Hold.p, HoldK.k, HoldL.K, HoldL.body, Nat.reduceBEq, Nat.reduceAdd, reduceIte, Nat.reduceEqDiff, Nat.reduceLT, Nat.reduceLeDiff]
                  exact ⟨by rw [bad (by rw [d4, d5]; rfl)], hE.trans E⟩
              · simp only [i16, i17, i18, hia, hc, d2, d3, x0, w1, x1, d4, go_sem, ↓act_zero, Hold.p, HoldK.k, HoldL.K, HoldL.body, Nat.reduceBEq, Nat.reduceAdd, reduceIte, Nat.reduceEqDiff, Nat.reduceLT, Nat.reduceLeDiff]
                exact ⟨by rw [bad (by rw [d4]; rfl)], hE.trans E⟩
        · obtain rfl : k = parts.length := by omega
          rw [List.take_length] at hall
          simp only [go_sem, ↓act_zero, Hold.p, HoldK.k, HoldL.K, HoldL.body, Nat.reduceBEq, Nat.reduceAdd, reduceIte, Nat.reduceEqDiff, Nat.reduceLT, Nat.reduceLeDiff]
          exact ⟨by rw [hall], hE.trans E⟩
end
end Go.Proofs.YtaoffieemecioaaGreatDoor


namespace Go.Proofs.YtaoffieemecioaaGreatDoor
open Go Go.IW

theorem wr_u8 (x : Int) : wr .u8 x = ((UInt8.ofNat (x % 256).toNat).toNat : Int) := by
  have h1 : wr .u8 x = x % 256 := by unfold wr; rw [IntKind.wrap_u8]
  rw [h1]
  have h2 : (x % 256).toNat < 256 := by omega
  simp [UInt8.toNat_ofNat']
  omega
def byteAt (v : Int) (i : Nat) : UInt8 := UInt8.ofNat (v.fdiv (2 ^ (8 * i)) % 256).toNat
def beB : Nat → Int → List UInt8
  | 0, _ => []
  | k + 1, v => byteAt v k :: beB k v
theorem beB_len : ∀ (k : Nat) (v : Int), (beB k v).length = k
  | 0, _ => rfl
  | k + 1, v => by simp [beB, beB_len k v]
theorem strRows_append (a b : List UInt8) : strRows (a ++ b) = strRows a ++ strRows b := by simp [strRows]
theorem strRows_len (a : List UInt8) : (strRows a).length = a.length := by simp [strRows]
theorem strRows_at {a : List UInt8} {k : Nat} {b : UInt8} (h : a[k]? = some b) : (strRows a)[k]? = some [.int .u8 b.toNat] := by
  unfold strRows; rw [List.getElem?_map, h]; rfl

section
attribute [local go_sem] boxA_1 boxA_2 boxA_3 bslA_1 List.getElem?_cons_zero List.getElem?_cons_succ Option.bind_some List.map_cons List.map_nil Nat.zero_add if_true List.getD_cons_zero List.getD_cons_succ List.contains_cons List.contains_nil Bool.or_true Bool.true_or Bool.or_false Bool.false_or Bool.not_true Bool.not_false true_and and_true rowA_whole push_n set_n push_obj set_obj set_push set_push_ne set_set Nat.add_assoc Nat.left_eq_add Nat.add_eq_left Nat.add_left_cancel_iff stO_1s stO_ws boxA_s one_bool one_int one_str one_ptr one_nilptr one_slice one_eslice one_nilslice one_func one_iface one_niliface List.all_cons List.all_nil List.length_cons List.length_nil Bool.and_true Nat.one_ne_zero Nat.succ_ne_zero if_false List.set_cons_zero List.set_cons_succ
set_option maxRecDepth 20000 in
theorem l03Put_c (h : IH) (v : Int) (w : Nat) (hw : w ≤ 8) : ICalls Tryz.prog 101 [.int .i64 v, .int .i64 w] h fun r h' => Own h.n h'.n h' 5 1 r (strRows (beB w v)) ∧ Ext h h' := by
  refine icalls (.of ok101) (Nat.le_of_ble_eq_true rfl) ?_
  unfold c101
  have w0 : wr .i64 ((w : Int) - 1) = (w : Int) - 1 := wr64 _ (by omega)
  simp only [w0, go_sem, ↓act_zero, Hold.p, HoldK.k, HoldL.K, HoldL.body, Nat.reduceBEq, Nat.reduceAdd, reduceIte, Nat.reduceEqDiff, Nat.reduceLT, Nat.reduceLeDiff]
  refine loop_at (fun n e g => ∃ (x : IV) (lo hi : Nat) (out : List UInt8), n ≤ w ∧ e 0 = .int .i64 v ∧ e 5 = x ∧ e 6 = .int .i64 ((n : Int) - 1) ∧ Ext h g ∧ h.n ≤ lo ∧ hi ≤ g.n ∧ Own lo hi g 5 1 x (strRows out) ∧ out ++ beB n v = beB w v) w ?_ ?_
  · refine ⟨.eslice true, h.n, h.n, [], Nat.le_refl _, ?_⟩
    simp only [go_sem, ↓act_zero, Hold.p, HoldK.k, HoldL.K, HoldL.body, Nat.reduceBEq, Nat.reduceAdd, reduceIte, Nat.reduceEqDiff, Nat.reduceLT, Nat.reduceLeDiff]
    exact ⟨Ext.refl _, Nat.le_refl _, Nat.le_refl _, Own.empty, by simp⟩
  · rintro n e g ⟨x, lo, hi, out, hn, i0, i5, i6, E, hlo, hhi, o, hout⟩
    have hle := E.le
    cases n with
    | zero =>
      have d0 : decide ((0 : Int) ≤ ((0 : Nat) : Int) - 1) = false := decide_eq_false (by omega)
      simp only [i0, i5, i6, d0, go_sem, ↓act_zero, Hold.p, HoldK.k, HoldL.K, HoldL.body, Nat.reduceBEq, Nat.reduceAdd, reduceIte, Nat.reduceEqDiff, Nat.reduceLT, Nat.reduceLeDiff]
      have : out = beB w v := by simpa [beB] using hout
      rw [← this]
      exact ⟨o.wide hlo hhi (Nat.le_refl _), E⟩
    | succ k =>
      have d0 : decide ((0 : Int) ≤ ((k + 1 : Nat) : Int) - 1) = true := decide_eq_true (by omega)
      have e1 : ((k + 1 : Nat) : Int) - 1 = (k : Int) := by omega
      have w1 : wr .i64 (8 * (k : Int)) = ((8 * k : Nat) : Int) := by rw [wr64 _ (by omega)]; omega
      have w2 : wr .u64 (((8 * k : Nat) : Int)) = ((8 * k : Nat) : Int) := by unfold wr; rw [IntKind.wrap_u64]; omega
      have w3 := ib_shr .i64 v ((8 * k : Nat) : Int) .u64 (by omega)
      have hmin : min ((8 * k : Nat) : Int).toNat IntKind.i64.bits = 8 * k := by
        have : IntKind.i64.bits = 64 := rfl
        rw [this]; omega
      rw [hmin] at w3
      have hol : out.length ≤ 8 := by
        have := congrArg List.length hout
        rw [la0, beB_len, beB_len] at this
        omega
      have w4 : wr .i64 ((k : Int) - 1) = (k : Int) - 1 := wr64 _ (by omega)
      have w5 : wr .u8 (v.fdiv (2 ^ (8 * k))) = ((byteAt v k).toNat : Int) := wr_u8 _
      rw [e1] at i6 d0
      simp only [i0, i5, i6, d0, w1, w2, w3, w5, go_sem, ↓act_zero, Hold.p, HoldK.k, HoldL.K, HoldL.body, Nat.reduceBEq, Nat.reduceAdd, reduceIte, Nat.reduceEqDiff, Nat.reduceLT, Nat.reduceLeDiff]
      generalize hq_g1 : IH.push g (IObj.rows [[.int .u8 (byteAt v k).toNat]] 5 1 false) = g1
      have e_g1 : Ext g g1 := by rw [← hq_g1]; exact (Ext.refl _).push _
      have l_g1 : g1.n = g.n + 1 := by rw [← hq_g1]; rfl
      have ba : At g1 g.n (IObj.rows [[.int .u8 (byteAt v k).toNat]] 5 1 false) := by rw [← hq_g1]; exact At.new _ _
      clear hq_g1
      have o := o.ext e_g1
      have E := E.ext e_g1
      refine o.app (by simp) (by rw [strRows_len]; simp; omega) ?_
      intro v6 h6 o6 t6 n6 v6o v6c
      have E := E.turn o (by omega) t6
      have le_t6 := t6.le
      simp only [i0, i5, i6, w4, go_sem, ↓act_zero, Hold.p, HoldK.k, HoldL.K, HoldL.body, Nat.reduceBEq, Nat.reduceAdd, reduceIte, Nat.reduceEqDiff, Nat.reduceLT, Nat.reduceLeDiff]
      refine ⟨k, Nat.lt_succ_self _, v6, g1.n, g1.n + 1, out ++ [byteAt v k], by omega, rfl, rfl, E, by omega, by omega, ?_, ?_⟩
      · rw [strRows_append]; exact o6
      · rw [← hout]; simp [beB]

set_option maxRecDepth 20000 in
theorem put_c {lo hi : Nat} (hB h : IH) (E : Ext hB h) (x : IV) (bs : List UInt8) (v : Int) (w : Nat) (hw : w ≤ 8) (hv : 0 ≤ v ∧ v ≤ 9223372036854775807) (hbl : bs.length ≤ 16777216) (hlo : hB.n ≤ lo) (o : Own lo hi h 5 1 x (strRows bs)) (hhi : hi ≤ h.n) :
    ICalls Tryz.prog 86 [x, .int .i64 w, .int .i64 v] h fun r h' => Own hB.n h'.n h' 5 1 r (strRows (bs ++ beB w v)) ∧ Ext hB h' := by
  refine icalls (.of ok86) (Nat.le_of_ble_eq_true rfl) ?_
  unfold c86
  have w0 : wr .i64 ((w : Int) - 1) = (w : Int) - 1 := wr64 _ (by omega)
  simp only [w0, go_sem, ↓act_zero, Hold.p, HoldK.k, HoldL.K, HoldL.body, Nat.reduceBEq, Nat.reduceAdd, reduceIte, Nat.reduceEqDiff, Nat.reduceLT, Nat.reduceLeDiff]
  refine loop_at (fun n e g => ∃ (x : IV) (lo hi : Nat) (out : List UInt8), n ≤ w ∧ e 2 = .int .i64 v ∧ e 0 = x ∧ e 7 = .int .i64 ((n : Int) - 1) ∧ Ext hB g ∧ hB.n ≤ lo ∧ hi ≤ g.n ∧ Own lo hi g 5 1 x (strRows out) ∧ out ++ beB n v = bs ++ beB w v) w ?_ ?_
  · refine ⟨x, lo, hi, bs, Nat.le_refl _, ?_⟩
    simp only [go_sem, ↓act_zero, Hold.p, HoldK.k, HoldL.K, HoldL.body, Nat.reduceBEq, Nat.reduceAdd, reduceIte, Nat.reduceEqDiff, Nat.reduceLT, Nat.reduceLeDiff]
    exact ⟨E, hlo, hhi, o⟩
  · rintro n e g ⟨x, lo, hi, out, hn, i2, i0, i7, E, hlo, hhi, o, hout⟩
    have hle := E.le
    cases n with
    | zero =>
      have d0 : decide ((0 : Int) ≤ ((0 : Nat) : Int) - 1) = false := decide_eq_false (by omega)
      simp only [i0, i2, i7, d0, go_sem, ↓act_zero, Hold.p, HoldK.k, HoldL.K, HoldL.body, Nat.reduceBEq, Nat.reduceAdd, reduceIte, Nat.reduceEqDiff, Nat.reduceLT, Nat.reduceLeDiff]
      have : out = bs ++ beB w v := by simpa [beB] using hout
      rw [← this]
      exact ⟨o.wide hlo hhi (Nat.le_refl _), E⟩
    | succ k =>
      have d0 : decide ((0 : Int) ≤ ((k + 1 : Nat) : Int) - 1) = true := decide_eq_true (by omega)
      have e1 : ((k + 1 : Nat) : Int) - 1 = (k : Int) := by omega
      have w1 : wr .i64 (8 * (k : Int)) = ((8 * k : Nat) : Int) := by rw [wr64 _ (by omega)]; omega
      have w2 : wr .u64 v = v := by unfold wr; rw [IntKind.wrap_u64]; omega
      have w3 := ib_shr .u64 v ((8 * k : Nat) : Int) .i64 (by omega)
      have hmin : min ((8 * k : Nat) : Int).toNat IntKind.u64.bits = 8 * k := by
        have : IntKind.u64.bits = 64 := rfl
        rw [this]; omega
      rw [hmin] at w3
      have hol : out.length ≤ 16777300 := by
        have := congrArg List.length hout
        rw [la0, la0, beB_len, beB_len] at this
        omega
      have w4 : wr .i64 ((k : Int) - 1) = (k : Int) - 1 := wr64 _ (by omega)
      have w5 : wr .u8 (v.fdiv (2 ^ (8 * k))) = ((byteAt v k).toNat : Int) := wr_u8 _
      rw [e1] at i7 d0
      simp only [i0, i2, i7, d0, w1, w2, w3, w5, go_sem, ↓act_zero, Hold.p, HoldK.k, HoldL.K, HoldL.body, Nat.reduceBEq, Nat.reduceAdd, reduceIte, Nat.reduceEqDiff, Nat.reduceLT, Nat.reduceLeDiff]
      generalize hq_g1 : IH.push g (IObj.rows [[.int .u8 (byteAt v k).toNat]] 5 1 false) = g1
      have e_g1 : Ext g g1 := by rw [← hq_g1]; exact (Ext.refl _).push _
      have l_g1 : g1.n = g.n + 1 := by rw [← hq_g1]; rfl
      have ba : At g1 g.n (IObj.rows [[.int .u8 (byteAt v k).toNat]] 5 1 false) := by rw [← hq_g1]; exact At.new _ _
      clear hq_g1
      have o := o.ext e_g1
      have E := E.ext e_g1
      refine o.app (by simp) (by rw [strRows_len]; simp; omega) ?_
      intro v6 h6 o6 t6 n6 v6o v6c
      have E := E.turn o (by omega) t6
      have le_t6 := t6.le
      simp only [i0, i2, i7, w4, go_sem, ↓act_zero, Hold.p, HoldK.k, HoldL.K, HoldL.body, Nat.reduceBEq, Nat.reduceAdd, reduceIte, Nat.reduceEqDiff, Nat.reduceLT, Nat.reduceLeDiff]
      refine ⟨k, Nat.lt_succ_self _, v6, g1.n, g1.n + 1, out ++ [byteAt v k], by omega, rfl, rfl, E, by omega, by omega, ?_, ?_⟩
      · rw [strRows_append]; exact o6
      · rw [← hout]; simp [beB]

set_option maxRecDepth 20000 in
theorem l01Copy_c (h : IH) (v : IV) (bs : List UInt8) (hs : SlR h 1 v (strRows bs)) (hbl : bs.length ≤ 16777216) : ICalls Tryz.prog 106 [v] h fun r h' => Own h.n h'.n h' 5 1 r (strRows bs) ∧ Ext h h' := by
  refine icalls (.of ok106) (Nat.le_of_ble_eq_true rfl) ?_
  unfold c106
  have hlen := hs.lenF
  rw [strRows_len] at hlen
  simp only [go_sem, ↓act_zero, Hold.p, HoldK.k, HoldL.K, HoldL.body, Nat.reduceBEq, Nat.reduceAdd, reduceIte, Nat.reduceEqDiff, Nat.reduceLT, Nat.reduceLeDiff]
  refine loop_at (fun n e g => ∃ (x : IV) (lo hi k : Nat), n = bs.length - k ∧ k ≤ bs.length ∧ e 0 = v ∧ e 3 = x ∧ e 4 = .int .i64 (k : Nat) ∧ Ext h g ∧ h.n ≤ lo ∧ hi ≤ g.n ∧ Own lo hi g 5 1 x (strRows (bs.take k))) bs.length ?_ ?_
  · refine ⟨.eslice true, h.n, h.n, 0, by omega, by omega, ?_⟩
    simp only [go_sem, ↓act_zero, Hold.p, HoldK.k, HoldL.K, HoldL.body, Nat.reduceBEq, Nat.reduceAdd, reduceIte, Nat.reduceEqDiff, Nat.reduceLT, Nat.reduceLeDiff]
    exact ⟨rfl, Ext.refl _, Nat.le_refl _, Nat.le_refl _, Own.empty⟩
  · rintro n e g ⟨x, lo, hi, k, rfl, hk, i0, i3, i4, E, hlo, hhi, o⟩
    have hle := E.le
    simp only [i0, i3, i4, hlen, go_sem, ↓act_zero, Hold.p, HoldK.k, HoldL.K, HoldL.body, Nat.reduceBEq, Nat.reduceAdd, reduceIte, Nat.reduceEqDiff, Nat.reduceLT, Nat.reduceLeDiff]
    refine test_dec (fun hlt => ?_) (fun hlt => ?_)
    · have hlt' : k < bs.length := by omega
      have hkp : bs[k]? = some bs[k] := List.getElem?_eq_getElem hlt'
      generalize bs[k] = b at hkp
      obtain ⟨l, j, hia, hll, hrow⟩ := (hs.ext E).at (m := k) (strRows_at hkp) .i64
      have hc := cellO_row hrow
      simp only [i0, i3, i4, hia, hc, go_sem, ↓act_zero, Hold.p, HoldK.k, HoldL.K, HoldL.body, Nat.reduceBEq, Nat.reduceAdd, reduceIte, Nat.reduceEqDiff, Nat.reduceLT, Nat.reduceLeDiff]
      generalize hq_g1 : IH.push g (IObj.rows [[.int .u8 b.toNat]] 5 1 false) = g1
      have e_g1 : Ext g g1 := by rw [← hq_g1]; exact (Ext.refl _).push _
      have l_g1 : g1.n = g.n + 1 := by rw [← hq_g1]; rfl
      have ba : At g1 g.n (IObj.rows [[.int .u8 b.toNat]] 5 1 false) := by rw [← hq_g1]; exact At.new _ _
      clear hq_g1
      have o := o.ext e_g1
      have E := E.ext e_g1
      refine o.app (by simp) (by rw [strRows_len]; simp; omega) ?_
      intro v6 h6 o6 t6 n6 v6o v6c
      have E := E.turn o (by omega) t6
      have le_t6 := t6.le
      simp only [i0, i3, i4, go_sem, ↓act_zero, Hold.p, HoldK.k, HoldL.K, HoldL.body, Nat.reduceBEq, Nat.reduceAdd, reduceIte, Nat.reduceEqDiff, Nat.reduceLT, Nat.reduceLeDiff]
      refine ⟨_, ?_, v6, g1.n, g1.n + 1, k + 1, rfl, by omega, rfl, wr64_succ k (by omega), E, by omega, by omega, ?_⟩
      · omega
      · rw [List.take_add_one, hkp, strRows_append]; exact o6
    · obtain rfl : k = bs.length := by omega
      rw [List.take_length] at o
      simp only [i3, go_sem, ↓act_zero, Hold.p, HoldK.k, HoldL.K, HoldL.body, Nat.reduceBEq, Nat.reduceAdd, reduceIte, Nat.reduceEqDiff, Nat.reduceLT, Nat.reduceLeDiff]
      exact ⟨o.wide hlo hhi (Nat.le_refl _), E⟩

set_option maxRecDepth 20000 in
theorem l01Join_c (h : IH) (v w : IV) (az bs : List UInt8) (hv : SlR h 1 v (strRows az)) (hw : SlR h 1 w (strRows bs)) (hal : az.length ≤ 8388608) (hbl : bs.length ≤ 8388608) : ICalls Tryz.prog 100 [v, w] h fun r h' => Own h.n h'.n h' 5 1 r (strRows (az ++ bs)) ∧ Ext h h' := by
  refine icalls (.of ok100) (Nat.le_of_ble_eq_true rfl) ?_
  unfold c100
  have hlen := hw.lenF
  rw [strRows_len] at hlen
  simp only [go_sem, ↓act_zero, Hold.p, HoldK.k, HoldL.K, HoldL.body, Nat.reduceBEq, Nat.reduceAdd, reduceIte, Nat.reduceEqDiff, Nat.reduceLT, Nat.reduceLeDiff]
  refine callA_of (l01Copy_c h v az hv (by omega)) ?_
  rintro x0 h1 ⟨o0, E0⟩
  simp only [go_sem, ↓act_zero, Hold.p, HoldK.k, HoldL.K, HoldL.body, Nat.reduceBEq, Nat.reduceAdd, reduceIte, Nat.reduceEqDiff, Nat.reduceLT, Nat.reduceLeDiff]
  have hle0 := E0.le
  refine loop_at (fun n e g => ∃ (x : IV) (lo hi k : Nat), n = bs.length - k ∧ k ≤ bs.length ∧ e 1 = w ∧ e 5 = x ∧ e 6 = .int .i64 (k : Nat) ∧ Ext h g ∧ h.n ≤ lo ∧ hi ≤ g.n ∧ Own lo hi g 5 1 x (strRows (az ++ bs.take k))) bs.length ?_ ?_
  · refine ⟨x0, h.n, h1.n, 0, by omega, by omega, ?_⟩
    simp only [go_sem, ↓act_zero, Hold.p, HoldK.k, HoldL.K, HoldL.body, Nat.reduceBEq, Nat.reduceAdd, reduceIte, Nat.reduceEqDiff, Nat.reduceLT, Nat.reduceLeDiff]
    exact ⟨rfl, E0, Nat.le_refl _, Nat.le_refl _, by simpa using o0⟩
  · rintro n e g ⟨x, lo, hi, k, rfl, hk, i1, i5, i6, E, hlo, hhi, o⟩
    have hle := E.le
    simp only [i1, i5, i6, hlen, go_sem, ↓act_zero, Hold.p, HoldK.k, HoldL.K, HoldL.body, Nat.reduceBEq, Nat.reduceAdd, reduceIte, Nat.reduceEqDiff, Nat.reduceLT, Nat.reduceLeDiff]
    refine test_dec (fun hlt => ?_) (fun hlt => ?_)
    · have hlt' : k < bs.length := by omega
      have hkp : bs[k]? = some bs[k] := List.getElem?_eq_getElem hlt'
      generalize bs[k] = b at hkp
      obtain ⟨l, j, hia, hll, hrow⟩ := (hw.ext E).at (m := k) (strRows_at hkp) .i64
      have hc := cellO_row hrow
      simp only [i1, i5, i6, hia, hc, go_sem, ↓act_zero, Hold.p, HoldK.k, HoldL.K, HoldL.body, Nat.reduceBEq, Nat.reduceAdd, reduceIte, Nat.reduceEqDiff, Nat.reduceLT, Nat.reduceLeDiff]
      generalize hq_g1 : IH.push g (IObj.rows [[.int .u8 b.toNat]] 5 1 false) = g1
      have e_g1 : Ext g g1 := by rw [← hq_g1]; exact (Ext.refl _).push _
      have l_g1 : g1.n = g.n + 1 := by rw [← hq_g1]; rfl
      have ba : At g1 g.n (IObj.rows [[.int .u8 b.toNat]] 5 1 false) := by rw [← hq_g1]; exact At.new _ _
      clear hq_g1
      have o := o.ext e_g1
      have E := E.ext e_g1
      refine o.app (by simp) (by rw [strRows_len]; simp; omega) ?_
      intro v6 h6 o6 t6 n6 v6o v6c
      have E := E.turn o (by omega) t6
      have le_t6 := t6.le
      simp only [i1, i5, i6, go_sem, ↓act_zero, Hold.p, HoldK.k, HoldL.K, HoldL.body, Nat.reduceBEq, Nat.reduceAdd, reduceIte, Nat.reduceEqDiff, Nat.reduceLT, Nat.reduceLeDiff]
      refine ⟨_, ?_, v6, g1.n, g1.n + 1, k + 1, rfl, by omega, rfl, wr64_succ k (by omega), E, by omega, by omega, ?_⟩
      · omega
      · rw [List.take_add_one, hkp, ← List.append_assoc, strRows_append]; exact o6
    · obtain rfl : k = bs.length := by omega
      rw [List.take_length] at o
      simp only [i5, go_sem, ↓act_zero, Hold.p, HoldK.k, HoldL.K, HoldL.body, Nat.reduceBEq, Nat.reduceAdd, reduceIte, Nat.reduceEqDiff, Nat.reduceLT, Nat.reduceLeDiff]
      exact ⟨o.wide hlo hhi (Nat.le_refl _), E⟩

set_option maxRecDepth 20000 in
theorem l01In_c (h : IH) (n lo hi : Int) :
    ICalls Tryz.prog 44 [.int .i64 n, .int .i64 lo, .int .i64 hi] h fun r h' => r = .bool (decide (lo ≤ n) && decide (n ≤ hi)) ∧ h' = h := by
  refine icalls (.of ok44) (Nat.le_of_ble_eq_true rfl) ?_
  unfold c44
  simp only [go_sem, ↓act_zero, Hold.p, HoldK.k, HoldL.K, HoldL.body, Nat.reduceBEq, Nat.reduceAdd, reduceIte, Nat.reduceEqDiff, Nat.reduceLT, Nat.reduceLeDiff]
set_option maxRecDepth 20000 in
theorem l10PortOK_c (h : IH) (n : Int) :
    ICalls Tryz.prog 19 [.int .i64 n] h fun r h' => r = .bool (decide (0 ≤ n) && decide (n ≤ 65535)) ∧ h' = h := by
  refine icalls (.of ok19) (Nat.le_of_ble_eq_true rfl) ?_
  unfold c19
  simp only [go_sem, ↓act_zero, Hold.p, HoldK.k, HoldL.K, HoldL.body, Nat.reduceBEq, Nat.reduceAdd, reduceIte, Nat.reduceEqDiff, Nat.reduceLT, Nat.reduceLeDiff]
  refine callA_of (l01In_c h n 0 65535) ?_
  rintro r h' ⟨rfl, rfl⟩
  simp only [go_sem, ↓act_zero, Hold.p, HoldK.k, HoldL.K, HoldL.body, Nat.reduceBEq, Nat.reduceAdd, reduceIte, Nat.reduceEqDiff, Nat.reduceLT, Nat.reduceLeDiff]
end
end Go.Proofs.YtaoffieemecioaaGreatDoor


namespace Go.Proofs.YtaoffieemecioaaGreatDoor
open Go Go.IW

def encQ (id : Int) (s : List UInt8) : List UInt8 × Int :=
  if (0 ≤ id ∧ id ≤ 65535) ∧ okName s = true then ((beB 2 id ++ [0, UInt8.ofNat s.length]) ++ s, 0) else ([], 1)
def BytesRes (h h' : IH) (r : IV) (x : List UInt8 × Int) : Prop := ∃ v, r = .tuple [v, .int .i64 x.2] ∧ Own h.n h'.n h' 5 1 v (strRows x.1) ∧ Ext h h'
theorem okName_ne {s : List UInt8} (h : okName s = true) : s ≠ [] ∧ s.length ≤ 63 := by
  constructor
  · rintro rfl; exact absurd h (by decide)
  · unfold okName at h; simp at h; exact h.1
theorem u8_len {n : Nat} (hn : n ≤ 255) : wr .u8 (n : Int) = ((UInt8.ofNat n).toNat : Int) := by
  have : ((n : Int) % 256).toNat = n := by omega
  rw [wr_u8, this]

section
attribute [local go_sem] boxA_1 boxA_2 boxA_3 bslA_1 List.getElem?_cons_zero List.getElem?_cons_succ Option.bind_some List.map_cons List.map_nil Nat.zero_add if_true List.getD_cons_zero List.getD_cons_succ List.contains_cons List.contains_nil Bool.or_true Bool.true_or Bool.or_false Bool.false_or Bool.not_true Bool.not_false true_and and_true rowA_whole push_n set_n push_obj set_obj set_push set_push_ne set_set Nat.add_assoc Nat.left_eq_add Nat.add_eq_left Nat.add_left_cancel_iff stO_1s stO_ws boxA_s one_bool one_int one_str one_ptr one_nilptr one_slice one_eslice one_nilslice one_func one_iface one_niliface List.all_cons List.all_nil List.length_cons List.length_nil Bool.and_true Nat.one_ne_zero Nat.succ_ne_zero if_false List.set_cons_zero List.set_cons_succ
set_option maxRecDepth 20000 in
theorem specEncodeQuery_c (h : IH) (id : Int) (s : List UInt8) (hm : s.length ≤ 1048576) : ICalls Tryz.prog 89 [.agg [.int .i64 id, .str s]] h fun r h' => BytesRes h h' r (encQ id s) := by
  refine icalls (.of ok89) (Nat.le_of_ble_eq_true rfl) ?_
  unfold c89
  simp only [go_sem, ↓act_zero, Hold.p, HoldK.k, HoldL.K, HoldL.body, Nat.reduceBEq, Nat.reduceAdd, reduceIte, Nat.reduceEqDiff, Nat.reduceLT, Nat.reduceLeDiff]
  generalize hq_g0 : IH.push h (IObj.rows [[IV.int .i64 id, IV.str s]] 109 2 false) = g0
  have e_g0 : Ext h g0 := by rw [← hq_g0]; exact (Ext.refl _).push _
  have l_g0 : g0.n = h.n + 1 := by rw [← hq_g0]; rfl
  have bb : At g0 h.n (IObj.rows [[IV.int .i64 id, IV.str s]] 109 2 false) := by rw [← hq_g0]; exact At.new _ _
  clear hq_g0
  refine callA_of (l10PortOK_c _ id) ?_
  rintro r g0' ⟨rfl, rfl⟩
  cases q1 : (decide (0 ≤ id) && decide (id ≤ 65535))
  · simp only [q1, go_sem, ↓act_zero, Hold.p, HoldK.k, HoldL.K, HoldL.body, Nat.reduceBEq, Nat.reduceAdd, reduceIte, Nat.reduceEqDiff, Nat.reduceLT, Nat.reduceLeDiff]
    have : encQ id s = ([], 1) := if_neg (fun hx => by simp at q1; omega)
    rw [this]
    exact ⟨_, rfl, Own.nil, e_g0⟩
  · simp only [q1, bb.eq, go_sem, ↓act_zero, Hold.p, HoldK.k, HoldL.K, HoldL.body, Nat.reduceBEq, Nat.reduceAdd, reduceIte, Nat.reduceEqDiff, Nat.reduceLT, Nat.reduceLeDiff]
    refine callA_of (specNameOK_c _ s hm) ?_
    rintro r h1 ⟨rfl, E1⟩
    have E := e_g0.trans E1
    have bb := bb.ext E1
    have le_E1 := E1.le
    cases q2 : okName s
    · simp only [q2, go_sem, ↓act_zero, Hold.p, HoldK.k, HoldL.K, HoldL.body, Nat.reduceBEq, Nat.reduceAdd, reduceIte, Nat.reduceEqDiff, Nat.reduceLT, Nat.reduceLeDiff]
      have : encQ id s = ([], 1) := if_neg (fun hx => by rw [q2] at hx; exact Bool.noConfusion hx.2)
      rw [this]
      exact ⟨_, rfl, Own.nil, E⟩
    · obtain ⟨hne, hl⟩ := okName_ne q2
      have hdef : encQ id s = ((beB 2 id ++ [0, UInt8.ofNat s.length]) ++ s, 0) := if_pos ⟨by simp at q1; omega, q2⟩
      rw [hdef]
      have w1 := u8_len (n := s.length) (by omega)
      have hbl := bb.lt
      simp only [q2, bb.eq, w1, go_sem, ↓act_zero, Hold.p, HoldK.k, HoldL.K, HoldL.body, Nat.reduceBEq, Nat.reduceAdd, reduceIte, Nat.reduceEqDiff, Nat.reduceLT, Nat.reduceLeDiff]
      refine either_of ?_ ?_
      · simp only [go_sem, ↓act_zero, Hold.p, HoldK.k, HoldL.K, HoldL.body, Nat.reduceBEq, Nat.reduceAdd, reduceIte, Nat.reduceEqDiff, Nat.reduceLT, Nat.reduceLeDiff]
        refine callA_of (l03Put_c _ id 2 (by omega)) ?_
        rintro x h2 ⟨ox, E2⟩
        have bb := bb.ext E2
        have E := E.ext E2
        have le_E2 := E2.le
        have hn2 : (h.n = h2.n) = False := by simp; omega
        simp only [bb.eq, w1, bslA_2, hn2, go_sem, ↓act_zero, Hold.p, HoldK.k, HoldL.K, HoldL.body, Nat.reduceBEq, Nat.reduceAdd, reduceIte, Nat.reduceEqDiff, Nat.reduceLT, Nat.reduceLeDiff]
        generalize hq_g3 : IH.push h2 (IObj.rows [[IV.int .u8 0], [IV.int .u8 (UInt8.ofNat s.length).toNat]] 5 1 false) = g3
        have e_g3 : Ext h2 g3 := by rw [← hq_g3]; exact (Ext.refl _).push _
        have l_g3 : g3.n = h2.n + 1 := by rw [← hq_g3]; rfl
        have ba : At g3 h2.n (IObj.rows [[IV.int .u8 0], [IV.int .u8 (UInt8.ofNat s.length).toNat]] 5 1 false) := by rw [← hq_g3]; exact At.new _ _
        clear hq_g3
        have ox := ox.ext e_g3
        have bb := bb.ext e_g3
        have E := E.ext e_g3
        have hy : SlR g3 1 (.slice h2.n 0 2) (strRows [0, UInt8.ofNat s.length]) := SlR.whole ba.eq rfl ba.lt
        refine callA_of (l01Join_c _ _ _ _ _ ox.sl hy (by rw [beB_len]; omega) (by simp)) ?_
        rintro v3 h3 ⟨o3, E3⟩
        have bb := bb.ext E3
        have E := E.ext E3
        have le_E3 := E3.le
        simp only [bb.eq, s2bA_some hne (by omega), go_sem, ↓act_zero, Hold.p, HoldK.k, HoldL.K, HoldL.body, Nat.reduceBEq, Nat.reduceAdd, reduceIte, Nat.reduceEqDiff, Nat.reduceLT, Nat.reduceLeDiff]
        generalize hq_g4 : IH.push h3 (IObj.rows (strRows s) 5 1 false) = g4
        have e_g4 : Ext h3 g4 := by rw [← hq_g4]; exact (Ext.refl _).push _
        have l_g4 : g4.n = h3.n + 1 := by rw [← hq_g4]; rfl
        have bs : At g4 h3.n (IObj.rows (strRows s) 5 1 false) := by rw [← hq_g4]; exact At.new _ _
        clear hq_g4
        have o3 := o3.ext e_g4
        have bb := bb.ext e_g4
        have E := E.ext e_g4
        have hz : SlR g4 1 (.slice h3.n 0 s.length) (strRows s) := SlR.whole bs.eq (strRows_len s) bs.lt
        refine callA_of (l01Join_c _ _ _ _ _ o3.sl hz (by simp [beB_len]) (by omega)) ?_
        rintro v5 h5 ⟨o5, E5⟩
        have E4le := E.le
        have E := E.ext E5
        have le_E5 := E5.le
        simp only [go_sem, ↓act_zero, Hold.p, HoldK.k, HoldL.K, HoldL.body, Nat.reduceBEq, Nat.reduceAdd, reduceIte, Nat.reduceEqDiff, Nat.reduceLT, Nat.reduceLeDiff]
        exact ⟨v5, rfl, o5.wide E4le (Nat.le_refl _) (Nat.le_refl _), E⟩
      · have hn2 : (h.n = h1.n) = False := by simp; omega
        simp only [bb.eq, w1, bslA_2, hn2, go_sem, ↓act_zero, Hold.p, HoldK.k, HoldL.K, HoldL.body, Nat.reduceBEq, Nat.reduceAdd, reduceIte, Nat.reduceEqDiff, Nat.reduceLT, Nat.reduceLeDiff]
        generalize hq_g3 : IH.push h1 (IObj.rows [[IV.int .u8 0], [IV.int .u8 (UInt8.ofNat s.length).toNat]] 5 1 false) = g3
        have e_g3 : Ext h1 g3 := by rw [← hq_g3]; exact (Ext.refl _).push _
        have l_g3 : g3.n = h1.n + 1 := by rw [← hq_g3]; rfl
        have ba : At g3 h1.n (IObj.rows [[IV.int .u8 0], [IV.int .u8 (UInt8.ofNat s.length).toNat]] 5 1 false) := by rw [← hq_g3]; exact At.new _ _
        clear hq_g3
        have bb := bb.ext e_g3
        have E := E.ext e_g3
        refine callA_of (l03Put_c _ id 2 (by omega)) ?_
        rintro x h2 ⟨ox, E2⟩
        have bb := bb.ext E2
        have E := E.ext E2
        have ba := ba.ext E2
        have le_E2 := E2.le
        simp only [bb.eq, w1, go_sem, ↓act_zero, Hold.p, HoldK.k, HoldL.K, HoldL.body, Nat.reduceBEq, Nat.reduceAdd, reduceIte, Nat.reduceEqDiff, Nat.reduceLT, Nat.reduceLeDiff]
        have hy : SlR h2 1 (.slice h1.n 0 2) (strRows [0, UInt8.ofNat s.length]) := SlR.whole ba.eq rfl ba.lt
        refine callA_of (l01Join_c _ _ _ _ _ ox.sl hy (by rw [beB_len]; omega) (by simp)) ?_
        rintro v3 h3 ⟨o3, E3⟩
        have bb := bb.ext E3
        have E := E.ext E3
        have le_E3 := E3.le
        simp only [bb.eq, s2bA_some hne (by omega), go_sem, ↓act_zero, Hold.p, HoldK.k, HoldL.K, HoldL.body, Nat.reduceBEq, Nat.reduceAdd, reduceIte, Nat.reduceEqDiff, Nat.reduceLT, Nat.reduceLeDiff]
        generalize hq_g4 : IH.push h3 (IObj.rows (strRows s) 5 1 false) = g4
        have e_g4 : Ext h3 g4 := by rw [← hq_g4]; exact (Ext.refl _).push _
        have l_g4 : g4.n = h3.n + 1 := by rw [← hq_g4]; rfl
        have bs : At g4 h3.n (IObj.rows (strRows s) 5 1 false) := by rw [← hq_g4]; exact At.new _ _
        clear hq_g4
        have o3 := o3.ext e_g4
        have bb := bb.ext e_g4
        have E := E.ext e_g4
        have hz : SlR g4 1 (.slice h3.n 0 s.length) (strRows s) := SlR.whole bs.eq (strRows_len s) bs.lt
        refine callA_of (l01Join_c _ _ _ _ _ o3.sl hz (by simp [beB_len]) (by omega)) ?_
        rintro v5 h5 ⟨o5, E5⟩
        have E4le := E.le
        have E := E.ext E5
        have le_E5 := E5.le
        simp only [go_sem, ↓act_zero, Hold.p, HoldK.k, HoldL.K, HoldL.body, Nat.reduceBEq, Nat.reduceAdd, reduceIte, Nat.reduceEqDiff, Nat.reduceLT, Nat.reduceLeDiff]
        exact ⟨v5, rfl, o5.wide E4le (Nat.le_refl _) (Nat.le_refl _), E⟩
end
end Go.Proofs.YtaoffieemecioaaGreatDoor


namespace Go.Proofs.YtaoffieemecioaaGreatDoor
open Go Go.IW

theorem strRows_ne {s : List UInt8} (h : s ≠ []) : strRows s ≠ [] := by
  intro hx; exact h (by simpa [strRows] using hx)

section
attribute [local go_sem] boxA_1 boxA_2 boxA_3 bslA_1 List.getElem?_cons_zero List.getElem?_cons_succ Option.bind_some List.map_cons List.map_nil Nat.zero_add if_true List.getD_cons_zero List.getD_cons_succ List.contains_cons List.contains_nil Bool.or_true Bool.true_or Bool.or_false Bool.false_or Bool.not_true Bool.not_false true_and and_true rowA_whole push_n set_n push_obj set_obj set_push set_push_ne set_set Nat.add_assoc Nat.left_eq_add Nat.add_eq_left Nat.add_left_cancel_iff stO_1s stO_ws boxA_s one_bool one_int one_str one_ptr one_nilptr one_slice one_eslice one_nilslice one_func one_iface one_niliface List.all_cons List.all_nil List.length_cons List.length_nil Bool.and_true Nat.one_ne_zero Nat.succ_ne_zero if_false List.set_cons_zero List.set_cons_succ
set_option maxRecDepth 20000 in
theorem implEncodeQuery_c (h : IH) (id : Int) (s : List UInt8) (hm : s.length ≤ 1048576) : ICalls Tryz.prog 61 [.agg [.int .i64 id, .str s]] h fun r h' => BytesRes h h' r (encQ id s) := by
  refine icalls (.of ok61) (Nat.le_of_ble_eq_true rfl) ?_
  unfold c61
  by_cases c1 : id < 0
  · have d1 : decide (id < 0) = true := decide_eq_true c1
    simp only [d1, go_sem, ↓act_zero, Hold.p, HoldK.k, HoldL.K, HoldL.body, Nat.reduceBEq, Nat.reduceAdd, reduceIte, Nat.reduceEqDiff, Nat.reduceLT, Nat.reduceLeDiff]
    have : encQ id s = ([], 1) := if_neg (fun hx => by omega)
    rw [this]
    exact ⟨_, rfl, Own.nil, (Ext.refl _).push _⟩
  · have d1 : decide (id < 0) = false := decide_eq_false c1
    by_cases c2 : 65535 < id
    · have d2 : decide (65535 < id) = true := decide_eq_true c2
      simp only [d1, d2, go_sem, ↓act_zero, Hold.p, HoldK.k, HoldL.K, HoldL.body, Nat.reduceBEq, Nat.reduceAdd, reduceIte, Nat.reduceEqDiff, Nat.reduceLT, Nat.reduceLeDiff]
      have : encQ id s = ([], 1) := if_neg (fun hx => by omega)
      rw [this]
      exact ⟨_, rfl, Own.nil, (Ext.refl _).push _⟩
    · have d2 : decide (65535 < id) = false := decide_eq_false c2
      simp only [d1, d2, go_sem, ↓act_zero, Hold.p, HoldK.k, HoldL.K, HoldL.body, Nat.reduceBEq, Nat.reduceAdd, reduceIte, Nat.reduceEqDiff, Nat.reduceLT, Nat.reduceLeDiff]
      generalize hq_g0 : IH.push h (IObj.rows [[IV.int .i64 id, IV.str s]] 109 2 false) = g0
      have e_g0 : Ext h g0 := by rw [← hq_g0]; exact (Ext.refl _).push _
      have l_g0 : g0.n = h.n + 1 := by rw [← hq_g0]; rfl
      have bb : At g0 h.n (IObj.rows [[IV.int .i64 id, IV.str s]] 109 2 false) := by rw [← hq_g0]; exact At.new _ _
      clear hq_g0
      refine callA_of (implNameOK_c _ s hm) ?_
      rintro r h1 ⟨rfl, E1⟩
      have E := e_g0.trans E1
      have bb := bb.ext E1
      have le_E1 := E1.le
      cases q2 : okName s
      · simp only [q2, go_sem, ↓act_zero, Hold.p, HoldK.k, HoldL.K, HoldL.body, Nat.reduceBEq, Nat.reduceAdd, reduceIte, Nat.reduceEqDiff, Nat.reduceLT, Nat.reduceLeDiff]
        have : encQ id s = ([], 1) := if_neg (fun hx => by rw [q2] at hx; exact Bool.noConfusion hx.2)
        rw [this]
        exact ⟨_, rfl, Own.nil, E⟩
      · obtain ⟨hne, hl⟩ := okName_ne q2
        have hdef : encQ id s = ((beB 2 id ++ [0, UInt8.ofNat s.length]) ++ s, 0) := if_pos ⟨by omega, q2⟩
        rw [hdef]
        have w1 := u8_len (n := s.length) (by omega)
        have hbl := bb.lt
        have hsn := strRows_ne hne
        have h2r : ∀ {x : IV} {lo hi : Nat} {g : IH}, Own lo hi g 5 1 x (strRows (beB 2 id) ++ [[IV.int .u8 0], [IV.int .u8 (UInt8.ofNat s.length).toNat]]) → Own lo hi g 5 1 x (strRows (beB 2 id ++ [0, UInt8.ofNat s.length])) := fun o => by rw [strRows_append]; exact o
        simp only [q2, bb.eq, w1, go_sem, ↓act_zero, Hold.p, HoldK.k, HoldL.K, HoldL.body, Nat.reduceBEq, Nat.reduceAdd, reduceIte, Nat.reduceEqDiff, Nat.reduceLT, Nat.reduceLeDiff]
        refine either_of ?_ ?_
        · simp only [go_sem, ↓act_zero, Hold.p, HoldK.k, HoldL.K, HoldL.body, Nat.reduceBEq, Nat.reduceAdd, reduceIte, Nat.reduceEqDiff, Nat.reduceLT, Nat.reduceLeDiff]
          refine callA_of (put_c h1 _ (Ext.refl _) .nilslice [] id 2 (by omega) (by omega) (by simp) (Nat.le_refl h1.n) (hi := h1.n) Own.nil (Nat.le_refl _)) ?_
          rintro x h2 ⟨ox, E2⟩
          rw [na0] at ox
          have bb := bb.ext E2
          have E := E.ext E2
          have le_E2 := E2.le
          have hn2 : (h.n = h2.n) = False := by simp; omega
          simp only [bb.eq, w1, bslA_2, hn2, srcO_2, go_sem, ↓act_zero, Hold.p, HoldK.k, HoldL.K, HoldL.body, Nat.reduceBEq, Nat.reduceAdd, reduceIte, Nat.reduceEqDiff, Nat.reduceLT, Nat.reduceLeDiff]
          generalize hq_g3 : IH.push h2 (IObj.rows [[IV.int .u8 0], [IV.int .u8 (UInt8.ofNat s.length).toNat]] 5 1 false) = g3
          have e_g3 : Ext h2 g3 := by rw [← hq_g3]; exact (Ext.refl _).push _
          have l_g3 : g3.n = h2.n + 1 := by rw [← hq_g3]; rfl
          have ba : At g3 h2.n (IObj.rows [[IV.int .u8 0], [IV.int .u8 (UInt8.ofNat s.length).toNat]] 5 1 false) := by rw [← hq_g3]; exact At.new _ _
          clear hq_g3
          have ox := ox.ext e_g3
          have bb := bb.ext e_g3
          have E := E.ext e_g3
          refine ox.app (by simp) (by rw [strRows_len, beB_len]; simp) ?_
          intro v6 h6 o6 t6 n6 v6o v6c
          have o7 := h2r o6
          have hbl3 := bb.lt
          have bb := bb.turn ox (by omega) t6
          have E := E.turn ox (by omega) t6
          have le_t6 := t6.le
          simp only [bb.eq, go_sem, ↓act_zero, Hold.p, HoldK.k, HoldL.K, HoldL.body, Nat.reduceBEq, Nat.reduceAdd, reduceIte, Nat.reduceEqDiff, Nat.reduceLT, Nat.reduceLeDiff]
          refine o7.app hsn (by simp [strRows_len, beB_len]; omega) ?_
          intro v8 h8 o8 t8 n8 v8o v8c
          have bb := bb.turn o7 (by omega) t8
          have E := E.turn o7 (by omega) t8
          have le_t8 := t8.le
          rw [← strRows_append] at o8
          simp only [bb.eq, go_sem, ↓act_zero, Hold.p, HoldK.k, HoldL.K, HoldL.body, Nat.reduceBEq, Nat.reduceAdd, reduceIte, Nat.reduceEqDiff, Nat.reduceLT, Nat.reduceLeDiff]
          exact ⟨v8, rfl, o8.wide (by have := E.le; omega) (by omega) (Nat.le_refl _), E⟩
        · have hn2 : (h.n = h1.n) = False := by simp; omega
          simp only [bb.eq, w1, bslA_2, hn2, go_sem, ↓act_zero, Hold.p, HoldK.k, HoldL.K, HoldL.body, Nat.reduceBEq, Nat.reduceAdd, reduceIte, Nat.reduceEqDiff, Nat.reduceLT, Nat.reduceLeDiff]
          generalize hq_g3 : IH.push h1 (IObj.rows [[IV.int .u8 0], [IV.int .u8 (UInt8.ofNat s.length).toNat]] 5 1 false) = g3
          have e_g3 : Ext h1 g3 := by rw [← hq_g3]; exact (Ext.refl _).push _
          have l_g3 : g3.n = h1.n + 1 := by rw [← hq_g3]; rfl
          have ba : At g3 h1.n (IObj.rows [[IV.int .u8 0], [IV.int .u8 (UInt8.ofNat s.length).toNat]] 5 1 false) := by rw [← hq_g3]; exact At.new _ _
          clear hq_g3
          have bb := bb.ext e_g3
          have E := E.ext e_g3
          refine callA_of (put_c g3 _ (Ext.refl _) .nilslice [] id 2 (by omega) (by omega) (by simp) (Nat.le_refl g3.n) (hi := g3.n) Own.nil (Nat.le_refl _)) ?_
          rintro x h2 ⟨ox, E2⟩
          rw [na0] at ox
          have bb := bb.ext E2
          have E := E.ext E2
          have ba := ba.ext E2
          have le_E2 := E2.le
          simp only [bb.eq, w1, ba.eq, srcO_2, go_sem, ↓act_zero, Hold.p, HoldK.k, HoldL.K, HoldL.body, Nat.reduceBEq, Nat.reduceAdd, reduceIte, Nat.reduceEqDiff, Nat.reduceLT, Nat.reduceLeDiff]
          refine ox.app (by simp) (by rw [strRows_len, beB_len]; simp) ?_
          intro v6 h6 o6 t6 n6 v6o v6c
          have o7 := h2r o6
          have hbl3 := bb.lt
          have bb := bb.turn ox (by omega) t6
          have E := E.turn ox (by omega) t6
          have le_t6 := t6.le
          simp only [bb.eq, go_sem, ↓act_zero, Hold.p, HoldK.k, HoldL.K, HoldL.body, Nat.reduceBEq, Nat.reduceAdd, reduceIte, Nat.reduceEqDiff, Nat.reduceLT, Nat.reduceLeDiff]
          refine o7.app hsn (by simp [strRows_len, beB_len]; omega) ?_
          intro v8 h8 o8 t8 n8 v8o v8c
          have bb := bb.turn o7 (by omega) t8
          have E := E.turn o7 (by omega) t8
          have le_t8 := t8.le
          rw [← strRows_append] at o8
          simp only [bb.eq, go_sem, ↓act_zero, Hold.p, HoldK.k, HoldL.K, HoldL.body, Nat.reduceBEq, Nat.reduceAdd, reduceIte, Nat.reduceEqDiff, Nat.reduceLT, Nat.reduceLeDiff]
          exact ⟨v8, rfl, o8.wide (by have := E.le; omega) (by omega) (Nat.le_refl _), E⟩
end
theorem encQ_len {id : Int} {s : List UInt8} : (encQ id s).1.length ≤ 1000 := by
  unfold encQ
  split
  · rename_i h
    have := (okName_ne h.2).2
    simp [beB_len]; omega
  · simp

end Go.Proofs.YtaoffieemecioaaGreatDoor


namespace Go.Proofs.YtaoffieemecioaaGreatDoor
open Go Go.IW

section
attribute [local go_sem] boxA_1 boxA_2 boxA_3 bslA_1 List.getElem?_cons_zero List.getElem?_cons_succ Option.bind_some List.map_cons List.map_nil Nat.zero_add if_true List.getD_cons_zero List.getD_cons_succ List.contains_cons List.contains_nil Bool.or_true Bool.true_or Bool.or_false Bool.false_or Bool.not_true Bool.not_false true_and and_true rowA_whole push_n set_n push_obj set_obj set_push set_push_ne set_set Nat.add_assoc Nat.left_eq_add Nat.add_eq_left Nat.add_left_cancel_iff stO_1s stO_ws boxA_s one_bool one_int one_str one_ptr one_nilptr one_slice one_eslice one_nilslice one_func one_iface one_niliface List.all_cons List.all_nil List.length_cons List.length_nil Bool.and_true Nat.one_ne_zero Nat.succ_ne_zero if_false List.set_cons_zero List.set_cons_succ
set_option maxRecDepth 20000 in
theorem l03Num_c (h : IH) (v : IV) (bs : List UInt8) (hs : SlR h 1 v (strRows bs)) (hl : bs.length ≤ 7) : ICalls Tryz.prog 91 [v] h fun r h' => r = .int .i64 (numB bs) ∧ h' = h := by
  refine icalls (.of ok91) (Nat.le_of_ble_eq_true rfl) ?_
  unfold c91
  have hlen := hs.lenF
  rw [strRows_len] at hlen
  simp only [go_sem, ↓act_zero, Hold.p, HoldK.k, HoldL.K, HoldL.body, Nat.reduceBEq, Nat.reduceAdd, reduceIte, Nat.reduceEqDiff, Nat.reduceLT, Nat.reduceLeDiff]
  refine loop_at (fun n e h' => ∃ k, n = bs.length - k ∧ k ≤ bs.length ∧ e 0 = v ∧ e 3 = .int .i64 (numB (bs.take k)) ∧ e 4 = .int .i64 (k : Nat) ∧ h' = h) bs.length ?_ ?_
  · refine ⟨0, by omega, by omega, ?_⟩
    simp only [go_sem, ↓act_zero, Hold.p, HoldK.k, HoldL.K, HoldL.body, Nat.reduceBEq, Nat.reduceAdd, reduceIte, Nat.reduceEqDiff, Nat.reduceLT, Nat.reduceLeDiff]
    exact ⟨rfl, rfl⟩
  · rintro n e h' ⟨k, rfl, hk, e0, e3, e4, rfl⟩
    simp only [e0, e3, e4, hlen, go_sem, ↓act_zero, Hold.p, HoldK.k, HoldL.K, HoldL.body, Nat.reduceBEq, Nat.reduceAdd, reduceIte, Nat.reduceEqDiff, Nat.reduceLT, Nat.reduceLeDiff]
    refine test_dec (fun hb => ?_) (fun hb => ?_)
    · have hlt' : k < bs.length := by omega
      have hkp : bs[k]? = some bs[k] := List.getElem?_eq_getElem hlt'
      generalize bs[k] = p at hkp
      obtain ⟨l, j, hia, hll, hrow⟩ := hs.at (m := k) (strRows_at hkp) .i64
      have hc := cellO_row hrow
      have hbd := numB_bound 6 (bs.take k) (by simp; omega)
      have hpb : ((p.toNat : Nat) : Int) < 256 := by have := p.toNat_lt; omega
      have w1 : wr .i64 (numB (bs.take k) * 256) = numB (bs.take k) * 256 := wr64 _ (by omega)
      have w2 : wr .i64 ((p.toNat : Nat) : Int) = ((p.toNat : Nat) : Int) := wr64 _ (by omega)
      have w3 : wr .i64 (numB (bs.take k) * 256 + (p.toNat : Int)) = numB (bs.take (k + 1)) := by
        rw [List.take_add_one, hkp]
        simp only [Option.toList_some]
        rw [numB_snoc, wr64 _ (by omega)]
      simp only [e0, e3, e4, hia, hc, w1, w2, w3, go_sem, ↓act_zero, Hold.p, HoldK.k, HoldL.K, HoldL.body, Nat.reduceBEq, Nat.reduceAdd, reduceIte, Nat.reduceEqDiff, Nat.reduceLT, Nat.reduceLeDiff]
      exact ⟨_, by omega, k + 1, rfl, by omega, rfl, wr64_succ k (by omega)⟩
    · obtain rfl : k = bs.length := by omega
      rw [List.take_length] at e3
      simp only [e0, e3, e4, go_sem, ↓act_zero, Hold.p, HoldK.k, HoldL.K, HoldL.body, Nat.reduceBEq, Nat.reduceAdd, reduceIte, Nat.reduceEqDiff, Nat.reduceLT, Nat.reduceLeDiff]

set_option maxRecDepth 20000 in
theorem get_c (h : IH) (v : IV) (bs : List UInt8) (hs : SlR h 1 v (strRows bs)) (hl : bs.length ≤ 7) : ICalls Tryz.prog 96 [v] h fun r h' => r = .int .i64 (numB bs) ∧ h' = h := by
  refine icalls (.of ok96) (Nat.le_of_ble_eq_true rfl) ?_
  unfold c96
  have hlen := hs.lenF
  rw [strRows_len] at hlen
  simp only [hlen, go_sem, ↓act_zero, Hold.p, HoldK.k, HoldL.K, HoldL.body, Nat.reduceBEq, Nat.reduceAdd, reduceIte, Nat.reduceEqDiff, Nat.reduceLT, Nat.reduceLeDiff]
  refine loop_at (fun n e h' => ∃ k, n = bs.length - k ∧ k ≤ bs.length ∧ e 6 = v ∧ e 7 = .int .i64 (bs.length : Nat) ∧ e 3 = .int .i64 (numB (bs.take k)) ∧ e 8 = .int .i64 (k : Nat) ∧ h' = h) bs.length ?_ ?_
  · refine ⟨0, by omega, by omega, ?_⟩
    simp only [go_sem, ↓act_zero, Hold.p, HoldK.k, HoldL.K, HoldL.body, Nat.reduceBEq, Nat.reduceAdd, reduceIte, Nat.reduceEqDiff, Nat.reduceLT, Nat.reduceLeDiff]
    exact ⟨rfl, rfl⟩
  · rintro n e h' ⟨k, rfl, hk, e6, e7, e3, e8, rfl⟩
    simp only [e6, e7, e3, e8, go_sem, ↓act_zero, Hold.p, HoldK.k, HoldL.K, HoldL.body, Nat.reduceBEq, Nat.reduceAdd, reduceIte, Nat.reduceEqDiff, Nat.reduceLT, Nat.reduceLeDiff]
    refine test_dec (fun hb => ?_) (fun hb => ?_)
    · have hlt' : k < bs.length := by omega
      have hkp : bs[k]? = some bs[k] := List.getElem?_eq_getElem hlt'
      generalize bs[k] = p at hkp
      obtain ⟨l, j, hia, hll, hrow⟩ := hs.at (m := k) (strRows_at hkp) .i64
      have hc := cellO_row hrow
      have hbd := numB_bound 6 (bs.take k) (by simp; omega)
      have hpb : ((p.toNat : Nat) : Int) < 256 := by have := p.toNat_lt; omega
      have w0 := ib_shl .i64 (numB (bs.take k)) 8 .u64 (by omega)
      have hmin : min (8 : Int).toNat IntKind.i64.bits = 8 := rfl
      rw [hmin] at w0
      have w1 : wr .i64 (numB (bs.take k) * 2 ^ 8) = numB (bs.take k) * 256 := wr64 _ (by omega)
      rw [w1] at w0
      have w2 : wr .i64 ((p.toNat : Nat) : Int) = ((p.toNat : Nat) : Int) := wr64 _ (by omega)
      have w3 : IW.bits .or .i64 (numB (bs.take k) * 256) (p.toNat : Int) = numB (bs.take (k + 1)) := by
        rw [or_join (by omega) (by omega) (by omega) hpb, List.take_add_one, hkp]
        simp only [Option.toList_some]
        rw [numB_snoc]
      simp only [e6, e7, e3, e8, hia, hc, w0, w2, w3, go_sem, ↓act_zero, Hold.p, HoldK.k, HoldL.K, HoldL.body, Nat.reduceBEq, Nat.reduceAdd, reduceIte, Nat.reduceEqDiff, Nat.reduceLT, Nat.reduceLeDiff]
      exact ⟨_, by omega, k + 1, rfl, by omega, rfl, wr64_succ k (by omega)⟩
    · obtain rfl : k = bs.length := by omega
      rw [List.take_length] at e3
      simp only [e6, e7, e3, e8, go_sem, ↓act_zero, Hold.p, HoldK.k, HoldL.K, HoldL.body, Nat.reduceBEq, Nat.reduceAdd, reduceIte, Nat.reduceEqDiff, Nat.reduceLT, Nat.reduceLeDiff]

def takeD (bs : List UInt8) (sh : Bool) (n : Nat) : List UInt8 × List UInt8 × Bool :=
  if bs.length < n then (List.replicate (min n 8) 0, [], true) else (bs.take n, bs.drop n, sh)
structure BitesAt (h : IH) (p : Nat) (bs : List UInt8) (sh : Bool) : Prop where
  box : ∃ v, At h p (.rows [[v, .bool sh]] 127 2 false) ∧ SlR h 1 v (strRows bs) ∧ ∀ l i m, v = .slice l i m → l < p

theorem islc_at {h : IH} {sz a b : Nat} {v : IV} {l i m : Nat} {mx : Option Nat} (e : islc h sz v a b mx = some (.slice l i m)) : ∃ i0 m0, v = .slice l i0 m0 := by
  cases v with
  | slice l0 i0 m0 =>
    simp only [islc] at e
    split at e
    · split at e
      · split at e
        · cases e
        · cases e; exact ⟨i0, m0, rfl⟩
      · split at e
        · split at e
          · cases e
          · cases e; exact ⟨i0, m0, rfl⟩
        · cases e
    · cases e
  | eslice z => simp only [islc] at e; split at e <;> cases e
  | nilslice => simp only [islc] at e; split at e <;> cases e
  | _ => cases e
theorem slcF_at {h : IH} {sz : Nat} {v : IV} {l i m : Nat} {lo hi : Option IV} (e : slcF h sz v lo hi = some (.slice l i m)) : ∃ i0 m0, v = .slice l i0 m0 := by
  unfold slcF at e
  split at e
  · split at e
    · split at e
      · exact islc_at e
      · cases e
    · cases e
  · cases e

theorem strRows_take (a : List UInt8) (n : Nat) : (strRows a).take n = strRows (a.take n) := by simp [strRows, List.map_take]
theorem strRows_drop (a : List UInt8) (n : Nat) : (strRows a).drop n = strRows (a.drop n) := by simp [strRows, List.map_drop]

set_option maxRecDepth 20000 in
theorem take_c (h : IH) (p n : Nat) (bs : List UInt8) (sh : Bool) (hb : BitesAt h p bs sh) (hn : n ≤ 255) (hl : bs.length ≤ 1048576) :
    ICalls Tryz.prog 78 [.ptr p 0 0, .int .i64 n] h fun r h' => SlR h' 1 r (strRows (takeD bs sh n).1) ∧ BitesAt h' p (takeD bs sh n).2.1 (takeD bs sh n).2.2 ∧ But p .nilslice h h' := by
  obtain ⟨v, ha, hs, hlow⟩ := hb.box
  refine icalls (.of ok78) (Nat.le_of_ble_eq_true rfl) ?_
  unfold c78
  have hlen := hs.lenF
  rw [strRows_len] at hlen
  have hae := ha.eq
  have hal := ha.lt
  by_cases hc : bs.length < n
  · have hd : decide ((bs.length : Int) < (n : Int)) = true := decide_eq_true (by omega)
    have hdef : takeD bs sh n = (List.replicate (min n 8) 0, [], true) := if_pos hc
    rw [hdef]
    have hmn : min (n : Int) 8 = ((min n 8 : Nat) : Int) := by omega
    simp only [hae, hlen, hd, hmn, go_sem, ↓act_zero, Hold.p, HoldK.k, HoldL.K, HoldL.body, Nat.reduceBEq, Nat.reduceAdd, reduceIte, Nat.reduceEqDiff, Nat.reduceLT, Nat.reduceLeDiff]
    refine mksA_of (by omega) (by omega) (by omega) ?_
    simp only [go_sem, ↓act_zero, Hold.p, HoldK.k, HoldL.K, HoldL.body, Nat.reduceBEq, Nat.reduceAdd, reduceIte, Nat.reduceEqDiff, Nat.reduceLT, Nat.reduceLeDiff]
    have B : But p .nilslice h (h.set p (.rows [[.nilslice, .bool true]] 127 2 false)) := (But.refl _ _ _).set _
    have hrep : List.replicate (min n 8) [IV.int .u8 0] = strRows (List.replicate (min n 8) 0) := by simp [strRows]
    have hpn : (p = h.n) = False := by simp; omega
    refine ⟨?_, ⟨⟨.nilslice, ⟨by simp only [push_n, set_n]; omega, by simp [push_obj, set_obj, set_n, hpn]⟩, SlR.nil _ _, fun l i m e => by cases e⟩⟩, ?_⟩
    · refine SlR.whole (e := 5) (ro := false) (by rw [hrep]; exact push_new _ _) (by rw [strRows_len]; simp) (by simp only [push_n, set_n]; omega)
    · refine B.trans (But.of_ext ((Ext.refl _).push _))
  · have hd : decide ((bs.length : Int) < (n : Int)) = false := decide_eq_false (by omega)
    have hdef : takeD bs sh n = (bs.take n, bs.drop n, sh) := if_neg hc
    rw [hdef]
    obtain ⟨v1, hv1, hs1⟩ := hs.hi (b := n) (q := .i64) (by rw [strRows_len]; omega)
    obtain ⟨v2, hv2, hs2⟩ := hs.lo (a := n) (q := .i64) (by rw [strRows_len]; omega)
    rw [strRows_take] at hs1
    rw [strRows_drop] at hs2
    have hv2o := hs2.one
    have hv2c := hs2.cells
    simp only [hae, hlen, hd, hv1, hv2, Option.map_some, Option.map_none, hv2o, hv2c, go_sem, ↓act_zero, Hold.p, HoldK.k, HoldL.K, HoldL.body, Nat.reduceBEq, Nat.reduceAdd, reduceIte, Nat.reduceEqDiff, Nat.reduceLT, Nat.reduceLeDiff]
    have B : But p .nilslice h (h.set p (.rows [[v2, .bool sh]] 127 2 false)) := (But.refl _ _ _).set _
    exact ⟨hs1.but B hae (by omega), ⟨⟨v2, ha.here, hs2.but B hae (by omega), fun l i m e => by subst e; obtain ⟨i0, m0, e0⟩ := slcF_at hv2; exact hlow _ _ _ e0⟩⟩, B⟩

set_option maxRecDepth 20000 in
theorem num_c (h : IH) (p n : Nat) (bs : List UInt8) (sh : Bool) (hb : BitesAt h p bs sh) (hn : n ≤ 7) (hl : bs.length ≤ 1048576) :
    ICalls Tryz.prog 77 [.ptr p 0 0, .int .i64 n] h fun r h' => r = .int .i64 (numB (takeD bs sh n).1) ∧ BitesAt h' p (takeD bs sh n).2.1 (takeD bs sh n).2.2 ∧ But p .nilslice h h' := by
  refine icalls (.of ok77) (Nat.le_of_ble_eq_true rfl) ?_
  unfold c77
  simp only [go_sem, ↓act_zero, Hold.p, HoldK.k, HoldL.K, HoldL.body, Nat.reduceBEq, Nat.reduceAdd, reduceIte, Nat.reduceEqDiff, Nat.reduceLT, Nat.reduceLeDiff]
  refine callA_of (take_c h p n bs sh hb (by omega) hl) ?_
  rintro r h1 ⟨hs, hb1, B⟩
  simp only [go_sem, ↓act_zero, Hold.p, HoldK.k, HoldL.K, HoldL.body, Nat.reduceBEq, Nat.reduceAdd, reduceIte, Nat.reduceEqDiff, Nat.reduceLT, Nat.reduceLeDiff]
  refine callA_of (get_c h1 r _ hs (by unfold takeD; split <;> simp <;> omega)) ?_
  rintro r2 h2 ⟨rfl, rfl⟩
  simp only [go_sem, ↓act_zero, Hold.p, HoldK.k, HoldL.K, HoldL.body, Nat.reduceBEq, Nat.reduceAdd, reduceIte, Nat.reduceEqDiff, Nat.reduceLT, Nat.reduceLeDiff]
  exact ⟨hb1, B⟩
end
end Go.Proofs.YtaoffieemecioaaGreatDoor


namespace Go.Proofs.YtaoffieemecioaaGreatDoor
open Go Go.IW

theorem getD_at {bs : List UInt8} {k : Nat} (hk : k < bs.length) : bs[k]? = some (bs.getD k 0) := by
  rw [List.getD_eq_getElem?_getD, List.getElem?_eq_getElem hk]; rfl

def textAt (bs : List UInt8) (at_ : Nat) : List UInt8 × Int :=
  if bs.length ≤ at_ ∨ bs.length < at_ + 1 + (bs.getD at_ 0).toNat then ([], -1) else ((bs.take (at_ + 1 + (bs.getD at_ 0).toNat)).drop (at_ + 1), ((at_ + 1 + (bs.getD at_ 0).toNat : Nat) : Int))

section
attribute [local go_sem] boxA_1 boxA_2 boxA_3 bslA_1 List.getElem?_cons_zero List.getElem?_cons_succ Option.bind_some List.map_cons List.map_nil Nat.zero_add if_true List.getD_cons_zero List.getD_cons_succ List.contains_cons List.contains_nil Bool.or_true Bool.true_or Bool.or_false Bool.false_or Bool.not_true Bool.not_false true_and and_true rowA_whole push_n set_n push_obj set_obj set_push set_push_ne set_set Nat.add_assoc Nat.left_eq_add Nat.add_eq_left Nat.add_left_cancel_iff stO_1s stO_ws boxA_s one_bool one_int one_str one_ptr one_nilptr one_slice one_eslice one_nilslice one_func one_iface one_niliface List.all_cons List.all_nil List.length_cons List.length_nil Bool.and_true Nat.one_ne_zero Nat.succ_ne_zero if_false List.set_cons_zero List.set_cons_succ
set_option maxRecDepth 20000 in
theorem l19Text_c (h : IH) (v : IV) (bs : List UInt8) (a : Nat) (hs : SlR h 1 v (strRows bs)) (hl : bs.length ≤ 1048576) (hal : a ≤ 1048576) : ICalls Tryz.prog 90 [v, .int .i64 a] h fun r h' => r = .tuple [.str (textAt bs a).1, .int .i64 (textAt bs a).2] ∧ h' = h := by
  refine icalls (.of ok90) (Nat.le_of_ble_eq_true rfl) ?_
  unfold c90
  have hlen := hs.lenF
  rw [strRows_len] at hlen
  have d0 : decide ((a : Int) < 0) = false := decide_eq_false (by omega)
  by_cases c1 : bs.length ≤ a
  · have d1 : decide ((bs.length : Int) ≤ (a : Int)) = true := decide_eq_true (by omega)
    simp only [d0, hlen, d1, go_sem, ↓act_zero, Hold.p, HoldK.k, HoldL.K, HoldL.body, Nat.reduceBEq, Nat.reduceAdd, reduceIte, Nat.reduceEqDiff, Nat.reduceLT, Nat.reduceLeDiff]
    unfold textAt
    rw [if_pos (.inl c1)]
  · have d1 : decide ((bs.length : Int) ≤ (a : Int)) = false := decide_eq_false (by omega)
    have hkp := getD_at (bs := bs) (k := a) (by omega)
    generalize hb : bs.getD a 0 = b at hkp
    have hb256 := b.toNat_lt
    obtain ⟨l, j, hia, hll, hrow⟩ := hs.at (m := a) (strRows_at hkp) .i64
    have hc := cellO_row hrow
    have w2 : wr .i64 ((b.toNat : Nat) : Int) = ((b.toNat : Nat) : Int) := wr64 _ (by omega)
    obtain ⟨en, hen⟩ : ∃ en, en = a + 1 + b.toNat := ⟨_, rfl⟩
    have w1' : wr .i64 ((a : Int) + 1) = ((a + 1 : Nat) : Int) := by rw [wr64 _ (by omega)]; omega
    have w3' : wr .i64 (((a + 1 : Nat) : Int) + (b.toNat : Int)) = (en : Int) := by rw [wr64 _ (by omega)]; omega
    unfold textAt
    rw [hb, ← hen]
    by_cases c2 : bs.length < en
    · have d2 : decide ((bs.length : Int) < (en : Int)) = true := decide_eq_true (by omega)
      simp only [d0, hlen, d1, hia, hc, w1', w2, w3', d2, go_sem, ↓act_zero, Hold.p, HoldK.k, HoldL.K, HoldL.body, Nat.reduceBEq, Nat.reduceAdd, reduceIte, Nat.reduceEqDiff, Nat.reduceLT, Nat.reduceLeDiff]
      rw [if_pos (.inr c2)]
    · have d2 : decide ((bs.length : Int) < (en : Int)) = false := decide_eq_false (by omega)
      obtain ⟨v1, hv1, hs1⟩ := hs.lohi (a := a + 1) (b := en) (q := .i64) (q' := .i64) (by omega) (by rw [strRows_len]; omega)
      rw [strRows_take, strRows_drop] at hs1
      have hb2 := hs1.b2s
      simp only [d0, hlen, d1, hia, hc, w1', w2, w3', d2, hv1, hb2, Option.map_some, go_sem, ↓act_zero, Hold.p, HoldK.k, HoldL.K, HoldL.body, Nat.reduceBEq, Nat.reduceAdd, reduceIte, Nat.reduceEqDiff, Nat.reduceLT, Nat.reduceLeDiff]
      rw [if_neg (by omega)]
end
end Go.Proofs.YtaoffieemecioaaGreatDoor


namespace Go.Proofs.YtaoffieemecioaaGreatDoor
open Go Go.IW

theorem takeD_long {bs : List UInt8} {sh : Bool} {n : Nat} (h : ¬ bs.length < n) : takeD bs sh n = (bs.take n, bs.drop n, sh) := if_neg h
section
attribute [local go_sem] boxA_1 boxA_2 boxA_3 bslA_1 List.getElem?_cons_zero List.getElem?_cons_succ Option.bind_some List.map_cons List.map_nil Nat.zero_add if_true List.getD_cons_zero List.getD_cons_succ List.contains_cons List.contains_nil Bool.or_true Bool.true_or Bool.or_false Bool.false_or Bool.not_true Bool.not_false true_and and_true rowA_whole push_n set_n push_obj set_obj set_push set_push_ne set_set Nat.add_assoc Nat.left_eq_add Nat.add_eq_left Nat.add_left_cancel_iff stO_1s stO_ws boxA_s one_bool one_int one_str one_ptr one_nilptr one_slice one_eslice one_nilslice one_func one_iface one_niliface List.all_cons List.all_nil List.length_cons List.length_nil Bool.and_true Nat.one_ne_zero Nat.succ_ne_zero if_false List.set_cons_zero List.set_cons_succ
set_option maxRecDepth 20000 in
theorem code_c (h : IH) (p : Nat) (bs : List UInt8) (sh : Bool) (kind want : Int) (name : List UInt8) (hb : BitesAt h p bs sh) (hl : bs.length ≤ 1048576) (hnl : name.length ≤ 1048576) :
    ICalls Tryz.prog 79 [.ptr p 0 0, .int .i64 kind, .int .i64 want, .str name] h fun r h' => r = .int .i64 (if sh = true then 2 else if 0 < bs.length then 5 else if kind ≠ want then 9 else if okName name = true then 0 else 6) ∧ Ext h h' := by
  obtain ⟨v, ha, hs, _⟩ := hb.box
  refine icalls (.of ok79) (Nat.le_of_ble_eq_true rfl) ?_
  unfold c79
  have hlen := hs.lenF
  rw [strRows_len] at hlen
  cases sh
  · by_cases c1 : 0 < bs.length
    · have d1 : decide ((0 : Int) < (bs.length : Int)) = true := decide_eq_true (by omega)
      rw [if_neg (by decide), if_pos c1]
      simp only [ha.eq, hlen, d1, go_sem, ↓act_zero, Hold.p, HoldK.k, HoldL.K, HoldL.body, Nat.reduceBEq, Nat.reduceAdd, reduceIte, Nat.reduceEqDiff, Nat.reduceLT, Nat.reduceLeDiff]
      exact Ext.refl _
    · have d1 : decide ((0 : Int) < (bs.length : Int)) = false := decide_eq_false (by omega)
      rw [if_neg (by decide), if_neg c1]
      by_cases c2 : kind = want
      · have d2 : decide (kind = want) = true := decide_eq_true c2
        rw [if_neg (by simpa using c2)]
        simp only [ha.eq, hlen, d1, d2, go_sem, ↓act_zero, Hold.p, HoldK.k, HoldL.K, HoldL.body, Nat.reduceBEq, Nat.reduceAdd, reduceIte, Nat.reduceEqDiff, Nat.reduceLT, Nat.reduceLeDiff]
        refine callA_of (implNameOK_c h name hnl) ?_
        rintro r h1 ⟨rfl, E⟩
        cases c3 : okName name
        · simp only [c3, go_sem, ↓act_zero, Hold.p, HoldK.k, HoldL.K, HoldL.body, Nat.reduceBEq, Nat.reduceAdd, reduceIte, Nat.reduceEqDiff, Nat.reduceLT, Nat.reduceLeDiff]
          exact ⟨rfl, E⟩
        · simp only [c3, go_sem, ↓act_zero, Hold.p, HoldK.k, HoldL.K, HoldL.body, Nat.reduceBEq, Nat.reduceAdd, reduceIte, Nat.reduceEqDiff, Nat.reduceLT, Nat.reduceLeDiff]
          exact E
      · have d2 : decide (kind = want) = false := decide_eq_false c2
        rw [if_pos c2]
        simp only [ha.eq, hlen, d1, d2, go_sem, ↓act_zero, Hold.p, HoldK.k, HoldL.K, HoldL.body, Nat.reduceBEq, Nat.reduceAdd, reduceIte, Nat.reduceEqDiff, Nat.reduceLT, Nat.reduceLeDiff]
        exact Ext.refl _
  · rw [if_pos rfl]
    simp only [ha.eq, go_sem, ↓act_zero, Hold.p, HoldK.k, HoldL.K, HoldL.body, Nat.reduceBEq, Nat.reduceAdd, reduceIte, Nat.reduceEqDiff, Nat.reduceLT, Nat.reduceLeDiff]
    exact Ext.refl _
end
theorem numB_one (b : UInt8) : numB [b] = b.toNat := by simp [numB]
theorem drop_at {bs : List UInt8} {k : Nat} (h : k < bs.length) : bs.drop k = bs.getD k 0 :: bs.drop (k + 1) := by
  rw [List.drop_eq_getElem_cons h]
  congr 1
  rw [List.getD_eq_getElem?_getD, List.getElem?_eq_getElem h]; rfl
end Go.Proofs.YtaoffieemecioaaGreatDoor


namespace Go.Proofs.YtaoffieemecioaaGreatDoor
open Go Go.IW

theorem BitesAt.ext {h h' : IH} {p : Nat} {bs : List UInt8} {sh : Bool} (b : BitesAt h p bs sh) (e : Ext h h') : BitesAt h' p bs sh := by
  obtain ⟨v, ha, hs, hlow⟩ := b.box
  exact ⟨⟨v, ha.ext e, hs.ext e, hlow⟩⟩
theorem BitesAt.other {h : IH} {p q e sz : Nat} {bs : List UInt8} {sh ro : Bool} {rs : List (List IV)} {o : IObj} (b : BitesAt h p bs sh) (hq : p ≠ q) (ho : h.obj q = .rows rs e sz ro) (h1 : 1 ≠ sz) : BitesAt (h.set q o) p bs sh := by
  obtain ⟨v, ha, hs, hlow⟩ := b.box
  exact ⟨⟨v, ha.set hq, hs.but ((But.refl _ _ _).set _) ho h1, hlow⟩⟩
theorem BitesAt.turn {lo hi : Nat} {h h' : IH} {p el sz : Nat} {bs : List UInt8} {sh : Bool} {w : IV} {rs : List (List IV)} (b : BitesAt h p bs sh) (hw : Own lo hi h el sz w rs) (hd : p < lo) (t : Turn w h h') : BitesAt h' p bs sh := by
  obtain ⟨v, ha, hs, hlow⟩ := b.box
  exact ⟨⟨v, ha.turn hw (.inl hd) t, hs.turn (fun l i n hv => Nat.lt_trans (hlow l i n hv) hd) hw t, hlow⟩⟩
theorem BitesAt.lt {h : IH} {p : Nat} {bs : List UInt8} {sh : Bool} (b : BitesAt h p bs sh) : p < h.n := by
  obtain ⟨v, ha, hs, _⟩ := b.box; exact ha.lt
theorem BitesAt.mk' {h : IH} {p : Nat} {bs : List UInt8} {sh : Bool} {v : IV} (ha : At h p (.rows [[v, .bool sh]] 127 2 false)) (hs : SlR h 1 v (strRows bs)) (hlow : ∀ l i m, v = .slice l i m → l < p) : BitesAt h p bs sh := ⟨⟨v, ha, hs, hlow⟩⟩

theorem numB_one_le {bs : List UInt8} (h : bs.length ≤ 1) : (numB bs).toNat ≤ 255 ∧ numB bs = ((numB bs).toNat : Int) := by
  match bs, h with
  | [], _ => exact ⟨by decide, rfl⟩
  | [b], _ => have := b.toNat_lt; rw [numB_one]; exact ⟨by omega, by omega⟩

end Go.Proofs.YtaoffieemecioaaGreatDoor


namespace Go.Proofs.YtaoffieemecioaaGreatDoor
open Go Go.IW

end Go.Proofs.YtaoffieemecioaaGreatDoor


namespace Go.Proofs.YtaoffieemecioaaGreatDoor
open Go Go.IW

def intRows (zs : List Int) : List (List IV) := zs.map fun a => [.int .i64 a]
theorem intRows_len (a : List Int) : (intRows a).length = a.length := by simp [intRows]
theorem intRows_at {a : List Int} {k : Nat} {b : Int} (h : a[k]? = some b) : (intRows a)[k]? = some [.int .i64 b] := by simp [intRows, h]
theorem intRows_append (a b : List Int) : intRows (a ++ b) = intRows a ++ intRows b := by simp [intRows]
def okAddr (a : Int) : Bool := decide (0 ≤ a) && decide (a ≤ 4294967295)
def okRep (id code ttl : Int) (nm : List UInt8) (zs : List Int) : Bool :=
  (decide (0 ≤ id) && decide (id ≤ 65535)) && okName nm && (decide (0 ≤ code) && decide (code ≤ 255)) && (decide (0 ≤ ttl) && decide (ttl ≤ 86400)) && decide (zs.length ≤ 8) && zs.all okAddr

section
attribute [local go_sem] boxA_1 boxA_2 boxA_3 bslA_1 List.getElem?_cons_zero List.getElem?_cons_succ Option.bind_some List.map_cons List.map_nil Nat.zero_add if_true List.getD_cons_zero List.getD_cons_succ List.contains_cons List.contains_nil Bool.or_true Bool.true_or Bool.or_false Bool.false_or Bool.not_true Bool.not_false true_and and_true rowA_whole push_n set_n push_obj set_obj set_push set_push_ne set_set Nat.add_assoc Nat.left_eq_add Nat.add_eq_left Nat.add_left_cancel_iff stO_1s stO_ws boxA_s one_bool one_int one_str one_ptr one_nilptr one_slice one_eslice one_nilslice one_func one_iface one_niliface List.all_cons List.all_nil List.length_cons List.length_nil Bool.and_true Nat.one_ne_zero Nat.succ_ne_zero if_false List.set_cons_zero List.set_cons_succ
set_option maxRecDepth 20000 in
theorem l02AddrOK_c (h : IH) (n : Int) : ICalls Tryz.prog 45 [.int .i64 n] h fun r h' => r = .bool (okAddr n) ∧ h' = h := by
  refine icalls (.of ok45) (Nat.le_of_ble_eq_true rfl) ?_
  unfold c45
  simp only [go_sem, ↓act_zero, Hold.p, HoldK.k, HoldL.K, HoldL.body, Nat.reduceBEq, Nat.reduceAdd, reduceIte, Nat.reduceEqDiff, Nat.reduceLT, Nat.reduceLeDiff]
  refine callA_of (l01In_c h n 0 4294967295) ?_
  rintro r h' ⟨rfl, rfl⟩
  simp only [okAddr, go_sem, ↓act_zero, Hold.p, HoldK.k, HoldL.K, HoldL.body, Nat.reduceBEq, Nat.reduceAdd, reduceIte, Nat.reduceEqDiff, Nat.reduceLT, Nat.reduceLeDiff]

set_option maxRecDepth 20000 in
theorem isAddr_c (h : IH) (n : Int) : ICalls Tryz.prog 75 [.int .i64 n] h fun r h' => r = .bool (okAddr n) ∧ h' = h := by
  refine icalls (.of ok75) (Nat.le_of_ble_eq_true rfl) ?_
  unfold c75
  by_cases c1 : 0 ≤ n
  · have d1 : decide (0 ≤ n) = true := decide_eq_true c1
    simp only [d1, okAddr, Bool.true_and, Bool.false_and, go_sem, ↓act_zero, Hold.p, HoldK.k, HoldL.K, HoldL.body, Nat.reduceBEq, Nat.reduceAdd, reduceIte, Nat.reduceEqDiff, Nat.reduceLT, Nat.reduceLeDiff]
  · have d1 : decide (0 ≤ n) = false := decide_eq_false c1
    simp only [d1, okAddr, Bool.true_and, Bool.false_and, go_sem, ↓act_zero, Hold.p, HoldK.k, HoldL.K, HoldL.body, Nat.reduceBEq, Nat.reduceAdd, reduceIte, Nat.reduceEqDiff, Nat.reduceLT, Nat.reduceLeDiff]

set_option maxRecDepth 20000 in
theorem notAddr_c (h : IH) (n : Int) : ICalls Tryz.prog 97 [.int .i64 n] h fun r h' => r = .bool (!okAddr n) ∧ h' = h := by
  refine icalls (.of ok97) (Nat.le_of_ble_eq_true rfl) ?_
  unfold c97
  simp only [go_sem, ↓act_zero, Hold.p, HoldK.k, HoldL.K, HoldL.body, Nat.reduceBEq, Nat.reduceAdd, reduceIte, Nat.reduceEqDiff, Nat.reduceLT, Nat.reduceLeDiff]
  refine callA_of (isAddr_c h n) ?_
  rintro r h' ⟨rfl, rfl⟩
  simp only [go_sem, ↓act_zero, Hold.p, HoldK.k, HoldL.K, HoldL.body, Nat.reduceBEq, Nat.reduceAdd, reduceIte, Nat.reduceEqDiff, Nat.reduceLT, Nat.reduceLeDiff]

set_option maxRecDepth 20000 in
theorem indexBad_c (h : IH) (v : IV) (zs : List Int) (hs : SlR h 1 v (intRows zs)) (hm : zs.length ≤ 1048576) :
    ICalls Tryz.prog 74 [v, .func 97 [] []] h fun r h' => (∃ n : Int, r = .int .i64 n ∧ decide (0 ≤ n) = !zs.all okAddr) ∧ h' = h := by
  refine icalls (.of ok74) (Nat.le_of_ble_eq_true rfl) ?_
  unfold c74
  have hlen := hs.lenF
  rw [intRows_len] at hlen
  simp only [hlen, go_sem, ↓act_zero, Hold.p, HoldK.k, HoldL.K, HoldL.body, Nat.reduceBEq, Nat.reduceAdd, reduceIte, Nat.reduceEqDiff, Nat.reduceLT, Nat.reduceLeDiff]
  refine loop_at (fun n e h' => ∃ k, n = zs.length - k ∧ k ≤ zs.length ∧ e 0 = v ∧ e 1 = .func 97 [] [] ∧ e 7 = .int .i64 (zs.length : Nat) ∧ e 8 = .int .i64 (k : Nat) ∧ (zs.take k).all okAddr = true ∧ h' = h) zs.length ?_ ?_
  · refine ⟨0, by omega, by omega, ?_⟩
    simp only [go_sem, ↓act_zero, Hold.p, HoldK.k, HoldL.K, HoldL.body, Nat.reduceBEq, Nat.reduceAdd, reduceIte, Nat.reduceEqDiff, Nat.reduceLT, Nat.reduceLeDiff]
    exact ⟨rfl, rfl⟩
  · rintro n e h' ⟨k, rfl, hk, e0, e1, e7, e8, hok, rfl⟩
    simp only [e0, e1, e7, e8, go_sem, ↓act_zero, Hold.p, HoldK.k, HoldL.K, HoldL.body, Nat.reduceBEq, Nat.reduceAdd, reduceIte, Nat.reduceEqDiff, Nat.reduceLT, Nat.reduceLeDiff]
    refine test_dec (fun hb => ?_) (fun hb => ?_)
    · have hlt' : k < zs.length := by omega
      have hkp : zs[k]? = some zs[k] := List.getElem?_eq_getElem hlt'
      generalize zs[k] = p at hkp
      obtain ⟨l, j, hia, hll, hrow⟩ := hs.at (m := k) (intRows_at hkp) .i64
      have hc := cellO_row hrow
      simp only [e0, e1, e7, e8, hia, hc, na0, List.append_nil, go_sem, ↓act_zero, Hold.p, HoldK.k, HoldL.K, HoldL.body, Nat.reduceBEq, Nat.reduceAdd, reduceIte, Nat.reduceEqDiff, Nat.reduceLT, Nat.reduceLeDiff]
      refine callA_of (notAddr_c _ p) ?_
      rintro r h2 ⟨rfl, rfl⟩
      cases hp : okAddr p
      · simp only [hp, go_sem, ↓act_zero, Hold.p, HoldK.k, HoldL.K, HoldL.body, Nat.reduceBEq, Nat.reduceAdd, reduceIte, Nat.reduceEqDiff, Nat.reduceLT, Nat.reduceLeDiff]
        refine ⟨_, rfl, ?_⟩
        rw [not_all hkp hp]
        exact decide_eq_true (by omega)
      · simp only [e0, e1, e7, e8, hp, go_sem, ↓act_zero, Hold.p, HoldK.k, HoldL.K, HoldL.body, Nat.reduceBEq, Nat.reduceAdd, reduceIte, Nat.reduceEqDiff, Nat.reduceLT, Nat.reduceLeDiff]
        refine ⟨_, ?_, k + 1, rfl, by omega, wr64_succ k (by omega), ?_⟩
        · omega
        · rw [take_all hkp hok]; exact hp
    · obtain rfl : k = zs.length := by omega
      rw [List.take_length] at hok
      simp only [go_sem, ↓act_zero, Hold.p, HoldK.k, HoldL.K, HoldL.body, Nat.reduceBEq, Nat.reduceAdd, reduceIte, Nat.reduceEqDiff, Nat.reduceLT, Nat.reduceLeDiff]
      exact ⟨-1, rfl, by rw [hok]; rfl⟩

set_option maxRecDepth 20000 in
theorem containsBad_c (h : IH) (v : IV) (zs : List Int) (hs : SlR h 1 v (intRows zs)) (hm : zs.length ≤ 1048576) :
    ICalls Tryz.prog 52 [v, .func 97 [] []] h fun r h' => r = .bool (!zs.all okAddr) ∧ h' = h := by
  refine icalls (.of ok52) (Nat.le_of_ble_eq_true rfl) ?_
  unfold c52
  simp only [go_sem, ↓act_zero, Hold.p, HoldK.k, HoldL.K, HoldL.body, Nat.reduceBEq, Nat.reduceAdd, reduceIte, Nat.reduceEqDiff, Nat.reduceLT, Nat.reduceLeDiff]
  refine callA_of (indexBad_c h v zs hs hm) ?_
  rintro r h' ⟨⟨n, rfl, hn⟩, rfl⟩
  simp only [hn, go_sem, ↓act_zero, Hold.p, HoldK.k, HoldL.K, HoldL.body, Nat.reduceBEq, Nat.reduceAdd, reduceIte, Nat.reduceEqDiff, Nat.reduceLT, Nat.reduceLeDiff]

set_option maxRecDepth 20000 in
theorem okReply_c (h : IH) (id code ttl : Int) (nm : List UInt8) (v : IV) (zs : List Int) (hs : SlR h 1 v (intRows zs)) (hm : zs.length ≤ 1048576) :
    ICalls Tryz.prog 80 [.agg [.int .i64 id, .int .i64 code, .int .i64 ttl, .str nm, v]] h fun r h' => (∃ b : Bool, r = .bool b ∧ (b && okName nm) = okRep id code ttl nm zs) ∧ Ext h h' := by
  refine icalls (.of ok80) (Nat.le_of_ble_eq_true rfl) ?_
  unfold c80
  have hv1 := hs.one
  have hvc := hs.cells
  simp only [hv1, go_sem, ↓act_zero, Hold.p, HoldK.k, HoldL.K, HoldL.body, Nat.reduceBEq, Nat.reduceAdd, reduceIte, Nat.reduceEqDiff, Nat.reduceLT, Nat.reduceLeDiff]
  generalize hq_g0 : IH.push h (IObj.rows [[IV.int .i64 id, IV.int .i64 code, IV.int .i64 ttl, IV.str nm, v]] 101 5 false) = g0
  have e_g0 : Ext h g0 := by rw [← hq_g0]; exact (Ext.refl _).push _
  have l_g0 : g0.n = h.n + 1 := by rw [← hq_g0]; rfl
  have bb : At g0 h.n (IObj.rows [[IV.int .i64 id, IV.int .i64 code, IV.int .i64 ttl, IV.str nm, v]] 101 5 false) := by rw [← hq_g0]; exact At.new _ _
  clear hq_g0
  have hs := hs.ext e_g0
  have hlen := hs.lenF
  rw [intRows_len] at hlen
  have no : ∀ {b : Bool}, okRep id code ttl nm zs = false → (∃ b : Bool, IV.bool false = .bool b ∧ (b && okName nm) = okRep id code ttl nm zs) ∧ Ext h g0 := fun hx => ⟨⟨false, rfl, by rw [hx]; rfl⟩, e_g0⟩
  by_cases c1 : id < 0
  · have d1 : decide (id < 0) = true := decide_eq_true c1
    have d1' : decide (0 ≤ id) = false := decide_eq_false (by omega)
    simp only [bb.eq, d1, go_sem, ↓act_zero, Hold.p, HoldK.k, HoldL.K, HoldL.body, Nat.reduceBEq, Nat.reduceAdd, reduceIte, Nat.reduceEqDiff, Nat.reduceLT, Nat.reduceLeDiff]
    exact no (b := true) (by unfold okRep; simp only [d1', Bool.false_and, Bool.and_false])
  have d1 : decide (id < 0) = false := decide_eq_false c1
  have d1' : decide (0 ≤ id) = true := decide_eq_true (by omega)
  by_cases c2 : 65535 < id
  · have d2 : decide (65535 < id) = true := decide_eq_true c2
    have d2' : decide (id ≤ 65535) = false := decide_eq_false (by omega)
    simp only [bb.eq, d1, d2, go_sem, ↓act_zero, Hold.p, HoldK.k, HoldL.K, HoldL.body, Nat.reduceBEq, Nat.reduceAdd, reduceIte, Nat.reduceEqDiff, Nat.reduceLT, Nat.reduceLeDiff]
    exact no (b := true) (by unfold okRep; simp only [d2', Bool.false_and, Bool.and_false])
  have d2 : decide (65535 < id) = false := decide_eq_false c2
  have d2' : decide (id ≤ 65535) = true := decide_eq_true (by omega)
  by_cases c3 : code < 0
  · have d3 : decide (code < 0) = true := decide_eq_true c3
    have d3' : decide (0 ≤ code) = false := decide_eq_false (by omega)
    simp only [bb.eq, d1, d2, d3, go_sem, ↓act_zero, Hold.p, HoldK.k, HoldL.K, HoldL.body, Nat.reduceBEq, Nat.reduceAdd, reduceIte, Nat.reduceEqDiff, Nat.reduceLT, Nat.reduceLeDiff]
    exact no (b := true) (by unfold okRep; simp only [d3', Bool.false_and, Bool.and_false])
  have d3 : decide (code < 0) = false := decide_eq_false c3
  have d3' : decide (0 ≤ code) = true := decide_eq_true (by omega)
  by_cases c4 : 255 < code
  · have d4 : decide (255 < code) = true := decide_eq_true c4
    have d4' : decide (code ≤ 255) = false := decide_eq_false (by omega)
    simp only [bb.eq, d1, d2, d3, d4, go_sem, ↓act_zero, Hold.p, HoldK.k, HoldL.K, HoldL.body, Nat.reduceBEq, Nat.reduceAdd, reduceIte, Nat.reduceEqDiff, Nat.reduceLT, Nat.reduceLeDiff]
    exact no (b := true) (by unfold okRep; simp only [d4', Bool.false_and, Bool.and_false])
  have d4 : decide (255 < code) = false := decide_eq_false c4
  have d4' : decide (code ≤ 255) = true := decide_eq_true (by omega)
  by_cases c5 : ttl < 0
  · have d5 : decide (ttl < 0) = true := decide_eq_true c5
    have d5' : decide (0 ≤ ttl) = false := decide_eq_false (by omega)
    simp only [bb.eq, d1, d2, d3, d4, d5, go_sem, ↓act_zero, Hold.p, HoldK.k, HoldL.K, HoldL.body, Nat.reduceBEq, Nat.reduceAdd, reduceIte, Nat.reduceEqDiff, Nat.reduceLT, Nat.reduceLeDiff]
    exact no (b := true) (by unfold okRep; simp only [d5', Bool.false_and, Bool.and_false])
  have d5 : decide (ttl < 0) = false := decide_eq_false c5
  have d5' : decide (0 ≤ ttl) = true := decide_eq_true (by omega)
  by_cases c6 : 86400 < ttl
  · have d6 : decide (86400 < ttl) = true := decide_eq_true c6
    have d6' : decide (ttl ≤ 86400) = false := decide_eq_false (by omega)
    simp only [bb.eq, d1, d2, d3, d4, d5, d6, go_sem, ↓act_zero, Hold.p, HoldK.k, HoldL.K, HoldL.body, Nat.reduceBEq, Nat.reduceAdd, reduceIte, Nat.reduceEqDiff, Nat.reduceLT, Nat.reduceLeDiff]
    exact no (b := true) (by unfold okRep; simp only [d6', Bool.false_and, Bool.and_false])
  have d6 : decide (86400 < ttl) = false := decide_eq_false c6
  have d6' : decide (ttl ≤ 86400) = true := decide_eq_true (by omega)
  by_cases c7 : 8 < zs.length
  · have d7 : decide ((8 : Int) < (zs.length : Int)) = true := decide_eq_true (by omega)
    have d7' : decide (zs.length ≤ 8) = false := decide_eq_false (by omega)
    simp only [bb.eq, d1, d2, d3, d4, d5, d6, hlen, d7, go_sem, ↓act_zero, Hold.p, HoldK.k, HoldL.K, HoldL.body, Nat.reduceBEq, Nat.reduceAdd, reduceIte, Nat.reduceEqDiff, Nat.reduceLT, Nat.reduceLeDiff]
    exact no (b := true) (by unfold okRep; simp only [d7', Bool.false_and, Bool.and_false])
  have d7 : decide ((8 : Int) < (zs.length : Int)) = false := decide_eq_false (by omega)
  have d7' : decide (zs.length ≤ 8) = true := decide_eq_true (by omega)
  simp only [bb.eq, d1, d2, d3, d4, d5, d6, hlen, d7, go_sem, ↓act_zero, Hold.p, HoldK.k, HoldL.K, HoldL.body, Nat.reduceBEq, Nat.reduceAdd, reduceIte, Nat.reduceEqDiff, Nat.reduceLT, Nat.reduceLeDiff]
  refine callA_of (containsBad_c _ v zs hs hm) ?_
  rintro r h' ⟨rfl, rfl⟩
  simp only [Bool.not_not, go_sem, ↓act_zero, Hold.p, HoldK.k, HoldL.K, HoldL.body, Nat.reduceBEq, Nat.reduceAdd, reduceIte, Nat.reduceEqDiff, Nat.reduceLT, Nat.reduceLeDiff]
  refine ⟨⟨_, rfl, ?_⟩, e_g0⟩
  unfold okRep
  simp only [d1', d2', d3', d4', d5', d6', d7', Bool.true_and, Bool.and_true]
  exact Bool.and_comm _ _
end
end Go.Proofs.YtaoffieemecioaaGreatDoor


namespace Go.Proofs.YtaoffieemecioaaGreatDoor
open Go Go.IW

section
attribute [local go_sem] boxA_1 boxA_2 boxA_3 bslA_1 List.getElem?_cons_zero List.getElem?_cons_succ Option.bind_some List.map_cons List.map_nil Nat.zero_add if_true List.getD_cons_zero List.getD_cons_succ List.contains_cons List.contains_nil Bool.or_true Bool.true_or Bool.or_false Bool.false_or Bool.not_true Bool.not_false true_and and_true rowA_whole push_n set_n push_obj set_obj set_push set_push_ne set_set Nat.add_assoc Nat.left_eq_add Nat.add_eq_left Nat.add_left_cancel_iff stO_1s stO_ws boxA_s one_bool one_int one_str one_ptr one_nilptr one_slice one_eslice one_nilslice one_func one_iface one_niliface List.all_cons List.all_nil List.length_cons List.length_nil Bool.and_true Nat.one_ne_zero Nat.succ_ne_zero if_false List.set_cons_zero List.set_cons_succ
set_option maxRecDepth 20000 in
theorem l19ReplyOK_c (h : IH) (id code ttl : Int) (nm : List UInt8) (v : IV) (zs : List Int) (hs : SlR h 1 v (intRows zs)) (hm : nm.length ≤ 1048576) (hz : zs.length ≤ 1048576) :
    ICalls Tryz.prog 92 [.agg [.int .i64 id, .int .i64 code, .int .i64 ttl, .str nm, v]] h fun r h' => r = .bool (okRep id code ttl nm zs) ∧ Ext h h' := by
  refine icalls (.of ok92) (Nat.le_of_ble_eq_true rfl) ?_
  unfold c92
  have hv1 := hs.one
  have hvc := hs.cells
  have hlen := hs.lenF
  rw [intRows_len] at hlen
  unfold okRep
  simp only [hv1, go_sem, ↓act_zero, Hold.p, HoldK.k, HoldL.K, HoldL.body, Nat.reduceBEq, Nat.reduceAdd, reduceIte, Nat.reduceEqDiff, Nat.reduceLT, Nat.reduceLeDiff]
  generalize hq_g0 : IH.push h (IObj.rows [[IV.int .i64 id, IV.int .i64 code, IV.int .i64 ttl, IV.str nm, v]] 101 5 false) = g0
  have e_g0 : Ext h g0 := by rw [← hq_g0]; exact (Ext.refl _).push _
  have l_g0 : g0.n = h.n + 1 := by rw [← hq_g0]; rfl
  have bb : At g0 h.n (IObj.rows [[IV.int .i64 id, IV.int .i64 code, IV.int .i64 ttl, IV.str nm, v]] 101 5 false) := by rw [← hq_g0]; exact At.new _ _
  clear hq_g0
  have hs := hs.ext e_g0
  refine callA_of (l10PortOK_c _ id) ?_
  rintro r g0' ⟨rfl, rfl⟩
  cases q1 : (decide (0 ≤ id) && decide (id ≤ 65535))
  · simp only [q1, Bool.true_and, Bool.false_and, go_sem, ↓act_zero, Hold.p, HoldK.k, HoldL.K, HoldL.body, Nat.reduceBEq, Nat.reduceAdd, reduceIte, Nat.reduceEqDiff, Nat.reduceLT, Nat.reduceLeDiff]
    exact e_g0
  simp only [q1, bb.eq, go_sem, ↓act_zero, Hold.p, HoldK.k, HoldL.K, HoldL.body, Nat.reduceBEq, Nat.reduceAdd, reduceIte, Nat.reduceEqDiff, Nat.reduceLT, Nat.reduceLeDiff]
  refine callA_of (specNameOK_c _ nm hm) ?_
  rintro r h1 ⟨rfl, E1⟩
  have E := e_g0.trans E1
  have bb := bb.ext E1
  have hs := hs.ext E1
  have le_E1 := E1.le
  cases q2 : okName nm
  · simp only [q2, Bool.true_and, Bool.false_and, go_sem, ↓act_zero, Hold.p, HoldK.k, HoldL.K, HoldL.body, Nat.reduceBEq, Nat.reduceAdd, reduceIte, Nat.reduceEqDiff, Nat.reduceLT, Nat.reduceLeDiff]
    exact E
  simp only [q2, bb.eq, go_sem, ↓act_zero, Hold.p, HoldK.k, HoldL.K, HoldL.body, Nat.reduceBEq, Nat.reduceAdd, reduceIte, Nat.reduceEqDiff, Nat.reduceLT, Nat.reduceLeDiff]
  refine callA_of (l01In_c _ code 0 255) ?_
  rintro r h1' ⟨rfl, rfl⟩
  cases q3 : (decide (0 ≤ code) && decide (code ≤ 255))
  · simp only [q3, Bool.true_and, Bool.false_and, go_sem, ↓act_zero, Hold.p, HoldK.k, HoldL.K, HoldL.body, Nat.reduceBEq, Nat.reduceAdd, reduceIte, Nat.reduceEqDiff, Nat.reduceLT, Nat.reduceLeDiff]
    exact E
  simp only [q3, bb.eq, go_sem, ↓act_zero, Hold.p, HoldK.k, HoldL.K, HoldL.body, Nat.reduceBEq, Nat.reduceAdd, reduceIte, Nat.reduceEqDiff, Nat.reduceLT, Nat.reduceLeDiff]
  refine callA_of (l01In_c _ ttl 0 86400) ?_
  rintro r h1'' ⟨rfl, rfl⟩
  cases q4 : (decide (0 ≤ ttl) && decide (ttl ≤ 86400))
  · simp only [q4, Bool.true_and, Bool.false_and, go_sem, ↓act_zero, Hold.p, HoldK.k, HoldL.K, HoldL.body, Nat.reduceBEq, Nat.reduceAdd, reduceIte, Nat.reduceEqDiff, Nat.reduceLT, Nat.reduceLeDiff]
    exact E
  have hlen := hs.lenF
  rw [intRows_len] at hlen
  by_cases c7 : 8 < zs.length
  · have d7 : decide ((8 : Int) < (zs.length : Int)) = true := decide_eq_true (by omega)
    have d7' : decide (zs.length ≤ 8) = false := decide_eq_false (by omega)
    simp only [q4, bb.eq, hlen, d7, d7', Bool.true_and, Bool.false_and, go_sem, ↓act_zero, Hold.p, HoldK.k, HoldL.K, HoldL.body, Nat.reduceBEq, Nat.reduceAdd, reduceIte, Nat.reduceEqDiff, Nat.reduceLT, Nat.reduceLeDiff]
    exact E
  have d7 : decide ((8 : Int) < (zs.length : Int)) = false := decide_eq_false (by omega)
  have d7' : decide (zs.length ≤ 8) = true := decide_eq_true (by omega)
  clear E1
  simp only [q4, bb.eq, hlen, d7, d7', Bool.true_and, go_sem, ↓act_zero, Hold.p, HoldK.k, HoldL.K, HoldL.body, Nat.reduceBEq, Nat.reduceAdd, reduceIte, Nat.reduceEqDiff, Nat.reduceLT, Nat.reduceLeDiff]
  refine loop_at (fun n e h' => ∃ k, n = zs.length - k ∧ k ≤ zs.length ∧ e 1 = .ptr h.n 0 0 ∧ e 3 = .int .i64 (k : Nat) ∧ (zs.take k).all okAddr = true ∧ h' = h1'') zs.length ?_ ?_
  · refine ⟨0, by omega, by omega, ?_⟩
    simp only [go_sem, ↓act_zero, Hold.p, HoldK.k, HoldL.K, HoldL.body, Nat.reduceBEq, Nat.reduceAdd, reduceIte, Nat.reduceEqDiff, Nat.reduceLT, Nat.reduceLeDiff]
    exact ⟨rfl, rfl⟩
  · rintro n e h' ⟨k, rfl, hk, e1, e3, hok, rfl⟩
    simp only [e1, e3, bb.eq, hlen, go_sem, ↓act_zero, Hold.p, HoldK.k, HoldL.K, HoldL.body, Nat.reduceBEq, Nat.reduceAdd, reduceIte, Nat.reduceEqDiff, Nat.reduceLT, Nat.reduceLeDiff]
    refine test_dec (fun hb => ?_) (fun hb => ?_)
    · have hlt' : k < zs.length := by omega
      have hkp : zs[k]? = some zs[k] := List.getElem?_eq_getElem hlt'
      generalize zs[k] = p at hkp
      obtain ⟨l, j, hia, hll, hrow⟩ := hs.at (m := k) (intRows_at hkp) .i64
      have hc := cellO_row hrow
      simp only [e1, e3, bb.eq, hia, hc, go_sem, ↓act_zero, Hold.p, HoldK.k, HoldL.K, HoldL.body, Nat.reduceBEq, Nat.reduceAdd, reduceIte, Nat.reduceEqDiff, Nat.reduceLT, Nat.reduceLeDiff]
      refine callA_of (l02AddrOK_c _ p) ?_
      rintro r h2 ⟨rfl, rfl⟩
      cases hp : okAddr p
      · simp only [hp, go_sem, ↓act_zero, Hold.p, HoldK.k, HoldL.K, HoldL.body, Nat.reduceBEq, Nat.reduceAdd, reduceIte, Nat.reduceEqDiff, Nat.reduceLT, Nat.reduceLeDiff]
        rw [not_all hkp hp, Bool.and_false]
        exact ⟨rfl, E⟩
      · simp only [e1, e3, hp, go_sem, ↓act_zero, Hold.p, HoldK.k, HoldL.K, HoldL.body, Nat.reduceBEq, Nat.reduceAdd, reduceIte, Nat.reduceEqDiff, Nat.reduceLT, Nat.reduceLeDiff]
        refine ⟨_, ?_, k + 1, rfl, by omega, wr64_succ k (by omega), ?_⟩
        · omega
        · rw [take_all hkp hok]; exact hp
    · obtain rfl : k = zs.length := by omega
      rw [List.take_length] at hok
      simp only [hok, d7', Bool.true_and, go_sem, ↓act_zero, Hold.p, HoldK.k, HoldL.K, HoldL.body, Nat.reduceBEq, Nat.reduceAdd, reduceIte, Nat.reduceEqDiff, Nat.reduceLT, Nat.reduceLeDiff]
      exact E
end
end Go.Proofs.YtaoffieemecioaaGreatDoor


namespace Go.Proofs.YtaoffieemecioaaGreatDoor
open Go Go.IW

end Go.Proofs.YtaoffieemecioaaGreatDoor


namespace Go.Proofs.YtaoffieemecioaaGreatDoor
open Go Go.IW

end Go.Proofs.YtaoffieemecioaaGreatDoor


namespace Go.Proofs.YtaoffieemecioaaGreatDoor
open Go Go.IW

end Go.Proofs.YtaoffieemecioaaGreatDoor


namespace Go.Proofs.YtaoffieemecioaaGreatDoor
open Go Go.IW

end Go.Proofs.YtaoffieemecioaaGreatDoor


namespace Go.Proofs.YtaoffieemecioaaGreatDoor
open Go Go.IW

def wordsAt (bs : List UInt8) (s k : Nat) : List Int := (List.range k).map fun j => numB ((bs.take (s + 4 * j + 4)).drop (s + 4 * j))
theorem wordsAt_succ (bs : List UInt8) (s k : Nat) : wordsAt bs s (k + 1) = wordsAt bs s k ++ [numB ((bs.take (s + 4 * k + 4)).drop (s + 4 * k))] := by
  unfold wordsAt; rw [List.range_succ, List.map_append]; rfl
theorem wordsAt_len (bs : List UInt8) (s k : Nat) : (wordsAt bs s k).length = k := by unfold wordsAt; simp
structure RepV where
  id : Int
  code : Int
  ttl : Int
  nm : List UInt8
  zs : List Int
def RepV.zero : RepV := ⟨0, 0, 0, [], []⟩
def repM (bs : List UInt8) : Nat := (bs.getD 8 0).toNat
def repC (bs : List UInt8) : Nat := (bs.getD (9 + repM bs) 0).toNat
def repAt (bs : List UInt8) : RepV := ⟨numB (bs.take 2), ((bs.getD 3 0).toNat : Int), numB ((bs.take 8).drop 4), (bs.take (9 + repM bs)).drop 9, wordsAt bs (10 + repM bs) (repC bs)⟩
def RepV.ok (x : RepV) : Bool := okRep x.id x.code x.ttl x.nm x.zs
def decR (bs : List UInt8) : RepV × Int :=
  if bs.length < 10 + repM bs ∨ bs.length < 10 + repM bs + 4 * repC bs then (.zero, 2)
  else if 10 + repM bs + 4 * repC bs < bs.length then (.zero, 5)
  else if bs.getD 2 0 ≠ 1 then (.zero, 9)
  else if okName (repAt bs).nm = false then (.zero, 6)
  else if (repAt bs).ok = true then (repAt bs, 0) else (.zero, 1)
def ReplyRes (h h' : IH) (r : IV) (x : RepV × Int) : Prop := ∃ v, r = .tuple [.agg [.int .i64 x.1.id, .int .i64 x.1.code, .int .i64 x.1.ttl, .str x.1.nm, v], .int .i64 x.2] ∧ Own h.n h'.n h' 2 1 v (intRows x.1.zs) ∧ Ext h h'
theorem byte_ne {a b : UInt8} (h : a ≠ b) : (a.toNat : Int) ≠ (b.toNat : Int) := fun e => h (UInt8.toNat_inj.1 (by omega))

end Go.Proofs.YtaoffieemecioaaGreatDoor


namespace Go.Proofs.YtaoffieemecioaaGreatDoor
open Go Go.IW

def restD (bs : List UInt8) (n : Nat) : List UInt8 × Bool := if bs.length < n then ([], true) else (bs.drop n, false)
def pieceD (bs : List UInt8) (n k : Nat) : List UInt8 := if bs.length < n + k then List.replicate (min k 8) 0 else (bs.drop n).take k
theorem takeD_rest (bs : List UInt8) (n k : Nat) : takeD (restD bs n).1 (restD bs n).2 k = (pieceD bs n k, (restD bs (n + k)).1, (restD bs (n + k)).2) := by
  unfold restD
  by_cases h : bs.length < n
  · rw [if_pos h]
    have h2 : bs.length < n + k := by omega
    unfold pieceD
    rw [if_pos h2, if_pos h2]
    cases k with
    | zero => rfl
    | succ k => exact if_pos (Nat.zero_lt_succ k)
  · rw [if_neg h]
    by_cases h2 : bs.length < n + k
    · unfold pieceD
      rw [if_pos h2, if_pos h2]
      exact if_pos (by rw [List.length_drop]; omega)
    · unfold pieceD
      rw [if_neg h2, if_neg h2]
      refine (takeD_long (by rw [List.length_drop]; omega)).trans ?_
      rw [List.drop_drop]
theorem restD_len (bs : List UInt8) (n : Nat) : (restD bs n).1.length ≤ bs.length := by unfold restD; split <;> simp
theorem pieceD_le (bs : List UInt8) (n k : Nat) : (pieceD bs n k).length ≤ k := by unfold pieceD; split <;> simp <;> omega
theorem pieceD_long {bs : List UInt8} {n k : Nat} (h : n + k ≤ bs.length) : pieceD bs n k = (bs.take (n + k)).drop n := by
  unfold pieceD
  rw [if_neg (by omega), List.drop_take]
  congr 1; omega
theorem pieceD_one {bs : List UInt8} {n : Nat} (h : n < bs.length) : pieceD bs n 1 = [bs.getD n 0] := by
  unfold pieceD
  rw [if_neg (by omega), drop_at h]; rfl
def AtB (h : IH) (p : Nat) (bs : List UInt8) (n : Nat) : Prop := BitesAt h p (restD bs n).1 (restD bs n).2
theorem AtB.ext {h h' : IH} {p n : Nat} {bs : List UInt8} (b : AtB h p bs n) (e : Ext h h') : AtB h' p bs n := BitesAt.ext b e
theorem AtB.other {h : IH} {p q e sz n : Nat} {bs : List UInt8} {ro : Bool} {rs : List (List IV)} {o : IObj} (b : AtB h p bs n) (hq : p ≠ q) (ho : h.obj q = .rows rs e sz ro) (h1 : 1 ≠ sz) : AtB (h.set q o) p bs n := BitesAt.other b hq ho h1
theorem AtB.turn {lo hi : Nat} {h h' : IH} {p n el sz : Nat} {bs : List UInt8} {w : IV} {rs : List (List IV)} (b : AtB h p bs n) (hw : Own lo hi h el sz w rs) (hd : p < lo) (t : Turn w h h') : AtB h' p bs n := BitesAt.turn b hw hd t
theorem AtB.zero {h : IH} {p : Nat} {bs : List UInt8} (b : BitesAt h p bs false) : AtB h p bs 0 := by
  have : restD bs 0 = (bs, false) := by unfold restD; rw [if_neg (by omega)]; rfl
  unfold AtB
  rw [this]; exact b

set_option maxRecDepth 20000 in
theorem numAt_c (h : IH) (p n k : Nat) (bs : List UInt8) (hb : AtB h p bs n) (hk : k ≤ 7) (hl : bs.length ≤ 1048576) :
    ICalls Tryz.prog 77 [.ptr p 0 0, .int .i64 k] h fun r h' => r = .int .i64 (numB (pieceD bs n k)) ∧ AtB h' p bs (n + k) ∧ But p .nilslice h h' := by
  refine (num_c h p k _ _ hb hk (Nat.le_trans (restD_len bs n) hl)).mono ?_
  rintro r h' ⟨rfl, b, U⟩
  rw [takeD_rest] at b ⊢
  exact ⟨rfl, b, U⟩
set_option maxRecDepth 20000 in
theorem takeAt_c (h : IH) (p n k : Nat) (bs : List UInt8) (hb : AtB h p bs n) (hk : k ≤ 255) (hl : bs.length ≤ 1048576) :
    ICalls Tryz.prog 78 [.ptr p 0 0, .int .i64 k] h fun r h' => SlR h' 1 r (strRows (pieceD bs n k)) ∧ AtB h' p bs (n + k) ∧ But p .nilslice h h' := by
  refine (take_c h p k _ _ hb hk (Nat.le_trans (restD_len bs n) hl)).mono ?_
  rintro r h' ⟨s, b, U⟩
  rw [takeD_rest] at s b
  exact ⟨s, b, U⟩
def codeAt (bs : List UInt8) (n : Nat) (kind want : Int) (nm : List UInt8) : Int := if bs.length < n then 2 else if n < bs.length then 5 else if kind ≠ want then 9 else if okName nm = true then 0 else 6
set_option maxRecDepth 20000 in
theorem codeAt_c (h : IH) (p n : Nat) (bs : List UInt8) (kind want : Int) (nm : List UInt8) (hb : AtB h p bs n) (hl : bs.length ≤ 1048576) (hnl : nm.length ≤ 1048576) :
    ICalls Tryz.prog 79 [.ptr p 0 0, .int .i64 kind, .int .i64 want, .str nm] h fun r h' => r = .int .i64 (codeAt bs n kind want nm) ∧ Ext h h' := by
  refine (code_c h p _ _ kind want nm hb (Nat.le_trans (restD_len bs n) hl) hnl).mono ?_
  rintro r h' ⟨rfl, E⟩
  refine ⟨?_, E⟩
  congr 1
  unfold codeAt restD
  by_cases h1 : bs.length < n
  · rw [if_pos h1, if_pos h1]; rfl
  · rw [if_neg h1, if_neg h1]
    simp only [Bool.false_eq_true, if_false, List.length_drop]
    by_cases h2 : n < bs.length
    · rw [if_pos h2, if_pos (by omega)]
    · rw [if_neg h2, if_neg (by omega)]
theorem ownBut {lo hi : Nat} {h h' : IH} {el sz p : Nat} {v : IV} {rs : List (List IV)} (o : Own lo hi h el sz v rs) (t : But p .nilslice h h') (hp : p < lo ∨ hi ≤ p) : Own lo hi h' el sz v rs := by
  rcases o with h0 | ⟨l, h0, rfl, h1, h2, h3, h4⟩
  · exact .inl h0
  · exact .inr ⟨l, h0, rfl, h1, h2, Nat.le_trans h3 t.le, (t.obj l (by omega) (by omega) (nil_at l)).trans h4⟩
theorem codeAt_zero {bs : List UInt8} {n : Nat} {kind want : Int} {nm : List UInt8} (h : codeAt bs n kind want nm = 0) : okName nm = true := by
  unfold codeAt at h
  split at h
  · omega
  · split at h
    · omega
    · split at h
      · omega
      · split at h
        · assumption
        · omega
end Go.Proofs.YtaoffieemecioaaGreatDoor


namespace Go.Proofs.YtaoffieemecioaaGreatDoor
open Go Go.IW

def parM (bs : List UInt8) : Nat := (numB (pieceD bs 8 1)).toNat
def parC (bs : List UInt8) : Nat := (numB (pieceD bs (9 + parM bs) 1)).toNat
def parZ (bs : List UInt8) (k : Nat) : List Int := (List.range k).map fun j => numB (pieceD bs (10 + parM bs + 4 * j) 4)
theorem parZ_succ (bs : List UInt8) (k : Nat) : parZ bs (k + 1) = parZ bs k ++ [numB (pieceD bs (10 + parM bs + 4 * k) 4)] := by
  unfold parZ; rw [List.range_succ, List.map_append]; rfl
theorem parZ_len (bs : List UInt8) (k : Nat) : (parZ bs k).length = k := by unfold parZ; simp
def parAt (bs : List UInt8) (k : Nat) : RepV := ⟨numB (pieceD bs 0 2), numB (pieceD bs 3 1), numB (pieceD bs 4 4), pieceD bs 9 (parM bs), parZ bs k⟩
def parErr (bs : List UInt8) (k : Nat) : Int :=
  if codeAt bs (10 + parM bs + 4 * k) (numB (pieceD bs 2 1)) 1 (parAt bs k).nm = 0 then (if (parAt bs k).ok = true then 0 else 1) else codeAt bs (10 + parM bs + 4 * k) (numB (pieceD bs 2 1)) 1 (parAt bs k).nm

theorem parM_eq {bs : List UInt8} (h : 9 ≤ bs.length) : parM bs = repM bs := by
  unfold parM repM
  rw [pieceD_one (by omega), numB_one]; rfl
theorem parC_eq {bs : List UInt8} (h : 10 + parM bs ≤ bs.length) : parC bs = repC bs := by
  have hm := parM_eq (bs := bs) (by omega)
  unfold parC repC
  rw [pieceD_one (by omega), numB_one, hm]; rfl
theorem par_dec {bs : List UInt8} {k : Nat} (hk : k ≤ parC bs) (hend : k = parC bs ∨ bs.length < 10 + parM bs + 4 * k) :
    decR bs = if parErr bs k = 0 then (parAt bs k, 0) else (.zero, parErr bs k) := by
  by_cases c0 : bs.length < 10 + parM bs
  · have hc : codeAt bs (10 + parM bs + 4 * k) (numB (pieceD bs 2 1)) 1 (parAt bs k).nm = 2 := if_pos (by omega)
    have he : parErr bs k = 2 := by unfold parErr; rw [hc]; rfl
    rw [he, if_neg (by decide)]
    refine if_pos ?_
    by_cases h9 : 9 ≤ bs.length
    · rw [parM_eq h9] at c0; exact .inl c0
    · left; omega
  · have hm := parM_eq (bs := bs) (by omega)
    have hc := parC_eq (bs := bs) (by omega)
    rw [hm] at c0 hend
    rw [hc] at hk hend
    by_cases c1 : bs.length < 10 + repM bs + 4 * repC bs
    · have hlt : bs.length < 10 + repM bs + 4 * k := by omega
      have hcd : codeAt bs (10 + parM bs + 4 * k) (numB (pieceD bs 2 1)) 1 (parAt bs k).nm = 2 := if_pos (by rw [hm]; exact hlt)
      have he : parErr bs k = 2 := by unfold parErr; rw [hcd]; rfl
      rw [he, if_neg (by decide)]
      exact if_pos (.inr c1)
    · obtain rfl : k = repC bs := by omega
      have hnm : (parAt bs (repC bs)).nm = (repAt bs).nm := by
        show pieceD bs 9 (parM bs) = _
        rw [hm, pieceD_long (by omega)]; rfl
      have hall : parAt bs (repC bs) = repAt bs := by
        have e1 : numB (pieceD bs 0 2) = numB (bs.take 2) := by rw [pieceD_long (by omega)]; rfl
        have e2 : numB (pieceD bs 3 1) = ((bs.getD 3 0).toNat : Int) := by rw [pieceD_one (by omega), numB_one]
        have e3 : numB (pieceD bs 4 4) = numB ((bs.take 8).drop 4) := by rw [pieceD_long (by omega)]
        have e4 : parZ bs (repC bs) = wordsAt bs (10 + repM bs) (repC bs) := by
          unfold parZ wordsAt
          refine List.map_congr_left fun j hj => ?_
          have := List.mem_range.1 hj
          rw [hm, pieceD_long (by omega)]
        unfold parAt repAt
        rw [e1, e2, e3, e4]
        congr 1
      have hk2 : numB (pieceD bs 2 1) = ((bs.getD 2 0).toNat : Int) := by rw [pieceD_one (by omega), numB_one]
      have hdef : decR bs = if 10 + repM bs + 4 * repC bs < bs.length then (.zero, 5) else if bs.getD 2 0 ≠ 1 then (.zero, 9) else if okName (repAt bs).nm = false then (.zero, 6) else if (repAt bs).ok = true then (repAt bs, 0) else (.zero, 1) := if_neg (by omega)
      rw [hdef]
      unfold parErr
      rw [hall, hk2, hm]
      have hcd : codeAt bs (10 + repM bs + 4 * repC bs) ((bs.getD 2 0).toNat : Int) 1 (repAt bs).nm = if 10 + repM bs + 4 * repC bs < bs.length then 5 else if ((bs.getD 2 0).toNat : Int) ≠ 1 then 9 else if okName (repAt bs).nm = true then 0 else 6 := if_neg (by omega)
      rw [hcd]
      by_cases c2 : 10 + repM bs + 4 * repC bs < bs.length
      · rw [if_pos c2, if_pos c2]; rfl
      · rw [if_neg c2, if_neg c2]
        by_cases c3 : bs.getD 2 0 ≠ 1
        · have c3n : ((bs.getD 2 0).toNat : Int) ≠ 1 := byte_ne (b := 1) c3
          rw [if_pos c3, if_pos c3n]; rfl
        · have c3' : ((bs.getD 2 0).toNat : Int) = 1 := by rw [show bs.getD 2 0 = 1 by simpa using c3]; rfl
          have c3n : ¬ ((bs.getD 2 0).toNat : Int) ≠ 1 := fun hx => hx c3'
          rw [if_neg c3, if_neg c3n]
          cases okName (repAt bs).nm
          · rfl
          · cases (repAt bs).ok <;> rfl

section
attribute [local go_sem] boxA_1 boxA_2 boxA_3 bslA_1 List.getElem?_cons_zero List.getElem?_cons_succ Option.bind_some List.map_cons List.map_nil Nat.zero_add if_true List.getD_cons_zero List.getD_cons_succ List.contains_cons List.contains_nil Bool.or_true Bool.true_or Bool.or_false Bool.false_or Bool.not_true Bool.not_false true_and and_true rowA_whole push_n set_n push_obj set_obj set_push set_push_ne set_set Nat.add_assoc Nat.left_eq_add Nat.add_eq_left Nat.add_left_cancel_iff stO_1s stO_ws boxA_s one_bool one_int one_str one_ptr one_nilptr one_slice one_eslice one_nilslice one_func one_iface one_niliface List.all_cons List.all_nil List.length_cons List.length_nil Bool.and_true Nat.one_ne_zero Nat.succ_ne_zero if_false List.set_cons_zero List.set_cons_succ
set_option maxRecDepth 20000 in
theorem implDecodeReply_c (h : IH) (v : IV) (bs : List UInt8) (hs : SlR h 1 v (strRows bs)) (hl : bs.length ≤ 1048576) : ICalls Tryz.prog 57 [v] h fun r h' => ReplyRes h h' r (decR bs) := by
  refine icalls (.of ok57) (Nat.le_of_ble_eq_true rfl) ?_
  unfold c57
  have hvo := hs.one
  have hvc := hs.cells
  have hsl := hs.lt
  simp only [hvo, hvc, lay_nil, lay_1, lay_w, Option.map_some, go_sem, ↓act_zero, Hold.p, HoldK.k, HoldL.K, HoldL.body, Nat.reduceBEq, Nat.reduceAdd, reduceIte, Nat.reduceEqDiff, Nat.reduceLT, Nat.reduceLeDiff]
  generalize hq_g0 : IH.push h (IObj.rows [[IV.int .i64 0, IV.int .i64 0, IV.int .i64 0, IV.str [], IV.nilslice]] 101 5 false) = g0
  have e_g0 : Ext h g0 := by rw [← hq_g0]; exact (Ext.refl _).push _
  have l_g0 : g0.n = h.n + 1 := by rw [← hq_g0]; rfl
  have bb : At g0 h.n (IObj.rows [[IV.int .i64 0, IV.int .i64 0, IV.int .i64 0, IV.str [], IV.nilslice]] 101 5 false) := by rw [← hq_g0]; exact At.new _ _
  clear hq_g0
  have hs := hs.ext e_g0
  generalize hq_g1 : IH.push g0 (IObj.rows [[v, IV.bool false]] 127 2 false) = g1
  have e_g1 : Ext g0 g1 := by rw [← hq_g1]; exact (Ext.refl _).push _
  have l_g1 : g1.n = g0.n + 1 := by rw [← hq_g1]; rfl
  have ba : At g1 g0.n (IObj.rows [[v, IV.bool false]] 127 2 false) := by rw [← hq_g1]; exact At.new _ _
  clear hq_g1
  have hs := hs.ext e_g1
  have bb := bb.ext e_g1
  have B := AtB.zero (BitesAt.mk' ba hs (fun l i m e => by have := hsl l i m e; omega))
  rw [l_g0] at B
  have E := e_g0.trans e_g1
  refine callA_of (numAt_c g1 _ 0 2 bs B (by omega) hl) ?_
  rintro r h1 ⟨rfl, B1, U1⟩
  replace bb := U1.at0 bb (by omega)
  replace E := U1.ext0 E (by omega)
  have u1 := U1.le
  simp only [bb.eq, lay_nil, lay_1, lay_w, Option.map_some, go_sem, ↓act_zero, Hold.p, HoldK.k, HoldL.K, HoldL.body, Nat.reduceBEq, Nat.reduceAdd, reduceIte, Nat.reduceEqDiff, Nat.reduceLT, Nat.reduceLeDiff]
  generalize hq_g2 : IH.push h1 (IObj.rows [[IV.int .i64 (numB (pieceD bs 0 2)), IV.int .i64 0, IV.int .i64 0, IV.str [], IV.nilslice]] 101 5 false) = g2
  have e_g2 : Ext h1 g2 := by rw [← hq_g2]; exact (Ext.refl _).push _
  have l_g2 : g2.n = h1.n + 1 := by rw [← hq_g2]; rfl
  have bq : At g2 h1.n (IObj.rows [[IV.int .i64 (numB (pieceD bs 0 2)), IV.int .i64 0, IV.int .i64 0, IV.str [], IV.nilslice]] 101 5 false) := by rw [← hq_g2]; exact At.new _ _
  clear hq_g2
  have bb := bb.ext e_g2
  have B1 := B1.ext e_g2
  have E := E.ext e_g2
  generalize hp2 : h1.n = p2 at bq l_g2
  refine callA_of (numAt_c g2 _ 2 1 bs B1 (by omega) hl) ?_
  rintro r h2 ⟨rfl, B2, U⟩
  replace bb := U.at0 bb (by omega)
  replace bq := U.at0 bq (by omega)
  replace E := U.ext0 E (by omega)
  have u_h2 := U.le
  clear U
  simp only [bb.eq, bq.eq, lay_nil, lay_1, lay_w, Option.map_some, go_sem, ↓act_zero, Hold.p, HoldK.k, HoldL.K, HoldL.body, Nat.reduceBEq, Nat.reduceAdd, reduceIte, Nat.reduceEqDiff, Nat.reduceLT, Nat.reduceLeDiff]
  refine callA_of (numAt_c h2 _ 3 1 bs B2 (by omega) hl) ?_
  rintro r h3 ⟨rfl, B3, U⟩
  replace bb := U.at0 bb (by omega)
  replace bq := U.at0 bq (by omega)
  replace E := U.ext0 E (by omega)
  have u_h3 := U.le
  clear U
  simp only [bb.eq, bq.eq, lay_nil, lay_1, lay_w, Option.map_some, go_sem, ↓act_zero, Hold.p, HoldK.k, HoldL.K, HoldL.body, Nat.reduceBEq, Nat.reduceAdd, reduceIte, Nat.reduceEqDiff, Nat.reduceLT, Nat.reduceLeDiff]
  refine callA_of (numAt_c h3 _ 4 4 bs B3 (by omega) hl) ?_
  rintro r h4 ⟨rfl, B4, U⟩
  replace bb := U.at0 bb (by omega)
  replace bq := U.at0 bq (by omega)
  replace E := U.ext0 E (by omega)
  have u_h4 := U.le
  clear U
  have B5 := B4.other (q := p2) (o := IObj.rows [[IV.int .i64 (numB (pieceD bs 0 2)), IV.int .i64 (numB (pieceD bs 3 1)), IV.int .i64 (numB (pieceD bs 4 4)), IV.str [], .nilslice]] 101 5 false) (by omega) bq.eq (by decide)
  simp only [bb.eq, bq.eq, lay_nil, lay_1, lay_w, Option.map_some, go_sem, ↓act_zero, Hold.p, HoldK.k, HoldL.K, HoldL.body, Nat.reduceBEq, Nat.reduceAdd, reduceIte, Nat.reduceEqDiff, Nat.reduceLT, Nat.reduceLeDiff]
  generalize hq_g5 : IH.set h4 (p2) (IObj.rows [[IV.int .i64 (numB (pieceD bs 0 2)), IV.int .i64 (numB (pieceD bs 3 1)), IV.int .i64 (numB (pieceD bs 4 4)), IV.str [], .nilslice]] 101 5 false) = g5
  have l_g5 : g5.n = h4.n := by rw [← hq_g5]; rfl
  have bq : At g5 (p2) (IObj.rows [[IV.int .i64 (numB (pieceD bs 0 2)), IV.int .i64 (numB (pieceD bs 3 1)), IV.int .i64 (numB (pieceD bs 4 4)), IV.str [], .nilslice]] 101 5 false) := by rw [← hq_g5]; exact bq.here
  have bb := bb.set (p := p2) (o' := IObj.rows [[IV.int .i64 (numB (pieceD bs 0 2)), IV.int .i64 (numB (pieceD bs 3 1)), IV.int .i64 (numB (pieceD bs 4 4)), IV.str [], .nilslice]] 101 5 false) (by omega)
  rw [hq_g5] at bb
  have E := E.set (p2) (by omega) (IObj.rows [[IV.int .i64 (numB (pieceD bs 0 2)), IV.int .i64 (numB (pieceD bs 3 1)), IV.int .i64 (numB (pieceD bs 4 4)), IV.str [], .nilslice]] 101 5 false)
  rw [hq_g5] at E
  rw [hq_g5] at B5
  clear hq_g5
  refine callA_of (numAt_c g5 _ 8 1 bs B5 (by omega) hl) ?_
  rintro r h6 ⟨rfl, B6, U⟩
  replace bb := U.at0 bb (by omega)
  replace bq := U.at0 bq (by omega)
  replace E := U.ext0 E (by omega)
  have u_h6 := U.le
  clear U
  obtain ⟨q1, q2⟩ := numB_one_le (pieceD_le bs 8 1)
  have hpm : numB (pieceD bs 8 1) = (parM bs : Int) := q2
  have hpl : parM bs ≤ 255 := q1
  rw [hpm]
  simp only [bb.eq, bq.eq, lay_nil, lay_1, lay_w, Option.map_some, go_sem, ↓act_zero, Hold.p, HoldK.k, HoldL.K, HoldL.body, Nat.reduceBEq, Nat.reduceAdd, reduceIte, Nat.reduceEqDiff, Nat.reduceLT, Nat.reduceLeDiff]
  refine callA_of (takeAt_c h6 _ 9 (parM bs) bs B6 hpl hl) ?_
  rintro r h7 ⟨hs7, B7, U⟩
  replace bb := U.at0 bb (by omega)
  replace bq := U.at0 bq (by omega)
  replace E := U.ext0 E (by omega)
  have u_h7 := U.le
  clear U
  have hb2 := hs7.b2s
  have k7 := pieceD_le bs 9 (parM bs)
  have B8 := B7.other (q := p2) (o := IObj.rows [[IV.int .i64 (numB (pieceD bs 0 2)), IV.int .i64 (numB (pieceD bs 3 1)), IV.int .i64 (numB (pieceD bs 4 4)), IV.str (pieceD bs 9 (parM bs)), .nilslice]] 101 5 false) (by omega) bq.eq (by decide)
  simp only [bb.eq, bq.eq, hb2, lay_nil, lay_1, lay_w, Option.map_some, go_sem, ↓act_zero, Hold.p, HoldK.k, HoldL.K, HoldL.body, Nat.reduceBEq, Nat.reduceAdd, reduceIte, Nat.reduceEqDiff, Nat.reduceLT, Nat.reduceLeDiff]
  generalize hq_g8 : IH.set h7 (p2) (IObj.rows [[IV.int .i64 (numB (pieceD bs 0 2)), IV.int .i64 (numB (pieceD bs 3 1)), IV.int .i64 (numB (pieceD bs 4 4)), IV.str (pieceD bs 9 (parM bs)), .nilslice]] 101 5 false) = g8
  have l_g8 : g8.n = h7.n := by rw [← hq_g8]; rfl
  have bq : At g8 (p2) (IObj.rows [[IV.int .i64 (numB (pieceD bs 0 2)), IV.int .i64 (numB (pieceD bs 3 1)), IV.int .i64 (numB (pieceD bs 4 4)), IV.str (pieceD bs 9 (parM bs)), .nilslice]] 101 5 false) := by rw [← hq_g8]; exact bq.here
  have bb := bb.set (p := p2) (o' := IObj.rows [[IV.int .i64 (numB (pieceD bs 0 2)), IV.int .i64 (numB (pieceD bs 3 1)), IV.int .i64 (numB (pieceD bs 4 4)), IV.str (pieceD bs 9 (parM bs)), .nilslice]] 101 5 false) (by omega)
  rw [hq_g8] at bb
  have E := E.set (p2) (by omega) (IObj.rows [[IV.int .i64 (numB (pieceD bs 0 2)), IV.int .i64 (numB (pieceD bs 3 1)), IV.int .i64 (numB (pieceD bs 4 4)), IV.str (pieceD bs 9 (parM bs)), .nilslice]] 101 5 false)
  rw [hq_g8] at E
  rw [hq_g8] at B8
  clear hq_g8
  refine callA_of (numAt_c g8 _ (9 + parM bs) 1 bs B8 (by omega) hl) ?_
  rintro r h9 ⟨rfl, B9, U⟩
  replace bb := U.at0 bb (by omega)
  replace bq := U.at0 bq (by omega)
  replace E := U.ext0 E (by omega)
  have u_h9 := U.le
  clear U
  obtain ⟨q3, q4⟩ := numB_one_le (pieceD_le bs (9 + parM bs) 1)
  have hpc : numB (pieceD bs (9 + parM bs) 1) = (parC bs : Int) := q4
  have hpcl : parC bs ≤ 255 := q3
  rw [hpc]
  have B10 : AtB h9 (h.n + 1) bs (10 + parM bs + 4 * 0) := by
    have : 9 + parM bs + 1 = 10 + parM bs + 4 * 0 := by omega
    rw [← this]; exact B9
  simp only [bb.eq, bq.eq, lay_nil, lay_1, lay_w, Option.map_some, go_sem, ↓act_zero, Hold.p, HoldK.k, HoldL.K, HoldL.body, Nat.reduceBEq, Nat.reduceAdd, reduceIte, Nat.reduceEqDiff, Nat.reduceLT, Nat.reduceLeDiff]
  refine loop_at (fun n e g' => ∃ (k : Nat) (vz : IV) (lo hi : Nat), n = parC bs - k ∧ k ≤ parC bs ∧ e 2 = .ptr h.n 0 0 ∧ e 4 = .ptr (h.n + 1) 0 0 ∧ e 5 = .ptr p2 0 0 ∧ e 6 = .int .i64 (numB (pieceD bs 2 1)) ∧ e 7 = .int .i64 ((parC bs - k : Nat) : Int) ∧ At g' h.n (IObj.rows [[IV.int .i64 0, IV.int .i64 0, IV.int .i64 0, IV.str [], IV.nilslice]] 101 5 false) ∧ At g' p2 (IObj.rows [[IV.int .i64 (numB (pieceD bs 0 2)), IV.int .i64 (numB (pieceD bs 3 1)), IV.int .i64 (numB (pieceD bs 4 4)), IV.str (pieceD bs 9 (parM bs)), vz]] 101 5 false) ∧ AtB g' (h.n + 1) bs (10 + parM bs + 4 * k) ∧ Own lo hi g' 2 1 vz (intRows (parZ bs k)) ∧ p2 < lo ∧ hi ≤ g'.n ∧ Ext h g') (parC bs) ?_ ?_
  · refine ⟨0, .nilslice, p2 + 1, p2 + 1, by omega, by omega, ?_⟩
    simp only [lay_nil, lay_1, lay_w, Option.map_some, go_sem, ↓act_zero, Hold.p, HoldK.k, HoldL.K, HoldL.body, Nat.reduceBEq, Nat.reduceAdd, reduceIte, Nat.reduceEqDiff, Nat.reduceLT, Nat.reduceLeDiff]
    exact ⟨rfl, bb, bq, B10, Own.nil, Nat.lt_succ_self _, by omega, E⟩
  · have hp2 : h.n + 1 < p2 := by omega
    clear bb bq B B1 B2 B3 B4 B5 B6 B7 B8 B9 B10 E
    rintro n e g' ⟨k, vz, lo, hi, rfl, hk, i2, i4, i5, i6, i7, bb, bq, B, oz, hlo, hhi, E⟩
    obtain ⟨nn, hnn⟩ : ∃ nn, nn = 10 + parM bs + 4 * k := ⟨_, rfl⟩
    rw [← hnn] at B
    obtain ⟨vB, bB, sB, _⟩ := BitesAt.box B
    simp only [i2, i4, i5, i6, i7, bb.eq, bq.eq, bB.eq, lay_nil, lay_1, lay_w, Option.map_some, go_sem, ↓act_zero, Hold.p, HoldK.k, HoldL.K, HoldL.body, Nat.reduceBEq, Nat.reduceAdd, reduceIte, Nat.reduceEqDiff, Nat.reduceLT, Nat.reduceLeDiff]
    have lq := bq.lt
    by_cases c1 : k < parC bs
    · have d1 : decide ((0 : Int) < ((parC bs - k : Nat) : Int)) = true := decide_eq_true (by omega)
      cases c2 : (restD bs nn).2
      · simp only [i2, i4, i5, i6, i7, bb.eq, bq.eq, bB.eq, d1, c2, lay_nil, lay_1, lay_w, Option.map_some, go_sem, ↓act_zero, Hold.p, HoldK.k, HoldL.K, HoldL.body, Nat.reduceBEq, Nat.reduceAdd, reduceIte, Nat.reduceEqDiff, Nat.reduceLT, Nat.reduceLeDiff]
        refine callA_of (numAt_c g' _ nn 4 bs B (by omega) hl) ?_
        rintro r h2 ⟨rfl, B2, U⟩
        replace bb := U.at0 bb (by omega)
        replace bq := U.at0 bq (by omega)
        replace E := U.ext0 E (by omega)
        replace oz := ownBut oz U (.inl (by omega))
        have u2 := U.le
        clear U B bB sB
        have nq : (p2 = h2.n) = False := by simp; omega
        simp only [i2, i4, i5, i6, i7, bb.eq, bq.eq, nq, bslA_1, lay_nil, lay_1, lay_w, Option.map_some, go_sem, ↓act_zero, Hold.p, HoldK.k, HoldL.K, HoldL.body, Nat.reduceBEq, Nat.reduceAdd, reduceIte, Nat.reduceEqDiff, Nat.reduceLT, Nat.reduceLeDiff]
        generalize hq_g3 : IH.push h2 (IObj.rows [[IV.int .i64 (numB (pieceD bs nn 4))]] 2 1 false) = g3
        have e_g3 : Ext h2 g3 := by rw [← hq_g3]; exact (Ext.refl _).push _
        have l_g3 : g3.n = h2.n + 1 := by rw [← hq_g3]; rfl
        have bw : At g3 h2.n (IObj.rows [[IV.int .i64 (numB (pieceD bs nn 4))]] 2 1 false) := by rw [← hq_g3]; exact At.new _ _
        clear hq_g3
        have bb := bb.ext e_g3
        have bq := bq.ext e_g3
        have oz := oz.ext e_g3
        have E := E.ext e_g3
        have B2 := B2.ext e_g3
        refine oz.app (by simp) (by rw [intRows_len, parZ_len]; simp; omega) ?_
        intro v6 h6 o6 t6 n6 v6o v6c
        have B3 := B2.turn oz (by omega) t6
        have bb := bb.turn oz (by omega) t6
        have bq := bq.turn oz (by omega) t6
        have E := E.turn oz (by omega) t6
        have le_t6 := t6.le
        have o7 : Own g3.n (g3.n + 1) h6 2 1 v6 (intRows (parZ bs (k + 1))) := by
          rw [parZ_succ, intRows_append, ← hnn]; exact o6
        have w7 : wr .i64 (((parC bs - k : Nat) : Int) - 1) = ((parC bs - (k + 1) : Nat) : Int) := by rw [wr64 _ (by omega)]; omega
        have B4 := B3.other (q := p2) (o := IObj.rows [[IV.int .i64 (numB (pieceD bs 0 2)), IV.int .i64 (numB (pieceD bs 3 1)), IV.int .i64 (numB (pieceD bs 4 4)), IV.str (pieceD bs 9 (parM bs)), v6]] 101 5 false) (by omega) bq.eq (by decide)
        simp only [i2, i4, i5, i6, i7, bq.eq, v6o, v6c, w7, lay_nil, lay_1, lay_w, Option.map_some, go_sem, ↓act_zero, Hold.p, HoldK.k, HoldL.K, HoldL.body, Nat.reduceBEq, Nat.reduceAdd, reduceIte, Nat.reduceEqDiff, Nat.reduceLT, Nat.reduceLeDiff]
        generalize hq_g9 : IH.set h6 (p2) (IObj.rows [[IV.int .i64 (numB (pieceD bs 0 2)), IV.int .i64 (numB (pieceD bs 3 1)), IV.int .i64 (numB (pieceD bs 4 4)), IV.str (pieceD bs 9 (parM bs)), v6]] 101 5 false) = g9
        have l_g9 : g9.n = h6.n := by rw [← hq_g9]; rfl
        have bq : At g9 (p2) (IObj.rows [[IV.int .i64 (numB (pieceD bs 0 2)), IV.int .i64 (numB (pieceD bs 3 1)), IV.int .i64 (numB (pieceD bs 4 4)), IV.str (pieceD bs 9 (parM bs)), v6]] 101 5 false) := by rw [← hq_g9]; exact bq.here
        have o7 := o7.set (m := p2) (by omega) (IObj.rows [[IV.int .i64 (numB (pieceD bs 0 2)), IV.int .i64 (numB (pieceD bs 3 1)), IV.int .i64 (numB (pieceD bs 4 4)), IV.str (pieceD bs 9 (parM bs)), v6]] 101 5 false)
        rw [hq_g9] at o7
        have bb := bb.set (p := p2) (o' := IObj.rows [[IV.int .i64 (numB (pieceD bs 0 2)), IV.int .i64 (numB (pieceD bs 3 1)), IV.int .i64 (numB (pieceD bs 4 4)), IV.str (pieceD bs 9 (parM bs)), v6]] 101 5 false) (by omega)
        rw [hq_g9] at bb
        have E := E.set (p2) (by omega) (IObj.rows [[IV.int .i64 (numB (pieceD bs 0 2)), IV.int .i64 (numB (pieceD bs 3 1)), IV.int .i64 (numB (pieceD bs 4 4)), IV.str (pieceD bs 9 (parM bs)), v6]] 101 5 false)
        rw [hq_g9] at E
        rw [hq_g9] at B4
        clear hq_g9
        refine ⟨_, ?_, k + 1, v6, g3.n, g3.n + 1, rfl, by omega, rfl, bb, bq, ?_, o7, by omega, by omega, E⟩
        · omega
        · have : nn + 4 = 10 + (parM bs + 4 * (k + 1)) := by omega
          rw [← this]; exact B4
      · have hsh : bs.length < nn := by
          unfold restD at c2
          split at c2
          · assumption
          · cases c2
        have hdec := par_dec hk (by omega)
        simp only [i2, i4, i5, i6, i7, bb.eq, bq.eq, bB.eq, d1, c2, Bool.and_false, lay_nil, lay_1, lay_w, Option.map_some, go_sem, ↓act_zero, Hold.p, HoldK.k, HoldL.K, HoldL.body, Nat.reduceBEq, Nat.reduceAdd, reduceIte, Nat.reduceEqDiff, Nat.reduceLT, Nat.reduceLeDiff]
        refine callA_of (codeAt_c g' _ nn bs (numB (pieceD bs 2 1)) 1 (pieceD bs 9 (parM bs)) B hl (by omega)) ?_
        rintro r h7 ⟨rfl, E7⟩
        have bb := bb.ext E7
        have bq := bq.ext E7
        have oz := oz.ext E7
        have E := E.ext E7
        have le_E7 := E7.le
        have hz := codeAt_zero (bs := bs) (n := nn) (kind := numB (pieceD bs 2 1)) (want := 1) (nm := pieceD bs 9 (parM bs))
        have he : parErr bs k = if codeAt bs nn (numB (pieceD bs 2 1)) 1 (pieceD bs 9 (parM bs)) = 0 then (if (parAt bs k).ok = true then 0 else 1) else codeAt bs nn (numB (pieceD bs 2 1)) 1 (pieceD bs 9 (parM bs)) := by unfold parErr; rw [← hnn]; rfl
        generalize codeAt bs nn (numB (pieceD bs 2 1)) 1 (pieceD bs 9 (parM bs)) = cd at he hz ⊢
        by_cases c0 : cd = 0
        · have d0 : decide (cd = 0) = true := decide_eq_true c0
          rw [if_pos c0] at he
          simp only [i2, i5, bb.eq, bq.eq, d0, lay_nil, lay_1, lay_w, Option.map_some, go_sem, ↓act_zero, Hold.p, HoldK.k, HoldL.K, HoldL.body, Nat.reduceBEq, Nat.reduceAdd, reduceIte, Nat.reduceEqDiff, Nat.reduceLT, Nat.reduceLeDiff]
          refine callA_of (okReply_c _ (parAt bs k).id (parAt bs k).code (parAt bs k).ttl (parAt bs k).nm vz (parAt bs k).zs oz.sl (by show (parZ bs k).length ≤ _; rw [parZ_len]; omega)) ?_
          rintro r h8 ⟨⟨b, rfl, hb⟩, E8⟩
          have bb := bb.ext E8
          have bq := bq.ext E8
          have oz := oz.ext E8
          have E := E.ext E8
          have le_E8 := E8.le
          have hb2 : b = (parAt bs k).ok := by
            have h1 : okName (parAt bs k).nm = true := hz c0
            rw [h1, Bool.and_true] at hb; exact hb
          rw [← hb2] at he
          cases b
          · have he1 : parErr bs k = 1 := he
            rw [he1] at hdec
            have hdec1 : decR bs = (.zero, 1) := hdec
            have d9 : decide ((1 : Int) = 0) = false := by decide
            simp only [i2, i5, bb.eq, bq.eq, d0, d9, lay_nil, lay_1, lay_w, Option.map_some, go_sem, ↓act_zero, Hold.p, HoldK.k, HoldL.K, HoldL.body, Nat.reduceBEq, Nat.reduceAdd, reduceIte, Nat.reduceEqDiff, Nat.reduceLT, Nat.reduceLeDiff]
            rw [hdec1]
            exact ⟨_, rfl, Own.nil, E.set _ (Nat.le_refl _) _⟩
          · have he1 : parErr bs k = 0 := he
            rw [he1] at hdec
            have hdec1 : decR bs = (parAt bs k, 0) := hdec
            have vo := oz.sl.one
            have vc := oz.sl.cells
            simp only [i2, i5, bb.eq, bq.eq, d0, vo, vc, lay_nil, lay_1, lay_w, Option.map_some, go_sem, ↓act_zero, Hold.p, HoldK.k, HoldL.K, HoldL.body, Nat.reduceBEq, Nat.reduceAdd, reduceIte, Nat.reduceEqDiff, Nat.reduceLT, Nat.reduceLeDiff]
            rw [hdec1]
            exact ⟨vz, rfl, (Own.set oz (m := h.n) (by omega) _).wide (by omega) (by rw [set_n]; omega) (Nat.le_refl _), E.set _ (Nat.le_refl _) _⟩
        · have d0 : decide (cd = 0) = false := decide_eq_false c0
          rw [if_neg c0] at he
          rw [he, if_neg c0] at hdec
          simp only [i2, i5, bb.eq, bq.eq, d0, lay_nil, lay_1, lay_w, Option.map_some, go_sem, ↓act_zero, Hold.p, HoldK.k, HoldL.K, HoldL.body, Nat.reduceBEq, Nat.reduceAdd, reduceIte, Nat.reduceEqDiff, Nat.reduceLT, Nat.reduceLeDiff]
          rw [hdec]
          exact ⟨_, rfl, Own.nil, E.set _ (Nat.le_refl _) _⟩
    · have d1 : decide ((0 : Int) < ((parC bs - k : Nat) : Int)) = false := decide_eq_false (by omega)
      have hdec := par_dec hk (by omega)
      simp only [i2, i4, i5, i6, i7, bb.eq, bq.eq, bB.eq, d1, Bool.false_and, lay_nil, lay_1, lay_w, Option.map_some, go_sem, ↓act_zero, Hold.p, HoldK.k, HoldL.K, HoldL.body, Nat.reduceBEq, Nat.reduceAdd, reduceIte, Nat.reduceEqDiff, Nat.reduceLT, Nat.reduceLeDiff]
      refine callA_of (codeAt_c g' _ nn bs (numB (pieceD bs 2 1)) 1 (pieceD bs 9 (parM bs)) B hl (by omega)) ?_
      rintro r h7 ⟨rfl, E7⟩
      have bb := bb.ext E7
      have bq := bq.ext E7
      have oz := oz.ext E7
      have E := E.ext E7
      have le_E7 := E7.le
      have hz := codeAt_zero (bs := bs) (n := nn) (kind := numB (pieceD bs 2 1)) (want := 1) (nm := pieceD bs 9 (parM bs))
      have he : parErr bs k = if codeAt bs nn (numB (pieceD bs 2 1)) 1 (pieceD bs 9 (parM bs)) = 0 then (if (parAt bs k).ok = true then 0 else 1) else codeAt bs nn (numB (pieceD bs 2 1)) 1 (pieceD bs 9 (parM bs)) := by unfold parErr; rw [← hnn]; rfl
      generalize codeAt bs nn (numB (pieceD bs 2 1)) 1 (pieceD bs 9 (parM bs)) = cd at he hz ⊢
      by_cases c0 : cd = 0
      · have d0 : decide (cd = 0) = true := decide_eq_true c0
        rw [if_pos c0] at he
        simp only [i2, i5, bb.eq, bq.eq, d0, lay_nil, lay_1, lay_w, Option.map_some, go_sem, ↓act_zero, Hold.p, HoldK.k, HoldL.K, HoldL.body, Nat.reduceBEq, Nat.reduceAdd, reduceIte, Nat.reduceEqDiff, Nat.reduceLT, Nat.reduceLeDiff]
        refine callA_of (okReply_c _ (parAt bs k).id (parAt bs k).code (parAt bs k).ttl (parAt bs k).nm vz (parAt bs k).zs oz.sl (by show (parZ bs k).length ≤ _; rw [parZ_len]; omega)) ?_
        rintro r h8 ⟨⟨b, rfl, hb⟩, E8⟩
        have bb := bb.ext E8
        have bq := bq.ext E8
        have oz := oz.ext E8
        have E := E.ext E8
        have le_E8 := E8.le
        have hb2 : b = (parAt bs k).ok := by
          have h1 : okName (parAt bs k).nm = true := hz c0
          rw [h1, Bool.and_true] at hb; exact hb
        rw [← hb2] at he
        cases b
        · have he1 : parErr bs k = 1 := he
          rw [he1] at hdec
          have hdec1 : decR bs = (.zero, 1) := hdec
          have d9 : decide ((1 : Int) = 0) = false := by decide
          simp only [i2, i5, bb.eq, bq.eq, d0, d9, lay_nil, lay_1, lay_w, Option.map_some, go_sem, ↓act_zero, Hold.p, HoldK.k, HoldL.K, HoldL.body, Nat.reduceBEq, Nat.reduceAdd, reduceIte, Nat.reduceEqDiff, Nat.reduceLT, Nat.reduceLeDiff]
          rw [hdec1]
          exact ⟨_, rfl, Own.nil, E.set _ (Nat.le_refl _) _⟩
        · have he1 : parErr bs k = 0 := he
          rw [he1] at hdec
          have hdec1 : decR bs = (parAt bs k, 0) := hdec
          have vo := oz.sl.one
          have vc := oz.sl.cells
          simp only [i2, i5, bb.eq, bq.eq, d0, vo, vc, lay_nil, lay_1, lay_w, Option.map_some, go_sem, ↓act_zero, Hold.p, HoldK.k, HoldL.K, HoldL.body, Nat.reduceBEq, Nat.reduceAdd, reduceIte, Nat.reduceEqDiff, Nat.reduceLT, Nat.reduceLeDiff]
          rw [hdec1]
          exact ⟨vz, rfl, (Own.set oz (m := h.n) (by omega) _).wide (by omega) (by rw [set_n]; omega) (Nat.le_refl _), E.set _ (Nat.le_refl _) _⟩
      · have d0 : decide (cd = 0) = false := decide_eq_false c0
        rw [if_neg c0] at he
        rw [he, if_neg c0] at hdec
        simp only [i2, i5, bb.eq, bq.eq, d0, lay_nil, lay_1, lay_w, Option.map_some, go_sem, ↓act_zero, Hold.p, HoldK.k, HoldL.K, HoldL.body, Nat.reduceBEq, Nat.reduceAdd, reduceIte, Nat.reduceEqDiff, Nat.reduceLT, Nat.reduceLeDiff]
        rw [hdec]
        exact ⟨_, rfl, Own.nil, E.set _ (Nat.le_refl _) _⟩
end
end Go.Proofs.YtaoffieemecioaaGreatDoor
