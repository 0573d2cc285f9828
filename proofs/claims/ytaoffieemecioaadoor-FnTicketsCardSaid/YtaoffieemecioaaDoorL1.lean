import Derived.Test.YtaoffieemecioaaDoorK2
import Derived.Test.YtaoffieemecioaaDoorProg
import Derived.KernelRfl
import Derived.Test.YtaoffieemecioaaDoorK3
set_option linter.unusedSimpArgs false
set_option linter.unusedVariables false
namespace Go.Proofs.YtaoffieemecioaaDoor
open Go Go.IW
def c6 : CC :=
 (.seq (.reg [
 x0 2 (.box 25 2 (.t 0)),
 p0 4 (.mv (.c .nilslice)),
 p0 5 (.mv (.c (.int .i64 0)))])
 (.seq (.seq (.reg [
 p0 10 (.fadr 0 (.t 2)),
 p0 11 (.ld (.t 10)),
 p0 12 (.len (.t 11)),
 p0 13 (.bin .lss (.t 12) (.c (.int .i64 1))),
 p0 14 (.mv (.t 13)),
 g0 15 14 false (.fadr 0 (.t 2)),
 g0 16 14 false (.ld (.t 15)),
 g0 17 14 false (.len (.t 16)),
 g0 18 14 false (.bin .gtr (.t 17) (.c (.int .i64 4))),
 p0 19 (.pick (.t 14) (.c (.bool true)) (.t 18)),
 p0 20 (.mv (.t 19)),
 g0 21 20 false (.fadr 1 (.t 2)),
 g0 22 20 false (.ld (.t 21)),
 ⟨(some 23), (some (20, false)), .x (.call 20 [(.t 22)])⟩,
 g0 24 20 false (.un .not (.t 23)),
 p0 25 (.pick (.t 20) (.c (.bool true)) (.t 24))])
 (.cond (.t 25)
 (.seq (.reg [
 p0 4 (.mv (.c .nilslice)),
 p0 5 (.mv (.c (.int .i64 1)))])
 .ret)
 .skip))
 (.seq (.seq (.reg [
 p0 6 (.mv (.c (.int .i64 0)))])
 (.block 0 (.loop (.seq (.seq (.reg [
 p0 26 (.mv (.t 6)),
 p0 27 (.fadr 0 (.t 2)),
 p0 28 (.ld (.t 27)),
 p0 29 (.len (.t 28)),
 p0 30 (.bin .lss (.t 26) (.t 29))])
 (.cond (.t 30)
 .skip
 (.exit 0)))
 (.seq (.block 1 (.seq (.reg [
 p0 33 (.fadr 0 (.t 2)),
 p0 34 (.ld (.t 33)),
 p0 35 (.mv (.t 6)),
 p0 36 (.iadr 1 (.t 34) (.t 35)),
 p0 37 (.ld (.t 36)),
 x0 38 (.call 21 [(.t 37)]),
 p0 39 (.bin .neq (.t 38) (.c (.int .i64 6)))])
 (.cond (.t 39)
 (.seq (.reg [
 p0 4 (.mv (.c .nilslice)),
 p0 5 (.mv (.c (.int .i64 1)))])
 .ret)
 .skip)))
 (.reg [
 p0 31 (.mv (.t 6)),
 p0 32 (.bin .add (.t 31) (.c (.int .i64 1))),
 p0 6 (.mv (.t 32))]))))))
 (.seq (.seq (.reg [
 p0 40 (.mv (.t 1)),
 p0 41 (.len (.t 40)),
 p0 42 (.bin .gtr (.t 41) (.c (.int .i64 2000)))])
 (.cond (.t 42)
 (.seq (.reg [
 p0 4 (.mv (.c .nilslice)),
 p0 5 (.mv (.c (.int .i64 8)))])
 .ret)
 .skip))
 (.seq (.reg [
 p0 43 (.ldA 2 (.t 2)),
 p0 44 (.build [.nilslice, (.int .i64 0), (.int .i64 0), (.int .i64 0), .nilslice, .nilslice, (.int .i64 0), .nilslice, .nilslice, (.int .i64 0), (.int .i64 0)] [(0, 2, (.t 43))]),
 x0 7 (.zero 65 11 [.nilslice, (.int .i64 0), (.int .i64 0), (.int .i64 0), .nilslice, .nilslice, (.int .i64 0), .nilslice, .nilslice, (.int .i64 0), (.int .i64 0)]),
 s0 (.st 11 (.t 7) (.t 44))])
 (.seq (.reg [
 x0 45 (.bslice 38 5 [(.int .i64 0), .nilslice, .nilslice, (.int .i64 0), (.int .i64 0)] 0 []),
 p0 8 (.mv (.t 45))])
 (.seq (.seq (.reg [
 p0 9 (.mv (.c (.int .i64 0)))])
 (.block 2 (.loop (.seq (.seq (.reg [
 p0 46 (.mv (.t 9)),
 p0 47 (.mv (.t 1)),
 p0 48 (.len (.t 47)),
 p0 49 (.bin .lss (.t 46) (.t 48))])
 (.cond (.t 49)
 .skip
 (.exit 2)))
 (.seq (.block 3 (.reg [
 p0 52 (.mv (.t 8)),
 p0 53 (.mv (.t 9)),
 p0 54 (.mv (.t 1)),
 p0 55 (.mv (.t 9)),
 p0 56 (.iadr 6 (.t 54) (.t 55)),
 p0 57 (.ldA 6 (.t 56)),
 x0 58 (.call 19 [(.t 7), (.t 53), (.t 57)]),
 x0 59 (.bslice 38 5 [(.int .i64 0), .nilslice, .nilslice, (.int .i64 0), (.int .i64 0)] 1 [(0, (.t 58))]),
 x0 60 (.app 38 5 72 (.t 52) (.t 59)),
 p0 8 (.mv (.t 60))]))
 (.reg [
 p0 50 (.mv (.t 9)),
 p0 51 (.bin .add (.t 50) (.c (.int .i64 1))),
 p0 9 (.mv (.t 51))]))))))
 (.seq (.reg [
 p0 61 (.mv (.t 8)),
 p0 4 (.mv (.t 61)),
 p0 5 (.mv (.c (.int .i64 0)))])
 .ret))))))))
theorem ok6 : fnComp Tryd.prog 6 = some (62, c6, [(.mv (.t 4)), (.mv (.t 5))]) := by kernel_rfl

def c7 : CC :=
 (.seq (.reg [
 x0 2 (.box 25 2 (.t 0)),
 p0 4 (.mv (.c .nilslice)),
 p0 5 (.mv (.c (.int .i64 0)))])
 (.seq (.seq (.reg [
 p0 13 (.ldA 2 (.t 2)),
 x0 14 (.call 22 [(.t 13)]),
 p0 15 (.un .not (.t 14))])
 (.cond (.t 15)
 (.seq (.reg [
 p0 4 (.mv (.c .nilslice)),
 p0 5 (.mv (.c (.int .i64 1)))])
 .ret)
 .skip))
 (.seq (.seq (.reg [
 p0 16 (.mv (.t 1)),
 p0 17 (.len (.t 16)),
 p0 18 (.bin .gtr (.t 17) (.c (.int .i64 2000)))])
 (.cond (.t 18)
 (.seq (.reg [
 p0 4 (.mv (.c .nilslice)),
 p0 5 (.mv (.c (.int .i64 8)))])
 .ret)
 .skip))
 (.seq (.reg [
 p0 19 (.ldA 2 (.t 2)),
 x0 20 (.call 23 [(.t 19)]),
 p0 6 (.mv (.t 20))])
 (.seq (.reg [
 p0 7 (.mv (.c .nilslice))])
 (.seq (.seq (.reg [
 p0 21 (.mv (.t 1)),
 p0 22 (.len (.t 21)),
 p0 23 (.mv (.c (.int .i64 0)))])
 (.block 0 (.loop (.seq (.reg [
 p0 24 (.bin .lss (.t 23) (.t 22))])
 (.seq (.cond (.t 24)
 .skip
 (.exit 0))
 (.seq (.block 1 (.seq (.reg [
 p0 25 (.iadr 6 (.t 21) (.t 23)),
 p0 26 (.ldA 6 (.t 25)),
 x0 9 (.zero 30 6 [(.int .i64 0), (.int .i64 0), (.int .i64 0), (.int .i64 0), (.str []), .nilslice]),
 s0 (.st 6 (.t 9) (.t 26))])
 (.seq (.reg [
 x0 10 (.zero 38 5 [(.int .i64 0), .nilslice, .nilslice, (.int .i64 0), (.int .i64 0)])])
 (.seq (.block 2 (.seq (.reg [
 p0 29 (.fadr 0 (.t 9)),
 p0 30 (.ld (.t 29)),
 p0 31 (.bin .eql (.t 30) (.c (.int .i64 1))),
 p0 32 (.mv (.t 31)),
 g0 33 32 true (.fadr 4 (.t 9)),
 g0 34 32 true (.ld (.t 33)),
 ⟨(some 35), (some (32, true)), .x (.call 24 [(.t 34)])⟩,
 p0 36 (.pick (.t 32) (.t 35) (.c (.bool false))),
 p0 28 (.mv (.t 36))])
 (.cond (.t 28)
 (.reg [
 p0 37 (.mv (.t 6)),
 p0 38 (.fadr 4 (.t 9)),
 p0 39 (.ld (.t 38)),
 x0 40 (.call 25 [(.t 37), (.t 39)]),
 p0 41 (.fadr 0 (.t 10)),
 s0 (.st 1 (.t 41) (.t 40))])
 (.seq (.reg [
 p0 43 (.fadr 0 (.t 9)),
 p0 44 (.ld (.t 43)),
 p0 45 (.bin .eql (.t 44) (.c (.int .i64 2))),
 p0 42 (.mv (.t 45))])
 (.cond (.t 42)
 (.reg [
 p0 46 (.mv (.t 6)),
 p0 47 (.fadr 1 (.t 9)),
 p0 48 (.ld (.t 47)),
 p0 49 (.fadr 2 (.t 9)),
 p0 50 (.ld (.t 49)),
 p0 51 (.fadr 5 (.t 9)),
 p0 52 (.ld (.t 51)),
 x0 53 (.call 26 [(.t 46), (.t 48), (.t 50), (.t 52)])])
 (.seq (.dreg [
 p0 55 (.fadr 0 (.t 9)),
 p0 56 (.ld (.t 55)),
 p0 57 (.bin .eql (.t 56) (.c (.int .i64 3))),
 p0 58 (.mv (.t 57)),
 g0 59 58 true (.mv (.t 6)),
 g0 60 58 true (.nck (.t 59)),
 g0 61 58 true (.fadr 2 (.t 60)),
 g0 62 58 true (.ld (.t 61)),
 g0 63 58 true (.fadr 3 (.t 9)),
 g0 64 58 true (.ld (.t 63)),
 ⟨(some 65), (some (58, true)), .x (.call 27 [(.t 62), (.t 64)])⟩,
 p0 66 (.pick (.t 58) (.t 65) (.c (.bool false))),
 p0 54 (.mv (.t 66))]
 [false, false, false, false, false, false, false, false, false, false, true, false, false] [[],[0],[1,0],[2,1,0],[3,2,1,0],[4,3,2,1,0],[5,4,3,2,1,0],[6,5,4,3,2,1,0],[3,2,1,0],[8,3,2,1,0],[7,6,5,4,3,2,1,0,9,8],[3,2,1,0,10,7,6,5,4,9,8],[11,3,2,1,0,10,7,6,5,4,9,8]] [0,1,2,3,4,5,6,7,8,9,10,11,12])
 (.cond (.t 54)
 (.seq (.dreg [
 p0 67 (.mv (.t 6)),
 p0 68 (.nck (.t 67)),
 p0 69 (.fadr 2 (.t 68)),
 p0 70 (.ld (.t 69)),
 p0 71 (.fadr 3 (.t 9)),
 p0 72 (.ld (.t 71)),
 p0 73 (.bin .add (.t 70) (.t 72)),
 p0 11 (.mv (.t 73))]
 [false, false, false, false, false, false, false, false] [[],[0],[1,0],[2,1,0],[],[4],[3,2,1,0,5,4],[6,3,2,1,0,5,4]] [0,1,2,3,4,5,6,7])
 (.seq (.seq (.reg [
 p0 74 (.mv (.t 6)),
 x0 75 (.call 28 [(.t 74)]),
 p0 12 (.mv (.t 75))])
 (.block 3 (.loop (.seq (.seq (.reg [
 p0 76 (.mv (.t 12)),
 p0 77 (.eqn .ptr true (.t 76) (.c .nilptr)),
 p0 78 (.mv (.t 77)),
 g0 79 78 true (.mv (.t 12)),
 g0 80 78 true (.nck (.t 79)),
 g0 81 78 true (.fadr 5 (.t 80)),
 g0 82 78 true (.ld (.t 81)),
 g0 83 78 true (.mv (.t 11)),
 g0 84 78 true (.bin .leq (.t 82) (.t 83)),
 p0 85 (.pick (.t 78) (.t 84) (.c (.bool false)))])
 (.cond (.t 85)
 .skip
 (.exit 3)))
 (.seq (.block 4 (.seq (.reg [
 p0 88 (.mv (.t 6)),
 p0 89 (.mv (.t 12)),
 p0 90 (.nck (.t 89)),
 p0 91 (.fadr 5 (.t 90)),
 p0 92 (.ld (.t 91)),
 p0 93 (.nck (.t 88)),
 p0 94 (.fadr 2 (.t 93)),
 s0 (.st 1 (.t 94) (.t 92))])
 (.reg [
 p0 95 (.mv (.t 6)),
 p0 96 (.mv (.t 12)),
 x0 97 (.call 29 [(.t 95), (.t 96)])])))
 (.reg [
 p0 86 (.mv (.t 6)),
 x0 87 (.call 28 [(.t 86)]),
 p0 12 (.mv (.t 87))]))))))
 (.reg [
 p0 98 (.mv (.t 6)),
 p0 99 (.mv (.t 11)),
 p0 100 (.nck (.t 98)),
 p0 101 (.fadr 2 (.t 100)),
 s0 (.st 1 (.t 101) (.t 99))])))
 (.reg [
 p0 27 (.fadr 0 (.t 10)),
 s0 (.st 1 (.t 27) (.c (.int .i64 1)))]))))))))
 (.seq (.reg [
 p0 102 (.mv (.t 6)),
 p0 103 (.nck (.t 102)),
 p0 104 (.fadr 3 (.t 103)),
 p0 105 (.ld (.t 104)),
 p0 106 (.bin .add (.t 105) (.c (.int .i64 1))),
 p0 107 (.nck (.t 102)),
 p0 108 (.fadr 3 (.t 107)),
 s0 (.st 1 (.t 108) (.t 106))])
 (.reg [
 p0 109 (.mv (.t 7)),
 p0 110 (.mv (.t 6)),
 p0 111 (.ldA 5 (.t 10)),
 x0 112 (.call 30 [(.t 110), (.t 111)]),
 x0 113 (.bslice 38 5 [(.int .i64 0), .nilslice, .nilslice, (.int .i64 0), (.int .i64 0)] 1 [(0, (.t 112))]),
 x0 114 (.app 38 5 72 (.t 109) (.t 113)),
 p0 7 (.mv (.t 114))]))))))
 (.reg [
 p0 115 (.bin .add (.t 23) (.c (.int .i64 1))),
 p0 23 (.mv (.t 115))])))))))
 (.seq (.reg [
 p0 116 (.mv (.t 7)),
 p0 4 (.mv (.t 116)),
 p0 5 (.mv (.c (.int .i64 0)))])
 .ret)))))))
theorem ok7 : fnComp Tryd.prog 7 = some (117, c7, [(.mv (.t 4)), (.mv (.t 5))]) := by kernel_rfl

def c19 : CC :=
 (.seq (.reg [
 x0 5 (.box 30 6 (.t 2)),
 x0 6 (.zero 38 5 [(.int .i64 0), .nilslice, .nilslice, (.int .i64 0), (.int .i64 0)])])
 (.seq (.reg [
 p0 7 (.mv (.t 0)),
 p0 8 (.build [(.int .i64 0), .nilslice, .nilslice, (.int .i64 0), (.int .i64 0)] []),
 p0 9 (.nck (.t 7)),
 p0 10 (.fadr 6 (.t 9)),
 s0 (.st 5 (.t 10) (.t 8))])
 (.seq (.block 0 (.seq (.reg [
 p0 16 (.fadr 0 (.t 5)),
 p0 17 (.ld (.t 16)),
 p0 18 (.bin .eql (.t 17) (.c (.int .i64 1))),
 p0 19 (.mv (.t 18)),
 g0 20 19 true (.fadr 4 (.t 5)),
 g0 21 19 true (.ld (.t 20)),
 ⟨(some 22), (some (19, true)), .x (.call 38 [(.t 21)])⟩,
 p0 23 (.pick (.t 19) (.t 22) (.c (.bool false))),
 p0 15 (.mv (.t 23))])
 (.cond (.t 15)
 (.reg [
 p0 24 (.mv (.t 0)),
 p0 25 (.mv (.t 0)),
 p0 26 (.mv (.t 1)),
 p0 27 (.fadr 4 (.t 5)),
 p0 28 (.ld (.t 27)),
 x0 29 (.call 39 [(.t 25), (.t 26), (.t 28)]),
 p0 30 (.nck (.t 24)),
 p0 31 (.fadr 6 (.t 30)),
 p0 32 (.fadr 0 (.t 31)),
 s0 (.st 1 (.t 32) (.t 29))])
 (.seq (.reg [
 p0 34 (.fadr 0 (.t 5)),
 p0 35 (.ld (.t 34)),
 p0 36 (.bin .eql (.t 35) (.c (.int .i64 2))),
 p0 33 (.mv (.t 36))])
 (.cond (.t 33)
 (.reg [
 p0 37 (.mv (.t 0)),
 p0 38 (.fadr 1 (.t 5)),
 p0 39 (.ld (.t 38)),
 p0 40 (.fadr 2 (.t 5)),
 p0 41 (.ld (.t 40)),
 p0 42 (.fadr 5 (.t 5)),
 p0 43 (.ld (.t 42)),
 x0 44 (.call 40 [(.t 37), (.t 39), (.t 41), (.t 43)])])
 (.seq (.dreg [
 p0 46 (.fadr 0 (.t 5)),
 p0 47 (.ld (.t 46)),
 p0 48 (.bin .eql (.t 47) (.c (.int .i64 3))),
 p0 49 (.mv (.t 48)),
 g0 50 49 true (.fadr 3 (.t 5)),
 g0 51 49 true (.ld (.t 50)),
 g0 52 49 true (.bin .geq (.t 51) (.c (.int .i64 0))),
 p0 53 (.pick (.t 49) (.t 52) (.c (.bool false))),
 p0 54 (.mv (.t 53)),
 g0 55 54 true (.fadr 3 (.t 5)),
 g0 56 54 true (.ld (.t 55)),
 g0 57 54 true (.mv (.t 0)),
 g0 58 54 true (.nck (.t 57)),
 g0 59 54 true (.fadr 2 (.t 58)),
 g0 60 54 true (.ld (.t 59)),
 g0 61 54 true (.bin .sub (.c (.int .i64 1000000000)) (.t 60)),
 g0 62 54 true (.bin .leq (.t 56) (.t 61)),
 p0 63 (.pick (.t 54) (.t 62) (.c (.bool false))),
 p0 45 (.mv (.t 63))]
 [false, false, false, false, false, false, false, false, false, false, false, false, false, false, false, false, false, false, false] [[],[0],[1,0],[2,1,0],[3,2,1,0],[4,3,2,1,0],[5,4,3,2,1,0],[3,2,1,0,6,5,4],[7,3,2,1,0,6,5,4],[8,7,3,2,1,0,6,5,4],[9,8,7,3,2,1,0,6,5,4],[8,7,3,2,1,0,6,5,4],[11,8,7,3,2,1,0,6,5,4],[12,11,8,7,3,2,1,0,6,5,4],[13,12,11,8,7,3,2,1,0,6,5,4],[14,13,12,11,8,7,3,2,1,0,6,5,4],[10,9,8,7,3,2,1,0,6,5,4,15,14,13,12,11],[8,7,3,2,1,0,6,5,4,16,10,9,15,14,13,12,11],[17,8,7,3,2,1,0,6,5,4,16,10,9,15,14,13,12,11]] [0,1,2,3,4,5,6,7,8,9,10,11,12,13,14,15,16,17,18])
 (.cond (.t 45)
 (.reg [
 p0 64 (.mv (.t 0)),
 p0 65 (.fadr 3 (.t 5)),
 p0 66 (.ld (.t 65)),
 x0 67 (.call 41 [(.t 64), (.t 66)])])
 (.reg [
 p0 11 (.mv (.t 0)),
 p0 12 (.nck (.t 11)),
 p0 13 (.fadr 6 (.t 12)),
 p0 14 (.fadr 0 (.t 13)),
 s0 (.st 1 (.t 14) (.c (.int .i64 1)))]))))))))
 (.seq (.reg [
 p0 68 (.mv (.t 0)),
 x0 69 (.call 42 [(.t 68)])])
 (.seq (.reg [
 p0 70 (.mv (.t 0)),
 p0 71 (.mv (.t 0)),
 p0 72 (.nck (.t 71)),
 p0 73 (.fadr 5 (.t 72)),
 p0 74 (.ld (.t 73)),
 p0 75 (.len (.t 74)),
 p0 76 (.nck (.t 70)),
 p0 77 (.fadr 6 (.t 76)),
 p0 78 (.fadr 3 (.t 77)),
 s0 (.st 1 (.t 78) (.t 75))])
 (.seq (.reg [
 p0 79 (.mv (.t 0)),
 p0 80 (.mv (.t 0)),
 p0 81 (.nck (.t 80)),
 p0 82 (.fadr 4 (.t 81)),
 p0 83 (.ld (.t 82)),
 p0 84 (.len (.t 83)),
 p0 85 (.nck (.t 79)),
 p0 86 (.fadr 6 (.t 85)),
 p0 87 (.fadr 4 (.t 86)),
 s0 (.st 1 (.t 87) (.t 84))])
 (.seq (.reg [
 p0 88 (.mv (.t 0)),
 p0 89 (.nck (.t 88)),
 p0 90 (.fadr 6 (.t 89)),
 p0 91 (.ldA 5 (.t 90)),
 s0 (.st 5 (.t 6) (.t 91))])
 .ret)))))))
theorem ok19 : fnComp Tryd.prog 19 = some (92, c19, [(.ldA 5 (.t 6))]) := by kernel_rfl

def c20 : CC :=
 (.seq (.reg [
 p0 2 (.mv (.c (.bool false)))])
 (.seq (.reg [
 p0 3 (.mv (.t 0)),
 x0 4 (.call 43 [(.t 3), (.c (.int .i64 0)), (.c (.int .i64 65535))]),
 p0 2 (.mv (.t 4))])
 .ret))
theorem ok20 : fnComp Tryd.prog 20 = some (5, c20, [(.mv (.t 2))]) := by kernel_rfl

def c21 : CC :=
 (.seq (.reg [
 p0 2 (.mv (.c (.int .i64 0)))])
 (.seq (.block 0 (.seq (.reg [
 p0 4 (.mv (.t 0)),
 x0 5 (.call 44 [(.t 4)]),
 p0 6 (.un .not (.t 5)),
 p0 3 (.mv (.t 6))])
 (.cond (.t 3)
 (.seq (.reg [
 p0 2 (.mv (.c (.int .i64 0)))])
 .ret)
 (.seq (.reg [
 p0 8 (.mv (.t 0)),
 p0 9 (.bin .eql (.t 8) (.c (.int .i64 0))),
 p0 7 (.mv (.t 9))])
 (.cond (.t 7)
 (.seq (.reg [
 p0 2 (.mv (.c (.int .i64 1)))])
 .ret)
 (.seq (.reg [
 p0 11 (.mv (.t 0)),
 p0 12 (.bin .shr (.t 11) (.c (.int .u64 24))),
 p0 13 (.bin .eql (.t 12) (.c (.int .i64 127))),
 p0 10 (.mv (.t 13))])
 (.cond (.t 10)
 (.seq (.reg [
 p0 2 (.mv (.c (.int .i64 2)))])
 .ret)
 (.seq (.reg [
 p0 15 (.mv (.t 0)),
 p0 16 (.bin .eql (.t 15) (.c (.int .i64 4294967295))),
 p0 14 (.mv (.t 16))])
 (.cond (.t 14)
 (.seq (.reg [
 p0 2 (.mv (.c (.int .i64 4)))])
 .ret)
 (.seq (.reg [
 p0 18 (.mv (.t 0)),
 p0 19 (.bin .shr (.t 18) (.c (.int .u64 28))),
 p0 20 (.bin .eql (.t 19) (.c (.int .i64 14))),
 p0 17 (.mv (.t 20))])
 (.cond (.t 17)
 (.seq (.reg [
 p0 2 (.mv (.c (.int .i64 3)))])
 .ret)
 (.seq (.reg [
 p0 22 (.mv (.t 0)),
 p0 23 (.bin .shr (.t 22) (.c (.int .u64 28))),
 p0 24 (.bin .eql (.t 23) (.c (.int .i64 15))),
 p0 21 (.mv (.t 24))])
 (.cond (.t 21)
 (.seq (.reg [
 p0 2 (.mv (.c (.int .i64 5)))])
 .ret)
 .skip)))))))))))))
 (.seq (.reg [
 p0 2 (.mv (.c (.int .i64 6)))])
 .ret)))
theorem ok21 : fnComp Tryd.prog 21 = some (25, c21, [(.mv (.t 2))]) := by kernel_rfl

def c22 : CC :=
 (.seq (.reg [
 x0 1 (.box 25 2 (.t 0)),
 p0 2 (.mv (.c (.bool false)))])
 (.seq (.seq (.reg [
 p0 3 (.fadr 0 (.t 1)),
 p0 4 (.ld (.t 3)),
 p0 5 (.len (.t 4)),
 p0 6 (.bin .lss (.t 5) (.c (.int .i64 1))),
 p0 7 (.mv (.t 6)),
 g0 8 7 false (.fadr 0 (.t 1)),
 g0 9 7 false (.ld (.t 8)),
 g0 10 7 false (.len (.t 9)),
 g0 11 7 false (.bin .gtr (.t 10) (.c (.int .i64 4))),
 p0 12 (.pick (.t 7) (.c (.bool true)) (.t 11)),
 p0 13 (.mv (.t 12)),
 g0 14 13 false (.fadr 1 (.t 1)),
 g0 15 13 false (.ld (.t 14)),
 g0 16 13 false (.bin .lss (.t 15) (.c (.int .i64 0))),
 p0 17 (.pick (.t 13) (.c (.bool true)) (.t 16)),
 p0 18 (.mv (.t 17)),
 g0 19 18 false (.fadr 1 (.t 1)),
 g0 20 18 false (.ld (.t 19)),
 g0 21 18 false (.bin .gtr (.t 20) (.c (.int .i64 65535))),
 p0 22 (.pick (.t 18) (.c (.bool true)) (.t 21))])
 (.cond (.t 22)
 (.seq (.reg [
 p0 2 (.mv (.c (.bool false)))])
 .ret)
 .skip))
 (.seq (.reg [
 p0 23 (.fadr 0 (.t 1)),
 p0 24 (.ld (.t 23)),
 x0 25 (.call 45 [(.t 24), (.fn 46)]),
 p0 26 (.un .not (.t 25)),
 p0 2 (.mv (.t 26))])
 .ret)))
theorem ok22 : fnComp Tryd.prog 22 = some (27, c22, [(.mv (.t 2))]) := by kernel_rfl

def c23 : CC :=
 (.seq (.reg [
 x0 1 (.box 25 2 (.t 0)),
 p0 2 (.mv (.c .nilptr))])
 (.seq (.reg [
 p0 3 (.fadr 0 (.t 1)),
 p0 4 (.ld (.t 3)),
 x0 5 (.call 48 [(.t 4)]),
 p0 6 (.fadr 0 (.t 1)),
 s0 (.st 1 (.t 6) (.t 5))])
 (.seq (.reg [
 p0 7 (.ldA 2 (.t 1)),
 p0 8 (.build [.nilslice, (.int .i64 0), (.int .i64 0), (.int .i64 0), (.int .i64 0), .nilslice, .nilslice, .nilslice, .nilslice] [(0, 2, (.t 7))]),
 x0 9 (.box 84 9 (.t 8)),
 p0 2 (.mv (.t 9))])
 .ret)))
theorem ok23 : fnComp Tryd.prog 23 = some (10, c23, [(.mv (.t 2))]) := by kernel_rfl

def c24 : CC :=
 (.seq (.reg [
 p0 2 (.mv (.c (.bool false)))])
 (.seq (.seq (.reg [
 p0 7 (.mv (.t 0)),
 p0 8 (.lenS (.t 7)),
 p0 9 (.bin .lss (.t 8) (.c (.int .i64 1))),
 p0 10 (.mv (.t 9)),
 g0 11 10 false (.mv (.t 0)),
 g0 12 10 false (.lenS (.t 11)),
 g0 13 10 false (.bin .gtr (.t 12) (.c (.int .i64 63))),
 p0 14 (.pick (.t 10) (.c (.bool true)) (.t 13))])
 (.cond (.t 14)
 (.seq (.reg [
 p0 2 (.mv (.c (.bool false)))])
 .ret)
 .skip))
 (.seq (.seq (.reg [
 p0 15 (.mv (.t 0)),
 x0 16 (.call 49 [(.t 15), (.c (.str [46]))]),
 p0 17 (.len (.t 16)),
 p0 18 (.mv (.c (.int .i64 0)))])
 (.block 0 (.loop (.seq (.reg [
 p0 19 (.bin .lss (.t 18) (.t 17))])
 (.seq (.cond (.t 19)
 .skip
 (.exit 0))
 (.seq (.block 1 (.seq (.reg [
 p0 20 (.iadr 1 (.t 16) (.t 18)),
 p0 21 (.ld (.t 20)),
 p0 4 (.mv (.t 21))])
 (.seq (.seq (.reg [
 p0 22 (.mv (.t 4)),
 p0 23 (.lenS (.t 22)),
 p0 24 (.bin .lss (.t 23) (.c (.int .i64 1))),
 p0 25 (.mv (.t 24)),
 g0 26 25 false (.mv (.t 4)),
 g0 27 25 false (.lenS (.t 26)),
 g0 28 25 false (.bin .gtr (.t 27) (.c (.int .i64 20))),
 p0 29 (.pick (.t 25) (.c (.bool true)) (.t 28)),
 p0 30 (.mv (.t 29)),
 g0 31 30 false (.mv (.t 4)),
 g0 32 30 false (.idxS (.t 31) (.c (.int .i64 0))),
 g0 33 30 false (.bin .eql (.t 32) (.c (.int .u8 45))),
 p0 34 (.pick (.t 30) (.c (.bool true)) (.t 33)),
 p0 35 (.mv (.t 34)),
 g0 36 35 false (.mv (.t 4)),
 g0 37 35 false (.mv (.t 4)),
 g0 38 35 false (.lenS (.t 37)),
 g0 39 35 false (.bin .sub (.t 38) (.c (.int .i64 1))),
 g0 40 35 false (.idxS (.t 36) (.t 39)),
 g0 41 35 false (.bin .eql (.t 40) (.c (.int .u8 45))),
 p0 42 (.pick (.t 35) (.c (.bool true)) (.t 41))])
 (.cond (.t 42)
 (.seq (.reg [
 p0 2 (.mv (.c (.bool false)))])
 .ret)
 .skip))
 (.seq (.reg [
 p0 43 (.mv (.t 4)),
 x0 44 (.s2b 5 (.t 43)),
 p0 45 (.len (.t 44)),
 p0 46 (.mv (.c (.int .i64 0)))])
 (.block 2 (.loop (.seq (.reg [
 p0 47 (.bin .lss (.t 46) (.t 45))])
 (.seq (.cond (.t 47)
 .skip
 (.exit 2))
 (.seq (.block 3 (.seq (.reg [
 p0 48 (.iadr 1 (.t 44) (.t 46)),
 p0 49 (.ld (.t 48)),
 p0 6 (.mv (.t 49))])
 (.seq (.reg [
 p0 50 (.mv (.t 6)),
 p0 51 (.bin .geq (.t 50) (.c (.int .u8 97))),
 p0 52 (.mv (.t 51)),
 g0 53 52 true (.mv (.t 6)),
 g0 54 52 true (.bin .leq (.t 53) (.c (.int .u8 122))),
 p0 55 (.pick (.t 52) (.t 54) (.c (.bool false))),
 p0 56 (.mv (.t 55)),
 g0 57 56 false (.mv (.t 6)),
 g0 58 56 false (.bin .geq (.t 57) (.c (.int .u8 48))),
 g0 59 56 false (.mv (.t 58)),
 g0 60 59 true (.mv (.t 6)),
 g0 61 59 true (.bin .leq (.t 60) (.c (.int .u8 57))),
 g0 62 56 false (.pick (.t 59) (.t 61) (.c (.bool false))),
 p0 63 (.pick (.t 56) (.c (.bool true)) (.t 62)),
 p0 64 (.mv (.t 63)),
 g0 65 64 false (.mv (.t 6)),
 g0 66 64 false (.bin .eql (.t 65) (.c (.int .u8 45))),
 p0 67 (.pick (.t 64) (.c (.bool true)) (.t 66)),
 p0 68 (.un .not (.t 67))])
 (.cond (.t 68)
 (.seq (.reg [
 p0 2 (.mv (.c (.bool false)))])
 .ret)
 .skip))))
 (.reg [
 p0 69 (.bin .add (.t 46) (.c (.int .i64 1))),
 p0 46 (.mv (.t 69))]))))))))))
 (.reg [
 p0 70 (.bin .add (.t 18) (.c (.int .i64 1))),
 p0 18 (.mv (.t 70))])))))))
 (.seq (.reg [
 p0 2 (.mv (.c (.bool true)))])
 .ret))))
theorem ok24 : fnComp Tryd.prog 24 = some (71, c24, [(.mv (.t 2))]) := by kernel_rfl

def c25 : CC :=
 (.seq (.reg [
 p0 4 (.mv (.c (.int .i64 0)))])
 (.seq (.reg [
 p0 11 (.mv (.t 0)),
 p0 12 (.nck (.t 11)),
 p0 13 (.fadr 3 (.t 12)),
 p0 14 (.ld (.t 13)),
 p0 5 (.mv (.t 14))])
 (.seq (.seq (.reg [
 p0 15 (.mv (.t 0)),
 p0 16 (.nck (.t 15)),
 p0 17 (.fadr 6 (.t 16)),
 p0 18 (.ld (.t 17)),
 p0 19 (.len (.t 18)),
 p0 20 (.mv (.c (.int .i64 0)))])
 (.block 0 (.loop (.seq (.reg [
 p0 21 (.bin .lss (.t 20) (.t 19))])
 (.seq (.cond (.t 21)
 .skip
 (.exit 0))
 (.seq (.block 1 (.seq (.reg [
 p0 22 (.iadr 4 (.t 18) (.t 20)),
 p0 23 (.ldA 4 (.t 22)),
 x0 7 (.zero 111 4 [(.str []), (.int .i64 0), (.int .i64 0), .nilslice]),
 s0 (.st 4 (.t 7) (.t 23))])
 (.seq (.dreg [
 p0 24 (.fadr 0 (.t 7)),
 p0 25 (.ld (.t 24)),
 p0 26 (.mv (.t 1)),
 p0 27 (.bin .eql (.t 25) (.t 26)),
 p0 28 (.mv (.t 27)),
 g0 29 28 true (.fadr 1 (.t 7)),
 g0 30 28 true (.ld (.t 29)),
 g0 31 28 true (.mv (.t 0)),
 g0 32 28 true (.nck (.t 31)),
 g0 33 28 true (.fadr 2 (.t 32)),
 g0 34 28 true (.ld (.t 33)),
 g0 35 28 true (.bin .gtr (.t 30) (.t 34)),
 p0 36 (.pick (.t 28) (.t 35) (.c (.bool false)))]
 [false, false, false, false, false, false, false, false, false, false, false, false, false] [[],[0],[],[1,0,2],[3,1,0,2],[4,3,1,0,2],[5,4,3,1,0,2],[4,3,1,0,2],[7,4,3,1,0,2],[8,7,4,3,1,0,2],[9,8,7,4,3,1,0,2],[6,5,4,3,1,0,2,10,9,8,7],[4,3,1,0,2,11,6,5,10,9,8,7]] [0,1,2,3,4,5,6,7,8,9,10,11,12])
 (.cond (.t 36)
 (.seq (.dreg [
 p0 37 (.mv (.t 0)),
 p0 38 (.mv (.t 0)),
 p0 39 (.nck (.t 38)),
 p0 40 (.fadr 8 (.t 39)),
 p0 41 (.ld (.t 40)),
 p0 42 (.mv (.t 5)),
 p0 43 (.fadr 2 (.t 7)),
 p0 44 (.ld (.t 43)),
 p0 45 (.fadr 3 (.t 7)),
 p0 46 (.ld (.t 45)),
 x0 47 (.call 48 [(.t 46)]),
 p0 48 (.build [(.int .i64 0), (.int .i64 0), .nilslice] [(0, 1, (.t 42)), (1, 1, (.t 44)), (2, 1, (.t 47))]),
 x0 49 (.bslice 40 3 [(.int .i64 0), (.int .i64 0), .nilslice] 1 [(0, (.t 48))]),
 x0 50 (.app 40 3 40 (.t 41) (.t 49)),
 p0 51 (.nck (.t 37)),
 p0 52 (.fadr 8 (.t 51)),
 s0 (.st 1 (.t 52) (.t 50))]
 [false, false, false, false, false, false, false, false, false, false, true, false, true, true, false, false, true] [[],[],[1],[2,1],[3,2,1],[],[],[6],[],[8],[9,8],[5,7,6,10,9,8],[11,5,7,6,10,9,8],[4,3,2,1,12,11,5,7,6,10,9,8],[0,1,2,3,4,5,6,7,8,9,10,11,12,13],[14,0,1,2,3,4,5,6,7,8,9,10,11,12,13],[15,14,0,1,2,3,4,5,6,7,8,9,10,11,12,13]] [0,1,2,3,4,5,6,7,8,9,10,11,12,13,14,15,16])
 (.seq (.reg [
 p0 4 (.mv (.c (.int .i64 0)))])
 .ret))
 .skip))))
 (.reg [
 p0 53 (.bin .add (.t 20) (.c (.int .i64 1))),
 p0 20 (.mv (.t 53))])))))))
 (.seq (.seq (.reg [
 p0 54 (.mv (.t 0)),
 p0 55 (.nck (.t 54)),
 p0 56 (.fadr 5 (.t 55)),
 p0 57 (.ld (.t 56)),
 p0 58 (.len (.t 57)),
 p0 59 (.mv (.c (.int .i64 0)))])
 (.block 2 (.loop (.seq (.reg [
 p0 60 (.bin .lss (.t 59) (.t 58))])
 (.seq (.cond (.t 60)
 .skip
 (.exit 2))
 (.seq (.block 3 (.seq (.reg [
 p0 61 (.iadr 1 (.t 57) (.t 59)),
 p0 62 (.ld (.t 61)),
 p0 9 (.mv (.t 62))])
 (.seq (.reg [
 p0 63 (.mv (.t 9)),
 p0 64 (.nck (.t 63)),
 p0 65 (.fadr 0 (.t 64)),
 p0 66 (.ld (.t 65)),
 p0 67 (.mv (.t 1)),
 p0 68 (.bin .eql (.t 66) (.t 67))])
 (.cond (.t 68)
 (.seq (.reg [
 p0 69 (.mv (.t 9)),
 p0 70 (.mv (.t 9)),
 p0 71 (.nck (.t 70)),
 p0 72 (.fadr 1 (.t 71)),
 p0 73 (.ld (.t 72)),
 p0 74 (.mv (.t 5)),
 x0 75 (.bslice 2 1 [(.int .i64 0)] 1 [(0, (.t 74))]),
 x0 76 (.app 2 1 8 (.t 73) (.t 75)),
 p0 77 (.nck (.t 69)),
 p0 78 (.fadr 1 (.t 77)),
 s0 (.st 1 (.t 78) (.t 76))])
 (.seq (.reg [
 p0 4 (.mv (.c (.int .i64 0)))])
 .ret))
 .skip))))
 (.reg [
 p0 79 (.bin .add (.t 59) (.c (.int .i64 1))),
 p0 59 (.mv (.t 79))])))))))
 (.seq (.seq (.reg [
 p0 80 (.mv (.t 0)),
 p0 81 (.nck (.t 80)),
 p0 82 (.fadr 5 (.t 81)),
 p0 83 (.ld (.t 82)),
 p0 84 (.len (.t 83)),
 p0 85 (.bin .geq (.t 84) (.c (.int .i64 16)))])
 (.cond (.t 85)
 (.seq (.reg [
 p0 4 (.mv (.c (.int .i64 18)))])
 .ret)
 .skip))
 (.seq (.reg [
 p0 86 (.mv (.t 1)),
 p0 87 (.mv (.t 5)),
 x0 88 (.bslice 2 1 [(.int .i64 0)] 1 [(0, (.t 87))]),
 p0 89 (.build [(.str []), .nilslice, (.int .i64 0), (.int .i64 0), (.int .i64 0), (.int .i64 0)] [(0, 1, (.t 86)), (1, 1, (.t 88))]),
 x0 90 (.box 88 6 (.t 89)),
 p0 10 (.mv (.t 90))])
 (.seq (.reg [
 p0 91 (.mv (.t 0)),
 p0 92 (.mv (.t 0)),
 p0 93 (.nck (.t 92)),
 p0 94 (.fadr 5 (.t 93)),
 p0 95 (.ld (.t 94)),
 p0 96 (.mv (.t 10)),
 x0 97 (.bslice 85 1 [.nilptr] 1 [(0, (.t 96))]),
 x0 98 (.app 85 1 8 (.t 95) (.t 97)),
 p0 99 (.nck (.t 91)),
 p0 100 (.fadr 5 (.t 99)),
 s0 (.st 1 (.t 100) (.t 98))])
 (.seq (.reg [
 p0 101 (.mv (.t 0)),
 p0 102 (.mv (.t 10)),
 x0 103 (.call 29 [(.t 101), (.t 102)])])
 (.seq (.reg [
 p0 4 (.mv (.c (.int .i64 0)))])
 .ret)))))))))
theorem ok25 : fnComp Tryd.prog 25 = some (104, c25, [(.mv (.t 4))]) := by kernel_rfl

def c26 : CC :=
 (.seq (.reg [
 p0 14 (.mv (.t 3)),
 x0 15 (.call 50 [(.t 14)]),
 p0 13 (.mv (.t 15)),
 p0 16 (.ext 0 (.t 13)),
 p0 17 (.ext 1 (.t 13)),
 x0 8 (.zero 55 5 [(.int .i64 0), (.int .i64 0), (.int .i64 0), (.str []), .nilslice]),
 s0 (.st 5 (.t 8) (.t 16)),
 p0 9 (.mv (.t 17))])
 (.seq (.seq (.reg [
 p0 18 (.mv (.t 9)),
 p0 19 (.bin .neq (.t 18) (.c (.int .i64 0))),
 p0 20 (.mv (.t 19)),
 g0 21 20 false (.mv (.t 2)),
 g0 22 20 false (.bin .neq (.t 21) (.c (.int .i64 53))),
 p0 23 (.pick (.t 20) (.c (.bool true)) (.t 22))])
 (.cond (.t 23)
 .ret
 .skip))
 (.seq (.reg [
 p0 24 (.mv (.t 0)),
 p0 25 (.nck (.t 24)),
 p0 26 (.fadr 5 (.t 25)),
 p0 27 (.ld (.t 26)),
 p0 28 (.len (.t 27)),
 p0 29 (.mv (.c (.int .i64 0)))])
 (.block 0 (.loop (.seq (.reg [
 p0 30 (.bin .lss (.t 29) (.t 28))])
 (.seq (.cond (.t 30)
 .skip
 (.exit 0))
 (.seq (.block 1 (.seq (.reg [
 p0 31 (.iadr 1 (.t 27) (.t 29)),
 p0 32 (.ld (.t 31)),
 p0 11 (.mv (.t 32))])
 (.seq (.seq (.dreg [
 p0 33 (.mv (.t 11)),
 p0 34 (.nck (.t 33)),
 p0 35 (.fadr 3 (.t 34)),
 p0 36 (.ld (.t 35)),
 p0 37 (.fadr 0 (.t 8)),
 p0 38 (.ld (.t 37)),
 p0 39 (.bin .neq (.t 36) (.t 38)),
 p0 40 (.mv (.t 39)),
 g0 41 40 false (.mv (.t 11)),
 g0 42 40 false (.nck (.t 41)),
 g0 43 40 false (.fadr 4 (.t 42)),
 g0 44 40 false (.ld (.t 43)),
 g0 45 40 false (.mv (.t 1)),
 g0 46 40 false (.bin .neq (.t 44) (.t 45)),
 p0 47 (.pick (.t 40) (.c (.bool true)) (.t 46)),
 p0 48 (.mv (.t 47)),
 g0 49 48 false (.mv (.t 11)),
 g0 50 48 false (.nck (.t 49)),
 g0 51 48 false (.fadr 0 (.t 50)),
 g0 52 48 false (.ld (.t 51)),
 g0 53 48 false (.fadr 3 (.t 8)),
 g0 54 48 false (.ld (.t 53)),
 g0 55 48 false (.bin .neq (.t 52) (.t 54)),
 p0 56 (.pick (.t 48) (.c (.bool true)) (.t 55))]
 [false, false, false, false, false, false, false, false, false, false, false, false, false, false, false, false, false, false, false, false, false, false, false, false] [[],[0],[1,0],[2,1,0],[],[4],[3,2,1,0,5,4],[6,3,2,1,0,5,4],[7,6,3,2,1,0,5,4],[8,7,6,3,2,1,0,5,4],[9,8,7,6,3,2,1,0,5,4],[10,9,8,7,6,3,2,1,0,5,4],[7,6,3,2,1,0,5,4],[11,10,9,8,7,6,3,2,1,0,5,4,12],[7,6,3,2,1,0,5,4,13,11,10,9,8,12],[14,7,6,3,2,1,0,5,4,13,11,10,9,8,12],[15,14,7,6,3,2,1,0,5,4,13,11,10,9,8,12],[16,15,14,7,6,3,2,1,0,5,4,13,11,10,9,8,12],[17,16,15,14,7,6,3,2,1,0,5,4,13,11,10,9,8,12],[18,17,16,15,14,7,6,3,2,1,0,5,4,13,11,10,9,8,12],[15,14,7,6,3,2,1,0,5,4,13,11,10,9,8,12],[20,15,14,7,6,3,2,1,0,5,4,13,11,10,9,8,12],[19,18,17,16,15,14,7,6,3,2,1,0,5,4,13,11,10,9,8,12,21,20],[15,14,7,6,3,2,1,0,5,4,13,11,10,9,8,12,22,19,18,17,16,21,20]] [0,1,2,3,4,5,6,7,8,9,10,11,12,13,14,15,16,17,18,19,20,21,22,23])
 (.cond (.t 56)
 (.exit 1)
 .skip))
 (.seq (.reg [
 x0 12 (.zero 111 4 [(.str []), (.int .i64 0), (.int .i64 0), .nilslice])])
 (.seq (.block 2 (.seq (.reg [
 p0 61 (.fadr 1 (.t 8)),
 p0 62 (.ld (.t 61)),
 p0 63 (.bin .eql (.t 62) (.c (.int .i64 0))),
 p0 64 (.mv (.t 63)),
 g0 65 64 true (.fadr 4 (.t 8)),
 g0 66 64 true (.ld (.t 65)),
 g0 67 64 true (.len (.t 66)),
 g0 68 64 true (.bin .gtr (.t 67) (.c (.int .i64 0))),
 p0 69 (.pick (.t 64) (.t 68) (.c (.bool false))),
 p0 60 (.mv (.t 69))])
 (.cond (.t 60)
 (.dreg [
 p0 70 (.mv (.t 11)),
 p0 71 (.nck (.t 70)),
 p0 72 (.fadr 0 (.t 71)),
 p0 73 (.ld (.t 72)),
 p0 74 (.mv (.t 0)),
 p0 75 (.nck (.t 74)),
 p0 76 (.fadr 2 (.t 75)),
 p0 77 (.ld (.t 76)),
 p0 78 (.fadr 2 (.t 8)),
 p0 79 (.ld (.t 78)),
 p0 80 (.bin .mul (.t 79) (.c (.int .i64 1000))),
 p0 81 (.bin .add (.t 77) (.t 80)),
 p0 82 (.fadr 4 (.t 8)),
 p0 83 (.ld (.t 82)),
 p0 84 (.build [(.str []), (.int .i64 0), (.int .i64 0), .nilslice] [(0, 1, (.t 73)), (1, 1, (.t 81)), (2, 1, (.c (.int .i64 0))), (3, 1, (.t 83))]),
 s0 (.st 4 (.t 12) (.t 84))]
 [false, false, false, false, false, false, false, false, false, false, false, false, false, false, false, true] [[],[0],[1,0],[2,1,0],[],[4],[5,4],[6,5,4],[],[8],[9,8],[7,6,5,4,10,9,8],[],[12],[3,2,1,0,11,7,6,5,4,10,9,8,13,12],[14,3,2,1,0,11,7,6,5,4,10,9,8,13,12]] [0,1,2,3,4,5,6,7,8,9,10,11,12,13,14,15])
 (.seq (.reg [
 p0 86 (.fadr 1 (.t 8)),
 p0 87 (.ld (.t 86)),
 p0 88 (.bin .eql (.t 87) (.c (.int .i64 20))),
 p0 89 (.mv (.t 88)),
 g0 90 89 true (.fadr 4 (.t 8)),
 g0 91 89 true (.ld (.t 90)),
 g0 92 89 true (.len (.t 91)),
 g0 93 89 true (.bin .eql (.t 92) (.c (.int .i64 0))),
 p0 94 (.pick (.t 89) (.t 93) (.c (.bool false))),
 p0 85 (.mv (.t 94))])
 (.cond (.t 85)
 (.dreg [
 p0 95 (.mv (.t 11)),
 p0 96 (.nck (.t 95)),
 p0 97 (.fadr 0 (.t 96)),
 p0 98 (.ld (.t 97)),
 p0 99 (.mv (.t 0)),
 p0 100 (.nck (.t 99)),
 p0 101 (.fadr 2 (.t 100)),
 p0 102 (.ld (.t 101)),
 p0 103 (.fadr 2 (.t 8)),
 p0 104 (.ld (.t 103)),
 p0 105 (.bin .mul (.t 104) (.c (.int .i64 1000))),
 p0 106 (.bin .add (.t 102) (.t 105)),
 p0 107 (.build [(.str []), (.int .i64 0), (.int .i64 0), .nilslice] [(0, 1, (.t 98)), (1, 1, (.t 106)), (2, 1, (.c (.int .i64 20))), (3, 1, (.c .nilslice))]),
 s0 (.st 4 (.t 12) (.t 107))]
 [false, false, false, false, false, false, false, false, false, false, false, false, false, true] [[],[0],[1,0],[2,1,0],[],[4],[5,4],[6,5,4],[],[8],[9,8],[7,6,5,4,10,9,8],[3,2,1,0,11,7,6,5,4,10,9,8],[12,3,2,1,0,11,7,6,5,4,10,9,8]] [0,1,2,3,4,5,6,7,8,9,10,11,12,13])
 (.seq (.reg [
 p0 57 (.mv (.t 0)),
 p0 58 (.mv (.t 11)),
 x0 59 (.call 29 [(.t 57), (.t 58)])])
 .ret))))))
 (.seq (.reg [
 p0 108 (.mv (.t 0)),
 p0 109 (.mv (.t 11)),
 p0 110 (.fadr 2 (.t 12)),
 p0 111 (.ld (.t 110)),
 p0 112 (.fadr 3 (.t 12)),
 p0 113 (.ld (.t 112)),
 x0 114 (.call 51 [(.t 108), (.t 109), (.t 111), (.t 113)])])
 (.seq (.seq (.reg [
 p0 115 (.fadr 2 (.t 8)),
 p0 116 (.ld (.t 115)),
 p0 117 (.bin .gtr (.t 116) (.c (.int .i64 0)))])
 (.cond (.t 117)
 (.seq (.reg [
 p0 118 (.mv (.t 0)),
 x0 119 (.call 52 [(.t 118)])])
 (.seq (.seq (.reg [
 p0 120 (.mv (.t 0)),
 p0 121 (.nck (.t 120)),
 p0 122 (.fadr 6 (.t 121)),
 p0 123 (.ld (.t 122)),
 p0 124 (.len (.t 123)),
 p0 125 (.bin .geq (.t 124) (.c (.int .i64 32)))])
 (.cond (.t 125)
 (.reg [
 p0 126 (.mv (.t 0)),
 p0 127 (.mv (.t 0)),
 p0 128 (.nck (.t 127)),
 p0 129 (.fadr 6 (.t 128)),
 p0 130 (.ld (.t 129)),
 p0 131 (.slc 4 (.t 130) (some (.c (.int .i64 1))) none none),
 x0 132 (.call 53 [(.t 131)]),
 p0 133 (.nck (.t 126)),
 p0 134 (.fadr 6 (.t 133)),
 s0 (.st 1 (.t 134) (.t 132))])
 .skip))
 (.dreg [
 p0 135 (.mv (.t 0)),
 p0 136 (.mv (.t 0)),
 p0 137 (.nck (.t 136)),
 p0 138 (.fadr 6 (.t 137)),
 p0 139 (.ld (.t 138)),
 p0 140 (.ldA 4 (.t 12)),
 x0 141 (.bslice 111 4 [(.str []), (.int .i64 0), (.int .i64 0), .nilslice] 1 [(0, (.t 140))]),
 x0 142 (.app 111 4 56 (.t 139) (.t 141)),
 p0 143 (.nck (.t 135)),
 p0 144 (.fadr 6 (.t 143)),
 s0 (.st 1 (.t 144) (.t 142))]
 [false, false, false, false, false, false, true, true, false, false, true] [[],[],[1],[2,1],[3,2,1],[],[5],[4,3,2,1,6,5],[0,1,2,3,4,5,6,7],[8,0,1,2,3,4,5,6,7],[9,8,0,1,2,3,4,5,6,7]] [0,1,2,3,4,5,6,7,8,9,10])))
 .skip))
 .ret)))))))
 (.reg [
 p0 145 (.bin .add (.t 29) (.c (.int .i64 1))),
 p0 29 (.mv (.t 145))])))))))))
theorem ok26 : fnComp Tryd.prog 26 = some (146, c26, []) := by kernel_rfl

def c27 : CC :=
 (.seq (.reg [
 p0 4 (.mv (.c (.bool false)))])
 (.seq (.reg [
 p0 5 (.mv (.t 1)),
 p0 6 (.bin .geq (.t 5) (.c (.int .i64 0))),
 p0 7 (.mv (.t 6)),
 g0 8 7 true (.mv (.t 1)),
 g0 9 7 true (.bin .leq (.t 8) (.c (.int .i64 1000000000))),
 p0 10 (.pick (.t 7) (.t 9) (.c (.bool false))),
 p0 11 (.mv (.t 10)),
 g0 12 11 true (.mv (.t 0)),
 g0 13 11 true (.mv (.t 1)),
 g0 14 11 true (.bin .add (.t 12) (.t 13)),
 g0 15 11 true (.bin .leq (.t 14) (.c (.int .i64 1000000000))),
 p0 16 (.pick (.t 11) (.t 15) (.c (.bool false))),
 p0 4 (.mv (.t 16))])
 .ret))
theorem ok27 : fnComp Tryd.prog 27 = some (17, c27, [(.mv (.t 4))]) := by kernel_rfl

def c28 : CC :=
 (.seq (.reg [
 p0 2 (.mv (.c .nilptr))])
 (.seq (.reg [
 p0 3 (.mv (.c .nilptr))])
 (.seq (.seq (.reg [
 p0 6 (.mv (.t 0)),
 p0 7 (.nck (.t 6)),
 p0 8 (.fadr 5 (.t 7)),
 p0 9 (.ld (.t 8)),
 p0 10 (.len (.t 9)),
 p0 11 (.mv (.c (.int .i64 0)))])
 (.block 0 (.loop (.seq (.reg [
 p0 12 (.bin .lss (.t 11) (.t 10))])
 (.seq (.cond (.t 12)
 .skip
 (.exit 0))
 (.seq (.block 1 (.seq (.reg [
 p0 13 (.iadr 1 (.t 9) (.t 11)),
 p0 14 (.ld (.t 13)),
 p0 5 (.mv (.t 14))])
 (.seq (.dreg [
 p0 15 (.mv (.t 3)),
 p0 16 (.eqn .ptr false (.t 15) (.c .nilptr)),
 p0 17 (.mv (.t 16)),
 g0 18 17 false (.mv (.t 5)),
 g0 19 17 false (.nck (.t 18)),
 g0 20 17 false (.fadr 5 (.t 19)),
 g0 21 17 false (.ld (.t 20)),
 g0 22 17 false (.mv (.t 3)),
 g0 23 17 false (.nck (.t 22)),
 g0 24 17 false (.fadr 5 (.t 23)),
 g0 25 17 false (.ld (.t 24)),
 g0 26 17 false (.bin .lss (.t 21) (.t 25)),
 p0 27 (.pick (.t 17) (.c (.bool true)) (.t 26))]
 [false, false, false, false, false, false, false, false, false, false, false, false, false] [[],[0],[1,0],[2,1,0],[3,2,1,0],[4,3,2,1,0],[5,4,3,2,1,0],[2,1,0],[7,2,1,0],[8,7,2,1,0],[9,8,7,2,1,0],[6,5,4,3,2,1,0,10,9,8,7],[2,1,0,11,6,5,4,3,10,9,8,7]] [0,1,2,3,4,5,6,7,8,9,10,11,12])
 (.cond (.t 27)
 (.reg [
 p0 28 (.mv (.t 5)),
 p0 3 (.mv (.t 28))])
 .skip))))
 (.reg [
 p0 29 (.bin .add (.t 11) (.c (.int .i64 1))),
 p0 11 (.mv (.t 29))])))))))
 (.seq (.reg [
 p0 30 (.mv (.t 3)),
 p0 2 (.mv (.t 30))])
 .ret))))
theorem ok28 : fnComp Tryd.prog 28 = some (31, c28, [(.mv (.t 2))]) := by kernel_rfl

def c29 : CC :=
 (.seq (.seq (.reg [
 p0 6 (.mv (.t 1)),
 p0 7 (.nck (.t 6)),
 p0 8 (.fadr 2 (.t 7)),
 p0 9 (.ld (.t 8)),
 p0 10 (.bin .geq (.t 9) (.c (.int .i64 4)))])
 (.cond (.t 10)
 (.seq (.reg [
 p0 11 (.mv (.t 0)),
 p0 12 (.mv (.t 1)),
 x0 13 (.call 51 [(.t 11), (.t 12), (.c (.int .i64 15)), (.c .nilslice)])])
 .ret)
 .skip))
 (.seq (.dreg [
 p0 14 (.mv (.t 1)),
 p0 15 (.mv (.t 0)),
 p0 16 (.nck (.t 15)),
 p0 17 (.fadr 0 (.t 16)),
 p0 18 (.fadr 1 (.t 17)),
 p0 19 (.ld (.t 18)),
 p0 20 (.mv (.t 0)),
 p0 21 (.nck (.t 20)),
 p0 22 (.fadr 4 (.t 21)),
 p0 23 (.ld (.t 22)),
 p0 24 (.bin .mul (.c (.int .i64 7919)) (.t 23)),
 p0 25 (.bin .add (.t 19) (.t 24)),
 p0 26 (.bin .rem (.t 25) (.c (.int .i64 65536))),
 p0 27 (.nck (.t 14)),
 p0 28 (.fadr 3 (.t 27)),
 s0 (.st 1 (.t 28) (.t 26))]
 [false, false, false, false, false, false, false, false, false, false, false, false, false, false, false, true] [[],[],[1],[2,1],[3,2,1],[4,3,2,1],[],[6],[7,6],[8,7,6],[9,8,7,6],[5,4,3,2,1,10,9,8,7,6],[11,5,4,3,2,1,10,9,8,7,6],[0,1,2,3,4,5,6,7,8,9,10,11,12],[13,0,1,2,3,4,5,6,7,8,9,10,11,12],[14,13,0,1,2,3,4,5,6,7,8,9,10,11,12]] [0,1,2,3,4,5,6,7,8,9,10,11,12,13,14,15])
 (.seq (.reg [
 p0 29 (.mv (.t 0)),
 p0 30 (.nck (.t 29)),
 p0 31 (.fadr 4 (.t 30)),
 p0 32 (.ld (.t 31)),
 p0 33 (.bin .add (.t 32) (.c (.int .i64 1))),
 p0 34 (.nck (.t 29)),
 p0 35 (.fadr 4 (.t 34)),
 s0 (.st 1 (.t 35) (.t 33))])
 (.seq (.dreg [
 p0 36 (.mv (.t 1)),
 p0 37 (.mv (.t 0)),
 p0 38 (.nck (.t 37)),
 p0 39 (.fadr 0 (.t 38)),
 p0 40 (.fadr 0 (.t 39)),
 p0 41 (.ld (.t 40)),
 p0 42 (.mv (.t 1)),
 p0 43 (.nck (.t 42)),
 p0 44 (.fadr 2 (.t 43)),
 p0 45 (.ld (.t 44)),
 p0 46 (.mv (.t 0)),
 p0 47 (.nck (.t 46)),
 p0 48 (.fadr 0 (.t 47)),
 p0 49 (.fadr 0 (.t 48)),
 p0 50 (.ld (.t 49)),
 p0 51 (.len (.t 50)),
 p0 52 (.bin .rem (.t 45) (.t 51)),
 p0 53 (.iadr 1 (.t 41) (.t 52)),
 p0 54 (.ld (.t 53)),
 p0 55 (.nck (.t 36)),
 p0 56 (.fadr 4 (.t 55)),
 s0 (.st 1 (.t 56) (.t 54))]
 [false, false, false, false, false, false, false, false, false, false, false, false, false, false, false, false, false, false, false, false, false, true] [[],[],[1],[2,1],[3,2,1],[4,3,2,1],[],[6],[7,6],[8,7,6],[],[10],[11,10],[12,11,10],[13,12,11,10],[14,13,12,11,10],[9,8,7,6,15,14,13,12,11,10],[5,4,3,2,1,16,9,8,7,6,15,14,13,12,11,10],[17,5,4,3,2,1,16,9,8,7,6,15,14,13,12,11,10],[0,1,2,3,4,5,6,7,8,9,10,11,12,13,14,15,16,17,18],[19,0,1,2,3,4,5,6,7,8,9,10,11,12,13,14,15,16,17,18],[20,19,0,1,2,3,4,5,6,7,8,9,10,11,12,13,14,15,16,17,18]] [0,1,2,3,4,5,6,7,8,9,10,11,12,13,14,15,16,17,18,19,20,21])
 (.seq (.reg [
 p0 57 (.mv (.t 1)),
 p0 58 (.nck (.t 57)),
 p0 59 (.fadr 2 (.t 58)),
 p0 60 (.ld (.t 59)),
 p0 61 (.bin .add (.t 60) (.c (.int .i64 1))),
 p0 62 (.nck (.t 57)),
 p0 63 (.fadr 2 (.t 62)),
 s0 (.st 1 (.t 63) (.t 61))])
 (.seq (.reg [
 p0 64 (.mv (.t 1)),
 p0 65 (.mv (.t 0)),
 p0 66 (.nck (.t 65)),
 p0 67 (.fadr 2 (.t 66)),
 p0 68 (.ld (.t 67)),
 p0 69 (.bin .add (.t 68) (.c (.int .i64 2000))),
 p0 70 (.nck (.t 64)),
 p0 71 (.fadr 5 (.t 70)),
 s0 (.st 1 (.t 71) (.t 69))])
 (.seq (.dreg [
 p0 73 (.mv (.t 1)),
 p0 74 (.nck (.t 73)),
 p0 75 (.fadr 3 (.t 74)),
 p0 76 (.ld (.t 75)),
 p0 77 (.mv (.t 1)),
 p0 78 (.nck (.t 77)),
 p0 79 (.fadr 0 (.t 78)),
 p0 80 (.ld (.t 79)),
 p0 81 (.build [(.int .i64 0), (.str [])] [(0, 1, (.t 76)), (1, 1, (.t 80))]),
 x0 82 (.call 54 [(.t 81)]),
 p0 72 (.mv (.t 82)),
 p0 83 (.ext 0 (.t 72)),
 p0 84 (.ext 1 (.t 72)),
 p0 4 (.mv (.t 83)),
 p0 5 (.mv (.t 84))]
 [false, false, false, false, false, false, false, false, false, true, false, false, false, false, false] [[],[0],[1,0],[2,1,0],[],[4],[5,4],[6,5,4],[3,2,1,0,7,6,5,4],[8,3,2,1,0,7,6,5,4],[9,8,3,2,1,0,7,6,5,4],[10,9,8,3,2,1,0,7,6,5,4],[10,9,8,3,2,1,0,7,6,5,4],[11,10,9,8,3,2,1,0,7,6,5,4],[12,10,9,8,3,2,1,0,7,6,5,4,13,11]] [0,1,2,3,4,5,6,7,8,9,10,11,12,13,14])
 (.dreg [
 p0 85 (.mv (.t 0)),
 p0 86 (.mv (.t 0)),
 p0 87 (.nck (.t 86)),
 p0 88 (.fadr 7 (.t 87)),
 p0 89 (.ld (.t 88)),
 p0 90 (.mv (.t 1)),
 p0 91 (.nck (.t 90)),
 p0 92 (.fadr 4 (.t 91)),
 p0 93 (.ld (.t 92)),
 p0 94 (.mv (.t 4)),
 p0 95 (.build [(.int .i64 0), .nilslice] [(0, 1, (.t 93)), (1, 1, (.t 94))]),
 x0 96 (.bslice 49 2 [(.int .i64 0), .nilslice] 1 [(0, (.t 95))]),
 x0 97 (.app 49 2 32 (.t 89) (.t 96)),
 p0 98 (.nck (.t 85)),
 p0 99 (.fadr 7 (.t 98)),
 s0 (.st 1 (.t 99) (.t 97))]
 [false, false, false, false, false, false, false, false, false, false, false, true, true, false, false, true] [[],[],[1],[2,1],[3,2,1],[],[5],[6,5],[7,6,5],[],[8,7,6,5,9],[10,8,7,6,5,9],[4,3,2,1,11,10,8,7,6,5,9],[0,1,2,3,4,5,6,7,8,9,10,11,12],[13,0,1,2,3,4,5,6,7,8,9,10,11,12],[14,13,0,1,2,3,4,5,6,7,8,9,10,11,12]] [0,1,2,3,4,5,6,7,8,9,10,11,12,13,14,15]))))))))
theorem ok29 : fnComp Tryd.prog 29 = some (100, c29, []) := by kernel_rfl

def c30 : CC :=
 (.seq (.reg [
 x0 3 (.box 38 5 (.t 1)),
 x0 4 (.zero 38 5 [(.int .i64 0), .nilslice, .nilslice, (.int .i64 0), (.int .i64 0)])])
 (.seq (.reg [
 p0 5 (.mv (.t 0)),
 x0 6 (.call 52 [(.t 5)])])
 (.seq (.dreg [
 p0 7 (.mv (.t 0)),
 p0 8 (.nck (.t 7)),
 p0 9 (.fadr 7 (.t 8)),
 p0 10 (.ld (.t 9)),
 p0 11 (.mv (.t 0)),
 p0 12 (.nck (.t 11)),
 p0 13 (.fadr 8 (.t 12)),
 p0 14 (.ld (.t 13)),
 p0 15 (.fadr 1 (.t 3)),
 s0 (.st 1 (.t 15) (.t 10)),
 p0 16 (.fadr 2 (.t 3)),
 s0 (.st 1 (.t 16) (.t 14))]
 [false, false, false, false, false, false, false, false, false, true, false, true] [[],[0],[1,0],[2,1,0],[],[4],[5,4],[6,5,4],[0,1,2,3],[8,0,1,2,3],[0,1,2,3,4,5,6,7,8,9],[10,0,1,2,3,4,5,6,7,8,9]] [0,1,2,3,4,5,6,7,8,9,10,11])
 (.seq (.reg [
 p0 17 (.mv (.t 0)),
 p0 18 (.mv (.t 0)),
 p0 19 (.nck (.t 17)),
 p0 20 (.fadr 7 (.t 19)),
 s0 (.st 1 (.t 20) (.c .nilslice)),
 p0 21 (.nck (.t 18)),
 p0 22 (.fadr 8 (.t 21)),
 s0 (.st 1 (.t 22) (.c .nilslice))])
 (.seq (.dreg [
 p0 23 (.mv (.t 0)),
 p0 24 (.nck (.t 23)),
 p0 25 (.fadr 6 (.t 24)),
 p0 26 (.ld (.t 25)),
 p0 27 (.len (.t 26)),
 p0 28 (.mv (.t 0)),
 p0 29 (.nck (.t 28)),
 p0 30 (.fadr 5 (.t 29)),
 p0 31 (.ld (.t 30)),
 p0 32 (.len (.t 31)),
 p0 33 (.fadr 3 (.t 3)),
 s0 (.st 1 (.t 33) (.t 27)),
 p0 34 (.fadr 4 (.t 3)),
 s0 (.st 1 (.t 34) (.t 32))]
 [false, false, false, false, false, false, false, false, false, false, false, true, false, true] [[],[0],[1,0],[2,1,0],[3,2,1,0],[],[5],[6,5],[7,6,5],[8,7,6,5],[0,1,2,3,4],[10,0,1,2,3,4],[0,1,2,3,4,5,6,7,8,9,10,11],[12,0,1,2,3,4,5,6,7,8,9,10,11]] [0,1,2,3,4,5,6,7,8,9,10,11,12,13])
 (.seq (.reg [
 p0 35 (.ldA 5 (.t 3)),
 s0 (.st 5 (.t 4) (.t 35))])
 .ret))))))
theorem ok30 : fnComp Tryd.prog 30 = some (36, c30, [(.ldA 5 (.t 4))]) := by kernel_rfl

def c31 : CC :=
 (.seq (.reg [
 x0 2 (.zero 55 5 [(.int .i64 0), (.int .i64 0), (.int .i64 0), (.str []), .nilslice]),
 p0 3 (.mv (.c (.int .i64 0)))])
 (.seq (.reg [
 p0 9 (.mv (.t 0)),
 x0 10 (.call 55 [(.t 9), (.c (.int .i64 8))]),
 p0 8 (.mv (.t 10)),
 p0 11 (.ext 0 (.t 8)),
 p0 12 (.ext 1 (.t 8)),
 p0 4 (.mv (.t 11)),
 p0 5 (.mv (.t 12))])
 (.seq (.seq (.reg [
 p0 13 (.mv (.t 5)),
 p0 14 (.bin .lss (.t 13) (.c (.int .i64 0))),
 p0 15 (.mv (.t 14)),
 g0 16 15 false (.mv (.t 5)),
 g0 17 15 false (.mv (.t 0)),
 g0 18 15 false (.len (.t 17)),
 g0 19 15 false (.bin .geq (.t 16) (.t 18)),
 p0 20 (.pick (.t 15) (.c (.bool true)) (.t 19)),
 p0 21 (.mv (.t 20)),
 g0 22 21 false (.mv (.t 5)),
 g0 23 21 false (.bin .add (.t 22) (.c (.int .i64 1))),
 g0 24 21 false (.mv (.t 0)),
 g0 25 21 false (.mv (.t 5)),
 g0 26 21 false (.iadr 1 (.t 24) (.t 25)),
 g0 27 21 false (.ld (.t 26)),
 g0 28 21 false (.cvI .i64 (.t 27)),
 g0 29 21 false (.bin .mul (.c (.int .i64 4)) (.t 28)),
 g0 30 21 false (.bin .add (.t 23) (.t 29)),
 g0 31 21 false (.mv (.t 0)),
 g0 32 21 false (.len (.t 31)),
 g0 33 21 false (.bin .gtr (.t 30) (.t 32)),
 p0 34 (.pick (.t 21) (.c (.bool true)) (.t 33))])
 (.cond (.t 34)
 (.seq (.reg [
 p0 35 (.build [(.int .i64 0), (.int .i64 0), (.int .i64 0), (.str []), .nilslice] []),
 s0 (.st 5 (.t 2) (.t 35)),
 p0 3 (.mv (.c (.int .i64 2)))])
 .ret)
 .skip))
 (.seq (.seq (.reg [
 p0 36 (.mv (.t 5)),
 p0 37 (.bin .add (.t 36) (.c (.int .i64 1))),
 p0 38 (.mv (.t 0)),
 p0 39 (.mv (.t 5)),
 p0 40 (.iadr 1 (.t 38) (.t 39)),
 p0 41 (.ld (.t 40)),
 p0 42 (.cvI .i64 (.t 41)),
 p0 43 (.bin .mul (.c (.int .i64 4)) (.t 42)),
 p0 44 (.bin .add (.t 37) (.t 43)),
 p0 45 (.mv (.t 0)),
 p0 46 (.len (.t 45)),
 p0 47 (.bin .lss (.t 44) (.t 46))])
 (.cond (.t 47)
 (.seq (.reg [
 p0 48 (.build [(.int .i64 0), (.int .i64 0), (.int .i64 0), (.str []), .nilslice] []),
 s0 (.st 5 (.t 2) (.t 48)),
 p0 3 (.mv (.c (.int .i64 5)))])
 .ret)
 .skip))
 (.seq (.seq (.reg [
 p0 49 (.mv (.t 0)),
 p0 50 (.iadr 1 (.t 49) (.c (.int .i64 2))),
 p0 51 (.ld (.t 50)),
 p0 52 (.bin .neq (.t 51) (.c (.int .u8 1)))])
 (.cond (.t 52)
 (.seq (.reg [
 p0 53 (.build [(.int .i64 0), (.int .i64 0), (.int .i64 0), (.str []), .nilslice] []),
 s0 (.st 5 (.t 2) (.t 53)),
 p0 3 (.mv (.c (.int .i64 9)))])
 .ret)
 .skip))
 (.seq (.seq (.reg [
 p0 54 (.mv (.t 4)),
 x0 55 (.call 38 [(.t 54)]),
 p0 56 (.un .not (.t 55))])
 (.cond (.t 56)
 (.seq (.reg [
 p0 57 (.build [(.int .i64 0), (.int .i64 0), (.int .i64 0), (.str []), .nilslice] []),
 s0 (.st 5 (.t 2) (.t 57)),
 p0 3 (.mv (.c (.int .i64 6)))])
 .ret)
 .skip))
 (.seq (.treg [
 p0 58 (.mv (.t 0)),
 p0 59 (.slc 1 (.t 58) none (some (.c (.int .i64 2))) none),
 x0 60 (.call 56 [(.t 59)]),
 p0 61 (.mv (.t 0)),
 p0 62 (.iadr 1 (.t 61) (.c (.int .i64 3))),
 p0 63 (.ld (.t 62)),
 p0 64 (.cvI .i64 (.t 63)),
 p0 65 (.mv (.t 0)),
 p0 66 (.slc 1 (.t 65) (some (.c (.int .i64 4))) (some (.c (.int .i64 8))) none),
 x0 67 (.call 56 [(.t 66)]),
 p0 68 (.mv (.t 4)),
 p0 69 (.build [(.int .i64 0), (.int .i64 0), (.int .i64 0), (.str []), .nilslice] [(0, 1, (.t 60)), (1, 1, (.t 64)), (2, 1, (.t 67)), (3, 1, (.t 68))]),
 x0 6 (.zero 55 5 [(.int .i64 0), (.int .i64 0), (.int .i64 0), (.str []), .nilslice]),
 s0 (.st 5 (.t 6) (.t 69))]
 [[],[0],[1,0],[],[3],[4,3],[5,4,3],[],[7],[8,7,2,1,0],[],[2,1,0,6,5,4,3,9,8,7,10],[],[12,11,2,1,0,6,5,4,3,9,8,7,10]] (.fl 0 (.fl 1 (.fl 3 (.fl 4 (.fl 5 (.fl 6 (.fl 7 (.fl 8 (.fl 10 (.br 2 (.br 9 (.fl 11 (.br 12 (.br 13 .fin .stop) .stop)) (.br 12 (.br 9 (.fl 11 (.br 13 .fin .stop)) .stop) .stop)) (.br 12 (.br 2 (.br 9 (.fl 11 (.br 13 .fin .stop)) .stop) .stop) .stop))))))))))))
 (.seq (.seq (.reg [
 p0 70 (.mv (.t 5)),
 p0 71 (.bin .add (.t 70) (.c (.int .i64 1))),
 p0 7 (.mv (.t 71))])
 (.block 0 (.loop (.seq (.seq (.reg [
 p0 72 (.mv (.t 7)),
 p0 73 (.mv (.t 0)),
 p0 74 (.len (.t 73)),
 p0 75 (.bin .lss (.t 72) (.t 74))])
 (.cond (.t 75)
 .skip
 (.exit 0)))
 (.seq (.block 1 (.dreg [
 p0 78 (.fadr 4 (.t 6)),
 p0 79 (.ld (.t 78)),
 p0 80 (.mv (.t 0)),
 p0 81 (.mv (.t 7)),
 p0 82 (.mv (.t 7)),
 p0 83 (.bin .add (.t 82) (.c (.int .i64 4))),
 p0 84 (.slc 1 (.t 80) (some (.t 81)) (some (.t 83)) none),
 x0 85 (.call 56 [(.t 84)]),
 x0 86 (.bslice 2 1 [(.int .i64 0)] 1 [(0, (.t 85))]),
 x0 87 (.app 2 1 8 (.t 79) (.t 86)),
 p0 88 (.fadr 4 (.t 6)),
 s0 (.st 1 (.t 88) (.t 87))]
 [false, false, false, false, false, false, false, true, true, true, false, true] [[],[0],[],[],[],[4],[2,3,5,4],[6,2,3,5,4],[7,6,2,3,5,4],[1,0,8,7,6,2,3,5,4],[0,1,2,3,4,5,6,7,8,9],[10,0,1,2,3,4,5,6,7,8,9]] [0,1,2,3,4,5,6,7,8,9,10,11]))
 (.reg [
 p0 76 (.mv (.t 7)),
 p0 77 (.bin .add (.t 76) (.c (.int .i64 4))),
 p0 7 (.mv (.t 77))]))))))
 (.seq (.seq (.reg [
 p0 89 (.ldA 5 (.t 6)),
 x0 90 (.call 32 [(.t 89)]),
 p0 91 (.un .not (.t 90))])
 (.cond (.t 91)
 (.seq (.reg [
 p0 92 (.build [(.int .i64 0), (.int .i64 0), (.int .i64 0), (.str []), .nilslice] []),
 s0 (.st 5 (.t 2) (.t 92)),
 p0 3 (.mv (.c (.int .i64 1)))])
 .ret)
 .skip))
 (.seq (.reg [
 p0 93 (.ldA 5 (.t 6)),
 s0 (.st 5 (.t 2) (.t 93)),
 p0 3 (.mv (.c (.int .i64 0)))])
 .ret))))))))))
theorem ok31 : fnComp Tryd.prog 31 = some (94, c31, [(.ldA 5 (.t 2)), (.mv (.t 3))]) := by kernel_rfl

def c32 : CC :=
 (.seq (.reg [
 x0 1 (.box 55 5 (.t 0)),
 p0 2 (.mv (.c (.bool false)))])
 (.seq (.seq (.reg [
 p0 4 (.fadr 0 (.t 1)),
 p0 5 (.ld (.t 4)),
 x0 6 (.call 20 [(.t 5)]),
 p0 7 (.un .not (.t 6)),
 p0 8 (.mv (.t 7)),
 g0 9 8 false (.fadr 3 (.t 1)),
 g0 10 8 false (.ld (.t 9)),
 ⟨(some 11), (some (8, false)), .x (.call 38 [(.t 10)])⟩,
 g0 12 8 false (.un .not (.t 11)),
 p0 13 (.pick (.t 8) (.c (.bool true)) (.t 12)),
 p0 14 (.mv (.t 13)),
 g0 15 14 false (.fadr 1 (.t 1)),
 g0 16 14 false (.ld (.t 15)),
 ⟨(some 17), (some (14, false)), .x (.call 43 [(.t 16), (.c (.int .i64 0)), (.c (.int .i64 255))])⟩,
 g0 18 14 false (.un .not (.t 17)),
 p0 19 (.pick (.t 14) (.c (.bool true)) (.t 18)),
 p0 20 (.mv (.t 19)),
 g0 21 20 false (.fadr 2 (.t 1)),
 g0 22 20 false (.ld (.t 21)),
 ⟨(some 23), (some (20, false)), .x (.call 43 [(.t 22), (.c (.int .i64 0)), (.c (.int .i64 86400))])⟩,
 g0 24 20 false (.un .not (.t 23)),
 p0 25 (.pick (.t 20) (.c (.bool true)) (.t 24)),
 p0 26 (.mv (.t 25)),
 g0 27 26 false (.fadr 4 (.t 1)),
 g0 28 26 false (.ld (.t 27)),
 g0 29 26 false (.len (.t 28)),
 g0 30 26 false (.bin .gtr (.t 29) (.c (.int .i64 8))),
 p0 31 (.pick (.t 26) (.c (.bool true)) (.t 30))])
 (.cond (.t 31)
 (.seq (.reg [
 p0 2 (.mv (.c (.bool false)))])
 .ret)
 .skip))
 (.seq (.seq (.reg [
 p0 3 (.mv (.c (.int .i64 0)))])
 (.block 0 (.loop (.seq (.seq (.reg [
 p0 32 (.mv (.t 3)),
 p0 33 (.fadr 4 (.t 1)),
 p0 34 (.ld (.t 33)),
 p0 35 (.len (.t 34)),
 p0 36 (.bin .lss (.t 32) (.t 35))])
 (.cond (.t 36)
 .skip
 (.exit 0)))
 (.seq (.block 1 (.seq (.reg [
 p0 39 (.fadr 4 (.t 1)),
 p0 40 (.ld (.t 39)),
 p0 41 (.mv (.t 3)),
 p0 42 (.iadr 1 (.t 40) (.t 41)),
 p0 43 (.ld (.t 42)),
 x0 44 (.call 44 [(.t 43)]),
 p0 45 (.un .not (.t 44))])
 (.cond (.t 45)
 (.seq (.reg [
 p0 2 (.mv (.c (.bool false)))])
 .ret)
 .skip)))
 (.reg [
 p0 37 (.mv (.t 3)),
 p0 38 (.bin .add (.t 37) (.c (.int .i64 1))),
 p0 3 (.mv (.t 38))]))))))
 (.seq (.reg [
 p0 2 (.mv (.c (.bool true)))])
 .ret))))
theorem ok32 : fnComp Tryd.prog 32 = some (46, c32, [(.mv (.t 2))]) := by kernel_rfl

def c33 : CC :=
 (.seq (.reg [
 p0 4 (.mv (.c .nilslice))])
 (.seq (.reg [
 p0 7 (.mv (.t 0)),
 x0 8 (.call 57 [(.t 7)]),
 p0 5 (.mv (.t 8))])
 (.seq (.seq (.reg [
 p0 6 (.mv (.c (.int .i64 0)))])
 (.block 0 (.loop (.seq (.seq (.reg [
 p0 9 (.mv (.t 6)),
 p0 10 (.mv (.t 1)),
 p0 11 (.len (.t 10)),
 p0 12 (.bin .lss (.t 9) (.t 11))])
 (.cond (.t 12)
 .skip
 (.exit 0)))
 (.seq (.block 1 (.reg [
 p0 15 (.mv (.t 5)),
 p0 16 (.mv (.t 1)),
 p0 17 (.mv (.t 6)),
 p0 18 (.iadr 1 (.t 16) (.t 17)),
 p0 19 (.ld (.t 18)),
 x0 20 (.bslice 5 1 [(.int .u8 0)] 1 [(0, (.t 19))]),
 x0 21 (.app 5 1 1 (.t 15) (.t 20)),
 p0 5 (.mv (.t 21))]))
 (.reg [
 p0 13 (.mv (.t 6)),
 p0 14 (.bin .add (.t 13) (.c (.int .i64 1))),
 p0 6 (.mv (.t 14))]))))))
 (.seq (.reg [
 p0 22 (.mv (.t 5)),
 p0 4 (.mv (.t 22))])
 .ret))))
theorem ok33 : fnComp Tryd.prog 33 = some (23, c33, [(.mv (.t 4))]) := by kernel_rfl

def c34 : CC :=
 (.seq (.reg [
 p0 4 (.mv (.c .nilslice))])
 (.seq (.reg [
 x0 7 (.bslice 5 1 [(.int .u8 0)] 0 []),
 p0 5 (.mv (.t 7))])
 (.seq (.seq (.reg [
 p0 8 (.mv (.t 1)),
 p0 9 (.bin .sub (.t 8) (.c (.int .i64 1))),
 p0 6 (.mv (.t 9))])
 (.block 0 (.loop (.seq (.seq (.reg [
 p0 10 (.mv (.t 6)),
 p0 11 (.bin .geq (.t 10) (.c (.int .i64 0)))])
 (.cond (.t 11)
 .skip
 (.exit 0)))
 (.seq (.block 1 (.reg [
 p0 14 (.mv (.t 5)),
 p0 15 (.mv (.t 0)),
 p0 16 (.mv (.t 6)),
 p0 17 (.bin .mul (.c (.int .i64 8)) (.t 16)),
 p0 18 (.cvI .u64 (.t 17)),
 p0 19 (.bin .shr (.t 15) (.t 18)),
 p0 20 (.cvI .u8 (.t 19)),
 x0 21 (.bslice 5 1 [(.int .u8 0)] 1 [(0, (.t 20))]),
 x0 22 (.app 5 1 1 (.t 14) (.t 21)),
 p0 5 (.mv (.t 22))]))
 (.reg [
 p0 12 (.mv (.t 6)),
 p0 13 (.bin .sub (.t 12) (.c (.int .i64 1))),
 p0 6 (.mv (.t 13))]))))))
 (.seq (.reg [
 p0 23 (.mv (.t 5)),
 p0 4 (.mv (.t 23))])
 .ret))))
theorem ok34 : fnComp Tryd.prog 34 = some (24, c34, [(.mv (.t 4))]) := by kernel_rfl

def c38 : CC :=
 (.seq (.reg [
 p0 2 (.mv (.c (.bool false)))])
 (.seq (.seq (.reg [
 p0 5 (.mv (.t 0)),
 p0 6 (.lenS (.t 5)),
 p0 7 (.bin .gtr (.t 6) (.c (.int .i64 63)))])
 (.cond (.t 7)
 (.seq (.reg [
 p0 2 (.mv (.c (.bool false)))])
 .ret)
 .skip))
 (.seq (.reg [
 p0 8 (.mv (.t 0)),
 x0 9 (.call 61 [(.t 8), (.c (.int .u8 46))]),
 p0 3 (.mv (.t 9))])
 (.seq (.seq (.reg [
 p0 4 (.mv (.c (.int .i64 0)))])
 (.block 0 (.loop (.seq (.seq (.reg [
 p0 10 (.mv (.t 4)),
 p0 11 (.mv (.t 3)),
 p0 12 (.len (.t 11)),
 p0 13 (.bin .lss (.t 10) (.t 12))])
 (.cond (.t 13)
 .skip
 (.exit 0)))
 (.seq (.block 1 (.seq (.reg [
 p0 16 (.mv (.t 3)),
 p0 17 (.mv (.t 4)),
 p0 18 (.iadr 1 (.t 16) (.t 17)),
 p0 19 (.ld (.t 18)),
 x0 20 (.call 62 [(.t 19)]),
 p0 21 (.un .not (.t 20))])
 (.cond (.t 21)
 (.seq (.reg [
 p0 2 (.mv (.c (.bool false)))])
 .ret)
 .skip)))
 (.reg [
 p0 14 (.mv (.t 4)),
 p0 15 (.bin .add (.t 14) (.c (.int .i64 1))),
 p0 4 (.mv (.t 15))]))))))
 (.seq (.reg [
 p0 2 (.mv (.c (.bool true)))])
 .ret)))))
theorem ok38 : fnComp Tryd.prog 38 = some (22, c38, [(.mv (.t 2))]) := by kernel_rfl

def c39 : CC :=
 (.seq (.reg [
 p0 6 (.mv (.c (.int .i64 0)))])
 (.seq (.reg [
 p0 9 (.mv (.t 0)),
 x0 10 (.call 42 [(.t 9)])])
 (.seq (.seq (.reg [
 p0 7 (.mv (.c (.int .i64 0)))])
 (.block 0 (.loop (.seq (.seq (.reg [
 p0 11 (.mv (.t 7)),
 p0 12 (.mv (.t 0)),
 p0 13 (.nck (.t 12)),
 p0 14 (.fadr 5 (.t 13)),
 p0 15 (.ld (.t 14)),
 p0 16 (.len (.t 15)),
 p0 17 (.bin .lss (.t 11) (.t 16))])
 (.cond (.t 17)
 .skip
 (.exit 0)))
 (.seq (.block 1 (.seq (.reg [
 p0 20 (.mv (.t 0)),
 p0 21 (.nck (.t 20)),
 p0 22 (.fadr 5 (.t 21)),
 p0 23 (.ld (.t 22)),
 p0 24 (.mv (.t 7)),
 p0 25 (.iadr 4 (.t 23) (.t 24)),
 p0 26 (.fadr 0 (.t 25)),
 p0 27 (.ld (.t 26)),
 p0 28 (.mv (.t 2)),
 p0 29 (.bin .eql (.t 27) (.t 28))])
 (.cond (.t 29)
 (.seq (.dreg [
 p0 30 (.mv (.t 0)),
 p0 31 (.mv (.t 0)),
 p0 32 (.nck (.t 31)),
 p0 33 (.fadr 6 (.t 32)),
 p0 34 (.fadr 2 (.t 33)),
 p0 35 (.ld (.t 34)),
 p0 36 (.mv (.t 1)),
 p0 37 (.mv (.t 0)),
 p0 38 (.nck (.t 37)),
 p0 39 (.fadr 5 (.t 38)),
 p0 40 (.ld (.t 39)),
 p0 41 (.mv (.t 7)),
 p0 42 (.iadr 4 (.t 40) (.t 41)),
 p0 43 (.fadr 1 (.t 42)),
 p0 44 (.ld (.t 43)),
 p0 45 (.mv (.t 0)),
 p0 46 (.nck (.t 45)),
 p0 47 (.fadr 5 (.t 46)),
 p0 48 (.ld (.t 47)),
 p0 49 (.mv (.t 7)),
 p0 50 (.iadr 4 (.t 48) (.t 49)),
 p0 51 (.fadr 2 (.t 50)),
 p0 52 (.ld (.t 51)),
 x0 53 (.call 63 [(.t 52)]),
 p0 54 (.build [(.int .i64 0), (.int .i64 0), .nilslice] [(0, 1, (.t 36)), (1, 1, (.t 44)), (2, 1, (.t 53))]),
 x0 55 (.bslice 40 3 [(.int .i64 0), (.int .i64 0), .nilslice] 1 [(0, (.t 54))]),
 x0 56 (.app 40 3 40 (.t 35) (.t 55)),
 p0 57 (.nck (.t 30)),
 p0 58 (.fadr 6 (.t 57)),
 p0 59 (.fadr 2 (.t 58)),
 s0 (.st 1 (.t 59) (.t 56))]
 [false, false, false, false, false, false, false, false, false, false, false, false, false, false, false, false, false, false, false, false, false, false, false, true, false, true, true, false, false, false, true] [[],[],[1],[2,1],[3,2,1],[4,3,2,1],[],[],[7],[8,7],[9,8,7],[],[10,9,8,7,11],[12,10,9,8,7,11],[13,12,10,9,8,7,11],[],[15],[16,15],[17,16,15],[],[18,17,16,15,19],[20,18,17,16,15,19],[21,20,18,17,16,15,19],[22,21,20,18,17,16,15,19],[6,14,13,12,10,9,8,7,11,23,22,21,20,18,17,16,15,19],[24,6,14,13,12,10,9,8,7,11,23,22,21,20,18,17,16,15,19],[5,4,3,2,1,25,24,6,14,13,12,10,9,8,7,11,23,22,21,20,18,17,16,15,19],[0,1,2,3,4,5,6,7,8,9,10,11,12,13,14,15,16,17,18,19,20,21,22,23,24,25,26],[27,0,1,2,3,4,5,6,7,8,9,10,11,12,13,14,15,16,17,18,19,20,21,22,23,24,25,26],[28,27,0,1,2,3,4,5,6,7,8,9,10,11,12,13,14,15,16,17,18,19,20,21,22,23,24,25,26],[29,28,27,0,1,2,3,4,5,6,7,8,9,10,11,12,13,14,15,16,17,18,19,20,21,22,23,24,25,26]] [0,1,2,3,4,5,6,7,8,9,10,11,12,13,14,15,16,17,18,19,20,21,22,23,24,25,26,27,28,29,30])
 (.seq (.reg [
 p0 6 (.mv (.c (.int .i64 0)))])
 .ret))
 .skip)))
 (.reg [
 p0 18 (.mv (.t 7)),
 p0 19 (.bin .add (.t 18) (.c (.int .i64 1))),
 p0 7 (.mv (.t 19))]))))))
 (.seq (.seq (.reg [
 p0 8 (.mv (.c (.int .i64 0)))])
 (.block 2 (.loop (.seq (.seq (.reg [
 p0 60 (.mv (.t 8)),
 p0 61 (.mv (.t 0)),
 p0 62 (.nck (.t 61)),
 p0 63 (.fadr 4 (.t 62)),
 p0 64 (.ld (.t 63)),
 p0 65 (.len (.t 64)),
 p0 66 (.bin .lss (.t 60) (.t 65))])
 (.cond (.t 66)
 .skip
 (.exit 2)))
 (.seq (.block 3 (.seq (.reg [
 p0 69 (.mv (.t 0)),
 p0 70 (.nck (.t 69)),
 p0 71 (.fadr 4 (.t 70)),
 p0 72 (.ld (.t 71)),
 p0 73 (.mv (.t 8)),
 p0 74 (.iadr 6 (.t 72) (.t 73)),
 p0 75 (.fadr 0 (.t 74)),
 p0 76 (.ld (.t 75)),
 p0 77 (.mv (.t 2)),
 p0 78 (.bin .eql (.t 76) (.t 77))])
 (.cond (.t 78)
 (.seq (.dreg [
 p0 79 (.mv (.t 0)),
 p0 80 (.nck (.t 79)),
 p0 81 (.fadr 4 (.t 80)),
 p0 82 (.ld (.t 81)),
 p0 83 (.mv (.t 8)),
 p0 84 (.mv (.t 0)),
 p0 85 (.nck (.t 84)),
 p0 86 (.fadr 4 (.t 85)),
 p0 87 (.ld (.t 86)),
 p0 88 (.mv (.t 8)),
 p0 89 (.iadr 6 (.t 87) (.t 88)),
 p0 90 (.fadr 5 (.t 89)),
 p0 91 (.ld (.t 90)),
 p0 92 (.mv (.t 1)),
 x0 93 (.bslice 2 1 [(.int .i64 0)] 1 [(0, (.t 92))]),
 x0 94 (.app 2 1 8 (.t 91) (.t 93)),
 p0 95 (.iadr 6 (.t 82) (.t 83)),
 p0 96 (.fadr 5 (.t 95)),
 s0 (.st 1 (.t 96) (.t 94))]
 [false, false, false, false, false, false, false, false, false, false, false, false, false, false, true, true, false, false, true] [[],[0],[1,0],[2,1,0],[],[],[5],[6,5],[7,6,5],[],[8,7,6,5,9],[10,8,7,6,5,9],[11,10,8,7,6,5,9],[],[13],[12,11,10,8,7,6,5,9,14,13],[3,2,1,0,4,5,6,7,8,9,10,11,12,13,14,15],[16,3,2,1,0,4,5,6,7,8,9,10,11,12,13,14,15],[17,16,3,2,1,0,4,5,6,7,8,9,10,11,12,13,14,15]] [0,1,2,3,4,5,6,7,8,9,10,11,12,13,14,15,16,17,18])
 (.seq (.reg [
 p0 6 (.mv (.c (.int .i64 0)))])
 .ret))
 .skip)))
 (.reg [
 p0 67 (.mv (.t 8)),
 p0 68 (.bin .add (.t 67) (.c (.int .i64 1))),
 p0 8 (.mv (.t 68))]))))))
 (.seq (.seq (.reg [
 p0 97 (.mv (.t 0)),
 p0 98 (.nck (.t 97)),
 p0 99 (.fadr 4 (.t 98)),
 p0 100 (.ld (.t 99)),
 p0 101 (.len (.t 100)),
 p0 102 (.bin .geq (.t 101) (.c (.int .i64 16)))])
 (.cond (.t 102)
 (.seq (.reg [
 p0 6 (.mv (.c (.int .i64 18)))])
 .ret)
 .skip))
 (.seq (.reg [
 p0 103 (.mv (.t 0)),
 p0 104 (.mv (.t 0)),
 p0 105 (.nck (.t 104)),
 p0 106 (.fadr 4 (.t 105)),
 p0 107 (.ld (.t 106)),
 p0 108 (.mv (.t 2)),
 p0 109 (.mv (.t 1)),
 x0 110 (.bslice 2 1 [(.int .i64 0)] 1 [(0, (.t 109))]),
 p0 111 (.build [(.str []), (.int .i64 0), (.int .i64 0), (.int .i64 0), (.int .i64 0), .nilslice] [(0, 1, (.t 108)), (5, 1, (.t 110))]),
 x0 112 (.bslice 131 6 [(.str []), (.int .i64 0), (.int .i64 0), (.int .i64 0), (.int .i64 0), .nilslice] 1 [(0, (.t 111))]),
 x0 113 (.app 131 6 72 (.t 107) (.t 112)),
 p0 114 (.nck (.t 103)),
 p0 115 (.fadr 4 (.t 114)),
 s0 (.st 1 (.t 115) (.t 113))])
 (.seq (.reg [
 p0 116 (.mv (.t 0)),
 p0 117 (.mv (.t 0)),
 p0 118 (.nck (.t 117)),
 p0 119 (.fadr 4 (.t 118)),
 p0 120 (.ld (.t 119)),
 p0 121 (.len (.t 120)),
 p0 122 (.bin .sub (.t 121) (.c (.int .i64 1))),
 x0 123 (.call 64 [(.t 116), (.t 122)])])
 (.seq (.reg [
 p0 6 (.mv (.c (.int .i64 0)))])
 .ret))))))))
theorem ok39 : fnComp Tryd.prog 39 = some (124, c39, [(.mv (.t 6))]) := by kernel_rfl

def c40 : CC :=
 (.seq (.reg [
 p0 14 (.mv (.t 3)),
 x0 15 (.call 31 [(.t 14)]),
 p0 13 (.mv (.t 15)),
 p0 16 (.ext 0 (.t 13)),
 p0 17 (.ext 1 (.t 13)),
 x0 8 (.zero 55 5 [(.int .i64 0), (.int .i64 0), (.int .i64 0), (.str []), .nilslice]),
 s0 (.st 5 (.t 8) (.t 16)),
 p0 9 (.mv (.t 17))])
 (.seq (.seq (.reg [
 p0 18 (.mv (.t 9)),
 p0 19 (.bin .neq (.t 18) (.c (.int .i64 0))),
 p0 20 (.mv (.t 19)),
 g0 21 20 false (.mv (.t 2)),
 g0 22 20 false (.bin .neq (.t 21) (.c (.int .i64 53))),
 p0 23 (.pick (.t 20) (.c (.bool true)) (.t 22))])
 (.cond (.t 23)
 .ret
 .skip))
 (.seq (.reg [
 p0 10 (.mv (.c (.int .i64 0)))])
 (.block 0 (.loop (.seq (.seq (.reg [
 p0 24 (.mv (.t 10)),
 p0 25 (.mv (.t 0)),
 p0 26 (.nck (.t 25)),
 p0 27 (.fadr 4 (.t 26)),
 p0 28 (.ld (.t 27)),
 p0 29 (.len (.t 28)),
 p0 30 (.bin .lss (.t 24) (.t 29))])
 (.cond (.t 30)
 .skip
 (.exit 0)))
 (.seq (.block 1 (.seq (.reg [
 p0 33 (.mv (.t 0)),
 p0 34 (.nck (.t 33)),
 p0 35 (.fadr 4 (.t 34)),
 p0 36 (.ld (.t 35)),
 p0 37 (.mv (.t 10)),
 p0 38 (.iadr 6 (.t 36) (.t 37)),
 p0 39 (.ldA 6 (.t 38)),
 x0 11 (.zero 131 6 [(.str []), (.int .i64 0), (.int .i64 0), (.int .i64 0), (.int .i64 0), .nilslice]),
 s0 (.st 6 (.t 11) (.t 39))])
 (.seq (.seq (.reg [
 p0 40 (.fadr 1 (.t 11)),
 p0 41 (.ld (.t 40)),
 p0 42 (.fadr 0 (.t 8)),
 p0 43 (.ld (.t 42)),
 p0 44 (.bin .neq (.t 41) (.t 43)),
 p0 45 (.mv (.t 44)),
 g0 46 45 false (.fadr 2 (.t 11)),
 g0 47 45 false (.ld (.t 46)),
 g0 48 45 false (.mv (.t 1)),
 g0 49 45 false (.bin .neq (.t 47) (.t 48)),
 p0 50 (.pick (.t 45) (.c (.bool true)) (.t 49)),
 p0 51 (.mv (.t 50)),
 g0 52 51 false (.fadr 0 (.t 11)),
 g0 53 51 false (.ld (.t 52)),
 g0 54 51 false (.fadr 3 (.t 8)),
 g0 55 51 false (.ld (.t 54)),
 g0 56 51 false (.bin .neq (.t 53) (.t 55)),
 p0 57 (.pick (.t 51) (.c (.bool true)) (.t 56))])
 (.cond (.t 57)
 (.exit 1)
 .skip))
 (.seq (.reg [
 p0 58 (.fadr 1 (.t 8)),
 p0 59 (.ld (.t 58)),
 p0 60 (.bin .eql (.t 59) (.c (.int .i64 0))),
 p0 61 (.mv (.t 60)),
 g0 62 61 true (.fadr 4 (.t 8)),
 g0 63 61 true (.ld (.t 62)),
 g0 64 61 true (.len (.t 63)),
 g0 65 61 true (.bin .gtr (.t 64) (.c (.int .i64 0))),
 p0 66 (.pick (.t 61) (.t 65) (.c (.bool false))),
 p0 67 (.mv (.t 66)),
 g0 68 67 false (.fadr 1 (.t 8)),
 g0 69 67 false (.ld (.t 68)),
 g0 70 67 false (.bin .eql (.t 69) (.c (.int .i64 20))),
 g0 71 67 false (.mv (.t 70)),
 g0 72 71 true (.fadr 4 (.t 8)),
 g0 73 71 true (.ld (.t 72)),
 g0 74 71 true (.len (.t 73)),
 g0 75 71 true (.bin .eql (.t 74) (.c (.int .i64 0))),
 g0 76 67 false (.pick (.t 71) (.t 75) (.c (.bool false))),
 p0 77 (.pick (.t 67) (.c (.bool true)) (.t 76)),
 p0 12 (.mv (.t 77))])
 (.seq (.seq (.reg [
 p0 78 (.mv (.t 12)),
 p0 79 (.un .not (.t 78))])
 (.cond (.t 79)
 (.seq (.reg [
 p0 80 (.mv (.t 0)),
 p0 81 (.mv (.t 10)),
 x0 82 (.call 64 [(.t 80), (.t 81)])])
 .ret)
 .skip))
 (.seq (.reg [
 p0 83 (.mv (.t 0)),
 x0 84 (.call 42 [(.t 83)])])
 (.seq (.seq (.reg [
 p0 85 (.fadr 2 (.t 8)),
 p0 86 (.ld (.t 85)),
 p0 87 (.bin .gtr (.t 86) (.c (.int .i64 0)))])
 (.cond (.t 87)
 (.seq (.seq (.reg [
 p0 88 (.mv (.t 0)),
 p0 89 (.nck (.t 88)),
 p0 90 (.fadr 5 (.t 89)),
 p0 91 (.ld (.t 90)),
 p0 92 (.len (.t 91)),
 p0 93 (.bin .geq (.t 92) (.c (.int .i64 32)))])
 (.cond (.t 93)
 (.reg [
 p0 94 (.mv (.t 0)),
 x0 95 (.bslice 129 4 [(.str []), (.int .i64 0), .nilslice, (.int .i64 0)] 0 []),
 p0 96 (.mv (.t 0)),
 p0 97 (.nck (.t 96)),
 p0 98 (.fadr 5 (.t 97)),
 p0 99 (.ld (.t 98)),
 p0 100 (.slc 4 (.t 99) (some (.c (.int .i64 1))) none none),
 x0 101 (.app 129 4 56 (.t 95) (.t 100)),
 p0 102 (.nck (.t 94)),
 p0 103 (.fadr 5 (.t 102)),
 s0 (.st 1 (.t 103) (.t 101))])
 .skip))
 (.dreg [
 p0 104 (.mv (.t 0)),
 p0 105 (.mv (.t 0)),
 p0 106 (.nck (.t 105)),
 p0 107 (.fadr 5 (.t 106)),
 p0 108 (.ld (.t 107)),
 p0 109 (.fadr 3 (.t 8)),
 p0 110 (.ld (.t 109)),
 p0 111 (.fadr 1 (.t 8)),
 p0 112 (.ld (.t 111)),
 p0 113 (.fadr 4 (.t 8)),
 p0 114 (.ld (.t 113)),
 x0 115 (.call 63 [(.t 114)]),
 p0 116 (.mv (.t 0)),
 p0 117 (.nck (.t 116)),
 p0 118 (.fadr 2 (.t 117)),
 p0 119 (.ld (.t 118)),
 p0 120 (.fadr 2 (.t 8)),
 p0 121 (.ld (.t 120)),
 p0 122 (.bin .mul (.c (.int .i64 1000)) (.t 121)),
 p0 123 (.bin .add (.t 119) (.t 122)),
 p0 124 (.build [(.str []), (.int .i64 0), .nilslice, (.int .i64 0)] [(0, 1, (.t 110)), (1, 1, (.t 112)), (2, 1, (.t 115)), (3, 1, (.t 123))]),
 x0 125 (.bslice 129 4 [(.str []), (.int .i64 0), .nilslice, (.int .i64 0)] 1 [(0, (.t 124))]),
 x0 126 (.app 129 4 56 (.t 108) (.t 125)),
 p0 127 (.nck (.t 104)),
 p0 128 (.fadr 5 (.t 127)),
 s0 (.st 1 (.t 128) (.t 126))]
 [false, false, false, false, false, false, false, false, false, false, false, true, false, false, false, false, false, false, false, false, false, true, true, false, false, true] [[],[],[1],[2,1],[3,2,1],[],[5],[],[7],[],[9],[10,9],[],[12],[13,12],[14,13,12],[],[16],[17,16],[15,14,13,12,18,17,16],[6,5,8,7,11,10,9,19,15,14,13,12,18,17,16],[20,6,5,8,7,11,10,9,19,15,14,13,12,18,17,16],[4,3,2,1,21,20,6,5,8,7,11,10,9,19,15,14,13,12,18,17,16],[0,1,2,3,4,5,6,7,8,9,10,11,12,13,14,15,16,17,18,19,20,21,22],[23,0,1,2,3,4,5,6,7,8,9,10,11,12,13,14,15,16,17,18,19,20,21,22],[24,23,0,1,2,3,4,5,6,7,8,9,10,11,12,13,14,15,16,17,18,19,20,21,22]] [0,1,2,3,4,5,6,7,8,9,10,12,13,14,15,16,17,18,19,11,20,21,22,23,24,25]))
 .skip))
 (.seq (.reg [
 p0 129 (.mv (.t 0)),
 p0 130 (.mv (.t 10)),
 p0 131 (.fadr 1 (.t 8)),
 p0 132 (.ld (.t 131)),
 p0 133 (.fadr 4 (.t 8)),
 p0 134 (.ld (.t 133)),
 x0 135 (.call 65 [(.t 129), (.t 130), (.t 132), (.t 134)])])
 .ret))))))))
 (.reg [
 p0 31 (.mv (.t 10)),
 p0 32 (.bin .add (.t 31) (.c (.int .i64 1))),
 p0 10 (.mv (.t 32))]))))))))
theorem ok40 : fnComp Tryd.prog 40 = some (136, c40, []) := by kernel_rfl

def c41 : CC :=
 (.seq (.reg [
 p0 6 (.mv (.t 0)),
 p0 7 (.nck (.t 6)),
 p0 8 (.fadr 2 (.t 7)),
 p0 9 (.ld (.t 8)),
 p0 10 (.mv (.t 1)),
 p0 11 (.bin .add (.t 9) (.t 10)),
 p0 4 (.mv (.t 11))])
 (.seq (.seq (.reg [
 p0 12 (.mv (.t 0)),
 p0 13 (.mv (.t 4)),
 x0 14 (.call 66 [(.t 12), (.t 13)]),
 p0 5 (.mv (.t 14))])
 (.block 0 (.loop (.seq (.seq (.reg [
 p0 15 (.mv (.t 5)),
 p0 16 (.bin .geq (.t 15) (.c (.int .i64 0)))])
 (.cond (.t 16)
 .skip
 (.exit 0)))
 (.seq (.block 1 (.seq (.reg [
 p0 20 (.mv (.t 0)),
 p0 21 (.mv (.t 0)),
 p0 22 (.nck (.t 21)),
 p0 23 (.fadr 4 (.t 22)),
 p0 24 (.ld (.t 23)),
 p0 25 (.mv (.t 5)),
 p0 26 (.iadr 6 (.t 24) (.t 25)),
 p0 27 (.fadr 4 (.t 26)),
 p0 28 (.ld (.t 27)),
 p0 29 (.nck (.t 20)),
 p0 30 (.fadr 2 (.t 29)),
 s0 (.st 1 (.t 30) (.t 28))])
 (.reg [
 p0 31 (.mv (.t 0)),
 p0 32 (.mv (.t 5)),
 x0 33 (.call 64 [(.t 31), (.t 32)])])))
 (.reg [
 p0 17 (.mv (.t 0)),
 p0 18 (.mv (.t 4)),
 x0 19 (.call 66 [(.t 17), (.t 18)]),
 p0 5 (.mv (.t 19))]))))))
 (.reg [
 p0 34 (.mv (.t 0)),
 p0 35 (.mv (.t 4)),
 p0 36 (.nck (.t 34)),
 p0 37 (.fadr 2 (.t 36)),
 s0 (.st 1 (.t 37) (.t 35))])))
theorem ok41 : fnComp Tryd.prog 41 = some (38, c41, []) := by kernel_rfl

def c42 : CC :=
 (.seq (.reg [
 x0 4 (.bslice 129 4 [(.str []), (.int .i64 0), .nilslice, (.int .i64 0)] 0 []),
 p0 2 (.mv (.t 4))])
 (.seq (.seq (.reg [
 p0 3 (.mv (.c (.int .i64 0)))])
 (.block 0 (.loop (.seq (.seq (.reg [
 p0 5 (.mv (.t 3)),
 p0 6 (.mv (.t 0)),
 p0 7 (.nck (.t 6)),
 p0 8 (.fadr 5 (.t 7)),
 p0 9 (.ld (.t 8)),
 p0 10 (.len (.t 9)),
 p0 11 (.bin .lss (.t 5) (.t 10))])
 (.cond (.t 11)
 .skip
 (.exit 0)))
 (.seq (.block 1 (.seq (.dreg [
 p0 14 (.mv (.t 0)),
 p0 15 (.nck (.t 14)),
 p0 16 (.fadr 5 (.t 15)),
 p0 17 (.ld (.t 16)),
 p0 18 (.mv (.t 3)),
 p0 19 (.iadr 4 (.t 17) (.t 18)),
 p0 20 (.fadr 3 (.t 19)),
 p0 21 (.ld (.t 20)),
 p0 22 (.mv (.t 0)),
 p0 23 (.nck (.t 22)),
 p0 24 (.fadr 2 (.t 23)),
 p0 25 (.ld (.t 24)),
 p0 26 (.bin .gtr (.t 21) (.t 25))]
 [false, false, false, false, false, false, false, false, false, false, false, false, false] [[],[0],[1,0],[2,1,0],[],[3,2,1,0,4],[5,3,2,1,0,4],[6,5,3,2,1,0,4],[],[8],[9,8],[10,9,8],[7,6,5,3,2,1,0,4,11,10,9,8]] [0,1,2,3,4,5,6,7,8,9,10,11,12])
 (.cond (.t 26)
 (.reg [
 p0 27 (.mv (.t 2)),
 p0 28 (.mv (.t 0)),
 p0 29 (.nck (.t 28)),
 p0 30 (.fadr 5 (.t 29)),
 p0 31 (.ld (.t 30)),
 p0 32 (.mv (.t 3)),
 p0 33 (.iadr 4 (.t 31) (.t 32)),
 p0 34 (.ldA 4 (.t 33)),
 x0 35 (.bslice 129 4 [(.str []), (.int .i64 0), .nilslice, (.int .i64 0)] 1 [(0, (.t 34))]),
 x0 36 (.app 129 4 56 (.t 27) (.t 35)),
 p0 2 (.mv (.t 36))])
 .skip)))
 (.reg [
 p0 12 (.mv (.t 3)),
 p0 13 (.bin .add (.t 12) (.c (.int .i64 1))),
 p0 3 (.mv (.t 13))]))))))
 (.reg [
 p0 37 (.mv (.t 0)),
 p0 38 (.mv (.t 2)),
 p0 39 (.nck (.t 37)),
 p0 40 (.fadr 5 (.t 39)),
 s0 (.st 1 (.t 40) (.t 38))])))
theorem ok42 : fnComp Tryd.prog 42 = some (41, c42, []) := by kernel_rfl

def c43 : CC :=
 (.seq (.reg [
 p0 6 (.mv (.c (.bool false)))])
 (.seq (.reg [
 p0 7 (.mv (.t 0)),
 p0 8 (.mv (.t 1)),
 p0 9 (.bin .geq (.t 7) (.t 8)),
 p0 10 (.mv (.t 9)),
 g0 11 10 true (.mv (.t 0)),
 g0 12 10 true (.mv (.t 2)),
 g0 13 10 true (.bin .leq (.t 11) (.t 12)),
 p0 14 (.pick (.t 10) (.t 13) (.c (.bool false))),
 p0 6 (.mv (.t 14))])
 .ret))
theorem ok43 : fnComp Tryd.prog 43 = some (15, c43, [(.mv (.t 6))]) := by kernel_rfl

def c44 : CC :=
 (.seq (.reg [
 p0 2 (.mv (.c (.bool false)))])
 (.seq (.reg [
 p0 3 (.mv (.t 0)),
 x0 4 (.call 43 [(.t 3), (.c (.int .i64 0)), (.c (.int .i64 4294967295))]),
 p0 2 (.mv (.t 4))])
 .ret))
theorem ok44 : fnComp Tryd.prog 44 = some (5, c44, [(.mv (.t 2))]) := by kernel_rfl

def c45 : CC :=
 (.seq (.reg [
 p0 4 (.mv (.c (.bool false)))])
 (.seq (.reg [
 p0 5 (.mv (.t 0)),
 p0 6 (.mv (.t 1)),
 x0 7 (.call 67 [(.t 5), (.t 6)]),
 p0 8 (.bin .geq (.t 7) (.c (.int .i64 0))),
 p0 4 (.mv (.t 8))])
 .ret))
theorem ok45 : fnComp Tryd.prog 45 = some (9, c45, [(.mv (.t 4))]) := by kernel_rfl

def c46 : CC :=
 (.seq (.reg [
 p0 2 (.mv (.c (.bool false)))])
 (.seq (.reg [
 p0 3 (.mv (.t 0)),
 x0 4 (.call 47 [(.t 3)]),
 p0 5 (.bin .neq (.t 4) (.c (.int .i64 6))),
 p0 2 (.mv (.t 5))])
 .ret))
theorem ok46 : fnComp Tryd.prog 46 = some (6, c46, [(.mv (.t 2))]) := by kernel_rfl

def c47 : CC :=
 (.seq (.reg [
 p0 2 (.mv (.c (.int .i64 0)))])
 (.seq (.block 0 (.seq (.reg [
 p0 4 (.mv (.t 0)),
 x0 5 (.call 68 [(.t 4)]),
 p0 6 (.un .not (.t 5)),
 p0 3 (.mv (.t 6))])
 (.cond (.t 3)
 (.seq (.reg [
 p0 2 (.mv (.c (.int .i64 0)))])
 .ret)
 (.seq (.reg [
 p0 8 (.mv (.t 0)),
 p0 9 (.bin .eql (.t 8) (.c (.int .i64 0))),
 p0 7 (.mv (.t 9))])
 (.cond (.t 7)
 (.seq (.reg [
 p0 2 (.mv (.c (.int .i64 1)))])
 .ret)
 (.seq (.reg [
 p0 11 (.mv (.t 0)),
 p0 12 (.bin .shr (.t 11) (.c (.int .u64 24))),
 p0 13 (.bin .eql (.t 12) (.c (.int .i64 127))),
 p0 10 (.mv (.t 13))])
 (.cond (.t 10)
 (.seq (.reg [
 p0 2 (.mv (.c (.int .i64 2)))])
 .ret)
 (.seq (.reg [
 p0 15 (.mv (.t 0)),
 p0 16 (.bin .shr (.t 15) (.c (.int .u64 28))),
 p0 17 (.bin .eql (.t 16) (.c (.int .i64 14))),
 p0 14 (.mv (.t 17))])
 (.cond (.t 14)
 (.seq (.reg [
 p0 2 (.mv (.c (.int .i64 3)))])
 .ret)
 (.seq (.reg [
 p0 19 (.mv (.t 0)),
 p0 20 (.bin .eql (.t 19) (.c (.int .i64 4294967295))),
 p0 18 (.mv (.t 20))])
 (.cond (.t 18)
 (.seq (.reg [
 p0 2 (.mv (.c (.int .i64 4)))])
 .ret)
 (.seq (.reg [
 p0 22 (.mv (.t 0)),
 p0 23 (.bin .shr (.t 22) (.c (.int .u64 28))),
 p0 24 (.bin .eql (.t 23) (.c (.int .i64 15))),
 p0 21 (.mv (.t 24))])
 (.cond (.t 21)
 (.seq (.reg [
 p0 2 (.mv (.c (.int .i64 5)))])
 .ret)
 .skip)))))))))))))
 (.seq (.reg [
 p0 2 (.mv (.c (.int .i64 6)))])
 .ret)))
theorem ok47 : fnComp Tryd.prog 47 = some (25, c47, [(.mv (.t 2))]) := by kernel_rfl

def c48 : CC :=
 (.seq (.reg [
 p0 2 (.mv (.c .nilslice))])
 (.seq (.seq (.reg [
 p0 3 (.mv (.t 0)),
 p0 4 (.eqn .slice false (.t 3) (.c .nilslice))])
 (.cond (.t 4)
 (.seq (.reg [
 p0 2 (.mv (.c .nilslice))])
 .ret)
 .skip))
 (.seq (.reg [
 x0 5 (.bslice 2 1 [(.int .i64 0)] 0 []),
 p0 6 (.mv (.t 0)),
 x0 7 (.app 2 1 8 (.t 5) (.t 6)),
 p0 2 (.mv (.t 7))])
 .ret)))
theorem ok48 : fnComp Tryd.prog 48 = some (8, c48, [(.mv (.t 2))]) := by kernel_rfl

def c49 : CC :=
 (.seq (.reg [
 p0 4 (.mv (.c .nilslice))])
 (.seq (.reg [
 p0 5 (.mv (.t 0)),
 p0 6 (.mv (.t 1)),
 x0 7 (.call 69 [(.t 5), (.t 6), (.c (.int .i64 0)), (.c (.int .i64 (-1)))]),
 p0 4 (.mv (.t 7))])
 .ret))
theorem ok49 : fnComp Tryd.prog 49 = some (8, c49, [(.mv (.t 4))]) := by kernel_rfl

def c50 : CC :=
 (.seq (.reg [
 x0 2 (.zero 55 5 [(.int .i64 0), (.int .i64 0), (.int .i64 0), (.str []), .nilslice]),
 p0 3 (.mv (.c (.int .i64 0)))])
 (.seq (.reg [
 p0 9 (.mv (.t 0)),
 p0 10 (.build [.nilslice, (.bool false)] [(0, 1, (.t 9))]),
 x0 11 (.box 139 2 (.t 10)),
 p0 4 (.mv (.t 11))])
 (.seq (.reg [
 p0 12 (.mv (.t 4)),
 x0 13 (.call 70 [(.t 12), (.c (.int .i64 2))]),
 p0 14 (.build [(.int .i64 0), (.int .i64 0), (.int .i64 0), (.str []), .nilslice] [(0, 1, (.t 13))]),
 x0 5 (.zero 55 5 [(.int .i64 0), (.int .i64 0), (.int .i64 0), (.str []), .nilslice]),
 s0 (.st 5 (.t 5) (.t 14))])
 (.seq (.reg [
 p0 15 (.mv (.t 4)),
 x0 16 (.call 70 [(.t 15), (.c (.int .i64 1))]),
 p0 6 (.mv (.t 16))])
 (.seq (.reg [
 p0 17 (.mv (.t 4)),
 x0 18 (.call 70 [(.t 17), (.c (.int .i64 1))]),
 p0 19 (.mv (.t 4)),
 x0 20 (.call 70 [(.t 19), (.c (.int .i64 4))]),
 p0 21 (.fadr 1 (.t 5)),
 s0 (.st 1 (.t 21) (.t 18)),
 p0 22 (.fadr 2 (.t 5)),
 s0 (.st 1 (.t 22) (.t 20))])
 (.seq (.reg [
 p0 23 (.mv (.t 4)),
 p0 24 (.mv (.t 4)),
 x0 25 (.call 70 [(.t 24), (.c (.int .i64 1))]),
 x0 26 (.call 71 [(.t 23), (.t 25)]),
 p0 27 (.b2s (.t 26)),
 p0 28 (.fadr 3 (.t 5)),
 s0 (.st 1 (.t 28) (.t 27))])
 (.seq (.seq (.reg [
 p0 29 (.mv (.t 4)),
 x0 30 (.call 70 [(.t 29), (.c (.int .i64 1))]),
 p0 7 (.mv (.t 30))])
 (.block 0 (.loop (.seq (.seq (.reg [
 p0 31 (.mv (.t 7)),
 p0 32 (.bin .gtr (.t 31) (.c (.int .i64 0))),
 p0 33 (.mv (.t 32)),
 g0 34 33 true (.mv (.t 4)),
 g0 35 33 true (.nck (.t 34)),
 g0 36 33 true (.fadr 1 (.t 35)),
 g0 37 33 true (.ld (.t 36)),
 g0 38 33 true (.un .not (.t 37)),
 p0 39 (.pick (.t 33) (.t 38) (.c (.bool false)))])
 (.cond (.t 39)
 .skip
 (.exit 0)))
 (.seq (.block 1 (.dreg [
 p0 42 (.fadr 4 (.t 5)),
 p0 43 (.ld (.t 42)),
 p0 44 (.mv (.t 4)),
 x0 45 (.call 70 [(.t 44), (.c (.int .i64 4))]),
 x0 46 (.bslice 2 1 [(.int .i64 0)] 1 [(0, (.t 45))]),
 x0 47 (.app 2 1 8 (.t 43) (.t 46)),
 p0 48 (.fadr 4 (.t 5)),
 s0 (.st 1 (.t 48) (.t 47))]
 [false, false, false, true, true, true, false, true] [[],[0],[],[2],[3,2],[1,0,4,3,2],[0,1,2,3,4,5],[6,0,1,2,3,4,5]] [0,1,2,3,4,5,6,7]))
 (.reg [
 p0 40 (.mv (.t 7)),
 p0 41 (.bin .sub (.t 40) (.c (.int .i64 1))),
 p0 7 (.mv (.t 41))]))))))
 (.seq (.reg [
 p0 49 (.mv (.t 4)),
 p0 50 (.mv (.t 6)),
 p0 51 (.fadr 3 (.t 5)),
 p0 52 (.ld (.t 51)),
 x0 53 (.call 72 [(.t 49), (.t 50), (.c (.int .i64 1)), (.t 52)]),
 p0 8 (.mv (.t 53))])
 (.seq (.seq (.reg [
 p0 54 (.mv (.t 8)),
 p0 55 (.bin .eql (.t 54) (.c (.int .i64 0))),
 p0 56 (.mv (.t 55)),
 g0 57 56 true (.ldA 5 (.t 5)),
 ⟨(some 58), (some (56, true)), .x (.call 73 [(.t 57)])⟩,
 g0 59 56 true (.un .not (.t 58)),
 p0 60 (.pick (.t 56) (.t 59) (.c (.bool false)))])
 (.cond (.t 60)
 (.reg [
 p0 8 (.mv (.c (.int .i64 1)))])
 .skip))
 (.seq (.seq (.reg [
 p0 61 (.mv (.t 8)),
 p0 62 (.bin .neq (.t 61) (.c (.int .i64 0)))])
 (.cond (.t 62)
 (.seq (.reg [
 p0 63 (.build [(.int .i64 0), (.int .i64 0), (.int .i64 0), (.str []), .nilslice] []),
 p0 64 (.mv (.t 8)),
 s0 (.st 5 (.t 2) (.t 63)),
 p0 3 (.mv (.t 64))])
 .ret)
 .skip))
 (.seq (.reg [
 p0 65 (.ldA 5 (.t 5)),
 s0 (.st 5 (.t 2) (.t 65)),
 p0 3 (.mv (.c (.int .i64 0)))])
 .ret)))))))))))
theorem ok50 : fnComp Tryd.prog 50 = some (66, c50, [(.ldA 5 (.t 2)), (.mv (.t 3))]) := by kernel_rfl

def c51 : CC :=
 (.seq (.reg [
 x0 5 (.box 85 1 (.t 1))])
 (.seq (.seq (.reg [
 p0 10 (.ld (.t 5)),
 p0 11 (.nck (.t 10)),
 p0 12 (.fadr 1 (.t 11)),
 p0 13 (.ld (.t 12)),
 p0 14 (.len (.t 13)),
 p0 15 (.mv (.c (.int .i64 0)))])
 (.block 0 (.loop (.seq (.reg [
 p0 16 (.bin .lss (.t 15) (.t 14))])
 (.seq (.cond (.t 16)
 .skip
 (.exit 0))
 (.seq (.block 1 (.seq (.reg [
 p0 17 (.iadr 1 (.t 13) (.t 15)),
 p0 18 (.ld (.t 17)),
 p0 9 (.mv (.t 18))])
 (.dreg [
 p0 19 (.mv (.t 0)),
 p0 20 (.mv (.t 0)),
 p0 21 (.nck (.t 20)),
 p0 22 (.fadr 8 (.t 21)),
 p0 23 (.ld (.t 22)),
 p0 24 (.mv (.t 9)),
 p0 25 (.mv (.t 2)),
 p0 26 (.mv (.t 3)),
 x0 27 (.call 48 [(.t 26)]),
 p0 28 (.build [(.int .i64 0), (.int .i64 0), .nilslice] [(0, 1, (.t 24)), (1, 1, (.t 25)), (2, 1, (.t 27))]),
 x0 29 (.bslice 40 3 [(.int .i64 0), (.int .i64 0), .nilslice] 1 [(0, (.t 28))]),
 x0 30 (.app 40 3 40 (.t 23) (.t 29)),
 p0 31 (.nck (.t 19)),
 p0 32 (.fadr 8 (.t 31)),
 s0 (.st 1 (.t 32) (.t 30))]
 [false, false, false, false, false, false, false, false, true, false, true, true, false, false, true] [[],[],[1],[2,1],[3,2,1],[],[],[],[7],[5,6,8,7],[9,5,6,8,7],[4,3,2,1,10,9,5,6,8,7],[0,1,2,3,4,5,6,7,8,9,10,11],[12,0,1,2,3,4,5,6,7,8,9,10,11],[13,12,0,1,2,3,4,5,6,7,8,9,10,11]] [0,1,2,3,4,5,6,7,8,9,10,11,12,13,14])))
 (.reg [
 p0 33 (.bin .add (.t 15) (.c (.int .i64 1))),
 p0 15 (.mv (.t 33))])))))))
 (.reg [
 p0 34 (.mv (.t 0)),
 p0 35 (.mv (.t 0)),
 p0 36 (.nck (.t 35)),
 p0 37 (.fadr 5 (.t 36)),
 p0 38 (.ld (.t 37)),
 x0 39 (.call 75 [(.t 38)]),
 p0 40 (.mkf 76 [] [(.t 5)]),
 x0 41 (.call 74 [(.t 39), (.t 40)]),
 p0 42 (.nck (.t 34)),
 p0 43 (.fadr 5 (.t 42)),
 s0 (.st 1 (.t 43) (.t 41))])))
theorem ok51 : fnComp Tryd.prog 51 = some (44, c51, []) := by kernel_rfl

def c52 : CC :=
 (.seq (.reg [
 x0 1 (.box 75 1 (.t 0))])
 (.dreg [
 p0 2 (.ld (.t 1)),
 p0 3 (.ld (.t 1)),
 p0 4 (.nck (.t 3)),
 p0 5 (.fadr 6 (.t 4)),
 p0 6 (.ld (.t 5)),
 x0 7 (.call 53 [(.t 6)]),
 p0 8 (.mkf 78 [] [(.t 1)]),
 x0 9 (.call 77 [(.t 7), (.t 8)]),
 p0 10 (.nck (.t 2)),
 p0 11 (.fadr 6 (.t 10)),
 s0 (.st 1 (.t 11) (.t 9))]
 [false, false, false, false, false, true, false, true, false, false, true] [[],[],[1],[2,1],[3,2,1],[4,3,2,1],[],[5,4,3,2,1,6],[0,1,2,3,4,5,6,7],[8,0,1,2,3,4,5,6,7],[9,8,0,1,2,3,4,5,6,7]] [0,1,2,3,4,6,5,7,8,9,10]))
theorem ok52 : fnComp Tryd.prog 52 = some (12, c52, []) := by kernel_rfl

def c53 : CC :=
 (.seq (.reg [
 p0 2 (.mv (.c .nilslice))])
 (.seq (.seq (.reg [
 p0 3 (.mv (.t 0)),
 p0 4 (.eqn .slice false (.t 3) (.c .nilslice))])
 (.cond (.t 4)
 (.seq (.reg [
 p0 2 (.mv (.c .nilslice))])
 .ret)
 .skip))
 (.seq (.reg [
 x0 5 (.bslice 111 4 [(.str []), (.int .i64 0), (.int .i64 0), .nilslice] 0 []),
 p0 6 (.mv (.t 0)),
 x0 7 (.app 111 4 56 (.t 5) (.t 6)),
 p0 2 (.mv (.t 7))])
 .ret)))
theorem ok53 : fnComp Tryd.prog 53 = some (8, c53, [(.mv (.t 2))]) := by kernel_rfl

def c54 : CC :=
 (.seq (.reg [
 x0 1 (.box 116 2 (.t 0)),
 p0 2 (.mv (.c .nilslice)),
 p0 3 (.mv (.c (.int .i64 0)))])
 (.seq (.seq (.reg [
 p0 4 (.fadr 0 (.t 1)),
 p0 5 (.ld (.t 4)),
 p0 6 (.bin .lss (.t 5) (.c (.int .i64 0))),
 p0 7 (.mv (.t 6)),
 g0 8 7 false (.fadr 0 (.t 1)),
 g0 9 7 false (.ld (.t 8)),
 g0 10 7 false (.bin .gtr (.t 9) (.c (.int .i64 65535))),
 p0 11 (.pick (.t 7) (.c (.bool true)) (.t 10)),
 p0 12 (.mv (.t 11)),
 g0 13 12 false (.fadr 1 (.t 1)),
 g0 14 12 false (.ld (.t 13)),
 ⟨(some 15), (some (12, false)), .x (.call 24 [(.t 14)])⟩,
 g0 16 12 false (.un .not (.t 15)),
 p0 17 (.pick (.t 12) (.c (.bool true)) (.t 16))])
 (.cond (.t 17)
 (.seq (.reg [
 p0 2 (.mv (.c .nilslice)),
 p0 3 (.mv (.c (.int .i64 1)))])
 .ret)
 .skip))
 (.seq (.treg [
 p0 18 (.fadr 0 (.t 1)),
 p0 19 (.ld (.t 18)),
 x0 20 (.call 79 [(.c .nilslice), (.c (.int .i64 2)), (.t 19)]),
 p0 21 (.fadr 1 (.t 1)),
 p0 22 (.ld (.t 21)),
 p0 23 (.lenS (.t 22)),
 p0 24 (.cvI .u8 (.t 23)),
 x0 25 (.bslice 5 1 [(.int .u8 0)] 2 [(0, (.c (.int .u8 0))), (1, (.t 24))]),
 x0 26 (.app 5 1 1 (.t 20) (.t 25)),
 p0 27 (.fadr 1 (.t 1)),
 p0 28 (.ld (.t 27)),
 x0 29 (.appS 5 1 (.t 26) (.t 28)),
 p0 2 (.mv (.t 29)),
 p0 3 (.mv (.c (.int .i64 0)))]
 [[],[0],[1,0],[],[3],[4,3],[5,4,3],[6,5,4,3],[2,1,0,7,6,5,4,3],[],[9],[8,2,1,0,7,6,5,4,3,10,9],[11,8,2,1,0,7,6,5,4,3,10,9],[12,11,8,2,1,0,7,6,5,4,3,10,9]] (.fl 0 (.fl 1 (.fl 3 (.fl 4 (.fl 5 (.fl 6 (.fl 9 (.fl 10 (.br 2 (.br 7 (.br 8 (.br 11 (.fl 12 (.fl 13 .fin)) .stop) .stop) .stop) (.br 7 (.br 2 (.br 8 (.br 11 (.fl 12 (.fl 13 .fin)) .stop) .stop) .stop) .stop)))))))))))
 .ret)))
theorem ok54 : fnComp Tryd.prog 54 = some (30, c54, [(.mv (.t 2)), (.mv (.t 3))]) := by kernel_rfl

def c55 : CC :=
 (.seq (.reg [
 p0 4 (.mv (.c (.str []))),
 p0 5 (.mv (.c (.int .i64 0)))])
 (.seq (.seq (.reg [
 p0 7 (.mv (.t 1)),
 p0 8 (.bin .lss (.t 7) (.c (.int .i64 0))),
 p0 9 (.mv (.t 8)),
 g0 10 9 false (.mv (.t 1)),
 g0 11 9 false (.mv (.t 0)),
 g0 12 9 false (.len (.t 11)),
 g0 13 9 false (.bin .geq (.t 10) (.t 12)),
 p0 14 (.pick (.t 9) (.c (.bool true)) (.t 13)),
 p0 15 (.mv (.t 14)),
 g0 16 15 false (.mv (.t 1)),
 g0 17 15 false (.bin .add (.t 16) (.c (.int .i64 1))),
 g0 18 15 false (.mv (.t 0)),
 g0 19 15 false (.mv (.t 1)),
 g0 20 15 false (.iadr 1 (.t 18) (.t 19)),
 g0 21 15 false (.ld (.t 20)),
 g0 22 15 false (.cvI .i64 (.t 21)),
 g0 23 15 false (.bin .add (.t 17) (.t 22)),
 g0 24 15 false (.mv (.t 0)),
 g0 25 15 false (.len (.t 24)),
 g0 26 15 false (.bin .gtr (.t 23) (.t 25)),
 p0 27 (.pick (.t 15) (.c (.bool true)) (.t 26))])
 (.cond (.t 27)
 (.seq (.reg [
 p0 4 (.mv (.c (.str []))),
 p0 5 (.mv (.c (.int .i64 (-1))))])
 .ret)
 .skip))
 (.seq (.reg [
 p0 28 (.mv (.t 1)),
 p0 29 (.bin .add (.t 28) (.c (.int .i64 1))),
 p0 30 (.mv (.t 0)),
 p0 31 (.mv (.t 1)),
 p0 32 (.iadr 1 (.t 30) (.t 31)),
 p0 33 (.ld (.t 32)),
 p0 34 (.cvI .i64 (.t 33)),
 p0 35 (.bin .add (.t 29) (.t 34)),
 p0 6 (.mv (.t 35))])
 (.seq (.reg [
 p0 36 (.mv (.t 0)),
 p0 37 (.mv (.t 1)),
 p0 38 (.bin .add (.t 37) (.c (.int .i64 1))),
 p0 39 (.mv (.t 6)),
 p0 40 (.slc 1 (.t 36) (some (.t 38)) (some (.t 39)) none),
 p0 41 (.b2s (.t 40)),
 p0 42 (.mv (.t 6)),
 p0 4 (.mv (.t 41)),
 p0 5 (.mv (.t 42))])
 .ret))))
theorem ok55 : fnComp Tryd.prog 55 = some (43, c55, [(.mv (.t 4)), (.mv (.t 5))]) := by kernel_rfl

def c56 : CC :=
 (.seq (.reg [
 p0 2 (.mv (.c (.int .i64 0)))])
 (.seq (.reg [
 p0 3 (.mv (.c (.int .i64 0)))])
 (.seq (.seq (.reg [
 p0 4 (.mv (.c (.int .i64 0)))])
 (.block 0 (.loop (.seq (.seq (.reg [
 p0 5 (.mv (.t 4)),
 p0 6 (.mv (.t 0)),
 p0 7 (.len (.t 6)),
 p0 8 (.bin .lss (.t 5) (.t 7))])
 (.cond (.t 8)
 .skip
 (.exit 0)))
 (.seq (.block 1 (.reg [
 p0 11 (.mv (.t 3)),
 p0 12 (.bin .mul (.t 11) (.c (.int .i64 256))),
 p0 13 (.mv (.t 0)),
 p0 14 (.mv (.t 4)),
 p0 15 (.iadr 1 (.t 13) (.t 14)),
 p0 16 (.ld (.t 15)),
 p0 17 (.cvI .i64 (.t 16)),
 p0 18 (.bin .add (.t 12) (.t 17)),
 p0 3 (.mv (.t 18))]))
 (.reg [
 p0 9 (.mv (.t 4)),
 p0 10 (.bin .add (.t 9) (.c (.int .i64 1))),
 p0 4 (.mv (.t 10))]))))))
 (.seq (.reg [
 p0 19 (.mv (.t 3)),
 p0 2 (.mv (.t 19))])
 .ret))))
theorem ok56 : fnComp Tryd.prog 56 = some (20, c56, [(.mv (.t 2))]) := by kernel_rfl

def c57 : CC :=
 (.seq (.reg [
 p0 2 (.mv (.c .nilslice))])
 (.seq (.reg [
 x0 5 (.bslice 5 1 [(.int .u8 0)] 0 []),
 p0 3 (.mv (.t 5))])
 (.seq (.seq (.reg [
 p0 4 (.mv (.c (.int .i64 0)))])
 (.block 0 (.loop (.seq (.seq (.reg [
 p0 6 (.mv (.t 4)),
 p0 7 (.mv (.t 0)),
 p0 8 (.len (.t 7)),
 p0 9 (.bin .lss (.t 6) (.t 8))])
 (.cond (.t 9)
 .skip
 (.exit 0)))
 (.seq (.block 1 (.reg [
 p0 12 (.mv (.t 3)),
 p0 13 (.mv (.t 0)),
 p0 14 (.mv (.t 4)),
 p0 15 (.iadr 1 (.t 13) (.t 14)),
 p0 16 (.ld (.t 15)),
 x0 17 (.bslice 5 1 [(.int .u8 0)] 1 [(0, (.t 16))]),
 x0 18 (.app 5 1 1 (.t 12) (.t 17)),
 p0 3 (.mv (.t 18))]))
 (.reg [
 p0 10 (.mv (.t 4)),
 p0 11 (.bin .add (.t 10) (.c (.int .i64 1))),
 p0 4 (.mv (.t 11))]))))))
 (.seq (.reg [
 p0 19 (.mv (.t 3)),
 p0 2 (.mv (.t 19))])
 .ret))))
theorem ok57 : fnComp Tryd.prog 57 = some (20, c57, [(.mv (.t 2))]) := by kernel_rfl

def c61 : CC :=
 (.seq (.reg [
 p0 4 (.mv (.c .nilslice))])
 (.seq (.reg [
 x0 8 (.bslice 9 1 [(.str [])] 0 []),
 p0 5 (.mv (.t 8))])
 (.seq (.reg [
 p0 6 (.mv (.c (.int .i64 0)))])
 (.seq (.seq (.reg [
 p0 7 (.mv (.c (.int .i64 0)))])
 (.block 0 (.loop (.seq (.seq (.reg [
 p0 9 (.mv (.t 7)),
 p0 10 (.mv (.t 0)),
 p0 11 (.lenS (.t 10)),
 p0 12 (.bin .lss (.t 9) (.t 11))])
 (.cond (.t 12)
 .skip
 (.exit 0)))
 (.seq (.block 1 (.seq (.reg [
 p0 15 (.mv (.t 0)),
 p0 16 (.mv (.t 7)),
 p0 17 (.idxS (.t 15) (.t 16)),
 p0 18 (.mv (.t 1)),
 p0 19 (.bin .eql (.t 17) (.t 18))])
 (.cond (.t 19)
 (.seq (.reg [
 p0 20 (.mv (.t 5)),
 p0 21 (.mv (.t 0)),
 p0 22 (.mv (.t 6)),
 p0 23 (.mv (.t 7)),
 p0 24 (.slcS (.t 21) (some (.t 22)) (some (.t 23))),
 x0 25 (.bslice 9 1 [(.str [])] 1 [(0, (.t 24))]),
 x0 26 (.app 9 1 16 (.t 20) (.t 25)),
 p0 5 (.mv (.t 26))])
 (.reg [
 p0 27 (.mv (.t 7)),
 p0 28 (.bin .add (.t 27) (.c (.int .i64 1))),
 p0 6 (.mv (.t 28))]))
 .skip)))
 (.reg [
 p0 13 (.mv (.t 7)),
 p0 14 (.bin .add (.t 13) (.c (.int .i64 1))),
 p0 7 (.mv (.t 14))]))))))
 (.seq (.reg [
 p0 29 (.mv (.t 5)),
 p0 30 (.mv (.t 0)),
 p0 31 (.mv (.t 6)),
 p0 32 (.slcS (.t 30) (some (.t 31)) none),
 x0 33 (.bslice 9 1 [(.str [])] 1 [(0, (.t 32))]),
 x0 34 (.app 9 1 16 (.t 29) (.t 33)),
 p0 4 (.mv (.t 34))])
 .ret)))))
theorem ok61 : fnComp Tryd.prog 61 = some (35, c61, [(.mv (.t 4))]) := by kernel_rfl

def c62 : CC :=
 (.seq (.reg [
 p0 2 (.mv (.c (.bool false)))])
 (.seq (.seq (.reg [
 p0 4 (.mv (.t 0)),
 p0 5 (.lenS (.t 4)),
 p0 6 (.bin .lss (.t 5) (.c (.int .i64 1))),
 p0 7 (.mv (.t 6)),
 g0 8 7 false (.mv (.t 0)),
 g0 9 7 false (.lenS (.t 8)),
 g0 10 7 false (.bin .gtr (.t 9) (.c (.int .i64 20))),
 p0 11 (.pick (.t 7) (.c (.bool true)) (.t 10)),
 p0 12 (.mv (.t 11)),
 g0 13 12 false (.mv (.t 0)),
 g0 14 12 false (.idxS (.t 13) (.c (.int .i64 0))),
 g0 15 12 false (.bin .eql (.t 14) (.c (.int .u8 45))),
 p0 16 (.pick (.t 12) (.c (.bool true)) (.t 15)),
 p0 17 (.mv (.t 16)),
 g0 18 17 false (.mv (.t 0)),
 g0 19 17 false (.mv (.t 0)),
 g0 20 17 false (.lenS (.t 19)),
 g0 21 17 false (.bin .sub (.t 20) (.c (.int .i64 1))),
 g0 22 17 false (.idxS (.t 18) (.t 21)),
 g0 23 17 false (.bin .eql (.t 22) (.c (.int .u8 45))),
 p0 24 (.pick (.t 17) (.c (.bool true)) (.t 23))])
 (.cond (.t 24)
 (.seq (.reg [
 p0 2 (.mv (.c (.bool false)))])
 .ret)
 .skip))
 (.seq (.seq (.reg [
 p0 3 (.mv (.c (.int .i64 0)))])
 (.block 0 (.loop (.seq (.seq (.reg [
 p0 25 (.mv (.t 3)),
 p0 26 (.mv (.t 0)),
 p0 27 (.lenS (.t 26)),
 p0 28 (.bin .lss (.t 25) (.t 27))])
 (.cond (.t 28)
 .skip
 (.exit 0)))
 (.seq (.block 1 (.seq (.reg [
 p0 31 (.mv (.t 0)),
 p0 32 (.mv (.t 3)),
 p0 33 (.idxS (.t 31) (.t 32)),
 p0 34 (.bin .lss (.t 33) (.c (.int .u8 97))),
 p0 35 (.mv (.t 34)),
 g0 36 35 false (.mv (.t 0)),
 g0 37 35 false (.mv (.t 3)),
 g0 38 35 false (.idxS (.t 36) (.t 37)),
 g0 39 35 false (.bin .gtr (.t 38) (.c (.int .u8 122))),
 p0 40 (.pick (.t 35) (.c (.bool true)) (.t 39)),
 p0 41 (.mv (.t 40)),
 g0 42 41 true (.mv (.t 0)),
 g0 43 41 true (.mv (.t 3)),
 g0 44 41 true (.idxS (.t 42) (.t 43)),
 g0 45 41 true (.bin .lss (.t 44) (.c (.int .u8 48))),
 g0 46 41 true (.mv (.t 45)),
 g0 47 46 false (.mv (.t 0)),
 g0 48 46 false (.mv (.t 3)),
 g0 49 46 false (.idxS (.t 47) (.t 48)),
 g0 50 46 false (.bin .gtr (.t 49) (.c (.int .u8 57))),
 g0 51 41 true (.pick (.t 46) (.c (.bool true)) (.t 50)),
 p0 52 (.pick (.t 41) (.t 51) (.c (.bool false))),
 p0 53 (.mv (.t 52)),
 g0 54 53 true (.mv (.t 0)),
 g0 55 53 true (.mv (.t 3)),
 g0 56 53 true (.idxS (.t 54) (.t 55)),
 g0 57 53 true (.bin .neq (.t 56) (.c (.int .u8 45))),
 p0 58 (.pick (.t 53) (.t 57) (.c (.bool false)))])
 (.cond (.t 58)
 (.seq (.reg [
 p0 2 (.mv (.c (.bool false)))])
 .ret)
 .skip)))
 (.reg [
 p0 29 (.mv (.t 3)),
 p0 30 (.bin .add (.t 29) (.c (.int .i64 1))),
 p0 3 (.mv (.t 30))]))))))
 (.seq (.reg [
 p0 2 (.mv (.c (.bool true)))])
 .ret))))
theorem ok62 : fnComp Tryd.prog 62 = some (59, c62, [(.mv (.t 2))]) := by kernel_rfl

def c63 : CC :=
 (.seq (.reg [
 p0 2 (.mv (.c .nilslice))])
 (.seq (.reg [
 x0 3 (.bslice 2 1 [(.int .i64 0)] 0 []),
 p0 4 (.mv (.t 0)),
 x0 5 (.app 2 1 8 (.t 3) (.t 4)),
 p0 2 (.mv (.t 5))])
 .ret))
theorem ok63 : fnComp Tryd.prog 63 = some (6, c63, [(.mv (.t 2))]) := by kernel_rfl

def c64 : CC :=
 (.seq (.reg [
 p0 7 (.mv (.t 0)),
 p0 8 (.nck (.t 7)),
 p0 9 (.fadr 4 (.t 8)),
 p0 10 (.ld (.t 9)),
 p0 11 (.mv (.t 1)),
 p0 12 (.iadr 6 (.t 10) (.t 11)),
 p0 13 (.ldA 6 (.t 12)),
 x0 4 (.zero 131 6 [(.str []), (.int .i64 0), (.int .i64 0), (.int .i64 0), (.int .i64 0), .nilslice]),
 s0 (.st 6 (.t 4) (.t 13))])
 (.seq (.seq (.reg [
 p0 14 (.fadr 3 (.t 4)),
 p0 15 (.ld (.t 14)),
 p0 16 (.bin .geq (.t 15) (.c (.int .i64 4)))])
 (.cond (.t 16)
 (.seq (.reg [
 p0 17 (.mv (.t 0)),
 p0 18 (.mv (.t 1)),
 x0 19 (.call 65 [(.t 17), (.t 18), (.c (.int .i64 15)), (.c .nilslice)])])
 .ret)
 .skip))
 (.seq (.dreg [
 p0 20 (.mv (.t 0)),
 p0 21 (.nck (.t 20)),
 p0 22 (.fadr 0 (.t 21)),
 p0 23 (.fadr 1 (.t 22)),
 p0 24 (.ld (.t 23)),
 p0 25 (.mv (.t 0)),
 p0 26 (.nck (.t 25)),
 p0 27 (.fadr 3 (.t 26)),
 p0 28 (.ld (.t 27)),
 p0 29 (.bin .mul (.c (.int .i64 7919)) (.t 28)),
 p0 30 (.bin .add (.t 24) (.t 29)),
 p0 31 (.bin .rem (.t 30) (.c (.int .i64 65536))),
 p0 32 (.fadr 1 (.t 4)),
 s0 (.st 1 (.t 32) (.t 31))]
 [false, false, false, false, false, false, false, false, false, false, false, false, false, true] [[],[0],[1,0],[2,1,0],[3,2,1,0],[],[5],[6,5],[7,6,5],[8,7,6,5],[4,3,2,1,0,9,8,7,6,5],[10,4,3,2,1,0,9,8,7,6,5],[0,1,2,3,4,5,6,7,8,9,10,11],[12,0,1,2,3,4,5,6,7,8,9,10,11]] [0,1,2,3,4,5,6,7,8,9,10,11,12,13])
 (.seq (.reg [
 p0 33 (.mv (.t 0)),
 p0 34 (.nck (.t 33)),
 p0 35 (.fadr 3 (.t 34)),
 p0 36 (.ld (.t 35)),
 p0 37 (.bin .add (.t 36) (.c (.int .i64 1))),
 p0 38 (.nck (.t 33)),
 p0 39 (.fadr 3 (.t 38)),
 s0 (.st 1 (.t 39) (.t 37))])
 (.seq (.dreg [
 p0 40 (.mv (.t 0)),
 p0 41 (.nck (.t 40)),
 p0 42 (.fadr 0 (.t 41)),
 p0 43 (.fadr 0 (.t 42)),
 p0 44 (.ld (.t 43)),
 p0 45 (.fadr 3 (.t 4)),
 p0 46 (.ld (.t 45)),
 p0 47 (.mv (.t 0)),
 p0 48 (.nck (.t 47)),
 p0 49 (.fadr 0 (.t 48)),
 p0 50 (.fadr 0 (.t 49)),
 p0 51 (.ld (.t 50)),
 p0 52 (.len (.t 51)),
 p0 53 (.bin .rem (.t 46) (.t 52)),
 p0 54 (.iadr 1 (.t 44) (.t 53)),
 p0 55 (.ld (.t 54)),
 p0 56 (.fadr 2 (.t 4)),
 s0 (.st 1 (.t 56) (.t 55))]
 [false, false, false, false, false, false, false, false, false, false, false, false, false, false, false, false, false, true] [[],[0],[1,0],[2,1,0],[3,2,1,0],[],[5],[],[7],[8,7],[9,8,7],[10,9,8,7],[11,10,9,8,7],[6,5,12,11,10,9,8,7],[4,3,2,1,0,13,6,5,12,11,10,9,8,7],[14,4,3,2,1,0,13,6,5,12,11,10,9,8,7],[0,1,2,3,4,5,6,7,8,9,10,11,12,13,14,15],[16,0,1,2,3,4,5,6,7,8,9,10,11,12,13,14,15]] [0,1,2,3,4,5,6,7,8,9,10,11,12,13,14,15,16,17])
 (.seq (.reg [
 p0 57 (.fadr 3 (.t 4)),
 p0 58 (.ld (.t 57)),
 p0 59 (.bin .add (.t 58) (.c (.int .i64 1))),
 p0 60 (.fadr 3 (.t 4)),
 s0 (.st 1 (.t 60) (.t 59))])
 (.seq (.reg [
 p0 61 (.mv (.t 0)),
 p0 62 (.nck (.t 61)),
 p0 63 (.fadr 2 (.t 62)),
 p0 64 (.ld (.t 63)),
 p0 65 (.bin .add (.t 64) (.c (.int .i64 2000))),
 p0 66 (.fadr 4 (.t 4)),
 s0 (.st 1 (.t 66) (.t 65))])
 (.seq (.dreg [
 p0 67 (.mv (.t 0)),
 p0 68 (.nck (.t 67)),
 p0 69 (.fadr 4 (.t 68)),
 p0 70 (.ld (.t 69)),
 p0 71 (.mv (.t 1)),
 p0 72 (.ldA 6 (.t 4)),
 p0 73 (.iadr 6 (.t 70) (.t 71)),
 s0 (.st 6 (.t 73) (.t 72))]
 [false, false, false, false, false, false, false, true] [[],[0],[1,0],[2,1,0],[],[],[3,2,1,0,4,5],[6,3,2,1,0,4,5]] [0,1,2,3,4,5,6,7])
 (.seq (.reg [
 p0 75 (.fadr 1 (.t 4)),
 p0 76 (.ld (.t 75)),
 p0 77 (.fadr 0 (.t 4)),
 p0 78 (.ld (.t 77)),
 p0 79 (.build [(.int .i64 0), (.str [])] [(0, 1, (.t 76)), (1, 1, (.t 78))]),
 x0 80 (.call 80 [(.t 79)]),
 p0 74 (.mv (.t 80)),
 p0 81 (.ext 0 (.t 74)),
 p0 82 (.ext 1 (.t 74)),
 p0 5 (.mv (.t 81)),
 p0 6 (.mv (.t 82))])
 (.dreg [
 p0 83 (.mv (.t 0)),
 p0 84 (.mv (.t 0)),
 p0 85 (.nck (.t 84)),
 p0 86 (.fadr 6 (.t 85)),
 p0 87 (.fadr 1 (.t 86)),
 p0 88 (.ld (.t 87)),
 p0 89 (.fadr 2 (.t 4)),
 p0 90 (.ld (.t 89)),
 p0 91 (.mv (.t 5)),
 p0 92 (.build [(.int .i64 0), .nilslice] [(0, 1, (.t 90)), (1, 1, (.t 91))]),
 x0 93 (.bslice 49 2 [(.int .i64 0), .nilslice] 1 [(0, (.t 92))]),
 x0 94 (.app 49 2 32 (.t 88) (.t 93)),
 p0 95 (.nck (.t 83)),
 p0 96 (.fadr 6 (.t 95)),
 p0 97 (.fadr 1 (.t 96)),
 s0 (.st 1 (.t 97) (.t 94))]
 [false, false, false, false, false, false, false, false, false, false, true, true, false, false, false, true] [[],[],[1],[2,1],[3,2,1],[4,3,2,1],[],[6],[],[7,6,8],[9,7,6,8],[5,4,3,2,1,10,9,7,6,8],[0,1,2,3,4,5,6,7,8,9,10,11],[12,0,1,2,3,4,5,6,7,8,9,10,11],[13,12,0,1,2,3,4,5,6,7,8,9,10,11],[14,13,12,0,1,2,3,4,5,6,7,8,9,10,11]] [0,1,2,3,4,5,6,7,8,9,10,11,12,13,14,15]))))))))))
theorem ok64 : fnComp Tryd.prog 64 = some (98, c64, []) := by kernel_rfl

def c65 : CC :=
 (.seq (.reg [
 p0 12 (.mv (.t 0)),
 p0 13 (.nck (.t 12)),
 p0 14 (.fadr 4 (.t 13)),
 p0 15 (.ld (.t 14)),
 p0 16 (.mv (.t 1)),
 p0 17 (.iadr 6 (.t 15) (.t 16)),
 p0 18 (.ldA 6 (.t 17)),
 x0 8 (.zero 131 6 [(.str []), (.int .i64 0), (.int .i64 0), (.int .i64 0), (.int .i64 0), .nilslice]),
 s0 (.st 6 (.t 8) (.t 18))])
 (.seq (.seq (.reg [
 p0 9 (.mv (.c (.int .i64 0)))])
 (.block 0 (.loop (.seq (.seq (.reg [
 p0 19 (.mv (.t 9)),
 p0 20 (.fadr 5 (.t 8)),
 p0 21 (.ld (.t 20)),
 p0 22 (.len (.t 21)),
 p0 23 (.bin .lss (.t 19) (.t 22))])
 (.cond (.t 23)
 .skip
 (.exit 0)))
 (.seq (.block 1 (.dreg [
 p0 26 (.mv (.t 0)),
 p0 27 (.mv (.t 0)),
 p0 28 (.nck (.t 27)),
 p0 29 (.fadr 6 (.t 28)),
 p0 30 (.fadr 2 (.t 29)),
 p0 31 (.ld (.t 30)),
 p0 32 (.fadr 5 (.t 8)),
 p0 33 (.ld (.t 32)),
 p0 34 (.mv (.t 9)),
 p0 35 (.iadr 1 (.t 33) (.t 34)),
 p0 36 (.ld (.t 35)),
 p0 37 (.mv (.t 2)),
 p0 38 (.mv (.t 3)),
 x0 39 (.call 63 [(.t 38)]),
 p0 40 (.build [(.int .i64 0), (.int .i64 0), .nilslice] [(0, 1, (.t 36)), (1, 1, (.t 37)), (2, 1, (.t 39))]),
 x0 41 (.bslice 40 3 [(.int .i64 0), (.int .i64 0), .nilslice] 1 [(0, (.t 40))]),
 x0 42 (.app 40 3 40 (.t 31) (.t 41)),
 p0 43 (.nck (.t 26)),
 p0 44 (.fadr 6 (.t 43)),
 p0 45 (.fadr 2 (.t 44)),
 s0 (.st 1 (.t 45) (.t 42))]
 [false, false, false, false, false, false, false, false, false, false, false, false, false, true, false, true, true, false, false, false, true] [[],[],[1],[2,1],[3,2,1],[4,3,2,1],[],[6],[],[7,6,8],[9,7,6,8],[],[],[12],[10,9,7,6,8,11,13,12],[14,10,9,7,6,8,11,13,12],[5,4,3,2,1,15,14,10,9,7,6,8,11,13,12],[0,1,2,3,4,5,6,7,8,9,10,11,12,13,14,15,16],[17,0,1,2,3,4,5,6,7,8,9,10,11,12,13,14,15,16],[18,17,0,1,2,3,4,5,6,7,8,9,10,11,12,13,14,15,16],[19,18,17,0,1,2,3,4,5,6,7,8,9,10,11,12,13,14,15,16]] [0,1,2,3,4,5,6,7,8,9,10,11,12,13,14,15,16,17,18,19,20]))
 (.reg [
 p0 24 (.mv (.t 9)),
 p0 25 (.bin .add (.t 24) (.c (.int .i64 1))),
 p0 9 (.mv (.t 25))]))))))
 (.seq (.reg [
 x0 46 (.bslice 131 6 [(.str []), (.int .i64 0), (.int .i64 0), (.int .i64 0), (.int .i64 0), .nilslice] 0 []),
 p0 10 (.mv (.t 46))])
 (.seq (.seq (.reg [
 p0 11 (.mv (.c (.int .i64 0)))])
 (.block 2 (.loop (.seq (.seq (.reg [
 p0 47 (.mv (.t 11)),
 p0 48 (.mv (.t 0)),
 p0 49 (.nck (.t 48)),
 p0 50 (.fadr 4 (.t 49)),
 p0 51 (.ld (.t 50)),
 p0 52 (.len (.t 51)),
 p0 53 (.bin .lss (.t 47) (.t 52))])
 (.cond (.t 53)
 .skip
 (.exit 2)))
 (.seq (.block 3 (.seq (.reg [
 p0 56 (.mv (.t 11)),
 p0 57 (.mv (.t 1)),
 p0 58 (.bin .neq (.t 56) (.t 57))])
 (.cond (.t 58)
 (.reg [
 p0 59 (.mv (.t 10)),
 p0 60 (.mv (.t 0)),
 p0 61 (.nck (.t 60)),
 p0 62 (.fadr 4 (.t 61)),
 p0 63 (.ld (.t 62)),
 p0 64 (.mv (.t 11)),
 p0 65 (.iadr 6 (.t 63) (.t 64)),
 p0 66 (.ldA 6 (.t 65)),
 x0 67 (.bslice 131 6 [(.str []), (.int .i64 0), (.int .i64 0), (.int .i64 0), (.int .i64 0), .nilslice] 1 [(0, (.t 66))]),
 x0 68 (.app 131 6 72 (.t 59) (.t 67)),
 p0 10 (.mv (.t 68))])
 .skip)))
 (.reg [
 p0 54 (.mv (.t 11)),
 p0 55 (.bin .add (.t 54) (.c (.int .i64 1))),
 p0 11 (.mv (.t 55))]))))))
 (.reg [
 p0 69 (.mv (.t 0)),
 p0 70 (.mv (.t 10)),
 p0 71 (.nck (.t 69)),
 p0 72 (.fadr 4 (.t 71)),
 s0 (.st 1 (.t 72) (.t 70))])))))
theorem ok65 : fnComp Tryd.prog 65 = some (73, c65, []) := by kernel_rfl

def c66 : CC :=
 (.seq (.reg [
 p0 4 (.mv (.c (.int .i64 0)))])
 (.seq (.reg [
 p0 5 (.mv (.c (.int .i64 (-1))))])
 (.seq (.seq (.reg [
 p0 6 (.mv (.c (.int .i64 0)))])
 (.block 0 (.loop (.seq (.seq (.reg [
 p0 7 (.mv (.t 6)),
 p0 8 (.mv (.t 0)),
 p0 9 (.nck (.t 8)),
 p0 10 (.fadr 4 (.t 9)),
 p0 11 (.ld (.t 10)),
 p0 12 (.len (.t 11)),
 p0 13 (.bin .lss (.t 7) (.t 12))])
 (.cond (.t 13)
 .skip
 (.exit 0)))
 (.seq (.block 1 (.seq (.dreg [
 p0 16 (.mv (.t 0)),
 p0 17 (.nck (.t 16)),
 p0 18 (.fadr 4 (.t 17)),
 p0 19 (.ld (.t 18)),
 p0 20 (.mv (.t 6)),
 p0 21 (.iadr 6 (.t 19) (.t 20)),
 p0 22 (.fadr 4 (.t 21)),
 p0 23 (.ld (.t 22)),
 p0 24 (.mv (.t 1)),
 p0 25 (.bin .leq (.t 23) (.t 24)),
 p0 26 (.mv (.t 25)),
 g0 27 26 true (.mv (.t 5)),
 g0 28 26 true (.bin .lss (.t 27) (.c (.int .i64 0))),
 g0 29 26 true (.mv (.t 28)),
 g0 30 29 false (.mv (.t 0)),
 g0 31 29 false (.nck (.t 30)),
 g0 32 29 false (.fadr 4 (.t 31)),
 g0 33 29 false (.ld (.t 32)),
 g0 34 29 false (.mv (.t 6)),
 g0 35 29 false (.iadr 6 (.t 33) (.t 34)),
 g0 36 29 false (.fadr 4 (.t 35)),
 g0 37 29 false (.ld (.t 36)),
 g0 38 29 false (.mv (.t 0)),
 g0 39 29 false (.nck (.t 38)),
 g0 40 29 false (.fadr 4 (.t 39)),
 g0 41 29 false (.ld (.t 40)),
 g0 42 29 false (.mv (.t 5)),
 g0 43 29 false (.iadr 6 (.t 41) (.t 42)),
 g0 44 29 false (.fadr 4 (.t 43)),
 g0 45 29 false (.ld (.t 44)),
 g0 46 29 false (.bin .lss (.t 37) (.t 45)),
 g0 47 26 true (.pick (.t 29) (.c (.bool true)) (.t 46)),
 p0 48 (.pick (.t 26) (.t 47) (.c (.bool false)))]
 [false, false, false, false, false, false, false, false, false, false, false, false, false, false, false, false, false, false, false, false, false, false, false, false, false, false, false, false, false, false, false, false, false] [[],[0],[1,0],[2,1,0],[],[3,2,1,0,4],[5,3,2,1,0,4],[6,5,3,2,1,0,4],[],[7,6,5,3,2,1,0,4,8],[9,7,6,5,3,2,1,0,4,8],[10,9,7,6,5,3,2,1,0,4,8],[11,10,9,7,6,5,3,2,1,0,4,8],[12,11,10,9,7,6,5,3,2,1,0,4,8],[13,12,11,10,9,7,6,5,3,2,1,0,4,8],[14,13,12,11,10,9,7,6,5,3,2,1,0,4,8],[15,14,13,12,11,10,9,7,6,5,3,2,1,0,4,8],[16,15,14,13,12,11,10,9,7,6,5,3,2,1,0,4,8],[13,12,11,10,9,7,6,5,3,2,1,0,4,8],[17,16,15,14,13,12,11,10,9,7,6,5,3,2,1,0,4,8,18],[19,17,16,15,14,13,12,11,10,9,7,6,5,3,2,1,0,4,8,18],[20,19,17,16,15,14,13,12,11,10,9,7,6,5,3,2,1,0,4,8,18],[13,12,11,10,9,7,6,5,3,2,1,0,4,8],[22,13,12,11,10,9,7,6,5,3,2,1,0,4,8],[23,22,13,12,11,10,9,7,6,5,3,2,1,0,4,8],[24,23,22,13,12,11,10,9,7,6,5,3,2,1,0,4,8],[13,12,11,10,9,7,6,5,3,2,1,0,4,8],[25,24,23,22,13,12,11,10,9,7,6,5,3,2,1,0,4,8,26],[27,25,24,23,22,13,12,11,10,9,7,6,5,3,2,1,0,4,8,26],[28,27,25,24,23,22,13,12,11,10,9,7,6,5,3,2,1,0,4,8,26],[21,20,19,17,16,15,14,13,12,11,10,9,7,6,5,3,2,1,0,4,8,18,29,28,27,25,24,23,22,26],[13,12,11,10,9,7,6,5,3,2,1,0,4,8,30,21,20,19,17,16,15,14,18,29,28,27,25,24,23,22,26],[10,9,7,6,5,3,2,1,0,4,8,31,13,12,11,30,21,20,19,17,16,15,14,18,29,28,27,25,24,23,22,26]] [0,1,2,3,4,5,6,7,8,9,10,11,12,13,14,15,16,17,18,19,20,21,22,23,24,25,26,27,28,29,30,31,32])
 (.cond (.t 48)
 (.reg [
 p0 49 (.mv (.t 6)),
 p0 5 (.mv (.t 49))])
 .skip)))
 (.reg [
 p0 14 (.mv (.t 6)),
 p0 15 (.bin .add (.t 14) (.c (.int .i64 1))),
 p0 6 (.mv (.t 15))]))))))
 (.seq (.reg [
 p0 50 (.mv (.t 5)),
 p0 4 (.mv (.t 50))])
 .ret))))
theorem ok66 : fnComp Tryd.prog 66 = some (51, c66, [(.mv (.t 4))]) := by kernel_rfl

def c67 : CC :=
 (.seq (.reg [
 p0 4 (.mv (.c (.int .i64 0)))])
 (.seq (.seq (.reg [
 p0 6 (.mv (.t 0)),
 p0 7 (.len (.t 6)),
 p0 8 (.mv (.c (.int .i64 0)))])
 (.block 0 (.loop (.seq (.reg [
 p0 9 (.bin .lss (.t 8) (.t 7))])
 (.seq (.cond (.t 9)
 .skip
 (.exit 0))
 (.seq (.block 1 (.seq (.reg [
 p0 10 (.mv (.t 8)),
 p0 5 (.mv (.t 10))])
 (.seq (.reg [
 p0 11 (.mv (.t 1)),
 p0 12 (.mv (.t 0)),
 p0 13 (.mv (.t 5)),
 p0 14 (.iadr 1 (.t 12) (.t 13)),
 p0 15 (.ld (.t 14)),
 x0 16 (.callv (.t 11) [(.t 15)])])
 (.cond (.t 16)
 (.seq (.reg [
 p0 17 (.mv (.t 5)),
 p0 4 (.mv (.t 17))])
 .ret)
 .skip))))
 (.reg [
 p0 18 (.bin .add (.t 8) (.c (.int .i64 1))),
 p0 8 (.mv (.t 18))])))))))
 (.seq (.reg [
 p0 4 (.mv (.c (.int .i64 (-1))))])
 .ret)))
theorem ok67 : fnComp Tryd.prog 67 = some (19, c67, [(.mv (.t 4))]) := by kernel_rfl

def c68 : CC :=
 (.seq (.reg [
 p0 2 (.mv (.c (.bool false)))])
 (.seq (.reg [
 p0 3 (.mv (.t 0)),
 p0 4 (.bin .geq (.t 3) (.c (.int .i64 0))),
 p0 5 (.mv (.t 4)),
 g0 6 5 true (.mv (.t 0)),
 g0 7 5 true (.bin .leq (.t 6) (.c (.int .i64 4294967295))),
 p0 8 (.pick (.t 5) (.t 7) (.c (.bool false))),
 p0 2 (.mv (.t 8))])
 .ret))
theorem ok68 : fnComp Tryd.prog 68 = some (9, c68, [(.mv (.t 2))]) := by kernel_rfl

def c69 : CC :=
 (.seq (.reg [
 p0 8 (.mv (.c .nilslice))])
 (.seq (.seq (.reg [
 p0 12 (.mv (.t 3)),
 p0 13 (.bin .eql (.t 12) (.c (.int .i64 0)))])
 (.cond (.t 13)
 (.seq (.reg [
 p0 8 (.mv (.c .nilslice))])
 .ret)
 .skip))
 (.seq (.seq (.reg [
 p0 14 (.mv (.t 1)),
 p0 15 (.bin .eql (.t 14) (.c (.str [])))])
 (.cond (.t 15)
 (.seq (.reg [
 p0 16 (.mv (.t 0)),
 p0 17 (.mv (.t 3)),
 x0 18 (.call 81 [(.t 16), (.t 17)]),
 p0 8 (.mv (.t 18))])
 .ret)
 .skip))
 (.seq (.seq (.reg [
 p0 19 (.mv (.t 3)),
 p0 20 (.bin .lss (.t 19) (.c (.int .i64 0)))])
 (.cond (.t 20)
 (.reg [
 p0 21 (.mv (.t 0)),
 p0 22 (.mv (.t 1)),
 x0 23 (.call 82 [(.t 21), (.t 22)]),
 p0 24 (.bin .add (.t 23) (.c (.int .i64 1))),
 p0 3 (.mv (.t 24))])
 .skip))
 (.seq (.reg [
 p0 25 (.mv (.t 3)),
 p0 26 (.mv (.t 0)),
 p0 27 (.lenS (.t 26)),
 p0 28 (.bin .add (.t 27) (.c (.int .i64 1))),
 p0 29 (.mm false (.t 25) (.t 28)),
 p0 3 (.mv (.t 29))])
 (.seq (.reg [
 p0 30 (.mv (.t 3)),
 x0 31 (.mks 9 1 16 [(.str [])] (.t 30) (.t 30)),
 p0 9 (.mv (.t 31))])
 (.seq (.reg [
 p0 32 (.mv (.t 3)),
 p0 33 (.bin .sub (.t 32) (.c (.int .i64 1))),
 p0 3 (.mv (.t 33))])
 (.seq (.reg [
 p0 10 (.mv (.c (.int .i64 0)))])
 (.seq (.block 0 (.loop (.seq (.seq (.reg [
 p0 34 (.mv (.t 10)),
 p0 35 (.mv (.t 3)),
 p0 36 (.bin .lss (.t 34) (.t 35))])
 (.cond (.t 36)
 .skip
 (.exit 0)))
 (.block 1 (.seq (.reg [
 p0 37 (.mv (.t 0)),
 p0 38 (.mv (.t 1)),
 x0 39 (.call 83 [(.t 37), (.t 38)]),
 p0 11 (.mv (.t 39))])
 (.seq (.seq (.reg [
 p0 40 (.mv (.t 11)),
 p0 41 (.bin .lss (.t 40) (.c (.int .i64 0)))])
 (.cond (.t 41)
 (.exit 0)
 .skip))
 (.seq (.reg [
 p0 42 (.mv (.t 9)),
 p0 43 (.mv (.t 10)),
 p0 44 (.mv (.t 0)),
 p0 45 (.mv (.t 11)),
 p0 46 (.mv (.t 2)),
 p0 47 (.bin .add (.t 45) (.t 46)),
 p0 48 (.slcS (.t 44) none (some (.t 47))),
 p0 49 (.iadr 1 (.t 42) (.t 43)),
 s0 (.st 1 (.t 49) (.t 48))])
 (.seq (.reg [
 p0 50 (.mv (.t 0)),
 p0 51 (.mv (.t 11)),
 p0 52 (.mv (.t 1)),
 p0 53 (.lenS (.t 52)),
 p0 54 (.bin .add (.t 51) (.t 53)),
 p0 55 (.slcS (.t 50) (some (.t 54)) none),
 p0 0 (.mv (.t 55))])
 (.reg [
 p0 56 (.mv (.t 10)),
 p0 57 (.bin .add (.t 56) (.c (.int .i64 1))),
 p0 10 (.mv (.t 57))])))))))))
 (.seq (.reg [
 p0 58 (.mv (.t 9)),
 p0 59 (.mv (.t 10)),
 p0 60 (.mv (.t 0)),
 p0 61 (.iadr 1 (.t 58) (.t 59)),
 s0 (.st 1 (.t 61) (.t 60))])
 (.seq (.reg [
 p0 62 (.mv (.t 9)),
 p0 63 (.mv (.t 10)),
 p0 64 (.bin .add (.t 63) (.c (.int .i64 1))),
 p0 65 (.slc 1 (.t 62) none (some (.t 64)) none),
 p0 8 (.mv (.t 65))])
 .ret)))))))))))
theorem ok69 : fnComp Tryd.prog 69 = some (66, c69, [(.mv (.t 8))]) := by kernel_rfl

def c70 : CC :=
 (.seq (.reg [
 p0 4 (.mv (.c (.int .i64 0)))])
 (.seq (.reg [
 p0 5 (.mv (.t 0)),
 p0 6 (.mv (.t 1)),
 x0 7 (.call 71 [(.t 5), (.t 6)]),
 x0 8 (.call 84 [(.t 7)]),
 p0 4 (.mv (.t 8))])
 .ret))
theorem ok70 : fnComp Tryd.prog 70 = some (9, c70, [(.mv (.t 4))]) := by kernel_rfl

def c71 : CC :=
 (.seq (.reg [
 p0 4 (.mv (.c .nilslice))])
 (.seq (.seq (.reg [
 p0 6 (.mv (.t 1)),
 p0 7 (.mv (.t 0)),
 p0 8 (.nck (.t 7)),
 p0 9 (.fadr 0 (.t 8)),
 p0 10 (.ld (.t 9)),
 p0 11 (.len (.t 10)),
 p0 12 (.bin .gtr (.t 6) (.t 11))])
 (.cond (.t 12)
 (.seq (.reg [
 p0 13 (.mv (.t 0)),
 p0 14 (.nck (.t 13)),
 p0 15 (.fadr 1 (.t 14)),
 s0 (.st 1 (.t 15) (.c (.bool true)))])
 (.seq (.reg [
 p0 16 (.mv (.t 0)),
 p0 17 (.nck (.t 16)),
 p0 18 (.fadr 0 (.t 17)),
 s0 (.st 1 (.t 18) (.c .nilslice))])
 (.seq (.reg [
 p0 19 (.mv (.t 1)),
 p0 20 (.mm false (.t 19) (.c (.int .i64 8))),
 x0 21 (.mks 5 1 1 [(.int .u8 0)] (.t 20) (.t 20)),
 p0 4 (.mv (.t 21))])
 .ret)))
 .skip))
 (.seq (.reg [
 p0 22 (.mv (.t 0)),
 p0 23 (.nck (.t 22)),
 p0 24 (.fadr 0 (.t 23)),
 p0 25 (.ld (.t 24)),
 p0 26 (.mv (.t 1)),
 p0 27 (.slc 1 (.t 25) none (some (.t 26)) none),
 p0 5 (.mv (.t 27))])
 (.seq (.reg [
 p0 28 (.mv (.t 0)),
 p0 29 (.mv (.t 0)),
 p0 30 (.nck (.t 29)),
 p0 31 (.fadr 0 (.t 30)),
 p0 32 (.ld (.t 31)),
 p0 33 (.mv (.t 1)),
 p0 34 (.slc 1 (.t 32) (some (.t 33)) none none),
 p0 35 (.nck (.t 28)),
 p0 36 (.fadr 0 (.t 35)),
 s0 (.st 1 (.t 36) (.t 34))])
 (.seq (.reg [
 p0 37 (.mv (.t 5)),
 p0 4 (.mv (.t 37))])
 .ret)))))
theorem ok71 : fnComp Tryd.prog 71 = some (38, c71, [(.mv (.t 4))]) := by kernel_rfl

def c72 : CC :=
 (.seq (.reg [
 p0 8 (.mv (.c (.int .i64 0)))])
 (.seq (.block 0 (.seq (.reg [
 p0 10 (.mv (.t 0)),
 p0 11 (.nck (.t 10)),
 p0 12 (.fadr 1 (.t 11)),
 p0 13 (.ld (.t 12)),
 p0 9 (.mv (.t 13))])
 (.cond (.t 9)
 (.seq (.reg [
 p0 8 (.mv (.c (.int .i64 2)))])
 .ret)
 (.seq (.reg [
 p0 15 (.mv (.t 0)),
 p0 16 (.nck (.t 15)),
 p0 17 (.fadr 0 (.t 16)),
 p0 18 (.ld (.t 17)),
 p0 19 (.len (.t 18)),
 p0 20 (.bin .gtr (.t 19) (.c (.int .i64 0))),
 p0 14 (.mv (.t 20))])
 (.cond (.t 14)
 (.seq (.reg [
 p0 8 (.mv (.c (.int .i64 5)))])
 .ret)
 (.seq (.reg [
 p0 22 (.mv (.t 1)),
 p0 23 (.mv (.t 2)),
 p0 24 (.bin .neq (.t 22) (.t 23)),
 p0 21 (.mv (.t 24))])
 (.cond (.t 21)
 (.seq (.reg [
 p0 8 (.mv (.c (.int .i64 9)))])
 .ret)
 (.seq (.reg [
 p0 26 (.mv (.t 3)),
 x0 27 (.call 24 [(.t 26)]),
 p0 28 (.un .not (.t 27)),
 p0 25 (.mv (.t 28))])
 (.cond (.t 25)
 (.seq (.reg [
 p0 8 (.mv (.c (.int .i64 6)))])
 .ret)
 .skip)))))))))
 (.seq (.reg [
 p0 8 (.mv (.c (.int .i64 0)))])
 .ret)))
theorem ok72 : fnComp Tryd.prog 72 = some (29, c72, [(.mv (.t 8))]) := by kernel_rfl

def c73 : CC :=
 (.seq (.reg [
 x0 1 (.box 55 5 (.t 0)),
 p0 2 (.mv (.c (.bool false)))])
 (.seq (.seq (.reg [
 p0 3 (.fadr 0 (.t 1)),
 p0 4 (.ld (.t 3)),
 p0 5 (.bin .lss (.t 4) (.c (.int .i64 0))),
 p0 6 (.mv (.t 5)),
 g0 7 6 false (.fadr 0 (.t 1)),
 g0 8 6 false (.ld (.t 7)),
 g0 9 6 false (.bin .gtr (.t 8) (.c (.int .i64 65535))),
 p0 10 (.pick (.t 6) (.c (.bool true)) (.t 9)),
 p0 11 (.mv (.t 10)),
 g0 12 11 false (.fadr 1 (.t 1)),
 g0 13 11 false (.ld (.t 12)),
 g0 14 11 false (.bin .lss (.t 13) (.c (.int .i64 0))),
 p0 15 (.pick (.t 11) (.c (.bool true)) (.t 14)),
 p0 16 (.mv (.t 15)),
 g0 17 16 false (.fadr 1 (.t 1)),
 g0 18 16 false (.ld (.t 17)),
 g0 19 16 false (.bin .gtr (.t 18) (.c (.int .i64 255))),
 p0 20 (.pick (.t 16) (.c (.bool true)) (.t 19)),
 p0 21 (.mv (.t 20)),
 g0 22 21 false (.fadr 2 (.t 1)),
 g0 23 21 false (.ld (.t 22)),
 g0 24 21 false (.bin .lss (.t 23) (.c (.int .i64 0))),
 p0 25 (.pick (.t 21) (.c (.bool true)) (.t 24)),
 p0 26 (.mv (.t 25)),
 g0 27 26 false (.fadr 2 (.t 1)),
 g0 28 26 false (.ld (.t 27)),
 g0 29 26 false (.bin .gtr (.t 28) (.c (.int .i64 86400))),
 p0 30 (.pick (.t 26) (.c (.bool true)) (.t 29)),
 p0 31 (.mv (.t 30)),
 g0 32 31 false (.fadr 4 (.t 1)),
 g0 33 31 false (.ld (.t 32)),
 g0 34 31 false (.len (.t 33)),
 g0 35 31 false (.bin .gtr (.t 34) (.c (.int .i64 8))),
 p0 36 (.pick (.t 31) (.c (.bool true)) (.t 35))])
 (.cond (.t 36)
 (.seq (.reg [
 p0 2 (.mv (.c (.bool false)))])
 .ret)
 .skip))
 (.seq (.reg [
 p0 37 (.fadr 4 (.t 1)),
 p0 38 (.ld (.t 37)),
 x0 39 (.call 45 [(.t 38), (.fn 85)]),
 p0 40 (.un .not (.t 39)),
 p0 2 (.mv (.t 40))])
 .ret)))
theorem ok73 : fnComp Tryd.prog 73 = some (41, c73, [(.mv (.t 2))]) := by kernel_rfl

def c74 : CC :=
 (.seq (.reg [
 p0 4 (.mv (.c .nilslice))])
 (.seq (.reg [
 p0 8 (.mv (.t 0)),
 p0 9 (.mv (.t 1)),
 x0 10 (.call 86 [(.t 8), (.t 9)]),
 p0 5 (.mv (.t 10))])
 (.seq (.seq (.reg [
 p0 11 (.mv (.t 5)),
 p0 12 (.bin .eql (.t 11) (.c (.int .i64 (-1))))])
 (.cond (.t 12)
 (.seq (.reg [
 p0 13 (.mv (.t 0)),
 p0 4 (.mv (.t 13))])
 .ret)
 .skip))
 (.seq (.seq (.reg [
 p0 14 (.mv (.t 5)),
 p0 15 (.bin .add (.t 14) (.c (.int .i64 1))),
 p0 6 (.mv (.t 15))])
 (.block 0 (.loop (.seq (.seq (.reg [
 p0 16 (.mv (.t 6)),
 p0 17 (.mv (.t 0)),
 p0 18 (.len (.t 17)),
 p0 19 (.bin .lss (.t 16) (.t 18))])
 (.cond (.t 19)
 .skip
 (.exit 0)))
 (.seq (.block 1 (.seq (.reg [
 p0 22 (.mv (.t 0)),
 p0 23 (.mv (.t 6)),
 p0 24 (.iadr 1 (.t 22) (.t 23)),
 p0 25 (.ld (.t 24)),
 p0 7 (.mv (.t 25))])
 (.seq (.reg [
 p0 26 (.mv (.t 1)),
 p0 27 (.mv (.t 7)),
 x0 28 (.callv (.t 26) [(.t 27)]),
 p0 29 (.un .not (.t 28))])
 (.cond (.t 29)
 (.seq (.reg [
 p0 30 (.mv (.t 0)),
 p0 31 (.mv (.t 5)),
 p0 32 (.mv (.t 7)),
 p0 33 (.iadr 1 (.t 30) (.t 31)),
 s0 (.st 1 (.t 33) (.t 32))])
 (.reg [
 p0 34 (.mv (.t 5)),
 p0 35 (.bin .add (.t 34) (.c (.int .i64 1))),
 p0 5 (.mv (.t 35))]))
 .skip))))
 (.reg [
 p0 20 (.mv (.t 6)),
 p0 21 (.bin .add (.t 20) (.c (.int .i64 1))),
 p0 6 (.mv (.t 21))]))))))
 (.seq (.reg [
 p0 36 (.mv (.t 0)),
 p0 37 (.mv (.t 5)),
 p0 38 (.slc 1 (.t 36) (some (.t 37)) none none),
 s0 (.ux (.clr 1 [.nilptr]) [(.t 38)])])
 (.seq (.reg [
 p0 39 (.mv (.t 0)),
 p0 40 (.mv (.t 5)),
 p0 41 (.slc 1 (.t 39) none (some (.t 40)) none),
 p0 4 (.mv (.t 41))])
 .ret))))))
theorem ok74 : fnComp Tryd.prog 74 = some (42, c74, [(.mv (.t 4))]) := by kernel_rfl

def c75 : CC :=
 (.seq (.reg [
 p0 2 (.mv (.c .nilslice))])
 (.seq (.seq (.reg [
 p0 3 (.mv (.t 0)),
 p0 4 (.eqn .slice false (.t 3) (.c .nilslice))])
 (.cond (.t 4)
 (.seq (.reg [
 p0 2 (.mv (.c .nilslice))])
 .ret)
 .skip))
 (.seq (.reg [
 x0 5 (.bslice 85 1 [.nilptr] 0 []),
 p0 6 (.mv (.t 0)),
 x0 7 (.app 85 1 8 (.t 5) (.t 6)),
 p0 2 (.mv (.t 7))])
 .ret)))
theorem ok75 : fnComp Tryd.prog 75 = some (8, c75, [(.mv (.t 2))]) := by kernel_rfl

def c76 : CC :=
 (.seq (.reg [
 p0 3 (.mv (.c (.bool false)))])
 (.seq (.reg [
 p0 4 (.mv (.t 0)),
 p0 5 (.ld (.t 1)),
 p0 6 (.u (.peq false) [(.t 4), (.t 5)]),
 p0 3 (.mv (.t 6))])
 .ret))
theorem ok76 : fnComp Tryd.prog 76 = some (7, c76, [(.mv (.t 3))]) := by kernel_rfl

def c77 : CC :=
 (.seq (.reg [
 p0 4 (.mv (.c .nilslice))])
 (.seq (.reg [
 p0 8 (.mv (.t 0)),
 p0 9 (.mv (.t 1)),
 x0 10 (.call 87 [(.t 8), (.t 9)]),
 p0 5 (.mv (.t 10))])
 (.seq (.seq (.reg [
 p0 11 (.mv (.t 5)),
 p0 12 (.bin .eql (.t 11) (.c (.int .i64 (-1))))])
 (.cond (.t 12)
 (.seq (.reg [
 p0 13 (.mv (.t 0)),
 p0 4 (.mv (.t 13))])
 .ret)
 .skip))
 (.seq (.seq (.reg [
 p0 14 (.mv (.t 5)),
 p0 15 (.bin .add (.t 14) (.c (.int .i64 1))),
 p0 6 (.mv (.t 15))])
 (.block 0 (.loop (.seq (.seq (.reg [
 p0 16 (.mv (.t 6)),
 p0 17 (.mv (.t 0)),
 p0 18 (.len (.t 17)),
 p0 19 (.bin .lss (.t 16) (.t 18))])
 (.cond (.t 19)
 .skip
 (.exit 0)))
 (.seq (.block 1 (.seq (.reg [
 p0 22 (.mv (.t 0)),
 p0 23 (.mv (.t 6)),
 p0 24 (.iadr 4 (.t 22) (.t 23)),
 p0 25 (.ldA 4 (.t 24)),
 x0 7 (.zero 111 4 [(.str []), (.int .i64 0), (.int .i64 0), .nilslice]),
 s0 (.st 4 (.t 7) (.t 25))])
 (.seq (.reg [
 p0 26 (.mv (.t 1)),
 p0 27 (.ldA 4 (.t 7)),
 x0 28 (.callv (.t 26) [(.t 27)]),
 p0 29 (.un .not (.t 28))])
 (.cond (.t 29)
 (.seq (.reg [
 p0 30 (.mv (.t 0)),
 p0 31 (.mv (.t 5)),
 p0 32 (.ldA 4 (.t 7)),
 p0 33 (.iadr 4 (.t 30) (.t 31)),
 s0 (.st 4 (.t 33) (.t 32))])
 (.reg [
 p0 34 (.mv (.t 5)),
 p0 35 (.bin .add (.t 34) (.c (.int .i64 1))),
 p0 5 (.mv (.t 35))]))
 .skip))))
 (.reg [
 p0 20 (.mv (.t 6)),
 p0 21 (.bin .add (.t 20) (.c (.int .i64 1))),
 p0 6 (.mv (.t 21))]))))))
 (.seq (.reg [
 p0 36 (.mv (.t 0)),
 p0 37 (.mv (.t 5)),
 p0 38 (.slc 4 (.t 36) (some (.t 37)) none none),
 s0 (.ux (.clr 4 [(.str []), (.int .i64 0), (.int .i64 0), .nilslice]) [(.t 38)])])
 (.seq (.reg [
 p0 39 (.mv (.t 0)),
 p0 40 (.mv (.t 5)),
 p0 41 (.slc 4 (.t 39) none (some (.t 40)) none),
 p0 4 (.mv (.t 41))])
 .ret))))))
theorem ok77 : fnComp Tryd.prog 77 = some (42, c77, [(.mv (.t 4))]) := by kernel_rfl

def c78 : CC :=
 (.seq (.reg [
 x0 2 (.box 111 4 (.t 0)),
 p0 3 (.mv (.c (.bool false)))])
 (.seq (.dreg [
 p0 4 (.fadr 1 (.t 2)),
 p0 5 (.ld (.t 4)),
 p0 6 (.ld (.t 1)),
 p0 7 (.nck (.t 6)),
 p0 8 (.fadr 2 (.t 7)),
 p0 9 (.ld (.t 8)),
 p0 10 (.bin .leq (.t 5) (.t 9)),
 p0 3 (.mv (.t 10))]
 [false, false, false, false, false, false, false, false] [[],[0],[],[2],[3,2],[4,3,2],[1,0,5,4,3,2],[6,1,0,5,4,3,2]] [0,1,2,3,4,5,6,7])
 .ret))
theorem ok78 : fnComp Tryd.prog 78 = some (11, c78, [(.mv (.t 3))]) := by kernel_rfl

def c79 : CC :=
 (.seq (.reg [
 p0 6 (.mv (.c .nilslice))])
 (.seq (.seq (.reg [
 p0 8 (.mv (.t 1)),
 p0 9 (.bin .sub (.t 8) (.c (.int .i64 1))),
 p0 7 (.mv (.t 9))])
 (.block 0 (.loop (.seq (.seq (.reg [
 p0 10 (.mv (.t 7)),
 p0 11 (.bin .geq (.t 10) (.c (.int .i64 0)))])
 (.cond (.t 11)
 .skip
 (.exit 0)))
 (.seq (.block 1 (.reg [
 p0 14 (.mv (.t 0)),
 p0 15 (.mv (.t 2)),
 p0 16 (.cvI .u64 (.t 15)),
 p0 17 (.mv (.t 7)),
 p0 18 (.bin .mul (.c (.int .i64 8)) (.t 17)),
 p0 19 (.bin .shr (.t 16) (.t 18)),
 p0 20 (.cvI .u8 (.t 19)),
 x0 21 (.bslice 5 1 [(.int .u8 0)] 1 [(0, (.t 20))]),
 x0 22 (.app 5 1 1 (.t 14) (.t 21)),
 p0 0 (.mv (.t 22))]))
 (.reg [
 p0 12 (.mv (.t 7)),
 p0 13 (.bin .sub (.t 12) (.c (.int .i64 1))),
 p0 7 (.mv (.t 13))]))))))
 (.seq (.reg [
 p0 23 (.mv (.t 0)),
 p0 6 (.mv (.t 23))])
 .ret)))
theorem ok79 : fnComp Tryd.prog 79 = some (24, c79, [(.mv (.t 6))]) := by kernel_rfl

def c80 : CC :=
 (.seq (.reg [
 x0 1 (.box 116 2 (.t 0)),
 p0 2 (.mv (.c .nilslice)),
 p0 3 (.mv (.c (.int .i64 0)))])
 (.seq (.seq (.reg [
 p0 5 (.fadr 0 (.t 1)),
 p0 6 (.ld (.t 5)),
 x0 7 (.call 20 [(.t 6)]),
 p0 8 (.un .not (.t 7)),
 p0 9 (.mv (.t 8)),
 g0 10 9 false (.fadr 1 (.t 1)),
 g0 11 9 false (.ld (.t 10)),
 ⟨(some 12), (some (9, false)), .x (.call 38 [(.t 11)])⟩,
 g0 13 9 false (.un .not (.t 12)),
 p0 14 (.pick (.t 9) (.c (.bool true)) (.t 13))])
 (.cond (.t 14)
 (.seq (.reg [
 p0 2 (.mv (.c .nilslice)),
 p0 3 (.mv (.c (.int .i64 1)))])
 .ret)
 .skip))
 (.seq (.treg [
 p0 15 (.fadr 0 (.t 1)),
 p0 16 (.ld (.t 15)),
 x0 17 (.call 34 [(.t 16), (.c (.int .i64 2))]),
 p0 18 (.fadr 1 (.t 1)),
 p0 19 (.ld (.t 18)),
 p0 20 (.lenS (.t 19)),
 p0 21 (.cvI .u8 (.t 20)),
 x0 22 (.bslice 5 1 [(.int .u8 0)] 2 [(0, (.c (.int .u8 0))), (1, (.t 21))]),
 x0 23 (.call 33 [(.t 17), (.t 22)]),
 p0 4 (.mv (.t 23))]
 [[],[0],[1,0],[],[3],[4,3],[5,4,3],[6,5,4,3],[2,1,0,7,6,5,4,3],[8,2,1,0,7,6,5,4,3]] (.fl 0 (.fl 1 (.fl 3 (.fl 4 (.fl 5 (.fl 6 (.br 2 (.br 7 (.br 8 (.fl 9 .fin) .stop) .stop) (.br 7 (.br 2 (.br 8 (.fl 9 .fin) .stop) .stop) .stop)))))))))
 (.seq (.reg [
 p0 24 (.mv (.t 4)),
 p0 25 (.fadr 1 (.t 1)),
 p0 26 (.ld (.t 25)),
 x0 27 (.s2b 5 (.t 26)),
 x0 28 (.call 33 [(.t 24), (.t 27)]),
 p0 2 (.mv (.t 28)),
 p0 3 (.mv (.c (.int .i64 0)))])
 .ret))))
theorem ok80 : fnComp Tryd.prog 80 = some (29, c80, [(.mv (.t 2)), (.mv (.t 3))]) := by kernel_rfl

def c82 : CC :=
 (.seq (.reg [
 p0 4 (.mv (.c (.int .i64 0)))])
 (.seq (.seq (.reg [
 p0 7 (.mv (.t 1)),
 p0 8 (.lenS (.t 7)),
 p0 9 (.bin .eql (.t 8) (.c (.int .i64 0)))])
 (.cond (.t 9)
 (.seq (.reg [
 p0 10 (.mv (.t 0)),
 x0 11 (.call 88 [(.t 10)]),
 p0 12 (.bin .add (.t 11) (.c (.int .i64 1))),
 p0 4 (.mv (.t 12))])
 .ret)
 .skip))
 (.seq (.seq (.reg [
 p0 13 (.mv (.t 1)),
 p0 14 (.lenS (.t 13)),
 p0 15 (.bin .eql (.t 14) (.c (.int .i64 1)))])
 (.cond (.t 15)
 (.seq (.reg [
 p0 16 (.mv (.t 0)),
 p0 17 (.mv (.t 1)),
 p0 18 (.idxS (.t 17) (.c (.int .i64 0))),
 x0 19 (.call 90 [(.t 16), (.t 18)]),
 p0 4 (.mv (.t 19))])
 .ret)
 .skip))
 (.seq (.reg [
 p0 5 (.mv (.c (.int .i64 0)))])
 (.block 0 (.loop (.block 1 (.seq (.reg [
 p0 20 (.mv (.t 0)),
 p0 21 (.mv (.t 1)),
 x0 22 (.call 83 [(.t 20), (.t 21)]),
 p0 6 (.mv (.t 22))])
 (.seq (.seq (.reg [
 p0 23 (.mv (.t 6)),
 p0 24 (.bin .eql (.t 23) (.c (.int .i64 (-1))))])
 (.cond (.t 24)
 (.seq (.reg [
 p0 25 (.mv (.t 5)),
 p0 4 (.mv (.t 25))])
 .ret)
 .skip))
 (.seq (.reg [
 p0 26 (.mv (.t 5)),
 p0 27 (.bin .add (.t 26) (.c (.int .i64 1))),
 p0 5 (.mv (.t 27))])
 (.reg [
 p0 28 (.mv (.t 0)),
 p0 29 (.mv (.t 6)),
 p0 30 (.mv (.t 1)),
 p0 31 (.lenS (.t 30)),
 p0 32 (.bin .add (.t 29) (.t 31)),
 p0 33 (.slcS (.t 28) (some (.t 32)) none),
 p0 0 (.mv (.t 33))])))))))))))
theorem ok82 : fnComp Tryd.prog 82 = some (34, c82, [(.mv (.t 4))]) := by kernel_rfl

def c83 : CC :=
 (.seq (.reg [
 p0 4 (.mv (.c (.int .i64 0)))])
 (.seq (.reg [
 p0 5 (.mv (.t 0)),
 p0 6 (.mv (.t 1)),
 x0 7 (.call 91 [(.t 5), (.t 6)]),
 p0 4 (.mv (.t 7))])
 .ret))
theorem ok83 : fnComp Tryd.prog 83 = some (8, c83, [(.mv (.t 4))]) := by kernel_rfl

def c84 : CC :=
 (.seq (.reg [
 p0 2 (.mv (.c (.int .i64 0)))])
 (.seq (.reg [
 p0 3 (.mv (.c (.int .i64 0)))])
 (.seq (.seq (.reg [
 p0 6 (.mv (.t 0)),
 p0 7 (.len (.t 6)),
 p0 8 (.mv (.c (.int .i64 0)))])
 (.block 0 (.loop (.seq (.reg [
 p0 9 (.bin .lss (.t 8) (.t 7))])
 (.seq (.cond (.t 9)
 .skip
 (.exit 0))
 (.seq (.block 1 (.seq (.reg [
 p0 10 (.iadr 1 (.t 6) (.t 8)),
 p0 11 (.ld (.t 10)),
 p0 5 (.mv (.t 11))])
 (.reg [
 p0 12 (.mv (.t 3)),
 p0 13 (.bin .shl (.t 12) (.c (.int .u64 8))),
 p0 14 (.mv (.t 5)),
 p0 15 (.cvI .i64 (.t 14)),
 p0 16 (.bin .or (.t 13) (.t 15)),
 p0 3 (.mv (.t 16))])))
 (.reg [
 p0 17 (.bin .add (.t 8) (.c (.int .i64 1))),
 p0 8 (.mv (.t 17))])))))))
 (.seq (.reg [
 p0 18 (.mv (.t 3)),
 p0 2 (.mv (.t 18))])
 .ret))))
theorem ok84 : fnComp Tryd.prog 84 = some (19, c84, [(.mv (.t 2))]) := by kernel_rfl

def c85 : CC :=
 (.seq (.reg [
 p0 2 (.mv (.c (.bool false)))])
 (.seq (.reg [
 p0 3 (.mv (.t 0)),
 x0 4 (.call 68 [(.t 3)]),
 p0 5 (.un .not (.t 4)),
 p0 2 (.mv (.t 5))])
 .ret))
theorem ok85 : fnComp Tryd.prog 85 = some (6, c85, [(.mv (.t 2))]) := by kernel_rfl

def c86 : CC :=
 (.seq (.reg [
 p0 4 (.mv (.c (.int .i64 0)))])
 (.seq (.seq (.reg [
 p0 6 (.mv (.t 0)),
 p0 7 (.len (.t 6)),
 p0 8 (.mv (.c (.int .i64 0)))])
 (.block 0 (.loop (.seq (.reg [
 p0 9 (.bin .lss (.t 8) (.t 7))])
 (.seq (.cond (.t 9)
 .skip
 (.exit 0))
 (.seq (.block 1 (.seq (.reg [
 p0 10 (.mv (.t 8)),
 p0 5 (.mv (.t 10))])
 (.seq (.reg [
 p0 11 (.mv (.t 1)),
 p0 12 (.mv (.t 0)),
 p0 13 (.mv (.t 5)),
 p0 14 (.iadr 1 (.t 12) (.t 13)),
 p0 15 (.ld (.t 14)),
 x0 16 (.callv (.t 11) [(.t 15)])])
 (.cond (.t 16)
 (.seq (.reg [
 p0 17 (.mv (.t 5)),
 p0 4 (.mv (.t 17))])
 .ret)
 .skip))))
 (.reg [
 p0 18 (.bin .add (.t 8) (.c (.int .i64 1))),
 p0 8 (.mv (.t 18))])))))))
 (.seq (.reg [
 p0 4 (.mv (.c (.int .i64 (-1))))])
 .ret)))
theorem ok86 : fnComp Tryd.prog 86 = some (19, c86, [(.mv (.t 4))]) := by kernel_rfl

def c87 : CC :=
 (.seq (.reg [
 p0 4 (.mv (.c (.int .i64 0)))])
 (.seq (.seq (.reg [
 p0 6 (.mv (.t 0)),
 p0 7 (.len (.t 6)),
 p0 8 (.mv (.c (.int .i64 0)))])
 (.block 0 (.loop (.seq (.reg [
 p0 9 (.bin .lss (.t 8) (.t 7))])
 (.seq (.cond (.t 9)
 .skip
 (.exit 0))
 (.seq (.block 1 (.seq (.reg [
 p0 10 (.mv (.t 8)),
 p0 5 (.mv (.t 10))])
 (.seq (.reg [
 p0 11 (.mv (.t 1)),
 p0 12 (.mv (.t 0)),
 p0 13 (.mv (.t 5)),
 p0 14 (.iadr 4 (.t 12) (.t 13)),
 p0 15 (.ldA 4 (.t 14)),
 x0 16 (.callv (.t 11) [(.t 15)])])
 (.cond (.t 16)
 (.seq (.reg [
 p0 17 (.mv (.t 5)),
 p0 4 (.mv (.t 17))])
 .ret)
 .skip))))
 (.reg [
 p0 18 (.bin .add (.t 8) (.c (.int .i64 1))),
 p0 8 (.mv (.t 18))])))))))
 (.seq (.reg [
 p0 4 (.mv (.c (.int .i64 (-1))))])
 .ret)))
theorem ok87 : fnComp Tryd.prog 87 = some (19, c87, [(.mv (.t 4))]) := by kernel_rfl

def c91 : CC :=
 (.seq (.reg [
 p0 4 (.mv (.c (.int .i64 0)))])
 (.seq (.reg [
 p0 14 (.mv (.t 1)),
 p0 15 (.lenS (.t 14)),
 p0 5 (.mv (.t 15))])
 (.seq (.block 0 (.seq (.reg [
 p0 17 (.mv (.t 5)),
 p0 18 (.bin .eql (.t 17) (.c (.int .i64 0))),
 p0 19 (.mv (.t 18)),
 g0 20 19 false (.mv (.t 1)),
 g0 21 19 false (.mv (.t 0)),
 g0 22 19 false (.bin .eql (.t 20) (.t 21)),
 p0 23 (.pick (.t 19) (.c (.bool true)) (.t 22)),
 p0 16 (.mv (.t 23))])
 (.cond (.t 16)
 (.seq (.reg [
 p0 4 (.mv (.c (.int .i64 0)))])
 .ret)
 (.seq (.reg [
 p0 25 (.mv (.t 5)),
 p0 26 (.bin .eql (.t 25) (.c (.int .i64 1))),
 p0 24 (.mv (.t 26))])
 (.cond (.t 24)
 (.seq (.reg [
 p0 27 (.mv (.t 0)),
 p0 28 (.mv (.t 1)),
 p0 29 (.idxS (.t 28) (.c (.int .i64 0))),
 x0 30 (.call 93 [(.t 27), (.t 29)]),
 p0 4 (.mv (.t 30))])
 .ret)
 (.seq (.reg [
 p0 32 (.mv (.t 5)),
 p0 33 (.mv (.t 0)),
 p0 34 (.lenS (.t 33)),
 p0 35 (.bin .geq (.t 32) (.t 34)),
 p0 31 (.mv (.t 35))])
 (.cond (.t 31)
 (.seq (.reg [
 p0 4 (.mv (.c (.int .i64 (-1))))])
 .ret)
 (.seq (.reg [
 p0 37 (.mv (.t 5)),
 x0 38 (.ux .bad []),
 p0 39 (.bin .leq (.t 37) (.t 38)),
 p0 40 (.mv (.t 39)),
 g0 41 40 true (.mv (.t 0)),
 g0 42 40 true (.lenS (.t 41)),
 g0 43 40 true (.bin .leq (.t 42) (.c (.int .i64 64))),
 p0 44 (.pick (.t 40) (.t 43) (.c (.bool false))),
 p0 36 (.mv (.t 44))])
 (.cond (.t 36)
 (.seq (.reg [
 p0 45 (.mv (.t 0)),
 p0 46 (.mv (.t 1)),
 x0 47 (.call 94 [(.t 45), (.t 46)]),
 p0 4 (.mv (.t 47))])
 .ret)
 .skip)))))))))
 (.seq (.reg [
 p0 48 (.mv (.t 1)),
 p0 49 (.idxS (.t 48) (.c (.int .i64 0))),
 p0 6 (.mv (.t 49))])
 (.seq (.reg [
 p0 50 (.mv (.t 1)),
 p0 51 (.idxS (.t 50) (.c (.int .i64 1))),
 p0 7 (.mv (.t 51))])
 (.seq (.reg [
 p0 8 (.mv (.c (.int .i64 0)))])
 (.seq (.reg [
 p0 52 (.mv (.t 0)),
 p0 53 (.lenS (.t 52)),
 p0 54 (.mv (.t 5)),
 p0 55 (.bin .sub (.t 53) (.t 54)),
 p0 56 (.bin .add (.t 55) (.c (.int .i64 1))),
 p0 9 (.mv (.t 56))])
 (.seq (.reg [
 p0 10 (.mv (.c (.int .i64 0)))])
 (.seq (.block 1 (.loop (.seq (.seq (.reg [
 p0 57 (.mv (.t 8)),
 p0 58 (.mv (.t 9)),
 p0 59 (.bin .lss (.t 57) (.t 58))])
 (.cond (.t 59)
 .skip
 (.exit 1)))
 (.block 2 (.seq (.seq (.reg [
 p0 60 (.mv (.t 0)),
 p0 61 (.mv (.t 8)),
 p0 62 (.idxS (.t 60) (.t 61)),
 p0 63 (.mv (.t 6)),
 p0 64 (.bin .neq (.t 62) (.t 63))])
 (.cond (.t 64)
 (.seq (.reg [
 p0 65 (.mv (.t 0)),
 p0 66 (.mv (.t 8)),
 p0 67 (.bin .add (.t 66) (.c (.int .i64 1))),
 p0 68 (.mv (.t 9)),
 p0 69 (.slcS (.t 65) (some (.t 67)) (some (.t 68))),
 p0 70 (.mv (.t 6)),
 x0 71 (.call 93 [(.t 69), (.t 70)]),
 p0 11 (.mv (.t 71))])
 (.seq (.seq (.reg [
 p0 72 (.mv (.t 11)),
 p0 73 (.bin .lss (.t 72) (.c (.int .i64 0)))])
 (.cond (.t 73)
 (.seq (.reg [
 p0 4 (.mv (.c (.int .i64 (-1))))])
 .ret)
 .skip))
 (.reg [
 p0 74 (.mv (.t 8)),
 p0 75 (.mv (.t 11)),
 p0 76 (.bin .add (.t 75) (.c (.int .i64 1))),
 p0 77 (.bin .add (.t 74) (.t 76)),
 p0 8 (.mv (.t 77))])))
 .skip))
 (.seq (.seq (.reg [
 p0 78 (.mv (.t 0)),
 p0 79 (.mv (.t 8)),
 p0 80 (.bin .add (.t 79) (.c (.int .i64 1))),
 p0 81 (.idxS (.t 78) (.t 80)),
 p0 82 (.mv (.t 7)),
 p0 83 (.bin .eql (.t 81) (.t 82)),
 p0 84 (.mv (.t 83)),
 g0 85 84 true (.mv (.t 0)),
 g0 86 84 true (.mv (.t 8)),
 g0 87 84 true (.mv (.t 8)),
 g0 88 84 true (.mv (.t 5)),
 g0 89 84 true (.bin .add (.t 87) (.t 88)),
 g0 90 84 true (.slcS (.t 85) (some (.t 86)) (some (.t 89))),
 g0 91 84 true (.mv (.t 1)),
 g0 92 84 true (.bin .eql (.t 90) (.t 91)),
 p0 93 (.pick (.t 84) (.t 92) (.c (.bool false)))])
 (.cond (.t 93)
 (.seq (.reg [
 p0 94 (.mv (.t 8)),
 p0 4 (.mv (.t 94))])
 .ret)
 .skip))
 (.seq (.reg [
 p0 95 (.mv (.t 8)),
 p0 96 (.bin .add (.t 95) (.c (.int .i64 1))),
 p0 8 (.mv (.t 96))])
 (.seq (.reg [
 p0 97 (.mv (.t 10)),
 p0 98 (.bin .add (.t 97) (.c (.int .i64 1))),
 p0 10 (.mv (.t 98))])
 (.seq (.reg [
 p0 99 (.mv (.t 5)),
 x0 100 (.ux .bad []),
 p0 101 (.bin .leq (.t 99) (.t 100)),
 p0 102 (.mv (.t 101)),
 g0 103 102 true (.mv (.t 10)),
 g0 104 102 true (.mv (.t 8)),
 ⟨(some 105), (some (102, true)), .x (.call 95 [(.t 104)])⟩,
 g0 106 102 true (.bin .gtr (.t 103) (.t 105)),
 p0 107 (.pick (.t 102) (.t 106) (.c (.bool false)))])
 (.cond (.t 107)
 (.seq (.reg [
 p0 108 (.mv (.t 0)),
 p0 109 (.mv (.t 8)),
 p0 110 (.slcS (.t 108) (some (.t 109)) none),
 p0 111 (.mv (.t 1)),
 x0 112 (.call 94 [(.t 110), (.t 111)]),
 p0 12 (.mv (.t 112))])
 (.seq (.seq (.reg [
 p0 113 (.mv (.t 12)),
 p0 114 (.bin .geq (.t 113) (.c (.int .i64 0)))])
 (.cond (.t 114)
 (.seq (.reg [
 p0 115 (.mv (.t 12)),
 p0 116 (.mv (.t 8)),
 p0 117 (.bin .add (.t 115) (.t 116)),
 p0 4 (.mv (.t 117))])
 .ret)
 .skip))
 (.seq (.reg [
 p0 4 (.mv (.c (.int .i64 (-1))))])
 .ret)))
 (.seq (.reg [
 p0 118 (.mv (.t 5)),
 x0 119 (.ux .bad []),
 p0 120 (.bin .gtr (.t 118) (.t 119)),
 p0 121 (.mv (.t 120)),
 g0 122 121 true (.mv (.t 10)),
 g0 123 121 true (.mv (.t 8)),
 g0 124 121 true (.bin .shr (.t 123) (.c (.int .u64 4))),
 g0 125 121 true (.bin .add (.c (.int .i64 4)) (.t 124)),
 g0 126 121 true (.bin .geq (.t 122) (.t 125)),
 p0 127 (.pick (.t 121) (.t 126) (.c (.bool false))),
 p0 128 (.mv (.t 127)),
 g0 129 128 true (.mv (.t 8)),
 g0 130 128 true (.mv (.t 9)),
 g0 131 128 true (.bin .lss (.t 129) (.t 130)),
 p0 132 (.pick (.t 128) (.t 131) (.c (.bool false)))])
 (.cond (.t 132)
 (.seq (.reg [
 p0 133 (.mv (.t 0)),
 p0 134 (.mv (.t 8)),
 p0 135 (.slcS (.t 133) (some (.t 134)) none),
 p0 136 (.mv (.t 1)),
 x0 137 (.call 96 [(.t 135), (.t 136)]),
 p0 13 (.mv (.t 137))])
 (.seq (.seq (.reg [
 p0 138 (.mv (.t 13)),
 p0 139 (.bin .lss (.t 138) (.c (.int .i64 0)))])
 (.cond (.t 139)
 (.seq (.reg [
 p0 4 (.mv (.c (.int .i64 (-1))))])
 .ret)
 .skip))
 (.seq (.reg [
 p0 140 (.mv (.t 8)),
 p0 141 (.mv (.t 13)),
 p0 142 (.bin .add (.t 140) (.t 141)),
 p0 4 (.mv (.t 142))])
 .ret)))
 .skip))))))))))))
 (.seq (.reg [
 p0 4 (.mv (.c (.int .i64 (-1))))])
 .ret))))))))))
theorem ok91 : fnComp Tryd.prog 91 = some (143, c91, [(.mv (.t 4))]) := by kernel_rfl

def c93 : CC :=
 (.seq (.reg [
 p0 4 (.mv (.c (.int .i64 0)))])
 (.seq (.reg [
 p0 5 (.mv (.t 0)),
 p0 6 (.mv (.t 1)),
 x0 7 (.call 97 [(.t 5), (.t 6)]),
 p0 4 (.mv (.t 7))])
 .ret))
theorem ok93 : fnComp Tryd.prog 93 = some (8, c93, [(.mv (.t 4))]) := by kernel_rfl

end Go.Proofs.YtaoffieemecioaaDoor

namespace Go.Proofs.YtaoffieemecioaaDoor
open Go Go.IW
def c8 : CC :=
 (.seq (.reg [
 p0 6 (.mv (.c (.bool false)))])
 (.seq (.seq (.reg [
 p0 7 (.mv (.c (.int .i64 0)))])
 (.block 0 (.loop (.seq (.seq (.reg [
 p0 12 (.mv (.t 7)),
 p0 13 (.mv (.t 0)),
 p0 14 (.len (.t 13)),
 p0 15 (.bin .lss (.t 12) (.t 14))])
 (.cond (.t 15)
 .skip
 (.exit 0)))
 (.seq (.block 1 (.seq (.reg [
 p0 19 (.mv (.t 0)),
 p0 20 (.mv (.t 7)),
 p0 21 (.iadr 6 (.t 19) (.t 20)),
 p0 22 (.fadr 5 (.t 21)),
 p0 23 (.ld (.t 22)),
 x0 24 (.call 31 [(.t 23)]),
 p0 18 (.mv (.t 24)),
 p0 25 (.ext 0 (.t 18)),
 p0 26 (.ext 1 (.t 18)),
 x0 8 (.zero 55 5 [(.int .i64 0), (.int .i64 0), (.int .i64 0), (.str []), .nilslice]),
 s0 (.st 5 (.t 8) (.t 25)),
 p0 9 (.mv (.t 26))])
 (.seq (.seq (.reg [
 p0 27 (.mv (.t 0)),
 p0 28 (.mv (.t 7)),
 p0 29 (.iadr 6 (.t 27) (.t 28)),
 p0 30 (.fadr 0 (.t 29)),
 p0 31 (.ld (.t 30)),
 p0 32 (.bin .neq (.t 31) (.c (.int .i64 2))),
 p0 33 (.mv (.t 32)),
 g0 34 33 false (.mv (.t 9)),
 g0 35 33 false (.bin .neq (.t 34) (.c (.int .i64 0))),
 p0 36 (.pick (.t 33) (.c (.bool true)) (.t 35)),
 p0 37 (.mv (.t 36)),
 g0 38 37 false (.fadr 3 (.t 8)),
 g0 39 37 false (.ld (.t 38)),
 g0 40 37 false (.mv (.t 1)),
 g0 41 37 false (.bin .neq (.t 39) (.t 40)),
 p0 42 (.pick (.t 37) (.c (.bool true)) (.t 41)),
 p0 43 (.mv (.t 42)),
 g0 44 43 false (.fadr 4 (.t 8)),
 g0 45 43 false (.ld (.t 44)),
 g0 46 43 false (.len (.t 45)),
 g0 47 43 false (.mv (.t 2)),
 g0 48 43 false (.len (.t 47)),
 g0 49 43 false (.bin .neq (.t 46) (.t 48)),
 p0 50 (.pick (.t 43) (.c (.bool true)) (.t 49))])
 (.cond (.t 50)
 (.exit 1)
 .skip))
 (.seq (.reg [
 p0 10 (.mv (.c (.bool true)))])
 (.seq (.seq (.reg [
 p0 11 (.mv (.c (.int .i64 0)))])
 (.block 2 (.loop (.seq (.seq (.reg [
 p0 51 (.mv (.t 11)),
 p0 52 (.mv (.t 2)),
 p0 53 (.len (.t 52)),
 p0 54 (.bin .lss (.t 51) (.t 53))])
 (.cond (.t 54)
 .skip
 (.exit 2)))
 (.seq (.block 3 (.dreg [
 p0 57 (.mv (.t 10)),
 p0 58 (.mv (.t 57)),
 g0 59 58 true (.mv (.t 2)),
 g0 60 58 true (.mv (.t 11)),
 g0 61 58 true (.iadr 1 (.t 59) (.t 60)),
 g0 62 58 true (.ld (.t 61)),
 g0 63 58 true (.fadr 4 (.t 8)),
 g0 64 58 true (.ld (.t 63)),
 g0 65 58 true (.mv (.t 11)),
 g0 66 58 true (.iadr 1 (.t 64) (.t 65)),
 g0 67 58 true (.ld (.t 66)),
 g0 68 58 true (.bin .eql (.t 62) (.t 67)),
 p0 69 (.pick (.t 58) (.t 68) (.c (.bool false))),
 p0 10 (.mv (.t 69))]
 [false, false, false, false, false, false, false, false, false, false, false, false, false, true] [[],[0],[1,0],[1,0],[2,1,0,3],[4,2,1,0,3],[1,0],[6,1,0],[1,0],[7,6,1,0,8],[9,7,6,1,0,8],[5,4,2,1,0,3,10,9,7,6,8],[1,0,11,5,4,2,3,10,9,7,6,8],[12,1,0,11,5,4,2,3,10,9,7,6,8]] [0,1,2,3,4,5,6,7,8,9,10,11,12,13]))
 (.reg [
 p0 55 (.mv (.t 11)),
 p0 56 (.bin .add (.t 55) (.c (.int .i64 1))),
 p0 11 (.mv (.t 56))]))))))
 (.seq (.reg [
 p0 70 (.mv (.t 10))])
 (.cond (.t 70)
 (.seq (.reg [
 p0 6 (.mv (.c (.bool true)))])
 .ret)
 .skip)))))))
 (.reg [
 p0 16 (.mv (.t 7)),
 p0 17 (.bin .add (.t 16) (.c (.int .i64 1))),
 p0 7 (.mv (.t 17))]))))))
 (.seq (.reg [
 p0 6 (.mv (.c (.bool false)))])
 .ret)))
theorem ok8 : fnComp Tryd.prog 8 = some (71, c8, [(.mv (.t 6))]) := by kernel_rfl

def c11 : CC :=
 (.seq (.reg [
 x0 1 (.box 55 5 (.t 0)),
 p0 2 (.mv (.c .nilslice)),
 p0 3 (.mv (.c (.int .i64 0)))])
 (.seq (.seq (.reg [
 p0 6 (.ldA 5 (.t 1)),
 x0 7 (.call 32 [(.t 6)]),
 p0 8 (.un .not (.t 7))])
 (.cond (.t 8)
 (.seq (.reg [
 p0 2 (.mv (.c .nilslice)),
 p0 3 (.mv (.c (.int .i64 1)))])
 .ret)
 .skip))
 (.seq (.treg [
 p0 9 (.fadr 0 (.t 1)),
 p0 10 (.ld (.t 9)),
 x0 11 (.call 34 [(.t 10), (.c (.int .i64 2))]),
 p0 12 (.fadr 1 (.t 1)),
 p0 13 (.ld (.t 12)),
 p0 14 (.cvI .u8 (.t 13)),
 x0 15 (.bslice 5 1 [(.int .u8 0)] 2 [(0, (.c (.int .u8 1))), (1, (.t 14))]),
 x0 16 (.call 33 [(.t 11), (.t 15)]),
 p0 4 (.mv (.t 16))]
 [[],[0],[1,0],[],[3],[4,3],[5,4,3],[2,1,0,6,5,4,3],[7,2,1,0,6,5,4,3]] (.fl 0 (.fl 1 (.fl 3 (.fl 4 (.fl 5 (.br 2 (.br 6 (.br 7 (.fl 8 .fin) .stop) .stop) (.br 6 (.br 2 (.br 7 (.fl 8 .fin) .stop) .stop) .stop))))))))
 (.seq (.treg [
 p0 17 (.mv (.t 4)),
 p0 18 (.fadr 2 (.t 1)),
 p0 19 (.ld (.t 18)),
 x0 20 (.call 34 [(.t 19), (.c (.int .i64 4))]),
 x0 21 (.call 33 [(.t 17), (.t 20)]),
 p0 22 (.fadr 3 (.t 1)),
 p0 23 (.ld (.t 22)),
 p0 24 (.lenS (.t 23)),
 p0 25 (.cvI .u8 (.t 24)),
 x0 26 (.bslice 5 1 [(.int .u8 0)] 1 [(0, (.t 25))]),
 x0 27 (.call 33 [(.t 21), (.t 26)]),
 p0 4 (.mv (.t 27))]
 [[],[],[1],[2,1],[0,3,2,1],[],[5],[6,5],[7,6,5],[8,7,6,5],[4,0,3,2,1,9,8,7,6,5],[10,4,0,3,2,1,9,8,7,6,5]] (.fl 0 (.fl 1 (.fl 2 (.fl 5 (.fl 6 (.fl 7 (.fl 8 (.br 3 (.br 4 (.br 9 (.br 10 (.br 11 .fin .stop) .stop) .stop) (.br 9 (.br 4 (.br 10 (.br 11 .fin .stop) .stop) .stop) .stop)) (.br 9 (.br 3 (.br 4 (.br 10 (.br 11 .fin .stop) .stop) .stop) .stop) .stop))))))))))
 (.seq (.treg [
 p0 28 (.mv (.t 4)),
 p0 29 (.fadr 3 (.t 1)),
 p0 30 (.ld (.t 29)),
 x0 31 (.s2b 5 (.t 30)),
 x0 32 (.call 33 [(.t 28), (.t 31)]),
 p0 33 (.fadr 4 (.t 1)),
 p0 34 (.ld (.t 33)),
 p0 35 (.len (.t 34)),
 p0 36 (.cvI .u8 (.t 35)),
 x0 37 (.bslice 5 1 [(.int .u8 0)] 1 [(0, (.t 36))]),
 x0 38 (.call 33 [(.t 32), (.t 37)]),
 p0 4 (.mv (.t 38))]
 [[],[],[1],[2,1],[0,3,2,1],[],[5],[6,5],[7,6,5],[8,7,6,5],[4,0,3,2,1,9,8,7,6,5],[10,4,0,3,2,1,9,8,7,6,5]] (.fl 0 (.fl 1 (.fl 2 (.fl 5 (.fl 6 (.fl 7 (.fl 8 (.br 3 (.br 4 (.br 9 (.br 10 (.br 11 .fin .stop) .stop) .stop) (.br 9 (.br 4 (.br 10 (.br 11 .fin .stop) .stop) .stop) .stop)) (.br 9 (.br 3 (.br 4 (.br 10 (.br 11 .fin .stop) .stop) .stop) .stop) .stop))))))))))
 (.seq (.seq (.reg [
 p0 5 (.mv (.c (.int .i64 0)))])
 (.block 0 (.loop (.seq (.seq (.reg [
 p0 39 (.mv (.t 5)),
 p0 40 (.fadr 4 (.t 1)),
 p0 41 (.ld (.t 40)),
 p0 42 (.len (.t 41)),
 p0 43 (.bin .lss (.t 39) (.t 42))])
 (.cond (.t 43)
 .skip
 (.exit 0)))
 (.seq (.block 1 (.reg [
 p0 46 (.mv (.t 4)),
 p0 47 (.fadr 4 (.t 1)),
 p0 48 (.ld (.t 47)),
 p0 49 (.mv (.t 5)),
 p0 50 (.iadr 1 (.t 48) (.t 49)),
 p0 51 (.ld (.t 50)),
 x0 52 (.call 34 [(.t 51), (.c (.int .i64 4))]),
 x0 53 (.call 33 [(.t 46), (.t 52)]),
 p0 4 (.mv (.t 53))]))
 (.reg [
 p0 44 (.mv (.t 5)),
 p0 45 (.bin .add (.t 44) (.c (.int .i64 1))),
 p0 5 (.mv (.t 45))]))))))
 (.seq (.reg [
 p0 54 (.mv (.t 4)),
 p0 2 (.mv (.t 54)),
 p0 3 (.mv (.c (.int .i64 0)))])
 .ret)))))))
theorem ok11 : fnComp Tryd.prog 11 = some (55, c11, [(.mv (.t 2)), (.mv (.t 3))]) := by kernel_rfl

def c13 : CC :=
 (.seq (.reg [
 x0 2 (.zero 58 3 [.nilslice, (.int .i64 0), (.int .u64 0)])])
 (.seq (.reg [
 p0 5 (.mv (.t 0)),
 p0 6 (.build [.nilslice, (.int .i64 0), (.int .u64 0)] [(0, 1, (.t 5))]),
 x0 3 (.zero 58 3 [.nilslice, (.int .i64 0), (.int .u64 0)]),
 s0 (.st 3 (.t 3) (.t 6))])
 (.seq (.reg [
 p0 7 (.fadr 2 (.t 3)),
 s0 (.st 1 (.t 7) (.c (.int .u64 1469598103934665603)))])
 (.seq (.seq (.reg [
 p0 4 (.mv (.c (.int .i64 0)))])
 (.block 0 (.loop (.seq (.seq (.reg [
 p0 8 (.mv (.t 4)),
 p0 9 (.mv (.t 0)),
 p0 10 (.len (.t 9)),
 p0 11 (.bin .lss (.t 8) (.t 10))])
 (.cond (.t 11)
 .skip
 (.exit 0)))
 (.seq (.block 1 (.dreg [
 p0 14 (.fadr 2 (.t 3)),
 p0 15 (.ld (.t 14)),
 p0 16 (.mv (.t 0)),
 p0 17 (.mv (.t 4)),
 p0 18 (.iadr 1 (.t 16) (.t 17)),
 p0 19 (.ld (.t 18)),
 p0 20 (.cvI .u64 (.t 19)),
 p0 21 (.bin .xor (.t 15) (.t 20)),
 p0 22 (.bin .mul (.t 21) (.c (.int .u64 1099511628211))),
 p0 23 (.fadr 2 (.t 3)),
 s0 (.st 1 (.t 23) (.t 22))]
 [false, false, false, false, false, false, false, false, false, false, true] [[],[0],[],[],[2,3],[4,2,3],[5,4,2,3],[1,0,6,5,4,2,3],[7,1,0,6,5,4,2,3],[0,1,2,3,4,5,6,7,8],[9,0,1,2,3,4,5,6,7,8]] [0,1,2,3,4,5,6,7,8,9,10]))
 (.reg [
 p0 12 (.mv (.t 4)),
 p0 13 (.bin .add (.t 12) (.c (.int .i64 1))),
 p0 4 (.mv (.t 13))]))))))
 (.seq (.reg [
 p0 24 (.ldA 3 (.t 3)),
 s0 (.st 3 (.t 2) (.t 24))])
 .ret)))))
theorem ok13 : fnComp Tryd.prog 13 = some (25, c13, [(.ldA 3 (.t 2))]) := by kernel_rfl

def c14 : CC :=
 (.seq (.reg [
 p0 4 (.mv (.c (.int .i64 0)))])
 (.seq (.seq (.reg [
 p0 6 (.mv (.t 1)),
 p0 7 (.bin .leq (.t 6) (.c (.int .i64 0)))])
 (.cond (.t 7)
 (.seq (.reg [
 p0 4 (.mv (.c (.int .i64 0)))])
 .ret)
 .skip))
 (.seq (.reg [
 p0 8 (.mv (.t 0)),
 p0 9 (.mv (.t 0)),
 p0 10 (.nck (.t 9)),
 p0 11 (.fadr 2 (.t 10)),
 p0 12 (.ld (.t 11)),
 p0 13 (.bin .mul (.t 12) (.c (.int .u64 6364136223846793005))),
 p0 14 (.bin .add (.t 13) (.c (.int .u64 1442695040888963407))),
 p0 15 (.nck (.t 8)),
 p0 16 (.fadr 2 (.t 15)),
 s0 (.st 1 (.t 16) (.t 14))])
 (.seq (.reg [
 p0 17 (.mv (.t 0)),
 p0 18 (.nck (.t 17)),
 p0 19 (.fadr 2 (.t 18)),
 p0 20 (.ld (.t 19)),
 p0 21 (.bin .shr (.t 20) (.c (.int .u64 33))),
 p0 5 (.mv (.t 21))])
 (.seq (.seq (.dreg [
 p0 22 (.mv (.t 0)),
 p0 23 (.nck (.t 22)),
 p0 24 (.fadr 1 (.t 23)),
 p0 25 (.ld (.t 24)),
 p0 26 (.mv (.t 0)),
 p0 27 (.nck (.t 26)),
 p0 28 (.fadr 0 (.t 27)),
 p0 29 (.ld (.t 28)),
 p0 30 (.len (.t 29)),
 p0 31 (.bin .lss (.t 25) (.t 30))]
 [false, false, false, false, false, false, false, false, false, false] [[],[0],[1,0],[2,1,0],[],[4],[5,4],[6,5,4],[7,6,5,4],[3,2,1,0,8,7,6,5,4]] [0,1,2,3,4,5,6,7,8,9])
 (.cond (.t 31)
 (.seq (.dreg [
 p0 32 (.mv (.t 5)),
 p0 33 (.mv (.t 0)),
 p0 34 (.nck (.t 33)),
 p0 35 (.fadr 0 (.t 34)),
 p0 36 (.ld (.t 35)),
 p0 37 (.mv (.t 0)),
 p0 38 (.nck (.t 37)),
 p0 39 (.fadr 1 (.t 38)),
 p0 40 (.ld (.t 39)),
 p0 41 (.iadr 1 (.t 36) (.t 40)),
 p0 42 (.ld (.t 41)),
 p0 43 (.cvI .u64 (.t 42)),
 p0 44 (.bin .xor (.t 32) (.t 43)),
 p0 5 (.mv (.t 44))]
 [false, false, false, false, false, false, false, false, false, false, false, false, false, true] [[],[],[1],[2,1],[3,2,1],[],[5],[6,5],[7,6,5],[4,3,2,1,8,7,6,5],[9,4,3,2,1,8,7,6,5],[10,9,4,3,2,1,8,7,6,5],[0,11,10,9,4,3,2,1,8,7,6,5],[12,0,11,10,9,4,3,2,1,8,7,6,5]] [0,1,2,3,4,5,6,7,8,9,10,11,12,13])
 (.reg [
 p0 45 (.mv (.t 0)),
 p0 46 (.mv (.t 0)),
 p0 47 (.nck (.t 46)),
 p0 48 (.fadr 1 (.t 47)),
 p0 49 (.ld (.t 48)),
 p0 50 (.bin .add (.t 49) (.c (.int .i64 1))),
 p0 51 (.nck (.t 45)),
 p0 52 (.fadr 1 (.t 51)),
 s0 (.st 1 (.t 52) (.t 50))]))
 .skip))
 (.seq (.reg [
 p0 53 (.mv (.t 5)),
 p0 54 (.mv (.t 1)),
 p0 55 (.cvI .u64 (.t 54)),
 p0 56 (.bin .rem (.t 53) (.t 55)),
 p0 57 (.cvI .i64 (.t 56)),
 p0 4 (.mv (.t 57))])
 .ret))))))
theorem ok14 : fnComp Tryd.prog 14 = some (58, c14, [(.mv (.t 4))]) := by kernel_rfl

def c15 : CC :=
 (.seq (.reg [
 p0 4 (.mv (.c (.int .i64 0)))])
 (.seq (.seq (.reg [
 p0 5 (.mv (.t 0)),
 p0 6 (.mv (.t 1)),
 p0 7 (.bin .lss (.t 5) (.t 6))])
 (.cond (.t 7)
 (.seq (.reg [
 p0 8 (.mv (.t 0)),
 p0 4 (.mv (.t 8))])
 .ret)
 .skip))
 (.seq (.reg [
 p0 9 (.mv (.t 1)),
 p0 4 (.mv (.t 9))])
 .ret)))
theorem ok15 : fnComp Tryd.prog 15 = some (10, c15, [(.mv (.t 4))]) := by kernel_rfl

def c16 : CC :=
 (.seq (.reg [
 p0 2 (.mv (.c (.str [])))])
 (.seq (.reg [
 x0 3 (.bslice 9 1 [(.str [])] 6 [(0, (.c (.str [97]))), (1, (.c (.str [98,46,108,97,110]))), (2, (.c (.str [102,105,108,101,115,46,108,97,110]))), (3, (.c (.str [120,45,49,46,121,46,122]))), (4, (.c (.str [119,119,119,46,101,120,97,109,112,108,101,45,55,46,110,101,116]))), (5, (.c (.str [113])))]),
 p0 4 (.mv (.t 0)),
 x0 5 (.call 14 [(.t 4), (.c (.int .i64 6))]),
 p0 6 (.iadr 1 (.t 3) (.t 5)),
 p0 7 (.ld (.t 6)),
 p0 2 (.mv (.t 7))])
 .ret))
theorem ok16 : fnComp Tryd.prog 16 = some (8, c16, [(.mv (.t 2))]) := by kernel_rfl

def c17 : CC :=
 (.seq (.reg [
 p0 2 (.mv (.c (.str [])))])
 (.seq (.seq (.reg [
 p0 3 (.mv (.t 0)),
 p0 4 (.bin .lss (.t 3) (.c (.int .i64 10)))])
 (.cond (.t 4)
 (.seq (.reg [
 p0 5 (.mv (.t 0)),
 p0 6 (.bin .add (.c (.int .i64 48)) (.t 5)),
 p0 7 (.cvI .u8 (.t 6)),
 x0 8 (.bslice 5 1 [(.int .u8 0)] 1 [(0, (.t 7))]),
 p0 9 (.b2s (.t 8)),
 p0 2 (.mv (.t 9))])
 .ret)
 .skip))
 (.seq (.treg [
 p0 10 (.mv (.t 0)),
 p0 11 (.bin .quo (.t 10) (.c (.int .i64 10))),
 x0 12 (.call 17 [(.t 11)]),
 p0 13 (.mv (.t 0)),
 p0 14 (.bin .rem (.t 13) (.c (.int .i64 10))),
 p0 15 (.bin .add (.c (.int .i64 48)) (.t 14)),
 p0 16 (.cvI .u8 (.t 15)),
 x0 17 (.bslice 5 1 [(.int .u8 0)] 1 [(0, (.t 16))]),
 p0 18 (.b2s (.t 17)),
 p0 19 (.bin .add (.t 12) (.t 18)),
 p0 2 (.mv (.t 19))]
 [[],[0],[1,0],[],[3],[4,3],[5,4,3],[6,5,4,3],[7,6,5,4,3],[2,1,0,8,7,6,5,4,3],[9,2,1,0,8,7,6,5,4,3]] (.fl 0 (.fl 1 (.fl 3 (.fl 4 (.fl 5 (.fl 6 (.br 2 (.br 7 (.fl 8 (.fl 9 (.fl 10 .fin))) .stop) (.br 7 (.fl 8 (.br 2 (.fl 9 (.fl 10 .fin)) .stop)) .stop)))))))))
 .ret)))
theorem ok17 : fnComp Tryd.prog 17 = some (20, c17, [(.mv (.t 2))]) := by kernel_rfl

def c18 : CC :=
 (.seq (.reg [
 x0 3 (.box 49 2 (.t 1)),
 x0 4 (.zero 30 6 [(.int .i64 0), (.int .i64 0), (.int .i64 0), (.int .i64 0), (.str []), .nilslice])])
 (.seq (.dreg [
 p0 15 (.mv (.t 0)),
 x0 16 (.call 36 [(.t 15)]),
 p0 17 (.fadr 1 (.t 3)),
 p0 18 (.ld (.t 17)),
 x0 19 (.call 35 [(.t 16), (.t 18)]),
 p0 14 (.mv (.t 19)),
 p0 20 (.ext 0 (.t 14)),
 p0 21 (.ext 1 (.t 14)),
 p0 5 (.mv (.t 20)),
 p0 6 (.mv (.t 21))]
 [false, true, false, false, true, false, false, false, false, false] [[],[0],[],[2],[1,0,3,2],[4,1,0,3,2],[5,4,1,0,3,2],[5,4,1,0,3,2],[6,5,4,1,0,3,2],[7,5,4,1,0,3,2,8,6]] [0,2,3,1,4,5,6,7,8,9])
 (.seq (.reg [
 p0 22 (.fadr 0 (.t 3)),
 p0 23 (.ld (.t 22)),
 p0 24 (.mv (.t 5)),
 p0 25 (.build [(.int .i64 0), (.int .i64 0), (.int .i64 0), (.int .i64 0), (.str []), .nilslice] [(0, 1, (.c (.int .i64 2))), (1, 1, (.t 23)), (2, 1, (.c (.int .i64 53))), (5, 1, (.t 24))]),
 x0 7 (.zero 30 6 [(.int .i64 0), (.int .i64 0), (.int .i64 0), (.int .i64 0), (.str []), .nilslice]),
 s0 (.st 6 (.t 7) (.t 25))])
 (.seq (.seq (.reg [
 p0 26 (.mv (.t 0)),
 x0 27 (.call 14 [(.t 26), (.c (.int .i64 16))])])
 (.block 0 (.seq (.reg [
 p0 29 (.bin .eql (.t 27) (.c (.int .i64 0))),
 p0 28 (.mv (.t 29))])
 (.cond (.t 28)
 (.reg [
 p0 30 (.fadr 1 (.t 7)),
 p0 31 (.ld (.t 30)),
 p0 32 (.bin .add (.t 31) (.c (.int .i64 1))),
 p0 33 (.fadr 1 (.t 7)),
 s0 (.st 1 (.t 33) (.t 32))])
 (.seq (.reg [
 p0 35 (.bin .eql (.t 27) (.c (.int .i64 1))),
 p0 34 (.mv (.t 35))])
 (.cond (.t 34)
 (.reg [
 p0 36 (.fadr 2 (.t 7)),
 s0 (.st 1 (.t 36) (.c (.int .i64 54)))])
 (.seq (.reg [
 p0 38 (.bin .eql (.t 27) (.c (.int .i64 2))),
 p0 37 (.mv (.t 38))])
 (.cond (.t 37)
 (.reg [
 p0 39 (.mv (.t 0)),
 p0 40 (.mv (.t 5)),
 x0 41 (.call 37 [(.t 39), (.t 40), (.c (.int .i64 4))]),
 p0 42 (.fadr 5 (.t 7)),
 s0 (.st 1 (.t 42) (.t 41))])
 (.seq (.reg [
 p0 44 (.bin .eql (.t 27) (.c (.int .i64 3))),
 p0 43 (.mv (.t 44))])
 (.cond (.t 43)
 (.seq (.reg [
 p0 46 (.mv (.t 5)),
 x0 47 (.call 31 [(.t 46)]),
 p0 45 (.mv (.t 47)),
 p0 48 (.ext 0 (.t 45)),
 p0 49 (.ext 1 (.t 45)),
 x0 8 (.zero 55 5 [(.int .i64 0), (.int .i64 0), (.int .i64 0), (.str []), .nilslice]),
 s0 (.st 5 (.t 8) (.t 48)),
 p0 9 (.mv (.t 49))])
 (.seq (.reg [
 p0 50 (.fadr 0 (.t 8)),
 p0 51 (.ld (.t 50)),
 p0 52 (.bin .add (.t 51) (.c (.int .i64 1))),
 p0 53 (.bin .rem (.t 52) (.c (.int .i64 65536))),
 p0 54 (.fadr 0 (.t 8)),
 s0 (.st 1 (.t 54) (.t 53))])
 (.reg [
 p0 56 (.ldA 5 (.t 8)),
 x0 57 (.call 11 [(.t 56)]),
 p0 55 (.mv (.t 57)),
 p0 58 (.ext 0 (.t 55)),
 p0 59 (.ext 1 (.t 55)),
 p0 60 (.fadr 5 (.t 7)),
 s0 (.st 1 (.t 60) (.t 58))])))
 (.seq (.seq (.reg [
 p0 62 (.bin .eql (.t 27) (.c (.int .i64 4))),
 p0 61 (.mv (.t 62))])
 (.cond (.t 61)
 .skip
 (.reg [
 p0 63 (.bin .eql (.t 27) (.c (.int .i64 5))),
 p0 61 (.mv (.t 63))])))
 (.cond (.t 61)
 (.seq (.reg [
 p0 65 (.mv (.t 5)),
 x0 66 (.call 31 [(.t 65)]),
 p0 64 (.mv (.t 66)),
 p0 67 (.ext 0 (.t 64)),
 p0 68 (.ext 1 (.t 64)),
 x0 10 (.zero 55 5 [(.int .i64 0), (.int .i64 0), (.int .i64 0), (.str []), .nilslice]),
 s0 (.st 5 (.t 10) (.t 67)),
 p0 11 (.mv (.t 68))])
 (.seq (.reg [
 p0 69 (.fadr 1 (.t 10)),
 s0 (.st 1 (.t 69) (.c (.int .i64 3)))])
 (.reg [
 p0 71 (.ldA 5 (.t 10)),
 x0 72 (.call 11 [(.t 71)]),
 p0 70 (.mv (.t 72)),
 p0 73 (.ext 0 (.t 70)),
 p0 74 (.ext 1 (.t 70)),
 p0 75 (.fadr 5 (.t 7)),
 s0 (.st 1 (.t 75) (.t 73))])))
 (.seq (.reg [
 p0 77 (.bin .eql (.t 27) (.c (.int .i64 6))),
 p0 76 (.mv (.t 77))])
 (.cond (.t 76)
 (.seq (.reg [
 p0 79 (.mv (.t 5)),
 x0 80 (.call 31 [(.t 79)]),
 p0 78 (.mv (.t 80)),
 p0 81 (.ext 0 (.t 78)),
 p0 82 (.ext 1 (.t 78)),
 x0 12 (.zero 55 5 [(.int .i64 0), (.int .i64 0), (.int .i64 0), (.str []), .nilslice]),
 s0 (.st 5 (.t 12) (.t 81)),
 p0 13 (.mv (.t 82))])
 (.seq (.reg [
 p0 83 (.fadr 3 (.t 12)),
 s0 (.st 1 (.t 83) (.c (.str [111,116,104,101,114])))])
 (.reg [
 p0 85 (.ldA 5 (.t 12)),
 x0 86 (.call 11 [(.t 85)]),
 p0 84 (.mv (.t 86)),
 p0 87 (.ext 0 (.t 84)),
 p0 88 (.ext 1 (.t 84)),
 p0 89 (.fadr 5 (.t 7)),
 s0 (.st 1 (.t 89) (.t 87))])))
 .skip))))))))))))))
 (.seq (.reg [
 p0 90 (.ldA 6 (.t 7)),
 s0 (.st 6 (.t 4) (.t 90))])
 .ret)))))
theorem ok18 : fnComp Tryd.prog 18 = some (91, c18, [(.ldA 6 (.t 4))]) := by kernel_rfl

def c35 : CC :=
 (.seq (.reg [
 p0 4 (.mv (.c .nilslice)),
 p0 5 (.mv (.c (.int .i64 0)))])
 (.seq (.reg [
 p0 12 (.mv (.t 1)),
 x0 13 (.call 58 [(.t 12)]),
 p0 11 (.mv (.t 13)),
 p0 14 (.ext 0 (.t 11)),
 p0 15 (.ext 1 (.t 11)),
 x0 6 (.zero 116 2 [(.int .i64 0), (.str [])]),
 s0 (.st 2 (.t 6) (.t 14)),
 p0 7 (.mv (.t 15))])
 (.seq (.seq (.reg [
 p0 16 (.mv (.t 7)),
 p0 17 (.bin .neq (.t 16) (.c (.int .i64 0)))])
 (.cond (.t 17)
 (.seq (.reg [
 p0 18 (.mv (.t 7)),
 p0 4 (.mv (.c .nilslice)),
 p0 5 (.mv (.t 18))])
 .ret)
 .skip))
 (.seq (.reg [
 p0 19 (.fadr 0 (.t 6)),
 p0 20 (.ld (.t 19)),
 p0 21 (.fadr 1 (.t 6)),
 p0 22 (.ld (.t 21)),
 p0 23 (.build [(.int .i64 0), (.int .i64 0), (.int .i64 0), (.str []), .nilslice] [(0, 1, (.t 20)), (3, 1, (.t 22)), (1, 1, (.c (.int .i64 20))), (2, 1, (.c (.int .i64 10)))]),
 x0 8 (.zero 55 5 [(.int .i64 0), (.int .i64 0), (.int .i64 0), (.str []), .nilslice]),
 s0 (.st 5 (.t 8) (.t 23))])
 (.seq (.seq (.reg [
 p0 9 (.mv (.c (.int .i64 0)))])
 (.block 0 (.loop (.seq (.seq (.reg [
 p0 24 (.mv (.t 9)),
 p0 25 (.mv (.t 0)),
 p0 26 (.len (.t 25)),
 p0 27 (.bin .lss (.t 24) (.t 26))])
 (.cond (.t 27)
 .skip
 (.exit 0)))
 (.seq (.block 1 (.seq (.reg [
 p0 30 (.mv (.t 0)),
 p0 31 (.mv (.t 9)),
 p0 32 (.iadr 3 (.t 30) (.t 31)),
 p0 33 (.ldA 3 (.t 32)),
 x0 10 (.zero 124 3 [(.str []), (.int .i64 0), (.int .i64 0)]),
 s0 (.st 3 (.t 10) (.t 33))])
 (.seq (.seq (.reg [
 p0 34 (.fadr 0 (.t 10)),
 p0 35 (.ld (.t 34)),
 p0 36 (.fadr 1 (.t 6)),
 p0 37 (.ld (.t 36)),
 p0 38 (.bin .neq (.t 35) (.t 37)),
 p0 39 (.mv (.t 38)),
 g0 40 39 false (.fadr 1 (.t 10)),
 g0 41 39 false (.ld (.t 40)),
 ⟨(some 42), (some (39, false)), .x (.call 44 [(.t 41)])⟩,
 g0 43 39 false (.un .not (.t 42)),
 p0 44 (.pick (.t 39) (.c (.bool true)) (.t 43)),
 p0 45 (.mv (.t 44)),
 g0 46 45 false (.fadr 2 (.t 10)),
 g0 47 45 false (.ld (.t 46)),
 ⟨(some 48), (some (45, false)), .x (.call 43 [(.t 47), (.c (.int .i64 0)), (.c (.int .i64 86400))])⟩,
 g0 49 45 false (.un .not (.t 48)),
 p0 50 (.pick (.t 45) (.c (.bool true)) (.t 49)),
 p0 51 (.mv (.t 50)),
 g0 52 51 false (.fadr 4 (.t 8)),
 g0 53 51 false (.ld (.t 52)),
 g0 54 51 false (.len (.t 53)),
 g0 55 51 false (.bin .geq (.t 54) (.c (.int .i64 8))),
 p0 56 (.pick (.t 51) (.c (.bool true)) (.t 55))])
 (.cond (.t 56)
 (.exit 1)
 .skip))
 (.seq (.seq (.reg [
 p0 57 (.fadr 1 (.t 8)),
 p0 58 (.ld (.t 57)),
 p0 59 (.bin .neq (.t 58) (.c (.int .i64 0))),
 p0 60 (.mv (.t 59)),
 g0 61 60 false (.fadr 2 (.t 10)),
 g0 62 60 false (.ld (.t 61)),
 g0 63 60 false (.fadr 2 (.t 8)),
 g0 64 60 false (.ld (.t 63)),
 g0 65 60 false (.bin .lss (.t 62) (.t 64)),
 p0 66 (.pick (.t 60) (.c (.bool true)) (.t 65))])
 (.cond (.t 66)
 (.reg [
 p0 67 (.fadr 2 (.t 10)),
 p0 68 (.ld (.t 67)),
 p0 69 (.fadr 2 (.t 8)),
 s0 (.st 1 (.t 69) (.t 68))])
 .skip))
 (.seq (.reg [
 p0 70 (.fadr 1 (.t 8)),
 s0 (.st 1 (.t 70) (.c (.int .i64 0)))])
 (.reg [
 p0 71 (.fadr 4 (.t 8)),
 p0 72 (.ld (.t 71)),
 p0 73 (.fadr 1 (.t 10)),
 p0 74 (.ld (.t 73)),
 x0 75 (.bslice 2 1 [(.int .i64 0)] 1 [(0, (.t 74))]),
 x0 76 (.app 2 1 8 (.t 72) (.t 75)),
 p0 77 (.fadr 4 (.t 8)),
 s0 (.st 1 (.t 77) (.t 76))]))))))
 (.reg [
 p0 28 (.mv (.t 9)),
 p0 29 (.bin .add (.t 28) (.c (.int .i64 1))),
 p0 9 (.mv (.t 29))]))))))
 (.seq (.reg [
 p0 78 (.ldA 5 (.t 8)),
 x0 79 (.call 11 [(.t 78)]),
 p0 80 (.ext 0 (.t 79)),
 p0 81 (.ext 1 (.t 79)),
 p0 4 (.mv (.t 80)),
 p0 5 (.mv (.t 81))])
 .ret))))))
theorem ok35 : fnComp Tryd.prog 35 = some (82, c35, [(.mv (.t 4)), (.mv (.t 5))]) := by kernel_rfl

def c36 : CC :=
 (.seq (.reg [
 p0 2 (.mv (.c .nilslice))])
 (.seq (.reg [
 x0 7 (.bslice 124 3 [(.str []), (.int .i64 0), (.int .i64 0)] 0 []),
 p0 3 (.mv (.t 7))])
 (.seq (.reg [
 p0 8 (.mv (.t 0)),
 x0 9 (.call 14 [(.t 8), (.c (.int .i64 14))]),
 p0 4 (.mv (.t 9))])
 (.seq (.seq (.reg [
 p0 5 (.mv (.c (.int .i64 0)))])
 (.block 0 (.loop (.seq (.seq (.reg [
 p0 10 (.mv (.t 5)),
 p0 11 (.mv (.t 4)),
 p0 12 (.bin .lss (.t 10) (.t 11))])
 (.cond (.t 12)
 .skip
 (.exit 0)))
 (.seq (.block 1 (.seq (.reg [
 p0 15 (.mv (.t 0)),
 x0 16 (.call 16 [(.t 15)]),
 p0 17 (.mv (.t 0)),
 x0 18 (.call 59 [(.t 17)]),
 p0 19 (.mv (.t 0)),
 x0 20 (.call 14 [(.t 19), (.c (.int .i64 200))]),
 p0 21 (.build [(.str []), (.int .i64 0), (.int .i64 0)] [(0, 1, (.t 16)), (1, 1, (.t 18)), (2, 1, (.t 20))]),
 x0 6 (.zero 124 3 [(.str []), (.int .i64 0), (.int .i64 0)]),
 s0 (.st 3 (.t 6) (.t 21))])
 (.seq (.seq (.reg [
 p0 22 (.mv (.t 0)),
 x0 23 (.call 14 [(.t 22), (.c (.int .i64 4))]),
 p0 24 (.bin .gtr (.t 23) (.c (.int .i64 0)))])
 (.cond (.t 24)
 (.reg [
 p0 25 (.fadr 0 (.t 6)),
 s0 (.st 1 (.t 25) (.c (.str [102,105,108,101,115,46,108,97,110])))])
 .skip))
 (.seq (.seq (.reg [
 p0 26 (.mv (.t 0)),
 x0 27 (.call 14 [(.t 26), (.c (.int .i64 12))])])
 (.block 2 (.seq (.reg [
 p0 29 (.bin .eql (.t 27) (.c (.int .i64 0))),
 p0 28 (.mv (.t 29))])
 (.cond (.t 28)
 (.reg [
 p0 30 (.fadr 1 (.t 6)),
 s0 (.st 1 (.t 30) (.c (.int .i64 (-1))))])
 (.seq (.reg [
 p0 32 (.bin .eql (.t 27) (.c (.int .i64 1))),
 p0 31 (.mv (.t 32))])
 (.cond (.t 31)
 (.reg [
 p0 33 (.mv (.t 0)),
 x0 34 (.call 14 [(.t 33), (.c (.int .i64 2))]),
 p0 35 (.bin .add (.c (.int .i64 86400)) (.t 34)),
 p0 36 (.fadr 2 (.t 6)),
 s0 (.st 1 (.t 36) (.t 35))])
 (.seq (.reg [
 p0 38 (.bin .eql (.t 27) (.c (.int .i64 2))),
 p0 37 (.mv (.t 38))])
 (.cond (.t 37)
 (.reg [
 p0 39 (.fadr 2 (.t 6)),
 s0 (.st 1 (.t 39) (.c (.int .i64 (-1))))])
 .skip))))))))
 (.reg [
 p0 40 (.mv (.t 3)),
 p0 41 (.ldA 3 (.t 6)),
 x0 42 (.bslice 124 3 [(.str []), (.int .i64 0), (.int .i64 0)] 1 [(0, (.t 41))]),
 x0 43 (.app 124 3 32 (.t 40) (.t 42)),
 p0 3 (.mv (.t 43))])))))
 (.reg [
 p0 13 (.mv (.t 5)),
 p0 14 (.bin .add (.t 13) (.c (.int .i64 1))),
 p0 5 (.mv (.t 14))]))))))
 (.seq (.reg [
 p0 44 (.mv (.t 3)),
 p0 2 (.mv (.t 44))])
 .ret)))))
theorem ok36 : fnComp Tryd.prog 36 = some (45, c36, [(.mv (.t 2))]) := by kernel_rfl

def c37 : CC :=
 (.seq (.reg [
 p0 6 (.mv (.c .nilslice))])
 (.seq (.reg [
 p0 11 (.mv (.t 1)),
 x0 12 (.call 57 [(.t 11)]),
 p0 7 (.mv (.t 12))])
 (.seq (.seq (.reg [
 p0 13 (.mv (.t 7)),
 p0 14 (.len (.t 13)),
 p0 15 (.bin .eql (.t 14) (.c (.int .i64 0)))])
 (.cond (.t 15)
 (.seq (.reg [
 p0 16 (.mv (.t 7)),
 p0 6 (.mv (.t 16))])
 .ret)
 .skip))
 (.seq (.reg [
 p0 17 (.mv (.t 0)),
 p0 18 (.mv (.t 7)),
 p0 19 (.len (.t 18)),
 p0 20 (.bin .mul (.c (.int .i64 8)) (.t 19)),
 x0 21 (.call 14 [(.t 17), (.t 20)]),
 p0 8 (.mv (.t 21))])
 (.seq (.reg [
 p0 22 (.mv (.t 0)),
 p0 23 (.mv (.t 2)),
 x0 24 (.call 14 [(.t 22), (.t 23)]),
 p0 25 (.bin .add (.c (.int .i64 1)) (.t 24)),
 p0 9 (.mv (.t 25))])
 (.seq (.seq (.reg [
 p0 26 (.mv (.t 8)),
 p0 10 (.mv (.t 26))])
 (.block 0 (.loop (.seq (.seq (.reg [
 p0 27 (.mv (.t 10)),
 p0 28 (.mv (.t 8)),
 p0 29 (.mv (.t 9)),
 p0 30 (.bin .add (.t 28) (.t 29)),
 p0 31 (.bin .lss (.t 27) (.t 30)),
 p0 32 (.mv (.t 31)),
 g0 33 32 true (.mv (.t 10)),
 g0 34 32 true (.mv (.t 7)),
 g0 35 32 true (.len (.t 34)),
 g0 36 32 true (.bin .mul (.c (.int .i64 8)) (.t 35)),
 g0 37 32 true (.bin .lss (.t 33) (.t 36)),
 p0 38 (.pick (.t 32) (.t 37) (.c (.bool false)))])
 (.cond (.t 38)
 .skip
 (.exit 0)))
 (.seq (.block 1 (.seq (.reg [
 p0 41 (.mv (.t 10)),
 p0 42 (.mv (.t 8)),
 p0 43 (.bin .eql (.t 41) (.t 42)),
 p0 44 (.mv (.t 43)),
 g0 45 44 false (.mv (.t 0)),
 ⟨(some 46), (some (44, false)), .x (.call 60 [(.t 45)])⟩,
 p0 47 (.pick (.t 44) (.c (.bool true)) (.t 46))])
 (.cond (.t 47)
 (.reg [
 p0 48 (.mv (.t 7)),
 p0 49 (.mv (.t 10)),
 p0 50 (.bin .quo (.t 49) (.c (.int .i64 8))),
 p0 51 (.mv (.t 7)),
 p0 52 (.mv (.t 10)),
 p0 53 (.bin .quo (.t 52) (.c (.int .i64 8))),
 p0 54 (.iadr 1 (.t 51) (.t 53)),
 p0 55 (.ld (.t 54)),
 p0 56 (.mv (.t 10)),
 p0 57 (.bin .rem (.t 56) (.c (.int .i64 8))),
 p0 58 (.cvI .u64 (.t 57)),
 p0 59 (.bin .shl (.c (.int .u8 1)) (.t 58)),
 p0 60 (.bin .xor (.t 55) (.t 59)),
 p0 61 (.iadr 1 (.t 48) (.t 50)),
 s0 (.st 1 (.t 61) (.t 60))])
 .skip)))
 (.reg [
 p0 39 (.mv (.t 10)),
 p0 40 (.bin .add (.t 39) (.c (.int .i64 1))),
 p0 10 (.mv (.t 40))]))))))
 (.seq (.reg [
 p0 62 (.mv (.t 7)),
 p0 6 (.mv (.t 62))])
 .ret)))))))
theorem ok37 : fnComp Tryd.prog 37 = some (63, c37, [(.mv (.t 6))]) := by kernel_rfl

def c58 : CC :=
 (.seq (.reg [
 x0 2 (.zero 116 2 [(.int .i64 0), (.str [])]),
 p0 3 (.mv (.c (.int .i64 0)))])
 (.seq (.reg [
 p0 7 (.mv (.t 0)),
 x0 8 (.call 55 [(.t 7), (.c (.int .i64 3))]),
 p0 6 (.mv (.t 8)),
 p0 9 (.ext 0 (.t 6)),
 p0 10 (.ext 1 (.t 6)),
 p0 4 (.mv (.t 9)),
 p0 5 (.mv (.t 10))])
 (.seq (.block 0 (.seq (.reg [
 p0 12 (.mv (.t 5)),
 p0 13 (.bin .lss (.t 12) (.c (.int .i64 0))),
 p0 11 (.mv (.t 13))])
 (.cond (.t 11)
 (.seq (.reg [
 p0 14 (.build [(.int .i64 0), (.str [])] []),
 s0 (.st 2 (.t 2) (.t 14)),
 p0 3 (.mv (.c (.int .i64 2)))])
 .ret)
 (.seq (.reg [
 p0 16 (.mv (.t 5)),
 p0 17 (.mv (.t 0)),
 p0 18 (.len (.t 17)),
 p0 19 (.bin .lss (.t 16) (.t 18)),
 p0 15 (.mv (.t 19))])
 (.cond (.t 15)
 (.seq (.reg [
 p0 20 (.build [(.int .i64 0), (.str [])] []),
 s0 (.st 2 (.t 2) (.t 20)),
 p0 3 (.mv (.c (.int .i64 5)))])
 .ret)
 (.seq (.reg [
 p0 22 (.mv (.t 0)),
 p0 23 (.iadr 1 (.t 22) (.c (.int .i64 2))),
 p0 24 (.ld (.t 23)),
 p0 25 (.bin .neq (.t 24) (.c (.int .u8 0))),
 p0 21 (.mv (.t 25))])
 (.cond (.t 21)
 (.seq (.reg [
 p0 26 (.build [(.int .i64 0), (.str [])] []),
 s0 (.st 2 (.t 2) (.t 26)),
 p0 3 (.mv (.c (.int .i64 9)))])
 .ret)
 (.seq (.reg [
 p0 28 (.mv (.t 4)),
 x0 29 (.call 38 [(.t 28)]),
 p0 30 (.un .not (.t 29)),
 p0 27 (.mv (.t 30))])
 (.cond (.t 27)
 (.seq (.reg [
 p0 31 (.build [(.int .i64 0), (.str [])] []),
 s0 (.st 2 (.t 2) (.t 31)),
 p0 3 (.mv (.c (.int .i64 6)))])
 .ret)
 .skip)))))))))
 (.seq (.reg [
 p0 32 (.mv (.t 0)),
 p0 33 (.slc 1 (.t 32) none (some (.c (.int .i64 2))) none),
 x0 34 (.call 56 [(.t 33)]),
 p0 35 (.mv (.t 4)),
 p0 36 (.build [(.int .i64 0), (.str [])] [(0, 1, (.t 34)), (1, 1, (.t 35))]),
 s0 (.st 2 (.t 2) (.t 36)),
 p0 3 (.mv (.c (.int .i64 0)))])
 .ret))))
theorem ok58 : fnComp Tryd.prog 58 = some (37, c58, [(.ldA 2 (.t 2)), (.mv (.t 3))]) := by kernel_rfl

def c59 : CC :=
 (.seq (.reg [
 p0 2 (.mv (.c (.int .i64 0)))])
 (.seq (.reg [
 p0 3 (.mv (.t 0)),
 x0 4 (.call 14 [(.t 3), (.c (.int .i64 2))]),
 p0 5 (.bin .mul (.t 4) (.c (.int .i64 256))),
 p0 6 (.bin .add (.c (.int .i64 167772160)) (.t 5)),
 p0 7 (.bin .add (.t 6) (.c (.int .i64 1))),
 p0 8 (.mv (.t 0)),
 x0 9 (.call 14 [(.t 8), (.c (.int .i64 6))]),
 p0 10 (.bin .add (.t 7) (.t 9)),
 p0 2 (.mv (.t 10))])
 .ret))
theorem ok59 : fnComp Tryd.prog 59 = some (11, c59, [(.mv (.t 2))]) := by kernel_rfl

def c60 : CC :=
 (.seq (.reg [
 p0 2 (.mv (.c (.bool false)))])
 (.seq (.reg [
 p0 3 (.mv (.t 0)),
 x0 4 (.call 14 [(.t 3), (.c (.int .i64 2))]),
 p0 5 (.bin .eql (.t 4) (.c (.int .i64 0))),
 p0 2 (.mv (.t 5))])
 .ret))
theorem ok60 : fnComp Tryd.prog 60 = some (6, c60, [(.mv (.t 2))]) := by kernel_rfl

end Go.Proofs.YtaoffieemecioaaDoor



namespace Go.Proofs.YtaoffieemecioaaDoor
open Go Go.IW

def sRow (s : List UInt8) : List IV := [.str s]

set_option maxRecDepth 20000 in
theorem idxB_c (h : IH) (s : List UInt8) (c : UInt8) : ICalls Tryd.prog 97 [.str s, .int .u8 c.toNat] h fun r h' => r = .int .i64 (Lib.indexByte s c) ∧ h' = h := by
 have := idxByte_calls (P := Tryd.prog) (f := 97) Tryd.func97 (by kernel_rfl) (by kernel_rfl) (by kernel_rfl) (by kernel_rfl) h s c.toNat
 simpa using this
set_option maxRecDepth 20000 in
theorem cntB_c (h : IH) (s : List UInt8) (c : UInt8) : ICalls Tryd.prog 90 [.str s, .int .u8 c.toNat] h fun r h' => r = .int .i64 (s.count c : Nat) ∧ h' = h := by
 have := cntByte_calls (P := Tryd.prog) (f := 90) Tryd.func90 (by kernel_rfl) (by kernel_rfl) (by kernel_rfl) (by kernel_rfl) h s c.toNat
 simpa [Lib.countByte] using this

theorem idxS_at {s : List UInt8} {k : Nat} {q : IntKind} {b : UInt8} (hb : s[k]? = some b) : idxSF (.str s) (.int q (k : Int)) = some (.int .u8 b.toNat) :=
 idxSF_of (by omega) (by simpa using hb)

section
attribute [local go_sem] boxA_1 boxA_2 boxA_3 bslA_1 List.getElem?_cons_zero List.getElem?_cons_succ Option.bind_some List.map_cons List.map_nil Nat.zero_add if_true List.getD_cons_zero List.getD_cons_succ List.contains_cons List.contains_nil Bool.or_true Bool.true_or Bool.or_false Bool.false_or Bool.not_true Bool.not_false true_and and_true
set_option maxRecDepth 20000 in
theorem sIndexByte_c (h : IH) (s : List UInt8) (c : UInt8) : ICalls Tryd.prog 93 [.str s, .int .u8 c.toNat] h fun r h' => r = .int .i64 (Lib.indexByte s c) ∧ h' = h := by
 refine icalls (.of ok93) (Nat.le_of_ble_eq_true rfl) ?_
 unfold c93
 simp only [go_sem, ↓act_zero, Nat.reduceBEq, Nat.reduceAdd, reduceIte, Nat.reduceEqDiff, Nat.reduceLT, Nat.reduceLeDiff]
 refine callA_of (idxB_c h s c) ?_
 rintro r h' ⟨rfl, rfl⟩
 simp only [go_sem, ↓act_zero, Nat.reduceBEq, Nat.reduceAdd, reduceIte, Nat.reduceEqDiff, Nat.reduceLT, Nat.reduceLeDiff]
end
set_option maxRecDepth 20000 in
theorem sIndex_c (h : IH) (s : List UInt8) (c : UInt8) : ICalls Tryd.prog 91 [.str s, .str [c]] h fun r h' => r = .int .i64 (Lib.indexByte s c) ∧ h' = h := by
 refine icalls (.of ok91) (Nat.le_of_ble_eq_true rfl) ?_
 unfold c91
 have d0 : decide ((([c] : List UInt8).length : Int) = 0) = false := rfl
 have d1 : decide ((([c] : List UInt8).length : Int) = 1) = true := rfl
 have hi : idxSF (.str [c]) (.int .i64 0) = some (.int .u8 c.toNat) := rfl
 simp only [d0, d1, hi, go_sem, ↓act_zero, boxA_1, boxA_2, boxA_3, bslA_1, Nat.reduceBEq, Nat.reduceAdd, List.getElem?_cons_zero, List.getElem?_cons_succ, Option.bind_some, mc0, mn0, Nat.zero_add, if_true, List.getD_cons_zero, List.getD_cons_succ, List.contains_cons, List.contains_nil, Nat.reduceBEq, Bool.or_true, Bool.true_or, Bool.or_false, Bool.false_or, Bool.not_true, Bool.not_false, true_and, and_true]
 by_cases hc : ([c] : List UInt8) = s
 ·have hd : decide (([c] : List UInt8) = s) = true := by simpa using hc
  simp only [hd, go_sem, ↓act_zero, boxA_1, boxA_2, boxA_3, bslA_1, Nat.reduceBEq, Nat.reduceAdd, List.getElem?_cons_zero, List.getElem?_cons_succ, Option.bind_some, mc0, mn0, Nat.zero_add, if_true, List.getD_cons_zero, List.getD_cons_succ, List.contains_cons, List.contains_nil, Nat.reduceBEq, Bool.or_true, Bool.true_or, Bool.or_false, Bool.false_or, Bool.not_true, Bool.not_false, true_and, and_true]
  subst hc
  simp [Lib.indexByte]
 ·have hd : decide (([c] : List UInt8) = s) = false := by simpa using hc
  simp only [hd, d1, hi, go_sem, ↓act_zero, boxA_1, boxA_2, boxA_3, bslA_1, Nat.reduceBEq, Nat.reduceAdd, List.getElem?_cons_zero, List.getElem?_cons_succ, Option.bind_some, mc0, mn0, Nat.zero_add, if_true, List.getD_cons_zero, List.getD_cons_succ, List.contains_cons, List.contains_nil, Nat.reduceBEq, Bool.or_true, Bool.true_or, Bool.or_false, Bool.false_or, Bool.not_true, Bool.not_false, true_and, and_true]
  refine callA_of (sIndexByte_c h s c) ?_
  rintro r h' ⟨rfl, rfl⟩
  simp only [go_sem, ↓act_zero, boxA_1, boxA_2, boxA_3, bslA_1, Nat.reduceBEq, Nat.reduceAdd, List.getElem?_cons_zero, List.getElem?_cons_succ, Option.bind_some, mc0, mn0, Nat.zero_add, if_true, List.getD_cons_zero, List.getD_cons_succ, List.contains_cons, List.contains_nil, Nat.reduceBEq, Bool.or_true, Bool.true_or, Bool.or_false, Bool.false_or, Bool.not_true, Bool.not_false, true_and, and_true]

section
attribute [local go_sem] boxA_1 boxA_2 boxA_3 bslA_1 List.getElem?_cons_zero List.getElem?_cons_succ Option.bind_some List.map_cons List.map_nil Nat.zero_add if_true List.getD_cons_zero List.getD_cons_succ List.contains_cons List.contains_nil Bool.or_true Bool.true_or Bool.or_false Bool.false_or Bool.not_true Bool.not_false true_and and_true
set_option maxRecDepth 20000 in
theorem index_c (h : IH) (s : List UInt8) (c : UInt8) : ICalls Tryd.prog 83 [.str s, .str [c]] h fun r h' => r = .int .i64 (Lib.indexByte s c) ∧ h' = h := by
 refine icalls (.of ok83) (Nat.le_of_ble_eq_true rfl) ?_
 unfold c83
 simp only [go_sem, ↓act_zero, Nat.reduceBEq, Nat.reduceAdd, reduceIte, Nat.reduceEqDiff, Nat.reduceLT, Nat.reduceLeDiff]
 refine callA_of (sIndex_c h s c) ?_
 rintro r h' ⟨rfl, rfl⟩
 simp only [go_sem, ↓act_zero, Nat.reduceBEq, Nat.reduceAdd, reduceIte, Nat.reduceEqDiff, Nat.reduceLT, Nat.reduceLeDiff]
end
set_option maxRecDepth 20000 in
theorem count_c (h : IH) (s : List UInt8) (c : UInt8) : ICalls Tryd.prog 82 [.str s, .str [c]] h fun r h' => r = .int .i64 (s.count c : Nat) ∧ h' = h := by
 refine icalls (.of ok82) (Nat.le_of_ble_eq_true rfl) ?_
 unfold c82
 have d0 : decide ((([c] : List UInt8).length : Int) = 0) = false := rfl
 have d1 : decide ((([c] : List UInt8).length : Int) = 1) = true := rfl
 have hi : idxSF (.str [c]) (.int .i64 0) = some (.int .u8 c.toNat) := rfl
 simp only [d0, d1, hi, go_sem, ↓act_zero, boxA_1, boxA_2, boxA_3, bslA_1, Nat.reduceBEq, Nat.reduceAdd, List.getElem?_cons_zero, List.getElem?_cons_succ, Option.bind_some, mc0, mn0, Nat.zero_add, if_true, List.getD_cons_zero, List.getD_cons_succ, List.contains_cons, List.contains_nil, Nat.reduceBEq, Bool.or_true, Bool.true_or, Bool.or_false, Bool.false_or, Bool.not_true, Bool.not_false, true_and, and_true]
 refine callA_of (cntB_c h s c) ?_
 rintro r h' ⟨rfl, rfl⟩
 simp only [go_sem, ↓act_zero, boxA_1, boxA_2, boxA_3, bslA_1, Nat.reduceBEq, Nat.reduceAdd, List.getElem?_cons_zero, List.getElem?_cons_succ, Option.bind_some, mc0, mn0, Nat.zero_add, if_true, List.getD_cons_zero, List.getD_cons_succ, List.contains_cons, List.contains_nil, Nat.reduceBEq, Bool.or_true, Bool.true_or, Bool.or_false, Bool.false_or, Bool.not_true, Bool.not_false, true_and, and_true]

theorem count_le_len (c : UInt8) (s : List UInt8) : s.count c ≤ s.length := List.count_le_length

section
attribute [local go_sem] boxA_1 boxA_2 boxA_3 bslA_1 List.getElem?_cons_zero List.getElem?_cons_succ Option.bind_some List.map_cons List.map_nil Nat.zero_add if_true List.getD_cons_zero List.getD_cons_succ List.contains_cons List.contains_nil Bool.or_true Bool.true_or Bool.or_false Bool.false_or Bool.not_true Bool.not_false true_and and_true rowA_whole push_n set_n push_obj set_obj set_push set_push_ne set_set Nat.add_assoc Nat.left_eq_add Nat.add_eq_left Nat.add_left_cancel_iff stO_1s stO_ws boxA_s one_bool one_int one_str one_ptr one_nilptr one_slice one_eslice one_nilslice one_func one_iface one_niliface List.all_cons List.all_nil List.length_cons List.length_nil Bool.and_true Nat.one_ne_zero Nat.succ_ne_zero if_false List.set_cons_zero List.set_cons_succ
set_option maxRecDepth 20000 in
theorem genSplit_c (h : IH) (s : List UInt8) (c : UInt8) (hm : s.length ≤ 1048576) : ICalls Tryd.prog 69 [.str s, .str [c], .int .i64 0, .int .i64 (-1)] h fun r h' => SlR h' 1 r ((cutAt c s).map sRow) ∧ Ext h h' := by
 refine icalls (.of ok69) (Nat.le_of_ble_eq_true rfl) ?_
 unfold c69
 have hcl := count_le_len c s
 have d0 : decide ((-1 : Int) = 0) = false := rfl
 have d1 : decide (([c] : List UInt8) = []) = false := by simp
 have d2 : decide ((-1 : Int) < 0) = true := rfl
 simp only [d0, d1, d2, go_sem, ↓act_zero, Nat.reduceBEq, Nat.reduceAdd, reduceIte, Nat.reduceEqDiff, Nat.reduceLT, Nat.reduceLeDiff]
 refine callA_of (count_c h s c) ?_
 rintro r h' ⟨rfl, rfl⟩
 have w1 : wr .i64 ((s.count c : Int) + 1) = ((s.count c + 1 : Nat) : Int) := by rw [wr64 _ (by omega)]; rfl
 have w2 : wr .i64 ((s.length : Int) + 1) = ((s.length + 1 : Nat) : Int) := by rw [wr64 _ (by omega)]; rfl
 have hmin : min ((s.count c + 1 : Nat) : Int) ((s.length + 1 : Nat) : Int) = ((s.count c + 1 : Nat) : Int) := by omega
 have w3 : wr .i64 (((s.count c + 1 : Nat) : Int) - 1) = ((s.count c : Nat) : Int) := by rw [wr64 _ (by omega)]; omega
 simp only [w1, w2, hmin, go_sem, ↓act_zero, Nat.reduceBEq, Nat.reduceAdd, reduceIte, Nat.reduceEqDiff, Nat.reduceLT, Nat.reduceLeDiff]
 refine mksA_of (by omega) (by omega) (by omega) ?_
 simp only [w3, go_sem, ↓act_zero, Nat.reduceBEq, Nat.reduceAdd, reduceIte, Nat.reduceEqDiff, Nat.reduceLT, Nat.reduceLeDiff]
 generalize hq_g0 : IH.push h' (IObj.rows (List.replicate (s.count c + 1) [IV.str []]) 9 1 false) = g0
 have e_g0 : Ext h' g0 := by rw [← hq_g0]; exact (Ext.refl _).push _
 have l_g0 : g0.n = h'.n + 1 := by rw [← hq_g0]; rfl
 have ba : At g0 h'.n (IObj.rows (List.replicate (s.count c + 1) [IV.str []]) 9 1 false) := by rw [← hq_g0]; exact At.new _ _
 clear hq_g0
 refine loop_at (fun n e g => ∃ (t : List UInt8) (done : List (List UInt8)), n = t.count c ∧ cutAt c s = done ++ cutAt c t ∧ done.length + t.count c = s.count c ∧ t.length ≤ s.length ∧ e 0 = .str t ∧ e 1 = .str [c] ∧ e 2 = .int .i64 0 ∧ e 3 = .int .i64 (s.count c : Nat) ∧
  e 9 = .slice h'.n 0 (s.count c + 1) ∧ e 10 = .int .i64 (done.length : Nat) ∧ Ext h' g ∧ At g h'.n (.rows (done.map sRow ++ List.replicate (s.count c + 1 - done.length) [IV.str []]) 9 1 false)) (s.count c) ?_ ?_
 ·refine ⟨s, [], rfl, rfl, by simp, Nat.le_refl _, ?_⟩
  simp only [go_sem, ↓act_zero, Nat.reduceBEq, Nat.reduceAdd, reduceIte, Nat.reduceEqDiff, Nat.reduceLT, Nat.reduceLeDiff]
  exact ⟨rfl, e_g0, ba⟩
 ·rintro n e g ⟨t, done, rfl, hcut, hcnt, htl, i0, i1, i2, i3, i9, i10, E, ba⟩
  have bae := ba.eq
  have bal := ba.lt
  simp only [i0, i1, i2, i3, i9, i10, go_sem, ↓act_zero, Nat.reduceBEq, Nat.reduceAdd, reduceIte, Nat.reduceEqDiff, Nat.reduceLT, Nat.reduceLeDiff]
  have fin : t.count c = 0 → Lib.indexByte t c = -1 → True := fun _ _ => trivial
  refine test_dec (fun hlt => ?_) (fun hlt => ?_)
  ·have hpos : 0 < t.count c := by omega
   simp only [i0, i1, i2, i3, i9, i10, go_sem, ↓act_zero, Nat.reduceBEq, Nat.reduceAdd, reduceIte, Nat.reduceEqDiff, Nat.reduceLT, Nat.reduceLeDiff]
   refine callA_of (index_c g t c) ?_
   rintro r g' ⟨rfl, rfl⟩
   have hne : Lib.indexByte t c ≠ -1 := by
    intro h0
    have := cutAt_len c t
    rw [cutAt_none c h0] at this
    simp at this
    omega
   have hge := Lib.indexByte_ge t c
   obtain ⟨m, hidx⟩ : ∃ m : Nat, Lib.indexByte t c = m := ⟨(Lib.indexByte t c).toNat, by omega⟩
   obtain ⟨hml, hc2, hc3⟩ := cutAt_some c hidx
   have dm : decide ((m : Int) < 0) = false := by simp
   have w4 : wr .i64 ((m : Int) + 0) = (m : Int) := by rw [wr64 _ (by omega)]; omega
   have w5 : wr .i64 ((m : Int) + 1) = ((m + 1 : Nat) : Int) := by rw [wr64 _ (by omega)]; rfl
   have hs1 : slcSF (.str t) none (some (.int .i64 (m : Int))) = some (.str (t.take m)) := by
    rw [slcSF_of (boundF_of (by omega) (by omega)) rfl]; simp
   have hs2 : slcSF (.str t) (some (.int .i64 ((m + 1 : Nat) : Int))) none = some (.str (t.drop (m + 1))) := by
    rw [slcSF_of rfl (boundF_of (by omega) (by omega))]; simp
   have w6 : wr .i64 ((m : Int) + ((1 : Nat) : Int)) = ((m + 1 : Nat) : Int) := w5
   simp only [i0, i1, i2, i3, i9, i10, hidx, dm, w4, w5, hs1, hs2, w6, iadrF_sl, bae, iadrO_nat (show done.length < s.count c + 1 by omega), Option.map_some, Option.map_none, go_sem, ↓act_zero, Nat.reduceBEq, Nat.reduceAdd, reduceIte, Nat.reduceEqDiff, Nat.reduceLT, Nat.reduceLeDiff]
   refine stO_of (k := 0) (cs := [IV.str (t.take m)]) (row := [IV.str []]) ?_ rfl (by simp) (by simp [IV.one]) ?_
   ·rw [List.getElem?_append_right (by simp), List.length_map, Nat.sub_self, List.getElem?_replicate, if_pos (by omega)]
   have hw : wrt [IV.str []] 0 [IV.str (t.take m)] = [IV.str (t.take m)] := rfl
   rw [hw]
   simp only [hidx, dm, w4, w5, hs1, hs2, w6, i0, i1, i2, i3, i9, i10, Option.map_some, Option.map_none, go_sem, ↓act_zero, Nat.reduceBEq, Nat.reduceAdd, reduceIte, Nat.reduceEqDiff, Nat.reduceLT, Nat.reduceLeDiff]
   refine ⟨_, ?_, t.drop (m + 1), done ++ [t.take m], rfl, ?_, ?_, ?_, rfl, ?_, ?_⟩
   ·omega
   ·rw [hcut, hc2]; simp
   ·simp; omega
   ·simp; omega
   ·congr 2
    rw [wr64 _ (by omega)]; simp
   ·exact ⟨E.set _ (by omega) _, by
     have e1 : (List.map sRow done ++ List.replicate (List.count c s + 1 - done.length) [IV.str []]).set done.length [IV.str (t.take m)] = List.map sRow (done ++ [t.take m]) ++ List.replicate (List.count c s + 1 - (done ++ [t.take m]).length) [IV.str []] := by
      obtain ⟨k, hk⟩ : ∃ k, List.count c s + 1 - done.length = k + 1 := ⟨List.count c s - done.length, by omega⟩
      have hk2 : List.count c s + 1 - (done ++ [t.take m]).length = k := by simp; omega
      rw [hk, hk2, List.set_append_right _ _ (by simp)]
      simp [List.replicate_succ, sRow]
     rw [← e1]
     exact ba.here⟩
  ·have h0 : t.count c = 0 := by omega
   have hidx : Lib.indexByte t c = -1 := by
    have hge := Lib.indexByte_ge t c
    apply Classical.byContradiction
    intro hne
    obtain ⟨m, hm2⟩ : ∃ m : Nat, Lib.indexByte t c = m := ⟨(Lib.indexByte t c).toNat, by omega⟩
    have := (cutAt_some c hm2).2.2
    omega
   have hct := cutAt_none c hidx
   have hdl : done.length = s.count c := by omega
   have w4 : wr .i64 (((s.count c : Nat) : Int) + 1) = ((s.count c + 1 : Nat) : Int) := by rw [wr64 _ (by omega)]; rfl
   rw [hdl] at i10 bae
   have hsub : s.count c + 1 - s.count c = 1 := by omega
   rw [hsub] at bae
   simp only [i0, i1, i2, i3, i9, i10, iadrF_sl, bae, iadrO_nat (show s.count c < s.count c + 1 by omega), go_sem, ↓act_zero, Nat.reduceBEq, Nat.reduceAdd, reduceIte, Nat.reduceEqDiff, Nat.reduceLT, Nat.reduceLeDiff]
   refine stO_of (k := 0) (cs := [IV.str t]) (row := [IV.str []]) ?_ rfl (by simp) (by simp [IV.one]) ?_
   ·rw [List.getElem?_append_right (by simp; omega)]; simp [hdl]
   have hw : wrt [IV.str []] 0 [IV.str t] = [IV.str t] := rfl
   have e1 : (List.map sRow done ++ List.replicate 1 [IV.str []]).set (s.count c) [IV.str t] = (cutAt c s).map sRow := by
    rw [hcut, hct, List.set_append_right _ _ (by simp; omega)]
    simp [hdl, sRow]
   have hlen : ((cutAt c s).map sRow).length = s.count c + 1 := by rw [List.length_map, cutAt_len]
   rw [hw, e1]
   have hsl : ∀ hh : IH, hh.obj h'.n = .rows ((cutAt c s).map sRow) 9 1 false → slcF hh 1 (.slice h'.n 0 (s.count c + 1)) none (some (.int .i64 ((s.count c + 1 : Nat) : Int))) = some (.slice h'.n 0 (s.count c + 1)) := by
    intro hh ho
    rw [slcF_of (n := s.count c + 1) (a := 0) (b := s.count c + 1) hh rfl (by rw [boundF_of (by omega) (by omega)]; simp) rfl, islc_some hh (by omega) (Nat.le_refl _) (by rw [size_eq, ho]; rfl)]
    simp
   have hsl1 := hsl (g.set h'.n (.rows ((cutAt c s).map sRow) 9 1 false)) (set_here _ _ _)
   simp only [i0, i1, i2, i3, i9, i10, w4, hsl1, Option.map_some, Option.map_none, go_sem, ↓act_zero, Nat.reduceBEq, Nat.reduceAdd, reduceIte, Nat.reduceEqDiff, Nat.reduceLT, Nat.reduceLeDiff]
   exact ⟨SlR.whole (set_here _ _ _) hlen (by simp only [set_n]; omega), E.set _ (by omega) _⟩

set_option maxRecDepth 20000 in
theorem split_c (h : IH) (s : List UInt8) (c : UInt8) (hm : s.length ≤ 1048576) : ICalls Tryd.prog 49 [.str s, .str [c]] h fun r h' => SlR h' 1 r ((cutAt c s).map sRow) ∧ Ext h h' := by
 refine icalls (.of ok49) (Nat.le_of_ble_eq_true rfl) ?_
 unfold c49
 simp only [go_sem, ↓act_zero, Nat.reduceBEq, Nat.reduceAdd, reduceIte, Nat.reduceEqDiff, Nat.reduceLT, Nat.reduceLeDiff]
 refine callA_of (genSplit_c h s c hm) ?_
 rintro r h' ⟨hs, hE⟩
 simp only [go_sem, ↓act_zero, Nat.reduceBEq, Nat.reduceAdd, reduceIte, Nat.reduceEqDiff, Nat.reduceLT, Nat.reduceLeDiff]
 exact ⟨hs, hE⟩

set_option maxRecDepth 20000 in
theorem l02Cut_c (h : IH) (s : List UInt8) (c : UInt8) (hm : s.length ≤ 1048576) : ICalls Tryd.prog 61 [.str s, .int .u8 c.toNat] h fun r h' => SlR h' 1 r ((cutAt c s).map sRow) ∧ Ext h h' := by
 refine icalls (.of ok61) (Nat.le_of_ble_eq_true rfl) ?_
 unfold c61
 simp only [go_sem, ↓act_zero, Nat.reduceBEq, Nat.reduceAdd, reduceIte, Nat.reduceEqDiff, Nat.reduceLT, Nat.reduceLeDiff]
 refine loop_at (fun n e g => ∃ (k from_ : Nat) (v : IV) (lo hi : Nat) (out : List (List UInt8)), n = s.length - k ∧ k ≤ s.length ∧ from_ ≤ k ∧ e 0 = .str s ∧ e 1 = .int .u8 c.toNat ∧ e 5 = v ∧ e 6 = .int .i64 (from_ : Nat) ∧ e 7 = .int .i64 (k : Nat) ∧
  Ext h g ∧ h.n ≤ lo ∧ Own lo hi g 9 1 v (out.map sRow) ∧ hi ≤ g.n ∧ out.length ≤ k ∧ cutAt c (s.take k) = out ++ [(s.take k).drop from_]) s.length ?_ ?_
 ·refine ⟨0, 0, .eslice true, h.n, h.n, [], by omega, by omega, by omega, ?_⟩
  simp only [go_sem, ↓act_zero, Nat.reduceBEq, Nat.reduceAdd, reduceIte, Nat.reduceEqDiff, Nat.reduceLT, Nat.reduceLeDiff]
  exact ⟨rfl, rfl, Ext.refl _, Nat.le_refl _, Own.empty, Nat.le_refl _, by simp [cutAt]⟩
 ·rintro n e g ⟨k, from_, v, lo, hi, out, rfl, hk, hf, i0, i1, i5, i6, i7, E, hlo, o, hhi, hol, hcut⟩
  have hle := E.le
  simp only [i0, i1, i5, i6, i7, go_sem, ↓act_zero, Nat.reduceBEq, Nat.reduceAdd, reduceIte, Nat.reduceEqDiff, Nat.reduceLT, Nat.reduceLeDiff]
  refine test_dec (fun hlt => ?_) (fun hlt => ?_)
  ·have hlt' : k < s.length := by omega
   have hkp : s[k]? = some s[k] := List.getElem?_eq_getElem hlt'
   generalize s[k] = b at hkp
   have hix := idxS_at (q := .i64) hkp
   have hn := cutAt_snoc c (s.take k) out _ b hcut
   have htk : s.take k ++ [b] = s.take (k + 1) := by rw [List.take_add_one, hkp]; rfl
   rw [htk] at hn
   by_cases hb : b = c
   ·subst hb
    have w1 : wr .i64 ((k : Int) + 1) = ((k + 1 : Nat) : Int) := by rw [wr64 _ (by omega)]; rfl
    have hs1 : slcSF (.str s) (some (.int .i64 (from_ : Int))) (some (.int .i64 (k : Int))) = some (.str ((s.take k).drop from_)) := by
     rw [slcSF_of (boundF_of (by omega) (by omega)) (boundF_of (by omega) (by simp; omega))]; simp
    simp only [i0, i1, i5, i6, i7, hix, decide_true, hs1, w1, Option.map_some, Option.map_none, go_sem, ↓act_zero, Nat.reduceBEq, Nat.reduceAdd, reduceIte, Nat.reduceEqDiff, Nat.reduceLT, Nat.reduceLeDiff]
    generalize hq_g1 : IH.push g (IObj.rows [[IV.str ((s.take k).drop from_)]] 9 1 false) = g1
    have e_g1 : Ext g g1 := by rw [← hq_g1]; exact (Ext.refl _).push _
    have l_g1 : g1.n = g.n + 1 := by rw [← hq_g1]; rfl
    have ba : At g1 g.n (IObj.rows [[IV.str ((s.take k).drop from_)]] 9 1 false) := by rw [← hq_g1]; exact At.new _ _
    clear hq_g1
    have o := o.ext e_g1
    have E := E.ext e_g1
    refine o.app (by simp) (by simp; omega) ?_
    intro v6 h6 o6 t6 n6 v6o v6c
    have E := E.turn o (by omega) t6
    have le_t6 := t6.le
    simp only [i0, i1, i5, i6, i7, w1, go_sem, ↓act_zero, Nat.reduceBEq, Nat.reduceAdd, reduceIte, Nat.reduceEqDiff, Nat.reduceLT, Nat.reduceLeDiff]
    rw [if_pos (by simp)] at hn
    refine ⟨_, ?_, k + 1, k + 1, v6, g1.n, g1.n + 1, out ++ [(s.take k).drop from_], rfl, by omega, Nat.le_refl _, rfl, rfl, rfl, E, by omega, by simpa [sRow] using o6, by omega, by simp; omega, ?_⟩
    ·omega
    ·rw [hn]; simp
   ·have hb2 : decide ((b.toNat : Int) = (c.toNat : Int)) = false := by
     simp only [decide_eq_false_iff_not]
     intro h0
     exact hb (UInt8.toNat_inj.1 (by omega))
    simp only [i0, i1, i5, i6, i7, hix, hb2, go_sem, ↓act_zero, Nat.reduceBEq, Nat.reduceAdd, reduceIte, Nat.reduceEqDiff, Nat.reduceLT, Nat.reduceLeDiff]
    rw [if_neg (by simpa using hb)] at hn
    refine ⟨_, ?_, k + 1, from_, v, lo, hi, out, rfl, by omega, by omega, rfl, rfl, wr64_succ k (by omega), E, hlo, o, hhi, by omega, ?_⟩
    ·omega
    ·rw [hn]
     congr 2
     rw [← htk, List.drop_append_of_le_length (by simp; omega)]
  ·obtain rfl : k = s.length := by omega
   rw [List.take_length] at hcut
   have hs1 : slcSF (.str s) (some (.int .i64 (from_ : Int))) none = some (.str (s.drop from_)) := by
    rw [slcSF_of rfl (boundF_of (by omega) (by omega))]; simp
   simp only [i0, i1, i5, i6, i7, hs1, Option.map_some, Option.map_none, go_sem, ↓act_zero, Nat.reduceBEq, Nat.reduceAdd, reduceIte, Nat.reduceEqDiff, Nat.reduceLT, Nat.reduceLeDiff]
   generalize hq_g1 : IH.push g (IObj.rows [[IV.str (s.drop from_)]] 9 1 false) = g1
   have e_g1 : Ext g g1 := by rw [← hq_g1]; exact (Ext.refl _).push _
   have l_g1 : g1.n = g.n + 1 := by rw [← hq_g1]; rfl
   have ba : At g1 g.n (IObj.rows [[IV.str (s.drop from_)]] 9 1 false) := by rw [← hq_g1]; exact At.new _ _
   clear hq_g1
   have o := o.ext e_g1
   have E := E.ext e_g1
   refine o.app (by simp) (by simp; omega) ?_
   intro v6 h6 o6 t6 n6 v6o v6c
   have E := E.turn o (by omega) t6
   have le_t6 := t6.le
   simp only [go_sem, ↓act_zero, Nat.reduceBEq, Nat.reduceAdd, reduceIte, Nat.reduceEqDiff, Nat.reduceLT, Nat.reduceLeDiff]
   refine ⟨?_, E⟩
   rw [hcut]
   simpa [sRow] using o6.sl
end
end Go.Proofs.YtaoffieemecioaaDoor



namespace Go.Proofs.YtaoffieemecioaaDoor
open Go Go.IW

def okC (b : UInt8) : Bool := (decide (97 ≤ (b.toNat : Int)) && decide ((b.toNat : Int) ≤ 122)) || (decide (48 ≤ (b.toNat : Int)) && decide ((b.toNat : Int) ≤ 57)) || decide ((b.toNat : Int) = 45)
theorem class6 (b : UInt8) : (b.toNat : Int) = 45 ∨ ((b.toNat : Int) < 48 ∧ (b.toNat : Int) ≠ 45) ∨ (48 ≤ (b.toNat : Int) ∧ (b.toNat : Int) ≤ 57) ∨ (58 ≤ (b.toNat : Int) ∧ (b.toNat : Int) < 97) ∨ (97 ≤ (b.toNat : Int) ∧ (b.toNat : Int) ≤ 122) ∨ 122 < (b.toNat : Int) := by omega
def ends (s : List UInt8) : Bool := decide (((s.getD 0 0).toNat : Int) = 45) || decide (((s.getD (s.length - 1) 0).toNat : Int) = 45)
def okLabel (s : List UInt8) : Bool := decide (1 ≤ s.length) && decide (s.length ≤ 20) && !ends s && s.all okC
def okName (s : List UInt8) : Bool := decide (s.length ≤ 63) && (cutAt 46 s).all okLabel
theorem take_all {α : Type} {p : α → Bool} {s : List α} {k : Nat} {b : α} (hk : s[k]? = some b) (h : (s.take k).all p = true) : (s.take (k + 1)).all p = p b := by
 rw [List.take_add_one, hk, List.all_append, h]; simp
theorem not_all {α : Type} {p : α → Bool} {s : List α} {k : Nat} {b : α} (hk : s[k]? = some b) (h : p b = false) : s.all p = false := by
 rw [List.all_eq_false]
 exact ⟨b, List.mem_of_getElem? hk, by simp [h]⟩
theorem label_short {s : List UInt8} (h : s.length < 1 ∨ 20 < s.length) : okLabel s = false := by
 unfold okLabel
 rcases h with h | h
 ·have : decide (1 ≤ s.length) = false := decide_eq_false (by omega)
  rw [this]; rfl
 ·have : decide (s.length ≤ 20) = false := decide_eq_false (by omega)
  rw [this]; simp
theorem label_long {s : List UInt8} (h1 : ¬ s.length < 1) (h2 : ¬ 20 < s.length) : okLabel s = (!ends s && s.all okC) := by
 unfold okLabel
 have e1 : decide (1 ≤ s.length) = true := decide_eq_true (by omega)
 have e2 : decide (s.length ≤ 20) = true := decide_eq_true (by omega)
 rw [e1, e2]; rfl

section
attribute [local go_sem] boxA_1 boxA_2 boxA_3 bslA_1 List.getElem?_cons_zero List.getElem?_cons_succ Option.bind_some List.map_cons List.map_nil Nat.zero_add if_true List.getD_cons_zero List.getD_cons_succ List.contains_cons List.contains_nil Bool.or_true Bool.true_or Bool.or_false Bool.false_or Bool.not_true Bool.not_false true_and and_true rowA_whole push_n set_n push_obj set_obj set_push set_push_ne set_set Nat.add_assoc Nat.left_eq_add Nat.add_eq_left Nat.add_left_cancel_iff stO_1s stO_ws boxA_s one_bool one_int one_str one_ptr one_nilptr one_slice one_eslice one_nilslice one_func one_iface one_niliface List.all_cons List.all_nil List.length_cons List.length_nil Bool.and_true Nat.one_ne_zero Nat.succ_ne_zero if_false List.set_cons_zero List.set_cons_succ
set_option maxRecDepth 20000 in
theorem l19Label_c (h : IH) (s : List UInt8) : ICalls Tryd.prog 62 [.str s] h fun r h' => r = .bool (okLabel s) ∧ h' = h := by
 refine icalls (.of ok62) (Nat.le_of_ble_eq_true rfl) ?_
 unfold c62
 by_cases c1 : s.length < 1
 ·have d1 : decide ((s.length : Int) < 1) = true := decide_eq_true (by omega)
  simp only [d1, go_sem, ↓act_zero, Nat.reduceBEq, Nat.reduceAdd, reduceIte, Nat.reduceEqDiff, Nat.reduceLT, Nat.reduceLeDiff]
  rw [label_short (.inl c1)]
 ·have d1 : decide ((s.length : Int) < 1) = false := decide_eq_false (by omega)
  by_cases c2 : 20 < s.length
  ·have d2 : decide (20 < (s.length : Int)) = true := decide_eq_true (by omega)
   simp only [d1, d2, go_sem, ↓act_zero, Nat.reduceBEq, Nat.reduceAdd, reduceIte, Nat.reduceEqDiff, Nat.reduceLT, Nat.reduceLeDiff]
   rw [label_short (.inr c2)]
  ·have d2 : decide (20 < (s.length : Int)) = false := decide_eq_false (by omega)
   rw [label_long c1 c2]
   have g0 : s[0]? = some (s.getD 0 0) := by rw [List.getD_eq_getElem?_getD, List.getElem?_eq_getElem (by omega)]; rfl
   have g1 : s[s.length - 1]? = some (s.getD (s.length - 1) 0) := by rw [List.getD_eq_getElem?_getD, List.getElem?_eq_getElem (by omega)]; rfl
   have x0 : idxSF (.str s) (.int .i64 0) = some (.int .u8 (s.getD 0 0).toNat) := by simpa using idxS_at (q := .i64) g0
   have w1 : wr .i64 ((s.length : Int) - 1) = ((s.length - 1 : Nat) : Int) := by rw [wr64 _ (by omega)]; omega
   have x1 := idxS_at (q := .i64) g1
   unfold ends
   cases d3 : decide (((s.getD 0 0).toNat : Int) = 45)
   ·cases d4 : decide (((s.getD (s.length - 1) 0).toNat : Int) = 45)
    ·simp only [d1, d2, x0, w1, x1, d3, d4, go_sem, ↓act_zero, Nat.reduceBEq, Nat.reduceAdd, reduceIte, Nat.reduceEqDiff, Nat.reduceLT, Nat.reduceLeDiff]
     refine loop_at (fun n e h' => ∃ k, n = s.length - k ∧ k ≤ s.length ∧ e 0 = .str s ∧ e 3 = .int .i64 (k : Nat) ∧ h' = h ∧ (s.take k).all okC = true) s.length ?_ ?_
     ·refine ⟨0, by omega, by omega, ?_⟩
      simp only [go_sem, ↓act_zero, Nat.reduceBEq, Nat.reduceAdd, reduceIte, Nat.reduceEqDiff, Nat.reduceLT, Nat.reduceLeDiff]
      exact ⟨rfl, by simp⟩
     ·rintro n e h' ⟨k, rfl, hk, i0, i3, rfl, hall⟩
      simp only [i0, i3, go_sem, ↓act_zero, Nat.reduceBEq, Nat.reduceAdd, reduceIte, Nat.reduceEqDiff, Nat.reduceLT, Nat.reduceLeDiff]
      refine test_dec (fun hlt => ?_) (fun hlt => ?_)
      ·have hlt' : k < s.length := by omega
       have hkp : s[k]? = some s[k] := List.getElem?_eq_getElem hlt'
       generalize s[k] = b at hkp
       have hix := idxS_at (q := .i64) hkp
       rcases class6 b with hc | hc | hc | hc | hc | hc
       ·have q1 : decide ((b.toNat : Int) < 97) = true := decide_eq_true (by omega)
        have q2 : decide (122 < (b.toNat : Int)) = false := decide_eq_false (by omega)
        have q3 : decide ((b.toNat : Int) < 48) = true := decide_eq_true (by omega)
        have q4 : decide (57 < (b.toNat : Int)) = false := decide_eq_false (by omega)
        have q5 : decide ((b.toNat : Int) = 45) = true := decide_eq_true (by omega)
        have hok : okC b = true := by unfold okC; simp; omega
        simp only [i0, i3, hix, q1, q2, q3, q4, q5, go_sem, ↓act_zero, Nat.reduceBEq, Nat.reduceAdd, reduceIte, Nat.reduceEqDiff, Nat.reduceLT, Nat.reduceLeDiff]
        exact ⟨_, by omega, k + 1, rfl, by omega, wr64_succ k (by omega), by rw [take_all hkp hall, hok]⟩
       ·have q1 : decide ((b.toNat : Int) < 97) = true := decide_eq_true (by omega)
        have q2 : decide (122 < (b.toNat : Int)) = false := decide_eq_false (by omega)
        have q3 : decide ((b.toNat : Int) < 48) = true := decide_eq_true (by omega)
        have q4 : decide (57 < (b.toNat : Int)) = false := decide_eq_false (by omega)
        have q5 : decide ((b.toNat : Int) = 45) = false := decide_eq_false (by omega)
        have hok : okC b = false := by unfold okC; simp; omega
        simp only [i0, i3, hix, q1, q2, q3, q4, q5, go_sem, ↓act_zero, Nat.reduceBEq, Nat.reduceAdd, reduceIte, Nat.reduceEqDiff, Nat.reduceLT, Nat.reduceLeDiff]
        rw [not_all hkp hok]; rfl
       ·have q1 : decide ((b.toNat : Int) < 97) = true := decide_eq_true (by omega)
        have q2 : decide (122 < (b.toNat : Int)) = false := decide_eq_false (by omega)
        have q3 : decide ((b.toNat : Int) < 48) = false := decide_eq_false (by omega)
        have q4 : decide (57 < (b.toNat : Int)) = false := decide_eq_false (by omega)
        have q5 : decide ((b.toNat : Int) = 45) = false := decide_eq_false (by omega)
        have hok : okC b = true := by unfold okC; simp; omega
        simp only [i0, i3, hix, q1, q2, q3, q4, q5, go_sem, ↓act_zero, Nat.reduceBEq, Nat.reduceAdd, reduceIte, Nat.reduceEqDiff, Nat.reduceLT, Nat.reduceLeDiff]
        exact ⟨_, by omega, k + 1, rfl, by omega, wr64_succ k (by omega), by rw [take_all hkp hall, hok]⟩
       ·have q1 : decide ((b.toNat : Int) < 97) = true := decide_eq_true (by omega)
        have q2 : decide (122 < (b.toNat : Int)) = false := decide_eq_false (by omega)
        have q3 : decide ((b.toNat : Int) < 48) = false := decide_eq_false (by omega)
        have q4 : decide (57 < (b.toNat : Int)) = true := decide_eq_true (by omega)
        have q5 : decide ((b.toNat : Int) = 45) = false := decide_eq_false (by omega)
        have hok : okC b = false := by unfold okC; simp; omega
        simp only [i0, i3, hix, q1, q2, q3, q4, q5, go_sem, ↓act_zero, Nat.reduceBEq, Nat.reduceAdd, reduceIte, Nat.reduceEqDiff, Nat.reduceLT, Nat.reduceLeDiff]
        rw [not_all hkp hok]; rfl
       ·have q1 : decide ((b.toNat : Int) < 97) = false := decide_eq_false (by omega)
        have q2 : decide (122 < (b.toNat : Int)) = false := decide_eq_false (by omega)
        have q3 : decide ((b.toNat : Int) < 48) = false := decide_eq_false (by omega)
        have q4 : decide (57 < (b.toNat : Int)) = true := decide_eq_true (by omega)
        have q5 : decide ((b.toNat : Int) = 45) = false := decide_eq_false (by omega)
        have hok : okC b = true := by unfold okC; simp; omega
        simp only [i0, i3, hix, q1, q2, q3, q4, q5, go_sem, ↓act_zero, Nat.reduceBEq, Nat.reduceAdd, reduceIte, Nat.reduceEqDiff, Nat.reduceLT, Nat.reduceLeDiff]
        exact ⟨_, by omega, k + 1, rfl, by omega, wr64_succ k (by omega), by rw [take_all hkp hall, hok]⟩
       ·have q1 : decide ((b.toNat : Int) < 97) = false := decide_eq_false (by omega)
        have q2 : decide (122 < (b.toNat : Int)) = true := decide_eq_true (by omega)
        have q3 : decide ((b.toNat : Int) < 48) = false := decide_eq_false (by omega)
        have q4 : decide (57 < (b.toNat : Int)) = true := decide_eq_true (by omega)
        have q5 : decide ((b.toNat : Int) = 45) = false := decide_eq_false (by omega)
        have hok : okC b = false := by unfold okC; simp; omega
        simp only [i0, i3, hix, q1, q2, q3, q4, q5, go_sem, ↓act_zero, Nat.reduceBEq, Nat.reduceAdd, reduceIte, Nat.reduceEqDiff, Nat.reduceLT, Nat.reduceLeDiff]
        rw [not_all hkp hok]; rfl
      ·obtain rfl : k = s.length := by omega
       rw [List.take_length] at hall
       simp only [i0, i3, go_sem, ↓act_zero, Nat.reduceBEq, Nat.reduceAdd, reduceIte, Nat.reduceEqDiff, Nat.reduceLT, Nat.reduceLeDiff]
       rw [hall]; rfl
    ·simp only [d1, d2, x0, w1, x1, d3, d4, go_sem, ↓act_zero, Nat.reduceBEq, Nat.reduceAdd, reduceIte, Nat.reduceEqDiff, Nat.reduceLT, Nat.reduceLeDiff]
     rfl
   ·simp only [d1, d2, x0, w1, x1, d3, go_sem, ↓act_zero, Nat.reduceBEq, Nat.reduceAdd, reduceIte, Nat.reduceEqDiff, Nat.reduceLT, Nat.reduceLeDiff]
    rfl
end
end Go.Proofs.YtaoffieemecioaaDoor



namespace Go.Proofs.YtaoffieemecioaaDoor
open Go Go.IW

section
attribute [local go_sem] boxA_1 boxA_2 boxA_3 bslA_1 List.getElem?_cons_zero List.getElem?_cons_succ Option.bind_some List.map_cons List.map_nil Nat.zero_add if_true List.getD_cons_zero List.getD_cons_succ List.contains_cons List.contains_nil Bool.or_true Bool.true_or Bool.or_false Bool.false_or Bool.not_true Bool.not_false true_and and_true rowA_whole push_n set_n push_obj set_obj set_push set_push_ne set_set Nat.add_assoc Nat.left_eq_add Nat.add_eq_left Nat.add_left_cancel_iff stO_1s stO_ws boxA_s one_bool one_int one_str one_ptr one_nilptr one_slice one_eslice one_nilslice one_func one_iface one_niliface List.all_cons List.all_nil List.length_cons List.length_nil Bool.and_true Nat.one_ne_zero Nat.succ_ne_zero if_false List.set_cons_zero List.set_cons_succ
set_option maxRecDepth 20000 in
theorem specNameOK_c (h : IH) (s : List UInt8) (hm : s.length ≤ 1048576) : ICalls Tryd.prog 38 [.str s] h fun r h' => r = .bool (okName s) ∧ Ext h h' := by
 refine icalls (.of ok38) (Nat.le_of_ble_eq_true rfl) ?_
 unfold c38
 by_cases c1 : 63 < s.length
 ·have d1 : decide (63 < (s.length : Int)) = true := decide_eq_true (by omega)
  simp only [d1, go_sem, ↓act_zero, Nat.reduceBEq, Nat.reduceAdd, reduceIte, Nat.reduceEqDiff, Nat.reduceLT, Nat.reduceLeDiff]
  have : decide (s.length ≤ 63) = false := decide_eq_false (by omega)
  exact ⟨by unfold okName; rw [this]; rfl, Ext.refl _⟩
 ·have d1 : decide (63 < (s.length : Int)) = false := decide_eq_false (by omega)
  have hdef : okName s = (cutAt 46 s).all okLabel := by
   have : decide (s.length ≤ 63) = true := decide_eq_true (by omega)
   unfold okName; rw [this]; rfl
  rw [hdef]
  simp only [d1, go_sem, ↓act_zero, Nat.reduceBEq, Nat.reduceAdd, reduceIte, Nat.reduceEqDiff, Nat.reduceLT, Nat.reduceLeDiff]
  refine callA_of (l02Cut_c h s 46 hm) ?_
  rintro v h1 ⟨hs, hE⟩
  have hlen := hs.lenF
  rw [List.length_map] at hlen
  simp only [go_sem, ↓act_zero, Nat.reduceBEq, Nat.reduceAdd, reduceIte, Nat.reduceEqDiff, Nat.reduceLT, Nat.reduceLeDiff]
  have hpl : (cutAt 46 s).length ≤ 1048577 := by rw [cutAt_len]; have := count_le_len 46 s; omega
  generalize cutAt 46 s = parts at hs hlen hpl
  refine loop_at (fun n e h' => ∃ k, n = parts.length - k ∧ k ≤ parts.length ∧ e 3 = v ∧ e 4 = .int .i64 (k : Nat) ∧ h' = h1 ∧ (parts.take k).all okLabel = true) parts.length ?_ ?_
  ·refine ⟨0, by omega, by omega, ?_⟩
   simp only [go_sem, ↓act_zero, Nat.reduceBEq, Nat.reduceAdd, reduceIte, Nat.reduceEqDiff, Nat.reduceLT, Nat.reduceLeDiff]
   exact ⟨rfl, by simp⟩
  ·rintro n e h' ⟨k, rfl, hk, i3, i4, rfl, hall⟩
   simp only [i3, i4, hlen, go_sem, ↓act_zero, Nat.reduceBEq, Nat.reduceAdd, reduceIte, Nat.reduceEqDiff, Nat.reduceLT, Nat.reduceLeDiff]
   refine test_dec (fun hlt => ?_) (fun hlt => ?_)
   ·have hlt' : k < parts.length := by omega
    have hkp : parts[k]? = some parts[k] := List.getElem?_eq_getElem hlt'
    generalize parts[k] = p at hkp
    obtain ⟨l, j, hia, hll, hrow⟩ := hs.at (m := k) (row := sRow p) (by rw [List.getElem?_map, hkp]; rfl) .i64
    have hc := cellO_row hrow
    unfold sRow at hc
    simp only [i3, i4, hlen, hia, hc, go_sem, ↓act_zero, Nat.reduceBEq, Nat.reduceAdd, reduceIte, Nat.reduceEqDiff, Nat.reduceLT, Nat.reduceLeDiff]
    refine callA_of (l19Label_c _ p) ?_
    rintro r h2 ⟨rfl, rfl⟩
    cases hok : okLabel p
    ·simp only [i3, i4, go_sem, ↓act_zero, Nat.reduceBEq, Nat.reduceAdd, reduceIte, Nat.reduceEqDiff, Nat.reduceLT, Nat.reduceLeDiff]
     exact ⟨by rw [not_all hkp hok], hE⟩
    ·simp only [i3, i4, go_sem, ↓act_zero, Nat.reduceBEq, Nat.reduceAdd, reduceIte, Nat.reduceEqDiff, Nat.reduceLT, Nat.reduceLeDiff]
     exact ⟨_, by omega, k + 1, rfl, by omega, wr64_succ k (by omega), by rw [take_all hkp hall, hok]⟩
   ·obtain rfl : k = parts.length := by omega
    rw [List.take_length] at hall
    simp only [go_sem, ↓act_zero, Nat.reduceBEq, Nat.reduceAdd, reduceIte, Nat.reduceEqDiff, Nat.reduceLT, Nat.reduceLeDiff]
    exact ⟨by rw [hall], hE⟩

set_option maxRecDepth 20000 in
theorem implNameOK_c (h : IH) (s : List UInt8) (hm : s.length ≤ 1048576) : ICalls Tryd.prog 24 [.str s] h fun r h' => r = .bool (okName s) ∧ Ext h h' := by
 refine icalls (.of ok24) (Nat.le_of_ble_eq_true rfl) ?_
 unfold c24
 by_cases c0 : s.length < 1
 ·have d0 : decide ((s.length : Int) < 1) = true := decide_eq_true (by omega)
  have hs0 : s = [] := List.length_eq_zero_iff.1 (by omega)
  simp only [d0, go_sem, ↓act_zero, Nat.reduceBEq, Nat.reduceAdd, reduceIte, Nat.reduceEqDiff, Nat.reduceLT, Nat.reduceLeDiff]
  exact ⟨by rw [hs0]; rfl, Ext.refl _⟩
 ·have d0 : decide ((s.length : Int) < 1) = false := decide_eq_false (by omega)
  by_cases c1 : 63 < s.length
  ·have d1 : decide (63 < (s.length : Int)) = true := decide_eq_true (by omega)
   simp only [d0, d1, go_sem, ↓act_zero, Nat.reduceBEq, Nat.reduceAdd, reduceIte, Nat.reduceEqDiff, Nat.reduceLT, Nat.reduceLeDiff]
   have : decide (s.length ≤ 63) = false := decide_eq_false (by omega)
   exact ⟨by unfold okName; rw [this]; rfl, Ext.refl _⟩
  ·have d1 : decide (63 < (s.length : Int)) = false := decide_eq_false (by omega)
   have hdef : okName s = (cutAt 46 s).all okLabel := by
    have : decide (s.length ≤ 63) = true := decide_eq_true (by omega)
    unfold okName; rw [this]; rfl
   rw [hdef]
   simp only [d0, d1, go_sem, ↓act_zero, Nat.reduceBEq, Nat.reduceAdd, reduceIte, Nat.reduceEqDiff, Nat.reduceLT, Nat.reduceLeDiff]
   refine callA_of (split_c h s 46 hm) ?_
   rintro v h1 ⟨hs, hE⟩
   have hlen := hs.lenF
   rw [List.length_map] at hlen
   simp only [hlen, go_sem, ↓act_zero, Nat.reduceBEq, Nat.reduceAdd, reduceIte, Nat.reduceEqDiff, Nat.reduceLT, Nat.reduceLeDiff]
   have hpl : (cutAt 46 s).length ≤ 1048577 := by rw [cutAt_len]; have := count_le_len 46 s; omega
   generalize cutAt 46 s = parts at hs hlen hpl
   refine loop_at (fun n e h' => ∃ k, n = parts.length - k ∧ k ≤ parts.length ∧ e 16 = v ∧ e 17 = .int .i64 (parts.length : Nat) ∧ e 18 = .int .i64 (k : Nat) ∧ Ext h1 h' ∧ (parts.take k).all okLabel = true) parts.length ?_ ?_
   ·refine ⟨0, by omega, by omega, ?_⟩
    simp only [go_sem, ↓act_zero, Nat.reduceBEq, Nat.reduceAdd, reduceIte, Nat.reduceEqDiff, Nat.reduceLT, Nat.reduceLeDiff]
    exact ⟨rfl, Ext.refl _, by simp⟩
   ·rintro n e h' ⟨k, rfl, hk, i16, i17, i18, E, hall⟩
    simp only [i16, i17, i18, go_sem, ↓act_zero, Nat.reduceBEq, Nat.reduceAdd, reduceIte, Nat.reduceEqDiff, Nat.reduceLT, Nat.reduceLeDiff]
    refine test_dec (fun hlt => ?_) (fun hlt => ?_)
    ·have hlt' : k < parts.length := by omega
     have hkp : parts[k]? = some parts[k] := List.getElem?_eq_getElem hlt'
     generalize parts[k] = p at hkp
     obtain ⟨l, j, hia, hll, hrow⟩ := (hs.ext E).at (m := k) (row := sRow p) (by rw [List.getElem?_map, hkp]; rfl) .i64
     have hc := cellO_row hrow
     unfold sRow at hc
     by_cases c2 : p.length < 1
     ·have d2 : decide ((p.length : Int) < 1) = true := decide_eq_true (by omega)
      simp only [i16, i17, i18, hia, hc, d2, go_sem, ↓act_zero, Nat.reduceBEq, Nat.reduceAdd, reduceIte, Nat.reduceEqDiff, Nat.reduceLT, Nat.reduceLeDiff]
      exact ⟨by rw [not_all hkp (label_short (.inl c2))], hE.trans E⟩
     ·have d2 : decide ((p.length : Int) < 1) = false := decide_eq_false (by omega)
      by_cases c3 : 20 < p.length
      ·have d3 : decide (20 < (p.length : Int)) = true := decide_eq_true (by omega)
       simp only [i16, i17, i18, hia, hc, d2, d3, go_sem, ↓act_zero, Nat.reduceBEq, Nat.reduceAdd, reduceIte, Nat.reduceEqDiff, Nat.reduceLT, Nat.reduceLeDiff]
       exact ⟨by rw [not_all hkp (label_short (.inr c3))], hE.trans E⟩
      ·have d3 : decide (20 < (p.length : Int)) = false := decide_eq_false (by omega)
       have hlab := label_long c2 c3
       have g0 : p[0]? = some (p.getD 0 0) := by rw [List.getD_eq_getElem?_getD, List.getElem?_eq_getElem (by omega)]; rfl
       have g1 : p[p.length - 1]? = some (p.getD (p.length - 1) 0) := by rw [List.getD_eq_getElem?_getD, List.getElem?_eq_getElem (by omega)]; rfl
       have x0 : idxSF (.str p) (.int .i64 0) = some (.int .u8 (p.getD 0 0).toNat) := by simpa using idxS_at (q := .i64) g0
       have w1 : wr .i64 ((p.length : Int) - 1) = ((p.length - 1 : Nat) : Int) := by rw [wr64 _ (by omega)]; omega
       have x1 := idxS_at (q := .i64) g1
       unfold ends at hlab
       have bad : ((!(decide (((p.getD 0 0).toNat : Int) = 45) || decide (((p.getD (p.length - 1) 0).toNat : Int) = 45))) && p.all okC) = false → parts.all okLabel = false := fun hx => not_all hkp (hlab.trans hx)
       cases d4 : decide (((p.getD 0 0).toNat : Int) = 45)
       ·cases d5 : decide (((p.getD (p.length - 1) 0).toNat : Int) = 45)
        ·rw [d4, d5] at hlab bad
         have hpne : p ≠ [] := fun h0 => c2 (by rw [h0]; decide)
         simp only [i16, i17, i18, hia, hc, d2, d3, x0, w1, x1, d4, d5, go_sem, ↓act_zero, Nat.reduceBEq, Nat.reduceAdd, reduceIte, Nat.reduceEqDiff, Nat.reduceLT, Nat.reduceLeDiff]
         unfold s2bA
         simp only [if_neg hpne]
         refine ⟨by omega, ?_⟩
         simp only [i16, i17, i18, go_sem, ↓act_zero, Nat.reduceBEq, Nat.reduceAdd, reduceIte, Nat.reduceEqDiff, Nat.reduceLT, Nat.reduceLeDiff]
         generalize hq_g0 : IH.push h' (IObj.rows (strRows p) 5 1 false) = g0
         have e_g0 : Ext h' g0 := by rw [← hq_g0]; exact (Ext.refl _).push _
         have l_g0 : g0.n = h'.n + 1 := by rw [← hq_g0]; rfl
         have ba : At g0 h'.n (IObj.rows (strRows p) 5 1 false) := by rw [← hq_g0]; exact At.new _ _
         clear hq_g0
         have hsl : SlR g0 1 (.slice h'.n 0 p.length) (strRows p) := SlR.whole ba.eq (by simp [strRows]) ba.lt
         refine loop_at (fun n e g => ∃ i, n = p.length - i ∧ i ≤ p.length ∧ e 16 = v ∧ e 17 = .int .i64 (parts.length : Nat) ∧ e 18 = .int .i64 (k : Nat) ∧ e 44 = .slice h'.n 0 p.length ∧ e 45 = .int .i64 (p.length : Nat) ∧ e 46 = .int .i64 (i : Nat) ∧ g = g0 ∧ (p.take i).all okC = true) p.length ?_ ?_
         ·refine ⟨0, by omega, by omega, ?_⟩
          simp only [i16, i17, i18, go_sem, ↓act_zero, Nat.reduceBEq, Nat.reduceAdd, reduceIte, Nat.reduceEqDiff, Nat.reduceLT, Nat.reduceLeDiff]
          exact ⟨rfl, by simp⟩
         ·rintro n e g ⟨i, rfl, hi, i16, i17, i18, i44, i45, i46, rfl, hal2⟩
          simp only [i16, i17, i18, i44, i45, i46, go_sem, ↓act_zero, Nat.reduceBEq, Nat.reduceAdd, reduceIte, Nat.reduceEqDiff, Nat.reduceLT, Nat.reduceLeDiff]
          refine test_dec (fun hlt2 => ?_) (fun hlt2 => ?_)
          ·have hlt2' : i < p.length := by omega
           have hip : p[i]? = some p[i] := List.getElem?_eq_getElem hlt2'
           generalize p[i] = b at hip
           obtain ⟨l2, j2, hia2, hll2, hrow2⟩ := hsl.at (m := i) (row := [.int .u8 b.toNat]) (by unfold strRows; rw [List.getElem?_map, hip]; rfl) .i64
           have hc2 := cellO_row hrow2
           rcases class6 b with hc | hc | hc | hc | hc | hc
           ·have q1 : decide (97 ≤ (b.toNat : Int)) = false := decide_eq_false (by omega)
            have q2 : decide ((b.toNat : Int) ≤ 122) = true := decide_eq_true (by omega)
            have q3 : decide (48 ≤ (b.toNat : Int)) = false := decide_eq_false (by omega)
            have q4 : decide ((b.toNat : Int) ≤ 57) = true := decide_eq_true (by omega)
            have q5 : decide ((b.toNat : Int) = 45) = true := decide_eq_true (by omega)
            have hok : okC b = true := by unfold okC; simp; omega
            simp only [i16, i17, i18, i44, i45, i46, hia2, hc2, q1, q2, q3, q4, q5, go_sem, ↓act_zero, Nat.reduceBEq, Nat.reduceAdd, reduceIte, Nat.reduceEqDiff, Nat.reduceLT, Nat.reduceLeDiff]
            exact ⟨_, by omega, i + 1, rfl, by omega, wr64_succ i (by omega), by rw [take_all hip hal2, hok]⟩
           ·have q1 : decide (97 ≤ (b.toNat : Int)) = false := decide_eq_false (by omega)
            have q2 : decide ((b.toNat : Int) ≤ 122) = true := decide_eq_true (by omega)
            have q3 : decide (48 ≤ (b.toNat : Int)) = false := decide_eq_false (by omega)
            have q4 : decide ((b.toNat : Int) ≤ 57) = true := decide_eq_true (by omega)
            have q5 : decide ((b.toNat : Int) = 45) = false := decide_eq_false (by omega)
            have hok : okC b = false := by unfold okC; simp; omega
            simp only [i16, i17, i18, i44, i45, i46, hia2, hc2, q1, q2, q3, q4, q5, go_sem, ↓act_zero, Nat.reduceBEq, Nat.reduceAdd, reduceIte, Nat.reduceEqDiff, Nat.reduceLT, Nat.reduceLeDiff]
            exact ⟨by rw [bad (by rw [not_all hip hok]; rfl)], hE.trans (E.trans e_g0)⟩
           ·have q1 : decide (97 ≤ (b.toNat : Int)) = false := decide_eq_false (by omega)
            have q2 : decide ((b.toNat : Int) ≤ 122) = true := decide_eq_true (by omega)
            have q3 : decide (48 ≤ (b.toNat : Int)) = true := decide_eq_true (by omega)
            have q4 : decide ((b.toNat : Int) ≤ 57) = true := decide_eq_true (by omega)
            have q5 : decide ((b.toNat : Int) = 45) = false := decide_eq_false (by omega)
            have hok : okC b = true := by unfold okC; simp; omega
            simp only [i16, i17, i18, i44, i45, i46, hia2, hc2, q1, q2, q3, q4, q5, go_sem, ↓act_zero, Nat.reduceBEq, Nat.reduceAdd, reduceIte, Nat.reduceEqDiff, Nat.reduceLT, Nat.reduceLeDiff]
            exact ⟨_, by omega, i + 1, rfl, by omega, wr64_succ i (by omega), by rw [take_all hip hal2, hok]⟩
           ·have q1 : decide (97 ≤ (b.toNat : Int)) = false := decide_eq_false (by omega)
            have q2 : decide ((b.toNat : Int) ≤ 122) = true := decide_eq_true (by omega)
            have q3 : decide (48 ≤ (b.toNat : Int)) = true := decide_eq_true (by omega)
            have q4 : decide ((b.toNat : Int) ≤ 57) = false := decide_eq_false (by omega)
            have q5 : decide ((b.toNat : Int) = 45) = false := decide_eq_false (by omega)
            have hok : okC b = false := by unfold okC; simp; omega
            simp only [i16, i17, i18, i44, i45, i46, hia2, hc2, q1, q2, q3, q4, q5, go_sem, ↓act_zero, Nat.reduceBEq, Nat.reduceAdd, reduceIte, Nat.reduceEqDiff, Nat.reduceLT, Nat.reduceLeDiff]
            exact ⟨by rw [bad (by rw [not_all hip hok]; rfl)], hE.trans (E.trans e_g0)⟩
           ·have q1 : decide (97 ≤ (b.toNat : Int)) = true := decide_eq_true (by omega)
            have q2 : decide ((b.toNat : Int) ≤ 122) = true := decide_eq_true (by omega)
            have q3 : decide (48 ≤ (b.toNat : Int)) = true := decide_eq_true (by omega)
            have q4 : decide ((b.toNat : Int) ≤ 57) = false := decide_eq_false (by omega)
            have q5 : decide ((b.toNat : Int) = 45) = false := decide_eq_false (by omega)
            have hok : okC b = true := by unfold okC; simp; omega
            simp only [i16, i17, i18, i44, i45, i46, hia2, hc2, q1, q2, q3, q4, q5, go_sem, ↓act_zero, Nat.reduceBEq, Nat.reduceAdd, reduceIte, Nat.reduceEqDiff, Nat.reduceLT, Nat.reduceLeDiff]
            exact ⟨_, by omega, i + 1, rfl, by omega, wr64_succ i (by omega), by rw [take_all hip hal2, hok]⟩
           ·have q1 : decide (97 ≤ (b.toNat : Int)) = true := decide_eq_true (by omega)
            have q2 : decide ((b.toNat : Int) ≤ 122) = false := decide_eq_false (by omega)
            have q3 : decide (48 ≤ (b.toNat : Int)) = true := decide_eq_true (by omega)
            have q4 : decide ((b.toNat : Int) ≤ 57) = false := decide_eq_false (by omega)
            have q5 : decide ((b.toNat : Int) = 45) = false := decide_eq_false (by omega)
            have hok : okC b = false := by unfold okC; simp; omega
            simp only [i16, i17, i18, i44, i45, i46, hia2, hc2, q1, q2, q3, q4, q5, go_sem, ↓act_zero, Nat.reduceBEq, Nat.reduceAdd, reduceIte, Nat.reduceEqDiff, Nat.reduceLT, Nat.reduceLeDiff]
            exact ⟨by rw [bad (by rw [not_all hip hok]; rfl)], hE.trans (E.trans e_g0)⟩
          ·obtain rfl : i = p.length := by omega
           rw [List.take_length] at hal2
           rw [hal2] at hlab
           simp only [i16, i17, i18, go_sem, ↓act_zero, Nat.reduceBEq, Nat.reduceAdd, reduceIte, Nat.reduceEqDiff, Nat.reduceLT, Nat.reduceLeDiff]
           exact ⟨_, by omega, k + 1, rfl, by omega, wr64_succ k (by omega), E.trans e_g0, by rw [take_all hkp hall, hlab]; rfl⟩
        ·simp only [i16, i17, i18, hia, hc, d2, d3, x0, w1, x1, d4, d5, go_sem, ↓act_zero, Nat.reduceBEq, Nat.reduceAdd, reduceIte, Nat.reduceEqDiff, Nat.reduceLT, Nat.reduceLeDiff]
         exact ⟨by rw [bad (by rw [d4, d5]; rfl)], hE.trans E⟩
       ·simp only [i16, i17, i18, hia, hc, d2, d3, x0, w1, x1, d4, go_sem, ↓act_zero, Nat.reduceBEq, Nat.reduceAdd, reduceIte, Nat.reduceEqDiff, Nat.reduceLT, Nat.reduceLeDiff]
        exact ⟨by rw [bad (by rw [d4]; rfl)], hE.trans E⟩
    ·obtain rfl : k = parts.length := by omega
     rw [List.take_length] at hall
     simp only [go_sem, ↓act_zero, Nat.reduceBEq, Nat.reduceAdd, reduceIte, Nat.reduceEqDiff, Nat.reduceLT, Nat.reduceLeDiff]
     exact ⟨by rw [hall], hE.trans E⟩
end
end Go.Proofs.YtaoffieemecioaaDoor



namespace Go.Proofs.YtaoffieemecioaaDoor
open Go Go.IW

theorem wr_u8 (x : Int) : wr .u8 x = ((UInt8.ofNat (x % 256).toNat).toNat : Int) := by
 have h1 : wr .u8 x = x % 256 := by unfold wr; rw [IntKind.wrap_u8]
 rw [h1]
 have h2 : (x % 256).toNat < 256 := by omega
 simp [UInt8.toNat_ofNat']
 omega
def byteAt (v : Int) (i : Nat) : UInt8 := UInt8.ofNat (v.fdiv (2 ^ (8 * i)) % 256).toNat
def beB : Nat → Int → List UInt8
 | 0, _ => []
 | k + 1, v => byteAt v k :: beB k v
theorem beB_len : ∀ (k : Nat) (v : Int), (beB k v).length = k
 | 0, _ => rfl
 | k + 1, v => by simp [beB, beB_len k v]
theorem strRows_append (a b : List UInt8) : strRows (a ++ b) = strRows a ++ strRows b := by simp [strRows]
theorem strRows_len (a : List UInt8) : (strRows a).length = a.length := by simp [strRows]
theorem strRows_at {a : List UInt8} {k : Nat} {b : UInt8} (h : a[k]? = some b) : (strRows a)[k]? = some [.int .u8 b.toNat] := by
 unfold strRows; rw [List.getElem?_map, h]; rfl

section
attribute [local go_sem] boxA_1 boxA_2 boxA_3 bslA_1 List.getElem?_cons_zero List.getElem?_cons_succ Option.bind_some List.map_cons List.map_nil Nat.zero_add if_true List.getD_cons_zero List.getD_cons_succ List.contains_cons List.contains_nil Bool.or_true Bool.true_or Bool.or_false Bool.false_or Bool.not_true Bool.not_false true_and and_true rowA_whole push_n set_n push_obj set_obj set_push set_push_ne set_set Nat.add_assoc Nat.left_eq_add Nat.add_eq_left Nat.add_left_cancel_iff stO_1s stO_ws boxA_s one_bool one_int one_str one_ptr one_nilptr one_slice one_eslice one_nilslice one_func one_iface one_niliface List.all_cons List.all_nil List.length_cons List.length_nil Bool.and_true Nat.one_ne_zero Nat.succ_ne_zero if_false List.set_cons_zero List.set_cons_succ
set_option maxRecDepth 20000 in
theorem l03Put_c (h : IH) (v : Int) (w : Nat) (hw : w ≤ 8) : ICalls Tryd.prog 34 [.int .i64 v, .int .i64 w] h fun r h' => Own h.n h'.n h' 5 1 r (strRows (beB w v)) ∧ Ext h h' := by
 refine icalls (.of ok34) (Nat.le_of_ble_eq_true rfl) ?_
 unfold c34
 have w0 : wr .i64 ((w : Int) - 1) = (w : Int) - 1 := wr64 _ (by omega)
 simp only [w0, go_sem, ↓act_zero, Nat.reduceBEq, Nat.reduceAdd, reduceIte, Nat.reduceEqDiff, Nat.reduceLT, Nat.reduceLeDiff]
 refine loop_at (fun n e g => ∃ (x : IV) (lo hi : Nat) (out : List UInt8), n ≤ w ∧ e 0 = .int .i64 v ∧ e 5 = x ∧ e 6 = .int .i64 ((n : Int) - 1) ∧ Ext h g ∧ h.n ≤ lo ∧ hi ≤ g.n ∧ Own lo hi g 5 1 x (strRows out) ∧ out ++ beB n v = beB w v) w ?_ ?_
 ·refine ⟨.eslice true, h.n, h.n, [], Nat.le_refl _, ?_⟩
  simp only [go_sem, ↓act_zero, Nat.reduceBEq, Nat.reduceAdd, reduceIte, Nat.reduceEqDiff, Nat.reduceLT, Nat.reduceLeDiff]
  exact ⟨Ext.refl _, Nat.le_refl _, Nat.le_refl _, Own.empty, by simp⟩
 ·rintro n e g ⟨x, lo, hi, out, hn, i0, i5, i6, E, hlo, hhi, o, hout⟩
  have hle := E.le
  cases n with
  | zero =>
   have d0 : decide ((0 : Int) ≤ ((0 : Nat) : Int) - 1) = false := decide_eq_false (by omega)
   simp only [i0, i5, i6, d0, go_sem, ↓act_zero, Nat.reduceBEq, Nat.reduceAdd, reduceIte, Nat.reduceEqDiff, Nat.reduceLT, Nat.reduceLeDiff]
   have : out = beB w v := by simpa [beB] using hout
   rw [← this]
   exact ⟨o.wide hlo hhi (Nat.le_refl _), E⟩
  | succ k =>
   have d0 : decide ((0 : Int) ≤ ((k + 1 : Nat) : Int) - 1) = true := decide_eq_true (by omega)
   have e1 : ((k + 1 : Nat) : Int) - 1 = (k : Int) := by omega
   have w1 : wr .i64 (8 * (k : Int)) = ((8 * k : Nat) : Int) := by rw [wr64 _ (by omega)]; omega
   have w2 : wr .u64 (((8 * k : Nat) : Int)) = ((8 * k : Nat) : Int) := by unfold wr; rw [IntKind.wrap_u64]; omega
   have w3 := ib_shr .i64 v ((8 * k : Nat) : Int) .u64 (by omega)
   have hmin : min ((8 * k : Nat) : Int).toNat IntKind.i64.bits = 8 * k := by
    have : IntKind.i64.bits = 64 := rfl
    rw [this]; omega
   rw [hmin] at w3
   have hol : out.length ≤ 8 := by
    have := congrArg List.length hout
    rw [la0, beB_len, beB_len] at this
    omega
   have w4 : wr .i64 ((k : Int) - 1) = (k : Int) - 1 := wr64 _ (by omega)
   have w5 : wr .u8 (v.fdiv (2 ^ (8 * k))) = ((byteAt v k).toNat : Int) := wr_u8 _
   rw [e1] at i6 d0
   simp only [i0, i5, i6, d0, w1, w2, w3, w5, go_sem, ↓act_zero, Nat.reduceBEq, Nat.reduceAdd, reduceIte, Nat.reduceEqDiff, Nat.reduceLT, Nat.reduceLeDiff]
   generalize hq_g1 : IH.push g (IObj.rows [[.int .u8 (byteAt v k).toNat]] 5 1 false) = g1
   have e_g1 : Ext g g1 := by rw [← hq_g1]; exact (Ext.refl _).push _
   have l_g1 : g1.n = g.n + 1 := by rw [← hq_g1]; rfl
   have ba : At g1 g.n (IObj.rows [[.int .u8 (byteAt v k).toNat]] 5 1 false) := by rw [← hq_g1]; exact At.new _ _
   clear hq_g1
   have o := o.ext e_g1
   have E := E.ext e_g1
   refine o.app (by simp) (by rw [strRows_len]; simp; omega) ?_
   intro v6 h6 o6 t6 n6 v6o v6c
   have E := E.turn o (by omega) t6
   have le_t6 := t6.le
   simp only [i0, i5, i6, w4, go_sem, ↓act_zero, Nat.reduceBEq, Nat.reduceAdd, reduceIte, Nat.reduceEqDiff, Nat.reduceLT, Nat.reduceLeDiff]
   refine ⟨k, Nat.lt_succ_self _, v6, g1.n, g1.n + 1, out ++ [byteAt v k], by omega, rfl, rfl, E, by omega, by omega, ?_, ?_⟩
   ·rw [strRows_append]; exact o6
   ·rw [← hout]; simp [beB]

set_option maxRecDepth 20000 in
theorem put_c {lo hi : Nat} (hB h : IH) (E : Ext hB h) (x : IV) (bs : List UInt8) (v : Int) (w : Nat) (hw : w ≤ 8) (hv : 0 ≤ v ∧ v ≤ 9223372036854775807) (hbl : bs.length ≤ 16777216) (hlo : hB.n ≤ lo) (o : Own lo hi h 5 1 x (strRows bs)) (hhi : hi ≤ h.n) :
  ICalls Tryd.prog 79 [x, .int .i64 w, .int .i64 v] h fun r h' => Own hB.n h'.n h' 5 1 r (strRows (bs ++ beB w v)) ∧ Ext hB h' := by
 refine icalls (.of ok79) (Nat.le_of_ble_eq_true rfl) ?_
 unfold c79
 have w0 : wr .i64 ((w : Int) - 1) = (w : Int) - 1 := wr64 _ (by omega)
 simp only [w0, go_sem, ↓act_zero, Nat.reduceBEq, Nat.reduceAdd, reduceIte, Nat.reduceEqDiff, Nat.reduceLT, Nat.reduceLeDiff]
 refine loop_at (fun n e g => ∃ (x : IV) (lo hi : Nat) (out : List UInt8), n ≤ w ∧ e 2 = .int .i64 v ∧ e 0 = x ∧ e 7 = .int .i64 ((n : Int) - 1) ∧ Ext hB g ∧ hB.n ≤ lo ∧ hi ≤ g.n ∧ Own lo hi g 5 1 x (strRows out) ∧ out ++ beB n v = bs ++ beB w v) w ?_ ?_
 ·refine ⟨x, lo, hi, bs, Nat.le_refl _, ?_⟩
  simp only [go_sem, ↓act_zero, Nat.reduceBEq, Nat.reduceAdd, reduceIte, Nat.reduceEqDiff, Nat.reduceLT, Nat.reduceLeDiff]
  exact ⟨E, hlo, hhi, o⟩
 ·rintro n e g ⟨x, lo, hi, out, hn, i2, i0, i7, E, hlo, hhi, o, hout⟩
  have hle := E.le
  cases n with
  | zero =>
   have d0 : decide ((0 : Int) ≤ ((0 : Nat) : Int) - 1) = false := decide_eq_false (by omega)
   simp only [i0, i2, i7, d0, go_sem, ↓act_zero, Nat.reduceBEq, Nat.reduceAdd, reduceIte, Nat.reduceEqDiff, Nat.reduceLT, Nat.reduceLeDiff]
   have : out = bs ++ beB w v := by simpa [beB] using hout
   rw [← this]
   exact ⟨o.wide hlo hhi (Nat.le_refl _), E⟩
  | succ k =>
   have d0 : decide ((0 : Int) ≤ ((k + 1 : Nat) : Int) - 1) = true := decide_eq_true (by omega)
   have e1 : ((k + 1 : Nat) : Int) - 1 = (k : Int) := by omega
   have w1 : wr .i64 (8 * (k : Int)) = ((8 * k : Nat) : Int) := by rw [wr64 _ (by omega)]; omega
   have w2 : wr .u64 v = v := by unfold wr; rw [IntKind.wrap_u64]; omega
   have w3 := ib_shr .u64 v ((8 * k : Nat) : Int) .i64 (by omega)
   have hmin : min ((8 * k : Nat) : Int).toNat IntKind.u64.bits = 8 * k := by
    have : IntKind.u64.bits = 64 := rfl
    rw [this]; omega
   rw [hmin] at w3
   have hol : out.length ≤ 16777300 := by
    have := congrArg List.length hout
    rw [la0, la0, beB_len, beB_len] at this
    omega
   have w4 : wr .i64 ((k : Int) - 1) = (k : Int) - 1 := wr64 _ (by omega)
   have w5 : wr .u8 (v.fdiv (2 ^ (8 * k))) = ((byteAt v k).toNat : Int) := wr_u8 _
   rw [e1] at i7 d0
   simp only [i0, i2, i7, d0, w1, w2, w3, w5, go_sem, ↓act_zero, Nat.reduceBEq, Nat.reduceAdd, reduceIte, Nat.reduceEqDiff, Nat.reduceLT, Nat.reduceLeDiff]
   generalize hq_g1 : IH.push g (IObj.rows [[.int .u8 (byteAt v k).toNat]] 5 1 false) = g1
   have e_g1 : Ext g g1 := by rw [← hq_g1]; exact (Ext.refl _).push _
   have l_g1 : g1.n = g.n + 1 := by rw [← hq_g1]; rfl
   have ba : At g1 g.n (IObj.rows [[.int .u8 (byteAt v k).toNat]] 5 1 false) := by rw [← hq_g1]; exact At.new _ _
   clear hq_g1
   have o := o.ext e_g1
   have E := E.ext e_g1
   refine o.app (by simp) (by rw [strRows_len]; simp; omega) ?_
   intro v6 h6 o6 t6 n6 v6o v6c
   have E := E.turn o (by omega) t6
   have le_t6 := t6.le
   simp only [i0, i2, i7, w4, go_sem, ↓act_zero, Nat.reduceBEq, Nat.reduceAdd, reduceIte, Nat.reduceEqDiff, Nat.reduceLT, Nat.reduceLeDiff]
   refine ⟨k, Nat.lt_succ_self _, v6, g1.n, g1.n + 1, out ++ [byteAt v k], by omega, rfl, rfl, E, by omega, by omega, ?_, ?_⟩
   ·rw [strRows_append]; exact o6
   ·rw [← hout]; simp [beB]

set_option maxRecDepth 20000 in
theorem l01Copy_c (h : IH) (v : IV) (bs : List UInt8) (hs : SlR h 1 v (strRows bs)) (hbl : bs.length ≤ 16777216) : ICalls Tryd.prog 57 [v] h fun r h' => Own h.n h'.n h' 5 1 r (strRows bs) ∧ Ext h h' := by
 refine icalls (.of ok57) (Nat.le_of_ble_eq_true rfl) ?_
 unfold c57
 have hlen := hs.lenF
 rw [strRows_len] at hlen
 simp only [go_sem, ↓act_zero, Nat.reduceBEq, Nat.reduceAdd, reduceIte, Nat.reduceEqDiff, Nat.reduceLT, Nat.reduceLeDiff]
 refine loop_at (fun n e g => ∃ (x : IV) (lo hi k : Nat), n = bs.length - k ∧ k ≤ bs.length ∧ e 0 = v ∧ e 3 = x ∧ e 4 = .int .i64 (k : Nat) ∧ Ext h g ∧ h.n ≤ lo ∧ hi ≤ g.n ∧ Own lo hi g 5 1 x (strRows (bs.take k))) bs.length ?_ ?_
 ·refine ⟨.eslice true, h.n, h.n, 0, by omega, by omega, ?_⟩
  simp only [go_sem, ↓act_zero, Nat.reduceBEq, Nat.reduceAdd, reduceIte, Nat.reduceEqDiff, Nat.reduceLT, Nat.reduceLeDiff]
  exact ⟨rfl, Ext.refl _, Nat.le_refl _, Nat.le_refl _, Own.empty⟩
 ·rintro n e g ⟨x, lo, hi, k, rfl, hk, i0, i3, i4, E, hlo, hhi, o⟩
  have hle := E.le
  simp only [i0, i3, i4, hlen, go_sem, ↓act_zero, Nat.reduceBEq, Nat.reduceAdd, reduceIte, Nat.reduceEqDiff, Nat.reduceLT, Nat.reduceLeDiff]
  refine test_dec (fun hlt => ?_) (fun hlt => ?_)
  ·have hlt' : k < bs.length := by omega
   have hkp : bs[k]? = some bs[k] := List.getElem?_eq_getElem hlt'
   generalize bs[k] = b at hkp
   obtain ⟨l, j, hia, hll, hrow⟩ := (hs.ext E).at (m := k) (strRows_at hkp) .i64
   have hc := cellO_row hrow
   simp only [i0, i3, i4, hia, hc, go_sem, ↓act_zero, Nat.reduceBEq, Nat.reduceAdd, reduceIte, Nat.reduceEqDiff, Nat.reduceLT, Nat.reduceLeDiff]
   generalize hq_g1 : IH.push g (IObj.rows [[.int .u8 b.toNat]] 5 1 false) = g1
   have e_g1 : Ext g g1 := by rw [← hq_g1]; exact (Ext.refl _).push _
   have l_g1 : g1.n = g.n + 1 := by rw [← hq_g1]; rfl
   have ba : At g1 g.n (IObj.rows [[.int .u8 b.toNat]] 5 1 false) := by rw [← hq_g1]; exact At.new _ _
   clear hq_g1
   have o := o.ext e_g1
   have E := E.ext e_g1
   refine o.app (by simp) (by rw [strRows_len]; simp; omega) ?_
   intro v6 h6 o6 t6 n6 v6o v6c
   have E := E.turn o (by omega) t6
   have le_t6 := t6.le
   simp only [i0, i3, i4, go_sem, ↓act_zero, Nat.reduceBEq, Nat.reduceAdd, reduceIte, Nat.reduceEqDiff, Nat.reduceLT, Nat.reduceLeDiff]
   refine ⟨_, ?_, v6, g1.n, g1.n + 1, k + 1, rfl, by omega, rfl, wr64_succ k (by omega), E, by omega, by omega, ?_⟩
   ·omega
   ·rw [List.take_add_one, hkp, strRows_append]; exact o6
  ·obtain rfl : k = bs.length := by omega
   rw [List.take_length] at o
   simp only [i3, go_sem, ↓act_zero, Nat.reduceBEq, Nat.reduceAdd, reduceIte, Nat.reduceEqDiff, Nat.reduceLT, Nat.reduceLeDiff]
   exact ⟨o.wide hlo hhi (Nat.le_refl _), E⟩

set_option maxRecDepth 20000 in
theorem l01Join_c (h : IH) (v w : IV) (az bs : List UInt8) (hv : SlR h 1 v (strRows az)) (hw : SlR h 1 w (strRows bs)) (hal : az.length ≤ 8388608) (hbl : bs.length ≤ 8388608) : ICalls Tryd.prog 33 [v, w] h fun r h' => Own h.n h'.n h' 5 1 r (strRows (az ++ bs)) ∧ Ext h h' := by
 refine icalls (.of ok33) (Nat.le_of_ble_eq_true rfl) ?_
 unfold c33
 have hlen := hw.lenF
 rw [strRows_len] at hlen
 simp only [go_sem, ↓act_zero, Nat.reduceBEq, Nat.reduceAdd, reduceIte, Nat.reduceEqDiff, Nat.reduceLT, Nat.reduceLeDiff]
 refine callA_of (l01Copy_c h v az hv (by omega)) ?_
 rintro x0 h1 ⟨o0, E0⟩
 simp only [go_sem, ↓act_zero, Nat.reduceBEq, Nat.reduceAdd, reduceIte, Nat.reduceEqDiff, Nat.reduceLT, Nat.reduceLeDiff]
 have hle0 := E0.le
 refine loop_at (fun n e g => ∃ (x : IV) (lo hi k : Nat), n = bs.length - k ∧ k ≤ bs.length ∧ e 1 = w ∧ e 5 = x ∧ e 6 = .int .i64 (k : Nat) ∧ Ext h g ∧ h.n ≤ lo ∧ hi ≤ g.n ∧ Own lo hi g 5 1 x (strRows (az ++ bs.take k))) bs.length ?_ ?_
 ·refine ⟨x0, h.n, h1.n, 0, by omega, by omega, ?_⟩
  simp only [go_sem, ↓act_zero, Nat.reduceBEq, Nat.reduceAdd, reduceIte, Nat.reduceEqDiff, Nat.reduceLT, Nat.reduceLeDiff]
  exact ⟨rfl, E0, Nat.le_refl _, Nat.le_refl _, by simpa using o0⟩
 ·rintro n e g ⟨x, lo, hi, k, rfl, hk, i1, i5, i6, E, hlo, hhi, o⟩
  have hle := E.le
  simp only [i1, i5, i6, hlen, go_sem, ↓act_zero, Nat.reduceBEq, Nat.reduceAdd, reduceIte, Nat.reduceEqDiff, Nat.reduceLT, Nat.reduceLeDiff]
  refine test_dec (fun hlt => ?_) (fun hlt => ?_)
  ·have hlt' : k < bs.length := by omega
   have hkp : bs[k]? = some bs[k] := List.getElem?_eq_getElem hlt'
   generalize bs[k] = b at hkp
   obtain ⟨l, j, hia, hll, hrow⟩ := (hw.ext E).at (m := k) (strRows_at hkp) .i64
   have hc := cellO_row hrow
   simp only [i1, i5, i6, hia, hc, go_sem, ↓act_zero, Nat.reduceBEq, Nat.reduceAdd, reduceIte, Nat.reduceEqDiff, Nat.reduceLT, Nat.reduceLeDiff]
   generalize hq_g1 : IH.push g (IObj.rows [[.int .u8 b.toNat]] 5 1 false) = g1
   have e_g1 : Ext g g1 := by rw [← hq_g1]; exact (Ext.refl _).push _
   have l_g1 : g1.n = g.n + 1 := by rw [← hq_g1]; rfl
   have ba : At g1 g.n (IObj.rows [[.int .u8 b.toNat]] 5 1 false) := by rw [← hq_g1]; exact At.new _ _
   clear hq_g1
   have o := o.ext e_g1
   have E := E.ext e_g1
   refine o.app (by simp) (by rw [strRows_len]; simp; omega) ?_
   intro v6 h6 o6 t6 n6 v6o v6c
   have E := E.turn o (by omega) t6
   have le_t6 := t6.le
   simp only [i1, i5, i6, go_sem, ↓act_zero, Nat.reduceBEq, Nat.reduceAdd, reduceIte, Nat.reduceEqDiff, Nat.reduceLT, Nat.reduceLeDiff]
   refine ⟨_, ?_, v6, g1.n, g1.n + 1, k + 1, rfl, by omega, rfl, wr64_succ k (by omega), E, by omega, by omega, ?_⟩
   ·omega
   ·rw [List.take_add_one, hkp, ← List.append_assoc, strRows_append]; exact o6
  ·obtain rfl : k = bs.length := by omega
   rw [List.take_length] at o
   simp only [i5, go_sem, ↓act_zero, Nat.reduceBEq, Nat.reduceAdd, reduceIte, Nat.reduceEqDiff, Nat.reduceLT, Nat.reduceLeDiff]
   exact ⟨o.wide hlo hhi (Nat.le_refl _), E⟩

set_option maxRecDepth 20000 in
theorem l01In_c (h : IH) (n lo hi : Int) :
  ICalls Tryd.prog 43 [.int .i64 n, .int .i64 lo, .int .i64 hi] h fun r h' => r = .bool (decide (lo ≤ n) && decide (n ≤ hi)) ∧ h' = h := by
 refine icalls (.of ok43) (Nat.le_of_ble_eq_true rfl) ?_
 unfold c43
 simp only [go_sem, ↓act_zero, Nat.reduceBEq, Nat.reduceAdd, reduceIte, Nat.reduceEqDiff, Nat.reduceLT, Nat.reduceLeDiff]
set_option maxRecDepth 20000 in
theorem l10PortOK_c (h : IH) (n : Int) :
  ICalls Tryd.prog 20 [.int .i64 n] h fun r h' => r = .bool (decide (0 ≤ n) && decide (n ≤ 65535)) ∧ h' = h := by
 refine icalls (.of ok20) (Nat.le_of_ble_eq_true rfl) ?_
 unfold c20
 simp only [go_sem, ↓act_zero, Nat.reduceBEq, Nat.reduceAdd, reduceIte, Nat.reduceEqDiff, Nat.reduceLT, Nat.reduceLeDiff]
 refine callA_of (l01In_c h n 0 65535) ?_
 rintro r h' ⟨rfl, rfl⟩
 simp only [go_sem, ↓act_zero, Nat.reduceBEq, Nat.reduceAdd, reduceIte, Nat.reduceEqDiff, Nat.reduceLT, Nat.reduceLeDiff]
end
end Go.Proofs.YtaoffieemecioaaDoor



namespace Go.Proofs.YtaoffieemecioaaDoor
open Go Go.IW

def encQ (id : Int) (s : List UInt8) : List UInt8 × Int :=
 if (0 ≤ id ∧ id ≤ 65535) ∧ okName s = true then ((beB 2 id ++ [0, UInt8.ofNat s.length]) ++ s, 0) else ([], 1)
def BytesRes (h h' : IH) (r : IV) (x : List UInt8 × Int) : Prop := ∃ v, r = .tuple [v, .int .i64 x.2] ∧ Own h.n h'.n h' 5 1 v (strRows x.1) ∧ Ext h h'
theorem okName_ne {s : List UInt8} (h : okName s = true) : s ≠ [] ∧ s.length ≤ 63 := by
 constructor
 ·rintro rfl; exact absurd h (by decide)
 ·unfold okName at h; simp at h; exact h.1
theorem u8_len {n : Nat} (hn : n ≤ 255) : wr .u8 (n : Int) = ((UInt8.ofNat n).toNat : Int) := by
 have : ((n : Int) % 256).toNat = n := by omega
 rw [wr_u8, this]

section
attribute [local go_sem] boxA_1 boxA_2 boxA_3 bslA_1 List.getElem?_cons_zero List.getElem?_cons_succ Option.bind_some List.map_cons List.map_nil Nat.zero_add if_true List.getD_cons_zero List.getD_cons_succ List.contains_cons List.contains_nil Bool.or_true Bool.true_or Bool.or_false Bool.false_or Bool.not_true Bool.not_false true_and and_true rowA_whole push_n set_n push_obj set_obj set_push set_push_ne set_set Nat.add_assoc Nat.left_eq_add Nat.add_eq_left Nat.add_left_cancel_iff stO_1s stO_ws boxA_s one_bool one_int one_str one_ptr one_nilptr one_slice one_eslice one_nilslice one_func one_iface one_niliface List.all_cons List.all_nil List.length_cons List.length_nil Bool.and_true Nat.one_ne_zero Nat.succ_ne_zero if_false List.set_cons_zero List.set_cons_succ
set_option maxRecDepth 20000 in
theorem specEncodeQuery_c (h : IH) (id : Int) (s : List UInt8) (hm : s.length ≤ 1048576) : ICalls Tryd.prog 80 [.agg [.int .i64 id, .str s]] h fun r h' => BytesRes h h' r (encQ id s) := by
 refine icalls (.of ok80) (Nat.le_of_ble_eq_true rfl) ?_
 unfold c80
 simp only [go_sem, ↓act_zero, Nat.reduceBEq, Nat.reduceAdd, reduceIte, Nat.reduceEqDiff, Nat.reduceLT, Nat.reduceLeDiff]
 generalize hq_g0 : IH.push h (IObj.rows [[IV.int .i64 id, IV.str s]] 116 2 false) = g0
 have e_g0 : Ext h g0 := by rw [← hq_g0]; exact (Ext.refl _).push _
 have l_g0 : g0.n = h.n + 1 := by rw [← hq_g0]; rfl
 have bb : At g0 h.n (IObj.rows [[IV.int .i64 id, IV.str s]] 116 2 false) := by rw [← hq_g0]; exact At.new _ _
 clear hq_g0
 refine callA_of (l10PortOK_c _ id) ?_
 rintro r g0' ⟨rfl, rfl⟩
 cases q1 : (decide (0 ≤ id) && decide (id ≤ 65535))
 ·simp only [q1, go_sem, ↓act_zero, Nat.reduceBEq, Nat.reduceAdd, reduceIte, Nat.reduceEqDiff, Nat.reduceLT, Nat.reduceLeDiff]
  have : encQ id s = ([], 1) := if_neg (fun hx => by simp at q1; omega)
  rw [this]
  exact ⟨_, rfl, Own.nil, e_g0⟩
 ·simp only [q1, bb.eq, go_sem, ↓act_zero, Nat.reduceBEq, Nat.reduceAdd, reduceIte, Nat.reduceEqDiff, Nat.reduceLT, Nat.reduceLeDiff]
  refine callA_of (specNameOK_c _ s hm) ?_
  rintro r h1 ⟨rfl, E1⟩
  have E := e_g0.trans E1
  have bb := bb.ext E1
  have le_E1 := E1.le
  cases q2 : okName s
  ·simp only [q2, go_sem, ↓act_zero, Nat.reduceBEq, Nat.reduceAdd, reduceIte, Nat.reduceEqDiff, Nat.reduceLT, Nat.reduceLeDiff]
   have : encQ id s = ([], 1) := if_neg (fun hx => by rw [q2] at hx; exact Bool.noConfusion hx.2)
   rw [this]
   exact ⟨_, rfl, Own.nil, E⟩
  ·obtain ⟨hne, hl⟩ := okName_ne q2
   have hdef : encQ id s = ((beB 2 id ++ [0, UInt8.ofNat s.length]) ++ s, 0) := if_pos ⟨by simp at q1; omega, q2⟩
   rw [hdef]
   have w1 := u8_len (n := s.length) (by omega)
   have hbl := bb.lt
   simp only [q2, bb.eq, w1, go_sem, ↓act_zero, Nat.reduceBEq, Nat.reduceAdd, reduceIte, Nat.reduceEqDiff, Nat.reduceLT, Nat.reduceLeDiff]
   refine either_of ?_ ?_
   ·simp only [go_sem, ↓act_zero, Nat.reduceBEq, Nat.reduceAdd, reduceIte, Nat.reduceEqDiff, Nat.reduceLT, Nat.reduceLeDiff]
    refine callA_of (l03Put_c _ id 2 (by omega)) ?_
    rintro x h2 ⟨ox, E2⟩
    have bb := bb.ext E2
    have E := E.ext E2
    have le_E2 := E2.le
    have hn2 : (h.n = h2.n) = False := by simp; omega
    simp only [bb.eq, w1, bslA_2, hn2, go_sem, ↓act_zero, Nat.reduceBEq, Nat.reduceAdd, reduceIte, Nat.reduceEqDiff, Nat.reduceLT, Nat.reduceLeDiff]
    generalize hq_g3 : IH.push h2 (IObj.rows [[IV.int .u8 0], [IV.int .u8 (UInt8.ofNat s.length).toNat]] 5 1 false) = g3
    have e_g3 : Ext h2 g3 := by rw [← hq_g3]; exact (Ext.refl _).push _
    have l_g3 : g3.n = h2.n + 1 := by rw [← hq_g3]; rfl
    have ba : At g3 h2.n (IObj.rows [[IV.int .u8 0], [IV.int .u8 (UInt8.ofNat s.length).toNat]] 5 1 false) := by rw [← hq_g3]; exact At.new _ _
    clear hq_g3
    have ox := ox.ext e_g3
    have bb := bb.ext e_g3
    have E := E.ext e_g3
    have hy : SlR g3 1 (.slice h2.n 0 2) (strRows [0, UInt8.ofNat s.length]) := SlR.whole ba.eq rfl ba.lt
    refine callA_of (l01Join_c _ _ _ _ _ ox.sl hy (by rw [beB_len]; omega) (by simp)) ?_
    rintro v3 h3 ⟨o3, E3⟩
    have bb := bb.ext E3
    have E := E.ext E3
    have le_E3 := E3.le
    simp only [bb.eq, s2bA_some hne (by omega), go_sem, ↓act_zero, Nat.reduceBEq, Nat.reduceAdd, reduceIte, Nat.reduceEqDiff, Nat.reduceLT, Nat.reduceLeDiff]
    generalize hq_g4 : IH.push h3 (IObj.rows (strRows s) 5 1 false) = g4
    have e_g4 : Ext h3 g4 := by rw [← hq_g4]; exact (Ext.refl _).push _
    have l_g4 : g4.n = h3.n + 1 := by rw [← hq_g4]; rfl
    have bs : At g4 h3.n (IObj.rows (strRows s) 5 1 false) := by rw [← hq_g4]; exact At.new _ _
    clear hq_g4
    have o3 := o3.ext e_g4
    have bb := bb.ext e_g4
    have E := E.ext e_g4
    have hz : SlR g4 1 (.slice h3.n 0 s.length) (strRows s) := SlR.whole bs.eq (strRows_len s) bs.lt
    refine callA_of (l01Join_c _ _ _ _ _ o3.sl hz (by simp [beB_len]) (by omega)) ?_
    rintro v5 h5 ⟨o5, E5⟩
    have E4le := E.le
    have E := E.ext E5
    have le_E5 := E5.le
    simp only [go_sem, ↓act_zero, Nat.reduceBEq, Nat.reduceAdd, reduceIte, Nat.reduceEqDiff, Nat.reduceLT, Nat.reduceLeDiff]
    exact ⟨v5, rfl, o5.wide E4le (Nat.le_refl _) (Nat.le_refl _), E⟩
   ·have hn2 : (h.n = h1.n) = False := by simp; omega
    simp only [bb.eq, w1, bslA_2, hn2, go_sem, ↓act_zero, Nat.reduceBEq, Nat.reduceAdd, reduceIte, Nat.reduceEqDiff, Nat.reduceLT, Nat.reduceLeDiff]
    generalize hq_g3 : IH.push h1 (IObj.rows [[IV.int .u8 0], [IV.int .u8 (UInt8.ofNat s.length).toNat]] 5 1 false) = g3
    have e_g3 : Ext h1 g3 := by rw [← hq_g3]; exact (Ext.refl _).push _
    have l_g3 : g3.n = h1.n + 1 := by rw [← hq_g3]; rfl
    have ba : At g3 h1.n (IObj.rows [[IV.int .u8 0], [IV.int .u8 (UInt8.ofNat s.length).toNat]] 5 1 false) := by rw [← hq_g3]; exact At.new _ _
    clear hq_g3
    have bb := bb.ext e_g3
    have E := E.ext e_g3
    refine callA_of (l03Put_c _ id 2 (by omega)) ?_
    rintro x h2 ⟨ox, E2⟩
    have bb := bb.ext E2
    have E := E.ext E2
    have ba := ba.ext E2
    have le_E2 := E2.le
    simp only [bb.eq, w1, go_sem, ↓act_zero, Nat.reduceBEq, Nat.reduceAdd, reduceIte, Nat.reduceEqDiff, Nat.reduceLT, Nat.reduceLeDiff]
    have hy : SlR h2 1 (.slice h1.n 0 2) (strRows [0, UInt8.ofNat s.length]) := SlR.whole ba.eq rfl ba.lt
    refine callA_of (l01Join_c _ _ _ _ _ ox.sl hy (by rw [beB_len]; omega) (by simp)) ?_
    rintro v3 h3 ⟨o3, E3⟩
    have bb := bb.ext E3
    have E := E.ext E3
    have le_E3 := E3.le
    simp only [bb.eq, s2bA_some hne (by omega), go_sem, ↓act_zero, Nat.reduceBEq, Nat.reduceAdd, reduceIte, Nat.reduceEqDiff, Nat.reduceLT, Nat.reduceLeDiff]
    generalize hq_g4 : IH.push h3 (IObj.rows (strRows s) 5 1 false) = g4
    have e_g4 : Ext h3 g4 := by rw [← hq_g4]; exact (Ext.refl _).push _
    have l_g4 : g4.n = h3.n + 1 := by rw [← hq_g4]; rfl
    have bs : At g4 h3.n (IObj.rows (strRows s) 5 1 false) := by rw [← hq_g4]; exact At.new _ _
    clear hq_g4
    have o3 := o3.ext e_g4
    have bb := bb.ext e_g4
    have E := E.ext e_g4
    have hz : SlR g4 1 (.slice h3.n 0 s.length) (strRows s) := SlR.whole bs.eq (strRows_len s) bs.lt
    refine callA_of (l01Join_c _ _ _ _ _ o3.sl hz (by simp [beB_len]) (by omega)) ?_
    rintro v5 h5 ⟨o5, E5⟩
    have E4le := E.le
    have E := E.ext E5
    have le_E5 := E5.le
    simp only [go_sem, ↓act_zero, Nat.reduceBEq, Nat.reduceAdd, reduceIte, Nat.reduceEqDiff, Nat.reduceLT, Nat.reduceLeDiff]
    exact ⟨v5, rfl, o5.wide E4le (Nat.le_refl _) (Nat.le_refl _), E⟩
end
end Go.Proofs.YtaoffieemecioaaDoor



namespace Go.Proofs.YtaoffieemecioaaDoor
open Go Go.IW

theorem strRows_ne {s : List UInt8} (h : s ≠ []) : strRows s ≠ [] := by
 intro hx; exact h (by simpa [strRows] using hx)

section
attribute [local go_sem] boxA_1 boxA_2 boxA_3 bslA_1 List.getElem?_cons_zero List.getElem?_cons_succ Option.bind_some List.map_cons List.map_nil Nat.zero_add if_true List.getD_cons_zero List.getD_cons_succ List.contains_cons List.contains_nil Bool.or_true Bool.true_or Bool.or_false Bool.false_or Bool.not_true Bool.not_false true_and and_true rowA_whole push_n set_n push_obj set_obj set_push set_push_ne set_set Nat.add_assoc Nat.left_eq_add Nat.add_eq_left Nat.add_left_cancel_iff stO_1s stO_ws boxA_s one_bool one_int one_str one_ptr one_nilptr one_slice one_eslice one_nilslice one_func one_iface one_niliface List.all_cons List.all_nil List.length_cons List.length_nil Bool.and_true Nat.one_ne_zero Nat.succ_ne_zero if_false List.set_cons_zero List.set_cons_succ
set_option maxRecDepth 20000 in
theorem implEncodeQuery_c (h : IH) (id : Int) (s : List UInt8) (hm : s.length ≤ 1048576) : ICalls Tryd.prog 54 [.agg [.int .i64 id, .str s]] h fun r h' => BytesRes h h' r (encQ id s) := by
 refine icalls (.of ok54) (Nat.le_of_ble_eq_true rfl) ?_
 unfold c54
 by_cases c1 : id < 0
 ·have d1 : decide (id < 0) = true := decide_eq_true c1
  simp only [d1, go_sem, ↓act_zero, Nat.reduceBEq, Nat.reduceAdd, reduceIte, Nat.reduceEqDiff, Nat.reduceLT, Nat.reduceLeDiff]
  have : encQ id s = ([], 1) := if_neg (fun hx => by omega)
  rw [this]
  exact ⟨_, rfl, Own.nil, (Ext.refl _).push _⟩
 ·have d1 : decide (id < 0) = false := decide_eq_false c1
  by_cases c2 : 65535 < id
  ·have d2 : decide (65535 < id) = true := decide_eq_true c2
   simp only [d1, d2, go_sem, ↓act_zero, Nat.reduceBEq, Nat.reduceAdd, reduceIte, Nat.reduceEqDiff, Nat.reduceLT, Nat.reduceLeDiff]
   have : encQ id s = ([], 1) := if_neg (fun hx => by omega)
   rw [this]
   exact ⟨_, rfl, Own.nil, (Ext.refl _).push _⟩
  ·have d2 : decide (65535 < id) = false := decide_eq_false c2
   simp only [d1, d2, go_sem, ↓act_zero, Nat.reduceBEq, Nat.reduceAdd, reduceIte, Nat.reduceEqDiff, Nat.reduceLT, Nat.reduceLeDiff]
   generalize hq_g0 : IH.push h (IObj.rows [[IV.int .i64 id, IV.str s]] 116 2 false) = g0
   have e_g0 : Ext h g0 := by rw [← hq_g0]; exact (Ext.refl _).push _
   have l_g0 : g0.n = h.n + 1 := by rw [← hq_g0]; rfl
   have bb : At g0 h.n (IObj.rows [[IV.int .i64 id, IV.str s]] 116 2 false) := by rw [← hq_g0]; exact At.new _ _
   clear hq_g0
   refine callA_of (implNameOK_c _ s hm) ?_
   rintro r h1 ⟨rfl, E1⟩
   have E := e_g0.trans E1
   have bb := bb.ext E1
   have le_E1 := E1.le
   cases q2 : okName s
   ·simp only [q2, go_sem, ↓act_zero, Nat.reduceBEq, Nat.reduceAdd, reduceIte, Nat.reduceEqDiff, Nat.reduceLT, Nat.reduceLeDiff]
    have : encQ id s = ([], 1) := if_neg (fun hx => by rw [q2] at hx; exact Bool.noConfusion hx.2)
    rw [this]
    exact ⟨_, rfl, Own.nil, E⟩
   ·obtain ⟨hne, hl⟩ := okName_ne q2
    have hdef : encQ id s = ((beB 2 id ++ [0, UInt8.ofNat s.length]) ++ s, 0) := if_pos ⟨by omega, q2⟩
    rw [hdef]
    have w1 := u8_len (n := s.length) (by omega)
    have hbl := bb.lt
    have hsn := strRows_ne hne
    have h2r : ∀ {x : IV} {lo hi : Nat} {g : IH}, Own lo hi g 5 1 x (strRows (beB 2 id) ++ [[IV.int .u8 0], [IV.int .u8 (UInt8.ofNat s.length).toNat]]) → Own lo hi g 5 1 x (strRows (beB 2 id ++ [0, UInt8.ofNat s.length])) := fun o => by rw [strRows_append]; exact o
    simp only [q2, bb.eq, w1, go_sem, ↓act_zero, Nat.reduceBEq, Nat.reduceAdd, reduceIte, Nat.reduceEqDiff, Nat.reduceLT, Nat.reduceLeDiff]
    refine either_of ?_ ?_
    ·simp only [go_sem, ↓act_zero, Nat.reduceBEq, Nat.reduceAdd, reduceIte, Nat.reduceEqDiff, Nat.reduceLT, Nat.reduceLeDiff]
     refine callA_of (put_c h1 _ (Ext.refl _) .nilslice [] id 2 (by omega) (by omega) (by simp) (Nat.le_refl h1.n) (hi := h1.n) Own.nil (Nat.le_refl _)) ?_
     rintro x h2 ⟨ox, E2⟩
     rw [na0] at ox
     have bb := bb.ext E2
     have E := E.ext E2
     have le_E2 := E2.le
     have hn2 : (h.n = h2.n) = False := by simp; omega
     simp only [bb.eq, w1, bslA_2, hn2, srcO_2, go_sem, ↓act_zero, Nat.reduceBEq, Nat.reduceAdd, reduceIte, Nat.reduceEqDiff, Nat.reduceLT, Nat.reduceLeDiff]
     generalize hq_g3 : IH.push h2 (IObj.rows [[IV.int .u8 0], [IV.int .u8 (UInt8.ofNat s.length).toNat]] 5 1 false) = g3
     have e_g3 : Ext h2 g3 := by rw [← hq_g3]; exact (Ext.refl _).push _
     have l_g3 : g3.n = h2.n + 1 := by rw [← hq_g3]; rfl
     have ba : At g3 h2.n (IObj.rows [[IV.int .u8 0], [IV.int .u8 (UInt8.ofNat s.length).toNat]] 5 1 false) := by rw [← hq_g3]; exact At.new _ _
     clear hq_g3
     have ox := ox.ext e_g3
     have bb := bb.ext e_g3
     have E := E.ext e_g3
     refine ox.app (by simp) (by rw [strRows_len, beB_len]; simp) ?_
     intro v6 h6 o6 t6 n6 v6o v6c
     have o7 := h2r o6
     have hbl3 := bb.lt
     have bb := bb.turn ox (by omega) t6
     have E := E.turn ox (by omega) t6
     have le_t6 := t6.le
     simp only [bb.eq, go_sem, ↓act_zero, Nat.reduceBEq, Nat.reduceAdd, reduceIte, Nat.reduceEqDiff, Nat.reduceLT, Nat.reduceLeDiff]
     refine o7.app hsn (by simp [strRows_len, beB_len]; omega) ?_
     intro v8 h8 o8 t8 n8 v8o v8c
     have bb := bb.turn o7 (by omega) t8
     have E := E.turn o7 (by omega) t8
     have le_t8 := t8.le
     rw [← strRows_append] at o8
     simp only [bb.eq, go_sem, ↓act_zero, Nat.reduceBEq, Nat.reduceAdd, reduceIte, Nat.reduceEqDiff, Nat.reduceLT, Nat.reduceLeDiff]
     exact ⟨v8, rfl, o8.wide (by have := E.le; omega) (by omega) (Nat.le_refl _), E⟩
    ·have hn2 : (h.n = h1.n) = False := by simp; omega
     simp only [bb.eq, w1, bslA_2, hn2, go_sem, ↓act_zero, Nat.reduceBEq, Nat.reduceAdd, reduceIte, Nat.reduceEqDiff, Nat.reduceLT, Nat.reduceLeDiff]
     generalize hq_g3 : IH.push h1 (IObj.rows [[IV.int .u8 0], [IV.int .u8 (UInt8.ofNat s.length).toNat]] 5 1 false) = g3
     have e_g3 : Ext h1 g3 := by rw [← hq_g3]; exact (Ext.refl _).push _
     have l_g3 : g3.n = h1.n + 1 := by rw [← hq_g3]; rfl
     have ba : At g3 h1.n (IObj.rows [[IV.int .u8 0], [IV.int .u8 (UInt8.ofNat s.length).toNat]] 5 1 false) := by rw [← hq_g3]; exact At.new _ _
     clear hq_g3
     have bb := bb.ext e_g3
     have E := E.ext e_g3
     refine callA_of (put_c g3 _ (Ext.refl _) .nilslice [] id 2 (by omega) (by omega) (by simp) (Nat.le_refl g3.n) (hi := g3.n) Own.nil (Nat.le_refl _)) ?_
     rintro x h2 ⟨ox, E2⟩
     rw [na0] at ox
     have bb := bb.ext E2
     have E := E.ext E2
     have ba := ba.ext E2
     have le_E2 := E2.le
     simp only [bb.eq, w1, ba.eq, srcO_2, go_sem, ↓act_zero, Nat.reduceBEq, Nat.reduceAdd, reduceIte, Nat.reduceEqDiff, Nat.reduceLT, Nat.reduceLeDiff]
     refine ox.app (by simp) (by rw [strRows_len, beB_len]; simp) ?_
     intro v6 h6 o6 t6 n6 v6o v6c
     have o7 := h2r o6
     have hbl3 := bb.lt
     have bb := bb.turn ox (by omega) t6
     have E := E.turn ox (by omega) t6
     have le_t6 := t6.le
     simp only [bb.eq, go_sem, ↓act_zero, Nat.reduceBEq, Nat.reduceAdd, reduceIte, Nat.reduceEqDiff, Nat.reduceLT, Nat.reduceLeDiff]
     refine o7.app hsn (by simp [strRows_len, beB_len]; omega) ?_
     intro v8 h8 o8 t8 n8 v8o v8c
     have bb := bb.turn o7 (by omega) t8
     have E := E.turn o7 (by omega) t8
     have le_t8 := t8.le
     rw [← strRows_append] at o8
     simp only [bb.eq, go_sem, ↓act_zero, Nat.reduceBEq, Nat.reduceAdd, reduceIte, Nat.reduceEqDiff, Nat.reduceLT, Nat.reduceLeDiff]
     exact ⟨v8, rfl, o8.wide (by have := E.le; omega) (by omega) (Nat.le_refl _), E⟩
end
theorem encQ_len {id : Int} {s : List UInt8} : (encQ id s).1.length ≤ 1000 := by
 unfold encQ
 split
 ·rename_i h
  have := (okName_ne h.2).2
  simp [beB_len]; omega
 ·simp

end Go.Proofs.YtaoffieemecioaaDoor

