import Derived.Test.YtaoffieemecioaaGreatDoorK2
import Derived.Test.YtaoffieemecioaaGreatDoorProg
import Derived.KernelRfl
import Derived.Test.YtaoffieemecioaaGreatDoorK3
import Derived.Test.YtaoffieemecioaaGreatDoorL1
import Derived.Test.YtaoffieemecioaaGreatDoorK4
set_option linter.unusedSimpArgs false
set_option linter.unusedVariables false
namespace Go.Proofs.YtaoffieemecioaaGreatDoor
open Go Go.IW
def c21 : CC :=
 (.seq (.reg [
 x0 5 (.box 59 6 (.t 2)),
 x0 6 (.zero 54 5 [(.int .i64 0), .nilslice, .nilslice, (.int .i64 0), (.int .i64 0)])])
 (.seq (.reg [
 p0 7 (.mv (.t 0)),
 p0 8 (.build [(.int .i64 0), .nilslice, .nilslice, (.int .i64 0), (.int .i64 0)] []),
 p0 9 (.nck (.t 7)),
 p0 10 (.fadr 6 (.t 9)),
 s0 (.st 5 (.t 10) (.t 8))])
 (.seq (.block 0 (.seq (.reg [
 p0 16 (.fadr 0 (.t 5)),
 p0 17 (.ld (.t 16)),
 p0 18 (.bin .eql (.t 17) (.c (.int .i64 1))),
 p0 19 (.mv (.t 18)),
 g0 20 19 true (.fadr 4 (.t 5)),
 g0 21 19 true (.ld (.t 20)),
 ⟨(some 22), (some (19, true)), .x (.call 46 [(.t 21)])⟩,
 p0 23 (.pick (.t 19) (.t 22) (.c (.bool false))),
 p0 15 (.mv (.t 23))])
 (.cond (.t 15)
 (.reg [
 p0 24 (.mv (.t 0)),
 p0 25 (.mv (.t 0)),
 p0 26 (.mv (.t 1)),
 p0 27 (.fadr 4 (.t 5)),
 p0 28 (.ld (.t 27)),
 x0 29 (.call 47 [(.t 25), (.t 26), (.t 28)]),
 p0 30 (.nck (.t 24)),
 p0 31 (.fadr 6 (.t 30)),
 p0 32 (.fadr 0 (.t 31)),
 s0 (.st 1 (.t 32) (.t 29))])
 (.seq (.reg [
 p0 34 (.fadr 0 (.t 5)),
 p0 35 (.ld (.t 34)),
 p0 36 (.bin .eql (.t 35) (.c (.int .i64 2))),
 p0 33 (.mv (.t 36))])
 (.cond (.t 33)
 (.reg [
 p0 37 (.mv (.t 0)),
 p0 38 (.fadr 1 (.t 5)),
 p0 39 (.ld (.t 38)),
 p0 40 (.fadr 2 (.t 5)),
 p0 41 (.ld (.t 40)),
 p0 42 (.fadr 5 (.t 5)),
 p0 43 (.ld (.t 42)),
 x0 44 (.call 48 [(.t 37), (.t 39), (.t 41), (.t 43)])])
 (.seq (.dreg [
 p0 46 (.fadr 0 (.t 5)),
 p0 47 (.ld (.t 46)),
 p0 48 (.bin .eql (.t 47) (.c (.int .i64 3))),
 p0 49 (.mv (.t 48)),
 g0 50 49 true (.fadr 3 (.t 5)),
 g0 51 49 true (.ld (.t 50)),
 g0 52 49 true (.bin .geq (.t 51) (.c (.int .i64 0))),
 p0 53 (.pick (.t 49) (.t 52) (.c (.bool false))),
 p0 54 (.mv (.t 53)),
 g0 55 54 true (.fadr 3 (.t 5)),
 g0 56 54 true (.ld (.t 55)),
 g0 57 54 true (.mv (.t 0)),
 g0 58 54 true (.nck (.t 57)),
 g0 59 54 true (.fadr 2 (.t 58)),
 g0 60 54 true (.ld (.t 59)),
 g0 61 54 true (.bin .sub (.c (.int .i64 1000000000)) (.t 60)),
 g0 62 54 true (.bin .leq (.t 56) (.t 61)),
 p0 63 (.pick (.t 54) (.t 62) (.c (.bool false))),
 p0 45 (.mv (.t 63))]
 [false, false, false, false, false, false, false, false, false, false, false, false, false, false, false, false, false, false, false] [[],[0],[1,0],[2,1,0],[3,2,1,0],[4,3,2,1,0],[5,4,3,2,1,0],[3,2,1,0,6,5,4],[7,3,2,1,0,6,5,4],[8,7,3,2,1,0,6,5,4],[9,8,7,3,2,1,0,6,5,4],[8,7,3,2,1,0,6,5,4],[11,8,7,3,2,1,0,6,5,4],[12,11,8,7,3,2,1,0,6,5,4],[13,12,11,8,7,3,2,1,0,6,5,4],[14,13,12,11,8,7,3,2,1,0,6,5,4],[10,9,8,7,3,2,1,0,6,5,4,15,14,13,12,11],[8,7,3,2,1,0,6,5,4,16,10,9,15,14,13,12,11],[17,8,7,3,2,1,0,6,5,4,16,10,9,15,14,13,12,11]] [0,1,2,3,4,5,6,7,8,9,10,11,12,13,14,15,16,17,18])
 (.cond (.t 45)
 (.reg [
 p0 64 (.mv (.t 0)),
 p0 65 (.fadr 3 (.t 5)),
 p0 66 (.ld (.t 65)),
 x0 67 (.call 49 [(.t 64), (.t 66)])])
 (.reg [
 p0 11 (.mv (.t 0)),
 p0 12 (.nck (.t 11)),
 p0 13 (.fadr 6 (.t 12)),
 p0 14 (.fadr 0 (.t 13)),
 s0 (.st 1 (.t 14) (.c (.int .i64 1)))]))))))))
 (.seq (.reg [
 p0 68 (.mv (.t 0)),
 x0 69 (.call 50 [(.t 68)])])
 (.seq (.reg [
 p0 70 (.mv (.t 0)),
 p0 71 (.mv (.t 0)),
 p0 72 (.nck (.t 71)),
 p0 73 (.fadr 5 (.t 72)),
 p0 74 (.ld (.t 73)),
 p0 75 (.len (.t 74)),
 p0 76 (.nck (.t 70)),
 p0 77 (.fadr 6 (.t 76)),
 p0 78 (.fadr 3 (.t 77)),
 s0 (.st 1 (.t 78) (.t 75))])
 (.seq (.reg [
 p0 79 (.mv (.t 0)),
 p0 80 (.mv (.t 0)),
 p0 81 (.nck (.t 80)),
 p0 82 (.fadr 4 (.t 81)),
 p0 83 (.ld (.t 82)),
 p0 84 (.len (.t 83)),
 p0 85 (.nck (.t 79)),
 p0 86 (.fadr 6 (.t 85)),
 p0 87 (.fadr 4 (.t 86)),
 s0 (.st 1 (.t 87) (.t 84))])
 (.seq (.reg [
 p0 88 (.mv (.t 0)),
 p0 89 (.nck (.t 88)),
 p0 90 (.fadr 6 (.t 89)),
 p0 91 (.ldA 5 (.t 90)),
 s0 (.st 5 (.t 6) (.t 91))])
 .ret)))))))
theorem ok21 : fnComp Tryz.prog 21 = some (92, c21, [(.ldA 5 (.t 6))]) := by kernel_rfl

def c47 : CC :=
 (.seq (.reg [
 p0 6 (.mv (.c (.int .i64 0)))])
 (.seq (.reg [
 p0 9 (.mv (.t 0)),
 x0 10 (.call 50 [(.t 9)])])
 (.seq (.seq (.reg [
 p0 7 (.mv (.c (.int .i64 0)))])
 (.block 0 (.loop (.seq (.seq (.reg [
 p0 11 (.mv (.t 7)),
 p0 12 (.mv (.t 0)),
 p0 13 (.nck (.t 12)),
 p0 14 (.fadr 5 (.t 13)),
 p0 15 (.ld (.t 14)),
 p0 16 (.len (.t 15)),
 p0 17 (.bin .lss (.t 11) (.t 16))])
 (.cond (.t 17)
 .skip
 (.exit 0)))
 (.seq (.block 1 (.seq (.reg [
 p0 20 (.mv (.t 0)),
 p0 21 (.nck (.t 20)),
 p0 22 (.fadr 5 (.t 21)),
 p0 23 (.ld (.t 22)),
 p0 24 (.mv (.t 7)),
 p0 25 (.iadr 4 (.t 23) (.t 24)),
 p0 26 (.fadr 0 (.t 25)),
 p0 27 (.ld (.t 26)),
 p0 28 (.mv (.t 2)),
 p0 29 (.bin .eql (.t 27) (.t 28))])
 (.cond (.t 29)
 (.seq (.dreg [
 p0 30 (.mv (.t 0)),
 p0 31 (.mv (.t 0)),
 p0 32 (.nck (.t 31)),
 p0 33 (.fadr 6 (.t 32)),
 p0 34 (.fadr 2 (.t 33)),
 p0 35 (.ld (.t 34)),
 p0 36 (.mv (.t 1)),
 p0 37 (.mv (.t 0)),
 p0 38 (.nck (.t 37)),
 p0 39 (.fadr 5 (.t 38)),
 p0 40 (.ld (.t 39)),
 p0 41 (.mv (.t 7)),
 p0 42 (.iadr 4 (.t 40) (.t 41)),
 p0 43 (.fadr 1 (.t 42)),
 p0 44 (.ld (.t 43)),
 p0 45 (.mv (.t 0)),
 p0 46 (.nck (.t 45)),
 p0 47 (.fadr 5 (.t 46)),
 p0 48 (.ld (.t 47)),
 p0 49 (.mv (.t 7)),
 p0 50 (.iadr 4 (.t 48) (.t 49)),
 p0 51 (.fadr 2 (.t 50)),
 p0 52 (.ld (.t 51)),
 x0 53 (.call 69 [(.t 52)]),
 p0 54 (.build [(.int .i64 0), (.int .i64 0), .nilslice] [(0, 1, (.t 36)), (1, 1, (.t 44)), (2, 1, (.t 53))]),
 x0 55 (.bslice 99 3 [(.int .i64 0), (.int .i64 0), .nilslice] 1 [(0, (.t 54))]),
 x0 56 (.app 99 3 40 (.t 35) (.t 55)),
 p0 57 (.nck (.t 30)),
 p0 58 (.fadr 6 (.t 57)),
 p0 59 (.fadr 2 (.t 58)),
 s0 (.st 1 (.t 59) (.t 56))]
 [false, false, false, false, false, false, false, false, false, false, false, false, false, false, false, false, false, false, false, false, false, false, false, true, false, true, true, false, false, false, true] [[],[],[1],[2,1],[3,2,1],[4,3,2,1],[],[],[7],[8,7],[9,8,7],[],[10,9,8,7,11],[12,10,9,8,7,11],[13,12,10,9,8,7,11],[],[15],[16,15],[17,16,15],[],[18,17,16,15,19],[20,18,17,16,15,19],[21,20,18,17,16,15,19],[22,21,20,18,17,16,15,19],[6,14,13,12,10,9,8,7,11,23,22,21,20,18,17,16,15,19],[24,6,14,13,12,10,9,8,7,11,23,22,21,20,18,17,16,15,19],[5,4,3,2,1,25,24,6,14,13,12,10,9,8,7,11,23,22,21,20,18,17,16,15,19],[0,1,2,3,4,5,6,7,8,9,10,11,12,13,14,15,16,17,18,19,20,21,22,23,24,25,26],[27,0,1,2,3,4,5,6,7,8,9,10,11,12,13,14,15,16,17,18,19,20,21,22,23,24,25,26],[28,27,0,1,2,3,4,5,6,7,8,9,10,11,12,13,14,15,16,17,18,19,20,21,22,23,24,25,26],[29,28,27,0,1,2,3,4,5,6,7,8,9,10,11,12,13,14,15,16,17,18,19,20,21,22,23,24,25,26]] [0,1,2,3,4,5,6,7,8,9,10,11,12,13,14,15,16,17,18,19,20,21,22,23,24,25,26,27,28,29,30])
 (.seq (.reg [
 p0 6 (.mv (.c (.int .i64 0)))])
 .ret))
 .skip)))
 (.reg [
 p0 18 (.mv (.t 7)),
 p0 19 (.bin .add (.t 18) (.c (.int .i64 1))),
 p0 7 (.mv (.t 19))]))))))
 (.seq (.seq (.reg [
 p0 8 (.mv (.c (.int .i64 0)))])
 (.block 2 (.loop (.seq (.seq (.reg [
 p0 60 (.mv (.t 8)),
 p0 61 (.mv (.t 0)),
 p0 62 (.nck (.t 61)),
 p0 63 (.fadr 4 (.t 62)),
 p0 64 (.ld (.t 63)),
 p0 65 (.len (.t 64)),
 p0 66 (.bin .lss (.t 60) (.t 65))])
 (.cond (.t 66)
 .skip
 (.exit 2)))
 (.seq (.block 3 (.seq (.reg [
 p0 69 (.mv (.t 0)),
 p0 70 (.nck (.t 69)),
 p0 71 (.fadr 4 (.t 70)),
 p0 72 (.ld (.t 71)),
 p0 73 (.mv (.t 8)),
 p0 74 (.iadr 6 (.t 72) (.t 73)),
 p0 75 (.fadr 0 (.t 74)),
 p0 76 (.ld (.t 75)),
 p0 77 (.mv (.t 2)),
 p0 78 (.bin .eql (.t 76) (.t 77))])
 (.cond (.t 78)
 (.seq (.dreg [
 p0 79 (.mv (.t 0)),
 p0 80 (.nck (.t 79)),
 p0 81 (.fadr 4 (.t 80)),
 p0 82 (.ld (.t 81)),
 p0 83 (.mv (.t 8)),
 p0 84 (.mv (.t 0)),
 p0 85 (.nck (.t 84)),
 p0 86 (.fadr 4 (.t 85)),
 p0 87 (.ld (.t 86)),
 p0 88 (.mv (.t 8)),
 p0 89 (.iadr 6 (.t 87) (.t 88)),
 p0 90 (.fadr 5 (.t 89)),
 p0 91 (.ld (.t 90)),
 p0 92 (.mv (.t 1)),
 x0 93 (.bslice 2 1 [(.int .i64 0)] 1 [(0, (.t 92))]),
 x0 94 (.app 2 1 8 (.t 91) (.t 93)),
 p0 95 (.iadr 6 (.t 82) (.t 83)),
 p0 96 (.fadr 5 (.t 95)),
 s0 (.st 1 (.t 96) (.t 94))]
 [false, false, false, false, false, false, false, false, false, false, false, false, false, false, true, true, false, false, true] [[],[0],[1,0],[2,1,0],[],[],[5],[6,5],[7,6,5],[],[8,7,6,5,9],[10,8,7,6,5,9],[11,10,8,7,6,5,9],[],[13],[12,11,10,8,7,6,5,9,14,13],[3,2,1,0,4,5,6,7,8,9,10,11,12,13,14,15],[16,3,2,1,0,4,5,6,7,8,9,10,11,12,13,14,15],[17,16,3,2,1,0,4,5,6,7,8,9,10,11,12,13,14,15]] [0,1,2,3,4,5,6,7,8,9,10,11,12,13,14,15,16,17,18])
 (.seq (.reg [
 p0 6 (.mv (.c (.int .i64 0)))])
 .ret))
 .skip)))
 (.reg [
 p0 67 (.mv (.t 8)),
 p0 68 (.bin .add (.t 67) (.c (.int .i64 1))),
 p0 8 (.mv (.t 68))]))))))
 (.seq (.seq (.reg [
 p0 97 (.mv (.t 0)),
 p0 98 (.nck (.t 97)),
 p0 99 (.fadr 4 (.t 98)),
 p0 100 (.ld (.t 99)),
 p0 101 (.len (.t 100)),
 p0 102 (.bin .geq (.t 101) (.c (.int .i64 16)))])
 (.cond (.t 102)
 (.seq (.reg [
 p0 6 (.mv (.c (.int .i64 18)))])
 .ret)
 .skip))
 (.seq (.reg [
 p0 103 (.mv (.t 0)),
 p0 104 (.mv (.t 0)),
 p0 105 (.nck (.t 104)),
 p0 106 (.fadr 4 (.t 105)),
 p0 107 (.ld (.t 106)),
 p0 108 (.mv (.t 2)),
 p0 109 (.mv (.t 1)),
 x0 110 (.bslice 2 1 [(.int .i64 0)] 1 [(0, (.t 109))]),
 p0 111 (.build [(.str []), (.int .i64 0), (.int .i64 0), (.int .i64 0), (.int .i64 0), .nilslice] [(0, 1, (.t 108)), (5, 1, (.t 110))]),
 x0 112 (.bslice 119 6 [(.str []), (.int .i64 0), (.int .i64 0), (.int .i64 0), (.int .i64 0), .nilslice] 1 [(0, (.t 111))]),
 x0 113 (.app 119 6 72 (.t 107) (.t 112)),
 p0 114 (.nck (.t 103)),
 p0 115 (.fadr 4 (.t 114)),
 s0 (.st 1 (.t 115) (.t 113))])
 (.seq (.reg [
 p0 116 (.mv (.t 0)),
 p0 117 (.mv (.t 0)),
 p0 118 (.nck (.t 117)),
 p0 119 (.fadr 4 (.t 118)),
 p0 120 (.ld (.t 119)),
 p0 121 (.len (.t 120)),
 p0 122 (.bin .sub (.t 121) (.c (.int .i64 1))),
 x0 123 (.call 70 [(.t 116), (.t 122)])])
 (.seq (.reg [
 p0 6 (.mv (.c (.int .i64 0)))])
 .ret))))))))
theorem ok47 : fnComp Tryz.prog 47 = some (124, c47, [(.mv (.t 6))]) := by kernel_rfl

def c48 : CC :=
 (.seq (.reg [
 p0 14 (.mv (.t 3)),
 x0 15 (.call 71 [(.t 14)]),
 p0 13 (.mv (.t 15)),
 p0 16 (.ext 0 (.t 13)),
 p0 17 (.ext 1 (.t 13)),
 x0 8 (.zero 101 5 [(.int .i64 0), (.int .i64 0), (.int .i64 0), (.str []), .nilslice]),
 s0 (.st 5 (.t 8) (.t 16)),
 p0 9 (.mv (.t 17))])
 (.seq (.seq (.reg [
 p0 18 (.mv (.t 9)),
 p0 19 (.bin .neq (.t 18) (.c (.int .i64 0))),
 p0 20 (.mv (.t 19)),
 g0 21 20 false (.mv (.t 2)),
 g0 22 20 false (.bin .neq (.t 21) (.c (.int .i64 53))),
 p0 23 (.pick (.t 20) (.c (.bool true)) (.t 22))])
 (.cond (.t 23)
 .ret
 .skip))
 (.seq (.reg [
 p0 10 (.mv (.c (.int .i64 0)))])
 (.block 0 (.loop (.seq (.seq (.reg [
 p0 24 (.mv (.t 10)),
 p0 25 (.mv (.t 0)),
 p0 26 (.nck (.t 25)),
 p0 27 (.fadr 4 (.t 26)),
 p0 28 (.ld (.t 27)),
 p0 29 (.len (.t 28)),
 p0 30 (.bin .lss (.t 24) (.t 29))])
 (.cond (.t 30)
 .skip
 (.exit 0)))
 (.seq (.block 1 (.seq (.reg [
 p0 33 (.mv (.t 0)),
 p0 34 (.nck (.t 33)),
 p0 35 (.fadr 4 (.t 34)),
 p0 36 (.ld (.t 35)),
 p0 37 (.mv (.t 10)),
 p0 38 (.iadr 6 (.t 36) (.t 37)),
 p0 39 (.ldA 6 (.t 38)),
 x0 11 (.zero 119 6 [(.str []), (.int .i64 0), (.int .i64 0), (.int .i64 0), (.int .i64 0), .nilslice]),
 s0 (.st 6 (.t 11) (.t 39))])
 (.seq (.seq (.reg [
 p0 40 (.fadr 1 (.t 11)),
 p0 41 (.ld (.t 40)),
 p0 42 (.fadr 0 (.t 8)),
 p0 43 (.ld (.t 42)),
 p0 44 (.bin .neq (.t 41) (.t 43)),
 p0 45 (.mv (.t 44)),
 g0 46 45 false (.fadr 2 (.t 11)),
 g0 47 45 false (.ld (.t 46)),
 g0 48 45 false (.mv (.t 1)),
 g0 49 45 false (.bin .neq (.t 47) (.t 48)),
 p0 50 (.pick (.t 45) (.c (.bool true)) (.t 49)),
 p0 51 (.mv (.t 50)),
 g0 52 51 false (.fadr 0 (.t 11)),
 g0 53 51 false (.ld (.t 52)),
 g0 54 51 false (.fadr 3 (.t 8)),
 g0 55 51 false (.ld (.t 54)),
 g0 56 51 false (.bin .neq (.t 53) (.t 55)),
 p0 57 (.pick (.t 51) (.c (.bool true)) (.t 56))])
 (.cond (.t 57)
 (.exit 1)
 .skip))
 (.seq (.reg [
 p0 58 (.fadr 1 (.t 8)),
 p0 59 (.ld (.t 58)),
 p0 60 (.bin .eql (.t 59) (.c (.int .i64 0))),
 p0 61 (.mv (.t 60)),
 g0 62 61 true (.fadr 4 (.t 8)),
 g0 63 61 true (.ld (.t 62)),
 g0 64 61 true (.len (.t 63)),
 g0 65 61 true (.bin .gtr (.t 64) (.c (.int .i64 0))),
 p0 66 (.pick (.t 61) (.t 65) (.c (.bool false))),
 p0 67 (.mv (.t 66)),
 g0 68 67 false (.fadr 1 (.t 8)),
 g0 69 67 false (.ld (.t 68)),
 g0 70 67 false (.bin .eql (.t 69) (.c (.int .i64 20))),
 g0 71 67 false (.mv (.t 70)),
 g0 72 71 true (.fadr 4 (.t 8)),
 g0 73 71 true (.ld (.t 72)),
 g0 74 71 true (.len (.t 73)),
 g0 75 71 true (.bin .eql (.t 74) (.c (.int .i64 0))),
 g0 76 67 false (.pick (.t 71) (.t 75) (.c (.bool false))),
 p0 77 (.pick (.t 67) (.c (.bool true)) (.t 76)),
 p0 12 (.mv (.t 77))])
 (.seq (.seq (.reg [
 p0 78 (.mv (.t 12)),
 p0 79 (.un .not (.t 78))])
 (.cond (.t 79)
 (.seq (.reg [
 p0 80 (.mv (.t 0)),
 p0 81 (.mv (.t 10)),
 x0 82 (.call 70 [(.t 80), (.t 81)])])
 .ret)
 .skip))
 (.seq (.reg [
 p0 83 (.mv (.t 0)),
 x0 84 (.call 50 [(.t 83)])])
 (.seq (.seq (.reg [
 p0 85 (.fadr 2 (.t 8)),
 p0 86 (.ld (.t 85)),
 p0 87 (.bin .gtr (.t 86) (.c (.int .i64 0)))])
 (.cond (.t 87)
 (.seq (.seq (.reg [
 p0 88 (.mv (.t 0)),
 p0 89 (.nck (.t 88)),
 p0 90 (.fadr 5 (.t 89)),
 p0 91 (.ld (.t 90)),
 p0 92 (.len (.t 91)),
 p0 93 (.bin .geq (.t 92) (.c (.int .i64 32)))])
 (.cond (.t 93)
 (.reg [
 p0 94 (.mv (.t 0)),
 x0 95 (.bslice 117 4 [(.str []), (.int .i64 0), .nilslice, (.int .i64 0)] 0 []),
 p0 96 (.mv (.t 0)),
 p0 97 (.nck (.t 96)),
 p0 98 (.fadr 5 (.t 97)),
 p0 99 (.ld (.t 98)),
 p0 100 (.slc 4 (.t 99) (some (.c (.int .i64 1))) none none),
 x0 101 (.app 117 4 56 (.t 95) (.t 100)),
 p0 102 (.nck (.t 94)),
 p0 103 (.fadr 5 (.t 102)),
 s0 (.st 1 (.t 103) (.t 101))])
 .skip))
 (.dreg [
 p0 104 (.mv (.t 0)),
 p0 105 (.mv (.t 0)),
 p0 106 (.nck (.t 105)),
 p0 107 (.fadr 5 (.t 106)),
 p0 108 (.ld (.t 107)),
 p0 109 (.fadr 3 (.t 8)),
 p0 110 (.ld (.t 109)),
 p0 111 (.fadr 1 (.t 8)),
 p0 112 (.ld (.t 111)),
 p0 113 (.fadr 4 (.t 8)),
 p0 114 (.ld (.t 113)),
 x0 115 (.call 69 [(.t 114)]),
 p0 116 (.mv (.t 0)),
 p0 117 (.nck (.t 116)),
 p0 118 (.fadr 2 (.t 117)),
 p0 119 (.ld (.t 118)),
 p0 120 (.fadr 2 (.t 8)),
 p0 121 (.ld (.t 120)),
 p0 122 (.bin .mul (.c (.int .i64 1000)) (.t 121)),
 p0 123 (.bin .add (.t 119) (.t 122)),
 p0 124 (.build [(.str []), (.int .i64 0), .nilslice, (.int .i64 0)] [(0, 1, (.t 110)), (1, 1, (.t 112)), (2, 1, (.t 115)), (3, 1, (.t 123))]),
 x0 125 (.bslice 117 4 [(.str []), (.int .i64 0), .nilslice, (.int .i64 0)] 1 [(0, (.t 124))]),
 x0 126 (.app 117 4 56 (.t 108) (.t 125)),
 p0 127 (.nck (.t 104)),
 p0 128 (.fadr 5 (.t 127)),
 s0 (.st 1 (.t 128) (.t 126))]
 [false, false, false, false, false, false, false, false, false, false, false, true, false, false, false, false, false, false, false, false, false, true, true, false, false, true] [[],[],[1],[2,1],[3,2,1],[],[5],[],[7],[],[9],[10,9],[],[12],[13,12],[14,13,12],[],[16],[17,16],[15,14,13,12,18,17,16],[6,5,8,7,11,10,9,19,15,14,13,12,18,17,16],[20,6,5,8,7,11,10,9,19,15,14,13,12,18,17,16],[4,3,2,1,21,20,6,5,8,7,11,10,9,19,15,14,13,12,18,17,16],[0,1,2,3,4,5,6,7,8,9,10,11,12,13,14,15,16,17,18,19,20,21,22],[23,0,1,2,3,4,5,6,7,8,9,10,11,12,13,14,15,16,17,18,19,20,21,22],[24,23,0,1,2,3,4,5,6,7,8,9,10,11,12,13,14,15,16,17,18,19,20,21,22]] [0,1,2,3,4,5,6,7,8,9,10,12,13,14,15,16,17,18,19,11,20,21,22,23,24,25]))
 .skip))
 (.seq (.reg [
 p0 129 (.mv (.t 0)),
 p0 130 (.mv (.t 10)),
 p0 131 (.fadr 1 (.t 8)),
 p0 132 (.ld (.t 131)),
 p0 133 (.fadr 4 (.t 8)),
 p0 134 (.ld (.t 133)),
 x0 135 (.call 72 [(.t 129), (.t 130), (.t 132), (.t 134)])])
 .ret))))))))
 (.reg [
 p0 31 (.mv (.t 10)),
 p0 32 (.bin .add (.t 31) (.c (.int .i64 1))),
 p0 10 (.mv (.t 32))]))))))))
theorem ok48 : fnComp Tryz.prog 48 = some (136, c48, []) := by kernel_rfl

def c49 : CC :=
 (.seq (.reg [
 p0 6 (.mv (.t 0)),
 p0 7 (.nck (.t 6)),
 p0 8 (.fadr 2 (.t 7)),
 p0 9 (.ld (.t 8)),
 p0 10 (.mv (.t 1)),
 p0 11 (.bin .add (.t 9) (.t 10)),
 p0 4 (.mv (.t 11))])
 (.seq (.seq (.reg [
 p0 12 (.mv (.t 0)),
 p0 13 (.mv (.t 4)),
 x0 14 (.call 73 [(.t 12), (.t 13)]),
 p0 5 (.mv (.t 14))])
 (.block 0 (.loop (.seq (.seq (.reg [
 p0 15 (.mv (.t 5)),
 p0 16 (.bin .geq (.t 15) (.c (.int .i64 0)))])
 (.cond (.t 16)
 .skip
 (.exit 0)))
 (.seq (.block 1 (.seq (.reg [
 p0 20 (.mv (.t 0)),
 p0 21 (.mv (.t 0)),
 p0 22 (.nck (.t 21)),
 p0 23 (.fadr 4 (.t 22)),
 p0 24 (.ld (.t 23)),
 p0 25 (.mv (.t 5)),
 p0 26 (.iadr 6 (.t 24) (.t 25)),
 p0 27 (.fadr 4 (.t 26)),
 p0 28 (.ld (.t 27)),
 p0 29 (.nck (.t 20)),
 p0 30 (.fadr 2 (.t 29)),
 s0 (.st 1 (.t 30) (.t 28))])
 (.reg [
 p0 31 (.mv (.t 0)),
 p0 32 (.mv (.t 5)),
 x0 33 (.call 70 [(.t 31), (.t 32)])])))
 (.reg [
 p0 17 (.mv (.t 0)),
 p0 18 (.mv (.t 4)),
 x0 19 (.call 73 [(.t 17), (.t 18)]),
 p0 5 (.mv (.t 19))]))))))
 (.reg [
 p0 34 (.mv (.t 0)),
 p0 35 (.mv (.t 4)),
 p0 36 (.nck (.t 34)),
 p0 37 (.fadr 2 (.t 36)),
 s0 (.st 1 (.t 37) (.t 35))])))
theorem ok49 : fnComp Tryz.prog 49 = some (38, c49, []) := by kernel_rfl

def c50 : CC :=
 (.seq (.reg [
 x0 4 (.bslice 117 4 [(.str []), (.int .i64 0), .nilslice, (.int .i64 0)] 0 []),
 p0 2 (.mv (.t 4))])
 (.seq (.seq (.reg [
 p0 3 (.mv (.c (.int .i64 0)))])
 (.block 0 (.loop (.seq (.seq (.reg [
 p0 5 (.mv (.t 3)),
 p0 6 (.mv (.t 0)),
 p0 7 (.nck (.t 6)),
 p0 8 (.fadr 5 (.t 7)),
 p0 9 (.ld (.t 8)),
 p0 10 (.len (.t 9)),
 p0 11 (.bin .lss (.t 5) (.t 10))])
 (.cond (.t 11)
 .skip
 (.exit 0)))
 (.seq (.block 1 (.seq (.dreg [
 p0 14 (.mv (.t 0)),
 p0 15 (.nck (.t 14)),
 p0 16 (.fadr 5 (.t 15)),
 p0 17 (.ld (.t 16)),
 p0 18 (.mv (.t 3)),
 p0 19 (.iadr 4 (.t 17) (.t 18)),
 p0 20 (.fadr 3 (.t 19)),
 p0 21 (.ld (.t 20)),
 p0 22 (.mv (.t 0)),
 p0 23 (.nck (.t 22)),
 p0 24 (.fadr 2 (.t 23)),
 p0 25 (.ld (.t 24)),
 p0 26 (.bin .gtr (.t 21) (.t 25))]
 [false, false, false, false, false, false, false, false, false, false, false, false, false] [[],[0],[1,0],[2,1,0],[],[3,2,1,0,4],[5,3,2,1,0,4],[6,5,3,2,1,0,4],[],[8],[9,8],[10,9,8],[7,6,5,3,2,1,0,4,11,10,9,8]] [0,1,2,3,4,5,6,7,8,9,10,11,12])
 (.cond (.t 26)
 (.reg [
 p0 27 (.mv (.t 2)),
 p0 28 (.mv (.t 0)),
 p0 29 (.nck (.t 28)),
 p0 30 (.fadr 5 (.t 29)),
 p0 31 (.ld (.t 30)),
 p0 32 (.mv (.t 3)),
 p0 33 (.iadr 4 (.t 31) (.t 32)),
 p0 34 (.ldA 4 (.t 33)),
 x0 35 (.bslice 117 4 [(.str []), (.int .i64 0), .nilslice, (.int .i64 0)] 1 [(0, (.t 34))]),
 x0 36 (.app 117 4 56 (.t 27) (.t 35)),
 p0 2 (.mv (.t 36))])
 .skip)))
 (.reg [
 p0 12 (.mv (.t 3)),
 p0 13 (.bin .add (.t 12) (.c (.int .i64 1))),
 p0 3 (.mv (.t 13))]))))))
 (.reg [
 p0 37 (.mv (.t 0)),
 p0 38 (.mv (.t 2)),
 p0 39 (.nck (.t 37)),
 p0 40 (.fadr 5 (.t 39)),
 s0 (.st 1 (.t 40) (.t 38))])))
theorem ok50 : fnComp Tryz.prog 50 = some (41, c50, []) := by kernel_rfl

def c69 : CC :=
 (.seq (.reg [
 p0 2 (.mv (.c .nilslice))])
 (.seq (.reg [
 x0 3 (.bslice 2 1 [(.int .i64 0)] 0 []),
 p0 4 (.mv (.t 0)),
 x0 5 (.app 2 1 8 (.t 3) (.t 4)),
 p0 2 (.mv (.t 5))])
 .ret))
theorem ok69 : fnComp Tryz.prog 69 = some (6, c69, [(.mv (.t 2))]) := by kernel_rfl

def c70 : CC :=
 (.seq (.reg [
 p0 7 (.mv (.t 0)),
 p0 8 (.nck (.t 7)),
 p0 9 (.fadr 4 (.t 8)),
 p0 10 (.ld (.t 9)),
 p0 11 (.mv (.t 1)),
 p0 12 (.iadr 6 (.t 10) (.t 11)),
 p0 13 (.ldA 6 (.t 12)),
 x0 4 (.zero 119 6 [(.str []), (.int .i64 0), (.int .i64 0), (.int .i64 0), (.int .i64 0), .nilslice]),
 s0 (.st 6 (.t 4) (.t 13))])
 (.seq (.seq (.reg [
 p0 14 (.fadr 3 (.t 4)),
 p0 15 (.ld (.t 14)),
 p0 16 (.bin .geq (.t 15) (.c (.int .i64 4)))])
 (.cond (.t 16)
 (.seq (.reg [
 p0 17 (.mv (.t 0)),
 p0 18 (.mv (.t 1)),
 x0 19 (.call 72 [(.t 17), (.t 18), (.c (.int .i64 15)), (.c .nilslice)])])
 .ret)
 .skip))
 (.seq (.dreg [
 p0 20 (.mv (.t 0)),
 p0 21 (.nck (.t 20)),
 p0 22 (.fadr 0 (.t 21)),
 p0 23 (.fadr 1 (.t 22)),
 p0 24 (.ld (.t 23)),
 p0 25 (.mv (.t 0)),
 p0 26 (.nck (.t 25)),
 p0 27 (.fadr 3 (.t 26)),
 p0 28 (.ld (.t 27)),
 p0 29 (.bin .mul (.c (.int .i64 7919)) (.t 28)),
 p0 30 (.bin .add (.t 24) (.t 29)),
 p0 31 (.bin .rem (.t 30) (.c (.int .i64 65536))),
 p0 32 (.fadr 1 (.t 4)),
 s0 (.st 1 (.t 32) (.t 31))]
 [false, false, false, false, false, false, false, false, false, false, false, false, false, true] [[],[0],[1,0],[2,1,0],[3,2,1,0],[],[5],[6,5],[7,6,5],[8,7,6,5],[4,3,2,1,0,9,8,7,6,5],[10,4,3,2,1,0,9,8,7,6,5],[0,1,2,3,4,5,6,7,8,9,10,11],[12,0,1,2,3,4,5,6,7,8,9,10,11]] [0,1,2,3,4,5,6,7,8,9,10,11,12,13])
 (.seq (.reg [
 p0 33 (.mv (.t 0)),
 p0 34 (.nck (.t 33)),
 p0 35 (.fadr 3 (.t 34)),
 p0 36 (.ld (.t 35)),
 p0 37 (.bin .add (.t 36) (.c (.int .i64 1))),
 p0 38 (.nck (.t 33)),
 p0 39 (.fadr 3 (.t 38)),
 s0 (.st 1 (.t 39) (.t 37))])
 (.seq (.dreg [
 p0 40 (.mv (.t 0)),
 p0 41 (.nck (.t 40)),
 p0 42 (.fadr 0 (.t 41)),
 p0 43 (.fadr 0 (.t 42)),
 p0 44 (.ld (.t 43)),
 p0 45 (.fadr 3 (.t 4)),
 p0 46 (.ld (.t 45)),
 p0 47 (.mv (.t 0)),
 p0 48 (.nck (.t 47)),
 p0 49 (.fadr 0 (.t 48)),
 p0 50 (.fadr 0 (.t 49)),
 p0 51 (.ld (.t 50)),
 p0 52 (.len (.t 51)),
 p0 53 (.bin .rem (.t 46) (.t 52)),
 p0 54 (.iadr 1 (.t 44) (.t 53)),
 p0 55 (.ld (.t 54)),
 p0 56 (.fadr 2 (.t 4)),
 s0 (.st 1 (.t 56) (.t 55))]
 [false, false, false, false, false, false, false, false, false, false, false, false, false, false, false, false, false, true] [[],[0],[1,0],[2,1,0],[3,2,1,0],[],[5],[],[7],[8,7],[9,8,7],[10,9,8,7],[11,10,9,8,7],[6,5,12,11,10,9,8,7],[4,3,2,1,0,13,6,5,12,11,10,9,8,7],[14,4,3,2,1,0,13,6,5,12,11,10,9,8,7],[0,1,2,3,4,5,6,7,8,9,10,11,12,13,14,15],[16,0,1,2,3,4,5,6,7,8,9,10,11,12,13,14,15]] [0,1,2,3,4,5,6,7,8,9,10,11,12,13,14,15,16,17])
 (.seq (.reg [
 p0 57 (.fadr 3 (.t 4)),
 p0 58 (.ld (.t 57)),
 p0 59 (.bin .add (.t 58) (.c (.int .i64 1))),
 p0 60 (.fadr 3 (.t 4)),
 s0 (.st 1 (.t 60) (.t 59))])
 (.seq (.reg [
 p0 61 (.mv (.t 0)),
 p0 62 (.nck (.t 61)),
 p0 63 (.fadr 2 (.t 62)),
 p0 64 (.ld (.t 63)),
 p0 65 (.bin .add (.t 64) (.c (.int .i64 2000))),
 p0 66 (.fadr 4 (.t 4)),
 s0 (.st 1 (.t 66) (.t 65))])
 (.seq (.dreg [
 p0 67 (.mv (.t 0)),
 p0 68 (.nck (.t 67)),
 p0 69 (.fadr 4 (.t 68)),
 p0 70 (.ld (.t 69)),
 p0 71 (.mv (.t 1)),
 p0 72 (.ldA 6 (.t 4)),
 p0 73 (.iadr 6 (.t 70) (.t 71)),
 s0 (.st 6 (.t 73) (.t 72))]
 [false, false, false, false, false, false, false, true] [[],[0],[1,0],[2,1,0],[],[],[3,2,1,0,4,5],[6,3,2,1,0,4,5]] [0,1,2,3,4,5,6,7])
 (.seq (.reg [
 p0 75 (.fadr 1 (.t 4)),
 p0 76 (.ld (.t 75)),
 p0 77 (.fadr 0 (.t 4)),
 p0 78 (.ld (.t 77)),
 p0 79 (.build [(.int .i64 0), (.str [])] [(0, 1, (.t 76)), (1, 1, (.t 78))]),
 x0 80 (.call 89 [(.t 79)]),
 p0 74 (.mv (.t 80)),
 p0 81 (.ext 0 (.t 74)),
 p0 82 (.ext 1 (.t 74)),
 p0 5 (.mv (.t 81)),
 p0 6 (.mv (.t 82))])
 (.dreg [
 p0 83 (.mv (.t 0)),
 p0 84 (.mv (.t 0)),
 p0 85 (.nck (.t 84)),
 p0 86 (.fadr 6 (.t 85)),
 p0 87 (.fadr 1 (.t 86)),
 p0 88 (.ld (.t 87)),
 p0 89 (.fadr 2 (.t 4)),
 p0 90 (.ld (.t 89)),
 p0 91 (.mv (.t 5)),
 p0 92 (.build [(.int .i64 0), .nilslice] [(0, 1, (.t 90)), (1, 1, (.t 91))]),
 x0 93 (.bslice 111 2 [(.int .i64 0), .nilslice] 1 [(0, (.t 92))]),
 x0 94 (.app 111 2 32 (.t 88) (.t 93)),
 p0 95 (.nck (.t 83)),
 p0 96 (.fadr 6 (.t 95)),
 p0 97 (.fadr 1 (.t 96)),
 s0 (.st 1 (.t 97) (.t 94))]
 [false, false, false, false, false, false, false, false, false, false, true, true, false, false, false, true] [[],[],[1],[2,1],[3,2,1],[4,3,2,1],[],[6],[],[7,6,8],[9,7,6,8],[5,4,3,2,1,10,9,7,6,8],[0,1,2,3,4,5,6,7,8,9,10,11],[12,0,1,2,3,4,5,6,7,8,9,10,11],[13,12,0,1,2,3,4,5,6,7,8,9,10,11],[14,13,12,0,1,2,3,4,5,6,7,8,9,10,11]] [0,1,2,3,4,5,6,7,8,9,10,11,12,13,14,15]))))))))))
theorem ok70 : fnComp Tryz.prog 70 = some (98, c70, []) := by kernel_rfl

def c72 : CC :=
 (.seq (.reg [
 p0 12 (.mv (.t 0)),
 p0 13 (.nck (.t 12)),
 p0 14 (.fadr 4 (.t 13)),
 p0 15 (.ld (.t 14)),
 p0 16 (.mv (.t 1)),
 p0 17 (.iadr 6 (.t 15) (.t 16)),
 p0 18 (.ldA 6 (.t 17)),
 x0 8 (.zero 119 6 [(.str []), (.int .i64 0), (.int .i64 0), (.int .i64 0), (.int .i64 0), .nilslice]),
 s0 (.st 6 (.t 8) (.t 18))])
 (.seq (.seq (.reg [
 p0 9 (.mv (.c (.int .i64 0)))])
 (.block 0 (.loop (.seq (.seq (.reg [
 p0 19 (.mv (.t 9)),
 p0 20 (.fadr 5 (.t 8)),
 p0 21 (.ld (.t 20)),
 p0 22 (.len (.t 21)),
 p0 23 (.bin .lss (.t 19) (.t 22))])
 (.cond (.t 23)
 .skip
 (.exit 0)))
 (.seq (.block 1 (.dreg [
 p0 26 (.mv (.t 0)),
 p0 27 (.mv (.t 0)),
 p0 28 (.nck (.t 27)),
 p0 29 (.fadr 6 (.t 28)),
 p0 30 (.fadr 2 (.t 29)),
 p0 31 (.ld (.t 30)),
 p0 32 (.fadr 5 (.t 8)),
 p0 33 (.ld (.t 32)),
 p0 34 (.mv (.t 9)),
 p0 35 (.iadr 1 (.t 33) (.t 34)),
 p0 36 (.ld (.t 35)),
 p0 37 (.mv (.t 2)),
 p0 38 (.mv (.t 3)),
 x0 39 (.call 69 [(.t 38)]),
 p0 40 (.build [(.int .i64 0), (.int .i64 0), .nilslice] [(0, 1, (.t 36)), (1, 1, (.t 37)), (2, 1, (.t 39))]),
 x0 41 (.bslice 99 3 [(.int .i64 0), (.int .i64 0), .nilslice] 1 [(0, (.t 40))]),
 x0 42 (.app 99 3 40 (.t 31) (.t 41)),
 p0 43 (.nck (.t 26)),
 p0 44 (.fadr 6 (.t 43)),
 p0 45 (.fadr 2 (.t 44)),
 s0 (.st 1 (.t 45) (.t 42))]
 [false, false, false, false, false, false, false, false, false, false, false, false, false, true, false, true, true, false, false, false, true] [[],[],[1],[2,1],[3,2,1],[4,3,2,1],[],[6],[],[7,6,8],[9,7,6,8],[],[],[12],[10,9,7,6,8,11,13,12],[14,10,9,7,6,8,11,13,12],[5,4,3,2,1,15,14,10,9,7,6,8,11,13,12],[0,1,2,3,4,5,6,7,8,9,10,11,12,13,14,15,16],[17,0,1,2,3,4,5,6,7,8,9,10,11,12,13,14,15,16],[18,17,0,1,2,3,4,5,6,7,8,9,10,11,12,13,14,15,16],[19,18,17,0,1,2,3,4,5,6,7,8,9,10,11,12,13,14,15,16]] [0,1,2,3,4,5,6,7,8,9,10,11,12,13,14,15,16,17,18,19,20]))
 (.reg [
 p0 24 (.mv (.t 9)),
 p0 25 (.bin .add (.t 24) (.c (.int .i64 1))),
 p0 9 (.mv (.t 25))]))))))
 (.seq (.reg [
 x0 46 (.bslice 119 6 [(.str []), (.int .i64 0), (.int .i64 0), (.int .i64 0), (.int .i64 0), .nilslice] 0 []),
 p0 10 (.mv (.t 46))])
 (.seq (.seq (.reg [
 p0 11 (.mv (.c (.int .i64 0)))])
 (.block 2 (.loop (.seq (.seq (.reg [
 p0 47 (.mv (.t 11)),
 p0 48 (.mv (.t 0)),
 p0 49 (.nck (.t 48)),
 p0 50 (.fadr 4 (.t 49)),
 p0 51 (.ld (.t 50)),
 p0 52 (.len (.t 51)),
 p0 53 (.bin .lss (.t 47) (.t 52))])
 (.cond (.t 53)
 .skip
 (.exit 2)))
 (.seq (.block 3 (.seq (.reg [
 p0 56 (.mv (.t 11)),
 p0 57 (.mv (.t 1)),
 p0 58 (.bin .neq (.t 56) (.t 57))])
 (.cond (.t 58)
 (.reg [
 p0 59 (.mv (.t 10)),
 p0 60 (.mv (.t 0)),
 p0 61 (.nck (.t 60)),
 p0 62 (.fadr 4 (.t 61)),
 p0 63 (.ld (.t 62)),
 p0 64 (.mv (.t 11)),
 p0 65 (.iadr 6 (.t 63) (.t 64)),
 p0 66 (.ldA 6 (.t 65)),
 x0 67 (.bslice 119 6 [(.str []), (.int .i64 0), (.int .i64 0), (.int .i64 0), (.int .i64 0), .nilslice] 1 [(0, (.t 66))]),
 x0 68 (.app 119 6 72 (.t 59) (.t 67)),
 p0 10 (.mv (.t 68))])
 .skip)))
 (.reg [
 p0 54 (.mv (.t 11)),
 p0 55 (.bin .add (.t 54) (.c (.int .i64 1))),
 p0 11 (.mv (.t 55))]))))))
 (.reg [
 p0 69 (.mv (.t 0)),
 p0 70 (.mv (.t 10)),
 p0 71 (.nck (.t 69)),
 p0 72 (.fadr 4 (.t 71)),
 s0 (.st 1 (.t 72) (.t 70))])))))
theorem ok72 : fnComp Tryz.prog 72 = some (73, c72, []) := by kernel_rfl

def c73 : CC :=
 (.seq (.reg [
 p0 4 (.mv (.c (.int .i64 0)))])
 (.seq (.reg [
 p0 5 (.mv (.c (.int .i64 (-1))))])
 (.seq (.seq (.reg [
 p0 6 (.mv (.c (.int .i64 0)))])
 (.block 0 (.loop (.seq (.seq (.reg [
 p0 7 (.mv (.t 6)),
 p0 8 (.mv (.t 0)),
 p0 9 (.nck (.t 8)),
 p0 10 (.fadr 4 (.t 9)),
 p0 11 (.ld (.t 10)),
 p0 12 (.len (.t 11)),
 p0 13 (.bin .lss (.t 7) (.t 12))])
 (.cond (.t 13)
 .skip
 (.exit 0)))
 (.seq (.block 1 (.seq (.dreg [
 p0 16 (.mv (.t 0)),
 p0 17 (.nck (.t 16)),
 p0 18 (.fadr 4 (.t 17)),
 p0 19 (.ld (.t 18)),
 p0 20 (.mv (.t 6)),
 p0 21 (.iadr 6 (.t 19) (.t 20)),
 p0 22 (.fadr 4 (.t 21)),
 p0 23 (.ld (.t 22)),
 p0 24 (.mv (.t 1)),
 p0 25 (.bin .leq (.t 23) (.t 24)),
 p0 26 (.mv (.t 25)),
 g0 27 26 true (.mv (.t 5)),
 g0 28 26 true (.bin .lss (.t 27) (.c (.int .i64 0))),
 g0 29 26 true (.mv (.t 28)),
 g0 30 29 false (.mv (.t 0)),
 g0 31 29 false (.nck (.t 30)),
 g0 32 29 false (.fadr 4 (.t 31)),
 g0 33 29 false (.ld (.t 32)),
 g0 34 29 false (.mv (.t 6)),
 g0 35 29 false (.iadr 6 (.t 33) (.t 34)),
 g0 36 29 false (.fadr 4 (.t 35)),
 g0 37 29 false (.ld (.t 36)),
 g0 38 29 false (.mv (.t 0)),
 g0 39 29 false (.nck (.t 38)),
 g0 40 29 false (.fadr 4 (.t 39)),
 g0 41 29 false (.ld (.t 40)),
 g0 42 29 false (.mv (.t 5)),
 g0 43 29 false (.iadr 6 (.t 41) (.t 42)),
 g0 44 29 false (.fadr 4 (.t 43)),
 g0 45 29 false (.ld (.t 44)),
 g0 46 29 false (.bin .lss (.t 37) (.t 45)),
 g0 47 26 true (.pick (.t 29) (.c (.bool true)) (.t 46)),
 p0 48 (.pick (.t 26) (.t 47) (.c (.bool false)))]
 [false, false, false, false, false, false, false, false, false, false, false, false, false, false, false, false, false, false, false, false, false, false, false, false, false, false, false, false, false, false, false, false, false] [[],[0],[1,0],[2,1,0],[],[3,2,1,0,4],[5,3,2,1,0,4],[6,5,3,2,1,0,4],[],[7,6,5,3,2,1,0,4,8],[9,7,6,5,3,2,1,0,4,8],[10,9,7,6,5,3,2,1,0,4,8],[11,10,9,7,6,5,3,2,1,0,4,8],[12,11,10,9,7,6,5,3,2,1,0,4,8],[13,12,11,10,9,7,6,5,3,2,1,0,4,8],[14,13,12,11,10,9,7,6,5,3,2,1,0,4,8],[15,14,13,12,11,10,9,7,6,5,3,2,1,0,4,8],[16,15,14,13,12,11,10,9,7,6,5,3,2,1,0,4,8],[13,12,11,10,9,7,6,5,3,2,1,0,4,8],[17,16,15,14,13,12,11,10,9,7,6,5,3,2,1,0,4,8,18],[19,17,16,15,14,13,12,11,10,9,7,6,5,3,2,1,0,4,8,18],[20,19,17,16,15,14,13,12,11,10,9,7,6,5,3,2,1,0,4,8,18],[13,12,11,10,9,7,6,5,3,2,1,0,4,8],[22,13,12,11,10,9,7,6,5,3,2,1,0,4,8],[23,22,13,12,11,10,9,7,6,5,3,2,1,0,4,8],[24,23,22,13,12,11,10,9,7,6,5,3,2,1,0,4,8],[13,12,11,10,9,7,6,5,3,2,1,0,4,8],[25,24,23,22,13,12,11,10,9,7,6,5,3,2,1,0,4,8,26],[27,25,24,23,22,13,12,11,10,9,7,6,5,3,2,1,0,4,8,26],[28,27,25,24,23,22,13,12,11,10,9,7,6,5,3,2,1,0,4,8,26],[21,20,19,17,16,15,14,13,12,11,10,9,7,6,5,3,2,1,0,4,8,18,29,28,27,25,24,23,22,26],[13,12,11,10,9,7,6,5,3,2,1,0,4,8,30,21,20,19,17,16,15,14,18,29,28,27,25,24,23,22,26],[10,9,7,6,5,3,2,1,0,4,8,31,13,12,11,30,21,20,19,17,16,15,14,18,29,28,27,25,24,23,22,26]] [0,1,2,3,4,5,6,7,8,9,10,11,12,13,14,15,16,17,18,19,20,21,22,23,24,25,26,27,28,29,30,31,32])
 (.cond (.t 48)
 (.reg [
 p0 49 (.mv (.t 6)),
 p0 5 (.mv (.t 49))])
 .skip)))
 (.reg [
 p0 14 (.mv (.t 6)),
 p0 15 (.bin .add (.t 14) (.c (.int .i64 1))),
 p0 6 (.mv (.t 15))]))))))
 (.seq (.reg [
 p0 50 (.mv (.t 5)),
 p0 4 (.mv (.t 50))])
 .ret))))
theorem ok73 : fnComp Tryz.prog 73 = some (51, c73, [(.mv (.t 4))]) := by kernel_rfl

def c6 : CC :=
 (.seq (.reg [
 x0 2 (.box 31 2 (.t 0)),
 p0 4 (.mv (.c .nilslice)),
 p0 5 (.mv (.c (.int .i64 0)))])
 (.seq (.seq (.reg [
 p0 10 (.fadr 0 (.t 2)),
 p0 11 (.ld (.t 10)),
 p0 12 (.len (.t 11)),
 p0 13 (.bin .lss (.t 12) (.c (.int .i64 1))),
 p0 14 (.mv (.t 13)),
 g0 15 14 false (.fadr 0 (.t 2)),
 g0 16 14 false (.ld (.t 15)),
 g0 17 14 false (.len (.t 16)),
 g0 18 14 false (.bin .gtr (.t 17) (.c (.int .i64 4))),
 p0 19 (.pick (.t 14) (.c (.bool true)) (.t 18)),
 p0 20 (.mv (.t 19)),
 g0 21 20 false (.fadr 1 (.t 2)),
 g0 22 20 false (.ld (.t 21)),
 ⟨(some 23), (some (20, false)), .x (.call 19 [(.t 22)])⟩,
 g0 24 20 false (.un .not (.t 23)),
 p0 25 (.pick (.t 20) (.c (.bool true)) (.t 24))])
 (.cond (.t 25)
 (.seq (.reg [
 p0 4 (.mv (.c .nilslice)),
 p0 5 (.mv (.c (.int .i64 1)))])
 .ret)
 .skip))
 (.seq (.seq (.reg [
 p0 6 (.mv (.c (.int .i64 0)))])
 (.block 0 (.loop (.seq (.seq (.reg [
 p0 26 (.mv (.t 6)),
 p0 27 (.fadr 0 (.t 2)),
 p0 28 (.ld (.t 27)),
 p0 29 (.len (.t 28)),
 p0 30 (.bin .lss (.t 26) (.t 29))])
 (.cond (.t 30)
 .skip
 (.exit 0)))
 (.seq (.block 1 (.seq (.reg [
 p0 33 (.fadr 0 (.t 2)),
 p0 34 (.ld (.t 33)),
 p0 35 (.mv (.t 6)),
 p0 36 (.iadr 1 (.t 34) (.t 35)),
 p0 37 (.ld (.t 36)),
 x0 38 (.call 20 [(.t 37)]),
 p0 39 (.bin .neq (.t 38) (.c (.int .i64 6)))])
 (.cond (.t 39)
 (.seq (.reg [
 p0 4 (.mv (.c .nilslice)),
 p0 5 (.mv (.c (.int .i64 1)))])
 .ret)
 .skip)))
 (.reg [
 p0 31 (.mv (.t 6)),
 p0 32 (.bin .add (.t 31) (.c (.int .i64 1))),
 p0 6 (.mv (.t 32))]))))))
 (.seq (.seq (.reg [
 p0 40 (.mv (.t 1)),
 p0 41 (.len (.t 40)),
 p0 42 (.bin .gtr (.t 41) (.c (.int .i64 2000)))])
 (.cond (.t 42)
 (.seq (.reg [
 p0 4 (.mv (.c .nilslice)),
 p0 5 (.mv (.c (.int .i64 8)))])
 .ret)
 .skip))
 (.seq (.reg [
 p0 43 (.ldA 2 (.t 2)),
 p0 44 (.build [.nilslice, (.int .i64 0), (.int .i64 0), (.int .i64 0), .nilslice, .nilslice, (.int .i64 0), .nilslice, .nilslice, (.int .i64 0), (.int .i64 0)] [(0, 2, (.t 43))]),
 x0 7 (.zero 56 11 [.nilslice, (.int .i64 0), (.int .i64 0), (.int .i64 0), .nilslice, .nilslice, (.int .i64 0), .nilslice, .nilslice, (.int .i64 0), (.int .i64 0)]),
 s0 (.st 11 (.t 7) (.t 44))])
 (.seq (.reg [
 x0 45 (.bslice 54 5 [(.int .i64 0), .nilslice, .nilslice, (.int .i64 0), (.int .i64 0)] 0 []),
 p0 8 (.mv (.t 45))])
 (.seq (.seq (.reg [
 p0 9 (.mv (.c (.int .i64 0)))])
 (.block 2 (.loop (.seq (.seq (.reg [
 p0 46 (.mv (.t 9)),
 p0 47 (.mv (.t 1)),
 p0 48 (.len (.t 47)),
 p0 49 (.bin .lss (.t 46) (.t 48))])
 (.cond (.t 49)
 .skip
 (.exit 2)))
 (.seq (.block 3 (.reg [
 p0 52 (.mv (.t 8)),
 p0 53 (.mv (.t 9)),
 p0 54 (.mv (.t 1)),
 p0 55 (.mv (.t 9)),
 p0 56 (.iadr 6 (.t 54) (.t 55)),
 p0 57 (.ldA 6 (.t 56)),
 x0 58 (.call 21 [(.t 7), (.t 53), (.t 57)]),
 x0 59 (.bslice 54 5 [(.int .i64 0), .nilslice, .nilslice, (.int .i64 0), (.int .i64 0)] 1 [(0, (.t 58))]),
 x0 60 (.app 54 5 72 (.t 52) (.t 59)),
 p0 8 (.mv (.t 60))]))
 (.reg [
 p0 50 (.mv (.t 9)),
 p0 51 (.bin .add (.t 50) (.c (.int .i64 1))),
 p0 9 (.mv (.t 51))]))))))
 (.seq (.reg [
 p0 61 (.mv (.t 8)),
 p0 4 (.mv (.t 61)),
 p0 5 (.mv (.c (.int .i64 0)))])
 .ret))))))))
theorem ok6 : fnComp Tryz.prog 6 = some (62, c6, [(.mv (.t 4)), (.mv (.t 5))]) := by kernel_rfl

def c20 : CC :=
 (.seq (.reg [
 p0 2 (.mv (.c (.int .i64 0)))])
 (.seq (.block 0 (.seq (.reg [
 p0 4 (.mv (.t 0)),
 x0 5 (.call 45 [(.t 4)]),
 p0 6 (.un .not (.t 5)),
 p0 3 (.mv (.t 6))])
 (.cond (.t 3)
 (.seq (.reg [
 p0 2 (.mv (.c (.int .i64 0)))])
 .ret)
 (.seq (.reg [
 p0 8 (.mv (.t 0)),
 p0 9 (.bin .eql (.t 8) (.c (.int .i64 0))),
 p0 7 (.mv (.t 9))])
 (.cond (.t 7)
 (.seq (.reg [
 p0 2 (.mv (.c (.int .i64 1)))])
 .ret)
 (.seq (.reg [
 p0 11 (.mv (.t 0)),
 p0 12 (.bin .shr (.t 11) (.c (.int .u64 24))),
 p0 13 (.bin .eql (.t 12) (.c (.int .i64 127))),
 p0 10 (.mv (.t 13))])
 (.cond (.t 10)
 (.seq (.reg [
 p0 2 (.mv (.c (.int .i64 2)))])
 .ret)
 (.seq (.reg [
 p0 15 (.mv (.t 0)),
 p0 16 (.bin .eql (.t 15) (.c (.int .i64 4294967295))),
 p0 14 (.mv (.t 16))])
 (.cond (.t 14)
 (.seq (.reg [
 p0 2 (.mv (.c (.int .i64 4)))])
 .ret)
 (.seq (.reg [
 p0 18 (.mv (.t 0)),
 p0 19 (.bin .shr (.t 18) (.c (.int .u64 28))),
 p0 20 (.bin .eql (.t 19) (.c (.int .i64 14))),
 p0 17 (.mv (.t 20))])
 (.cond (.t 17)
 (.seq (.reg [
 p0 2 (.mv (.c (.int .i64 3)))])
 .ret)
 (.seq (.reg [
 p0 22 (.mv (.t 0)),
 p0 23 (.bin .shr (.t 22) (.c (.int .u64 28))),
 p0 24 (.bin .eql (.t 23) (.c (.int .i64 15))),
 p0 21 (.mv (.t 24))])
 (.cond (.t 21)
 (.seq (.reg [
 p0 2 (.mv (.c (.int .i64 5)))])
 .ret)
 .skip)))))))))))))
 (.seq (.reg [
 p0 2 (.mv (.c (.int .i64 6)))])
 .ret)))
theorem ok20 : fnComp Tryz.prog 20 = some (25, c20, [(.mv (.t 2))]) := by kernel_rfl

def c54 : CC :=
 (.seq (.reg [
 p0 2 (.mv (.c (.int .i64 0)))])
 (.seq (.block 0 (.seq (.reg [
 p0 4 (.mv (.t 0)),
 x0 5 (.call 75 [(.t 4)]),
 p0 6 (.un .not (.t 5)),
 p0 3 (.mv (.t 6))])
 (.cond (.t 3)
 (.seq (.reg [
 p0 2 (.mv (.c (.int .i64 0)))])
 .ret)
 (.seq (.reg [
 p0 8 (.mv (.t 0)),
 p0 9 (.bin .eql (.t 8) (.c (.int .i64 0))),
 p0 7 (.mv (.t 9))])
 (.cond (.t 7)
 (.seq (.reg [
 p0 2 (.mv (.c (.int .i64 1)))])
 .ret)
 (.seq (.reg [
 p0 11 (.mv (.t 0)),
 p0 12 (.bin .shr (.t 11) (.c (.int .u64 24))),
 p0 13 (.bin .eql (.t 12) (.c (.int .i64 127))),
 p0 10 (.mv (.t 13))])
 (.cond (.t 10)
 (.seq (.reg [
 p0 2 (.mv (.c (.int .i64 2)))])
 .ret)
 (.seq (.reg [
 p0 15 (.mv (.t 0)),
 p0 16 (.bin .shr (.t 15) (.c (.int .u64 28))),
 p0 17 (.bin .eql (.t 16) (.c (.int .i64 14))),
 p0 14 (.mv (.t 17))])
 (.cond (.t 14)
 (.seq (.reg [
 p0 2 (.mv (.c (.int .i64 3)))])
 .ret)
 (.seq (.reg [
 p0 19 (.mv (.t 0)),
 p0 20 (.bin .eql (.t 19) (.c (.int .i64 4294967295))),
 p0 18 (.mv (.t 20))])
 (.cond (.t 18)
 (.seq (.reg [
 p0 2 (.mv (.c (.int .i64 4)))])
 .ret)
 (.seq (.reg [
 p0 22 (.mv (.t 0)),
 p0 23 (.bin .shr (.t 22) (.c (.int .u64 28))),
 p0 24 (.bin .eql (.t 23) (.c (.int .i64 15))),
 p0 21 (.mv (.t 24))])
 (.cond (.t 21)
 (.seq (.reg [
 p0 2 (.mv (.c (.int .i64 5)))])
 .ret)
 .skip)))))))))))))
 (.seq (.reg [
 p0 2 (.mv (.c (.int .i64 6)))])
 .ret)))
theorem ok54 : fnComp Tryz.prog 54 = some (25, c54, [(.mv (.t 2))]) := by kernel_rfl

def c29 : CC :=
 (.seq (.reg [
 p0 4 (.mv (.c (.bool false)))])
 (.seq (.reg [
 p0 5 (.mv (.t 1)),
 p0 6 (.bin .geq (.t 5) (.c (.int .i64 0))),
 p0 7 (.mv (.t 6)),
 g0 8 7 true (.mv (.t 1)),
 g0 9 7 true (.bin .leq (.t 8) (.c (.int .i64 1000000000))),
 p0 10 (.pick (.t 7) (.t 9) (.c (.bool false))),
 p0 11 (.mv (.t 10)),
 g0 12 11 true (.mv (.t 0)),
 g0 13 11 true (.mv (.t 1)),
 g0 14 11 true (.bin .add (.t 12) (.t 13)),
 g0 15 11 true (.bin .leq (.t 14) (.c (.int .i64 1000000000))),
 p0 16 (.pick (.t 11) (.t 15) (.c (.bool false))),
 p0 4 (.mv (.t 16))])
 .ret))
theorem ok29 : fnComp Tryz.prog 29 = some (17, c29, [(.mv (.t 4))]) := by kernel_rfl

def c9 : CC :=
 (.seq (.reg [
 x0 2 (.box 31 2 (.t 0)),
 p0 4 (.mv (.c .nilslice)),
 p0 5 (.mv (.c (.int .i64 0)))])
 (.seq (.seq (.reg [
 p0 13 (.ldA 2 (.t 2)),
 x0 14 (.call 24 [(.t 13)]),
 p0 15 (.un .not (.t 14))])
 (.cond (.t 15)
 (.seq (.reg [
 p0 4 (.mv (.c .nilslice)),
 p0 5 (.mv (.c (.int .i64 1)))])
 .ret)
 .skip))
 (.seq (.seq (.reg [
 p0 16 (.mv (.t 1)),
 p0 17 (.len (.t 16)),
 p0 18 (.bin .gtr (.t 17) (.c (.int .i64 2000)))])
 (.cond (.t 18)
 (.seq (.reg [
 p0 4 (.mv (.c .nilslice)),
 p0 5 (.mv (.c (.int .i64 8)))])
 .ret)
 .skip))
 (.seq (.reg [
 p0 19 (.ldA 2 (.t 2)),
 x0 20 (.call 25 [(.t 19)]),
 p0 6 (.mv (.t 20))])
 (.seq (.reg [
 p0 7 (.mv (.c .nilslice))])
 (.seq (.seq (.reg [
 p0 21 (.mv (.t 1)),
 p0 22 (.len (.t 21)),
 p0 23 (.mv (.c (.int .i64 0)))])
 (.block 0 (.loop (.seq (.reg [
 p0 24 (.bin .lss (.t 23) (.t 22))])
 (.seq (.cond (.t 24)
 .skip
 (.exit 0))
 (.seq (.block 1 (.seq (.reg [
 p0 25 (.iadr 6 (.t 21) (.t 23)),
 p0 26 (.ldA 6 (.t 25)),
 x0 9 (.zero 59 6 [(.int .i64 0), (.int .i64 0), (.int .i64 0), (.int .i64 0), (.str []), .nilslice]),
 s0 (.st 6 (.t 9) (.t 26))])
 (.seq (.reg [
 x0 10 (.zero 54 5 [(.int .i64 0), .nilslice, .nilslice, (.int .i64 0), (.int .i64 0)])])
 (.seq (.block 2 (.seq (.reg [
 p0 29 (.fadr 0 (.t 9)),
 p0 30 (.ld (.t 29)),
 p0 31 (.bin .eql (.t 30) (.c (.int .i64 1))),
 p0 32 (.mv (.t 31)),
 g0 33 32 true (.fadr 4 (.t 9)),
 g0 34 32 true (.ld (.t 33)),
 ⟨(some 35), (some (32, true)), .x (.call 26 [(.t 34)])⟩,
 p0 36 (.pick (.t 32) (.t 35) (.c (.bool false))),
 p0 28 (.mv (.t 36))])
 (.cond (.t 28)
 (.reg [
 p0 37 (.mv (.t 6)),
 p0 38 (.fadr 4 (.t 9)),
 p0 39 (.ld (.t 38)),
 x0 40 (.call 27 [(.t 37), (.t 39)]),
 p0 41 (.fadr 0 (.t 10)),
 s0 (.st 1 (.t 41) (.t 40))])
 (.seq (.reg [
 p0 43 (.fadr 0 (.t 9)),
 p0 44 (.ld (.t 43)),
 p0 45 (.bin .eql (.t 44) (.c (.int .i64 2))),
 p0 42 (.mv (.t 45))])
 (.cond (.t 42)
 (.reg [
 p0 46 (.mv (.t 6)),
 p0 47 (.fadr 1 (.t 9)),
 p0 48 (.ld (.t 47)),
 p0 49 (.fadr 2 (.t 9)),
 p0 50 (.ld (.t 49)),
 p0 51 (.fadr 5 (.t 9)),
 p0 52 (.ld (.t 51)),
 x0 53 (.call 28 [(.t 46), (.t 48), (.t 50), (.t 52)])])
 (.seq (.dreg [
 p0 55 (.fadr 0 (.t 9)),
 p0 56 (.ld (.t 55)),
 p0 57 (.bin .eql (.t 56) (.c (.int .i64 3))),
 p0 58 (.mv (.t 57)),
 g0 59 58 true (.mv (.t 6)),
 g0 60 58 true (.nck (.t 59)),
 g0 61 58 true (.fadr 2 (.t 60)),
 g0 62 58 true (.ld (.t 61)),
 g0 63 58 true (.fadr 3 (.t 9)),
 g0 64 58 true (.ld (.t 63)),
 ⟨(some 65), (some (58, true)), .x (.call 29 [(.t 62), (.t 64)])⟩,
 p0 66 (.pick (.t 58) (.t 65) (.c (.bool false))),
 p0 54 (.mv (.t 66))]
 [false, false, false, false, false, false, false, false, false, false, true, false, false] [[],[0],[1,0],[2,1,0],[3,2,1,0],[4,3,2,1,0],[5,4,3,2,1,0],[6,5,4,3,2,1,0],[3,2,1,0],[8,3,2,1,0],[7,6,5,4,3,2,1,0,9,8],[3,2,1,0,10,7,6,5,4,9,8],[11,3,2,1,0,10,7,6,5,4,9,8]] [0,1,2,3,4,5,6,7,8,9,10,11,12])
 (.cond (.t 54)
 (.seq (.dreg [
 p0 67 (.mv (.t 6)),
 p0 68 (.nck (.t 67)),
 p0 69 (.fadr 2 (.t 68)),
 p0 70 (.ld (.t 69)),
 p0 71 (.fadr 3 (.t 9)),
 p0 72 (.ld (.t 71)),
 p0 73 (.bin .add (.t 70) (.t 72)),
 p0 11 (.mv (.t 73))]
 [false, false, false, false, false, false, false, false] [[],[0],[1,0],[2,1,0],[],[4],[3,2,1,0,5,4],[6,3,2,1,0,5,4]] [0,1,2,3,4,5,6,7])
 (.seq (.seq (.reg [
 p0 74 (.mv (.t 6)),
 x0 75 (.call 30 [(.t 74)]),
 p0 12 (.mv (.t 75))])
 (.block 3 (.loop (.seq (.seq (.reg [
 p0 76 (.mv (.t 12)),
 p0 77 (.eqn .ptr true (.t 76) (.c .nilptr)),
 p0 78 (.mv (.t 77)),
 g0 79 78 true (.mv (.t 12)),
 g0 80 78 true (.nck (.t 79)),
 g0 81 78 true (.fadr 5 (.t 80)),
 g0 82 78 true (.ld (.t 81)),
 g0 83 78 true (.mv (.t 11)),
 g0 84 78 true (.bin .leq (.t 82) (.t 83)),
 p0 85 (.pick (.t 78) (.t 84) (.c (.bool false)))])
 (.cond (.t 85)
 .skip
 (.exit 3)))
 (.seq (.block 4 (.seq (.reg [
 p0 88 (.mv (.t 6)),
 p0 89 (.mv (.t 12)),
 p0 90 (.nck (.t 89)),
 p0 91 (.fadr 5 (.t 90)),
 p0 92 (.ld (.t 91)),
 p0 93 (.nck (.t 88)),
 p0 94 (.fadr 2 (.t 93)),
 s0 (.st 1 (.t 94) (.t 92))])
 (.reg [
 p0 95 (.mv (.t 6)),
 p0 96 (.mv (.t 12)),
 x0 97 (.call 31 [(.t 95), (.t 96)])])))
 (.reg [
 p0 86 (.mv (.t 6)),
 x0 87 (.call 30 [(.t 86)]),
 p0 12 (.mv (.t 87))]))))))
 (.reg [
 p0 98 (.mv (.t 6)),
 p0 99 (.mv (.t 11)),
 p0 100 (.nck (.t 98)),
 p0 101 (.fadr 2 (.t 100)),
 s0 (.st 1 (.t 101) (.t 99))])))
 (.reg [
 p0 27 (.fadr 0 (.t 10)),
 s0 (.st 1 (.t 27) (.c (.int .i64 1)))]))))))))
 (.seq (.reg [
 p0 102 (.mv (.t 6)),
 p0 103 (.nck (.t 102)),
 p0 104 (.fadr 3 (.t 103)),
 p0 105 (.ld (.t 104)),
 p0 106 (.bin .add (.t 105) (.c (.int .i64 1))),
 p0 107 (.nck (.t 102)),
 p0 108 (.fadr 3 (.t 107)),
 s0 (.st 1 (.t 108) (.t 106))])
 (.reg [
 p0 109 (.mv (.t 7)),
 p0 110 (.mv (.t 6)),
 p0 111 (.ldA 5 (.t 10)),
 x0 112 (.call 32 [(.t 110), (.t 111)]),
 x0 113 (.bslice 54 5 [(.int .i64 0), .nilslice, .nilslice, (.int .i64 0), (.int .i64 0)] 1 [(0, (.t 112))]),
 x0 114 (.app 54 5 72 (.t 109) (.t 113)),
 p0 7 (.mv (.t 114))]))))))
 (.reg [
 p0 115 (.bin .add (.t 23) (.c (.int .i64 1))),
 p0 23 (.mv (.t 115))])))))))
 (.seq (.reg [
 p0 116 (.mv (.t 7)),
 p0 4 (.mv (.t 116)),
 p0 5 (.mv (.c (.int .i64 0)))])
 .ret)))))))
theorem ok9 : fnComp Tryz.prog 9 = some (117, c9, [(.mv (.t 4)), (.mv (.t 5))]) := by kernel_rfl

def c24 : CC :=
 (.seq (.reg [
 x0 1 (.box 31 2 (.t 0)),
 p0 2 (.mv (.c (.bool false)))])
 (.seq (.seq (.reg [
 p0 3 (.fadr 0 (.t 1)),
 p0 4 (.ld (.t 3)),
 p0 5 (.len (.t 4)),
 p0 6 (.bin .lss (.t 5) (.c (.int .i64 1))),
 p0 7 (.mv (.t 6)),
 g0 8 7 false (.fadr 0 (.t 1)),
 g0 9 7 false (.ld (.t 8)),
 g0 10 7 false (.len (.t 9)),
 g0 11 7 false (.bin .gtr (.t 10) (.c (.int .i64 4))),
 p0 12 (.pick (.t 7) (.c (.bool true)) (.t 11)),
 p0 13 (.mv (.t 12)),
 g0 14 13 false (.fadr 1 (.t 1)),
 g0 15 13 false (.ld (.t 14)),
 g0 16 13 false (.bin .lss (.t 15) (.c (.int .i64 0))),
 p0 17 (.pick (.t 13) (.c (.bool true)) (.t 16)),
 p0 18 (.mv (.t 17)),
 g0 19 18 false (.fadr 1 (.t 1)),
 g0 20 18 false (.ld (.t 19)),
 g0 21 18 false (.bin .gtr (.t 20) (.c (.int .i64 65535))),
 p0 22 (.pick (.t 18) (.c (.bool true)) (.t 21))])
 (.cond (.t 22)
 (.seq (.reg [
 p0 2 (.mv (.c (.bool false)))])
 .ret)
 .skip))
 (.seq (.reg [
 p0 23 (.fadr 0 (.t 1)),
 p0 24 (.ld (.t 23)),
 x0 25 (.call 52 [(.t 24), (.fn 53)]),
 p0 26 (.un .not (.t 25)),
 p0 2 (.mv (.t 26))])
 .ret)))
theorem ok24 : fnComp Tryz.prog 24 = some (27, c24, [(.mv (.t 2))]) := by kernel_rfl

def c53 : CC :=
 (.seq (.reg [
 p0 2 (.mv (.c (.bool false)))])
 (.seq (.reg [
 p0 3 (.mv (.t 0)),
 x0 4 (.call 54 [(.t 3)]),
 p0 5 (.bin .neq (.t 4) (.c (.int .i64 6))),
 p0 2 (.mv (.t 5))])
 .ret))
theorem ok53 : fnComp Tryz.prog 53 = some (6, c53, [(.mv (.t 2))]) := by kernel_rfl

def c25 : CC :=
 (.seq (.reg [
 x0 1 (.box 31 2 (.t 0)),
 p0 2 (.mv (.c .nilptr))])
 (.seq (.reg [
 p0 3 (.fadr 0 (.t 1)),
 p0 4 (.ld (.t 3)),
 x0 5 (.call 55 [(.t 4)]),
 p0 6 (.fadr 0 (.t 1)),
 s0 (.st 1 (.t 6) (.t 5))])
 (.seq (.reg [
 p0 7 (.ldA 2 (.t 1)),
 p0 8 (.build [.nilslice, (.int .i64 0), (.int .i64 0), (.int .i64 0), (.int .i64 0), .nilslice, .nilslice, .nilslice, .nilslice] [(0, 2, (.t 7))]),
 x0 9 (.box 72 9 (.t 8)),
 p0 2 (.mv (.t 9))])
 .ret)))
theorem ok25 : fnComp Tryz.prog 25 = some (10, c25, [(.mv (.t 2))]) := by kernel_rfl

def c27 : CC :=
 (.seq (.reg [
 p0 4 (.mv (.c (.int .i64 0)))])
 (.seq (.reg [
 p0 11 (.mv (.t 0)),
 p0 12 (.nck (.t 11)),
 p0 13 (.fadr 3 (.t 12)),
 p0 14 (.ld (.t 13)),
 p0 5 (.mv (.t 14))])
 (.seq (.seq (.reg [
 p0 15 (.mv (.t 0)),
 p0 16 (.nck (.t 15)),
 p0 17 (.fadr 6 (.t 16)),
 p0 18 (.ld (.t 17)),
 p0 19 (.len (.t 18)),
 p0 20 (.mv (.c (.int .i64 0)))])
 (.block 0 (.loop (.seq (.reg [
 p0 21 (.bin .lss (.t 20) (.t 19))])
 (.seq (.cond (.t 21)
 .skip
 (.exit 0))
 (.seq (.block 1 (.seq (.reg [
 p0 22 (.iadr 4 (.t 18) (.t 20)),
 p0 23 (.ldA 4 (.t 22)),
 x0 7 (.zero 97 4 [(.str []), (.int .i64 0), (.int .i64 0), .nilslice]),
 s0 (.st 4 (.t 7) (.t 23))])
 (.seq (.dreg [
 p0 24 (.fadr 0 (.t 7)),
 p0 25 (.ld (.t 24)),
 p0 26 (.mv (.t 1)),
 p0 27 (.bin .eql (.t 25) (.t 26)),
 p0 28 (.mv (.t 27)),
 g0 29 28 true (.fadr 1 (.t 7)),
 g0 30 28 true (.ld (.t 29)),
 g0 31 28 true (.mv (.t 0)),
 g0 32 28 true (.nck (.t 31)),
 g0 33 28 true (.fadr 2 (.t 32)),
 g0 34 28 true (.ld (.t 33)),
 g0 35 28 true (.bin .gtr (.t 30) (.t 34)),
 p0 36 (.pick (.t 28) (.t 35) (.c (.bool false)))]
 [false, false, false, false, false, false, false, false, false, false, false, false, false] [[],[0],[],[1,0,2],[3,1,0,2],[4,3,1,0,2],[5,4,3,1,0,2],[4,3,1,0,2],[7,4,3,1,0,2],[8,7,4,3,1,0,2],[9,8,7,4,3,1,0,2],[6,5,4,3,1,0,2,10,9,8,7],[4,3,1,0,2,11,6,5,10,9,8,7]] [0,1,2,3,4,5,6,7,8,9,10,11,12])
 (.cond (.t 36)
 (.seq (.dreg [
 p0 37 (.mv (.t 0)),
 p0 38 (.mv (.t 0)),
 p0 39 (.nck (.t 38)),
 p0 40 (.fadr 8 (.t 39)),
 p0 41 (.ld (.t 40)),
 p0 42 (.mv (.t 5)),
 p0 43 (.fadr 2 (.t 7)),
 p0 44 (.ld (.t 43)),
 p0 45 (.fadr 3 (.t 7)),
 p0 46 (.ld (.t 45)),
 x0 47 (.call 55 [(.t 46)]),
 p0 48 (.build [(.int .i64 0), (.int .i64 0), .nilslice] [(0, 1, (.t 42)), (1, 1, (.t 44)), (2, 1, (.t 47))]),
 x0 49 (.bslice 99 3 [(.int .i64 0), (.int .i64 0), .nilslice] 1 [(0, (.t 48))]),
 x0 50 (.app 99 3 40 (.t 41) (.t 49)),
 p0 51 (.nck (.t 37)),
 p0 52 (.fadr 8 (.t 51)),
 s0 (.st 1 (.t 52) (.t 50))]
 [false, false, false, false, false, false, false, false, false, false, true, false, true, true, false, false, true] [[],[],[1],[2,1],[3,2,1],[],[],[6],[],[8],[9,8],[5,7,6,10,9,8],[11,5,7,6,10,9,8],[4,3,2,1,12,11,5,7,6,10,9,8],[0,1,2,3,4,5,6,7,8,9,10,11,12,13],[14,0,1,2,3,4,5,6,7,8,9,10,11,12,13],[15,14,0,1,2,3,4,5,6,7,8,9,10,11,12,13]] [0,1,2,3,4,5,6,7,8,9,10,11,12,13,14,15,16])
 (.seq (.reg [
 p0 4 (.mv (.c (.int .i64 0)))])
 .ret))
 .skip))))
 (.reg [
 p0 53 (.bin .add (.t 20) (.c (.int .i64 1))),
 p0 20 (.mv (.t 53))])))))))
 (.seq (.seq (.reg [
 p0 54 (.mv (.t 0)),
 p0 55 (.nck (.t 54)),
 p0 56 (.fadr 5 (.t 55)),
 p0 57 (.ld (.t 56)),
 p0 58 (.len (.t 57)),
 p0 59 (.mv (.c (.int .i64 0)))])
 (.block 2 (.loop (.seq (.reg [
 p0 60 (.bin .lss (.t 59) (.t 58))])
 (.seq (.cond (.t 60)
 .skip
 (.exit 2))
 (.seq (.block 3 (.seq (.reg [
 p0 61 (.iadr 1 (.t 57) (.t 59)),
 p0 62 (.ld (.t 61)),
 p0 9 (.mv (.t 62))])
 (.seq (.reg [
 p0 63 (.mv (.t 9)),
 p0 64 (.nck (.t 63)),
 p0 65 (.fadr 0 (.t 64)),
 p0 66 (.ld (.t 65)),
 p0 67 (.mv (.t 1)),
 p0 68 (.bin .eql (.t 66) (.t 67))])
 (.cond (.t 68)
 (.seq (.reg [
 p0 69 (.mv (.t 9)),
 p0 70 (.mv (.t 9)),
 p0 71 (.nck (.t 70)),
 p0 72 (.fadr 1 (.t 71)),
 p0 73 (.ld (.t 72)),
 p0 74 (.mv (.t 5)),
 x0 75 (.bslice 2 1 [(.int .i64 0)] 1 [(0, (.t 74))]),
 x0 76 (.app 2 1 8 (.t 73) (.t 75)),
 p0 77 (.nck (.t 69)),
 p0 78 (.fadr 1 (.t 77)),
 s0 (.st 1 (.t 78) (.t 76))])
 (.seq (.reg [
 p0 4 (.mv (.c (.int .i64 0)))])
 .ret))
 .skip))))
 (.reg [
 p0 79 (.bin .add (.t 59) (.c (.int .i64 1))),
 p0 59 (.mv (.t 79))])))))))
 (.seq (.seq (.reg [
 p0 80 (.mv (.t 0)),
 p0 81 (.nck (.t 80)),
 p0 82 (.fadr 5 (.t 81)),
 p0 83 (.ld (.t 82)),
 p0 84 (.len (.t 83)),
 p0 85 (.bin .geq (.t 84) (.c (.int .i64 16)))])
 (.cond (.t 85)
 (.seq (.reg [
 p0 4 (.mv (.c (.int .i64 18)))])
 .ret)
 .skip))
 (.seq (.reg [
 p0 86 (.mv (.t 1)),
 p0 87 (.mv (.t 5)),
 x0 88 (.bslice 2 1 [(.int .i64 0)] 1 [(0, (.t 87))]),
 p0 89 (.build [(.str []), .nilslice, (.int .i64 0), (.int .i64 0), (.int .i64 0), (.int .i64 0)] [(0, 1, (.t 86)), (1, 1, (.t 88))]),
 x0 90 (.box 76 6 (.t 89)),
 p0 10 (.mv (.t 90))])
 (.seq (.reg [
 p0 91 (.mv (.t 0)),
 p0 92 (.mv (.t 0)),
 p0 93 (.nck (.t 92)),
 p0 94 (.fadr 5 (.t 93)),
 p0 95 (.ld (.t 94)),
 p0 96 (.mv (.t 10)),
 x0 97 (.bslice 73 1 [.nilptr] 1 [(0, (.t 96))]),
 x0 98 (.app 73 1 8 (.t 95) (.t 97)),
 p0 99 (.nck (.t 91)),
 p0 100 (.fadr 5 (.t 99)),
 s0 (.st 1 (.t 100) (.t 98))])
 (.seq (.reg [
 p0 101 (.mv (.t 0)),
 p0 102 (.mv (.t 10)),
 x0 103 (.call 31 [(.t 101), (.t 102)])])
 (.seq (.reg [
 p0 4 (.mv (.c (.int .i64 0)))])
 .ret)))))))))
theorem ok27 : fnComp Tryz.prog 27 = some (104, c27, [(.mv (.t 4))]) := by kernel_rfl

def c28 : CC :=
 (.seq (.reg [
 p0 14 (.mv (.t 3)),
 x0 15 (.call 57 [(.t 14)]),
 p0 13 (.mv (.t 15)),
 p0 16 (.ext 0 (.t 13)),
 p0 17 (.ext 1 (.t 13)),
 x0 8 (.zero 101 5 [(.int .i64 0), (.int .i64 0), (.int .i64 0), (.str []), .nilslice]),
 s0 (.st 5 (.t 8) (.t 16)),
 p0 9 (.mv (.t 17))])
 (.seq (.seq (.reg [
 p0 18 (.mv (.t 9)),
 p0 19 (.bin .neq (.t 18) (.c (.int .i64 0))),
 p0 20 (.mv (.t 19)),
 g0 21 20 false (.mv (.t 2)),
 g0 22 20 false (.bin .neq (.t 21) (.c (.int .i64 53))),
 p0 23 (.pick (.t 20) (.c (.bool true)) (.t 22))])
 (.cond (.t 23)
 .ret
 .skip))
 (.seq (.reg [
 p0 24 (.mv (.t 0)),
 p0 25 (.nck (.t 24)),
 p0 26 (.fadr 5 (.t 25)),
 p0 27 (.ld (.t 26)),
 p0 28 (.len (.t 27)),
 p0 29 (.mv (.c (.int .i64 0)))])
 (.block 0 (.loop (.seq (.reg [
 p0 30 (.bin .lss (.t 29) (.t 28))])
 (.seq (.cond (.t 30)
 .skip
 (.exit 0))
 (.seq (.block 1 (.seq (.reg [
 p0 31 (.iadr 1 (.t 27) (.t 29)),
 p0 32 (.ld (.t 31)),
 p0 11 (.mv (.t 32))])
 (.seq (.seq (.dreg [
 p0 33 (.mv (.t 11)),
 p0 34 (.nck (.t 33)),
 p0 35 (.fadr 3 (.t 34)),
 p0 36 (.ld (.t 35)),
 p0 37 (.fadr 0 (.t 8)),
 p0 38 (.ld (.t 37)),
 p0 39 (.bin .neq (.t 36) (.t 38)),
 p0 40 (.mv (.t 39)),
 g0 41 40 false (.mv (.t 11)),
 g0 42 40 false (.nck (.t 41)),
 g0 43 40 false (.fadr 4 (.t 42)),
 g0 44 40 false (.ld (.t 43)),
 g0 45 40 false (.mv (.t 1)),
 g0 46 40 false (.bin .neq (.t 44) (.t 45)),
 p0 47 (.pick (.t 40) (.c (.bool true)) (.t 46)),
 p0 48 (.mv (.t 47)),
 g0 49 48 false (.mv (.t 11)),
 g0 50 48 false (.nck (.t 49)),
 g0 51 48 false (.fadr 0 (.t 50)),
 g0 52 48 false (.ld (.t 51)),
 g0 53 48 false (.fadr 3 (.t 8)),
 g0 54 48 false (.ld (.t 53)),
 g0 55 48 false (.bin .neq (.t 52) (.t 54)),
 p0 56 (.pick (.t 48) (.c (.bool true)) (.t 55))]
 [false, false, false, false, false, false, false, false, false, false, false, false, false, false, false, false, false, false, false, false, false, false, false, false] [[],[0],[1,0],[2,1,0],[],[4],[3,2,1,0,5,4],[6,3,2,1,0,5,4],[7,6,3,2,1,0,5,4],[8,7,6,3,2,1,0,5,4],[9,8,7,6,3,2,1,0,5,4],[10,9,8,7,6,3,2,1,0,5,4],[7,6,3,2,1,0,5,4],[11,10,9,8,7,6,3,2,1,0,5,4,12],[7,6,3,2,1,0,5,4,13,11,10,9,8,12],[14,7,6,3,2,1,0,5,4,13,11,10,9,8,12],[15,14,7,6,3,2,1,0,5,4,13,11,10,9,8,12],[16,15,14,7,6,3,2,1,0,5,4,13,11,10,9,8,12],[17,16,15,14,7,6,3,2,1,0,5,4,13,11,10,9,8,12],[18,17,16,15,14,7,6,3,2,1,0,5,4,13,11,10,9,8,12],[15,14,7,6,3,2,1,0,5,4,13,11,10,9,8,12],[20,15,14,7,6,3,2,1,0,5,4,13,11,10,9,8,12],[19,18,17,16,15,14,7,6,3,2,1,0,5,4,13,11,10,9,8,12,21,20],[15,14,7,6,3,2,1,0,5,4,13,11,10,9,8,12,22,19,18,17,16,21,20]] [0,1,2,3,4,5,6,7,8,9,10,11,12,13,14,15,16,17,18,19,20,21,22,23])
 (.cond (.t 56)
 (.exit 1)
 .skip))
 (.seq (.reg [
 x0 12 (.zero 97 4 [(.str []), (.int .i64 0), (.int .i64 0), .nilslice])])
 (.seq (.block 2 (.seq (.reg [
 p0 61 (.fadr 1 (.t 8)),
 p0 62 (.ld (.t 61)),
 p0 63 (.bin .eql (.t 62) (.c (.int .i64 0))),
 p0 64 (.mv (.t 63)),
 g0 65 64 true (.fadr 4 (.t 8)),
 g0 66 64 true (.ld (.t 65)),
 g0 67 64 true (.len (.t 66)),
 g0 68 64 true (.bin .gtr (.t 67) (.c (.int .i64 0))),
 p0 69 (.pick (.t 64) (.t 68) (.c (.bool false))),
 p0 60 (.mv (.t 69))])
 (.cond (.t 60)
 (.dreg [
 p0 70 (.mv (.t 11)),
 p0 71 (.nck (.t 70)),
 p0 72 (.fadr 0 (.t 71)),
 p0 73 (.ld (.t 72)),
 p0 74 (.mv (.t 0)),
 p0 75 (.nck (.t 74)),
 p0 76 (.fadr 2 (.t 75)),
 p0 77 (.ld (.t 76)),
 p0 78 (.fadr 2 (.t 8)),
 p0 79 (.ld (.t 78)),
 p0 80 (.bin .mul (.t 79) (.c (.int .i64 1000))),
 p0 81 (.bin .add (.t 77) (.t 80)),
 p0 82 (.fadr 4 (.t 8)),
 p0 83 (.ld (.t 82)),
 p0 84 (.build [(.str []), (.int .i64 0), (.int .i64 0), .nilslice] [(0, 1, (.t 73)), (1, 1, (.t 81)), (2, 1, (.c (.int .i64 0))), (3, 1, (.t 83))]),
 s0 (.st 4 (.t 12) (.t 84))]
 [false, false, false, false, false, false, false, false, false, false, false, false, false, false, false, true] [[],[0],[1,0],[2,1,0],[],[4],[5,4],[6,5,4],[],[8],[9,8],[7,6,5,4,10,9,8],[],[12],[3,2,1,0,11,7,6,5,4,10,9,8,13,12],[14,3,2,1,0,11,7,6,5,4,10,9,8,13,12]] [0,1,2,3,4,5,6,7,8,9,10,11,12,13,14,15])
 (.seq (.reg [
 p0 86 (.fadr 1 (.t 8)),
 p0 87 (.ld (.t 86)),
 p0 88 (.bin .eql (.t 87) (.c (.int .i64 20))),
 p0 89 (.mv (.t 88)),
 g0 90 89 true (.fadr 4 (.t 8)),
 g0 91 89 true (.ld (.t 90)),
 g0 92 89 true (.len (.t 91)),
 g0 93 89 true (.bin .eql (.t 92) (.c (.int .i64 0))),
 p0 94 (.pick (.t 89) (.t 93) (.c (.bool false))),
 p0 85 (.mv (.t 94))])
 (.cond (.t 85)
 (.dreg [
 p0 95 (.mv (.t 11)),
 p0 96 (.nck (.t 95)),
 p0 97 (.fadr 0 (.t 96)),
 p0 98 (.ld (.t 97)),
 p0 99 (.mv (.t 0)),
 p0 100 (.nck (.t 99)),
 p0 101 (.fadr 2 (.t 100)),
 p0 102 (.ld (.t 101)),
 p0 103 (.fadr 2 (.t 8)),
 p0 104 (.ld (.t 103)),
 p0 105 (.bin .mul (.t 104) (.c (.int .i64 1000))),
 p0 106 (.bin .add (.t 102) (.t 105)),
 p0 107 (.build [(.str []), (.int .i64 0), (.int .i64 0), .nilslice] [(0, 1, (.t 98)), (1, 1, (.t 106)), (2, 1, (.c (.int .i64 20))), (3, 1, (.c .nilslice))]),
 s0 (.st 4 (.t 12) (.t 107))]
 [false, false, false, false, false, false, false, false, false, false, false, false, false, true] [[],[0],[1,0],[2,1,0],[],[4],[5,4],[6,5,4],[],[8],[9,8],[7,6,5,4,10,9,8],[3,2,1,0,11,7,6,5,4,10,9,8],[12,3,2,1,0,11,7,6,5,4,10,9,8]] [0,1,2,3,4,5,6,7,8,9,10,11,12,13])
 (.seq (.reg [
 p0 57 (.mv (.t 0)),
 p0 58 (.mv (.t 11)),
 x0 59 (.call 31 [(.t 57), (.t 58)])])
 .ret))))))
 (.seq (.reg [
 p0 108 (.mv (.t 0)),
 p0 109 (.mv (.t 11)),
 p0 110 (.fadr 2 (.t 12)),
 p0 111 (.ld (.t 110)),
 p0 112 (.fadr 3 (.t 12)),
 p0 113 (.ld (.t 112)),
 x0 114 (.call 58 [(.t 108), (.t 109), (.t 111), (.t 113)])])
 (.seq (.seq (.reg [
 p0 115 (.fadr 2 (.t 8)),
 p0 116 (.ld (.t 115)),
 p0 117 (.bin .gtr (.t 116) (.c (.int .i64 0)))])
 (.cond (.t 117)
 (.seq (.reg [
 p0 118 (.mv (.t 0)),
 x0 119 (.call 59 [(.t 118)])])
 (.seq (.seq (.reg [
 p0 120 (.mv (.t 0)),
 p0 121 (.nck (.t 120)),
 p0 122 (.fadr 6 (.t 121)),
 p0 123 (.ld (.t 122)),
 p0 124 (.len (.t 123)),
 p0 125 (.bin .geq (.t 124) (.c (.int .i64 32)))])
 (.cond (.t 125)
 (.reg [
 p0 126 (.mv (.t 0)),
 p0 127 (.mv (.t 0)),
 p0 128 (.nck (.t 127)),
 p0 129 (.fadr 6 (.t 128)),
 p0 130 (.ld (.t 129)),
 p0 131 (.slc 4 (.t 130) (some (.c (.int .i64 1))) none none),
 x0 132 (.call 60 [(.t 131)]),
 p0 133 (.nck (.t 126)),
 p0 134 (.fadr 6 (.t 133)),
 s0 (.st 1 (.t 134) (.t 132))])
 .skip))
 (.dreg [
 p0 135 (.mv (.t 0)),
 p0 136 (.mv (.t 0)),
 p0 137 (.nck (.t 136)),
 p0 138 (.fadr 6 (.t 137)),
 p0 139 (.ld (.t 138)),
 p0 140 (.ldA 4 (.t 12)),
 x0 141 (.bslice 97 4 [(.str []), (.int .i64 0), (.int .i64 0), .nilslice] 1 [(0, (.t 140))]),
 x0 142 (.app 97 4 56 (.t 139) (.t 141)),
 p0 143 (.nck (.t 135)),
 p0 144 (.fadr 6 (.t 143)),
 s0 (.st 1 (.t 144) (.t 142))]
 [false, false, false, false, false, false, true, true, false, false, true] [[],[],[1],[2,1],[3,2,1],[],[5],[4,3,2,1,6,5],[0,1,2,3,4,5,6,7],[8,0,1,2,3,4,5,6,7],[9,8,0,1,2,3,4,5,6,7]] [0,1,2,3,4,5,6,7,8,9,10])))
 .skip))
 .ret)))))))
 (.reg [
 p0 145 (.bin .add (.t 29) (.c (.int .i64 1))),
 p0 29 (.mv (.t 145))])))))))))
theorem ok28 : fnComp Tryz.prog 28 = some (146, c28, []) := by kernel_rfl

def c30 : CC :=
 (.seq (.reg [
 p0 2 (.mv (.c .nilptr))])
 (.seq (.reg [
 p0 3 (.mv (.c .nilptr))])
 (.seq (.seq (.reg [
 p0 6 (.mv (.t 0)),
 p0 7 (.nck (.t 6)),
 p0 8 (.fadr 5 (.t 7)),
 p0 9 (.ld (.t 8)),
 p0 10 (.len (.t 9)),
 p0 11 (.mv (.c (.int .i64 0)))])
 (.block 0 (.loop (.seq (.reg [
 p0 12 (.bin .lss (.t 11) (.t 10))])
 (.seq (.cond (.t 12)
 .skip
 (.exit 0))
 (.seq (.block 1 (.seq (.reg [
 p0 13 (.iadr 1 (.t 9) (.t 11)),
 p0 14 (.ld (.t 13)),
 p0 5 (.mv (.t 14))])
 (.seq (.dreg [
 p0 15 (.mv (.t 3)),
 p0 16 (.eqn .ptr false (.t 15) (.c .nilptr)),
 p0 17 (.mv (.t 16)),
 g0 18 17 false (.mv (.t 5)),
 g0 19 17 false (.nck (.t 18)),
 g0 20 17 false (.fadr 5 (.t 19)),
 g0 21 17 false (.ld (.t 20)),
 g0 22 17 false (.mv (.t 3)),
 g0 23 17 false (.nck (.t 22)),
 g0 24 17 false (.fadr 5 (.t 23)),
 g0 25 17 false (.ld (.t 24)),
 g0 26 17 false (.bin .lss (.t 21) (.t 25)),
 p0 27 (.pick (.t 17) (.c (.bool true)) (.t 26))]
 [false, false, false, false, false, false, false, false, false, false, false, false, false] [[],[0],[1,0],[2,1,0],[3,2,1,0],[4,3,2,1,0],[5,4,3,2,1,0],[2,1,0],[7,2,1,0],[8,7,2,1,0],[9,8,7,2,1,0],[6,5,4,3,2,1,0,10,9,8,7],[2,1,0,11,6,5,4,3,10,9,8,7]] [0,1,2,3,4,5,6,7,8,9,10,11,12])
 (.cond (.t 27)
 (.reg [
 p0 28 (.mv (.t 5)),
 p0 3 (.mv (.t 28))])
 .skip))))
 (.reg [
 p0 29 (.bin .add (.t 11) (.c (.int .i64 1))),
 p0 11 (.mv (.t 29))])))))))
 (.seq (.reg [
 p0 30 (.mv (.t 3)),
 p0 2 (.mv (.t 30))])
 .ret))))
theorem ok30 : fnComp Tryz.prog 30 = some (31, c30, [(.mv (.t 2))]) := by kernel_rfl

def c31 : CC :=
 (.seq (.seq (.reg [
 p0 6 (.mv (.t 1)),
 p0 7 (.nck (.t 6)),
 p0 8 (.fadr 2 (.t 7)),
 p0 9 (.ld (.t 8)),
 p0 10 (.bin .geq (.t 9) (.c (.int .i64 4)))])
 (.cond (.t 10)
 (.seq (.reg [
 p0 11 (.mv (.t 0)),
 p0 12 (.mv (.t 1)),
 x0 13 (.call 58 [(.t 11), (.t 12), (.c (.int .i64 15)), (.c .nilslice)])])
 .ret)
 .skip))
 (.seq (.dreg [
 p0 14 (.mv (.t 1)),
 p0 15 (.mv (.t 0)),
 p0 16 (.nck (.t 15)),
 p0 17 (.fadr 0 (.t 16)),
 p0 18 (.fadr 1 (.t 17)),
 p0 19 (.ld (.t 18)),
 p0 20 (.mv (.t 0)),
 p0 21 (.nck (.t 20)),
 p0 22 (.fadr 4 (.t 21)),
 p0 23 (.ld (.t 22)),
 p0 24 (.bin .mul (.c (.int .i64 7919)) (.t 23)),
 p0 25 (.bin .add (.t 19) (.t 24)),
 p0 26 (.bin .rem (.t 25) (.c (.int .i64 65536))),
 p0 27 (.nck (.t 14)),
 p0 28 (.fadr 3 (.t 27)),
 s0 (.st 1 (.t 28) (.t 26))]
 [false, false, false, false, false, false, false, false, false, false, false, false, false, false, false, true] [[],[],[1],[2,1],[3,2,1],[4,3,2,1],[],[6],[7,6],[8,7,6],[9,8,7,6],[5,4,3,2,1,10,9,8,7,6],[11,5,4,3,2,1,10,9,8,7,6],[0,1,2,3,4,5,6,7,8,9,10,11,12],[13,0,1,2,3,4,5,6,7,8,9,10,11,12],[14,13,0,1,2,3,4,5,6,7,8,9,10,11,12]] [0,1,2,3,4,5,6,7,8,9,10,11,12,13,14,15])
 (.seq (.reg [
 p0 29 (.mv (.t 0)),
 p0 30 (.nck (.t 29)),
 p0 31 (.fadr 4 (.t 30)),
 p0 32 (.ld (.t 31)),
 p0 33 (.bin .add (.t 32) (.c (.int .i64 1))),
 p0 34 (.nck (.t 29)),
 p0 35 (.fadr 4 (.t 34)),
 s0 (.st 1 (.t 35) (.t 33))])
 (.seq (.dreg [
 p0 36 (.mv (.t 1)),
 p0 37 (.mv (.t 0)),
 p0 38 (.nck (.t 37)),
 p0 39 (.fadr 0 (.t 38)),
 p0 40 (.fadr 0 (.t 39)),
 p0 41 (.ld (.t 40)),
 p0 42 (.mv (.t 1)),
 p0 43 (.nck (.t 42)),
 p0 44 (.fadr 2 (.t 43)),
 p0 45 (.ld (.t 44)),
 p0 46 (.mv (.t 0)),
 p0 47 (.nck (.t 46)),
 p0 48 (.fadr 0 (.t 47)),
 p0 49 (.fadr 0 (.t 48)),
 p0 50 (.ld (.t 49)),
 p0 51 (.len (.t 50)),
 p0 52 (.bin .rem (.t 45) (.t 51)),
 p0 53 (.iadr 1 (.t 41) (.t 52)),
 p0 54 (.ld (.t 53)),
 p0 55 (.nck (.t 36)),
 p0 56 (.fadr 4 (.t 55)),
 s0 (.st 1 (.t 56) (.t 54))]
 [false, false, false, false, false, false, false, false, false, false, false, false, false, false, false, false, false, false, false, false, false, true] [[],[],[1],[2,1],[3,2,1],[4,3,2,1],[],[6],[7,6],[8,7,6],[],[10],[11,10],[12,11,10],[13,12,11,10],[14,13,12,11,10],[9,8,7,6,15,14,13,12,11,10],[5,4,3,2,1,16,9,8,7,6,15,14,13,12,11,10],[17,5,4,3,2,1,16,9,8,7,6,15,14,13,12,11,10],[0,1,2,3,4,5,6,7,8,9,10,11,12,13,14,15,16,17,18],[19,0,1,2,3,4,5,6,7,8,9,10,11,12,13,14,15,16,17,18],[20,19,0,1,2,3,4,5,6,7,8,9,10,11,12,13,14,15,16,17,18]] [0,1,2,3,4,5,6,7,8,9,10,11,12,13,14,15,16,17,18,19,20,21])
 (.seq (.reg [
 p0 57 (.mv (.t 1)),
 p0 58 (.nck (.t 57)),
 p0 59 (.fadr 2 (.t 58)),
 p0 60 (.ld (.t 59)),
 p0 61 (.bin .add (.t 60) (.c (.int .i64 1))),
 p0 62 (.nck (.t 57)),
 p0 63 (.fadr 2 (.t 62)),
 s0 (.st 1 (.t 63) (.t 61))])
 (.seq (.reg [
 p0 64 (.mv (.t 1)),
 p0 65 (.mv (.t 0)),
 p0 66 (.nck (.t 65)),
 p0 67 (.fadr 2 (.t 66)),
 p0 68 (.ld (.t 67)),
 p0 69 (.bin .add (.t 68) (.c (.int .i64 2000))),
 p0 70 (.nck (.t 64)),
 p0 71 (.fadr 5 (.t 70)),
 s0 (.st 1 (.t 71) (.t 69))])
 (.seq (.dreg [
 p0 73 (.mv (.t 1)),
 p0 74 (.nck (.t 73)),
 p0 75 (.fadr 3 (.t 74)),
 p0 76 (.ld (.t 75)),
 p0 77 (.mv (.t 1)),
 p0 78 (.nck (.t 77)),
 p0 79 (.fadr 0 (.t 78)),
 p0 80 (.ld (.t 79)),
 p0 81 (.build [(.int .i64 0), (.str [])] [(0, 1, (.t 76)), (1, 1, (.t 80))]),
 x0 82 (.call 61 [(.t 81)]),
 p0 72 (.mv (.t 82)),
 p0 83 (.ext 0 (.t 72)),
 p0 84 (.ext 1 (.t 72)),
 p0 4 (.mv (.t 83)),
 p0 5 (.mv (.t 84))]
 [false, false, false, false, false, false, false, false, false, true, false, false, false, false, false] [[],[0],[1,0],[2,1,0],[],[4],[5,4],[6,5,4],[3,2,1,0,7,6,5,4],[8,3,2,1,0,7,6,5,4],[9,8,3,2,1,0,7,6,5,4],[10,9,8,3,2,1,0,7,6,5,4],[10,9,8,3,2,1,0,7,6,5,4],[11,10,9,8,3,2,1,0,7,6,5,4],[12,10,9,8,3,2,1,0,7,6,5,4,13,11]] [0,1,2,3,4,5,6,7,8,9,10,11,12,13,14])
 (.dreg [
 p0 85 (.mv (.t 0)),
 p0 86 (.mv (.t 0)),
 p0 87 (.nck (.t 86)),
 p0 88 (.fadr 7 (.t 87)),
 p0 89 (.ld (.t 88)),
 p0 90 (.mv (.t 1)),
 p0 91 (.nck (.t 90)),
 p0 92 (.fadr 4 (.t 91)),
 p0 93 (.ld (.t 92)),
 p0 94 (.mv (.t 4)),
 p0 95 (.build [(.int .i64 0), .nilslice] [(0, 1, (.t 93)), (1, 1, (.t 94))]),
 x0 96 (.bslice 111 2 [(.int .i64 0), .nilslice] 1 [(0, (.t 95))]),
 x0 97 (.app 111 2 32 (.t 89) (.t 96)),
 p0 98 (.nck (.t 85)),
 p0 99 (.fadr 7 (.t 98)),
 s0 (.st 1 (.t 99) (.t 97))]
 [false, false, false, false, false, false, false, false, false, false, false, true, true, false, false, true] [[],[],[1],[2,1],[3,2,1],[],[5],[6,5],[7,6,5],[],[8,7,6,5,9],[10,8,7,6,5,9],[4,3,2,1,11,10,8,7,6,5,9],[0,1,2,3,4,5,6,7,8,9,10,11,12],[13,0,1,2,3,4,5,6,7,8,9,10,11,12],[14,13,0,1,2,3,4,5,6,7,8,9,10,11,12]] [0,1,2,3,4,5,6,7,8,9,10,11,12,13,14,15]))))))))
theorem ok31 : fnComp Tryz.prog 31 = some (100, c31, []) := by kernel_rfl

def c32 : CC :=
 (.seq (.reg [
 x0 3 (.box 54 5 (.t 1)),
 x0 4 (.zero 54 5 [(.int .i64 0), .nilslice, .nilslice, (.int .i64 0), (.int .i64 0)])])
 (.seq (.reg [
 p0 5 (.mv (.t 0)),
 x0 6 (.call 59 [(.t 5)])])
 (.seq (.dreg [
 p0 7 (.mv (.t 0)),
 p0 8 (.nck (.t 7)),
 p0 9 (.fadr 7 (.t 8)),
 p0 10 (.ld (.t 9)),
 p0 11 (.mv (.t 0)),
 p0 12 (.nck (.t 11)),
 p0 13 (.fadr 8 (.t 12)),
 p0 14 (.ld (.t 13)),
 p0 15 (.fadr 1 (.t 3)),
 s0 (.st 1 (.t 15) (.t 10)),
 p0 16 (.fadr 2 (.t 3)),
 s0 (.st 1 (.t 16) (.t 14))]
 [false, false, false, false, false, false, false, false, false, true, false, true] [[],[0],[1,0],[2,1,0],[],[4],[5,4],[6,5,4],[0,1,2,3],[8,0,1,2,3],[0,1,2,3,4,5,6,7,8,9],[10,0,1,2,3,4,5,6,7,8,9]] [0,1,2,3,4,5,6,7,8,9,10,11])
 (.seq (.reg [
 p0 17 (.mv (.t 0)),
 p0 18 (.mv (.t 0)),
 p0 19 (.nck (.t 17)),
 p0 20 (.fadr 7 (.t 19)),
 s0 (.st 1 (.t 20) (.c .nilslice)),
 p0 21 (.nck (.t 18)),
 p0 22 (.fadr 8 (.t 21)),
 s0 (.st 1 (.t 22) (.c .nilslice))])
 (.seq (.dreg [
 p0 23 (.mv (.t 0)),
 p0 24 (.nck (.t 23)),
 p0 25 (.fadr 6 (.t 24)),
 p0 26 (.ld (.t 25)),
 p0 27 (.len (.t 26)),
 p0 28 (.mv (.t 0)),
 p0 29 (.nck (.t 28)),
 p0 30 (.fadr 5 (.t 29)),
 p0 31 (.ld (.t 30)),
 p0 32 (.len (.t 31)),
 p0 33 (.fadr 3 (.t 3)),
 s0 (.st 1 (.t 33) (.t 27)),
 p0 34 (.fadr 4 (.t 3)),
 s0 (.st 1 (.t 34) (.t 32))]
 [false, false, false, false, false, false, false, false, false, false, false, true, false, true] [[],[0],[1,0],[2,1,0],[3,2,1,0],[],[5],[6,5],[7,6,5],[8,7,6,5],[0,1,2,3,4],[10,0,1,2,3,4],[0,1,2,3,4,5,6,7,8,9,10,11],[12,0,1,2,3,4,5,6,7,8,9,10,11]] [0,1,2,3,4,5,6,7,8,9,10,11,12,13])
 (.seq (.reg [
 p0 35 (.ldA 5 (.t 3)),
 s0 (.st 5 (.t 4) (.t 35))])
 .ret))))))
theorem ok32 : fnComp Tryz.prog 32 = some (36, c32, [(.ldA 5 (.t 4))]) := by kernel_rfl

def c58 : CC :=
 (.seq (.reg [
 x0 5 (.box 73 1 (.t 1))])
 (.seq (.seq (.reg [
 p0 10 (.ld (.t 5)),
 p0 11 (.nck (.t 10)),
 p0 12 (.fadr 1 (.t 11)),
 p0 13 (.ld (.t 12)),
 p0 14 (.len (.t 13)),
 p0 15 (.mv (.c (.int .i64 0)))])
 (.block 0 (.loop (.seq (.reg [
 p0 16 (.bin .lss (.t 15) (.t 14))])
 (.seq (.cond (.t 16)
 .skip
 (.exit 0))
 (.seq (.block 1 (.seq (.reg [
 p0 17 (.iadr 1 (.t 13) (.t 15)),
 p0 18 (.ld (.t 17)),
 p0 9 (.mv (.t 18))])
 (.dreg [
 p0 19 (.mv (.t 0)),
 p0 20 (.mv (.t 0)),
 p0 21 (.nck (.t 20)),
 p0 22 (.fadr 8 (.t 21)),
 p0 23 (.ld (.t 22)),
 p0 24 (.mv (.t 9)),
 p0 25 (.mv (.t 2)),
 p0 26 (.mv (.t 3)),
 x0 27 (.call 55 [(.t 26)]),
 p0 28 (.build [(.int .i64 0), (.int .i64 0), .nilslice] [(0, 1, (.t 24)), (1, 1, (.t 25)), (2, 1, (.t 27))]),
 x0 29 (.bslice 99 3 [(.int .i64 0), (.int .i64 0), .nilslice] 1 [(0, (.t 28))]),
 x0 30 (.app 99 3 40 (.t 23) (.t 29)),
 p0 31 (.nck (.t 19)),
 p0 32 (.fadr 8 (.t 31)),
 s0 (.st 1 (.t 32) (.t 30))]
 [false, false, false, false, false, false, false, false, true, false, true, true, false, false, true] [[],[],[1],[2,1],[3,2,1],[],[],[],[7],[5,6,8,7],[9,5,6,8,7],[4,3,2,1,10,9,5,6,8,7],[0,1,2,3,4,5,6,7,8,9,10,11],[12,0,1,2,3,4,5,6,7,8,9,10,11],[13,12,0,1,2,3,4,5,6,7,8,9,10,11]] [0,1,2,3,4,5,6,7,8,9,10,11,12,13,14])))
 (.reg [
 p0 33 (.bin .add (.t 15) (.c (.int .i64 1))),
 p0 15 (.mv (.t 33))])))))))
 (.reg [
 p0 34 (.mv (.t 0)),
 p0 35 (.mv (.t 0)),
 p0 36 (.nck (.t 35)),
 p0 37 (.fadr 5 (.t 36)),
 p0 38 (.ld (.t 37)),
 x0 39 (.call 82 [(.t 38)]),
 p0 40 (.mkf 83 [] [(.t 5)]),
 x0 41 (.call 81 [(.t 39), (.t 40)]),
 p0 42 (.nck (.t 34)),
 p0 43 (.fadr 5 (.t 42)),
 s0 (.st 1 (.t 43) (.t 41))])))
theorem ok58 : fnComp Tryz.prog 58 = some (44, c58, []) := by kernel_rfl

def c59 : CC :=
 (.seq (.reg [
 x0 1 (.box 63 1 (.t 0))])
 (.dreg [
 p0 2 (.ld (.t 1)),
 p0 3 (.ld (.t 1)),
 p0 4 (.nck (.t 3)),
 p0 5 (.fadr 6 (.t 4)),
 p0 6 (.ld (.t 5)),
 x0 7 (.call 60 [(.t 6)]),
 p0 8 (.mkf 85 [] [(.t 1)]),
 x0 9 (.call 84 [(.t 7), (.t 8)]),
 p0 10 (.nck (.t 2)),
 p0 11 (.fadr 6 (.t 10)),
 s0 (.st 1 (.t 11) (.t 9))]
 [false, false, false, false, false, true, false, true, false, false, true] [[],[],[1],[2,1],[3,2,1],[4,3,2,1],[],[5,4,3,2,1,6],[0,1,2,3,4,5,6,7],[8,0,1,2,3,4,5,6,7],[9,8,0,1,2,3,4,5,6,7]] [0,1,2,3,4,6,5,7,8,9,10]))
theorem ok59 : fnComp Tryz.prog 59 = some (12, c59, []) := by kernel_rfl

def c83 : CC :=
 (.seq (.reg [
 p0 3 (.mv (.c (.bool false)))])
 (.seq (.reg [
 p0 4 (.mv (.t 0)),
 p0 5 (.ld (.t 1)),
 p0 6 (.u (.peq false) [(.t 4), (.t 5)]),
 p0 3 (.mv (.t 6))])
 .ret))
theorem ok83 : fnComp Tryz.prog 83 = some (7, c83, [(.mv (.t 3))]) := by kernel_rfl

def c85 : CC :=
 (.seq (.reg [
 x0 2 (.box 97 4 (.t 0)),
 p0 3 (.mv (.c (.bool false)))])
 (.seq (.dreg [
 p0 4 (.fadr 1 (.t 2)),
 p0 5 (.ld (.t 4)),
 p0 6 (.ld (.t 1)),
 p0 7 (.nck (.t 6)),
 p0 8 (.fadr 2 (.t 7)),
 p0 9 (.ld (.t 8)),
 p0 10 (.bin .leq (.t 5) (.t 9)),
 p0 3 (.mv (.t 10))]
 [false, false, false, false, false, false, false, false] [[],[0],[],[2],[3,2],[4,3,2],[1,0,5,4,3,2],[6,1,0,5,4,3,2]] [0,1,2,3,4,5,6,7])
 .ret))
theorem ok85 : fnComp Tryz.prog 85 = some (11, c85, [(.mv (.t 3))]) := by kernel_rfl

def c55 : CC :=
 (.seq (.reg [
 p0 2 (.mv (.c .nilslice))])
 (.seq (.seq (.reg [
 p0 3 (.mv (.t 0)),
 p0 4 (.eqn .slice false (.t 3) (.c .nilslice))])
 (.cond (.t 4)
 (.seq (.reg [
 p0 2 (.mv (.c .nilslice))])
 .ret)
 .skip))
 (.seq (.reg [
 x0 5 (.bslice 2 1 [(.int .i64 0)] 0 []),
 p0 6 (.mv (.t 0)),
 x0 7 (.app 2 1 8 (.t 5) (.t 6)),
 p0 2 (.mv (.t 7))])
 .ret)))
theorem ok55 : fnComp Tryz.prog 55 = some (8, c55, [(.mv (.t 2))]) := by kernel_rfl

def c60 : CC :=
 (.seq (.reg [
 p0 2 (.mv (.c .nilslice))])
 (.seq (.seq (.reg [
 p0 3 (.mv (.t 0)),
 p0 4 (.eqn .slice false (.t 3) (.c .nilslice))])
 (.cond (.t 4)
 (.seq (.reg [
 p0 2 (.mv (.c .nilslice))])
 .ret)
 .skip))
 (.seq (.reg [
 x0 5 (.bslice 97 4 [(.str []), (.int .i64 0), (.int .i64 0), .nilslice] 0 []),
 p0 6 (.mv (.t 0)),
 x0 7 (.app 97 4 56 (.t 5) (.t 6)),
 p0 2 (.mv (.t 7))])
 .ret)))
theorem ok60 : fnComp Tryz.prog 60 = some (8, c60, [(.mv (.t 2))]) := by kernel_rfl

def c81 : CC :=
 (.seq (.reg [
 p0 4 (.mv (.c .nilslice))])
 (.seq (.reg [
 p0 8 (.mv (.t 0)),
 p0 9 (.mv (.t 1)),
 x0 10 (.call 98 [(.t 8), (.t 9)]),
 p0 5 (.mv (.t 10))])
 (.seq (.seq (.reg [
 p0 11 (.mv (.t 5)),
 p0 12 (.bin .eql (.t 11) (.c (.int .i64 (-1))))])
 (.cond (.t 12)
 (.seq (.reg [
 p0 13 (.mv (.t 0)),
 p0 4 (.mv (.t 13))])
 .ret)
 .skip))
 (.seq (.seq (.reg [
 p0 14 (.mv (.t 5)),
 p0 15 (.bin .add (.t 14) (.c (.int .i64 1))),
 p0 6 (.mv (.t 15))])
 (.block 0 (.loop (.seq (.seq (.reg [
 p0 16 (.mv (.t 6)),
 p0 17 (.mv (.t 0)),
 p0 18 (.len (.t 17)),
 p0 19 (.bin .lss (.t 16) (.t 18))])
 (.cond (.t 19)
 .skip
 (.exit 0)))
 (.seq (.block 1 (.seq (.reg [
 p0 22 (.mv (.t 0)),
 p0 23 (.mv (.t 6)),
 p0 24 (.iadr 1 (.t 22) (.t 23)),
 p0 25 (.ld (.t 24)),
 p0 7 (.mv (.t 25))])
 (.seq (.reg [
 p0 26 (.mv (.t 1)),
 p0 27 (.mv (.t 7)),
 x0 28 (.callv (.t 26) [(.t 27)]),
 p0 29 (.un .not (.t 28))])
 (.cond (.t 29)
 (.seq (.reg [
 p0 30 (.mv (.t 0)),
 p0 31 (.mv (.t 5)),
 p0 32 (.mv (.t 7)),
 p0 33 (.iadr 1 (.t 30) (.t 31)),
 s0 (.st 1 (.t 33) (.t 32))])
 (.reg [
 p0 34 (.mv (.t 5)),
 p0 35 (.bin .add (.t 34) (.c (.int .i64 1))),
 p0 5 (.mv (.t 35))]))
 .skip))))
 (.reg [
 p0 20 (.mv (.t 6)),
 p0 21 (.bin .add (.t 20) (.c (.int .i64 1))),
 p0 6 (.mv (.t 21))]))))))
 (.seq (.reg [
 p0 36 (.mv (.t 0)),
 p0 37 (.mv (.t 5)),
 p0 38 (.slc 1 (.t 36) (some (.t 37)) none none),
 s0 (.ux (.clr 1 [.nilptr]) [(.t 38)])])
 (.seq (.reg [
 p0 39 (.mv (.t 0)),
 p0 40 (.mv (.t 5)),
 p0 41 (.slc 1 (.t 39) none (some (.t 40)) none),
 p0 4 (.mv (.t 41))])
 .ret))))))
theorem ok81 : fnComp Tryz.prog 81 = some (42, c81, [(.mv (.t 4))]) := by kernel_rfl

def c82 : CC :=
 (.seq (.reg [
 p0 2 (.mv (.c .nilslice))])
 (.seq (.seq (.reg [
 p0 3 (.mv (.t 0)),
 p0 4 (.eqn .slice false (.t 3) (.c .nilslice))])
 (.cond (.t 4)
 (.seq (.reg [
 p0 2 (.mv (.c .nilslice))])
 .ret)
 .skip))
 (.seq (.reg [
 x0 5 (.bslice 73 1 [.nilptr] 0 []),
 p0 6 (.mv (.t 0)),
 x0 7 (.app 73 1 8 (.t 5) (.t 6)),
 p0 2 (.mv (.t 7))])
 .ret)))
theorem ok82 : fnComp Tryz.prog 82 = some (8, c82, [(.mv (.t 2))]) := by kernel_rfl

def c84 : CC :=
 (.seq (.reg [
 p0 4 (.mv (.c .nilslice))])
 (.seq (.reg [
 p0 8 (.mv (.t 0)),
 p0 9 (.mv (.t 1)),
 x0 10 (.call 99 [(.t 8), (.t 9)]),
 p0 5 (.mv (.t 10))])
 (.seq (.seq (.reg [
 p0 11 (.mv (.t 5)),
 p0 12 (.bin .eql (.t 11) (.c (.int .i64 (-1))))])
 (.cond (.t 12)
 (.seq (.reg [
 p0 13 (.mv (.t 0)),
 p0 4 (.mv (.t 13))])
 .ret)
 .skip))
 (.seq (.seq (.reg [
 p0 14 (.mv (.t 5)),
 p0 15 (.bin .add (.t 14) (.c (.int .i64 1))),
 p0 6 (.mv (.t 15))])
 (.block 0 (.loop (.seq (.seq (.reg [
 p0 16 (.mv (.t 6)),
 p0 17 (.mv (.t 0)),
 p0 18 (.len (.t 17)),
 p0 19 (.bin .lss (.t 16) (.t 18))])
 (.cond (.t 19)
 .skip
 (.exit 0)))
 (.seq (.block 1 (.seq (.reg [
 p0 22 (.mv (.t 0)),
 p0 23 (.mv (.t 6)),
 p0 24 (.iadr 4 (.t 22) (.t 23)),
 p0 25 (.ldA 4 (.t 24)),
 x0 7 (.zero 97 4 [(.str []), (.int .i64 0), (.int .i64 0), .nilslice]),
 s0 (.st 4 (.t 7) (.t 25))])
 (.seq (.reg [
 p0 26 (.mv (.t 1)),
 p0 27 (.ldA 4 (.t 7)),
 x0 28 (.callv (.t 26) [(.t 27)]),
 p0 29 (.un .not (.t 28))])
 (.cond (.t 29)
 (.seq (.reg [
 p0 30 (.mv (.t 0)),
 p0 31 (.mv (.t 5)),
 p0 32 (.ldA 4 (.t 7)),
 p0 33 (.iadr 4 (.t 30) (.t 31)),
 s0 (.st 4 (.t 33) (.t 32))])
 (.reg [
 p0 34 (.mv (.t 5)),
 p0 35 (.bin .add (.t 34) (.c (.int .i64 1))),
 p0 5 (.mv (.t 35))]))
 .skip))))
 (.reg [
 p0 20 (.mv (.t 6)),
 p0 21 (.bin .add (.t 20) (.c (.int .i64 1))),
 p0 6 (.mv (.t 21))]))))))
 (.seq (.reg [
 p0 36 (.mv (.t 0)),
 p0 37 (.mv (.t 5)),
 p0 38 (.slc 4 (.t 36) (some (.t 37)) none none),
 s0 (.ux (.clr 4 [(.str []), (.int .i64 0), (.int .i64 0), .nilslice]) [(.t 38)])])
 (.seq (.reg [
 p0 39 (.mv (.t 0)),
 p0 40 (.mv (.t 5)),
 p0 41 (.slc 4 (.t 39) none (some (.t 40)) none),
 p0 4 (.mv (.t 41))])
 .ret))))))
theorem ok84 : fnComp Tryz.prog 84 = some (42, c84, [(.mv (.t 4))]) := by kernel_rfl

def c98 : CC :=
 (.seq (.reg [
 p0 4 (.mv (.c (.int .i64 0)))])
 (.seq (.seq (.reg [
 p0 6 (.mv (.t 0)),
 p0 7 (.len (.t 6)),
 p0 8 (.mv (.c (.int .i64 0)))])
 (.block 0 (.loop (.seq (.reg [
 p0 9 (.bin .lss (.t 8) (.t 7))])
 (.seq (.cond (.t 9)
 .skip
 (.exit 0))
 (.seq (.block 1 (.seq (.reg [
 p0 10 (.mv (.t 8)),
 p0 5 (.mv (.t 10))])
 (.seq (.reg [
 p0 11 (.mv (.t 1)),
 p0 12 (.mv (.t 0)),
 p0 13 (.mv (.t 5)),
 p0 14 (.iadr 1 (.t 12) (.t 13)),
 p0 15 (.ld (.t 14)),
 x0 16 (.callv (.t 11) [(.t 15)])])
 (.cond (.t 16)
 (.seq (.reg [
 p0 17 (.mv (.t 5)),
 p0 4 (.mv (.t 17))])
 .ret)
 .skip))))
 (.reg [
 p0 18 (.bin .add (.t 8) (.c (.int .i64 1))),
 p0 8 (.mv (.t 18))])))))))
 (.seq (.reg [
 p0 4 (.mv (.c (.int .i64 (-1))))])
 .ret)))
theorem ok98 : fnComp Tryz.prog 98 = some (19, c98, [(.mv (.t 4))]) := by kernel_rfl

def c99 : CC :=
 (.seq (.reg [
 p0 4 (.mv (.c (.int .i64 0)))])
 (.seq (.seq (.reg [
 p0 6 (.mv (.t 0)),
 p0 7 (.len (.t 6)),
 p0 8 (.mv (.c (.int .i64 0)))])
 (.block 0 (.loop (.seq (.reg [
 p0 9 (.bin .lss (.t 8) (.t 7))])
 (.seq (.cond (.t 9)
 .skip
 (.exit 0))
 (.seq (.block 1 (.seq (.reg [
 p0 10 (.mv (.t 8)),
 p0 5 (.mv (.t 10))])
 (.seq (.reg [
 p0 11 (.mv (.t 1)),
 p0 12 (.mv (.t 0)),
 p0 13 (.mv (.t 5)),
 p0 14 (.iadr 4 (.t 12) (.t 13)),
 p0 15 (.ldA 4 (.t 14)),
 x0 16 (.callv (.t 11) [(.t 15)])])
 (.cond (.t 16)
 (.seq (.reg [
 p0 17 (.mv (.t 5)),
 p0 4 (.mv (.t 17))])
 .ret)
 .skip))))
 (.reg [
 p0 18 (.bin .add (.t 8) (.c (.int .i64 1))),
 p0 8 (.mv (.t 18))])))))))
 (.seq (.reg [
 p0 4 (.mv (.c (.int .i64 (-1))))])
 .ret)))
theorem ok99 : fnComp Tryz.prog 99 = some (19, c99, [(.mv (.t 4))]) := by kernel_rfl

end Go.Proofs.YtaoffieemecioaaGreatDoor

namespace Go.Proofs.YtaoffieemecioaaGreatDoor
open Go Go.IW
def t_ResolveConfig : Ty := .cat (.slice 2 (.int .i64)) (.cat (.int .i64) (.nil))
def t_ResolveDone : Ty := .cat (.int .i64) (.cat (.int .i64) (.cat (.slice 2 (.int .i64)) (.nil)))
def t_ResolveOp : Ty := .cat (.int .i64) (.cat (.int .i64) (.cat (.int .i64) (.cat (.int .i64) (.cat .str (.cat (.slice 5 (.int .u8)) (.nil))))))
def t_ResolveSend : Ty := .cat (.int .i64) (.cat (.slice 5 (.int .u8)) (.nil))
def t_ResolveOut : Ty := .cat (.int .i64) (.cat (.slice 111 t_ResolveSend) (.cat (.slice 99 t_ResolveDone) (.cat (.int .i64) (.cat (.int .i64) (.nil)))))
set_option maxRecDepth 20000 in
theorem eqByteS_f : EqC Tryz.prog 64 (.slice 5 (.int .u8)) := eqSlI_calls (by kernel_rfl) rfl
set_option maxRecDepth 20000 in
theorem eqInt64S_f : EqC Tryz.prog 34 (.slice 2 (.int .i64)) := eqSlI_calls (by kernel_rfl) rfl
set_option maxRecDepth 20000 in
theorem eqResolveConfig_f : EqC Tryz.prog 11 t_ResolveConfig := eqSt_calls (N := 16) (a1 := 31) (a2 := 31) (sz := 2) (fs := [(.slice 2 (.int .i64), some 34), (.int .i64, none)]) (by kernel_rfl) (by decide) rfl ⟨eqInt64S_f, ⟨rfl, trivial⟩⟩
set_option maxRecDepth 20000 in
theorem eqResolveDone_f : EqC Tryz.prog 88 t_ResolveDone := eqSt_calls (N := 21) (a1 := 99) (a2 := 99) (sz := 3) (fs := [(.int .i64, none), (.int .i64, none), (.slice 2 (.int .i64), some 34)]) (by kernel_rfl) (by decide) rfl ⟨rfl, ⟨rfl, ⟨eqInt64S_f, trivial⟩⟩⟩
set_option maxRecDepth 20000 in
theorem eqResolveDoneS_f : EqC Tryz.prog 63 (.slice 99 t_ResolveDone) := eqSl_calls (g := 88) (by kernel_rfl) eqResolveDone_f
set_option maxRecDepth 20000 in
theorem eqResolveOp_f : EqC Tryz.prog 35 t_ResolveOp := eqSt_calls (N := 36) (a1 := 59) (a2 := 59) (sz := 6) (fs := [(.int .i64, none), (.int .i64, none), (.int .i64, none), (.int .i64, none), (.str, none), (.slice 5 (.int .u8), some 64)]) (by kernel_rfl) (by decide) rfl ⟨rfl, ⟨rfl, ⟨rfl, ⟨rfl, ⟨rfl, ⟨eqByteS_f, trivial⟩⟩⟩⟩⟩⟩
set_option maxRecDepth 20000 in
theorem eqResolveOpS_f : EqC Tryz.prog 12 (.slice 59 t_ResolveOp) := eqSl_calls (g := 35) (by kernel_rfl) eqResolveOp_f
set_option maxRecDepth 20000 in
theorem eqResolveSend_f : EqC Tryz.prog 87 t_ResolveSend := eqSt_calls (N := 16) (a1 := 111) (a2 := 111) (sz := 2) (fs := [(.int .i64, none), (.slice 5 (.int .u8), some 64)]) (by kernel_rfl) (by decide) rfl ⟨rfl, ⟨eqByteS_f, trivial⟩⟩
set_option maxRecDepth 20000 in
theorem eqResolveSendS_f : EqC Tryz.prog 62 (.slice 111 t_ResolveSend) := eqSl_calls (g := 87) (by kernel_rfl) eqResolveSend_f
set_option maxRecDepth 20000 in
theorem eqResolveOut_f : EqC Tryz.prog 33 t_ResolveOut := eqSt_calls (N := 32) (a1 := 54) (a2 := 54) (sz := 5) (fs := [(.int .i64, none), (.slice 111 t_ResolveSend, some 62), (.slice 99 t_ResolveDone, some 63), (.int .i64, none), (.int .i64, none)]) (by kernel_rfl) (by decide) rfl ⟨rfl, ⟨eqResolveSendS_f, ⟨eqResolveDoneS_f, ⟨rfl, ⟨rfl, trivial⟩⟩⟩⟩⟩
set_option maxRecDepth 20000 in
theorem eqResolveOutS_f : EqC Tryz.prog 10 (.slice 54 t_ResolveOut) := eqSl_calls (g := 33) (by kernel_rfl) eqResolveOut_f
set_option maxRecDepth 20000 in
theorem heldByteS_f : HdC Tryz.prog 65 (.slice 5 (.int .u8)) := held_calls (N := 22) (q := []) (by kernel_rfl) (by decide) rfl trivial
set_option maxRecDepth 20000 in
theorem heldInt64S_f : HdC Tryz.prog 66 (.slice 2 (.int .i64)) := held_calls (N := 21) (q := []) (by kernel_rfl) (by decide) rfl trivial
set_option maxRecDepth 20000 in
theorem heldResolveDoneS_f : HdC Tryz.prog 42 (.slice 99 t_ResolveDone) := held_calls (N := 40) (q := [66]) (by kernel_rfl) (by decide) rfl ⟨trivial, ⟨trivial, ⟨heldInt64S_f, trivial⟩⟩⟩
set_option maxRecDepth 20000 in
theorem heldResolveSendS_f : HdC Tryz.prog 41 (.slice 111 t_ResolveSend) := held_calls (N := 31) (q := [65]) (by kernel_rfl) (by decide) rfl ⟨trivial, ⟨heldByteS_f, trivial⟩⟩
set_option maxRecDepth 20000 in
theorem heldResolveOutS_f : HdC Tryz.prog 16 (.slice 54 t_ResolveOut) := held_calls (N := 58) (q := [41, 42]) (by kernel_rfl) (by decide) rfl ⟨trivial, ⟨heldResolveSendS_f, ⟨heldResolveDoneS_f, ⟨trivial, ⟨trivial, trivial⟩⟩⟩⟩⟩
set_option maxRecDepth 20000 in
theorem markByteS_f : MkC Tryz.prog 38 (.slice 5 (.int .u8)) := mark_calls (N := 20) (q := []) (by kernel_rfl) (by decide) rfl trivial
set_option maxRecDepth 20000 in
theorem markInt64S_f : MkC Tryz.prog 36 (.slice 2 (.int .i64)) := mark_calls (N := 19) (q := []) (by kernel_rfl) (by decide) rfl trivial
set_option maxRecDepth 20000 in
theorem markResolveConfig_f : MkC Tryz.prog 13 t_ResolveConfig := markSt_calls (N := 10) (ein := 31) (sz := 2) (fs := [(.slice 2 (.int .i64), some 36), (.int .i64, none)]) (by kernel_rfl) (by decide) rfl ⟨markInt64S_f, ⟨rfl, trivial⟩⟩
set_option maxRecDepth 20000 in
theorem markResolveDoneS_f : MkC Tryz.prog 40 (.slice 99 t_ResolveDone) := mark_calls (N := 34) (q := [36]) (by kernel_rfl) (by decide) rfl ⟨trivial, ⟨trivial, ⟨markInt64S_f, trivial⟩⟩⟩
set_option maxRecDepth 20000 in
theorem markText_f : MtC Tryz.prog 37 := mtx_calls (el := 5) (by kernel_rfl)
set_option maxRecDepth 20000 in
theorem markResolveOpS_f : MkC Tryz.prog 14 (.slice 59 t_ResolveOp) := mark_calls (N := 56) (q := [37, 38]) (by kernel_rfl) (by decide) rfl ⟨trivial, ⟨trivial, ⟨trivial, ⟨trivial, ⟨markText_f, ⟨markByteS_f, trivial⟩⟩⟩⟩⟩⟩
set_option maxRecDepth 20000 in
theorem markResolveSendS_f : MkC Tryz.prog 39 (.slice 111 t_ResolveSend) := mark_calls (N := 27) (q := [38]) (by kernel_rfl) (by decide) rfl ⟨trivial, ⟨markByteS_f, trivial⟩⟩
set_option maxRecDepth 20000 in
theorem markResolveOutS_f : MkC Tryz.prog 15 (.slice 54 t_ResolveOut) := mark_calls (N := 48) (q := [39, 40]) (by kernel_rfl) (by decide) rfl ⟨trivial, ⟨markResolveSendS_f, ⟨markResolveDoneS_f, ⟨trivial, ⟨trivial, trivial⟩⟩⟩⟩⟩
set_option maxRecDepth 20000 in
theorem szByteS_f : SzC Tryz.prog 43 (.slice 5 (.int .u8)) := szSlL_calls (by kernel_rfl) (by exact flat_tot (by decide))
set_option maxRecDepth 20000 in
theorem szInt64S_f : SzC Tryz.prog 17 (.slice 2 (.int .i64)) := szSlL_calls (by kernel_rfl) (by exact flat_tot (by decide))
set_option maxRecDepth 20000 in
theorem szResolveConfig_f : SzC Tryz.prog 4 t_ResolveConfig := szSt_calls (N := 12) (ein := 24) (sz := 2) (fs := [(.slice 2 (.int .i64), .sub 17), (.int .i64, .no)]) (by kernel_rfl) (by decide) rfl ⟨szInt64S_f, ⟨(by exact flat_tot (by decide)), trivial⟩⟩
set_option maxRecDepth 20000 in
theorem szResolveOp_f : SzC Tryz.prog 18 t_ResolveOp := szSt_calls (N := 19) (ein := 46) (sz := 6) (fs := [(.int .i64, .no), (.int .i64, .no), (.int .i64, .no), (.int .i64, .no), (.str, .text), (.slice 5 (.int .u8), .sub 43)]) (by kernel_rfl) (by decide) rfl ⟨(by exact flat_tot (by decide)), ⟨(by exact flat_tot (by decide)), ⟨(by exact flat_tot (by decide)), ⟨(by exact flat_tot (by decide)), ⟨rfl, ⟨szByteS_f, trivial⟩⟩⟩⟩⟩⟩
set_option maxRecDepth 20000 in
theorem szResolveOpS_f : SzC Tryz.prog 5 (.slice 59 t_ResolveOp) := szSl_calls (g := 18) (by kernel_rfl) szResolveOp_f
set_option maxRecDepth 20000 in
theorem toByteS_f : ToC Tryz.prog 51 (.slice 5 (.int .u8)) := toSlI_calls (b := 1) (z := [.int .u8 0]) (by kernel_rfl) rfl (by decide) rfl
set_option maxRecDepth 20000 in
theorem toInt64S_f : ToC Tryz.prog 22 (.slice 2 (.int .i64)) := toSlI_calls (b := 8) (z := [.int .i64 0]) (by kernel_rfl) rfl (by decide) rfl
set_option maxRecDepth 20000 in
theorem toResolveConfig_f : ToC Tryz.prog 7 t_ResolveConfig := toSt_calls (N := 12) (ein := 24) (eout := 31) (sz := 2) (zs := [.nilslice, .int .i64 0]) (fs := [(.slice 2 (.int .i64), some 22), (.int .i64, none)]) (by kernel_rfl) (by decide) rfl rfl rfl ⟨toInt64S_f, ⟨rfl, trivial⟩⟩
set_option maxRecDepth 20000 in
theorem toResolveOp_f : ToC Tryz.prog 23 t_ResolveOp := toSt_calls (N := 24) (ein := 46) (eout := 59) (sz := 6) (zs := [.int .i64 0, .int .i64 0, .int .i64 0, .int .i64 0, .str [], .nilslice]) (fs := [(.int .i64, none), (.int .i64, none), (.int .i64, none), (.int .i64, none), (.str, none), (.slice 5 (.int .u8), some 51)]) (by kernel_rfl) (by decide) rfl rfl rfl ⟨rfl, ⟨rfl, ⟨rfl, ⟨rfl, ⟨rfl, ⟨toByteS_f, trivial⟩⟩⟩⟩⟩⟩
set_option maxRecDepth 20000 in
theorem toResolveOpS_f : ToC Tryz.prog 8 (.slice 59 t_ResolveOp) := toSl_calls (g := 23) (b := 72) (z := [.int .i64 0, .int .i64 0, .int .i64 0, .int .i64 0, .str [], .nilslice]) (by kernel_rfl) rfl (by decide) toResolveOp_f
end Go.Proofs.YtaoffieemecioaaGreatDoor

set_option maxRecDepth 20000
namespace Go.Proofs.YtaoffieemecioaaGreatDoor
open Go Go.IW
section
attribute [local go_sem] List.getElem?_cons_zero List.getElem?_cons_succ Option.bind_some List.map_cons List.map_nil Nat.zero_add if_true List.getD_cons_zero List.getD_cons_succ List.contains_cons List.contains_nil Bool.or_true Bool.true_or Bool.or_false Bool.false_or Bool.not_true Bool.not_false true_and and_true rowA_whole mid_get rowO_rows cellO_rows upd_ne Nat.add_assoc Nat.add_zero List.all_cons List.all_nil one_bool one_int one_str one_ptr one_nilptr one_slice one_eslice one_nilslice one_func one_iface one_niliface Bool.and_true Bool.and_self List.length_cons List.length_nil Nat.one_ne_zero Nat.succ_ne_zero if_false List.set_cons_zero List.set_cons_succ lay_nil lay_1 lay_w Option.map_some cells_one rowA_some List.drop_succ_cons List.drop_zero List.take_succ_cons List.take_zero

theorem _root_.Go.IW.Sp.appAll {h : IH} {L : List As} {el sz b : Nat} {v : IV} {rs ys : List (List IV)} {K : HoldK} (hs : Sp h (sl false el sz v rs :: L)) (hb : (rs.length + ys.length) * b ≤ 140737488355328)
    (hk : ∀ v' h', Sp h' (sl false el sz v' (rs ++ ys) :: L) → v'.one = true → K.k v' h') : @appA h el sz b v (some ys) K := by
  cases ys with
  | nil =>
    have a := hs.slA 0 rfl
    exact appA_none a.len (hk _ _ (by rw [List.append_nil]; exact hs) a.one)
  | cons y ys => exact hs.app (by simp) hb fun v' h' S h1 _ => hk v' h' S h1
theorem cloneI_c {h : IH} {L : List As} (S : Sp h L) (v : IV) (rs : List (List IV)) (hs : SlR h 1 v rs) (hm : rs.length ≤ 1048576) :
    ICalls Tryz.prog 55 [v] h fun r h' => r.one = true ∧ Sp h' (sl false 2 1 r rs :: L) := by
  refine icalls (.of ok55) (Nat.le_of_ble_eq_true rfl) ?_
  unfold c55
  have hsrc := hs.src
  have b1 : (true != false) = true := rfl
  have b2 : (false != false) = false := rfl
  have S1 := S.slEmpty (x := false) (el := 2) (sz := 1)
  cases v with
  | nilslice =>
    try simp (disch := (first | omega | assumption | (simp only [lc0, ln0, la0]; first | done | omega) | (simp (disch := assumption) only [go_sem, one_as, Nat.reduceBEq]; done) | fail)) only [b1, go_sem, Hold.p, HoldK.k, HoldL.K, HoldL.body, Nat.reduceBEq, Nat.reduceAdd, reduceIte]
    obtain rfl : rs = [] := by simpa [srcRows] using hsrc.symm
    exact S.slNil
  | eslice z =>
    obtain rfl : rs = [] := by simpa [srcRows] using hsrc.symm
    try simp (disch := (first | omega | assumption | (simp only [lc0, ln0, la0]; first | done | omega) | (simp (disch := assumption) only [go_sem, one_as, Nat.reduceBEq]; done) | fail)) only [hsrc, b2, go_sem, Hold.p, HoldK.k, HoldL.K, HoldL.body, Nat.reduceBEq, Nat.reduceAdd, reduceIte]
    refine S1.appAll (by simp) ?_
    intro v2 g2 S2 z2
    try simp (disch := (first | omega | assumption | (simp only [lc0, ln0, la0]; first | done | omega) | (simp (disch := assumption) only [go_sem, one_as, Nat.reduceBEq]; done) | fail)) only [z2, go_sem, Hold.p, HoldK.k, HoldL.K, HoldL.body, Nat.reduceBEq, Nat.reduceAdd, reduceIte]
    exact S2
  | slice l i n =>
    try simp (disch := (first | omega | assumption | (simp only [lc0, ln0, la0]; first | done | omega) | (simp (disch := assumption) only [go_sem, one_as, Nat.reduceBEq]; done) | fail)) only [hsrc, b2, go_sem, Hold.p, HoldK.k, HoldL.K, HoldL.body, Nat.reduceBEq, Nat.reduceAdd, reduceIte]
    refine S1.appAll (by simp only [ln0]; omega) ?_
    intro v2 g2 S2 z2
    try simp (disch := (first | omega | assumption | (simp only [lc0, ln0, la0]; first | done | omega) | (simp (disch := assumption) only [go_sem, one_as, Nat.reduceBEq]; done) | fail)) only [z2, go_sem, Hold.p, HoldK.k, HoldL.K, HoldL.body, Nat.reduceBEq, Nat.reduceAdd, reduceIte]
    exact S2
  | _ => exact absurd hs.len (by simp [ilen])
theorem cloneP_c {h : IH} {L : List As} (S : Sp h L) (v : IV) (rs : List (List IV)) (hs : SlR h 1 v rs) (hm : rs.length ≤ 1048576) :
    ICalls Tryz.prog 82 [v] h fun r h' => r.one = true ∧ Sp h' (sl false 73 1 r rs :: L) := by
  refine icalls (.of ok82) (Nat.le_of_ble_eq_true rfl) ?_
  unfold c82
  have hsrc := hs.src
  have b1 : (true != false) = true := rfl
  have b2 : (false != false) = false := rfl
  have S1 := S.slEmpty (x := false) (el := 73) (sz := 1)
  cases v with
  | nilslice =>
    try simp (disch := (first | omega | assumption | (simp only [lc0, ln0, la0]; first | done | omega) | (simp (disch := assumption) only [go_sem, one_as, Nat.reduceBEq]; done) | fail)) only [b1, go_sem, Hold.p, HoldK.k, HoldL.K, HoldL.body, Nat.reduceBEq, Nat.reduceAdd, reduceIte]
    obtain rfl : rs = [] := by simpa [srcRows] using hsrc.symm
    exact S.slNil
  | eslice z =>
    obtain rfl : rs = [] := by simpa [srcRows] using hsrc.symm
    try simp (disch := (first | omega | assumption | (simp only [lc0, ln0, la0]; first | done | omega) | (simp (disch := assumption) only [go_sem, one_as, Nat.reduceBEq]; done) | fail)) only [hsrc, b2, go_sem, Hold.p, HoldK.k, HoldL.K, HoldL.body, Nat.reduceBEq, Nat.reduceAdd, reduceIte]
    refine S1.appAll (by simp) ?_
    intro v2 g2 S2 z2
    try simp (disch := (first | omega | assumption | (simp only [lc0, ln0, la0]; first | done | omega) | (simp (disch := assumption) only [go_sem, one_as, Nat.reduceBEq]; done) | fail)) only [z2, go_sem, Hold.p, HoldK.k, HoldL.K, HoldL.body, Nat.reduceBEq, Nat.reduceAdd, reduceIte]
    exact S2
  | slice l i n =>
    try simp (disch := (first | omega | assumption | (simp only [lc0, ln0, la0]; first | done | omega) | (simp (disch := assumption) only [go_sem, one_as, Nat.reduceBEq]; done) | fail)) only [hsrc, b2, go_sem, Hold.p, HoldK.k, HoldL.K, HoldL.body, Nat.reduceBEq, Nat.reduceAdd, reduceIte]
    refine S1.appAll (by simp only [ln0]; omega) ?_
    intro v2 g2 S2 z2
    try simp (disch := (first | omega | assumption | (simp only [lc0, ln0, la0]; first | done | omega) | (simp (disch := assumption) only [go_sem, one_as, Nat.reduceBEq]; done) | fail)) only [z2, go_sem, Hold.p, HoldK.k, HoldL.K, HoldL.body, Nat.reduceBEq, Nat.reduceAdd, reduceIte]
    exact S2
  | _ => exact absurd hs.len (by simp [ilen])
theorem cloneK_c {h : IH} {L : List As} (S : Sp h L) (v : IV) (rs : List (List IV)) (hs : SlR h 4 v rs) (hm : rs.length ≤ 1048576) :
    ICalls Tryz.prog 60 [v] h fun r h' => r.one = true ∧ Sp h' (sl false 97 4 r rs :: L) := by
  refine icalls (.of ok60) (Nat.le_of_ble_eq_true rfl) ?_
  unfold c60
  have hsrc := hs.src
  have b1 : (true != false) = true := rfl
  have b2 : (false != false) = false := rfl
  have S1 := S.slEmpty (x := false) (el := 97) (sz := 4)
  cases v with
  | nilslice =>
    try simp (disch := (first | omega | assumption | (simp only [lc0, ln0, la0]; first | done | omega) | (simp (disch := assumption) only [go_sem, one_as, Nat.reduceBEq]; done) | fail)) only [b1, go_sem, Hold.p, HoldK.k, HoldL.K, HoldL.body, Nat.reduceBEq, Nat.reduceAdd, reduceIte]
    obtain rfl : rs = [] := by simpa [srcRows] using hsrc.symm
    exact S.slNil
  | eslice z =>
    obtain rfl : rs = [] := by simpa [srcRows] using hsrc.symm
    try simp (disch := (first | omega | assumption | (simp only [lc0, ln0, la0]; first | done | omega) | (simp (disch := assumption) only [go_sem, one_as, Nat.reduceBEq]; done) | fail)) only [hsrc, b2, go_sem, Hold.p, HoldK.k, HoldL.K, HoldL.body, Nat.reduceBEq, Nat.reduceAdd, reduceIte]
    refine S1.appAll (by simp) ?_
    intro v2 g2 S2 z2
    try simp (disch := (first | omega | assumption | (simp only [lc0, ln0, la0]; first | done | omega) | (simp (disch := assumption) only [go_sem, one_as, Nat.reduceBEq]; done) | fail)) only [z2, go_sem, Hold.p, HoldK.k, HoldL.K, HoldL.body, Nat.reduceBEq, Nat.reduceAdd, reduceIte]
    exact S2
  | slice l i n =>
    try simp (disch := (first | omega | assumption | (simp only [lc0, ln0, la0]; first | done | omega) | (simp (disch := assumption) only [go_sem, one_as, Nat.reduceBEq]; done) | fail)) only [hsrc, b2, go_sem, Hold.p, HoldK.k, HoldL.K, HoldL.body, Nat.reduceBEq, Nat.reduceAdd, reduceIte]
    refine S1.appAll (by simp only [ln0]; omega) ?_
    intro v2 g2 S2 z2
    try simp (disch := (first | omega | assumption | (simp only [lc0, ln0, la0]; first | done | omega) | (simp (disch := assumption) only [go_sem, one_as, Nat.reduceBEq]; done) | fail)) only [z2, go_sem, Hold.p, HoldK.k, HoldL.K, HoldL.body, Nat.reduceBEq, Nat.reduceAdd, reduceIte]
    exact S2
  | _ => exact absurd hs.len (by simp [ilen])
end
end Go.Proofs.YtaoffieemecioaaGreatDoor

set_option maxRecDepth 20000
namespace Go.Proofs.YtaoffieemecioaaGreatDoor
open Go Go.IW
section
attribute [local go_sem] List.getElem?_cons_zero List.getElem?_cons_succ Option.bind_some List.map_cons List.map_nil Nat.zero_add if_true List.getD_cons_zero List.getD_cons_succ List.contains_cons List.contains_nil Bool.or_true Bool.true_or Bool.or_false Bool.false_or Bool.not_true Bool.not_false true_and and_true rowA_whole mid_get rowO_rows cellO_rows upd_ne Nat.add_assoc Nat.add_zero List.all_cons List.all_nil one_bool one_int one_str one_ptr one_nilptr one_slice one_eslice one_nilslice one_func one_iface one_niliface Bool.and_true Bool.and_self List.length_cons List.length_nil Nat.one_ne_zero Nat.succ_ne_zero if_false List.set_cons_zero List.set_cons_succ lay_nil lay_1 lay_w Option.map_some cells_one rowA_some List.drop_succ_cons List.drop_zero List.take_succ_cons List.take_zero

def fidx (p : List IV → Bool) (rs : List (List IV)) : Int := match rs.findIdx? p with | some i => (i : Int) | none => -1
theorem fidx_at {p : List IV → Bool} {rs : List (List IV)} {k : Nat} {x : List IV} (h0 : ∀ y ∈ rs.take k, p y = false) (hk : rs[k]? = some x) (hx : p x = true) : fidx p rs = (k : Int) := by
  have : rs.findIdx? p = some k := by
    rw [List.findIdx?_eq_some_iff_getElem]
    obtain ⟨h1, rfl⟩ := List.getElem?_eq_some_iff.1 hk
    refine ⟨h1, hx, fun j hj => ?_⟩
    rw [h0 _ (List.mem_take_iff_getElem.2 ⟨j, by omega, rfl⟩)]
    simp
  simp [fidx, this]
theorem fidx_none {p : List IV → Bool} {rs : List (List IV)} (h0 : ∀ y ∈ rs, p y = false) : fidx p rs = -1 := by
  have : rs.findIdx? p = none := by simpa using h0
  simp [fidx, this]
theorem take_step {p : List IV → Bool} {rs : List (List IV)} {k : Nat} {x : List IV} (h0 : ∀ y ∈ rs.take k, p y = false) (hk : rs[k]? = some x) (hx : p x = false) : ∀ y ∈ rs.take (k + 1), p y = false := by
  intro y hy
  rw [List.take_add_one, hk] at hy
  rcases List.mem_append.1 hy with hy | hy
  · exact h0 y hy
  · have : y = x := by simpa using hy
    rw [this]; exact hx
theorem indexP_c {h : IH} {L : List As} (S : Sp h L) (v : IV) (rs : List (List IV)) (hs : ∀ g, Sp g L → SlR g 1 v rs) (hm : rs.length ≤ 1048576) (fn : Nat) (caps : List IV) (p : List IV → Bool)
    (hrow : ∀ r ∈ rs, r.length = 1 ∧ r.all IV.one = true) (hp : ∀ g, Sp g L → ∀ x, [x] ∈ rs → ICalls Tryz.prog fn (x :: caps) g fun r g' => r = .bool (p [x]) ∧ Ext g g') :
    ICalls Tryz.prog 98 [v, .func fn [] caps] h fun r h' => r = .int .i64 (fidx p rs) ∧ Sp h' L := by
  refine icalls (.of ok98) (Nat.le_of_ble_eq_true rfl) ?_
  unfold c98
  have hlen := (hs h S).lenF
  try simp (disch := (first | omega | assumption | (simp only [lc0, ln0, la0]; first | done | omega) | (simp (disch := assumption) only [go_sem, one_as, Nat.reduceBEq]; done) | fail)) only [hlen, go_sem, Hold.p, HoldK.k, HoldL.K, HoldL.body, Nat.reduceBEq, Nat.reduceAdd, reduceIte]
  refine loop_at (fun n e g => ∃ k : Nat, n = rs.length - k ∧ k ≤ rs.length ∧ e 0 = v ∧ e 1 = .func fn [] caps ∧ e 7 = .int .i64 (rs.length : Nat) ∧ e 8 = .int .i64 (k : Nat) ∧ (∀ y ∈ rs.take k, p y = false) ∧ Sp g L) rs.length ?_ ?_
  · refine ⟨0, by omega, by omega, ?_⟩
    try simp (disch := (first | omega | assumption | (simp only [lc0, ln0, la0]; first | done | omega) | (simp (disch := assumption) only [go_sem, one_as, Nat.reduceBEq]; done) | fail)) only [go_sem, Hold.p, HoldK.k, HoldL.K, HoldL.body, Nat.reduceBEq, Nat.reduceAdd, reduceIte]
    exact ⟨rfl, by simp, S⟩
  · clear S
    rintro n e g ⟨k, rfl, hk, e0, e1, e7, e8, hno, S⟩
    try simp (disch := (first | omega | assumption | (simp only [lc0, ln0, la0]; first | done | omega) | (simp (disch := assumption) only [go_sem, one_as, Nat.reduceBEq]; done) | fail)) only [e0, e1, e7, e8, go_sem, Hold.p, HoldK.k, HoldL.K, HoldL.body, Nat.reduceBEq, Nat.reduceAdd, reduceIte]
    refine test_dec (fun hb => ?_) (fun hb => ?_)
    · obtain ⟨x, hx⟩ : ∃ x, rs[k]? = some x := ⟨_, List.getElem?_eq_getElem (by omega : k < rs.length)⟩
      obtain ⟨l, j, hia, hll, har⟩ := (hs g S).at hx .i64
      have hc := cellO_row har
      have hxm := List.mem_of_getElem? hx
      have w1 : wr .i64 ((k : Int) + 1) = ((k + 1 : Nat) : Int) := by rw [wr64 _ (by omega)]; rfl
      obtain ⟨x0, rfl⟩ : ∃ x0, x = [x0] := by
        have := (hrow x hxm).1
        match x, this with
        | [x0], _ => exact ⟨x0, rfl⟩
      try simp (disch := (first | omega | assumption | (simp only [lc0, ln0, la0]; first | done | omega) | (simp (disch := assumption) only [go_sem, one_as, Nat.reduceBEq]; done) | fail)) only [e0, e1, e7, e8, hia, har, hc, na0, ca0, go_sem, Hold.p, HoldK.k, HoldL.K, HoldL.body, Nat.reduceBEq, Nat.reduceAdd, reduceIte]
      refine callA_of (hp g S x0 hxm) ?_
      generalize hpx : p [x0] = px
      rintro r g2 ⟨rfl, E2⟩
      have S := S.ext E2
      cases px
      · skip
        try simp (disch := (first | omega | assumption | (simp only [lc0, ln0, la0]; first | done | omega) | (simp (disch := assumption) only [go_sem, one_as, Nat.reduceBEq]; done) | fail)) only [e0, e1, e7, e8, w1, go_sem, Hold.p, HoldK.k, HoldL.K, HoldL.body, Nat.reduceBEq, Nat.reduceAdd, reduceIte]
        exact ⟨rs.length - (k + 1), by omega, k + 1, rfl, by omega, rfl, take_step hno hx hpx, S⟩
      · skip
        try simp (disch := (first | omega | assumption | (simp only [lc0, ln0, la0]; first | done | omega) | (simp (disch := assumption) only [go_sem, one_as, Nat.reduceBEq]; done) | fail)) only [e0, e1, e7, e8, go_sem, Hold.p, HoldK.k, HoldL.K, HoldL.body, Nat.reduceBEq, Nat.reduceAdd, reduceIte]
        exact ⟨(by rw [fidx_at hno hx hpx]), S⟩
    · skip
      try simp (disch := (first | omega | assumption | (simp only [lc0, ln0, la0]; first | done | omega) | (simp (disch := assumption) only [go_sem, one_as, Nat.reduceBEq]; done) | fail)) only [e0, e1, e7, e8, go_sem, Hold.p, HoldK.k, HoldL.K, HoldL.body, Nat.reduceBEq, Nat.reduceAdd, reduceIte]
      rw [List.take_of_length_le (by omega)] at hno
      exact ⟨(by rw [fidx_none hno]), S⟩
theorem indexK_c {h : IH} {L : List As} (S : Sp h L) (v : IV) (rs : List (List IV)) (hs : ∀ g, Sp g L → SlR g 4 v rs) (hm : rs.length ≤ 1048576) (fn : Nat) (caps : List IV) (p : List IV → Bool)
    (hrow : ∀ r ∈ rs, r.length = 4 ∧ r.all IV.one = true) (hp : ∀ g, Sp g L → ∀ x, x ∈ rs → ICalls Tryz.prog fn (.agg x :: caps) g fun r g' => r = .bool (p x) ∧ Ext g g') :
    ICalls Tryz.prog 99 [v, .func fn [] caps] h fun r h' => r = .int .i64 (fidx p rs) ∧ Sp h' L := by
  refine icalls (.of ok99) (Nat.le_of_ble_eq_true rfl) ?_
  unfold c99
  have hlen := (hs h S).lenF
  try simp (disch := (first | omega | assumption | (simp only [lc0, ln0, la0]; first | done | omega) | (simp (disch := assumption) only [go_sem, one_as, Nat.reduceBEq]; done) | fail)) only [hlen, go_sem, Hold.p, HoldK.k, HoldL.K, HoldL.body, Nat.reduceBEq, Nat.reduceAdd, reduceIte]
  refine loop_at (fun n e g => ∃ k : Nat, n = rs.length - k ∧ k ≤ rs.length ∧ e 0 = v ∧ e 1 = .func fn [] caps ∧ e 7 = .int .i64 (rs.length : Nat) ∧ e 8 = .int .i64 (k : Nat) ∧ (∀ y ∈ rs.take k, p y = false) ∧ Sp g L) rs.length ?_ ?_
  · refine ⟨0, by omega, by omega, ?_⟩
    try simp (disch := (first | omega | assumption | (simp only [lc0, ln0, la0]; first | done | omega) | (simp (disch := assumption) only [go_sem, one_as, Nat.reduceBEq]; done) | fail)) only [go_sem, Hold.p, HoldK.k, HoldL.K, HoldL.body, Nat.reduceBEq, Nat.reduceAdd, reduceIte]
    exact ⟨rfl, by simp, S⟩
  · clear S
    rintro n e g ⟨k, rfl, hk, e0, e1, e7, e8, hno, S⟩
    try simp (disch := (first | omega | assumption | (simp only [lc0, ln0, la0]; first | done | omega) | (simp (disch := assumption) only [go_sem, one_as, Nat.reduceBEq]; done) | fail)) only [e0, e1, e7, e8, go_sem, Hold.p, HoldK.k, HoldL.K, HoldL.body, Nat.reduceBEq, Nat.reduceAdd, reduceIte]
    refine test_dec (fun hb => ?_) (fun hb => ?_)
    · obtain ⟨x, hx⟩ : ∃ x, rs[k]? = some x := ⟨_, List.getElem?_eq_getElem (by omega : k < rs.length)⟩
      obtain ⟨l, j, hia, hll, har⟩ := (hs g S).at hx .i64
      have hc := cellO_row har
      have hxm := List.mem_of_getElem? hx
      have w1 : wr .i64 ((k : Int) + 1) = ((k + 1 : Nat) : Int) := by rw [wr64 _ (by omega)]; rfl
      obtain ⟨hxl, hxo⟩ := hrow x hxm
      have htk : x.take 4 = x := List.take_of_length_le (by omega)
      try simp (disch := (first | omega | assumption | (simp only [lc0, ln0, la0]; first | done | omega) | (simp (disch := assumption) only [go_sem, one_as, Nat.reduceBEq]; done) | fail)) only [e0, e1, e7, e8, hia, har, hc, htk, na0, ca0, go_sem, Hold.p, HoldK.k, HoldL.K, HoldL.body, Nat.reduceBEq, Nat.reduceAdd, reduceIte]
      refine callA_of (hp g S x hxm) ?_
      generalize hpx : p x = px
      rintro r g2 ⟨rfl, E2⟩
      have S := S.ext E2
      cases px
      · skip
        try simp (disch := (first | omega | assumption | (simp only [lc0, ln0, la0]; first | done | omega) | (simp (disch := assumption) only [go_sem, one_as, Nat.reduceBEq]; done) | fail)) only [e0, e1, e7, e8, w1, go_sem, Hold.p, HoldK.k, HoldL.K, HoldL.body, Nat.reduceBEq, Nat.reduceAdd, reduceIte]
        exact ⟨rs.length - (k + 1), by omega, k + 1, rfl, by omega, rfl, take_step hno hx hpx, S⟩
      · skip
        try simp (disch := (first | omega | assumption | (simp only [lc0, ln0, la0]; first | done | omega) | (simp (disch := assumption) only [go_sem, one_as, Nat.reduceBEq]; done) | fail)) only [e0, e1, e7, e8, go_sem, Hold.p, HoldK.k, HoldL.K, HoldL.body, Nat.reduceBEq, Nat.reduceAdd, reduceIte]
        exact ⟨(by rw [fidx_at hno hx hpx]), S⟩
    · skip
      try simp (disch := (first | omega | assumption | (simp only [lc0, ln0, la0]; first | done | omega) | (simp (disch := assumption) only [go_sem, one_as, Nat.reduceBEq]; done) | fail)) only [e0, e1, e7, e8, go_sem, Hold.p, HoldK.k, HoldL.K, HoldL.body, Nat.reduceBEq, Nat.reduceAdd, reduceIte]
      rw [List.take_of_length_le (by omega)] at hno
      exact ⟨(by rw [fidx_none hno]), S⟩
end
end Go.Proofs.YtaoffieemecioaaGreatDoor

set_option maxRecDepth 20000
namespace Go.Proofs.YtaoffieemecioaaGreatDoor
open Go Go.IW
section
attribute [local go_sem] List.getElem?_cons_zero List.getElem?_cons_succ Option.bind_some List.map_cons List.map_nil Nat.zero_add if_true List.getD_cons_zero List.getD_cons_succ List.contains_cons List.contains_nil Bool.or_true Bool.true_or Bool.or_false Bool.false_or Bool.not_true Bool.not_false true_and and_true rowA_whole mid_get rowO_rows cellO_rows upd_ne Nat.add_assoc Nat.add_zero List.all_cons List.all_nil one_bool one_int one_str one_ptr one_nilptr one_slice one_eslice one_nilslice one_func one_iface one_niliface Bool.and_true Bool.and_self List.length_cons List.length_nil Nat.one_ne_zero Nat.succ_ne_zero if_false List.set_cons_zero List.set_cons_succ lay_nil lay_1 lay_w Option.map_some cells_one rowA_some List.drop_succ_cons List.drop_zero List.take_succ_cons List.take_zero

theorem fidx_some {p : List IV → Bool} {rs : List (List IV)} (h : fidx p rs ≠ -1) : ∃ k : Nat, fidx p rs = (k : Int) ∧ k < rs.length ∧ (∀ y ∈ rs.take k, p y = false) ∧ ∃ x, rs[k]? = some x ∧ p x = true := by
  unfold fidx at h ⊢
  cases hf : rs.findIdx? p with
  | none => rw [hf] at h; exact absurd rfl h
  | some k =>
    obtain ⟨h1, h2, h3⟩ := List.findIdx?_eq_some_iff_getElem.1 hf
    refine ⟨k, rfl, h1, fun y hy => ?_, rs[k], List.getElem?_eq_getElem h1, h2⟩
    obtain ⟨j, hj, rfl⟩ := List.mem_take_iff_getElem.1 hy
    simpa using h3 j (by omega)
theorem fidx_neg {p : List IV → Bool} {rs : List (List IV)} (h : fidx p rs = -1) : ∀ y ∈ rs, p y = false := by
  unfold fidx at h
  cases hf : rs.findIdx? p with
  | none => simpa using hf
  | some k => rw [hf] at h; simp only at h; omega
theorem kept_all {p : List IV → Bool} {rs : List (List IV)} (h : ∀ y ∈ rs, p y = false) : rs.filter (fun y => !p y) = rs := List.filter_eq_self.2 fun y hy => by rw [h y hy]; rfl
structure Kept (p : List IV → Bool) (rs cur : List (List IV)) (i j : Nat) : Prop where
  n : cur.length = rs.length
  lt : i < j
  le : j ≤ rs.length
  t : cur.take i = (rs.take j).filter (fun y => !p y)
  d : cur.drop j = rs.drop j
  m : ∀ y ∈ cur, y ∈ rs
theorem Kept.begin {p : List IV → Bool} {rs : List (List IV)} {k : Nat} {x : List IV} (h0 : ∀ y ∈ rs.take k, p y = false) (hk : rs[k]? = some x) (hx : p x = true) : Kept p rs rs k (k + 1) := by
  refine ⟨rfl, by omega, (List.getElem?_eq_some_iff.1 hk).1, ?_, rfl, fun y hy => hy⟩
  rw [List.take_add_one, hk, List.filter_append, kept_all h0]
  simp [hx]
theorem Kept.get {p : List IV → Bool} {rs cur : List (List IV)} {i j : Nat} (h : Kept p rs cur i j) : cur[j]? = rs[j]? := by
  have := congrArg (fun l => l[0]?) h.d
  simpa using this
theorem Kept.skip {p : List IV → Bool} {rs cur : List (List IV)} {i j : Nat} {x : List IV} (h : Kept p rs cur i j) (hj : rs[j]? = some x) (hx : p x = true) : Kept p rs cur i (j + 1) := by
  refine ⟨h.n, by have := h.lt; omega, (List.getElem?_eq_some_iff.1 hj).1, ?_, ?_, h.m⟩
  · rw [List.take_add_one, hj, List.filter_append, ← h.t]
    simp [hx]
  · rw [← List.drop_drop, ← List.drop_drop, h.d]
theorem Kept.keep {p : List IV → Bool} {rs cur : List (List IV)} {i j : Nat} {x : List IV} (h : Kept p rs cur i j) (hj : rs[j]? = some x) (hx : p x = false) : Kept p rs (cur.set i x) (i + 1) (j + 1) := by
  have hl := h.lt
  have hn := h.n
  have hjl := (List.getElem?_eq_some_iff.1 hj).1
  refine ⟨by simp [hn], by omega, hjl, ?_, ?_, fun y hy => ?_⟩
  rotate_left 2
  · rcases List.mem_or_eq_of_mem_set hy with h1 | h1
    · exact h.m y h1
    · rw [h1]; exact List.mem_of_getElem? hj
  · have e1 : rs.take (j + 1) = rs.take j ++ [x] := by rw [List.take_add_one, hj]; rfl
    have e2 : (cur.set i x).take (i + 1) = cur.take i ++ [x] := by rw [List.take_add_one, List.getElem?_set_self (by omega), List.take_set_of_le (Nat.le_refl _)]; rfl
    rw [e1, e2, List.filter_append, h.t]
    simp [hx]
  · rw [List.drop_set_of_lt (by omega), ← List.drop_drop, ← List.drop_drop, h.d]
theorem Sp_slT {h : IH} {L : List As} {x : Bool} {el sz : Nat} {v : IV} {rs : List (List IV)} (S : Sp h (sl x el sz v rs :: L)) : Sp h (sl true el sz v rs :: L) := by
  obtain ⟨fs, ⟨f, g, rfl, hs, hl⟩, hd⟩ := S
  refine ⟨_, ⟨f, g, rfl, ?_, hl⟩, hd⟩
  rcases hs with h1 | ⟨l, h0, h2⟩
  · exact .inl h1
  · exact .inr ⟨l, .inl rfl, h2⟩
theorem slc_lo {h : IH} {sz l i n : Nat} {k : IntKind} (hi : i < n) (hs : h.size l = some sz) : slcF h sz (.slice l 0 n) (some (.int k (i : Int))) none = some (.slice l i (n - i)) := by
  rw [slcF_of (n := n) (b := n) (a := i) h rfl rfl (boundF_of (by omega) (by omega)), islc_some h hi (Nat.le_refl _) hs]
  simp
theorem slc_hi {h : IH} {sz l i n : Nat} {k : IntKind} (hi : i ≤ n) (hs : h.size l = some sz) : slcF h sz (.slice l 0 n) none (some (.int k (i : Int))) = some (.slice l 0 i) := by
  rw [slcF_of (n := n) (b := i) (a := 0) h rfl (boundF_of (by omega) (by omega)) rfl]
  by_cases h0 : i = 0
  · subst h0; exact islc_zero h hs
  · rw [islc_some h (by omega) hi hs]; simp
set_option maxHeartbeats 1000000 in
theorem deleteP_c {h : IH} {L : List As} {b : Bool} (v : IV) (rs : List (List IV)) (S : Sp h (sl b 73 1 v rs :: L)) (hm : rs.length ≤ 1048576) (fn : Nat) (caps : List IV) (p : List IV → Bool)
    (hrow : ∀ r ∈ rs, r.length = 1 ∧ r.all IV.one = true) (hp : ∀ g, Sp g L → ∀ x, [x] ∈ rs → ICalls Tryz.prog fn (x :: caps) g fun r g' => r = .bool (p [x]) ∧ Ext g g') :
    ICalls Tryz.prog 81 [v, .func fn [] caps] h fun r h' => r.one = true ∧ Sp h' (sl true 73 1 r (rs.filter fun y => !p y) :: L) := by
  refine ICalls.shr (Q := fun r g => (r.one = true ∧ Sp g (sl true 73 1 r (rs.filter fun y => !p y) :: L)) ∨ ∃ lo rows i, r = .slice lo 0 i ∧ Sp g (box lo (.rows rows 73 1 false) :: L) ∧ rows.take i = (rs.filter fun y => !p y) ∧ i ≤ rows.length) ?_ ?_
  rotate_left
  · rintro r g (h1 | ⟨lo, rows, i, rfl, S, e1, e2⟩)
    · exact ⟨g, .inl rfl, h1⟩
    · have a := S.bx 0 rfl
      refine ⟨_, .inr ⟨lo, rows, 73, 1, i, a.eq, rfl⟩, rfl, ?_⟩
      have S := S.set0 (o' := .rows (rows.take i) 73 1 false) rfl
      rw [e1] at S ⊢
      exact S.boxSl (n := i) (x := true) (by rw [← e1, List.length_take]; omega) (.inl rfl)
  refine icalls (.of ok81) (Nat.le_of_ble_eq_true rfl) ?_
  unfold c81
  have hv1 := (S.slA 0 rfl).one
  have hlen := (S.slA 0 rfl).lenF
  try simp (disch := (first | omega | assumption | (simp only [lc0, ln0, la0]; first | done | omega) | (simp (disch := assumption) only [go_sem, one_as, Nat.reduceBEq]; done) | fail)) only [hv1, go_sem, Hold.p, HoldK.k, HoldL.K, HoldL.body, Nat.reduceBEq, Nat.reduceAdd, reduceIte]
  refine callA_of (indexP_c S v rs (fun g S => S.slA 0 rfl) hm fn caps p hrow (fun g S => hp g S.drop)) ?_
  clear S
  rintro r2 g2 ⟨rfl, S⟩
  by_cases hf : fidx p rs = -1
  · have d1 : decide (fidx p rs = -1) = true := decide_eq_true hf
    try simp (disch := (first | omega | assumption | (simp only [lc0, ln0, la0]; first | done | omega) | (simp (disch := assumption) only [go_sem, one_as, Nat.reduceBEq]; done) | fail)) only [d1, go_sem, Hold.p, HoldK.k, HoldL.K, HoldL.body, Nat.reduceBEq, Nat.reduceAdd, reduceIte]
    refine .inl ⟨hv1, ?_⟩
    rw [kept_all (fidx_neg hf)]
    exact Sp_slT S
  · have d1 : decide (fidx p rs = -1) = false := decide_eq_false hf
    obtain ⟨k, hk, hkl, hno, x, hx, hpx⟩ := fidx_some hf
    rw [hk] at d1 ⊢
    have S0 := S
    clear S
    obtain ⟨lo, hvl, S⟩ := S0.slBox (by rintro rfl; simp at hkl)
    clear S0
    have w0 : wr .i64 ((k : Int) + 1) = ((k + 1 : Nat) : Int) := by rw [wr64 _ (by omega)]; rfl
    have q0 := (S.bx 0 rfl).eq
    try simp (disch := (first | omega | assumption | (simp only [lc0, ln0, la0]; first | done | omega) | (simp (disch := assumption) only [go_sem, one_as, Nat.reduceBEq]; done) | fail)) only [q0, d1, w0, hvl, go_sem, Hold.p, HoldK.k, HoldL.K, HoldL.body, Nat.reduceBEq, Nat.reduceAdd, reduceIte]
    refine loop_at (fun m e g => ∃ (i j : Nat) (cur : List (List IV)), m = rs.length - j ∧ Kept p rs cur i j ∧ e 0 = .slice lo 0 rs.length ∧ e 1 = .func fn [] caps ∧ e 5 = .int .i64 (i : Nat) ∧ e 6 = .int .i64 (j : Nat) ∧ Sp g (box lo (.rows cur 73 1 false) :: L)) (rs.length - (k + 1)) ?_ ?_
    · refine ⟨k, k + 1, rs, by omega, Kept.begin hno hx hpx, ?_⟩
      have q0 := (S.bx 0 rfl).eq
      try simp (disch := (first | omega | assumption | (simp only [lc0, ln0, la0]; first | done | omega) | (simp (disch := assumption) only [go_sem, one_as, Nat.reduceBEq]; done) | fail)) only [q0, w0, go_sem, Hold.p, HoldK.k, HoldL.K, HoldL.body, Nat.reduceBEq, Nat.reduceAdd, reduceIte]
      exact S
    · clear S
      rintro m e g ⟨i, j, cur, rfl, hK, e0, e1, e5, e6, S⟩
      have hKn := hK.n
      have hKl := hK.lt
      have hKe := hK.le
      have q0 := (S.bx 0 rfl).eq
      try simp (disch := (first | omega | assumption | (simp only [lc0, ln0, la0]; first | done | omega) | (simp (disch := assumption) only [go_sem, one_as, Nat.reduceBEq]; done) | fail)) only [q0, e0, e1, e5, e6, go_sem, Hold.p, HoldK.k, HoldL.K, HoldL.body, Nat.reduceBEq, Nat.reduceAdd, reduceIte]
      refine test_dec (fun hb => ?_) (fun hb => ?_)
      · obtain ⟨y, hy⟩ : ∃ y, rs[j]? = some y := ⟨_, List.getElem?_eq_getElem (by omega : j < rs.length)⟩
        have hyc : cur[j]? = some y := by rw [hK.get]; exact hy
        have hym := List.mem_of_getElem? hy
        obtain ⟨hyl, hyo⟩ := hrow y hym
        have io : iadrO (IObj.rows cur 73 1 false) 1 lo 0 rs.length (j : Int) = some (.ptr lo j 0) := by rw [iadrO_nat (by omega)]; simp
        have ii : iadrO (IObj.rows cur 73 1 false) 1 lo 0 rs.length (i : Int) = some (.ptr lo i 0) := by rw [iadrO_nat (by omega)]; simp
        obtain ⟨o, ho⟩ : ∃ o, cur[i]? = some o := ⟨_, List.getElem?_eq_getElem (by omega : i < cur.length)⟩
        have hol : o.length = 1 := (hrow o (hK.m o (List.mem_of_getElem? ho))).1
        have wj : wr .i64 ((j : Int) + 1) = ((j + 1 : Nat) : Int) := by rw [wr64 _ (by omega)]; rfl
        have wi : wr .i64 ((i : Int) + 1) = ((i + 1 : Nat) : Int) := by rw [wr64 _ (by omega)]; rfl
        obtain ⟨y0, rfl⟩ : ∃ y0, y = [y0] := by
          match y, hyl with
          | [y0], _ => exact ⟨y0, rfl⟩
        have q0 := (S.bx 0 rfl).eq
        try simp (disch := (first | omega | assumption | (simp only [lc0, ln0, la0]; first | done | omega) | (simp (disch := assumption) only [go_sem, one_as, Nat.reduceBEq]; done) | fail)) only [q0, e0, e1, e5, e6, iadrF_sl, io, hyc, na0, ca0, go_sem, Hold.p, HoldK.k, HoldL.K, HoldL.body, Nat.reduceBEq, Nat.reduceAdd, reduceIte]
        refine callA_of (hp g S.drop y0 hym) ?_
        generalize hpy : p [y0] = py
        rintro r4 g4 ⟨rfl, E4⟩
        have S := S.ext E4
        cases py
        · have hy0 : y0.one = true := by simpa using hyo
          have hy0c : y0.cells = [y0] := cells_one hy0
          have q0 := (S.bx 0 rfl).eq
          try simp (disch := (first | omega | assumption | (simp only [lc0, ln0, la0]; first | done | omega) | (simp (disch := assumption) only [go_sem, one_as, Nat.reduceBEq]; done) | fail)) only [q0, e0, e1, e5, e6, iadrF_sl, ii, hy0c, go_sem, Hold.p, HoldK.k, HoldL.K, HoldL.body, Nat.reduceBEq, Nat.reduceAdd, reduceIte]
          refine str_of ho rfl hol (by simpa using hy0) fun g5 hg => ?_
          have l_g5 := n_set hg
          have S := S.set0 hg
          clear hg
          try simp (disch := (first | omega | assumption | (simp only [lc0, ln0, la0]; first | done | omega) | (simp (disch := assumption) only [go_sem, one_as, Nat.reduceBEq]; done) | fail)) only [e0, e1, e5, e6, wi, wj, go_sem, Hold.p, HoldK.k, HoldL.K, HoldL.body, Nat.reduceBEq, Nat.reduceAdd, reduceIte]
          exact ⟨rs.length - (j + 1), by omega, i + 1, j + 1, cur.set i [y0], rfl, hK.keep hy hpy, rfl, rfl, S⟩
        · skip
          have q0 := (S.bx 0 rfl).eq
          try simp (disch := (first | omega | assumption | (simp only [lc0, ln0, la0]; first | done | omega) | (simp (disch := assumption) only [go_sem, one_as, Nat.reduceBEq]; done) | fail)) only [q0, e0, e1, e5, e6, wj, go_sem, Hold.p, HoldK.k, HoldL.K, HoldL.body, Nat.reduceBEq, Nat.reduceAdd, reduceIte]
          exact ⟨rs.length - (j + 1), by omega, i, j + 1, cur, rfl, hK.skip hy hpy, rfl, rfl, S⟩
      · have hj : j = rs.length := by omega
        subst hj
        have hsz : IH.size g lo = some 1 := by rw [size_eq, (S.bx 0 rfl).eq]; rfl
        have f1 := slc_lo (h := g) (l := lo) (k := .i64) (show i < rs.length by omega) hsz
        have q0 := (S.bx 0 rfl).eq
        try simp (disch := (first | omega | assumption | (simp only [lc0, ln0, la0]; first | done | omega) | (simp (disch := assumption) only [go_sem, one_as, Nat.reduceBEq]; done) | fail)) only [q0, e0, e1, e5, e6, f1, Option.map_none, Option.map_some, go_sem, Hold.p, HoldK.k, HoldL.K, HoldL.body, Nat.reduceBEq, Nat.reduceAdd, reduceIte]
        refine clrA_of (S.bx 0 rfl).eq (by omega) (fun h0 => by omega) fun _ => ?_
        generalize hq : IH.set g lo _ = g6
        have l_g6 := n_set hq
        have S := S.set0 hq
        clear hq
        have hsz6 : IH.size g6 lo = some 1 := by rw [size_eq, (S.bx 0 rfl).eq]; rfl
        have f2 := slc_hi (h := g6) (l := lo) (k := .i64) (show i ≤ rs.length by omega) hsz6
        have q0 := (S.bx 0 rfl).eq
        try simp (disch := (first | omega | assumption | (simp only [lc0, ln0, la0]; first | done | omega) | (simp (disch := assumption) only [go_sem, one_as, Nat.reduceBEq]; done) | fail)) only [q0, e0, e1, e5, e6, f2, Option.map_none, Option.map_some, go_sem, Hold.p, HoldK.k, HoldL.K, HoldL.body, Nat.reduceBEq, Nat.reduceAdd, reduceIte]
        have ht := hK.t
        rw [List.take_length] at ht
        refine .inr ⟨lo, _, i, rfl, S, ?_, ?_⟩
        · rw [List.take_append_of_le_length (by rw [List.length_take]; omega), List.take_take, Nat.min_self, ht]
        · rw [la0, List.length_take, List.length_replicate]; omega
set_option maxHeartbeats 1000000 in
theorem deleteK_c {h : IH} {L : List As} {b : Bool} (v : IV) (rs : List (List IV)) (S : Sp h (sl b 97 4 v rs :: L)) (hm : rs.length ≤ 1048576) (fn : Nat) (caps : List IV) (p : List IV → Bool)
    (hrow : ∀ r ∈ rs, r.length = 4 ∧ r.all IV.one = true) (hp : ∀ g, Sp g L → ∀ x, x ∈ rs → ICalls Tryz.prog fn (.agg x :: caps) g fun r g' => r = .bool (p x) ∧ Ext g g') :
    ICalls Tryz.prog 84 [v, .func fn [] caps] h fun r h' => r.one = true ∧ Sp h' (sl true 97 4 r (rs.filter fun y => !p y) :: L) := by
  refine ICalls.shr (Q := fun r g => (r.one = true ∧ Sp g (sl true 97 4 r (rs.filter fun y => !p y) :: L)) ∨ ∃ lo rows i, r = .slice lo 0 i ∧ Sp g (box lo (.rows rows 97 4 false) :: L) ∧ rows.take i = (rs.filter fun y => !p y) ∧ i ≤ rows.length) ?_ ?_
  rotate_left
  · rintro r g (h1 | ⟨lo, rows, i, rfl, S, e1, e2⟩)
    · exact ⟨g, .inl rfl, h1⟩
    · have a := S.bx 0 rfl
      refine ⟨_, .inr ⟨lo, rows, 97, 4, i, a.eq, rfl⟩, rfl, ?_⟩
      have S := S.set0 (o' := .rows (rows.take i) 97 4 false) rfl
      rw [e1] at S ⊢
      exact S.boxSl (n := i) (x := true) (by rw [← e1, List.length_take]; omega) (.inl rfl)
  refine icalls (.of ok84) (Nat.le_of_ble_eq_true rfl) ?_
  unfold c84
  have hv1 := (S.slA 0 rfl).one
  have hlen := (S.slA 0 rfl).lenF
  try simp (disch := (first | omega | assumption | (simp only [lc0, ln0, la0]; first | done | omega) | (simp (disch := assumption) only [go_sem, one_as, Nat.reduceBEq]; done) | fail)) only [hv1, go_sem, Hold.p, HoldK.k, HoldL.K, HoldL.body, Nat.reduceBEq, Nat.reduceAdd, reduceIte]
  refine callA_of (indexK_c S v rs (fun g S => S.slA 0 rfl) hm fn caps p hrow (fun g S => hp g S.drop)) ?_
  clear S
  rintro r2 g2 ⟨rfl, S⟩
  by_cases hf : fidx p rs = -1
  · have d1 : decide (fidx p rs = -1) = true := decide_eq_true hf
    try simp (disch := (first | omega | assumption | (simp only [lc0, ln0, la0]; first | done | omega) | (simp (disch := assumption) only [go_sem, one_as, Nat.reduceBEq]; done) | fail)) only [d1, go_sem, Hold.p, HoldK.k, HoldL.K, HoldL.body, Nat.reduceBEq, Nat.reduceAdd, reduceIte]
    refine .inl ⟨hv1, ?_⟩
    rw [kept_all (fidx_neg hf)]
    exact Sp_slT S
  · have d1 : decide (fidx p rs = -1) = false := decide_eq_false hf
    obtain ⟨k, hk, hkl, hno, x, hx, hpx⟩ := fidx_some hf
    rw [hk] at d1 ⊢
    have S0 := S
    clear S
    obtain ⟨lo, hvl, S⟩ := S0.slBox (by rintro rfl; simp at hkl)
    clear S0
    have w0 : wr .i64 ((k : Int) + 1) = ((k + 1 : Nat) : Int) := by rw [wr64 _ (by omega)]; rfl
    have q0 := (S.bx 0 rfl).eq
    try simp (disch := (first | omega | assumption | (simp only [lc0, ln0, la0]; first | done | omega) | (simp (disch := assumption) only [go_sem, one_as, Nat.reduceBEq]; done) | fail)) only [q0, d1, w0, hvl, go_sem, Hold.p, HoldK.k, HoldL.K, HoldL.body, Nat.reduceBEq, Nat.reduceAdd, reduceIte]
    refine loop_at (fun m e g => ∃ (i j : Nat) (cur : List (List IV)), m = rs.length - j ∧ Kept p rs cur i j ∧ e 0 = .slice lo 0 rs.length ∧ e 1 = .func fn [] caps ∧ e 5 = .int .i64 (i : Nat) ∧ e 6 = .int .i64 (j : Nat) ∧ Sp g (box lo (.rows cur 97 4 false) :: L)) (rs.length - (k + 1)) ?_ ?_
    · refine ⟨k, k + 1, rs, by omega, Kept.begin hno hx hpx, ?_⟩
      have q0 := (S.bx 0 rfl).eq
      try simp (disch := (first | omega | assumption | (simp only [lc0, ln0, la0]; first | done | omega) | (simp (disch := assumption) only [go_sem, one_as, Nat.reduceBEq]; done) | fail)) only [q0, w0, go_sem, Hold.p, HoldK.k, HoldL.K, HoldL.body, Nat.reduceBEq, Nat.reduceAdd, reduceIte]
      exact S
    · clear S
      rintro m e g ⟨i, j, cur, rfl, hK, e0, e1, e5, e6, S⟩
      have hKn := hK.n
      have hKl := hK.lt
      have hKe := hK.le
      have q0 := (S.bx 0 rfl).eq
      try simp (disch := (first | omega | assumption | (simp only [lc0, ln0, la0]; first | done | omega) | (simp (disch := assumption) only [go_sem, one_as, Nat.reduceBEq]; done) | fail)) only [q0, e0, e1, e5, e6, go_sem, Hold.p, HoldK.k, HoldL.K, HoldL.body, Nat.reduceBEq, Nat.reduceAdd, reduceIte]
      refine test_dec (fun hb => ?_) (fun hb => ?_)
      · obtain ⟨y, hy⟩ : ∃ y, rs[j]? = some y := ⟨_, List.getElem?_eq_getElem (by omega : j < rs.length)⟩
        have hyc : cur[j]? = some y := by rw [hK.get]; exact hy
        have hym := List.mem_of_getElem? hy
        obtain ⟨hyl, hyo⟩ := hrow y hym
        have io : iadrO (IObj.rows cur 97 4 false) 4 lo 0 rs.length (j : Int) = some (.ptr lo j 0) := by rw [iadrO_nat (by omega)]; simp
        have ii : iadrO (IObj.rows cur 97 4 false) 4 lo 0 rs.length (i : Int) = some (.ptr lo i 0) := by rw [iadrO_nat (by omega)]; simp
        obtain ⟨o, ho⟩ : ∃ o, cur[i]? = some o := ⟨_, List.getElem?_eq_getElem (by omega : i < cur.length)⟩
        have hol : o.length = 4 := (hrow o (hK.m o (List.mem_of_getElem? ho))).1
        have wj : wr .i64 ((j : Int) + 1) = ((j + 1 : Nat) : Int) := by rw [wr64 _ (by omega)]; rfl
        have wi : wr .i64 ((i : Int) + 1) = ((i + 1 : Nat) : Int) := by rw [wr64 _ (by omega)]; rfl
        obtain ⟨a0, b0, c0, d0, rfl⟩ : ∃ a0 b0 c0 d0, y = [a0, b0, c0, d0] := by
          match y, hyl with
          | [a0, b0, c0, d0], _ => exact ⟨a0, b0, c0, d0, rfl⟩
        simp only [List.all_cons, List.all_nil, Bool.and_true, Bool.and_eq_true] at hyo
        obtain ⟨ya, yb, yc, yd⟩ := hyo
        have htk : [a0, b0, c0, d0].take 4 = [a0, b0, c0, d0] := rfl
        have q0 := (S.bx 0 rfl).eq
        try simp (disch := (first | omega | assumption | (simp only [lc0, ln0, la0]; first | done | omega) | (simp (disch := assumption) only [go_sem, one_as, Nat.reduceBEq]; done) | fail)) only [q0, e0, e1, e5, e6, iadrF_sl, io, hyc, htk, go_sem, Hold.p, HoldK.k, HoldL.K, HoldL.body, Nat.reduceBEq, Nat.reduceAdd, reduceIte]
        refine Sp.zero S fun p7 g3 S E_g3 l_g3 => ?_
        have q0 := (S.bx 0 rfl).eq
        try simp (disch := (first | omega | assumption | (simp only [lc0, ln0, la0]; first | done | omega) | (simp (disch := assumption) only [go_sem, one_as, Nat.reduceBEq]; done) | fail)) only [q0, e0, e1, e5, e6, ya, yb, yc, yd, go_sem, Hold.p, HoldK.k, HoldL.K, HoldL.body, Nat.reduceBEq, Nat.reduceAdd, reduceIte]
        refine stw_of rfl rfl (by first | rfl | simp (disch := assumption) only [go_sem, cells_one, one_as]) fun g4 hg => ?_
        have l_g4 := n_set hg
        have S := S.set0 hg
        clear hg
        have q0 := (S.bx 0 rfl).eq
        try simp (disch := (first | omega | assumption | (simp only [lc0, ln0, la0]; first | done | omega) | (simp (disch := assumption) only [go_sem, one_as, Nat.reduceBEq]; done) | fail)) only [q0, e0, e1, e5, e6, na0, ca0, go_sem, Hold.p, HoldK.k, HoldL.K, HoldL.body, Nat.reduceBEq, Nat.reduceAdd, reduceIte]
        refine callA_of (hp g4 S.drop.drop _ hym) ?_
        generalize hpy : p [a0, b0, c0, d0] = py
        rintro r4 g5 ⟨rfl, E4⟩
        have S := S.ext E4
        cases py
        · skip
          have q0 := (S.bx 0 rfl).eq
          have q1 := (S.bx 1 rfl).eq
          try simp (disch := (first | omega | assumption | (simp only [lc0, ln0, la0]; first | done | omega) | (simp (disch := assumption) only [go_sem, one_as, Nat.reduceBEq]; done) | fail)) only [q0, q1, e0, e1, e5, e6, iadrF_sl, ii, ya, yb, yc, yd, go_sem, Hold.p, HoldK.k, HoldL.K, HoldL.body, Nat.reduceBEq, Nat.reduceAdd, reduceIte]
          refine str_of ho rfl hol (by simp [ya, yb, yc, yd]) fun g6 hg => ?_
          have l_g6 := n_set hg
          have S := S.set1 hg
          clear hg
          try simp (disch := (first | omega | assumption | (simp only [lc0, ln0, la0]; first | done | omega) | (simp (disch := assumption) only [go_sem, one_as, Nat.reduceBEq]; done) | fail)) only [e0, e1, e5, e6, wi, wj, go_sem, Hold.p, HoldK.k, HoldL.K, HoldL.body, Nat.reduceBEq, Nat.reduceAdd, reduceIte]
          exact ⟨rs.length - (j + 1), by omega, i + 1, j + 1, cur.set i [a0, b0, c0, d0], rfl, hK.keep hy hpy, rfl, rfl, S.drop⟩
        · skip
          have q0 := (S.bx 0 rfl).eq
          try simp (disch := (first | omega | assumption | (simp only [lc0, ln0, la0]; first | done | omega) | (simp (disch := assumption) only [go_sem, one_as, Nat.reduceBEq]; done) | fail)) only [q0, e0, e1, e5, e6, wj, go_sem, Hold.p, HoldK.k, HoldL.K, HoldL.body, Nat.reduceBEq, Nat.reduceAdd, reduceIte]
          exact ⟨rs.length - (j + 1), by omega, i, j + 1, cur, rfl, hK.skip hy hpy, rfl, rfl, S.drop⟩
      · have hj : j = rs.length := by omega
        subst hj
        have hsz : IH.size g lo = some 4 := by rw [size_eq, (S.bx 0 rfl).eq]; rfl
        have f1 := slc_lo (h := g) (l := lo) (k := .i64) (show i < rs.length by omega) hsz
        have q0 := (S.bx 0 rfl).eq
        try simp (disch := (first | omega | assumption | (simp only [lc0, ln0, la0]; first | done | omega) | (simp (disch := assumption) only [go_sem, one_as, Nat.reduceBEq]; done) | fail)) only [q0, e0, e1, e5, e6, f1, Option.map_none, Option.map_some, go_sem, Hold.p, HoldK.k, HoldL.K, HoldL.body, Nat.reduceBEq, Nat.reduceAdd, reduceIte]
        refine clrA_of (S.bx 0 rfl).eq (by omega) (fun h0 => by omega) fun _ => ?_
        generalize hq : IH.set g lo _ = g6
        have l_g6 := n_set hq
        have S := S.set0 hq
        clear hq
        have hsz6 : IH.size g6 lo = some 4 := by rw [size_eq, (S.bx 0 rfl).eq]; rfl
        have f2 := slc_hi (h := g6) (l := lo) (k := .i64) (show i ≤ rs.length by omega) hsz6
        have q0 := (S.bx 0 rfl).eq
        try simp (disch := (first | omega | assumption | (simp only [lc0, ln0, la0]; first | done | omega) | (simp (disch := assumption) only [go_sem, one_as, Nat.reduceBEq]; done) | fail)) only [q0, e0, e1, e5, e6, f2, Option.map_none, Option.map_some, go_sem, Hold.p, HoldK.k, HoldL.K, HoldL.body, Nat.reduceBEq, Nat.reduceAdd, reduceIte]
        have ht := hK.t
        rw [List.take_length] at ht
        refine .inr ⟨lo, _, i, rfl, S, ?_, ?_⟩
        · rw [List.take_append_of_le_length (by rw [List.length_take]; omega), List.take_take, Nat.min_self, ht]
        · rw [la0, List.length_take, List.length_replicate]; omega
end
end Go.Proofs.YtaoffieemecioaaGreatDoor

set_option maxRecDepth 20000
namespace Go.Proofs.YtaoffieemecioaaGreatDoor
open Go Go.IW
section
attribute [local go_sem] List.getElem?_cons_zero List.getElem?_cons_succ Option.bind_some List.map_cons List.map_nil Nat.zero_add if_true List.getD_cons_zero List.getD_cons_succ List.contains_cons List.contains_nil Bool.or_true Bool.true_or Bool.or_false Bool.false_or Bool.not_true Bool.not_false true_and and_true rowA_whole mid_get rowO_rows cellO_rows upd_ne Nat.add_assoc Nat.add_zero List.all_cons List.all_nil one_bool one_int one_str one_ptr one_nilptr one_slice one_eslice one_nilslice one_func one_iface one_niliface Bool.and_true Bool.and_self List.length_cons List.length_nil Nat.one_ne_zero Nat.succ_ne_zero if_false List.set_cons_zero List.set_cons_succ lay_nil lay_1 lay_w Option.map_some cells_one rowA_some List.drop_succ_cons List.drop_zero List.take_succ_cons List.take_zero

abbrev Tx := List UInt8
structure Kn where
  name : Tx
  code : Int
  addrs : List Int
  till : Int
structure Qn where
  name : Tx
  id : Int
  server : Int
  asks : Int
  due : Int
  tickets : List Int
structure Sd where
  server : Int
  bytes : Tx
structure Dn where
  ticket : Int
  code : Int
  addrs : List Int
structure Rs where
  now : Int
  n : Int
  l : List Qn
  cache : List Kn
  sent : List Sd
  done : List Dn
def ints (v : IV) (zs : List Int) : As := sl false 2 1 v (intRows zs)
def byts (v : IV) (bs : Tx) : As := sl false 5 1 v (strRows bs)

def sel {α : Type} : List Bool → List α → List α
  | b :: bs, x :: xs => if b = true then x :: sel bs xs else sel bs xs
  | _, _ => []
theorem sel_filter {α : Type} (p : α → Bool) : ∀ xs : List α, sel (xs.map p) xs = xs.filter p
  | [] => rfl
  | x :: xs => by
    simp only [mc0, sel, sel_filter p xs, List.filter_cons]
theorem sel_snoc {α : Type} : ∀ {bs : List Bool} {xs : List α} {b : Bool} {x : α}, bs.length = xs.length → sel (bs ++ [b]) (xs ++ [x]) = sel bs xs ++ if b = true then [x] else []
  | [], [], b, x, _ => by cases b <;> rfl
  | c :: bs, y :: xs, b, x, h => by
    simp only [ca0, sel, sel_snoc (bs := bs) (xs := xs) (b := b) (x := x) (by simpa using h)]
    split <;> simp
  | [], _ :: _, _, _, h => by simp at h
  | _ :: _, [], _, _, h => by simp at h
theorem _root_.Go.IW.Sp.dn {h : IH} {L : List As} (S : Sp h L) (k : Nat) : Sp h (L.drop k) := by
  induction k generalizing L with
  | zero => exact S
  | succ k ih =>
    cases L with
    | nil => exact S
    | cons a L => exact ih S.drop
theorem _root_.Go.IW.SlR.at_eq {h h' : IH} {sz : Nat} {v : IV} {rs : List (List IV)} (hs : SlR h sz v rs) (hs' : SlR h' sz v rs) {m l j : Nat} {row : List IV} {k : IntKind} (hm : rs[m]? = some row) (hia : iadrF h sz v (.int k m) = some (.ptr l j 0)) :
    iadrF h' sz v (.int k m) = some (.ptr l j 0) ∧ rowO (h'.obj l) j = some row := by
  obtain ⟨l', j', e, _, r⟩ := hs'.at hm k
  have : iadrF h' sz v (.int k m) = iadrF h sz v (.int k m) := by
    cases v with
    | slice l i n =>
      obtain ⟨rs1, e1, ro1, ho1, _⟩ := srcRows_live hs.src
      obtain ⟨rs2, e2, ro2, ho2, _⟩ := srcRows_live hs'.src
      have s1 : h.size l = some sz := by rw [size_eq, ho1]; rfl
      have s2 : h'.size l = some sz := by rw [size_eq, ho2]; rfl
      simp [iadrF, s1, s2]
    | _ => rfl
  rw [this, hia] at e
  cases e
  exact ⟨by rw [this]; exact hia, r⟩
theorem all2_sel {α : Type} {R : List IV → α → As} {h : IH} : ∀ {rs : List (List IV)} {xs : List α} {f : List Nat} (bs : List Bool), (all2 R rs xs).P h f → ∃ f', (all2 R (sel bs rs) (sel bs xs)).P h f' ∧ f'.Sublist f
  | rs, xs, f, [], _ => ⟨[], ⟨rfl, trivial⟩, List.nil_sublist _⟩
  | [], [], f, _ :: _, _ => ⟨[], ⟨rfl, trivial⟩, List.nil_sublist _⟩
  | r :: rs, x :: xs, f, b :: bs, ⟨f1, f2, e, h1, h2⟩ => by
    subst e
    obtain ⟨f', h3, h4⟩ := all2_sel bs h2
    cases b with
    | false => exact ⟨f', h3, h4.trans (List.sublist_append_right _ _)⟩
    | true => exact ⟨f1 ++ f', ⟨f1, f', rfl, h1, h3⟩, (List.Sublist.refl f1).append h4⟩
  | [], _ :: _, _, _ :: _, h => h.2.elim
  | _ :: _, [], _, _ :: _, h => h.2.elim
theorem _root_.Go.IW.Sp.a2sel {α : Type} {R : List IV → α → As} {h : IH} {L : List As} {rs : List (List IV)} {xs : List α} (bs : List Bool) (S : Sp h (all2 R rs xs :: L)) : Sp h (all2 R (sel bs rs) (sel bs xs) :: L) :=
  S.imp fun f hf => all2_sel bs hf
theorem _root_.Go.IW.Sp.ofOwn {h h' : IH} {L : List As} {el sz : Nat} {v : IV} {rs : List (List IV)} (S : Sp h L) (E : Ext h h') (o : Own h.n h'.n h' el sz v rs) : Sp h' (sl false el sz v rs :: L) := by
  rcases o with ⟨h1, h2⟩ | ⟨l, h0, h1, h2, h3, _, h4⟩
  · exact S.new E (f := []) (.inl ⟨h1, rfl, h2⟩) List.nodup_nil (by simp)
  · exact S.new E (f := [l]) (.inr ⟨l, .inr h0, h1, rfl, h3, h4⟩) (by simp) (by simpa using h2)

theorem a2_len {h : IH} {L : List As} {α : Type} {R : List IV → α → As} {rs : List (List IV)} {ps : List α} (S : Sp h L) (k : Nat) (hk : L[k]? = some (all2 R rs ps)) : rs.length = ps.length := by
  obtain ⟨f, hf⟩ := S.part k hk
  exact all2_len hf
theorem sel_le {α : Type} : ∀ (bs : List Bool) (xs : List α), (sel bs xs).length ≤ xs.length
  | [], _ => by simp [sel]
  | _ :: _, [] => by simp [sel]
  | b :: bs, x :: xs => by
    have := sel_le bs xs
    cases b <;> simp [sel] <;> omega
theorem take_snoc {α : Type} {l : List α} {k : Nat} {x : α} (h : l[k]? = some x) : l.take (k + 1) = l.take k ++ [x] := by rw [List.take_add_one, h]; rfl
def knRow (k : Kn) (va : IV) : List IV := [.str k.name, .int .i64 k.code, va, .int .i64 k.till]
def knR (r : List IV) (k : Kn) : As := exA fun va : IV => stars (fact (r = knRow k va ∧ va.one = true)) (ints va k.addrs)
def qnRow (q : Qn) (vt : IV) : List IV := [.str q.name, .int .i64 q.id, .int .i64 q.server, .int .i64 q.asks, .int .i64 q.due, vt]
def qnR (r : List IV) (q : Qn) : As := exA fun vt : IV => stars (fact (r = qnRow q vt ∧ vt.one = true)) (ints vt q.tickets)
def sdRow (s : Sd) (vb : IV) : List IV := [.int .i64 s.server, vb]
def sdR (r : List IV) (s : Sd) : As := exA fun vb : IV => stars (fact (r = sdRow s vb ∧ vb.one = true)) (byts vb s.bytes)
def dnRow (d : Dn) (va : IV) : List IV := [.int .i64 d.ticket, .int .i64 d.code, va]
def dnR (r : List IV) (d : Dn) : As := exA fun va : IV => stars (fact (r = dnRow d va ∧ va.one = true)) (ints va d.addrs)
theorem kn_at {h : IH} {L : List As} {rs : List (List IV)} {ks : List Kn} (S : Sp h L) (j : Nat) (hj : L[j]? = some (all2 knR rs ks)) {i : Nat} {k : Kn} (hi : ks[i]? = some k) : ∃ va, rs[i]? = some (knRow k va) ∧ SlR h 1 va (intRows k.addrs) := by
  obtain ⟨f, hf⟩ := S.part j hj
  obtain ⟨r, f', h1, va, f1, f2, _, ⟨_, rfl, h4⟩, h6⟩ := all2_at hf hi
  refine ⟨va, h1, ?_⟩
  rcases h6 with ⟨h4, _, h5 | h5⟩ | ⟨l, h0, h5, _, h8, h9⟩
  · rw [h4, h5]; exact SlR.nil _ _
  · rw [h4, h5]; exact SlR.empty _ _ _
  · rw [h5]; exact SlR.whole h9 rfl h8
theorem qn_at {h : IH} {L : List As} {rs : List (List IV)} {qs : List Qn} (S : Sp h L) (j : Nat) (hj : L[j]? = some (all2 qnR rs qs)) {i : Nat} {q : Qn} (hi : qs[i]? = some q) : ∃ vt, rs[i]? = some (qnRow q vt) ∧ SlR h 1 vt (intRows q.tickets) := by
  obtain ⟨f, hf⟩ := S.part j hj
  obtain ⟨r, f', h1, va, f1, f2, _, ⟨_, rfl, h4⟩, h6⟩ := all2_at hf hi
  refine ⟨va, h1, ?_⟩
  rcases h6 with ⟨h4, _, h5 | h5⟩ | ⟨l, h0, h5, _, h8, h9⟩
  · rw [h4, h5]; exact SlR.nil _ _
  · rw [h4, h5]; exact SlR.empty _ _ _
  · rw [h5]; exact SlR.whole h9 rfl h8
abbrev wdO (vs : IV) (first now n : Int) (vq vk : IV) (code : Int) (vx vd : IV) (ent ask : Int) : IObj := .rows [[vs, .int .i64 first, .int .i64 now, .int .i64 n, vq, vk, .int .i64 code, vx, vd, .int .i64 ent, .int .i64 ask]] 56 11 false
theorem l19Addrs_c {h : IH} {L : List As} (S : Sp h L) (v : IV) (zs : List Int) (hs : SlR h 1 v (intRows zs)) (hm : zs.length ≤ 1048576) :
    ICalls Tryz.prog 69 [v] h fun r h' => r.one = true ∧ Sp h' (ints r zs :: L) := by
  refine icalls (.of ok69) (Nat.le_of_ble_eq_true rfl) ?_
  unfold c69
  have hsrc := hs.src
  have S1 := S.slEmpty (x := false) (el := 2) (sz := 1)
  try simp (disch := (first | omega | assumption | (simp only [lc0, ln0, la0]; first | done | omega) | (simp (disch := assumption) only [go_sem, one_as, Nat.reduceBEq]; done) | fail)) only [hsrc, go_sem, Hold.p, HoldK.k, HoldL.K, HoldL.body, Nat.reduceBEq, Nat.reduceAdd, reduceIte]
  refine S1.appAll (by rw [intRows_len]; simp only [ln0]; omega) ?_
  intro v2 g2 S2 z2
  try simp (disch := (first | omega | assumption | (simp only [lc0, ln0, la0]; first | done | omega) | (simp (disch := assumption) only [go_sem, one_as, Nat.reduceBEq]; done) | fail)) only [z2, go_sem, Hold.p, HoldK.k, HoldL.K, HoldL.body, Nat.reduceBEq, Nat.reduceAdd, reduceIte]
  exact S2
end
end Go.Proofs.YtaoffieemecioaaGreatDoor

set_option maxRecDepth 20000
namespace Go.Proofs.YtaoffieemecioaaGreatDoor
open Go Go.IW
section
attribute [local go_sem] List.getElem?_cons_zero List.getElem?_cons_succ Option.bind_some List.map_cons List.map_nil Nat.zero_add if_true List.getD_cons_zero List.getD_cons_succ List.contains_cons List.contains_nil Bool.or_true Bool.true_or Bool.or_false Bool.false_or Bool.not_true Bool.not_false true_and and_true rowA_whole mid_get rowO_rows cellO_rows upd_ne Nat.add_assoc Nat.add_zero List.all_cons List.all_nil one_bool one_int one_str one_ptr one_nilptr one_slice one_eslice one_nilslice one_func one_iface one_niliface Bool.and_true Bool.and_self List.length_cons List.length_nil Nat.one_ne_zero Nat.succ_ne_zero if_false List.set_cons_zero List.set_cons_succ lay_nil lay_1 lay_w Option.map_some cells_one rowA_some List.drop_succ_cons List.drop_zero List.take_succ_cons List.take_zero

def freshK (now : Int) (ks : List Kn) : List Kn := ks.filter fun k => decide (now < k.till)
theorem l19Fresh_c {h : IH} {L : List As} {w : Nat} {vs vq vk vx vd : IV} {first now n code ent ask : Int} {rs : List (List IV)} {ks : List Kn}
    (S : Sp h (box w (wdO vs first now n vq vk code vx vd ent ask) :: sl false 117 4 vk rs :: all2 knR rs ks :: L)) (hm : ks.length ≤ 1048576) :
    ICalls Tryz.prog 50 [.ptr w 0 0] h fun r h' => ∃ vk' rs', Sp h' (box w (wdO vs first now n vq vk' code vx vd ent ask) :: sl false 117 4 vk' rs' :: all2 knR rs' (freshK now ks) :: L) := by
  refine icalls (.of ok50) (Nat.le_of_ble_eq_true rfl) ?_
  unfold c50
  have hrl := a2_len S 2 rfl
  try simp (disch := (first | omega | assumption | (simp only [lc0, ln0, la0]; first | done | omega) | (simp (disch := assumption) only [go_sem, one_as, Nat.reduceBEq]; done) | fail)) only [go_sem, Hold.p, HoldK.k, HoldL.K, HoldL.body, Nat.reduceBEq, Nat.reduceAdd, reduceIte]
  refine loop_at (fun m e g => ∃ (k : Nat) (vn : IV) (rn : List (List IV)), m = ks.length - k ∧ k ≤ ks.length ∧ e 0 = .ptr w 0 0 ∧ e 2 = vn ∧ e 3 = .int .i64 (k : Nat) ∧ vn.one = true ∧ rn = sel ((ks.take k).map fun x => decide (now < x.till)) (rs.take k) ∧
    Sp g (sl false 117 4 vn rn :: box w (wdO vs first now n vq vk code vx vd ent ask) :: sl false 117 4 vk rs :: all2 knR rs ks :: L)) ks.length ?_ ?_
  · refine ⟨0, .eslice true, [], by omega, by omega, ?_⟩
    try simp (disch := (first | omega | assumption | (simp only [lc0, ln0, la0]; first | done | omega) | (simp (disch := assumption) only [go_sem, one_as, Nat.reduceBEq]; done) | fail)) only [go_sem, Hold.p, HoldK.k, HoldL.K, HoldL.body, Nat.reduceBEq, Nat.reduceAdd, reduceIte]
    exact ⟨rfl, rfl, S.slEmpty⟩
  · clear S
    rintro m e g ⟨k, vn, rn, rfl, hk, e0, e2, e3, zn, hrn, S⟩
    have q1 := (S.bx 1 rfl).eq
    have s2 := S.slA 2 rfl
    have len_s2 := s2.lenF
    have z2 := s2.one
    try simp (disch := (first | omega | assumption | (simp only [lc0, ln0, la0]; first | done | omega) | (simp (disch := assumption) only [go_sem, one_as, Nat.reduceBEq]; done) | fail)) only [q1, len_s2, z2, e0, e2, e3, go_sem, Hold.p, HoldK.k, HoldL.K, HoldL.body, Nat.reduceBEq, Nat.reduceAdd, reduceIte]
    refine test_dec (fun hb => ?_) (fun hb => ?_)
    · obtain ⟨x, hx⟩ : ∃ x, ks[k]? = some x := ⟨_, List.getElem?_eq_getElem (by omega : k < ks.length)⟩
      obtain ⟨va, hrow, hva⟩ := kn_at S 3 rfl hx
      have y1 := hva.one
      obtain ⟨l, j, hia, hll, har⟩ := (S.slA 2 rfl).at hrow .i64
      unfold knRow at har
      have hc := cellO_row har
      have hrnl : rn.length ≤ k := by
        have := sel_le ((ks.take k).map fun x => decide (now < x.till)) (rs.take k)
        rw [← hrn, List.length_take] at this
        omega
      have hsn : sel ((ks.take (k + 1)).map fun x => decide (now < x.till)) (rs.take (k + 1)) = rn ++ if decide (now < x.till) = true then [knRow x va] else [] := by
        rw [take_snoc hx, take_snoc hrow, List.map_append, mc0, mn0, sel_snoc (by rw [List.length_map, List.length_take, List.length_take]; omega), hrn]
      have w1 : wr .i64 ((k : Int) + 1) = ((k + 1 : Nat) : Int) := by rw [wr64 _ (by omega)]; rfl
      unfold knRow at hsn
      have q1 := (S.bx 1 rfl).eq
      have s2 := S.slA 2 rfl
      have len_s2 := s2.lenF
      have z2 := s2.one
      try simp (disch := (first | omega | assumption | (simp only [lc0, ln0, la0]; first | done | omega) | (simp (disch := assumption) only [go_sem, one_as, Nat.reduceBEq]; done) | fail)) only [q1, len_s2, z2, e0, e2, e3, hia, har, hc, go_sem, Hold.p, HoldK.k, HoldL.K, HoldL.body, Nat.reduceBEq, Nat.reduceAdd, reduceIte]
      refine test_dec (fun ht => ?_) (fun ht => ?_)
      · rw [decide_eq_true ht, if_pos rfl] at hsn
        have q1 := (S.bx 1 rfl).eq
        have s2 := S.slA 2 rfl
        have len_s2 := s2.lenF
        have z2 := s2.one
        try simp (disch := (first | omega | assumption | (simp only [lc0, ln0, la0]; first | done | omega) | (simp (disch := assumption) only [go_sem, one_as, Nat.reduceBEq]; done) | fail)) only [q1, len_s2, z2, e0, e2, e3, hia, har, hc, y1, go_sem, Hold.p, HoldK.k, HoldL.K, HoldL.body, Nat.reduceBEq, Nat.reduceAdd, reduceIte]
        refine Sp.bsl1 S (by first | rfl | (rw [cells_one (by assumption)]; rfl)) (by first | rfl | simp (disch := assumption) only [go_sem, cells_one, one_as]) fun p5 g5 S E_g5 l_g5 => ?_
        try simp only [cells_agg, cells_int, cells_bool, cells_ptr, cells_str] at S
        have q0 := (S.bx 0 rfl).eq
        have s1 := S.slA 1 rfl
        have len_s1 := s1.lenF
        have z1 := s1.one
        try simp (disch := (first | omega | assumption | (simp only [lc0, ln0, la0]; first | done | omega) | (simp (disch := assumption) only [go_sem, one_as, Nat.reduceBEq]; done) | fail)) only [q0, len_s1, z1, e0, e2, e3, go_sem, Hold.p, HoldK.k, HoldL.K, HoldL.body, Nat.reduceBEq, Nat.reduceAdd, reduceIte]
        refine S.app1 (y := false) (b := 56) (by omega) ?_
        clear S
        intro v6 g6 S z6
        try simp (disch := (first | omega | assumption | (simp only [lc0, ln0, la0]; first | done | omega) | (simp (disch := assumption) only [go_sem, one_as, Nat.reduceBEq]; done) | fail)) only [e0, e2, e3, w1, go_sem, Hold.p, HoldK.k, HoldL.K, HoldL.body, Nat.reduceBEq, Nat.reduceAdd, reduceIte]
        exact ⟨ks.length - (k + 1), by omega, k + 1, v6, _, rfl, by omega, rfl, rfl, z6, hsn.symm, S⟩
      · rw [decide_eq_false ht, if_neg (by simp), List.append_nil] at hsn
        have q1 := (S.bx 1 rfl).eq
        have s2 := S.slA 2 rfl
        have len_s2 := s2.lenF
        have z2 := s2.one
        try simp (disch := (first | omega | assumption | (simp only [lc0, ln0, la0]; first | done | omega) | (simp (disch := assumption) only [go_sem, one_as, Nat.reduceBEq]; done) | fail)) only [q1, len_s2, z2, e0, e2, e3, w1, go_sem, Hold.p, HoldK.k, HoldL.K, HoldL.body, Nat.reduceBEq, Nat.reduceAdd, reduceIte]
        exact ⟨ks.length - (k + 1), by omega, k + 1, vn, rn, rfl, by omega, rfl, rfl, zn, hsn.symm, S⟩
    · have hk2 : k = ks.length := by omega
      subst hk2
      rw [List.take_length, List.take_of_length_le (by omega)] at hrn
      subst hrn
      have q1 := (S.bx 1 rfl).eq
      try simp (disch := (first | omega | assumption | (simp only [lc0, ln0, la0]; first | done | omega) | (simp (disch := assumption) only [go_sem, one_as, Nat.reduceBEq]; done) | fail)) only [q1, e0, e2, e3, zn, go_sem, Hold.p, HoldK.k, HoldL.K, HoldL.body, Nat.reduceBEq, Nat.reduceAdd, reduceIte]
      refine st1_of (Nat.le_of_ble_eq_true rfl) (by first | rfl | assumption) fun g7 hg => ?_
      have l_g7 := n_set hg
      have S := S.set1 hg
      clear hg
      simp only [sz0, ss0, ts0, tz0, ds0, dz0, ca0, na0, Nat.reduceAdd] at S
      try simp (disch := (first | omega | assumption | (simp only [lc0, ln0, la0]; first | done | omega) | (simp (disch := assumption) only [go_sem, one_as, Nat.reduceBEq]; done) | fail)) only [go_sem, Hold.p, HoldK.k, HoldL.K, HoldL.body, Nat.reduceBEq, Nat.reduceAdd, reduceIte]
      refine ⟨vn, sel (ks.map fun x => decide (now < x.till)) rs, ?_⟩
      have S := by simpa only [mc0, mn0, List.getD_cons_zero, List.getD_cons_succ, ds0, dz0, ca0, na0] using Sp.sel S 4 [3, 1, 0] (by simp only [lc0]; omega) (by decide) (by decide)
      have S := S.a2sel (ks.map fun x => decide (now < x.till))
      rw [sel_filter] at S
      have S := by simpa only [mc0, mn0, List.getD_cons_zero, List.getD_cons_succ, ds0, dz0, ca0, na0] using Sp.sel S 3 [1, 2, 0] (by simp only [lc0]; omega) (by decide) (by decide)
      exact S
end
end Go.Proofs.YtaoffieemecioaaGreatDoor

set_option maxRecDepth 20000
namespace Go.Proofs.YtaoffieemecioaaGreatDoor
open Go Go.IW
section
attribute [local go_sem] List.getElem?_cons_zero List.getElem?_cons_succ Option.bind_some List.map_cons List.map_nil Nat.zero_add if_true List.getD_cons_zero List.getD_cons_succ List.contains_cons List.contains_nil Bool.or_true Bool.true_or Bool.or_false Bool.false_or Bool.not_true Bool.not_false true_and and_true rowA_whole mid_get rowO_rows cellO_rows upd_ne Nat.add_assoc Nat.add_zero List.all_cons List.all_nil one_bool one_int one_str one_ptr one_nilptr one_slice one_eslice one_nilslice one_func one_iface one_niliface Bool.and_true Bool.and_self List.length_cons List.length_nil Nat.one_ne_zero Nat.succ_ne_zero if_false List.set_cons_zero List.set_cons_succ lay_nil lay_1 lay_w Option.map_some cells_one rowA_some List.drop_succ_cons List.drop_zero List.take_succ_cons List.take_zero

theorem erase_take {α : Type} {l : List α} {k i : Nat} {x : α} (hk : l[k]? = some x) : (l.take (k + 1)).eraseIdx i = if k = i then (l.take k).eraseIdx i else (l.take k).eraseIdx i ++ [x] := by
  have hl : k < l.length := (List.getElem?_eq_some_iff.1 hk).1
  have hlen : (l.take k).length = k := by simp; omega
  rw [List.take_add_one, hk]
  simp only [Option.toList_some]
  rcases Nat.lt_trichotomy k i with h | h | h
  · rw [if_neg (by omega), List.eraseIdx_of_length_le (l := l.take k ++ [x]) (by rw [la0, hlen, List.length_singleton]; omega), List.eraseIdx_of_length_le (l := l.take k) (by omega)]
  · subst h
    rw [if_pos rfl, List.eraseIdx_append_of_length_le (by omega), hlen, Nat.sub_self, List.eraseIdx_of_length_le (l := l.take k) (by omega)]
    simp
  · rw [if_neg (by omega), List.eraseIdx_append_of_lt_length (by rw [hlen]; exact h)]
theorem _root_.Go.IW.Sp.a2erase {α : Type} {R : List IV → α → As} {h : IH} {L : List As} {rs : List (List IV)} {xs : List α} (i : Nat) (S : Sp h (all2 R rs xs :: L)) : Sp h (all2 R (rs.eraseIdx i) (xs.eraseIdx i) :: L) := by
  by_cases hi : i < xs.length
  · have hl := S.a2len
    obtain ⟨a1, r, b1, x1, y1, e1, e2, l1, l2, S2⟩ := S.a2at (List.getElem?_eq_getElem hi)
    have S3 := S2.drop.a2join
    have f1 : rs.eraseIdx i = a1 ++ b1 := by rw [e1, List.eraseIdx_append_of_length_le (by omega), l1, Nat.sub_self]; rfl
    have f2 : xs.eraseIdx i = x1 ++ y1 := by rw [e2, List.eraseIdx_append_of_length_le (by omega), l2, Nat.sub_self]; rfl
    rw [f1, f2]
    exact S3
  · have hl := S.a2len
    rw [List.eraseIdx_of_length_le (by omega), List.eraseIdx_of_length_le (by omega)]
    exact S
def endD (code : Int) (zs : List Int) (ts : List Int) : List Dn := ts.map fun t => ⟨t, code, zs⟩
theorem dn_un {h : IH} {L : List As} {d : Dn} {va : IV} (S : Sp h (ints va d.addrs :: L)) (h1 : va.one = true) : Sp h (dnR (dnRow d va) d :: L) := by
  have S := S.unfact (p := dnRow d va = dnRow d va ∧ va.one = true) ⟨rfl, h1⟩
  exact Sp.unex (F := fun v : IV => stars (fact (dnRow d va = dnRow d v ∧ v.one = true)) (ints v d.addrs)) va S.unstar
set_option maxHeartbeats 1000000 in
theorem l19End_c {h : IH} {L : List As} {w : Nat} {vs vq vk vx vd va : IV} {first now n code0 ent ask code : Int} {rq rd : List (List IV)} {qs : List Qn} {ds : List Dn} {zs : List Int} {i : Nat} {q : Qn}
    (S : Sp h (box w (wdO vs first now n vq vk code0 vx vd ent ask) :: sl false 119 6 vq rq :: all2 qnR rq qs :: sl false 99 3 vd rd :: all2 dnR rd ds :: L))
    (ha : ∀ g, Sp g L → SlR g 1 va (intRows zs)) (hq : qs[i]? = some q) (hm : qs.length ≤ 1000000) (hd : ds.length + q.tickets.length ≤ 1000000) (hz : zs.length ≤ 1000000) :
    ICalls Tryz.prog 72 [.ptr w 0 0, .int .i64 (i : Nat), .int .i64 code, va] h fun r h' => ∃ vq' vd' rq' rd', Sp h' (box w (wdO vs first now n vq' vk code0 vx vd' ent ask) :: sl false 119 6 vq' rq' :: all2 qnR rq' (qs.eraseIdx i) :: sl false 99 3 vd' rd' :: all2 dnR rd' (ds ++ endD code zs q.tickets) :: L) := by
  refine icalls (.of ok72) (Nat.le_of_ble_eq_true rfl) ?_
  unfold c72
  have hql := a2_len S 2 rfl
  have hdl := a2_len S 4 rfl
  have hva := (ha h (S.dn 5)).one
  have hvd1 := (S.slA 3 rfl).one
  have hvq1 := (S.slA 1 rfl).one
  obtain ⟨vt, hrow, hvt⟩ := qn_at S 2 rfl hq
  have hvt1 := hvt.one
  obtain ⟨l, j, hia, hll, har⟩ := (S.slA 1 rfl).at hrow .i64
  have hil := (List.getElem?_eq_some_iff.1 hq).1
  have hrow0 := hrow
  unfold qnRow at har
  have q0 := (S.bx 0 rfl).eq
  have s1 := S.slA 1 rfl
  have len_s1 := s1.lenF
  have z1 := s1.one
  try simp (disch := (first | omega | assumption | (simp only [lc0, ln0, la0]; first | done | omega) | (simp (disch := assumption) only [go_sem, one_as, Nat.reduceBEq]; done) | fail)) only [q0, len_s1, z1, hia, har, hva, go_sem, Hold.p, HoldK.k, HoldL.K, HoldL.body, Nat.reduceBEq, Nat.reduceAdd, reduceIte]
  refine Sp.zero S fun p8 g1 S E_g1 l_g1 => ?_
  have q0 := (S.bx 0 rfl).eq
  try simp (disch := (first | omega | assumption | (simp only [lc0, ln0, la0]; first | done | omega) | (simp (disch := assumption) only [go_sem, one_as, Nat.reduceBEq]; done) | fail)) only [q0, hvt1, go_sem, Hold.p, HoldK.k, HoldL.K, HoldL.body, Nat.reduceBEq, Nat.reduceAdd, reduceIte]
  refine stw_of rfl rfl (by first | rfl | simp (disch := assumption) only [go_sem, cells_one, one_as]) fun g2 hg => ?_
  have l_g2 := n_set hg
  have S := S.set0 hg
  clear hg
  have q0 := (S.bx 0 rfl).eq
  try simp (disch := (first | omega | assumption | (simp only [lc0, ln0, la0]; first | done | omega) | (simp (disch := assumption) only [go_sem, one_as, Nat.reduceBEq]; done) | fail)) only [q0, go_sem, Hold.p, HoldK.k, HoldL.K, HoldL.body, Nat.reduceBEq, Nat.reduceAdd, reduceIte]
  refine loop_at (fun m e g => ∃ (k : Nat) (vd' : IV) (rd' : List (List IV)), m = q.tickets.length - k ∧ k ≤ q.tickets.length ∧ e 0 = .ptr w 0 0 ∧ e 1 = .int .i64 (i : Nat) ∧ e 2 = .int .i64 code ∧ e 3 = va ∧ e 8 = .ptr p8 0 0 ∧ e 9 = .int .i64 (k : Nat) ∧ vd'.one = true ∧
    Sp g (box w (wdO vs first now n vq vk code0 vx vd' ent ask) :: box p8 (.rows [qnRow q vt] 119 6 false) :: sl false 119 6 vq rq :: all2 qnR rq qs :: sl false 99 3 vd' rd' :: all2 dnR rd' (ds ++ endD code zs (q.tickets.take k)) :: L)) q.tickets.length ?_ ?_
  · refine ⟨0, vd, rd, by omega, by omega, ?_⟩
    try simp (disch := (first | omega | assumption | (simp only [lc0, ln0, la0]; first | done | omega) | (simp (disch := assumption) only [go_sem, one_as, Nat.reduceBEq]; done) | fail)) only [hva, go_sem, Hold.p, HoldK.k, HoldL.K, HoldL.body, Nat.reduceBEq, Nat.reduceAdd, reduceIte]
    refine ⟨rfl, hvd1, ?_⟩
    have e0 : ds ++ endD code zs [] = ds := by simp [endD]
    rw [e0]
    have S := by simpa only [mc0, mn0, List.getD_cons_zero, List.getD_cons_succ, ds0, dz0, ca0, na0] using Sp.sel S 2 [1, 0] (by simp only [lc0]; omega) (by decide) (by decide)
    exact S
  · clear S
    rintro m e g ⟨k, vd', rd', rfl, hk, e0, e1, e2, e3, e8, e9, zd, S⟩
    have hvt' : SlR g 1 vt (intRows q.tickets) := by
      obtain ⟨vt', h1, h2⟩ := qn_at S 3 rfl hq
      rw [hrow0] at h1
      simp only [qnRow, Option.some.injEq, List.cons.injEq, and_true, true_and] at h1
      rw [h1]; exact h2
    have htl := hvt'.lenF
    rw [intRows_len] at htl
    unfold qnRow at S
    have q0 := (S.bx 0 rfl).eq
    have q1 := (S.bx 1 rfl).eq
    try simp (disch := (first | omega | assumption | (simp only [lc0, ln0, la0]; first | done | omega) | (simp (disch := assumption) only [go_sem, one_as, Nat.reduceBEq]; done) | fail)) only [q0, q1, e0, e1, e2, e3, e8, e9, htl, hvt1, go_sem, Hold.p, HoldK.k, HoldL.K, HoldL.body, Nat.reduceBEq, Nat.reduceAdd, reduceIte]
    refine test_dec (fun hb => ?_) (fun hb => ?_)
    · obtain ⟨t, ht⟩ : ∃ t, q.tickets[k]? = some t := ⟨_, List.getElem?_eq_getElem (by omega : k < q.tickets.length)⟩
      obtain ⟨l2, j2, hia2, hll2, har2⟩ := hvt'.at (intRows_at ht) .i64
      have hc2 := cellO_row har2
      have q0 := (S.bx 0 rfl).eq
      have q1 := (S.bx 1 rfl).eq
      try simp (disch := (first | omega | assumption | (simp only [lc0, ln0, la0]; first | done | omega) | (simp (disch := assumption) only [go_sem, one_as, Nat.reduceBEq]; done) | fail)) only [q0, q1, e0, e1, e2, e3, e8, e9, htl, hvt1, hia2, har2, hc2, go_sem, Hold.p, HoldK.k, HoldL.K, HoldL.body, Nat.reduceBEq, Nat.reduceAdd, reduceIte]
      refine callA_of (l19Addrs_c S va zs (ha g (S.dn 6)) (by omega)) ?_
      clear S
      rintro r5 g5 ⟨z5, S⟩
      have hvt5 : SlR g5 1 vt (intRows q.tickets) := by
        obtain ⟨vt', h1, h2⟩ := qn_at S 4 rfl hq
        rw [hrow0] at h1
        simp only [qnRow, Option.some.injEq, List.cons.injEq, and_true, true_and] at h1
        rw [h1]; exact h2
      obtain ⟨hia5, har5⟩ := hvt'.at_eq hvt5 (intRows_at ht) hia2
      have hc5 := cellO_row har5
      have q1 := (S.bx 1 rfl).eq
      have q2 := (S.bx 2 rfl).eq
      try simp (disch := (first | omega | assumption | (simp only [lc0, ln0, la0]; first | done | omega) | (simp (disch := assumption) only [go_sem, one_as, Nat.reduceBEq]; done) | fail)) only [q1, q2, e0, e1, e2, e3, e8, e9, z5, hia5, hc5, ca0, na0, lay_p, go_sem, Hold.p, HoldK.k, HoldL.K, HoldL.body, Nat.reduceBEq, Nat.reduceAdd, reduceIte]
      refine Sp.bsl1 S (by first | rfl | (rw [cells_one (by assumption)]; rfl)) (by first | rfl | simp (disch := assumption) only [go_sem, cells_one, one_as]) fun p6 g6 S E_g6 l_g6 => ?_
      try simp only [cells_agg, cells_int, cells_bool, cells_ptr, cells_str] at S
      have hvt6 : SlR g6 1 vt (intRows q.tickets) := by
        obtain ⟨vt', h1, h2⟩ := qn_at S 5 rfl hq
        rw [hrow0] at h1
        simp only [qnRow, Option.some.injEq, List.cons.injEq, and_true, true_and] at h1
        rw [h1]; exact h2
      obtain ⟨hia6, har6⟩ := hvt'.at_eq hvt6 (intRows_at ht) hia2
      have hc6 := cellO_row har6
      have hdl6 := a2_len S 7 rfl
      rw [la0] at hdl6
      have hel : (endD code zs (q.tickets.take k)).length ≤ q.tickets.length := by simp [endD]; omega
      have q0 := (S.bx 0 rfl).eq
      have q2 := (S.bx 2 rfl).eq
      have q3 := (S.bx 3 rfl).eq
      have s6 := S.slA 6 rfl
      have len_s6 := s6.lenF
      have z6 := s6.one
      try simp (disch := (first | omega | assumption | (simp only [lc0, ln0, la0]; first | done | omega) | (simp (disch := assumption) only [go_sem, one_as, Nat.reduceBEq]; done) | fail)) only [q0, q2, q3, len_s6, z6, e0, e1, e2, e3, e8, e9, hia6, hc6, go_sem, Hold.p, HoldK.k, HoldL.K, HoldL.body, Nat.reduceBEq, Nat.reduceAdd, reduceIte]
      have S := by simpa only [mc0, mn0, List.getD_cons_zero, List.getD_cons_succ, ds0, dz0, ca0, na0] using Sp.sel S 8 [0, 6, 1, 2, 3, 4, 5, 7] (by simp only [lc0]; omega) (by decide) (by decide)
      refine S.app1 (y := false) (b := 40) (by omega) ?_
      clear S
      intro v7 g7 S z7
      have hvt7 : SlR g7 1 vt (intRows q.tickets) := by
        obtain ⟨vt', h1, h2⟩ := qn_at S 5 rfl hq
        rw [hrow0] at h1
        simp only [qnRow, Option.some.injEq, List.cons.injEq, and_true, true_and] at h1
        rw [h1]; exact h2
      obtain ⟨hia7, har7⟩ := hvt'.at_eq hvt7 (intRows_at ht) hia2
      have hc7 := cellO_row har7
      have q2 := (S.bx 2 rfl).eq
      have q3 := (S.bx 3 rfl).eq
      try simp (disch := (first | omega | assumption | (simp only [lc0, ln0, la0]; first | done | omega) | (simp (disch := assumption) only [go_sem, one_as, Nat.reduceBEq]; done) | fail)) only [q2, q3, e0, e1, e2, e3, e8, e9, hia7, hc7, z7, go_sem, Hold.p, HoldK.k, HoldL.K, HoldL.body, Nat.reduceBEq, Nat.reduceAdd, reduceIte]
      refine st1_of (Nat.le_of_ble_eq_true rfl) (by first | rfl | assumption) fun g8 hg => ?_
      have l_g8 := n_set hg
      have S := S.set2 hg
      clear hg
      simp only [sz0, ss0, ts0, tz0, ds0, dz0, ca0, na0, Nat.reduceAdd] at S
      have w1 : wr .i64 ((k : Int) + 1) = ((k + 1 : Nat) : Int) := by rw [wr64 _ (by omega)]; rfl
      have hda := hd
      have q2 := (S.bx 2 rfl).eq
      have q3 := (S.bx 3 rfl).eq
      try simp (disch := (first | omega | assumption | (simp only [lc0, ln0, la0]; first | done | omega) | (simp (disch := assumption) only [go_sem, one_as, Nat.reduceBEq]; done) | fail)) only [q2, q3, e0, e1, e2, e3, e8, e9, w1, go_sem, Hold.p, HoldK.k, HoldL.K, HoldL.body, Nat.reduceBEq, Nat.reduceAdd, reduceIte]
      have he : ds ++ endD code zs (q.tickets.take (k + 1)) = ds ++ endD code zs (q.tickets.take k) ++ [⟨t, code, zs⟩] := by
        rw [take_snoc ht]; simp [endD]
      have S := by simpa only [mc0, mn0, List.getD_cons_zero, List.getD_cons_succ, ds0, dz0, ca0, na0] using Sp.sel S 2 [1, 0] (by simp only [lc0]; omega) (by decide) (by decide)
      have S := (dn_un (d := ⟨t, code, zs⟩) S z5).a2one
      have S := by simpa only [mc0, mn0, List.getD_cons_zero, List.getD_cons_succ, ds0, dz0, ca0, na0] using Sp.sel S 7 [6, 0, 1, 2, 3, 4, 5] (by simp only [lc0]; omega) (by decide) (by decide)
      have S := S.a2join
      rw [← he] at S
      have S := by simpa only [mc0, mn0, List.getD_cons_zero, List.getD_cons_succ, ds0, dz0, ca0, na0] using Sp.sel S 6 [2, 3, 4, 5, 1, 0] (by simp only [lc0]; omega) (by decide) (by decide)
      exact ⟨q.tickets.length - (k + 1), by omega, k + 1, v7, _, rfl, by omega, rfl, z7, S⟩
    · have hk2 : k = q.tickets.length := by omega
      subst hk2
      rw [List.take_length] at S
      have S := by simpa only [mc0, mn0, List.getD_cons_zero, List.getD_cons_succ, ds0, dz0, ca0, na0] using Sp.sel S 6 [0, 2, 3, 4, 5] (by simp only [lc0]; omega) (by decide) (by decide)
      have q0 := (S.bx 0 rfl).eq
      have s1 := S.slA 1 rfl
      have len_s1 := s1.lenF
      have z1 := s1.one
      try simp (disch := (first | omega | assumption | (simp only [lc0, ln0, la0]; first | done | omega) | (simp (disch := assumption) only [go_sem, one_as, Nat.reduceBEq]; done) | fail)) only [q0, len_s1, z1, e0, e1, e2, e3, e8, e9, go_sem, Hold.p, HoldK.k, HoldL.K, HoldL.body, Nat.reduceBEq, Nat.reduceAdd, reduceIte]
      generalize ds ++ endD code zs q.tickets = ds2 at S ⊢
      refine loop_at (fun m e g => ∃ (k : Nat) (vn : IV), m = qs.length - k ∧ k ≤ qs.length ∧ e 0 = .ptr w 0 0 ∧ e 1 = .int .i64 (i : Nat) ∧ e 10 = vn ∧ e 11 = .int .i64 (k : Nat) ∧ vn.one = true ∧
        Sp g (sl false 119 6 vn ((rq.take k).eraseIdx i) :: box w (wdO vs first now n vq vk code0 vx vd' ent ask) :: sl false 119 6 vq rq :: all2 qnR rq qs :: sl false 99 3 vd' rd' :: all2 dnR rd' ds2 :: L)) qs.length ?_ ?_
      · refine ⟨0, .eslice true, by omega, by omega, ?_⟩
        try simp (disch := (first | omega | assumption | (simp only [lc0, ln0, la0]; first | done | omega) | (simp (disch := assumption) only [go_sem, one_as, Nat.reduceBEq]; done) | fail)) only [e0, e1, go_sem, Hold.p, HoldK.k, HoldL.K, HoldL.body, Nat.reduceBEq, Nat.reduceAdd, reduceIte]
        exact ⟨rfl, by simpa using S.slEmpty (x := false) (el := 119) (sz := 6)⟩
      · clear S
        rintro m e g ⟨k, vn, rfl, hk, f0, f1, f10, f11, zn, S⟩
        have q1 := (S.bx 1 rfl).eq
        have s2 := S.slA 2 rfl
        have len_s2 := s2.lenF
        have z2 := s2.one
        try simp (disch := (first | omega | assumption | (simp only [lc0, ln0, la0]; first | done | omega) | (simp (disch := assumption) only [go_sem, one_as, Nat.reduceBEq]; done) | fail)) only [q1, len_s2, z2, f0, f1, f10, f11, go_sem, Hold.p, HoldK.k, HoldL.K, HoldL.body, Nat.reduceBEq, Nat.reduceAdd, reduceIte]
        refine test_dec (fun hb => ?_) (fun hb => ?_)
        · obtain ⟨y, hy⟩ : ∃ y, qs[k]? = some y := ⟨_, List.getElem?_eq_getElem (by omega : k < qs.length)⟩
          obtain ⟨vy, hyr, hyt⟩ := qn_at S 3 rfl hy
          have y1 := hyt.one
          obtain ⟨l4, j4, hia4, _, har4⟩ := (S.slA 2 rfl).at hyr .i64
          have wk : wr .i64 ((k : Int) + 1) = ((k + 1 : Nat) : Int) := by rw [wr64 _ (by omega)]; rfl
          have het := erase_take (i := i) hyr
          unfold qnRow at har4 het
          have hlen : ((rq.take k).eraseIdx i).length ≤ 1000000 := by
            have := List.length_eraseIdx_le (rq.take k) i
            rw [List.length_take] at this
            omega
          have q1 := (S.bx 1 rfl).eq
          have s2 := S.slA 2 rfl
          have len_s2 := s2.lenF
          have z2 := s2.one
          try simp (disch := (first | omega | assumption | (simp only [lc0, ln0, la0]; first | done | omega) | (simp (disch := assumption) only [go_sem, one_as, Nat.reduceBEq]; done) | fail)) only [q1, len_s2, z2, f0, f1, f10, f11, go_sem, Hold.p, HoldK.k, HoldL.K, HoldL.body, Nat.reduceBEq, Nat.reduceAdd, reduceIte]
          by_cases hki : k = i
          · have d1 : decide ((k : Int) = (i : Int)) = true := decide_eq_true (by omega)
            rw [if_pos hki] at het
            have q1 := (S.bx 1 rfl).eq
            have s2 := S.slA 2 rfl
            have len_s2 := s2.lenF
            have z2 := s2.one
            try simp (disch := (first | omega | assumption | (simp only [lc0, ln0, la0]; first | done | omega) | (simp (disch := assumption) only [go_sem, one_as, Nat.reduceBEq]; done) | fail)) only [q1, len_s2, z2, f0, f1, f10, f11, d1, wk, Bool.not_true, go_sem, Hold.p, HoldK.k, HoldL.K, HoldL.body, Nat.reduceBEq, Nat.reduceAdd, reduceIte]
            exact ⟨qs.length - (k + 1), by omega, k + 1, vn, rfl, by omega, rfl, rfl, zn, by rw [het]; exact S⟩
          · have d1 : decide ((k : Int) = (i : Int)) = false := decide_eq_false (by omega)
            rw [if_neg hki] at het
            have q1 := (S.bx 1 rfl).eq
            have s2 := S.slA 2 rfl
            have len_s2 := s2.lenF
            have z2 := s2.one
            try simp (disch := (first | omega | assumption | (simp only [lc0, ln0, la0]; first | done | omega) | (simp (disch := assumption) only [go_sem, one_as, Nat.reduceBEq]; done) | fail)) only [q1, len_s2, z2, f0, f1, f10, f11, d1, Bool.not_false, hia4, har4, y1, go_sem, Hold.p, HoldK.k, HoldL.K, HoldL.body, Nat.reduceBEq, Nat.reduceAdd, reduceIte]
            refine Sp.bsl1 S (by first | rfl | (rw [cells_one (by assumption)]; rfl)) (by first | rfl | simp (disch := assumption) only [go_sem, cells_one, one_as]) fun p11 g11 S E_g11 l_g11 => ?_
            try simp only [cells_agg, cells_int, cells_bool, cells_ptr, cells_str] at S
            have q0 := (S.bx 0 rfl).eq
            have s1 := S.slA 1 rfl
            have len_s1 := s1.lenF
            have z1 := s1.one
            try simp (disch := (first | omega | assumption | (simp only [lc0, ln0, la0]; first | done | omega) | (simp (disch := assumption) only [go_sem, one_as, Nat.reduceBEq]; done) | fail)) only [q0, len_s1, z1, f0, f1, f10, f11, go_sem, Hold.p, HoldK.k, HoldL.K, HoldL.body, Nat.reduceBEq, Nat.reduceAdd, reduceIte]
            refine S.app1 (y := false) (b := 72) (by omega) ?_
            clear S
            intro v12 g12 S z12
            try simp (disch := (first | omega | assumption | (simp only [lc0, ln0, la0]; first | done | omega) | (simp (disch := assumption) only [go_sem, one_as, Nat.reduceBEq]; done) | fail)) only [f0, f1, f10, f11, wk, go_sem, Hold.p, HoldK.k, HoldL.K, HoldL.body, Nat.reduceBEq, Nat.reduceAdd, reduceIte]
            exact ⟨qs.length - (k + 1), by omega, k + 1, v12, rfl, by omega, rfl, rfl, z12, by rw [het]; exact S⟩
        · have hk3 : k = qs.length := by omega
          subst hk3
          rw [List.take_of_length_le (by omega)] at S
          have q1 := (S.bx 1 rfl).eq
          try simp (disch := (first | omega | assumption | (simp only [lc0, ln0, la0]; first | done | omega) | (simp (disch := assumption) only [go_sem, one_as, Nat.reduceBEq]; done) | fail)) only [q1, f0, f1, f10, f11, zn, go_sem, Hold.p, HoldK.k, HoldL.K, HoldL.body, Nat.reduceBEq, Nat.reduceAdd, reduceIte]
          refine st1_of (Nat.le_of_ble_eq_true rfl) (by first | rfl | assumption) fun g13 hg => ?_
          have l_g13 := n_set hg
          have S := S.set1 hg
          clear hg
          simp only [sz0, ss0, ts0, tz0, ds0, dz0, ca0, na0, Nat.reduceAdd] at S
          try simp (disch := (first | omega | assumption | (simp only [lc0, ln0, la0]; first | done | omega) | (simp (disch := assumption) only [go_sem, one_as, Nat.reduceBEq]; done) | fail)) only [go_sem, Hold.p, HoldK.k, HoldL.K, HoldL.body, Nat.reduceBEq, Nat.reduceAdd, reduceIte]
          have S := by simpa only [mc0, mn0, List.getD_cons_zero, List.getD_cons_succ, ds0, dz0, ca0, na0] using Sp.sel S 6 [3, 1, 0, 4, 5] (by simp only [lc0]; omega) (by decide) (by decide)
          have S := S.a2erase i
          have S := by simpa only [mc0, mn0, List.getD_cons_zero, List.getD_cons_succ, ds0, dz0, ca0, na0] using Sp.sel S 5 [1, 2, 0, 3, 4] (by simp only [lc0]; omega) (by decide) (by decide)
          exact ⟨_, _, _, _, S⟩
end
end Go.Proofs.YtaoffieemecioaaGreatDoor

set_option maxRecDepth 20000
namespace Go.Proofs.YtaoffieemecioaaGreatDoor
open Go Go.IW
section
attribute [local go_sem] List.getElem?_cons_zero List.getElem?_cons_succ Option.bind_some List.map_cons List.map_nil Nat.zero_add if_true List.getD_cons_zero List.getD_cons_succ List.contains_cons List.contains_nil Bool.or_true Bool.true_or Bool.or_false Bool.false_or Bool.not_true Bool.not_false true_and and_true rowA_whole mid_get rowO_rows cellO_rows upd_ne Nat.add_assoc Nat.add_zero List.all_cons List.all_nil one_bool one_int one_str one_ptr one_nilptr one_slice one_eslice one_nilslice one_func one_iface one_niliface Bool.and_true Bool.and_self List.length_cons List.length_nil Nat.one_ne_zero Nat.succ_ne_zero if_false List.set_cons_zero List.set_cons_succ lay_nil lay_1 lay_w Option.map_some cells_one rowA_some List.drop_succ_cons List.drop_zero List.take_succ_cons List.take_zero

def askQ (first : Int) (servers : List Int) (now n : Int) (q : Qn) : Qn := { q with id := (first + 7919 * n).tmod 65536, server := servers.getD (q.asks.toNat % servers.length) 0, asks := q.asks + 1, due := now + 2000 }
def againS (first : Int) (servers : List Int) (st : Rs) (i : Nat) : Rs :=
  match st.l[i]? with
  | none => st
  | some q =>
    if 4 ≤ q.asks then { st with l := st.l.eraseIdx i, done := st.done ++ endD 15 [] q.tickets }
    else { st with n := st.n + 1, l := st.l.set i (askQ first servers st.now st.n q), sent := st.sent ++ [⟨(askQ first servers st.now st.n q).server, (encQ (askQ first servers st.now st.n q).id q.name).1⟩] }
def WS (h : IH) (w : Nat) (vs : IV) (first : Int) (st : Rs) (code ent ask : Int) (L : List As) : Prop :=
  ∃ vq vk vx vd rq rk rx rd, Sp h (box w (wdO vs first st.now st.n vq vk code vx vd ent ask) :: sl false 119 6 vq rq :: all2 qnR rq st.l :: sl false 99 3 vd rd :: all2 dnR rd st.done ::
    sl false 117 4 vk rk :: all2 knR rk st.cache :: sl false 111 2 vx rx :: all2 sdR rx st.sent :: L)
theorem sd_un {h : IH} {L : List As} {s : Sd} {vb : IV} (S : Sp h (byts vb s.bytes :: L)) (h1 : vb.one = true) : Sp h (sdR (sdRow s vb) s :: L) := by
  have S := S.unfact (p := sdRow s vb = sdRow s vb ∧ vb.one = true) ⟨rfl, h1⟩
  exact Sp.unex (F := fun v : IV => stars (fact (sdRow s vb = sdRow s v ∧ v.one = true)) (byts v s.bytes)) vb S.unstar
theorem qn_set {h : IH} {L : List As} {rs : List (List IV)} {qs : List Qn} {i : Nat} {q q' : Qn} {vt : IV} (S : Sp h (all2 qnR rs qs :: L)) (hq : qs[i]? = some q) (hr : rs[i]? = some (qnRow q vt)) (ht : q'.tickets = q.tickets) : Sp h (all2 qnR (rs.set i (qnRow q' vt)) (qs.set i q') :: L) := by
  obtain ⟨a1, r, b1, x1, y1, e1, e2, l1, l2, S2⟩ := S.a2at hq
  have hrr : r = qnRow q vt := by
    rw [e1, List.getElem?_append_right (by omega), l1, Nat.sub_self] at hr
    simpa using hr
  have f1 : rs.set i (qnRow q' vt) = a1 ++ qnRow q' vt :: b1 := by rw [e1, List.set_append_right _ _ (by omega), l1, Nat.sub_self]; rfl
  have f2 : qs.set i q' = x1 ++ q' :: y1 := by rw [e2, List.set_append_right _ _ (by omega), l2, Nat.sub_self]; rfl
  rw [f1, f2]
  have S3 : Sp h (qnR (qnRow q' vt) q' :: all2 qnR a1 x1 :: all2 qnR b1 y1 :: L) := S2.imp fun f hf => by
    obtain ⟨v, g1, g2, e, ⟨k1, k2, k3⟩, k4⟩ := hf
    rw [hrr] at k2
    simp only [qnRow, List.cons.injEq, and_true, true_and] at k2
    subst k2
    exact ⟨f, ⟨vt, g1, g2, e, ⟨k1, rfl, k3⟩, by rw [ht]; exact k4⟩, List.Sublist.refl _⟩
  exact S3.a2mid
set_option maxHeartbeats 2000000 in
theorem l19Again_c {h : IH} {L : List As} {w : Nat} {vs : IV} {first code ent ask : Int} {st : Rs} {servers : List Int} {i : Nat} {q : Qn} (W : WS h w vs first st code ent ask L) (hv : ∀ g, Sp g L → SlR g 1 vs (intRows servers))
    (hq : st.l[i]? = some q) (f0 : 0 ≤ first) (f1 : first ≤ 65535) (n0 : 0 ≤ st.n) (n1 : st.n ≤ 1000000000000) (t0 : 0 ≤ st.now) (t1 : st.now ≤ 1000000000) (a0 : 0 ≤ q.asks) (s0 : servers ≠ []) (s1 : servers.length ≤ 4)
    (hm : st.l.length ≤ 1000000) (hd : st.done.length + q.tickets.length ≤ 1000000) (hx : st.sent.length ≤ 1000000) (hn : q.name.length ≤ 1048576) :
    ICalls Tryz.prog 70 [.ptr w 0 0, .int .i64 (i : Nat)] h fun r h' => WS h' w vs first (againS first servers st i) code ent ask L := by
  refine icalls (.of ok70) (Nat.le_of_ble_eq_true rfl) ?_
  unfold c70
  obtain ⟨vq, vk, vx, vd, rq, rk, rx, rd, S⟩ := W
  have hql := a2_len S 2 rfl
  have hdl := a2_len S 4 rfl
  have hxl := a2_len S 8 rfl
  obtain ⟨vt, hrow, hvt⟩ := qn_at S 2 rfl hq
  have hvt1 := hvt.one
  obtain ⟨l, j, hia, hll, har⟩ := (S.slA 1 rfl).at hrow .i64
  have hil := (List.getElem?_eq_some_iff.1 hq).1
  have hrow0 := hrow
  unfold qnRow at har
  have q0 := (S.bx 0 rfl).eq
  have s1 := S.slA 1 rfl
  have len_s1 := s1.lenF
  have z1 := s1.one
  try simp (disch := (first | omega | assumption | (simp only [lc0, ln0, la0]; first | done | omega) | (simp (disch := assumption) only [go_sem, one_as, Nat.reduceBEq]; done) | fail)) only [q0, len_s1, z1, hia, har, go_sem, Hold.p, HoldK.k, HoldL.K, HoldL.body, Nat.reduceBEq, Nat.reduceAdd, reduceIte]
  refine Sp.zero S fun p8 g1 S E_g1 l_g1 => ?_
  have q0 := (S.bx 0 rfl).eq
  try simp (disch := (first | omega | assumption | (simp only [lc0, ln0, la0]; first | done | omega) | (simp (disch := assumption) only [go_sem, one_as, Nat.reduceBEq]; done) | fail)) only [q0, hvt1, go_sem, Hold.p, HoldK.k, HoldL.K, HoldL.body, Nat.reduceBEq, Nat.reduceAdd, reduceIte]
  refine stw_of rfl rfl (by first | rfl | simp (disch := assumption) only [go_sem, cells_one, one_as]) fun g2 hg => ?_
  have l_g2 := n_set hg
  have S := S.set0 hg
  clear hg
  have q0 := (S.bx 0 rfl).eq
  try simp (disch := (first | omega | assumption | (simp only [lc0, ln0, la0]; first | done | omega) | (simp (disch := assumption) only [go_sem, one_as, Nat.reduceBEq]; done) | fail)) only [q0, go_sem, Hold.p, HoldK.k, HoldL.K, HoldL.body, Nat.reduceBEq, Nat.reduceAdd, reduceIte]
  refine test_dec (fun hb => ?_) (fun hb => ?_)
  · skip
    try simp (disch := (first | omega | assumption | (simp only [lc0, ln0, la0]; first | done | omega) | (simp (disch := assumption) only [go_sem, one_as, Nat.reduceBEq]; done) | fail)) only [go_sem, Hold.p, HoldK.k, HoldL.K, HoldL.body, Nat.reduceBEq, Nat.reduceAdd, reduceIte]
    have S := by simpa only [mc0, mn0, List.getD_cons_zero, List.getD_cons_succ, ds0, dz0, ca0, na0] using Sp.sel S 10 [1, 2, 3, 4, 5, 6, 7, 8, 9] (by simp only [lc0]; omega) (by decide) (by decide)
    refine callA_of (l19End_c (zs := []) (code := 15) S (fun g _ => SlR.nil g 1) hq (by omega) (by omega) (by simp)) ?_
    clear S
    rintro r3 g3 ⟨vq', vd', rq', rd', S⟩
    try simp (disch := (first | omega | assumption | (simp only [lc0, ln0, la0]; first | done | omega) | (simp (disch := assumption) only [go_sem, one_as, Nat.reduceBEq]; done) | fail)) only [go_sem, Hold.p, HoldK.k, HoldL.K, HoldL.body, Nat.reduceBEq, Nat.reduceAdd, reduceIte]
    unfold againS
    rw [hq]
    simp only [if_pos hb]
    exact ⟨vq', vk, vx, vd', rq', rk, rx, rd', S⟩
  · have w1 : wr .i64 (7919 * st.n) = 7919 * st.n := wr64 _ (by omega)
    have w2 : wr .i64 (first + 7919 * st.n) = first + 7919 * st.n := wr64 _ (by omega)
    have r1 := ib_rem .i64 (first + 7919 * st.n) 65536 (by decide)
    have q0 := (S.bx 0 rfl).eq
    have q1 := (S.bx 1 rfl).eq
    try simp (disch := (first | omega | assumption | (simp only [lc0, ln0, la0]; first | done | omega) | (simp (disch := assumption) only [go_sem, one_as, Nat.reduceBEq]; done) | fail)) only [q0, q1, w1, w2, r1, go_sem, Hold.p, HoldK.k, HoldL.K, HoldL.body, Nat.reduceBEq, Nat.reduceAdd, reduceIte]
    refine st1_of (Nat.le_of_ble_eq_true rfl) (by first | rfl | assumption) fun g3 hg => ?_
    have l_g3 := n_set hg
    have S := S.set0 hg
    clear hg
    simp only [sz0, ss0, ts0, tz0, ds0, dz0, ca0, na0, Nat.reduceAdd] at S
    have w3 : wr .i64 (st.n + 1) = st.n + 1 := wr64 _ (by omega)
    have q0 := (S.bx 0 rfl).eq
    have q1 := (S.bx 1 rfl).eq
    try simp (disch := (first | omega | assumption | (simp only [lc0, ln0, la0]; first | done | omega) | (simp (disch := assumption) only [go_sem, one_as, Nat.reduceBEq]; done) | fail)) only [q0, q1, w3, go_sem, Hold.p, HoldK.k, HoldL.K, HoldL.body, Nat.reduceBEq, Nat.reduceAdd, reduceIte]
    refine st1_of (Nat.le_of_ble_eq_true rfl) (by first | rfl | assumption) fun g4 hg => ?_
    have l_g4 := n_set hg
    have S := S.set1 hg
    clear hg
    simp only [sz0, ss0, ts0, tz0, ds0, dz0, ca0, na0, Nat.reduceAdd] at S
    have hv4 := hv g4 (S.dn 10)
    have hv1 := hv4.one
    have hvl := hv4.lenF
    rw [intRows_len] at hvl
    have hs0 : 0 < servers.length := List.length_pos_iff.2 s0
    obtain ⟨k, hk⟩ : ∃ k, k = q.asks.toNat % servers.length := ⟨_, rfl⟩
    have hkl : k < servers.length := by rw [hk]; exact Nat.mod_lt _ hs0
    have r2 := ib_rem .i64 q.asks (servers.length : Int) (by omega)
    have r2' : q.asks.tmod (servers.length : Int) = (k : Int) := by
      rw [Int.tmod_eq_emod_of_nonneg a0, hk]
      obtain ⟨a, ha⟩ : ∃ a : Nat, q.asks = (a : Int) := ⟨q.asks.toNat, by omega⟩
      rw [ha]; simp
    rw [r2'] at r2
    obtain ⟨sv, hsv⟩ : ∃ sv, servers[k]? = some sv := ⟨_, List.getElem?_eq_getElem hkl⟩
    obtain ⟨l5, j5, hia5, _, har5⟩ := hv4.at (intRows_at hsv) .i64
    have hc5 := cellO_row har5
    have hgd : servers.getD (q.asks.toNat % servers.length) 0 = sv := by rw [← hk, List.getD_eq_getElem?_getD, hsv]; rfl
    have q0 := (S.bx 0 rfl).eq
    have q1 := (S.bx 1 rfl).eq
    try simp (disch := (first | omega | assumption | (simp only [lc0, ln0, la0]; first | done | omega) | (simp (disch := assumption) only [go_sem, one_as, Nat.reduceBEq]; done) | fail)) only [q0, q1, hvl, r2, hia5, hc5, hv1, go_sem, Hold.p, HoldK.k, HoldL.K, HoldL.body, Nat.reduceBEq, Nat.reduceAdd, reduceIte]
    refine st1_of (Nat.le_of_ble_eq_true rfl) (by first | rfl | assumption) fun g5 hg => ?_
    have l_g5 := n_set hg
    have S := S.set0 hg
    clear hg
    simp only [sz0, ss0, ts0, tz0, ds0, dz0, ca0, na0, Nat.reduceAdd] at S
    have w4 : wr .i64 (q.asks + 1) = q.asks + 1 := by
      by_cases hbig : q.asks < 4
      · exact wr64 _ (by omega)
      · omega
    have q0 := (S.bx 0 rfl).eq
    have q1 := (S.bx 1 rfl).eq
    try simp (disch := (first | omega | assumption | (simp only [lc0, ln0, la0]; first | done | omega) | (simp (disch := assumption) only [go_sem, one_as, Nat.reduceBEq]; done) | fail)) only [q0, q1, w4, go_sem, Hold.p, HoldK.k, HoldL.K, HoldL.body, Nat.reduceBEq, Nat.reduceAdd, reduceIte]
    refine st1_of (Nat.le_of_ble_eq_true rfl) (by first | rfl | assumption) fun g6 hg => ?_
    have l_g6 := n_set hg
    have S := S.set0 hg
    clear hg
    simp only [sz0, ss0, ts0, tz0, ds0, dz0, ca0, na0, Nat.reduceAdd] at S
    have w5 : wr .i64 (st.now + 2000) = st.now + 2000 := wr64 _ (by omega)
    have q0 := (S.bx 0 rfl).eq
    have q1 := (S.bx 1 rfl).eq
    try simp (disch := (first | omega | assumption | (simp only [lc0, ln0, la0]; first | done | omega) | (simp (disch := assumption) only [go_sem, one_as, Nat.reduceBEq]; done) | fail)) only [q0, q1, w5, go_sem, Hold.p, HoldK.k, HoldL.K, HoldL.body, Nat.reduceBEq, Nat.reduceAdd, reduceIte]
    refine st1_of (Nat.le_of_ble_eq_true rfl) (by first | rfl | assumption) fun g7 hg => ?_
    have l_g7 := n_set hg
    have S := S.set0 hg
    clear hg
    simp only [sz0, ss0, ts0, tz0, ds0, dz0, ca0, na0, Nat.reduceAdd] at S
    have S := by simpa only [mc0, mn0, List.getD_cons_zero, List.getD_cons_succ, ds0, dz0, ca0, na0] using Sp.sel S 4 [2, 0, 1, 3] (by simp only [lc0]; omega) (by decide) (by decide)
    have S0 := S
    clear S
    obtain ⟨lq, hvq, S⟩ := S0.slBox (by rintro rfl; simp at hrow)
    clear S0
    have io : iadrO (IObj.rows rq 119 6 false) 6 lq 0 rq.length (i : Int) = some (.ptr lq i 0) := by rw [iadrO_nat (by omega)]; simp
    have q0 := (S.bx 0 rfl).eq
    have q1 := (S.bx 1 rfl).eq
    have q2 := (S.bx 2 rfl).eq
    try simp (disch := (first | omega | assumption | (simp only [lc0, ln0, la0]; first | done | omega) | (simp (disch := assumption) only [go_sem, one_as, Nat.reduceBEq]; done) | fail)) only [q0, q1, q2, hvq, iadrF_sl, io, hvt1, go_sem, Hold.p, HoldK.k, HoldL.K, HoldL.body, Nat.reduceBEq, Nat.reduceAdd, reduceIte]
    refine str_of hrow0 rfl rfl (by simp (disch := assumption) only [go_sem, cells_one, one_as]) fun g8 hg => ?_
    have l_g8 := n_set hg
    have S := S.set0 hg
    clear hg
    have hq' : askQ first servers st.now st.n q = { q with id := (first + 7919 * st.n).tmod 65536, server := sv, asks := q.asks + 1, due := st.now + 2000 } := by unfold askQ; rw [hgd]
    have S0 := S
    clear S
    have S := S0.boxSl (n := rq.length) (x := false) (by simp) (.inr (by intro h0; have := congrArg List.length h0; simp at this; rw [this] at hrow; simp at hrow))
    clear S0
    rw [← hvq] at S
    have S := by simpa only [mc0, mn0, List.getD_cons_zero, List.getD_cons_succ, ds0, dz0, ca0, na0] using Sp.sel S 4 [3, 0, 1, 2] (by simp only [lc0]; omega) (by decide) (by decide)
    have S := qn_set (q' := { q with id := (first + 7919 * st.n).tmod 65536, server := sv, asks := q.asks + 1, due := st.now + 2000 }) S hq hrow0 rfl
    have q2 := (S.bx 2 rfl).eq
    have q3 := (S.bx 3 rfl).eq
    try simp (disch := (first | omega | assumption | (simp only [lc0, ln0, la0]; first | done | omega) | (simp (disch := assumption) only [go_sem, one_as, Nat.reduceBEq]; done) | fail)) only [q2, q3, ca0, na0, lay_p, go_sem, Hold.p, HoldK.k, HoldL.K, HoldL.body, Nat.reduceBEq, Nat.reduceAdd, reduceIte]
    refine callA_of (specEncodeQuery_c g8 ((first + 7919 * st.n).tmod 65536) q.name hn) ?_
    rintro r9 g9 ⟨v9, rfl, o9, E9⟩
    have S := S.ofOwn E9 o9
    have y9 := o9.sl.one
    have q3 := (S.bx 3 rfl).eq
    have q4 := (S.bx 4 rfl).eq
    have s9 := S.slA 9 rfl
    have len_s9 := s9.lenF
    have z9 := s9.one
    try simp (disch := (first | omega | assumption | (simp only [lc0, ln0, la0]; first | done | omega) | (simp (disch := assumption) only [go_sem, one_as, Nat.reduceBEq]; done) | fail)) only [q3, q4, len_s9, z9, y9, ca0, na0, lay_p, go_sem, Hold.p, HoldK.k, HoldL.K, HoldL.body, Nat.reduceBEq, Nat.reduceAdd, reduceIte]
    refine Sp.bsl1 S (by first | rfl | (rw [cells_one (by assumption)]; rfl)) (by first | rfl | simp (disch := assumption) only [go_sem, cells_one, one_as]) fun p10 g10 S E_g10 l_g10 => ?_
    try simp only [cells_agg, cells_int, cells_bool, cells_ptr, cells_str] at S
    have q0 := (S.bx 0 rfl).eq
    have q4 := (S.bx 4 rfl).eq
    have q5 := (S.bx 5 rfl).eq
    have s10 := S.slA 10 rfl
    have len_s10 := s10.lenF
    have z10 := s10.one
    try simp (disch := (first | omega | assumption | (simp only [lc0, ln0, la0]; first | done | omega) | (simp (disch := assumption) only [go_sem, one_as, Nat.reduceBEq]; done) | fail)) only [q0, q4, q5, len_s10, z10, y9, go_sem, Hold.p, HoldK.k, HoldL.K, HoldL.body, Nat.reduceBEq, Nat.reduceAdd, reduceIte]
    have S := by simpa only [mc0, mn0, List.getD_cons_zero, List.getD_cons_succ, ds0, dz0, ca0, na0] using Sp.sel S 12 [0, 10, 1, 2, 3, 4, 5, 6, 7, 8, 9, 11] (by simp only [lc0]; omega) (by decide) (by decide)
    refine S.app1 (y := false) (b := 32) (by omega) ?_
    clear S
    intro v12 g12 S z12
    have q4 := (S.bx 4 rfl).eq
    have q5 := (S.bx 5 rfl).eq
    try simp (disch := (first | omega | assumption | (simp only [lc0, ln0, la0]; first | done | omega) | (simp (disch := assumption) only [go_sem, one_as, Nat.reduceBEq]; done) | fail)) only [q4, q5, z12, go_sem, Hold.p, HoldK.k, HoldL.K, HoldL.body, Nat.reduceBEq, Nat.reduceAdd, reduceIte]
    refine st1_of (Nat.le_of_ble_eq_true rfl) (by first | rfl | assumption) fun g13 hg => ?_
    have l_g13 := n_set hg
    have S := S.set5 hg
    clear hg
    simp only [sz0, ss0, ts0, tz0, ds0, dz0, ca0, na0, Nat.reduceAdd] at S
    try simp (disch := (first | omega | assumption | (simp only [lc0, ln0, la0]; first | done | omega) | (simp (disch := assumption) only [go_sem, one_as, Nat.reduceBEq]; done) | fail)) only [go_sem, Hold.p, HoldK.k, HoldL.K, HoldL.body, Nat.reduceBEq, Nat.reduceAdd, reduceIte]
    have S := by simpa only [mc0, mn0, List.getD_cons_zero, List.getD_cons_succ, ds0, dz0, ca0, na0] using Sp.sel S 2 [1, 0] (by simp only [lc0]; omega) (by decide) (by decide)
    have S := (sd_un (s := ⟨sv, (encQ ((first + 7919 * st.n).tmod 65536) q.name).1⟩) S y9).a2one
    have S := by simpa only [mc0, mn0, List.getD_cons_zero, List.getD_cons_succ, ds0, dz0, ca0, na0] using Sp.sel S 11 [10, 0, 1, 2, 3, 5, 6, 7, 8, 9] (by simp only [lc0]; omega) (by decide) (by decide)
    have S := S.a2join
    have S := by simpa only [mc0, mn0, List.getD_cons_zero, List.getD_cons_succ, ds0, dz0, ca0, na0] using Sp.sel S 9 [4, 3, 2, 5, 6, 7, 8, 1, 0] (by simp only [lc0]; omega) (by decide) (by decide)
    have hag : againS first servers st i = { st with n := st.n + 1, l := st.l.set i { q with id := (first + 7919 * st.n).tmod 65536, server := sv, asks := q.asks + 1, due := st.now + 2000 }, sent := st.sent ++ [⟨sv, (encQ ((first + 7919 * st.n).tmod 65536) q.name).1⟩] } := by
      unfold againS
      rw [hq]
      simp only [if_neg hb, hq']
    rw [hag]
    exact ⟨_, vk, _, vd, _, rk, _, rd, S⟩
end
end Go.Proofs.YtaoffieemecioaaGreatDoor

set_option maxRecDepth 20000
namespace Go.Proofs.YtaoffieemecioaaGreatDoor
open Go Go.IW
section
attribute [local go_sem] List.getElem?_cons_zero List.getElem?_cons_succ Option.bind_some List.map_cons List.map_nil Nat.zero_add if_true List.getD_cons_zero List.getD_cons_succ List.contains_cons List.contains_nil Bool.or_true Bool.true_or Bool.or_false Bool.false_or Bool.not_true Bool.not_false true_and and_true rowA_whole mid_get rowO_rows cellO_rows upd_ne Nat.add_assoc Nat.add_zero List.all_cons List.all_nil one_bool one_int one_str one_ptr one_nilptr one_slice one_eslice one_nilslice one_func one_iface one_niliface Bool.and_true Bool.and_self List.length_cons List.length_nil Nat.one_ne_zero Nat.succ_ne_zero if_false List.set_cons_zero List.set_cons_succ lay_nil lay_1 lay_w Option.map_some cells_one rowA_some List.drop_succ_cons List.drop_zero List.take_succ_cons List.take_zero

def dueOf (qs : List Qn) (b : Nat) : Int := match qs[b]? with | some q => q.due | none => 0
def dueN (e : Int) (qs : List Qn) : Nat → Option Nat
  | 0 => none
  | k + 1 => match qs[k]? with
    | none => dueN e qs k
    | some q => match dueN e qs k with
      | none => if q.due ≤ e then some k else none
      | some b => if q.due ≤ e ∧ q.due < dueOf qs b then some k else some b
def idxI : Option Nat → Int
  | none => -1
  | some k => k
theorem dueN_lt {e : Int} {qs : List Qn} : ∀ {k b : Nat}, dueN e qs k = some b → b < k ∧ b < qs.length
  | 0, b, h => by cases h
  | k + 1, b, h => by
    unfold dueN at h
    split at h
    · have := dueN_lt h; omega
    · rename_i q hq
      have hk := (List.getElem?_eq_some_iff.1 hq).1
      split at h
      · split at h
        · cases h; omega
        · cases h
      · rename_i b' hb'
        have := dueN_lt hb'
        split at h
        · cases h; omega
        · cases h; omega
set_option maxHeartbeats 1000000 in
theorem l19Due_c {h : IH} {L : List As} {w : Nat} {vs vq vk vx vd : IV} {first now n code ent ask : Int} {rq : List (List IV)} {qs : List Qn}
    (S : Sp h (box w (wdO vs first now n vq vk code vx vd ent ask) :: sl false 119 6 vq rq :: all2 qnR rq qs :: L)) (hm : qs.length ≤ 1000000) (en : Int) :
    ICalls Tryz.prog 73 [.ptr w 0 0, .int .i64 en] h fun r h' => r = .int .i64 (idxI (dueN en qs qs.length)) ∧ h' = h := by
  refine icalls (.of ok73) (Nat.le_of_ble_eq_true rfl) ?_
  unfold c73
  have hql := a2_len S 2 rfl
  try simp (disch := (first | omega | assumption | (simp only [lc0, ln0, la0]; first | done | omega) | (simp (disch := assumption) only [go_sem, one_as, Nat.reduceBEq]; done) | fail)) only [go_sem, Hold.p, HoldK.k, HoldL.K, HoldL.body, Nat.reduceBEq, Nat.reduceAdd, reduceIte]
  refine loop_at (fun m e g => ∃ k : Nat, m = qs.length - k ∧ k ≤ qs.length ∧ e 0 = .ptr w 0 0 ∧ e 1 = .int .i64 en ∧ e 5 = .int .i64 (idxI (dueN en qs k)) ∧ e 6 = .int .i64 (k : Nat) ∧ g = h) qs.length ?_ ?_
  · refine ⟨0, by omega, by omega, ?_⟩
    try simp (disch := (first | omega | assumption | (simp only [lc0, ln0, la0]; first | done | omega) | (simp (disch := assumption) only [go_sem, one_as, Nat.reduceBEq]; done) | fail)) only [go_sem, Hold.p, HoldK.k, HoldL.K, HoldL.body, Nat.reduceBEq, Nat.reduceAdd, reduceIte]
    exact ⟨rfl, rfl⟩
  · rintro m e g ⟨k, rfl, hk, e0, e1, e5, e6, rfl⟩
    have q0 := (S.bx 0 rfl).eq
    have s1 := S.slA 1 rfl
    have len_s1 := s1.lenF
    have z1 := s1.one
    try simp (disch := (first | omega | assumption | (simp only [lc0, ln0, la0]; first | done | omega) | (simp (disch := assumption) only [go_sem, one_as, Nat.reduceBEq]; done) | fail)) only [q0, len_s1, z1, e0, e1, e5, e6, go_sem, Hold.p, HoldK.k, HoldL.K, HoldL.body, Nat.reduceBEq, Nat.reduceAdd, reduceIte]
    refine test_dec (fun hb => ?_) (fun hb => ?_)
    · obtain ⟨x, hx⟩ : ∃ x, qs[k]? = some x := ⟨_, List.getElem?_eq_getElem (by omega : k < qs.length)⟩
      obtain ⟨va, hrow, hva⟩ := qn_at S 2 rfl hx
      obtain ⟨l, j, hia, hll, har⟩ := (S.slA 1 rfl).at hrow .i64
      unfold qnRow at har
      have hc := cellO_row har
      have w1 : wr .i64 ((k : Int) + 1) = ((k + 1 : Nat) : Int) := by rw [wr64 _ (by omega)]; rfl
      cases hbest : dueN en qs k with
      | none =>
        have hn : dueN en qs (k + 1) = if x.due ≤ en then some k else none := by
          show (match qs[k]? with | none => dueN en qs k | some q => _) = _
          rw [hx]
          simp only [hbest]
        rw [hbest] at e5
        have e5' : e 5 = .int .i64 (-1) := e5
        have b1 : decide ((-1 : Int) < 0) = true := rfl
        have q0 := (S.bx 0 rfl).eq
        have s1 := S.slA 1 rfl
        have len_s1 := s1.lenF
        have z1 := s1.one
        try simp (disch := (first | omega | assumption | (simp only [lc0, ln0, la0]; first | done | omega) | (simp (disch := assumption) only [go_sem, one_as, Nat.reduceBEq]; done) | fail)) only [q0, len_s1, z1, e0, e1, e5', e6, hia, hc, b1, Bool.and_false, go_sem, Hold.p, HoldK.k, HoldL.K, HoldL.body, Nat.reduceBEq, Nat.reduceAdd, reduceIte]
        refine test_of (fun ht => ?_) (fun ht => ?_)
        · rw [if_pos (by simpa using ht)] at hn
          try simp (disch := (first | omega | assumption | (simp only [lc0, ln0, la0]; first | done | omega) | (simp (disch := assumption) only [go_sem, one_as, Nat.reduceBEq]; done) | fail)) only [e0, e1, e5', e6, w1, go_sem, Hold.p, HoldK.k, HoldL.K, HoldL.body, Nat.reduceBEq, Nat.reduceAdd, reduceIte]
          exact ⟨qs.length - (k + 1), by omega, k + 1, rfl, by omega, congrArg (fun o => IV.int .i64 (idxI o)) hn.symm, rfl⟩
        · rw [if_neg (by simpa using ht)] at hn
          try simp (disch := (first | omega | assumption | (simp only [lc0, ln0, la0]; first | done | omega) | (simp (disch := assumption) only [go_sem, one_as, Nat.reduceBEq]; done) | fail)) only [e0, e1, e5', e6, w1, go_sem, Hold.p, HoldK.k, HoldL.K, HoldL.body, Nat.reduceBEq, Nat.reduceAdd, reduceIte]
          exact ⟨qs.length - (k + 1), by omega, k + 1, rfl, by omega, congrArg (fun o => IV.int .i64 (idxI o)) hn.symm, rfl⟩
      | some b =>
        obtain ⟨hb1, hb2⟩ := dueN_lt hbest
        obtain ⟨y, hy⟩ : ∃ y, qs[b]? = some y := ⟨_, List.getElem?_eq_getElem hb2⟩
        have hn : dueN en qs (k + 1) = if x.due ≤ en ∧ x.due < y.due then some k else some b := by
          show (match qs[k]? with | none => dueN en qs k | some q => _) = _
          rw [hx]
          simp only [hbest, dueOf, hy]
        obtain ⟨vb, hrow2, hvb⟩ := qn_at S 2 rfl hy
        obtain ⟨l2, j2, hia2, hll2, har2⟩ := (S.slA 1 rfl).at hrow2 .i64
        unfold qnRow at har2
        have hc2 := cellO_row har2
        rw [hbest] at e5
        have e5' : e 5 = .int .i64 (b : Nat) := e5
        have b1 : decide ((b : Int) < 0) = false := decide_eq_false (by omega)
        have q0 := (S.bx 0 rfl).eq
        have s1 := S.slA 1 rfl
        have len_s1 := s1.lenF
        have z1 := s1.one
        try simp (disch := (first | omega | assumption | (simp only [lc0, ln0, la0]; first | done | omega) | (simp (disch := assumption) only [go_sem, one_as, Nat.reduceBEq]; done) | fail)) only [q0, len_s1, z1, e0, e1, e5', e6, hia, hc, hia2, hc2, b1, go_sem, Hold.p, HoldK.k, HoldL.K, HoldL.body, Nat.reduceBEq, Nat.reduceAdd, reduceIte]
        refine test_of (fun ht => ?_) (fun ht => ?_)
        · rw [if_pos (by simpa using ht)] at hn
          try simp (disch := (first | omega | assumption | (simp only [lc0, ln0, la0]; first | done | omega) | (simp (disch := assumption) only [go_sem, one_as, Nat.reduceBEq]; done) | fail)) only [e0, e1, e5', e6, w1, go_sem, Hold.p, HoldK.k, HoldL.K, HoldL.body, Nat.reduceBEq, Nat.reduceAdd, reduceIte]
          exact ⟨qs.length - (k + 1), by omega, k + 1, rfl, by omega, congrArg (fun o => IV.int .i64 (idxI o)) hn.symm, rfl⟩
        · rw [if_neg (by simpa using ht)] at hn
          try simp (disch := (first | omega | assumption | (simp only [lc0, ln0, la0]; first | done | omega) | (simp (disch := assumption) only [go_sem, one_as, Nat.reduceBEq]; done) | fail)) only [e0, e1, e5', e6, w1, go_sem, Hold.p, HoldK.k, HoldL.K, HoldL.body, Nat.reduceBEq, Nat.reduceAdd, reduceIte]
          exact ⟨qs.length - (k + 1), by omega, k + 1, rfl, by omega, congrArg (fun o => IV.int .i64 (idxI o)) hn.symm, rfl⟩
    · have hk2 : k = qs.length := by omega
      subst hk2
      try simp (disch := (first | omega | assumption | (simp only [lc0, ln0, la0]; first | done | omega) | (simp (disch := assumption) only [go_sem, one_as, Nat.reduceBEq]; done) | fail)) only [e0, e1, e5, e6, go_sem, Hold.p, HoldK.k, HoldL.K, HoldL.body, Nat.reduceBEq, Nat.reduceAdd, reduceIte]
end
end Go.Proofs.YtaoffieemecioaaGreatDoor

set_option maxRecDepth 20000
namespace Go.Proofs.YtaoffieemecioaaGreatDoor
open Go Go.IW

theorem sum_erase {α : Type} (f : α → Nat) : ∀ {l : List α} {i : Nat} {q : α}, l[i]? = some q → ((l.eraseIdx i).map f).sum + f q = (l.map f).sum
  | [], _, _, h => by simp at h
  | x :: l, 0, q, h => by
    simp at h; subst h
    simp; omega
  | x :: l, i + 1, q, h => by
    have := sum_erase f (l := l) (i := i) (q := q) (by simpa using h)
    simp only [List.eraseIdx_cons_succ, mc0, List.sum_cons]
    omega
theorem sum_set {α : Type} (f : α → Nat) : ∀ {l : List α} {i : Nat} {q q' : α}, l[i]? = some q → ((l.set i q').map f).sum + f q = (l.map f).sum + f q'
  | [], _, _, _, h => by simp at h
  | x :: l, 0, q, q', h => by
    simp at h; subst h
    simp; omega
  | x :: l, i + 1, q, q', h => by
    have := sum_set f (l := l) (i := i) (q := q) (q' := q') (by simpa using h)
    simp only [ss0, mc0, List.sum_cons]
    omega
theorem sum_mem {α : Type} (f : α → Nat) {l : List α} {i : Nat} {q : α} (h : l[i]? = some q) : f q ≤ (l.map f).sum := by
  have := sum_erase f h; omega
def mu (l : List Qn) : Nat := (l.map fun q => 5 - q.asks.toNat).sum
def tks (l : List Qn) : Nat := (l.map fun q => q.tickets.length).sum
structure Rg (st : Rs) : Prop where
  t0 : 0 ≤ st.now
  t1 : st.now ≤ 1000000000
  n0 : 0 ≤ st.n
  n1 : st.n + mu st.l ≤ 1000000000
  l : st.l.length ≤ 16
  q : ∀ q ∈ st.l, 0 ≤ q.asks ∧ q.asks ≤ 4 ∧ okName q.name = true ∧ 0 ≤ q.due
  dn : st.done.length + tks st.l ≤ 100000
  sx : st.sent.length + mu st.l ≤ 100000
theorem endD_len (c : Int) (zs ts : List Int) : (endD c zs ts).length = ts.length := by simp [endD]
theorem again_rg {first : Int} {servers : List Int} {st : Rs} {i : Nat} {q : Qn} (h : Rg st) (hq : st.l[i]? = some q) : Rg (againS first servers st i) ∧ mu (againS first servers st i).l < mu st.l ∧ (againS first servers st i).now = st.now := by
  obtain ⟨a0, a1, a2, a3⟩ := h.q q (List.mem_of_getElem? hq)
  have hl := h.l
  have hn1 := h.n1
  have hdn := h.dn
  have hsx := h.sx
  unfold againS
  rw [hq]
  simp only
  by_cases h4 : 4 ≤ q.asks
  · rw [if_pos h4]
    have m1 := sum_erase (fun q : Qn => 5 - q.asks.toNat) hq
    have m2 := sum_erase (fun q : Qn => q.tickets.length) hq
    refine ⟨⟨h.t0, h.t1, h.n0, ?_, ?_, ?_, ?_, ?_⟩, ?_, rfl⟩
    · simp only [mu] at hn1 ⊢; omega
    · have := List.length_eraseIdx_le st.l i
      simp only; omega
    · intro x hx
      exact h.q x (List.mem_of_mem_eraseIdx hx)
    · simp only [tks, la0, endD_len] at hdn ⊢; omega
    · simp only [mu] at hsx ⊢; omega
    · simp only [mu]; omega
  · rw [if_neg h4]
    have m1 := sum_set (fun q : Qn => 5 - q.asks.toNat) (q' := askQ first servers st.now st.n q) hq
    have m2 := sum_set (fun q : Qn => q.tickets.length) (q' := askQ first servers st.now st.n q) hq
    have e1 : (askQ first servers st.now st.n q).asks = q.asks + 1 := rfl
    have e2 : (askQ first servers st.now st.n q).tickets = q.tickets := rfl
    simp only [e1, e2] at m1 m2
    have ht0 := h.t0
    have hn0 := h.n0
    refine ⟨⟨h.t0, h.t1, ?_, ?_, ?_, ?_, ?_, ?_⟩, ?_, rfl⟩
    · show 0 ≤ st.n + 1; omega
    · simp only [mu] at hn1 ⊢; omega
    · simp only [List.length_set]; exact hl
    · intro x hx
      rcases List.mem_or_eq_of_mem_set hx with hx | hx
      · exact h.q x hx
      · rw [hx]
        exact ⟨by show 0 ≤ q.asks + 1; omega, by show q.asks + 1 ≤ 4; omega, a2, by show 0 ≤ st.now + 2000; omega⟩
    · simp only [tks] at hdn ⊢; omega
    · simp only [mu, la0, List.length_singleton] at hsx ⊢; omega
    · simp only [mu]; omega
theorem dueN_due {e : Int} {qs : List Qn} : ∀ {k b : Nat}, dueN e qs k = some b → ∃ q, qs[b]? = some q ∧ q.due ≤ e
  | 0, b, h => by cases h
  | k + 1, b, h => by
    unfold dueN at h
    split at h
    · exact dueN_due h
    · rename_i q hq
      split at h
      · split at h
        · rename_i hd; cases h; exact ⟨q, hq, hd⟩
        · cases h
      · rename_i b' hb'
        split at h
        · rename_i hd; cases h; exact ⟨q, hq, hd.1⟩
        · cases h; exact dueN_due hb'
def passR (first : Int) (servers : List Int) (e : Int) : Nat → Rs → Rs
  | 0, st => { st with now := e }
  | f + 1, st => match dueN e st.l st.l.length with
    | none => { st with now := e }
    | some b => passR first servers e f (againS first servers { st with now := dueOf st.l b } b)
theorem rg_now {st : Rs} (h : Rg st) {t : Int} (h0 : 0 ≤ t) (h1 : t ≤ 1000000000) : Rg { st with now := t } := ⟨h0, h1, h.n0, h.n1, h.l, h.q, h.dn, h.sx⟩
theorem passR_none {first : Int} {servers : List Int} {e : Int} {f : Nat} {st : Rs} (h : dueN e st.l st.l.length = none) : passR first servers e f st = { st with now := e } := by
  cases f with
  | zero => rfl
  | succ f => unfold passR; rw [h]
theorem passR_some {first : Int} {servers : List Int} {e : Int} {f b : Nat} {st : Rs} (h : dueN e st.l st.l.length = some b) : passR first servers e (f + 1) st = passR first servers e f (againS first servers { st with now := dueOf st.l b } b) := by
  rw [passR, h]
theorem mu_zero {st : Rs} (h : Rg st) (h0 : mu st.l = 0) : st.l = [] := by
  cases hl : st.l with
  | nil => rfl
  | cons q l =>
    have := h.q q (by rw [hl]; simp)
    rw [hl] at h0
    simp only [mu, mc0, List.sum_cons] at h0
    omega
theorem pass_rg {first : Int} {servers : List Int} {e : Int} (e0 : 0 ≤ e) (e1 : e ≤ 1000000000) : ∀ (f : Nat) {st : Rs}, Rg st → Rg (passR first servers e f st)
  | 0, st, h => rg_now h e0 e1
  | f + 1, st, h => by
    cases hd : dueN e st.l st.l.length with
    | none => rw [passR_none hd]; exact rg_now h e0 e1
    | some b =>
      rw [passR_some hd]
      obtain ⟨q, hq, hqe⟩ := dueN_due hd
      have hqm := h.q q (List.mem_of_getElem? hq)
      have hdo : dueOf st.l b = q.due := by unfold dueOf; rw [hq]
      have h1 := rg_now h (t := dueOf st.l b) (by rw [hdo]; exact hqm.2.2.2) (by rw [hdo]; omega)
      exact pass_rg e0 e1 f (again_rg (first := first) (servers := servers) (st := { st with now := dueOf st.l b }) h1 hq).1
end Go.Proofs.YtaoffieemecioaaGreatDoor

set_option maxRecDepth 20000
namespace Go.Proofs.YtaoffieemecioaaGreatDoor
open Go Go.IW
section
attribute [local go_sem] List.getElem?_cons_zero List.getElem?_cons_succ Option.bind_some List.map_cons List.map_nil Nat.zero_add if_true List.getD_cons_zero List.getD_cons_succ List.contains_cons List.contains_nil Bool.or_true Bool.true_or Bool.or_false Bool.false_or Bool.not_true Bool.not_false true_and and_true rowA_whole mid_get rowO_rows cellO_rows upd_ne Nat.add_assoc Nat.add_zero List.all_cons List.all_nil one_bool one_int one_str one_ptr one_nilptr one_slice one_eslice one_nilslice one_func one_iface one_niliface Bool.and_true Bool.and_self List.length_cons List.length_nil Nat.one_ne_zero Nat.succ_ne_zero if_false List.set_cons_zero List.set_cons_succ lay_nil lay_1 lay_w Option.map_some cells_one rowA_some List.drop_succ_cons List.drop_zero List.take_succ_cons List.take_zero

set_option maxHeartbeats 1000000 in
theorem l19Pass_c {h : IH} {L : List As} {w : Nat} {vs : IV} {first code ent ask : Int} {st : Rs} {servers : List Int} (W : WS h w vs first st code ent ask L) (hv : ∀ g, Sp g L → SlR g 1 vs (intRows servers))
    (hg : Rg st) (f0 : 0 ≤ first) (f1 : first ≤ 65535) (s0 : servers ≠ []) (s1 : servers.length ≤ 4) (n : Int) (n0 : 0 ≤ n) (n1 : n ≤ 1000000000 - st.now) :
    ICalls Tryz.prog 49 [.ptr w 0 0, .int .i64 n] h fun r h' => WS h' w vs first (passR first servers (st.now + n) (mu st.l) st) code ent ask L := by
  refine icalls (.of ok49) (Nat.le_of_ble_eq_true rfl) ?_
  unfold c49
  have t0 := hg.t0
  have hl16 := hg.l
  obtain ⟨en, hen⟩ : ∃ en, en = st.now + n := ⟨_, rfl⟩
  have w0 : wr .i64 (st.now + n) = en := by rw [wr64 _ (by omega), hen]
  obtain ⟨vq, vk, vx, vd, rq, rk, rx, rd, S⟩ := W
  have q0 := (S.bx 0 rfl).eq
  try simp (disch := (first | omega | assumption | (simp only [lc0, ln0, la0]; first | done | omega) | (simp (disch := assumption) only [go_sem, one_as, Nat.reduceBEq]; done) | fail)) only [q0, w0, go_sem, Hold.p, HoldK.k, HoldL.K, HoldL.body, Nat.reduceBEq, Nat.reduceAdd, reduceIte]
  refine callA_of (l19Due_c S (by omega) en) ?_
  rintro r2 g2 ⟨rfl, rfl⟩
  rw [← hen]
  try simp (disch := (first | omega | assumption | (simp only [lc0, ln0, la0]; first | done | omega) | (simp (disch := assumption) only [go_sem, one_as, Nat.reduceBEq]; done) | fail)) only [go_sem, Hold.p, HoldK.k, HoldL.K, HoldL.body, Nat.reduceBEq, Nat.reduceAdd, reduceIte]
  refine loop_at (fun m e g => ∃ (st' : Rs) (f : Nat), m = mu st'.l ∧ Rg st' ∧ e 0 = .ptr w 0 0 ∧ e 4 = .int .i64 en ∧ e 5 = .int .i64 (idxI (dueN en st'.l st'.l.length)) ∧ passR first servers en f st' = passR first servers en (mu st.l) st ∧ mu st'.l ≤ f ∧
    WS g w vs first st' code ent ask L) (mu st.l) ?_ ?_
  · refine ⟨st, mu st.l, rfl, hg, ?_⟩
    try simp (disch := (first | omega | assumption | (simp only [lc0, ln0, la0]; first | done | omega) | (simp (disch := assumption) only [go_sem, one_as, Nat.reduceBEq]; done) | fail)) only [go_sem, Hold.p, HoldK.k, HoldL.K, HoldL.body, Nat.reduceBEq, Nat.reduceAdd, reduceIte]
    exact ⟨Nat.le_refl _, vq, vk, vx, vd, rq, rk, rx, rd, S⟩
  · clear S
    rintro m e g ⟨st', f, rfl, hg', e0, e4, e5, hp, hf, W⟩
    cases hd : dueN en st'.l st'.l.length with
    | none =>
      rw [hd] at e5
      have e5' : e 5 = .int .i64 (-1) := e5
      have b1 : decide ((0 : Int) ≤ -1) = false := rfl
      obtain ⟨vq, vk, vx, vd, rq, rk, rx, rd, S⟩ := W
      have q0 := (S.bx 0 rfl).eq
      try simp (disch := (first | omega | assumption | (simp only [lc0, ln0, la0]; first | done | omega) | (simp (disch := assumption) only [go_sem, one_as, Nat.reduceBEq]; done) | fail)) only [q0, e0, e4, e5', b1, go_sem, Hold.p, HoldK.k, HoldL.K, HoldL.body, Nat.reduceBEq, Nat.reduceAdd, reduceIte]
      refine st1_of (Nat.le_of_ble_eq_true rfl) (by first | rfl | assumption) fun g3 hg => ?_
      have l_g3 := n_set hg
      have S := S.set0 hg
      clear hg
      simp only [sz0, ss0, ts0, tz0, ds0, dz0, ca0, na0, Nat.reduceAdd] at S
      try simp (disch := (first | omega | assumption | (simp only [lc0, ln0, la0]; first | done | omega) | (simp (disch := assumption) only [go_sem, one_as, Nat.reduceBEq]; done) | fail)) only [go_sem, Hold.p, HoldK.k, HoldL.K, HoldL.body, Nat.reduceBEq, Nat.reduceAdd, reduceIte]
      rw [← hp, passR_none hd]
      exact ⟨vq, vk, vx, vd, rq, rk, rx, rd, S⟩
    | some b =>
      rw [hd] at e5
      have e5' : e 5 = .int .i64 (b : Nat) := e5
      have b1 : decide ((0 : Int) ≤ (b : Nat)) = true := decide_eq_true (by omega)
      obtain ⟨q, hq, hqe⟩ := dueN_due hd
      have hqm := hg'.q q (List.mem_of_getElem? hq)
      have hdo : dueOf st'.l b = q.due := by unfold dueOf; rw [hq]
      have h1 := rg_now hg' (t := dueOf st'.l b) (by rw [hdo]; exact hqm.2.2.2) (by rw [hdo]; omega)
      obtain ⟨h2, h3, h4⟩ := again_rg (first := first) (servers := servers) (st := { st' with now := dueOf st'.l b }) h1 hq
      have hl' := hg'.l
      have hn1 := hg'.n1
      have hdn := hg'.dn
      have hsx := hg'.sx
      have htk := sum_mem (fun q : Qn => q.tickets.length) hq
      have hl2 := h2.l
      simp only [tks] at hdn
      obtain ⟨f', rfl⟩ : ∃ f', f = f' + 1 := by
        cases f with
        | zero =>
          exfalso
          have := mu_zero hg' (by omega)
          rw [this] at hq
          simp at hq
        | succ f' => exact ⟨f', rfl⟩
      obtain ⟨vq, vk, vx, vd, rq, rk, rx, rd, S⟩ := W
      obtain ⟨vt, hrow, hvt⟩ := qn_at S 2 rfl hq
      obtain ⟨l, j, hia, hll, har⟩ := (S.slA 1 rfl).at hrow .i64
      unfold qnRow at har
      have hc := cellO_row har
      have q0 := (S.bx 0 rfl).eq
      try simp (disch := (first | omega | assumption | (simp only [lc0, ln0, la0]; first | done | omega) | (simp (disch := assumption) only [go_sem, one_as, Nat.reduceBEq]; done) | fail)) only [q0, e0, e4, e5', b1, hia, hc, go_sem, Hold.p, HoldK.k, HoldL.K, HoldL.body, Nat.reduceBEq, Nat.reduceAdd, reduceIte]
      refine st1_of (Nat.le_of_ble_eq_true rfl) (by first | rfl | assumption) fun g3 hg => ?_
      have l_g3 := n_set hg
      have S := S.set0 hg
      clear hg
      simp only [sz0, ss0, ts0, tz0, ds0, dz0, ca0, na0, Nat.reduceAdd] at S
      have W : WS g3 w vs first { st' with now := dueOf st'.l b } code ent ask L := ⟨vq, vk, vx, vd, rq, rk, rx, rd, by rw [hdo]; exact S⟩
      clear S
      try simp (disch := (first | omega | assumption | (simp only [lc0, ln0, la0]; first | done | omega) | (simp (disch := assumption) only [go_sem, one_as, Nat.reduceBEq]; done) | fail)) only [e0, e4, e5', go_sem, Hold.p, HoldK.k, HoldL.K, HoldL.body, Nat.reduceBEq, Nat.reduceAdd, reduceIte]
      refine callA_of (l19Again_c W hv hq f0 f1 hg'.n0 (by show st'.n ≤ 1000000000000; omega) h1.t0 h1.t1 hqm.1 s0 s1 (by show st'.l.length ≤ 1000000; omega) (by show st'.done.length + q.tickets.length ≤ 1000000; omega) (by show st'.sent.length ≤ 1000000; omega) (by have := (okName_ne hqm.2.2.1).2; omega)) ?_
      clear W
      rintro r5 g5 ⟨vq', vk', vx', vd', rq', rk', rx', rd', S⟩
      try simp (disch := (first | omega | assumption | (simp only [lc0, ln0, la0]; first | done | omega) | (simp (disch := assumption) only [go_sem, one_as, Nat.reduceBEq]; done) | fail)) only [e0, e4, e5', go_sem, Hold.p, HoldK.k, HoldL.K, HoldL.body, Nat.reduceBEq, Nat.reduceAdd, reduceIte]
      refine callA_of (l19Due_c S (by omega) en) ?_
      rintro r6 g6 ⟨rfl, rfl⟩
      try simp (disch := (first | omega | assumption | (simp only [lc0, ln0, la0]; first | done | omega) | (simp (disch := assumption) only [go_sem, one_as, Nat.reduceBEq]; done) | fail)) only [e0, e4, e5', go_sem, Hold.p, HoldK.k, HoldL.K, HoldL.body, Nat.reduceBEq, Nat.reduceAdd, reduceIte]
      exact ⟨_, h3, _, f', rfl, h2, rfl, by rw [← passR_some hd]; exact hp, by have h3 : mu (againS first servers { st' with now := dueOf st'.l b } b).l < mu st'.l := h3; omega, vq', vk', vx', vd', rq', rk', rx', rd', S⟩
end
end Go.Proofs.YtaoffieemecioaaGreatDoor
