import Derived.Test.YtdpaehdolhdjdaaGreatDoorK2
import Derived.Test.YtdpaehdolhdjdaaGreatDoorProg
import Derived.KernelRfl
import Derived.Test.YtdpaehdolhdjdaaGreatDoorL3
import Derived.Test.YtdpaehdolhdjdaaGreatDoorK3
set_option linter.unusedSimpArgs false
set_option linter.unusedVariables false
namespace Go.Proofs.YtdpaehdolhdjdaaGreatDoor
open Go Go.IW
/-- loop.example/g00003/spec.Crc32 -/
def c124 : CC :=
 (.seq (.reg [
   ⟨(some 2), none, .f (.mv (.c (.int .i64 0)))⟩])
 (.seq (.reg [
   ⟨(some 3), none, .f (.mv (.c (.int .i64 4294967295)))⟩])
 (.seq (.seq (.reg [
   ⟨(some 4), none, .f (.mv (.c (.int .i64 0)))⟩])
 (.block 0 (.loop (.seq (.seq (.reg [
     ⟨(some 7), none, .f (.mv (.t 4))⟩,
     ⟨(some 8), none, .f (.mv (.t 0))⟩,
     ⟨(some 9), none, .f (.len (.t 8))⟩,
     ⟨(some 10), none, .f (.bin .lss (.t 7) (.t 9))⟩])
   (.cond (.t 10)
    .skip
    (.exit 0)))
   (.seq (.block 1 (.seq (.reg [
      ⟨(some 13), none, .f (.mv (.t 3))⟩,
      ⟨(some 14), none, .f (.mv (.t 0))⟩,
      ⟨(some 15), none, .f (.mv (.t 4))⟩,
      ⟨(some 16), none, .f (.iadr 1 (.t 14) (.t 15))⟩,
      ⟨(some 17), none, .f (.ld (.t 16))⟩,
      ⟨(some 18), none, .f (.cvI .i64 (.t 17))⟩,
      ⟨(some 19), none, .f (.bin .xor (.t 13) (.t 18))⟩,
      ⟨(some 3), none, .f (.mv (.t 19))⟩])
    (.seq (.reg [
      ⟨(some 5), none, .f (.mv (.c (.int .i64 0)))⟩])
    (.block 2 (.loop (.seq (.seq (.reg [
        ⟨(some 20), none, .f (.mv (.t 5))⟩,
        ⟨(some 21), none, .f (.bin .lss (.t 20) (.c (.int .i64 8)))⟩])
      (.cond (.t 21)
       .skip
       (.exit 2)))
      (.seq (.block 3 (.seq (.reg [
         ⟨(some 24), none, .f (.mv (.t 3))⟩,
         ⟨(some 25), none, .f (.bin .and (.t 24) (.c (.int .i64 1)))⟩,
         ⟨(some 26), none, .f (.bin .eql (.t 25) (.c (.int .i64 1)))⟩,
         ⟨(some 6), none, .f (.mv (.t 26))⟩])
       (.seq (.reg [
         ⟨(some 27), none, .f (.mv (.t 3))⟩,
         ⟨(some 28), none, .f (.bin .shr (.t 27) (.c (.int .u64 1)))⟩,
         ⟨(some 3), none, .f (.mv (.t 28))⟩])
       (.seq (.reg [
         ⟨(some 29), none, .f (.mv (.t 6))⟩])
       (.cond (.t 29)
        (.reg [
          ⟨(some 30), none, .f (.mv (.t 3))⟩,
          ⟨(some 31), none, .f (.bin .xor (.t 30) (.c (.int .i64 3988292384)))⟩,
          ⟨(some 3), none, .f (.mv (.t 31))⟩])
        .skip)))))
      (.reg [
        ⟨(some 22), none, .f (.mv (.t 5))⟩,
        ⟨(some 23), none, .f (.bin .add (.t 22) (.c (.int .i64 1)))⟩,
        ⟨(some 5), none, .f (.mv (.t 23))⟩]))))))))
   (.reg [
     ⟨(some 11), none, .f (.mv (.t 4))⟩,
     ⟨(some 12), none, .f (.bin .add (.t 11) (.c (.int .i64 1)))⟩,
     ⟨(some 4), none, .f (.mv (.t 12))⟩]))))))
 (.seq (.reg [
   ⟨(some 32), none, .f (.mv (.t 3))⟩,
   ⟨(some 33), none, .f (.bin .sub (.c (.int .i64 4294967295)) (.t 32))⟩,
   ⟨(some 2), none, .f (.mv (.t 33))⟩])
 .ret))))
theorem ok124 : fnComp Tryz.prog 124 = some (34, c124, [(.mv (.t 2))]) := by kernel_rfl

end Go.Proofs.YtdpaehdolhdjdaaGreatDoor

set_option maxRecDepth 20000
namespace Go.Proofs.YtdpaehdolhdjdaaGreatDoor
open Go Go.IW
section
attribute [local go_sem] List.getElem?_cons_zero List.getElem?_cons_succ Option.bind_some List.map_cons List.map_nil Nat.zero_add if_true List.getD_cons_zero List.getD_cons_succ List.contains_cons List.contains_nil Bool.or_true Bool.true_or Bool.or_false Bool.false_or Bool.not_true Bool.not_false true_and and_true rowA_whole mid_get stO_mid rowO_rows cellO_rows push_n set_n push_at push_old set_here set_there set_pushT set_pushN set_set upd_ne Nat.add_assoc Nat.add_zero stO_1s stO_ws boxA_s List.all_cons List.all_nil one_bool one_int one_str one_ptr one_nilptr one_slice one_eslice one_nilslice one_func one_iface one_niliface Bool.and_true Bool.and_self List.length_cons List.length_nil Nat.one_ne_zero Nat.succ_ne_zero if_false List.set_cons_zero List.set_cons_succ lay_nil lay_1 lay_w Option.map_some

theorem Src.back {h g g' : IH} {p : Nat} {v : IV} {code : List UInt8} (S0 : Src h p v code) (hp : p < h.n) (S : Src g p v code) (V : Sav p h g') (ho : g'.obj p = g.obj p) : Src g' p v code := by
  obtain ⟨pos, st, a, b, c⟩ := S.at_
  exact ⟨⟨pos, st, ⟨Nat.lt_of_lt_of_le hp V.le, ho.trans a.eq⟩, b, c⟩, V.sl S0.sl S0.ne, S0.ne⟩

def pathRows : List (List IV) := [[.str [47]], [.str [47, 97]], [.str [47, 97, 47, 98]], [.str [47, 105, 110, 100, 101, 120, 46, 116, 120, 116]], [.str [47, 66, 105, 103, 95, 49]], [.str [47, 97, 47, 99, 45, 100]]]
theorem l20Path_c (h : IH) (p : Nat) (v : IV) (code : List UInt8) (S : Src h p v code) (hl : code.length ≤ 1048576) (hpn : p < h.n) :
    ICalls Tryz.prog 75 [.ptr p 0 0] h fun r h' => ∃ s : Txt, r = .str s ∧ s.length ≤ 10 ∧ Src h' p v code ∧ Sav p h h' := by
  refine icalls (.of ok75) (Nat.le_of_ble_eq_true rfl) ?_
  unfold c75
  simp (disch := (first | omega | assumption | (simp only [push_n, set_n, put_n, List.length_cons, List.length_nil, List.length_append, Nat.reduceAdd]; done) | (simp only [push_n, set_n, put_n, List.length_cons, List.length_nil, List.length_append]; omega) | (simp only [List.all_cons, List.all_nil, one_bool, one_int, one_str, one_ptr, one_nilptr, one_slice, one_eslice, one_nilslice, one_func, one_iface, one_niliface, Bool.and_true, Bool.true_and, List.getD_cons_zero, List.getD_cons_succ, List.contains_cons, List.contains_nil, Bool.or_true, Bool.true_or, Bool.or_false, Bool.false_or, Nat.reduceBEq, *]; done) | fail)) only [go_sem, Hold.p, HoldK.k, HoldL.K, HoldL.body, Nat.reduceBEq, Nat.reduceAdd, reduceIte]
  refine bslA_of (rows := pathRows) (by decide) rfl (by decide) ?_
  simp (disch := (first | omega | assumption | (simp only [push_n, set_n, put_n, List.length_cons, List.length_nil, List.length_append, Nat.reduceAdd]; done) | (simp only [push_n, set_n, put_n, List.length_cons, List.length_nil, List.length_append]; omega) | (simp only [List.all_cons, List.all_nil, one_bool, one_int, one_str, one_ptr, one_nilptr, one_slice, one_eslice, one_nilslice, one_func, one_iface, one_niliface, Bool.and_true, Bool.true_and, List.getD_cons_zero, List.getD_cons_succ, List.contains_cons, List.contains_nil, Bool.or_true, Bool.true_or, Bool.or_false, Bool.false_or, Nat.reduceBEq, *]; done) | fail)) only [go_sem, Hold.p, HoldK.k, HoldL.K, HoldL.body, Nat.reduceBEq, Nat.reduceAdd, reduceIte]
  generalize hq_g5 : IH.push h (IObj.rows pathRows 9 1 false) = g5
  have e_g5 : Ext h g5 := by rw [← hq_g5]; exact (Ext.refl _).push _
  have l_g5 : g5.n = h.n + 1 := by rw [← hq_g5]; rfl
  have b5 : At g5 h.n (IObj.rows pathRows 9 1 false) := by rw [← hq_g5]; exact At.new _ _
  clear hq_g5
  have S := S.ext e_g5
  refine callA_of (l01Next_c g5 p v code 6 S (by omega) (by omega) hl) ?_
  rintro r g6 ⟨y, rfl, y0, y1, S6, V6, hn6⟩
  have b6 := b5.sav V6 (by omega)
  obtain ⟨y, rfl⟩ : ∃ m : Nat, y = (m : Int) := ⟨y.toNat, by omega⟩
  have hy : y < 6 := by omega
  obtain ⟨z, hz, hzl⟩ : ∃ z : List UInt8, pathRows[y]? = some [.str z] ∧ z.length ≤ 10 := by
    match y, hy with
    | 0, _ | 1, _ | 2, _ | 3, _ | 4, _ | 5, _ => exact ⟨_, rfl, by simp⟩
  have hia : iadrF g6 1 (.slice h.n 0 6) (.int .i64 (y : Int)) = some (.ptr h.n y 0) := by
    rw [iadrF_nat hy (by rw [b6.eq]; rfl), Nat.zero_add]
  have hcc : cellO (g6.obj h.n) y 0 = some (.str z) := by
    rw [b6.eq]
    show (_ : Option (List IV)).bind _ = _
    rw [hz]; rfl
  simp (disch := (first | omega | assumption | (simp only [push_n, set_n, put_n, List.length_cons, List.length_nil, List.length_append, Nat.reduceAdd]; done) | (simp only [push_n, set_n, put_n, List.length_cons, List.length_nil, List.length_append]; omega) | (simp only [List.all_cons, List.all_nil, one_bool, one_int, one_str, one_ptr, one_nilptr, one_slice, one_eslice, one_nilslice, one_func, one_iface, one_niliface, Bool.and_true, Bool.true_and, List.getD_cons_zero, List.getD_cons_succ, List.contains_cons, List.contains_nil, Bool.or_true, Bool.true_or, Bool.or_false, Bool.false_or, Nat.reduceBEq, *]; done) | fail)) only [hia, hcc, go_sem, Hold.p, HoldK.k, HoldL.K, HoldL.body, Nat.reduceBEq, Nat.reduceAdd, reduceIte]
  exact ⟨_, rfl, hzl, S6, (Sav.refl p h).ext e_g5 |>.trans V6⟩

theorem lwSame_c (h : IH) (v w : IV) (a b : Txt) (hv : SlR h 1 v (strRows a)) (hw : SlR h 1 w (strRows b)) : ICalls Tryz.prog 15 [v, w] h fun r h' => r = .bool (decide (a = b)) ∧ h' = h := by
  refine icalls (.of ok15) (Nat.le_of_ble_eq_true rfl) ?_
  unfold c15
  have e1 := hv.b2s
  have e2 := hw.b2s
  simp (disch := (first | omega | assumption | (simp only [push_n, set_n, put_n, List.length_cons, List.length_nil, List.length_append, Nat.reduceAdd]; done) | (simp only [push_n, set_n, put_n, List.length_cons, List.length_nil, List.length_append]; omega) | (simp only [List.all_cons, List.all_nil, one_bool, one_int, one_str, one_ptr, one_nilptr, one_slice, one_eslice, one_nilslice, one_func, one_iface, one_niliface, Bool.and_true, Bool.true_and, List.getD_cons_zero, List.getD_cons_succ, List.contains_cons, List.contains_nil, Bool.or_true, Bool.true_or, Bool.or_false, Bool.false_or, Nat.reduceBEq, *]; done) | fail)) only [e1, e2, go_sem, Hold.p, HoldK.k, HoldL.K, HoldL.body, Nat.reduceBEq, Nat.reduceAdd, reduceIte]
theorem lwFields_c (h : IH) (v w : IV) (fs : List Fld) (hv : SlR h 2 v (fldRows fs)) (hw : SlR h 2 w (fldRows fs)) (hm : fs.length ≤ 1048576) : ICalls Tryz.prog 14 [v, w] h fun r h' => r = .bool true ∧ h' = h := by
  refine icalls (.of ok14) (Nat.le_of_ble_eq_true rfl) ?_
  unfold c14
  have l1 := hv.lenF
  have l2 := hw.lenF
  rw [fldRows_len] at l1 l2
  simp (disch := (first | omega | assumption | (simp only [push_n, set_n, put_n, List.length_cons, List.length_nil, List.length_append, Nat.reduceAdd]; done) | (simp only [push_n, set_n, put_n, List.length_cons, List.length_nil, List.length_append]; omega) | (simp only [List.all_cons, List.all_nil, one_bool, one_int, one_str, one_ptr, one_nilptr, one_slice, one_eslice, one_nilslice, one_func, one_iface, one_niliface, Bool.and_true, Bool.true_and, List.getD_cons_zero, List.getD_cons_succ, List.contains_cons, List.contains_nil, Bool.or_true, Bool.true_or, Bool.or_false, Bool.false_or, Nat.reduceBEq, *]; done) | fail)) only [l1, l2, decide_true, go_sem, Hold.p, HoldK.k, HoldL.K, HoldL.body, Nat.reduceBEq, Nat.reduceAdd, reduceIte]
  refine loop_at (fun m e g => ∃ k : Nat, m = fs.length - k ∧ k ≤ fs.length ∧ e 0 = v ∧ e 1 = w ∧ e 5 = .int .i64 (k : Nat) ∧ g = h) fs.length ?_ ?_
  · refine ⟨0, by omega, by omega, ?_⟩
    simp (disch := (first | omega | assumption | (simp only [push_n, set_n, put_n, List.length_cons, List.length_nil, List.length_append, Nat.reduceAdd]; done) | (simp only [push_n, set_n, put_n, List.length_cons, List.length_nil, List.length_append]; omega) | (simp only [List.all_cons, List.all_nil, one_bool, one_int, one_str, one_ptr, one_nilptr, one_slice, one_eslice, one_nilslice, one_func, one_iface, one_niliface, Bool.and_true, Bool.true_and, List.getD_cons_zero, List.getD_cons_succ, List.contains_cons, List.contains_nil, Bool.or_true, Bool.true_or, Bool.or_false, Bool.false_or, Nat.reduceBEq, *]; done) | fail)) only [go_sem, Hold.p, HoldK.k, HoldL.K, HoldL.body, Nat.reduceBEq, Nat.reduceAdd, reduceIte]
    first | exact ⟨rfl, rfl⟩ | rfl
  · rintro m e g ⟨k, rfl, hk, i0, i1, i5, rfl⟩
    simp (disch := (first | omega | assumption | (simp only [push_n, set_n, put_n, List.length_cons, List.length_nil, List.length_append, Nat.reduceAdd]; done) | (simp only [push_n, set_n, put_n, List.length_cons, List.length_nil, List.length_append]; omega) | (simp only [List.all_cons, List.all_nil, one_bool, one_int, one_str, one_ptr, one_nilptr, one_slice, one_eslice, one_nilslice, one_func, one_iface, one_niliface, Bool.and_true, Bool.true_and, List.getD_cons_zero, List.getD_cons_succ, List.contains_cons, List.contains_nil, Bool.or_true, Bool.true_or, Bool.or_false, Bool.false_or, Nat.reduceBEq, *]; done) | fail)) only [i0, i1, i5, l1, go_sem, Hold.p, HoldK.k, HoldL.K, HoldL.body, Nat.reduceBEq, Nat.reduceAdd, reduceIte]
    refine test_dec (fun hb => ?_) (fun hb => ?_)
    · have hk' : k < fs.length := by omega
      obtain ⟨f, hf⟩ : ∃ b, fs[k]? = some b := ⟨_, List.getElem?_eq_getElem hk'⟩
      obtain ⟨l, j, hia, hll, hrow⟩ := hv.at (m := k) (fldRows_at hf) .i64
      obtain ⟨l', j', hia', hll', hrow'⟩ := hw.at (m := k) (fldRows_at hf) .i64
      have w1 : wr .i64 ((k : Int) + 1) = ((k + 1 : Nat) : Int) := by rw [wr64 _ (by omega)]; rfl
      simp (disch := (first | omega | assumption | (simp only [push_n, set_n, put_n, List.length_cons, List.length_nil, List.length_append, Nat.reduceAdd]; done) | (simp only [push_n, set_n, put_n, List.length_cons, List.length_nil, List.length_append]; omega) | (simp only [List.all_cons, List.all_nil, one_bool, one_int, one_str, one_ptr, one_nilptr, one_slice, one_eslice, one_nilslice, one_func, one_iface, one_niliface, Bool.and_true, Bool.true_and, List.getD_cons_zero, List.getD_cons_succ, List.contains_cons, List.contains_nil, Bool.or_true, Bool.true_or, Bool.or_false, Bool.false_or, Nat.reduceBEq, *]; done) | fail)) only [i0, i1, i5, hia, hia', hrow, hrow', w1, decide_true, go_sem, Hold.p, HoldK.k, HoldL.K, HoldL.body, Nat.reduceBEq, Nat.reduceAdd, reduceIte]
      refine test_of (fun hx => by simp at hx) (fun _ => ?_)
      simp (disch := (first | omega | assumption | (simp only [push_n, set_n, put_n, List.length_cons, List.length_nil, List.length_append, Nat.reduceAdd]; done) | (simp only [push_n, set_n, put_n, List.length_cons, List.length_nil, List.length_append]; omega) | (simp only [List.all_cons, List.all_nil, one_bool, one_int, one_str, one_ptr, one_nilptr, one_slice, one_eslice, one_nilslice, one_func, one_iface, one_niliface, Bool.and_true, Bool.true_and, List.getD_cons_zero, List.getD_cons_succ, List.contains_cons, List.contains_nil, Bool.or_true, Bool.true_or, Bool.or_false, Bool.false_or, Nat.reduceBEq, *]; done) | fail)) only [i0, i1, i5, w1, go_sem, Hold.p, HoldK.k, HoldL.K, HoldL.body, Nat.reduceBEq, Nat.reduceAdd, reduceIte]
      exact ⟨_, by omega, k + 1, rfl, by omega, rfl⟩
    · simp (disch := (first | omega | assumption | (simp only [push_n, set_n, put_n, List.length_cons, List.length_nil, List.length_append, Nat.reduceAdd]; done) | (simp only [push_n, set_n, put_n, List.length_cons, List.length_nil, List.length_append]; omega) | (simp only [List.all_cons, List.all_nil, one_bool, one_int, one_str, one_ptr, one_nilptr, one_slice, one_eslice, one_nilslice, one_func, one_iface, one_niliface, Bool.and_true, Bool.true_and, List.getD_cons_zero, List.getD_cons_succ, List.contains_cons, List.contains_nil, Bool.or_true, Bool.true_or, Bool.or_false, Bool.false_or, Nat.reduceBEq, *]; done) | fail)) only [go_sem, Hold.p, HoldK.k, HoldL.K, HoldL.body, Nat.reduceBEq, Nat.reduceAdd, reduceIte]
end
end Go.Proofs.YtdpaehdolhdjdaaGreatDoor

set_option maxRecDepth 20000
namespace Go.Proofs.YtdpaehdolhdjdaaGreatDoor
open Go Go.IW
section
attribute [local go_sem] List.getElem?_cons_zero List.getElem?_cons_succ Option.bind_some List.map_cons List.map_nil Nat.zero_add if_true List.getD_cons_zero List.getD_cons_succ List.contains_cons List.contains_nil Bool.or_true Bool.true_or Bool.or_false Bool.false_or Bool.not_true Bool.not_false true_and and_true rowA_whole mid_get stO_mid rowO_rows cellO_rows push_n set_n push_at push_old set_here set_there set_pushT set_pushN set_set upd_ne Nat.add_assoc Nat.add_zero stO_1s stO_ws boxA_s List.all_cons List.all_nil one_bool one_int one_str one_ptr one_nilptr one_slice one_eslice one_nilslice one_func one_iface one_niliface Bool.and_true Bool.and_self List.length_cons List.length_nil Nat.one_ne_zero Nat.succ_ne_zero if_false List.set_cons_zero List.set_cons_succ lay_nil lay_1 lay_w Option.map_some

theorem xor32 {a b : Int} (ha : 0 ≤ a ∧ a < 4294967296) (hb : 0 ≤ b ∧ b < 4294967296) : ∃ c : Int, ibin .xor (.int .i64 a) (.int .i64 b) = some (.int .i64 c) ∧ 0 ≤ c ∧ c < 4294967296 := by
  obtain ⟨x, rfl⟩ : ∃ m : Nat, a = (m : Int) := ⟨a.toNat, by omega⟩
  obtain ⟨y, rfl⟩ : ∃ m : Nat, b = (m : Int) := ⟨b.toNat, by omega⟩
  have e1 : (BitVec.ofInt 64 (x : Int)).toNat = x := by rw [BitVec.toNat_ofInt]; omega
  have e2 : (BitVec.ofInt 64 (y : Int)).toNat = y := by rw [BitVec.toNat_ofInt]; omega
  have hx : x ^^^ y < 2 ^ 32 := Nat.xor_lt_two_pow (by omega) (by omega)
  refine ⟨((x ^^^ y : Nat) : Int), ?_, by omega, by omega⟩
  unfold ibin
  simp only [if_true]
  show some (IV.int .i64 (wr .i64 (((BitVec.ofInt 64 (x : Int) ^^^ BitVec.ofInt 64 (y : Int)).toNat : Nat) : Int))) = _
  rw [BitVec.toNat_xor, e1, e2, wr64 _ (by omega)]
theorem and1 (a : Int) : ∃ c : Int, ibin .and (.int .i64 a) (.int .i64 1) = some (.int .i64 c) := ⟨_, rfl⟩
theorem shr1 {a : Int} (ha : 0 ≤ a ∧ a < 4294967296) : ibin .shr (.int .i64 a) (.int .u64 1) = some (.int .i64 (a / 2)) := by
  have h := ib_shr (k := .i64) (a := a) (b := 1) .u64 (by decide)
  have hm : min (1 : Int).toNat IntKind.i64.bits = 1 := rfl
  rw [hm, Int.fdiv_eq_ediv_of_nonneg _ (by decide)] at h
  exact h
theorem crc_c (h : IH) (v : IV) (bs : Txt) (hs : SlR h 1 v (strRows bs)) (hl : bs.length ≤ 1048576) : ICalls Tryz.prog 124 [v] h fun r h' => (∃ x : Int, r = .int .i64 x ∧ 0 ≤ x ∧ x < 4294967296) ∧ h' = h := by
  refine icalls (.of ok124) (Nat.le_of_ble_eq_true rfl) ?_
  unfold c124
  have hlen := hs.lenF
  rw [strRows_len] at hlen
  simp (disch := (first | omega | assumption | (simp only [push_n, set_n, put_n, List.length_cons, List.length_nil, List.length_append, Nat.reduceAdd]; done) | (simp only [push_n, set_n, put_n, List.length_cons, List.length_nil, List.length_append]; omega) | (simp only [List.all_cons, List.all_nil, one_bool, one_int, one_str, one_ptr, one_nilptr, one_slice, one_eslice, one_nilslice, one_func, one_iface, one_niliface, Bool.and_true, Bool.true_and, List.getD_cons_zero, List.getD_cons_succ, List.contains_cons, List.contains_nil, Bool.or_true, Bool.true_or, Bool.or_false, Bool.false_or, Nat.reduceBEq, *]; done) | fail)) only [go_sem, Hold.p, HoldK.k, HoldL.K, HoldL.body, Nat.reduceBEq, Nat.reduceAdd, reduceIte]
  refine loop_at (fun m e g => ∃ (k : Nat) (x : Int), m = bs.length - k ∧ k ≤ bs.length ∧ e 0 = v ∧ e 3 = .int .i64 x ∧ e 4 = .int .i64 (k : Nat) ∧ (0 ≤ x ∧ x < 4294967296) ∧ g = h) bs.length ?_ ?_
  · refine ⟨0, 4294967295, by omega, by omega, ?_⟩
    simp (disch := (first | omega | assumption | (simp only [push_n, set_n, put_n, List.length_cons, List.length_nil, List.length_append, Nat.reduceAdd]; done) | (simp only [push_n, set_n, put_n, List.length_cons, List.length_nil, List.length_append]; omega) | (simp only [List.all_cons, List.all_nil, one_bool, one_int, one_str, one_ptr, one_nilptr, one_slice, one_eslice, one_nilslice, one_func, one_iface, one_niliface, Bool.and_true, Bool.true_and, List.getD_cons_zero, List.getD_cons_succ, List.contains_cons, List.contains_nil, Bool.or_true, Bool.true_or, Bool.or_false, Bool.false_or, Nat.reduceBEq, *]; done) | fail)) only [go_sem, Hold.p, HoldK.k, HoldL.K, HoldL.body, Nat.reduceBEq, Nat.reduceAdd, reduceIte]
    first | exact ⟨rfl, by omega, rfl⟩ | exact ⟨rfl, by omega⟩ | omega
  · rintro m e g ⟨k, x, rfl, hk, i0, i3, i4, hx, rfl⟩
    simp (disch := (first | omega | assumption | (simp only [push_n, set_n, put_n, List.length_cons, List.length_nil, List.length_append, Nat.reduceAdd]; done) | (simp only [push_n, set_n, put_n, List.length_cons, List.length_nil, List.length_append]; omega) | (simp only [List.all_cons, List.all_nil, one_bool, one_int, one_str, one_ptr, one_nilptr, one_slice, one_eslice, one_nilslice, one_func, one_iface, one_niliface, Bool.and_true, Bool.true_and, List.getD_cons_zero, List.getD_cons_succ, List.contains_cons, List.contains_nil, Bool.or_true, Bool.true_or, Bool.or_false, Bool.false_or, Nat.reduceBEq, *]; done) | fail)) only [i0, i4, hlen, go_sem, Hold.p, HoldK.k, HoldL.K, HoldL.body, Nat.reduceBEq, Nat.reduceAdd, reduceIte]
    refine test_dec (fun hb => ?_) (fun hb => ?_)
    · have hk' : k < bs.length := by omega
      obtain ⟨c, hc⟩ : ∃ b, bs[k]? = some b := ⟨_, List.getElem?_eq_getElem hk'⟩
      obtain ⟨l, j, hia, hll, hrow⟩ := hs.at (m := k) (strRows_at hc) .i64
      have hcl := cellO_row hrow
      have hcu := c.toNat_lt
      have wc : wr .i64 (c.toNat : Int) = (c.toNat : Int) := wr64 _ (by omega)
      obtain ⟨y, hy, hy2⟩ := xor32 hx (b := (c.toNat : Int)) (by omega)
      have w1 : wr .i64 ((k : Int) + 1) = ((k + 1 : Nat) : Int) := by rw [wr64 _ (by omega)]; rfl
      simp (disch := (first | omega | assumption | (simp only [push_n, set_n, put_n, List.length_cons, List.length_nil, List.length_append, Nat.reduceAdd]; done) | (simp only [push_n, set_n, put_n, List.length_cons, List.length_nil, List.length_append]; omega) | (simp only [List.all_cons, List.all_nil, one_bool, one_int, one_str, one_ptr, one_nilptr, one_slice, one_eslice, one_nilslice, one_func, one_iface, one_niliface, Bool.and_true, Bool.true_and, List.getD_cons_zero, List.getD_cons_succ, List.contains_cons, List.contains_nil, Bool.or_true, Bool.true_or, Bool.or_false, Bool.false_or, Nat.reduceBEq, *]; done) | fail)) only [i0, i3, i4, hia, hcl, wc, hy, go_sem, Hold.p, HoldK.k, HoldL.K, HoldL.body, Nat.reduceBEq, Nat.reduceAdd, reduceIte]
      refine loop_at (fun m e' g' => ∃ (q : Nat) (z : Int), m = 8 - q ∧ q ≤ 8 ∧ e' 0 = v ∧ e' 3 = .int .i64 z ∧ e' 4 = .int .i64 (k : Nat) ∧ e' 5 = .int .i64 (q : Nat) ∧ (0 ≤ z ∧ z < 4294967296) ∧ g' = g) 8 ?_ ?_
      · refine ⟨0, y, by omega, by omega, ?_⟩
        simp (disch := (first | omega | assumption | (simp only [push_n, set_n, put_n, List.length_cons, List.length_nil, List.length_append, Nat.reduceAdd]; done) | (simp only [push_n, set_n, put_n, List.length_cons, List.length_nil, List.length_append]; omega) | (simp only [List.all_cons, List.all_nil, one_bool, one_int, one_str, one_ptr, one_nilptr, one_slice, one_eslice, one_nilslice, one_func, one_iface, one_niliface, Bool.and_true, Bool.true_and, List.getD_cons_zero, List.getD_cons_succ, List.contains_cons, List.contains_nil, Bool.or_true, Bool.true_or, Bool.or_false, Bool.false_or, Nat.reduceBEq, *]; done) | fail)) only [i0, i4, go_sem, Hold.p, HoldK.k, HoldL.K, HoldL.body, Nat.reduceBEq, Nat.reduceAdd, reduceIte]
        first | exact ⟨rfl, hy2, rfl⟩ | exact ⟨rfl, hy2⟩ | exact hy2
      · rintro m2 e2 g2 ⟨q, z, rfl, hq, j0, j3, j4, j5, hz, rfl⟩
        simp (disch := (first | omega | assumption | (simp only [push_n, set_n, put_n, List.length_cons, List.length_nil, List.length_append, Nat.reduceAdd]; done) | (simp only [push_n, set_n, put_n, List.length_cons, List.length_nil, List.length_append]; omega) | (simp only [List.all_cons, List.all_nil, one_bool, one_int, one_str, one_ptr, one_nilptr, one_slice, one_eslice, one_nilslice, one_func, one_iface, one_niliface, Bool.and_true, Bool.true_and, List.getD_cons_zero, List.getD_cons_succ, List.contains_cons, List.contains_nil, Bool.or_true, Bool.true_or, Bool.or_false, Bool.false_or, Nat.reduceBEq, *]; done) | fail)) only [j5, go_sem, Hold.p, HoldK.k, HoldL.K, HoldL.body, Nat.reduceBEq, Nat.reduceAdd, reduceIte]
        refine test_dec (fun hb2 => ?_) (fun hb2 => ?_)
        · obtain ⟨an, han⟩ := and1 z
          have hsh := shr1 hz
          have wq : wr .i64 ((q : Int) + 1) = ((q + 1 : Nat) : Int) := by rw [wr64 _ (by omega)]; rfl
          obtain ⟨z2, hz2, hz3⟩ := xor32 (a := z / 2) (b := 3988292384) (by omega) (by omega)
          simp (disch := (first | omega | assumption | (simp only [push_n, set_n, put_n, List.length_cons, List.length_nil, List.length_append, Nat.reduceAdd]; done) | (simp only [push_n, set_n, put_n, List.length_cons, List.length_nil, List.length_append]; omega) | (simp only [List.all_cons, List.all_nil, one_bool, one_int, one_str, one_ptr, one_nilptr, one_slice, one_eslice, one_nilslice, one_func, one_iface, one_niliface, Bool.and_true, Bool.true_and, List.getD_cons_zero, List.getD_cons_succ, List.contains_cons, List.contains_nil, Bool.or_true, Bool.true_or, Bool.or_false, Bool.false_or, Nat.reduceBEq, *]; done) | fail)) only [j3, han, hsh, go_sem, Hold.p, HoldK.k, HoldL.K, HoldL.body, Nat.reduceBEq, Nat.reduceAdd, reduceIte]
          refine test_dec (fun hb3 => ?_) (fun hb3 => ?_)
          · simp (disch := (first | omega | assumption | (simp only [push_n, set_n, put_n, List.length_cons, List.length_nil, List.length_append, Nat.reduceAdd]; done) | (simp only [push_n, set_n, put_n, List.length_cons, List.length_nil, List.length_append]; omega) | (simp only [List.all_cons, List.all_nil, one_bool, one_int, one_str, one_ptr, one_nilptr, one_slice, one_eslice, one_nilslice, one_func, one_iface, one_niliface, Bool.and_true, Bool.true_and, List.getD_cons_zero, List.getD_cons_succ, List.contains_cons, List.contains_nil, Bool.or_true, Bool.true_or, Bool.or_false, Bool.false_or, Nat.reduceBEq, *]; done) | fail)) only [j0, j3, j4, j5, hz2, wq, go_sem, Hold.p, HoldK.k, HoldL.K, HoldL.body, Nat.reduceBEq, Nat.reduceAdd, reduceIte]
            exact ⟨_, by omega, q + 1, z2, rfl, by omega, rfl, rfl, hz3⟩
          · simp (disch := (first | omega | assumption | (simp only [push_n, set_n, put_n, List.length_cons, List.length_nil, List.length_append, Nat.reduceAdd]; done) | (simp only [push_n, set_n, put_n, List.length_cons, List.length_nil, List.length_append]; omega) | (simp only [List.all_cons, List.all_nil, one_bool, one_int, one_str, one_ptr, one_nilptr, one_slice, one_eslice, one_nilslice, one_func, one_iface, one_niliface, Bool.and_true, Bool.true_and, List.getD_cons_zero, List.getD_cons_succ, List.contains_cons, List.contains_nil, Bool.or_true, Bool.true_or, Bool.or_false, Bool.false_or, Nat.reduceBEq, *]; done) | fail)) only [j0, j3, j4, j5, wq, go_sem, Hold.p, HoldK.k, HoldL.K, HoldL.body, Nat.reduceBEq, Nat.reduceAdd, reduceIte]
            exact ⟨_, by omega, q + 1, z / 2, rfl, by omega, rfl, rfl, by omega⟩
        · simp (disch := (first | omega | assumption | (simp only [push_n, set_n, put_n, List.length_cons, List.length_nil, List.length_append, Nat.reduceAdd]; done) | (simp only [push_n, set_n, put_n, List.length_cons, List.length_nil, List.length_append]; omega) | (simp only [List.all_cons, List.all_nil, one_bool, one_int, one_str, one_ptr, one_nilptr, one_slice, one_eslice, one_nilslice, one_func, one_iface, one_niliface, Bool.and_true, Bool.true_and, List.getD_cons_zero, List.getD_cons_succ, List.contains_cons, List.contains_nil, Bool.or_true, Bool.true_or, Bool.or_false, Bool.false_or, Nat.reduceBEq, *]; done) | fail)) only [j0, j3, j4, w1, go_sem, Hold.p, HoldK.k, HoldL.K, HoldL.body, Nat.reduceBEq, Nat.reduceAdd, reduceIte]
          exact ⟨_, by omega, k + 1, z, rfl, by omega, rfl, rfl, hz⟩
    · have w2 : wr .i64 (4294967295 - x) = 4294967295 - x := wr64 _ (by omega)
      simp (disch := (first | omega | assumption | (simp only [push_n, set_n, put_n, List.length_cons, List.length_nil, List.length_append, Nat.reduceAdd]; done) | (simp only [push_n, set_n, put_n, List.length_cons, List.length_nil, List.length_append]; omega) | (simp only [List.all_cons, List.all_nil, one_bool, one_int, one_str, one_ptr, one_nilptr, one_slice, one_eslice, one_nilslice, one_func, one_iface, one_niliface, Bool.and_true, Bool.true_and, List.getD_cons_zero, List.getD_cons_succ, List.contains_cons, List.contains_nil, Bool.or_true, Bool.true_or, Bool.or_false, Bool.false_or, Nat.reduceBEq, *]; done) | fail)) only [i3, w2, go_sem, Hold.p, HoldK.k, HoldL.K, HoldL.body, Nat.reduceBEq, Nat.reduceAdd, reduceIte]
      first | exact ⟨⟨_, rfl, by omega, by omega⟩, rfl⟩ | exact ⟨_, rfl, by omega, by omega⟩ | (constructor <;> omega)
theorem l20Mark_c (h : IH) (v : IV) (bs : Txt) (hs : SlR h 1 v (strRows bs)) (hl : bs.length ≤ 1048576) : ICalls Tryz.prog 86 [v] h fun r h' => ∃ s : Txt, r = .agg [.str [109, 97, 114, 107], .str s] ∧ s.length ≤ 40 ∧ Ext h h' := by
  refine icalls (.of ok86) (Nat.le_of_ble_eq_true rfl) ?_
  unfold c86
  simp (disch := (first | omega | assumption | (simp only [push_n, set_n, put_n, List.length_cons, List.length_nil, List.length_append, Nat.reduceAdd]; done) | (simp only [push_n, set_n, put_n, List.length_cons, List.length_nil, List.length_append]; omega) | (simp only [List.all_cons, List.all_nil, one_bool, one_int, one_str, one_ptr, one_nilptr, one_slice, one_eslice, one_nilslice, one_func, one_iface, one_niliface, Bool.and_true, Bool.true_and, List.getD_cons_zero, List.getD_cons_succ, List.contains_cons, List.contains_nil, Bool.or_true, Bool.true_or, Bool.or_false, Bool.false_or, Nat.reduceBEq, *]; done) | fail)) only [go_sem, Hold.p, HoldK.k, HoldL.K, HoldL.body, Nat.reduceBEq, Nat.reduceAdd, reduceIte]
  generalize hq_g : IH.push h (IObj.rows [[.str [], .str []]] 106 2 false) = g
  have e_g : Ext h g := by rw [← hq_g]; exact (Ext.refl _).push _
  have l_g : g.n = h.n + 1 := by rw [← hq_g]; rfl
  have b : At g h.n (IObj.rows [[.str [], .str []]] 106 2 false) := by rw [← hq_g]; exact At.new _ _
  clear hq_g
  have hs := hs.ext e_g
  try simp (disch := (first | omega | assumption | (simp only [push_n, set_n, put_n, List.length_cons, List.length_nil, List.length_append, Nat.reduceAdd]; done) | (simp only [push_n, set_n, put_n, List.length_cons, List.length_nil, List.length_append]; omega) | (simp only [List.all_cons, List.all_nil, one_bool, one_int, one_str, one_ptr, one_nilptr, one_slice, one_eslice, one_nilslice, one_func, one_iface, one_niliface, Bool.and_true, Bool.true_and, List.getD_cons_zero, List.getD_cons_succ, List.contains_cons, List.contains_nil, Bool.or_true, Bool.true_or, Bool.or_false, Bool.false_or, Nat.reduceBEq, *]; done) | fail)) only [go_sem, Hold.p, HoldK.k, HoldL.K, HoldL.body, Nat.reduceBEq, Nat.reduceAdd, reduceIte]
  refine callA_of (crc_c g v bs hs hl) ?_
  rintro r g1 ⟨⟨x, rfl, x0, x1⟩, rfl⟩
  simp (disch := (first | omega | assumption | (simp only [push_n, set_n, put_n, List.length_cons, List.length_nil, List.length_append, Nat.reduceAdd]; done) | (simp only [push_n, set_n, put_n, List.length_cons, List.length_nil, List.length_append]; omega) | (simp only [List.all_cons, List.all_nil, one_bool, one_int, one_str, one_ptr, one_nilptr, one_slice, one_eslice, one_nilslice, one_func, one_iface, one_niliface, Bool.and_true, Bool.true_and, List.getD_cons_zero, List.getD_cons_succ, List.contains_cons, List.contains_nil, Bool.or_true, Bool.true_or, Bool.or_false, Bool.false_or, Nat.reduceBEq, *]; done) | fail)) only [go_sem, Hold.p, HoldK.k, HoldL.K, HoldL.body, Nat.reduceBEq, Nat.reduceAdd, reduceIte]
  refine callA_of (numI_c g1 (n := x) x0 (by omega)) ?_
  rintro r g2 ⟨rfl, E2⟩
  have b := b.ext E2
  have le_E2 := E2.le
  have q := b.eq
  have hn := numI_len (n := x) (by omega)
  simp (disch := (first | omega | assumption | (simp only [push_n, set_n, put_n, List.length_cons, List.length_nil, List.length_append, Nat.reduceAdd]; done) | (simp only [push_n, set_n, put_n, List.length_cons, List.length_nil, List.length_append]; omega) | (simp only [List.all_cons, List.all_nil, one_bool, one_int, one_str, one_ptr, one_nilptr, one_slice, one_eslice, one_nilslice, one_func, one_iface, one_niliface, Bool.and_true, Bool.true_and, List.getD_cons_zero, List.getD_cons_succ, List.contains_cons, List.contains_nil, Bool.or_true, Bool.true_or, Bool.or_false, Bool.false_or, Nat.reduceBEq, *]; done) | fail)) only [q, go_sem, Hold.p, HoldK.k, HoldL.K, HoldL.body, Nat.reduceBEq, Nat.reduceAdd, reduceIte]
  exact ⟨_, rfl, by omega, (e_g.trans E2).set1 _ (Nat.le_refl _)⟩
theorem Sav.of_ext {p : Nat} {h g : IH} (E : Ext h g) : Sav p h g := (Sav.refl p h).ext E
end
end Go.Proofs.YtdpaehdolhdjdaaGreatDoor

set_option maxRecDepth 20000
namespace Go.Proofs.YtdpaehdolhdjdaaGreatDoor
open Go Go.IW
section
attribute [local go_sem] List.getElem?_cons_zero List.getElem?_cons_succ Option.bind_some List.map_cons List.map_nil Nat.zero_add if_true List.getD_cons_zero List.getD_cons_succ List.contains_cons List.contains_nil Bool.or_true Bool.true_or Bool.or_false Bool.false_or Bool.not_true Bool.not_false true_and and_true rowA_whole mid_get stO_mid rowO_rows cellO_rows push_n set_n push_at push_old set_here set_there set_pushT set_pushN set_set upd_ne Nat.add_assoc Nat.add_zero stO_1s stO_ws boxA_s List.all_cons List.all_nil one_bool one_int one_str one_ptr one_nilptr one_slice one_eslice one_nilslice one_func one_iface one_niliface Bool.and_true Bool.and_self List.length_cons List.length_nil Nat.one_ne_zero Nat.succ_ne_zero if_false List.set_cons_zero List.set_cons_succ lay_nil lay_1 lay_w Option.map_some

theorem l20Body_c (h : IH) (p : Nat) (v : IV) (code : List UInt8) (S : Src h p v code) (hl : code.length ≤ 1048576) (hpn : p < h.n) :
    ICalls Tryz.prog 51 [.ptr p 0 0] h fun r h' => ∃ bs : Txt, Own h.n h'.n h' 5 1 r (strRows bs) ∧ bs.length ≤ 60 ∧ Src h' p v code ∧ Sav p h h' := by
  refine icalls (.of ok51) (Nat.le_of_ble_eq_true rfl) ?_
  unfold c51
  simp (disch := (first | omega | assumption | (simp only [push_n, set_n, put_n, List.length_cons, List.length_nil, List.length_append, Nat.reduceAdd]; done) | (simp only [push_n, set_n, put_n, List.length_cons, List.length_nil, List.length_append]; omega) | (simp only [List.all_cons, List.all_nil, one_bool, one_int, one_str, one_ptr, one_nilptr, one_slice, one_eslice, one_nilslice, one_func, one_iface, one_niliface, Bool.and_true, Bool.true_and, List.getD_cons_zero, List.getD_cons_succ, List.contains_cons, List.contains_nil, Bool.or_true, Bool.true_or, Bool.or_false, Bool.false_or, Nat.reduceBEq, *]; done) | fail)) only [go_sem, Hold.p, HoldK.k, HoldL.K, HoldL.body, Nat.reduceBEq, Nat.reduceAdd, reduceIte]
  refine callA_of (l01Next_c h p v code 5 S (by omega) (by omega) hl) ?_
  rintro r g ⟨y, rfl, y0, y1, S1, V1, hn1⟩
  simp (disch := (first | omega | assumption | (simp only [push_n, set_n, put_n, List.length_cons, List.length_nil, List.length_append, Nat.reduceAdd]; done) | (simp only [push_n, set_n, put_n, List.length_cons, List.length_nil, List.length_append]; omega) | (simp only [List.all_cons, List.all_nil, one_bool, one_int, one_str, one_ptr, one_nilptr, one_slice, one_eslice, one_nilslice, one_func, one_iface, one_niliface, Bool.and_true, Bool.true_and, List.getD_cons_zero, List.getD_cons_succ, List.contains_cons, List.contains_nil, Bool.or_true, Bool.true_or, Bool.or_false, Bool.false_or, Nat.reduceBEq, *]; done) | fail)) only [go_sem, Hold.p, HoldK.k, HoldL.K, HoldL.body, Nat.reduceBEq, Nat.reduceAdd, reduceIte]
  refine test_dec (fun hb => ?_) (fun hb => ?_)
  · simp (disch := (first | omega | assumption | (simp only [push_n, set_n, put_n, List.length_cons, List.length_nil, List.length_append, Nat.reduceAdd]; done) | (simp only [push_n, set_n, put_n, List.length_cons, List.length_nil, List.length_append]; omega) | (simp only [List.all_cons, List.all_nil, one_bool, one_int, one_str, one_ptr, one_nilptr, one_slice, one_eslice, one_nilslice, one_func, one_iface, one_niliface, Bool.and_true, Bool.true_and, List.getD_cons_zero, List.getD_cons_succ, List.contains_cons, List.contains_nil, Bool.or_true, Bool.true_or, Bool.or_false, Bool.false_or, Nat.reduceBEq, *]; done) | fail)) only [go_sem, Hold.p, HoldK.k, HoldL.K, HoldL.body, Nat.reduceBEq, Nat.reduceAdd, reduceIte]
    exact ⟨[], Own.nil, by simp, S1, V1⟩
  simp (disch := (first | omega | assumption | (simp only [push_n, set_n, put_n, List.length_cons, List.length_nil, List.length_append, Nat.reduceAdd]; done) | (simp only [push_n, set_n, put_n, List.length_cons, List.length_nil, List.length_append]; omega) | (simp only [List.all_cons, List.all_nil, one_bool, one_int, one_str, one_ptr, one_nilptr, one_slice, one_eslice, one_nilslice, one_func, one_iface, one_niliface, Bool.and_true, Bool.true_and, List.getD_cons_zero, List.getD_cons_succ, List.contains_cons, List.contains_nil, Bool.or_true, Bool.true_or, Bool.or_false, Bool.false_or, Nat.reduceBEq, *]; done) | fail)) only [go_sem, Hold.p, HoldK.k, HoldL.K, HoldL.body, Nat.reduceBEq, Nat.reduceAdd, reduceIte]
  refine test_dec (fun hb => ?_) (fun hb => ?_)
  · skip
    simp (disch := (first | omega | assumption | (simp only [push_n, set_n, put_n, List.length_cons, List.length_nil, List.length_append, Nat.reduceAdd]; done) | (simp only [push_n, set_n, put_n, List.length_cons, List.length_nil, List.length_append]; omega) | (simp only [List.all_cons, List.all_nil, one_bool, one_int, one_str, one_ptr, one_nilptr, one_slice, one_eslice, one_nilslice, one_func, one_iface, one_niliface, Bool.and_true, Bool.true_and, List.getD_cons_zero, List.getD_cons_succ, List.contains_cons, List.contains_nil, Bool.or_true, Bool.true_or, Bool.or_false, Bool.false_or, Nat.reduceBEq, *]; done) | fail)) only [go_sem, Hold.p, HoldK.k, HoldL.K, HoldL.body, Nat.reduceBEq, Nat.reduceAdd, reduceIte]
    refine bslA_of (rows := strRows [111, 110, 101, 10, 10, 103, 101, 116, 32, 47, 97, 10, 10]) (by decide) rfl (by decide) ?_
    simp (disch := (first | omega | assumption | (simp only [push_n, set_n, put_n, List.length_cons, List.length_nil, List.length_append, Nat.reduceAdd]; done) | (simp only [push_n, set_n, put_n, List.length_cons, List.length_nil, List.length_append]; omega) | (simp only [List.all_cons, List.all_nil, one_bool, one_int, one_str, one_ptr, one_nilptr, one_slice, one_eslice, one_nilslice, one_func, one_iface, one_niliface, Bool.and_true, Bool.true_and, List.getD_cons_zero, List.getD_cons_succ, List.contains_cons, List.contains_nil, Bool.or_true, Bool.true_or, Bool.or_false, Bool.false_or, Nat.reduceBEq, *]; done) | fail)) only [go_sem, Hold.p, HoldK.k, HoldL.K, HoldL.body, Nat.reduceBEq, Nat.reduceAdd, reduceIte]
    generalize hq_g2 : IH.push g (IObj.rows (strRows [111, 110, 101, 10, 10, 103, 101, 116, 32, 47, 97, 10, 10]) 5 1 false) = g2
    have e_g2 : Ext g g2 := by rw [← hq_g2]; exact (Ext.refl _).push _
    have l_g2 : g2.n = g.n + 1 := by rw [← hq_g2]; rfl
    have b2 : At g2 g.n (IObj.rows (strRows [111, 110, 101, 10, 10, 103, 101, 116, 32, 47, 97, 10, 10]) 5 1 false) := by rw [← hq_g2]; exact At.new _ _
    clear hq_g2
    have S1 := S1.ext e_g2
    have q2 := b2.eq
    try simp (disch := (first | omega | assumption | (simp only [push_n, set_n, put_n, List.length_cons, List.length_nil, List.length_append, Nat.reduceAdd]; done) | (simp only [push_n, set_n, put_n, List.length_cons, List.length_nil, List.length_append]; omega) | (simp only [List.all_cons, List.all_nil, one_bool, one_int, one_str, one_ptr, one_nilptr, one_slice, one_eslice, one_nilslice, one_func, one_iface, one_niliface, Bool.and_true, Bool.true_and, List.getD_cons_zero, List.getD_cons_succ, List.contains_cons, List.contains_nil, Bool.or_true, Bool.true_or, Bool.or_false, Bool.false_or, Nat.reduceBEq, *]; done) | fail)) only [q2, go_sem, Hold.p, HoldK.k, HoldL.K, HoldL.body, Nat.reduceBEq, Nat.reduceAdd, reduceIte]
    have o : Own h.n (g.n + 1) g2 5 1 (.slice g.n 0 13) (strRows [111, 110, 101, 10, 10, 103, 101, 116, 32, 47, 97, 10, 10]) := by
      have := Own.mk (el := 5) (sz := 1) (lo := h.n) (hi := g.n + 1) (l := g.n) (rs := strRows [111, 110, 101, 10, 10, 103, 101, 116, 32, 47, 97, 10, 10]) (h := g2) (by decide) (by omega) (by omega) (by omega) b2.eq
      exact this
    exact ⟨_, by first | exact o | exact (by rw [l_g2]; exact o), by decide, S1, V1.ext e_g2⟩
  simp (disch := (first | omega | assumption | (simp only [push_n, set_n, put_n, List.length_cons, List.length_nil, List.length_append, Nat.reduceAdd]; done) | (simp only [push_n, set_n, put_n, List.length_cons, List.length_nil, List.length_append]; omega) | (simp only [List.all_cons, List.all_nil, one_bool, one_int, one_str, one_ptr, one_nilptr, one_slice, one_eslice, one_nilslice, one_func, one_iface, one_niliface, Bool.and_true, Bool.true_and, List.getD_cons_zero, List.getD_cons_succ, List.contains_cons, List.contains_nil, Bool.or_true, Bool.true_or, Bool.or_false, Bool.false_or, Nat.reduceBEq, *]; done) | fail)) only [go_sem, Hold.p, HoldK.k, HoldL.K, HoldL.body, Nat.reduceBEq, Nat.reduceAdd, reduceIte]
  refine test_dec (fun hb => ?_) (fun hb => ?_)
  · skip
    simp (disch := (first | omega | assumption | (simp only [push_n, set_n, put_n, List.length_cons, List.length_nil, List.length_append, Nat.reduceAdd]; done) | (simp only [push_n, set_n, put_n, List.length_cons, List.length_nil, List.length_append]; omega) | (simp only [List.all_cons, List.all_nil, one_bool, one_int, one_str, one_ptr, one_nilptr, one_slice, one_eslice, one_nilslice, one_func, one_iface, one_niliface, Bool.and_true, Bool.true_and, List.getD_cons_zero, List.getD_cons_succ, List.contains_cons, List.contains_nil, Bool.or_true, Bool.true_or, Bool.or_false, Bool.false_or, Nat.reduceBEq, *]; done) | fail)) only [go_sem, Hold.p, HoldK.k, HoldL.K, HoldL.body, Nat.reduceBEq, Nat.reduceAdd, reduceIte]
    refine bslA_of (rows := strRows [116, 119, 111]) (by decide) rfl (by decide) ?_
    simp (disch := (first | omega | assumption | (simp only [push_n, set_n, put_n, List.length_cons, List.length_nil, List.length_append, Nat.reduceAdd]; done) | (simp only [push_n, set_n, put_n, List.length_cons, List.length_nil, List.length_append]; omega) | (simp only [List.all_cons, List.all_nil, one_bool, one_int, one_str, one_ptr, one_nilptr, one_slice, one_eslice, one_nilslice, one_func, one_iface, one_niliface, Bool.and_true, Bool.true_and, List.getD_cons_zero, List.getD_cons_succ, List.contains_cons, List.contains_nil, Bool.or_true, Bool.true_or, Bool.or_false, Bool.false_or, Nat.reduceBEq, *]; done) | fail)) only [go_sem, Hold.p, HoldK.k, HoldL.K, HoldL.body, Nat.reduceBEq, Nat.reduceAdd, reduceIte]
    generalize hq_g2 : IH.push g (IObj.rows (strRows [116, 119, 111]) 5 1 false) = g2
    have e_g2 : Ext g g2 := by rw [← hq_g2]; exact (Ext.refl _).push _
    have l_g2 : g2.n = g.n + 1 := by rw [← hq_g2]; rfl
    have b2 : At g2 g.n (IObj.rows (strRows [116, 119, 111]) 5 1 false) := by rw [← hq_g2]; exact At.new _ _
    clear hq_g2
    have S1 := S1.ext e_g2
    have q2 := b2.eq
    try simp (disch := (first | omega | assumption | (simp only [push_n, set_n, put_n, List.length_cons, List.length_nil, List.length_append, Nat.reduceAdd]; done) | (simp only [push_n, set_n, put_n, List.length_cons, List.length_nil, List.length_append]; omega) | (simp only [List.all_cons, List.all_nil, one_bool, one_int, one_str, one_ptr, one_nilptr, one_slice, one_eslice, one_nilslice, one_func, one_iface, one_niliface, Bool.and_true, Bool.true_and, List.getD_cons_zero, List.getD_cons_succ, List.contains_cons, List.contains_nil, Bool.or_true, Bool.true_or, Bool.or_false, Bool.false_or, Nat.reduceBEq, *]; done) | fail)) only [q2, go_sem, Hold.p, HoldK.k, HoldL.K, HoldL.body, Nat.reduceBEq, Nat.reduceAdd, reduceIte]
    have o : Own h.n (g.n + 1) g2 5 1 (.slice g.n 0 3) (strRows [116, 119, 111]) := by
      have := Own.mk (el := 5) (sz := 1) (lo := h.n) (hi := g.n + 1) (l := g.n) (rs := strRows [116, 119, 111]) (h := g2) (by decide) (by omega) (by omega) (by omega) b2.eq
      exact this
    exact ⟨_, by first | exact o | exact (by rw [l_g2]; exact o), by decide, S1, V1.ext e_g2⟩
  simp (disch := (first | omega | assumption | (simp only [push_n, set_n, put_n, List.length_cons, List.length_nil, List.length_append, Nat.reduceAdd]; done) | (simp only [push_n, set_n, put_n, List.length_cons, List.length_nil, List.length_append]; omega) | (simp only [List.all_cons, List.all_nil, one_bool, one_int, one_str, one_ptr, one_nilptr, one_slice, one_eslice, one_nilslice, one_func, one_iface, one_niliface, Bool.and_true, Bool.true_and, List.getD_cons_zero, List.getD_cons_succ, List.contains_cons, List.contains_nil, Bool.or_true, Bool.true_or, Bool.or_false, Bool.false_or, Nat.reduceBEq, *]; done) | fail)) only [go_sem, Hold.p, HoldK.k, HoldL.K, HoldL.body, Nat.reduceBEq, Nat.reduceAdd, reduceIte]
  refine test_dec (fun hb => ?_) (fun hb => ?_)
  · skip
    simp (disch := (first | omega | assumption | (simp only [push_n, set_n, put_n, List.length_cons, List.length_nil, List.length_append, Nat.reduceAdd]; done) | (simp only [push_n, set_n, put_n, List.length_cons, List.length_nil, List.length_append]; omega) | (simp only [List.all_cons, List.all_nil, one_bool, one_int, one_str, one_ptr, one_nilptr, one_slice, one_eslice, one_nilslice, one_func, one_iface, one_niliface, Bool.and_true, Bool.true_and, List.getD_cons_zero, List.getD_cons_succ, List.contains_cons, List.contains_nil, Bool.or_true, Bool.true_or, Bool.or_false, Bool.false_or, Nat.reduceBEq, *]; done) | fail)) only [go_sem, Hold.p, HoldK.k, HoldL.K, HoldL.body, Nat.reduceBEq, Nat.reduceAdd, reduceIte]
    refine bslA_of (rows := strRows [0, 255, 10, 10]) (by decide) rfl (by decide) ?_
    simp (disch := (first | omega | assumption | (simp only [push_n, set_n, put_n, List.length_cons, List.length_nil, List.length_append, Nat.reduceAdd]; done) | (simp only [push_n, set_n, put_n, List.length_cons, List.length_nil, List.length_append]; omega) | (simp only [List.all_cons, List.all_nil, one_bool, one_int, one_str, one_ptr, one_nilptr, one_slice, one_eslice, one_nilslice, one_func, one_iface, one_niliface, Bool.and_true, Bool.true_and, List.getD_cons_zero, List.getD_cons_succ, List.contains_cons, List.contains_nil, Bool.or_true, Bool.true_or, Bool.or_false, Bool.false_or, Nat.reduceBEq, *]; done) | fail)) only [go_sem, Hold.p, HoldK.k, HoldL.K, HoldL.body, Nat.reduceBEq, Nat.reduceAdd, reduceIte]
    generalize hq_g2 : IH.push g (IObj.rows (strRows [0, 255, 10, 10]) 5 1 false) = g2
    have e_g2 : Ext g g2 := by rw [← hq_g2]; exact (Ext.refl _).push _
    have l_g2 : g2.n = g.n + 1 := by rw [← hq_g2]; rfl
    have b2 : At g2 g.n (IObj.rows (strRows [0, 255, 10, 10]) 5 1 false) := by rw [← hq_g2]; exact At.new _ _
    clear hq_g2
    have S1 := S1.ext e_g2
    have q2 := b2.eq
    try simp (disch := (first | omega | assumption | (simp only [push_n, set_n, put_n, List.length_cons, List.length_nil, List.length_append, Nat.reduceAdd]; done) | (simp only [push_n, set_n, put_n, List.length_cons, List.length_nil, List.length_append]; omega) | (simp only [List.all_cons, List.all_nil, one_bool, one_int, one_str, one_ptr, one_nilptr, one_slice, one_eslice, one_nilslice, one_func, one_iface, one_niliface, Bool.and_true, Bool.true_and, List.getD_cons_zero, List.getD_cons_succ, List.contains_cons, List.contains_nil, Bool.or_true, Bool.true_or, Bool.or_false, Bool.false_or, Nat.reduceBEq, *]; done) | fail)) only [q2, go_sem, Hold.p, HoldK.k, HoldL.K, HoldL.body, Nat.reduceBEq, Nat.reduceAdd, reduceIte]
    have o : Own h.n (g.n + 1) g2 5 1 (.slice g.n 0 4) (strRows [0, 255, 10, 10]) := by
      have := Own.mk (el := 5) (sz := 1) (lo := h.n) (hi := g.n + 1) (l := g.n) (rs := strRows [0, 255, 10, 10]) (h := g2) (by decide) (by omega) (by omega) (by omega) b2.eq
      exact this
    exact ⟨_, by first | exact o | exact (by rw [l_g2]; exact o), by decide, S1, V1.ext e_g2⟩
  simp (disch := (first | omega | assumption | (simp only [push_n, set_n, put_n, List.length_cons, List.length_nil, List.length_append, Nat.reduceAdd]; done) | (simp only [push_n, set_n, put_n, List.length_cons, List.length_nil, List.length_append]; omega) | (simp only [List.all_cons, List.all_nil, one_bool, one_int, one_str, one_ptr, one_nilptr, one_slice, one_eslice, one_nilslice, one_func, one_iface, one_niliface, Bool.and_true, Bool.true_and, List.getD_cons_zero, List.getD_cons_succ, List.contains_cons, List.contains_nil, Bool.or_true, Bool.true_or, Bool.or_false, Bool.false_or, Nat.reduceBEq, *]; done) | fail)) only [go_sem, Hold.p, HoldK.k, HoldL.K, HoldL.body, Nat.reduceBEq, Nat.reduceAdd, reduceIte]
  refine callA_of (l01Next_c g p v code 40 S1 (by omega) (by omega) hl) ?_
  rintro r g2 ⟨z, rfl, z0, z1, S2, V2, hn2⟩
  have w1 : wr .i64 (1 + z) = 1 + z := wr64 _ (by omega)
  simp (disch := (first | omega | assumption | (simp only [push_n, set_n, put_n, List.length_cons, List.length_nil, List.length_append, Nat.reduceAdd]; done) | (simp only [push_n, set_n, put_n, List.length_cons, List.length_nil, List.length_append]; omega) | (simp only [List.all_cons, List.all_nil, one_bool, one_int, one_str, one_ptr, one_nilptr, one_slice, one_eslice, one_nilslice, one_func, one_iface, one_niliface, Bool.and_true, Bool.true_and, List.getD_cons_zero, List.getD_cons_succ, List.contains_cons, List.contains_nil, Bool.or_true, Bool.true_or, Bool.or_false, Bool.false_or, Nat.reduceBEq, *]; done) | fail)) only [w1, go_sem, Hold.p, HoldK.k, HoldL.K, HoldL.body, Nat.reduceBEq, Nat.reduceAdd, reduceIte]
  refine callA_of (l01Bytes_c g2 p v code (1 + z) S2 (by omega) (by omega) hl (by omega)) ?_
  rintro r g3 ⟨bs, o, hbl, S3, V3⟩
  simp (disch := (first | omega | assumption | (simp only [push_n, set_n, put_n, List.length_cons, List.length_nil, List.length_append, Nat.reduceAdd]; done) | (simp only [push_n, set_n, put_n, List.length_cons, List.length_nil, List.length_append]; omega) | (simp only [List.all_cons, List.all_nil, one_bool, one_int, one_str, one_ptr, one_nilptr, one_slice, one_eslice, one_nilslice, one_func, one_iface, one_niliface, Bool.and_true, Bool.true_and, List.getD_cons_zero, List.getD_cons_succ, List.contains_cons, List.contains_nil, Bool.or_true, Bool.true_or, Bool.or_false, Bool.false_or, Nat.reduceBEq, *]; done) | fail)) only [go_sem, Hold.p, HoldK.k, HoldL.K, HoldL.body, Nat.reduceBEq, Nat.reduceAdd, reduceIte]
  exact ⟨bs, o.wide (by omega) (Nat.le_refl _) (Nat.le_refl _), by omega, S3, (V1.trans V2).trans V3⟩
end
end Go.Proofs.YtdpaehdolhdjdaaGreatDoor

set_option maxRecDepth 20000
namespace Go.Proofs.YtdpaehdolhdjdaaGreatDoor
open Go Go.IW
section
attribute [local go_sem] List.getElem?_cons_zero List.getElem?_cons_succ Option.bind_some List.map_cons List.map_nil Nat.zero_add if_true List.getD_cons_zero List.getD_cons_succ List.contains_cons List.contains_nil Bool.or_true Bool.true_or Bool.or_false Bool.false_or Bool.not_true Bool.not_false true_and and_true rowA_whole mid_get stO_mid rowO_rows cellO_rows push_n set_n push_at push_old set_here set_there set_pushT set_pushN set_set upd_ne Nat.add_assoc Nat.add_zero stO_1s stO_ws boxA_s List.all_cons List.all_nil one_bool one_int one_str one_ptr one_nilptr one_slice one_eslice one_nilslice one_func one_iface one_niliface Bool.and_true Bool.and_self List.length_cons List.length_nil Nat.one_ne_zero Nat.succ_ne_zero if_false List.set_cons_zero List.set_cons_succ lay_nil lay_1 lay_w Option.map_some

def FldT (fs : List Fld) : Prop := ∀ f ∈ fs, f.1.length ≤ 40 ∧ f.2.length ≤ 40
def fvRows : List (List IV) := [[.str []], [.str [48, 49]], [.str [45, 49]], [.str [57, 57, 57, 57, 57, 57, 57, 57, 57]], [.str [49, 50, 51, 52, 53, 54, 55, 56, 57, 48]]]
abbrev fldObj (a b : Txt) : IObj := .rows [[.str a, .str b]] 106 2 false
set_option maxHeartbeats 1000000 in
theorem l20Fields_c (h : IH) (p : Nat) (v w : IV) (code body : Txt) (S : Src h p v code) (hw : SlR h 1 w (strRows body)) (hwp : ∀ l i n, w = .slice l i n → l ≠ p) (hl : code.length ≤ 1048576) (hbl : body.length ≤ 1048576) (hpn : p < h.n) :
    ICalls Tryz.prog 50 [.ptr p 0 0, w] h fun r h' => ∃ fs : List Fld, Own h.n h'.n h' 106 2 r (fldRows fs) ∧ fs.length ≤ 2 ∧ FldT fs ∧ Src h' p v code ∧ Sav p h h' := by
  refine icalls (.of ok50) (Nat.le_of_ble_eq_true rfl) ?_
  unfold c50
  have S0 := S
  simp (disch := (first | omega | assumption | (simp only [push_n, set_n, put_n, List.length_cons, List.length_nil, List.length_append, Nat.reduceAdd]; done) | (simp only [push_n, set_n, put_n, List.length_cons, List.length_nil, List.length_append]; omega) | (simp only [List.all_cons, List.all_nil, one_bool, one_int, one_str, one_ptr, one_nilptr, one_slice, one_eslice, one_nilslice, one_func, one_iface, one_niliface, Bool.and_true, Bool.true_and, List.getD_cons_zero, List.getD_cons_succ, List.contains_cons, List.contains_nil, Bool.or_true, Bool.true_or, Bool.or_false, Bool.false_or, Nat.reduceBEq, *]; done) | fail)) only [bslA_0, go_sem, Hold.p, HoldK.k, HoldL.K, HoldL.body, Nat.reduceBEq, Nat.reduceAdd, reduceIte]
  refine callA_of (l01Next_c h p v code 3 S (by omega) (by omega) hl) ?_
  rintro r g ⟨n, rfl, n0, n1, S1, V1, hn1⟩
  simp (disch := (first | omega | assumption | (simp only [push_n, set_n, put_n, List.length_cons, List.length_nil, List.length_append, Nat.reduceAdd]; done) | (simp only [push_n, set_n, put_n, List.length_cons, List.length_nil, List.length_append]; omega) | (simp only [List.all_cons, List.all_nil, one_bool, one_int, one_str, one_ptr, one_nilptr, one_slice, one_eslice, one_nilslice, one_func, one_iface, one_niliface, Bool.and_true, Bool.true_and, List.getD_cons_zero, List.getD_cons_succ, List.contains_cons, List.contains_nil, Bool.or_true, Bool.true_or, Bool.or_false, Bool.false_or, Nat.reduceBEq, *]; done) | fail)) only [go_sem, Hold.p, HoldK.k, HoldL.K, HoldL.body, Nat.reduceBEq, Nat.reduceAdd, reduceIte]
  refine loop_at (fun m e g => ∃ (k : Nat) (x : IV) (lo hi : Nat) (fs : List Fld), m = n.toNat - k ∧ (k : Int) ≤ n ∧ e 0 = .ptr p 0 0 ∧ e 1 = w ∧ e 5 = x ∧ e 6 = .int .i64 n ∧ e 7 = .int .i64 (k : Nat) ∧ fs.length = k ∧ FldT fs ∧ Src g p v code ∧ Sav p h g ∧ h.n ≤ lo ∧ lo ≤ g.n ∧ hi ≤ g.n ∧ Own lo hi g 106 2 x (fldRows fs)) n.toNat ?_ ?_
  · refine ⟨0, .eslice true, g.n, g.n, [], by omega, by omega, ?_⟩
    simp (disch := (first | omega | assumption | (simp only [push_n, set_n, put_n, List.length_cons, List.length_nil, List.length_append, Nat.reduceAdd]; done) | (simp only [push_n, set_n, put_n, List.length_cons, List.length_nil, List.length_append]; omega) | (simp only [List.all_cons, List.all_nil, one_bool, one_int, one_str, one_ptr, one_nilptr, one_slice, one_eslice, one_nilslice, one_func, one_iface, one_niliface, Bool.and_true, Bool.true_and, List.getD_cons_zero, List.getD_cons_succ, List.contains_cons, List.contains_nil, Bool.or_true, Bool.true_or, Bool.or_false, Bool.false_or, Nat.reduceBEq, *]; done) | fail)) only [go_sem, Hold.p, HoldK.k, HoldL.K, HoldL.body, Nat.reduceBEq, Nat.reduceAdd, reduceIte]
    exact ⟨rfl, fun _ h => by simp at h, S1, V1, by omega, Nat.le_refl _, Nat.le_refl _, Own.empty⟩
  · clear S1 V1 hn1 g
    rintro m e g ⟨k, x, lo, hi, fs, rfl, hk, i0, i1, i5, i6, i7, hfl, hT, S, V, hlo, hlg, hhi, o⟩
    have hle := V.le
    simp (disch := (first | omega | assumption | (simp only [push_n, set_n, put_n, List.length_cons, List.length_nil, List.length_append, Nat.reduceAdd]; done) | (simp only [push_n, set_n, put_n, List.length_cons, List.length_nil, List.length_append]; omega) | (simp only [List.all_cons, List.all_nil, one_bool, one_int, one_str, one_ptr, one_nilptr, one_slice, one_eslice, one_nilslice, one_func, one_iface, one_niliface, Bool.and_true, Bool.true_and, List.getD_cons_zero, List.getD_cons_succ, List.contains_cons, List.contains_nil, Bool.or_true, Bool.true_or, Bool.or_false, Bool.false_or, Nat.reduceBEq, *]; done) | fail)) only [i6, i7, go_sem, Hold.p, HoldK.k, HoldL.K, HoldL.body, Nat.reduceBEq, Nat.reduceAdd, reduceIte]
    refine test_dec (fun hb => ?_) (fun hb => ?_)
    · simp only [Hold.p]
      rw [vc_skip]
      show vc _ _ _ _ _
      rw [vc_seq, vc_block]
      refine vc_split 2 (fun e' g' => ∃ (q : Nat) (nm vl : Txt), e' 0 = .ptr p 0 0 ∧ e' 1 = w ∧ e' 5 = x ∧ e' 6 = .int .i64 n ∧ e' 7 = .int .i64 (k : Nat) ∧ e' 8 = .ptr q 0 0 ∧ nm.length ≤ 40 ∧ vl.length ≤ 40 ∧ At g' q (fldObj nm vl) ∧ Src g' p v code ∧ Sav p h g' ∧ g.n ≤ q ∧ g.n ≤ g'.n ∧ Own lo hi g' 106 2 x (fldRows fs)) ?_ ?_
      · simp only [CC.split]
        simp (disch := (first | omega | assumption | (simp only [push_n, set_n, put_n, List.length_cons, List.length_nil, List.length_append, Nat.reduceAdd]; done) | (simp only [push_n, set_n, put_n, List.length_cons, List.length_nil, List.length_append]; omega) | (simp only [List.all_cons, List.all_nil, one_bool, one_int, one_str, one_ptr, one_nilptr, one_slice, one_eslice, one_nilslice, one_func, one_iface, one_niliface, Bool.and_true, Bool.true_and, List.getD_cons_zero, List.getD_cons_succ, List.contains_cons, List.contains_nil, Bool.or_true, Bool.true_or, Bool.or_false, Bool.false_or, Nat.reduceBEq, *]; done) | fail)) only [go_sem, Hold.p, HoldK.k, HoldL.K, HoldL.body, Nat.reduceBEq, Nat.reduceAdd, reduceIte]
        generalize hq_g1 : IH.push g (fldObj [110, 111, 116, 101] [120, 58, 32, 121, 32, 32, 122]) = g1
        have e_g1 : Ext g g1 := by rw [← hq_g1]; exact (Ext.refl _).push _
        have l_g1 : g1.n = g.n + 1 := by rw [← hq_g1]; rfl
        have b1 : At g1 g.n (fldObj [110, 111, 116, 101] [120, 58, 32, 121, 32, 32, 122]) := by rw [← hq_g1]; exact At.new _ _
        clear hq_g1
        have S := S.ext e_g1
        have o := o.ext e_g1
        have V := V.ext e_g1
        have q1 := b1.eq
        try simp (disch := (first | omega | assumption | (simp only [push_n, set_n, put_n, List.length_cons, List.length_nil, List.length_append, Nat.reduceAdd]; done) | (simp only [push_n, set_n, put_n, List.length_cons, List.length_nil, List.length_append]; omega) | (simp only [List.all_cons, List.all_nil, one_bool, one_int, one_str, one_ptr, one_nilptr, one_slice, one_eslice, one_nilslice, one_func, one_iface, one_niliface, Bool.and_true, Bool.true_and, List.getD_cons_zero, List.getD_cons_succ, List.contains_cons, List.contains_nil, Bool.or_true, Bool.true_or, Bool.or_false, Bool.false_or, Nat.reduceBEq, *]; done) | fail)) only [i0, go_sem, Hold.p, HoldK.k, HoldL.K, HoldL.body, Nat.reduceBEq, Nat.reduceAdd, reduceIte]
        refine callA_of (l01Next_c g1 p v code 5 S (by omega) (by omega) hl) ?_
        rintro r g2 ⟨y, rfl, y0, y1, S2, V2, hn2⟩
        have b2 := b1.sav V2 (by omega)
        have o := o.sav V2 (by omega)
        have V := V.trans V2
        have q2 := b2.eq
        have hset : ∀ ob, Src (g2.set g.n ob) p v code ∧ Sav p h (g2.set g.n ob) ∧ Own lo hi (g2.set g.n ob) 106 2 x (fldRows fs) := fun ob => by
          have W := V.set (l := g.n) (.inl (by omega)) ob
          exact ⟨S0.back hpn S2 W (set_there _ _ _ _ (by omega)), W, o.set (.inr (by omega)) _⟩
        simp (disch := (first | omega | assumption | (simp only [push_n, set_n, put_n, List.length_cons, List.length_nil, List.length_append, Nat.reduceAdd]; done) | (simp only [push_n, set_n, put_n, List.length_cons, List.length_nil, List.length_append]; omega) | (simp only [List.all_cons, List.all_nil, one_bool, one_int, one_str, one_ptr, one_nilptr, one_slice, one_eslice, one_nilslice, one_func, one_iface, one_niliface, Bool.and_true, Bool.true_and, List.getD_cons_zero, List.getD_cons_succ, List.contains_cons, List.contains_nil, Bool.or_true, Bool.true_or, Bool.or_false, Bool.false_or, Nat.reduceBEq, *]; done) | fail)) only [go_sem, Hold.p, HoldK.k, HoldL.K, HoldL.body, Nat.reduceBEq, Nat.reduceAdd, reduceIte]
        refine test_dec (fun hb1 => ?_) (fun hb1 => ?_)
        · simp (disch := (first | omega | assumption | (simp only [push_n, set_n, put_n, List.length_cons, List.length_nil, List.length_append, Nat.reduceAdd]; done) | (simp only [push_n, set_n, put_n, List.length_cons, List.length_nil, List.length_append]; omega) | (simp only [List.all_cons, List.all_nil, one_bool, one_int, one_str, one_ptr, one_nilptr, one_slice, one_eslice, one_nilslice, one_func, one_iface, one_niliface, Bool.and_true, Bool.true_and, List.getD_cons_zero, List.getD_cons_succ, List.contains_cons, List.contains_nil, Bool.or_true, Bool.true_or, Bool.or_false, Bool.false_or, Nat.reduceBEq, *]; done) | fail)) only [i1, go_sem, Hold.p, HoldK.k, HoldL.K, HoldL.body, Nat.reduceBEq, Nat.reduceAdd, reduceIte]
          refine callA_of (l20Mark_c g2 w body ((V.sl hw hwp)) hbl) ?_
          rintro r g3 ⟨s, rfl, hsl, E3⟩
          have b3 := b2.ext E3
          have q3 := b3.eq
          have V3 := V.ext E3
          have S3 := S2.ext E3
          have o3 := o.ext E3
          have W := V3.set (l := g.n) (.inl (by omega)) (fldObj [109, 97, 116, 99, 104] s)
          have hle3 := E3.le
          simp (disch := (first | omega | assumption | (simp only [push_n, set_n, put_n, List.length_cons, List.length_nil, List.length_append, Nat.reduceAdd]; done) | (simp only [push_n, set_n, put_n, List.length_cons, List.length_nil, List.length_append]; omega) | (simp only [List.all_cons, List.all_nil, one_bool, one_int, one_str, one_ptr, one_nilptr, one_slice, one_eslice, one_nilslice, one_func, one_iface, one_niliface, Bool.and_true, Bool.true_and, List.getD_cons_zero, List.getD_cons_succ, List.contains_cons, List.contains_nil, Bool.or_true, Bool.true_or, Bool.or_false, Bool.false_or, Nat.reduceBEq, *]; done) | fail)) only [q3, i0, i1, i5, i6, i7, go_sem, Hold.p, HoldK.k, HoldL.K, HoldL.body, Nat.reduceBEq, Nat.reduceAdd, reduceIte]
          exact ⟨g.n, [109, 97, 116, 99, 104], s, rfl, by simp, hsl, ⟨b3.lt, set_here _ _ _⟩, S0.back hpn S3 W (set_there _ _ _ _ (by omega)), W, Nat.le_refl _, by omega, o3.set (.inr (by omega)) _⟩
        simp (disch := (first | omega | assumption | (simp only [push_n, set_n, put_n, List.length_cons, List.length_nil, List.length_append, Nat.reduceAdd]; done) | (simp only [push_n, set_n, put_n, List.length_cons, List.length_nil, List.length_append]; omega) | (simp only [List.all_cons, List.all_nil, one_bool, one_int, one_str, one_ptr, one_nilptr, one_slice, one_eslice, one_nilslice, one_func, one_iface, one_niliface, Bool.and_true, Bool.true_and, List.getD_cons_zero, List.getD_cons_succ, List.contains_cons, List.contains_nil, Bool.or_true, Bool.true_or, Bool.or_false, Bool.false_or, Nat.reduceBEq, *]; done) | fail)) only [go_sem, Hold.p, HoldK.k, HoldL.K, HoldL.body, Nat.reduceBEq, Nat.reduceAdd, reduceIte]
        refine test_dec (fun hb1 => ?_) (fun hb1 => ?_)
        · simp (disch := (first | omega | assumption | (simp only [push_n, set_n, put_n, List.length_cons, List.length_nil, List.length_append, Nat.reduceAdd]; done) | (simp only [push_n, set_n, put_n, List.length_cons, List.length_nil, List.length_append]; omega) | (simp only [List.all_cons, List.all_nil, one_bool, one_int, one_str, one_ptr, one_nilptr, one_slice, one_eslice, one_nilslice, one_func, one_iface, one_niliface, Bool.and_true, Bool.true_and, List.getD_cons_zero, List.getD_cons_succ, List.contains_cons, List.contains_nil, Bool.or_true, Bool.true_or, Bool.or_false, Bool.false_or, Nat.reduceBEq, *]; done) | fail)) only [i0, go_sem, Hold.p, HoldK.k, HoldL.K, HoldL.body, Nat.reduceBEq, Nat.reduceAdd, reduceIte]
          refine callA_of (l01Next_c g2 p v code 20 S2 (by omega) (by omega) hl) ?_
          rintro r g3 ⟨z, rfl, z0, z1, S3, V3, hn3⟩
          have b3 := b2.sav V3 (by omega)
          have o3 := o.sav V3 (by omega)
          have V := V.trans V3
          simp (disch := (first | omega | assumption | (simp only [push_n, set_n, put_n, List.length_cons, List.length_nil, List.length_append, Nat.reduceAdd]; done) | (simp only [push_n, set_n, put_n, List.length_cons, List.length_nil, List.length_append]; omega) | (simp only [List.all_cons, List.all_nil, one_bool, one_int, one_str, one_ptr, one_nilptr, one_slice, one_eslice, one_nilslice, one_func, one_iface, one_niliface, Bool.and_true, Bool.true_and, List.getD_cons_zero, List.getD_cons_succ, List.contains_cons, List.contains_nil, Bool.or_true, Bool.true_or, Bool.or_false, Bool.false_or, Nat.reduceBEq, *]; done) | fail)) only [go_sem, Hold.p, HoldK.k, HoldL.K, HoldL.body, Nat.reduceBEq, Nat.reduceAdd, reduceIte]
          refine callA_of (numI_c g3 (n := z) z0 (by omega)) ?_
          rintro r g4 ⟨rfl, E4⟩
          have b4 := b3.ext E4
          have q4 := b4.eq
          have V4 := V.ext E4
          have S4 := S3.ext E4
          have o4 := o3.ext E4
          have hnl := numI_len (n := z) (by omega)
          have W := V4.set (l := g.n) (.inl (by omega)) (fldObj [102, 114, 111, 109] (numI z))
          have hle4 := E4.le
          simp (disch := (first | omega | assumption | (simp only [push_n, set_n, put_n, List.length_cons, List.length_nil, List.length_append, Nat.reduceAdd]; done) | (simp only [push_n, set_n, put_n, List.length_cons, List.length_nil, List.length_append]; omega) | (simp only [List.all_cons, List.all_nil, one_bool, one_int, one_str, one_ptr, one_nilptr, one_slice, one_eslice, one_nilslice, one_func, one_iface, one_niliface, Bool.and_true, Bool.true_and, List.getD_cons_zero, List.getD_cons_succ, List.contains_cons, List.contains_nil, Bool.or_true, Bool.true_or, Bool.or_false, Bool.false_or, Nat.reduceBEq, *]; done) | fail)) only [q4, i0, i1, i5, i6, i7, go_sem, Hold.p, HoldK.k, HoldL.K, HoldL.body, Nat.reduceBEq, Nat.reduceAdd, reduceIte]
          exact ⟨g.n, [102, 114, 111, 109], numI z, rfl, by simp, by omega, ⟨b4.lt, set_here _ _ _⟩, S0.back hpn S4 W (set_there _ _ _ _ (by omega)), W, Nat.le_refl _, by omega, o4.set (.inr (by omega)) _⟩
        simp (disch := (first | omega | assumption | (simp only [push_n, set_n, put_n, List.length_cons, List.length_nil, List.length_append, Nat.reduceAdd]; done) | (simp only [push_n, set_n, put_n, List.length_cons, List.length_nil, List.length_append]; omega) | (simp only [List.all_cons, List.all_nil, one_bool, one_int, one_str, one_ptr, one_nilptr, one_slice, one_eslice, one_nilslice, one_func, one_iface, one_niliface, Bool.and_true, Bool.true_and, List.getD_cons_zero, List.getD_cons_succ, List.contains_cons, List.contains_nil, Bool.or_true, Bool.true_or, Bool.or_false, Bool.false_or, Nat.reduceBEq, *]; done) | fail)) only [go_sem, Hold.p, HoldK.k, HoldL.K, HoldL.body, Nat.reduceBEq, Nat.reduceAdd, reduceIte]
        refine test_dec (fun hb1 => ?_) (fun hb1 => ?_)
        · simp (disch := (first | omega | assumption | (simp only [push_n, set_n, put_n, List.length_cons, List.length_nil, List.length_append, Nat.reduceAdd]; done) | (simp only [push_n, set_n, put_n, List.length_cons, List.length_nil, List.length_append]; omega) | (simp only [List.all_cons, List.all_nil, one_bool, one_int, one_str, one_ptr, one_nilptr, one_slice, one_eslice, one_nilslice, one_func, one_iface, one_niliface, Bool.and_true, Bool.true_and, List.getD_cons_zero, List.getD_cons_succ, List.contains_cons, List.contains_nil, Bool.or_true, Bool.true_or, Bool.or_false, Bool.false_or, Nat.reduceBEq, *]; done) | fail)) only [go_sem, Hold.p, HoldK.k, HoldL.K, HoldL.body, Nat.reduceBEq, Nat.reduceAdd, reduceIte]
          refine bslA_of (rows := fvRows) (by decide) rfl (by decide) ?_
          simp (disch := (first | omega | assumption | (simp only [push_n, set_n, put_n, List.length_cons, List.length_nil, List.length_append, Nat.reduceAdd]; done) | (simp only [push_n, set_n, put_n, List.length_cons, List.length_nil, List.length_append]; omega) | (simp only [List.all_cons, List.all_nil, one_bool, one_int, one_str, one_ptr, one_nilptr, one_slice, one_eslice, one_nilslice, one_func, one_iface, one_niliface, Bool.and_true, Bool.true_and, List.getD_cons_zero, List.getD_cons_succ, List.contains_cons, List.contains_nil, Bool.or_true, Bool.true_or, Bool.or_false, Bool.false_or, Nat.reduceBEq, *]; done) | fail)) only [i0, go_sem, Hold.p, HoldK.k, HoldL.K, HoldL.body, Nat.reduceBEq, Nat.reduceAdd, reduceIte]
          generalize hq_g5 : IH.push g2 (IObj.rows fvRows 9 1 false) = g5
          have e_g5 : Ext g2 g5 := by rw [← hq_g5]; exact (Ext.refl _).push _
          have l_g5 : g5.n = g2.n + 1 := by rw [← hq_g5]; rfl
          have b5 : At g5 g2.n (IObj.rows fvRows 9 1 false) := by rw [← hq_g5]; exact At.new _ _
          clear hq_g5
          have S2 := S2.ext e_g5
          have b2 := b2.ext e_g5
          have o := o.ext e_g5
          refine callA_of (l01Next_c g5 p v code 5 S2 (by omega) (by omega) hl) ?_
          rintro r g6 ⟨z, rfl, z0, z1, S6, V6, hn6⟩
          have b6 := b5.sav V6 (by omega)
          have b7 := b2.sav V6 (by omega)
          have o := o.sav V6 (by omega)
          have V := (V.ext e_g5).trans V6
          obtain ⟨z, rfl⟩ : ∃ m : Nat, z = (m : Int) := ⟨z.toNat, by omega⟩
          have hz : z < 5 := by omega
          obtain ⟨u, hu, hul⟩ : ∃ u : List UInt8, fvRows[z]? = some [.str u] ∧ u.length ≤ 10 := by
            match z, hz with
            | 0, _ | 1, _ | 2, _ | 3, _ | 4, _ => exact ⟨_, rfl, by simp⟩
          have hia : iadrF g6 1 (.slice g2.n 0 5) (.int .i64 (z : Int)) = some (.ptr g2.n z 0) := by
            rw [iadrF_nat hz (by rw [b6.eq]; rfl), Nat.zero_add]
          have hcc : cellO (g6.obj g2.n) z 0 = some (.str u) := by
            rw [b6.eq]
            show (_ : Option (List IV)).bind _ = _
            rw [hu]; rfl
          have q7 := b7.eq
          have W := V.set (l := g.n) (.inl (by omega)) (fldObj [102, 114, 111, 109] u)
          simp (disch := (first | omega | assumption | (simp only [push_n, set_n, put_n, List.length_cons, List.length_nil, List.length_append, Nat.reduceAdd]; done) | (simp only [push_n, set_n, put_n, List.length_cons, List.length_nil, List.length_append]; omega) | (simp only [List.all_cons, List.all_nil, one_bool, one_int, one_str, one_ptr, one_nilptr, one_slice, one_eslice, one_nilslice, one_func, one_iface, one_niliface, Bool.and_true, Bool.true_and, List.getD_cons_zero, List.getD_cons_succ, List.contains_cons, List.contains_nil, Bool.or_true, Bool.true_or, Bool.or_false, Bool.false_or, Nat.reduceBEq, *]; done) | fail)) only [hia, hcc, q7, i0, i1, i5, i6, i7, go_sem, Hold.p, HoldK.k, HoldL.K, HoldL.body, Nat.reduceBEq, Nat.reduceAdd, reduceIte]
          exact ⟨g.n, [102, 114, 111, 109], u, rfl, by simp, by omega, ⟨b7.lt, set_here _ _ _⟩, S0.back hpn S6 W (set_there _ _ _ _ (by omega)), W, Nat.le_refl _, by omega, o.set (.inr (by omega)) _⟩
        simp (disch := (first | omega | assumption | (simp only [push_n, set_n, put_n, List.length_cons, List.length_nil, List.length_append, Nat.reduceAdd]; done) | (simp only [push_n, set_n, put_n, List.length_cons, List.length_nil, List.length_append]; omega) | (simp only [List.all_cons, List.all_nil, one_bool, one_int, one_str, one_ptr, one_nilptr, one_slice, one_eslice, one_nilslice, one_func, one_iface, one_niliface, Bool.and_true, Bool.true_and, List.getD_cons_zero, List.getD_cons_succ, List.contains_cons, List.contains_nil, Bool.or_true, Bool.true_or, Bool.or_false, Bool.false_or, Nat.reduceBEq, *]; done) | fail)) only [go_sem, Hold.p, HoldK.k, HoldL.K, HoldL.body, Nat.reduceBEq, Nat.reduceAdd, reduceIte]
        refine test_dec (fun hb1 => ?_) (fun hb1 => ?_)
        · obtain ⟨c1, c2, c3⟩ := hset (fldObj [109, 97, 116, 99, 104] [55])
          simp (disch := (first | omega | assumption | (simp only [push_n, set_n, put_n, List.length_cons, List.length_nil, List.length_append, Nat.reduceAdd]; done) | (simp only [push_n, set_n, put_n, List.length_cons, List.length_nil, List.length_append]; omega) | (simp only [List.all_cons, List.all_nil, one_bool, one_int, one_str, one_ptr, one_nilptr, one_slice, one_eslice, one_nilslice, one_func, one_iface, one_niliface, Bool.and_true, Bool.true_and, List.getD_cons_zero, List.getD_cons_succ, List.contains_cons, List.contains_nil, Bool.or_true, Bool.true_or, Bool.or_false, Bool.false_or, Nat.reduceBEq, *]; done) | fail)) only [q2, i0, i1, i5, i6, i7, go_sem, Hold.p, HoldK.k, HoldL.K, HoldL.body, Nat.reduceBEq, Nat.reduceAdd, reduceIte]
          exact ⟨g.n, [109, 97, 116, 99, 104], [55], rfl, by simp, by simp, ⟨b2.lt, set_here _ _ _⟩, c1, c2, Nat.le_refl _, by omega, c3⟩
        · simp (disch := (first | omega | assumption | (simp only [push_n, set_n, put_n, List.length_cons, List.length_nil, List.length_append, Nat.reduceAdd]; done) | (simp only [push_n, set_n, put_n, List.length_cons, List.length_nil, List.length_append]; omega) | (simp only [List.all_cons, List.all_nil, one_bool, one_int, one_str, one_ptr, one_nilptr, one_slice, one_eslice, one_nilslice, one_func, one_iface, one_niliface, Bool.and_true, Bool.true_and, List.getD_cons_zero, List.getD_cons_succ, List.contains_cons, List.contains_nil, Bool.or_true, Bool.true_or, Bool.or_false, Bool.false_or, Nat.reduceBEq, *]; done) | fail)) only [i0, i1, i5, i6, i7, go_sem, Hold.p, HoldK.k, HoldL.K, HoldL.body, Nat.reduceBEq, Nat.reduceAdd, reduceIte]
          exact ⟨g.n, [110, 111, 116, 101], [120, 58, 32, 121, 32, 32, 122], rfl, by simp, by simp, b2, S2, V, Nat.le_refl _, by omega, o⟩
      · clear i0 i1 i5 i6 i7 S V o
        rintro e g1 ⟨q, nm, vl, i0, i1, i5, i6, i7, i8, hnm, hvl, b1, S, V, hq, hg1, o⟩
        simp only [CC.split]
        have q1 := b1.eq
        have w1 : wr .i64 ((k : Int) + 1) = ((k + 1 : Nat) : Int) := by rw [wr64 _ (by omega)]; rfl
        simp (disch := (first | omega | assumption | (simp only [push_n, set_n, put_n, List.length_cons, List.length_nil, List.length_append, Nat.reduceAdd]; done) | (simp only [push_n, set_n, put_n, List.length_cons, List.length_nil, List.length_append]; omega) | (simp only [List.all_cons, List.all_nil, one_bool, one_int, one_str, one_ptr, one_nilptr, one_slice, one_eslice, one_nilslice, one_func, one_iface, one_niliface, Bool.and_true, Bool.true_and, List.getD_cons_zero, List.getD_cons_succ, List.contains_cons, List.contains_nil, Bool.or_true, Bool.true_or, Bool.or_false, Bool.false_or, Nat.reduceBEq, *]; done) | fail)) only [i5, i8, q1, go_sem, Hold.p, HoldK.k, HoldL.K, HoldL.body, Nat.reduceBEq, Nat.reduceAdd, reduceIte]
        generalize hq_g2 : IH.push g1 (fldObj nm vl) = g2
        have e_g2 : Ext g1 g2 := by rw [← hq_g2]; exact (Ext.refl _).push _
        have l_g2 : g2.n = g1.n + 1 := by rw [← hq_g2]; rfl
        have b2 : At g2 g1.n (fldObj nm vl) := by rw [← hq_g2]; exact At.new _ _
        clear hq_g2
        have S := S.ext e_g2
        have o := o.ext e_g2
        have V := V.ext e_g2
        have q2 := b2.eq
        try simp (disch := (first | omega | assumption | (simp only [push_n, set_n, put_n, List.length_cons, List.length_nil, List.length_append, Nat.reduceAdd]; done) | (simp only [push_n, set_n, put_n, List.length_cons, List.length_nil, List.length_append]; omega) | (simp only [List.all_cons, List.all_nil, one_bool, one_int, one_str, one_ptr, one_nilptr, one_slice, one_eslice, one_nilslice, one_func, one_iface, one_niliface, Bool.and_true, Bool.true_and, List.getD_cons_zero, List.getD_cons_succ, List.contains_cons, List.contains_nil, Bool.or_true, Bool.true_or, Bool.or_false, Bool.false_or, Nat.reduceBEq, *]; done) | fail)) only [q2, go_sem, Hold.p, HoldK.k, HoldL.K, HoldL.body, Nat.reduceBEq, Nat.reduceAdd, reduceIte]
        refine o.app (by simp) (by simp only [fldRows_len, List.length_singleton]; omega) ?_
        intro v6 h6 o6 t6 n6 v6o v6c
        have o6 : Own g2.n (g2.n + 1) h6 106 2 v6 (fldRows (fs ++ [(nm, vl)])) := by simpa [fldRows] using o6
        have W : Sav p h h6 := ⟨by have := V.le; omega, fun m hm hne => (t6.obj m (by have := V.le; omega) (fun e => by have := o.at_ e; omega)).trans (V.obj m hm hne)⟩
        have hpp := V.le
        have S6 : Src h6 p v code := S0.back hpn S W (t6.obj p (by omega) (fun e => by have := o.at_ e; omega))
        simp (disch := (first | omega | assumption | (simp only [push_n, set_n, put_n, List.length_cons, List.length_nil, List.length_append, Nat.reduceAdd]; done) | (simp only [push_n, set_n, put_n, List.length_cons, List.length_nil, List.length_append]; omega) | (simp only [List.all_cons, List.all_nil, one_bool, one_int, one_str, one_ptr, one_nilptr, one_slice, one_eslice, one_nilslice, one_func, one_iface, one_niliface, Bool.and_true, Bool.true_and, List.getD_cons_zero, List.getD_cons_succ, List.contains_cons, List.contains_nil, Bool.or_true, Bool.true_or, Bool.or_false, Bool.false_or, Nat.reduceBEq, *]; done) | fail)) only [i0, i1, i6, i7, w1, go_sem, Hold.p, HoldK.k, HoldL.K, HoldL.body, Nat.reduceBEq, Nat.reduceAdd, reduceIte]
        refine ⟨_, ?_, k + 1, v6, g2.n, g2.n + 1, fs ++ [(nm, vl)], rfl, by omega, rfl, rfl, by simp [hfl], ?_, S6, W, by omega, by omega, by omega, o6⟩
        · omega
        · intro f hf
          rcases List.mem_append.1 hf with hf | hf
          · exact hT f hf
          · have : f = (nm, vl) := by simpa using hf
            subst this; exact ⟨hnm, hvl⟩
    · simp (disch := (first | omega | assumption | (simp only [push_n, set_n, put_n, List.length_cons, List.length_nil, List.length_append, Nat.reduceAdd]; done) | (simp only [push_n, set_n, put_n, List.length_cons, List.length_nil, List.length_append]; omega) | (simp only [List.all_cons, List.all_nil, one_bool, one_int, one_str, one_ptr, one_nilptr, one_slice, one_eslice, one_nilslice, one_func, one_iface, one_niliface, Bool.and_true, Bool.true_and, List.getD_cons_zero, List.getD_cons_succ, List.contains_cons, List.contains_nil, Bool.or_true, Bool.true_or, Bool.or_false, Bool.false_or, Nat.reduceBEq, *]; done) | fail)) only [i5, go_sem, Hold.p, HoldK.k, HoldL.K, HoldL.body, Nat.reduceBEq, Nat.reduceAdd, reduceIte]
      exact ⟨fs, o.wide hlo hhi (Nat.le_refl _), by omega, hT, S, V⟩
end
end Go.Proofs.YtdpaehdolhdjdaaGreatDoor

set_option maxRecDepth 20000
namespace Go.Proofs.YtdpaehdolhdjdaaGreatDoor
open Go Go.IW
section
attribute [local go_sem] List.getElem?_cons_zero List.getElem?_cons_succ Option.bind_some List.map_cons List.map_nil Nat.zero_add if_true List.getD_cons_zero List.getD_cons_succ List.contains_cons List.contains_nil Bool.or_true Bool.true_or Bool.or_false Bool.false_or Bool.not_true Bool.not_false true_and and_true rowA_whole mid_get stO_mid rowO_rows cellO_rows push_n set_n push_at push_old set_here set_there set_pushT set_pushN set_set upd_ne Nat.add_assoc Nat.add_zero stO_1s stO_ws boxA_s List.all_cons List.all_nil one_bool one_int one_str one_ptr one_nilptr one_slice one_eslice one_nilslice one_func one_iface one_niliface Bool.and_true Bool.and_self List.length_cons List.length_nil Nat.one_ne_zero Nat.succ_ne_zero if_false List.set_cons_zero List.set_cons_succ lay_nil lay_1 lay_w Option.map_some

theorem _root_.Go.IW.SlR.neAt {h : IH} {p sz sz' e' : Nat} {v : IV} {rs rs' : List (List IV)} {ro' : Bool} (hs : SlR h sz v rs) (a : At h p (.rows rs' e' sz' ro')) (hz : sz ≠ sz') : ∀ l i n, v = .slice l i n → l ≠ p := by
  intro l i n hv e
  subst hv; subst e
  obtain ⟨rs0, e0, ro, ho, _⟩ := srcRows_live hs.src
  have := ho.symm.trans a.eq
  simp only [IObj.rows.injEq] at this
  exact hz this.2.2.1
theorem _root_.Go.IW.SlR.setl {h : IH} {p sz : Nat} {v : IV} {rs : List (List IV)} (hs : SlR h sz v rs) (hne : ∀ l i n, v = .slice l i n → l ≠ p) (o : IObj) : SlR (h.set p o) sz v rs :=
  hs.same (Nat.le_refl _) fun l i n hv => set_there _ _ _ _ (hne l i n hv)
/-- What is not of the source's size is not the source. -/
theorem Src.slNe {h : IH} {p sz : Nat} {v w : IV} {code : List UInt8} {rs : List (List IV)} (S : Src h p v code) (hs : SlR h sz w rs) (hz : sz ≠ 3) : ∀ l i n, w = .slice l i n → l ≠ p := by
  obtain ⟨_, _, a, _⟩ := S.at_
  exact hs.neAt a hz
set_option maxHeartbeats 1000000 in
theorem l20Bend_c (h : IH) (p : Nat) (v w : IV) (code : Txt) (fs : List Fld) (S : Src h p v code) (hF : SlR h 2 w (fldRows fs)) (hT : FldT fs) (hfl : fs.length ≤ 10) (hl : code.length ≤ 1048576) (hpn : p < h.n) :
    ICalls Tryz.prog 42 [.ptr p 0 0, w] h fun r h' => ∃ fs' : List Fld, SlR h' 2 r (fldRows fs') ∧ fs'.length ≤ 20 ∧ FldT fs' ∧ Src h' p v code ∧ Sav p h h' := by
  refine icalls (.of ok42) (Nat.le_of_ble_eq_true rfl) ?_
  unfold c42
  have S0 := S
  have hwn := S.slNe hF (by decide)
  have hwl : ∀ l i n, w = .slice l i n → l ≠ h.n := fun l i n hv => by have := hF.lt l i n hv; omega
  refine vc_split 3 (fun e g => ∃ (nm vl : Txt), e 0 = .ptr p 0 0 ∧ e 1 = w ∧ e 5 = .ptr h.n 0 0 ∧ nm.length ≤ 40 ∧ vl.length ≤ 40 ∧ At g h.n (fldObj nm vl) ∧ SlR g 2 w (fldRows fs) ∧ Src g p v code ∧ Sav p h g) ?_ ?_
  · simp only [CC.split]
    simp (disch := (first | omega | assumption | (simp only [push_n, set_n, put_n, List.length_cons, List.length_nil, List.length_append, Nat.reduceAdd]; done) | (simp only [push_n, set_n, put_n, List.length_cons, List.length_nil, List.length_append]; omega) | (simp only [List.all_cons, List.all_nil, one_bool, one_int, one_str, one_ptr, one_nilptr, one_slice, one_eslice, one_nilslice, one_func, one_iface, one_niliface, Bool.and_true, Bool.true_and, List.getD_cons_zero, List.getD_cons_succ, List.contains_cons, List.contains_nil, Bool.or_true, Bool.true_or, Bool.or_false, Bool.false_or, Nat.reduceBEq, *]; done) | fail)) only [go_sem, Hold.p, HoldK.k, HoldL.K, HoldL.body, Nat.reduceBEq, Nat.reduceAdd, reduceIte]
    generalize hq_g : IH.push h (fldObj [113] [118]) = g
    have e_g : Ext h g := by rw [← hq_g]; exact (Ext.refl _).push _
    have l_g : g.n = h.n + 1 := by rw [← hq_g]; rfl
    have b : At g h.n (fldObj [113] [118]) := by rw [← hq_g]; exact At.new _ _
    clear hq_g
    have S := S.ext e_g
    have hF := hF.ext e_g
    have V := Sav.of_ext (p := p) e_g
    try simp (disch := (first | omega | assumption | (simp only [push_n, set_n, put_n, List.length_cons, List.length_nil, List.length_append, Nat.reduceAdd]; done) | (simp only [push_n, set_n, put_n, List.length_cons, List.length_nil, List.length_append]; omega) | (simp only [List.all_cons, List.all_nil, one_bool, one_int, one_str, one_ptr, one_nilptr, one_slice, one_eslice, one_nilslice, one_func, one_iface, one_niliface, Bool.and_true, Bool.true_and, List.getD_cons_zero, List.getD_cons_succ, List.contains_cons, List.contains_nil, Bool.or_true, Bool.true_or, Bool.or_false, Bool.false_or, Nat.reduceBEq, *]; done) | fail)) only [go_sem, Hold.p, HoldK.k, HoldL.K, HoldL.body, Nat.reduceBEq, Nat.reduceAdd, reduceIte]
    refine callA_of (l01Next_c g p v code 14 S (by omega) (by omega) hl) ?_
    rintro r g2 ⟨y, rfl, y0, y1, S2, V2, hn2⟩
    have b2 := b.sav V2 (by omega)
    have hF := V2.sl hF hwn
    have V := V.trans V2
    have q2 := b2.eq
    have hle := V.le
    have i0 : True := trivial
    have i1 : True := trivial
    simp (disch := (first | omega | assumption | (simp only [push_n, set_n, put_n, List.length_cons, List.length_nil, List.length_append, Nat.reduceAdd]; done) | (simp only [push_n, set_n, put_n, List.length_cons, List.length_nil, List.length_append]; omega) | (simp only [List.all_cons, List.all_nil, one_bool, one_int, one_str, one_ptr, one_nilptr, one_slice, one_eslice, one_nilslice, one_func, one_iface, one_niliface, Bool.and_true, Bool.true_and, List.getD_cons_zero, List.getD_cons_succ, List.contains_cons, List.contains_nil, Bool.or_true, Bool.true_or, Bool.or_false, Bool.false_or, Nat.reduceBEq, *]; done) | fail)) only [go_sem, Hold.p, HoldK.k, HoldL.K, HoldL.body, Nat.reduceBEq, Nat.reduceAdd, reduceIte]
    refine test_dec (fun hb => ?_) (fun hb => ?_)
    · have W := V.set (l := h.n) (.inl (by omega)) (fldObj [108, 101, 110, 103, 116, 104] [118])
      simp (disch := (first | omega | assumption | (simp only [push_n, set_n, put_n, List.length_cons, List.length_nil, List.length_append, Nat.reduceAdd]; done) | (simp only [push_n, set_n, put_n, List.length_cons, List.length_nil, List.length_append]; omega) | (simp only [List.all_cons, List.all_nil, one_bool, one_int, one_str, one_ptr, one_nilptr, one_slice, one_eslice, one_nilslice, one_func, one_iface, one_niliface, Bool.and_true, Bool.true_and, List.getD_cons_zero, List.getD_cons_succ, List.contains_cons, List.contains_nil, Bool.or_true, Bool.true_or, Bool.or_false, Bool.false_or, Nat.reduceBEq, *]; done) | fail)) only [i0, i1, q2, go_sem, Hold.p, HoldK.k, HoldL.K, HoldL.body, Nat.reduceBEq, Nat.reduceAdd, reduceIte]
      exact ⟨[108, 101, 110, 103, 116, 104], [118], by simp, by simp, ⟨b2.lt, set_here _ _ _⟩, hF.setl hwl _, S0.back hpn S2 W (set_there _ _ _ _ (by omega)), W⟩
    simp (disch := (first | omega | assumption | (simp only [push_n, set_n, put_n, List.length_cons, List.length_nil, List.length_append, Nat.reduceAdd]; done) | (simp only [push_n, set_n, put_n, List.length_cons, List.length_nil, List.length_append]; omega) | (simp only [List.all_cons, List.all_nil, one_bool, one_int, one_str, one_ptr, one_nilptr, one_slice, one_eslice, one_nilslice, one_func, one_iface, one_niliface, Bool.and_true, Bool.true_and, List.getD_cons_zero, List.getD_cons_succ, List.contains_cons, List.contains_nil, Bool.or_true, Bool.true_or, Bool.or_false, Bool.false_or, Nat.reduceBEq, *]; done) | fail)) only [go_sem, Hold.p, HoldK.k, HoldL.K, HoldL.body, Nat.reduceBEq, Nat.reduceAdd, reduceIte]
    refine test_dec (fun hb => ?_) (fun hb => ?_)
    · have W := V.set (l := h.n) (.inl (by omega)) (fldObj [66, 105, 103] [118])
      simp (disch := (first | omega | assumption | (simp only [push_n, set_n, put_n, List.length_cons, List.length_nil, List.length_append, Nat.reduceAdd]; done) | (simp only [push_n, set_n, put_n, List.length_cons, List.length_nil, List.length_append]; omega) | (simp only [List.all_cons, List.all_nil, one_bool, one_int, one_str, one_ptr, one_nilptr, one_slice, one_eslice, one_nilslice, one_func, one_iface, one_niliface, Bool.and_true, Bool.true_and, List.getD_cons_zero, List.getD_cons_succ, List.contains_cons, List.contains_nil, Bool.or_true, Bool.true_or, Bool.or_false, Bool.false_or, Nat.reduceBEq, *]; done) | fail)) only [i0, i1, q2, go_sem, Hold.p, HoldK.k, HoldL.K, HoldL.body, Nat.reduceBEq, Nat.reduceAdd, reduceIte]
      exact ⟨[66, 105, 103], [118], by simp, by simp, ⟨b2.lt, set_here _ _ _⟩, hF.setl hwl _, S0.back hpn S2 W (set_there _ _ _ _ (by omega)), W⟩
    simp (disch := (first | omega | assumption | (simp only [push_n, set_n, put_n, List.length_cons, List.length_nil, List.length_append, Nat.reduceAdd]; done) | (simp only [push_n, set_n, put_n, List.length_cons, List.length_nil, List.length_append]; omega) | (simp only [List.all_cons, List.all_nil, one_bool, one_int, one_str, one_ptr, one_nilptr, one_slice, one_eslice, one_nilslice, one_func, one_iface, one_niliface, Bool.and_true, Bool.true_and, List.getD_cons_zero, List.getD_cons_succ, List.contains_cons, List.contains_nil, Bool.or_true, Bool.true_or, Bool.or_false, Bool.false_or, Nat.reduceBEq, *]; done) | fail)) only [go_sem, Hold.p, HoldK.k, HoldL.K, HoldL.body, Nat.reduceBEq, Nat.reduceAdd, reduceIte]
    refine test_dec (fun hb => ?_) (fun hb => ?_)
    · have W := V.set (l := h.n) (.inl (by omega)) (fldObj [113] [32, 120])
      simp (disch := (first | omega | assumption | (simp only [push_n, set_n, put_n, List.length_cons, List.length_nil, List.length_append, Nat.reduceAdd]; done) | (simp only [push_n, set_n, put_n, List.length_cons, List.length_nil, List.length_append]; omega) | (simp only [List.all_cons, List.all_nil, one_bool, one_int, one_str, one_ptr, one_nilptr, one_slice, one_eslice, one_nilslice, one_func, one_iface, one_niliface, Bool.and_true, Bool.true_and, List.getD_cons_zero, List.getD_cons_succ, List.contains_cons, List.contains_nil, Bool.or_true, Bool.true_or, Bool.or_false, Bool.false_or, Nat.reduceBEq, *]; done) | fail)) only [i0, i1, q2, go_sem, Hold.p, HoldK.k, HoldL.K, HoldL.body, Nat.reduceBEq, Nat.reduceAdd, reduceIte]
      exact ⟨[113], [32, 120], by simp, by simp, ⟨b2.lt, set_here _ _ _⟩, hF.setl hwl _, S0.back hpn S2 W (set_there _ _ _ _ (by omega)), W⟩
    simp (disch := (first | omega | assumption | (simp only [push_n, set_n, put_n, List.length_cons, List.length_nil, List.length_append, Nat.reduceAdd]; done) | (simp only [push_n, set_n, put_n, List.length_cons, List.length_nil, List.length_append]; omega) | (simp only [List.all_cons, List.all_nil, one_bool, one_int, one_str, one_ptr, one_nilptr, one_slice, one_eslice, one_nilslice, one_func, one_iface, one_niliface, Bool.and_true, Bool.true_and, List.getD_cons_zero, List.getD_cons_succ, List.contains_cons, List.contains_nil, Bool.or_true, Bool.true_or, Bool.or_false, Bool.false_or, Nat.reduceBEq, *]; done) | fail)) only [go_sem, Hold.p, HoldK.k, HoldL.K, HoldL.body, Nat.reduceBEq, Nat.reduceAdd, reduceIte]
    refine test_dec (fun hb => ?_) (fun hb => ?_)
    · have W := V.set (l := h.n) (.inl (by omega)) (fldObj [113] [120, 10])
      simp (disch := (first | omega | assumption | (simp only [push_n, set_n, put_n, List.length_cons, List.length_nil, List.length_append, Nat.reduceAdd]; done) | (simp only [push_n, set_n, put_n, List.length_cons, List.length_nil, List.length_append]; omega) | (simp only [List.all_cons, List.all_nil, one_bool, one_int, one_str, one_ptr, one_nilptr, one_slice, one_eslice, one_nilslice, one_func, one_iface, one_niliface, Bool.and_true, Bool.true_and, List.getD_cons_zero, List.getD_cons_succ, List.contains_cons, List.contains_nil, Bool.or_true, Bool.true_or, Bool.or_false, Bool.false_or, Nat.reduceBEq, *]; done) | fail)) only [i0, i1, q2, go_sem, Hold.p, HoldK.k, HoldL.K, HoldL.body, Nat.reduceBEq, Nat.reduceAdd, reduceIte]
      exact ⟨[113], [120, 10], by simp, by simp, ⟨b2.lt, set_here _ _ _⟩, hF.setl hwl _, S0.back hpn S2 W (set_there _ _ _ _ (by omega)), W⟩
    simp (disch := (first | omega | assumption | (simp only [push_n, set_n, put_n, List.length_cons, List.length_nil, List.length_append, Nat.reduceAdd]; done) | (simp only [push_n, set_n, put_n, List.length_cons, List.length_nil, List.length_append]; omega) | (simp only [List.all_cons, List.all_nil, one_bool, one_int, one_str, one_ptr, one_nilptr, one_slice, one_eslice, one_nilslice, one_func, one_iface, one_niliface, Bool.and_true, Bool.true_and, List.getD_cons_zero, List.getD_cons_succ, List.contains_cons, List.contains_nil, Bool.or_true, Bool.true_or, Bool.or_false, Bool.false_or, Nat.reduceBEq, *]; done) | fail)) only [go_sem, Hold.p, HoldK.k, HoldL.K, HoldL.body, Nat.reduceBEq, Nat.reduceAdd, reduceIte]
    refine test_dec (fun hb => ?_) (fun hb => ?_)
    · simp (disch := (first | omega | assumption | (simp only [push_n, set_n, put_n, List.length_cons, List.length_nil, List.length_append, Nat.reduceAdd]; done) | (simp only [push_n, set_n, put_n, List.length_cons, List.length_nil, List.length_append]; omega) | (simp only [List.all_cons, List.all_nil, one_bool, one_int, one_str, one_ptr, one_nilptr, one_slice, one_eslice, one_nilslice, one_func, one_iface, one_niliface, Bool.and_true, Bool.true_and, List.getD_cons_zero, List.getD_cons_succ, List.contains_cons, List.contains_nil, Bool.or_true, Bool.true_or, Bool.or_false, Bool.false_or, Nat.reduceBEq, *]; done) | fail)) only [go_sem, Hold.p, HoldK.k, HoldL.K, HoldL.body, Nat.reduceBEq, Nat.reduceAdd, reduceIte]
      refine mksA_of (n := 3) (by omega) (by omega) (by omega) ?_
      try simp (disch := (first | omega | assumption | (simp only [push_n, set_n, put_n, List.length_cons, List.length_nil, List.length_append, Nat.reduceAdd]; done) | (simp only [push_n, set_n, put_n, List.length_cons, List.length_nil, List.length_append]; omega) | (simp only [List.all_cons, List.all_nil, one_bool, one_int, one_str, one_ptr, one_nilptr, one_slice, one_eslice, one_nilslice, one_func, one_iface, one_niliface, Bool.and_true, Bool.true_and, List.getD_cons_zero, List.getD_cons_succ, List.contains_cons, List.contains_nil, Bool.or_true, Bool.true_or, Bool.or_false, Bool.false_or, Nat.reduceBEq, *]; done) | fail)) only [go_sem, Hold.p, HoldK.k, HoldL.K, HoldL.body, Nat.reduceBEq, Nat.reduceAdd, reduceIte]
      generalize hq_g5 : IH.push g2 (IObj.rows (List.replicate 3 [.int .u8 0]) 5 1 false) = g5
      have e_g5 : Ext g2 g5 := by rw [← hq_g5]; exact (Ext.refl _).push _
      have l_g5 : g5.n = g2.n + 1 := by rw [← hq_g5]; rfl
      have b5 : At g5 g2.n (IObj.rows (List.replicate 3 [.int .u8 0]) 5 1 false) := by rw [← hq_g5]; exact At.new _ _
      clear hq_g5
      have S2 := S2.ext e_g5
      have b2 := b2.ext e_g5
      have hF := hF.ext e_g5
      have s5 : SlR g5 1 (.slice g2.n 0 3) (strRows [0, 0, 0]) := SlR.whole (rs := strRows [0, 0, 0]) b5.eq rfl b5.lt
      have hb2s := s5.b2s
      have q2 := b2.eq
      have V := V.ext e_g5
      have W := V.set (l := h.n) (.inl (by omega)) (fldObj [113] [0, 0, 0])
      have hz1 : bytesOf (List.take 3 (List.drop 0 (List.replicate 3 [IV.int .u8 0]))) = some [0, 0, 0] := rfl
      simp (disch := (first | omega | assumption | (simp only [push_n, set_n, put_n, List.length_cons, List.length_nil, List.length_append, Nat.reduceAdd]; done) | (simp only [push_n, set_n, put_n, List.length_cons, List.length_nil, List.length_append]; omega) | (simp only [List.all_cons, List.all_nil, one_bool, one_int, one_str, one_ptr, one_nilptr, one_slice, one_eslice, one_nilslice, one_func, one_iface, one_niliface, Bool.and_true, Bool.true_and, List.getD_cons_zero, List.getD_cons_succ, List.contains_cons, List.contains_nil, Bool.or_true, Bool.true_or, Bool.or_false, Bool.false_or, Nat.reduceBEq, *]; done) | fail)) only [List.length_replicate, Nat.le_refl, hz1, q2, go_sem, Hold.p, HoldK.k, HoldL.K, HoldL.body, Nat.reduceBEq, Nat.reduceAdd, reduceIte]
      exact ⟨[113], [0, 0, 0], by simp, by simp, ⟨b2.lt, set_here _ _ _⟩, hF.setl hwl _, S0.back hpn S2 W (set_there _ _ _ _ (by omega)), W⟩
    simp (disch := (first | omega | assumption | (simp only [push_n, set_n, put_n, List.length_cons, List.length_nil, List.length_append, Nat.reduceAdd]; done) | (simp only [push_n, set_n, put_n, List.length_cons, List.length_nil, List.length_append]; omega) | (simp only [List.all_cons, List.all_nil, one_bool, one_int, one_str, one_ptr, one_nilptr, one_slice, one_eslice, one_nilslice, one_func, one_iface, one_niliface, Bool.and_true, Bool.true_and, List.getD_cons_zero, List.getD_cons_succ, List.contains_cons, List.contains_nil, Bool.or_true, Bool.true_or, Bool.or_false, Bool.false_or, Nat.reduceBEq, *]; done) | fail)) only [go_sem, Hold.p, HoldK.k, HoldL.K, HoldL.body, Nat.reduceBEq, Nat.reduceAdd, reduceIte]
    refine test_dec (fun hb => ?_) (fun hb => ?_)
    · simp (disch := (first | omega | assumption | (simp only [push_n, set_n, put_n, List.length_cons, List.length_nil, List.length_append, Nat.reduceAdd]; done) | (simp only [push_n, set_n, put_n, List.length_cons, List.length_nil, List.length_append]; omega) | (simp only [List.all_cons, List.all_nil, one_bool, one_int, one_str, one_ptr, one_nilptr, one_slice, one_eslice, one_nilslice, one_func, one_iface, one_niliface, Bool.and_true, Bool.true_and, List.getD_cons_zero, List.getD_cons_succ, List.contains_cons, List.contains_nil, Bool.or_true, Bool.true_or, Bool.or_false, Bool.false_or, Nat.reduceBEq, *]; done) | fail)) only [bslA_0, go_sem, Hold.p, HoldK.k, HoldL.K, HoldL.body, Nat.reduceBEq, Nat.reduceAdd, reduceIte]
      refine loop_at (fun m e g => ∃ (k : Nat) (x : IV) (lo hi : Nat), m = 17 - k ∧ k ≤ 17 ∧ e 0 = .ptr p 0 0 ∧ e 5 = .ptr h.n 0 0 ∧ e 6 = x ∧ Own lo hi g 106 2 x (fldRows (List.replicate k ([113], [118]))) ∧ h.n + 1 ≤ lo ∧ lo ≤ g.n ∧ hi ≤ g.n ∧ At g h.n (fldObj [113] [118]) ∧ Src g p v code ∧ Sav p h g) 17 ?_ ?_
      · refine ⟨0, .eslice true, g2.n, g2.n, by omega, by omega, ?_⟩
        simp (disch := (first | omega | assumption | (simp only [push_n, set_n, put_n, List.length_cons, List.length_nil, List.length_append, Nat.reduceAdd]; done) | (simp only [push_n, set_n, put_n, List.length_cons, List.length_nil, List.length_append]; omega) | (simp only [List.all_cons, List.all_nil, one_bool, one_int, one_str, one_ptr, one_nilptr, one_slice, one_eslice, one_nilslice, one_func, one_iface, one_niliface, Bool.and_true, Bool.true_and, List.getD_cons_zero, List.getD_cons_succ, List.contains_cons, List.contains_nil, Bool.or_true, Bool.true_or, Bool.or_false, Bool.false_or, Nat.reduceBEq, *]; done) | fail)) only [go_sem, Hold.p, HoldK.k, HoldL.K, HoldL.body, Nat.reduceBEq, Nat.reduceAdd, reduceIte]
        exact ⟨Own.empty, by omega, Nat.le_refl _, Nat.le_refl _, b2, S2, V⟩
      · rintro m e g3 ⟨k, x, lo, hi, rfl, hk, j0, j5, j6, o, hlo, hlg, hhi, b3, S3, V3⟩
        have ol := o.lenF
        rw [fldRows_len, List.length_replicate] at ol
        simp (disch := (first | omega | assumption | (simp only [push_n, set_n, put_n, List.length_cons, List.length_nil, List.length_append, Nat.reduceAdd]; done) | (simp only [push_n, set_n, put_n, List.length_cons, List.length_nil, List.length_append]; omega) | (simp only [List.all_cons, List.all_nil, one_bool, one_int, one_str, one_ptr, one_nilptr, one_slice, one_eslice, one_nilslice, one_func, one_iface, one_niliface, Bool.and_true, Bool.true_and, List.getD_cons_zero, List.getD_cons_succ, List.contains_cons, List.contains_nil, Bool.or_true, Bool.true_or, Bool.or_false, Bool.false_or, Nat.reduceBEq, *]; done) | fail)) only [j0, j6, ol, go_sem, Hold.p, HoldK.k, HoldL.K, HoldL.body, Nat.reduceBEq, Nat.reduceAdd, reduceIte]
        refine callA_of (l01Next_c g3 p v code 2 S3 (by omega) (by omega) hl) ?_
        rintro r g4 ⟨z, rfl, z0, z1, S4, V4, hn4⟩
        have hle3 := V3.le
        have b4 := b3.sav V4 (by omega)
        have o := o.sav V4 (by omega)
        have V4 := V3.trans V4
        have w1 : wr .i64 (16 + z) = 16 + z := wr64 _ (by omega)
        have q4 := b4.eq
        simp (disch := (first | omega | assumption | (simp only [push_n, set_n, put_n, List.length_cons, List.length_nil, List.length_append, Nat.reduceAdd]; done) | (simp only [push_n, set_n, put_n, List.length_cons, List.length_nil, List.length_append]; omega) | (simp only [List.all_cons, List.all_nil, one_bool, one_int, one_str, one_ptr, one_nilptr, one_slice, one_eslice, one_nilslice, one_func, one_iface, one_niliface, Bool.and_true, Bool.true_and, List.getD_cons_zero, List.getD_cons_succ, List.contains_cons, List.contains_nil, Bool.or_true, Bool.true_or, Bool.or_false, Bool.false_or, Nat.reduceBEq, *]; done) | fail)) only [w1, go_sem, Hold.p, HoldK.k, HoldL.K, HoldL.body, Nat.reduceBEq, Nat.reduceAdd, reduceIte]
        refine test_dec (fun hb2 => ?_) (fun hb2 => ?_)
        · simp (disch := (first | omega | assumption | (simp only [push_n, set_n, put_n, List.length_cons, List.length_nil, List.length_append, Nat.reduceAdd]; done) | (simp only [push_n, set_n, put_n, List.length_cons, List.length_nil, List.length_append]; omega) | (simp only [List.all_cons, List.all_nil, one_bool, one_int, one_str, one_ptr, one_nilptr, one_slice, one_eslice, one_nilslice, one_func, one_iface, one_niliface, Bool.and_true, Bool.true_and, List.getD_cons_zero, List.getD_cons_succ, List.contains_cons, List.contains_nil, Bool.or_true, Bool.true_or, Bool.or_false, Bool.false_or, Nat.reduceBEq, *]; done) | fail)) only [j5, j6, q4, go_sem, Hold.p, HoldK.k, HoldL.K, HoldL.body, Nat.reduceBEq, Nat.reduceAdd, reduceIte]
          generalize hq_g5 : IH.push g4 (fldObj [113] [118]) = g5
          have e_g5 : Ext g4 g5 := by rw [← hq_g5]; exact (Ext.refl _).push _
          have l_g5 : g5.n = g4.n + 1 := by rw [← hq_g5]; rfl
          have b5 : At g5 g4.n (fldObj [113] [118]) := by rw [← hq_g5]; exact At.new _ _
          clear hq_g5
          have S4 := S4.ext e_g5
          have b4 := b4.ext e_g5
          have o := o.ext e_g5
          have V5 := V4.ext e_g5
          have q5 := b5.eq
          try simp (disch := (first | omega | assumption | (simp only [push_n, set_n, put_n, List.length_cons, List.length_nil, List.length_append, Nat.reduceAdd]; done) | (simp only [push_n, set_n, put_n, List.length_cons, List.length_nil, List.length_append]; omega) | (simp only [List.all_cons, List.all_nil, one_bool, one_int, one_str, one_ptr, one_nilptr, one_slice, one_eslice, one_nilslice, one_func, one_iface, one_niliface, Bool.and_true, Bool.true_and, List.getD_cons_zero, List.getD_cons_succ, List.contains_cons, List.contains_nil, Bool.or_true, Bool.true_or, Bool.or_false, Bool.false_or, Nat.reduceBEq, *]; done) | fail)) only [j6, q5, go_sem, Hold.p, HoldK.k, HoldL.K, HoldL.body, Nat.reduceBEq, Nat.reduceAdd, reduceIte]
          refine o.app (by simp) (by simp only [fldRows_len, List.length_replicate, List.length_singleton]; omega) ?_
          intro v6 h6 o6 t6 n6 v6o v6c
          have o6 : Own g5.n (g5.n + 1) h6 106 2 v6 (fldRows (List.replicate (k + 1) ([113], [118]))) := by
            rw [List.replicate_succ']; simpa [fldRows] using o6
          have W : Sav p h h6 := ⟨by have := V5.le; omega, fun m hm hne => (t6.obj m (by have := V5.le; omega) (fun e => by have := o.at_ e; omega)).trans (V5.obj m hm hne)⟩
          have hpp := V5.le
          have S6 : Src h6 p v code := S0.back hpn S4 W (t6.obj p (by omega) (fun e => by have := o.at_ e; omega))
          have b6 : At h6 h.n (fldObj [113] [118]) := b4.turn o (by omega) t6
          simp (disch := (first | omega | assumption | (simp only [push_n, set_n, put_n, List.length_cons, List.length_nil, List.length_append, Nat.reduceAdd]; done) | (simp only [push_n, set_n, put_n, List.length_cons, List.length_nil, List.length_append]; omega) | (simp only [List.all_cons, List.all_nil, one_bool, one_int, one_str, one_ptr, one_nilptr, one_slice, one_eslice, one_nilslice, one_func, one_iface, one_niliface, Bool.and_true, Bool.true_and, List.getD_cons_zero, List.getD_cons_succ, List.contains_cons, List.contains_nil, Bool.or_true, Bool.true_or, Bool.or_false, Bool.false_or, Nat.reduceBEq, *]; done) | fail)) only [j0, j5, go_sem, Hold.p, HoldK.k, HoldL.K, HoldL.body, Nat.reduceBEq, Nat.reduceAdd, reduceIte]
          refine ⟨_, ?_, k + 1, v6, g5.n, g5.n + 1, rfl, by omega, rfl, o6, by omega, by omega, by omega, b6, S6, W⟩
          omega
        · simp (disch := (first | omega | assumption | (simp only [push_n, set_n, put_n, List.length_cons, List.length_nil, List.length_append, Nat.reduceAdd]; done) | (simp only [push_n, set_n, put_n, List.length_cons, List.length_nil, List.length_append]; omega) | (simp only [List.all_cons, List.all_nil, one_bool, one_int, one_str, one_ptr, one_nilptr, one_slice, one_eslice, one_nilslice, one_func, one_iface, one_niliface, Bool.and_true, Bool.true_and, List.getD_cons_zero, List.getD_cons_succ, List.contains_cons, List.contains_nil, Bool.or_true, Bool.true_or, Bool.or_false, Bool.false_or, Nat.reduceBEq, *]; done) | fail)) only [j6, go_sem, Hold.p, HoldK.k, HoldL.K, HoldL.body, Nat.reduceBEq, Nat.reduceAdd, reduceIte]
          refine ⟨_, o.sl, by rw [List.length_replicate]; omega, ?_, S4, V4⟩
          intro f hf
          have := List.eq_of_mem_replicate hf
          subst this; exact ⟨by simp, by simp⟩
    simp (disch := (first | omega | assumption | (simp only [push_n, set_n, put_n, List.length_cons, List.length_nil, List.length_append, Nat.reduceAdd]; done) | (simp only [push_n, set_n, put_n, List.length_cons, List.length_nil, List.length_append]; omega) | (simp only [List.all_cons, List.all_nil, one_bool, one_int, one_str, one_ptr, one_nilptr, one_slice, one_eslice, one_nilslice, one_func, one_iface, one_niliface, Bool.and_true, Bool.true_and, List.getD_cons_zero, List.getD_cons_succ, List.contains_cons, List.contains_nil, Bool.or_true, Bool.true_or, Bool.or_false, Bool.false_or, Nat.reduceBEq, *]; done) | fail)) only [go_sem, Hold.p, HoldK.k, HoldL.K, HoldL.body, Nat.reduceBEq, Nat.reduceAdd, reduceIte]
    refine test_dec (fun hb => ?_) (fun hb => ?_)
    · simp (disch := (first | omega | assumption | (simp only [push_n, set_n, put_n, List.length_cons, List.length_nil, List.length_append, Nat.reduceAdd]; done) | (simp only [push_n, set_n, put_n, List.length_cons, List.length_nil, List.length_append]; omega) | (simp only [List.all_cons, List.all_nil, one_bool, one_int, one_str, one_ptr, one_nilptr, one_slice, one_eslice, one_nilslice, one_func, one_iface, one_niliface, Bool.and_true, Bool.true_and, List.getD_cons_zero, List.getD_cons_succ, List.contains_cons, List.contains_nil, Bool.or_true, Bool.true_or, Bool.or_false, Bool.false_or, Nat.reduceBEq, *]; done) | fail)) only [bslA_3, go_sem, Hold.p, HoldK.k, HoldL.K, HoldL.body, Nat.reduceBEq, Nat.reduceAdd, reduceIte]
      generalize hq_g5 : IH.push g2 (IObj.rows [[.int .u8 126], [.int .u8 32], [.int .u8 126]] 5 1 false) = g5
      have e_g5 : Ext g2 g5 := by rw [← hq_g5]; exact (Ext.refl _).push _
      have l_g5 : g5.n = g2.n + 1 := by rw [← hq_g5]; rfl
      have b5 : At g5 g2.n (IObj.rows [[.int .u8 126], [.int .u8 32], [.int .u8 126]] 5 1 false) := by rw [← hq_g5]; exact At.new _ _
      clear hq_g5
      have S2 := S2.ext e_g5
      have b2 := b2.ext e_g5
      have hF := hF.ext e_g5
      have s5 : SlR g5 1 (.slice g2.n 0 3) (strRows [126, 32, 126]) := SlR.whole (rs := strRows [126, 32, 126]) b5.eq rfl b5.lt
      have hb2s := s5.b2s
      have q2 := b2.eq
      have V := V.ext e_g5
      have W := V.set (l := h.n) (.inl (by omega)) (fldObj [113] [126, 32, 126])
      have hz1 : bytesOf (List.take 3 (List.drop 0 [[IV.int .u8 126], [IV.int .u8 32], [IV.int .u8 126]])) = some [126, 32, 126] := rfl
      simp (disch := (first | omega | assumption | (simp only [push_n, set_n, put_n, List.length_cons, List.length_nil, List.length_append, Nat.reduceAdd]; done) | (simp only [push_n, set_n, put_n, List.length_cons, List.length_nil, List.length_append]; omega) | (simp only [List.all_cons, List.all_nil, one_bool, one_int, one_str, one_ptr, one_nilptr, one_slice, one_eslice, one_nilslice, one_func, one_iface, one_niliface, Bool.and_true, Bool.true_and, List.getD_cons_zero, List.getD_cons_succ, List.contains_cons, List.contains_nil, Bool.or_true, Bool.true_or, Bool.or_false, Bool.false_or, Nat.reduceBEq, *]; done) | fail)) only [Nat.le_refl, Nat.reduceLeDiff, hz1, q2, go_sem, Hold.p, HoldK.k, HoldL.K, HoldL.body, Nat.reduceBEq, Nat.reduceAdd, reduceIte]
      exact ⟨[113], [126, 32, 126], by simp, by simp, ⟨b2.lt, set_here _ _ _⟩, hF.setl hwl _, S0.back hpn S2 W (set_there _ _ _ _ (by omega)), W⟩
    · simp (disch := (first | omega | assumption | (simp only [push_n, set_n, put_n, List.length_cons, List.length_nil, List.length_append, Nat.reduceAdd]; done) | (simp only [push_n, set_n, put_n, List.length_cons, List.length_nil, List.length_append]; omega) | (simp only [List.all_cons, List.all_nil, one_bool, one_int, one_str, one_ptr, one_nilptr, one_slice, one_eslice, one_nilslice, one_func, one_iface, one_niliface, Bool.and_true, Bool.true_and, List.getD_cons_zero, List.getD_cons_succ, List.contains_cons, List.contains_nil, Bool.or_true, Bool.true_or, Bool.or_false, Bool.false_or, Nat.reduceBEq, *]; done) | fail)) only [go_sem, Hold.p, HoldK.k, HoldL.K, HoldL.body, Nat.reduceBEq, Nat.reduceAdd, reduceIte]
      exact ⟨fs, hF, by omega, hT, S2, V⟩
  rintro e g ⟨nm, vl, i0, i1, i5, hnm, hvl, b, hG, S1, V⟩
  simp only [CC.split]
  have q := b.eq
  have hle := V.le
  simp (disch := (first | omega | assumption | (simp only [push_n, set_n, put_n, List.length_cons, List.length_nil, List.length_append, Nat.reduceAdd]; done) | (simp only [push_n, set_n, put_n, List.length_cons, List.length_nil, List.length_append]; omega) | (simp only [List.all_cons, List.all_nil, one_bool, one_int, one_str, one_ptr, one_nilptr, one_slice, one_eslice, one_nilslice, one_func, one_iface, one_niliface, Bool.and_true, Bool.true_and, List.getD_cons_zero, List.getD_cons_succ, List.contains_cons, List.contains_nil, Bool.or_true, Bool.true_or, Bool.or_false, Bool.false_or, Nat.reduceBEq, *]; done) | fail)) only [i5, q, go_sem, Hold.p, HoldK.k, HoldL.K, HoldL.body, Nat.reduceBEq, Nat.reduceAdd, reduceIte]
  generalize hq_g2 : IH.push g (fldObj nm vl) = g2
  have e_g2 : Ext g g2 := by rw [← hq_g2]; exact (Ext.refl _).push _
  have l_g2 : g2.n = g.n + 1 := by rw [← hq_g2]; rfl
  have b2 : At g2 g.n (fldObj nm vl) := by rw [← hq_g2]; exact At.new _ _
  clear hq_g2
  have S1 := S1.ext e_g2
  have hG := hG.ext e_g2
  have V := V.ext e_g2
  have hsrc := hG.src
  have o : Own g.n (g.n + 1) g2 106 2 (.slice g.n 0 1) (fldRows [(nm, vl)]) := Own.mk (rs := fldRows [(nm, vl)]) (by simp [fldRows]) (Nat.le_refl _) (by omega) (by omega) b2.eq
  simp (disch := (first | omega | assumption | (simp only [push_n, set_n, put_n, List.length_cons, List.length_nil, List.length_append, Nat.reduceAdd]; done) | (simp only [push_n, set_n, put_n, List.length_cons, List.length_nil, List.length_append]; omega) | (simp only [List.all_cons, List.all_nil, one_bool, one_int, one_str, one_ptr, one_nilptr, one_slice, one_eslice, one_nilslice, one_func, one_iface, one_niliface, Bool.and_true, Bool.true_and, List.getD_cons_zero, List.getD_cons_succ, List.contains_cons, List.contains_nil, Bool.or_true, Bool.true_or, Bool.or_false, Bool.false_or, Nat.reduceBEq, *]; done) | fail)) only [i1, hsrc, go_sem, Hold.p, HoldK.k, HoldL.K, HoldL.body, Nat.reduceBEq, Nat.reduceAdd, reduceIte]
  have hTT : FldT ((nm, vl) :: fs) := by
    intro f hf
    rcases List.mem_cons.1 hf with rfl | hf
    · exact ⟨hnm, hvl⟩
    · exact hT f hf
  by_cases he : fs = []
  · subst he
    refine appA_none o.sl.len ?_
    simp (disch := (first | omega | assumption | (simp only [push_n, set_n, put_n, List.length_cons, List.length_nil, List.length_append, Nat.reduceAdd]; done) | (simp only [push_n, set_n, put_n, List.length_cons, List.length_nil, List.length_append]; omega) | (simp only [List.all_cons, List.all_nil, one_bool, one_int, one_str, one_ptr, one_nilptr, one_slice, one_eslice, one_nilslice, one_func, one_iface, one_niliface, Bool.and_true, Bool.true_and, List.getD_cons_zero, List.getD_cons_succ, List.contains_cons, List.contains_nil, Bool.or_true, Bool.true_or, Bool.or_false, Bool.false_or, Nat.reduceBEq, *]; done) | fail)) only [go_sem, Hold.p, HoldK.k, HoldL.K, HoldL.body, Nat.reduceBEq, Nat.reduceAdd, reduceIte]
    exact ⟨[(nm, vl)], o.sl, by simp, hTT, S1, V⟩
  · refine o.app (by simpa [fldRows] using he) (by simp only [fldRows_len, List.length_singleton]; omega) ?_
    intro v6 h6 o6 t6 n6 v6o v6c
    have W : Sav p h h6 := ⟨by have := V.le; omega, fun m hm hne => (t6.obj m (by have := V.le; omega) (fun e => by have := o.at_ e; omega)).trans (V.obj m hm hne)⟩
    have S6 : Src h6 p v code := S0.back hpn S1 W (t6.obj p (by omega) (fun e => by have := o.at_ e; omega))
    simp (disch := (first | omega | assumption | (simp only [push_n, set_n, put_n, List.length_cons, List.length_nil, List.length_append, Nat.reduceAdd]; done) | (simp only [push_n, set_n, put_n, List.length_cons, List.length_nil, List.length_append]; omega) | (simp only [List.all_cons, List.all_nil, one_bool, one_int, one_str, one_ptr, one_nilptr, one_slice, one_eslice, one_nilslice, one_func, one_iface, one_niliface, Bool.and_true, Bool.true_and, List.getD_cons_zero, List.getD_cons_succ, List.contains_cons, List.contains_nil, Bool.or_true, Bool.true_or, Bool.or_false, Bool.false_or, Nat.reduceBEq, *]; done) | fail)) only [go_sem, Hold.p, HoldK.k, HoldL.K, HoldL.body, Nat.reduceBEq, Nat.reduceAdd, reduceIte]
    have o6 : Own g2.n (g2.n + 1) h6 106 2 v6 (fldRows ((nm, vl) :: fs)) := o6
    exact ⟨_, o6.sl, by simp; omega, hTT, S6, W⟩
end
end Go.Proofs.YtdpaehdolhdjdaaGreatDoor

set_option maxRecDepth 20000
namespace Go.Proofs.YtdpaehdolhdjdaaGreatDoor
open Go Go.IW
section
attribute [local go_sem] List.getElem?_cons_zero List.getElem?_cons_succ Option.bind_some List.map_cons List.map_nil Nat.zero_add if_true List.getD_cons_zero List.getD_cons_succ List.contains_cons List.contains_nil Bool.or_true Bool.true_or Bool.or_false Bool.false_or Bool.not_true Bool.not_false true_and and_true rowA_whole mid_get stO_mid rowO_rows cellO_rows push_n set_n push_at push_old set_here set_there set_pushT set_pushN set_set upd_ne Nat.add_assoc Nat.add_zero stO_1s stO_ws boxA_s List.all_cons List.all_nil one_bool one_int one_str one_ptr one_nilptr one_slice one_eslice one_nilslice one_func one_iface one_niliface Bool.and_true Bool.and_self List.length_cons List.length_nil Nat.one_ne_zero Nat.succ_ne_zero if_false List.set_cons_zero List.set_cons_succ lay_nil lay_1 lay_w Option.map_some

def opsR : List COp := [
   ⟨(some 4), none, .x (.bslice 9 1 [(.str [])] 6 [(0, (.c (.str [103, 101, 116]))), (1, (.c (.str [103, 101, 116]))), (2, (.c (.str [112, 117, 116]))), (3, (.c (.str [112, 117, 116]))), (4, (.c (.str [100, 101, 108, 101, 116, 101]))), (5, (.c (.str [108, 105, 115, 116])))])⟩,
   ⟨(some 5), none, .f (.mv (.t 0))⟩,
   ⟨(some 6), none, .x (.call 43 [(.t 5), (.c (.int .i64 6))])⟩,
   ⟨(some 7), none, .f (.iadr 1 (.t 4) (.t 6))⟩,
   ⟨(some 8), none, .f (.ld (.t 7))⟩,
   ⟨(some 9), none, .f (.mv (.t 0))⟩,
   ⟨(some 10), none, .x (.call 75 [(.t 9)])⟩,
   ⟨(some 11), none, .f (.mv (.t 0))⟩,
   ⟨(some 12), none, .x (.call 51 [(.t 11)])⟩,
   ⟨(some 13), none, .f (.build [(.str []), (.str []), .nilslice, .nilslice] [(0, 1, (.t 8)), (1, 1, (.t 10)), (3, 1, (.t 12))])⟩,
   ⟨(some 3), none, .x (.zero 38 4 [(.str []), (.str []), .nilslice, .nilslice])⟩,
   ⟨none, none, .x (.st 4 (.t 3) (.t 13))⟩]
def ancR : List (List Nat) := [[], [], [1], [0, 2, 1], [3, 0, 2, 1], [], [5, 2, 1], [], [7, 6, 5, 2, 1], [4, 3, 0, 2, 1, 6, 5, 8, 7], [], [10, 9, 4, 3, 0, 2, 1, 6, 5, 8, 7]]
def treeR : DT := (.fl 1 (.fl 5 (.fl 7 (.br 0 (.br 2 (.fl 3 (.fl 4 (.br 6 (.br 8 (.fl 9 (.br 10 (.br 11 .fin .stop) .stop)) (.br 10 (.br 8 (.fl 9 (.br 11 .fin .stop)) .stop) .stop)) (.br 10 (.br 6 (.br 8 (.fl 9 (.br 11 .fin .stop)) .stop) .stop) .stop)))) (.br 10 (.br 2 (.fl 3 (.fl 4 (.br 6 (.br 8 (.fl 9 (.br 11 .fin .stop)) .stop) .stop))) .stop) .stop)) (.br 2 (.br 0 (.fl 3 (.fl 4 (.br 6 (.br 8 (.fl 9 (.br 10 (.br 11 .fin .stop) .stop)) (.br 10 (.br 8 (.fl 9 (.br 11 .fin .stop)) .stop) .stop)) (.br 10 (.br 6 (.br 8 (.fl 9 (.br 11 .fin .stop)) .stop) .stop) .stop)))) (.br 6 (.br 0 (.fl 3 (.fl 4 (.br 8 (.fl 9 (.br 10 (.br 11 .fin .stop) .stop)) (.br 10 (.br 8 (.fl 9 (.br 11 .fin .stop)) .stop) .stop)))) (.br 8 (.br 0 (.fl 3 (.fl 4 (.fl 9 (.br 10 (.br 11 .fin .stop) .stop)))) (.br 10 (.br 0 (.fl 3 (.fl 4 (.fl 9 (.br 11 .fin .stop)))) .stop) .stop)) (.br 10 (.br 0 (.fl 3 (.fl 4 (.br 8 (.fl 9 (.br 11 .fin .stop)) .stop))) (.br 8 (.br 0 (.fl 3 (.fl 4 (.fl 9 (.br 11 .fin .stop)))) .stop) .stop)) .stop))) (.br 10 (.br 0 (.fl 3 (.fl 4 (.br 6 (.br 8 (.fl 9 (.br 11 .fin .stop)) .stop) .stop))) (.br 6 (.br 0 (.fl 3 (.fl 4 (.br 8 (.fl 9 (.br 11 .fin .stop)) .stop))) (.br 8 (.br 0 (.fl 3 (.fl 4 (.fl 9 (.br 11 .fin .stop)))) .stop) .stop)) .stop)) .stop))) (.br 10 (.br 0 (.br 2 (.fl 3 (.fl 4 (.br 6 (.br 8 (.fl 9 (.br 11 .fin .stop)) .stop) .stop))) .stop) (.br 2 (.br 0 (.fl 3 (.fl 4 (.br 6 (.br 8 (.fl 9 (.br 11 .fin .stop)) .stop) .stop))) (.br 6 (.br 0 (.fl 3 (.fl 4 (.br 8 (.fl 9 (.br 11 .fin .stop)) .stop))) (.br 8 (.br 0 (.fl 3 (.fl 4 (.fl 9 (.br 11 .fin .stop)))) .stop) .stop)) .stop)) .stop)) .stop))))))
def verbRows : List (List IV) := [[.str [103, 101, 116]], [.str [103, 101, 116]], [.str [112, 117, 116]], [.str [112, 117, 116]], [.str [100, 101, 108, 101, 116, 101]], [.str [108, 105, 115, 116]]]
def verbO : IObj := .rows verbRows 9 1 false
def zerR : IObj := .rows [[.str [], .str [], .nilslice, .nilslice]] 38 4 false
/-- What each operation leaves. -/
def FR (p b : Nat) : Nat → Env → IH → Prop
  | 0, e, h => ∃ l, e 4 = .slice l 0 6 ∧ l ≠ p ∧ At h l verbO
  | 1, e, _ => e 0 = .ptr p 0 0 ∧ e 5 = .ptr p 0 0
  | 2, e, _ => ∃ k : Nat, k < 6 ∧ e 6 = .int .i64 (k : Nat)
  | 3, e, h => ∃ l k : Nat, k < 6 ∧ l ≠ p ∧ At h l verbO ∧ e 4 = .slice l 0 6 ∧ e 6 = .int .i64 (k : Nat) ∧ e 7 = .ptr l k 0
  | 4, e, h => ∃ (l k : Nat) (z : Txt), k < 6 ∧ l ≠ p ∧ At h l verbO ∧ e 7 = .ptr l k 0 ∧ cellO verbO k 0 = some (.str z) ∧ z.length ≤ 6 ∧ e 8 = .str z
  | 5, e, _ => e 0 = .ptr p 0 0 ∧ e 9 = .ptr p 0 0
  | 6, e, _ => ∃ s : Txt, e 10 = .str s ∧ s.length ≤ 10
  | 7, e, _ => e 0 = .ptr p 0 0 ∧ e 11 = .ptr p 0 0
  | 8, e, h => ∃ (w : IV) (bs : Txt), e 12 = w ∧ SlR h 1 w (strRows bs) ∧ (∀ l i n, w = .slice l i n → l ≠ p) ∧ bs.length ≤ 60
  | 9, e, h => ∃ (z s : Txt) (w : IV) (bs : Txt), e 8 = .str z ∧ z.length ≤ 6 ∧ e 10 = .str s ∧ s.length ≤ 10 ∧ e 12 = w ∧ SlR h 1 w (strRows bs) ∧ (∀ l i n, w = .slice l i n → l ≠ p) ∧ bs.length ≤ 60 ∧ e 13 = .agg [.str z, .str s, .nilslice, w]
  | 10, e, h => ∃ q, e 3 = .ptr q 0 0 ∧ b < q ∧ At h q zerR
  | _, _, _ => False
def rdR : List (List Nat) := [[4], [0, 5], [6], [4, 6, 7], [7, 8], [0, 9], [10], [0, 11], [12], [8, 10, 12, 13], [3]]
def dsR : List Nat := [4, 5, 6, 7, 8, 9, 10, 11, 12, 13, 3]
theorem disjR : ∀ i j : Fin 11, j ≠ i → i.val ∉ ancR.getD j.val [] → dsR.getD i.val 0 ∉ rdR.getD j.val [] := by decide
theorem extR {p b : Nat} {e e' : Env} {h h' : IH} (hpb : p < b) (V : Sav p h h') : ∀ j, j < 11 → (∀ x ∈ rdR.getD j [], e' x = e x) → FR p b j e h → FR p b j e' h'
  | 0, _, hr, hf => by
    simp only [FR, hr 4 (by decide)] at hf ⊢
    obtain ⟨l, h1, h2, h3⟩ := hf
    exact ⟨l, h1, h2, h3.sav V h2⟩
  | 1, _, hr, hf => by simp only [FR, hr 0 (by decide), hr 5 (by decide)] at hf ⊢; exact hf
  | 2, _, hr, hf => by simp only [FR, hr 6 (by decide)] at hf ⊢; exact hf
  | 3, _, hr, hf => by
    simp only [FR, hr 4 (by decide), hr 6 (by decide), hr 7 (by decide)] at hf ⊢
    obtain ⟨l, k, h1, h2, h3, h4⟩ := hf
    exact ⟨l, k, h1, h2, h3.sav V h2, h4⟩
  | 4, _, hr, hf => by
    simp only [FR, hr 7 (by decide), hr 8 (by decide)] at hf ⊢
    obtain ⟨l, k, z, h1, h2, h3, h4⟩ := hf
    exact ⟨l, k, z, h1, h2, h3.sav V h2, h4⟩
  | 5, _, hr, hf => by simp only [FR, hr 0 (by decide), hr 9 (by decide)] at hf ⊢; exact hf
  | 6, _, hr, hf => by simp only [FR, hr 10 (by decide)] at hf ⊢; exact hf
  | 7, _, hr, hf => by simp only [FR, hr 0 (by decide), hr 11 (by decide)] at hf ⊢; exact hf
  | 8, _, hr, hf => by
    simp only [FR, hr 12 (by decide)] at hf ⊢
    obtain ⟨w, bs, h1, h2, h3, h4⟩ := hf
    exact ⟨w, bs, h1, V.sl h2 h3, h3, h4⟩
  | 9, _, hr, hf => by
    simp only [FR, hr 8 (by decide), hr 10 (by decide), hr 12 (by decide), hr 13 (by decide)] at hf ⊢
    obtain ⟨z, s, w, bs, h1, h2, h3, h4, h5, h6, h7, h8⟩ := hf
    exact ⟨z, s, w, bs, h1, h2, h3, h4, h5, V.sl h6 h7, h7, h8⟩
  | 10, _, hr, hf => by
    simp only [FR, hr 3 (by decide)] at hf ⊢
    obtain ⟨q, h1, h2, h3⟩ := hf
    exact ⟨q, h1, h2, h3.sav V (by omega)⟩
  | _ + 11, hj, _, _ => by omega
theorem stabR {p b : Nat} {e : Env} {h h' : IH} (hpb : p < b) (V : Sav p h h') (i : Nat) (hi : i < 11) (v : IV) : ∀ j, j < 11 → j ≠ i → i ∉ ancR.getD j [] → FR p b j e h → FR p b j (upd e (dsR.getD i 0) v) h' := by
  intro j hj hji hn hf
  refine extR hpb V j hj (fun x hx => ?_) hf
  have := disjR ⟨i, hi⟩ ⟨j, hj⟩ (fun hc => hji (Fin.mk.inj hc)) hn
  exact upd_ne _ _ (fun hc => this (hc ▸ hx))
theorem rowR (k : Nat) (hk : k < 6) : ∃ z : Txt, cellO verbO k 0 = some (.str z) ∧ z.length ≤ 6 := by
  match k, hk with
  | 0, _ | 1, _ | 2, _ | 3, _ | 4, _ | 5, _ => exact ⟨_, rfl, by simp⟩
theorem iadR {h : IH} {l k : Nat} (hk : k < 6) (a : At h l verbO) : iadrF h 1 (.slice l 0 6) (.int .i64 (k : Nat)) = some (.ptr l k 0) := by
  rw [iadrF_nat hk (by rw [a.eq]; rfl), Nat.zero_add]
theorem againR {p b : Nat} : ∀ j e h, j < 11 → FR p b j e h → again (opsR.getD j default) e h
  | 0, _, _, _, _ => trivial
  | 1, e, h, _, hf => by obtain ⟨a, c⟩ := hf; show feval e h (.mv (.t 0)) = some (e 5); simp (disch := (first | omega | assumption | (simp only [push_n, set_n, put_n, List.length_cons, List.length_nil, List.length_append, Nat.reduceAdd]; done) | (simp only [push_n, set_n, put_n, List.length_cons, List.length_nil, List.length_append]; omega) | (simp only [List.all_cons, List.all_nil, one_bool, one_int, one_str, one_ptr, one_nilptr, one_slice, one_eslice, one_nilslice, one_func, one_iface, one_niliface, Bool.and_true, Bool.true_and, List.getD_cons_zero, List.getD_cons_succ, List.contains_cons, List.contains_nil, Bool.or_true, Bool.true_or, Bool.or_false, Bool.false_or, Nat.reduceBEq, *]; done) | fail)) only [a, c, go_sem, Hold.p, HoldK.k, HoldL.K, HoldL.body, Nat.reduceBEq, Nat.reduceAdd, reduceIte]
  | 2, _, _, _, _ => trivial
  | 3, e, h, _, hf => by
    obtain ⟨l, k, hk, _, a, h8, h10, h11⟩ := hf
    show feval e h (.iadr 1 (.t 4) (.t 6)) = some (e 7)
    have := iadR hk a
    simp (disch := (first | omega | assumption | (simp only [push_n, set_n, put_n, List.length_cons, List.length_nil, List.length_append, Nat.reduceAdd]; done) | (simp only [push_n, set_n, put_n, List.length_cons, List.length_nil, List.length_append]; omega) | (simp only [List.all_cons, List.all_nil, one_bool, one_int, one_str, one_ptr, one_nilptr, one_slice, one_eslice, one_nilslice, one_func, one_iface, one_niliface, Bool.and_true, Bool.true_and, List.getD_cons_zero, List.getD_cons_succ, List.contains_cons, List.contains_nil, Bool.or_true, Bool.true_or, Bool.or_false, Bool.false_or, Nat.reduceBEq, *]; done) | fail)) only [h8, h10, h11, this, go_sem, Hold.p, HoldK.k, HoldL.K, HoldL.body, Nat.reduceBEq, Nat.reduceAdd, reduceIte]
  | 4, e, h, _, hf => by
    obtain ⟨l, k, z, hk, _, a, h11, hc, _, h12⟩ := hf
    show feval e h (.ld (.t 7)) = some (e 8)
    have := a.eq
    simp (disch := (first | omega | assumption | (simp only [push_n, set_n, put_n, List.length_cons, List.length_nil, List.length_append, Nat.reduceAdd]; done) | (simp only [push_n, set_n, put_n, List.length_cons, List.length_nil, List.length_append]; omega) | (simp only [List.all_cons, List.all_nil, one_bool, one_int, one_str, one_ptr, one_nilptr, one_slice, one_eslice, one_nilslice, one_func, one_iface, one_niliface, Bool.and_true, Bool.true_and, List.getD_cons_zero, List.getD_cons_succ, List.contains_cons, List.contains_nil, Bool.or_true, Bool.true_or, Bool.or_false, Bool.false_or, Nat.reduceBEq, *]; done) | fail)) only [h11, h12, this, hc, go_sem, Hold.p, HoldK.k, HoldL.K, HoldL.body, Nat.reduceBEq, Nat.reduceAdd, reduceIte]
  | 5, e, h, _, hf => by obtain ⟨a, c⟩ := hf; show feval e h (.mv (.t 0)) = some (e 9); simp (disch := (first | omega | assumption | (simp only [push_n, set_n, put_n, List.length_cons, List.length_nil, List.length_append, Nat.reduceAdd]; done) | (simp only [push_n, set_n, put_n, List.length_cons, List.length_nil, List.length_append]; omega) | (simp only [List.all_cons, List.all_nil, one_bool, one_int, one_str, one_ptr, one_nilptr, one_slice, one_eslice, one_nilslice, one_func, one_iface, one_niliface, Bool.and_true, Bool.true_and, List.getD_cons_zero, List.getD_cons_succ, List.contains_cons, List.contains_nil, Bool.or_true, Bool.true_or, Bool.or_false, Bool.false_or, Nat.reduceBEq, *]; done) | fail)) only [a, c, go_sem, Hold.p, HoldK.k, HoldL.K, HoldL.body, Nat.reduceBEq, Nat.reduceAdd, reduceIte]
  | 6, _, _, _, _ => trivial
  | 7, e, h, _, hf => by obtain ⟨a, c⟩ := hf; show feval e h (.mv (.t 0)) = some (e 11); simp (disch := (first | omega | assumption | (simp only [push_n, set_n, put_n, List.length_cons, List.length_nil, List.length_append, Nat.reduceAdd]; done) | (simp only [push_n, set_n, put_n, List.length_cons, List.length_nil, List.length_append]; omega) | (simp only [List.all_cons, List.all_nil, one_bool, one_int, one_str, one_ptr, one_nilptr, one_slice, one_eslice, one_nilslice, one_func, one_iface, one_niliface, Bool.and_true, Bool.true_and, List.getD_cons_zero, List.getD_cons_succ, List.contains_cons, List.contains_nil, Bool.or_true, Bool.true_or, Bool.or_false, Bool.false_or, Nat.reduceBEq, *]; done) | fail)) only [a, c, go_sem, Hold.p, HoldK.k, HoldL.K, HoldL.body, Nat.reduceBEq, Nat.reduceAdd, reduceIte]
  | 8, _, _, _, _ => trivial
  | 9, e, h, _, hf => by
    obtain ⟨z, s, w, bs, h8, _, h10, _, h12, hs, _, _, h13⟩ := hf
    show feval e h (.build [(.str []), (.str []), .nilslice, .nilslice] [(0, 1, (.t 8)), (1, 1, (.t 10)), (3, 1, (.t 12))]) = some (e 13)
    have := hs.one
    simp (disch := (first | omega | assumption | (simp only [push_n, set_n, put_n, List.length_cons, List.length_nil, List.length_append, Nat.reduceAdd]; done) | (simp only [push_n, set_n, put_n, List.length_cons, List.length_nil, List.length_append]; omega) | (simp only [List.all_cons, List.all_nil, one_bool, one_int, one_str, one_ptr, one_nilptr, one_slice, one_eslice, one_nilslice, one_func, one_iface, one_niliface, Bool.and_true, Bool.true_and, List.getD_cons_zero, List.getD_cons_succ, List.contains_cons, List.contains_nil, Bool.or_true, Bool.true_or, Bool.or_false, Bool.false_or, Nat.reduceBEq, *]; done) | fail)) only [h8, h10, h12, h13, this, go_sem, Hold.p, HoldK.k, HoldL.K, HoldL.body, Nat.reduceBEq, Nat.reduceAdd, reduceIte]
  | 10, _, _, _, _ => trivial
  | _ + 11, _, _, hj, _ => by omega
theorem vo_f {P : Program} {e : Env} {h : IH} {d : Nat} {k : FK} {v : IV} {K : Env → IH → Prop} (hf : feval e h k = some v) (hk : K (upd e d v) h) : vcOp P ⟨some d, none, .f k⟩ K e h := by
  simp only [vcOp, vcK, hf]; exact hk
theorem vo_call {P : Program} {e : Env} {h : IH} {d f : Nat} {cs : List CX} {args : List IV} {Q : IV → IH → Prop} {K : Env → IH → Prop} (ha : cs.map (CX.ev e) = args) (hc : ICalls P f args h Q) (hk : ∀ v h', Q v h' → K (upd e d v) h') : vcOp P ⟨some d, none, .x (.call f cs)⟩ K e h := by
  subst ha
  exact hc.mono hk
theorem opR_0 {e : Env} {h : IH} {K : Env → IH → Prop} (hk : K (upd e 4 (.slice h.n 0 6)) (h.push verbO)) : vcOp Tryz.prog (opsR.getD 0 default) K e h := by
  show vcOp _ ⟨(some 4), none, .x (.bslice 9 1 [(.str [])] 6 [(0, (.c (.str [103, 101, 116]))), (1, (.c (.str [103, 101, 116]))), (2, (.c (.str [112, 117, 116]))), (3, (.c (.str [112, 117, 116]))), (4, (.c (.str [100, 101, 108, 101, 116, 101]))), (5, (.c (.str [108, 105, 115, 116])))])⟩ K e h
  simp (disch := (first | omega | assumption | (simp only [push_n, set_n, put_n, List.length_cons, List.length_nil, List.length_append, Nat.reduceAdd]; done) | (simp only [push_n, set_n, put_n, List.length_cons, List.length_nil, List.length_append]; omega) | (simp only [List.all_cons, List.all_nil, one_bool, one_int, one_str, one_ptr, one_nilptr, one_slice, one_eslice, one_nilslice, one_func, one_iface, one_niliface, Bool.and_true, Bool.true_and, List.getD_cons_zero, List.getD_cons_succ, List.contains_cons, List.contains_nil, Bool.or_true, Bool.true_or, Bool.or_false, Bool.false_or, Nat.reduceBEq, *]; done) | fail)) only [go_sem, Hold.p, HoldK.k, HoldL.K, HoldL.body, Nat.reduceBEq, Nat.reduceAdd, reduceIte]
  refine bslA_of (rows := verbRows) (by decide) rfl (by decide) ?_
  exact hk
theorem opR_10 {e : Env} {h : IH} {K : Env → IH → Prop} (hk : K (upd e 3 (.ptr h.n 0 0)) (h.push zerR)) : vcOp Tryz.prog (opsR.getD 10 default) K e h := by
  show vcOp _ ⟨(some 3), none, .x (.zero 38 4 [(.str []), (.str []), .nilslice, .nilslice])⟩ K e h
  simp (disch := (first | omega | assumption | (simp only [push_n, set_n, put_n, List.length_cons, List.length_nil, List.length_append, Nat.reduceAdd]; done) | (simp only [push_n, set_n, put_n, List.length_cons, List.length_nil, List.length_append]; omega) | (simp only [List.all_cons, List.all_nil, one_bool, one_int, one_str, one_ptr, one_nilptr, one_slice, one_eslice, one_nilslice, one_func, one_iface, one_niliface, Bool.and_true, Bool.true_and, List.getD_cons_zero, List.getD_cons_succ, List.contains_cons, List.contains_nil, Bool.or_true, Bool.true_or, Bool.or_false, Bool.false_or, Nat.reduceBEq, *]; done) | fail)) only [go_sem, Hold.p, HoldK.k, HoldL.K, HoldL.body, Nat.reduceBEq, Nat.reduceAdd, reduceIte]
  exact hk
theorem opR_11 {e : Env} {h : IH} {K : Env → IH → Prop} {q : Nat} {z s : Txt} {w : IV} (a3 : e 3 = .ptr q 0 0) (aq : At h q zerR) (hw : w.one = true) (a13 : e 13 = .agg [.str z, .str s, .nilslice, w])
    (hk : K e (h.set q (reqObj z s .nilslice w))) : vcOp Tryz.prog (opsR.getD 11 default) K e h := by
  show vcOp _ ⟨none, none, .x (.st 4 (.t 3) (.t 13))⟩ K e h
  have := aq.eq
  unfold zerR at this
  simp (disch := (first | omega | assumption | (simp only [push_n, set_n, put_n, List.length_cons, List.length_nil, List.length_append, Nat.reduceAdd]; done) | (simp only [push_n, set_n, put_n, List.length_cons, List.length_nil, List.length_append]; omega) | (simp only [List.all_cons, List.all_nil, one_bool, one_int, one_str, one_ptr, one_nilptr, one_slice, one_eslice, one_nilslice, one_func, one_iface, one_niliface, Bool.and_true, Bool.true_and, List.getD_cons_zero, List.getD_cons_succ, List.contains_cons, List.contains_nil, Bool.or_true, Bool.true_or, Bool.or_false, Bool.false_or, Nat.reduceBEq, *]; done) | fail)) only [a3, a13, this, hw, go_sem, Hold.p, HoldK.k, HoldL.K, HoldL.body, Nat.reduceBEq, Nat.reduceAdd, reduceIte]
  exact hk
def BR (h0 : IH) (p : Nat) (v : IV) (code : List UInt8) (e : Env) (h : IH) : Prop := e 0 = .ptr p 0 0 ∧ e 2 = .ptr h0.n 0 0 ∧ At h h0.n zerR ∧ Src h p v code ∧ Sav p h0 h
theorem stepR (h0 : IH) (p : Nat) (v : IV) (code : List UInt8) (hl : code.length ≤ 1048576) (hpn : p < h0.n) : ∀ i e h, i < 11 → BR h0 p v code e h → (∀ j ∈ ancR.getD i [], FR p h0.n j e h) →
    vcOp Tryz.prog (opsR.getD i default) (fun e' h' => BR h0 p v code e' h' ∧ FR p h0.n i e' h' ∧ ∀ j, j < 11 → j ≠ i → i ∉ ancR.getD j [] → FR p h0.n j e h → FR p h0.n j e' h') e h := by
  have B : ∀ {e : Env} {h h' : IH} (i : Nat) (v' : IV), i < 11 → BR h0 p v code e h → Src h' p v code → Sav p h h' → BR h0 p v code (upd e (dsR.getD i 0) v') h' := by
    intro e h h' i v' hi hB S' V
    obtain ⟨b0, b2, ba, _, bv⟩ := hB
    have hd : ∀ i : Fin 11, dsR.getD i.val 0 ≠ 0 ∧ dsR.getD i.val 0 ≠ 2 := by decide
    exact ⟨(upd_ne _ _ (hd ⟨i, hi⟩).1.symm).trans b0, (upd_ne _ _ (hd ⟨i, hi⟩).2.symm).trans b2, ba.sav V (by omega), S', bv.trans V⟩
  intro i e h hi hB hF
  have hB' := hB
  obtain ⟨b0, b2, ba, bs, bv⟩ := hB'
  have hle := bv.le
  have fl : ∀ (v' : IV), FR p h0.n i (upd e (dsR.getD i 0) v') h → BR h0 p v code (upd e (dsR.getD i 0) v') h ∧ FR p h0.n i (upd e (dsR.getD i 0) v') h ∧ ∀ j, j < 11 → j ≠ i → i ∉ ancR.getD j [] → FR p h0.n j e h → FR p h0.n j (upd e (dsR.getD i 0) v') h :=
    fun v' hf => ⟨B i v' hi hB bs (Sav.refl _ _), hf, stabR hpn (Sav.refl _ _) i hi v'⟩
  have ex : ∀ (v' : IV) (h' : IH), Src h' p v code → Sav p h h' → FR p h0.n i (upd e (dsR.getD i 0) v') h' → BR h0 p v code (upd e (dsR.getD i 0) v') h' ∧ FR p h0.n i (upd e (dsR.getD i 0) v') h' ∧ ∀ j, j < 11 → j ≠ i → i ∉ ancR.getD j [] → FR p h0.n j e h → FR p h0.n j (upd e (dsR.getD i 0) v') h' :=
    fun v' h' S' V hf => ⟨B i v' hi hB S' V, hf, stabR hpn V i hi v'⟩
  match i, hi with
  | 0, _ => exact opR_0 (ex _ _ (bs.ext ((Ext.refl _).push _)) ((Sav.refl _ _).ext ((Ext.refl _).push _)) ⟨_, upd_eq _ _ _, by omega, At.new _ _⟩)
  | 1, _ => exact vo_f (v := .ptr p 0 0) (by simp (disch := (first | omega | assumption | (simp only [push_n, set_n, put_n, List.length_cons, List.length_nil, List.length_append, Nat.reduceAdd]; done) | (simp only [push_n, set_n, put_n, List.length_cons, List.length_nil, List.length_append]; omega) | (simp only [List.all_cons, List.all_nil, one_bool, one_int, one_str, one_ptr, one_nilptr, one_slice, one_eslice, one_nilslice, one_func, one_iface, one_niliface, Bool.and_true, Bool.true_and, List.getD_cons_zero, List.getD_cons_succ, List.contains_cons, List.contains_nil, Bool.or_true, Bool.true_or, Bool.or_false, Bool.false_or, Nat.reduceBEq, *]; done) | fail)) only [b0, go_sem, Hold.p, HoldK.k, HoldL.K, HoldL.body, Nat.reduceBEq, Nat.reduceAdd, reduceIte]) (fl _ ⟨(upd_ne _ _ (by decide)).trans b0, upd_eq _ _ _⟩)
  | 2, _ =>
    have h9 : e 5 = .ptr p 0 0 := (hF 1 (by decide)).2
    refine vo_call (args := [.ptr p 0 0, .int .i64 6]) (by simp (disch := (first | omega | assumption | (simp only [push_n, set_n, put_n, List.length_cons, List.length_nil, List.length_append, Nat.reduceAdd]; done) | (simp only [push_n, set_n, put_n, List.length_cons, List.length_nil, List.length_append]; omega) | (simp only [List.all_cons, List.all_nil, one_bool, one_int, one_str, one_ptr, one_nilptr, one_slice, one_eslice, one_nilslice, one_func, one_iface, one_niliface, Bool.and_true, Bool.true_and, List.getD_cons_zero, List.getD_cons_succ, List.contains_cons, List.contains_nil, Bool.or_true, Bool.true_or, Bool.or_false, Bool.false_or, Nat.reduceBEq, *]; done) | fail)) only [h9, go_sem, Hold.p, HoldK.k, HoldL.K, HoldL.body, Nat.reduceBEq, Nat.reduceAdd, reduceIte]) (l01Next_c h p v code _ bs (by omega) (by omega) hl) ?_
    rintro r h' ⟨x, rfl, x0, x1, S', V, _⟩
    obtain ⟨k, rfl⟩ : ∃ m : Nat, x = (m : Int) := ⟨x.toNat, by omega⟩
    exact ex _ h' S' V ⟨k, by omega, upd_eq _ _ _⟩
  | 3, _ =>
    obtain ⟨l, h8, hlp, a⟩ := hF 0 (by decide)
    obtain ⟨k, hk, h10⟩ := hF 2 (by decide)
    have := iadR hk a
    exact vo_f (v := .ptr l k 0) (by simp (disch := (first | omega | assumption | (simp only [push_n, set_n, put_n, List.length_cons, List.length_nil, List.length_append, Nat.reduceAdd]; done) | (simp only [push_n, set_n, put_n, List.length_cons, List.length_nil, List.length_append]; omega) | (simp only [List.all_cons, List.all_nil, one_bool, one_int, one_str, one_ptr, one_nilptr, one_slice, one_eslice, one_nilslice, one_func, one_iface, one_niliface, Bool.and_true, Bool.true_and, List.getD_cons_zero, List.getD_cons_succ, List.contains_cons, List.contains_nil, Bool.or_true, Bool.true_or, Bool.or_false, Bool.false_or, Nat.reduceBEq, *]; done) | fail)) only [h8, h10, this, go_sem, Hold.p, HoldK.k, HoldL.K, HoldL.body, Nat.reduceBEq, Nat.reduceAdd, reduceIte]) (fl _ ⟨l, k, hk, hlp, a, (upd_ne _ _ (by decide)).trans h8, (upd_ne _ _ (by decide)).trans h10, upd_eq _ _ _⟩)
  | 4, _ =>
    obtain ⟨l, k, hk, hlp, a, h8, h10, h11⟩ := hF 3 (by decide)
    obtain ⟨z, hz, hzl⟩ := rowR k hk
    have := a.eq
    exact vo_f (v := .str z) (by simp (disch := (first | omega | assumption | (simp only [push_n, set_n, put_n, List.length_cons, List.length_nil, List.length_append, Nat.reduceAdd]; done) | (simp only [push_n, set_n, put_n, List.length_cons, List.length_nil, List.length_append]; omega) | (simp only [List.all_cons, List.all_nil, one_bool, one_int, one_str, one_ptr, one_nilptr, one_slice, one_eslice, one_nilslice, one_func, one_iface, one_niliface, Bool.and_true, Bool.true_and, List.getD_cons_zero, List.getD_cons_succ, List.contains_cons, List.contains_nil, Bool.or_true, Bool.true_or, Bool.or_false, Bool.false_or, Nat.reduceBEq, *]; done) | fail)) only [h11, this, hz, go_sem, Hold.p, HoldK.k, HoldL.K, HoldL.body, Nat.reduceBEq, Nat.reduceAdd, reduceIte]) (fl _ ⟨l, k, z, hk, hlp, a, (upd_ne _ _ (by decide)).trans h11, hz, hzl, upd_eq _ _ _⟩)
  | 5, _ => exact vo_f (v := .ptr p 0 0) (by simp (disch := (first | omega | assumption | (simp only [push_n, set_n, put_n, List.length_cons, List.length_nil, List.length_append, Nat.reduceAdd]; done) | (simp only [push_n, set_n, put_n, List.length_cons, List.length_nil, List.length_append]; omega) | (simp only [List.all_cons, List.all_nil, one_bool, one_int, one_str, one_ptr, one_nilptr, one_slice, one_eslice, one_nilslice, one_func, one_iface, one_niliface, Bool.and_true, Bool.true_and, List.getD_cons_zero, List.getD_cons_succ, List.contains_cons, List.contains_nil, Bool.or_true, Bool.true_or, Bool.or_false, Bool.false_or, Nat.reduceBEq, *]; done) | fail)) only [b0, go_sem, Hold.p, HoldK.k, HoldL.K, HoldL.body, Nat.reduceBEq, Nat.reduceAdd, reduceIte]) (fl _ ⟨(upd_ne _ _ (by decide)).trans b0, upd_eq _ _ _⟩)
  | 6, _ =>
    have h15 : e 9 = .ptr p 0 0 := (hF 5 (by decide)).2
    refine vo_call (args := [.ptr p 0 0]) (by simp (disch := (first | omega | assumption | (simp only [push_n, set_n, put_n, List.length_cons, List.length_nil, List.length_append, Nat.reduceAdd]; done) | (simp only [push_n, set_n, put_n, List.length_cons, List.length_nil, List.length_append]; omega) | (simp only [List.all_cons, List.all_nil, one_bool, one_int, one_str, one_ptr, one_nilptr, one_slice, one_eslice, one_nilslice, one_func, one_iface, one_niliface, Bool.and_true, Bool.true_and, List.getD_cons_zero, List.getD_cons_succ, List.contains_cons, List.contains_nil, Bool.or_true, Bool.true_or, Bool.or_false, Bool.false_or, Nat.reduceBEq, *]; done) | fail)) only [h15, go_sem, Hold.p, HoldK.k, HoldL.K, HoldL.body, Nat.reduceBEq, Nat.reduceAdd, reduceIte]) (l20Path_c h p v code bs hl (by omega)) ?_
    rintro r h' ⟨s, rfl, hs, S', V⟩
    exact ex _ h' S' V ⟨s, upd_eq _ _ _, hs⟩
  | 7, _ => exact vo_f (v := .ptr p 0 0) (by simp (disch := (first | omega | assumption | (simp only [push_n, set_n, put_n, List.length_cons, List.length_nil, List.length_append, Nat.reduceAdd]; done) | (simp only [push_n, set_n, put_n, List.length_cons, List.length_nil, List.length_append]; omega) | (simp only [List.all_cons, List.all_nil, one_bool, one_int, one_str, one_ptr, one_nilptr, one_slice, one_eslice, one_nilslice, one_func, one_iface, one_niliface, Bool.and_true, Bool.true_and, List.getD_cons_zero, List.getD_cons_succ, List.contains_cons, List.contains_nil, Bool.or_true, Bool.true_or, Bool.or_false, Bool.false_or, Nat.reduceBEq, *]; done) | fail)) only [b0, go_sem, Hold.p, HoldK.k, HoldL.K, HoldL.body, Nat.reduceBEq, Nat.reduceAdd, reduceIte]) (fl _ ⟨(upd_ne _ _ (by decide)).trans b0, upd_eq _ _ _⟩)
  | 8, _ =>
    have h15 : e 11 = .ptr p 0 0 := (hF 7 (by decide)).2
    refine vo_call (args := [.ptr p 0 0]) (by simp (disch := (first | omega | assumption | (simp only [push_n, set_n, put_n, List.length_cons, List.length_nil, List.length_append, Nat.reduceAdd]; done) | (simp only [push_n, set_n, put_n, List.length_cons, List.length_nil, List.length_append]; omega) | (simp only [List.all_cons, List.all_nil, one_bool, one_int, one_str, one_ptr, one_nilptr, one_slice, one_eslice, one_nilslice, one_func, one_iface, one_niliface, Bool.and_true, Bool.true_and, List.getD_cons_zero, List.getD_cons_succ, List.contains_cons, List.contains_nil, Bool.or_true, Bool.true_or, Bool.or_false, Bool.false_or, Nat.reduceBEq, *]; done) | fail)) only [h15, go_sem, Hold.p, HoldK.k, HoldL.K, HoldL.body, Nat.reduceBEq, Nat.reduceAdd, reduceIte]) (l20Body_c h p v code bs hl (by omega)) ?_
    rintro r h' ⟨bb, o, hbl, S', V⟩
    exact ex _ h' S' V ⟨r, bb, upd_eq _ _ _, o.sl, S'.slNe o.sl (by decide), hbl⟩
  | 9, _ =>
    obtain ⟨l, k, z, _, _, _, _, _, hz, h8⟩ := hF 4 (by decide)
    obtain ⟨s, h10, hs⟩ := hF 6 (by decide)
    obtain ⟨w, bb, h12, hw, hne, hbl⟩ := hF 8 (by decide)
    have := hw.one
    exact vo_f (v := .agg [.str z, .str s, .nilslice, w]) (by simp (disch := (first | omega | assumption | (simp only [push_n, set_n, put_n, List.length_cons, List.length_nil, List.length_append, Nat.reduceAdd]; done) | (simp only [push_n, set_n, put_n, List.length_cons, List.length_nil, List.length_append]; omega) | (simp only [List.all_cons, List.all_nil, one_bool, one_int, one_str, one_ptr, one_nilptr, one_slice, one_eslice, one_nilslice, one_func, one_iface, one_niliface, Bool.and_true, Bool.true_and, List.getD_cons_zero, List.getD_cons_succ, List.contains_cons, List.contains_nil, Bool.or_true, Bool.true_or, Bool.or_false, Bool.false_or, Nat.reduceBEq, *]; done) | fail)) only [h8, h10, h12, this, go_sem, Hold.p, HoldK.k, HoldL.K, HoldL.body, Nat.reduceBEq, Nat.reduceAdd, reduceIte]) (fl _ ⟨z, s, w, bb, (upd_ne _ _ (by decide)).trans h8, hz, (upd_ne _ _ (by decide)).trans h10, hs, (upd_ne _ _ (by decide)).trans h12, hw, hne, hbl, upd_eq _ _ _⟩)
  | 10, _ =>
    exact opR_10 (ex _ _ (bs.ext ((Ext.refl _).push _)) ((Sav.refl _ _).ext ((Ext.refl _).push _)) ⟨_, upd_eq _ _ _, by have := ba.lt; omega, At.new _ _⟩)
  | _ + 11, hc => omega
end
end Go.Proofs.YtdpaehdolhdjdaaGreatDoor

set_option maxRecDepth 20000
namespace Go.Proofs.YtdpaehdolhdjdaaGreatDoor
open Go Go.IW
section
attribute [local go_sem] List.getElem?_cons_zero List.getElem?_cons_succ Option.bind_some List.map_cons List.map_nil Nat.zero_add if_true List.getD_cons_zero List.getD_cons_succ List.contains_cons List.contains_nil Bool.or_true Bool.true_or Bool.or_false Bool.false_or Bool.not_true Bool.not_false true_and and_true rowA_whole mid_get stO_mid rowO_rows cellO_rows push_n set_n push_at push_old set_here set_there set_pushT set_pushN set_set upd_ne Nat.add_assoc Nat.add_zero stO_1s stO_ws boxA_s List.all_cons List.all_nil one_bool one_int one_str one_ptr one_nilptr one_slice one_eslice one_nilslice one_func one_iface one_niliface Bool.and_true Bool.and_self List.length_cons List.length_nil Nat.one_ne_zero Nat.succ_ne_zero if_false List.set_cons_zero List.set_cons_succ lay_nil lay_1 lay_w Option.map_some

set_option maxHeartbeats 1000000 in
theorem l20Request_c (h : IH) (p : Nat) (v : IV) (code : Txt) (S : Src h p v code) (hl : code.length ≤ 1048576) (hpn : p < h.n) :
    ICalls Tryz.prog 41 [.ptr p 0 0] h fun r h' => ∃ (vb pa : Txt) (vf w : IV) (fs : List Fld) (bs : Txt), r = .agg [.str vb, .str pa, vf, w] ∧ vb.length ≤ 6 ∧ pa.length ≤ 10 ∧ SlR h' 2 vf (fldRows fs) ∧ fs.length ≤ 2 ∧ FldT fs ∧ SlR h' 1 w (strRows bs) ∧ bs.length ≤ 60 ∧ Src h' p v code ∧ Sav p h h' := by
  refine icalls (.of ok41) (Nat.le_of_ble_eq_true rfl) ?_
  unfold c41
  have S0 := S
  refine vc_split 1 (fun e g => BR h p v code e g) ?_ ?_
  · simp only [CC.split]
    simp (disch := (first | omega | assumption | (simp only [push_n, set_n, put_n, List.length_cons, List.length_nil, List.length_append, Nat.reduceAdd]; done) | (simp only [push_n, set_n, put_n, List.length_cons, List.length_nil, List.length_append]; omega) | (simp only [List.all_cons, List.all_nil, one_bool, one_int, one_str, one_ptr, one_nilptr, one_slice, one_eslice, one_nilslice, one_func, one_iface, one_niliface, Bool.and_true, Bool.true_and, List.getD_cons_zero, List.getD_cons_succ, List.contains_cons, List.contains_nil, Bool.or_true, Bool.true_or, Bool.or_false, Bool.false_or, Nat.reduceBEq, *]; done) | fail)) only [go_sem, Hold.p, HoldK.k, HoldL.K, HoldL.body, Nat.reduceBEq, Nat.reduceAdd, reduceIte]
    refine ⟨by simp (disch := (first | omega | assumption | (simp only [push_n, set_n, put_n, List.length_cons, List.length_nil, List.length_append, Nat.reduceAdd]; done) | (simp only [push_n, set_n, put_n, List.length_cons, List.length_nil, List.length_append]; omega) | (simp only [List.all_cons, List.all_nil, one_bool, one_int, one_str, one_ptr, one_nilptr, one_slice, one_eslice, one_nilslice, one_func, one_iface, one_niliface, Bool.and_true, Bool.true_and, List.getD_cons_zero, List.getD_cons_succ, List.contains_cons, List.contains_nil, Bool.or_true, Bool.true_or, Bool.or_false, Bool.false_or, Nat.reduceBEq, *]; done) | fail)) only [go_sem, Hold.p, HoldK.k, HoldL.K, HoldL.body, Nat.reduceBEq, Nat.reduceAdd, reduceIte], by simp (disch := (first | omega | assumption | (simp only [push_n, set_n, put_n, List.length_cons, List.length_nil, List.length_append, Nat.reduceAdd]; done) | (simp only [push_n, set_n, put_n, List.length_cons, List.length_nil, List.length_append]; omega) | (simp only [List.all_cons, List.all_nil, one_bool, one_int, one_str, one_ptr, one_nilptr, one_slice, one_eslice, one_nilslice, one_func, one_iface, one_niliface, Bool.and_true, Bool.true_and, List.getD_cons_zero, List.getD_cons_succ, List.contains_cons, List.contains_nil, Bool.or_true, Bool.true_or, Bool.or_false, Bool.false_or, Nat.reduceBEq, *]; done) | fail)) only [go_sem, Hold.p, HoldK.k, HoldL.K, HoldL.body, Nat.reduceBEq, Nat.reduceAdd, reduceIte], At.new _ _, S.ext ((Ext.refl _).push _), (Sav.refl _ _).ext ((Ext.refl _).push _)⟩
  rintro e0 g0 hB
  simp only [CC.split]
  refine vc_split 1 (fun e g => ∃ (q : Nat) (z s : Txt) (w : IV) (bs : Txt), BR h p v code e g ∧ e 3 = .ptr q 0 0 ∧ h.n < q ∧ At g q (reqObj z s .nilslice w) ∧ z.length ≤ 6 ∧ s.length ≤ 10 ∧ SlR g 1 w (strRows bs) ∧ bs.length ≤ 60) ?_ ?_
  · simp only [CC.split]
    show vcT Tryz.prog opsR ancR [] treeR _ _ _
    refine vcT_facts (n := 11) (B := BR h p v code) (F := FR p h.n) (stepR h p v code hl hpn) againR ?_ treeR [] e0 g0 (by decide +kernel) hB (by simp)
    intro e g hB hF
    obtain ⟨q, h3, hq, aq⟩ := hF 10 (by decide)
    obtain ⟨z, s, w, bs, _, hz, _, hs, _, hw, hne, hbl, h13⟩ := hF 9 (by decide)
    refine opR_11 h3 aq hw.one h13 ?_
    obtain ⟨b0, b2, ba, bs', bv⟩ := hB
    have V := bv.set (l := q) (.inl (by omega)) (reqObj z s .nilslice w)
    have aq2 : At g q (.rows [[.str [], .str [], .nilslice, .nilslice]] 38 4 false) := aq
    exact ⟨q, z, s, w, bs, ⟨b0, b2, ba.set (by omega), S0.back hpn bs' V (set_there _ _ _ _ (by omega)), V⟩, h3, hq, aq.here, hz, hs, hw.setp aq2 (by decide) _, hbl⟩
  rintro e g ⟨q, z, s, w, bs, ⟨b0, b2, ba, S, V⟩, e3, hq, aq, hz, hs, hw, hbl⟩
  simp only [CC.split]
  refine vc_split 1 (fun e g => ∃ (w : IV) (bs : Txt), e 0 = .ptr p 0 0 ∧ e 2 = .ptr h.n 0 0 ∧ e 3 = .ptr q 0 0 ∧ At g h.n zerR ∧ At g q (reqObj z s .nilslice w) ∧ SlR g 1 w (strRows bs) ∧ bs.length ≤ 60 ∧ Src g p v code ∧ Sav p h g) ?_ ?_
  · simp only [CC.split]
    have qq := aq.eq
    have wo := hw.one
    simp (disch := (first | omega | assumption | (simp only [push_n, set_n, put_n, List.length_cons, List.length_nil, List.length_append, Nat.reduceAdd]; done) | (simp only [push_n, set_n, put_n, List.length_cons, List.length_nil, List.length_append]; omega) | (simp only [List.all_cons, List.all_nil, one_bool, one_int, one_str, one_ptr, one_nilptr, one_slice, one_eslice, one_nilslice, one_func, one_iface, one_niliface, Bool.and_true, Bool.true_and, List.getD_cons_zero, List.getD_cons_succ, List.contains_cons, List.contains_nil, Bool.or_true, Bool.true_or, Bool.or_false, Bool.false_or, Nat.reduceBEq, *]; done) | fail)) only [b0, b2, e3, qq, go_sem, Hold.p, HoldK.k, HoldL.K, HoldL.body, Nat.reduceBEq, Nat.reduceAdd, reduceIte]
    refine guard_of (fun hb => ?_) (fun hb => ?_)
    · simp (disch := (first | omega | assumption | (simp only [push_n, set_n, put_n, List.length_cons, List.length_nil, List.length_append, Nat.reduceAdd]; done) | (simp only [push_n, set_n, put_n, List.length_cons, List.length_nil, List.length_append]; omega) | (simp only [List.all_cons, List.all_nil, one_bool, one_int, one_str, one_ptr, one_nilptr, one_slice, one_eslice, one_nilslice, one_func, one_iface, one_niliface, Bool.and_true, Bool.true_and, List.getD_cons_zero, List.getD_cons_succ, List.contains_cons, List.contains_nil, Bool.or_true, Bool.true_or, Bool.or_false, Bool.false_or, Nat.reduceBEq, *]; done) | fail)) only [b0, b2, e3, qq, hb, go_sem, Hold.p, HoldK.k, HoldL.K, HoldL.body, Nat.reduceBEq, Nat.reduceAdd, reduceIte]
      refine callA_of (l01Bool_c g p v code S hl) ?_
      rintro r g1 ⟨t, rfl, S1, V1, hn1⟩
      have hle := V.le
      have ba1 := ba.sav V1 (by omega)
      have aq1 := aq.sav V1 (by omega)
      have hw1 := hw.sav V1 (S.slNe hw (by decide))
      have V2 := V.trans V1
      have qq1 := aq1.eq
      simp (disch := (first | omega | assumption | (simp only [push_n, set_n, put_n, List.length_cons, List.length_nil, List.length_append, Nat.reduceAdd]; done) | (simp only [push_n, set_n, put_n, List.length_cons, List.length_nil, List.length_append]; omega) | (simp only [List.all_cons, List.all_nil, one_bool, one_int, one_str, one_ptr, one_nilptr, one_slice, one_eslice, one_nilslice, one_func, one_iface, one_niliface, Bool.and_true, Bool.true_and, List.getD_cons_zero, List.getD_cons_succ, List.contains_cons, List.contains_nil, Bool.or_true, Bool.true_or, Bool.or_false, Bool.false_or, Nat.reduceBEq, *]; done) | fail)) only [hb, go_sem, Hold.p, HoldK.k, HoldL.K, HoldL.body, Nat.reduceBEq, Nat.reduceAdd, reduceIte]
      refine test_of (fun hc => ?_) (fun hc => ?_)
      · simp (disch := (first | omega | assumption | (simp only [push_n, set_n, put_n, List.length_cons, List.length_nil, List.length_append, Nat.reduceAdd]; done) | (simp only [push_n, set_n, put_n, List.length_cons, List.length_nil, List.length_append]; omega) | (simp only [List.all_cons, List.all_nil, one_bool, one_int, one_str, one_ptr, one_nilptr, one_slice, one_eslice, one_nilslice, one_func, one_iface, one_niliface, Bool.and_true, Bool.true_and, List.getD_cons_zero, List.getD_cons_succ, List.contains_cons, List.contains_nil, Bool.or_true, Bool.true_or, Bool.or_false, Bool.false_or, Nat.reduceBEq, *]; done) | fail)) only [b0, b2, e3, qq1, go_sem, Hold.p, HoldK.k, HoldL.K, HoldL.body, Nat.reduceBEq, Nat.reduceAdd, reduceIte]
        have W := V2.set (l := q) (.inl (by omega)) (reqObj z s .nilslice .nilslice)
        exact ⟨.nilslice, [], ba1.set (by omega), aq1.here, SlR.nil _ _, by simp, S0.back hpn S1 W (set_there _ _ _ _ (by omega)), W⟩
      · simp (disch := (first | omega | assumption | (simp only [push_n, set_n, put_n, List.length_cons, List.length_nil, List.length_append, Nat.reduceAdd]; done) | (simp only [push_n, set_n, put_n, List.length_cons, List.length_nil, List.length_append]; omega) | (simp only [List.all_cons, List.all_nil, one_bool, one_int, one_str, one_ptr, one_nilptr, one_slice, one_eslice, one_nilslice, one_func, one_iface, one_niliface, Bool.and_true, Bool.true_and, List.getD_cons_zero, List.getD_cons_succ, List.contains_cons, List.contains_nil, Bool.or_true, Bool.true_or, Bool.or_false, Bool.false_or, Nat.reduceBEq, *]; done) | fail)) only [b0, b2, e3, go_sem, Hold.p, HoldK.k, HoldL.K, HoldL.body, Nat.reduceBEq, Nat.reduceAdd, reduceIte]
        exact ⟨w, bs, ba1, aq1, hw1, hbl, S1, V2⟩
    · simp (disch := (first | omega | assumption | (simp only [push_n, set_n, put_n, List.length_cons, List.length_nil, List.length_append, Nat.reduceAdd]; done) | (simp only [push_n, set_n, put_n, List.length_cons, List.length_nil, List.length_append]; omega) | (simp only [List.all_cons, List.all_nil, one_bool, one_int, one_str, one_ptr, one_nilptr, one_slice, one_eslice, one_nilslice, one_func, one_iface, one_niliface, Bool.and_true, Bool.true_and, List.getD_cons_zero, List.getD_cons_succ, List.contains_cons, List.contains_nil, Bool.or_true, Bool.true_or, Bool.or_false, Bool.false_or, Nat.reduceBEq, *]; done) | fail)) only [hb, b0, b2, e3, go_sem, Hold.p, HoldK.k, HoldL.K, HoldL.body, Nat.reduceBEq, Nat.reduceAdd, reduceIte]
      exact ⟨w, bs, ba, aq, hw, hbl, S, V⟩
  clear b0 b2 ba S V e3 aq hw hbl w bs e g
  rintro e g ⟨w, bs, b0, b2, e3, ba, aq, hw, hbl, S, V⟩
  simp only [CC.split]
  have hle := V.le
  simp (disch := (first | omega | assumption | (simp only [push_n, set_n, put_n, List.length_cons, List.length_nil, List.length_append, Nat.reduceAdd]; done) | (simp only [push_n, set_n, put_n, List.length_cons, List.length_nil, List.length_append]; omega) | (simp only [List.all_cons, List.all_nil, one_bool, one_int, one_str, one_ptr, one_nilptr, one_slice, one_eslice, one_nilslice, one_func, one_iface, one_niliface, Bool.and_true, Bool.true_and, List.getD_cons_zero, List.getD_cons_succ, List.contains_cons, List.contains_nil, Bool.or_true, Bool.true_or, Bool.or_false, Bool.false_or, Nat.reduceBEq, *]; done) | fail)) only [b0, go_sem, Hold.p, HoldK.k, HoldL.K, HoldL.body, Nat.reduceBEq, Nat.reduceAdd, reduceIte]
  refine callA_of (l20Body_c g p v code S hl (by omega)) ?_
  rintro r g1 ⟨bb, o1, hbb, S1, V1⟩
  have hle1 := V1.le
  have ba := ba.sav V1 (by omega)
  have aq := aq.sav V1 (by omega)
  have hw := hw.sav V1 (S.slNe hw (by decide))
  have V := V.trans V1
  simp (disch := (first | omega | assumption | (simp only [push_n, set_n, put_n, List.length_cons, List.length_nil, List.length_append, Nat.reduceAdd]; done) | (simp only [push_n, set_n, put_n, List.length_cons, List.length_nil, List.length_append]; omega) | (simp only [List.all_cons, List.all_nil, one_bool, one_int, one_str, one_ptr, one_nilptr, one_slice, one_eslice, one_nilslice, one_func, one_iface, one_niliface, Bool.and_true, Bool.true_and, List.getD_cons_zero, List.getD_cons_succ, List.contains_cons, List.contains_nil, Bool.or_true, Bool.true_or, Bool.or_false, Bool.false_or, Nat.reduceBEq, *]; done) | fail)) only [go_sem, Hold.p, HoldK.k, HoldL.K, HoldL.body, Nat.reduceBEq, Nat.reduceAdd, reduceIte]
  refine callA_of (l20Fields_c g1 p v r code bb S1 o1.sl (S1.slNe o1.sl (by decide)) hl (by omega) (by omega)) ?_
  rintro vf g2 ⟨fs, of_, hfl, hT, S2, V2⟩
  have hle2 := V2.le
  have ba := ba.sav V2 (by omega)
  have aq := aq.sav V2 (by omega)
  have hw := hw.sav V2 (S1.slNe hw (by decide))
  have V := V.trans V2
  have hF := of_.sl
  have vf1 := hF.one
  have vf2 := hF.cells
  have wo := hw.one
  have qa := aq.eq
  have qb := ba.eq
  unfold zerR at qb
  simp (disch := (first | omega | assumption | (simp only [push_n, set_n, put_n, List.length_cons, List.length_nil, List.length_append, Nat.reduceAdd]; done) | (simp only [push_n, set_n, put_n, List.length_cons, List.length_nil, List.length_append]; omega) | (simp only [List.all_cons, List.all_nil, one_bool, one_int, one_str, one_ptr, one_nilptr, one_slice, one_eslice, one_nilslice, one_func, one_iface, one_niliface, Bool.and_true, Bool.true_and, List.getD_cons_zero, List.getD_cons_succ, List.contains_cons, List.contains_nil, Bool.or_true, Bool.true_or, Bool.or_false, Bool.false_or, Nat.reduceBEq, *]; done) | fail)) only [e3, b2, qa, qb, vf1, vf2, wo, go_sem, Hold.p, HoldK.k, HoldL.K, HoldL.body, Nat.reduceBEq, Nat.reduceAdd, reduceIte]
  have hqn := aq.lt
  have W1 := V.set (l := q) (.inl (by omega)) (reqObj z s vf w)
  have hF1 := hF.setp aq (by decide) (reqObj z s vf w)
  have hw1 := hw.setp aq (by decide) (reqObj z s vf w)
  have ba1 : At (g2.set q (reqObj z s vf w)) h.n zerR := ba.set (by omega)
  have W2 := W1.set (l := h.n) (.inl (by omega)) (reqObj z s vf w)
  refine ⟨z, s, vf, w, fs, bs, rfl, hz, hs, hF1.setp ba1 (by decide) _, hfl, hT, hw1.setp ba1 (by decide) _, hbl, S0.back hpn S2 W2 ?_, W2⟩
  rw [set_there _ _ _ _ (by omega), set_there _ _ _ _ (by omega)]
end
end Go.Proofs.YtdpaehdolhdjdaaGreatDoor

set_option maxRecDepth 20000
namespace Go.Proofs.YtdpaehdolhdjdaaGreatDoor
open Go Go.IW
section
attribute [local go_sem] List.getElem?_cons_zero List.getElem?_cons_succ Option.bind_some List.map_cons List.map_nil Nat.zero_add if_true List.getD_cons_zero List.getD_cons_succ List.contains_cons List.contains_nil Bool.or_true Bool.true_or Bool.or_false Bool.false_or Bool.not_true Bool.not_false true_and and_true rowA_whole mid_get stO_mid rowO_rows cellO_rows push_n set_n push_at push_old set_here set_there set_pushT set_pushN set_set upd_ne Nat.add_assoc Nat.add_zero stO_1s stO_ws boxA_s List.all_cons List.all_nil one_bool one_int one_str one_ptr one_nilptr one_slice one_eslice one_nilslice one_func one_iface one_niliface Bool.and_true Bool.and_self List.length_cons List.length_nil Nat.one_ne_zero Nat.succ_ne_zero if_false List.set_cons_zero List.set_cons_succ lay_nil lay_1 lay_w Option.map_some

def stRows : List (List IV) := [[.int .i64 99], [.int .i64 100], [.int .i64 999], [.int .i64 1000]]
set_option maxHeartbeats 1000000 in
theorem drawRep_c (h : IH) (v : IV) (code : Txt) (hs : SlR h 1 v (strRows code)) (hl : code.length ≤ 1048576) :
    ICalls Tryz.prog 16 [v] h fun r h' => ∃ (st : Int) (vf w : IV) (fs : List Fld) (bs : Txt), r = .agg [.int .i64 st, vf, w] ∧ SlR h' 2 vf (fldRows fs) ∧ fs.length ≤ 20 ∧ FldT fs ∧ SlR h' 1 w (strRows bs) ∧ bs.length ≤ 60 ∧ Ext h h' := by
  refine icalls (.of ok16) (Nat.le_of_ble_eq_true rfl) ?_
  unfold c16
  simp (disch := (first | omega | assumption | (simp only [push_n, set_n, put_n, List.length_cons, List.length_nil, List.length_append, Nat.reduceAdd]; done) | (simp only [push_n, set_n, put_n, List.length_cons, List.length_nil, List.length_append]; omega) | (simp only [List.all_cons, List.all_nil, one_bool, one_int, one_str, one_ptr, one_nilptr, one_slice, one_eslice, one_nilslice, one_func, one_iface, one_niliface, Bool.and_true, Bool.true_and, List.getD_cons_zero, List.getD_cons_succ, List.contains_cons, List.contains_nil, Bool.or_true, Bool.true_or, Bool.or_false, Bool.false_or, Nat.reduceBEq, *]; done) | fail)) only [go_sem, Hold.p, HoldK.k, HoldL.K, HoldL.body, Nat.reduceBEq, Nat.reduceAdd, reduceIte]
  generalize hq_g0 : IH.push h (repObj 0 .nilslice .nilslice) = g0
  have e_g0 : Ext h g0 := by rw [← hq_g0]; exact (Ext.refl _).push _
  have l_g0 : g0.n = h.n + 1 := by rw [← hq_g0]; rfl
  have b0 : At g0 h.n (repObj 0 .nilslice .nilslice) := by rw [← hq_g0]; exact At.new _ _
  clear hq_g0
  have hs := hs.ext e_g0
  try simp (disch := (first | omega | assumption | (simp only [push_n, set_n, put_n, List.length_cons, List.length_nil, List.length_append, Nat.reduceAdd]; done) | (simp only [push_n, set_n, put_n, List.length_cons, List.length_nil, List.length_append]; omega) | (simp only [List.all_cons, List.all_nil, one_bool, one_int, one_str, one_ptr, one_nilptr, one_slice, one_eslice, one_nilslice, one_func, one_iface, one_niliface, Bool.and_true, Bool.true_and, List.getD_cons_zero, List.getD_cons_succ, List.contains_cons, List.contains_nil, Bool.or_true, Bool.true_or, Bool.or_false, Bool.false_or, Nat.reduceBEq, *]; done) | fail)) only [go_sem, Hold.p, HoldK.k, HoldL.K, HoldL.body, Nat.reduceBEq, Nat.reduceAdd, reduceIte]
  refine callA_of (l01Begin_c g0 v code hs hl) ?_
  rintro r g ⟨st, rfl, E⟩
  have hv1 := hs.one
  have hEg := E.le
  simp (disch := (first | omega | assumption | (simp only [push_n, set_n, put_n, List.length_cons, List.length_nil, List.length_append, Nat.reduceAdd]; done) | (simp only [push_n, set_n, put_n, List.length_cons, List.length_nil, List.length_append]; omega) | (simp only [List.all_cons, List.all_nil, one_bool, one_int, one_str, one_ptr, one_nilptr, one_slice, one_eslice, one_nilslice, one_func, one_iface, one_niliface, Bool.and_true, Bool.true_and, List.getD_cons_zero, List.getD_cons_succ, List.contains_cons, List.contains_nil, Bool.or_true, Bool.true_or, Bool.or_false, Bool.false_or, Nat.reduceBEq, *]; done) | fail)) only [hv1, go_sem, Hold.p, HoldK.k, HoldL.K, HoldL.body, Nat.reduceBEq, Nat.reduceAdd, reduceIte]
  generalize hq_g1 : IH.push g (IObj.rows [[v, .int .i64 0, .int .u64 st]] 95 3 false) = g1
  have e_g1 : Ext g g1 := by rw [← hq_g1]; exact (Ext.refl _).push _
  have l_g1 : g1.n = g.n + 1 := by rw [← hq_g1]; rfl
  have b1 : At g1 g.n (IObj.rows [[v, .int .i64 0, .int .u64 st]] 95 3 false) := by rw [← hq_g1]; exact At.new _ _
  clear hq_g1
  have E := E.ext e_g1
  have S : Src g1 g.n v code := ⟨⟨0, st, b1, by omega, by omega⟩, hs.ext E, fun l i n hv => by have := hs.lt l i n hv; omega⟩
  have b0 := b0.ext E
  try simp (disch := (first | omega | assumption | (simp only [push_n, set_n, put_n, List.length_cons, List.length_nil, List.length_append, Nat.reduceAdd]; done) | (simp only [push_n, set_n, put_n, List.length_cons, List.length_nil, List.length_append]; omega) | (simp only [List.all_cons, List.all_nil, one_bool, one_int, one_str, one_ptr, one_nilptr, one_slice, one_eslice, one_nilslice, one_func, one_iface, one_niliface, Bool.and_true, Bool.true_and, List.getD_cons_zero, List.getD_cons_succ, List.contains_cons, List.contains_nil, Bool.or_true, Bool.true_or, Bool.or_false, Bool.false_or, Nat.reduceBEq, *]; done) | fail)) only [go_sem, Hold.p, HoldK.k, HoldL.K, HoldL.body, Nat.reduceBEq, Nat.reduceAdd, reduceIte]
  refine callA_of (l01Next_c g1 g.n v code 300 S (by omega) (by omega) hl) ?_
  rintro r g2 ⟨x, rfl, x0, x1, S2, V2, hn2⟩
  have w1 : wr .i64 (200 + x) = 200 + x := wr64 _ (by omega)
  simp (disch := (first | omega | assumption | (simp only [push_n, set_n, put_n, List.length_cons, List.length_nil, List.length_append, Nat.reduceAdd]; done) | (simp only [push_n, set_n, put_n, List.length_cons, List.length_nil, List.length_append]; omega) | (simp only [List.all_cons, List.all_nil, one_bool, one_int, one_str, one_ptr, one_nilptr, one_slice, one_eslice, one_nilslice, one_func, one_iface, one_niliface, Bool.and_true, Bool.true_and, List.getD_cons_zero, List.getD_cons_succ, List.contains_cons, List.contains_nil, Bool.or_true, Bool.true_or, Bool.or_false, Bool.false_or, Nat.reduceBEq, *]; done) | fail)) only [w1, go_sem, Hold.p, HoldK.k, HoldL.K, HoldL.body, Nat.reduceBEq, Nat.reduceAdd, reduceIte]
  refine callA_of (l20Fields_c g2 g.n v .nilslice code [] S2 (SlR.nil _ _) (fun _ _ _ h => by cases h) hl (by simp) (by omega)) ?_
  rintro r g3 ⟨fs, o3, hfl, hT, S3, V3⟩
  have hle3 := V3.le
  simp (disch := (first | omega | assumption | (simp only [push_n, set_n, put_n, List.length_cons, List.length_nil, List.length_append, Nat.reduceAdd]; done) | (simp only [push_n, set_n, put_n, List.length_cons, List.length_nil, List.length_append]; omega) | (simp only [List.all_cons, List.all_nil, one_bool, one_int, one_str, one_ptr, one_nilptr, one_slice, one_eslice, one_nilslice, one_func, one_iface, one_niliface, Bool.and_true, Bool.true_and, List.getD_cons_zero, List.getD_cons_succ, List.contains_cons, List.contains_nil, Bool.or_true, Bool.true_or, Bool.or_false, Bool.false_or, Nat.reduceBEq, *]; done) | fail)) only [go_sem, Hold.p, HoldK.k, HoldL.K, HoldL.body, Nat.reduceBEq, Nat.reduceAdd, reduceIte]
  refine callA_of (l20Bend_c g3 g.n v r code fs S3 o3.sl hT (by omega) hl (by omega)) ?_
  rintro vf g4 ⟨fs', hF, hfl', hT', S4, V4⟩
  have hle4 := V4.le
  simp (disch := (first | omega | assumption | (simp only [push_n, set_n, put_n, List.length_cons, List.length_nil, List.length_append, Nat.reduceAdd]; done) | (simp only [push_n, set_n, put_n, List.length_cons, List.length_nil, List.length_append]; omega) | (simp only [List.all_cons, List.all_nil, one_bool, one_int, one_str, one_ptr, one_nilptr, one_slice, one_eslice, one_nilslice, one_func, one_iface, one_niliface, Bool.and_true, Bool.true_and, List.getD_cons_zero, List.getD_cons_succ, List.contains_cons, List.contains_nil, Bool.or_true, Bool.true_or, Bool.or_false, Bool.false_or, Nat.reduceBEq, *]; done) | fail)) only [go_sem, Hold.p, HoldK.k, HoldL.K, HoldL.body, Nat.reduceBEq, Nat.reduceAdd, reduceIte]
  refine callA_of (l20Body_c g4 g.n v code S4 hl (by omega)) ?_
  rintro w g5 ⟨bs, ob, hbl, S5, V5⟩
  have hF := V5.sl hF (S4.slNe hF (by decide))
  have hw := ob.sl
  have vf1 := hF.one
  have wo := hw.one
  have hle5 := V5.le
  have V := ((V2.trans V3).trans V4).trans V5
  have b0 := b0.sav V (by omega)
  have E5 : Ext h g5 := (e_g0.trans E).sav V (by omega)
  simp (disch := (first | omega | assumption | (simp only [push_n, set_n, put_n, List.length_cons, List.length_nil, List.length_append, Nat.reduceAdd]; done) | (simp only [push_n, set_n, put_n, List.length_cons, List.length_nil, List.length_append]; omega) | (simp only [List.all_cons, List.all_nil, one_bool, one_int, one_str, one_ptr, one_nilptr, one_slice, one_eslice, one_nilslice, one_func, one_iface, one_niliface, Bool.and_true, Bool.true_and, List.getD_cons_zero, List.getD_cons_succ, List.contains_cons, List.contains_nil, Bool.or_true, Bool.true_or, Bool.or_false, Bool.false_or, Nat.reduceBEq, *]; done) | fail)) only [vf1, wo, go_sem, Hold.p, HoldK.k, HoldL.K, HoldL.body, Nat.reduceBEq, Nat.reduceAdd, reduceIte]
  generalize hq_g6 : IH.push g5 (repObj (200 + x) vf w) = g6
  have e_g6 : Ext g5 g6 := by rw [← hq_g6]; exact (Ext.refl _).push _
  have l_g6 : g6.n = g5.n + 1 := by rw [← hq_g6]; rfl
  have b6 : At g6 g5.n (repObj (200 + x) vf w) := by rw [← hq_g6]; exact At.new _ _
  clear hq_g6
  have E5 := E5.ext e_g6
  have S5 := S5.ext e_g6
  have b0 := b0.ext e_g6
  have hF := hF.ext e_g6
  have hw := hw.ext e_g6
  try simp (disch := (first | omega | assumption | (simp only [push_n, set_n, put_n, List.length_cons, List.length_nil, List.length_append, Nat.reduceAdd]; done) | (simp only [push_n, set_n, put_n, List.length_cons, List.length_nil, List.length_append]; omega) | (simp only [List.all_cons, List.all_nil, one_bool, one_int, one_str, one_ptr, one_nilptr, one_slice, one_eslice, one_nilslice, one_func, one_iface, one_niliface, Bool.and_true, Bool.true_and, List.getD_cons_zero, List.getD_cons_succ, List.contains_cons, List.contains_nil, Bool.or_true, Bool.true_or, Bool.or_false, Bool.false_or, Nat.reduceBEq, *]; done) | fail)) only [go_sem, Hold.p, HoldK.k, HoldL.K, HoldL.body, Nat.reduceBEq, Nat.reduceAdd, reduceIte]
  refine callA_of (l01Next_c g6 g.n v code 8 S5 (by omega) (by omega) hl) ?_
  rintro r g7 ⟨y, rfl, y0, y1, S7, V7, hn7⟩
  have b0 := b0.sav V7 (by omega)
  have b6 := b6.sav V7 (by omega)
  have hF := V7.sl hF (S5.slNe hF (by decide))
  have hw := V7.sl hw (S5.slNe hw (by decide))
  have E7 : Ext h g7 := E5.sav V7 (by have := b0.lt; omega)
  have hg5 := b6.lt
  have q0 := b0.eq
  have q6 := b6.eq
  have vf1 := hF.one
  have vf2 := hF.cells
  have wo := hw.one
  simp (disch := (first | omega | assumption | (simp only [push_n, set_n, put_n, List.length_cons, List.length_nil, List.length_append, Nat.reduceAdd]; done) | (simp only [push_n, set_n, put_n, List.length_cons, List.length_nil, List.length_append]; omega) | (simp only [List.all_cons, List.all_nil, one_bool, one_int, one_str, one_ptr, one_nilptr, one_slice, one_eslice, one_nilslice, one_func, one_iface, one_niliface, Bool.and_true, Bool.true_and, List.getD_cons_zero, List.getD_cons_succ, List.contains_cons, List.contains_nil, Bool.or_true, Bool.true_or, Bool.or_false, Bool.false_or, Nat.reduceBEq, *]; done) | fail)) only [go_sem, Hold.p, HoldK.k, HoldL.K, HoldL.body, Nat.reduceBEq, Nat.reduceAdd, reduceIte]
  refine test_dec (fun hb => ?_) (fun hb => ?_)
  · simp (disch := (first | omega | assumption | (simp only [push_n, set_n, put_n, List.length_cons, List.length_nil, List.length_append, Nat.reduceAdd]; done) | (simp only [push_n, set_n, put_n, List.length_cons, List.length_nil, List.length_append]; omega) | (simp only [List.all_cons, List.all_nil, one_bool, one_int, one_str, one_ptr, one_nilptr, one_slice, one_eslice, one_nilslice, one_func, one_iface, one_niliface, Bool.and_true, Bool.true_and, List.getD_cons_zero, List.getD_cons_succ, List.contains_cons, List.contains_nil, Bool.or_true, Bool.true_or, Bool.or_false, Bool.false_or, Nat.reduceBEq, *]; done) | fail)) only [go_sem, Hold.p, HoldK.k, HoldL.K, HoldL.body, Nat.reduceBEq, Nat.reduceAdd, reduceIte]
    refine bslA_of (rows := stRows) (by decide) rfl (by decide) ?_
    simp (disch := (first | omega | assumption | (simp only [push_n, set_n, put_n, List.length_cons, List.length_nil, List.length_append, Nat.reduceAdd]; done) | (simp only [push_n, set_n, put_n, List.length_cons, List.length_nil, List.length_append]; omega) | (simp only [List.all_cons, List.all_nil, one_bool, one_int, one_str, one_ptr, one_nilptr, one_slice, one_eslice, one_nilslice, one_func, one_iface, one_niliface, Bool.and_true, Bool.true_and, List.getD_cons_zero, List.getD_cons_succ, List.contains_cons, List.contains_nil, Bool.or_true, Bool.true_or, Bool.or_false, Bool.false_or, Nat.reduceBEq, *]; done) | fail)) only [go_sem, Hold.p, HoldK.k, HoldL.K, HoldL.body, Nat.reduceBEq, Nat.reduceAdd, reduceIte]
    generalize hq_g8 : IH.push g7 (IObj.rows stRows 2 1 false) = g8
    have e_g8 : Ext g7 g8 := by rw [← hq_g8]; exact (Ext.refl _).push _
    have l_g8 : g8.n = g7.n + 1 := by rw [← hq_g8]; rfl
    have b8 : At g8 g7.n (IObj.rows stRows 2 1 false) := by rw [← hq_g8]; exact At.new _ _
    clear hq_g8
    have S7 := S7.ext e_g8
    have b0 := b0.ext e_g8
    have b6 := b6.ext e_g8
    have hF := hF.ext e_g8
    have hw := hw.ext e_g8
    have E7 := E7.ext e_g8
    refine callA_of (l01Next_c g8 g.n v code 4 S7 (by omega) (by omega) hl) ?_
    rintro r g9 ⟨z, rfl, z0, z1, S9, V9, hn9⟩
    have b8 := b8.sav V9 (by omega)
    have b0 := b0.sav V9 (by omega)
    have b6 := b6.sav V9 (by omega)
    have hF := V9.sl hF (S7.slNe hF (by decide))
    have hw := V9.sl hw (S7.slNe hw (by decide))
    have E9 : Ext h g9 := E7.sav V9 (by omega)
    obtain ⟨z, rfl⟩ : ∃ m : Nat, z = (m : Int) := ⟨z.toNat, by omega⟩
    have hz : z < 4 := by omega
    obtain ⟨u, hu⟩ : ∃ u : Int, stRows[z]? = some [.int .i64 u] := by
      match z, hz with
      | 0, _ | 1, _ | 2, _ | 3, _ => exact ⟨_, rfl⟩
    have hia : iadrF g9 1 (.slice g7.n 0 4) (.int .i64 (z : Int)) = some (.ptr g7.n z 0) := by
      rw [iadrF_nat hz (by rw [b8.eq]; rfl), Nat.zero_add]
    have hcc : cellO (g9.obj g7.n) z 0 = some (.int .i64 u) := by
      rw [b8.eq]
      show (_ : Option (List IV)).bind _ = _
      rw [hu]; rfl
    have q0 := b0.eq
    have q6 := b6.eq
    simp (disch := (first | omega | assumption | (simp only [push_n, set_n, put_n, List.length_cons, List.length_nil, List.length_append, Nat.reduceAdd]; done) | (simp only [push_n, set_n, put_n, List.length_cons, List.length_nil, List.length_append]; omega) | (simp only [List.all_cons, List.all_nil, one_bool, one_int, one_str, one_ptr, one_nilptr, one_slice, one_eslice, one_nilslice, one_func, one_iface, one_niliface, Bool.and_true, Bool.true_and, List.getD_cons_zero, List.getD_cons_succ, List.contains_cons, List.contains_nil, Bool.or_true, Bool.true_or, Bool.or_false, Bool.false_or, Nat.reduceBEq, *]; done) | fail)) only [hia, hcc, q0, q6, vf1, wo, go_sem, Hold.p, HoldK.k, HoldL.K, HoldL.body, Nat.reduceBEq, Nat.reduceAdd, reduceIte]
    have b0' : At (g9.set g5.n (repObj u vf w)) h.n (repObj 0 .nilslice .nilslice) := b0.set (by omega)
    exact ⟨u, vf, w, fs', bs, rfl, (hF.setp b6 (by decide) _).setp b0' (by decide) _, hfl', hT', (hw.setp b6 (by decide) (repObj u vf w)).setp b0' (by decide) _, hbl, (E9.set1 _ (by omega)).set1 _ (Nat.le_refl _)⟩
  · simp (disch := (first | omega | assumption | (simp only [push_n, set_n, put_n, List.length_cons, List.length_nil, List.length_append, Nat.reduceAdd]; done) | (simp only [push_n, set_n, put_n, List.length_cons, List.length_nil, List.length_append]; omega) | (simp only [List.all_cons, List.all_nil, one_bool, one_int, one_str, one_ptr, one_nilptr, one_slice, one_eslice, one_nilslice, one_func, one_iface, one_niliface, Bool.and_true, Bool.true_and, List.getD_cons_zero, List.getD_cons_succ, List.contains_cons, List.contains_nil, Bool.or_true, Bool.true_or, Bool.or_false, Bool.false_or, Nat.reduceBEq, *]; done) | fail)) only [q0, q6, vf1, wo, go_sem, Hold.p, HoldK.k, HoldL.K, HoldL.body, Nat.reduceBEq, Nat.reduceAdd, reduceIte]
    exact ⟨200 + x, vf, w, fs', bs, rfl, hF.setp b0 (by decide) _, hfl', hT', hw.setp b0 (by decide) _, hbl, E7.set1 _ (Nat.le_refl _)⟩
end
end Go.Proofs.YtdpaehdolhdjdaaGreatDoor

set_option maxRecDepth 20000
namespace Go.Proofs.YtdpaehdolhdjdaaGreatDoor
open Go Go.IW
section
attribute [local go_sem] List.getElem?_cons_zero List.getElem?_cons_succ Option.bind_some List.map_cons List.map_nil Nat.zero_add if_true List.getD_cons_zero List.getD_cons_succ List.contains_cons List.contains_nil Bool.or_true Bool.true_or Bool.or_false Bool.false_or Bool.not_true Bool.not_false true_and and_true rowA_whole mid_get stO_mid rowO_rows cellO_rows push_n set_n push_at push_old set_here set_there set_pushT set_pushN set_set upd_ne Nat.add_assoc Nat.add_zero stO_1s stO_ws boxA_s List.all_cons List.all_nil one_bool one_int one_str one_ptr one_nilptr one_slice one_eslice one_nilslice one_func one_iface one_niliface Bool.and_true Bool.and_self List.length_cons List.length_nil Nat.one_ne_zero Nat.succ_ne_zero if_false List.set_cons_zero List.set_cons_succ lay_nil lay_1 lay_w Option.map_some

/-- A drawn request in its box. -/
def ReqJ (h : IH) (v : IV) (code : Txt) (p q : Nat) (e : Env) (g : IH) : Prop := ∃ (vb pa : Txt) (vf w : IV) (fs : List Fld) (bs : Txt), e 2 = .ptr h.n 0 0 ∧ e 3 = .ptr p 0 0 ∧ e 4 = .ptr q 0 0 ∧ vb.length ≤ 10 ∧ pa.length ≤ 300 ∧ SlR g 2 vf (fldRows fs) ∧ fs.length ≤ 20 ∧ FldT fs ∧ SlR g 1 w (strRows bs) ∧ bs.length ≤ 60001 ∧
  At g h.n (reqObj [] [] .nilslice .nilslice) ∧ At g q (reqObj vb pa vf w) ∧ Src g p v code ∧ Ext h g
theorem draw_set {h g : IH} {v : IV} {code : Txt} {p q : Nat} {vb pa vb' pa' : Txt} {vf w w' : IV} {fs : List Fld} {bs' : Txt} {e : Env} (hp : h.n < p) (hq : p < q) (i2 : e 2 = .ptr h.n 0 0) (i3 : e 3 = .ptr p 0 0) (i4 : e 4 = .ptr q 0 0) (l1 : vb'.length ≤ 10) (l2 : pa'.length ≤ 300) (hF : SlR g 2 vf (fldRows fs)) (hfl : fs.length ≤ 20) (hT : FldT fs) (hw : SlR g 1 w' (strRows bs')) (hbl : bs'.length ≤ 60001)
    (b0 : At g h.n (reqObj [] [] .nilslice .nilslice)) (bq : At g q (reqObj vb pa vf w)) (S : Src g p v code) (E : Ext h g) : ReqJ h v code p q e (g.set q (reqObj vb' pa' vf w')) := by
  refine ⟨vb', pa', vf, w', fs, bs', i2, i3, i4, l1, l2, hF.setp bq (by decide) _, hfl, hT, hw.setp bq (by decide) _, hbl, b0.set (by omega), bq.here, ?_, E.set1 _ (by omega)⟩
  obtain ⟨pos, st, a, b, c⟩ := S.at_
  exact ⟨⟨pos, st, a.set (by omega), b, c⟩, S.sl.setl (fun l i n hv => (S.sl.neAt bq (by decide)) l i n hv) _, S.ne⟩
set_option maxHeartbeats 1000000 in
theorem drawReq_c (h : IH) (v : IV) (code : Txt) (hs : SlR h 1 v (strRows code)) (hl : code.length ≤ 1048576) :
    ICalls Tryz.prog 10 [v] h fun r h' => ∃ (vb pa : Txt) (vf w : IV) (fs : List Fld) (bs : Txt), r = .agg [.str vb, .str pa, vf, w] ∧ vb.length ≤ 10 ∧ pa.length ≤ 300 ∧ SlR h' 2 vf (fldRows fs) ∧ fs.length ≤ 20 ∧ FldT fs ∧ SlR h' 1 w (strRows bs) ∧ bs.length ≤ 60001 ∧ Ext h h' := by
  refine icalls (.of ok10) (Nat.le_of_ble_eq_true rfl) ?_
  unfold c10
  refine vc_split 4 (fun e g => ∃ p q, h.n < p ∧ p < q ∧ ReqJ h v code p q e g) ?_ ?_
  · simp only [CC.split]
    simp (disch := (first | omega | assumption | (simp only [push_n, set_n, put_n, List.length_cons, List.length_nil, List.length_append, Nat.reduceAdd]; done) | (simp only [push_n, set_n, put_n, List.length_cons, List.length_nil, List.length_append]; omega) | (simp only [List.all_cons, List.all_nil, one_bool, one_int, one_str, one_ptr, one_nilptr, one_slice, one_eslice, one_nilslice, one_func, one_iface, one_niliface, Bool.and_true, Bool.true_and, List.getD_cons_zero, List.getD_cons_succ, List.contains_cons, List.contains_nil, Bool.or_true, Bool.true_or, Bool.or_false, Bool.false_or, Nat.reduceBEq, *]; done) | fail)) only [go_sem, Hold.p, HoldK.k, HoldL.K, HoldL.body, Nat.reduceBEq, Nat.reduceAdd, reduceIte]
    generalize hq_g0 : IH.push h (reqObj [] [] .nilslice .nilslice) = g0
    have e_g0 : Ext h g0 := by rw [← hq_g0]; exact (Ext.refl _).push _
    have l_g0 : g0.n = h.n + 1 := by rw [← hq_g0]; rfl
    have b0 : At g0 h.n (reqObj [] [] .nilslice .nilslice) := by rw [← hq_g0]; exact At.new _ _
    clear hq_g0
    have hs := hs.ext e_g0
    try simp (disch := (first | omega | assumption | (simp only [push_n, set_n, put_n, List.length_cons, List.length_nil, List.length_append, Nat.reduceAdd]; done) | (simp only [push_n, set_n, put_n, List.length_cons, List.length_nil, List.length_append]; omega) | (simp only [List.all_cons, List.all_nil, one_bool, one_int, one_str, one_ptr, one_nilptr, one_slice, one_eslice, one_nilslice, one_func, one_iface, one_niliface, Bool.and_true, Bool.true_and, List.getD_cons_zero, List.getD_cons_succ, List.contains_cons, List.contains_nil, Bool.or_true, Bool.true_or, Bool.or_false, Bool.false_or, Nat.reduceBEq, *]; done) | fail)) only [go_sem, Hold.p, HoldK.k, HoldL.K, HoldL.body, Nat.reduceBEq, Nat.reduceAdd, reduceIte]
    refine callA_of (l01Begin_c g0 v code hs hl) ?_
    rintro r g ⟨st, rfl, E⟩
    have hv1 := hs.one
    have hEg := E.le
    simp (disch := (first | omega | assumption | (simp only [push_n, set_n, put_n, List.length_cons, List.length_nil, List.length_append, Nat.reduceAdd]; done) | (simp only [push_n, set_n, put_n, List.length_cons, List.length_nil, List.length_append]; omega) | (simp only [List.all_cons, List.all_nil, one_bool, one_int, one_str, one_ptr, one_nilptr, one_slice, one_eslice, one_nilslice, one_func, one_iface, one_niliface, Bool.and_true, Bool.true_and, List.getD_cons_zero, List.getD_cons_succ, List.contains_cons, List.contains_nil, Bool.or_true, Bool.true_or, Bool.or_false, Bool.false_or, Nat.reduceBEq, *]; done) | fail)) only [hv1, go_sem, Hold.p, HoldK.k, HoldL.K, HoldL.body, Nat.reduceBEq, Nat.reduceAdd, reduceIte]
    generalize hq_g1 : IH.push g (IObj.rows [[v, .int .i64 0, .int .u64 st]] 95 3 false) = g1
    have e_g1 : Ext g g1 := by rw [← hq_g1]; exact (Ext.refl _).push _
    have l_g1 : g1.n = g.n + 1 := by rw [← hq_g1]; rfl
    have b1 : At g1 g.n (IObj.rows [[v, .int .i64 0, .int .u64 st]] 95 3 false) := by rw [← hq_g1]; exact At.new _ _
    clear hq_g1
    have E := E.ext e_g1
    have S : Src g1 g.n v code := ⟨⟨0, st, b1, by omega, by omega⟩, hs.ext E, fun l i n hv => by have := hs.lt l i n hv; omega⟩
    have b0 := b0.ext E
    try simp (disch := (first | omega | assumption | (simp only [push_n, set_n, put_n, List.length_cons, List.length_nil, List.length_append, Nat.reduceAdd]; done) | (simp only [push_n, set_n, put_n, List.length_cons, List.length_nil, List.length_append]; omega) | (simp only [List.all_cons, List.all_nil, one_bool, one_int, one_str, one_ptr, one_nilptr, one_slice, one_eslice, one_nilslice, one_func, one_iface, one_niliface, Bool.and_true, Bool.true_and, List.getD_cons_zero, List.getD_cons_succ, List.contains_cons, List.contains_nil, Bool.or_true, Bool.true_or, Bool.or_false, Bool.false_or, Nat.reduceBEq, *]; done) | fail)) only [go_sem, Hold.p, HoldK.k, HoldL.K, HoldL.body, Nat.reduceBEq, Nat.reduceAdd, reduceIte]
    refine callA_of (l20Request_c g1 g.n v code S hl (by omega)) ?_
    rintro r g2 ⟨vb, pa, vf, w, fs, bs, rfl, l1, l2, hF, hfl, hT, hw, hbl, S2, V2⟩
    have hle2 := V2.le
    have b0 := b0.sav V2 (by omega)
    have E2 : Ext h g2 := (e_g0.trans E).sav V2 (by omega)
    have vf1 := hF.one
    have wo := hw.one
    simp (disch := (first | omega | assumption | (simp only [push_n, set_n, put_n, List.length_cons, List.length_nil, List.length_append, Nat.reduceAdd]; done) | (simp only [push_n, set_n, put_n, List.length_cons, List.length_nil, List.length_append]; omega) | (simp only [List.all_cons, List.all_nil, one_bool, one_int, one_str, one_ptr, one_nilptr, one_slice, one_eslice, one_nilslice, one_func, one_iface, one_niliface, Bool.and_true, Bool.true_and, List.getD_cons_zero, List.getD_cons_succ, List.contains_cons, List.contains_nil, Bool.or_true, Bool.true_or, Bool.or_false, Bool.false_or, Nat.reduceBEq, *]; done) | fail)) only [vf1, wo, go_sem, Hold.p, HoldK.k, HoldL.K, HoldL.body, Nat.reduceBEq, Nat.reduceAdd, reduceIte]
    generalize hq_g3 : IH.push g2 (reqObj vb pa vf w) = g3
    have e_g3 : Ext g2 g3 := by rw [← hq_g3]; exact (Ext.refl _).push _
    have l_g3 : g3.n = g2.n + 1 := by rw [← hq_g3]; rfl
    have b3 : At g3 g2.n (reqObj vb pa vf w) := by rw [← hq_g3]; exact At.new _ _
    clear hq_g3
    have E2 := E2.ext e_g3
    have S2 := S2.ext e_g3
    have b0 := b0.ext e_g3
    have hF := hF.ext e_g3
    have hw := hw.ext e_g3
    have q3 := b3.eq
    try simp (disch := (first | omega | assumption | (simp only [push_n, set_n, put_n, List.length_cons, List.length_nil, List.length_append, Nat.reduceAdd]; done) | (simp only [push_n, set_n, put_n, List.length_cons, List.length_nil, List.length_append]; omega) | (simp only [List.all_cons, List.all_nil, one_bool, one_int, one_str, one_ptr, one_nilptr, one_slice, one_eslice, one_nilslice, one_func, one_iface, one_niliface, Bool.and_true, Bool.true_and, List.getD_cons_zero, List.getD_cons_succ, List.contains_cons, List.contains_nil, Bool.or_true, Bool.true_or, Bool.or_false, Bool.false_or, Nat.reduceBEq, *]; done) | fail)) only [q3, go_sem, Hold.p, HoldK.k, HoldL.K, HoldL.body, Nat.reduceBEq, Nat.reduceAdd, reduceIte]
    refine callA_of (l20Bend_c g3 g.n v vf code fs S2 hF hT (by omega) hl (by omega)) ?_
    rintro r g4 ⟨fs', hF', hfl', hT', S4, V4⟩
    have hle4 := V4.le
    have b0 := b0.sav V4 (by omega)
    have b3 := b3.sav V4 (by omega)
    have hF := V4.sl hF (S2.slNe hF (by decide))
    have hw := V4.sl hw (S2.slNe hw (by decide))
    have E4 : Ext h g4 := E2.sav V4 (by omega)
    have r1 := hF'.one
    have r2 := hF'.cells
    have q3 := b3.eq
    simp (disch := (first | omega | assumption | (simp only [push_n, set_n, put_n, List.length_cons, List.length_nil, List.length_append, Nat.reduceAdd]; done) | (simp only [push_n, set_n, put_n, List.length_cons, List.length_nil, List.length_append]; omega) | (simp only [List.all_cons, List.all_nil, one_bool, one_int, one_str, one_ptr, one_nilptr, one_slice, one_eslice, one_nilslice, one_func, one_iface, one_niliface, Bool.and_true, Bool.true_and, List.getD_cons_zero, List.getD_cons_succ, List.contains_cons, List.contains_nil, Bool.or_true, Bool.true_or, Bool.or_false, Bool.false_or, Nat.reduceBEq, *]; done) | fail)) only [q3, r1, r2, go_sem, Hold.p, HoldK.k, HoldL.K, HoldL.body, Nat.reduceBEq, Nat.reduceAdd, reduceIte]
    refine ⟨g.n, g2.n, by omega, by omega, vb, pa, r, w, fs', bs, by simp (disch := (first | omega | assumption | (simp only [push_n, set_n, put_n, List.length_cons, List.length_nil, List.length_append, Nat.reduceAdd]; done) | (simp only [push_n, set_n, put_n, List.length_cons, List.length_nil, List.length_append]; omega) | (simp only [List.all_cons, List.all_nil, one_bool, one_int, one_str, one_ptr, one_nilptr, one_slice, one_eslice, one_nilslice, one_func, one_iface, one_niliface, Bool.and_true, Bool.true_and, List.getD_cons_zero, List.getD_cons_succ, List.contains_cons, List.contains_nil, Bool.or_true, Bool.true_or, Bool.or_false, Bool.false_or, Nat.reduceBEq, *]; done) | fail)) only [go_sem, Hold.p, HoldK.k, HoldL.K, HoldL.body, Nat.reduceBEq, Nat.reduceAdd, reduceIte], by simp (disch := (first | omega | assumption | (simp only [push_n, set_n, put_n, List.length_cons, List.length_nil, List.length_append, Nat.reduceAdd]; done) | (simp only [push_n, set_n, put_n, List.length_cons, List.length_nil, List.length_append]; omega) | (simp only [List.all_cons, List.all_nil, one_bool, one_int, one_str, one_ptr, one_nilptr, one_slice, one_eslice, one_nilslice, one_func, one_iface, one_niliface, Bool.and_true, Bool.true_and, List.getD_cons_zero, List.getD_cons_succ, List.contains_cons, List.contains_nil, Bool.or_true, Bool.true_or, Bool.or_false, Bool.false_or, Nat.reduceBEq, *]; done) | fail)) only [go_sem, Hold.p, HoldK.k, HoldL.K, HoldL.body, Nat.reduceBEq, Nat.reduceAdd, reduceIte], by simp (disch := (first | omega | assumption | (simp only [push_n, set_n, put_n, List.length_cons, List.length_nil, List.length_append, Nat.reduceAdd]; done) | (simp only [push_n, set_n, put_n, List.length_cons, List.length_nil, List.length_append]; omega) | (simp only [List.all_cons, List.all_nil, one_bool, one_int, one_str, one_ptr, one_nilptr, one_slice, one_eslice, one_nilslice, one_func, one_iface, one_niliface, Bool.and_true, Bool.true_and, List.getD_cons_zero, List.getD_cons_succ, List.contains_cons, List.contains_nil, Bool.or_true, Bool.true_or, Bool.or_false, Bool.false_or, Nat.reduceBEq, *]; done) | fail)) only [go_sem, Hold.p, HoldK.k, HoldL.K, HoldL.body, Nat.reduceBEq, Nat.reduceAdd, reduceIte], by omega, by omega, hF'.setp b3 (by decide) _, hfl', hT', hw.setp b3 (by decide) _, by omega, b0.set (by omega), b3.here, ?_, E4.set1 _ (by omega)⟩
    obtain ⟨pos, st, a, b, c⟩ := S4.at_
    exact ⟨⟨pos, st, a.set (by omega), b, c⟩, S4.sl.setl (fun l i n hv => (S4.sl.neAt b3 (by decide)) l i n hv) _, S4.ne⟩
  rintro e g ⟨p, q, hp, hq, vb, pa, vf, w, fs, bs, i2, i3, i4, l1, l2, hF, hfl, hT, hw, hbl, b0, bq, S, E⟩
  simp only [CC.split]
  have hqn := bq.lt
  refine vc_split 1 (fun e g => ReqJ h v code p q e g) ?_ ?_
  · simp only [CC.split]
    simp (disch := (first | omega | assumption | (simp only [push_n, set_n, put_n, List.length_cons, List.length_nil, List.length_append, Nat.reduceAdd]; done) | (simp only [push_n, set_n, put_n, List.length_cons, List.length_nil, List.length_append]; omega) | (simp only [List.all_cons, List.all_nil, one_bool, one_int, one_str, one_ptr, one_nilptr, one_slice, one_eslice, one_nilslice, one_func, one_iface, one_niliface, Bool.and_true, Bool.true_and, List.getD_cons_zero, List.getD_cons_succ, List.contains_cons, List.contains_nil, Bool.or_true, Bool.true_or, Bool.or_false, Bool.false_or, Nat.reduceBEq, *]; done) | fail)) only [i3, go_sem, Hold.p, HoldK.k, HoldL.K, HoldL.body, Nat.reduceBEq, Nat.reduceAdd, reduceIte]
    refine callA_of (l01Next_c g p v code 20 S (by omega) (by omega) hl) ?_
    rintro r g1 ⟨y, rfl, y0, y1, S1, V1, hn1⟩
    have b0 := b0.sav V1 (by omega)
    have bq := bq.sav V1 (by omega)
    have hF := V1.sl hF (S.slNe hF (by decide))
    have hw := V1.sl hw (S.slNe hw (by decide))
    have E1 : Ext h g1 := E.sav V1 (by omega)
    have qq := bq.eq
    simp (disch := (first | omega | assumption | (simp only [push_n, set_n, put_n, List.length_cons, List.length_nil, List.length_append, Nat.reduceAdd]; done) | (simp only [push_n, set_n, put_n, List.length_cons, List.length_nil, List.length_append]; omega) | (simp only [List.all_cons, List.all_nil, one_bool, one_int, one_str, one_ptr, one_nilptr, one_slice, one_eslice, one_nilslice, one_func, one_iface, one_niliface, Bool.and_true, Bool.true_and, List.getD_cons_zero, List.getD_cons_succ, List.contains_cons, List.contains_nil, Bool.or_true, Bool.true_or, Bool.or_false, Bool.false_or, Nat.reduceBEq, *]; done) | fail)) only [go_sem, Hold.p, HoldK.k, HoldL.K, HoldL.body, Nat.reduceBEq, Nat.reduceAdd, reduceIte]
    refine test_dec (fun hb => ?_) (fun hb => ?_)
    · simp (disch := (first | omega | assumption | (simp only [push_n, set_n, put_n, List.length_cons, List.length_nil, List.length_append, Nat.reduceAdd]; done) | (simp only [push_n, set_n, put_n, List.length_cons, List.length_nil, List.length_append]; omega) | (simp only [List.all_cons, List.all_nil, one_bool, one_int, one_str, one_ptr, one_nilptr, one_slice, one_eslice, one_nilslice, one_func, one_iface, one_niliface, Bool.and_true, Bool.true_and, List.getD_cons_zero, List.getD_cons_succ, List.contains_cons, List.contains_nil, Bool.or_true, Bool.true_or, Bool.or_false, Bool.false_or, Nat.reduceBEq, *]; done) | fail)) only [i4, qq, go_sem, Hold.p, HoldK.k, HoldL.K, HoldL.body, Nat.reduceBEq, Nat.reduceAdd, reduceIte]
      exact draw_set (vb' := [112, 111, 115, 116]) (pa' := pa) hp hq (by simp (disch := (first | omega | assumption | (simp only [push_n, set_n, put_n, List.length_cons, List.length_nil, List.length_append, Nat.reduceAdd]; done) | (simp only [push_n, set_n, put_n, List.length_cons, List.length_nil, List.length_append]; omega) | (simp only [List.all_cons, List.all_nil, one_bool, one_int, one_str, one_ptr, one_nilptr, one_slice, one_eslice, one_nilslice, one_func, one_iface, one_niliface, Bool.and_true, Bool.true_and, List.getD_cons_zero, List.getD_cons_succ, List.contains_cons, List.contains_nil, Bool.or_true, Bool.true_or, Bool.or_false, Bool.false_or, Nat.reduceBEq, *]; done) | fail)) only [i2, go_sem, Hold.p, HoldK.k, HoldL.K, HoldL.body, Nat.reduceBEq, Nat.reduceAdd, reduceIte]) (by simp (disch := (first | omega | assumption | (simp only [push_n, set_n, put_n, List.length_cons, List.length_nil, List.length_append, Nat.reduceAdd]; done) | (simp only [push_n, set_n, put_n, List.length_cons, List.length_nil, List.length_append]; omega) | (simp only [List.all_cons, List.all_nil, one_bool, one_int, one_str, one_ptr, one_nilptr, one_slice, one_eslice, one_nilslice, one_func, one_iface, one_niliface, Bool.and_true, Bool.true_and, List.getD_cons_zero, List.getD_cons_succ, List.contains_cons, List.contains_nil, Bool.or_true, Bool.true_or, Bool.or_false, Bool.false_or, Nat.reduceBEq, *]; done) | fail)) only [i3, go_sem, Hold.p, HoldK.k, HoldL.K, HoldL.body, Nat.reduceBEq, Nat.reduceAdd, reduceIte]) (by simp (disch := (first | omega | assumption | (simp only [push_n, set_n, put_n, List.length_cons, List.length_nil, List.length_append, Nat.reduceAdd]; done) | (simp only [push_n, set_n, put_n, List.length_cons, List.length_nil, List.length_append]; omega) | (simp only [List.all_cons, List.all_nil, one_bool, one_int, one_str, one_ptr, one_nilptr, one_slice, one_eslice, one_nilslice, one_func, one_iface, one_niliface, Bool.and_true, Bool.true_and, List.getD_cons_zero, List.getD_cons_succ, List.contains_cons, List.contains_nil, Bool.or_true, Bool.true_or, Bool.or_false, Bool.false_or, Nat.reduceBEq, *]; done) | fail)) only [i4, go_sem, Hold.p, HoldK.k, HoldL.K, HoldL.body, Nat.reduceBEq, Nat.reduceAdd, reduceIte]) (by simp) l2 hF hfl hT hw hbl b0 bq S1 E1
    simp (disch := (first | omega | assumption | (simp only [push_n, set_n, put_n, List.length_cons, List.length_nil, List.length_append, Nat.reduceAdd]; done) | (simp only [push_n, set_n, put_n, List.length_cons, List.length_nil, List.length_append]; omega) | (simp only [List.all_cons, List.all_nil, one_bool, one_int, one_str, one_ptr, one_nilptr, one_slice, one_eslice, one_nilslice, one_func, one_iface, one_niliface, Bool.and_true, Bool.true_and, List.getD_cons_zero, List.getD_cons_succ, List.contains_cons, List.contains_nil, Bool.or_true, Bool.true_or, Bool.or_false, Bool.false_or, Nat.reduceBEq, *]; done) | fail)) only [go_sem, Hold.p, HoldK.k, HoldL.K, HoldL.body, Nat.reduceBEq, Nat.reduceAdd, reduceIte]
    refine test_dec (fun hb => ?_) (fun hb => ?_)
    · simp (disch := (first | omega | assumption | (simp only [push_n, set_n, put_n, List.length_cons, List.length_nil, List.length_append, Nat.reduceAdd]; done) | (simp only [push_n, set_n, put_n, List.length_cons, List.length_nil, List.length_append]; omega) | (simp only [List.all_cons, List.all_nil, one_bool, one_int, one_str, one_ptr, one_nilptr, one_slice, one_eslice, one_nilslice, one_func, one_iface, one_niliface, Bool.and_true, Bool.true_and, List.getD_cons_zero, List.getD_cons_succ, List.contains_cons, List.contains_nil, Bool.or_true, Bool.true_or, Bool.or_false, Bool.false_or, Nat.reduceBEq, *]; done) | fail)) only [i4, qq, go_sem, Hold.p, HoldK.k, HoldL.K, HoldL.body, Nat.reduceBEq, Nat.reduceAdd, reduceIte]
      exact draw_set (vb' := vb) (pa' := [97]) hp hq (by simp (disch := (first | omega | assumption | (simp only [push_n, set_n, put_n, List.length_cons, List.length_nil, List.length_append, Nat.reduceAdd]; done) | (simp only [push_n, set_n, put_n, List.length_cons, List.length_nil, List.length_append]; omega) | (simp only [List.all_cons, List.all_nil, one_bool, one_int, one_str, one_ptr, one_nilptr, one_slice, one_eslice, one_nilslice, one_func, one_iface, one_niliface, Bool.and_true, Bool.true_and, List.getD_cons_zero, List.getD_cons_succ, List.contains_cons, List.contains_nil, Bool.or_true, Bool.true_or, Bool.or_false, Bool.false_or, Nat.reduceBEq, *]; done) | fail)) only [i2, go_sem, Hold.p, HoldK.k, HoldL.K, HoldL.body, Nat.reduceBEq, Nat.reduceAdd, reduceIte]) (by simp (disch := (first | omega | assumption | (simp only [push_n, set_n, put_n, List.length_cons, List.length_nil, List.length_append, Nat.reduceAdd]; done) | (simp only [push_n, set_n, put_n, List.length_cons, List.length_nil, List.length_append]; omega) | (simp only [List.all_cons, List.all_nil, one_bool, one_int, one_str, one_ptr, one_nilptr, one_slice, one_eslice, one_nilslice, one_func, one_iface, one_niliface, Bool.and_true, Bool.true_and, List.getD_cons_zero, List.getD_cons_succ, List.contains_cons, List.contains_nil, Bool.or_true, Bool.true_or, Bool.or_false, Bool.false_or, Nat.reduceBEq, *]; done) | fail)) only [i3, go_sem, Hold.p, HoldK.k, HoldL.K, HoldL.body, Nat.reduceBEq, Nat.reduceAdd, reduceIte]) (by simp (disch := (first | omega | assumption | (simp only [push_n, set_n, put_n, List.length_cons, List.length_nil, List.length_append, Nat.reduceAdd]; done) | (simp only [push_n, set_n, put_n, List.length_cons, List.length_nil, List.length_append]; omega) | (simp only [List.all_cons, List.all_nil, one_bool, one_int, one_str, one_ptr, one_nilptr, one_slice, one_eslice, one_nilslice, one_func, one_iface, one_niliface, Bool.and_true, Bool.true_and, List.getD_cons_zero, List.getD_cons_succ, List.contains_cons, List.contains_nil, Bool.or_true, Bool.true_or, Bool.or_false, Bool.false_or, Nat.reduceBEq, *]; done) | fail)) only [i4, go_sem, Hold.p, HoldK.k, HoldL.K, HoldL.body, Nat.reduceBEq, Nat.reduceAdd, reduceIte]) l1 (by simp) hF hfl hT hw hbl b0 bq S1 E1
    simp (disch := (first | omega | assumption | (simp only [push_n, set_n, put_n, List.length_cons, List.length_nil, List.length_append, Nat.reduceAdd]; done) | (simp only [push_n, set_n, put_n, List.length_cons, List.length_nil, List.length_append]; omega) | (simp only [List.all_cons, List.all_nil, one_bool, one_int, one_str, one_ptr, one_nilptr, one_slice, one_eslice, one_nilslice, one_func, one_iface, one_niliface, Bool.and_true, Bool.true_and, List.getD_cons_zero, List.getD_cons_succ, List.contains_cons, List.contains_nil, Bool.or_true, Bool.true_or, Bool.or_false, Bool.false_or, Nat.reduceBEq, *]; done) | fail)) only [go_sem, Hold.p, HoldK.k, HoldL.K, HoldL.body, Nat.reduceBEq, Nat.reduceAdd, reduceIte]
    refine test_dec (fun hb => ?_) (fun hb => ?_)
    · simp (disch := (first | omega | assumption | (simp only [push_n, set_n, put_n, List.length_cons, List.length_nil, List.length_append, Nat.reduceAdd]; done) | (simp only [push_n, set_n, put_n, List.length_cons, List.length_nil, List.length_append]; omega) | (simp only [List.all_cons, List.all_nil, one_bool, one_int, one_str, one_ptr, one_nilptr, one_slice, one_eslice, one_nilslice, one_func, one_iface, one_niliface, Bool.and_true, Bool.true_and, List.getD_cons_zero, List.getD_cons_succ, List.contains_cons, List.contains_nil, Bool.or_true, Bool.true_or, Bool.or_false, Bool.false_or, Nat.reduceBEq, *]; done) | fail)) only [i4, qq, go_sem, Hold.p, HoldK.k, HoldL.K, HoldL.body, Nat.reduceBEq, Nat.reduceAdd, reduceIte]
      exact draw_set (vb' := vb) (pa' := [47, 97, 32, 98]) hp hq (by simp (disch := (first | omega | assumption | (simp only [push_n, set_n, put_n, List.length_cons, List.length_nil, List.length_append, Nat.reduceAdd]; done) | (simp only [push_n, set_n, put_n, List.length_cons, List.length_nil, List.length_append]; omega) | (simp only [List.all_cons, List.all_nil, one_bool, one_int, one_str, one_ptr, one_nilptr, one_slice, one_eslice, one_nilslice, one_func, one_iface, one_niliface, Bool.and_true, Bool.true_and, List.getD_cons_zero, List.getD_cons_succ, List.contains_cons, List.contains_nil, Bool.or_true, Bool.true_or, Bool.or_false, Bool.false_or, Nat.reduceBEq, *]; done) | fail)) only [i2, go_sem, Hold.p, HoldK.k, HoldL.K, HoldL.body, Nat.reduceBEq, Nat.reduceAdd, reduceIte]) (by simp (disch := (first | omega | assumption | (simp only [push_n, set_n, put_n, List.length_cons, List.length_nil, List.length_append, Nat.reduceAdd]; done) | (simp only [push_n, set_n, put_n, List.length_cons, List.length_nil, List.length_append]; omega) | (simp only [List.all_cons, List.all_nil, one_bool, one_int, one_str, one_ptr, one_nilptr, one_slice, one_eslice, one_nilslice, one_func, one_iface, one_niliface, Bool.and_true, Bool.true_and, List.getD_cons_zero, List.getD_cons_succ, List.contains_cons, List.contains_nil, Bool.or_true, Bool.true_or, Bool.or_false, Bool.false_or, Nat.reduceBEq, *]; done) | fail)) only [i3, go_sem, Hold.p, HoldK.k, HoldL.K, HoldL.body, Nat.reduceBEq, Nat.reduceAdd, reduceIte]) (by simp (disch := (first | omega | assumption | (simp only [push_n, set_n, put_n, List.length_cons, List.length_nil, List.length_append, Nat.reduceAdd]; done) | (simp only [push_n, set_n, put_n, List.length_cons, List.length_nil, List.length_append]; omega) | (simp only [List.all_cons, List.all_nil, one_bool, one_int, one_str, one_ptr, one_nilptr, one_slice, one_eslice, one_nilslice, one_func, one_iface, one_niliface, Bool.and_true, Bool.true_and, List.getD_cons_zero, List.getD_cons_succ, List.contains_cons, List.contains_nil, Bool.or_true, Bool.true_or, Bool.or_false, Bool.false_or, Nat.reduceBEq, *]; done) | fail)) only [i4, go_sem, Hold.p, HoldK.k, HoldL.K, HoldL.body, Nat.reduceBEq, Nat.reduceAdd, reduceIte]) l1 (by simp) hF hfl hT hw hbl b0 bq S1 E1
    simp (disch := (first | omega | assumption | (simp only [push_n, set_n, put_n, List.length_cons, List.length_nil, List.length_append, Nat.reduceAdd]; done) | (simp only [push_n, set_n, put_n, List.length_cons, List.length_nil, List.length_append]; omega) | (simp only [List.all_cons, List.all_nil, one_bool, one_int, one_str, one_ptr, one_nilptr, one_slice, one_eslice, one_nilslice, one_func, one_iface, one_niliface, Bool.and_true, Bool.true_and, List.getD_cons_zero, List.getD_cons_succ, List.contains_cons, List.contains_nil, Bool.or_true, Bool.true_or, Bool.or_false, Bool.false_or, Nat.reduceBEq, *]; done) | fail)) only [go_sem, Hold.p, HoldK.k, HoldL.K, HoldL.body, Nat.reduceBEq, Nat.reduceAdd, reduceIte]
    refine test_dec (fun hb => ?_) (fun hb => ?_)
    · simp (disch := (first | omega | assumption | (simp only [push_n, set_n, put_n, List.length_cons, List.length_nil, List.length_append, Nat.reduceAdd]; done) | (simp only [push_n, set_n, put_n, List.length_cons, List.length_nil, List.length_append]; omega) | (simp only [List.all_cons, List.all_nil, one_bool, one_int, one_str, one_ptr, one_nilptr, one_slice, one_eslice, one_nilslice, one_func, one_iface, one_niliface, Bool.and_true, Bool.true_and, List.getD_cons_zero, List.getD_cons_succ, List.contains_cons, List.contains_nil, Bool.or_true, Bool.true_or, Bool.or_false, Bool.false_or, Nat.reduceBEq, *]; done) | fail)) only [i3, go_sem, Hold.p, HoldK.k, HoldL.K, HoldL.body, Nat.reduceBEq, Nat.reduceAdd, reduceIte]
      refine callA_of (l01Next_c g1 p v code 2 S1 (by omega) (by omega) hl) ?_
      rintro r g2 ⟨z, rfl, z0, z1, S2, V2, hn2⟩
      obtain ⟨m, hm⟩ : ∃ m : Nat, 60000 + z = (m : Int) := ⟨(60000 + z).toNat, by omega⟩
      have w1 : wr .i64 (60000 + z) = (m : Int) := by rw [wr64 _ (by omega), hm]
      simp (disch := (first | omega | assumption | (simp only [push_n, set_n, put_n, List.length_cons, List.length_nil, List.length_append, Nat.reduceAdd]; done) | (simp only [push_n, set_n, put_n, List.length_cons, List.length_nil, List.length_append]; omega) | (simp only [List.all_cons, List.all_nil, one_bool, one_int, one_str, one_ptr, one_nilptr, one_slice, one_eslice, one_nilslice, one_func, one_iface, one_niliface, Bool.and_true, Bool.true_and, List.getD_cons_zero, List.getD_cons_succ, List.contains_cons, List.contains_nil, Bool.or_true, Bool.true_or, Bool.or_false, Bool.false_or, Nat.reduceBEq, *]; done) | fail)) only [w1, go_sem, Hold.p, HoldK.k, HoldL.K, HoldL.body, Nat.reduceBEq, Nat.reduceAdd, reduceIte]
      refine mksA_of (n := m) (by omega) (by omega) (by omega) ?_
      have b0 := b0.sav V2 (by omega)
      have bq := bq.sav V2 (by omega)
      have hF := V2.sl hF (S1.slNe hF (by decide))
      have E2 : Ext h g2 := E1.sav V2 (by omega)
      try simp (disch := (first | omega | assumption | (simp only [push_n, set_n, put_n, List.length_cons, List.length_nil, List.length_append, Nat.reduceAdd]; done) | (simp only [push_n, set_n, put_n, List.length_cons, List.length_nil, List.length_append]; omega) | (simp only [List.all_cons, List.all_nil, one_bool, one_int, one_str, one_ptr, one_nilptr, one_slice, one_eslice, one_nilslice, one_func, one_iface, one_niliface, Bool.and_true, Bool.true_and, List.getD_cons_zero, List.getD_cons_succ, List.contains_cons, List.contains_nil, Bool.or_true, Bool.true_or, Bool.or_false, Bool.false_or, Nat.reduceBEq, *]; done) | fail)) only [go_sem, Hold.p, HoldK.k, HoldL.K, HoldL.body, Nat.reduceBEq, Nat.reduceAdd, reduceIte]
      generalize hq_g3 : IH.push g2 (IObj.rows (List.replicate m [.int .u8 0]) 5 1 false) = g3
      have e_g3 : Ext g2 g3 := by rw [← hq_g3]; exact (Ext.refl _).push _
      have l_g3 : g3.n = g2.n + 1 := by rw [← hq_g3]; rfl
      have b3 : At g3 g2.n (IObj.rows (List.replicate m [.int .u8 0]) 5 1 false) := by rw [← hq_g3]; exact At.new _ _
      clear hq_g3
      have S2 := S2.ext e_g3
      have b0 := b0.ext e_g3
      have bq := bq.ext e_g3
      have hF := hF.ext e_g3
      have E2 := E2.ext e_g3
      have hw3 : SlR g3 1 (.slice g2.n 0 m) (strRows (List.replicate m 0)) := SlR.whole (rs := strRows (List.replicate m 0)) (e := 5) (ro := false) (by rw [b3.eq]; simp [strRows]) (by simp [strRows]) b3.lt
      have qq := bq.eq
      simp (disch := (first | omega | assumption | (simp only [push_n, set_n, put_n, List.length_cons, List.length_nil, List.length_append, Nat.reduceAdd]; done) | (simp only [push_n, set_n, put_n, List.length_cons, List.length_nil, List.length_append]; omega) | (simp only [List.all_cons, List.all_nil, one_bool, one_int, one_str, one_ptr, one_nilptr, one_slice, one_eslice, one_nilslice, one_func, one_iface, one_niliface, Bool.and_true, Bool.true_and, List.getD_cons_zero, List.getD_cons_succ, List.contains_cons, List.contains_nil, Bool.or_true, Bool.true_or, Bool.or_false, Bool.false_or, Nat.reduceBEq, *]; done) | fail)) only [i4, qq, go_sem, Hold.p, HoldK.k, HoldL.K, HoldL.body, Nat.reduceBEq, Nat.reduceAdd, reduceIte]
      exact draw_set (vb' := vb) (pa' := pa) hp hq (by simp (disch := (first | omega | assumption | (simp only [push_n, set_n, put_n, List.length_cons, List.length_nil, List.length_append, Nat.reduceAdd]; done) | (simp only [push_n, set_n, put_n, List.length_cons, List.length_nil, List.length_append]; omega) | (simp only [List.all_cons, List.all_nil, one_bool, one_int, one_str, one_ptr, one_nilptr, one_slice, one_eslice, one_nilslice, one_func, one_iface, one_niliface, Bool.and_true, Bool.true_and, List.getD_cons_zero, List.getD_cons_succ, List.contains_cons, List.contains_nil, Bool.or_true, Bool.true_or, Bool.or_false, Bool.false_or, Nat.reduceBEq, *]; done) | fail)) only [i2, go_sem, Hold.p, HoldK.k, HoldL.K, HoldL.body, Nat.reduceBEq, Nat.reduceAdd, reduceIte]) (by simp (disch := (first | omega | assumption | (simp only [push_n, set_n, put_n, List.length_cons, List.length_nil, List.length_append, Nat.reduceAdd]; done) | (simp only [push_n, set_n, put_n, List.length_cons, List.length_nil, List.length_append]; omega) | (simp only [List.all_cons, List.all_nil, one_bool, one_int, one_str, one_ptr, one_nilptr, one_slice, one_eslice, one_nilslice, one_func, one_iface, one_niliface, Bool.and_true, Bool.true_and, List.getD_cons_zero, List.getD_cons_succ, List.contains_cons, List.contains_nil, Bool.or_true, Bool.true_or, Bool.or_false, Bool.false_or, Nat.reduceBEq, *]; done) | fail)) only [i3, go_sem, Hold.p, HoldK.k, HoldL.K, HoldL.body, Nat.reduceBEq, Nat.reduceAdd, reduceIte]) (by simp (disch := (first | omega | assumption | (simp only [push_n, set_n, put_n, List.length_cons, List.length_nil, List.length_append, Nat.reduceAdd]; done) | (simp only [push_n, set_n, put_n, List.length_cons, List.length_nil, List.length_append]; omega) | (simp only [List.all_cons, List.all_nil, one_bool, one_int, one_str, one_ptr, one_nilptr, one_slice, one_eslice, one_nilslice, one_func, one_iface, one_niliface, Bool.and_true, Bool.true_and, List.getD_cons_zero, List.getD_cons_succ, List.contains_cons, List.contains_nil, Bool.or_true, Bool.true_or, Bool.or_false, Bool.false_or, Nat.reduceBEq, *]; done) | fail)) only [i4, go_sem, Hold.p, HoldK.k, HoldL.K, HoldL.body, Nat.reduceBEq, Nat.reduceAdd, reduceIte]) l1 l2 hF hfl hT hw3 (by rw [List.length_replicate]; omega) b0 bq S2 E2
    simp (disch := (first | omega | assumption | (simp only [push_n, set_n, put_n, List.length_cons, List.length_nil, List.length_append, Nat.reduceAdd]; done) | (simp only [push_n, set_n, put_n, List.length_cons, List.length_nil, List.length_append]; omega) | (simp only [List.all_cons, List.all_nil, one_bool, one_int, one_str, one_ptr, one_nilptr, one_slice, one_eslice, one_nilslice, one_func, one_iface, one_niliface, Bool.and_true, Bool.true_and, List.getD_cons_zero, List.getD_cons_succ, List.contains_cons, List.contains_nil, Bool.or_true, Bool.true_or, Bool.or_false, Bool.false_or, Nat.reduceBEq, *]; done) | fail)) only [go_sem, Hold.p, HoldK.k, HoldL.K, HoldL.body, Nat.reduceBEq, Nat.reduceAdd, reduceIte]
    refine test_dec (fun hb => ?_) (fun hb => ?_)
    · simp (disch := (first | omega | assumption | (simp only [push_n, set_n, put_n, List.length_cons, List.length_nil, List.length_append, Nat.reduceAdd]; done) | (simp only [push_n, set_n, put_n, List.length_cons, List.length_nil, List.length_append]; omega) | (simp only [List.all_cons, List.all_nil, one_bool, one_int, one_str, one_ptr, one_nilptr, one_slice, one_eslice, one_nilslice, one_func, one_iface, one_niliface, Bool.and_true, Bool.true_and, List.getD_cons_zero, List.getD_cons_succ, List.contains_cons, List.contains_nil, Bool.or_true, Bool.true_or, Bool.or_false, Bool.false_or, Nat.reduceBEq, *]; done) | fail)) only [go_sem, Hold.p, HoldK.k, HoldL.K, HoldL.body, Nat.reduceBEq, Nat.reduceAdd, reduceIte]
      refine loop_at (fun m e g => ∃ pa : Txt, m = 500 - pa.length ∧ e 2 = .ptr h.n 0 0 ∧ e 3 = .ptr p 0 0 ∧ e 4 = .ptr q 0 0 ∧ pa.length ≤ 300 ∧ SlR g 2 vf (fldRows fs) ∧ SlR g 1 w (strRows bs) ∧ At g h.n (reqObj [] [] .nilslice .nilslice) ∧ At g q (reqObj vb pa vf w) ∧ Src g p v code ∧ Ext h g) (500 - pa.length) ?_ ?_
      · refine ⟨pa, rfl, ?_⟩
        simp (disch := (first | omega | assumption | (simp only [push_n, set_n, put_n, List.length_cons, List.length_nil, List.length_append, Nat.reduceAdd]; done) | (simp only [push_n, set_n, put_n, List.length_cons, List.length_nil, List.length_append]; omega) | (simp only [List.all_cons, List.all_nil, one_bool, one_int, one_str, one_ptr, one_nilptr, one_slice, one_eslice, one_nilslice, one_func, one_iface, one_niliface, Bool.and_true, Bool.true_and, List.getD_cons_zero, List.getD_cons_succ, List.contains_cons, List.contains_nil, Bool.or_true, Bool.true_or, Bool.or_false, Bool.false_or, Nat.reduceBEq, *]; done) | fail)) only [i2, i3, i4, go_sem, Hold.p, HoldK.k, HoldL.K, HoldL.body, Nat.reduceBEq, Nat.reduceAdd, reduceIte]
        exact ⟨l2, hF, hw, b0, bq, S1, E1⟩
      · rintro m e g3 ⟨pb, rfl, j2, j3, j4, l3, hF3, hw3, c0, cq, S3, E3⟩
        have qq := cq.eq
        simp (disch := (first | omega | assumption | (simp only [push_n, set_n, put_n, List.length_cons, List.length_nil, List.length_append, Nat.reduceAdd]; done) | (simp only [push_n, set_n, put_n, List.length_cons, List.length_nil, List.length_append]; omega) | (simp only [List.all_cons, List.all_nil, one_bool, one_int, one_str, one_ptr, one_nilptr, one_slice, one_eslice, one_nilslice, one_func, one_iface, one_niliface, Bool.and_true, Bool.true_and, List.getD_cons_zero, List.getD_cons_succ, List.contains_cons, List.contains_nil, Bool.or_true, Bool.true_or, Bool.or_false, Bool.false_or, Nat.reduceBEq, *]; done) | fail)) only [j3, j4, qq, go_sem, Hold.p, HoldK.k, HoldL.K, HoldL.body, Nat.reduceBEq, Nat.reduceAdd, reduceIte]
        refine callA_of (l01Next_c g3 p v code 2 S3 (by omega) (by omega) hl) ?_
        rintro r g4 ⟨z, rfl, z0, z1, S4, V4, hn4⟩
        have c0 := c0.sav V4 (by omega)
        have cq := cq.sav V4 (by omega)
        have hF4 := V4.sl hF3 (S3.slNe hF3 (by decide))
        have hw4 := V4.sl hw3 (S3.slNe hw3 (by decide))
        have E4 : Ext h g4 := E3.sav V4 (by omega)
        have w1 : wr .i64 (200 + z) = 200 + z := wr64 _ (by omega)
        have qq := cq.eq
        simp (disch := (first | omega | assumption | (simp only [push_n, set_n, put_n, List.length_cons, List.length_nil, List.length_append, Nat.reduceAdd]; done) | (simp only [push_n, set_n, put_n, List.length_cons, List.length_nil, List.length_append]; omega) | (simp only [List.all_cons, List.all_nil, one_bool, one_int, one_str, one_ptr, one_nilptr, one_slice, one_eslice, one_nilslice, one_func, one_iface, one_niliface, Bool.and_true, Bool.true_and, List.getD_cons_zero, List.getD_cons_succ, List.contains_cons, List.contains_nil, Bool.or_true, Bool.true_or, Bool.or_false, Bool.false_or, Nat.reduceBEq, *]; done) | fail)) only [w1, j4, qq, go_sem, Hold.p, HoldK.k, HoldL.K, HoldL.body, Nat.reduceBEq, Nat.reduceAdd, reduceIte]
        refine test_dec (fun hb2 => ?_) (fun hb2 => ?_)
        · simp (disch := (first | omega | assumption | (simp only [push_n, set_n, put_n, List.length_cons, List.length_nil, List.length_append, Nat.reduceAdd]; done) | (simp only [push_n, set_n, put_n, List.length_cons, List.length_nil, List.length_append]; omega) | (simp only [List.all_cons, List.all_nil, one_bool, one_int, one_str, one_ptr, one_nilptr, one_slice, one_eslice, one_nilslice, one_func, one_iface, one_niliface, Bool.and_true, Bool.true_and, List.getD_cons_zero, List.getD_cons_succ, List.contains_cons, List.contains_nil, Bool.or_true, Bool.true_or, Bool.or_false, Bool.false_or, Nat.reduceBEq, *]; done) | fail)) only [j2, j3, j4, qq, cat3, go_sem, Hold.p, HoldK.k, HoldL.K, HoldL.body, Nat.reduceBEq, Nat.reduceAdd, reduceIte]
          obtain ⟨_, _, _, _, fs2, bs2, _, _, _, _, _, k1, _, _, k2, _, k3, k4, k5, k6⟩ := draw_set (e := e) (vb' := vb) (pa' := pb ++ [47]) hp hq j2 j3 j4 l1 (by simp; omega) hF4 hfl hT hw4 hbl c0 cq S4 E4
          refine ⟨_, ?_, pb ++ [47], rfl, by simp; omega, hF4.setp cq (by decide) _, hw4.setp cq (by decide) _, k3, cq.here, k5, k6⟩
          simp; omega
        · simp (disch := (first | omega | assumption | (simp only [push_n, set_n, put_n, List.length_cons, List.length_nil, List.length_append, Nat.reduceAdd]; done) | (simp only [push_n, set_n, put_n, List.length_cons, List.length_nil, List.length_append]; omega) | (simp only [List.all_cons, List.all_nil, one_bool, one_int, one_str, one_ptr, one_nilptr, one_slice, one_eslice, one_nilslice, one_func, one_iface, one_niliface, Bool.and_true, Bool.true_and, List.getD_cons_zero, List.getD_cons_succ, List.contains_cons, List.contains_nil, Bool.or_true, Bool.true_or, Bool.or_false, Bool.false_or, Nat.reduceBEq, *]; done) | fail)) only [j2, j3, j4, go_sem, Hold.p, HoldK.k, HoldL.K, HoldL.body, Nat.reduceBEq, Nat.reduceAdd, reduceIte]
          exact ⟨vb, pb, vf, w, fs, bs, by simp (disch := (first | omega | assumption | (simp only [push_n, set_n, put_n, List.length_cons, List.length_nil, List.length_append, Nat.reduceAdd]; done) | (simp only [push_n, set_n, put_n, List.length_cons, List.length_nil, List.length_append]; omega) | (simp only [List.all_cons, List.all_nil, one_bool, one_int, one_str, one_ptr, one_nilptr, one_slice, one_eslice, one_nilslice, one_func, one_iface, one_niliface, Bool.and_true, Bool.true_and, List.getD_cons_zero, List.getD_cons_succ, List.contains_cons, List.contains_nil, Bool.or_true, Bool.true_or, Bool.or_false, Bool.false_or, Nat.reduceBEq, *]; done) | fail)) only [j2, go_sem, Hold.p, HoldK.k, HoldL.K, HoldL.body, Nat.reduceBEq, Nat.reduceAdd, reduceIte], by simp (disch := (first | omega | assumption | (simp only [push_n, set_n, put_n, List.length_cons, List.length_nil, List.length_append, Nat.reduceAdd]; done) | (simp only [push_n, set_n, put_n, List.length_cons, List.length_nil, List.length_append]; omega) | (simp only [List.all_cons, List.all_nil, one_bool, one_int, one_str, one_ptr, one_nilptr, one_slice, one_eslice, one_nilslice, one_func, one_iface, one_niliface, Bool.and_true, Bool.true_and, List.getD_cons_zero, List.getD_cons_succ, List.contains_cons, List.contains_nil, Bool.or_true, Bool.true_or, Bool.or_false, Bool.false_or, Nat.reduceBEq, *]; done) | fail)) only [j3, go_sem, Hold.p, HoldK.k, HoldL.K, HoldL.body, Nat.reduceBEq, Nat.reduceAdd, reduceIte], by simp (disch := (first | omega | assumption | (simp only [push_n, set_n, put_n, List.length_cons, List.length_nil, List.length_append, Nat.reduceAdd]; done) | (simp only [push_n, set_n, put_n, List.length_cons, List.length_nil, List.length_append]; omega) | (simp only [List.all_cons, List.all_nil, one_bool, one_int, one_str, one_ptr, one_nilptr, one_slice, one_eslice, one_nilslice, one_func, one_iface, one_niliface, Bool.and_true, Bool.true_and, List.getD_cons_zero, List.getD_cons_succ, List.contains_cons, List.contains_nil, Bool.or_true, Bool.true_or, Bool.or_false, Bool.false_or, Nat.reduceBEq, *]; done) | fail)) only [j4, go_sem, Hold.p, HoldK.k, HoldL.K, HoldL.body, Nat.reduceBEq, Nat.reduceAdd, reduceIte], l1, l3, hF4, hfl, hT, hw4, hbl, c0, cq, S4, E4⟩
    · simp (disch := (first | omega | assumption | (simp only [push_n, set_n, put_n, List.length_cons, List.length_nil, List.length_append, Nat.reduceAdd]; done) | (simp only [push_n, set_n, put_n, List.length_cons, List.length_nil, List.length_append]; omega) | (simp only [List.all_cons, List.all_nil, one_bool, one_int, one_str, one_ptr, one_nilptr, one_slice, one_eslice, one_nilslice, one_func, one_iface, one_niliface, Bool.and_true, Bool.true_and, List.getD_cons_zero, List.getD_cons_succ, List.contains_cons, List.contains_nil, Bool.or_true, Bool.true_or, Bool.or_false, Bool.false_or, Nat.reduceBEq, *]; done) | fail)) only [go_sem, Hold.p, HoldK.k, HoldL.K, HoldL.body, Nat.reduceBEq, Nat.reduceAdd, reduceIte]
      exact ⟨vb, pa, vf, w, fs, bs, by simp (disch := (first | omega | assumption | (simp only [push_n, set_n, put_n, List.length_cons, List.length_nil, List.length_append, Nat.reduceAdd]; done) | (simp only [push_n, set_n, put_n, List.length_cons, List.length_nil, List.length_append]; omega) | (simp only [List.all_cons, List.all_nil, one_bool, one_int, one_str, one_ptr, one_nilptr, one_slice, one_eslice, one_nilslice, one_func, one_iface, one_niliface, Bool.and_true, Bool.true_and, List.getD_cons_zero, List.getD_cons_succ, List.contains_cons, List.contains_nil, Bool.or_true, Bool.true_or, Bool.or_false, Bool.false_or, Nat.reduceBEq, *]; done) | fail)) only [i2, go_sem, Hold.p, HoldK.k, HoldL.K, HoldL.body, Nat.reduceBEq, Nat.reduceAdd, reduceIte], by simp (disch := (first | omega | assumption | (simp only [push_n, set_n, put_n, List.length_cons, List.length_nil, List.length_append, Nat.reduceAdd]; done) | (simp only [push_n, set_n, put_n, List.length_cons, List.length_nil, List.length_append]; omega) | (simp only [List.all_cons, List.all_nil, one_bool, one_int, one_str, one_ptr, one_nilptr, one_slice, one_eslice, one_nilslice, one_func, one_iface, one_niliface, Bool.and_true, Bool.true_and, List.getD_cons_zero, List.getD_cons_succ, List.contains_cons, List.contains_nil, Bool.or_true, Bool.true_or, Bool.or_false, Bool.false_or, Nat.reduceBEq, *]; done) | fail)) only [i3, go_sem, Hold.p, HoldK.k, HoldL.K, HoldL.body, Nat.reduceBEq, Nat.reduceAdd, reduceIte], by simp (disch := (first | omega | assumption | (simp only [push_n, set_n, put_n, List.length_cons, List.length_nil, List.length_append, Nat.reduceAdd]; done) | (simp only [push_n, set_n, put_n, List.length_cons, List.length_nil, List.length_append]; omega) | (simp only [List.all_cons, List.all_nil, one_bool, one_int, one_str, one_ptr, one_nilptr, one_slice, one_eslice, one_nilslice, one_func, one_iface, one_niliface, Bool.and_true, Bool.true_and, List.getD_cons_zero, List.getD_cons_succ, List.contains_cons, List.contains_nil, Bool.or_true, Bool.true_or, Bool.or_false, Bool.false_or, Nat.reduceBEq, *]; done) | fail)) only [i4, go_sem, Hold.p, HoldK.k, HoldL.K, HoldL.body, Nat.reduceBEq, Nat.reduceAdd, reduceIte], l1, l2, hF, hfl, hT, hw, hbl, b0, bq, S1, E1⟩
  clear i2 i3 i4 l1 l2 hF hfl hT hw hbl b0 bq S E hqn vb pa vf w fs bs e g
  rintro e g ⟨vb, pa, vf, w, fs, bs, i2, i3, i4, l1, l2, hF, hfl, hT, hw, hbl, b0, bq, S, E⟩
  simp only [CC.split]
  have q0 := b0.eq
  have qq := bq.eq
  have vf1 := hF.one
  have wo := hw.one
  simp (disch := (first | omega | assumption | (simp only [push_n, set_n, put_n, List.length_cons, List.length_nil, List.length_append, Nat.reduceAdd]; done) | (simp only [push_n, set_n, put_n, List.length_cons, List.length_nil, List.length_append]; omega) | (simp only [List.all_cons, List.all_nil, one_bool, one_int, one_str, one_ptr, one_nilptr, one_slice, one_eslice, one_nilslice, one_func, one_iface, one_niliface, Bool.and_true, Bool.true_and, List.getD_cons_zero, List.getD_cons_succ, List.contains_cons, List.contains_nil, Bool.or_true, Bool.true_or, Bool.or_false, Bool.false_or, Nat.reduceBEq, *]; done) | fail)) only [i2, i4, q0, qq, vf1, wo, go_sem, Hold.p, HoldK.k, HoldL.K, HoldL.body, Nat.reduceBEq, Nat.reduceAdd, reduceIte]
  exact ⟨vb, pa, vf, w, fs, bs, rfl, l1, l2, hF.setp b0 (by decide) _, hfl, hT, hw.setp b0 (by decide) _, hbl, E.set1 _ (Nat.le_refl _)⟩
end
end Go.Proofs.YtdpaehdolhdjdaaGreatDoor

set_option maxRecDepth 20000
namespace Go.Proofs.YtdpaehdolhdjdaaGreatDoor
open Go Go.IW

theorem flds_un {S : Nat → Prop} {h : IH} {vf : IV} {fs : List Fld} (h2 : Rp S h (.slice 106 t_Field) [vf] (.list (fs.map fldD))) : SlR h 2 vf (fldRows fs) := by
  obtain ⟨v, rs, ds, e1, e2, hs, _, hall⟩ := h2
  obtain rfl := (List.cons.inj e1).1
  simp only [Dat.list.injEq] at e2
  subst e2
  have : rs = fldRows fs := by
    clear hs e1
    induction fs generalizing rs with
    | nil => cases hall; rfl
    | cons f fs ih =>
      cases hall with
      | cons h t =>
        obtain ⟨x, rfl, hx⟩ := fld_vw h
        have := fldD_inj (a := [f]) (b := [x]) (by simp [hx])
        simp only [List.cons.injEq, and_true] at this
        subst this
        rw [ih _ t]; rfl
  rwa [this] at hs
theorem bytes_un {S : Nat → Prop} {h : IH} {vb : IV} {bs : Txt} (h2 : Rp S h (.slice 5 (.int .u8)) [vb] (bytesD bs)) : SlR h 1 vb (strRows bs) := by
  obtain ⟨v, rs, ds, e1, e2, hs, _, hall⟩ := h2
  obtain rfl := (List.cons.inj e1).1
  simp only [bytesD, Dat.list.injEq] at e2
  subst e2
  have : rs = strRows bs := by
    clear hs e1
    induction bs generalizing rs with
    | nil => cases hall; rfl
    | cons f fs ih =>
      cases hall with
      | cons h t =>
        obtain ⟨n, rfl, hx⟩ := h
        simp only [Dat.int.injEq] at hx
        rw [ih _ t, ← hx]; rfl
  rwa [this] at hs
theorem req_un {S : Nat → Prop} {h : IH} {cs : List IV} {a b : Txt} {fs : List Fld} {body : Txt} (hv : Rp S h t_Request cs (reqD a b fs body)) : ∃ vf vb, cs = [.str a, .str b, vf, vb] ∧ SlR h 2 vf (fldRows fs) ∧ SlR h 1 vb (strRows body) := by
  obtain ⟨_, _, _, _, rfl, e1, ⟨a1, rfl, r1⟩, _, _, _, _, rfl, e2, ⟨a2, rfl, r2⟩, c3, _, d3, _, rfl, e3, h3, c4, _, d4, _, rfl, e4, h4, rfl, r5⟩ := hv
  obtain ⟨vf, rfl⟩ := one_list rfl (Rp.len h3)
  obtain ⟨vb, rfl⟩ := one_list rfl (Rp.len h4)
  subst r1 r2 r5
  simp only [reqD, Dat.pair.injEq] at e1
  obtain ⟨f1, rfl⟩ := e1
  simp only [Dat.pair.injEq] at e2
  obtain ⟨f2, rfl⟩ := e2
  simp only [Dat.pair.injEq] at e3
  obtain ⟨rfl, rfl⟩ := e3
  simp only [Dat.pair.injEq, and_true] at e4
  subst e4
  simp only [Dat.str.injEq] at f1 f2
  subst f1 f2
  exact ⟨vf, vb, rfl, flds_un h3, bytes_un h4⟩
theorem rep_un {S : Nat → Prop} {h : IH} {cs : List IV} {a : Int} {fs : List Fld} {body : Txt} (hv : Rp S h t_Reply cs (repD a fs body)) : ∃ vf vb, cs = [.int .i64 a, vf, vb] ∧ SlR h 2 vf (fldRows fs) ∧ SlR h 1 vb (strRows body) := by
  obtain ⟨_, _, _, _, rfl, e1, ⟨a1, rfl, r1⟩, c3, _, d3, _, rfl, e3, h3, c4, _, d4, _, rfl, e4, h4, rfl, r5⟩ := hv
  obtain ⟨vf, rfl⟩ := one_list rfl (Rp.len h3)
  obtain ⟨vb, rfl⟩ := one_list rfl (Rp.len h4)
  subst r1 r5
  simp only [repD, Dat.pair.injEq] at e1
  obtain ⟨f1, rfl⟩ := e1
  simp only [Dat.pair.injEq] at e3
  obtain ⟨rfl, rfl⟩ := e3
  simp only [Dat.pair.injEq, and_true] at e4
  subst e4
  simp only [Dat.int.injEq] at f1
  subst f1
  exact ⟨vf, vb, rfl, flds_un h3, bytes_un h4⟩
/-- Two that are there. -/
theorem two_rows {lo hi : Nat} {h : IH} {el : Nat} {t : Ty} {v : IV} {d0 d1 : Dat} (hv : Vw lo hi h (.slice el t) [v] (.list [d0, d1])) : ∃ r0 r1, SlR h t.sz v [r0, r1] ∧ Rp (fun l => lo ≤ l ∧ l < hi) h t r0 d0 ∧ Rp (fun l => lo ≤ l ∧ l < hi) h t r1 d1 := by
  obtain ⟨v', rs, ds, e1, e2, hs, _, hall⟩ := hv
  obtain rfl := (List.cons.inj e1).1
  simp only [Dat.list.injEq] at e2
  subst e2
  cases hall with
  | cons h0 t0 =>
    cases t0 with
    | cons h1 t1 =>
      cases t1
      exact ⟨_, _, hs, h0, h1⟩
theorem FldT.S {fs : List Fld} (h : FldT fs) : FldS fs := fun f hf => by have := h f hf; omega
end Go.Proofs.YtdpaehdolhdjdaaGreatDoor
