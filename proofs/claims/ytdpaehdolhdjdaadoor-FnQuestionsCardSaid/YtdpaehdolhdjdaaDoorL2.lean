import Derived.Test.YtdpaehdolhdjdaaDoorL1
import Derived.Test.YtdpaehdolhdjdaaDoorK2
set_option linter.unusedSimpArgs false
set_option linter.unusedVariables false

namespace Go.Proofs.YtdpaehdolhdjdaaDoor
open Go Go.IW

/-- A query's bytes, and the code. -/
def encQ (id : Int) (s : List UInt8) : List UInt8 × Int :=
  if (0 ≤ id ∧ id ≤ 65535) ∧ okName s = true then ((beB 2 id ++ [0, UInt8.ofNat s.length]) ++ s, 0) else ([], 1)
def BytesRes (h h' : IH) (r : IV) (x : List UInt8 × Int) : Prop := ∃ v, r = .tuple [v, .int .i64 x.2] ∧ Own h.n h'.n h' 5 1 v (strRows x.1) ∧ Ext h h'
theorem okName_ne {s : List UInt8} (h : okName s = true) : s ≠ [] ∧ s.length ≤ 63 := by
  constructor
  · rintro rfl; exact absurd h (by decide)
  · unfold okName at h; simp at h; exact h.1
theorem u8_len {n : Nat} (hn : n ≤ 255) : wr .u8 (n : Int) = ((UInt8.ofNat n).toNat : Int) := by
  have : ((n : Int) % 256).toNat = n := by omega
  rw [wr_u8, this]

set_option maxRecDepth 20000 in
theorem specEncodeQuery_c (h : IH) (id : Int) (s : List UInt8) (hm : s.length ≤ 1048576) : ICalls Tryd.prog 27 [.agg [.int .i64 id, .str s]] h fun r h' => BytesRes h h' r (encQ id s) := by
  refine icalls (.of ok27) (Nat.le_of_ble_eq_true rfl) ?_
  unfold c27
  simp only [go_sem, Hold.p, HoldK.k, HoldL.K, HoldL.body, Nat.reduceBEq, Nat.reduceAdd, List.getElem?_cons_zero, List.getElem?_cons_succ, Option.bind_some, List.map_cons, List.map_nil, Nat.zero_add, if_true, List.getD_cons_zero, List.getD_cons_succ, List.contains_cons, List.contains_nil, Nat.reduceBEq, Bool.or_true, Bool.true_or, Bool.or_false, Bool.false_or, Bool.not_true, Bool.not_false, true_and, and_true, rowA_whole, push_n, set_n, push_obj, set_obj, set_push, set_push_ne, set_set, Nat.add_assoc, Nat.left_eq_add, Nat.add_eq_left, Nat.add_left_cancel_iff, Nat.reduceEqDiff, stO_1s, stO_ws, boxA_s, one_bool, one_int, one_str, one_ptr, one_nilptr, one_slice, one_eslice, one_nilslice, one_func, one_iface, one_niliface, List.all_cons, List.all_nil, List.length_cons, List.length_nil, Nat.reduceLT, Nat.reduceEqDiff, Nat.reduceLeDiff, Bool.and_true, Nat.one_ne_zero, Nat.succ_ne_zero, reduceIte, if_false, List.getElem?_cons_zero, List.set_cons_zero, List.set_cons_succ]
  generalize hq_g0 : IH.push h (IObj.rows [[IV.int .i64 id, IV.str s]] 46 2 false) = g0
  have e_g0 : Ext h g0 := by rw [← hq_g0]; exact (Ext.refl _).push _
  have l_g0 : g0.n = h.n + 1 := by rw [← hq_g0]; rfl
  have bb : At g0 h.n (IObj.rows [[IV.int .i64 id, IV.str s]] 46 2 false) := by rw [← hq_g0]; exact At.new _ _
  clear hq_g0
  refine callA_of (l10PortOK_c _ id) ?_
  rintro r g0' ⟨rfl, rfl⟩
  cases q1 : (decide (0 ≤ id) && decide (id ≤ 65535))
  · simp only [q1, go_sem, Hold.p, HoldK.k, HoldL.K, HoldL.body, Nat.reduceBEq, Nat.reduceAdd, List.getElem?_cons_zero, List.getElem?_cons_succ, Option.bind_some, List.map_cons, List.map_nil, Nat.zero_add, if_true, List.getD_cons_zero, List.getD_cons_succ, List.contains_cons, List.contains_nil, Nat.reduceBEq, Bool.or_true, Bool.true_or, Bool.or_false, Bool.false_or, Bool.not_true, Bool.not_false, true_and, and_true, rowA_whole, push_n, set_n, push_obj, set_obj, set_push, set_push_ne, set_set, Nat.add_assoc, Nat.left_eq_add, Nat.add_eq_left, Nat.add_left_cancel_iff, Nat.reduceEqDiff, stO_1s, stO_ws, boxA_s, one_bool, one_int, one_str, one_ptr, one_nilptr, one_slice, one_eslice, one_nilslice, one_func, one_iface, one_niliface, List.all_cons, List.all_nil, List.length_cons, List.length_nil, Nat.reduceLT, Nat.reduceEqDiff, Nat.reduceLeDiff, Bool.and_true, Nat.one_ne_zero, Nat.succ_ne_zero, reduceIte, if_false, List.getElem?_cons_zero, List.set_cons_zero, List.set_cons_succ]
    have : encQ id s = ([], 1) := if_neg (fun hx => by simp at q1; omega)
    rw [this]
    exact ⟨_, rfl, Own.nil, e_g0⟩
  · simp only [q1, bb.eq, go_sem, Hold.p, HoldK.k, HoldL.K, HoldL.body, Nat.reduceBEq, Nat.reduceAdd, List.getElem?_cons_zero, List.getElem?_cons_succ, Option.bind_some, List.map_cons, List.map_nil, Nat.zero_add, if_true, List.getD_cons_zero, List.getD_cons_succ, List.contains_cons, List.contains_nil, Nat.reduceBEq, Bool.or_true, Bool.true_or, Bool.or_false, Bool.false_or, Bool.not_true, Bool.not_false, true_and, and_true, rowA_whole, push_n, set_n, push_obj, set_obj, set_push, set_push_ne, set_set, Nat.add_assoc, Nat.left_eq_add, Nat.add_eq_left, Nat.add_left_cancel_iff, Nat.reduceEqDiff, stO_1s, stO_ws, boxA_s, one_bool, one_int, one_str, one_ptr, one_nilptr, one_slice, one_eslice, one_nilslice, one_func, one_iface, one_niliface, List.all_cons, List.all_nil, List.length_cons, List.length_nil, Nat.reduceLT, Nat.reduceEqDiff, Nat.reduceLeDiff, Bool.and_true, Nat.one_ne_zero, Nat.succ_ne_zero, reduceIte, if_false, List.getElem?_cons_zero, List.set_cons_zero, List.set_cons_succ]
    refine callA_of (specNameOK_c _ s hm) ?_
    rintro r h1 ⟨rfl, E1⟩
    have E := e_g0.trans E1
    have bb := bb.ext E1
    have le_E1 := E1.le
    cases q2 : okName s
    · simp only [q2, go_sem, Hold.p, HoldK.k, HoldL.K, HoldL.body, Nat.reduceBEq, Nat.reduceAdd, List.getElem?_cons_zero, List.getElem?_cons_succ, Option.bind_some, List.map_cons, List.map_nil, Nat.zero_add, if_true, List.getD_cons_zero, List.getD_cons_succ, List.contains_cons, List.contains_nil, Nat.reduceBEq, Bool.or_true, Bool.true_or, Bool.or_false, Bool.false_or, Bool.not_true, Bool.not_false, true_and, and_true, rowA_whole, push_n, set_n, push_obj, set_obj, set_push, set_push_ne, set_set, Nat.add_assoc, Nat.left_eq_add, Nat.add_eq_left, Nat.add_left_cancel_iff, Nat.reduceEqDiff, stO_1s, stO_ws, boxA_s, one_bool, one_int, one_str, one_ptr, one_nilptr, one_slice, one_eslice, one_nilslice, one_func, one_iface, one_niliface, List.all_cons, List.all_nil, List.length_cons, List.length_nil, Nat.reduceLT, Nat.reduceEqDiff, Nat.reduceLeDiff, Bool.and_true, Nat.one_ne_zero, Nat.succ_ne_zero, reduceIte, if_false, List.getElem?_cons_zero, List.set_cons_zero, List.set_cons_succ]
      have : encQ id s = ([], 1) := if_neg (fun hx => by rw [q2] at hx; exact Bool.noConfusion hx.2)
      rw [this]
      exact ⟨_, rfl, Own.nil, E⟩
    · obtain ⟨hne, hl⟩ := okName_ne q2
      have hdef : encQ id s = ((beB 2 id ++ [0, UInt8.ofNat s.length]) ++ s, 0) := if_pos ⟨by simp at q1; omega, q2⟩
      rw [hdef]
      have w1 := u8_len (n := s.length) (by omega)
      have hbl := bb.lt
      simp only [q2, bb.eq, w1, go_sem, Hold.p, HoldK.k, HoldL.K, HoldL.body, Nat.reduceBEq, Nat.reduceAdd, List.getElem?_cons_zero, List.getElem?_cons_succ, Option.bind_some, List.map_cons, List.map_nil, Nat.zero_add, if_true, List.getD_cons_zero, List.getD_cons_succ, List.contains_cons, List.contains_nil, Nat.reduceBEq, Bool.or_true, Bool.true_or, Bool.or_false, Bool.false_or, Bool.not_true, Bool.not_false, true_and, and_true, rowA_whole, push_n, set_n, push_obj, set_obj, set_push, set_push_ne, set_set, Nat.add_assoc, Nat.left_eq_add, Nat.add_eq_left, Nat.add_left_cancel_iff, Nat.reduceEqDiff, stO_1s, stO_ws, boxA_s, one_bool, one_int, one_str, one_ptr, one_nilptr, one_slice, one_eslice, one_nilslice, one_func, one_iface, one_niliface, List.all_cons, List.all_nil, List.length_cons, List.length_nil, Nat.reduceLT, Nat.reduceEqDiff, Nat.reduceLeDiff, Bool.and_true, Nat.one_ne_zero, Nat.succ_ne_zero, reduceIte, if_false, List.getElem?_cons_zero, List.set_cons_zero, List.set_cons_succ]
      refine either_of ?_ ?_
      · simp only [go_sem, Hold.p, HoldK.k, HoldL.K, HoldL.body, Nat.reduceBEq, Nat.reduceAdd, List.getElem?_cons_zero, List.getElem?_cons_succ, Option.bind_some, List.map_cons, List.map_nil, Nat.zero_add, if_true, List.getD_cons_zero, List.getD_cons_succ, List.contains_cons, List.contains_nil, Nat.reduceBEq, Bool.or_true, Bool.true_or, Bool.or_false, Bool.false_or, Bool.not_true, Bool.not_false, true_and, and_true, rowA_whole, push_n, set_n, push_obj, set_obj, set_push, set_push_ne, set_set, Nat.add_assoc, Nat.left_eq_add, Nat.add_eq_left, Nat.add_left_cancel_iff, Nat.reduceEqDiff, stO_1s, stO_ws, boxA_s, one_bool, one_int, one_str, one_ptr, one_nilptr, one_slice, one_eslice, one_nilslice, one_func, one_iface, one_niliface, List.all_cons, List.all_nil, List.length_cons, List.length_nil, Nat.reduceLT, Nat.reduceEqDiff, Nat.reduceLeDiff, Bool.and_true, Nat.one_ne_zero, Nat.succ_ne_zero, reduceIte, if_false, List.getElem?_cons_zero, List.set_cons_zero, List.set_cons_succ]
        refine callA_of (l03Put_c _ id 2 (by omega)) ?_
        rintro x h2 ⟨ox, E2⟩
        have bb := bb.ext E2
        have E := E.ext E2
        have le_E2 := E2.le
        have hn2 : (h.n = h2.n) = False := by simp; omega
        simp only [bb.eq, w1, bslA_2, hn2, go_sem, Hold.p, HoldK.k, HoldL.K, HoldL.body, Nat.reduceBEq, Nat.reduceAdd, List.getElem?_cons_zero, List.getElem?_cons_succ, Option.bind_some, List.map_cons, List.map_nil, Nat.zero_add, if_true, List.getD_cons_zero, List.getD_cons_succ, List.contains_cons, List.contains_nil, Nat.reduceBEq, Bool.or_true, Bool.true_or, Bool.or_false, Bool.false_or, Bool.not_true, Bool.not_false, true_and, and_true, rowA_whole, push_n, set_n, push_obj, set_obj, set_push, set_push_ne, set_set, Nat.add_assoc, Nat.left_eq_add, Nat.add_eq_left, Nat.add_left_cancel_iff, Nat.reduceEqDiff, stO_1s, stO_ws, boxA_s, one_bool, one_int, one_str, one_ptr, one_nilptr, one_slice, one_eslice, one_nilslice, one_func, one_iface, one_niliface, List.all_cons, List.all_nil, List.length_cons, List.length_nil, Nat.reduceLT, Nat.reduceEqDiff, Nat.reduceLeDiff, Bool.and_true, Nat.one_ne_zero, Nat.succ_ne_zero, reduceIte, if_false, List.getElem?_cons_zero, List.set_cons_zero, List.set_cons_succ]
        generalize hq_g3 : IH.push h2 (IObj.rows [[IV.int .u8 0], [IV.int .u8 (UInt8.ofNat s.length).toNat]] 5 1 false) = g3
        have e_g3 : Ext h2 g3 := by rw [← hq_g3]; exact (Ext.refl _).push _
        have l_g3 : g3.n = h2.n + 1 := by rw [← hq_g3]; rfl
        have ba : At g3 h2.n (IObj.rows [[IV.int .u8 0], [IV.int .u8 (UInt8.ofNat s.length).toNat]] 5 1 false) := by rw [← hq_g3]; exact At.new _ _
        clear hq_g3
        have ox := ox.ext e_g3
        have bb := bb.ext e_g3
        have E := E.ext e_g3
        have hy : SlR g3 1 (.slice h2.n 0 2) (strRows [0, UInt8.ofNat s.length]) := SlR.whole ba.eq rfl ba.lt
        refine callA_of (l01Join_c _ _ _ _ _ ox.sl hy (by rw [beB_len]; omega) (by simp)) ?_
        rintro v3 h3 ⟨o3, E3⟩
        have bb := bb.ext E3
        have E := E.ext E3
        have le_E3 := E3.le
        simp only [bb.eq, s2bA_some hne (by omega), go_sem, Hold.p, HoldK.k, HoldL.K, HoldL.body, Nat.reduceBEq, Nat.reduceAdd, List.getElem?_cons_zero, List.getElem?_cons_succ, Option.bind_some, List.map_cons, List.map_nil, Nat.zero_add, if_true, List.getD_cons_zero, List.getD_cons_succ, List.contains_cons, List.contains_nil, Nat.reduceBEq, Bool.or_true, Bool.true_or, Bool.or_false, Bool.false_or, Bool.not_true, Bool.not_false, true_and, and_true, rowA_whole, push_n, set_n, push_obj, set_obj, set_push, set_push_ne, set_set, Nat.add_assoc, Nat.left_eq_add, Nat.add_eq_left, Nat.add_left_cancel_iff, Nat.reduceEqDiff, stO_1s, stO_ws, boxA_s, one_bool, one_int, one_str, one_ptr, one_nilptr, one_slice, one_eslice, one_nilslice, one_func, one_iface, one_niliface, List.all_cons, List.all_nil, List.length_cons, List.length_nil, Nat.reduceLT, Nat.reduceEqDiff, Nat.reduceLeDiff, Bool.and_true, Nat.one_ne_zero, Nat.succ_ne_zero, reduceIte, if_false, List.getElem?_cons_zero, List.set_cons_zero, List.set_cons_succ]
        generalize hq_g4 : IH.push h3 (IObj.rows (strRows s) 5 1 false) = g4
        have e_g4 : Ext h3 g4 := by rw [← hq_g4]; exact (Ext.refl _).push _
        have l_g4 : g4.n = h3.n + 1 := by rw [← hq_g4]; rfl
        have bs : At g4 h3.n (IObj.rows (strRows s) 5 1 false) := by rw [← hq_g4]; exact At.new _ _
        clear hq_g4
        have o3 := o3.ext e_g4
        have bb := bb.ext e_g4
        have E := E.ext e_g4
        have hz : SlR g4 1 (.slice h3.n 0 s.length) (strRows s) := SlR.whole bs.eq (strRows_len s) bs.lt
        refine callA_of (l01Join_c _ _ _ _ _ o3.sl hz (by simp [beB_len]) (by omega)) ?_
        rintro v5 h5 ⟨o5, E5⟩
        have E4le := E.le
        have E := E.ext E5
        have le_E5 := E5.le
        simp only [go_sem, Hold.p, HoldK.k, HoldL.K, HoldL.body, Nat.reduceBEq, Nat.reduceAdd, List.getElem?_cons_zero, List.getElem?_cons_succ, Option.bind_some, List.map_cons, List.map_nil, Nat.zero_add, if_true, List.getD_cons_zero, List.getD_cons_succ, List.contains_cons, List.contains_nil, Nat.reduceBEq, Bool.or_true, Bool.true_or, Bool.or_false, Bool.false_or, Bool.not_true, Bool.not_false, true_and, and_true, rowA_whole, push_n, set_n, push_obj, set_obj, set_push, set_push_ne, set_set, Nat.add_assoc, Nat.left_eq_add, Nat.add_eq_left, Nat.add_left_cancel_iff, Nat.reduceEqDiff, stO_1s, stO_ws, boxA_s, one_bool, one_int, one_str, one_ptr, one_nilptr, one_slice, one_eslice, one_nilslice, one_func, one_iface, one_niliface, List.all_cons, List.all_nil, List.length_cons, List.length_nil, Nat.reduceLT, Nat.reduceEqDiff, Nat.reduceLeDiff, Bool.and_true, Nat.one_ne_zero, Nat.succ_ne_zero, reduceIte, if_false, List.getElem?_cons_zero, List.set_cons_zero, List.set_cons_succ]
        exact ⟨v5, rfl, o5.wide E4le (Nat.le_refl _) (Nat.le_refl _), E⟩
      · have hn2 : (h.n = h1.n) = False := by simp; omega
        simp only [bb.eq, w1, bslA_2, hn2, go_sem, Hold.p, HoldK.k, HoldL.K, HoldL.body, Nat.reduceBEq, Nat.reduceAdd, List.getElem?_cons_zero, List.getElem?_cons_succ, Option.bind_some, List.map_cons, List.map_nil, Nat.zero_add, if_true, List.getD_cons_zero, List.getD_cons_succ, List.contains_cons, List.contains_nil, Nat.reduceBEq, Bool.or_true, Bool.true_or, Bool.or_false, Bool.false_or, Bool.not_true, Bool.not_false, true_and, and_true, rowA_whole, push_n, set_n, push_obj, set_obj, set_push, set_push_ne, set_set, Nat.add_assoc, Nat.left_eq_add, Nat.add_eq_left, Nat.add_left_cancel_iff, Nat.reduceEqDiff, stO_1s, stO_ws, boxA_s, one_bool, one_int, one_str, one_ptr, one_nilptr, one_slice, one_eslice, one_nilslice, one_func, one_iface, one_niliface, List.all_cons, List.all_nil, List.length_cons, List.length_nil, Nat.reduceLT, Nat.reduceEqDiff, Nat.reduceLeDiff, Bool.and_true, Nat.one_ne_zero, Nat.succ_ne_zero, reduceIte, if_false, List.getElem?_cons_zero, List.set_cons_zero, List.set_cons_succ]
        generalize hq_g3 : IH.push h1 (IObj.rows [[IV.int .u8 0], [IV.int .u8 (UInt8.ofNat s.length).toNat]] 5 1 false) = g3
        have e_g3 : Ext h1 g3 := by rw [← hq_g3]; exact (Ext.refl _).push _
        have l_g3 : g3.n = h1.n + 1 := by rw [← hq_g3]; rfl
        have ba : At g3 h1.n (IObj.rows [[IV.int .u8 0], [IV.int .u8 (UInt8.ofNat s.length).toNat]] 5 1 false) := by rw [← hq_g3]; exact At.new _ _
        clear hq_g3
        have bb := bb.ext e_g3
        have E := E.ext e_g3
        refine callA_of (l03Put_c _ id 2 (by omega)) ?_
        rintro x h2 ⟨ox, E2⟩
        have bb := bb.ext E2
        have E := E.ext E2
        have ba := ba.ext E2
        have le_E2 := E2.le
        simp only [bb.eq, w1, go_sem, Hold.p, HoldK.k, HoldL.K, HoldL.body, Nat.reduceBEq, Nat.reduceAdd, List.getElem?_cons_zero, List.getElem?_cons_succ, Option.bind_some, List.map_cons, List.map_nil, Nat.zero_add, if_true, List.getD_cons_zero, List.getD_cons_succ, List.contains_cons, List.contains_nil, Nat.reduceBEq, Bool.or_true, Bool.true_or, Bool.or_false, Bool.false_or, Bool.not_true, Bool.not_false, true_and, and_true, rowA_whole, push_n, set_n, push_obj, set_obj, set_push, set_push_ne, set_set, Nat.add_assoc, Nat.left_eq_add, Nat.add_eq_left, Nat.add_left_cancel_iff, Nat.reduceEqDiff, stO_1s, stO_ws, boxA_s, one_bool, one_int, one_str, one_ptr, one_nilptr, one_slice, one_eslice, one_nilslice, one_func, one_iface, one_niliface, List.all_cons, List.all_nil, List.length_cons, List.length_nil, Nat.reduceLT, Nat.reduceEqDiff, Nat.reduceLeDiff, Bool.and_true, Nat.one_ne_zero, Nat.succ_ne_zero, reduceIte, if_false, List.getElem?_cons_zero, List.set_cons_zero, List.set_cons_succ]
        have hy : SlR h2 1 (.slice h1.n 0 2) (strRows [0, UInt8.ofNat s.length]) := SlR.whole ba.eq rfl ba.lt
        refine callA_of (l01Join_c _ _ _ _ _ ox.sl hy (by rw [beB_len]; omega) (by simp)) ?_
        rintro v3 h3 ⟨o3, E3⟩
        have bb := bb.ext E3
        have E := E.ext E3
        have le_E3 := E3.le
        simp only [bb.eq, s2bA_some hne (by omega), go_sem, Hold.p, HoldK.k, HoldL.K, HoldL.body, Nat.reduceBEq, Nat.reduceAdd, List.getElem?_cons_zero, List.getElem?_cons_succ, Option.bind_some, List.map_cons, List.map_nil, Nat.zero_add, if_true, List.getD_cons_zero, List.getD_cons_succ, List.contains_cons, List.contains_nil, Nat.reduceBEq, Bool.or_true, Bool.true_or, Bool.or_false, Bool.false_or, Bool.not_true, Bool.not_false, true_and, and_true, rowA_whole, push_n, set_n, push_obj, set_obj, set_push, set_push_ne, set_set, Nat.add_assoc, Nat.left_eq_add, Nat.add_eq_left, Nat.add_left_cancel_iff, Nat.reduceEqDiff, stO_1s, stO_ws, boxA_s, one_bool, one_int, one_str, one_ptr, one_nilptr, one_slice, one_eslice, one_nilslice, one_func, one_iface, one_niliface, List.all_cons, List.all_nil, List.length_cons, List.length_nil, Nat.reduceLT, Nat.reduceEqDiff, Nat.reduceLeDiff, Bool.and_true, Nat.one_ne_zero, Nat.succ_ne_zero, reduceIte, if_false, List.getElem?_cons_zero, List.set_cons_zero, List.set_cons_succ]
        generalize hq_g4 : IH.push h3 (IObj.rows (strRows s) 5 1 false) = g4
        have e_g4 : Ext h3 g4 := by rw [← hq_g4]; exact (Ext.refl _).push _
        have l_g4 : g4.n = h3.n + 1 := by rw [← hq_g4]; rfl
        have bs : At g4 h3.n (IObj.rows (strRows s) 5 1 false) := by rw [← hq_g4]; exact At.new _ _
        clear hq_g4
        have o3 := o3.ext e_g4
        have bb := bb.ext e_g4
        have E := E.ext e_g4
        have hz : SlR g4 1 (.slice h3.n 0 s.length) (strRows s) := SlR.whole bs.eq (strRows_len s) bs.lt
        refine callA_of (l01Join_c _ _ _ _ _ o3.sl hz (by simp [beB_len]) (by omega)) ?_
        rintro v5 h5 ⟨o5, E5⟩
        have E4le := E.le
        have E := E.ext E5
        have le_E5 := E5.le
        simp only [go_sem, Hold.p, HoldK.k, HoldL.K, HoldL.body, Nat.reduceBEq, Nat.reduceAdd, List.getElem?_cons_zero, List.getElem?_cons_succ, Option.bind_some, List.map_cons, List.map_nil, Nat.zero_add, if_true, List.getD_cons_zero, List.getD_cons_succ, List.contains_cons, List.contains_nil, Nat.reduceBEq, Bool.or_true, Bool.true_or, Bool.or_false, Bool.false_or, Bool.not_true, Bool.not_false, true_and, and_true, rowA_whole, push_n, set_n, push_obj, set_obj, set_push, set_push_ne, set_set, Nat.add_assoc, Nat.left_eq_add, Nat.add_eq_left, Nat.add_left_cancel_iff, Nat.reduceEqDiff, stO_1s, stO_ws, boxA_s, one_bool, one_int, one_str, one_ptr, one_nilptr, one_slice, one_eslice, one_nilslice, one_func, one_iface, one_niliface, List.all_cons, List.all_nil, List.length_cons, List.length_nil, Nat.reduceLT, Nat.reduceEqDiff, Nat.reduceLeDiff, Bool.and_true, Nat.one_ne_zero, Nat.succ_ne_zero, reduceIte, if_false, List.getElem?_cons_zero, List.set_cons_zero, List.set_cons_succ]
        exact ⟨v5, rfl, o5.wide E4le (Nat.le_refl _) (Nat.le_refl _), E⟩
end Go.Proofs.YtdpaehdolhdjdaaDoor


namespace Go.Proofs.YtdpaehdolhdjdaaDoor
open Go Go.IW

theorem strRows_ne {s : List UInt8} (h : s ≠ []) : strRows s ≠ [] := by
  intro hx; exact h (by simpa [strRows] using hx)

set_option maxRecDepth 20000 in
theorem implEncodeQuery_c (h : IH) (id : Int) (s : List UInt8) (hm : s.length ≤ 1048576) : ICalls Tryd.prog 28 [.agg [.int .i64 id, .str s]] h fun r h' => BytesRes h h' r (encQ id s) := by
  refine icalls (.of ok28) (Nat.le_of_ble_eq_true rfl) ?_
  unfold c28
  by_cases c1 : id < 0
  · have d1 : decide (id < 0) = true := decide_eq_true c1
    simp only [d1, go_sem, Hold.p, HoldK.k, HoldL.K, HoldL.body, Nat.reduceBEq, Nat.reduceAdd, List.getElem?_cons_zero, List.getElem?_cons_succ, Option.bind_some, List.map_cons, List.map_nil, Nat.zero_add, if_true, List.getD_cons_zero, List.getD_cons_succ, List.contains_cons, List.contains_nil, Nat.reduceBEq, Bool.or_true, Bool.true_or, Bool.or_false, Bool.false_or, Bool.not_true, Bool.not_false, true_and, and_true, rowA_whole, push_n, set_n, push_obj, set_obj, set_push, set_push_ne, set_set, Nat.add_assoc, Nat.left_eq_add, Nat.add_eq_left, Nat.add_left_cancel_iff, Nat.reduceEqDiff, stO_1s, stO_ws, boxA_s, one_bool, one_int, one_str, one_ptr, one_nilptr, one_slice, one_eslice, one_nilslice, one_func, one_iface, one_niliface, List.all_cons, List.all_nil, List.length_cons, List.length_nil, Nat.reduceLT, Nat.reduceEqDiff, Nat.reduceLeDiff, Bool.and_true, Nat.one_ne_zero, Nat.succ_ne_zero, reduceIte, if_false, List.getElem?_cons_zero, List.set_cons_zero, List.set_cons_succ]
    have : encQ id s = ([], 1) := if_neg (fun hx => by omega)
    rw [this]
    exact ⟨_, rfl, Own.nil, (Ext.refl _).push _⟩
  · have d1 : decide (id < 0) = false := decide_eq_false c1
    by_cases c2 : 65535 < id
    · have d2 : decide (65535 < id) = true := decide_eq_true c2
      simp only [d1, d2, go_sem, Hold.p, HoldK.k, HoldL.K, HoldL.body, Nat.reduceBEq, Nat.reduceAdd, List.getElem?_cons_zero, List.getElem?_cons_succ, Option.bind_some, List.map_cons, List.map_nil, Nat.zero_add, if_true, List.getD_cons_zero, List.getD_cons_succ, List.contains_cons, List.contains_nil, Nat.reduceBEq, Bool.or_true, Bool.true_or, Bool.or_false, Bool.false_or, Bool.not_true, Bool.not_false, true_and, and_true, rowA_whole, push_n, set_n, push_obj, set_obj, set_push, set_push_ne, set_set, Nat.add_assoc, Nat.left_eq_add, Nat.add_eq_left, Nat.add_left_cancel_iff, Nat.reduceEqDiff, stO_1s, stO_ws, boxA_s, one_bool, one_int, one_str, one_ptr, one_nilptr, one_slice, one_eslice, one_nilslice, one_func, one_iface, one_niliface, List.all_cons, List.all_nil, List.length_cons, List.length_nil, Nat.reduceLT, Nat.reduceEqDiff, Nat.reduceLeDiff, Bool.and_true, Nat.one_ne_zero, Nat.succ_ne_zero, reduceIte, if_false, List.getElem?_cons_zero, List.set_cons_zero, List.set_cons_succ]
      have : encQ id s = ([], 1) := if_neg (fun hx => by omega)
      rw [this]
      exact ⟨_, rfl, Own.nil, (Ext.refl _).push _⟩
    · have d2 : decide (65535 < id) = false := decide_eq_false c2
      simp only [d1, d2, go_sem, Hold.p, HoldK.k, HoldL.K, HoldL.body, Nat.reduceBEq, Nat.reduceAdd, List.getElem?_cons_zero, List.getElem?_cons_succ, Option.bind_some, List.map_cons, List.map_nil, Nat.zero_add, if_true, List.getD_cons_zero, List.getD_cons_succ, List.contains_cons, List.contains_nil, Nat.reduceBEq, Bool.or_true, Bool.true_or, Bool.or_false, Bool.false_or, Bool.not_true, Bool.not_false, true_and, and_true, rowA_whole, push_n, set_n, push_obj, set_obj, set_push, set_push_ne, set_set, Nat.add_assoc, Nat.left_eq_add, Nat.add_eq_left, Nat.add_left_cancel_iff, Nat.reduceEqDiff, stO_1s, stO_ws, boxA_s, one_bool, one_int, one_str, one_ptr, one_nilptr, one_slice, one_eslice, one_nilslice, one_func, one_iface, one_niliface, List.all_cons, List.all_nil, List.length_cons, List.length_nil, Nat.reduceLT, Nat.reduceEqDiff, Nat.reduceLeDiff, Bool.and_true, Nat.one_ne_zero, Nat.succ_ne_zero, reduceIte, if_false, List.getElem?_cons_zero, List.set_cons_zero, List.set_cons_succ]
      generalize hq_g0 : IH.push h (IObj.rows [[IV.int .i64 id, IV.str s]] 46 2 false) = g0
      have e_g0 : Ext h g0 := by rw [← hq_g0]; exact (Ext.refl _).push _
      have l_g0 : g0.n = h.n + 1 := by rw [← hq_g0]; rfl
      have bb : At g0 h.n (IObj.rows [[IV.int .i64 id, IV.str s]] 46 2 false) := by rw [← hq_g0]; exact At.new _ _
      clear hq_g0
      refine callA_of (implNameOK_c _ s hm) ?_
      rintro r h1 ⟨rfl, E1⟩
      have E := e_g0.trans E1
      have bb := bb.ext E1
      have le_E1 := E1.le
      cases q2 : okName s
      · simp only [q2, go_sem, Hold.p, HoldK.k, HoldL.K, HoldL.body, Nat.reduceBEq, Nat.reduceAdd, List.getElem?_cons_zero, List.getElem?_cons_succ, Option.bind_some, List.map_cons, List.map_nil, Nat.zero_add, if_true, List.getD_cons_zero, List.getD_cons_succ, List.contains_cons, List.contains_nil, Nat.reduceBEq, Bool.or_true, Bool.true_or, Bool.or_false, Bool.false_or, Bool.not_true, Bool.not_false, true_and, and_true, rowA_whole, push_n, set_n, push_obj, set_obj, set_push, set_push_ne, set_set, Nat.add_assoc, Nat.left_eq_add, Nat.add_eq_left, Nat.add_left_cancel_iff, Nat.reduceEqDiff, stO_1s, stO_ws, boxA_s, one_bool, one_int, one_str, one_ptr, one_nilptr, one_slice, one_eslice, one_nilslice, one_func, one_iface, one_niliface, List.all_cons, List.all_nil, List.length_cons, List.length_nil, Nat.reduceLT, Nat.reduceEqDiff, Nat.reduceLeDiff, Bool.and_true, Nat.one_ne_zero, Nat.succ_ne_zero, reduceIte, if_false, List.getElem?_cons_zero, List.set_cons_zero, List.set_cons_succ]
        have : encQ id s = ([], 1) := if_neg (fun hx => by rw [q2] at hx; exact Bool.noConfusion hx.2)
        rw [this]
        exact ⟨_, rfl, Own.nil, E⟩
      · obtain ⟨hne, hl⟩ := okName_ne q2
        have hdef : encQ id s = ((beB 2 id ++ [0, UInt8.ofNat s.length]) ++ s, 0) := if_pos ⟨by omega, q2⟩
        rw [hdef]
        have w1 := u8_len (n := s.length) (by omega)
        have hbl := bb.lt
        have hsn := strRows_ne hne
        have h2r : ∀ {x : IV} {lo hi : Nat} {g : IH}, Own lo hi g 5 1 x (strRows (beB 2 id) ++ [[IV.int .u8 0], [IV.int .u8 (UInt8.ofNat s.length).toNat]]) → Own lo hi g 5 1 x (strRows (beB 2 id ++ [0, UInt8.ofNat s.length])) := fun o => by rw [strRows_append]; exact o
        simp only [q2, bb.eq, w1, go_sem, Hold.p, HoldK.k, HoldL.K, HoldL.body, Nat.reduceBEq, Nat.reduceAdd, List.getElem?_cons_zero, List.getElem?_cons_succ, Option.bind_some, List.map_cons, List.map_nil, Nat.zero_add, if_true, List.getD_cons_zero, List.getD_cons_succ, List.contains_cons, List.contains_nil, Nat.reduceBEq, Bool.or_true, Bool.true_or, Bool.or_false, Bool.false_or, Bool.not_true, Bool.not_false, true_and, and_true, rowA_whole, push_n, set_n, push_obj, set_obj, set_push, set_push_ne, set_set, Nat.add_assoc, Nat.left_eq_add, Nat.add_eq_left, Nat.add_left_cancel_iff, Nat.reduceEqDiff, stO_1s, stO_ws, boxA_s, one_bool, one_int, one_str, one_ptr, one_nilptr, one_slice, one_eslice, one_nilslice, one_func, one_iface, one_niliface, List.all_cons, List.all_nil, List.length_cons, List.length_nil, Nat.reduceLT, Nat.reduceEqDiff, Nat.reduceLeDiff, Bool.and_true, Nat.one_ne_zero, Nat.succ_ne_zero, reduceIte, if_false, List.getElem?_cons_zero, List.set_cons_zero, List.set_cons_succ]
        refine either_of ?_ ?_
        · simp only [go_sem, Hold.p, HoldK.k, HoldL.K, HoldL.body, Nat.reduceBEq, Nat.reduceAdd, List.getElem?_cons_zero, List.getElem?_cons_succ, Option.bind_some, List.map_cons, List.map_nil, Nat.zero_add, if_true, List.getD_cons_zero, List.getD_cons_succ, List.contains_cons, List.contains_nil, Nat.reduceBEq, Bool.or_true, Bool.true_or, Bool.or_false, Bool.false_or, Bool.not_true, Bool.not_false, true_and, and_true, rowA_whole, push_n, set_n, push_obj, set_obj, set_push, set_push_ne, set_set, Nat.add_assoc, Nat.left_eq_add, Nat.add_eq_left, Nat.add_left_cancel_iff, Nat.reduceEqDiff, stO_1s, stO_ws, boxA_s, one_bool, one_int, one_str, one_ptr, one_nilptr, one_slice, one_eslice, one_nilslice, one_func, one_iface, one_niliface, List.all_cons, List.all_nil, List.length_cons, List.length_nil, Nat.reduceLT, Nat.reduceEqDiff, Nat.reduceLeDiff, Bool.and_true, Nat.one_ne_zero, Nat.succ_ne_zero, reduceIte, if_false, List.getElem?_cons_zero, List.set_cons_zero, List.set_cons_succ]
          refine callA_of (put_c h1 _ (Ext.refl _) .nilslice [] id 2 (by omega) (by omega) (by simp) (Nat.le_refl h1.n) (hi := h1.n) Own.nil (Nat.le_refl _)) ?_
          rintro x h2 ⟨ox, E2⟩
          rw [List.nil_append] at ox
          have bb := bb.ext E2
          have E := E.ext E2
          have le_E2 := E2.le
          have hn2 : (h.n = h2.n) = False := by simp; omega
          simp only [bb.eq, w1, bslA_2, hn2, srcO_2, go_sem, Hold.p, HoldK.k, HoldL.K, HoldL.body, Nat.reduceBEq, Nat.reduceAdd, List.getElem?_cons_zero, List.getElem?_cons_succ, Option.bind_some, List.map_cons, List.map_nil, Nat.zero_add, if_true, List.getD_cons_zero, List.getD_cons_succ, List.contains_cons, List.contains_nil, Nat.reduceBEq, Bool.or_true, Bool.true_or, Bool.or_false, Bool.false_or, Bool.not_true, Bool.not_false, true_and, and_true, rowA_whole, push_n, set_n, push_obj, set_obj, set_push, set_push_ne, set_set, Nat.add_assoc, Nat.left_eq_add, Nat.add_eq_left, Nat.add_left_cancel_iff, Nat.reduceEqDiff, stO_1s, stO_ws, boxA_s, one_bool, one_int, one_str, one_ptr, one_nilptr, one_slice, one_eslice, one_nilslice, one_func, one_iface, one_niliface, List.all_cons, List.all_nil, List.length_cons, List.length_nil, Nat.reduceLT, Nat.reduceEqDiff, Nat.reduceLeDiff, Bool.and_true, Nat.one_ne_zero, Nat.succ_ne_zero, reduceIte, if_false, List.getElem?_cons_zero, List.set_cons_zero, List.set_cons_succ]
          generalize hq_g3 : IH.push h2 (IObj.rows [[IV.int .u8 0], [IV.int .u8 (UInt8.ofNat s.length).toNat]] 5 1 false) = g3
          have e_g3 : Ext h2 g3 := by rw [← hq_g3]; exact (Ext.refl _).push _
          have l_g3 : g3.n = h2.n + 1 := by rw [← hq_g3]; rfl
          have ba : At g3 h2.n (IObj.rows [[IV.int .u8 0], [IV.int .u8 (UInt8.ofNat s.length).toNat]] 5 1 false) := by rw [← hq_g3]; exact At.new _ _
          clear hq_g3
          have ox := ox.ext e_g3
          have bb := bb.ext e_g3
          have E := E.ext e_g3
          refine ox.app (by simp) (by rw [strRows_len, beB_len]; simp) ?_
          intro v6 h6 o6 t6 n6 v6o v6c
          have o7 := h2r o6
          have hbl3 := bb.lt
          have bb := bb.turn ox (by omega) t6
          have E := E.turn ox (by omega) t6
          have le_t6 := t6.le
          simp only [bb.eq, go_sem, Hold.p, HoldK.k, HoldL.K, HoldL.body, Nat.reduceBEq, Nat.reduceAdd, List.getElem?_cons_zero, List.getElem?_cons_succ, Option.bind_some, List.map_cons, List.map_nil, Nat.zero_add, if_true, List.getD_cons_zero, List.getD_cons_succ, List.contains_cons, List.contains_nil, Nat.reduceBEq, Bool.or_true, Bool.true_or, Bool.or_false, Bool.false_or, Bool.not_true, Bool.not_false, true_and, and_true, rowA_whole, push_n, set_n, push_obj, set_obj, set_push, set_push_ne, set_set, Nat.add_assoc, Nat.left_eq_add, Nat.add_eq_left, Nat.add_left_cancel_iff, Nat.reduceEqDiff, stO_1s, stO_ws, boxA_s, one_bool, one_int, one_str, one_ptr, one_nilptr, one_slice, one_eslice, one_nilslice, one_func, one_iface, one_niliface, List.all_cons, List.all_nil, List.length_cons, List.length_nil, Nat.reduceLT, Nat.reduceEqDiff, Nat.reduceLeDiff, Bool.and_true, Nat.one_ne_zero, Nat.succ_ne_zero, reduceIte, if_false, List.getElem?_cons_zero, List.set_cons_zero, List.set_cons_succ]
          refine o7.app hsn (by simp [strRows_len, beB_len]; omega) ?_
          intro v8 h8 o8 t8 n8 v8o v8c
          have bb := bb.turn o7 (by omega) t8
          have E := E.turn o7 (by omega) t8
          have le_t8 := t8.le
          rw [← strRows_append] at o8
          simp only [bb.eq, go_sem, Hold.p, HoldK.k, HoldL.K, HoldL.body, Nat.reduceBEq, Nat.reduceAdd, List.getElem?_cons_zero, List.getElem?_cons_succ, Option.bind_some, List.map_cons, List.map_nil, Nat.zero_add, if_true, List.getD_cons_zero, List.getD_cons_succ, List.contains_cons, List.contains_nil, Nat.reduceBEq, Bool.or_true, Bool.true_or, Bool.or_false, Bool.false_or, Bool.not_true, Bool.not_false, true_and, and_true, rowA_whole, push_n, set_n, push_obj, set_obj, set_push, set_push_ne, set_set, Nat.add_assoc, Nat.left_eq_add, Nat.add_eq_left, Nat.add_left_cancel_iff, Nat.reduceEqDiff, stO_1s, stO_ws, boxA_s, one_bool, one_int, one_str, one_ptr, one_nilptr, one_slice, one_eslice, one_nilslice, one_func, one_iface, one_niliface, List.all_cons, List.all_nil, List.length_cons, List.length_nil, Nat.reduceLT, Nat.reduceEqDiff, Nat.reduceLeDiff, Bool.and_true, Nat.one_ne_zero, Nat.succ_ne_zero, reduceIte, if_false, List.getElem?_cons_zero, List.set_cons_zero, List.set_cons_succ]
          exact ⟨v8, rfl, o8.wide (by have := E.le; omega) (by omega) (Nat.le_refl _), E⟩
        · have hn2 : (h.n = h1.n) = False := by simp; omega
          simp only [bb.eq, w1, bslA_2, hn2, go_sem, Hold.p, HoldK.k, HoldL.K, HoldL.body, Nat.reduceBEq, Nat.reduceAdd, List.getElem?_cons_zero, List.getElem?_cons_succ, Option.bind_some, List.map_cons, List.map_nil, Nat.zero_add, if_true, List.getD_cons_zero, List.getD_cons_succ, List.contains_cons, List.contains_nil, Nat.reduceBEq, Bool.or_true, Bool.true_or, Bool.or_false, Bool.false_or, Bool.not_true, Bool.not_false, true_and, and_true, rowA_whole, push_n, set_n, push_obj, set_obj, set_push, set_push_ne, set_set, Nat.add_assoc, Nat.left_eq_add, Nat.add_eq_left, Nat.add_left_cancel_iff, Nat.reduceEqDiff, stO_1s, stO_ws, boxA_s, one_bool, one_int, one_str, one_ptr, one_nilptr, one_slice, one_eslice, one_nilslice, one_func, one_iface, one_niliface, List.all_cons, List.all_nil, List.length_cons, List.length_nil, Nat.reduceLT, Nat.reduceEqDiff, Nat.reduceLeDiff, Bool.and_true, Nat.one_ne_zero, Nat.succ_ne_zero, reduceIte, if_false, List.getElem?_cons_zero, List.set_cons_zero, List.set_cons_succ]
          generalize hq_g3 : IH.push h1 (IObj.rows [[IV.int .u8 0], [IV.int .u8 (UInt8.ofNat s.length).toNat]] 5 1 false) = g3
          have e_g3 : Ext h1 g3 := by rw [← hq_g3]; exact (Ext.refl _).push _
          have l_g3 : g3.n = h1.n + 1 := by rw [← hq_g3]; rfl
          have ba : At g3 h1.n (IObj.rows [[IV.int .u8 0], [IV.int .u8 (UInt8.ofNat s.length).toNat]] 5 1 false) := by rw [← hq_g3]; exact At.new _ _
          clear hq_g3
          have bb := bb.ext e_g3
          have E := E.ext e_g3
          refine callA_of (put_c g3 _ (Ext.refl _) .nilslice [] id 2 (by omega) (by omega) (by simp) (Nat.le_refl g3.n) (hi := g3.n) Own.nil (Nat.le_refl _)) ?_
          rintro x h2 ⟨ox, E2⟩
          rw [List.nil_append] at ox
          have bb := bb.ext E2
          have E := E.ext E2
          have ba := ba.ext E2
          have le_E2 := E2.le
          simp only [bb.eq, w1, ba.eq, srcO_2, go_sem, Hold.p, HoldK.k, HoldL.K, HoldL.body, Nat.reduceBEq, Nat.reduceAdd, List.getElem?_cons_zero, List.getElem?_cons_succ, Option.bind_some, List.map_cons, List.map_nil, Nat.zero_add, if_true, List.getD_cons_zero, List.getD_cons_succ, List.contains_cons, List.contains_nil, Nat.reduceBEq, Bool.or_true, Bool.true_or, Bool.or_false, Bool.false_or, Bool.not_true, Bool.not_false, true_and, and_true, rowA_whole, push_n, set_n, push_obj, set_obj, set_push, set_push_ne, set_set, Nat.add_assoc, Nat.left_eq_add, Nat.add_eq_left, Nat.add_left_cancel_iff, Nat.reduceEqDiff, stO_1s, stO_ws, boxA_s, one_bool, one_int, one_str, one_ptr, one_nilptr, one_slice, one_eslice, one_nilslice, one_func, one_iface, one_niliface, List.all_cons, List.all_nil, List.length_cons, List.length_nil, Nat.reduceLT, Nat.reduceEqDiff, Nat.reduceLeDiff, Bool.and_true, Nat.one_ne_zero, Nat.succ_ne_zero, reduceIte, if_false, List.getElem?_cons_zero, List.set_cons_zero, List.set_cons_succ]
          refine ox.app (by simp) (by rw [strRows_len, beB_len]; simp) ?_
          intro v6 h6 o6 t6 n6 v6o v6c
          have o7 := h2r o6
          have hbl3 := bb.lt
          have bb := bb.turn ox (by omega) t6
          have E := E.turn ox (by omega) t6
          have le_t6 := t6.le
          simp only [bb.eq, go_sem, Hold.p, HoldK.k, HoldL.K, HoldL.body, Nat.reduceBEq, Nat.reduceAdd, List.getElem?_cons_zero, List.getElem?_cons_succ, Option.bind_some, List.map_cons, List.map_nil, Nat.zero_add, if_true, List.getD_cons_zero, List.getD_cons_succ, List.contains_cons, List.contains_nil, Nat.reduceBEq, Bool.or_true, Bool.true_or, Bool.or_false, Bool.false_or, Bool.not_true, Bool.not_false, true_and, and_true, rowA_whole, push_n, set_n, push_obj, set_obj, set_push, set_push_ne, set_set, Nat.add_assoc, Nat.left_eq_add, Nat.add_eq_left, Nat.add_left_cancel_iff, Nat.reduceEqDiff, stO_1s, stO_ws, boxA_s, one_bool, one_int, one_str, one_ptr, one_nilptr, one_slice, one_eslice, one_nilslice, one_func, one_iface, one_niliface, List.all_cons, List.all_nil, List.length_cons, List.length_nil, Nat.reduceLT, Nat.reduceEqDiff, Nat.reduceLeDiff, Bool.and_true, Nat.one_ne_zero, Nat.succ_ne_zero, reduceIte, if_false, List.getElem?_cons_zero, List.set_cons_zero, List.set_cons_succ]
          refine o7.app hsn (by simp [strRows_len, beB_len]; omega) ?_
          intro v8 h8 o8 t8 n8 v8o v8c
          have bb := bb.turn o7 (by omega) t8
          have E := E.turn o7 (by omega) t8
          have le_t8 := t8.le
          rw [← strRows_append] at o8
          simp only [bb.eq, go_sem, Hold.p, HoldK.k, HoldL.K, HoldL.body, Nat.reduceBEq, Nat.reduceAdd, List.getElem?_cons_zero, List.getElem?_cons_succ, Option.bind_some, List.map_cons, List.map_nil, Nat.zero_add, if_true, List.getD_cons_zero, List.getD_cons_succ, List.contains_cons, List.contains_nil, Nat.reduceBEq, Bool.or_true, Bool.true_or, Bool.or_false, Bool.false_or, Bool.not_true, Bool.not_false, true_and, and_true, rowA_whole, push_n, set_n, push_obj, set_obj, set_push, set_push_ne, set_set, Nat.add_assoc, Nat.left_eq_add, Nat.add_eq_left, Nat.add_left_cancel_iff, Nat.reduceEqDiff, stO_1s, stO_ws, boxA_s, one_bool, one_int, one_str, one_ptr, one_nilptr, one_slice, one_eslice, one_nilslice, one_func, one_iface, one_niliface, List.all_cons, List.all_nil, List.length_cons, List.length_nil, Nat.reduceLT, Nat.reduceEqDiff, Nat.reduceLeDiff, Bool.and_true, Nat.one_ne_zero, Nat.succ_ne_zero, reduceIte, if_false, List.getElem?_cons_zero, List.set_cons_zero, List.set_cons_succ]
          exact ⟨v8, rfl, o8.wide (by have := E.le; omega) (by omega) (Nat.le_refl _), E⟩

theorem encQ_len {id : Int} {s : List UInt8} : (encQ id s).1.length ≤ 1000 := by
  unfold encQ
  split
  · rename_i h
    have := (okName_ne h.2).2
    simp [beB_len]; omega
  · simp

end Go.Proofs.YtdpaehdolhdjdaaDoor


namespace Go.Proofs.YtdpaehdolhdjdaaDoor
open Go Go.IW

set_option maxRecDepth 20000 in
theorem l03Num_c (h : IH) (v : IV) (bs : List UInt8) (hs : SlR h 1 v (strRows bs)) (hl : bs.length ≤ 7) : ICalls Tryd.prog 91 [v] h fun r h' => r = .int .i64 (numB bs) ∧ h' = h := by
  refine icalls (.of ok91) (Nat.le_of_ble_eq_true rfl) ?_
  unfold c91
  have hlen := hs.lenF
  rw [strRows_len] at hlen
  simp only [go_sem, Hold.p, HoldK.k, HoldL.K, HoldL.body, Nat.reduceBEq, Nat.reduceAdd, List.getElem?_cons_zero, List.getElem?_cons_succ, Option.bind_some, List.map_cons, List.map_nil, Nat.zero_add, if_true, List.getD_cons_zero, List.getD_cons_succ, List.contains_cons, List.contains_nil, Nat.reduceBEq, Bool.or_true, Bool.true_or, Bool.or_false, Bool.false_or, Bool.not_true, Bool.not_false, true_and, and_true]
  refine loop_at (fun n e h' => ∃ k, n = bs.length - k ∧ k ≤ bs.length ∧ e 0 = v ∧ e 3 = .int .i64 (numB (bs.take k)) ∧ e 4 = .int .i64 (k : Nat) ∧ h' = h) bs.length ?_ ?_
  · refine ⟨0, by omega, by omega, ?_⟩
    simp only [go_sem, Hold.p, HoldK.k, HoldL.K, HoldL.body, Nat.reduceBEq, Nat.reduceAdd, List.getElem?_cons_zero, List.getElem?_cons_succ, Option.bind_some, List.map_cons, List.map_nil, Nat.zero_add, if_true, List.getD_cons_zero, List.getD_cons_succ, List.contains_cons, List.contains_nil, Nat.reduceBEq, Bool.or_true, Bool.true_or, Bool.or_false, Bool.false_or, Bool.not_true, Bool.not_false, true_and, and_true]
    exact ⟨rfl, rfl⟩
  · rintro n e h' ⟨k, rfl, hk, e0, e3, e4, rfl⟩
    simp only [e0, e3, e4, hlen, go_sem, Hold.p, HoldK.k, HoldL.K, HoldL.body, Nat.reduceBEq, Nat.reduceAdd, List.getElem?_cons_zero, List.getElem?_cons_succ, Option.bind_some, List.map_cons, List.map_nil, Nat.zero_add, if_true, List.getD_cons_zero, List.getD_cons_succ, List.contains_cons, List.contains_nil, Nat.reduceBEq, Bool.or_true, Bool.true_or, Bool.or_false, Bool.false_or, Bool.not_true, Bool.not_false, true_and, and_true]
    refine test_dec (fun hb => ?_) (fun hb => ?_)
    · have hlt' : k < bs.length := by omega
      have hkp : bs[k]? = some bs[k] := List.getElem?_eq_getElem hlt'
      generalize bs[k] = p at hkp
      obtain ⟨l, j, hia, hll, hrow⟩ := hs.at (m := k) (strRows_at hkp) .i64
      have hc := cellO_row hrow
      have hbd := numB_bound 6 (bs.take k) (by simp; omega)
      have hpb : ((p.toNat : Nat) : Int) < 256 := by have := p.toNat_lt; omega
      have w1 : wr .i64 (numB (bs.take k) * 256) = numB (bs.take k) * 256 := wr64 _ (by omega)
      have w2 : wr .i64 ((p.toNat : Nat) : Int) = ((p.toNat : Nat) : Int) := wr64 _ (by omega)
      have w3 : wr .i64 (numB (bs.take k) * 256 + (p.toNat : Int)) = numB (bs.take (k + 1)) := by
        rw [List.take_add_one, hkp]
        simp only [Option.toList_some]
        rw [numB_snoc, wr64 _ (by omega)]
      simp only [e0, e3, e4, hia, hc, w1, w2, w3, go_sem, Hold.p, HoldK.k, HoldL.K, HoldL.body, Nat.reduceBEq, Nat.reduceAdd, List.getElem?_cons_zero, List.getElem?_cons_succ, Option.bind_some, List.map_cons, List.map_nil, Nat.zero_add, if_true, List.getD_cons_zero, List.getD_cons_succ, List.contains_cons, List.contains_nil, Nat.reduceBEq, Bool.or_true, Bool.true_or, Bool.or_false, Bool.false_or, Bool.not_true, Bool.not_false, true_and, and_true]
      exact ⟨_, by omega, k + 1, rfl, by omega, rfl, wr64_succ k (by omega)⟩
    · obtain rfl : k = bs.length := by omega
      rw [List.take_length] at e3
      simp only [e0, e3, e4, go_sem, Hold.p, HoldK.k, HoldL.K, HoldL.body, Nat.reduceBEq, Nat.reduceAdd, List.getElem?_cons_zero, List.getElem?_cons_succ, Option.bind_some, List.map_cons, List.map_nil, Nat.zero_add, if_true, List.getD_cons_zero, List.getD_cons_succ, List.contains_cons, List.contains_nil, Nat.reduceBEq, Bool.or_true, Bool.true_or, Bool.or_false, Bool.false_or, Bool.not_true, Bool.not_false, true_and, and_true]

set_option maxRecDepth 20000 in
theorem get_c (h : IH) (v : IV) (bs : List UInt8) (hs : SlR h 1 v (strRows bs)) (hl : bs.length ≤ 7) : ICalls Tryd.prog 130 [v] h fun r h' => r = .int .i64 (numB bs) ∧ h' = h := by
  refine icalls (.of ok130) (Nat.le_of_ble_eq_true rfl) ?_
  unfold c130
  have hlen := hs.lenF
  rw [strRows_len] at hlen
  simp only [hlen, go_sem, Hold.p, HoldK.k, HoldL.K, HoldL.body, Nat.reduceBEq, Nat.reduceAdd, List.getElem?_cons_zero, List.getElem?_cons_succ, Option.bind_some, List.map_cons, List.map_nil, Nat.zero_add, if_true, List.getD_cons_zero, List.getD_cons_succ, List.contains_cons, List.contains_nil, Nat.reduceBEq, Bool.or_true, Bool.true_or, Bool.or_false, Bool.false_or, Bool.not_true, Bool.not_false, true_and, and_true]
  refine loop_at (fun n e h' => ∃ k, n = bs.length - k ∧ k ≤ bs.length ∧ e 6 = v ∧ e 7 = .int .i64 (bs.length : Nat) ∧ e 3 = .int .i64 (numB (bs.take k)) ∧ e 8 = .int .i64 (k : Nat) ∧ h' = h) bs.length ?_ ?_
  · refine ⟨0, by omega, by omega, ?_⟩
    simp only [go_sem, Hold.p, HoldK.k, HoldL.K, HoldL.body, Nat.reduceBEq, Nat.reduceAdd, List.getElem?_cons_zero, List.getElem?_cons_succ, Option.bind_some, List.map_cons, List.map_nil, Nat.zero_add, if_true, List.getD_cons_zero, List.getD_cons_succ, List.contains_cons, List.contains_nil, Nat.reduceBEq, Bool.or_true, Bool.true_or, Bool.or_false, Bool.false_or, Bool.not_true, Bool.not_false, true_and, and_true]
    exact ⟨rfl, rfl⟩
  · rintro n e h' ⟨k, rfl, hk, e6, e7, e3, e8, rfl⟩
    simp only [e6, e7, e3, e8, go_sem, Hold.p, HoldK.k, HoldL.K, HoldL.body, Nat.reduceBEq, Nat.reduceAdd, List.getElem?_cons_zero, List.getElem?_cons_succ, Option.bind_some, List.map_cons, List.map_nil, Nat.zero_add, if_true, List.getD_cons_zero, List.getD_cons_succ, List.contains_cons, List.contains_nil, Nat.reduceBEq, Bool.or_true, Bool.true_or, Bool.or_false, Bool.false_or, Bool.not_true, Bool.not_false, true_and, and_true]
    refine test_dec (fun hb => ?_) (fun hb => ?_)
    · have hlt' : k < bs.length := by omega
      have hkp : bs[k]? = some bs[k] := List.getElem?_eq_getElem hlt'
      generalize bs[k] = p at hkp
      obtain ⟨l, j, hia, hll, hrow⟩ := hs.at (m := k) (strRows_at hkp) .i64
      have hc := cellO_row hrow
      have hbd := numB_bound 6 (bs.take k) (by simp; omega)
      have hpb : ((p.toNat : Nat) : Int) < 256 := by have := p.toNat_lt; omega
      have w0 := ib_shl .i64 (numB (bs.take k)) 8 .u64 (by omega)
      have hmin : min (8 : Int).toNat IntKind.i64.bits = 8 := rfl
      rw [hmin] at w0
      have w1 : wr .i64 (numB (bs.take k) * 2 ^ 8) = numB (bs.take k) * 256 := wr64 _ (by omega)
      rw [w1] at w0
      have w2 : wr .i64 ((p.toNat : Nat) : Int) = ((p.toNat : Nat) : Int) := wr64 _ (by omega)
      have w3 : IW.bits .or .i64 (numB (bs.take k) * 256) (p.toNat : Int) = numB (bs.take (k + 1)) := by
        rw [or_join (by omega) (by omega) (by omega) hpb, List.take_add_one, hkp]
        simp only [Option.toList_some]
        rw [numB_snoc]
      simp only [e6, e7, e3, e8, hia, hc, w0, w2, w3, go_sem, Hold.p, HoldK.k, HoldL.K, HoldL.body, Nat.reduceBEq, Nat.reduceAdd, List.getElem?_cons_zero, List.getElem?_cons_succ, Option.bind_some, List.map_cons, List.map_nil, Nat.zero_add, if_true, List.getD_cons_zero, List.getD_cons_succ, List.contains_cons, List.contains_nil, Nat.reduceBEq, Bool.or_true, Bool.true_or, Bool.or_false, Bool.false_or, Bool.not_true, Bool.not_false, true_and, and_true]
      exact ⟨_, by omega, k + 1, rfl, by omega, rfl, wr64_succ k (by omega)⟩
    · obtain rfl : k = bs.length := by omega
      rw [List.take_length] at e3
      simp only [e6, e7, e3, e8, go_sem, Hold.p, HoldK.k, HoldL.K, HoldL.body, Nat.reduceBEq, Nat.reduceAdd, List.getElem?_cons_zero, List.getElem?_cons_succ, Option.bind_some, List.map_cons, List.map_nil, Nat.zero_add, if_true, List.getD_cons_zero, List.getD_cons_succ, List.contains_cons, List.contains_nil, Nat.reduceBEq, Bool.or_true, Bool.true_or, Bool.or_false, Bool.false_or, Bool.not_true, Bool.not_false, true_and, and_true]

/-! Bytes that are taken off the front. -/
def takeD (bs : List UInt8) (sh : Bool) (n : Nat) : List UInt8 × List UInt8 × Bool :=
  if bs.length < n then (List.replicate (min n 8) 0, [], true) else (bs.take n, bs.drop n, sh)
structure BitesAt (h : IH) (p : Nat) (bs : List UInt8) (sh : Bool) : Prop where
  box : ∃ v, At h p (.rows [[v, .bool sh]] 130 2 false) ∧ SlR h 1 v (strRows bs) ∧ ∀ l i m, v = .slice l i m → l < p

theorem islc_at {h : IH} {sz a b : Nat} {v : IV} {l i m : Nat} {mx : Option Nat} (e : islc h sz v a b mx = some (.slice l i m)) : ∃ i0 m0, v = .slice l i0 m0 := by
  cases v with
  | slice l0 i0 m0 =>
    simp only [islc] at e
    split at e
    · split at e
      · split at e
        · cases e
        · cases e; exact ⟨i0, m0, rfl⟩
      · split at e
        · split at e
          · cases e
          · cases e; exact ⟨i0, m0, rfl⟩
        · cases e
    · cases e
  | eslice z => simp only [islc] at e; split at e <;> cases e
  | nilslice => simp only [islc] at e; split at e <;> cases e
  | _ => cases e
theorem slcF_at {h : IH} {sz : Nat} {v : IV} {l i m : Nat} {lo hi : Option IV} (e : slcF h sz v lo hi = some (.slice l i m)) : ∃ i0 m0, v = .slice l i0 m0 := by
  unfold slcF at e
  split at e
  · split at e
    · split at e
      · exact islc_at e
      · cases e
    · cases e
  · cases e

theorem strRows_take (a : List UInt8) (n : Nat) : (strRows a).take n = strRows (a.take n) := by simp [strRows, List.map_take]
theorem strRows_drop (a : List UInt8) (n : Nat) : (strRows a).drop n = strRows (a.drop n) := by simp [strRows, List.map_drop]

set_option maxRecDepth 20000 in
theorem take_c (h : IH) (p n : Nat) (bs : List UInt8) (sh : Bool) (hb : BitesAt h p bs sh) (hn : n ≤ 255) (hl : bs.length ≤ 1048576) :
    ICalls Tryd.prog 83 [.ptr p 0 0, .int .i64 n] h fun r h' => SlR h' 1 r (strRows (takeD bs sh n).1) ∧ BitesAt h' p (takeD bs sh n).2.1 (takeD bs sh n).2.2 ∧ But p .nilslice h h' := by
  obtain ⟨v, ha, hs, hlow⟩ := hb.box
  refine icalls (.of ok83) (Nat.le_of_ble_eq_true rfl) ?_
  unfold c83
  have hlen := hs.lenF
  rw [strRows_len] at hlen
  have hae := ha.eq
  have hal := ha.lt
  by_cases hc : bs.length < n
  · have hd : decide ((bs.length : Int) < (n : Int)) = true := decide_eq_true (by omega)
    have hdef : takeD bs sh n = (List.replicate (min n 8) 0, [], true) := if_pos hc
    rw [hdef]
    have hmn : min (n : Int) 8 = ((min n 8 : Nat) : Int) := by omega
    simp only [hae, hlen, hd, hmn, go_sem, Hold.p, HoldK.k, HoldL.K, HoldL.body, Nat.reduceBEq, Nat.reduceAdd, List.getElem?_cons_zero, List.getElem?_cons_succ, Option.bind_some, List.map_cons, List.map_nil, Nat.zero_add, if_true, List.getD_cons_zero, List.getD_cons_succ, List.contains_cons, List.contains_nil, Nat.reduceBEq, Bool.or_true, Bool.true_or, Bool.or_false, Bool.false_or, Bool.not_true, Bool.not_false, true_and, and_true, rowA_whole, push_n, set_n, push_obj, set_obj, set_push, set_push_ne, set_set, Nat.add_assoc, Nat.left_eq_add, Nat.add_eq_left, Nat.add_left_cancel_iff, Nat.reduceEqDiff, stO_1s, stO_ws, boxA_s, one_bool, one_int, one_str, one_ptr, one_nilptr, one_slice, one_eslice, one_nilslice, one_func, one_iface, one_niliface, List.all_cons, List.all_nil, List.length_cons, List.length_nil, Nat.reduceLT, Nat.reduceEqDiff, Nat.reduceLeDiff, Bool.and_true, Nat.one_ne_zero, Nat.succ_ne_zero, reduceIte, if_false, List.getElem?_cons_zero, List.set_cons_zero, List.set_cons_succ]
    refine mksA_of (by omega) (by omega) (by omega) ?_
    simp only [go_sem, Hold.p, HoldK.k, HoldL.K, HoldL.body, Nat.reduceBEq, Nat.reduceAdd, List.getElem?_cons_zero, List.getElem?_cons_succ, Option.bind_some, List.map_cons, List.map_nil, Nat.zero_add, if_true, List.getD_cons_zero, List.getD_cons_succ, List.contains_cons, List.contains_nil, Nat.reduceBEq, Bool.or_true, Bool.true_or, Bool.or_false, Bool.false_or, Bool.not_true, Bool.not_false, true_and, and_true, rowA_whole, push_n, set_n, push_obj, set_obj, set_push, set_push_ne, set_set, Nat.add_assoc, Nat.left_eq_add, Nat.add_eq_left, Nat.add_left_cancel_iff, Nat.reduceEqDiff, stO_1s, stO_ws, boxA_s, one_bool, one_int, one_str, one_ptr, one_nilptr, one_slice, one_eslice, one_nilslice, one_func, one_iface, one_niliface, List.all_cons, List.all_nil, List.length_cons, List.length_nil, Nat.reduceLT, Nat.reduceEqDiff, Nat.reduceLeDiff, Bool.and_true, Nat.one_ne_zero, Nat.succ_ne_zero, reduceIte, if_false, List.getElem?_cons_zero, List.set_cons_zero, List.set_cons_succ]
    have B : But p .nilslice h (h.set p (.rows [[.nilslice, .bool true]] 130 2 false)) := (But.refl _ _ _).set _
    have hrep : List.replicate (min n 8) [IV.int .u8 0] = strRows (List.replicate (min n 8) 0) := by simp [strRows]
    have hpn : (p = h.n) = False := by simp; omega
    refine ⟨?_, ⟨⟨.nilslice, ⟨by simp only [push_n, set_n]; omega, by simp [push_obj, set_obj, set_n, hpn]⟩, SlR.nil _ _, fun l i m e => by cases e⟩⟩, ?_⟩
    · refine SlR.whole (e := 5) (ro := false) (by rw [hrep]; exact push_new _ _) (by rw [strRows_len]; simp) (by simp only [push_n, set_n]; omega)
    · refine B.trans (But.of_ext ((Ext.refl _).push _))
  · have hd : decide ((bs.length : Int) < (n : Int)) = false := decide_eq_false (by omega)
    have hdef : takeD bs sh n = (bs.take n, bs.drop n, sh) := if_neg hc
    rw [hdef]
    obtain ⟨v1, hv1, hs1⟩ := hs.hi (b := n) (q := .i64) (by rw [strRows_len]; omega)
    obtain ⟨v2, hv2, hs2⟩ := hs.lo (a := n) (q := .i64) (by rw [strRows_len]; omega)
    rw [strRows_take] at hs1
    rw [strRows_drop] at hs2
    have hv2o := hs2.one
    have hv2c := hs2.cells
    simp only [hae, hlen, hd, hv1, hv2, Option.map_some, Option.map_none, hv2o, hv2c, go_sem, Hold.p, HoldK.k, HoldL.K, HoldL.body, Nat.reduceBEq, Nat.reduceAdd, List.getElem?_cons_zero, List.getElem?_cons_succ, Option.bind_some, List.map_cons, List.map_nil, Nat.zero_add, if_true, List.getD_cons_zero, List.getD_cons_succ, List.contains_cons, List.contains_nil, Nat.reduceBEq, Bool.or_true, Bool.true_or, Bool.or_false, Bool.false_or, Bool.not_true, Bool.not_false, true_and, and_true, rowA_whole, push_n, set_n, push_obj, set_obj, set_push, set_push_ne, set_set, Nat.add_assoc, Nat.left_eq_add, Nat.add_eq_left, Nat.add_left_cancel_iff, Nat.reduceEqDiff, stO_1s, stO_ws, boxA_s, one_bool, one_int, one_str, one_ptr, one_nilptr, one_slice, one_eslice, one_nilslice, one_func, one_iface, one_niliface, List.all_cons, List.all_nil, List.length_cons, List.length_nil, Nat.reduceLT, Nat.reduceEqDiff, Nat.reduceLeDiff, Bool.and_true, Nat.one_ne_zero, Nat.succ_ne_zero, reduceIte, if_false, List.getElem?_cons_zero, List.set_cons_zero, List.set_cons_succ]
    have B : But p .nilslice h (h.set p (.rows [[v2, .bool sh]] 130 2 false)) := (But.refl _ _ _).set _
    exact ⟨hs1.but B hae (by omega), ⟨⟨v2, ha.here, hs2.but B hae (by omega), fun l i m e => by subst e; obtain ⟨i0, m0, e0⟩ := slcF_at hv2; exact hlow _ _ _ e0⟩⟩, B⟩

set_option maxRecDepth 20000 in
theorem num_c (h : IH) (p n : Nat) (bs : List UInt8) (sh : Bool) (hb : BitesAt h p bs sh) (hn : n ≤ 7) (hl : bs.length ≤ 1048576) :
    ICalls Tryd.prog 82 [.ptr p 0 0, .int .i64 n] h fun r h' => r = .int .i64 (numB (takeD bs sh n).1) ∧ BitesAt h' p (takeD bs sh n).2.1 (takeD bs sh n).2.2 ∧ But p .nilslice h h' := by
  refine icalls (.of ok82) (Nat.le_of_ble_eq_true rfl) ?_
  unfold c82
  simp only [go_sem, Hold.p, HoldK.k, HoldL.K, HoldL.body, Nat.reduceBEq, Nat.reduceAdd, List.getElem?_cons_zero, List.getElem?_cons_succ, Option.bind_some, List.map_cons, List.map_nil, Nat.zero_add, if_true, List.getD_cons_zero, List.getD_cons_succ, List.contains_cons, List.contains_nil, Nat.reduceBEq, Bool.or_true, Bool.true_or, Bool.or_false, Bool.false_or, Bool.not_true, Bool.not_false, true_and, and_true, rowA_whole, push_n, set_n, push_obj, set_obj, set_push, set_push_ne, set_set, Nat.add_assoc, Nat.left_eq_add, Nat.add_eq_left, Nat.add_left_cancel_iff, Nat.reduceEqDiff, stO_1s, stO_ws, boxA_s, one_bool, one_int, one_str, one_ptr, one_nilptr, one_slice, one_eslice, one_nilslice, one_func, one_iface, one_niliface, List.all_cons, List.all_nil, List.length_cons, List.length_nil, Nat.reduceLT, Nat.reduceEqDiff, Nat.reduceLeDiff, Bool.and_true, Nat.one_ne_zero, Nat.succ_ne_zero, reduceIte, if_false, List.getElem?_cons_zero, List.set_cons_zero, List.set_cons_succ]
  refine callA_of (take_c h p n bs sh hb (by omega) hl) ?_
  rintro r h1 ⟨hs, hb1, B⟩
  simp only [go_sem, Hold.p, HoldK.k, HoldL.K, HoldL.body, Nat.reduceBEq, Nat.reduceAdd, List.getElem?_cons_zero, List.getElem?_cons_succ, Option.bind_some, List.map_cons, List.map_nil, Nat.zero_add, if_true, List.getD_cons_zero, List.getD_cons_succ, List.contains_cons, List.contains_nil, Nat.reduceBEq, Bool.or_true, Bool.true_or, Bool.or_false, Bool.false_or, Bool.not_true, Bool.not_false, true_and, and_true, rowA_whole, push_n, set_n, push_obj, set_obj, set_push, set_push_ne, set_set, Nat.add_assoc, Nat.left_eq_add, Nat.add_eq_left, Nat.add_left_cancel_iff, Nat.reduceEqDiff, stO_1s, stO_ws, boxA_s, one_bool, one_int, one_str, one_ptr, one_nilptr, one_slice, one_eslice, one_nilslice, one_func, one_iface, one_niliface, List.all_cons, List.all_nil, List.length_cons, List.length_nil, Nat.reduceLT, Nat.reduceEqDiff, Nat.reduceLeDiff, Bool.and_true, Nat.one_ne_zero, Nat.succ_ne_zero, reduceIte, if_false, List.getElem?_cons_zero, List.set_cons_zero, List.set_cons_succ]
  refine callA_of (get_c h1 r _ hs (by unfold takeD; split <;> simp <;> omega)) ?_
  rintro r2 h2 ⟨rfl, rfl⟩
  simp only [go_sem, Hold.p, HoldK.k, HoldL.K, HoldL.body, Nat.reduceBEq, Nat.reduceAdd, List.getElem?_cons_zero, List.getElem?_cons_succ, Option.bind_some, List.map_cons, List.map_nil, Nat.zero_add, if_true, List.getD_cons_zero, List.getD_cons_succ, List.contains_cons, List.contains_nil, Nat.reduceBEq, Bool.or_true, Bool.true_or, Bool.or_false, Bool.false_or, Bool.not_true, Bool.not_false, true_and, and_true, rowA_whole, push_n, set_n, push_obj, set_obj, set_push, set_push_ne, set_set, Nat.add_assoc, Nat.left_eq_add, Nat.add_eq_left, Nat.add_left_cancel_iff, Nat.reduceEqDiff, stO_1s, stO_ws, boxA_s, one_bool, one_int, one_str, one_ptr, one_nilptr, one_slice, one_eslice, one_nilslice, one_func, one_iface, one_niliface, List.all_cons, List.all_nil, List.length_cons, List.length_nil, Nat.reduceLT, Nat.reduceEqDiff, Nat.reduceLeDiff, Bool.and_true, Nat.one_ne_zero, Nat.succ_ne_zero, reduceIte, if_false, List.getElem?_cons_zero, List.set_cons_zero, List.set_cons_succ]
  exact ⟨hb1, B⟩
end Go.Proofs.YtdpaehdolhdjdaaDoor


namespace Go.Proofs.YtdpaehdolhdjdaaDoor
open Go Go.IW

theorem getD_at {bs : List UInt8} {k : Nat} (hk : k < bs.length) : bs[k]? = some (bs.getD k 0) := by
  rw [List.getD_eq_getElem?_getD, List.getElem?_eq_getElem hk]; rfl

/-- A text that begins with its length. -/
def textAt (bs : List UInt8) (at_ : Nat) : List UInt8 × Int :=
  if bs.length ≤ at_ ∨ bs.length < at_ + 1 + (bs.getD at_ 0).toNat then ([], -1) else ((bs.take (at_ + 1 + (bs.getD at_ 0).toNat)).drop (at_ + 1), ((at_ + 1 + (bs.getD at_ 0).toNat : Nat) : Int))

set_option maxRecDepth 20000 in
theorem l19Text_c (h : IH) (v : IV) (bs : List UInt8) (a : Nat) (hs : SlR h 1 v (strRows bs)) (hl : bs.length ≤ 1048576) (hal : a ≤ 1048576) : ICalls Tryd.prog 90 [v, .int .i64 a] h fun r h' => r = .tuple [.str (textAt bs a).1, .int .i64 (textAt bs a).2] ∧ h' = h := by
  refine icalls (.of ok90) (Nat.le_of_ble_eq_true rfl) ?_
  unfold c90
  have hlen := hs.lenF
  rw [strRows_len] at hlen
  have d0 : decide ((a : Int) < 0) = false := decide_eq_false (by omega)
  by_cases c1 : bs.length ≤ a
  · have d1 : decide ((bs.length : Int) ≤ (a : Int)) = true := decide_eq_true (by omega)
    simp only [d0, hlen, d1, go_sem, Hold.p, HoldK.k, HoldL.K, HoldL.body, Nat.reduceBEq, Nat.reduceAdd, List.getElem?_cons_zero, List.getElem?_cons_succ, Option.bind_some, List.map_cons, List.map_nil, Nat.zero_add, if_true, List.getD_cons_zero, List.getD_cons_succ, List.contains_cons, List.contains_nil, Nat.reduceBEq, Bool.or_true, Bool.true_or, Bool.or_false, Bool.false_or, Bool.not_true, Bool.not_false, true_and, and_true, rowA_whole, push_n, set_n, push_obj, set_obj, set_push, set_push_ne, set_set, Nat.add_assoc, Nat.left_eq_add, Nat.add_eq_left, Nat.add_left_cancel_iff, Nat.reduceEqDiff, stO_1s, stO_ws, boxA_s, one_bool, one_int, one_str, one_ptr, one_nilptr, one_slice, one_eslice, one_nilslice, one_func, one_iface, one_niliface, List.all_cons, List.all_nil, List.length_cons, List.length_nil, Nat.reduceLT, Nat.reduceEqDiff, Nat.reduceLeDiff, Bool.and_true, Nat.one_ne_zero, Nat.succ_ne_zero, reduceIte, if_false, List.getElem?_cons_zero, List.set_cons_zero, List.set_cons_succ]
    unfold textAt
    rw [if_pos (.inl c1)]
  · have d1 : decide ((bs.length : Int) ≤ (a : Int)) = false := decide_eq_false (by omega)
    have hkp := getD_at (bs := bs) (k := a) (by omega)
    generalize hb : bs.getD a 0 = b at hkp
    have hb256 := b.toNat_lt
    obtain ⟨l, j, hia, hll, hrow⟩ := hs.at (m := a) (strRows_at hkp) .i64
    have hc := cellO_row hrow
    have w2 : wr .i64 ((b.toNat : Nat) : Int) = ((b.toNat : Nat) : Int) := wr64 _ (by omega)
    obtain ⟨en, hen⟩ : ∃ en, en = a + 1 + b.toNat := ⟨_, rfl⟩
    have w1' : wr .i64 ((a : Int) + 1) = ((a + 1 : Nat) : Int) := by rw [wr64 _ (by omega)]; omega
    have w3' : wr .i64 (((a + 1 : Nat) : Int) + (b.toNat : Int)) = (en : Int) := by rw [wr64 _ (by omega)]; omega
    unfold textAt
    rw [hb, ← hen]
    by_cases c2 : bs.length < en
    · have d2 : decide ((bs.length : Int) < (en : Int)) = true := decide_eq_true (by omega)
      simp only [d0, hlen, d1, hia, hc, w1', w2, w3', d2, go_sem, Hold.p, HoldK.k, HoldL.K, HoldL.body, Nat.reduceBEq, Nat.reduceAdd, List.getElem?_cons_zero, List.getElem?_cons_succ, Option.bind_some, List.map_cons, List.map_nil, Nat.zero_add, if_true, List.getD_cons_zero, List.getD_cons_succ, List.contains_cons, List.contains_nil, Nat.reduceBEq, Bool.or_true, Bool.true_or, Bool.or_false, Bool.false_or, Bool.not_true, Bool.not_false, true_and, and_true, rowA_whole, push_n, set_n, push_obj, set_obj, set_push, set_push_ne, set_set, Nat.add_assoc, Nat.left_eq_add, Nat.add_eq_left, Nat.add_left_cancel_iff, Nat.reduceEqDiff, stO_1s, stO_ws, boxA_s, one_bool, one_int, one_str, one_ptr, one_nilptr, one_slice, one_eslice, one_nilslice, one_func, one_iface, one_niliface, List.all_cons, List.all_nil, List.length_cons, List.length_nil, Nat.reduceLT, Nat.reduceEqDiff, Nat.reduceLeDiff, Bool.and_true, Nat.one_ne_zero, Nat.succ_ne_zero, reduceIte, if_false, List.getElem?_cons_zero, List.set_cons_zero, List.set_cons_succ]
      rw [if_pos (.inr c2)]
    · have d2 : decide ((bs.length : Int) < (en : Int)) = false := decide_eq_false (by omega)
      obtain ⟨v1, hv1, hs1⟩ := hs.lohi (a := a + 1) (b := en) (q := .i64) (q' := .i64) (by omega) (by rw [strRows_len]; omega)
      rw [strRows_take, strRows_drop] at hs1
      have hb2 := hs1.b2s
      simp only [d0, hlen, d1, hia, hc, w1', w2, w3', d2, hv1, hb2, Option.map_some, go_sem, Hold.p, HoldK.k, HoldL.K, HoldL.body, Nat.reduceBEq, Nat.reduceAdd, List.getElem?_cons_zero, List.getElem?_cons_succ, Option.bind_some, List.map_cons, List.map_nil, Nat.zero_add, if_true, List.getD_cons_zero, List.getD_cons_succ, List.contains_cons, List.contains_nil, Nat.reduceBEq, Bool.or_true, Bool.true_or, Bool.or_false, Bool.false_or, Bool.not_true, Bool.not_false, true_and, and_true, rowA_whole, push_n, set_n, push_obj, set_obj, set_push, set_push_ne, set_set, Nat.add_assoc, Nat.left_eq_add, Nat.add_eq_left, Nat.add_left_cancel_iff, Nat.reduceEqDiff, stO_1s, stO_ws, boxA_s, one_bool, one_int, one_str, one_ptr, one_nilptr, one_slice, one_eslice, one_nilslice, one_func, one_iface, one_niliface, List.all_cons, List.all_nil, List.length_cons, List.length_nil, Nat.reduceLT, Nat.reduceEqDiff, Nat.reduceLeDiff, Bool.and_true, Nat.one_ne_zero, Nat.succ_ne_zero, reduceIte, if_false, List.getElem?_cons_zero, List.set_cons_zero, List.set_cons_succ]
      rw [if_neg (by omega)]

/-- What DecodeQuery answers: number, name, code. -/
def decQ (bs : List UInt8) : Int × List UInt8 × Int :=
  if bs.length < 4 ∨ bs.length < 4 + (bs.getD 3 0).toNat then (0, [], 2)
  else if 4 + (bs.getD 3 0).toNat < bs.length then (0, [], 5)
  else if bs.getD 2 0 ≠ 0 then (0, [], 9)
  else if okName ((bs.take (4 + (bs.getD 3 0).toNat)).drop 4) = true then (numB (bs.take 2), (bs.take (4 + (bs.getD 3 0).toNat)).drop 4, 0) else (0, [], 6)
def QueryRes (h h' : IH) (r : IV) (x : Int × List UInt8 × Int) : Prop := r = .tuple [.agg [.int .i64 x.1, .str x.2.1], .int .i64 x.2.2] ∧ Ext h h'

set_option maxRecDepth 20000 in
theorem specDecodeQuery_c (h : IH) (v : IV) (bs : List UInt8) (hs : SlR h 1 v (strRows bs)) (hl : bs.length ≤ 1048576) : ICalls Tryd.prog 36 [v] h fun r h' => QueryRes h h' r (decQ bs) := by
  refine icalls (.of ok36) (Nat.le_of_ble_eq_true rfl) ?_
  unfold c36
  have hlen := hs.lenF
  rw [strRows_len] at hlen
  simp only [go_sem, Hold.p, HoldK.k, HoldL.K, HoldL.body, Nat.reduceBEq, Nat.reduceAdd, List.getElem?_cons_zero, List.getElem?_cons_succ, Option.bind_some, List.map_cons, List.map_nil, Nat.zero_add, if_true, List.getD_cons_zero, List.getD_cons_succ, List.contains_cons, List.contains_nil, Nat.reduceBEq, Bool.or_true, Bool.true_or, Bool.or_false, Bool.false_or, Bool.not_true, Bool.not_false, true_and, and_true, rowA_whole, push_n, set_n, push_obj, set_obj, set_push, set_push_ne, set_set, Nat.add_assoc, Nat.left_eq_add, Nat.add_eq_left, Nat.add_left_cancel_iff, Nat.reduceEqDiff, stO_1s, stO_ws, boxA_s, one_bool, one_int, one_str, one_ptr, one_nilptr, one_slice, one_eslice, one_nilslice, one_func, one_iface, one_niliface, List.all_cons, List.all_nil, List.length_cons, List.length_nil, Nat.reduceLT, Nat.reduceEqDiff, Nat.reduceLeDiff, Bool.and_true, Nat.one_ne_zero, Nat.succ_ne_zero, reduceIte, if_false, List.getElem?_cons_zero, List.set_cons_zero, List.set_cons_succ]
  generalize hq_g0 : IH.push h (IObj.rows [[IV.int .i64 0, IV.str []]] 46 2 false) = g0
  have e_g0 : Ext h g0 := by rw [← hq_g0]; exact (Ext.refl _).push _
  have l_g0 : g0.n = h.n + 1 := by rw [← hq_g0]; rfl
  have bb : At g0 h.n (IObj.rows [[IV.int .i64 0, IV.str []]] 46 2 false) := by rw [← hq_g0]; exact At.new _ _
  clear hq_g0
  have hs := hs.ext e_g0
  refine callA_of (l19Text_c g0 v bs 3 hs hl (by omega)) ?_
  rintro r g ⟨rfl, rfl⟩
  have fin : ∀ (o : IObj) (c : Int), decQ bs = (0, [], c) → QueryRes h (g.set h.n o) (.tuple [.agg [.int .i64 0, .str []], .int .i64 c]) (decQ bs) := by
    intro o c e
    rw [e]
    exact ⟨rfl, e_g0.set _ (Nat.le_refl _) _⟩
  by_cases c1 : bs.length ≤ 3 ∨ bs.length < 3 + 1 + (bs.getD 3 0).toNat
  · have e1 : textAt bs 3 = ([], -1) := if_pos c1
    have d1 : decide ((-1 : Int) < 0) = true := rfl
    rw [e1]
    simp only [d1, bb.eq, lay_nil, lay_1, lay_w, Option.map_some, go_sem, Hold.p, HoldK.k, HoldL.K, HoldL.body, Nat.reduceBEq, Nat.reduceAdd, List.getElem?_cons_zero, List.getElem?_cons_succ, Option.bind_some, List.map_cons, List.map_nil, Nat.zero_add, if_true, List.getD_cons_zero, List.getD_cons_succ, List.contains_cons, List.contains_nil, Nat.reduceBEq, Bool.or_true, Bool.true_or, Bool.or_false, Bool.false_or, Bool.not_true, Bool.not_false, true_and, and_true, rowA_whole, push_n, set_n, push_obj, set_obj, set_push, set_push_ne, set_set, Nat.add_assoc, Nat.left_eq_add, Nat.add_eq_left, Nat.add_left_cancel_iff, Nat.reduceEqDiff, stO_1s, stO_ws, boxA_s, one_bool, one_int, one_str, one_ptr, one_nilptr, one_slice, one_eslice, one_nilslice, one_func, one_iface, one_niliface, List.all_cons, List.all_nil, List.length_cons, List.length_nil, Nat.reduceLT, Nat.reduceEqDiff, Nat.reduceLeDiff, Bool.and_true, Nat.one_ne_zero, Nat.succ_ne_zero, reduceIte, if_false, List.getElem?_cons_zero, List.set_cons_zero, List.set_cons_succ]
    exact fin _ _ (if_pos (by omega))
  · have e1 : textAt bs 3 = ((bs.take (3 + 1 + (bs.getD 3 0).toNat)).drop (3 + 1), ((3 + 1 + (bs.getD 3 0).toNat : Nat) : Int)) := if_neg c1
    have hdef : decQ bs = if 4 + (bs.getD 3 0).toNat < bs.length then (0, [], 5)
      else if bs.getD 2 0 ≠ 0 then (0, [], 9)
      else if okName ((bs.take (4 + (bs.getD 3 0).toNat)).drop 4) = true then (numB (bs.take 2), (bs.take (4 + (bs.getD 3 0).toNat)).drop 4, 0) else (0, [], 6) := if_neg (by omega)
    rw [e1]
    generalize bs.getD 3 0 = b3 at *
    have d1 : decide (((3 + 1 + b3.toNat : Nat) : Int) < 0) = false := decide_eq_false (by omega)
    by_cases c2 : 4 + b3.toNat < bs.length
    · have d2 : decide (((3 + 1 + b3.toNat : Nat) : Int) < (bs.length : Int)) = true := decide_eq_true (by omega)
      simp only [d1, d2, hlen, bb.eq, lay_nil, lay_1, lay_w, Option.map_some, go_sem, Hold.p, HoldK.k, HoldL.K, HoldL.body, Nat.reduceBEq, Nat.reduceAdd, List.getElem?_cons_zero, List.getElem?_cons_succ, Option.bind_some, List.map_cons, List.map_nil, Nat.zero_add, if_true, List.getD_cons_zero, List.getD_cons_succ, List.contains_cons, List.contains_nil, Nat.reduceBEq, Bool.or_true, Bool.true_or, Bool.or_false, Bool.false_or, Bool.not_true, Bool.not_false, true_and, and_true, rowA_whole, push_n, set_n, push_obj, set_obj, set_push, set_push_ne, set_set, Nat.add_assoc, Nat.left_eq_add, Nat.add_eq_left, Nat.add_left_cancel_iff, Nat.reduceEqDiff, stO_1s, stO_ws, boxA_s, one_bool, one_int, one_str, one_ptr, one_nilptr, one_slice, one_eslice, one_nilslice, one_func, one_iface, one_niliface, List.all_cons, List.all_nil, List.length_cons, List.length_nil, Nat.reduceLT, Nat.reduceEqDiff, Nat.reduceLeDiff, Bool.and_true, Nat.one_ne_zero, Nat.succ_ne_zero, reduceIte, if_false, List.getElem?_cons_zero, List.set_cons_zero, List.set_cons_succ]
      exact fin _ _ (hdef.trans (if_pos c2))
    · have d2 : decide (((3 + 1 + b3.toNat : Nat) : Int) < (bs.length : Int)) = false := decide_eq_false (by omega)
      rw [if_neg c2] at hdef
      have hkp := getD_at (bs := bs) (k := 2) (by omega)
      generalize hb2 : bs.getD 2 0 = b2 at *
      obtain ⟨l, j, hia, hll, hrow⟩ := hs.at (m := 2) (strRows_at hkp) .i64
      have hc := cellO_row hrow
      have hia : iadrF g 1 v (.int .i64 2) = some (.ptr l j 0) := hia
      by_cases c3 : b2 = 0
      · have d3 : decide ((b2.toNat : Int) = 0) = true := decide_eq_true (by rw [c3]; rfl)
        rw [if_neg (by simpa using c3)] at hdef
        simp only [d1, d2, hlen, hia, hc, d3, lay_nil, lay_1, lay_w, Option.map_some, go_sem, Hold.p, HoldK.k, HoldL.K, HoldL.body, Nat.reduceBEq, Nat.reduceAdd, List.getElem?_cons_zero, List.getElem?_cons_succ, Option.bind_some, List.map_cons, List.map_nil, Nat.zero_add, if_true, List.getD_cons_zero, List.getD_cons_succ, List.contains_cons, List.contains_nil, Nat.reduceBEq, Bool.or_true, Bool.true_or, Bool.or_false, Bool.false_or, Bool.not_true, Bool.not_false, true_and, and_true, rowA_whole, push_n, set_n, push_obj, set_obj, set_push, set_push_ne, set_set, Nat.add_assoc, Nat.left_eq_add, Nat.add_eq_left, Nat.add_left_cancel_iff, Nat.reduceEqDiff, stO_1s, stO_ws, boxA_s, one_bool, one_int, one_str, one_ptr, one_nilptr, one_slice, one_eslice, one_nilslice, one_func, one_iface, one_niliface, List.all_cons, List.all_nil, List.length_cons, List.length_nil, Nat.reduceLT, Nat.reduceEqDiff, Nat.reduceLeDiff, Bool.and_true, Nat.one_ne_zero, Nat.succ_ne_zero, reduceIte, if_false, List.getElem?_cons_zero, List.set_cons_zero, List.set_cons_succ]
        generalize hnm : (bs.take (3 + 1 + b3.toNat)).drop (3 + 1) = nm
        have hnm' : (bs.take (4 + b3.toNat)).drop 4 = nm := hnm
        rw [hnm'] at hdef
        have hnl : nm.length ≤ 1048576 := by rw [← hnm]; simp; omega
        refine callA_of (specNameOK_c g nm hnl) ?_
        rintro r h1 ⟨rfl, E1⟩
        have bb := bb.ext E1
        have hs := hs.ext E1
        have le_E1 := E1.le
        have E := e_g0.trans E1
        cases c4 : okName nm
        · rw [if_neg (by rw [c4]; decide)] at hdef
          simp only [c4, bb.eq, lay_nil, lay_1, lay_w, Option.map_some, go_sem, Hold.p, HoldK.k, HoldL.K, HoldL.body, Nat.reduceBEq, Nat.reduceAdd, List.getElem?_cons_zero, List.getElem?_cons_succ, Option.bind_some, List.map_cons, List.map_nil, Nat.zero_add, if_true, List.getD_cons_zero, List.getD_cons_succ, List.contains_cons, List.contains_nil, Nat.reduceBEq, Bool.or_true, Bool.true_or, Bool.or_false, Bool.false_or, Bool.not_true, Bool.not_false, true_and, and_true, rowA_whole, push_n, set_n, push_obj, set_obj, set_push, set_push_ne, set_set, Nat.add_assoc, Nat.left_eq_add, Nat.add_eq_left, Nat.add_left_cancel_iff, Nat.reduceEqDiff, stO_1s, stO_ws, boxA_s, one_bool, one_int, one_str, one_ptr, one_nilptr, one_slice, one_eslice, one_nilslice, one_func, one_iface, one_niliface, List.all_cons, List.all_nil, List.length_cons, List.length_nil, Nat.reduceLT, Nat.reduceEqDiff, Nat.reduceLeDiff, Bool.and_true, Nat.one_ne_zero, Nat.succ_ne_zero, reduceIte, if_false, List.getElem?_cons_zero, List.set_cons_zero, List.set_cons_succ]
          rw [hdef]
          exact ⟨rfl, E.set _ (Nat.le_refl _) _⟩
        · rw [if_pos c4] at hdef
          obtain ⟨v1, hv1, hs1⟩ := hs.hi (b := 2) (q := .i64) (by rw [strRows_len]; omega)
          rw [strRows_take] at hs1
          have hv1 : slcF h1 1 v none (some (.int .i64 2)) = some v1 := hv1
          simp only [c4, bb.eq, hv1, Option.map_some, Option.map_none, lay_nil, lay_1, lay_w, Option.map_some, go_sem, Hold.p, HoldK.k, HoldL.K, HoldL.body, Nat.reduceBEq, Nat.reduceAdd, List.getElem?_cons_zero, List.getElem?_cons_succ, Option.bind_some, List.map_cons, List.map_nil, Nat.zero_add, if_true, List.getD_cons_zero, List.getD_cons_succ, List.contains_cons, List.contains_nil, Nat.reduceBEq, Bool.or_true, Bool.true_or, Bool.or_false, Bool.false_or, Bool.not_true, Bool.not_false, true_and, and_true, rowA_whole, push_n, set_n, push_obj, set_obj, set_push, set_push_ne, set_set, Nat.add_assoc, Nat.left_eq_add, Nat.add_eq_left, Nat.add_left_cancel_iff, Nat.reduceEqDiff, stO_1s, stO_ws, boxA_s, one_bool, one_int, one_str, one_ptr, one_nilptr, one_slice, one_eslice, one_nilslice, one_func, one_iface, one_niliface, List.all_cons, List.all_nil, List.length_cons, List.length_nil, Nat.reduceLT, Nat.reduceEqDiff, Nat.reduceLeDiff, Bool.and_true, Nat.one_ne_zero, Nat.succ_ne_zero, reduceIte, if_false, List.getElem?_cons_zero, List.set_cons_zero, List.set_cons_succ]
          refine callA_of (l03Num_c h1 v1 _ hs1 (by simp; omega)) ?_
          rintro r h2 ⟨rfl, rfl⟩
          simp only [c4, bb.eq, lay_nil, lay_1, lay_w, Option.map_some, go_sem, Hold.p, HoldK.k, HoldL.K, HoldL.body, Nat.reduceBEq, Nat.reduceAdd, List.getElem?_cons_zero, List.getElem?_cons_succ, Option.bind_some, List.map_cons, List.map_nil, Nat.zero_add, if_true, List.getD_cons_zero, List.getD_cons_succ, List.contains_cons, List.contains_nil, Nat.reduceBEq, Bool.or_true, Bool.true_or, Bool.or_false, Bool.false_or, Bool.not_true, Bool.not_false, true_and, and_true, rowA_whole, push_n, set_n, push_obj, set_obj, set_push, set_push_ne, set_set, Nat.add_assoc, Nat.left_eq_add, Nat.add_eq_left, Nat.add_left_cancel_iff, Nat.reduceEqDiff, stO_1s, stO_ws, boxA_s, one_bool, one_int, one_str, one_ptr, one_nilptr, one_slice, one_eslice, one_nilslice, one_func, one_iface, one_niliface, List.all_cons, List.all_nil, List.length_cons, List.length_nil, Nat.reduceLT, Nat.reduceEqDiff, Nat.reduceLeDiff, Bool.and_true, Nat.one_ne_zero, Nat.succ_ne_zero, reduceIte, if_false, List.getElem?_cons_zero, List.set_cons_zero, List.set_cons_succ]
          rw [hdef]
          exact ⟨rfl, E.set _ (Nat.le_refl _) _⟩
      · have d3 : decide ((b2.toNat : Int) = 0) = false := decide_eq_false (fun h0 => c3 (UInt8.toNat_inj.1 (by simpa using h0)))
        rw [if_pos (by simpa using c3)] at hdef
        simp only [d1, d2, hlen, hia, hc, d3, bb.eq, lay_nil, lay_1, lay_w, Option.map_some, go_sem, Hold.p, HoldK.k, HoldL.K, HoldL.body, Nat.reduceBEq, Nat.reduceAdd, List.getElem?_cons_zero, List.getElem?_cons_succ, Option.bind_some, List.map_cons, List.map_nil, Nat.zero_add, if_true, List.getD_cons_zero, List.getD_cons_succ, List.contains_cons, List.contains_nil, Nat.reduceBEq, Bool.or_true, Bool.true_or, Bool.or_false, Bool.false_or, Bool.not_true, Bool.not_false, true_and, and_true, rowA_whole, push_n, set_n, push_obj, set_obj, set_push, set_push_ne, set_set, Nat.add_assoc, Nat.left_eq_add, Nat.add_eq_left, Nat.add_left_cancel_iff, Nat.reduceEqDiff, stO_1s, stO_ws, boxA_s, one_bool, one_int, one_str, one_ptr, one_nilptr, one_slice, one_eslice, one_nilslice, one_func, one_iface, one_niliface, List.all_cons, List.all_nil, List.length_cons, List.length_nil, Nat.reduceLT, Nat.reduceEqDiff, Nat.reduceLeDiff, Bool.and_true, Nat.one_ne_zero, Nat.succ_ne_zero, reduceIte, if_false, List.getElem?_cons_zero, List.set_cons_zero, List.set_cons_succ]
        exact fin _ _ hdef
end Go.Proofs.YtdpaehdolhdjdaaDoor


namespace Go.Proofs.YtdpaehdolhdjdaaDoor
open Go Go.IW

theorem takeD_sh (bs : List UInt8) (n : Nat) : (takeD bs true n).2.2 = true := by unfold takeD; split <;> rfl
theorem takeD_len1 (bs : List UInt8) (sh : Bool) {n : Nat} (hn : n ≤ 7) : (takeD bs sh n).1.length ≤ n := by unfold takeD; split <;> simp <;> omega
theorem takeD_len (bs : List UInt8) (sh : Bool) (n : Nat) : (takeD bs sh n).2.1.length ≤ bs.length := by unfold takeD; split <;> simp
theorem takeD_short {bs : List UInt8} {sh : Bool} {n : Nat} (h : bs.length < n) : (takeD bs sh n).2.2 = true := by unfold takeD; rw [if_pos h]
theorem takeD_long {bs : List UInt8} {sh : Bool} {n : Nat} (h : ¬ bs.length < n) : takeD bs sh n = (bs.take n, bs.drop n, sh) := if_neg h
set_option maxRecDepth 20000 in
theorem code_c (h : IH) (p : Nat) (bs : List UInt8) (sh : Bool) (kind want : Int) (name : List UInt8) (hb : BitesAt h p bs sh) (hl : bs.length ≤ 1048576) (hnl : name.length ≤ 1048576) :
    ICalls Tryd.prog 84 [.ptr p 0 0, .int .i64 kind, .int .i64 want, .str name] h fun r h' => r = .int .i64 (if sh = true then 2 else if 0 < bs.length then 5 else if kind ≠ want then 9 else if okName name = true then 0 else 6) ∧ Ext h h' := by
  obtain ⟨v, ha, hs, _⟩ := hb.box
  refine icalls (.of ok84) (Nat.le_of_ble_eq_true rfl) ?_
  unfold c84
  have hlen := hs.lenF
  rw [strRows_len] at hlen
  cases sh
  · by_cases c1 : 0 < bs.length
    · have d1 : decide ((0 : Int) < (bs.length : Int)) = true := decide_eq_true (by omega)
      rw [if_neg (by decide), if_pos c1]
      simp only [ha.eq, hlen, d1, go_sem, Hold.p, HoldK.k, HoldL.K, HoldL.body, Nat.reduceBEq, Nat.reduceAdd, List.getElem?_cons_zero, List.getElem?_cons_succ, Option.bind_some, List.map_cons, List.map_nil, Nat.zero_add, if_true, List.getD_cons_zero, List.getD_cons_succ, List.contains_cons, List.contains_nil, Nat.reduceBEq, Bool.or_true, Bool.true_or, Bool.or_false, Bool.false_or, Bool.not_true, Bool.not_false, true_and, and_true, rowA_whole, push_n, set_n, push_obj, set_obj, set_push, set_push_ne, set_set, Nat.add_assoc, Nat.left_eq_add, Nat.add_eq_left, Nat.add_left_cancel_iff, Nat.reduceEqDiff, stO_1s, stO_ws, boxA_s, one_bool, one_int, one_str, one_ptr, one_nilptr, one_slice, one_eslice, one_nilslice, one_func, one_iface, one_niliface, List.all_cons, List.all_nil, List.length_cons, List.length_nil, Nat.reduceLT, Nat.reduceEqDiff, Nat.reduceLeDiff, Bool.and_true, Nat.one_ne_zero, Nat.succ_ne_zero, reduceIte, if_false, List.getElem?_cons_zero, List.set_cons_zero, List.set_cons_succ]
      exact Ext.refl _
    · have d1 : decide ((0 : Int) < (bs.length : Int)) = false := decide_eq_false (by omega)
      rw [if_neg (by decide), if_neg c1]
      by_cases c2 : kind = want
      · have d2 : decide (kind = want) = true := decide_eq_true c2
        rw [if_neg (by simpa using c2)]
        simp only [ha.eq, hlen, d1, d2, go_sem, Hold.p, HoldK.k, HoldL.K, HoldL.body, Nat.reduceBEq, Nat.reduceAdd, List.getElem?_cons_zero, List.getElem?_cons_succ, Option.bind_some, List.map_cons, List.map_nil, Nat.zero_add, if_true, List.getD_cons_zero, List.getD_cons_succ, List.contains_cons, List.contains_nil, Nat.reduceBEq, Bool.or_true, Bool.true_or, Bool.or_false, Bool.false_or, Bool.not_true, Bool.not_false, true_and, and_true, rowA_whole, push_n, set_n, push_obj, set_obj, set_push, set_push_ne, set_set, Nat.add_assoc, Nat.left_eq_add, Nat.add_eq_left, Nat.add_left_cancel_iff, Nat.reduceEqDiff, stO_1s, stO_ws, boxA_s, one_bool, one_int, one_str, one_ptr, one_nilptr, one_slice, one_eslice, one_nilslice, one_func, one_iface, one_niliface, List.all_cons, List.all_nil, List.length_cons, List.length_nil, Nat.reduceLT, Nat.reduceEqDiff, Nat.reduceLeDiff, Bool.and_true, Nat.one_ne_zero, Nat.succ_ne_zero, reduceIte, if_false, List.getElem?_cons_zero, List.set_cons_zero, List.set_cons_succ]
        refine callA_of (implNameOK_c h name hnl) ?_
        rintro r h1 ⟨rfl, E⟩
        cases c3 : okName name
        · simp only [c3, go_sem, Hold.p, HoldK.k, HoldL.K, HoldL.body, Nat.reduceBEq, Nat.reduceAdd, List.getElem?_cons_zero, List.getElem?_cons_succ, Option.bind_some, List.map_cons, List.map_nil, Nat.zero_add, if_true, List.getD_cons_zero, List.getD_cons_succ, List.contains_cons, List.contains_nil, Nat.reduceBEq, Bool.or_true, Bool.true_or, Bool.or_false, Bool.false_or, Bool.not_true, Bool.not_false, true_and, and_true, rowA_whole, push_n, set_n, push_obj, set_obj, set_push, set_push_ne, set_set, Nat.add_assoc, Nat.left_eq_add, Nat.add_eq_left, Nat.add_left_cancel_iff, Nat.reduceEqDiff, stO_1s, stO_ws, boxA_s, one_bool, one_int, one_str, one_ptr, one_nilptr, one_slice, one_eslice, one_nilslice, one_func, one_iface, one_niliface, List.all_cons, List.all_nil, List.length_cons, List.length_nil, Nat.reduceLT, Nat.reduceEqDiff, Nat.reduceLeDiff, Bool.and_true, Nat.one_ne_zero, Nat.succ_ne_zero, reduceIte, if_false, List.getElem?_cons_zero, List.set_cons_zero, List.set_cons_succ]
          exact ⟨rfl, E⟩
        · simp only [c3, go_sem, Hold.p, HoldK.k, HoldL.K, HoldL.body, Nat.reduceBEq, Nat.reduceAdd, List.getElem?_cons_zero, List.getElem?_cons_succ, Option.bind_some, List.map_cons, List.map_nil, Nat.zero_add, if_true, List.getD_cons_zero, List.getD_cons_succ, List.contains_cons, List.contains_nil, Nat.reduceBEq, Bool.or_true, Bool.true_or, Bool.or_false, Bool.false_or, Bool.not_true, Bool.not_false, true_and, and_true, rowA_whole, push_n, set_n, push_obj, set_obj, set_push, set_push_ne, set_set, Nat.add_assoc, Nat.left_eq_add, Nat.add_eq_left, Nat.add_left_cancel_iff, Nat.reduceEqDiff, stO_1s, stO_ws, boxA_s, one_bool, one_int, one_str, one_ptr, one_nilptr, one_slice, one_eslice, one_nilslice, one_func, one_iface, one_niliface, List.all_cons, List.all_nil, List.length_cons, List.length_nil, Nat.reduceLT, Nat.reduceEqDiff, Nat.reduceLeDiff, Bool.and_true, Nat.one_ne_zero, Nat.succ_ne_zero, reduceIte, if_false, List.getElem?_cons_zero, List.set_cons_zero, List.set_cons_succ]
          exact E
      · have d2 : decide (kind = want) = false := decide_eq_false c2
        rw [if_pos c2]
        simp only [ha.eq, hlen, d1, d2, go_sem, Hold.p, HoldK.k, HoldL.K, HoldL.body, Nat.reduceBEq, Nat.reduceAdd, List.getElem?_cons_zero, List.getElem?_cons_succ, Option.bind_some, List.map_cons, List.map_nil, Nat.zero_add, if_true, List.getD_cons_zero, List.getD_cons_succ, List.contains_cons, List.contains_nil, Nat.reduceBEq, Bool.or_true, Bool.true_or, Bool.or_false, Bool.false_or, Bool.not_true, Bool.not_false, true_and, and_true, rowA_whole, push_n, set_n, push_obj, set_obj, set_push, set_push_ne, set_set, Nat.add_assoc, Nat.left_eq_add, Nat.add_eq_left, Nat.add_left_cancel_iff, Nat.reduceEqDiff, stO_1s, stO_ws, boxA_s, one_bool, one_int, one_str, one_ptr, one_nilptr, one_slice, one_eslice, one_nilslice, one_func, one_iface, one_niliface, List.all_cons, List.all_nil, List.length_cons, List.length_nil, Nat.reduceLT, Nat.reduceEqDiff, Nat.reduceLeDiff, Bool.and_true, Nat.one_ne_zero, Nat.succ_ne_zero, reduceIte, if_false, List.getElem?_cons_zero, List.set_cons_zero, List.set_cons_succ]
        exact Ext.refl _
  · rw [if_pos rfl]
    simp only [ha.eq, go_sem, Hold.p, HoldK.k, HoldL.K, HoldL.body, Nat.reduceBEq, Nat.reduceAdd, List.getElem?_cons_zero, List.getElem?_cons_succ, Option.bind_some, List.map_cons, List.map_nil, Nat.zero_add, if_true, List.getD_cons_zero, List.getD_cons_succ, List.contains_cons, List.contains_nil, Nat.reduceBEq, Bool.or_true, Bool.true_or, Bool.or_false, Bool.false_or, Bool.not_true, Bool.not_false, true_and, and_true, rowA_whole, push_n, set_n, push_obj, set_obj, set_push, set_push_ne, set_set, Nat.add_assoc, Nat.left_eq_add, Nat.add_eq_left, Nat.add_left_cancel_iff, Nat.reduceEqDiff, stO_1s, stO_ws, boxA_s, one_bool, one_int, one_str, one_ptr, one_nilptr, one_slice, one_eslice, one_nilslice, one_func, one_iface, one_niliface, List.all_cons, List.all_nil, List.length_cons, List.length_nil, Nat.reduceLT, Nat.reduceEqDiff, Nat.reduceLeDiff, Bool.and_true, Nat.one_ne_zero, Nat.succ_ne_zero, reduceIte, if_false, List.getElem?_cons_zero, List.set_cons_zero, List.set_cons_succ]
    exact Ext.refl _

/-- What is taken off a query's bytes. -/
def chainQ (bs : List UInt8) : Int × Int × List UInt8 × List UInt8 × Bool :=
  let t1 := takeD bs false 2
  let t2 := takeD t1.2.1 t1.2.2 1
  let t3 := takeD t2.2.1 t2.2.2 1
  let t4 := takeD t3.2.1 t3.2.2 (numB t3.1).toNat
  (numB t1.1, numB t2.1, t4.1, t4.2.1, t4.2.2)
def codeQ (x : Int × Int × List UInt8 × List UInt8 × Bool) (want : Int) : Int :=
  if x.2.2.2.2 = true then 2 else if 0 < x.2.2.2.1.length then 5 else if x.2.1 ≠ want then 9 else if okName x.2.2.1 = true then 0 else 6
theorem numB_one (b : UInt8) : numB [b] = b.toNat := by simp [numB]
theorem drop_at {bs : List UInt8} {k : Nat} (h : k < bs.length) : bs.drop k = bs.getD k 0 :: bs.drop (k + 1) := by
  rw [List.drop_eq_getElem_cons h]
  congr 1
  rw [List.getD_eq_getElem?_getD, List.getElem?_eq_getElem h]; rfl
theorem chainQ_short {bs : List UInt8} (h : bs.length < 4 ∨ bs.length < 4 + (bs.getD 3 0).toNat) : (chainQ bs).2.2.2.2 = true := by
  unfold chainQ
  simp only
  by_cases h1 : bs.length < 2
  · have e1 := takeD_short (sh := false) h1
    rw [e1]
    have e2 := takeD_sh (takeD bs false 2).2.1 1
    rw [e2]
    have e3 := takeD_sh (takeD (takeD bs false 2).2.1 true 1).2.1 1
    rw [e3]
    exact takeD_sh _ _
  · rw [takeD_long h1]
    simp only
    by_cases h2 : (bs.drop 2).length < 1
    · have e2 := takeD_short (sh := false) h2
      rw [e2]
      have e3 := takeD_sh (takeD (bs.drop 2) false 1).2.1 1
      rw [e3]
      exact takeD_sh _ _
    · rw [takeD_long h2]
      simp only
      by_cases h3 : ((bs.drop 2).drop 1).length < 1
      · have e3 := takeD_short (sh := false) h3
        rw [e3]
        exact takeD_sh _ _
      · rw [takeD_long h3]
        simp only
        simp at h1 h2 h3
        have e4 : ((bs.drop 2).drop 1).take 1 = [bs.getD 3 0] := by rw [List.drop_drop, drop_at (by omega)]; rfl
        rw [e4, numB_one]
        apply takeD_short
        rw [List.length_drop, List.length_drop, List.length_drop, Int.toNat_natCast]
        omega
theorem chainQ_long {bs : List UInt8} (h : ¬ (bs.length < 4 ∨ bs.length < 4 + (bs.getD 3 0).toNat)) : chainQ bs = (numB (bs.take 2), ((bs.getD 2 0).toNat : Int), (bs.take (4 + (bs.getD 3 0).toNat)).drop 4, bs.drop (4 + (bs.getD 3 0).toNat), false) := by
  have e3 : ((bs.drop 2).drop 1).take 1 = [bs.getD 3 0] := by rw [List.drop_drop, drop_at (by omega)]; rfl
  have e2 : (bs.drop 2).take 1 = [bs.getD 2 0] := by rw [drop_at (by omega)]; rfl
  have a1 := takeD_long (bs := bs) (sh := false) (n := 2) (by omega)
  have a2 := takeD_long (bs := bs.drop 2) (sh := false) (n := 1) (by rw [List.length_drop]; omega)
  have a3 := takeD_long (bs := (bs.drop 2).drop 1) (sh := false) (n := 1) (by rw [List.length_drop, List.length_drop]; omega)
  have a4 := takeD_long (bs := ((bs.drop 2).drop 1).drop 1) (sh := false) (n := (bs.getD 3 0).toNat) (by rw [List.length_drop, List.length_drop, List.length_drop]; omega)
  unfold chainQ
  simp only [a1, a2, a3, e3, e2, numB_one, Int.toNat_natCast, a4]
  simp only [List.drop_drop, List.drop_take, Nat.add_comm]
  congr 3
  all_goals congr 1
  all_goals omega

theorem chainQ_dec (bs : List UInt8) : decQ bs = if codeQ (chainQ bs) 0 = 0 then ((chainQ bs).1, (chainQ bs).2.2.1, 0) else (0, [], codeQ (chainQ bs) 0) := by
  by_cases h : bs.length < 4 ∨ bs.length < 4 + (bs.getD 3 0).toNat
  · have e : codeQ (chainQ bs) 0 = 2 := if_pos (chainQ_short h)
    rw [e]
    exact if_pos h
  · have e := chainQ_long h
    have hcode : codeQ (chainQ bs) 0 = if 4 + (bs.getD 3 0).toNat < bs.length then 5 else if bs.getD 2 0 ≠ 0 then 9 else if okName ((bs.take (4 + (bs.getD 3 0).toNat)).drop 4) = true then 0 else 6 := by
      rw [e]
      unfold codeQ
      simp only [Bool.false_eq_true, if_false, List.length_drop]
      have k1 : (0 < bs.length - (4 + (bs.getD 3 0).toNat)) = (4 + (bs.getD 3 0).toNat < bs.length) := by apply propext; omega
      have k2 : (((bs.getD 2 0).toNat : Int) ≠ 0) = (bs.getD 2 0 ≠ 0) := by
        apply propext
        refine not_congr ⟨fun h0 => UInt8.toNat_inj.1 ?_, fun h0 => by rw [h0]; rfl⟩
        have : (bs.getD 2 0).toNat = 0 := by omega
        rw [this]; rfl
      simp only [k1, k2]
    have hd : decQ bs = if 4 + (bs.getD 3 0).toNat < bs.length then (0, [], 5)
      else if bs.getD 2 0 ≠ 0 then (0, [], 9)
      else if okName ((bs.take (4 + (bs.getD 3 0).toNat)).drop 4) = true then (numB (bs.take 2), (bs.take (4 + (bs.getD 3 0).toNat)).drop 4, 0) else (0, [], 6) := if_neg h
    rw [hcode, hd, e]
    split
    · rfl
    · split
      · rfl
      · split <;> rfl
end Go.Proofs.YtdpaehdolhdjdaaDoor


namespace Go.Proofs.YtdpaehdolhdjdaaDoor
open Go Go.IW

theorem BitesAt.ext {h h' : IH} {p : Nat} {bs : List UInt8} {sh : Bool} (b : BitesAt h p bs sh) (e : Ext h h') : BitesAt h' p bs sh := by
  obtain ⟨v, ha, hs, hlow⟩ := b.box
  exact ⟨⟨v, ha.ext e, hs.ext e, hlow⟩⟩
theorem BitesAt.other {h : IH} {p q e sz : Nat} {bs : List UInt8} {sh ro : Bool} {rs : List (List IV)} {o : IObj} (b : BitesAt h p bs sh) (hq : p ≠ q) (ho : h.obj q = .rows rs e sz ro) (h1 : 1 ≠ sz) : BitesAt (h.set q o) p bs sh := by
  obtain ⟨v, ha, hs, hlow⟩ := b.box
  exact ⟨⟨v, ha.set hq, hs.but ((But.refl _ _ _).set _) ho h1, hlow⟩⟩
theorem BitesAt.turn {lo hi : Nat} {h h' : IH} {p el sz : Nat} {bs : List UInt8} {sh : Bool} {w : IV} {rs : List (List IV)} (b : BitesAt h p bs sh) (hw : Own lo hi h el sz w rs) (hd : p < lo) (t : Turn w h h') : BitesAt h' p bs sh := by
  obtain ⟨v, ha, hs, hlow⟩ := b.box
  exact ⟨⟨v, ha.turn hw (.inl hd) t, hs.turn (fun l i n hv => Nat.lt_trans (hlow l i n hv) hd) hw t, hlow⟩⟩
theorem BitesAt.lt {h : IH} {p : Nat} {bs : List UInt8} {sh : Bool} (b : BitesAt h p bs sh) : p < h.n := by
  obtain ⟨v, ha, hs, _⟩ := b.box; exact ha.lt
theorem BitesAt.mk' {h : IH} {p : Nat} {bs : List UInt8} {sh : Bool} {v : IV} (ha : At h p (.rows [[v, .bool sh]] 130 2 false)) (hs : SlR h 1 v (strRows bs)) (hlow : ∀ l i m, v = .slice l i m → l < p) : BitesAt h p bs sh := ⟨⟨v, ha, hs, hlow⟩⟩

theorem takeD_le (bs : List UInt8) (sh : Bool) (n : Nat) : (takeD bs sh n).1.length ≤ n := by unfold takeD; split <;> simp <;> omega
theorem numB_one_le {bs : List UInt8} (h : bs.length ≤ 1) : (numB bs).toNat ≤ 255 ∧ numB bs = ((numB bs).toNat : Int) := by
  match bs, h with
  | [], _ => exact ⟨by decide, rfl⟩
  | [b], _ => have := b.toNat_lt; rw [numB_one]; exact ⟨by omega, by omega⟩

set_option maxRecDepth 20000 in
theorem implDecodeQuery_c (h : IH) (v : IV) (bs : List UInt8) (hs : SlR h 1 v (strRows bs)) (hl : bs.length ≤ 1048576) : ICalls Tryd.prog 29 [v] h fun r h' => QueryRes h h' r (decQ bs) := by
  refine icalls (.of ok29) (Nat.le_of_ble_eq_true rfl) ?_
  unfold c29
  rw [chainQ_dec]
  unfold chainQ
  have hvo := hs.one
  have hvc := hs.cells
  have hsl := hs.lt
  simp only
  simp only [hvo, hvc, lay_nil, lay_1, lay_w, Option.map_some, go_sem, Hold.p, HoldK.k, HoldL.K, HoldL.body, Nat.reduceBEq, Nat.reduceAdd, List.getElem?_cons_zero, List.getElem?_cons_succ, Option.bind_some, List.map_cons, List.map_nil, Nat.zero_add, if_true, List.getD_cons_zero, List.getD_cons_succ, List.contains_cons, List.contains_nil, Nat.reduceBEq, Bool.or_true, Bool.true_or, Bool.or_false, Bool.false_or, Bool.not_true, Bool.not_false, true_and, and_true, rowA_whole, push_n, set_n, push_obj, set_obj, set_push, set_push_ne, set_set, Nat.add_assoc, Nat.left_eq_add, Nat.add_eq_left, Nat.add_left_cancel_iff, Nat.reduceEqDiff, stO_1s, stO_ws, boxA_s, one_bool, one_int, one_str, one_ptr, one_nilptr, one_slice, one_eslice, one_nilslice, one_func, one_iface, one_niliface, List.all_cons, List.all_nil, List.length_cons, List.length_nil, Nat.reduceLT, Nat.reduceEqDiff, Nat.reduceLeDiff, Bool.and_true, Nat.one_ne_zero, Nat.succ_ne_zero, reduceIte, if_false, List.getElem?_cons_zero, List.set_cons_zero, List.set_cons_succ]
  generalize hq_g0 : IH.push h (IObj.rows [[IV.int .i64 0, IV.str []]] 46 2 false) = g0
  have e_g0 : Ext h g0 := by rw [← hq_g0]; exact (Ext.refl _).push _
  have l_g0 : g0.n = h.n + 1 := by rw [← hq_g0]; rfl
  have bb : At g0 h.n (IObj.rows [[IV.int .i64 0, IV.str []]] 46 2 false) := by rw [← hq_g0]; exact At.new _ _
  clear hq_g0
  have hs := hs.ext e_g0
  generalize hq_g1 : IH.push g0 (IObj.rows [[v, IV.bool false]] 130 2 false) = g1
  have e_g1 : Ext g0 g1 := by rw [← hq_g1]; exact (Ext.refl _).push _
  have l_g1 : g1.n = g0.n + 1 := by rw [← hq_g1]; rfl
  have ba : At g1 g0.n (IObj.rows [[v, IV.bool false]] 130 2 false) := by rw [← hq_g1]; exact At.new _ _
  clear hq_g1
  have hs := hs.ext e_g1
  have bb := bb.ext e_g1
  have B := BitesAt.mk' ba hs (fun l i m e => by have := hsl l i m e; omega)
  rw [l_g0] at B
  have E := e_g0.trans e_g1
  refine callA_of (num_c g1 _ 2 bs false B (by omega) hl) ?_
  rintro r h1 ⟨rfl, B1, U1⟩
  replace bb := U1.at0 bb (by omega)
  replace E := U1.ext0 E (by omega)
  have k1 := takeD_len bs false 2
  generalize takeD bs false 2 = t1 at B1 k1 ⊢
  simp only [bb.eq, lay_nil, lay_1, lay_w, Option.map_some, go_sem, Hold.p, HoldK.k, HoldL.K, HoldL.body, Nat.reduceBEq, Nat.reduceAdd, List.getElem?_cons_zero, List.getElem?_cons_succ, Option.bind_some, List.map_cons, List.map_nil, Nat.zero_add, if_true, List.getD_cons_zero, List.getD_cons_succ, List.contains_cons, List.contains_nil, Nat.reduceBEq, Bool.or_true, Bool.true_or, Bool.or_false, Bool.false_or, Bool.not_true, Bool.not_false, true_and, and_true, rowA_whole, push_n, set_n, push_obj, set_obj, set_push, set_push_ne, set_set, Nat.add_assoc, Nat.left_eq_add, Nat.add_eq_left, Nat.add_left_cancel_iff, Nat.reduceEqDiff, stO_1s, stO_ws, boxA_s, one_bool, one_int, one_str, one_ptr, one_nilptr, one_slice, one_eslice, one_nilslice, one_func, one_iface, one_niliface, List.all_cons, List.all_nil, List.length_cons, List.length_nil, Nat.reduceLT, Nat.reduceEqDiff, Nat.reduceLeDiff, Bool.and_true, Nat.one_ne_zero, Nat.succ_ne_zero, reduceIte, if_false, List.getElem?_cons_zero, List.set_cons_zero, List.set_cons_succ]
  generalize hq_g2 : IH.push h1 (IObj.rows [[IV.int .i64 (numB t1.1), IV.str []]] 46 2 false) = g2
  have e_g2 : Ext h1 g2 := by rw [← hq_g2]; exact (Ext.refl _).push _
  have l_g2 : g2.n = h1.n + 1 := by rw [← hq_g2]; rfl
  have bq : At g2 h1.n (IObj.rows [[IV.int .i64 (numB t1.1), IV.str []]] 46 2 false) := by rw [← hq_g2]; exact At.new _ _
  clear hq_g2
  have bb := bb.ext e_g2
  have B1 := B1.ext e_g2
  have E := E.ext e_g2
  generalize hp2 : h1.n = p2 at bq l_g2
  have u1 := U1.le
  refine callA_of (num_c g2 _ 1 _ _ B1 (by omega) (by omega)) ?_
  rintro r h2 ⟨rfl, B2, U2⟩
  replace bb := U2.at0 bb (by omega)
  replace bq := U2.at0 bq (by omega)
  replace E := U2.ext0 E (by omega)
  have k2 := takeD_len t1.2.1 t1.2.2 1
  generalize takeD t1.2.1 t1.2.2 1 = t2 at B2 k2 ⊢
  have u2 := U2.le
  simp only [bb.eq, bq.eq, go_sem, Hold.p, HoldK.k, HoldL.K, HoldL.body, Nat.reduceBEq, Nat.reduceAdd, List.getElem?_cons_zero, List.getElem?_cons_succ, Option.bind_some, List.map_cons, List.map_nil, Nat.zero_add, if_true, List.getD_cons_zero, List.getD_cons_succ, List.contains_cons, List.contains_nil, Nat.reduceBEq, Bool.or_true, Bool.true_or, Bool.or_false, Bool.false_or, Bool.not_true, Bool.not_false, true_and, and_true, rowA_whole, push_n, set_n, push_obj, set_obj, set_push, set_push_ne, set_set, Nat.add_assoc, Nat.left_eq_add, Nat.add_eq_left, Nat.add_left_cancel_iff, Nat.reduceEqDiff, stO_1s, stO_ws, boxA_s, one_bool, one_int, one_str, one_ptr, one_nilptr, one_slice, one_eslice, one_nilslice, one_func, one_iface, one_niliface, List.all_cons, List.all_nil, List.length_cons, List.length_nil, Nat.reduceLT, Nat.reduceEqDiff, Nat.reduceLeDiff, Bool.and_true, Nat.one_ne_zero, Nat.succ_ne_zero, reduceIte, if_false, List.getElem?_cons_zero, List.set_cons_zero, List.set_cons_succ]
  refine callA_of (num_c h2 _ 1 _ _ B2 (by omega) (by omega)) ?_
  rintro r h3 ⟨rfl, B3, U3⟩
  replace bb := U3.at0 bb (by omega)
  replace bq := U3.at0 bq (by omega)
  replace E := U3.ext0 E (by omega)
  have k3 := takeD_len t2.2.1 t2.2.2 1
  have k3' := takeD_len1 t2.2.1 t2.2.2 (n := 1) (by omega)
  generalize takeD t2.2.1 t2.2.2 1 = t3 at B3 k3 k3' ⊢
  have u3 := U3.le
  obtain ⟨q1, q2⟩ := numB_one_le k3'
  rw [q2]
  generalize (numB t3.1).toNat = n3 at q1
  clear q2
  rw [Int.toNat_natCast]
  simp only [bb.eq, bq.eq, go_sem, Hold.p, HoldK.k, HoldL.K, HoldL.body, Nat.reduceBEq, Nat.reduceAdd, List.getElem?_cons_zero, List.getElem?_cons_succ, Option.bind_some, List.map_cons, List.map_nil, Nat.zero_add, if_true, List.getD_cons_zero, List.getD_cons_succ, List.contains_cons, List.contains_nil, Nat.reduceBEq, Bool.or_true, Bool.true_or, Bool.or_false, Bool.false_or, Bool.not_true, Bool.not_false, true_and, and_true, rowA_whole, push_n, set_n, push_obj, set_obj, set_push, set_push_ne, set_set, Nat.add_assoc, Nat.left_eq_add, Nat.add_eq_left, Nat.add_left_cancel_iff, Nat.reduceEqDiff, stO_1s, stO_ws, boxA_s, one_bool, one_int, one_str, one_ptr, one_nilptr, one_slice, one_eslice, one_nilslice, one_func, one_iface, one_niliface, List.all_cons, List.all_nil, List.length_cons, List.length_nil, Nat.reduceLT, Nat.reduceEqDiff, Nat.reduceLeDiff, Bool.and_true, Nat.one_ne_zero, Nat.succ_ne_zero, reduceIte, if_false, List.getElem?_cons_zero, List.set_cons_zero, List.set_cons_succ]
  refine callA_of (take_c h3 _ n3 _ _ B3 q1 (by omega)) ?_
  rintro r h4 ⟨hs4, B4, U4⟩
  replace bb := U4.at0 bb (by omega)
  replace bq := U4.at0 bq (by omega)
  replace E := U4.ext0 E (by omega)
  have k4 := takeD_len t3.2.1 t3.2.2 n3
  have k4' := takeD_le t3.2.1 t3.2.2 n3
  generalize takeD t3.2.1 t3.2.2 n3 = t4 at B4 hs4 k4 k4' ⊢
  have u4 := U4.le
  have hb2 := hs4.b2s
  simp only [bb.eq, bq.eq, hb2, go_sem, Hold.p, HoldK.k, HoldL.K, HoldL.body, Nat.reduceBEq, Nat.reduceAdd, List.getElem?_cons_zero, List.getElem?_cons_succ, Option.bind_some, List.map_cons, List.map_nil, Nat.zero_add, if_true, List.getD_cons_zero, List.getD_cons_succ, List.contains_cons, List.contains_nil, Nat.reduceBEq, Bool.or_true, Bool.true_or, Bool.or_false, Bool.false_or, Bool.not_true, Bool.not_false, true_and, and_true, rowA_whole, push_n, set_n, push_obj, set_obj, set_push, set_push_ne, set_set, Nat.add_assoc, Nat.left_eq_add, Nat.add_eq_left, Nat.add_left_cancel_iff, Nat.reduceEqDiff, stO_1s, stO_ws, boxA_s, one_bool, one_int, one_str, one_ptr, one_nilptr, one_slice, one_eslice, one_nilslice, one_func, one_iface, one_niliface, List.all_cons, List.all_nil, List.length_cons, List.length_nil, Nat.reduceLT, Nat.reduceEqDiff, Nat.reduceLeDiff, Bool.and_true, Nat.one_ne_zero, Nat.succ_ne_zero, reduceIte, if_false, List.getElem?_cons_zero, List.set_cons_zero, List.set_cons_succ]
  have B5 := B4.other (q := p2) (o := IObj.rows [[IV.int .i64 (numB t1.1), IV.str t4.1]] 46 2 false) (by omega) bq.eq (by decide)
  generalize hq_g5 : IH.set h4 (p2) (IObj.rows [[IV.int .i64 (numB t1.1), IV.str t4.1]] 46 2 false) = g5
  have l_g5 : g5.n = h4.n := by rw [← hq_g5]; rfl
  have bq : At g5 (p2) (IObj.rows [[IV.int .i64 (numB t1.1), IV.str t4.1]] 46 2 false) := by rw [← hq_g5]; exact bq.here
  have bb := bb.set (p := p2) (o' := IObj.rows [[IV.int .i64 (numB t1.1), IV.str t4.1]] 46 2 false) (by omega)
  rw [hq_g5] at bb
  have E := E.set (p2) (by omega) (IObj.rows [[IV.int .i64 (numB t1.1), IV.str t4.1]] 46 2 false)
  rw [hq_g5] at E
  rw [hq_g5] at B5
  clear hq_g5
  refine callA_of (code_c g5 _ t4.2.1 t4.2.2 (numB t2.1) 0 t4.1 ?_ (by omega) (by omega)) ?_
  · exact B5
  rintro r h6 ⟨rfl, E6⟩
  have bb := bb.ext E6
  have bq := bq.ext E6
  have E := E.ext E6
  have le_E6 := E6.le
  have hcd : (if t4.2.2 = true then 2 else if 0 < t4.2.1.length then 5 else if numB t2.1 ≠ 0 then 9 else if okName t4.1 = true then 0 else 6) = codeQ (numB t1.1, numB t2.1, t4.1, t4.2.1, t4.2.2) 0 := rfl
  rw [hcd]
  generalize codeQ (numB t1.1, numB t2.1, t4.1, t4.2.1, t4.2.2) 0 = cd
  by_cases c0 : cd = 0
  · have d0 : decide (cd = 0) = true := decide_eq_true c0
    rw [if_pos c0]
    simp only [bb.eq, bq.eq, d0, lay_nil, lay_1, lay_w, Option.map_some, go_sem, Hold.p, HoldK.k, HoldL.K, HoldL.body, Nat.reduceBEq, Nat.reduceAdd, List.getElem?_cons_zero, List.getElem?_cons_succ, Option.bind_some, List.map_cons, List.map_nil, Nat.zero_add, if_true, List.getD_cons_zero, List.getD_cons_succ, List.contains_cons, List.contains_nil, Nat.reduceBEq, Bool.or_true, Bool.true_or, Bool.or_false, Bool.false_or, Bool.not_true, Bool.not_false, true_and, and_true, rowA_whole, push_n, set_n, push_obj, set_obj, set_push, set_push_ne, set_set, Nat.add_assoc, Nat.left_eq_add, Nat.add_eq_left, Nat.add_left_cancel_iff, Nat.reduceEqDiff, stO_1s, stO_ws, boxA_s, one_bool, one_int, one_str, one_ptr, one_nilptr, one_slice, one_eslice, one_nilslice, one_func, one_iface, one_niliface, List.all_cons, List.all_nil, List.length_cons, List.length_nil, Nat.reduceLT, Nat.reduceEqDiff, Nat.reduceLeDiff, Bool.and_true, Nat.one_ne_zero, Nat.succ_ne_zero, reduceIte, if_false, List.getElem?_cons_zero, List.set_cons_zero, List.set_cons_succ]
    exact ⟨rfl, E.set _ (Nat.le_refl _) _⟩
  · have d0 : decide (cd = 0) = false := decide_eq_false c0
    rw [if_neg c0]
    simp only [bb.eq, bq.eq, d0, lay_nil, lay_1, lay_w, Option.map_some, go_sem, Hold.p, HoldK.k, HoldL.K, HoldL.body, Nat.reduceBEq, Nat.reduceAdd, List.getElem?_cons_zero, List.getElem?_cons_succ, Option.bind_some, List.map_cons, List.map_nil, Nat.zero_add, if_true, List.getD_cons_zero, List.getD_cons_succ, List.contains_cons, List.contains_nil, Nat.reduceBEq, Bool.or_true, Bool.true_or, Bool.or_false, Bool.false_or, Bool.not_true, Bool.not_false, true_and, and_true, rowA_whole, push_n, set_n, push_obj, set_obj, set_push, set_push_ne, set_set, Nat.add_assoc, Nat.left_eq_add, Nat.add_eq_left, Nat.add_left_cancel_iff, Nat.reduceEqDiff, stO_1s, stO_ws, boxA_s, one_bool, one_int, one_str, one_ptr, one_nilptr, one_slice, one_eslice, one_nilslice, one_func, one_iface, one_niliface, List.all_cons, List.all_nil, List.length_cons, List.length_nil, Nat.reduceLT, Nat.reduceEqDiff, Nat.reduceLeDiff, Bool.and_true, Nat.one_ne_zero, Nat.succ_ne_zero, reduceIte, if_false, List.getElem?_cons_zero, List.set_cons_zero, List.set_cons_succ]
    exact ⟨rfl, E.set _ (Nat.le_refl _) _⟩
end Go.Proofs.YtdpaehdolhdjdaaDoor


namespace Go.Proofs.YtdpaehdolhdjdaaDoor
open Go Go.IW

/-- Rows of bytes are a text's. -/
theorem fits_bytes {h : IH} : ∀ {rs : List (List IV)}, (∀ r ∈ rs, Fits h (.int .u8) r) → ∃ bs : List UInt8, rs = strRows bs
  | [], _ => ⟨[], rfl⟩
  | r :: rs, hf => by
    obtain ⟨bs, e⟩ := fits_bytes fun x hx => hf x (List.mem_cons_of_mem _ hx)
    obtain ⟨a, ha, hb⟩ := hf r List.mem_cons_self
    refine ⟨UInt8.ofNat a.toNat :: bs, ?_⟩
    have m1 : IntKind.u8.min = 0 := rfl
    have m2 : IntKind.u8.max = 255 := rfl
    have h2 : 0 ≤ a ∧ a < 256 := by simp [Lit.wf, m1, m2] at hb; omega
    subst ha
    rw [e]
    have h3 : ((UInt8.ofNat a.toNat).toNat : Int) = a := by
      have : (UInt8.ofNat a.toNat).toNat = a.toNat % 256 := UInt8.toNat_ofNat'
      omega
    show [IV.int .u8 a] :: strRows bs = [IV.int .u8 ((UInt8.ofNat a.toNat).toNat : Int)] :: strRows bs
    rw [h3]

end Go.Proofs.YtdpaehdolhdjdaaDoor


namespace Go.Proofs.YtdpaehdolhdjdaaDoor
open Go Go.IW

/-! Rows of numbers. -/
def intRows (zs : List Int) : List (List IV) := zs.map fun a => [.int .i64 a]
theorem intRows_len (a : List Int) : (intRows a).length = a.length := by simp [intRows]
theorem intRows_at {a : List Int} {k : Nat} {b : Int} (h : a[k]? = some b) : (intRows a)[k]? = some [.int .i64 b] := by simp [intRows, h]
theorem intRows_append (a b : List Int) : intRows (a ++ b) = intRows a ++ intRows b := by simp [intRows]
/-! When a reply is well. -/
def okAddr (a : Int) : Bool := decide (0 ≤ a) && decide (a ≤ 4294967295)
def okRep (id code ttl : Int) (nm : List UInt8) (zs : List Int) : Bool :=
  (decide (0 ≤ id) && decide (id ≤ 65535)) && okName nm && (decide (0 ≤ code) && decide (code ≤ 255)) && (decide (0 ≤ ttl) && decide (ttl ≤ 86400)) && decide (zs.length ≤ 8) && zs.all okAddr

set_option maxRecDepth 20000 in
theorem l02AddrOK_c (h : IH) (n : Int) : ICalls Tryd.prog 132 [.int .i64 n] h fun r h' => r = .bool (okAddr n) ∧ h' = h := by
  refine icalls (.of ok132) (Nat.le_of_ble_eq_true rfl) ?_
  unfold c132
  simp only [go_sem, Hold.p, HoldK.k, HoldL.K, HoldL.body, Nat.reduceBEq, Nat.reduceAdd, List.getElem?_cons_zero, List.getElem?_cons_succ, Option.bind_some, List.map_cons, List.map_nil, Nat.zero_add, if_true, List.getD_cons_zero, List.getD_cons_succ, List.contains_cons, List.contains_nil, Nat.reduceBEq, Bool.or_true, Bool.true_or, Bool.or_false, Bool.false_or, Bool.not_true, Bool.not_false, true_and, and_true]
  refine callA_of (l01In_c h n 0 4294967295) ?_
  rintro r h' ⟨rfl, rfl⟩
  simp only [okAddr, go_sem, Hold.p, HoldK.k, HoldL.K, HoldL.body, Nat.reduceBEq, Nat.reduceAdd, List.getElem?_cons_zero, List.getElem?_cons_succ, Option.bind_some, List.map_cons, List.map_nil, Nat.zero_add, if_true, List.getD_cons_zero, List.getD_cons_succ, List.contains_cons, List.contains_nil, Nat.reduceBEq, Bool.or_true, Bool.true_or, Bool.or_false, Bool.false_or, Bool.not_true, Bool.not_false, true_and, and_true]

set_option maxRecDepth 20000 in
theorem isAddr_c (h : IH) (n : Int) : ICalls Tryd.prog 92 [.int .i64 n] h fun r h' => r = .bool (okAddr n) ∧ h' = h := by
  refine icalls (.of ok92) (Nat.le_of_ble_eq_true rfl) ?_
  unfold c92
  by_cases c1 : 0 ≤ n
  · have d1 : decide (0 ≤ n) = true := decide_eq_true c1
    simp only [d1, okAddr, Bool.true_and, Bool.false_and, go_sem, Hold.p, HoldK.k, HoldL.K, HoldL.body, Nat.reduceBEq, Nat.reduceAdd, List.getElem?_cons_zero, List.getElem?_cons_succ, Option.bind_some, List.map_cons, List.map_nil, Nat.zero_add, if_true, List.getD_cons_zero, List.getD_cons_succ, List.contains_cons, List.contains_nil, Nat.reduceBEq, Bool.or_true, Bool.true_or, Bool.or_false, Bool.false_or, Bool.not_true, Bool.not_false, true_and, and_true]
  · have d1 : decide (0 ≤ n) = false := decide_eq_false c1
    simp only [d1, okAddr, Bool.true_and, Bool.false_and, go_sem, Hold.p, HoldK.k, HoldL.K, HoldL.body, Nat.reduceBEq, Nat.reduceAdd, List.getElem?_cons_zero, List.getElem?_cons_succ, Option.bind_some, List.map_cons, List.map_nil, Nat.zero_add, if_true, List.getD_cons_zero, List.getD_cons_succ, List.contains_cons, List.contains_nil, Nat.reduceBEq, Bool.or_true, Bool.true_or, Bool.or_false, Bool.false_or, Bool.not_true, Bool.not_false, true_and, and_true]

set_option maxRecDepth 20000 in
theorem notAddr_c (h : IH) (n : Int) : ICalls Tryd.prog 134 [.int .i64 n] h fun r h' => r = .bool (!okAddr n) ∧ h' = h := by
  refine icalls (.of ok134) (Nat.le_of_ble_eq_true rfl) ?_
  unfold c134
  simp only [go_sem, Hold.p, HoldK.k, HoldL.K, HoldL.body, Nat.reduceBEq, Nat.reduceAdd, List.getElem?_cons_zero, List.getElem?_cons_succ, Option.bind_some, List.map_cons, List.map_nil, Nat.zero_add, if_true, List.getD_cons_zero, List.getD_cons_succ, List.contains_cons, List.contains_nil, Nat.reduceBEq, Bool.or_true, Bool.true_or, Bool.or_false, Bool.false_or, Bool.not_true, Bool.not_false, true_and, and_true]
  refine callA_of (isAddr_c h n) ?_
  rintro r h' ⟨rfl, rfl⟩
  simp only [go_sem, Hold.p, HoldK.k, HoldL.K, HoldL.body, Nat.reduceBEq, Nat.reduceAdd, List.getElem?_cons_zero, List.getElem?_cons_succ, Option.bind_some, List.map_cons, List.map_nil, Nat.zero_add, if_true, List.getD_cons_zero, List.getD_cons_succ, List.contains_cons, List.contains_nil, Nat.reduceBEq, Bool.or_true, Bool.true_or, Bool.or_false, Bool.false_or, Bool.not_true, Bool.not_false, true_and, and_true]

set_option maxRecDepth 20000 in
theorem indexBad_c (h : IH) (v : IV) (zs : List Int) (hs : SlR h 1 v (intRows zs)) (hm : zs.length ≤ 1048576) :
    ICalls Tryd.prog 161 [v, .func 134 [] []] h fun r h' => (∃ n : Int, r = .int .i64 n ∧ decide (0 ≤ n) = !zs.all okAddr) ∧ h' = h := by
  refine icalls (.of ok161) (Nat.le_of_ble_eq_true rfl) ?_
  unfold c161
  have hlen := hs.lenF
  rw [intRows_len] at hlen
  simp only [hlen, go_sem, Hold.p, HoldK.k, HoldL.K, HoldL.body, Nat.reduceBEq, Nat.reduceAdd, List.getElem?_cons_zero, List.getElem?_cons_succ, Option.bind_some, List.map_cons, List.map_nil, Nat.zero_add, if_true, List.getD_cons_zero, List.getD_cons_succ, List.contains_cons, List.contains_nil, Nat.reduceBEq, Bool.or_true, Bool.true_or, Bool.or_false, Bool.false_or, Bool.not_true, Bool.not_false, true_and, and_true]
  refine loop_at (fun n e h' => ∃ k, n = zs.length - k ∧ k ≤ zs.length ∧ e 0 = v ∧ e 1 = .func 134 [] [] ∧ e 7 = .int .i64 (zs.length : Nat) ∧ e 8 = .int .i64 (k : Nat) ∧ (zs.take k).all okAddr = true ∧ h' = h) zs.length ?_ ?_
  · refine ⟨0, by omega, by omega, ?_⟩
    simp only [go_sem, Hold.p, HoldK.k, HoldL.K, HoldL.body, Nat.reduceBEq, Nat.reduceAdd, List.getElem?_cons_zero, List.getElem?_cons_succ, Option.bind_some, List.map_cons, List.map_nil, Nat.zero_add, if_true, List.getD_cons_zero, List.getD_cons_succ, List.contains_cons, List.contains_nil, Nat.reduceBEq, Bool.or_true, Bool.true_or, Bool.or_false, Bool.false_or, Bool.not_true, Bool.not_false, true_and, and_true]
    exact ⟨rfl, rfl⟩
  · rintro n e h' ⟨k, rfl, hk, e0, e1, e7, e8, hok, rfl⟩
    simp only [e0, e1, e7, e8, go_sem, Hold.p, HoldK.k, HoldL.K, HoldL.body, Nat.reduceBEq, Nat.reduceAdd, List.getElem?_cons_zero, List.getElem?_cons_succ, Option.bind_some, List.map_cons, List.map_nil, Nat.zero_add, if_true, List.getD_cons_zero, List.getD_cons_succ, List.contains_cons, List.contains_nil, Nat.reduceBEq, Bool.or_true, Bool.true_or, Bool.or_false, Bool.false_or, Bool.not_true, Bool.not_false, true_and, and_true]
    refine test_dec (fun hb => ?_) (fun hb => ?_)
    · have hlt' : k < zs.length := by omega
      have hkp : zs[k]? = some zs[k] := List.getElem?_eq_getElem hlt'
      generalize zs[k] = p at hkp
      obtain ⟨l, j, hia, hll, hrow⟩ := hs.at (m := k) (intRows_at hkp) .i64
      have hc := cellO_row hrow
      simp only [e0, e1, e7, e8, hia, hc, List.nil_append, List.append_nil, go_sem, Hold.p, HoldK.k, HoldL.K, HoldL.body, Nat.reduceBEq, Nat.reduceAdd, List.getElem?_cons_zero, List.getElem?_cons_succ, Option.bind_some, List.map_cons, List.map_nil, Nat.zero_add, if_true, List.getD_cons_zero, List.getD_cons_succ, List.contains_cons, List.contains_nil, Nat.reduceBEq, Bool.or_true, Bool.true_or, Bool.or_false, Bool.false_or, Bool.not_true, Bool.not_false, true_and, and_true]
      refine callA_of (notAddr_c _ p) ?_
      rintro r h2 ⟨rfl, rfl⟩
      cases hp : okAddr p
      · simp only [hp, go_sem, Hold.p, HoldK.k, HoldL.K, HoldL.body, Nat.reduceBEq, Nat.reduceAdd, List.getElem?_cons_zero, List.getElem?_cons_succ, Option.bind_some, List.map_cons, List.map_nil, Nat.zero_add, if_true, List.getD_cons_zero, List.getD_cons_succ, List.contains_cons, List.contains_nil, Nat.reduceBEq, Bool.or_true, Bool.true_or, Bool.or_false, Bool.false_or, Bool.not_true, Bool.not_false, true_and, and_true]
        refine ⟨_, rfl, ?_⟩
        rw [not_all hkp hp]
        exact decide_eq_true (by omega)
      · simp only [e0, e1, e7, e8, hp, go_sem, Hold.p, HoldK.k, HoldL.K, HoldL.body, Nat.reduceBEq, Nat.reduceAdd, List.getElem?_cons_zero, List.getElem?_cons_succ, Option.bind_some, List.map_cons, List.map_nil, Nat.zero_add, if_true, List.getD_cons_zero, List.getD_cons_succ, List.contains_cons, List.contains_nil, Nat.reduceBEq, Bool.or_true, Bool.true_or, Bool.or_false, Bool.false_or, Bool.not_true, Bool.not_false, true_and, and_true]
        refine ⟨_, ?_, k + 1, rfl, by omega, wr64_succ k (by omega), ?_⟩
        · omega
        · rw [take_all hkp hok]; exact hp
    · obtain rfl : k = zs.length := by omega
      rw [List.take_length] at hok
      simp only [go_sem, Hold.p, HoldK.k, HoldL.K, HoldL.body, Nat.reduceBEq, Nat.reduceAdd, List.getElem?_cons_zero, List.getElem?_cons_succ, Option.bind_some, List.map_cons, List.map_nil, Nat.zero_add, if_true, List.getD_cons_zero, List.getD_cons_succ, List.contains_cons, List.contains_nil, Nat.reduceBEq, Bool.or_true, Bool.true_or, Bool.or_false, Bool.false_or, Bool.not_true, Bool.not_false, true_and, and_true]
      exact ⟨-1, rfl, by rw [hok]; rfl⟩

set_option maxRecDepth 20000 in
theorem containsBad_c (h : IH) (v : IV) (zs : List Int) (hs : SlR h 1 v (intRows zs)) (hm : zs.length ≤ 1048576) :
    ICalls Tryd.prog 133 [v, .func 134 [] []] h fun r h' => r = .bool (!zs.all okAddr) ∧ h' = h := by
  refine icalls (.of ok133) (Nat.le_of_ble_eq_true rfl) ?_
  unfold c133
  simp only [go_sem, Hold.p, HoldK.k, HoldL.K, HoldL.body, Nat.reduceBEq, Nat.reduceAdd, List.getElem?_cons_zero, List.getElem?_cons_succ, Option.bind_some, List.map_cons, List.map_nil, Nat.zero_add, if_true, List.getD_cons_zero, List.getD_cons_succ, List.contains_cons, List.contains_nil, Nat.reduceBEq, Bool.or_true, Bool.true_or, Bool.or_false, Bool.false_or, Bool.not_true, Bool.not_false, true_and, and_true]
  refine callA_of (indexBad_c h v zs hs hm) ?_
  rintro r h' ⟨⟨n, rfl, hn⟩, rfl⟩
  simp only [hn, go_sem, Hold.p, HoldK.k, HoldL.K, HoldL.body, Nat.reduceBEq, Nat.reduceAdd, List.getElem?_cons_zero, List.getElem?_cons_succ, Option.bind_some, List.map_cons, List.map_nil, Nat.zero_add, if_true, List.getD_cons_zero, List.getD_cons_succ, List.contains_cons, List.contains_nil, Nat.reduceBEq, Bool.or_true, Bool.true_or, Bool.or_false, Bool.false_or, Bool.not_true, Bool.not_false, true_and, and_true]

set_option maxRecDepth 20000 in
theorem okReply_c (h : IH) (id code ttl : Int) (nm : List UInt8) (v : IV) (zs : List Int) (hs : SlR h 1 v (intRows zs)) (hm : zs.length ≤ 1048576) :
    ICalls Tryd.prog 87 [.agg [.int .i64 id, .int .i64 code, .int .i64 ttl, .str nm, v]] h fun r h' => (∃ b : Bool, r = .bool b ∧ (b && okName nm) = okRep id code ttl nm zs) ∧ Ext h h' := by
  refine icalls (.of ok87) (Nat.le_of_ble_eq_true rfl) ?_
  unfold c87
  have hv1 := hs.one
  have hvc := hs.cells
  simp only [hv1, go_sem, Hold.p, HoldK.k, HoldL.K, HoldL.body, Nat.reduceBEq, Nat.reduceAdd, List.getElem?_cons_zero, List.getElem?_cons_succ, Option.bind_some, List.map_cons, List.map_nil, Nat.zero_add, if_true, List.getD_cons_zero, List.getD_cons_succ, List.contains_cons, List.contains_nil, Nat.reduceBEq, Bool.or_true, Bool.true_or, Bool.or_false, Bool.false_or, Bool.not_true, Bool.not_false, true_and, and_true, rowA_whole, push_n, set_n, push_obj, set_obj, set_push, set_push_ne, set_set, Nat.add_assoc, Nat.left_eq_add, Nat.add_eq_left, Nat.add_left_cancel_iff, Nat.reduceEqDiff, stO_1s, stO_ws, boxA_s, one_bool, one_int, one_str, one_ptr, one_nilptr, one_slice, one_eslice, one_nilslice, one_func, one_iface, one_niliface, List.all_cons, List.all_nil, List.length_cons, List.length_nil, Nat.reduceLT, Nat.reduceEqDiff, Nat.reduceLeDiff, Bool.and_true, Nat.one_ne_zero, Nat.succ_ne_zero, reduceIte, if_false, List.getElem?_cons_zero, List.set_cons_zero, List.set_cons_succ]
  generalize hq_g0 : IH.push h (IObj.rows [[IV.int .i64 id, IV.int .i64 code, IV.int .i64 ttl, IV.str nm, v]] 54 5 false) = g0
  have e_g0 : Ext h g0 := by rw [← hq_g0]; exact (Ext.refl _).push _
  have l_g0 : g0.n = h.n + 1 := by rw [← hq_g0]; rfl
  have bb : At g0 h.n (IObj.rows [[IV.int .i64 id, IV.int .i64 code, IV.int .i64 ttl, IV.str nm, v]] 54 5 false) := by rw [← hq_g0]; exact At.new _ _
  clear hq_g0
  have hs := hs.ext e_g0
  have hlen := hs.lenF
  rw [intRows_len] at hlen
  have no : ∀ {b : Bool}, okRep id code ttl nm zs = false → (∃ b : Bool, IV.bool false = .bool b ∧ (b && okName nm) = okRep id code ttl nm zs) ∧ Ext h g0 := fun hx => ⟨⟨false, rfl, by rw [hx]; rfl⟩, e_g0⟩
  by_cases c1 : id < 0
  · have d1 : decide (id < 0) = true := decide_eq_true c1
    have d1' : decide (0 ≤ id) = false := decide_eq_false (by omega)
    simp only [bb.eq, d1, go_sem, Hold.p, HoldK.k, HoldL.K, HoldL.body, Nat.reduceBEq, Nat.reduceAdd, List.getElem?_cons_zero, List.getElem?_cons_succ, Option.bind_some, List.map_cons, List.map_nil, Nat.zero_add, if_true, List.getD_cons_zero, List.getD_cons_succ, List.contains_cons, List.contains_nil, Nat.reduceBEq, Bool.or_true, Bool.true_or, Bool.or_false, Bool.false_or, Bool.not_true, Bool.not_false, true_and, and_true, rowA_whole, push_n, set_n, push_obj, set_obj, set_push, set_push_ne, set_set, Nat.add_assoc, Nat.left_eq_add, Nat.add_eq_left, Nat.add_left_cancel_iff, Nat.reduceEqDiff, stO_1s, stO_ws, boxA_s, one_bool, one_int, one_str, one_ptr, one_nilptr, one_slice, one_eslice, one_nilslice, one_func, one_iface, one_niliface, List.all_cons, List.all_nil, List.length_cons, List.length_nil, Nat.reduceLT, Nat.reduceEqDiff, Nat.reduceLeDiff, Bool.and_true, Nat.one_ne_zero, Nat.succ_ne_zero, reduceIte, if_false, List.getElem?_cons_zero, List.set_cons_zero, List.set_cons_succ]
    exact no (b := true) (by unfold okRep; simp only [d1', Bool.false_and, Bool.and_false])
  have d1 : decide (id < 0) = false := decide_eq_false c1
  have d1' : decide (0 ≤ id) = true := decide_eq_true (by omega)
  by_cases c2 : 65535 < id
  · have d2 : decide (65535 < id) = true := decide_eq_true c2
    have d2' : decide (id ≤ 65535) = false := decide_eq_false (by omega)
    simp only [bb.eq, d1, d2, go_sem, Hold.p, HoldK.k, HoldL.K, HoldL.body, Nat.reduceBEq, Nat.reduceAdd, List.getElem?_cons_zero, List.getElem?_cons_succ, Option.bind_some, List.map_cons, List.map_nil, Nat.zero_add, if_true, List.getD_cons_zero, List.getD_cons_succ, List.contains_cons, List.contains_nil, Nat.reduceBEq, Bool.or_true, Bool.true_or, Bool.or_false, Bool.false_or, Bool.not_true, Bool.not_false, true_and, and_true, rowA_whole, push_n, set_n, push_obj, set_obj, set_push, set_push_ne, set_set, Nat.add_assoc, Nat.left_eq_add, Nat.add_eq_left, Nat.add_left_cancel_iff, Nat.reduceEqDiff, stO_1s, stO_ws, boxA_s, one_bool, one_int, one_str, one_ptr, one_nilptr, one_slice, one_eslice, one_nilslice, one_func, one_iface, one_niliface, List.all_cons, List.all_nil, List.length_cons, List.length_nil, Nat.reduceLT, Nat.reduceEqDiff, Nat.reduceLeDiff, Bool.and_true, Nat.one_ne_zero, Nat.succ_ne_zero, reduceIte, if_false, List.getElem?_cons_zero, List.set_cons_zero, List.set_cons_succ]
    exact no (b := true) (by unfold okRep; simp only [d2', Bool.false_and, Bool.and_false])
  have d2 : decide (65535 < id) = false := decide_eq_false c2
  have d2' : decide (id ≤ 65535) = true := decide_eq_true (by omega)
  by_cases c3 : code < 0
  · have d3 : decide (code < 0) = true := decide_eq_true c3
    have d3' : decide (0 ≤ code) = false := decide_eq_false (by omega)
    simp only [bb.eq, d1, d2, d3, go_sem, Hold.p, HoldK.k, HoldL.K, HoldL.body, Nat.reduceBEq, Nat.reduceAdd, List.getElem?_cons_zero, List.getElem?_cons_succ, Option.bind_some, List.map_cons, List.map_nil, Nat.zero_add, if_true, List.getD_cons_zero, List.getD_cons_succ, List.contains_cons, List.contains_nil, Nat.reduceBEq, Bool.or_true, Bool.true_or, Bool.or_false, Bool.false_or, Bool.not_true, Bool.not_false, true_and, and_true, rowA_whole, push_n, set_n, push_obj, set_obj, set_push, set_push_ne, set_set, Nat.add_assoc, Nat.left_eq_add, Nat.add_eq_left, Nat.add_left_cancel_iff, Nat.reduceEqDiff, stO_1s, stO_ws, boxA_s, one_bool, one_int, one_str, one_ptr, one_nilptr, one_slice, one_eslice, one_nilslice, one_func, one_iface, one_niliface, List.all_cons, List.all_nil, List.length_cons, List.length_nil, Nat.reduceLT, Nat.reduceEqDiff, Nat.reduceLeDiff, Bool.and_true, Nat.one_ne_zero, Nat.succ_ne_zero, reduceIte, if_false, List.getElem?_cons_zero, List.set_cons_zero, List.set_cons_succ]
    exact no (b := true) (by unfold okRep; simp only [d3', Bool.false_and, Bool.and_false])
  have d3 : decide (code < 0) = false := decide_eq_false c3
  have d3' : decide (0 ≤ code) = true := decide_eq_true (by omega)
  by_cases c4 : 255 < code
  · have d4 : decide (255 < code) = true := decide_eq_true c4
    have d4' : decide (code ≤ 255) = false := decide_eq_false (by omega)
    simp only [bb.eq, d1, d2, d3, d4, go_sem, Hold.p, HoldK.k, HoldL.K, HoldL.body, Nat.reduceBEq, Nat.reduceAdd, List.getElem?_cons_zero, List.getElem?_cons_succ, Option.bind_some, List.map_cons, List.map_nil, Nat.zero_add, if_true, List.getD_cons_zero, List.getD_cons_succ, List.contains_cons, List.contains_nil, Nat.reduceBEq, Bool.or_true, Bool.true_or, Bool.or_false, Bool.false_or, Bool.not_true, Bool.not_false, true_and, and_true, rowA_whole, push_n, set_n, push_obj, set_obj, set_push, set_push_ne, set_set, Nat.add_assoc, Nat.left_eq_add, Nat.add_eq_left, Nat.add_left_cancel_iff, Nat.reduceEqDiff, stO_1s, stO_ws, boxA_s, one_bool, one_int, one_str, one_ptr, one_nilptr, one_slice, one_eslice, one_nilslice, one_func, one_iface, one_niliface, List.all_cons, List.all_nil, List.length_cons, List.length_nil, Nat.reduceLT, Nat.reduceEqDiff, Nat.reduceLeDiff, Bool.and_true, Nat.one_ne_zero, Nat.succ_ne_zero, reduceIte, if_false, List.getElem?_cons_zero, List.set_cons_zero, List.set_cons_succ]
    exact no (b := true) (by unfold okRep; simp only [d4', Bool.false_and, Bool.and_false])
  have d4 : decide (255 < code) = false := decide_eq_false c4
  have d4' : decide (code ≤ 255) = true := decide_eq_true (by omega)
  by_cases c5 : ttl < 0
  · have d5 : decide (ttl < 0) = true := decide_eq_true c5
    have d5' : decide (0 ≤ ttl) = false := decide_eq_false (by omega)
    simp only [bb.eq, d1, d2, d3, d4, d5, go_sem, Hold.p, HoldK.k, HoldL.K, HoldL.body, Nat.reduceBEq, Nat.reduceAdd, List.getElem?_cons_zero, List.getElem?_cons_succ, Option.bind_some, List.map_cons, List.map_nil, Nat.zero_add, if_true, List.getD_cons_zero, List.getD_cons_succ, List.contains_cons, List.contains_nil, Nat.reduceBEq, Bool.or_true, Bool.true_or, Bool.or_false, Bool.false_or, Bool.not_true, Bool.not_false, true_and, and_true, rowA_whole, push_n, set_n, push_obj, set_obj, set_push, set_push_ne, set_set, Nat.add_assoc, Nat.left_eq_add, Nat.add_eq_left, Nat.add_left_cancel_iff, Nat.reduceEqDiff, stO_1s, stO_ws, boxA_s, one_bool, one_int, one_str, one_ptr, one_nilptr, one_slice, one_eslice, one_nilslice, one_func, one_iface, one_niliface, List.all_cons, List.all_nil, List.length_cons, List.length_nil, Nat.reduceLT, Nat.reduceEqDiff, Nat.reduceLeDiff, Bool.and_true, Nat.one_ne_zero, Nat.succ_ne_zero, reduceIte, if_false, List.getElem?_cons_zero, List.set_cons_zero, List.set_cons_succ]
    exact no (b := true) (by unfold okRep; simp only [d5', Bool.false_and, Bool.and_false])
  have d5 : decide (ttl < 0) = false := decide_eq_false c5
  have d5' : decide (0 ≤ ttl) = true := decide_eq_true (by omega)
  by_cases c6 : 86400 < ttl
  · have d6 : decide (86400 < ttl) = true := decide_eq_true c6
    have d6' : decide (ttl ≤ 86400) = false := decide_eq_false (by omega)
    simp only [bb.eq, d1, d2, d3, d4, d5, d6, go_sem, Hold.p, HoldK.k, HoldL.K, HoldL.body, Nat.reduceBEq, Nat.reduceAdd, List.getElem?_cons_zero, List.getElem?_cons_succ, Option.bind_some, List.map_cons, List.map_nil, Nat.zero_add, if_true, List.getD_cons_zero, List.getD_cons_succ, List.contains_cons, List.contains_nil, Nat.reduceBEq, Bool.or_true, Bool.true_or, Bool.or_false, Bool.false_or, Bool.not_true, Bool.not_false, true_and, and_true, rowA_whole, push_n, set_n, push_obj, set_obj, set_push, set_push_ne, set_set, Nat.add_assoc, Nat.left_eq_add, Nat.add_eq_left, Nat.add_left_cancel_iff, Nat.reduceEqDiff, stO_1s, stO_ws, boxA_s, one_bool, one_int, one_str, one_ptr, one_nilptr, one_slice, one_eslice, one_nilslice, one_func, one_iface, one_niliface, List.all_cons, List.all_nil, List.length_cons, List.length_nil, Nat.reduceLT, Nat.reduceEqDiff, Nat.reduceLeDiff, Bool.and_true, Nat.one_ne_zero, Nat.succ_ne_zero, reduceIte, if_false, List.getElem?_cons_zero, List.set_cons_zero, List.set_cons_succ]
    exact no (b := true) (by unfold okRep; simp only [d6', Bool.false_and, Bool.and_false])
  have d6 : decide (86400 < ttl) = false := decide_eq_false c6
  have d6' : decide (ttl ≤ 86400) = true := decide_eq_true (by omega)
  by_cases c7 : 8 < zs.length
  · have d7 : decide ((8 : Int) < (zs.length : Int)) = true := decide_eq_true (by omega)
    have d7' : decide (zs.length ≤ 8) = false := decide_eq_false (by omega)
    simp only [bb.eq, d1, d2, d3, d4, d5, d6, hlen, d7, go_sem, Hold.p, HoldK.k, HoldL.K, HoldL.body, Nat.reduceBEq, Nat.reduceAdd, List.getElem?_cons_zero, List.getElem?_cons_succ, Option.bind_some, List.map_cons, List.map_nil, Nat.zero_add, if_true, List.getD_cons_zero, List.getD_cons_succ, List.contains_cons, List.contains_nil, Nat.reduceBEq, Bool.or_true, Bool.true_or, Bool.or_false, Bool.false_or, Bool.not_true, Bool.not_false, true_and, and_true, rowA_whole, push_n, set_n, push_obj, set_obj, set_push, set_push_ne, set_set, Nat.add_assoc, Nat.left_eq_add, Nat.add_eq_left, Nat.add_left_cancel_iff, Nat.reduceEqDiff, stO_1s, stO_ws, boxA_s, one_bool, one_int, one_str, one_ptr, one_nilptr, one_slice, one_eslice, one_nilslice, one_func, one_iface, one_niliface, List.all_cons, List.all_nil, List.length_cons, List.length_nil, Nat.reduceLT, Nat.reduceEqDiff, Nat.reduceLeDiff, Bool.and_true, Nat.one_ne_zero, Nat.succ_ne_zero, reduceIte, if_false, List.getElem?_cons_zero, List.set_cons_zero, List.set_cons_succ]
    exact no (b := true) (by unfold okRep; simp only [d7', Bool.false_and, Bool.and_false])
  have d7 : decide ((8 : Int) < (zs.length : Int)) = false := decide_eq_false (by omega)
  have d7' : decide (zs.length ≤ 8) = true := decide_eq_true (by omega)
  simp only [bb.eq, d1, d2, d3, d4, d5, d6, hlen, d7, go_sem, Hold.p, HoldK.k, HoldL.K, HoldL.body, Nat.reduceBEq, Nat.reduceAdd, List.getElem?_cons_zero, List.getElem?_cons_succ, Option.bind_some, List.map_cons, List.map_nil, Nat.zero_add, if_true, List.getD_cons_zero, List.getD_cons_succ, List.contains_cons, List.contains_nil, Nat.reduceBEq, Bool.or_true, Bool.true_or, Bool.or_false, Bool.false_or, Bool.not_true, Bool.not_false, true_and, and_true, rowA_whole, push_n, set_n, push_obj, set_obj, set_push, set_push_ne, set_set, Nat.add_assoc, Nat.left_eq_add, Nat.add_eq_left, Nat.add_left_cancel_iff, Nat.reduceEqDiff, stO_1s, stO_ws, boxA_s, one_bool, one_int, one_str, one_ptr, one_nilptr, one_slice, one_eslice, one_nilslice, one_func, one_iface, one_niliface, List.all_cons, List.all_nil, List.length_cons, List.length_nil, Nat.reduceLT, Nat.reduceEqDiff, Nat.reduceLeDiff, Bool.and_true, Nat.one_ne_zero, Nat.succ_ne_zero, reduceIte, if_false, List.getElem?_cons_zero, List.set_cons_zero, List.set_cons_succ]
  refine callA_of (containsBad_c _ v zs hs hm) ?_
  rintro r h' ⟨rfl, rfl⟩
  simp only [Bool.not_not, go_sem, Hold.p, HoldK.k, HoldL.K, HoldL.body, Nat.reduceBEq, Nat.reduceAdd, List.getElem?_cons_zero, List.getElem?_cons_succ, Option.bind_some, List.map_cons, List.map_nil, Nat.zero_add, if_true, List.getD_cons_zero, List.getD_cons_succ, List.contains_cons, List.contains_nil, Nat.reduceBEq, Bool.or_true, Bool.true_or, Bool.or_false, Bool.false_or, Bool.not_true, Bool.not_false, true_and, and_true, rowA_whole, push_n, set_n, push_obj, set_obj, set_push, set_push_ne, set_set, Nat.add_assoc, Nat.left_eq_add, Nat.add_eq_left, Nat.add_left_cancel_iff, Nat.reduceEqDiff, stO_1s, stO_ws, boxA_s, one_bool, one_int, one_str, one_ptr, one_nilptr, one_slice, one_eslice, one_nilslice, one_func, one_iface, one_niliface, List.all_cons, List.all_nil, List.length_cons, List.length_nil, Nat.reduceLT, Nat.reduceEqDiff, Nat.reduceLeDiff, Bool.and_true, Nat.one_ne_zero, Nat.succ_ne_zero, reduceIte, if_false, List.getElem?_cons_zero, List.set_cons_zero, List.set_cons_succ]
  refine ⟨⟨_, rfl, ?_⟩, e_g0⟩
  unfold okRep
  simp only [d1', d2', d3', d4', d5', d6', d7', Bool.true_and, Bool.and_true]
  exact Bool.and_comm _ _
end Go.Proofs.YtdpaehdolhdjdaaDoor


namespace Go.Proofs.YtdpaehdolhdjdaaDoor
open Go Go.IW

set_option maxRecDepth 20000 in
theorem l19ReplyOK_c (h : IH) (id code ttl : Int) (nm : List UInt8) (v : IV) (zs : List Int) (hs : SlR h 1 v (intRows zs)) (hm : nm.length ≤ 1048576) (hz : zs.length ≤ 1048576) :
    ICalls Tryd.prog 86 [.agg [.int .i64 id, .int .i64 code, .int .i64 ttl, .str nm, v]] h fun r h' => r = .bool (okRep id code ttl nm zs) ∧ Ext h h' := by
  refine icalls (.of ok86) (Nat.le_of_ble_eq_true rfl) ?_
  unfold c86
  have hv1 := hs.one
  have hvc := hs.cells
  have hlen := hs.lenF
  rw [intRows_len] at hlen
  unfold okRep
  simp only [hv1, go_sem, Hold.p, HoldK.k, HoldL.K, HoldL.body, Nat.reduceBEq, Nat.reduceAdd, List.getElem?_cons_zero, List.getElem?_cons_succ, Option.bind_some, List.map_cons, List.map_nil, Nat.zero_add, if_true, List.getD_cons_zero, List.getD_cons_succ, List.contains_cons, List.contains_nil, Nat.reduceBEq, Bool.or_true, Bool.true_or, Bool.or_false, Bool.false_or, Bool.not_true, Bool.not_false, true_and, and_true, rowA_whole, push_n, set_n, push_obj, set_obj, set_push, set_push_ne, set_set, Nat.add_assoc, Nat.left_eq_add, Nat.add_eq_left, Nat.add_left_cancel_iff, Nat.reduceEqDiff, stO_1s, stO_ws, boxA_s, one_bool, one_int, one_str, one_ptr, one_nilptr, one_slice, one_eslice, one_nilslice, one_func, one_iface, one_niliface, List.all_cons, List.all_nil, List.length_cons, List.length_nil, Nat.reduceLT, Nat.reduceEqDiff, Nat.reduceLeDiff, Bool.and_true, Nat.one_ne_zero, Nat.succ_ne_zero, reduceIte, if_false, List.getElem?_cons_zero, List.set_cons_zero, List.set_cons_succ]
  generalize hq_g0 : IH.push h (IObj.rows [[IV.int .i64 id, IV.int .i64 code, IV.int .i64 ttl, IV.str nm, v]] 54 5 false) = g0
  have e_g0 : Ext h g0 := by rw [← hq_g0]; exact (Ext.refl _).push _
  have l_g0 : g0.n = h.n + 1 := by rw [← hq_g0]; rfl
  have bb : At g0 h.n (IObj.rows [[IV.int .i64 id, IV.int .i64 code, IV.int .i64 ttl, IV.str nm, v]] 54 5 false) := by rw [← hq_g0]; exact At.new _ _
  clear hq_g0
  have hs := hs.ext e_g0
  refine callA_of (l10PortOK_c _ id) ?_
  rintro r g0' ⟨rfl, rfl⟩
  cases q1 : (decide (0 ≤ id) && decide (id ≤ 65535))
  · simp only [q1, Bool.true_and, Bool.false_and, go_sem, Hold.p, HoldK.k, HoldL.K, HoldL.body, Nat.reduceBEq, Nat.reduceAdd, List.getElem?_cons_zero, List.getElem?_cons_succ, Option.bind_some, List.map_cons, List.map_nil, Nat.zero_add, if_true, List.getD_cons_zero, List.getD_cons_succ, List.contains_cons, List.contains_nil, Nat.reduceBEq, Bool.or_true, Bool.true_or, Bool.or_false, Bool.false_or, Bool.not_true, Bool.not_false, true_and, and_true, rowA_whole, push_n, set_n, push_obj, set_obj, set_push, set_push_ne, set_set, Nat.add_assoc, Nat.left_eq_add, Nat.add_eq_left, Nat.add_left_cancel_iff, Nat.reduceEqDiff, stO_1s, stO_ws, boxA_s, one_bool, one_int, one_str, one_ptr, one_nilptr, one_slice, one_eslice, one_nilslice, one_func, one_iface, one_niliface, List.all_cons, List.all_nil, List.length_cons, List.length_nil, Nat.reduceLT, Nat.reduceEqDiff, Nat.reduceLeDiff, Bool.and_true, Nat.one_ne_zero, Nat.succ_ne_zero, reduceIte, if_false, List.getElem?_cons_zero, List.set_cons_zero, List.set_cons_succ]
    exact e_g0
  simp only [q1, bb.eq, go_sem, Hold.p, HoldK.k, HoldL.K, HoldL.body, Nat.reduceBEq, Nat.reduceAdd, List.getElem?_cons_zero, List.getElem?_cons_succ, Option.bind_some, List.map_cons, List.map_nil, Nat.zero_add, if_true, List.getD_cons_zero, List.getD_cons_succ, List.contains_cons, List.contains_nil, Nat.reduceBEq, Bool.or_true, Bool.true_or, Bool.or_false, Bool.false_or, Bool.not_true, Bool.not_false, true_and, and_true, rowA_whole, push_n, set_n, push_obj, set_obj, set_push, set_push_ne, set_set, Nat.add_assoc, Nat.left_eq_add, Nat.add_eq_left, Nat.add_left_cancel_iff, Nat.reduceEqDiff, stO_1s, stO_ws, boxA_s, one_bool, one_int, one_str, one_ptr, one_nilptr, one_slice, one_eslice, one_nilslice, one_func, one_iface, one_niliface, List.all_cons, List.all_nil, List.length_cons, List.length_nil, Nat.reduceLT, Nat.reduceEqDiff, Nat.reduceLeDiff, Bool.and_true, Nat.one_ne_zero, Nat.succ_ne_zero, reduceIte, if_false, List.getElem?_cons_zero, List.set_cons_zero, List.set_cons_succ]
  refine callA_of (specNameOK_c _ nm hm) ?_
  rintro r h1 ⟨rfl, E1⟩
  have E := e_g0.trans E1
  have bb := bb.ext E1
  have hs := hs.ext E1
  have le_E1 := E1.le
  cases q2 : okName nm
  · simp only [q2, Bool.true_and, Bool.false_and, go_sem, Hold.p, HoldK.k, HoldL.K, HoldL.body, Nat.reduceBEq, Nat.reduceAdd, List.getElem?_cons_zero, List.getElem?_cons_succ, Option.bind_some, List.map_cons, List.map_nil, Nat.zero_add, if_true, List.getD_cons_zero, List.getD_cons_succ, List.contains_cons, List.contains_nil, Nat.reduceBEq, Bool.or_true, Bool.true_or, Bool.or_false, Bool.false_or, Bool.not_true, Bool.not_false, true_and, and_true, rowA_whole, push_n, set_n, push_obj, set_obj, set_push, set_push_ne, set_set, Nat.add_assoc, Nat.left_eq_add, Nat.add_eq_left, Nat.add_left_cancel_iff, Nat.reduceEqDiff, stO_1s, stO_ws, boxA_s, one_bool, one_int, one_str, one_ptr, one_nilptr, one_slice, one_eslice, one_nilslice, one_func, one_iface, one_niliface, List.all_cons, List.all_nil, List.length_cons, List.length_nil, Nat.reduceLT, Nat.reduceEqDiff, Nat.reduceLeDiff, Bool.and_true, Nat.one_ne_zero, Nat.succ_ne_zero, reduceIte, if_false, List.getElem?_cons_zero, List.set_cons_zero, List.set_cons_succ]
    exact E
  simp only [q2, bb.eq, go_sem, Hold.p, HoldK.k, HoldL.K, HoldL.body, Nat.reduceBEq, Nat.reduceAdd, List.getElem?_cons_zero, List.getElem?_cons_succ, Option.bind_some, List.map_cons, List.map_nil, Nat.zero_add, if_true, List.getD_cons_zero, List.getD_cons_succ, List.contains_cons, List.contains_nil, Nat.reduceBEq, Bool.or_true, Bool.true_or, Bool.or_false, Bool.false_or, Bool.not_true, Bool.not_false, true_and, and_true, rowA_whole, push_n, set_n, push_obj, set_obj, set_push, set_push_ne, set_set, Nat.add_assoc, Nat.left_eq_add, Nat.add_eq_left, Nat.add_left_cancel_iff, Nat.reduceEqDiff, stO_1s, stO_ws, boxA_s, one_bool, one_int, one_str, one_ptr, one_nilptr, one_slice, one_eslice, one_nilslice, one_func, one_iface, one_niliface, List.all_cons, List.all_nil, List.length_cons, List.length_nil, Nat.reduceLT, Nat.reduceEqDiff, Nat.reduceLeDiff, Bool.and_true, Nat.one_ne_zero, Nat.succ_ne_zero, reduceIte, if_false, List.getElem?_cons_zero, List.set_cons_zero, List.set_cons_succ]
  refine callA_of (l01In_c _ code 0 255) ?_
  rintro r h1' ⟨rfl, rfl⟩
  cases q3 : (decide (0 ≤ code) && decide (code ≤ 255))
  · simp only [q3, Bool.true_and, Bool.false_and, go_sem, Hold.p, HoldK.k, HoldL.K, HoldL.body, Nat.reduceBEq, Nat.reduceAdd, List.getElem?_cons_zero, List.getElem?_cons_succ, Option.bind_some, List.map_cons, List.map_nil, Nat.zero_add, if_true, List.getD_cons_zero, List.getD_cons_succ, List.contains_cons, List.contains_nil, Nat.reduceBEq, Bool.or_true, Bool.true_or, Bool.or_false, Bool.false_or, Bool.not_true, Bool.not_false, true_and, and_true, rowA_whole, push_n, set_n, push_obj, set_obj, set_push, set_push_ne, set_set, Nat.add_assoc, Nat.left_eq_add, Nat.add_eq_left, Nat.add_left_cancel_iff, Nat.reduceEqDiff, stO_1s, stO_ws, boxA_s, one_bool, one_int, one_str, one_ptr, one_nilptr, one_slice, one_eslice, one_nilslice, one_func, one_iface, one_niliface, List.all_cons, List.all_nil, List.length_cons, List.length_nil, Nat.reduceLT, Nat.reduceEqDiff, Nat.reduceLeDiff, Bool.and_true, Nat.one_ne_zero, Nat.succ_ne_zero, reduceIte, if_false, List.getElem?_cons_zero, List.set_cons_zero, List.set_cons_succ]
    exact E
  simp only [q3, bb.eq, go_sem, Hold.p, HoldK.k, HoldL.K, HoldL.body, Nat.reduceBEq, Nat.reduceAdd, List.getElem?_cons_zero, List.getElem?_cons_succ, Option.bind_some, List.map_cons, List.map_nil, Nat.zero_add, if_true, List.getD_cons_zero, List.getD_cons_succ, List.contains_cons, List.contains_nil, Nat.reduceBEq, Bool.or_true, Bool.true_or, Bool.or_false, Bool.false_or, Bool.not_true, Bool.not_false, true_and, and_true, rowA_whole, push_n, set_n, push_obj, set_obj, set_push, set_push_ne, set_set, Nat.add_assoc, Nat.left_eq_add, Nat.add_eq_left, Nat.add_left_cancel_iff, Nat.reduceEqDiff, stO_1s, stO_ws, boxA_s, one_bool, one_int, one_str, one_ptr, one_nilptr, one_slice, one_eslice, one_nilslice, one_func, one_iface, one_niliface, List.all_cons, List.all_nil, List.length_cons, List.length_nil, Nat.reduceLT, Nat.reduceEqDiff, Nat.reduceLeDiff, Bool.and_true, Nat.one_ne_zero, Nat.succ_ne_zero, reduceIte, if_false, List.getElem?_cons_zero, List.set_cons_zero, List.set_cons_succ]
  refine callA_of (l01In_c _ ttl 0 86400) ?_
  rintro r h1'' ⟨rfl, rfl⟩
  cases q4 : (decide (0 ≤ ttl) && decide (ttl ≤ 86400))
  · simp only [q4, Bool.true_and, Bool.false_and, go_sem, Hold.p, HoldK.k, HoldL.K, HoldL.body, Nat.reduceBEq, Nat.reduceAdd, List.getElem?_cons_zero, List.getElem?_cons_succ, Option.bind_some, List.map_cons, List.map_nil, Nat.zero_add, if_true, List.getD_cons_zero, List.getD_cons_succ, List.contains_cons, List.contains_nil, Nat.reduceBEq, Bool.or_true, Bool.true_or, Bool.or_false, Bool.false_or, Bool.not_true, Bool.not_false, true_and, and_true, rowA_whole, push_n, set_n, push_obj, set_obj, set_push, set_push_ne, set_set, Nat.add_assoc, Nat.left_eq_add, Nat.add_eq_left, Nat.add_left_cancel_iff, Nat.reduceEqDiff, stO_1s, stO_ws, boxA_s, one_bool, one_int, one_str, one_ptr, one_nilptr, one_slice, one_eslice, one_nilslice, one_func, one_iface, one_niliface, List.all_cons, List.all_nil, List.length_cons, List.length_nil, Nat.reduceLT, Nat.reduceEqDiff, Nat.reduceLeDiff, Bool.and_true, Nat.one_ne_zero, Nat.succ_ne_zero, reduceIte, if_false, List.getElem?_cons_zero, List.set_cons_zero, List.set_cons_succ]
    exact E
  have hlen := hs.lenF
  rw [intRows_len] at hlen
  by_cases c7 : 8 < zs.length
  · have d7 : decide ((8 : Int) < (zs.length : Int)) = true := decide_eq_true (by omega)
    have d7' : decide (zs.length ≤ 8) = false := decide_eq_false (by omega)
    simp only [q4, bb.eq, hlen, d7, d7', Bool.true_and, Bool.false_and, go_sem, Hold.p, HoldK.k, HoldL.K, HoldL.body, Nat.reduceBEq, Nat.reduceAdd, List.getElem?_cons_zero, List.getElem?_cons_succ, Option.bind_some, List.map_cons, List.map_nil, Nat.zero_add, if_true, List.getD_cons_zero, List.getD_cons_succ, List.contains_cons, List.contains_nil, Nat.reduceBEq, Bool.or_true, Bool.true_or, Bool.or_false, Bool.false_or, Bool.not_true, Bool.not_false, true_and, and_true, rowA_whole, push_n, set_n, push_obj, set_obj, set_push, set_push_ne, set_set, Nat.add_assoc, Nat.left_eq_add, Nat.add_eq_left, Nat.add_left_cancel_iff, Nat.reduceEqDiff, stO_1s, stO_ws, boxA_s, one_bool, one_int, one_str, one_ptr, one_nilptr, one_slice, one_eslice, one_nilslice, one_func, one_iface, one_niliface, List.all_cons, List.all_nil, List.length_cons, List.length_nil, Nat.reduceLT, Nat.reduceEqDiff, Nat.reduceLeDiff, Bool.and_true, Nat.one_ne_zero, Nat.succ_ne_zero, reduceIte, if_false, List.getElem?_cons_zero, List.set_cons_zero, List.set_cons_succ]
    exact E
  have d7 : decide ((8 : Int) < (zs.length : Int)) = false := decide_eq_false (by omega)
  have d7' : decide (zs.length ≤ 8) = true := decide_eq_true (by omega)
  clear E1
  simp only [q4, bb.eq, hlen, d7, d7', Bool.true_and, go_sem, Hold.p, HoldK.k, HoldL.K, HoldL.body, Nat.reduceBEq, Nat.reduceAdd, List.getElem?_cons_zero, List.getElem?_cons_succ, Option.bind_some, List.map_cons, List.map_nil, Nat.zero_add, if_true, List.getD_cons_zero, List.getD_cons_succ, List.contains_cons, List.contains_nil, Nat.reduceBEq, Bool.or_true, Bool.true_or, Bool.or_false, Bool.false_or, Bool.not_true, Bool.not_false, true_and, and_true, rowA_whole, push_n, set_n, push_obj, set_obj, set_push, set_push_ne, set_set, Nat.add_assoc, Nat.left_eq_add, Nat.add_eq_left, Nat.add_left_cancel_iff, Nat.reduceEqDiff, stO_1s, stO_ws, boxA_s, one_bool, one_int, one_str, one_ptr, one_nilptr, one_slice, one_eslice, one_nilslice, one_func, one_iface, one_niliface, List.all_cons, List.all_nil, List.length_cons, List.length_nil, Nat.reduceLT, Nat.reduceEqDiff, Nat.reduceLeDiff, Bool.and_true, Nat.one_ne_zero, Nat.succ_ne_zero, reduceIte, if_false, List.getElem?_cons_zero, List.set_cons_zero, List.set_cons_succ]
  refine loop_at (fun n e h' => ∃ k, n = zs.length - k ∧ k ≤ zs.length ∧ e 1 = .ptr h.n 0 0 ∧ e 3 = .int .i64 (k : Nat) ∧ (zs.take k).all okAddr = true ∧ h' = h1'') zs.length ?_ ?_
  · refine ⟨0, by omega, by omega, ?_⟩
    simp only [go_sem, Hold.p, HoldK.k, HoldL.K, HoldL.body, Nat.reduceBEq, Nat.reduceAdd, List.getElem?_cons_zero, List.getElem?_cons_succ, Option.bind_some, List.map_cons, List.map_nil, Nat.zero_add, if_true, List.getD_cons_zero, List.getD_cons_succ, List.contains_cons, List.contains_nil, Nat.reduceBEq, Bool.or_true, Bool.true_or, Bool.or_false, Bool.false_or, Bool.not_true, Bool.not_false, true_and, and_true]
    exact ⟨rfl, rfl⟩
  · rintro n e h' ⟨k, rfl, hk, e1, e3, hok, rfl⟩
    simp only [e1, e3, bb.eq, hlen, go_sem, Hold.p, HoldK.k, HoldL.K, HoldL.body, Nat.reduceBEq, Nat.reduceAdd, List.getElem?_cons_zero, List.getElem?_cons_succ, Option.bind_some, List.map_cons, List.map_nil, Nat.zero_add, if_true, List.getD_cons_zero, List.getD_cons_succ, List.contains_cons, List.contains_nil, Nat.reduceBEq, Bool.or_true, Bool.true_or, Bool.or_false, Bool.false_or, Bool.not_true, Bool.not_false, true_and, and_true, rowA_whole, push_n, set_n, push_obj, set_obj, set_push, set_push_ne, set_set, Nat.add_assoc, Nat.left_eq_add, Nat.add_eq_left, Nat.add_left_cancel_iff, Nat.reduceEqDiff, stO_1s, stO_ws, boxA_s, one_bool, one_int, one_str, one_ptr, one_nilptr, one_slice, one_eslice, one_nilslice, one_func, one_iface, one_niliface, List.all_cons, List.all_nil, List.length_cons, List.length_nil, Nat.reduceLT, Nat.reduceEqDiff, Nat.reduceLeDiff, Bool.and_true, Nat.one_ne_zero, Nat.succ_ne_zero, reduceIte, if_false, List.getElem?_cons_zero, List.set_cons_zero, List.set_cons_succ]
    refine test_dec (fun hb => ?_) (fun hb => ?_)
    · have hlt' : k < zs.length := by omega
      have hkp : zs[k]? = some zs[k] := List.getElem?_eq_getElem hlt'
      generalize zs[k] = p at hkp
      obtain ⟨l, j, hia, hll, hrow⟩ := hs.at (m := k) (intRows_at hkp) .i64
      have hc := cellO_row hrow
      simp only [e1, e3, bb.eq, hia, hc, go_sem, Hold.p, HoldK.k, HoldL.K, HoldL.body, Nat.reduceBEq, Nat.reduceAdd, List.getElem?_cons_zero, List.getElem?_cons_succ, Option.bind_some, List.map_cons, List.map_nil, Nat.zero_add, if_true, List.getD_cons_zero, List.getD_cons_succ, List.contains_cons, List.contains_nil, Nat.reduceBEq, Bool.or_true, Bool.true_or, Bool.or_false, Bool.false_or, Bool.not_true, Bool.not_false, true_and, and_true, rowA_whole, push_n, set_n, push_obj, set_obj, set_push, set_push_ne, set_set, Nat.add_assoc, Nat.left_eq_add, Nat.add_eq_left, Nat.add_left_cancel_iff, Nat.reduceEqDiff, stO_1s, stO_ws, boxA_s, one_bool, one_int, one_str, one_ptr, one_nilptr, one_slice, one_eslice, one_nilslice, one_func, one_iface, one_niliface, List.all_cons, List.all_nil, List.length_cons, List.length_nil, Nat.reduceLT, Nat.reduceEqDiff, Nat.reduceLeDiff, Bool.and_true, Nat.one_ne_zero, Nat.succ_ne_zero, reduceIte, if_false, List.getElem?_cons_zero, List.set_cons_zero, List.set_cons_succ]
      refine callA_of (l02AddrOK_c _ p) ?_
      rintro r h2 ⟨rfl, rfl⟩
      cases hp : okAddr p
      · simp only [hp, go_sem, Hold.p, HoldK.k, HoldL.K, HoldL.body, Nat.reduceBEq, Nat.reduceAdd, List.getElem?_cons_zero, List.getElem?_cons_succ, Option.bind_some, List.map_cons, List.map_nil, Nat.zero_add, if_true, List.getD_cons_zero, List.getD_cons_succ, List.contains_cons, List.contains_nil, Nat.reduceBEq, Bool.or_true, Bool.true_or, Bool.or_false, Bool.false_or, Bool.not_true, Bool.not_false, true_and, and_true, rowA_whole, push_n, set_n, push_obj, set_obj, set_push, set_push_ne, set_set, Nat.add_assoc, Nat.left_eq_add, Nat.add_eq_left, Nat.add_left_cancel_iff, Nat.reduceEqDiff, stO_1s, stO_ws, boxA_s, one_bool, one_int, one_str, one_ptr, one_nilptr, one_slice, one_eslice, one_nilslice, one_func, one_iface, one_niliface, List.all_cons, List.all_nil, List.length_cons, List.length_nil, Nat.reduceLT, Nat.reduceEqDiff, Nat.reduceLeDiff, Bool.and_true, Nat.one_ne_zero, Nat.succ_ne_zero, reduceIte, if_false, List.getElem?_cons_zero, List.set_cons_zero, List.set_cons_succ]
        rw [not_all hkp hp, Bool.and_false]
        exact ⟨rfl, E⟩
      · simp only [e1, e3, hp, go_sem, Hold.p, HoldK.k, HoldL.K, HoldL.body, Nat.reduceBEq, Nat.reduceAdd, List.getElem?_cons_zero, List.getElem?_cons_succ, Option.bind_some, List.map_cons, List.map_nil, Nat.zero_add, if_true, List.getD_cons_zero, List.getD_cons_succ, List.contains_cons, List.contains_nil, Nat.reduceBEq, Bool.or_true, Bool.true_or, Bool.or_false, Bool.false_or, Bool.not_true, Bool.not_false, true_and, and_true, rowA_whole, push_n, set_n, push_obj, set_obj, set_push, set_push_ne, set_set, Nat.add_assoc, Nat.left_eq_add, Nat.add_eq_left, Nat.add_left_cancel_iff, Nat.reduceEqDiff, stO_1s, stO_ws, boxA_s, one_bool, one_int, one_str, one_ptr, one_nilptr, one_slice, one_eslice, one_nilslice, one_func, one_iface, one_niliface, List.all_cons, List.all_nil, List.length_cons, List.length_nil, Nat.reduceLT, Nat.reduceEqDiff, Nat.reduceLeDiff, Bool.and_true, Nat.one_ne_zero, Nat.succ_ne_zero, reduceIte, if_false, List.getElem?_cons_zero, List.set_cons_zero, List.set_cons_succ]
        refine ⟨_, ?_, k + 1, rfl, by omega, wr64_succ k (by omega), ?_⟩
        · omega
        · rw [take_all hkp hok]; exact hp
    · obtain rfl : k = zs.length := by omega
      rw [List.take_length] at hok
      simp only [hok, d7', Bool.true_and, go_sem, Hold.p, HoldK.k, HoldL.K, HoldL.body, Nat.reduceBEq, Nat.reduceAdd, List.getElem?_cons_zero, List.getElem?_cons_succ, Option.bind_some, List.map_cons, List.map_nil, Nat.zero_add, if_true, List.getD_cons_zero, List.getD_cons_succ, List.contains_cons, List.contains_nil, Nat.reduceBEq, Bool.or_true, Bool.true_or, Bool.or_false, Bool.false_or, Bool.not_true, Bool.not_false, true_and, and_true, rowA_whole, push_n, set_n, push_obj, set_obj, set_push, set_push_ne, set_set, Nat.add_assoc, Nat.left_eq_add, Nat.add_eq_left, Nat.add_left_cancel_iff, Nat.reduceEqDiff, stO_1s, stO_ws, boxA_s, one_bool, one_int, one_str, one_ptr, one_nilptr, one_slice, one_eslice, one_nilslice, one_func, one_iface, one_niliface, List.all_cons, List.all_nil, List.length_cons, List.length_nil, Nat.reduceLT, Nat.reduceEqDiff, Nat.reduceLeDiff, Bool.and_true, Nat.one_ne_zero, Nat.succ_ne_zero, reduceIte, if_false, List.getElem?_cons_zero, List.set_cons_zero, List.set_cons_succ]
      exact E
end Go.Proofs.YtdpaehdolhdjdaaDoor


namespace Go.Proofs.YtdpaehdolhdjdaaDoor
open Go Go.IW

/-- What EncodeReply answers. -/
def repHead (id code ttl : Int) (nm : List UInt8) (zs : List Int) : List UInt8 :=
  (((beB 2 id ++ [1, UInt8.ofNat (code % 256).toNat]) ++ beB 4 ttl ++ [UInt8.ofNat nm.length]) ++ nm) ++ [UInt8.ofNat zs.length]
def encR (id code ttl : Int) (nm : List UInt8) (zs : List Int) : List UInt8 × Int :=
  if okRep id code ttl nm zs = true then (repHead id code ttl nm zs ++ zs.flatMap (beB 4), 0) else ([], 1)
theorem okRep_ok {id code ttl : Int} {nm : List UInt8} {zs : List Int} (h : okRep id code ttl nm zs = true) : (0 ≤ id ∧ id ≤ 65535) ∧ okName nm = true ∧ (0 ≤ code ∧ code ≤ 255) ∧ (0 ≤ ttl ∧ ttl ≤ 86400) ∧ zs.length ≤ 8 ∧ zs.all okAddr = true := by
  unfold okRep at h
  simp only [Bool.and_eq_true, decide_eq_true_eq] at h
  exact ⟨h.1.1.1.1.1, h.1.1.1.1.2, h.1.1.1.2, h.1.1.2, h.1.2, h.2⟩
theorem flat_len (zs : List Int) : (zs.flatMap (beB 4)).length = 4 * zs.length := by
  induction zs with
  | nil => rfl
  | cons a r ih => rw [List.flatMap_cons, List.length_append, ih, beB_len, List.length_cons]; omega
theorem flat_snoc {zs : List Int} {k : Nat} {p : Int} (h : zs[k]? = some p) : (zs.take (k + 1)).flatMap (beB 4) = (zs.take k).flatMap (beB 4) ++ beB 4 p := by
  rw [List.take_add_one, h]; simp
/-- Between two pieces. -/
def Bet (hB : IH) (p : Nat) (bs : List UInt8) (e : Env) (g : IH) : Prop := ∃ x, e 1 = .ptr p 0 0 ∧ e 4 = x ∧ Own hB.n g.n g 5 1 x (strRows bs) ∧ Ext hB g

set_option maxRecDepth 20000 in
theorem specEncodeReply_c (h : IH) (id code ttl : Int) (nm : List UInt8) (v : IV) (zs : List Int) (hs : SlR h 1 v (intRows zs)) (hm : nm.length ≤ 1048576) (hz : zs.length ≤ 1048576) :
    ICalls Tryd.prog 31 [.agg [.int .i64 id, .int .i64 code, .int .i64 ttl, .str nm, v]] h fun r h' => BytesRes h h' r (encR id code ttl nm zs) := by
  refine icalls (.of ok31) (Nat.le_of_ble_eq_true rfl) ?_
  unfold c31
  have hv1 := hs.one
  have hvc := hs.cells
  by_cases hok : okRep id code ttl nm zs = true
  · obtain ⟨hid, hnm, hcode, httl, hzl, hza⟩ := okRep_ok hok
    obtain ⟨hne, hl⟩ := okName_ne hnm
    have hdef : encR id code ttl nm zs = (repHead id code ttl nm zs ++ zs.flatMap (beB 4), 0) := if_pos hok
    rw [hdef]
    have w1 := u8_len (n := nm.length) (by omega)
    have w2 := u8_len (n := zs.length) (by omega)
    have w3 := wr_u8 code
    generalize hbc : UInt8.ofNat (code % 256).toNat = bc at w3
    refine vc_cut2 (fun e g => ∃ hB : IH, At hB h.n (IObj.rows [[IV.int .i64 id, IV.int .i64 code, IV.int .i64 ttl, IV.str nm, v]] 54 5 false) ∧ SlR hB 1 v (intRows zs) ∧ Ext h hB ∧ e 1 = .ptr h.n 0 0 ∧ g = hB) ?_ ?_
    · simp only [hv1, go_sem, Hold.p, HoldK.k, HoldL.K, HoldL.body, Nat.reduceBEq, Nat.reduceAdd, List.getElem?_cons_zero, List.getElem?_cons_succ, Option.bind_some, List.map_cons, List.map_nil, Nat.zero_add, if_true, List.getD_cons_zero, List.getD_cons_succ, List.contains_cons, List.contains_nil, Nat.reduceBEq, Bool.or_true, Bool.true_or, Bool.or_false, Bool.false_or, Bool.not_true, Bool.not_false, true_and, and_true, rowA_whole, push_n, set_n, push_obj, set_obj, set_push, set_push_ne, set_set, Nat.add_assoc, Nat.left_eq_add, Nat.add_eq_left, Nat.add_left_cancel_iff, Nat.reduceEqDiff, stO_1s, stO_ws, boxA_s, one_bool, one_int, one_str, one_ptr, one_nilptr, one_slice, one_eslice, one_nilslice, one_func, one_iface, one_niliface, List.all_cons, List.all_nil, List.length_cons, List.length_nil, Nat.reduceLT, Nat.reduceEqDiff, Nat.reduceLeDiff, Bool.and_true, Nat.one_ne_zero, Nat.succ_ne_zero, reduceIte, if_false, List.getElem?_cons_zero, List.set_cons_zero, List.set_cons_succ]
      generalize hq_g0 : IH.push h (IObj.rows [[IV.int .i64 id, IV.int .i64 code, IV.int .i64 ttl, IV.str nm, v]] 54 5 false) = g0
      have e_g0 : Ext h g0 := by rw [← hq_g0]; exact (Ext.refl _).push _
      have l_g0 : g0.n = h.n + 1 := by rw [← hq_g0]; rfl
      have bb : At g0 h.n (IObj.rows [[IV.int .i64 id, IV.int .i64 code, IV.int .i64 ttl, IV.str nm, v]] 54 5 false) := by rw [← hq_g0]; exact At.new _ _
      clear hq_g0
      have hs := hs.ext e_g0
      refine callA_of (l19ReplyOK_c _ id code ttl nm v zs hs hm hz) ?_
      rintro r h1 ⟨rfl, E1⟩
      have E := e_g0.trans E1
      have bb := bb.ext E1
      have hs := hs.ext E1
      have le_E1 := E1.le
      simp only [hok, go_sem, Hold.p, HoldK.k, HoldL.K, HoldL.body, Nat.reduceBEq, Nat.reduceAdd, List.getElem?_cons_zero, List.getElem?_cons_succ, Option.bind_some, List.map_cons, List.map_nil, Nat.zero_add, if_true, List.getD_cons_zero, List.getD_cons_succ, List.contains_cons, List.contains_nil, Nat.reduceBEq, Bool.or_true, Bool.true_or, Bool.or_false, Bool.false_or, Bool.not_true, Bool.not_false, true_and, and_true, rowA_whole, push_n, set_n, push_obj, set_obj, set_push, set_push_ne, set_set, Nat.add_assoc, Nat.left_eq_add, Nat.add_eq_left, Nat.add_left_cancel_iff, Nat.reduceEqDiff, stO_1s, stO_ws, boxA_s, one_bool, one_int, one_str, one_ptr, one_nilptr, one_slice, one_eslice, one_nilslice, one_func, one_iface, one_niliface, List.all_cons, List.all_nil, List.length_cons, List.length_nil, Nat.reduceLT, Nat.reduceEqDiff, Nat.reduceLeDiff, Bool.and_true, Nat.one_ne_zero, Nat.succ_ne_zero, reduceIte, if_false, List.getElem?_cons_zero, List.set_cons_zero, List.set_cons_succ]
      exact ⟨h1, bb, hs, E, rfl⟩
    rintro e g ⟨hB, bb, hs, E, i1, rfl⟩
    have bbl := bb.lt
    refine vc_cut (Bet g h.n (beB 2 id ++ [1, bc])) ?_ ?_
    · simp only [i1, bb.eq, w3, go_sem, Hold.p, HoldK.k, HoldL.K, HoldL.body, Nat.reduceBEq, Nat.reduceAdd, List.getElem?_cons_zero, List.getElem?_cons_succ, Option.bind_some, List.map_cons, List.map_nil, Nat.zero_add, if_true, List.getD_cons_zero, List.getD_cons_succ, List.contains_cons, List.contains_nil, Nat.reduceBEq, Bool.or_true, Bool.true_or, Bool.or_false, Bool.false_or, Bool.not_true, Bool.not_false, true_and, and_true, rowA_whole, push_n, set_n, push_obj, set_obj, set_push, set_push_ne, set_set, Nat.add_assoc, Nat.left_eq_add, Nat.add_eq_left, Nat.add_left_cancel_iff, Nat.reduceEqDiff, stO_1s, stO_ws, boxA_s, one_bool, one_int, one_str, one_ptr, one_nilptr, one_slice, one_eslice, one_nilslice, one_func, one_iface, one_niliface, List.all_cons, List.all_nil, List.length_cons, List.length_nil, Nat.reduceLT, Nat.reduceEqDiff, Nat.reduceLeDiff, Bool.and_true, Nat.one_ne_zero, Nat.succ_ne_zero, reduceIte, if_false, List.getElem?_cons_zero, List.set_cons_zero, List.set_cons_succ]
      refine either_of ?_ ?_
      · simp only [i1, go_sem, Hold.p, HoldK.k, HoldL.K, HoldL.body, Nat.reduceBEq, Nat.reduceAdd, List.getElem?_cons_zero, List.getElem?_cons_succ, Option.bind_some, List.map_cons, List.map_nil, Nat.zero_add, if_true, List.getD_cons_zero, List.getD_cons_succ, List.contains_cons, List.contains_nil, Nat.reduceBEq, Bool.or_true, Bool.true_or, Bool.or_false, Bool.false_or, Bool.not_true, Bool.not_false, true_and, and_true, rowA_whole, push_n, set_n, push_obj, set_obj, set_push, set_push_ne, set_set, Nat.add_assoc, Nat.left_eq_add, Nat.add_eq_left, Nat.add_left_cancel_iff, Nat.reduceEqDiff, stO_1s, stO_ws, boxA_s, one_bool, one_int, one_str, one_ptr, one_nilptr, one_slice, one_eslice, one_nilslice, one_func, one_iface, one_niliface, List.all_cons, List.all_nil, List.length_cons, List.length_nil, Nat.reduceLT, Nat.reduceEqDiff, Nat.reduceLeDiff, Bool.and_true, Nat.one_ne_zero, Nat.succ_ne_zero, reduceIte, if_false, List.getElem?_cons_zero, List.set_cons_zero, List.set_cons_succ]
        refine callA_of (l03Put_c _ id 2 (by omega)) ?_
        rintro x h2 ⟨ox, E2⟩
        have bb2 := bb.ext E2
        have hn2 : (h.n = h2.n) = False := by have := E2.le; simp; omega
        simp only [i1, bb2.eq, w3, bslA_2, hn2, go_sem, Hold.p, HoldK.k, HoldL.K, HoldL.body, Nat.reduceBEq, Nat.reduceAdd, List.getElem?_cons_zero, List.getElem?_cons_succ, Option.bind_some, List.map_cons, List.map_nil, Nat.zero_add, if_true, List.getD_cons_zero, List.getD_cons_succ, List.contains_cons, List.contains_nil, Nat.reduceBEq, Bool.or_true, Bool.true_or, Bool.or_false, Bool.false_or, Bool.not_true, Bool.not_false, true_and, and_true, rowA_whole, push_n, set_n, push_obj, set_obj, set_push, set_push_ne, set_set, Nat.add_assoc, Nat.left_eq_add, Nat.add_eq_left, Nat.add_left_cancel_iff, Nat.reduceEqDiff, stO_1s, stO_ws, boxA_s, one_bool, one_int, one_str, one_ptr, one_nilptr, one_slice, one_eslice, one_nilslice, one_func, one_iface, one_niliface, List.all_cons, List.all_nil, List.length_cons, List.length_nil, Nat.reduceLT, Nat.reduceEqDiff, Nat.reduceLeDiff, Bool.and_true, Nat.one_ne_zero, Nat.succ_ne_zero, reduceIte, if_false, List.getElem?_cons_zero, List.set_cons_zero, List.set_cons_succ]
        generalize hq_g3 : IH.push h2 (IObj.rows [[IV.int .u8 1], [IV.int .u8 bc.toNat]] 5 1 false) = g3
        have e_g3 : Ext h2 g3 := by rw [← hq_g3]; exact (Ext.refl _).push _
        have l_g3 : g3.n = h2.n + 1 := by rw [← hq_g3]; rfl
        have ba : At g3 h2.n (IObj.rows [[IV.int .u8 1], [IV.int .u8 bc.toNat]] 5 1 false) := by rw [← hq_g3]; exact At.new _ _
        clear hq_g3
        have ox := ox.ext e_g3
        have bb2 := bb2.ext e_g3
        have hy : SlR g3 1 (.slice h2.n 0 2) (strRows [1, bc]) := SlR.whole ba.eq rfl ba.lt
        refine callA_of (l01Join_c _ _ _ _ _ ox.sl hy (by rw [beB_len]; omega) (by simp)) ?_
        rintro v3 h3 ⟨o3, E3⟩
        have E' := (E2.trans e_g3).trans E3
        have := E'.le
        unfold Bet
        simp only [i1, go_sem, Hold.p, HoldK.k, HoldL.K, HoldL.body, Nat.reduceBEq, Nat.reduceAdd, List.getElem?_cons_zero, List.getElem?_cons_succ, Option.bind_some, List.map_cons, List.map_nil, Nat.zero_add, if_true, List.getD_cons_zero, List.getD_cons_succ, List.contains_cons, List.contains_nil, Nat.reduceBEq, Bool.or_true, Bool.true_or, Bool.or_false, Bool.false_or, Bool.not_true, Bool.not_false, true_and, and_true, rowA_whole, push_n, set_n, push_obj, set_obj, set_push, set_push_ne, set_set, Nat.add_assoc, Nat.left_eq_add, Nat.add_eq_left, Nat.add_left_cancel_iff, Nat.reduceEqDiff, stO_1s, stO_ws, boxA_s, one_bool, one_int, one_str, one_ptr, one_nilptr, one_slice, one_eslice, one_nilslice, one_func, one_iface, one_niliface, List.all_cons, List.all_nil, List.length_cons, List.length_nil, Nat.reduceLT, Nat.reduceEqDiff, Nat.reduceLeDiff, Bool.and_true, Nat.one_ne_zero, Nat.succ_ne_zero, reduceIte, if_false, List.getElem?_cons_zero, List.set_cons_zero, List.set_cons_succ]
        exact ⟨v3, rfl, o3.wide (by have := (E2.trans e_g3).le; omega) (by omega) (Nat.le_refl _), E'⟩
      · have hn2 : (h.n = g.n) = False := by simp; omega
        simp only [i1, bb.eq, w3, bslA_2, hn2, go_sem, Hold.p, HoldK.k, HoldL.K, HoldL.body, Nat.reduceBEq, Nat.reduceAdd, List.getElem?_cons_zero, List.getElem?_cons_succ, Option.bind_some, List.map_cons, List.map_nil, Nat.zero_add, if_true, List.getD_cons_zero, List.getD_cons_succ, List.contains_cons, List.contains_nil, Nat.reduceBEq, Bool.or_true, Bool.true_or, Bool.or_false, Bool.false_or, Bool.not_true, Bool.not_false, true_and, and_true, rowA_whole, push_n, set_n, push_obj, set_obj, set_push, set_push_ne, set_set, Nat.add_assoc, Nat.left_eq_add, Nat.add_eq_left, Nat.add_left_cancel_iff, Nat.reduceEqDiff, stO_1s, stO_ws, boxA_s, one_bool, one_int, one_str, one_ptr, one_nilptr, one_slice, one_eslice, one_nilslice, one_func, one_iface, one_niliface, List.all_cons, List.all_nil, List.length_cons, List.length_nil, Nat.reduceLT, Nat.reduceEqDiff, Nat.reduceLeDiff, Bool.and_true, Nat.one_ne_zero, Nat.succ_ne_zero, reduceIte, if_false, List.getElem?_cons_zero, List.set_cons_zero, List.set_cons_succ]
        generalize hq_g3 : IH.push g (IObj.rows [[IV.int .u8 1], [IV.int .u8 bc.toNat]] 5 1 false) = g3
        have e_g3 : Ext g g3 := by rw [← hq_g3]; exact (Ext.refl _).push _
        have l_g3 : g3.n = g.n + 1 := by rw [← hq_g3]; rfl
        have ba : At g3 g.n (IObj.rows [[IV.int .u8 1], [IV.int .u8 bc.toNat]] 5 1 false) := by rw [← hq_g3]; exact At.new _ _
        clear hq_g3
        have bb := bb.ext e_g3
        refine callA_of (l03Put_c _ id 2 (by omega)) ?_
        rintro x h2 ⟨ox, E2⟩
        have bb := bb.ext E2
        have ba := ba.ext E2
        have le_E2 := E2.le
        have hy : SlR h2 1 (.slice g.n 0 2) (strRows [1, bc]) := SlR.whole ba.eq rfl ba.lt
        simp only [i1, bb.eq, w3, go_sem, Hold.p, HoldK.k, HoldL.K, HoldL.body, Nat.reduceBEq, Nat.reduceAdd, List.getElem?_cons_zero, List.getElem?_cons_succ, Option.bind_some, List.map_cons, List.map_nil, Nat.zero_add, if_true, List.getD_cons_zero, List.getD_cons_succ, List.contains_cons, List.contains_nil, Nat.reduceBEq, Bool.or_true, Bool.true_or, Bool.or_false, Bool.false_or, Bool.not_true, Bool.not_false, true_and, and_true, rowA_whole, push_n, set_n, push_obj, set_obj, set_push, set_push_ne, set_set, Nat.add_assoc, Nat.left_eq_add, Nat.add_eq_left, Nat.add_left_cancel_iff, Nat.reduceEqDiff, stO_1s, stO_ws, boxA_s, one_bool, one_int, one_str, one_ptr, one_nilptr, one_slice, one_eslice, one_nilslice, one_func, one_iface, one_niliface, List.all_cons, List.all_nil, List.length_cons, List.length_nil, Nat.reduceLT, Nat.reduceEqDiff, Nat.reduceLeDiff, Bool.and_true, Nat.one_ne_zero, Nat.succ_ne_zero, reduceIte, if_false, List.getElem?_cons_zero, List.set_cons_zero, List.set_cons_succ]
        refine callA_of (l01Join_c _ _ _ _ _ ox.sl hy (by rw [beB_len]; omega) (by simp)) ?_
        rintro v3 h3 ⟨o3, E3⟩
        have E' := (e_g3.trans E2).trans E3
        have := E'.le
        unfold Bet
        simp only [i1, go_sem, Hold.p, HoldK.k, HoldL.K, HoldL.body, Nat.reduceBEq, Nat.reduceAdd, List.getElem?_cons_zero, List.getElem?_cons_succ, Option.bind_some, List.map_cons, List.map_nil, Nat.zero_add, if_true, List.getD_cons_zero, List.getD_cons_succ, List.contains_cons, List.contains_nil, Nat.reduceBEq, Bool.or_true, Bool.true_or, Bool.or_false, Bool.false_or, Bool.not_true, Bool.not_false, true_and, and_true, rowA_whole, push_n, set_n, push_obj, set_obj, set_push, set_push_ne, set_set, Nat.add_assoc, Nat.left_eq_add, Nat.add_eq_left, Nat.add_left_cancel_iff, Nat.reduceEqDiff, stO_1s, stO_ws, boxA_s, one_bool, one_int, one_str, one_ptr, one_nilptr, one_slice, one_eslice, one_nilslice, one_func, one_iface, one_niliface, List.all_cons, List.all_nil, List.length_cons, List.length_nil, Nat.reduceLT, Nat.reduceEqDiff, Nat.reduceLeDiff, Bool.and_true, Nat.one_ne_zero, Nat.succ_ne_zero, reduceIte, if_false, List.getElem?_cons_zero, List.set_cons_zero, List.set_cons_succ]
        exact ⟨v3, rfl, o3.wide (by have := (e_g3.trans E2).le; omega) (by omega) (Nat.le_refl _), E'⟩
    rintro e g2 ⟨x, i1, i4, ox, E2⟩
    refine vc_cut (Bet g h.n ((beB 2 id ++ [1, bc]) ++ beB 4 ttl ++ [UInt8.ofNat nm.length])) ?_ ?_
    · have hlen := (hs.ext E2).lenF
      rw [intRows_len] at hlen
      have bb := bb.ext E2
      have l2 := E2.le
      have fin : ∀ (z : IV) (g' : IH) (lo : Nat), g.n ≤ lo → Ext g g' → Own lo g'.n g' 5 1 z (strRows ((beB 2 id ++ [1, bc]) ++ beB 4 ttl ++ [UInt8.ofNat nm.length])) → Own g.n g'.n g' 5 1 z (strRows ((beB 2 id ++ [1, bc]) ++ beB 4 ttl ++ [UInt8.ofNat nm.length])) ∧ Ext g g' := fun z g' lo h1 h2 h3 => ⟨h3.wide h1 (Nat.le_refl _) (Nat.le_refl _), h2⟩
      have hbl : (beB 2 id ++ [1, bc]).length = 4 := by simp [beB_len] <;> omega
      simp only [i1, i4, bb.eq, w1, w2, hlen, go_sem, Hold.p, HoldK.k, HoldL.K, HoldL.body, Nat.reduceBEq, Nat.reduceAdd, List.getElem?_cons_zero, List.getElem?_cons_succ, Option.bind_some, List.map_cons, List.map_nil, Nat.zero_add, if_true, List.getD_cons_zero, List.getD_cons_succ, List.contains_cons, List.contains_nil, Nat.reduceBEq, Bool.or_true, Bool.true_or, Bool.or_false, Bool.false_or, Bool.not_true, Bool.not_false, true_and, and_true, rowA_whole, push_n, set_n, push_obj, set_obj, set_push, set_push_ne, set_set, Nat.add_assoc, Nat.left_eq_add, Nat.add_eq_left, Nat.add_left_cancel_iff, Nat.reduceEqDiff, stO_1s, stO_ws, boxA_s, one_bool, one_int, one_str, one_ptr, one_nilptr, one_slice, one_eslice, one_nilslice, one_func, one_iface, one_niliface, List.all_cons, List.all_nil, List.length_cons, List.length_nil, Nat.reduceLT, Nat.reduceEqDiff, Nat.reduceLeDiff, Bool.and_true, Nat.one_ne_zero, Nat.succ_ne_zero, reduceIte, if_false, List.getElem?_cons_zero, List.set_cons_zero, List.set_cons_succ]
      refine either_of ?_ ?_
      · skip
        try simp only [i1, i4, bb.eq, w1, w2, hlen, bslA_1, s2bA_some hne (Nat.le_trans hl (by omega)), go_sem, Hold.p, HoldK.k, HoldL.K, HoldL.body, Nat.reduceBEq, Nat.reduceAdd, List.getElem?_cons_zero, List.getElem?_cons_succ, Option.bind_some, List.map_cons, List.map_nil, Nat.zero_add, if_true, List.getD_cons_zero, List.getD_cons_succ, List.contains_cons, List.contains_nil, Nat.reduceBEq, Bool.or_true, Bool.true_or, Bool.or_false, Bool.false_or, Bool.not_true, Bool.not_false, true_and, and_true, rowA_whole, push_n, set_n, push_obj, set_obj, set_push, set_push_ne, set_set, Nat.add_assoc, Nat.left_eq_add, Nat.add_eq_left, Nat.add_left_cancel_iff, Nat.reduceEqDiff, stO_1s, stO_ws, boxA_s, one_bool, one_int, one_str, one_ptr, one_nilptr, one_slice, one_eslice, one_nilslice, one_func, one_iface, one_niliface, List.all_cons, List.all_nil, List.length_cons, List.length_nil, Nat.reduceLT, Nat.reduceEqDiff, Nat.reduceLeDiff, Bool.and_true, Nat.one_ne_zero, Nat.succ_ne_zero, reduceIte, if_false, List.getElem?_cons_zero, List.set_cons_zero, List.set_cons_succ]
        refine callA_of (l03Put_c _ ttl 4 (by omega)) ?_
        rintro y hA ⟨oy, EA⟩
        have hy := oy.sl
        have bb := bb.ext EA
        have ox := ox.ext EA
        have le_EA := EA.le
        try simp only [i1, i4, bb.eq, w1, w2, hlen, bslA_1, s2bA_some hne (Nat.le_trans hl (by omega)), go_sem, Hold.p, HoldK.k, HoldL.K, HoldL.body, Nat.reduceBEq, Nat.reduceAdd, List.getElem?_cons_zero, List.getElem?_cons_succ, Option.bind_some, List.map_cons, List.map_nil, Nat.zero_add, if_true, List.getD_cons_zero, List.getD_cons_succ, List.contains_cons, List.contains_nil, Nat.reduceBEq, Bool.or_true, Bool.true_or, Bool.or_false, Bool.false_or, Bool.not_true, Bool.not_false, true_and, and_true, rowA_whole, push_n, set_n, push_obj, set_obj, set_push, set_push_ne, set_set, Nat.add_assoc, Nat.left_eq_add, Nat.add_eq_left, Nat.add_left_cancel_iff, Nat.reduceEqDiff, stO_1s, stO_ws, boxA_s, one_bool, one_int, one_str, one_ptr, one_nilptr, one_slice, one_eslice, one_nilslice, one_func, one_iface, one_niliface, List.all_cons, List.all_nil, List.length_cons, List.length_nil, Nat.reduceLT, Nat.reduceEqDiff, Nat.reduceLeDiff, Bool.and_true, Nat.one_ne_zero, Nat.succ_ne_zero, reduceIte, if_false, List.getElem?_cons_zero, List.set_cons_zero, List.set_cons_succ]
        refine either_of ?_ ?_
        · skip
          try simp only [i1, i4, bb.eq, w1, w2, hlen, bslA_1, s2bA_some hne (Nat.le_trans hl (by omega)), go_sem, Hold.p, HoldK.k, HoldL.K, HoldL.body, Nat.reduceBEq, Nat.reduceAdd, List.getElem?_cons_zero, List.getElem?_cons_succ, Option.bind_some, List.map_cons, List.map_nil, Nat.zero_add, if_true, List.getD_cons_zero, List.getD_cons_succ, List.contains_cons, List.contains_nil, Nat.reduceBEq, Bool.or_true, Bool.true_or, Bool.or_false, Bool.false_or, Bool.not_true, Bool.not_false, true_and, and_true, rowA_whole, push_n, set_n, push_obj, set_obj, set_push, set_push_ne, set_set, Nat.add_assoc, Nat.left_eq_add, Nat.add_eq_left, Nat.add_left_cancel_iff, Nat.reduceEqDiff, stO_1s, stO_ws, boxA_s, one_bool, one_int, one_str, one_ptr, one_nilptr, one_slice, one_eslice, one_nilslice, one_func, one_iface, one_niliface, List.all_cons, List.all_nil, List.length_cons, List.length_nil, Nat.reduceLT, Nat.reduceEqDiff, Nat.reduceLeDiff, Bool.and_true, Nat.one_ne_zero, Nat.succ_ne_zero, reduceIte, if_false, List.getElem?_cons_zero, List.set_cons_zero, List.set_cons_succ]
          refine callA_of (l01Join_c _ _ _ _ _ ox.sl hy (by rw [hbl]; omega) (by rw [beB_len]; omega)) ?_
          rintro z hB' ⟨oz, EB⟩
          have bb := bb.ext EB
          have le_EB := EB.le
          have hnq : (h.n = hB'.n) = False := by simp; omega
          try simp only [i1, i4, bb.eq, w1, w2, hlen, bslA_1, s2bA_some hne (Nat.le_trans hl (by omega)), hnq, go_sem, Hold.p, HoldK.k, HoldL.K, HoldL.body, Nat.reduceBEq, Nat.reduceAdd, List.getElem?_cons_zero, List.getElem?_cons_succ, Option.bind_some, List.map_cons, List.map_nil, Nat.zero_add, if_true, List.getD_cons_zero, List.getD_cons_succ, List.contains_cons, List.contains_nil, Nat.reduceBEq, Bool.or_true, Bool.true_or, Bool.or_false, Bool.false_or, Bool.not_true, Bool.not_false, true_and, and_true, rowA_whole, push_n, set_n, push_obj, set_obj, set_push, set_push_ne, set_set, Nat.add_assoc, Nat.left_eq_add, Nat.add_eq_left, Nat.add_left_cancel_iff, Nat.reduceEqDiff, stO_1s, stO_ws, boxA_s, one_bool, one_int, one_str, one_ptr, one_nilptr, one_slice, one_eslice, one_nilslice, one_func, one_iface, one_niliface, List.all_cons, List.all_nil, List.length_cons, List.length_nil, Nat.reduceLT, Nat.reduceEqDiff, Nat.reduceLeDiff, Bool.and_true, Nat.one_ne_zero, Nat.succ_ne_zero, reduceIte, if_false, List.getElem?_cons_zero, List.set_cons_zero, List.set_cons_succ]
          generalize hq_hC : IH.push hB' (IObj.rows [[IV.int .u8 (UInt8.ofNat nm.length).toNat]] 5 1 false) = hC
          have e_hC : Ext hB' hC := by rw [← hq_hC]; exact (Ext.refl _).push _
          have l_hC : hC.n = hB'.n + 1 := by rw [← hq_hC]; rfl
          have bw : At hC hB'.n (IObj.rows [[IV.int .u8 (UInt8.ofNat nm.length).toNat]] 5 1 false) := by rw [← hq_hC]; exact At.new _ _
          clear hq_hC
          have bb := bb.ext e_hC
          have oz := oz.ext e_hC
          have hw : SlR hC 1 (.slice hB'.n 0 1) (strRows [UInt8.ofNat nm.length]) := SlR.whole bw.eq rfl bw.lt
          clear bw
          try simp only [i1, i4, bb.eq, w1, w2, hlen, bslA_1, s2bA_some hne (Nat.le_trans hl (by omega)), go_sem, Hold.p, HoldK.k, HoldL.K, HoldL.body, Nat.reduceBEq, Nat.reduceAdd, List.getElem?_cons_zero, List.getElem?_cons_succ, Option.bind_some, List.map_cons, List.map_nil, Nat.zero_add, if_true, List.getD_cons_zero, List.getD_cons_succ, List.contains_cons, List.contains_nil, Nat.reduceBEq, Bool.or_true, Bool.true_or, Bool.or_false, Bool.false_or, Bool.not_true, Bool.not_false, true_and, and_true, rowA_whole, push_n, set_n, push_obj, set_obj, set_push, set_push_ne, set_set, Nat.add_assoc, Nat.left_eq_add, Nat.add_eq_left, Nat.add_left_cancel_iff, Nat.reduceEqDiff, stO_1s, stO_ws, boxA_s, one_bool, one_int, one_str, one_ptr, one_nilptr, one_slice, one_eslice, one_nilslice, one_func, one_iface, one_niliface, List.all_cons, List.all_nil, List.length_cons, List.length_nil, Nat.reduceLT, Nat.reduceEqDiff, Nat.reduceLeDiff, Bool.and_true, Nat.one_ne_zero, Nat.succ_ne_zero, reduceIte, if_false, List.getElem?_cons_zero, List.set_cons_zero, List.set_cons_succ]
          refine callA_of (l01Join_c _ _ _ _ _ oz.sl hw (by rw [List.length_append, hbl]; have : (beB 4 ttl).length ≤ 1000 := (by rw [beB_len]; omega); omega) (by simp)) ?_
          rintro zz hD ⟨oD, ED⟩
          have EE := (((E2.trans EA).trans EB).trans e_hC).trans ED
          have lEE := EE.le
          unfold Bet
          simp only [i1, go_sem, Hold.p, HoldK.k, HoldL.K, HoldL.body, Nat.reduceBEq, Nat.reduceAdd, List.getElem?_cons_zero, List.getElem?_cons_succ, Option.bind_some, List.map_cons, List.map_nil, Nat.zero_add, if_true, List.getD_cons_zero, List.getD_cons_succ, List.contains_cons, List.contains_nil, Nat.reduceBEq, Bool.or_true, Bool.true_or, Bool.or_false, Bool.false_or, Bool.not_true, Bool.not_false, true_and, and_true, rowA_whole, push_n, set_n, push_obj, set_obj, set_push, set_push_ne, set_set, Nat.add_assoc, Nat.left_eq_add, Nat.add_eq_left, Nat.add_left_cancel_iff, Nat.reduceEqDiff, stO_1s, stO_ws, boxA_s, one_bool, one_int, one_str, one_ptr, one_nilptr, one_slice, one_eslice, one_nilslice, one_func, one_iface, one_niliface, List.all_cons, List.all_nil, List.length_cons, List.length_nil, Nat.reduceLT, Nat.reduceEqDiff, Nat.reduceLeDiff, Bool.and_true, Nat.one_ne_zero, Nat.succ_ne_zero, reduceIte, if_false, List.getElem?_cons_zero, List.set_cons_zero, List.set_cons_succ]
          exact ⟨zz, rfl, fin _ _ _ (by omega) EE oD⟩
        · skip
          have hnq : (h.n = hA.n) = False := by simp; omega
          try simp only [i1, i4, bb.eq, w1, w2, hlen, bslA_1, s2bA_some hne (Nat.le_trans hl (by omega)), hnq, go_sem, Hold.p, HoldK.k, HoldL.K, HoldL.body, Nat.reduceBEq, Nat.reduceAdd, List.getElem?_cons_zero, List.getElem?_cons_succ, Option.bind_some, List.map_cons, List.map_nil, Nat.zero_add, if_true, List.getD_cons_zero, List.getD_cons_succ, List.contains_cons, List.contains_nil, Nat.reduceBEq, Bool.or_true, Bool.true_or, Bool.or_false, Bool.false_or, Bool.not_true, Bool.not_false, true_and, and_true, rowA_whole, push_n, set_n, push_obj, set_obj, set_push, set_push_ne, set_set, Nat.add_assoc, Nat.left_eq_add, Nat.add_eq_left, Nat.add_left_cancel_iff, Nat.reduceEqDiff, stO_1s, stO_ws, boxA_s, one_bool, one_int, one_str, one_ptr, one_nilptr, one_slice, one_eslice, one_nilslice, one_func, one_iface, one_niliface, List.all_cons, List.all_nil, List.length_cons, List.length_nil, Nat.reduceLT, Nat.reduceEqDiff, Nat.reduceLeDiff, Bool.and_true, Nat.one_ne_zero, Nat.succ_ne_zero, reduceIte, if_false, List.getElem?_cons_zero, List.set_cons_zero, List.set_cons_succ]
          generalize hq_hC : IH.push hA (IObj.rows [[IV.int .u8 (UInt8.ofNat nm.length).toNat]] 5 1 false) = hC
          have e_hC : Ext hA hC := by rw [← hq_hC]; exact (Ext.refl _).push _
          have l_hC : hC.n = hA.n + 1 := by rw [← hq_hC]; rfl
          have bw : At hC hA.n (IObj.rows [[IV.int .u8 (UInt8.ofNat nm.length).toNat]] 5 1 false) := by rw [← hq_hC]; exact At.new _ _
          clear hq_hC
          have bb := bb.ext e_hC
          have ox := ox.ext e_hC
          have hy := hy.ext e_hC
          have hw : SlR hC 1 (.slice hA.n 0 1) (strRows [UInt8.ofNat nm.length]) := SlR.whole bw.eq rfl bw.lt
          clear bw
          try simp only [i1, i4, bb.eq, w1, w2, hlen, bslA_1, s2bA_some hne (Nat.le_trans hl (by omega)), go_sem, Hold.p, HoldK.k, HoldL.K, HoldL.body, Nat.reduceBEq, Nat.reduceAdd, List.getElem?_cons_zero, List.getElem?_cons_succ, Option.bind_some, List.map_cons, List.map_nil, Nat.zero_add, if_true, List.getD_cons_zero, List.getD_cons_succ, List.contains_cons, List.contains_nil, Nat.reduceBEq, Bool.or_true, Bool.true_or, Bool.or_false, Bool.false_or, Bool.not_true, Bool.not_false, true_and, and_true, rowA_whole, push_n, set_n, push_obj, set_obj, set_push, set_push_ne, set_set, Nat.add_assoc, Nat.left_eq_add, Nat.add_eq_left, Nat.add_left_cancel_iff, Nat.reduceEqDiff, stO_1s, stO_ws, boxA_s, one_bool, one_int, one_str, one_ptr, one_nilptr, one_slice, one_eslice, one_nilslice, one_func, one_iface, one_niliface, List.all_cons, List.all_nil, List.length_cons, List.length_nil, Nat.reduceLT, Nat.reduceEqDiff, Nat.reduceLeDiff, Bool.and_true, Nat.one_ne_zero, Nat.succ_ne_zero, reduceIte, if_false, List.getElem?_cons_zero, List.set_cons_zero, List.set_cons_succ]
          refine callA_of (l01Join_c _ _ _ _ _ ox.sl hy (by rw [hbl]; omega) (by rw [beB_len]; omega)) ?_
          rintro z hB' ⟨oz, EB⟩
          have bb := bb.ext EB
          have hw := hw.ext EB
          have le_EB := EB.le
          try simp only [i1, i4, bb.eq, w1, w2, hlen, bslA_1, s2bA_some hne (Nat.le_trans hl (by omega)), go_sem, Hold.p, HoldK.k, HoldL.K, HoldL.body, Nat.reduceBEq, Nat.reduceAdd, List.getElem?_cons_zero, List.getElem?_cons_succ, Option.bind_some, List.map_cons, List.map_nil, Nat.zero_add, if_true, List.getD_cons_zero, List.getD_cons_succ, List.contains_cons, List.contains_nil, Nat.reduceBEq, Bool.or_true, Bool.true_or, Bool.or_false, Bool.false_or, Bool.not_true, Bool.not_false, true_and, and_true, rowA_whole, push_n, set_n, push_obj, set_obj, set_push, set_push_ne, set_set, Nat.add_assoc, Nat.left_eq_add, Nat.add_eq_left, Nat.add_left_cancel_iff, Nat.reduceEqDiff, stO_1s, stO_ws, boxA_s, one_bool, one_int, one_str, one_ptr, one_nilptr, one_slice, one_eslice, one_nilslice, one_func, one_iface, one_niliface, List.all_cons, List.all_nil, List.length_cons, List.length_nil, Nat.reduceLT, Nat.reduceEqDiff, Nat.reduceLeDiff, Bool.and_true, Nat.one_ne_zero, Nat.succ_ne_zero, reduceIte, if_false, List.getElem?_cons_zero, List.set_cons_zero, List.set_cons_succ]
          refine callA_of (l01Join_c _ _ _ _ _ oz.sl hw (by rw [List.length_append, hbl]; have : (beB 4 ttl).length ≤ 1000 := (by rw [beB_len]; omega); omega) (by simp)) ?_
          rintro zz hD ⟨oD, ED⟩
          have EE := (((E2.trans EA).trans e_hC).trans EB).trans ED
          have lEE := EE.le
          unfold Bet
          simp only [i1, go_sem, Hold.p, HoldK.k, HoldL.K, HoldL.body, Nat.reduceBEq, Nat.reduceAdd, List.getElem?_cons_zero, List.getElem?_cons_succ, Option.bind_some, List.map_cons, List.map_nil, Nat.zero_add, if_true, List.getD_cons_zero, List.getD_cons_succ, List.contains_cons, List.contains_nil, Nat.reduceBEq, Bool.or_true, Bool.true_or, Bool.or_false, Bool.false_or, Bool.not_true, Bool.not_false, true_and, and_true, rowA_whole, push_n, set_n, push_obj, set_obj, set_push, set_push_ne, set_set, Nat.add_assoc, Nat.left_eq_add, Nat.add_eq_left, Nat.add_left_cancel_iff, Nat.reduceEqDiff, stO_1s, stO_ws, boxA_s, one_bool, one_int, one_str, one_ptr, one_nilptr, one_slice, one_eslice, one_nilslice, one_func, one_iface, one_niliface, List.all_cons, List.all_nil, List.length_cons, List.length_nil, Nat.reduceLT, Nat.reduceEqDiff, Nat.reduceLeDiff, Bool.and_true, Nat.one_ne_zero, Nat.succ_ne_zero, reduceIte, if_false, List.getElem?_cons_zero, List.set_cons_zero, List.set_cons_succ]
          exact ⟨zz, rfl, fin _ _ _ (by omega) EE oD⟩
      · skip
        have hnr : (h.n = g2.n + 1) = False := by simp; omega
        have hnq : (h.n = g2.n) = False := by simp; omega
        try simp only [i1, i4, bb.eq, w1, w2, hlen, bslA_1, s2bA_some hne (Nat.le_trans hl (by omega)), hnr, hnq, go_sem, Hold.p, HoldK.k, HoldL.K, HoldL.body, Nat.reduceBEq, Nat.reduceAdd, List.getElem?_cons_zero, List.getElem?_cons_succ, Option.bind_some, List.map_cons, List.map_nil, Nat.zero_add, if_true, List.getD_cons_zero, List.getD_cons_succ, List.contains_cons, List.contains_nil, Nat.reduceBEq, Bool.or_true, Bool.true_or, Bool.or_false, Bool.false_or, Bool.not_true, Bool.not_false, true_and, and_true, rowA_whole, push_n, set_n, push_obj, set_obj, set_push, set_push_ne, set_set, Nat.add_assoc, Nat.left_eq_add, Nat.add_eq_left, Nat.add_left_cancel_iff, Nat.reduceEqDiff, stO_1s, stO_ws, boxA_s, one_bool, one_int, one_str, one_ptr, one_nilptr, one_slice, one_eslice, one_nilslice, one_func, one_iface, one_niliface, List.all_cons, List.all_nil, List.length_cons, List.length_nil, Nat.reduceLT, Nat.reduceEqDiff, Nat.reduceLeDiff, Bool.and_true, Nat.one_ne_zero, Nat.succ_ne_zero, reduceIte, if_false, List.getElem?_cons_zero, List.set_cons_zero, List.set_cons_succ]
        generalize hq_hC : IH.push g2 (IObj.rows [[IV.int .u8 (UInt8.ofNat nm.length).toNat]] 5 1 false) = hC
        have e_hC : Ext g2 hC := by rw [← hq_hC]; exact (Ext.refl _).push _
        have l_hC : hC.n = g2.n + 1 := by rw [← hq_hC]; rfl
        have bw : At hC g2.n (IObj.rows [[IV.int .u8 (UInt8.ofNat nm.length).toNat]] 5 1 false) := by rw [← hq_hC]; exact At.new _ _
        clear hq_hC
        have bb := bb.ext e_hC
        have ox := ox.ext e_hC
        have hw : SlR hC 1 (.slice g2.n 0 1) (strRows [UInt8.ofNat nm.length]) := SlR.whole bw.eq rfl bw.lt
        clear bw
        try simp only [i1, i4, bb.eq, w1, w2, hlen, bslA_1, s2bA_some hne (Nat.le_trans hl (by omega)), hnr, go_sem, Hold.p, HoldK.k, HoldL.K, HoldL.body, Nat.reduceBEq, Nat.reduceAdd, List.getElem?_cons_zero, List.getElem?_cons_succ, Option.bind_some, List.map_cons, List.map_nil, Nat.zero_add, if_true, List.getD_cons_zero, List.getD_cons_succ, List.contains_cons, List.contains_nil, Nat.reduceBEq, Bool.or_true, Bool.true_or, Bool.or_false, Bool.false_or, Bool.not_true, Bool.not_false, true_and, and_true, rowA_whole, push_n, set_n, push_obj, set_obj, set_push, set_push_ne, set_set, Nat.add_assoc, Nat.left_eq_add, Nat.add_eq_left, Nat.add_left_cancel_iff, Nat.reduceEqDiff, stO_1s, stO_ws, boxA_s, one_bool, one_int, one_str, one_ptr, one_nilptr, one_slice, one_eslice, one_nilslice, one_func, one_iface, one_niliface, List.all_cons, List.all_nil, List.length_cons, List.length_nil, Nat.reduceLT, Nat.reduceEqDiff, Nat.reduceLeDiff, Bool.and_true, Nat.one_ne_zero, Nat.succ_ne_zero, reduceIte, if_false, List.getElem?_cons_zero, List.set_cons_zero, List.set_cons_succ]
        refine callA_of (l03Put_c _ ttl 4 (by omega)) ?_
        rintro y hA ⟨oy, EA⟩
        have hy := oy.sl
        have bb := bb.ext EA
        have ox := ox.ext EA
        have hw := hw.ext EA
        have le_EA := EA.le
        try simp only [i1, i4, bb.eq, w1, w2, hlen, bslA_1, s2bA_some hne (Nat.le_trans hl (by omega)), hnr, go_sem, Hold.p, HoldK.k, HoldL.K, HoldL.body, Nat.reduceBEq, Nat.reduceAdd, List.getElem?_cons_zero, List.getElem?_cons_succ, Option.bind_some, List.map_cons, List.map_nil, Nat.zero_add, if_true, List.getD_cons_zero, List.getD_cons_succ, List.contains_cons, List.contains_nil, Nat.reduceBEq, Bool.or_true, Bool.true_or, Bool.or_false, Bool.false_or, Bool.not_true, Bool.not_false, true_and, and_true, rowA_whole, push_n, set_n, push_obj, set_obj, set_push, set_push_ne, set_set, Nat.add_assoc, Nat.left_eq_add, Nat.add_eq_left, Nat.add_left_cancel_iff, Nat.reduceEqDiff, stO_1s, stO_ws, boxA_s, one_bool, one_int, one_str, one_ptr, one_nilptr, one_slice, one_eslice, one_nilslice, one_func, one_iface, one_niliface, List.all_cons, List.all_nil, List.length_cons, List.length_nil, Nat.reduceLT, Nat.reduceEqDiff, Nat.reduceLeDiff, Bool.and_true, Nat.one_ne_zero, Nat.succ_ne_zero, reduceIte, if_false, List.getElem?_cons_zero, List.set_cons_zero, List.set_cons_succ]
        refine callA_of (l01Join_c _ _ _ _ _ ox.sl hy (by rw [hbl]; omega) (by rw [beB_len]; omega)) ?_
        rintro z hB' ⟨oz, EB⟩
        have bb := bb.ext EB
        have hw := hw.ext EB
        have le_EB := EB.le
        try simp only [i1, i4, bb.eq, w1, w2, hlen, bslA_1, s2bA_some hne (Nat.le_trans hl (by omega)), hnr, go_sem, Hold.p, HoldK.k, HoldL.K, HoldL.body, Nat.reduceBEq, Nat.reduceAdd, List.getElem?_cons_zero, List.getElem?_cons_succ, Option.bind_some, List.map_cons, List.map_nil, Nat.zero_add, if_true, List.getD_cons_zero, List.getD_cons_succ, List.contains_cons, List.contains_nil, Nat.reduceBEq, Bool.or_true, Bool.true_or, Bool.or_false, Bool.false_or, Bool.not_true, Bool.not_false, true_and, and_true, rowA_whole, push_n, set_n, push_obj, set_obj, set_push, set_push_ne, set_set, Nat.add_assoc, Nat.left_eq_add, Nat.add_eq_left, Nat.add_left_cancel_iff, Nat.reduceEqDiff, stO_1s, stO_ws, boxA_s, one_bool, one_int, one_str, one_ptr, one_nilptr, one_slice, one_eslice, one_nilslice, one_func, one_iface, one_niliface, List.all_cons, List.all_nil, List.length_cons, List.length_nil, Nat.reduceLT, Nat.reduceEqDiff, Nat.reduceLeDiff, Bool.and_true, Nat.one_ne_zero, Nat.succ_ne_zero, reduceIte, if_false, List.getElem?_cons_zero, List.set_cons_zero, List.set_cons_succ]
        refine callA_of (l01Join_c _ _ _ _ _ oz.sl hw (by rw [List.length_append, hbl]; have : (beB 4 ttl).length ≤ 1000 := (by rw [beB_len]; omega); omega) (by simp)) ?_
        rintro zz hD ⟨oD, ED⟩
        have EE := (((E2.trans e_hC).trans EA).trans EB).trans ED
        have lEE := EE.le
        unfold Bet
        simp only [i1, go_sem, Hold.p, HoldK.k, HoldL.K, HoldL.body, Nat.reduceBEq, Nat.reduceAdd, List.getElem?_cons_zero, List.getElem?_cons_succ, Option.bind_some, List.map_cons, List.map_nil, Nat.zero_add, if_true, List.getD_cons_zero, List.getD_cons_succ, List.contains_cons, List.contains_nil, Nat.reduceBEq, Bool.or_true, Bool.true_or, Bool.or_false, Bool.false_or, Bool.not_true, Bool.not_false, true_and, and_true, rowA_whole, push_n, set_n, push_obj, set_obj, set_push, set_push_ne, set_set, Nat.add_assoc, Nat.left_eq_add, Nat.add_eq_left, Nat.add_left_cancel_iff, Nat.reduceEqDiff, stO_1s, stO_ws, boxA_s, one_bool, one_int, one_str, one_ptr, one_nilptr, one_slice, one_eslice, one_nilslice, one_func, one_iface, one_niliface, List.all_cons, List.all_nil, List.length_cons, List.length_nil, Nat.reduceLT, Nat.reduceEqDiff, Nat.reduceLeDiff, Bool.and_true, Nat.one_ne_zero, Nat.succ_ne_zero, reduceIte, if_false, List.getElem?_cons_zero, List.set_cons_zero, List.set_cons_succ]
        exact ⟨zz, rfl, fin _ _ _ (by omega) EE oD⟩
    clear E2 ox i1 i4
    rintro e g2 ⟨x, i1, i4, ox, E2⟩
    refine vc_cut (Bet g h.n ((((beB 2 id ++ [1, bc]) ++ beB 4 ttl ++ [UInt8.ofNat nm.length]) ++ nm) ++ [UInt8.ofNat zs.length])) ?_ ?_
    · have hlen := (hs.ext E2).lenF
      rw [intRows_len] at hlen
      have bb := bb.ext E2
      have l2 := E2.le
      have fin : ∀ (z : IV) (g' : IH) (lo : Nat), g.n ≤ lo → Ext g g' → Own lo g'.n g' 5 1 z (strRows ((((beB 2 id ++ [1, bc]) ++ beB 4 ttl ++ [UInt8.ofNat nm.length]) ++ nm) ++ [UInt8.ofNat zs.length])) → Own g.n g'.n g' 5 1 z (strRows ((((beB 2 id ++ [1, bc]) ++ beB 4 ttl ++ [UInt8.ofNat nm.length]) ++ nm) ++ [UInt8.ofNat zs.length])) ∧ Ext g g' := fun z g' lo h1 h2 h3 => ⟨h3.wide h1 (Nat.le_refl _) (Nat.le_refl _), h2⟩
      have hbl : ((beB 2 id ++ [1, bc]) ++ beB 4 ttl ++ [UInt8.ofNat nm.length]).length = 9 := by simp [beB_len] <;> omega
      simp only [i1, i4, bb.eq, w1, w2, hlen, go_sem, Hold.p, HoldK.k, HoldL.K, HoldL.body, Nat.reduceBEq, Nat.reduceAdd, List.getElem?_cons_zero, List.getElem?_cons_succ, Option.bind_some, List.map_cons, List.map_nil, Nat.zero_add, if_true, List.getD_cons_zero, List.getD_cons_succ, List.contains_cons, List.contains_nil, Nat.reduceBEq, Bool.or_true, Bool.true_or, Bool.or_false, Bool.false_or, Bool.not_true, Bool.not_false, true_and, and_true, rowA_whole, push_n, set_n, push_obj, set_obj, set_push, set_push_ne, set_set, Nat.add_assoc, Nat.left_eq_add, Nat.add_eq_left, Nat.add_left_cancel_iff, Nat.reduceEqDiff, stO_1s, stO_ws, boxA_s, one_bool, one_int, one_str, one_ptr, one_nilptr, one_slice, one_eslice, one_nilslice, one_func, one_iface, one_niliface, List.all_cons, List.all_nil, List.length_cons, List.length_nil, Nat.reduceLT, Nat.reduceEqDiff, Nat.reduceLeDiff, Bool.and_true, Nat.one_ne_zero, Nat.succ_ne_zero, reduceIte, if_false, List.getElem?_cons_zero, List.set_cons_zero, List.set_cons_succ]
      refine either_of ?_ ?_
      · skip
        have hnq : (h.n = g2.n) = False := by simp; omega
        try simp only [i1, i4, bb.eq, w1, w2, hlen, bslA_1, s2bA_some hne (Nat.le_trans hl (by omega)), hnq, go_sem, Hold.p, HoldK.k, HoldL.K, HoldL.body, Nat.reduceBEq, Nat.reduceAdd, List.getElem?_cons_zero, List.getElem?_cons_succ, Option.bind_some, List.map_cons, List.map_nil, Nat.zero_add, if_true, List.getD_cons_zero, List.getD_cons_succ, List.contains_cons, List.contains_nil, Nat.reduceBEq, Bool.or_true, Bool.true_or, Bool.or_false, Bool.false_or, Bool.not_true, Bool.not_false, true_and, and_true, rowA_whole, push_n, set_n, push_obj, set_obj, set_push, set_push_ne, set_set, Nat.add_assoc, Nat.left_eq_add, Nat.add_eq_left, Nat.add_left_cancel_iff, Nat.reduceEqDiff, stO_1s, stO_ws, boxA_s, one_bool, one_int, one_str, one_ptr, one_nilptr, one_slice, one_eslice, one_nilslice, one_func, one_iface, one_niliface, List.all_cons, List.all_nil, List.length_cons, List.length_nil, Nat.reduceLT, Nat.reduceEqDiff, Nat.reduceLeDiff, Bool.and_true, Nat.one_ne_zero, Nat.succ_ne_zero, reduceIte, if_false, List.getElem?_cons_zero, List.set_cons_zero, List.set_cons_succ]
        generalize hq_hA : IH.push g2 (IObj.rows (strRows nm) 5 1 false) = hA
        have e_hA : Ext g2 hA := by rw [← hq_hA]; exact (Ext.refl _).push _
        have l_hA : hA.n = g2.n + 1 := by rw [← hq_hA]; rfl
        have ba : At hA g2.n (IObj.rows (strRows nm) 5 1 false) := by rw [← hq_hA]; exact At.new _ _
        clear hq_hA
        have bb := bb.ext e_hA
        have hy : SlR hA 1 (.slice g2.n 0 nm.length) (strRows nm) := SlR.whole ba.eq (strRows_len nm) ba.lt
        have EA : Ext g2 hA := e_hA
        clear ba e_hA
        have ox := ox.ext EA
        have le_EA := EA.le
        try simp only [i1, i4, bb.eq, w1, w2, hlen, bslA_1, s2bA_some hne (Nat.le_trans hl (by omega)), go_sem, Hold.p, HoldK.k, HoldL.K, HoldL.body, Nat.reduceBEq, Nat.reduceAdd, List.getElem?_cons_zero, List.getElem?_cons_succ, Option.bind_some, List.map_cons, List.map_nil, Nat.zero_add, if_true, List.getD_cons_zero, List.getD_cons_succ, List.contains_cons, List.contains_nil, Nat.reduceBEq, Bool.or_true, Bool.true_or, Bool.or_false, Bool.false_or, Bool.not_true, Bool.not_false, true_and, and_true, rowA_whole, push_n, set_n, push_obj, set_obj, set_push, set_push_ne, set_set, Nat.add_assoc, Nat.left_eq_add, Nat.add_eq_left, Nat.add_left_cancel_iff, Nat.reduceEqDiff, stO_1s, stO_ws, boxA_s, one_bool, one_int, one_str, one_ptr, one_nilptr, one_slice, one_eslice, one_nilslice, one_func, one_iface, one_niliface, List.all_cons, List.all_nil, List.length_cons, List.length_nil, Nat.reduceLT, Nat.reduceEqDiff, Nat.reduceLeDiff, Bool.and_true, Nat.one_ne_zero, Nat.succ_ne_zero, reduceIte, if_false, List.getElem?_cons_zero, List.set_cons_zero, List.set_cons_succ]
        refine either_of ?_ ?_
        · skip
          try simp only [i1, i4, bb.eq, w1, w2, hlen, bslA_1, s2bA_some hne (Nat.le_trans hl (by omega)), go_sem, Hold.p, HoldK.k, HoldL.K, HoldL.body, Nat.reduceBEq, Nat.reduceAdd, List.getElem?_cons_zero, List.getElem?_cons_succ, Option.bind_some, List.map_cons, List.map_nil, Nat.zero_add, if_true, List.getD_cons_zero, List.getD_cons_succ, List.contains_cons, List.contains_nil, Nat.reduceBEq, Bool.or_true, Bool.true_or, Bool.or_false, Bool.false_or, Bool.not_true, Bool.not_false, true_and, and_true, rowA_whole, push_n, set_n, push_obj, set_obj, set_push, set_push_ne, set_set, Nat.add_assoc, Nat.left_eq_add, Nat.add_eq_left, Nat.add_left_cancel_iff, Nat.reduceEqDiff, stO_1s, stO_ws, boxA_s, one_bool, one_int, one_str, one_ptr, one_nilptr, one_slice, one_eslice, one_nilslice, one_func, one_iface, one_niliface, List.all_cons, List.all_nil, List.length_cons, List.length_nil, Nat.reduceLT, Nat.reduceEqDiff, Nat.reduceLeDiff, Bool.and_true, Nat.one_ne_zero, Nat.succ_ne_zero, reduceIte, if_false, List.getElem?_cons_zero, List.set_cons_zero, List.set_cons_succ]
          refine callA_of (l01Join_c _ _ _ _ _ ox.sl hy (by rw [hbl]; omega) (by omega)) ?_
          rintro z hB' ⟨oz, EB⟩
          have bb := bb.ext EB
          have le_EB := EB.le
          have hnq : (h.n = hB'.n) = False := by simp; omega
          try simp only [i1, i4, bb.eq, w1, w2, hlen, bslA_1, s2bA_some hne (Nat.le_trans hl (by omega)), hnq, go_sem, Hold.p, HoldK.k, HoldL.K, HoldL.body, Nat.reduceBEq, Nat.reduceAdd, List.getElem?_cons_zero, List.getElem?_cons_succ, Option.bind_some, List.map_cons, List.map_nil, Nat.zero_add, if_true, List.getD_cons_zero, List.getD_cons_succ, List.contains_cons, List.contains_nil, Nat.reduceBEq, Bool.or_true, Bool.true_or, Bool.or_false, Bool.false_or, Bool.not_true, Bool.not_false, true_and, and_true, rowA_whole, push_n, set_n, push_obj, set_obj, set_push, set_push_ne, set_set, Nat.add_assoc, Nat.left_eq_add, Nat.add_eq_left, Nat.add_left_cancel_iff, Nat.reduceEqDiff, stO_1s, stO_ws, boxA_s, one_bool, one_int, one_str, one_ptr, one_nilptr, one_slice, one_eslice, one_nilslice, one_func, one_iface, one_niliface, List.all_cons, List.all_nil, List.length_cons, List.length_nil, Nat.reduceLT, Nat.reduceEqDiff, Nat.reduceLeDiff, Bool.and_true, Nat.one_ne_zero, Nat.succ_ne_zero, reduceIte, if_false, List.getElem?_cons_zero, List.set_cons_zero, List.set_cons_succ]
          generalize hq_hC : IH.push hB' (IObj.rows [[IV.int .u8 (UInt8.ofNat zs.length).toNat]] 5 1 false) = hC
          have e_hC : Ext hB' hC := by rw [← hq_hC]; exact (Ext.refl _).push _
          have l_hC : hC.n = hB'.n + 1 := by rw [← hq_hC]; rfl
          have bw : At hC hB'.n (IObj.rows [[IV.int .u8 (UInt8.ofNat zs.length).toNat]] 5 1 false) := by rw [← hq_hC]; exact At.new _ _
          clear hq_hC
          have bb := bb.ext e_hC
          have oz := oz.ext e_hC
          have hw : SlR hC 1 (.slice hB'.n 0 1) (strRows [UInt8.ofNat zs.length]) := SlR.whole bw.eq rfl bw.lt
          clear bw
          try simp only [i1, i4, bb.eq, w1, w2, hlen, bslA_1, s2bA_some hne (Nat.le_trans hl (by omega)), go_sem, Hold.p, HoldK.k, HoldL.K, HoldL.body, Nat.reduceBEq, Nat.reduceAdd, List.getElem?_cons_zero, List.getElem?_cons_succ, Option.bind_some, List.map_cons, List.map_nil, Nat.zero_add, if_true, List.getD_cons_zero, List.getD_cons_succ, List.contains_cons, List.contains_nil, Nat.reduceBEq, Bool.or_true, Bool.true_or, Bool.or_false, Bool.false_or, Bool.not_true, Bool.not_false, true_and, and_true, rowA_whole, push_n, set_n, push_obj, set_obj, set_push, set_push_ne, set_set, Nat.add_assoc, Nat.left_eq_add, Nat.add_eq_left, Nat.add_left_cancel_iff, Nat.reduceEqDiff, stO_1s, stO_ws, boxA_s, one_bool, one_int, one_str, one_ptr, one_nilptr, one_slice, one_eslice, one_nilslice, one_func, one_iface, one_niliface, List.all_cons, List.all_nil, List.length_cons, List.length_nil, Nat.reduceLT, Nat.reduceEqDiff, Nat.reduceLeDiff, Bool.and_true, Nat.one_ne_zero, Nat.succ_ne_zero, reduceIte, if_false, List.getElem?_cons_zero, List.set_cons_zero, List.set_cons_succ]
          refine callA_of (l01Join_c _ _ _ _ _ oz.sl hw (by rw [List.length_append, hbl]; have : (nm).length ≤ 1000 := (by omega); omega) (by simp)) ?_
          rintro zz hD ⟨oD, ED⟩
          have EE := (((E2.trans EA).trans EB).trans e_hC).trans ED
          have lEE := EE.le
          unfold Bet
          simp only [i1, go_sem, Hold.p, HoldK.k, HoldL.K, HoldL.body, Nat.reduceBEq, Nat.reduceAdd, List.getElem?_cons_zero, List.getElem?_cons_succ, Option.bind_some, List.map_cons, List.map_nil, Nat.zero_add, if_true, List.getD_cons_zero, List.getD_cons_succ, List.contains_cons, List.contains_nil, Nat.reduceBEq, Bool.or_true, Bool.true_or, Bool.or_false, Bool.false_or, Bool.not_true, Bool.not_false, true_and, and_true, rowA_whole, push_n, set_n, push_obj, set_obj, set_push, set_push_ne, set_set, Nat.add_assoc, Nat.left_eq_add, Nat.add_eq_left, Nat.add_left_cancel_iff, Nat.reduceEqDiff, stO_1s, stO_ws, boxA_s, one_bool, one_int, one_str, one_ptr, one_nilptr, one_slice, one_eslice, one_nilslice, one_func, one_iface, one_niliface, List.all_cons, List.all_nil, List.length_cons, List.length_nil, Nat.reduceLT, Nat.reduceEqDiff, Nat.reduceLeDiff, Bool.and_true, Nat.one_ne_zero, Nat.succ_ne_zero, reduceIte, if_false, List.getElem?_cons_zero, List.set_cons_zero, List.set_cons_succ]
          exact ⟨zz, rfl, fin _ _ _ (by omega) EE oD⟩
        · skip
          have hnq : (h.n = hA.n) = False := by simp; omega
          try simp only [i1, i4, bb.eq, w1, w2, hlen, bslA_1, s2bA_some hne (Nat.le_trans hl (by omega)), hnq, go_sem, Hold.p, HoldK.k, HoldL.K, HoldL.body, Nat.reduceBEq, Nat.reduceAdd, List.getElem?_cons_zero, List.getElem?_cons_succ, Option.bind_some, List.map_cons, List.map_nil, Nat.zero_add, if_true, List.getD_cons_zero, List.getD_cons_succ, List.contains_cons, List.contains_nil, Nat.reduceBEq, Bool.or_true, Bool.true_or, Bool.or_false, Bool.false_or, Bool.not_true, Bool.not_false, true_and, and_true, rowA_whole, push_n, set_n, push_obj, set_obj, set_push, set_push_ne, set_set, Nat.add_assoc, Nat.left_eq_add, Nat.add_eq_left, Nat.add_left_cancel_iff, Nat.reduceEqDiff, stO_1s, stO_ws, boxA_s, one_bool, one_int, one_str, one_ptr, one_nilptr, one_slice, one_eslice, one_nilslice, one_func, one_iface, one_niliface, List.all_cons, List.all_nil, List.length_cons, List.length_nil, Nat.reduceLT, Nat.reduceEqDiff, Nat.reduceLeDiff, Bool.and_true, Nat.one_ne_zero, Nat.succ_ne_zero, reduceIte, if_false, List.getElem?_cons_zero, List.set_cons_zero, List.set_cons_succ]
          generalize hq_hC : IH.push hA (IObj.rows [[IV.int .u8 (UInt8.ofNat zs.length).toNat]] 5 1 false) = hC
          have e_hC : Ext hA hC := by rw [← hq_hC]; exact (Ext.refl _).push _
          have l_hC : hC.n = hA.n + 1 := by rw [← hq_hC]; rfl
          have bw : At hC hA.n (IObj.rows [[IV.int .u8 (UInt8.ofNat zs.length).toNat]] 5 1 false) := by rw [← hq_hC]; exact At.new _ _
          clear hq_hC
          have bb := bb.ext e_hC
          have ox := ox.ext e_hC
          have hy := hy.ext e_hC
          have hw : SlR hC 1 (.slice hA.n 0 1) (strRows [UInt8.ofNat zs.length]) := SlR.whole bw.eq rfl bw.lt
          clear bw
          try simp only [i1, i4, bb.eq, w1, w2, hlen, bslA_1, s2bA_some hne (Nat.le_trans hl (by omega)), go_sem, Hold.p, HoldK.k, HoldL.K, HoldL.body, Nat.reduceBEq, Nat.reduceAdd, List.getElem?_cons_zero, List.getElem?_cons_succ, Option.bind_some, List.map_cons, List.map_nil, Nat.zero_add, if_true, List.getD_cons_zero, List.getD_cons_succ, List.contains_cons, List.contains_nil, Nat.reduceBEq, Bool.or_true, Bool.true_or, Bool.or_false, Bool.false_or, Bool.not_true, Bool.not_false, true_and, and_true, rowA_whole, push_n, set_n, push_obj, set_obj, set_push, set_push_ne, set_set, Nat.add_assoc, Nat.left_eq_add, Nat.add_eq_left, Nat.add_left_cancel_iff, Nat.reduceEqDiff, stO_1s, stO_ws, boxA_s, one_bool, one_int, one_str, one_ptr, one_nilptr, one_slice, one_eslice, one_nilslice, one_func, one_iface, one_niliface, List.all_cons, List.all_nil, List.length_cons, List.length_nil, Nat.reduceLT, Nat.reduceEqDiff, Nat.reduceLeDiff, Bool.and_true, Nat.one_ne_zero, Nat.succ_ne_zero, reduceIte, if_false, List.getElem?_cons_zero, List.set_cons_zero, List.set_cons_succ]
          refine callA_of (l01Join_c _ _ _ _ _ ox.sl hy (by rw [hbl]; omega) (by omega)) ?_
          rintro z hB' ⟨oz, EB⟩
          have bb := bb.ext EB
          have hw := hw.ext EB
          have le_EB := EB.le
          try simp only [i1, i4, bb.eq, w1, w2, hlen, bslA_1, s2bA_some hne (Nat.le_trans hl (by omega)), go_sem, Hold.p, HoldK.k, HoldL.K, HoldL.body, Nat.reduceBEq, Nat.reduceAdd, List.getElem?_cons_zero, List.getElem?_cons_succ, Option.bind_some, List.map_cons, List.map_nil, Nat.zero_add, if_true, List.getD_cons_zero, List.getD_cons_succ, List.contains_cons, List.contains_nil, Nat.reduceBEq, Bool.or_true, Bool.true_or, Bool.or_false, Bool.false_or, Bool.not_true, Bool.not_false, true_and, and_true, rowA_whole, push_n, set_n, push_obj, set_obj, set_push, set_push_ne, set_set, Nat.add_assoc, Nat.left_eq_add, Nat.add_eq_left, Nat.add_left_cancel_iff, Nat.reduceEqDiff, stO_1s, stO_ws, boxA_s, one_bool, one_int, one_str, one_ptr, one_nilptr, one_slice, one_eslice, one_nilslice, one_func, one_iface, one_niliface, List.all_cons, List.all_nil, List.length_cons, List.length_nil, Nat.reduceLT, Nat.reduceEqDiff, Nat.reduceLeDiff, Bool.and_true, Nat.one_ne_zero, Nat.succ_ne_zero, reduceIte, if_false, List.getElem?_cons_zero, List.set_cons_zero, List.set_cons_succ]
          refine callA_of (l01Join_c _ _ _ _ _ oz.sl hw (by rw [List.length_append, hbl]; have : (nm).length ≤ 1000 := (by omega); omega) (by simp)) ?_
          rintro zz hD ⟨oD, ED⟩
          have EE := (((E2.trans EA).trans e_hC).trans EB).trans ED
          have lEE := EE.le
          unfold Bet
          simp only [i1, go_sem, Hold.p, HoldK.k, HoldL.K, HoldL.body, Nat.reduceBEq, Nat.reduceAdd, List.getElem?_cons_zero, List.getElem?_cons_succ, Option.bind_some, List.map_cons, List.map_nil, Nat.zero_add, if_true, List.getD_cons_zero, List.getD_cons_succ, List.contains_cons, List.contains_nil, Nat.reduceBEq, Bool.or_true, Bool.true_or, Bool.or_false, Bool.false_or, Bool.not_true, Bool.not_false, true_and, and_true, rowA_whole, push_n, set_n, push_obj, set_obj, set_push, set_push_ne, set_set, Nat.add_assoc, Nat.left_eq_add, Nat.add_eq_left, Nat.add_left_cancel_iff, Nat.reduceEqDiff, stO_1s, stO_ws, boxA_s, one_bool, one_int, one_str, one_ptr, one_nilptr, one_slice, one_eslice, one_nilslice, one_func, one_iface, one_niliface, List.all_cons, List.all_nil, List.length_cons, List.length_nil, Nat.reduceLT, Nat.reduceEqDiff, Nat.reduceLeDiff, Bool.and_true, Nat.one_ne_zero, Nat.succ_ne_zero, reduceIte, if_false, List.getElem?_cons_zero, List.set_cons_zero, List.set_cons_succ]
          exact ⟨zz, rfl, fin _ _ _ (by omega) EE oD⟩
      · skip
        have hnr : (h.n = g2.n + 1) = False := by simp; omega
        have hnq : (h.n = g2.n) = False := by simp; omega
        try simp only [i1, i4, bb.eq, w1, w2, hlen, bslA_1, s2bA_some hne (Nat.le_trans hl (by omega)), hnr, hnq, go_sem, Hold.p, HoldK.k, HoldL.K, HoldL.body, Nat.reduceBEq, Nat.reduceAdd, List.getElem?_cons_zero, List.getElem?_cons_succ, Option.bind_some, List.map_cons, List.map_nil, Nat.zero_add, if_true, List.getD_cons_zero, List.getD_cons_succ, List.contains_cons, List.contains_nil, Nat.reduceBEq, Bool.or_true, Bool.true_or, Bool.or_false, Bool.false_or, Bool.not_true, Bool.not_false, true_and, and_true, rowA_whole, push_n, set_n, push_obj, set_obj, set_push, set_push_ne, set_set, Nat.add_assoc, Nat.left_eq_add, Nat.add_eq_left, Nat.add_left_cancel_iff, Nat.reduceEqDiff, stO_1s, stO_ws, boxA_s, one_bool, one_int, one_str, one_ptr, one_nilptr, one_slice, one_eslice, one_nilslice, one_func, one_iface, one_niliface, List.all_cons, List.all_nil, List.length_cons, List.length_nil, Nat.reduceLT, Nat.reduceEqDiff, Nat.reduceLeDiff, Bool.and_true, Nat.one_ne_zero, Nat.succ_ne_zero, reduceIte, if_false, List.getElem?_cons_zero, List.set_cons_zero, List.set_cons_succ]
        generalize hq_hC : IH.push g2 (IObj.rows [[IV.int .u8 (UInt8.ofNat zs.length).toNat]] 5 1 false) = hC
        have e_hC : Ext g2 hC := by rw [← hq_hC]; exact (Ext.refl _).push _
        have l_hC : hC.n = g2.n + 1 := by rw [← hq_hC]; rfl
        have bw : At hC g2.n (IObj.rows [[IV.int .u8 (UInt8.ofNat zs.length).toNat]] 5 1 false) := by rw [← hq_hC]; exact At.new _ _
        clear hq_hC
        have bb := bb.ext e_hC
        have ox := ox.ext e_hC
        have hw : SlR hC 1 (.slice g2.n 0 1) (strRows [UInt8.ofNat zs.length]) := SlR.whole bw.eq rfl bw.lt
        clear bw
        have hnq : (h.n = hC.n) = False := by simp; omega
        try simp only [i1, i4, bb.eq, w1, w2, hlen, bslA_1, s2bA_some hne (Nat.le_trans hl (by omega)), hnr, hnq, go_sem, Hold.p, HoldK.k, HoldL.K, HoldL.body, Nat.reduceBEq, Nat.reduceAdd, List.getElem?_cons_zero, List.getElem?_cons_succ, Option.bind_some, List.map_cons, List.map_nil, Nat.zero_add, if_true, List.getD_cons_zero, List.getD_cons_succ, List.contains_cons, List.contains_nil, Nat.reduceBEq, Bool.or_true, Bool.true_or, Bool.or_false, Bool.false_or, Bool.not_true, Bool.not_false, true_and, and_true, rowA_whole, push_n, set_n, push_obj, set_obj, set_push, set_push_ne, set_set, Nat.add_assoc, Nat.left_eq_add, Nat.add_eq_left, Nat.add_left_cancel_iff, Nat.reduceEqDiff, stO_1s, stO_ws, boxA_s, one_bool, one_int, one_str, one_ptr, one_nilptr, one_slice, one_eslice, one_nilslice, one_func, one_iface, one_niliface, List.all_cons, List.all_nil, List.length_cons, List.length_nil, Nat.reduceLT, Nat.reduceEqDiff, Nat.reduceLeDiff, Bool.and_true, Nat.one_ne_zero, Nat.succ_ne_zero, reduceIte, if_false, List.getElem?_cons_zero, List.set_cons_zero, List.set_cons_succ]
        generalize hq_hA : IH.push hC (IObj.rows (strRows nm) 5 1 false) = hA
        have e_hA : Ext hC hA := by rw [← hq_hA]; exact (Ext.refl _).push _
        have l_hA : hA.n = hC.n + 1 := by rw [← hq_hA]; rfl
        have ba : At hA hC.n (IObj.rows (strRows nm) 5 1 false) := by rw [← hq_hA]; exact At.new _ _
        clear hq_hA
        have bb := bb.ext e_hA
        have hy : SlR hA 1 (.slice hC.n 0 nm.length) (strRows nm) := SlR.whole ba.eq (strRows_len nm) ba.lt
        have EA : Ext hC hA := e_hA
        clear ba e_hA
        rw [l_hC] at hy
        have ox := ox.ext EA
        have hw := hw.ext EA
        have le_EA := EA.le
        try simp only [i1, i4, bb.eq, w1, w2, hlen, bslA_1, s2bA_some hne (Nat.le_trans hl (by omega)), hnr, go_sem, Hold.p, HoldK.k, HoldL.K, HoldL.body, Nat.reduceBEq, Nat.reduceAdd, List.getElem?_cons_zero, List.getElem?_cons_succ, Option.bind_some, List.map_cons, List.map_nil, Nat.zero_add, if_true, List.getD_cons_zero, List.getD_cons_succ, List.contains_cons, List.contains_nil, Nat.reduceBEq, Bool.or_true, Bool.true_or, Bool.or_false, Bool.false_or, Bool.not_true, Bool.not_false, true_and, and_true, rowA_whole, push_n, set_n, push_obj, set_obj, set_push, set_push_ne, set_set, Nat.add_assoc, Nat.left_eq_add, Nat.add_eq_left, Nat.add_left_cancel_iff, Nat.reduceEqDiff, stO_1s, stO_ws, boxA_s, one_bool, one_int, one_str, one_ptr, one_nilptr, one_slice, one_eslice, one_nilslice, one_func, one_iface, one_niliface, List.all_cons, List.all_nil, List.length_cons, List.length_nil, Nat.reduceLT, Nat.reduceEqDiff, Nat.reduceLeDiff, Bool.and_true, Nat.one_ne_zero, Nat.succ_ne_zero, reduceIte, if_false, List.getElem?_cons_zero, List.set_cons_zero, List.set_cons_succ]
        refine callA_of (l01Join_c _ _ _ _ _ ox.sl hy (by rw [hbl]; omega) (by omega)) ?_
        rintro z hB' ⟨oz, EB⟩
        have bb := bb.ext EB
        have hw := hw.ext EB
        have le_EB := EB.le
        try simp only [i1, i4, bb.eq, w1, w2, hlen, bslA_1, s2bA_some hne (Nat.le_trans hl (by omega)), hnr, go_sem, Hold.p, HoldK.k, HoldL.K, HoldL.body, Nat.reduceBEq, Nat.reduceAdd, List.getElem?_cons_zero, List.getElem?_cons_succ, Option.bind_some, List.map_cons, List.map_nil, Nat.zero_add, if_true, List.getD_cons_zero, List.getD_cons_succ, List.contains_cons, List.contains_nil, Nat.reduceBEq, Bool.or_true, Bool.true_or, Bool.or_false, Bool.false_or, Bool.not_true, Bool.not_false, true_and, and_true, rowA_whole, push_n, set_n, push_obj, set_obj, set_push, set_push_ne, set_set, Nat.add_assoc, Nat.left_eq_add, Nat.add_eq_left, Nat.add_left_cancel_iff, Nat.reduceEqDiff, stO_1s, stO_ws, boxA_s, one_bool, one_int, one_str, one_ptr, one_nilptr, one_slice, one_eslice, one_nilslice, one_func, one_iface, one_niliface, List.all_cons, List.all_nil, List.length_cons, List.length_nil, Nat.reduceLT, Nat.reduceEqDiff, Nat.reduceLeDiff, Bool.and_true, Nat.one_ne_zero, Nat.succ_ne_zero, reduceIte, if_false, List.getElem?_cons_zero, List.set_cons_zero, List.set_cons_succ]
        refine callA_of (l01Join_c _ _ _ _ _ oz.sl hw (by rw [List.length_append, hbl]; have : (nm).length ≤ 1000 := (by omega); omega) (by simp)) ?_
        rintro zz hD ⟨oD, ED⟩
        have EE := (((E2.trans e_hC).trans EA).trans EB).trans ED
        have lEE := EE.le
        unfold Bet
        simp only [i1, go_sem, Hold.p, HoldK.k, HoldL.K, HoldL.body, Nat.reduceBEq, Nat.reduceAdd, List.getElem?_cons_zero, List.getElem?_cons_succ, Option.bind_some, List.map_cons, List.map_nil, Nat.zero_add, if_true, List.getD_cons_zero, List.getD_cons_succ, List.contains_cons, List.contains_nil, Nat.reduceBEq, Bool.or_true, Bool.true_or, Bool.or_false, Bool.false_or, Bool.not_true, Bool.not_false, true_and, and_true, rowA_whole, push_n, set_n, push_obj, set_obj, set_push, set_push_ne, set_set, Nat.add_assoc, Nat.left_eq_add, Nat.add_eq_left, Nat.add_left_cancel_iff, Nat.reduceEqDiff, stO_1s, stO_ws, boxA_s, one_bool, one_int, one_str, one_ptr, one_nilptr, one_slice, one_eslice, one_nilslice, one_func, one_iface, one_niliface, List.all_cons, List.all_nil, List.length_cons, List.length_nil, Nat.reduceLT, Nat.reduceEqDiff, Nat.reduceLeDiff, Bool.and_true, Nat.one_ne_zero, Nat.succ_ne_zero, reduceIte, if_false, List.getElem?_cons_zero, List.set_cons_zero, List.set_cons_succ]
        exact ⟨zz, rfl, fin _ _ _ (by omega) EE oD⟩
    clear E2 ox i1 i4
    rintro e g2 ⟨x, i1, i4, ox, E2⟩
    have hrh : repHead id code ttl nm zs = (((beB 2 id ++ [1, bc]) ++ beB 4 ttl ++ [UInt8.ofNat nm.length]) ++ nm) ++ [UInt8.ofNat zs.length] := by rw [← hbc]; rfl
    rw [hrh]
    have hbl : ((((beB 2 id ++ [1, bc]) ++ beB 4 ttl ++ [UInt8.ofNat nm.length]) ++ nm) ++ [UInt8.ofNat zs.length]).length = 10 + nm.length := by simp [beB_len]; omega
    generalize (((beB 2 id ++ [1, bc]) ++ beB 4 ttl ++ [UInt8.ofNat nm.length]) ++ nm) ++ [UInt8.ofNat zs.length] = hd at ox hbl ⊢
    have hlen := (hs.ext E2).lenF
    rw [intRows_len] at hlen
    simp only [i1, i4, go_sem, Hold.p, HoldK.k, HoldL.K, HoldL.body, Nat.reduceBEq, Nat.reduceAdd, List.getElem?_cons_zero, List.getElem?_cons_succ, Option.bind_some, List.map_cons, List.map_nil, Nat.zero_add, if_true, List.getD_cons_zero, List.getD_cons_succ, List.contains_cons, List.contains_nil, Nat.reduceBEq, Bool.or_true, Bool.true_or, Bool.or_false, Bool.false_or, Bool.not_true, Bool.not_false, true_and, and_true, rowA_whole, push_n, set_n, push_obj, set_obj, set_push, set_push_ne, set_set, Nat.add_assoc, Nat.left_eq_add, Nat.add_eq_left, Nat.add_left_cancel_iff, Nat.reduceEqDiff, stO_1s, stO_ws, boxA_s, one_bool, one_int, one_str, one_ptr, one_nilptr, one_slice, one_eslice, one_nilslice, one_func, one_iface, one_niliface, List.all_cons, List.all_nil, List.length_cons, List.length_nil, Nat.reduceLT, Nat.reduceEqDiff, Nat.reduceLeDiff, Bool.and_true, Nat.one_ne_zero, Nat.succ_ne_zero, reduceIte, if_false, List.getElem?_cons_zero, List.set_cons_zero, List.set_cons_succ]
    refine loop_at (fun n e g' => ∃ k, n = zs.length - k ∧ k ≤ zs.length ∧ Bet g h.n (hd ++ (zs.take k).flatMap (beB 4)) e g' ∧ e 5 = .int .i64 (k : Nat)) zs.length ?_ ?_
    · refine ⟨0, by omega, by omega, ⟨x, ?_⟩, ?_⟩
      · simp only [i1, i4, go_sem, Hold.p, HoldK.k, HoldL.K, HoldL.body, Nat.reduceBEq, Nat.reduceAdd, List.getElem?_cons_zero, List.getElem?_cons_succ, Option.bind_some, List.map_cons, List.map_nil, Nat.zero_add, if_true, List.getD_cons_zero, List.getD_cons_succ, List.contains_cons, List.contains_nil, Nat.reduceBEq, Bool.or_true, Bool.true_or, Bool.or_false, Bool.false_or, Bool.not_true, Bool.not_false, true_and, and_true, rowA_whole, push_n, set_n, push_obj, set_obj, set_push, set_push_ne, set_set, Nat.add_assoc, Nat.left_eq_add, Nat.add_eq_left, Nat.add_left_cancel_iff, Nat.reduceEqDiff, stO_1s, stO_ws, boxA_s, one_bool, one_int, one_str, one_ptr, one_nilptr, one_slice, one_eslice, one_nilslice, one_func, one_iface, one_niliface, List.all_cons, List.all_nil, List.length_cons, List.length_nil, Nat.reduceLT, Nat.reduceEqDiff, Nat.reduceLeDiff, Bool.and_true, Nat.one_ne_zero, Nat.succ_ne_zero, reduceIte, if_false, List.getElem?_cons_zero, List.set_cons_zero, List.set_cons_succ]
        exact ⟨by simpa using ox, E2⟩
      · simp only [i1, i4, go_sem, Hold.p, HoldK.k, HoldL.K, HoldL.body, Nat.reduceBEq, Nat.reduceAdd, List.getElem?_cons_zero, List.getElem?_cons_succ, Option.bind_some, List.map_cons, List.map_nil, Nat.zero_add, if_true, List.getD_cons_zero, List.getD_cons_succ, List.contains_cons, List.contains_nil, Nat.reduceBEq, Bool.or_true, Bool.true_or, Bool.or_false, Bool.false_or, Bool.not_true, Bool.not_false, true_and, and_true, rowA_whole, push_n, set_n, push_obj, set_obj, set_push, set_push_ne, set_set, Nat.add_assoc, Nat.left_eq_add, Nat.add_eq_left, Nat.add_left_cancel_iff, Nat.reduceEqDiff, stO_1s, stO_ws, boxA_s, one_bool, one_int, one_str, one_ptr, one_nilptr, one_slice, one_eslice, one_nilslice, one_func, one_iface, one_niliface, List.all_cons, List.all_nil, List.length_cons, List.length_nil, Nat.reduceLT, Nat.reduceEqDiff, Nat.reduceLeDiff, Bool.and_true, Nat.one_ne_zero, Nat.succ_ne_zero, reduceIte, if_false, List.getElem?_cons_zero, List.set_cons_zero, List.set_cons_succ]
        rfl
    · clear i1 i4 ox E2 hlen
      rintro n e g3 ⟨k, rfl, hk, ⟨x, i1, i4, ox, E3⟩, i5⟩
      have bb := bb.ext E3
      have hs := hs.ext E3
      have hlen := hs.lenF
      rw [intRows_len] at hlen
      have l3 := E3.le
      simp only [i1, i4, i5, bb.eq, hlen, go_sem, Hold.p, HoldK.k, HoldL.K, HoldL.body, Nat.reduceBEq, Nat.reduceAdd, List.getElem?_cons_zero, List.getElem?_cons_succ, Option.bind_some, List.map_cons, List.map_nil, Nat.zero_add, if_true, List.getD_cons_zero, List.getD_cons_succ, List.contains_cons, List.contains_nil, Nat.reduceBEq, Bool.or_true, Bool.true_or, Bool.or_false, Bool.false_or, Bool.not_true, Bool.not_false, true_and, and_true, rowA_whole, push_n, set_n, push_obj, set_obj, set_push, set_push_ne, set_set, Nat.add_assoc, Nat.left_eq_add, Nat.add_eq_left, Nat.add_left_cancel_iff, Nat.reduceEqDiff, stO_1s, stO_ws, boxA_s, one_bool, one_int, one_str, one_ptr, one_nilptr, one_slice, one_eslice, one_nilslice, one_func, one_iface, one_niliface, List.all_cons, List.all_nil, List.length_cons, List.length_nil, Nat.reduceLT, Nat.reduceEqDiff, Nat.reduceLeDiff, Bool.and_true, Nat.one_ne_zero, Nat.succ_ne_zero, reduceIte, if_false, List.getElem?_cons_zero, List.set_cons_zero, List.set_cons_succ]
      refine test_dec (fun hb => ?_) (fun hb => ?_)
      · have hlt' : k < zs.length := by omega
        have hkp : zs[k]? = some zs[k] := List.getElem?_eq_getElem hlt'
        generalize zs[k] = p at hkp
        obtain ⟨l, j, hia, hll, hrow⟩ := hs.at (m := k) (intRows_at hkp) .i64
        have hc := cellO_row hrow
        simp only [i1, i4, i5, bb.eq, hia, hc, go_sem, Hold.p, HoldK.k, HoldL.K, HoldL.body, Nat.reduceBEq, Nat.reduceAdd, List.getElem?_cons_zero, List.getElem?_cons_succ, Option.bind_some, List.map_cons, List.map_nil, Nat.zero_add, if_true, List.getD_cons_zero, List.getD_cons_succ, List.contains_cons, List.contains_nil, Nat.reduceBEq, Bool.or_true, Bool.true_or, Bool.or_false, Bool.false_or, Bool.not_true, Bool.not_false, true_and, and_true, rowA_whole, push_n, set_n, push_obj, set_obj, set_push, set_push_ne, set_set, Nat.add_assoc, Nat.left_eq_add, Nat.add_eq_left, Nat.add_left_cancel_iff, Nat.reduceEqDiff, stO_1s, stO_ws, boxA_s, one_bool, one_int, one_str, one_ptr, one_nilptr, one_slice, one_eslice, one_nilslice, one_func, one_iface, one_niliface, List.all_cons, List.all_nil, List.length_cons, List.length_nil, Nat.reduceLT, Nat.reduceEqDiff, Nat.reduceLeDiff, Bool.and_true, Nat.one_ne_zero, Nat.succ_ne_zero, reduceIte, if_false, List.getElem?_cons_zero, List.set_cons_zero, List.set_cons_succ]
        refine callA_of (l03Put_c _ p 4 (by omega)) ?_
        rintro y h4 ⟨oy, E4⟩
        have bb := bb.ext E4
        have ox := ox.ext E4
        have le_E4 := E4.le
        simp only [i1, i4, i5, go_sem, Hold.p, HoldK.k, HoldL.K, HoldL.body, Nat.reduceBEq, Nat.reduceAdd, List.getElem?_cons_zero, List.getElem?_cons_succ, Option.bind_some, List.map_cons, List.map_nil, Nat.zero_add, if_true, List.getD_cons_zero, List.getD_cons_succ, List.contains_cons, List.contains_nil, Nat.reduceBEq, Bool.or_true, Bool.true_or, Bool.or_false, Bool.false_or, Bool.not_true, Bool.not_false, true_and, and_true, rowA_whole, push_n, set_n, push_obj, set_obj, set_push, set_push_ne, set_set, Nat.add_assoc, Nat.left_eq_add, Nat.add_eq_left, Nat.add_left_cancel_iff, Nat.reduceEqDiff, stO_1s, stO_ws, boxA_s, one_bool, one_int, one_str, one_ptr, one_nilptr, one_slice, one_eslice, one_nilslice, one_func, one_iface, one_niliface, List.all_cons, List.all_nil, List.length_cons, List.length_nil, Nat.reduceLT, Nat.reduceEqDiff, Nat.reduceLeDiff, Bool.and_true, Nat.one_ne_zero, Nat.succ_ne_zero, reduceIte, if_false, List.getElem?_cons_zero, List.set_cons_zero, List.set_cons_succ]
        refine callA_of (l01Join_c _ _ _ _ _ ox.sl oy.sl (by rw [List.length_append, hbl, flat_len]; have := List.length_take_le k zs; omega) (by rw [beB_len]; omega)) ?_
        rintro z h5 ⟨oz, E5⟩
        have EE := (E3.trans E4).trans E5
        have lEE := EE.le
        unfold Bet
        simp only [i1, i5, go_sem, Hold.p, HoldK.k, HoldL.K, HoldL.body, Nat.reduceBEq, Nat.reduceAdd, List.getElem?_cons_zero, List.getElem?_cons_succ, Option.bind_some, List.map_cons, List.map_nil, Nat.zero_add, if_true, List.getD_cons_zero, List.getD_cons_succ, List.contains_cons, List.contains_nil, Nat.reduceBEq, Bool.or_true, Bool.true_or, Bool.or_false, Bool.false_or, Bool.not_true, Bool.not_false, true_and, and_true, rowA_whole, push_n, set_n, push_obj, set_obj, set_push, set_push_ne, set_set, Nat.add_assoc, Nat.left_eq_add, Nat.add_eq_left, Nat.add_left_cancel_iff, Nat.reduceEqDiff, stO_1s, stO_ws, boxA_s, one_bool, one_int, one_str, one_ptr, one_nilptr, one_slice, one_eslice, one_nilslice, one_func, one_iface, one_niliface, List.all_cons, List.all_nil, List.length_cons, List.length_nil, Nat.reduceLT, Nat.reduceEqDiff, Nat.reduceLeDiff, Bool.and_true, Nat.one_ne_zero, Nat.succ_ne_zero, reduceIte, if_false, List.getElem?_cons_zero, List.set_cons_zero, List.set_cons_succ]
        refine ⟨_, ?_, k + 1, rfl, by omega, ⟨z, rfl, ?_, EE⟩, wr64_succ k (by omega)⟩
        · omega
        · rw [flat_snoc hkp, ← List.append_assoc]
          exact oz.wide (by omega) (Nat.le_refl _) (Nat.le_refl _)
      · obtain rfl : k = zs.length := by omega
        rw [List.take_length] at ox
        simp only [i1, i4, go_sem, Hold.p, HoldK.k, HoldL.K, HoldL.body, Nat.reduceBEq, Nat.reduceAdd, List.getElem?_cons_zero, List.getElem?_cons_succ, Option.bind_some, List.map_cons, List.map_nil, Nat.zero_add, if_true, List.getD_cons_zero, List.getD_cons_succ, List.contains_cons, List.contains_nil, Nat.reduceBEq, Bool.or_true, Bool.true_or, Bool.or_false, Bool.false_or, Bool.not_true, Bool.not_false, true_and, and_true, rowA_whole, push_n, set_n, push_obj, set_obj, set_push, set_push_ne, set_set, Nat.add_assoc, Nat.left_eq_add, Nat.add_eq_left, Nat.add_left_cancel_iff, Nat.reduceEqDiff, stO_1s, stO_ws, boxA_s, one_bool, one_int, one_str, one_ptr, one_nilptr, one_slice, one_eslice, one_nilslice, one_func, one_iface, one_niliface, List.all_cons, List.all_nil, List.length_cons, List.length_nil, Nat.reduceLT, Nat.reduceEqDiff, Nat.reduceLeDiff, Bool.and_true, Nat.one_ne_zero, Nat.succ_ne_zero, reduceIte, if_false, List.getElem?_cons_zero, List.set_cons_zero, List.set_cons_succ]
        exact ⟨x, rfl, ox.wide (by have := E.le; omega) (Nat.le_refl _) (Nat.le_refl _), E.trans E3⟩
  · have hokf : okRep id code ttl nm zs = false := by simpa using hok
    have hdef : encR id code ttl nm zs = ([], 1) := if_neg hok
    rw [hdef]
    simp only [hv1, go_sem, Hold.p, HoldK.k, HoldL.K, HoldL.body, Nat.reduceBEq, Nat.reduceAdd, List.getElem?_cons_zero, List.getElem?_cons_succ, Option.bind_some, List.map_cons, List.map_nil, Nat.zero_add, if_true, List.getD_cons_zero, List.getD_cons_succ, List.contains_cons, List.contains_nil, Nat.reduceBEq, Bool.or_true, Bool.true_or, Bool.or_false, Bool.false_or, Bool.not_true, Bool.not_false, true_and, and_true, rowA_whole, push_n, set_n, push_obj, set_obj, set_push, set_push_ne, set_set, Nat.add_assoc, Nat.left_eq_add, Nat.add_eq_left, Nat.add_left_cancel_iff, Nat.reduceEqDiff, stO_1s, stO_ws, boxA_s, one_bool, one_int, one_str, one_ptr, one_nilptr, one_slice, one_eslice, one_nilslice, one_func, one_iface, one_niliface, List.all_cons, List.all_nil, List.length_cons, List.length_nil, Nat.reduceLT, Nat.reduceEqDiff, Nat.reduceLeDiff, Bool.and_true, Nat.one_ne_zero, Nat.succ_ne_zero, reduceIte, if_false, List.getElem?_cons_zero, List.set_cons_zero, List.set_cons_succ]
    generalize hq_g0 : IH.push h (IObj.rows [[IV.int .i64 id, IV.int .i64 code, IV.int .i64 ttl, IV.str nm, v]] 54 5 false) = g0
    have e_g0 : Ext h g0 := by rw [← hq_g0]; exact (Ext.refl _).push _
    have l_g0 : g0.n = h.n + 1 := by rw [← hq_g0]; rfl
    have bb : At g0 h.n (IObj.rows [[IV.int .i64 id, IV.int .i64 code, IV.int .i64 ttl, IV.str nm, v]] 54 5 false) := by rw [← hq_g0]; exact At.new _ _
    clear hq_g0
    have hs := hs.ext e_g0
    refine callA_of (l19ReplyOK_c _ id code ttl nm v zs hs hm hz) ?_
    rintro r h1 ⟨rfl, E1⟩
    have E := e_g0.trans E1
    simp only [hokf, go_sem, Hold.p, HoldK.k, HoldL.K, HoldL.body, Nat.reduceBEq, Nat.reduceAdd, List.getElem?_cons_zero, List.getElem?_cons_succ, Option.bind_some, List.map_cons, List.map_nil, Nat.zero_add, if_true, List.getD_cons_zero, List.getD_cons_succ, List.contains_cons, List.contains_nil, Nat.reduceBEq, Bool.or_true, Bool.true_or, Bool.or_false, Bool.false_or, Bool.not_true, Bool.not_false, true_and, and_true, rowA_whole, push_n, set_n, push_obj, set_obj, set_push, set_push_ne, set_set, Nat.add_assoc, Nat.left_eq_add, Nat.add_eq_left, Nat.add_left_cancel_iff, Nat.reduceEqDiff, stO_1s, stO_ws, boxA_s, one_bool, one_int, one_str, one_ptr, one_nilptr, one_slice, one_eslice, one_nilslice, one_func, one_iface, one_niliface, List.all_cons, List.all_nil, List.length_cons, List.length_nil, Nat.reduceLT, Nat.reduceEqDiff, Nat.reduceLeDiff, Bool.and_true, Nat.one_ne_zero, Nat.succ_ne_zero, reduceIte, if_false, List.getElem?_cons_zero, List.set_cons_zero, List.set_cons_succ]
    exact ⟨_, rfl, Own.nil, E⟩
end Go.Proofs.YtdpaehdolhdjdaaDoor
