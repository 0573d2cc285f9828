import Derived.Test.YtcmcfmgabafljaaDoorL1
set_option linter.unusedSimpArgs false
set_option linter.unusedVariables false
namespace Go.Proofs.YtcmcfmgabafljaaDoor
open Go Go.IW

set_option maxRecDepth 20000 in
theorem specNameOK_c (h : IH) (s : List UInt8) (hm : s.length ≤ 1048576) : ICalls Tryd.prog 12 [.str s] h fun r h' => r = .bool (okName s) ∧ Ext h h' := by
  refine icalls (.of ok12) (Nat.le_of_ble_eq_true rfl) ?_
  unfold c12
  by_cases c1 : 63 < s.length
  · have d1 : decide (63 < (s.length : Int)) = true := decide_eq_true (by omega)
    simp only [d1, go_sem, Hold.p, HoldK.k, HoldL.K, HoldL.body, Nat.reduceBEq, Nat.reduceAdd, List.getElem?_cons_zero, List.getElem?_cons_succ, Option.bind_some, List.map_cons, List.map_nil, Nat.zero_add, if_true, List.getD_cons_zero, List.getD_cons_succ, List.contains_cons, List.contains_nil, Nat.reduceBEq, Bool.or_true, Bool.true_or, Bool.or_false, Bool.false_or, Bool.not_true, Bool.not_false, true_and, and_true, rowA_whole, push_n, set_n, push_obj, set_obj, set_push, set_push_ne, set_set, Nat.add_assoc, Nat.left_eq_add, Nat.add_eq_left, Nat.add_left_cancel_iff, Nat.reduceEqDiff, stO_1s, stO_ws, boxA_s, one_bool, one_int, one_str, one_ptr, one_nilptr, one_slice, one_eslice, one_nilslice, one_func, one_iface, one_niliface, List.all_cons, List.all_nil, List.length_cons, List.length_nil, Nat.reduceLT, Nat.reduceEqDiff, Nat.reduceLeDiff, Bool.and_true, Nat.one_ne_zero, Nat.succ_ne_zero, reduceIte, if_false, List.getElem?_cons_zero, List.set_cons_zero, List.set_cons_succ]
    have : decide (s.length ≤ 63) = false := decide_eq_false (by omega)
    exact ⟨by unfold okName; rw [this]; rfl, Ext.refl _⟩
  · have d1 : decide (63 < (s.length : Int)) = false := decide_eq_false (by omega)
    have hdef : okName s = (cutAt 46 s).all okLabel := by
      have : decide (s.length ≤ 63) = true := decide_eq_true (by omega)
      unfold okName; rw [this]; rfl
    rw [hdef]
    simp only [d1, go_sem, Hold.p, HoldK.k, HoldL.K, HoldL.body, Nat.reduceBEq, Nat.reduceAdd, List.getElem?_cons_zero, List.getElem?_cons_succ, Option.bind_some, List.map_cons, List.map_nil, Nat.zero_add, if_true, List.getD_cons_zero, List.getD_cons_succ, List.contains_cons, List.contains_nil, Nat.reduceBEq, Bool.or_true, Bool.true_or, Bool.or_false, Bool.false_or, Bool.not_true, Bool.not_false, true_and, and_true, rowA_whole, push_n, set_n, push_obj, set_obj, set_push, set_push_ne, set_set, Nat.add_assoc, Nat.left_eq_add, Nat.add_eq_left, Nat.add_left_cancel_iff, Nat.reduceEqDiff, stO_1s, stO_ws, boxA_s, one_bool, one_int, one_str, one_ptr, one_nilptr, one_slice, one_eslice, one_nilslice, one_func, one_iface, one_niliface, List.all_cons, List.all_nil, List.length_cons, List.length_nil, Nat.reduceLT, Nat.reduceEqDiff, Nat.reduceLeDiff, Bool.and_true, Nat.one_ne_zero, Nat.succ_ne_zero, reduceIte, if_false, List.getElem?_cons_zero, List.set_cons_zero, List.set_cons_succ]
    refine callA_of (l02Cut_c h s 46 hm) ?_
    rintro v h1 ⟨hs, hE⟩
    have hlen := hs.lenF
    rw [List.length_map] at hlen
    simp only [go_sem, Hold.p, HoldK.k, HoldL.K, HoldL.body, Nat.reduceBEq, Nat.reduceAdd, List.getElem?_cons_zero, List.getElem?_cons_succ, Option.bind_some, List.map_cons, List.map_nil, Nat.zero_add, if_true, List.getD_cons_zero, List.getD_cons_succ, List.contains_cons, List.contains_nil, Nat.reduceBEq, Bool.or_true, Bool.true_or, Bool.or_false, Bool.false_or, Bool.not_true, Bool.not_false, true_and, and_true, rowA_whole, push_n, set_n, push_obj, set_obj, set_push, set_push_ne, set_set, Nat.add_assoc, Nat.left_eq_add, Nat.add_eq_left, Nat.add_left_cancel_iff, Nat.reduceEqDiff, stO_1s, stO_ws, boxA_s, one_bool, one_int, one_str, one_ptr, one_nilptr, one_slice, one_eslice, one_nilslice, one_func, one_iface, one_niliface, List.all_cons, List.all_nil, List.length_cons, List.length_nil, Nat.reduceLT, Nat.reduceEqDiff, Nat.reduceLeDiff, Bool.and_true, Nat.one_ne_zero, Nat.succ_ne_zero, reduceIte, if_false, List.getElem?_cons_zero, List.set_cons_zero, List.set_cons_succ]
    have hpl : (cutAt 46 s).length ≤ 1048577 := by rw [cutAt_len]; have := count_le_len 46 s; omega
    generalize cutAt 46 s = parts at hs hlen hpl
    refine loop_at (fun n e h' => ∃ k, n = parts.length - k ∧ k ≤ parts.length ∧ e 3 = v ∧ e 4 = .int .i64 (k : Nat) ∧ h' = h1 ∧ (parts.take k).all okLabel = true) parts.length ?_ ?_
    · refine ⟨0, by omega, by omega, ?_⟩
      simp only [go_sem, Hold.p, HoldK.k, HoldL.K, HoldL.body, Nat.reduceBEq, Nat.reduceAdd, List.getElem?_cons_zero, List.getElem?_cons_succ, Option.bind_some, List.map_cons, List.map_nil, Nat.zero_add, if_true, List.getD_cons_zero, List.getD_cons_succ, List.contains_cons, List.contains_nil, Nat.reduceBEq, Bool.or_true, Bool.true_or, Bool.or_false, Bool.false_or, Bool.not_true, Bool.not_false, true_and, and_true, rowA_whole, push_n, set_n, push_obj, set_obj, set_push, set_push_ne, set_set, Nat.add_assoc, Nat.left_eq_add, Nat.add_eq_left, Nat.add_left_cancel_iff, Nat.reduceEqDiff, stO_1s, stO_ws, boxA_s, one_bool, one_int, one_str, one_ptr, one_nilptr, one_slice, one_eslice, one_nilslice, one_func, one_iface, one_niliface, List.all_cons, List.all_nil, List.length_cons, List.length_nil, Nat.reduceLT, Nat.reduceEqDiff, Nat.reduceLeDiff, Bool.and_true, Nat.one_ne_zero, Nat.succ_ne_zero, reduceIte, if_false, List.getElem?_cons_zero, List.set_cons_zero, List.set_cons_succ]
      exact ⟨rfl, by simp⟩
    · rintro n e h' ⟨k, rfl, hk, i3, i4, rfl, hall⟩
      simp only [i3, i4, hlen, go_sem, Hold.p, HoldK.k, HoldL.K, HoldL.body, Nat.reduceBEq, Nat.reduceAdd, List.getElem?_cons_zero, List.getElem?_cons_succ, Option.bind_some, List.map_cons, List.map_nil, Nat.zero_add, if_true, List.getD_cons_zero, List.getD_cons_succ, List.contains_cons, List.contains_nil, Nat.reduceBEq, Bool.or_true, Bool.true_or, Bool.or_false, Bool.false_or, Bool.not_true, Bool.not_false, true_and, and_true, rowA_whole, push_n, set_n, push_obj, set_obj, set_push, set_push_ne, set_set, Nat.add_assoc, Nat.left_eq_add, Nat.add_eq_left, Nat.add_left_cancel_iff, Nat.reduceEqDiff, stO_1s, stO_ws, boxA_s, one_bool, one_int, one_str, one_ptr, one_nilptr, one_slice, one_eslice, one_nilslice, one_func, one_iface, one_niliface, List.all_cons, List.all_nil, List.length_cons, List.length_nil, Nat.reduceLT, Nat.reduceEqDiff, Nat.reduceLeDiff, Bool.and_true, Nat.one_ne_zero, Nat.succ_ne_zero, reduceIte, if_false, List.getElem?_cons_zero, List.set_cons_zero, List.set_cons_succ]
      refine test_dec (fun hlt => ?_) (fun hlt => ?_)
      · have hlt' : k < parts.length := by omega
        have hkp : parts[k]? = some parts[k] := List.getElem?_eq_getElem hlt'
        generalize parts[k] = p at hkp
        obtain ⟨l, j, hia, hll, hrow⟩ := hs.at (m := k) (row := sRow p) (by rw [List.getElem?_map, hkp]; rfl) .i64
        have hc := cellO_row hrow
        unfold sRow at hc
        simp only [i3, i4, hlen, hia, hc, go_sem, Hold.p, HoldK.k, HoldL.K, HoldL.body, Nat.reduceBEq, Nat.reduceAdd, List.getElem?_cons_zero, List.getElem?_cons_succ, Option.bind_some, List.map_cons, List.map_nil, Nat.zero_add, if_true, List.getD_cons_zero, List.getD_cons_succ, List.contains_cons, List.contains_nil, Nat.reduceBEq, Bool.or_true, Bool.true_or, Bool.or_false, Bool.false_or, Bool.not_true, Bool.not_false, true_and, and_true, rowA_whole, push_n, set_n, push_obj, set_obj, set_push, set_push_ne, set_set, Nat.add_assoc, Nat.left_eq_add, Nat.add_eq_left, Nat.add_left_cancel_iff, Nat.reduceEqDiff, stO_1s, stO_ws, boxA_s, one_bool, one_int, one_str, one_ptr, one_nilptr, one_slice, one_eslice, one_nilslice, one_func, one_iface, one_niliface, List.all_cons, List.all_nil, List.length_cons, List.length_nil, Nat.reduceLT, Nat.reduceEqDiff, Nat.reduceLeDiff, Bool.and_true, Nat.one_ne_zero, Nat.succ_ne_zero, reduceIte, if_false, List.getElem?_cons_zero, List.set_cons_zero, List.set_cons_succ]
        refine callA_of (l19Label_c _ p) ?_
        rintro r h2 ⟨rfl, rfl⟩
        cases hok : okLabel p
        · simp only [i3, i4, go_sem, Hold.p, HoldK.k, HoldL.K, HoldL.body, Nat.reduceBEq, Nat.reduceAdd, List.getElem?_cons_zero, List.getElem?_cons_succ, Option.bind_some, List.map_cons, List.map_nil, Nat.zero_add, if_true, List.getD_cons_zero, List.getD_cons_succ, List.contains_cons, List.contains_nil, Nat.reduceBEq, Bool.or_true, Bool.true_or, Bool.or_false, Bool.false_or, Bool.not_true, Bool.not_false, true_and, and_true, rowA_whole, push_n, set_n, push_obj, set_obj, set_push, set_push_ne, set_set, Nat.add_assoc, Nat.left_eq_add, Nat.add_eq_left, Nat.add_left_cancel_iff, Nat.reduceEqDiff, stO_1s, stO_ws, boxA_s, one_bool, one_int, one_str, one_ptr, one_nilptr, one_slice, one_eslice, one_nilslice, one_func, one_iface, one_niliface, List.all_cons, List.all_nil, List.length_cons, List.length_nil, Nat.reduceLT, Nat.reduceEqDiff, Nat.reduceLeDiff, Bool.and_true, Nat.one_ne_zero, Nat.succ_ne_zero, reduceIte, if_false, List.getElem?_cons_zero, List.set_cons_zero, List.set_cons_succ]
          exact ⟨by rw [not_all hkp hok], hE⟩
        · simp only [i3, i4, go_sem, Hold.p, HoldK.k, HoldL.K, HoldL.body, Nat.reduceBEq, Nat.reduceAdd, List.getElem?_cons_zero, List.getElem?_cons_succ, Option.bind_some, List.map_cons, List.map_nil, Nat.zero_add, if_true, List.getD_cons_zero, List.getD_cons_succ, List.contains_cons, List.contains_nil, Nat.reduceBEq, Bool.or_true, Bool.true_or, Bool.or_false, Bool.false_or, Bool.not_true, Bool.not_false, true_and, and_true, rowA_whole, push_n, set_n, push_obj, set_obj, set_push, set_push_ne, set_set, Nat.add_assoc, Nat.left_eq_add, Nat.add_eq_left, Nat.add_left_cancel_iff, Nat.reduceEqDiff, stO_1s, stO_ws, boxA_s, one_bool, one_int, one_str, one_ptr, one_nilptr, one_slice, one_eslice, one_nilslice, one_func, one_iface, one_niliface, List.all_cons, List.all_nil, List.length_cons, List.length_nil, Nat.reduceLT, Nat.reduceEqDiff, Nat.reduceLeDiff, Bool.and_true, Nat.one_ne_zero, Nat.succ_ne_zero, reduceIte, if_false, List.getElem?_cons_zero, List.set_cons_zero, List.set_cons_succ]
          exact ⟨_, by omega, k + 1, rfl, by omega, wr64_succ k (by omega), by rw [take_all hkp hall, hok]⟩
      · obtain rfl : k = parts.length := by omega
        rw [List.take_length] at hall
        simp only [go_sem, Hold.p, HoldK.k, HoldL.K, HoldL.body, Nat.reduceBEq, Nat.reduceAdd, List.getElem?_cons_zero, List.getElem?_cons_succ, Option.bind_some, List.map_cons, List.map_nil, Nat.zero_add, if_true, List.getD_cons_zero, List.getD_cons_succ, List.contains_cons, List.contains_nil, Nat.reduceBEq, Bool.or_true, Bool.true_or, Bool.or_false, Bool.false_or, Bool.not_true, Bool.not_false, true_and, and_true, rowA_whole, push_n, set_n, push_obj, set_obj, set_push, set_push_ne, set_set, Nat.add_assoc, Nat.left_eq_add, Nat.add_eq_left, Nat.add_left_cancel_iff, Nat.reduceEqDiff, stO_1s, stO_ws, boxA_s, one_bool, one_int, one_str, one_ptr, one_nilptr, one_slice, one_eslice, one_nilslice, one_func, one_iface, one_niliface, List.all_cons, List.all_nil, List.length_cons, List.length_nil, Nat.reduceLT, Nat.reduceEqDiff, Nat.reduceLeDiff, Bool.and_true, Nat.one_ne_zero, Nat.succ_ne_zero, reduceIte, if_false, List.getElem?_cons_zero, List.set_cons_zero, List.set_cons_succ]
        exact ⟨by rw [hall], hE⟩

set_option maxRecDepth 20000 in
theorem implNameOK_c (h : IH) (s : List UInt8) (hm : s.length ≤ 1048576) : ICalls Tryd.prog 13 [.str s] h fun r h' => r = .bool (okName s) ∧ Ext h h' := by
  refine icalls (.of ok13) (Nat.le_of_ble_eq_true rfl) ?_
  unfold c13
  by_cases c0 : s.length < 1
  · have d0 : decide ((s.length : Int) < 1) = true := decide_eq_true (by omega)
    have hs0 : s = [] := List.length_eq_zero_iff.1 (by omega)
    simp only [d0, go_sem, Hold.p, HoldK.k, HoldL.K, HoldL.body, Nat.reduceBEq, Nat.reduceAdd, List.getElem?_cons_zero, List.getElem?_cons_succ, Option.bind_some, List.map_cons, List.map_nil, Nat.zero_add, if_true, List.getD_cons_zero, List.getD_cons_succ, List.contains_cons, List.contains_nil, Nat.reduceBEq, Bool.or_true, Bool.true_or, Bool.or_false, Bool.false_or, Bool.not_true, Bool.not_false, true_and, and_true, rowA_whole, push_n, set_n, push_obj, set_obj, set_push, set_push_ne, set_set, Nat.add_assoc, Nat.left_eq_add, Nat.add_eq_left, Nat.add_left_cancel_iff, Nat.reduceEqDiff, stO_1s, stO_ws, boxA_s, one_bool, one_int, one_str, one_ptr, one_nilptr, one_slice, one_eslice, one_nilslice, one_func, one_iface, one_niliface, List.all_cons, List.all_nil, List.length_cons, List.length_nil, Nat.reduceLT, Nat.reduceEqDiff, Nat.reduceLeDiff, Bool.and_true, Nat.one_ne_zero, Nat.succ_ne_zero, reduceIte, if_false, List.getElem?_cons_zero, List.set_cons_zero, List.set_cons_succ]
    exact ⟨by rw [hs0]; rfl, Ext.refl _⟩
  · have d0 : decide ((s.length : Int) < 1) = false := decide_eq_false (by omega)
    by_cases c1 : 63 < s.length
    · have d1 : decide (63 < (s.length : Int)) = true := decide_eq_true (by omega)
      simp only [d0, d1, go_sem, Hold.p, HoldK.k, HoldL.K, HoldL.body, Nat.reduceBEq, Nat.reduceAdd, List.getElem?_cons_zero, List.getElem?_cons_succ, Option.bind_some, List.map_cons, List.map_nil, Nat.zero_add, if_true, List.getD_cons_zero, List.getD_cons_succ, List.contains_cons, List.contains_nil, Nat.reduceBEq, Bool.or_true, Bool.true_or, Bool.or_false, Bool.false_or, Bool.not_true, Bool.not_false, true_and, and_true, rowA_whole, push_n, set_n, push_obj, set_obj, set_push, set_push_ne, set_set, Nat.add_assoc, Nat.left_eq_add, Nat.add_eq_left, Nat.add_left_cancel_iff, Nat.reduceEqDiff, stO_1s, stO_ws, boxA_s, one_bool, one_int, one_str, one_ptr, one_nilptr, one_slice, one_eslice, one_nilslice, one_func, one_iface, one_niliface, List.all_cons, List.all_nil, List.length_cons, List.length_nil, Nat.reduceLT, Nat.reduceEqDiff, Nat.reduceLeDiff, Bool.and_true, Nat.one_ne_zero, Nat.succ_ne_zero, reduceIte, if_false, List.getElem?_cons_zero, List.set_cons_zero, List.set_cons_succ]
      have : decide (s.length ≤ 63) = false := decide_eq_false (by omega)
      exact ⟨by unfold okName; rw [this]; rfl, Ext.refl _⟩
    · have d1 : decide (63 < (s.length : Int)) = false := decide_eq_false (by omega)
      have hdef : okName s = (cutAt 46 s).all okLabel := by
        have : decide (s.length ≤ 63) = true := decide_eq_true (by omega)
        unfold okName; rw [this]; rfl
      rw [hdef]
      simp only [d0, d1, go_sem, Hold.p, HoldK.k, HoldL.K, HoldL.body, Nat.reduceBEq, Nat.reduceAdd, List.getElem?_cons_zero, List.getElem?_cons_succ, Option.bind_some, List.map_cons, List.map_nil, Nat.zero_add, if_true, List.getD_cons_zero, List.getD_cons_succ, List.contains_cons, List.contains_nil, Nat.reduceBEq, Bool.or_true, Bool.true_or, Bool.or_false, Bool.false_or, Bool.not_true, Bool.not_false, true_and, and_true, rowA_whole, push_n, set_n, push_obj, set_obj, set_push, set_push_ne, set_set, Nat.add_assoc, Nat.left_eq_add, Nat.add_eq_left, Nat.add_left_cancel_iff, Nat.reduceEqDiff, stO_1s, stO_ws, boxA_s, one_bool, one_int, one_str, one_ptr, one_nilptr, one_slice, one_eslice, one_nilslice, one_func, one_iface, one_niliface, List.all_cons, List.all_nil, List.length_cons, List.length_nil, Nat.reduceLT, Nat.reduceEqDiff, Nat.reduceLeDiff, Bool.and_true, Nat.one_ne_zero, Nat.succ_ne_zero, reduceIte, if_false, List.getElem?_cons_zero, List.set_cons_zero, List.set_cons_succ]
      refine callA_of (split_c h s 46 hm) ?_
      rintro v h1 ⟨hs, hE⟩
      have hlen := hs.lenF
      rw [List.length_map] at hlen
      simp only [hlen, go_sem, Hold.p, HoldK.k, HoldL.K, HoldL.body, Nat.reduceBEq, Nat.reduceAdd, List.getElem?_cons_zero, List.getElem?_cons_succ, Option.bind_some, List.map_cons, List.map_nil, Nat.zero_add, if_true, List.getD_cons_zero, List.getD_cons_succ, List.contains_cons, List.contains_nil, Nat.reduceBEq, Bool.or_true, Bool.true_or, Bool.or_false, Bool.false_or, Bool.not_true, Bool.not_false, true_and, and_true, rowA_whole, push_n, set_n, push_obj, set_obj, set_push, set_push_ne, set_set, Nat.add_assoc, Nat.left_eq_add, Nat.add_eq_left, Nat.add_left_cancel_iff, Nat.reduceEqDiff, stO_1s, stO_ws, boxA_s, one_bool, one_int, one_str, one_ptr, one_nilptr, one_slice, one_eslice, one_nilslice, one_func, one_iface, one_niliface, List.all_cons, List.all_nil, List.length_cons, List.length_nil, Nat.reduceLT, Nat.reduceEqDiff, Nat.reduceLeDiff, Bool.and_true, Nat.one_ne_zero, Nat.succ_ne_zero, reduceIte, if_false, List.getElem?_cons_zero, List.set_cons_zero, List.set_cons_succ]
      have hpl : (cutAt 46 s).length ≤ 1048577 := by rw [cutAt_len]; have := count_le_len 46 s; omega
      generalize cutAt 46 s = parts at hs hlen hpl
      refine loop_at (fun n e h' => ∃ k, n = parts.length - k ∧ k ≤ parts.length ∧ e 16 = v ∧ e 17 = .int .i64 (parts.length : Nat) ∧ e 18 = .int .i64 (k : Nat) ∧ Ext h1 h' ∧ (parts.take k).all okLabel = true) parts.length ?_ ?_
      · refine ⟨0, by omega, by omega, ?_⟩
        simp only [go_sem, Hold.p, HoldK.k, HoldL.K, HoldL.body, Nat.reduceBEq, Nat.reduceAdd, List.getElem?_cons_zero, List.getElem?_cons_succ, Option.bind_some, List.map_cons, List.map_nil, Nat.zero_add, if_true, List.getD_cons_zero, List.getD_cons_succ, List.contains_cons, List.contains_nil, Nat.reduceBEq, Bool.or_true, Bool.true_or, Bool.or_false, Bool.false_or, Bool.not_true, Bool.not_false, true_and, and_true, rowA_whole, push_n, set_n, push_obj, set_obj, set_push, set_push_ne, set_set, Nat.add_assoc, Nat.left_eq_add, Nat.add_eq_left, Nat.add_left_cancel_iff, Nat.reduceEqDiff, stO_1s, stO_ws, boxA_s, one_bool, one_int, one_str, one_ptr, one_nilptr, one_slice, one_eslice, one_nilslice, one_func, one_iface, one_niliface, List.all_cons, List.all_nil, List.length_cons, List.length_nil, Nat.reduceLT, Nat.reduceEqDiff, Nat.reduceLeDiff, Bool.and_true, Nat.one_ne_zero, Nat.succ_ne_zero, reduceIte, if_false, List.getElem?_cons_zero, List.set_cons_zero, List.set_cons_succ]
        exact ⟨rfl, Ext.refl _, by simp⟩
      · rintro n e h' ⟨k, rfl, hk, i16, i17, i18, E, hall⟩
        simp only [i16, i17, i18, go_sem, Hold.p, HoldK.k, HoldL.K, HoldL.body, Nat.reduceBEq, Nat.reduceAdd, List.getElem?_cons_zero, List.getElem?_cons_succ, Option.bind_some, List.map_cons, List.map_nil, Nat.zero_add, if_true, List.getD_cons_zero, List.getD_cons_succ, List.contains_cons, List.contains_nil, Nat.reduceBEq, Bool.or_true, Bool.true_or, Bool.or_false, Bool.false_or, Bool.not_true, Bool.not_false, true_and, and_true, rowA_whole, push_n, set_n, push_obj, set_obj, set_push, set_push_ne, set_set, Nat.add_assoc, Nat.left_eq_add, Nat.add_eq_left, Nat.add_left_cancel_iff, Nat.reduceEqDiff, stO_1s, stO_ws, boxA_s, one_bool, one_int, one_str, one_ptr, one_nilptr, one_slice, one_eslice, one_nilslice, one_func, one_iface, one_niliface, List.all_cons, List.all_nil, List.length_cons, List.length_nil, Nat.reduceLT, Nat.reduceEqDiff, Nat.reduceLeDiff, Bool.and_true, Nat.one_ne_zero, Nat.succ_ne_zero, reduceIte, if_false, List.getElem?_cons_zero, List.set_cons_zero, List.set_cons_succ]
        refine test_dec (fun hlt => ?_) (fun hlt => ?_)
        · have hlt' : k < parts.length := by omega
          have hkp : parts[k]? = some parts[k] := List.getElem?_eq_getElem hlt'
          generalize parts[k] = p at hkp
          obtain ⟨l, j, hia, hll, hrow⟩ := (hs.ext E).at (m := k) (row := sRow p) (by rw [List.getElem?_map, hkp]; rfl) .i64
          have hc := cellO_row hrow
          unfold sRow at hc
          by_cases c2 : p.length < 1
          · have d2 : decide ((p.length : Int) < 1) = true := decide_eq_true (by omega)
            simp only [i16, i17, i18, hia, hc, d2, go_sem, Hold.p, HoldK.k, HoldL.K, HoldL.body, Nat.reduceBEq, Nat.reduceAdd, List.getElem?_cons_zero, List.getElem?_cons_succ, Option.bind_some, List.map_cons, List.map_nil, Nat.zero_add, if_true, List.getD_cons_zero, List.getD_cons_succ, List.contains_cons, List.contains_nil, Nat.reduceBEq, Bool.or_true, Bool.true_or, Bool.or_false, Bool.false_or, Bool.not_true, Bool.not_false, true_and, and_true, rowA_whole, push_n, set_n, push_obj, set_obj, set_push, set_push_ne, set_set, Nat.add_assoc, Nat.left_eq_add, Nat.add_eq_left, Nat.add_left_cancel_iff, Nat.reduceEqDiff, stO_1s, stO_ws, boxA_s, one_bool, one_int, one_str, one_ptr, one_nilptr, one_slice, one_eslice, one_nilslice, one_func, one_iface, one_niliface, List.all_cons, List.all_nil, List.length_cons, List.length_nil, Nat.reduceLT, Nat.reduceEqDiff, Nat.reduceLeDiff, Bool.and_true, Nat.one_ne_zero, Nat.succ_ne_zero, reduceIte, if_false, List.getElem?_cons_zero, List.set_cons_zero, List.set_cons_succ]
            exact ⟨by rw [not_all hkp (label_short (.inl c2))], hE.trans E⟩
          · have d2 : decide ((p.length : Int) < 1) = false := decide_eq_false (by omega)
            by_cases c3 : 20 < p.length
            · have d3 : decide (20 < (p.length : Int)) = true := decide_eq_true (by omega)
              simp only [i16, i17, i18, hia, hc, d2, d3, go_sem, Hold.p, HoldK.k, HoldL.K, HoldL.body, Nat.reduceBEq, Nat.reduceAdd, List.getElem?_cons_zero, List.getElem?_cons_succ, Option.bind_some, List.map_cons, List.map_nil, Nat.zero_add, if_true, List.getD_cons_zero, List.getD_cons_succ, List.contains_cons, List.contains_nil, Nat.reduceBEq, Bool.or_true, Bool.true_or, Bool.or_false, Bool.false_or, Bool.not_true, Bool.not_false, true_and, and_true, rowA_whole, push_n, set_n, push_obj, set_obj, set_push, set_push_ne, set_set, Nat.add_assoc, Nat.left_eq_add, Nat.add_eq_left, Nat.add_left_cancel_iff, Nat.reduceEqDiff, stO_1s, stO_ws, boxA_s, one_bool, one_int, one_str, one_ptr, one_nilptr, one_slice, one_eslice, one_nilslice, one_func, one_iface, one_niliface, List.all_cons, List.all_nil, List.length_cons, List.length_nil, Nat.reduceLT, Nat.reduceEqDiff, Nat.reduceLeDiff, Bool.and_true, Nat.one_ne_zero, Nat.succ_ne_zero, reduceIte, if_false, List.getElem?_cons_zero, List.set_cons_zero, List.set_cons_succ]
              exact ⟨by rw [not_all hkp (label_short (.inr c3))], hE.trans E⟩
            · have d3 : decide (20 < (p.length : Int)) = false := decide_eq_false (by omega)
              have hlab := label_long c2 c3
              have g0 : p[0]? = some (p.getD 0 0) := by rw [List.getD_eq_getElem?_getD, List.getElem?_eq_getElem (by omega)]; rfl
              have g1 : p[p.length - 1]? = some (p.getD (p.length - 1) 0) := by rw [List.getD_eq_getElem?_getD, List.getElem?_eq_getElem (by omega)]; rfl
              have x0 : idxSF (.str p) (.int .i64 0) = some (.int .u8 (p.getD 0 0).toNat) := by simpa using idxS_at (q := .i64) g0
              have w1 : wr .i64 ((p.length : Int) - 1) = ((p.length - 1 : Nat) : Int) := by rw [wr64 _ (by omega)]; omega
              have x1 := idxS_at (q := .i64) g1
              unfold ends at hlab
              have bad : ((!(decide (((p.getD 0 0).toNat : Int) = 45) || decide (((p.getD (p.length - 1) 0).toNat : Int) = 45))) && p.all okC) = false → parts.all okLabel = false := fun hx => not_all hkp (hlab.trans hx)
              cases d4 : decide (((p.getD 0 0).toNat : Int) = 45)
              · cases d5 : decide (((p.getD (p.length - 1) 0).toNat : Int) = 45)
                · rw [d4, d5] at hlab bad
                  have hpne : p ≠ [] := fun h0 => c2 (by rw [h0]; decide)
                  simp only [i16, i17, i18, hia, hc, d2, d3, x0, w1, x1, d4, d5, go_sem, Hold.p, HoldK.k, HoldL.K, HoldL.body, Nat.reduceBEq, Nat.reduceAdd, List.getElem?_cons_zero, List.getElem?_cons_succ, Option.bind_some, List.map_cons, List.map_nil, Nat.zero_add, if_true, List.getD_cons_zero, List.getD_cons_succ, List.contains_cons, List.contains_nil, Nat.reduceBEq, Bool.or_true, Bool.true_or, Bool.or_false, Bool.false_or, Bool.not_true, Bool.not_false, true_and, and_true, rowA_whole, push_n, set_n, push_obj, set_obj, set_push, set_push_ne, set_set, Nat.add_assoc, Nat.left_eq_add, Nat.add_eq_left, Nat.add_left_cancel_iff, Nat.reduceEqDiff, stO_1s, stO_ws, boxA_s, one_bool, one_int, one_str, one_ptr, one_nilptr, one_slice, one_eslice, one_nilslice, one_func, one_iface, one_niliface, List.all_cons, List.all_nil, List.length_cons, List.length_nil, Nat.reduceLT, Nat.reduceEqDiff, Nat.reduceLeDiff, Bool.and_true, Nat.one_ne_zero, Nat.succ_ne_zero, reduceIte, if_false, List.getElem?_cons_zero, List.set_cons_zero, List.set_cons_succ]
                  unfold s2bA
                  simp only [if_neg hpne]
                  refine ⟨by omega, ?_⟩
                  simp only [i16, i17, i18, go_sem, Hold.p, HoldK.k, HoldL.K, HoldL.body, Nat.reduceBEq, Nat.reduceAdd, List.getElem?_cons_zero, List.getElem?_cons_succ, Option.bind_some, List.map_cons, List.map_nil, Nat.zero_add, if_true, List.getD_cons_zero, List.getD_cons_succ, List.contains_cons, List.contains_nil, Nat.reduceBEq, Bool.or_true, Bool.true_or, Bool.or_false, Bool.false_or, Bool.not_true, Bool.not_false, true_and, and_true, rowA_whole, push_n, set_n, push_obj, set_obj, set_push, set_push_ne, set_set, Nat.add_assoc, Nat.left_eq_add, Nat.add_eq_left, Nat.add_left_cancel_iff, Nat.reduceEqDiff, stO_1s, stO_ws, boxA_s, one_bool, one_int, one_str, one_ptr, one_nilptr, one_slice, one_eslice, one_nilslice, one_func, one_iface, one_niliface, List.all_cons, List.all_nil, List.length_cons, List.length_nil, Nat.reduceLT, Nat.reduceEqDiff, Nat.reduceLeDiff, Bool.and_true, Nat.one_ne_zero, Nat.succ_ne_zero, reduceIte, if_false, List.getElem?_cons_zero, List.set_cons_zero, List.set_cons_succ]
                  generalize hq_g0 : IH.push h' (IObj.rows (strRows p) 5 1 false) = g0
                  have e_g0 : Ext h' g0 := by rw [← hq_g0]; exact (Ext.refl _).push _
                  have l_g0 : g0.n = h'.n + 1 := by rw [← hq_g0]; rfl
                  have ba : At g0 h'.n (IObj.rows (strRows p) 5 1 false) := by rw [← hq_g0]; exact At.new _ _
                  clear hq_g0
                  have hsl : SlR g0 1 (.slice h'.n 0 p.length) (strRows p) := SlR.whole ba.eq (by simp [strRows]) ba.lt
                  refine loop_at (fun n e g => ∃ i, n = p.length - i ∧ i ≤ p.length ∧ e 16 = v ∧ e 17 = .int .i64 (parts.length : Nat) ∧ e 18 = .int .i64 (k : Nat) ∧ e 44 = .slice h'.n 0 p.length ∧ e 45 = .int .i64 (p.length : Nat) ∧ e 46 = .int .i64 (i : Nat) ∧ g = g0 ∧ (p.take i).all okC = true) p.length ?_ ?_
                  · refine ⟨0, by omega, by omega, ?_⟩
                    simp only [i16, i17, i18, go_sem, Hold.p, HoldK.k, HoldL.K, HoldL.body, Nat.reduceBEq, Nat.reduceAdd, List.getElem?_cons_zero, List.getElem?_cons_succ, Option.bind_some, List.map_cons, List.map_nil, Nat.zero_add, if_true, List.getD_cons_zero, List.getD_cons_succ, List.contains_cons, List.contains_nil, Nat.reduceBEq, Bool.or_true, Bool.true_or, Bool.or_false, Bool.false_or, Bool.not_true, Bool.not_false, true_and, and_true, rowA_whole, push_n, set_n, push_obj, set_obj, set_push, set_push_ne, set_set, Nat.add_assoc, Nat.left_eq_add, Nat.add_eq_left, Nat.add_left_cancel_iff, Nat.reduceEqDiff, stO_1s, stO_ws, boxA_s, one_bool, one_int, one_str, one_ptr, one_nilptr, one_slice, one_eslice, one_nilslice, one_func, one_iface, one_niliface, List.all_cons, List.all_nil, List.length_cons, List.length_nil, Nat.reduceLT, Nat.reduceEqDiff, Nat.reduceLeDiff, Bool.and_true, Nat.one_ne_zero, Nat.succ_ne_zero, reduceIte, if_false, List.getElem?_cons_zero, List.set_cons_zero, List.set_cons_succ]
                    exact ⟨rfl, by simp⟩
                  · rintro n e g ⟨i, rfl, hi, i16, i17, i18, i44, i45, i46, rfl, hal2⟩
                    simp only [i16, i17, i18, i44, i45, i46, go_sem, Hold.p, HoldK.k, HoldL.K, HoldL.body, Nat.reduceBEq, Nat.reduceAdd, List.getElem?_cons_zero, List.getElem?_cons_succ, Option.bind_some, List.map_cons, List.map_nil, Nat.zero_add, if_true, List.getD_cons_zero, List.getD_cons_succ, List.contains_cons, List.contains_nil, Nat.reduceBEq, Bool.or_true, Bool.true_or, Bool.or_false, Bool.false_or, Bool.not_true, Bool.not_false, true_and, and_true, rowA_whole, push_n, set_n, push_obj, set_obj, set_push, set_push_ne, set_set, Nat.add_assoc, Nat.left_eq_add, Nat.add_eq_left, Nat.add_left_cancel_iff, Nat.reduceEqDiff, stO_1s, stO_ws, boxA_s, one_bool, one_int, one_str, one_ptr, one_nilptr, one_slice, one_eslice, one_nilslice, one_func, one_iface, one_niliface, List.all_cons, List.all_nil, List.length_cons, List.length_nil, Nat.reduceLT, Nat.reduceEqDiff, Nat.reduceLeDiff, Bool.and_true, Nat.one_ne_zero, Nat.succ_ne_zero, reduceIte, if_false, List.getElem?_cons_zero, List.set_cons_zero, List.set_cons_succ]
                    refine test_dec (fun hlt2 => ?_) (fun hlt2 => ?_)
                    · have hlt2' : i < p.length := by omega
                      have hip : p[i]? = some p[i] := List.getElem?_eq_getElem hlt2'
                      generalize p[i] = b at hip
                      obtain ⟨l2, j2, hia2, hll2, hrow2⟩ := hsl.at (m := i) (row := [.int .u8 b.toNat]) (by unfold strRows; rw [List.getElem?_map, hip]; rfl) .i64
                      have hc2 := cellO_row hrow2
                      rcases class6 b with hc | hc | hc | hc | hc | hc
                      · have q1 : decide (97 ≤ (b.toNat : Int)) = false := decide_eq_false (by omega)
                        have q2 : decide ((b.toNat : Int) ≤ 122) = true := decide_eq_true (by omega)
                        have q3 : decide (48 ≤ (b.toNat : Int)) = false := decide_eq_false (by omega)
                        have q4 : decide ((b.toNat : Int) ≤ 57) = true := decide_eq_true (by omega)
                        have q5 : decide ((b.toNat : Int) = 45) = true := decide_eq_true (by omega)
                        have hok : okC b = true := by unfold okC; simp; omega
                        simp only [i16, i17, i18, i44, i45, i46, hia2, hc2, q1, q2, q3, q4, q5, go_sem, Hold.p, HoldK.k, HoldL.K, HoldL.body, Nat.reduceBEq, Nat.reduceAdd, List.getElem?_cons_zero, List.getElem?_cons_succ, Option.bind_some, List.map_cons, List.map_nil, Nat.zero_add, if_true, List.getD_cons_zero, List.getD_cons_succ, List.contains_cons, List.contains_nil, Nat.reduceBEq, Bool.or_true, Bool.true_or, Bool.or_false, Bool.false_or, Bool.not_true, Bool.not_false, true_and, and_true, rowA_whole, push_n, set_n, push_obj, set_obj, set_push, set_push_ne, set_set, Nat.add_assoc, Nat.left_eq_add, Nat.add_eq_left, Nat.add_left_cancel_iff, Nat.reduceEqDiff, stO_1s, stO_ws, boxA_s, one_bool, one_int, one_str, one_ptr, one_nilptr, one_slice, one_eslice, one_nilslice, one_func, one_iface, one_niliface, List.all_cons, List.all_nil, List.length_cons, List.length_nil, Nat.reduceLT, Nat.reduceEqDiff, Nat.reduceLeDiff, Bool.and_true, Nat.one_ne_zero, Nat.succ_ne_zero, reduceIte, if_false, List.getElem?_cons_zero, List.set_cons_zero, List.set_cons_succ]
                        exact ⟨_, by omega, i + 1, rfl, by omega, wr64_succ i (by omega), by rw [take_all hip hal2, hok]⟩
                      · have q1 : decide (97 ≤ (b.toNat : Int)) = false := decide_eq_false (by omega)
                        have q2 : decide ((b.toNat : Int) ≤ 122) = true := decide_eq_true (by omega)
                        have q3 : decide (48 ≤ (b.toNat : Int)) = false := decide_eq_false (by omega)
                        have q4 : decide ((b.toNat : Int) ≤ 57) = true := decide_eq_true (by omega)
                        have q5 : decide ((b.toNat : Int) = 45) = false := decide_eq_false (by omega)
                        have hok : okC b = false := by unfold okC; simp; omega
                        simp only [i16, i17, i18, i44, i45, i46, hia2, hc2, q1, q2, q3, q4, q5, go_sem, Hold.p, HoldK.k, HoldL.K, HoldL.body, Nat.reduceBEq, Nat.reduceAdd, List.getElem?_cons_zero, List.getElem?_cons_succ, Option.bind_some, List.map_cons, List.map_nil, Nat.zero_add, if_true, List.getD_cons_zero, List.getD_cons_succ, List.contains_cons, List.contains_nil, Nat.reduceBEq, Bool.or_true, Bool.true_or, Bool.or_false, Bool.false_or, Bool.not_true, Bool.not_false, true_and, and_true, rowA_whole, push_n, set_n, push_obj, set_obj, set_push, set_push_ne, set_set, Nat.add_assoc, Nat.left_eq_add, Nat.add_eq_left, Nat.add_left_cancel_iff, Nat.reduceEqDiff, stO_1s, stO_ws, boxA_s, one_bool, one_int, one_str, one_ptr, one_nilptr, one_slice, one_eslice, one_nilslice, one_func, one_iface, one_niliface, List.all_cons, List.all_nil, List.length_cons, List.length_nil, Nat.reduceLT, Nat.reduceEqDiff, Nat.reduceLeDiff, Bool.and_true, Nat.one_ne_zero, Nat.succ_ne_zero, reduceIte, if_false, List.getElem?_cons_zero, List.set_cons_zero, List.set_cons_succ]
                        exact ⟨by rw [bad (by rw [not_all hip hok]; rfl)], hE.trans (E.trans e_g0)⟩
                      · have q1 : decide (97 ≤ (b.toNat : Int)) = false := decide_eq_false (by omega)
                        have q2 : decide ((b.toNat : Int) ≤ 122) = true := decide_eq_true (by omega)
                        have q3 : decide (48 ≤ (b.toNat : Int)) = true := decide_eq_true (by omega)
                        have q4 : decide ((b.toNat : Int) ≤ 57) = true := decide_eq_true (by omega)
                        have q5 : decide ((b.toNat : Int) = 45) = false := decide_eq_false (by omega)
                        have hok : okC b = true := by unfold okC; simp; omega
                        simp only [i16, i17, i18, i44, i45, i46, hia2, hc2, q1, q2, q3, q4, q5, go_sem, Hold.p, HoldK.k, HoldL.K, HoldL.body, Nat.reduceBEq, Nat.reduceAdd, List.getElem?_cons_zero, List.getElem?_cons_succ, Option.bind_some, List.map_cons, List.map_nil, Nat.zero_add, if_true, List.getD_cons_zero, List.getD_cons_succ, List.contains_cons, List.contains_nil, Nat.reduceBEq, Bool.or_true, Bool.true_or, Bool.or_false, Bool.false_or, Bool.not_true, Bool.not_false, true_and, and_true, rowA_whole, push_n, set_n, push_obj, set_obj, set_push, set_push_ne, set_set, Nat.add_assoc, Nat.left_eq_add, Nat.add_eq_left, Nat.add_left_cancel_iff, Nat.reduceEqDiff, stO_1s, stO_ws, boxA_s, one_bool, one_int, one_str, one_ptr, one_nilptr, one_slice, one_eslice, one_nilslice, one_func, one_iface, one_niliface, List.all_cons, List.all_nil, List.length_cons, List.length_nil, Nat.reduceLT, Nat.reduceEqDiff, Nat.reduceLeDiff, Bool.and_true, Nat.one_ne_zero, Nat.succ_ne_zero, reduceIte, if_false, List.getElem?_cons_zero, List.set_cons_zero, List.set_cons_succ]
                        exact ⟨_, by omega, i + 1, rfl, by omega, wr64_succ i (by omega), by rw [take_all hip hal2, hok]⟩
                      · have q1 : decide (97 ≤ (b.toNat : Int)) = false := decide_eq_false (by omega)
                        have q2 : decide ((b.toNat : Int) ≤ 122) = true := decide_eq_true (by omega)
                        have q3 : decide (48 ≤ (b.toNat : Int)) = true := decide_eq_true (by omega)
                        have q4 : decide ((b.toNat : Int) ≤ 57) = false := decide_eq_false (by omega)
                        have q5 : decide ((b.toNat : Int) = 45) = false := decide_eq_false (by omega)
                        have hok : okC b = false := by unfold okC; simp; omega
                        simp only [i16, i17, i18, i44, i45, i46, hia2, hc2, q1, q2, q3, q4, q5, go_sem, Hold.p, HoldK.k, HoldL.K, HoldL.body, Nat.reduceBEq, Nat.reduceAdd, List.getElem?_cons_zero, List.getElem?_cons_succ, Option.bind_some, List.map_cons, List.map_nil, Nat.zero_add, if_true, List.getD_cons_zero, List.getD_cons_succ, List.contains_cons, List.contains_nil, Nat.reduceBEq, Bool.or_true, Bool.true_or, Bool.or_false, Bool.false_or, Bool.not_true, Bool.not_false, true_and, and_true, rowA_whole, push_n, set_n, push_obj, set_obj, set_push, set_push_ne, set_set, Nat.add_assoc, Nat.left_eq_add, Nat.add_eq_left, Nat.add_left_cancel_iff, Nat.reduceEqDiff, stO_1s, stO_ws, boxA_s, one_bool, one_int, one_str, one_ptr, one_nilptr, one_slice, one_eslice, one_nilslice, one_func, one_iface, one_niliface, List.all_cons, List.all_nil, List.length_cons, List.length_nil, Nat.reduceLT, Nat.reduceEqDiff, Nat.reduceLeDiff, Bool.and_true, Nat.one_ne_zero, Nat.succ_ne_zero, reduceIte, if_false, List.getElem?_cons_zero, List.set_cons_zero, List.set_cons_succ]
                        exact ⟨by rw [bad (by rw [not_all hip hok]; rfl)], hE.trans (E.trans e_g0)⟩
                      · have q1 : decide (97 ≤ (b.toNat : Int)) = true := decide_eq_true (by omega)
                        have q2 : decide ((b.toNat : Int) ≤ 122) = true := decide_eq_true (by omega)
                        have q3 : decide (48 ≤ (b.toNat : Int)) = true := decide_eq_true (by omega)
                        have q4 : decide ((b.toNat : Int) ≤ 57) = false := decide_eq_false (by omega)
                        have q5 : decide ((b.toNat : Int) = 45) = false := decide_eq_false (by omega)
                        have hok : okC b = true := by unfold okC; simp; omega
                        simp only [i16, i17, i18, i44, i45, i46, hia2, hc2, q1, q2, q3, q4, q5, go_sem, Hold.p, HoldK.k, HoldL.K, HoldL.body, Nat.reduceBEq, Nat.reduceAdd, List.getElem?_cons_zero, List.getElem?_cons_succ, Option.bind_some, List.map_cons, List.map_nil, Nat.zero_add, if_true, List.getD_cons_zero, List.getD_cons_succ, List.contains_cons, List.contains_nil, Nat.reduceBEq, Bool.or_true, Bool.true_or, Bool.or_false, Bool.false_or, Bool.not_true, Bool.not_false, true_and, and_true, rowA_whole, push_n, set_n, push_obj, set_obj, set_push, set_push_ne, set_set, Nat.add_assoc, Nat.left_eq_add, Nat.add_eq_left, Nat.add_left_cancel_iff, Nat.reduceEqDiff, stO_1s, stO_ws, boxA_s, one_bool, one_int, one_str, one_ptr, one_nilptr, one_slice, one_eslice, one_nilslice, one_func, one_iface, one_niliface, List.all_cons, List.all_nil, List.length_cons, List.length_nil, Nat.reduceLT, Nat.reduceEqDiff, Nat.reduceLeDiff, Bool.and_true, Nat.one_ne_zero, Nat.succ_ne_zero, reduceIte, if_false, List.getElem?_cons_zero, List.set_cons_zero, List.set_cons_succ]
                        exact ⟨_, by omega, i + 1, rfl, by omega, wr64_succ i (by omega), by rw [take_all hip hal2, hok]⟩
                      · have q1 : decide (97 ≤ (b.toNat : Int)) = true := decide_eq_true (by omega)
                        have q2 : decide ((b.toNat : Int) ≤ 122) = false := decide_eq_false (by omega)
                        have q3 : decide (48 ≤ (b.toNat : Int)) = true := decide_eq_true (by omega)
                        have q4 : decide ((b.toNat : Int) ≤ 57) = false := decide_eq_false (by omega)
                        have q5 : decide ((b.toNat : Int) = 45) = false := decide_eq_false (by omega)
                        have hok : okC b = false := by unfold okC; simp; omega
                        simp only [i16, i17, i18, i44, i45, i46, hia2, hc2, q1, q2, q3, q4, q5, go_sem, Hold.p, HoldK.k, HoldL.K, HoldL.body, Nat.reduceBEq, Nat.reduceAdd, List.getElem?_cons_zero, List.getElem?_cons_succ, Option.bind_some, List.map_cons, List.map_nil, Nat.zero_add, if_true, List.getD_cons_zero, List.getD_cons_succ, List.contains_cons, List.contains_nil, Nat.reduceBEq, Bool.or_true, Bool.true_or, Bool.or_false, Bool.false_or, Bool.not_true, Bool.not_false, true_and, and_true, rowA_whole, push_n, set_n, push_obj, set_obj, set_push, set_push_ne, set_set, Nat.add_assoc, Nat.left_eq_add, Nat.add_eq_left, Nat.add_left_cancel_iff, Nat.reduceEqDiff, stO_1s, stO_ws, boxA_s, one_bool, one_int, one_str, one_ptr, one_nilptr, one_slice, one_eslice, one_nilslice, one_func, one_iface, one_niliface, List.all_cons, List.all_nil, List.length_cons, List.length_nil, Nat.reduceLT, Nat.reduceEqDiff, Nat.reduceLeDiff, Bool.and_true, Nat.one_ne_zero, Nat.succ_ne_zero, reduceIte, if_false, List.getElem?_cons_zero, List.set_cons_zero, List.set_cons_succ]
                        exact ⟨by rw [bad (by rw [not_all hip hok]; rfl)], hE.trans (E.trans e_g0)⟩
                    · obtain rfl : i = p.length := by omega
                      rw [List.take_length] at hal2
                      rw [hal2] at hlab
                      simp only [i16, i17, i18, go_sem, Hold.p, HoldK.k, HoldL.K, HoldL.body, Nat.reduceBEq, Nat.reduceAdd, List.getElem?_cons_zero, List.getElem?_cons_succ, Option.bind_some, List.map_cons, List.map_nil, Nat.zero_add, if_true, List.getD_cons_zero, List.getD_cons_succ, List.contains_cons, List.contains_nil, Nat.reduceBEq, Bool.or_true, Bool.true_or, Bool.or_false, Bool.false_or, Bool.not_true, Bool.not_false, true_and, and_true, rowA_whole, push_n, set_n, push_obj, set_obj, set_push, set_push_ne, set_set, Nat.add_assoc, Nat.left_eq_add, Nat.add_eq_left, Nat.add_left_cancel_iff, Nat.reduceEqDiff, stO_1s, stO_ws, boxA_s, one_bool, one_int, one_str, one_ptr, one_nilptr, one_slice, one_eslice, one_nilslice, one_func, one_iface, one_niliface, List.all_cons, List.all_nil, List.length_cons, List.length_nil, Nat.reduceLT, Nat.reduceEqDiff, Nat.reduceLeDiff, Bool.and_true, Nat.one_ne_zero, Nat.succ_ne_zero, reduceIte, if_false, List.getElem?_cons_zero, List.set_cons_zero, List.set_cons_succ]
                      exact ⟨_, by omega, k + 1, rfl, by omega, wr64_succ k (by omega), E.trans e_g0, by rw [take_all hkp hall, hlab]; rfl⟩
                · simp only [i16, i17, i18, hia, hc, d2, d3, x0, w1, x1, d4, d5, go_sem, Hold.p, HoldK.k, HoldL.K, HoldL.body, Nat.reduceBEq, Nat.reduceAdd, List.getElem?_cons_zero, List.getElem?_cons_succ, Option.bind_some, List.map_cons, List.map_nil, Nat.zero_add, if_true, List.getD_cons_zero, List.getD_cons_succ, List.contains_cons, List.contains_nil, Nat.reduceBEq, Bool.or_true, Bool.true_or, Bool.or_false, Bool.false_or, Bool.not_true, Bool.not_false, true_and, and_true, rowA_whole, push_n, set_n, push_obj, set_obj, set_push, set_push_ne, set_set, Nat.add_assoc, Nat.left_eq_add, Nat.add_eq_left, Nat.add_left_cancel_iff, Nat.reduceEqDiff, stO_1s, stO_ws, boxA_s, one_bool, one_int, one_str, one_ptr, one_nilptr, one_slice, one_eslice, one_nilslice, one_func, one_iface, one_niliface, List.all_cons, List.all_nil, List.length_cons, List.length_nil, Nat.reduceLT, Nat.reduceEqDiff, Nat.reduceLeDiff, Bool.and_true, Nat.one_ne_zero, Nat.succ_ne_zero, reduceIte, if_false, List.getElem?_cons_zero, List.set_cons_zero, List.set_cons_succ]
                  exact ⟨by rw [bad (by rw [d4, d5]; rfl)], hE.trans E⟩
              · simp only [i16, i17, i18, hia, hc, d2, d3, x0, w1, x1, d4, go_sem, Hold.p, HoldK.k, HoldL.K, HoldL.body, Nat.reduceBEq, Nat.reduceAdd, List.getElem?_cons_zero, List.getElem?_cons_succ, Option.bind_some, List.map_cons, List.map_nil, Nat.zero_add, if_true, List.getD_cons_zero, List.getD_cons_succ, List.contains_cons, List.contains_nil, Nat.reduceBEq, Bool.or_true, Bool.true_or, Bool.or_false, Bool.false_or, Bool.not_true, Bool.not_false, true_and, and_true, rowA_whole, push_n, set_n, push_obj, set_obj, set_push, set_push_ne, set_set, Nat.add_assoc, Nat.left_eq_add, Nat.add_eq_left, Nat.add_left_cancel_iff, Nat.reduceEqDiff, stO_1s, stO_ws, boxA_s, one_bool, one_int, one_str, one_ptr, one_nilptr, one_slice, one_eslice, one_nilslice, one_func, one_iface, one_niliface, List.all_cons, List.all_nil, List.length_cons, List.length_nil, Nat.reduceLT, Nat.reduceEqDiff, Nat.reduceLeDiff, Bool.and_true, Nat.one_ne_zero, Nat.succ_ne_zero, reduceIte, if_false, List.getElem?_cons_zero, List.set_cons_zero, List.set_cons_succ]
                exact ⟨by rw [bad (by rw [d4]; rfl)], hE.trans E⟩
        · obtain rfl : k = parts.length := by omega
          rw [List.take_length] at hall
          simp only [go_sem, Hold.p, HoldK.k, HoldL.K, HoldL.body, Nat.reduceBEq, Nat.reduceAdd, List.getElem?_cons_zero, List.getElem?_cons_succ, Option.bind_some, List.map_cons, List.map_nil, Nat.zero_add, if_true, List.getD_cons_zero, List.getD_cons_succ, List.contains_cons, List.contains_nil, Nat.reduceBEq, Bool.or_true, Bool.true_or, Bool.or_false, Bool.false_or, Bool.not_true, Bool.not_false, true_and, and_true, rowA_whole, push_n, set_n, push_obj, set_obj, set_push, set_push_ne, set_set, Nat.add_assoc, Nat.left_eq_add, Nat.add_eq_left, Nat.add_left_cancel_iff, Nat.reduceEqDiff, stO_1s, stO_ws, boxA_s, one_bool, one_int, one_str, one_ptr, one_nilptr, one_slice, one_eslice, one_nilslice, one_func, one_iface, one_niliface, List.all_cons, List.all_nil, List.length_cons, List.length_nil, Nat.reduceLT, Nat.reduceEqDiff, Nat.reduceLeDiff, Bool.and_true, Nat.one_ne_zero, Nat.succ_ne_zero, reduceIte, if_false, List.getElem?_cons_zero, List.set_cons_zero, List.set_cons_succ]
          exact ⟨by rw [hall], hE.trans E⟩

set_option maxRecDepth 20000 in
theorem lawNameOK : LawTrue Tryd.prog 3 [(.str, false)] := by
  rintro h ivs ha ⟨iv, r, rfl, ⟨s, hs, hm⟩, rfl⟩
  obtain rfl := List.cons.inj hs |>.1
  refine icalls (.of ok3) (Nat.le_of_ble_eq_true rfl) ?_
  unfold c3
  by_cases c1 : 1048576 < s.length
  · have d1 : decide (1048576 < (s.length : Int)) = true := decide_eq_true (by omega)
    simp only [d1, go_sem, Hold.p, HoldK.k, HoldL.K, HoldL.body, Nat.reduceBEq, Nat.reduceAdd, List.getElem?_cons_zero, List.getElem?_cons_succ, Option.bind_some, List.map_cons, List.map_nil, Nat.zero_add, if_true, List.getD_cons_zero, List.getD_cons_succ, List.contains_cons, List.contains_nil, Nat.reduceBEq, Bool.or_true, Bool.true_or, Bool.or_false, Bool.false_or, Bool.not_true, Bool.not_false, true_and, and_true, rowA_whole, push_n, set_n, push_obj, set_obj, set_push, set_push_ne, set_set, Nat.add_assoc, Nat.left_eq_add, Nat.add_eq_left, Nat.add_left_cancel_iff, Nat.reduceEqDiff, stO_1s, stO_ws, boxA_s, one_bool, one_int, one_str, one_ptr, one_nilptr, one_slice, one_eslice, one_nilslice, one_func, one_iface, one_niliface, List.all_cons, List.all_nil, List.length_cons, List.length_nil, Nat.reduceLT, Nat.reduceEqDiff, Nat.reduceLeDiff, Bool.and_true, Nat.one_ne_zero, Nat.succ_ne_zero, reduceIte, if_false, List.getElem?_cons_zero, List.set_cons_zero, List.set_cons_succ]
  · have d1 : decide (1048576 < (s.length : Int)) = false := decide_eq_false (by omega)
    simp only [d1, go_sem, Hold.p, HoldK.k, HoldL.K, HoldL.body, Nat.reduceBEq, Nat.reduceAdd, List.getElem?_cons_zero, List.getElem?_cons_succ, Option.bind_some, List.map_cons, List.map_nil, Nat.zero_add, if_true, List.getD_cons_zero, List.getD_cons_succ, List.contains_cons, List.contains_nil, Nat.reduceBEq, Bool.or_true, Bool.true_or, Bool.or_false, Bool.false_or, Bool.not_true, Bool.not_false, true_and, and_true, rowA_whole, push_n, set_n, push_obj, set_obj, set_push, set_push_ne, set_set, Nat.add_assoc, Nat.left_eq_add, Nat.add_eq_left, Nat.add_left_cancel_iff, Nat.reduceEqDiff, stO_1s, stO_ws, boxA_s, one_bool, one_int, one_str, one_ptr, one_nilptr, one_slice, one_eslice, one_nilslice, one_func, one_iface, one_niliface, List.all_cons, List.all_nil, List.length_cons, List.length_nil, Nat.reduceLT, Nat.reduceEqDiff, Nat.reduceLeDiff, Bool.and_true, Nat.one_ne_zero, Nat.succ_ne_zero, reduceIte, if_false, List.getElem?_cons_zero, List.set_cons_zero, List.set_cons_succ]
    refine callA_of (specNameOK_c h s (by omega)) ?_
    rintro r h1 ⟨rfl, hE1⟩
    simp only [go_sem, Hold.p, HoldK.k, HoldL.K, HoldL.body, Nat.reduceBEq, Nat.reduceAdd, List.getElem?_cons_zero, List.getElem?_cons_succ, Option.bind_some, List.map_cons, List.map_nil, Nat.zero_add, if_true, List.getD_cons_zero, List.getD_cons_succ, List.contains_cons, List.contains_nil, Nat.reduceBEq, Bool.or_true, Bool.true_or, Bool.or_false, Bool.false_or, Bool.not_true, Bool.not_false, true_and, and_true, rowA_whole, push_n, set_n, push_obj, set_obj, set_push, set_push_ne, set_set, Nat.add_assoc, Nat.left_eq_add, Nat.add_eq_left, Nat.add_left_cancel_iff, Nat.reduceEqDiff, stO_1s, stO_ws, boxA_s, one_bool, one_int, one_str, one_ptr, one_nilptr, one_slice, one_eslice, one_nilslice, one_func, one_iface, one_niliface, List.all_cons, List.all_nil, List.length_cons, List.length_nil, Nat.reduceLT, Nat.reduceEqDiff, Nat.reduceLeDiff, Bool.and_true, Nat.one_ne_zero, Nat.succ_ne_zero, reduceIte, if_false, List.getElem?_cons_zero, List.set_cons_zero, List.set_cons_succ]
    refine callA_of (implNameOK_c h1 s (by omega)) ?_
    rintro r h2 ⟨rfl, hE2⟩
    cases okName s <;> simp only [bne_self_eq_false, beq_self_eq_true, go_sem, Hold.p, HoldK.k, HoldL.K, HoldL.body, Nat.reduceBEq, Nat.reduceAdd, List.getElem?_cons_zero, List.getElem?_cons_succ, Option.bind_some, List.map_cons, List.map_nil, Nat.zero_add, if_true, List.getD_cons_zero, List.getD_cons_succ, List.contains_cons, List.contains_nil, Nat.reduceBEq, Bool.or_true, Bool.true_or, Bool.or_false, Bool.false_or, Bool.not_true, Bool.not_false, true_and, and_true, rowA_whole, push_n, set_n, push_obj, set_obj, set_push, set_push_ne, set_set, Nat.add_assoc, Nat.left_eq_add, Nat.add_eq_left, Nat.add_left_cancel_iff, Nat.reduceEqDiff, stO_1s, stO_ws, boxA_s, one_bool, one_int, one_str, one_ptr, one_nilptr, one_slice, one_eslice, one_nilslice, one_func, one_iface, one_niliface, List.all_cons, List.all_nil, List.length_cons, List.length_nil, Nat.reduceLT, Nat.reduceEqDiff, Nat.reduceLeDiff, Bool.and_true, Nat.one_ne_zero, Nat.succ_ne_zero, reduceIte, if_false, List.getElem?_cons_zero, List.set_cons_zero, List.set_cons_succ]
end Go.Proofs.YtcmcfmgabafljaaDoor

namespace Go.Proofs.YtcmcfmgabafljaaDoor
open Go Go.IW

/-! Bytes. -/
theorem wr_u8 (x : Int) : wr .u8 x = ((UInt8.ofNat (x % 256).toNat).toNat : Int) := by
  have h1 : wr .u8 x = x % 256 := by unfold wr; rw [IntKind.wrap_u8]
  rw [h1]
  have h2 : (x % 256).toNat < 256 := by omega
  simp [UInt8.toNat_ofNat']
  omega
/-- The byte of a number at a place. -/
def byteAt (v : Int) (i : Nat) : UInt8 := UInt8.ofNat (v.fdiv (2 ^ (8 * i)) % 256).toNat
def beB : Nat → Int → List UInt8
  | 0, _ => []
  | k + 1, v => byteAt v k :: beB k v
theorem beB_len : ∀ (k : Nat) (v : Int), (beB k v).length = k
  | 0, _ => rfl
  | k + 1, v => by simp [beB, beB_len k v]
theorem strRows_append (a b : List UInt8) : strRows (a ++ b) = strRows a ++ strRows b := by simp [strRows]
theorem strRows_len (a : List UInt8) : (strRows a).length = a.length := by simp [strRows]
theorem strRows_at {a : List UInt8} {k : Nat} {b : UInt8} (h : a[k]? = some b) : (strRows a)[k]? = some [.int .u8 b.toNat] := by
  unfold strRows; rw [List.getElem?_map, h]; rfl

set_option maxRecDepth 20000 in
theorem l03Put_c (h : IH) (v : Int) (w : Nat) (hw : w ≤ 8) : ICalls Tryd.prog 62 [.int .i64 v, .int .i64 w] h fun r h' => Own h.n h'.n h' 5 1 r (strRows (beB w v)) ∧ Ext h h' := by
  refine icalls (.of ok62) (Nat.le_of_ble_eq_true rfl) ?_
  unfold c62
  have w0 : wr .i64 ((w : Int) - 1) = (w : Int) - 1 := wr64 _ (by omega)
  simp only [w0, go_sem, Hold.p, HoldK.k, HoldL.K, HoldL.body, Nat.reduceBEq, Nat.reduceAdd, List.getElem?_cons_zero, List.getElem?_cons_succ, Option.bind_some, List.map_cons, List.map_nil, Nat.zero_add, if_true, List.getD_cons_zero, List.getD_cons_succ, List.contains_cons, List.contains_nil, Nat.reduceBEq, Bool.or_true, Bool.true_or, Bool.or_false, Bool.false_or, Bool.not_true, Bool.not_false, true_and, and_true, rowA_whole, push_n, set_n, push_obj, set_obj, set_push, set_push_ne, set_set, Nat.add_assoc, Nat.left_eq_add, Nat.add_eq_left, Nat.add_left_cancel_iff, Nat.reduceEqDiff, stO_1s, stO_ws, boxA_s, one_bool, one_int, one_str, one_ptr, one_nilptr, one_slice, one_eslice, one_nilslice, one_func, one_iface, one_niliface, List.all_cons, List.all_nil, List.length_cons, List.length_nil, Nat.reduceLT, Nat.reduceEqDiff, Nat.reduceLeDiff, Bool.and_true, Nat.one_ne_zero, Nat.succ_ne_zero, reduceIte, if_false, List.getElem?_cons_zero, List.set_cons_zero, List.set_cons_succ]
  refine loop_at (fun n e g => ∃ (x : IV) (lo hi : Nat) (out : List UInt8), n ≤ w ∧ e 0 = .int .i64 v ∧ e 5 = x ∧ e 6 = .int .i64 ((n : Int) - 1) ∧ Ext h g ∧ h.n ≤ lo ∧ hi ≤ g.n ∧ Own lo hi g 5 1 x (strRows out) ∧ out ++ beB n v = beB w v) w ?_ ?_
  · refine ⟨.eslice true, h.n, h.n, [], Nat.le_refl _, ?_⟩
    simp only [go_sem, Hold.p, HoldK.k, HoldL.K, HoldL.body, Nat.reduceBEq, Nat.reduceAdd, List.getElem?_cons_zero, List.getElem?_cons_succ, Option.bind_some, List.map_cons, List.map_nil, Nat.zero_add, if_true, List.getD_cons_zero, List.getD_cons_succ, List.contains_cons, List.contains_nil, Nat.reduceBEq, Bool.or_true, Bool.true_or, Bool.or_false, Bool.false_or, Bool.not_true, Bool.not_false, true_and, and_true, rowA_whole, push_n, set_n, push_obj, set_obj, set_push, set_push_ne, set_set, Nat.add_assoc, Nat.left_eq_add, Nat.add_eq_left, Nat.add_left_cancel_iff, Nat.reduceEqDiff, stO_1s, stO_ws, boxA_s, one_bool, one_int, one_str, one_ptr, one_nilptr, one_slice, one_eslice, one_nilslice, one_func, one_iface, one_niliface, List.all_cons, List.all_nil, List.length_cons, List.length_nil, Nat.reduceLT, Nat.reduceEqDiff, Nat.reduceLeDiff, Bool.and_true, Nat.one_ne_zero, Nat.succ_ne_zero, reduceIte, if_false, List.getElem?_cons_zero, List.set_cons_zero, List.set_cons_succ]
    exact ⟨Ext.refl _, Nat.le_refl _, Nat.le_refl _, Own.empty, by simp⟩
  · rintro n e g ⟨x, lo, hi, out, hn, i0, i5, i6, E, hlo, hhi, o, hout⟩
    have hle := E.le
    cases n with
    | zero =>
      have d0 : decide ((0 : Int) ≤ ((0 : Nat) : Int) - 1) = false := decide_eq_false (by omega)
      simp only [i0, i5, i6, d0, go_sem, Hold.p, HoldK.k, HoldL.K, HoldL.body, Nat.reduceBEq, Nat.reduceAdd, List.getElem?_cons_zero, List.getElem?_cons_succ, Option.bind_some, List.map_cons, List.map_nil, Nat.zero_add, if_true, List.getD_cons_zero, List.getD_cons_succ, List.contains_cons, List.contains_nil, Nat.reduceBEq, Bool.or_true, Bool.true_or, Bool.or_false, Bool.false_or, Bool.not_true, Bool.not_false, true_and, and_true, rowA_whole, push_n, set_n, push_obj, set_obj, set_push, set_push_ne, set_set, Nat.add_assoc, Nat.left_eq_add, Nat.add_eq_left, Nat.add_left_cancel_iff, Nat.reduceEqDiff, stO_1s, stO_ws, boxA_s, one_bool, one_int, one_str, one_ptr, one_nilptr, one_slice, one_eslice, one_nilslice, one_func, one_iface, one_niliface, List.all_cons, List.all_nil, List.length_cons, List.length_nil, Nat.reduceLT, Nat.reduceEqDiff, Nat.reduceLeDiff, Bool.and_true, Nat.one_ne_zero, Nat.succ_ne_zero, reduceIte, if_false, List.getElem?_cons_zero, List.set_cons_zero, List.set_cons_succ]
      have : out = beB w v := by simpa [beB] using hout
      rw [← this]
      exact ⟨o.wide hlo hhi (Nat.le_refl _), E⟩
    | succ k =>
      have d0 : decide ((0 : Int) ≤ ((k + 1 : Nat) : Int) - 1) = true := decide_eq_true (by omega)
      have e1 : ((k + 1 : Nat) : Int) - 1 = (k : Int) := by omega
      have w1 : wr .i64 (8 * (k : Int)) = ((8 * k : Nat) : Int) := by rw [wr64 _ (by omega)]; omega
      have w2 : wr .u64 (((8 * k : Nat) : Int)) = ((8 * k : Nat) : Int) := by unfold wr; rw [IntKind.wrap_u64]; omega
      have w3 := ib_shr .i64 v ((8 * k : Nat) : Int) .u64 (by omega)
      have hmin : min ((8 * k : Nat) : Int).toNat IntKind.i64.bits = 8 * k := by
        have : IntKind.i64.bits = 64 := rfl
        rw [this]; omega
      rw [hmin] at w3
      have hol : out.length ≤ 8 := by
        have := congrArg List.length hout
        rw [List.length_append, beB_len, beB_len] at this
        omega
      have w4 : wr .i64 ((k : Int) - 1) = (k : Int) - 1 := wr64 _ (by omega)
      have w5 : wr .u8 (v.fdiv (2 ^ (8 * k))) = ((byteAt v k).toNat : Int) := wr_u8 _
      rw [e1] at i6 d0
      simp only [i0, i5, i6, d0, w1, w2, w3, w5, go_sem, Hold.p, HoldK.k, HoldL.K, HoldL.body, Nat.reduceBEq, Nat.reduceAdd, List.getElem?_cons_zero, List.getElem?_cons_succ, Option.bind_some, List.map_cons, List.map_nil, Nat.zero_add, if_true, List.getD_cons_zero, List.getD_cons_succ, List.contains_cons, List.contains_nil, Nat.reduceBEq, Bool.or_true, Bool.true_or, Bool.or_false, Bool.false_or, Bool.not_true, Bool.not_false, true_and, and_true, rowA_whole, push_n, set_n, push_obj, set_obj, set_push, set_push_ne, set_set, Nat.add_assoc, Nat.left_eq_add, Nat.add_eq_left, Nat.add_left_cancel_iff, Nat.reduceEqDiff, stO_1s, stO_ws, boxA_s, one_bool, one_int, one_str, one_ptr, one_nilptr, one_slice, one_eslice, one_nilslice, one_func, one_iface, one_niliface, List.all_cons, List.all_nil, List.length_cons, List.length_nil, Nat.reduceLT, Nat.reduceEqDiff, Nat.reduceLeDiff, Bool.and_true, Nat.one_ne_zero, Nat.succ_ne_zero, reduceIte, if_false, List.getElem?_cons_zero, List.set_cons_zero, List.set_cons_succ]
      generalize hq_g1 : IH.push g (IObj.rows [[.int .u8 (byteAt v k).toNat]] 5 1 false) = g1
      have e_g1 : Ext g g1 := by rw [← hq_g1]; exact (Ext.refl _).push _
      have l_g1 : g1.n = g.n + 1 := by rw [← hq_g1]; rfl
      have ba : At g1 g.n (IObj.rows [[.int .u8 (byteAt v k).toNat]] 5 1 false) := by rw [← hq_g1]; exact At.new _ _
      clear hq_g1
      have o := o.ext e_g1
      have E := E.ext e_g1
      refine o.app (by simp) (by rw [strRows_len]; simp; omega) ?_
      intro v6 h6 o6 t6 n6 v6o v6c
      have E := E.turn o (by omega) t6
      have le_t6 := t6.le
      simp only [i0, i5, i6, w4, go_sem, Hold.p, HoldK.k, HoldL.K, HoldL.body, Nat.reduceBEq, Nat.reduceAdd, List.getElem?_cons_zero, List.getElem?_cons_succ, Option.bind_some, List.map_cons, List.map_nil, Nat.zero_add, if_true, List.getD_cons_zero, List.getD_cons_succ, List.contains_cons, List.contains_nil, Nat.reduceBEq, Bool.or_true, Bool.true_or, Bool.or_false, Bool.false_or, Bool.not_true, Bool.not_false, true_and, and_true, rowA_whole, push_n, set_n, push_obj, set_obj, set_push, set_push_ne, set_set, Nat.add_assoc, Nat.left_eq_add, Nat.add_eq_left, Nat.add_left_cancel_iff, Nat.reduceEqDiff, stO_1s, stO_ws, boxA_s, one_bool, one_int, one_str, one_ptr, one_nilptr, one_slice, one_eslice, one_nilslice, one_func, one_iface, one_niliface, List.all_cons, List.all_nil, List.length_cons, List.length_nil, Nat.reduceLT, Nat.reduceEqDiff, Nat.reduceLeDiff, Bool.and_true, Nat.one_ne_zero, Nat.succ_ne_zero, reduceIte, if_false, List.getElem?_cons_zero, List.set_cons_zero, List.set_cons_succ]
      refine ⟨k, Nat.lt_succ_self _, v6, g1.n, g1.n + 1, out ++ [byteAt v k], by omega, rfl, rfl, E, by omega, by omega, ?_, ?_⟩
      · rw [strRows_append]; exact o6
      · rw [← hout]; simp [beB]

set_option maxRecDepth 20000 in
theorem put_c {lo hi : Nat} (hB h : IH) (E : Ext hB h) (x : IV) (bs : List UInt8) (v : Int) (w : Nat) (hw : w ≤ 8) (hv : 0 ≤ v ∧ v ≤ 9223372036854775807) (hbl : bs.length ≤ 16777216) (hlo : hB.n ≤ lo) (o : Own lo hi h 5 1 x (strRows bs)) (hhi : hi ≤ h.n) :
    ICalls Tryd.prog 63 [x, .int .i64 w, .int .i64 v] h fun r h' => Own hB.n h'.n h' 5 1 r (strRows (bs ++ beB w v)) ∧ Ext hB h' := by
  refine icalls (.of ok63) (Nat.le_of_ble_eq_true rfl) ?_
  unfold c63
  have w0 : wr .i64 ((w : Int) - 1) = (w : Int) - 1 := wr64 _ (by omega)
  simp only [w0, go_sem, Hold.p, HoldK.k, HoldL.K, HoldL.body, Nat.reduceBEq, Nat.reduceAdd, List.getElem?_cons_zero, List.getElem?_cons_succ, Option.bind_some, List.map_cons, List.map_nil, Nat.zero_add, if_true, List.getD_cons_zero, List.getD_cons_succ, List.contains_cons, List.contains_nil, Nat.reduceBEq, Bool.or_true, Bool.true_or, Bool.or_false, Bool.false_or, Bool.not_true, Bool.not_false, true_and, and_true, rowA_whole, push_n, set_n, push_obj, set_obj, set_push, set_push_ne, set_set, Nat.add_assoc, Nat.left_eq_add, Nat.add_eq_left, Nat.add_left_cancel_iff, Nat.reduceEqDiff, stO_1s, stO_ws, boxA_s, one_bool, one_int, one_str, one_ptr, one_nilptr, one_slice, one_eslice, one_nilslice, one_func, one_iface, one_niliface, List.all_cons, List.all_nil, List.length_cons, List.length_nil, Nat.reduceLT, Nat.reduceEqDiff, Nat.reduceLeDiff, Bool.and_true, Nat.one_ne_zero, Nat.succ_ne_zero, reduceIte, if_false, List.getElem?_cons_zero, List.set_cons_zero, List.set_cons_succ]
  refine loop_at (fun n e g => ∃ (x : IV) (lo hi : Nat) (out : List UInt8), n ≤ w ∧ e 2 = .int .i64 v ∧ e 0 = x ∧ e 7 = .int .i64 ((n : Int) - 1) ∧ Ext hB g ∧ hB.n ≤ lo ∧ hi ≤ g.n ∧ Own lo hi g 5 1 x (strRows out) ∧ out ++ beB n v = bs ++ beB w v) w ?_ ?_
  · refine ⟨x, lo, hi, bs, Nat.le_refl _, ?_⟩
    simp only [go_sem, Hold.p, HoldK.k, HoldL.K, HoldL.body, Nat.reduceBEq, Nat.reduceAdd, List.getElem?_cons_zero, List.getElem?_cons_succ, Option.bind_some, List.map_cons, List.map_nil, Nat.zero_add, if_true, List.getD_cons_zero, List.getD_cons_succ, List.contains_cons, List.contains_nil, Nat.reduceBEq, Bool.or_true, Bool.true_or, Bool.or_false, Bool.false_or, Bool.not_true, Bool.not_false, true_and, and_true, rowA_whole, push_n, set_n, push_obj, set_obj, set_push, set_push_ne, set_set, Nat.add_assoc, Nat.left_eq_add, Nat.add_eq_left, Nat.add_left_cancel_iff, Nat.reduceEqDiff, stO_1s, stO_ws, boxA_s, one_bool, one_int, one_str, one_ptr, one_nilptr, one_slice, one_eslice, one_nilslice, one_func, one_iface, one_niliface, List.all_cons, List.all_nil, List.length_cons, List.length_nil, Nat.reduceLT, Nat.reduceEqDiff, Nat.reduceLeDiff, Bool.and_true, Nat.one_ne_zero, Nat.succ_ne_zero, reduceIte, if_false, List.getElem?_cons_zero, List.set_cons_zero, List.set_cons_succ]
    exact ⟨E, hlo, hhi, o⟩
  · rintro n e g ⟨x, lo, hi, out, hn, i2, i0, i7, E, hlo, hhi, o, hout⟩
    have hle := E.le
    cases n with
    | zero =>
      have d0 : decide ((0 : Int) ≤ ((0 : Nat) : Int) - 1) = false := decide_eq_false (by omega)
      simp only [i0, i2, i7, d0, go_sem, Hold.p, HoldK.k, HoldL.K, HoldL.body, Nat.reduceBEq, Nat.reduceAdd, List.getElem?_cons_zero, List.getElem?_cons_succ, Option.bind_some, List.map_cons, List.map_nil, Nat.zero_add, if_true, List.getD_cons_zero, List.getD_cons_succ, List.contains_cons, List.contains_nil, Nat.reduceBEq, Bool.or_true, Bool.true_or, Bool.or_false, Bool.false_or, Bool.not_true, Bool.not_false, true_and, and_true, rowA_whole, push_n, set_n, push_obj, set_obj, set_push, set_push_ne, set_set, Nat.add_assoc, Nat.left_eq_add, Nat.add_eq_left, Nat.add_left_cancel_iff, Nat.reduceEqDiff, stO_1s, stO_ws, boxA_s, one_bool, one_int, one_str, one_ptr, one_nilptr, one_slice, one_eslice, one_nilslice, one_func, one_iface, one_niliface, List.all_cons, List.all_nil, List.length_cons, List.length_nil, Nat.reduceLT, Nat.reduceEqDiff, Nat.reduceLeDiff, Bool.and_true, Nat.one_ne_zero, Nat.succ_ne_zero, reduceIte, if_false, List.getElem?_cons_zero, List.set_cons_zero, List.set_cons_succ]
      have : out = bs ++ beB w v := by simpa [beB] using hout
      rw [← this]
      exact ⟨o.wide hlo hhi (Nat.le_refl _), E⟩
    | succ k =>
      have d0 : decide ((0 : Int) ≤ ((k + 1 : Nat) : Int) - 1) = true := decide_eq_true (by omega)
      have e1 : ((k + 1 : Nat) : Int) - 1 = (k : Int) := by omega
      have w1 : wr .i64 (8 * (k : Int)) = ((8 * k : Nat) : Int) := by rw [wr64 _ (by omega)]; omega
      have w2 : wr .u64 v = v := by unfold wr; rw [IntKind.wrap_u64]; omega
      have w3 := ib_shr .u64 v ((8 * k : Nat) : Int) .i64 (by omega)
      have hmin : min ((8 * k : Nat) : Int).toNat IntKind.u64.bits = 8 * k := by
        have : IntKind.u64.bits = 64 := rfl
        rw [this]; omega
      rw [hmin] at w3
      have hol : out.length ≤ 16777300 := by
        have := congrArg List.length hout
        rw [List.length_append, List.length_append, beB_len, beB_len] at this
        omega
      have w4 : wr .i64 ((k : Int) - 1) = (k : Int) - 1 := wr64 _ (by omega)
      have w5 : wr .u8 (v.fdiv (2 ^ (8 * k))) = ((byteAt v k).toNat : Int) := wr_u8 _
      rw [e1] at i7 d0
      simp only [i0, i2, i7, d0, w1, w2, w3, w5, go_sem, Hold.p, HoldK.k, HoldL.K, HoldL.body, Nat.reduceBEq, Nat.reduceAdd, List.getElem?_cons_zero, List.getElem?_cons_succ, Option.bind_some, List.map_cons, List.map_nil, Nat.zero_add, if_true, List.getD_cons_zero, List.getD_cons_succ, List.contains_cons, List.contains_nil, Nat.reduceBEq, Bool.or_true, Bool.true_or, Bool.or_false, Bool.false_or, Bool.not_true, Bool.not_false, true_and, and_true, rowA_whole, push_n, set_n, push_obj, set_obj, set_push, set_push_ne, set_set, Nat.add_assoc, Nat.left_eq_add, Nat.add_eq_left, Nat.add_left_cancel_iff, Nat.reduceEqDiff, stO_1s, stO_ws, boxA_s, one_bool, one_int, one_str, one_ptr, one_nilptr, one_slice, one_eslice, one_nilslice, one_func, one_iface, one_niliface, List.all_cons, List.all_nil, List.length_cons, List.length_nil, Nat.reduceLT, Nat.reduceEqDiff, Nat.reduceLeDiff, Bool.and_true, Nat.one_ne_zero, Nat.succ_ne_zero, reduceIte, if_false, List.getElem?_cons_zero, List.set_cons_zero, List.set_cons_succ]
      generalize hq_g1 : IH.push g (IObj.rows [[.int .u8 (byteAt v k).toNat]] 5 1 false) = g1
      have e_g1 : Ext g g1 := by rw [← hq_g1]; exact (Ext.refl _).push _
      have l_g1 : g1.n = g.n + 1 := by rw [← hq_g1]; rfl
      have ba : At g1 g.n (IObj.rows [[.int .u8 (byteAt v k).toNat]] 5 1 false) := by rw [← hq_g1]; exact At.new _ _
      clear hq_g1
      have o := o.ext e_g1
      have E := E.ext e_g1
      refine o.app (by simp) (by rw [strRows_len]; simp; omega) ?_
      intro v6 h6 o6 t6 n6 v6o v6c
      have E := E.turn o (by omega) t6
      have le_t6 := t6.le
      simp only [i0, i2, i7, w4, go_sem, Hold.p, HoldK.k, HoldL.K, HoldL.body, Nat.reduceBEq, Nat.reduceAdd, List.getElem?_cons_zero, List.getElem?_cons_succ, Option.bind_some, List.map_cons, List.map_nil, Nat.zero_add, if_true, List.getD_cons_zero, List.getD_cons_succ, List.contains_cons, List.contains_nil, Nat.reduceBEq, Bool.or_true, Bool.true_or, Bool.or_false, Bool.false_or, Bool.not_true, Bool.not_false, true_and, and_true, rowA_whole, push_n, set_n, push_obj, set_obj, set_push, set_push_ne, set_set, Nat.add_assoc, Nat.left_eq_add, Nat.add_eq_left, Nat.add_left_cancel_iff, Nat.reduceEqDiff, stO_1s, stO_ws, boxA_s, one_bool, one_int, one_str, one_ptr, one_nilptr, one_slice, one_eslice, one_nilslice, one_func, one_iface, one_niliface, List.all_cons, List.all_nil, List.length_cons, List.length_nil, Nat.reduceLT, Nat.reduceEqDiff, Nat.reduceLeDiff, Bool.and_true, Nat.one_ne_zero, Nat.succ_ne_zero, reduceIte, if_false, List.getElem?_cons_zero, List.set_cons_zero, List.set_cons_succ]
      refine ⟨k, Nat.lt_succ_self _, v6, g1.n, g1.n + 1, out ++ [byteAt v k], by omega, rfl, rfl, E, by omega, by omega, ?_, ?_⟩
      · rw [strRows_append]; exact o6
      · rw [← hout]; simp [beB]

set_option maxRecDepth 20000 in
theorem l01Copy_c (h : IH) (v : IV) (bs : List UInt8) (hs : SlR h 1 v (strRows bs)) (hbl : bs.length ≤ 16777216) : ICalls Tryd.prog 107 [v] h fun r h' => Own h.n h'.n h' 5 1 r (strRows bs) ∧ Ext h h' := by
  refine icalls (.of ok107) (Nat.le_of_ble_eq_true rfl) ?_
  unfold c107
  have hlen := hs.lenF
  rw [strRows_len] at hlen
  simp only [go_sem, Hold.p, HoldK.k, HoldL.K, HoldL.body, Nat.reduceBEq, Nat.reduceAdd, List.getElem?_cons_zero, List.getElem?_cons_succ, Option.bind_some, List.map_cons, List.map_nil, Nat.zero_add, if_true, List.getD_cons_zero, List.getD_cons_succ, List.contains_cons, List.contains_nil, Nat.reduceBEq, Bool.or_true, Bool.true_or, Bool.or_false, Bool.false_or, Bool.not_true, Bool.not_false, true_and, and_true, rowA_whole, push_n, set_n, push_obj, set_obj, set_push, set_push_ne, set_set, Nat.add_assoc, Nat.left_eq_add, Nat.add_eq_left, Nat.add_left_cancel_iff, Nat.reduceEqDiff, stO_1s, stO_ws, boxA_s, one_bool, one_int, one_str, one_ptr, one_nilptr, one_slice, one_eslice, one_nilslice, one_func, one_iface, one_niliface, List.all_cons, List.all_nil, List.length_cons, List.length_nil, Nat.reduceLT, Nat.reduceEqDiff, Nat.reduceLeDiff, Bool.and_true, Nat.one_ne_zero, Nat.succ_ne_zero, reduceIte, if_false, List.getElem?_cons_zero, List.set_cons_zero, List.set_cons_succ]
  refine loop_at (fun n e g => ∃ (x : IV) (lo hi k : Nat), n = bs.length - k ∧ k ≤ bs.length ∧ e 0 = v ∧ e 3 = x ∧ e 4 = .int .i64 (k : Nat) ∧ Ext h g ∧ h.n ≤ lo ∧ hi ≤ g.n ∧ Own lo hi g 5 1 x (strRows (bs.take k))) bs.length ?_ ?_
  · refine ⟨.eslice true, h.n, h.n, 0, by omega, by omega, ?_⟩
    simp only [go_sem, Hold.p, HoldK.k, HoldL.K, HoldL.body, Nat.reduceBEq, Nat.reduceAdd, List.getElem?_cons_zero, List.getElem?_cons_succ, Option.bind_some, List.map_cons, List.map_nil, Nat.zero_add, if_true, List.getD_cons_zero, List.getD_cons_succ, List.contains_cons, List.contains_nil, Nat.reduceBEq, Bool.or_true, Bool.true_or, Bool.or_false, Bool.false_or, Bool.not_true, Bool.not_false, true_and, and_true, rowA_whole, push_n, set_n, push_obj, set_obj, set_push, set_push_ne, set_set, Nat.add_assoc, Nat.left_eq_add, Nat.add_eq_left, Nat.add_left_cancel_iff, Nat.reduceEqDiff, stO_1s, stO_ws, boxA_s, one_bool, one_int, one_str, one_ptr, one_nilptr, one_slice, one_eslice, one_nilslice, one_func, one_iface, one_niliface, List.all_cons, List.all_nil, List.length_cons, List.length_nil, Nat.reduceLT, Nat.reduceEqDiff, Nat.reduceLeDiff, Bool.and_true, Nat.one_ne_zero, Nat.succ_ne_zero, reduceIte, if_false, List.getElem?_cons_zero, List.set_cons_zero, List.set_cons_succ]
    exact ⟨rfl, Ext.refl _, Nat.le_refl _, Nat.le_refl _, Own.empty⟩
  · rintro n e g ⟨x, lo, hi, k, rfl, hk, i0, i3, i4, E, hlo, hhi, o⟩
    have hle := E.le
    simp only [i0, i3, i4, hlen, go_sem, Hold.p, HoldK.k, HoldL.K, HoldL.body, Nat.reduceBEq, Nat.reduceAdd, List.getElem?_cons_zero, List.getElem?_cons_succ, Option.bind_some, List.map_cons, List.map_nil, Nat.zero_add, if_true, List.getD_cons_zero, List.getD_cons_succ, List.contains_cons, List.contains_nil, Nat.reduceBEq, Bool.or_true, Bool.true_or, Bool.or_false, Bool.false_or, Bool.not_true, Bool.not_false, true_and, and_true, rowA_whole, push_n, set_n, push_obj, set_obj, set_push, set_push_ne, set_set, Nat.add_assoc, Nat.left_eq_add, Nat.add_eq_left, Nat.add_left_cancel_iff, Nat.reduceEqDiff, stO_1s, stO_ws, boxA_s, one_bool, one_int, one_str, one_ptr, one_nilptr, one_slice, one_eslice, one_nilslice, one_func, one_iface, one_niliface, List.all_cons, List.all_nil, List.length_cons, List.length_nil, Nat.reduceLT, Nat.reduceEqDiff, Nat.reduceLeDiff, Bool.and_true, Nat.one_ne_zero, Nat.succ_ne_zero, reduceIte, if_false, List.getElem?_cons_zero, List.set_cons_zero, List.set_cons_succ]
    refine test_dec (fun hlt => ?_) (fun hlt => ?_)
    · have hlt' : k < bs.length := by omega
      have hkp : bs[k]? = some bs[k] := List.getElem?_eq_getElem hlt'
      generalize bs[k] = b at hkp
      obtain ⟨l, j, hia, hll, hrow⟩ := (hs.ext E).at (m := k) (strRows_at hkp) .i64
      have hc := cellO_row hrow
      simp only [i0, i3, i4, hia, hc, go_sem, Hold.p, HoldK.k, HoldL.K, HoldL.body, Nat.reduceBEq, Nat.reduceAdd, List.getElem?_cons_zero, List.getElem?_cons_succ, Option.bind_some, List.map_cons, List.map_nil, Nat.zero_add, if_true, List.getD_cons_zero, List.getD_cons_succ, List.contains_cons, List.contains_nil, Nat.reduceBEq, Bool.or_true, Bool.true_or, Bool.or_false, Bool.false_or, Bool.not_true, Bool.not_false, true_and, and_true, rowA_whole, push_n, set_n, push_obj, set_obj, set_push, set_push_ne, set_set, Nat.add_assoc, Nat.left_eq_add, Nat.add_eq_left, Nat.add_left_cancel_iff, Nat.reduceEqDiff, stO_1s, stO_ws, boxA_s, one_bool, one_int, one_str, one_ptr, one_nilptr, one_slice, one_eslice, one_nilslice, one_func, one_iface, one_niliface, List.all_cons, List.all_nil, List.length_cons, List.length_nil, Nat.reduceLT, Nat.reduceEqDiff, Nat.reduceLeDiff, Bool.and_true, Nat.one_ne_zero, Nat.succ_ne_zero, reduceIte, if_false, List.getElem?_cons_zero, List.set_cons_zero, List.set_cons_succ]
      generalize hq_g1 : IH.push g (IObj.rows [[.int .u8 b.toNat]] 5 1 false) = g1
      have e_g1 : Ext g g1 := by rw [← hq_g1]; exact (Ext.refl _).push _
      have l_g1 : g1.n = g.n + 1 := by rw [← hq_g1]; rfl
      have ba : At g1 g.n (IObj.rows [[.int .u8 b.toNat]] 5 1 false) := by rw [← hq_g1]; exact At.new _ _
      clear hq_g1
      have o := o.ext e_g1
      have E := E.ext e_g1
      refine o.app (by simp) (by rw [strRows_len]; simp; omega) ?_
      intro v6 h6 o6 t6 n6 v6o v6c
      have E := E.turn o (by omega) t6
      have le_t6 := t6.le
      simp only [i0, i3, i4, go_sem, Hold.p, HoldK.k, HoldL.K, HoldL.body, Nat.reduceBEq, Nat.reduceAdd, List.getElem?_cons_zero, List.getElem?_cons_succ, Option.bind_some, List.map_cons, List.map_nil, Nat.zero_add, if_true, List.getD_cons_zero, List.getD_cons_succ, List.contains_cons, List.contains_nil, Nat.reduceBEq, Bool.or_true, Bool.true_or, Bool.or_false, Bool.false_or, Bool.not_true, Bool.not_false, true_and, and_true, rowA_whole, push_n, set_n, push_obj, set_obj, set_push, set_push_ne, set_set, Nat.add_assoc, Nat.left_eq_add, Nat.add_eq_left, Nat.add_left_cancel_iff, Nat.reduceEqDiff, stO_1s, stO_ws, boxA_s, one_bool, one_int, one_str, one_ptr, one_nilptr, one_slice, one_eslice, one_nilslice, one_func, one_iface, one_niliface, List.all_cons, List.all_nil, List.length_cons, List.length_nil, Nat.reduceLT, Nat.reduceEqDiff, Nat.reduceLeDiff, Bool.and_true, Nat.one_ne_zero, Nat.succ_ne_zero, reduceIte, if_false, List.getElem?_cons_zero, List.set_cons_zero, List.set_cons_succ]
      refine ⟨_, ?_, v6, g1.n, g1.n + 1, k + 1, rfl, by omega, rfl, wr64_succ k (by omega), E, by omega, by omega, ?_⟩
      · omega
      · rw [List.take_add_one, hkp, strRows_append]; exact o6
    · obtain rfl : k = bs.length := by omega
      rw [List.take_length] at o
      simp only [i3, go_sem, Hold.p, HoldK.k, HoldL.K, HoldL.body, Nat.reduceBEq, Nat.reduceAdd, List.getElem?_cons_zero, List.getElem?_cons_succ, Option.bind_some, List.map_cons, List.map_nil, Nat.zero_add, if_true, List.getD_cons_zero, List.getD_cons_succ, List.contains_cons, List.contains_nil, Nat.reduceBEq, Bool.or_true, Bool.true_or, Bool.or_false, Bool.false_or, Bool.not_true, Bool.not_false, true_and, and_true, rowA_whole, push_n, set_n, push_obj, set_obj, set_push, set_push_ne, set_set, Nat.add_assoc, Nat.left_eq_add, Nat.add_eq_left, Nat.add_left_cancel_iff, Nat.reduceEqDiff, stO_1s, stO_ws, boxA_s, one_bool, one_int, one_str, one_ptr, one_nilptr, one_slice, one_eslice, one_nilslice, one_func, one_iface, one_niliface, List.all_cons, List.all_nil, List.length_cons, List.length_nil, Nat.reduceLT, Nat.reduceEqDiff, Nat.reduceLeDiff, Bool.and_true, Nat.one_ne_zero, Nat.succ_ne_zero, reduceIte, if_false, List.getElem?_cons_zero, List.set_cons_zero, List.set_cons_succ]
      exact ⟨o.wide hlo hhi (Nat.le_refl _), E⟩

set_option maxRecDepth 20000 in
theorem l01Join_c (h : IH) (v w : IV) (az bs : List UInt8) (hv : SlR h 1 v (strRows az)) (hw : SlR h 1 w (strRows bs)) (hal : az.length ≤ 8388608) (hbl : bs.length ≤ 8388608) : ICalls Tryd.prog 61 [v, w] h fun r h' => Own h.n h'.n h' 5 1 r (strRows (az ++ bs)) ∧ Ext h h' := by
  refine icalls (.of ok61) (Nat.le_of_ble_eq_true rfl) ?_
  unfold c61
  have hlen := hw.lenF
  rw [strRows_len] at hlen
  simp only [go_sem, Hold.p, HoldK.k, HoldL.K, HoldL.body, Nat.reduceBEq, Nat.reduceAdd, List.getElem?_cons_zero, List.getElem?_cons_succ, Option.bind_some, List.map_cons, List.map_nil, Nat.zero_add, if_true, List.getD_cons_zero, List.getD_cons_succ, List.contains_cons, List.contains_nil, Nat.reduceBEq, Bool.or_true, Bool.true_or, Bool.or_false, Bool.false_or, Bool.not_true, Bool.not_false, true_and, and_true, rowA_whole, push_n, set_n, push_obj, set_obj, set_push, set_push_ne, set_set, Nat.add_assoc, Nat.left_eq_add, Nat.add_eq_left, Nat.add_left_cancel_iff, Nat.reduceEqDiff, stO_1s, stO_ws, boxA_s, one_bool, one_int, one_str, one_ptr, one_nilptr, one_slice, one_eslice, one_nilslice, one_func, one_iface, one_niliface, List.all_cons, List.all_nil, List.length_cons, List.length_nil, Nat.reduceLT, Nat.reduceEqDiff, Nat.reduceLeDiff, Bool.and_true, Nat.one_ne_zero, Nat.succ_ne_zero, reduceIte, if_false, List.getElem?_cons_zero, List.set_cons_zero, List.set_cons_succ]
  refine callA_of (l01Copy_c h v az hv (by omega)) ?_
  rintro x0 h1 ⟨o0, E0⟩
  simp only [go_sem, Hold.p, HoldK.k, HoldL.K, HoldL.body, Nat.reduceBEq, Nat.reduceAdd, List.getElem?_cons_zero, List.getElem?_cons_succ, Option.bind_some, List.map_cons, List.map_nil, Nat.zero_add, if_true, List.getD_cons_zero, List.getD_cons_succ, List.contains_cons, List.contains_nil, Nat.reduceBEq, Bool.or_true, Bool.true_or, Bool.or_false, Bool.false_or, Bool.not_true, Bool.not_false, true_and, and_true, rowA_whole, push_n, set_n, push_obj, set_obj, set_push, set_push_ne, set_set, Nat.add_assoc, Nat.left_eq_add, Nat.add_eq_left, Nat.add_left_cancel_iff, Nat.reduceEqDiff, stO_1s, stO_ws, boxA_s, one_bool, one_int, one_str, one_ptr, one_nilptr, one_slice, one_eslice, one_nilslice, one_func, one_iface, one_niliface, List.all_cons, List.all_nil, List.length_cons, List.length_nil, Nat.reduceLT, Nat.reduceEqDiff, Nat.reduceLeDiff, Bool.and_true, Nat.one_ne_zero, Nat.succ_ne_zero, reduceIte, if_false, List.getElem?_cons_zero, List.set_cons_zero, List.set_cons_succ]
  have hle0 := E0.le
  refine loop_at (fun n e g => ∃ (x : IV) (lo hi k : Nat), n = bs.length - k ∧ k ≤ bs.length ∧ e 1 = w ∧ e 5 = x ∧ e 6 = .int .i64 (k : Nat) ∧ Ext h g ∧ h.n ≤ lo ∧ hi ≤ g.n ∧ Own lo hi g 5 1 x (strRows (az ++ bs.take k))) bs.length ?_ ?_
  · refine ⟨x0, h.n, h1.n, 0, by omega, by omega, ?_⟩
    simp only [go_sem, Hold.p, HoldK.k, HoldL.K, HoldL.body, Nat.reduceBEq, Nat.reduceAdd, List.getElem?_cons_zero, List.getElem?_cons_succ, Option.bind_some, List.map_cons, List.map_nil, Nat.zero_add, if_true, List.getD_cons_zero, List.getD_cons_succ, List.contains_cons, List.contains_nil, Nat.reduceBEq, Bool.or_true, Bool.true_or, Bool.or_false, Bool.false_or, Bool.not_true, Bool.not_false, true_and, and_true, rowA_whole, push_n, set_n, push_obj, set_obj, set_push, set_push_ne, set_set, Nat.add_assoc, Nat.left_eq_add, Nat.add_eq_left, Nat.add_left_cancel_iff, Nat.reduceEqDiff, stO_1s, stO_ws, boxA_s, one_bool, one_int, one_str, one_ptr, one_nilptr, one_slice, one_eslice, one_nilslice, one_func, one_iface, one_niliface, List.all_cons, List.all_nil, List.length_cons, List.length_nil, Nat.reduceLT, Nat.reduceEqDiff, Nat.reduceLeDiff, Bool.and_true, Nat.one_ne_zero, Nat.succ_ne_zero, reduceIte, if_false, List.getElem?_cons_zero, List.set_cons_zero, List.set_cons_succ]
    exact ⟨rfl, E0, Nat.le_refl _, Nat.le_refl _, by simpa using o0⟩
  · rintro n e g ⟨x, lo, hi, k, rfl, hk, i1, i5, i6, E, hlo, hhi, o⟩
    have hle := E.le
    simp only [i1, i5, i6, hlen, go_sem, Hold.p, HoldK.k, HoldL.K, HoldL.body, Nat.reduceBEq, Nat.reduceAdd, List.getElem?_cons_zero, List.getElem?_cons_succ, Option.bind_some, List.map_cons, List.map_nil, Nat.zero_add, if_true, List.getD_cons_zero, List.getD_cons_succ, List.contains_cons, List.contains_nil, Nat.reduceBEq, Bool.or_true, Bool.true_or, Bool.or_false, Bool.false_or, Bool.not_true, Bool.not_false, true_and, and_true, rowA_whole, push_n, set_n, push_obj, set_obj, set_push, set_push_ne, set_set, Nat.add_assoc, Nat.left_eq_add, Nat.add_eq_left, Nat.add_left_cancel_iff, Nat.reduceEqDiff, stO_1s, stO_ws, boxA_s, one_bool, one_int, one_str, one_ptr, one_nilptr, one_slice, one_eslice, one_nilslice, one_func, one_iface, one_niliface, List.all_cons, List.all_nil, List.length_cons, List.length_nil, Nat.reduceLT, Nat.reduceEqDiff, Nat.reduceLeDiff, Bool.and_true, Nat.one_ne_zero, Nat.succ_ne_zero, reduceIte, if_false, List.getElem?_cons_zero, List.set_cons_zero, List.set_cons_succ]
    refine test_dec (fun hlt => ?_) (fun hlt => ?_)
    · have hlt' : k < bs.length := by omega
      have hkp : bs[k]? = some bs[k] := List.getElem?_eq_getElem hlt'
      generalize bs[k] = b at hkp
      obtain ⟨l, j, hia, hll, hrow⟩ := (hw.ext E).at (m := k) (strRows_at hkp) .i64
      have hc := cellO_row hrow
      simp only [i1, i5, i6, hia, hc, go_sem, Hold.p, HoldK.k, HoldL.K, HoldL.body, Nat.reduceBEq, Nat.reduceAdd, List.getElem?_cons_zero, List.getElem?_cons_succ, Option.bind_some, List.map_cons, List.map_nil, Nat.zero_add, if_true, List.getD_cons_zero, List.getD_cons_succ, List.contains_cons, List.contains_nil, Nat.reduceBEq, Bool.or_true, Bool.true_or, Bool.or_false, Bool.false_or, Bool.not_true, Bool.not_false, true_and, and_true, rowA_whole, push_n, set_n, push_obj, set_obj, set_push, set_push_ne, set_set, Nat.add_assoc, Nat.left_eq_add, Nat.add_eq_left, Nat.add_left_cancel_iff, Nat.reduceEqDiff, stO_1s, stO_ws, boxA_s, one_bool, one_int, one_str, one_ptr, one_nilptr, one_slice, one_eslice, one_nilslice, one_func, one_iface, one_niliface, List.all_cons, List.all_nil, List.length_cons, List.length_nil, Nat.reduceLT, Nat.reduceEqDiff, Nat.reduceLeDiff, Bool.and_true, Nat.one_ne_zero, Nat.succ_ne_zero, reduceIte, if_false, List.getElem?_cons_zero, List.set_cons_zero, List.set_cons_succ]
      generalize hq_g1 : IH.push g (IObj.rows [[.int .u8 b.toNat]] 5 1 false) = g1
      have e_g1 : Ext g g1 := by rw [← hq_g1]; exact (Ext.refl _).push _
      have l_g1 : g1.n = g.n + 1 := by rw [← hq_g1]; rfl
      have ba : At g1 g.n (IObj.rows [[.int .u8 b.toNat]] 5 1 false) := by rw [← hq_g1]; exact At.new _ _
      clear hq_g1
      have o := o.ext e_g1
      have E := E.ext e_g1
      refine o.app (by simp) (by rw [strRows_len]; simp; omega) ?_
      intro v6 h6 o6 t6 n6 v6o v6c
      have E := E.turn o (by omega) t6
      have le_t6 := t6.le
      simp only [i1, i5, i6, go_sem, Hold.p, HoldK.k, HoldL.K, HoldL.body, Nat.reduceBEq, Nat.reduceAdd, List.getElem?_cons_zero, List.getElem?_cons_succ, Option.bind_some, List.map_cons, List.map_nil, Nat.zero_add, if_true, List.getD_cons_zero, List.getD_cons_succ, List.contains_cons, List.contains_nil, Nat.reduceBEq, Bool.or_true, Bool.true_or, Bool.or_false, Bool.false_or, Bool.not_true, Bool.not_false, true_and, and_true, rowA_whole, push_n, set_n, push_obj, set_obj, set_push, set_push_ne, set_set, Nat.add_assoc, Nat.left_eq_add, Nat.add_eq_left, Nat.add_left_cancel_iff, Nat.reduceEqDiff, stO_1s, stO_ws, boxA_s, one_bool, one_int, one_str, one_ptr, one_nilptr, one_slice, one_eslice, one_nilslice, one_func, one_iface, one_niliface, List.all_cons, List.all_nil, List.length_cons, List.length_nil, Nat.reduceLT, Nat.reduceEqDiff, Nat.reduceLeDiff, Bool.and_true, Nat.one_ne_zero, Nat.succ_ne_zero, reduceIte, if_false, List.getElem?_cons_zero, List.set_cons_zero, List.set_cons_succ]
      refine ⟨_, ?_, v6, g1.n, g1.n + 1, k + 1, rfl, by omega, rfl, wr64_succ k (by omega), E, by omega, by omega, ?_⟩
      · omega
      · rw [List.take_add_one, hkp, ← List.append_assoc, strRows_append]; exact o6
    · obtain rfl : k = bs.length := by omega
      rw [List.take_length] at o
      simp only [i5, go_sem, Hold.p, HoldK.k, HoldL.K, HoldL.body, Nat.reduceBEq, Nat.reduceAdd, List.getElem?_cons_zero, List.getElem?_cons_succ, Option.bind_some, List.map_cons, List.map_nil, Nat.zero_add, if_true, List.getD_cons_zero, List.getD_cons_succ, List.contains_cons, List.contains_nil, Nat.reduceBEq, Bool.or_true, Bool.true_or, Bool.or_false, Bool.false_or, Bool.not_true, Bool.not_false, true_and, and_true, rowA_whole, push_n, set_n, push_obj, set_obj, set_push, set_push_ne, set_set, Nat.add_assoc, Nat.left_eq_add, Nat.add_eq_left, Nat.add_left_cancel_iff, Nat.reduceEqDiff, stO_1s, stO_ws, boxA_s, one_bool, one_int, one_str, one_ptr, one_nilptr, one_slice, one_eslice, one_nilslice, one_func, one_iface, one_niliface, List.all_cons, List.all_nil, List.length_cons, List.length_nil, Nat.reduceLT, Nat.reduceEqDiff, Nat.reduceLeDiff, Bool.and_true, Nat.one_ne_zero, Nat.succ_ne_zero, reduceIte, if_false, List.getElem?_cons_zero, List.set_cons_zero, List.set_cons_succ]
      exact ⟨o.wide hlo hhi (Nat.le_refl _), E⟩

set_option maxRecDepth 20000 in
theorem eqByteS_c (h : IH) (v w : IV) (bs : List UInt8) (hv : SlR h 1 v (strRows bs)) (hw : SlR h 1 w (strRows bs)) (hm : bs.length ≤ 16777300) :
    ICalls Tryd.prog 18 [v, w] h fun r h' => r = .bool true ∧ h' = h := by
  refine icalls (.of ok18) (Nat.le_of_ble_eq_true rfl) ?_
  unfold c18
  have hlv := hv.lenF
  have hlw := hw.lenF
  rw [strRows_len] at hlv hlw
  simp only [hlv, hlw, decide_true, go_sem, Hold.p, HoldK.k, HoldL.K, HoldL.body, Nat.reduceBEq, Nat.reduceAdd, List.getElem?_cons_zero, List.getElem?_cons_succ, Option.bind_some, List.map_cons, List.map_nil, Nat.zero_add, if_true, List.getD_cons_zero, List.getD_cons_succ, List.contains_cons, List.contains_nil, Nat.reduceBEq, Bool.or_true, Bool.true_or, Bool.or_false, Bool.false_or, Bool.not_true, Bool.not_false, true_and, and_true]
  refine loop_at (fun n e h' => ∃ k, n = bs.length - k ∧ k ≤ bs.length ∧ e 0 = v ∧ e 1 = w ∧ e 5 = .int .i64 (k : Nat) ∧ h' = h) bs.length ?_ ?_
  · refine ⟨0, by omega, by omega, ?_⟩
    simp only [go_sem, Hold.p, HoldK.k, HoldL.K, HoldL.body, Nat.reduceBEq, Nat.reduceAdd, List.getElem?_cons_zero, List.getElem?_cons_succ, Option.bind_some, List.map_cons, List.map_nil, Nat.zero_add, if_true, List.getD_cons_zero, List.getD_cons_succ, List.contains_cons, List.contains_nil, Nat.reduceBEq, Bool.or_true, Bool.true_or, Bool.or_false, Bool.false_or, Bool.not_true, Bool.not_false, true_and, and_true]
    rfl
  · rintro n e h' ⟨k, rfl, hk, e0, e1, e5, rfl⟩
    simp only [e0, e1, e5, hlv, go_sem, Hold.p, HoldK.k, HoldL.K, HoldL.body, Nat.reduceBEq, Nat.reduceAdd, List.getElem?_cons_zero, List.getElem?_cons_succ, Option.bind_some, List.map_cons, List.map_nil, Nat.zero_add, if_true, List.getD_cons_zero, List.getD_cons_succ, List.contains_cons, List.contains_nil, Nat.reduceBEq, Bool.or_true, Bool.true_or, Bool.or_false, Bool.false_or, Bool.not_true, Bool.not_false, true_and, and_true]
    refine test_dec (fun hb => ?_) (fun hb => ?_)
    · have hlt' : k < bs.length := by omega
      have hkp : bs[k]? = some bs[k] := List.getElem?_eq_getElem hlt'
      generalize bs[k] = p at hkp
      obtain ⟨l, j, hia, hll, hrow⟩ := hv.at (m := k) (strRows_at hkp) .i64
      obtain ⟨l2, j2, hia2, hll2, hrow2⟩ := hw.at (m := k) (strRows_at hkp) .i64
      have hc := cellO_row hrow
      have hc2 := cellO_row hrow2
      simp only [e0, e1, e5, hlv, hia, hia2, hc, hc2, decide_true, go_sem, Hold.p, HoldK.k, HoldL.K, HoldL.body, Nat.reduceBEq, Nat.reduceAdd, List.getElem?_cons_zero, List.getElem?_cons_succ, Option.bind_some, List.map_cons, List.map_nil, Nat.zero_add, if_true, List.getD_cons_zero, List.getD_cons_succ, List.contains_cons, List.contains_nil, Nat.reduceBEq, Bool.or_true, Bool.true_or, Bool.or_false, Bool.false_or, Bool.not_true, Bool.not_false, true_and, and_true]
      exact ⟨_, by omega, k + 1, rfl, by omega, wr64_succ k (by omega)⟩
    · simp only [e0, e1, e5, go_sem, Hold.p, HoldK.k, HoldL.K, HoldL.body, Nat.reduceBEq, Nat.reduceAdd, List.getElem?_cons_zero, List.getElem?_cons_succ, Option.bind_some, List.map_cons, List.map_nil, Nat.zero_add, if_true, List.getD_cons_zero, List.getD_cons_succ, List.contains_cons, List.contains_nil, Nat.reduceBEq, Bool.or_true, Bool.true_or, Bool.or_false, Bool.false_or, Bool.not_true, Bool.not_false, true_and, and_true]

def marksB (n k0 : Nat) : List (List IV) := (List.range n).map fun j => [.int .u8 (wr .u8 ((k0 + j : Nat) : Int))]

set_option maxRecDepth 20000 in
theorem markByteS_n (h : IH) (l n k0 e0 : Nat) (rs : List (List IV)) (hn : rs.length = n) (h0 : n ≠ 0) (hob : h.obj l = .rows rs e0 1 false) (hl : l < h.n)
    (hrs : ∀ r ∈ rs, r.length = 1) (hk : k0 + n < 4611686018427387904) :
    ICalls Tryd.prog 19 [.slice l 0 n, .int .i64 k0] h fun r h' => r = .int .i64 ((k0 + n : Nat) : Int) ∧ h' = h.set l (.rows (marksB n k0) e0 1 false) := by
  refine icalls (.of ok19) (Nat.le_of_ble_eq_true rfl) ?_
  unfold c19
  have hml : (marksB n k0).length = n := by simp [marksB]
  simp only [go_sem, Hold.p, HoldK.k, HoldL.K, HoldL.body, Nat.reduceBEq, Nat.reduceAdd, List.getElem?_cons_zero, List.getElem?_cons_succ, Option.bind_some, List.map_cons, List.map_nil, Nat.zero_add, if_true, List.getD_cons_zero, List.getD_cons_succ, List.contains_cons, List.contains_nil, Nat.reduceBEq, Bool.or_true, Bool.true_or, Bool.or_false, Bool.false_or, Bool.not_true, Bool.not_false, true_and, and_true]
  refine loop_at (fun m e h' => ∃ k, m = n - k ∧ k ≤ n ∧ e 0 = .slice l 0 n ∧ e 1 = .int .i64 ((k0 + k : Nat) : Int) ∧ e 5 = .int .i64 (k : Nat) ∧
    h' = h.set l (.rows ((marksB n k0).take k ++ rs.drop k) e0 1 false)) n ?_ ?_
  · refine ⟨0, by omega, by omega, ?_⟩
    simp only [go_sem, Hold.p, HoldK.k, HoldL.K, HoldL.body, Nat.reduceBEq, Nat.reduceAdd, List.getElem?_cons_zero, List.getElem?_cons_succ, Option.bind_some, List.map_cons, List.map_nil, Nat.zero_add, if_true, List.getD_cons_zero, List.getD_cons_succ, List.contains_cons, List.contains_nil, Nat.reduceBEq, Bool.or_true, Bool.true_or, Bool.or_false, Bool.false_or, Bool.not_true, Bool.not_false, true_and, and_true]
    exact ⟨by simp, rfl, (set_self (by simpa using hob)).symm⟩
  · rintro m e h' ⟨k, rfl, hkn, e0', e1, e5, rfl⟩
    simp only [e0', e1, e5, go_sem, Hold.p, HoldK.k, HoldL.K, HoldL.body, Nat.reduceBEq, Nat.reduceAdd, List.getElem?_cons_zero, List.getElem?_cons_succ, Option.bind_some, List.map_cons, List.map_nil, Nat.zero_add, if_true, List.getD_cons_zero, List.getD_cons_succ, List.contains_cons, List.contains_nil, Nat.reduceBEq, Bool.or_true, Bool.true_or, Bool.or_false, Bool.false_or, Bool.not_true, Bool.not_false, true_and, and_true]
    refine test_dec (fun hb => ?_) (fun hb => ?_)
    · have hkn' : k < n := by omega
      obtain ⟨row, hrow⟩ : ∃ row, rs[k]? = some row := ⟨rs[k], List.getElem?_eq_getElem (by omega)⟩
      have hrl : row.length = 1 := hrs row (List.mem_of_getElem? hrow)
      match row, hrl with
      | [a0], _ =>
      generalize hh : h.set l (.rows ((marksB n k0).take k ++ rs.drop k) e0 1 false) = h1
      have hob1 : h1.obj l = .rows ((marksB n k0).take k ++ rs.drop k) e0 1 false := by rw [← hh, set_here]
      have hr1 : rowO (h1.obj l) k = some [a0] := by
        rw [hob1]
        show (_ ++ _)[k]? = _
        rw [List.getElem?_append_right (by simp; omega)]
        simp [hkn, hml, hrow]
      have hia : iadrF h1 1 (.slice l 0 n) (.int .i64 k) = some (.ptr l k 0) := by
        rw [iadrF_nat hkn' (by rw [hob1]; rfl), Nat.zero_add]
      rw [← put_self hr1]
      have hr2 : (rowO (h1.obj l) k).isSome = true := by rw [hr1]; rfl
      have ho1 : (h1.obj l).own = true := by rw [hob1]; rfl
      generalize hq : k0 + k = q at e1
      have hq' : q + 1 < 4611686018427387904 := by omega
      have w0 : wr .i64 (((q : Nat) : Int) + 1) = ((q + 1 : Nat) : Int) := by rw [wr64 _ (by omega)]; rfl
      simp only [e0', e1, e5, hia, iadrF_put, stA_put1 hr2 ho1, put_put, w0, go_sem, Hold.p, HoldK.k, HoldL.K, HoldL.body, Nat.reduceBEq, Nat.reduceAdd, List.getElem?_cons_zero, List.getElem?_cons_succ, Option.bind_some, List.map_cons, List.map_nil, Nat.zero_add, if_true, List.getD_cons_zero, List.getD_cons_succ, List.contains_cons, List.contains_nil, Nat.reduceBEq, Bool.or_true, Bool.true_or, Bool.or_false, Bool.false_or, Bool.not_true, Bool.not_false, true_and, and_true, rowA_whole, push_n, set_n, push_obj, set_obj, set_push, set_push_ne, set_set, Nat.add_assoc, Nat.left_eq_add, Nat.add_eq_left, Nat.add_left_cancel_iff, Nat.reduceEqDiff, stO_1s, stO_ws, boxA_s, one_bool, one_int, one_str, one_ptr, one_nilptr, one_slice, one_eslice, one_nilslice, one_func, one_iface, one_niliface, List.all_cons, List.all_nil, List.length_cons, List.length_nil, Nat.reduceLT, Nat.reduceEqDiff, Nat.reduceLeDiff, Bool.and_true, Nat.one_ne_zero, Nat.succ_ne_zero, reduceIte, if_false, List.getElem?_cons_zero, List.set_cons_zero, List.set_cons_succ]
      subst hq
      refine ⟨_, ?_, k + 1, rfl, by omega, by congr 2, wr64_succ k (by omega), ?_⟩
      · omega
      · unfold IH.put
        rw [hob1, ← hh, set_set]
        unfold putO
        have := over_set (xs := marksB n k0) (ys := rs) (k := k) (x := [.int .u8 (wr .u8 ((k0 + k : Nat) : Int))]) (by rw [hml, hn]) (by unfold marksB; simp [hkn'])
        rw [← this]
    · simp only [e0', e1, e5, go_sem, Hold.p, HoldK.k, HoldL.K, HoldL.body, Nat.reduceBEq, Nat.reduceAdd, List.getElem?_cons_zero, List.getElem?_cons_succ, Option.bind_some, List.map_cons, List.map_nil, Nat.zero_add, if_true, List.getD_cons_zero, List.getD_cons_succ, List.contains_cons, List.contains_nil, Nat.reduceBEq, Bool.or_true, Bool.true_or, Bool.or_false, Bool.false_or, Bool.not_true, Bool.not_false, true_and, and_true]
      obtain rfl : k = n := by omega
      exact ⟨rfl, by congr 2; rw [List.drop_eq_nil_of_le (by omega), List.append_nil, List.take_of_length_le (by omega)]⟩

theorem rows1 {bs : List UInt8} : ∀ r ∈ strRows bs, r.length = 1 := by
  intro r hr
  obtain ⟨p, _, rfl⟩ := List.mem_map.1 hr
  rfl
set_option maxRecDepth 20000 in
theorem markByteS_c {lo hi : Nat} (h : IH) (v : IV) (k0 : Nat) (rs : List (List IV)) (ho : Own lo hi h 5 1 v rs) (hrs : ∀ r ∈ rs, r.length = 1) (hk : k0 + rs.length < 4611686018427387904) :
    ICalls Tryd.prog 19 [v, .int .i64 k0] h fun r h' => r = .int .i64 ((k0 + rs.length : Nat) : Int) ∧ Own lo hi h' 5 1 v (marksB rs.length k0) ∧ Turn v h h' := by
  refine ho.mark (fun hr hlen h1 => ?_) (fun l hv h0 hl h1 h2 h3 hob => ?_)
  · subst hr
    refine icalls (.of ok19) (Nat.le_of_ble_eq_true rfl) ?_
    unfold c19
    simp only [hlen, go_sem, Hold.p, HoldK.k, HoldL.K, HoldL.body, Nat.reduceBEq, Nat.reduceAdd, List.getElem?_cons_zero, List.getElem?_cons_succ, Option.bind_some, List.map_cons, List.map_nil, Nat.zero_add, if_true, List.getD_cons_zero, List.getD_cons_succ, List.contains_cons, List.contains_nil, Nat.reduceBEq, Bool.or_true, Bool.true_or, Bool.or_false, Bool.false_or, Bool.not_true, Bool.not_false, true_and, and_true]
    refine loop_at (fun m e h' => m = 0 ∧ h' = h ∧ e 0 = v ∧ e 1 = .int .i64 k0 ∧ e 5 = .int .i64 0) 0 ?_ ?_
    · simp only [go_sem, Hold.p, HoldK.k, HoldL.K, HoldL.body, Nat.reduceBEq, Nat.reduceAdd, List.getElem?_cons_zero, List.getElem?_cons_succ, Option.bind_some, List.map_cons, List.map_nil, Nat.zero_add, if_true, List.getD_cons_zero, List.getD_cons_succ, List.contains_cons, List.contains_nil, Nat.reduceBEq, Bool.or_true, Bool.true_or, Bool.or_false, Bool.false_or, Bool.not_true, Bool.not_false, true_and, and_true]
    · rintro m e h' ⟨rfl, rfl, e0, e1, e5⟩
      simp only [e0, e1, e5, hlen, go_sem, Hold.p, HoldK.k, HoldL.K, HoldL.body, Nat.reduceBEq, Nat.reduceAdd, List.getElem?_cons_zero, List.getElem?_cons_succ, Option.bind_some, List.map_cons, List.map_nil, Nat.zero_add, if_true, List.getD_cons_zero, List.getD_cons_succ, List.contains_cons, List.contains_nil, Nat.reduceBEq, Bool.or_true, Bool.true_or, Bool.or_false, Bool.false_or, Bool.not_true, Bool.not_false, true_and, and_true]
      refine test_dec (fun hb => absurd hb (by simp)) (fun _ => ?_)
      simp only [e0, e1, e5, go_sem, Hold.p, HoldK.k, HoldL.K, HoldL.body, Nat.reduceBEq, Nat.reduceAdd, List.getElem?_cons_zero, List.getElem?_cons_succ, Option.bind_some, List.map_cons, List.map_nil, Nat.zero_add, if_true, List.getD_cons_zero, List.getD_cons_succ, List.contains_cons, List.contains_nil, Nat.reduceBEq, Bool.or_true, Bool.true_or, Bool.or_false, Bool.false_or, Bool.not_true, Bool.not_false, true_and, and_true]
      exact ⟨by simp, ho, Turn.refl _ _⟩
  · subst hv
    refine (markByteS_n h l rs.length k0 5 rs rfl h0 hob hl hrs hk).mono ?_
    rintro r h' ⟨rfl, rfl⟩
    exact ⟨rfl, Own.over (by simp [marksB]) h0 h1 h2 h3, Turn.set _⟩

set_option maxRecDepth 20000 in
theorem heldByteS_c (h : IH) (v : IV) (n k0 : Nat) (hs : SlR h 1 v (marksB n k0)) (hk : k0 + n < 4611686018427387904) :
    ICalls Tryd.prog 20 [v, .int .i64 k0] h fun r h' => r = .int .i64 ((k0 + n : Nat) : Int) ∧ h' = h := by
  refine icalls (.of ok20) (Nat.le_of_ble_eq_true rfl) ?_
  unfold c20
  have hlen := hs.lenF
  have hml : (marksB n k0).length = n := by simp [marksB]
  rw [hml] at hlen
  simp only [go_sem, Hold.p, HoldK.k, HoldL.K, HoldL.body, Nat.reduceBEq, Nat.reduceAdd, List.getElem?_cons_zero, List.getElem?_cons_succ, Option.bind_some, List.map_cons, List.map_nil, Nat.zero_add, if_true, List.getD_cons_zero, List.getD_cons_succ, List.contains_cons, List.contains_nil, Nat.reduceBEq, Bool.or_true, Bool.true_or, Bool.or_false, Bool.false_or, Bool.not_true, Bool.not_false, true_and, and_true]
  refine loop_at (fun m e h' => ∃ k, m = n - k ∧ k ≤ n ∧ e 0 = v ∧ e 1 = .int .i64 ((k0 + k : Nat) : Int) ∧ e 5 = .int .i64 (k : Nat) ∧ h' = h) n ?_ ?_
  · refine ⟨0, by omega, by omega, ?_⟩
    simp only [go_sem, Hold.p, HoldK.k, HoldL.K, HoldL.body, Nat.reduceBEq, Nat.reduceAdd, List.getElem?_cons_zero, List.getElem?_cons_succ, Option.bind_some, List.map_cons, List.map_nil, Nat.zero_add, if_true, List.getD_cons_zero, List.getD_cons_succ, List.contains_cons, List.contains_nil, Nat.reduceBEq, Bool.or_true, Bool.true_or, Bool.or_false, Bool.false_or, Bool.not_true, Bool.not_false, true_and, and_true]
    exact ⟨by simp, rfl⟩
  · rintro m e h' ⟨k, rfl, hkn, e0', e1, e5, rfl⟩
    simp only [e0', e1, e5, hlen, go_sem, Hold.p, HoldK.k, HoldL.K, HoldL.body, Nat.reduceBEq, Nat.reduceAdd, List.getElem?_cons_zero, List.getElem?_cons_succ, Option.bind_some, List.map_cons, List.map_nil, Nat.zero_add, if_true, List.getD_cons_zero, List.getD_cons_succ, List.contains_cons, List.contains_nil, Nat.reduceBEq, Bool.or_true, Bool.true_or, Bool.or_false, Bool.false_or, Bool.not_true, Bool.not_false, true_and, and_true]
    refine test_dec (fun hb => ?_) (fun hb => ?_)
    · have hkn' : k < n := by omega
      obtain ⟨l, j, hia, hll, hrow⟩ := hs.at (m := k) (row := [.int .u8 (wr .u8 ((k0 + k : Nat) : Int))]) (by unfold marksB; simp [hkn']) .i64
      have hc := cellO_row hrow
      generalize hq : k0 + k = q at e1 hc
      have hq' : q + 1 < 4611686018427387904 := by omega
      have w0 : wr .i64 (((q : Nat) : Int) + 1) = ((q + 1 : Nat) : Int) := by rw [wr64 _ (by omega)]; rfl
      simp only [e0', e1, e5, hia, hc, decide_true, w0, go_sem, Hold.p, HoldK.k, HoldL.K, HoldL.body, Nat.reduceBEq, Nat.reduceAdd, List.getElem?_cons_zero, List.getElem?_cons_succ, Option.bind_some, List.map_cons, List.map_nil, Nat.zero_add, if_true, List.getD_cons_zero, List.getD_cons_succ, List.contains_cons, List.contains_nil, Nat.reduceBEq, Bool.or_true, Bool.true_or, Bool.or_false, Bool.false_or, Bool.not_true, Bool.not_false, true_and, and_true]
      subst hq
      refine ⟨_, ?_, k + 1, rfl, by omega, by congr 2, wr64_succ k (by omega)⟩
      omega
    · simp only [e0', e1, e5, hlen, go_sem, Hold.p, HoldK.k, HoldL.K, HoldL.body, Nat.reduceBEq, Nat.reduceAdd, List.getElem?_cons_zero, List.getElem?_cons_succ, Option.bind_some, List.map_cons, List.map_nil, Nat.zero_add, if_true, List.getD_cons_zero, List.getD_cons_succ, List.contains_cons, List.contains_nil, Nat.reduceBEq, Bool.or_true, Bool.true_or, Bool.or_false, Bool.false_or, Bool.not_true, Bool.not_false, true_and, and_true]
      obtain rfl : k = n := by omega
      trivial

set_option maxRecDepth 20000 in
theorem l01In_c (h : IH) (n lo hi : Int) :
    ICalls Tryd.prog 78 [.int .i64 n, .int .i64 lo, .int .i64 hi] h fun r h' => r = .bool (decide (lo ≤ n) && decide (n ≤ hi)) ∧ h' = h := by
  refine icalls (.of ok78) (Nat.le_of_ble_eq_true rfl) ?_
  unfold c78
  simp only [go_sem, Hold.p, HoldK.k, HoldL.K, HoldL.body, Nat.reduceBEq, Nat.reduceAdd, List.getElem?_cons_zero, List.getElem?_cons_succ, Option.bind_some, List.map_cons, List.map_nil, Nat.zero_add, if_true, List.getD_cons_zero, List.getD_cons_succ, List.contains_cons, List.contains_nil, Nat.reduceBEq, Bool.or_true, Bool.true_or, Bool.or_false, Bool.false_or, Bool.not_true, Bool.not_false, true_and, and_true]
  refine guard_of (fun hb => ?_) (fun hb => ?_)
  · simp only [hb, go_sem, Hold.p, HoldK.k, HoldL.K, HoldL.body, Nat.reduceBEq, Nat.reduceAdd, List.getElem?_cons_zero, List.getElem?_cons_succ, Option.bind_some, List.map_cons, List.map_nil, Nat.zero_add, if_true, List.getD_cons_zero, List.getD_cons_succ, List.contains_cons, List.contains_nil, Nat.reduceBEq, Bool.or_true, Bool.true_or, Bool.or_false, Bool.false_or, Bool.not_true, Bool.not_false, true_and, and_true]
    simp at hb; simp [hb]
  · simp only [hb, go_sem, Hold.p, HoldK.k, HoldL.K, HoldL.body, Nat.reduceBEq, Nat.reduceAdd, List.getElem?_cons_zero, List.getElem?_cons_succ, Option.bind_some, List.map_cons, List.map_nil, Nat.zero_add, if_true, List.getD_cons_zero, List.getD_cons_succ, List.contains_cons, List.contains_nil, Nat.reduceBEq, Bool.or_true, Bool.true_or, Bool.or_false, Bool.false_or, Bool.not_true, Bool.not_false, true_and, and_true]
    simp at hb; simp [hb]
set_option maxRecDepth 20000 in
theorem l10PortOK_c (h : IH) (n : Int) :
    ICalls Tryd.prog 60 [.int .i64 n] h fun r h' => r = .bool (decide (0 ≤ n) && decide (n ≤ 65535)) ∧ h' = h := by
  refine icalls (.of ok60) (Nat.le_of_ble_eq_true rfl) ?_
  unfold c60
  simp only [go_sem, Hold.p, HoldK.k, HoldL.K, HoldL.body, Nat.reduceBEq, Nat.reduceAdd, List.getElem?_cons_zero, List.getElem?_cons_succ, Option.bind_some, List.map_cons, List.map_nil, Nat.zero_add, if_true, List.getD_cons_zero, List.getD_cons_succ, List.contains_cons, List.contains_nil, Nat.reduceBEq, Bool.or_true, Bool.true_or, Bool.or_false, Bool.false_or, Bool.not_true, Bool.not_false, true_and, and_true]
  refine callA_of (l01In_c h n 0 65535) ?_
  rintro r h' ⟨rfl, rfl⟩
  simp only [go_sem, Hold.p, HoldK.k, HoldL.K, HoldL.body, Nat.reduceBEq, Nat.reduceAdd, List.getElem?_cons_zero, List.getElem?_cons_succ, Option.bind_some, List.map_cons, List.map_nil, Nat.zero_add, if_true, List.getD_cons_zero, List.getD_cons_succ, List.contains_cons, List.contains_nil, Nat.reduceBEq, Bool.or_true, Bool.true_or, Bool.or_false, Bool.false_or, Bool.not_true, Bool.not_false, true_and, and_true]
end Go.Proofs.YtcmcfmgabafljaaDoor

namespace Go.Proofs.YtcmcfmgabafljaaDoor
open Go Go.IW

/-- A query's bytes, and the code. -/
def encQ (id : Int) (s : List UInt8) : List UInt8 × Int :=
  if (0 ≤ id ∧ id ≤ 65535) ∧ okName s = true then ((beB 2 id ++ [0, UInt8.ofNat s.length]) ++ s, 0) else ([], 1)
def BytesRes (h h' : IH) (r : IV) (x : List UInt8 × Int) : Prop := ∃ v, r = .tuple [v, .int .i64 x.2] ∧ Own h.n h'.n h' 5 1 v (strRows x.1) ∧ Ext h h'
theorem okName_ne {s : List UInt8} (h : okName s = true) : s ≠ [] ∧ s.length ≤ 63 := by
  constructor
  · rintro rfl; exact absurd h (by decide)
  · unfold okName at h; simp at h; exact h.1
theorem u8_len {n : Nat} (hn : n ≤ 255) : wr .u8 (n : Int) = ((UInt8.ofNat n).toNat : Int) := by
  have : ((n : Int) % 256).toNat = n := by omega
  rw [wr_u8, this]

set_option maxRecDepth 20000 in
theorem toNameQuery_c (h : IH) (id : Int) (s : List UInt8) : ICalls Tryd.prog 16 [.agg [.int .i64 id, .str s]] h fun r h' => r = .agg [.int .i64 id, .str s] ∧ Ext h h' := by
  refine icalls (.of ok16) (Nat.le_of_ble_eq_true rfl) ?_
  unfold c16
  simp only [go_sem, Hold.p, HoldK.k, HoldL.K, HoldL.body, Nat.reduceBEq, Nat.reduceAdd, List.getElem?_cons_zero, List.getElem?_cons_succ, Option.bind_some, List.map_cons, List.map_nil, Nat.zero_add, if_true, List.getD_cons_zero, List.getD_cons_succ, List.contains_cons, List.contains_nil, Nat.reduceBEq, Bool.or_true, Bool.true_or, Bool.or_false, Bool.false_or, Bool.not_true, Bool.not_false, true_and, and_true, rowA_whole, push_n, set_n, push_obj, set_obj, set_push, set_push_ne, set_set, Nat.add_assoc, Nat.left_eq_add, Nat.add_eq_left, Nat.add_left_cancel_iff, Nat.reduceEqDiff, stO_1s, stO_ws, boxA_s, one_bool, one_int, one_str, one_ptr, one_nilptr, one_slice, one_eslice, one_nilslice, one_func, one_iface, one_niliface, List.all_cons, List.all_nil, List.length_cons, List.length_nil, Nat.reduceLT, Nat.reduceEqDiff, Nat.reduceLeDiff, Bool.and_true, Nat.one_ne_zero, Nat.succ_ne_zero, reduceIte, if_false, List.getElem?_cons_zero, List.set_cons_zero, List.set_cons_succ]
  exact ((Ext.refl _).push _ |>.push _ |>.push _)
set_option maxRecDepth 20000 in
theorem szNameQuery_c (h : IH) (id left : Int) (s : List UInt8) (hl : 0 ≤ left ∧ left ≤ 1048576) (hm : s.length ≤ maxLen) : ICalls Tryd.prog 14 [.agg [.int .i64 id, .str s], .int .i64 left] h fun r h' => r = .int .i64 (if left < s.length then -1 else left - s.length) ∧ Ext h h' := by
  refine icalls (.of ok14) (Nat.le_of_ble_eq_true rfl) ?_
  unfold c14
  have hw : wr .i64 (left - s.length) = left - s.length := wr64 _ (by unfold maxLen at hm; omega)
  simp only [hw, go_sem, Hold.p, HoldK.k, HoldL.K, HoldL.body, Nat.reduceBEq, Nat.reduceAdd, List.getElem?_cons_zero, List.getElem?_cons_succ, Option.bind_some, List.map_cons, List.map_nil, Nat.zero_add, if_true, List.getD_cons_zero, List.getD_cons_succ, List.contains_cons, List.contains_nil, Nat.reduceBEq, Bool.or_true, Bool.true_or, Bool.or_false, Bool.false_or, Bool.not_true, Bool.not_false, true_and, and_true, rowA_whole, push_n, set_n, push_obj, set_obj, set_push, set_push_ne, set_set, Nat.add_assoc, Nat.left_eq_add, Nat.add_eq_left, Nat.add_left_cancel_iff, Nat.reduceEqDiff, stO_1s, stO_ws, boxA_s, one_bool, one_int, one_str, one_ptr, one_nilptr, one_slice, one_eslice, one_nilslice, one_func, one_iface, one_niliface, List.all_cons, List.all_nil, List.length_cons, List.length_nil, Nat.reduceLT, Nat.reduceEqDiff, Nat.reduceLeDiff, Bool.and_true, Nat.one_ne_zero, Nat.succ_ne_zero, reduceIte, if_false, List.getElem?_cons_zero, List.set_cons_zero, List.set_cons_succ]
  refine test_dec (fun hb => ?_) (fun hb => ?_)
  · simp only [hw, go_sem, Hold.p, HoldK.k, HoldL.K, HoldL.body, Nat.reduceBEq, Nat.reduceAdd, List.getElem?_cons_zero, List.getElem?_cons_succ, Option.bind_some, List.map_cons, List.map_nil, Nat.zero_add, if_true, List.getD_cons_zero, List.getD_cons_succ, List.contains_cons, List.contains_nil, Nat.reduceBEq, Bool.or_true, Bool.true_or, Bool.or_false, Bool.false_or, Bool.not_true, Bool.not_false, true_and, and_true, rowA_whole, push_n, set_n, push_obj, set_obj, set_push, set_push_ne, set_set, Nat.add_assoc, Nat.left_eq_add, Nat.add_eq_left, Nat.add_left_cancel_iff, Nat.reduceEqDiff, stO_1s, stO_ws, boxA_s, one_bool, one_int, one_str, one_ptr, one_nilptr, one_slice, one_eslice, one_nilslice, one_func, one_iface, one_niliface, List.all_cons, List.all_nil, List.length_cons, List.length_nil, Nat.reduceLT, Nat.reduceEqDiff, Nat.reduceLeDiff, Bool.and_true, Nat.one_ne_zero, Nat.succ_ne_zero, reduceIte, if_false, List.getElem?_cons_zero, List.set_cons_zero, List.set_cons_succ]
    rw [if_pos (by omega)]
    exact ⟨rfl, (Ext.refl _).push _⟩
  · simp only [hw, go_sem, Hold.p, HoldK.k, HoldL.K, HoldL.body, Nat.reduceBEq, Nat.reduceAdd, List.getElem?_cons_zero, List.getElem?_cons_succ, Option.bind_some, List.map_cons, List.map_nil, Nat.zero_add, if_true, List.getD_cons_zero, List.getD_cons_succ, List.contains_cons, List.contains_nil, Nat.reduceBEq, Bool.or_true, Bool.true_or, Bool.or_false, Bool.false_or, Bool.not_true, Bool.not_false, true_and, and_true, rowA_whole, push_n, set_n, push_obj, set_obj, set_push, set_push_ne, set_set, Nat.add_assoc, Nat.left_eq_add, Nat.add_eq_left, Nat.add_left_cancel_iff, Nat.reduceEqDiff, stO_1s, stO_ws, boxA_s, one_bool, one_int, one_str, one_ptr, one_nilptr, one_slice, one_eslice, one_nilslice, one_func, one_iface, one_niliface, List.all_cons, List.all_nil, List.length_cons, List.length_nil, Nat.reduceLT, Nat.reduceEqDiff, Nat.reduceLeDiff, Bool.and_true, Nat.one_ne_zero, Nat.succ_ne_zero, reduceIte, if_false, List.getElem?_cons_zero, List.set_cons_zero, List.set_cons_succ]
    rw [if_neg (by omega)]
    exact ⟨rfl, (Ext.refl _).push _⟩

set_option maxRecDepth 20000 in
theorem specEncodeQuery_c (h : IH) (id : Int) (s : List UInt8) (hm : s.length ≤ 1048576) : ICalls Tryd.prog 15 [.agg [.int .i64 id, .str s]] h fun r h' => BytesRes h h' r (encQ id s) := by
  refine icalls (.of ok15) (Nat.le_of_ble_eq_true rfl) ?_
  unfold c15
  simp only [go_sem, Hold.p, HoldK.k, HoldL.K, HoldL.body, Nat.reduceBEq, Nat.reduceAdd, List.getElem?_cons_zero, List.getElem?_cons_succ, Option.bind_some, List.map_cons, List.map_nil, Nat.zero_add, if_true, List.getD_cons_zero, List.getD_cons_succ, List.contains_cons, List.contains_nil, Nat.reduceBEq, Bool.or_true, Bool.true_or, Bool.or_false, Bool.false_or, Bool.not_true, Bool.not_false, true_and, and_true, rowA_whole, push_n, set_n, push_obj, set_obj, set_push, set_push_ne, set_set, Nat.add_assoc, Nat.left_eq_add, Nat.add_eq_left, Nat.add_left_cancel_iff, Nat.reduceEqDiff, stO_1s, stO_ws, boxA_s, one_bool, one_int, one_str, one_ptr, one_nilptr, one_slice, one_eslice, one_nilslice, one_func, one_iface, one_niliface, List.all_cons, List.all_nil, List.length_cons, List.length_nil, Nat.reduceLT, Nat.reduceEqDiff, Nat.reduceLeDiff, Bool.and_true, Nat.one_ne_zero, Nat.succ_ne_zero, reduceIte, if_false, List.getElem?_cons_zero, List.set_cons_zero, List.set_cons_succ]
  generalize hq_g0 : IH.push h (IObj.rows [[IV.int .i64 id, IV.str s]] 29 2 false) = g0
  have e_g0 : Ext h g0 := by rw [← hq_g0]; exact (Ext.refl _).push _
  have l_g0 : g0.n = h.n + 1 := by rw [← hq_g0]; rfl
  have bb : At g0 h.n (IObj.rows [[IV.int .i64 id, IV.str s]] 29 2 false) := by rw [← hq_g0]; exact At.new _ _
  clear hq_g0
  refine callA_of (l10PortOK_c _ id) ?_
  rintro r g0' ⟨rfl, rfl⟩
  cases q1 : (decide (0 ≤ id) && decide (id ≤ 65535))
  · simp only [q1, go_sem, Hold.p, HoldK.k, HoldL.K, HoldL.body, Nat.reduceBEq, Nat.reduceAdd, List.getElem?_cons_zero, List.getElem?_cons_succ, Option.bind_some, List.map_cons, List.map_nil, Nat.zero_add, if_true, List.getD_cons_zero, List.getD_cons_succ, List.contains_cons, List.contains_nil, Nat.reduceBEq, Bool.or_true, Bool.true_or, Bool.or_false, Bool.false_or, Bool.not_true, Bool.not_false, true_and, and_true, rowA_whole, push_n, set_n, push_obj, set_obj, set_push, set_push_ne, set_set, Nat.add_assoc, Nat.left_eq_add, Nat.add_eq_left, Nat.add_left_cancel_iff, Nat.reduceEqDiff, stO_1s, stO_ws, boxA_s, one_bool, one_int, one_str, one_ptr, one_nilptr, one_slice, one_eslice, one_nilslice, one_func, one_iface, one_niliface, List.all_cons, List.all_nil, List.length_cons, List.length_nil, Nat.reduceLT, Nat.reduceEqDiff, Nat.reduceLeDiff, Bool.and_true, Nat.one_ne_zero, Nat.succ_ne_zero, reduceIte, if_false, List.getElem?_cons_zero, List.set_cons_zero, List.set_cons_succ]
    have : encQ id s = ([], 1) := if_neg (fun hx => by simp at q1; omega)
    rw [this]
    exact ⟨_, rfl, Own.nil, e_g0⟩
  · simp only [q1, bb.eq, go_sem, Hold.p, HoldK.k, HoldL.K, HoldL.body, Nat.reduceBEq, Nat.reduceAdd, List.getElem?_cons_zero, List.getElem?_cons_succ, Option.bind_some, List.map_cons, List.map_nil, Nat.zero_add, if_true, List.getD_cons_zero, List.getD_cons_succ, List.contains_cons, List.contains_nil, Nat.reduceBEq, Bool.or_true, Bool.true_or, Bool.or_false, Bool.false_or, Bool.not_true, Bool.not_false, true_and, and_true, rowA_whole, push_n, set_n, push_obj, set_obj, set_push, set_push_ne, set_set, Nat.add_assoc, Nat.left_eq_add, Nat.add_eq_left, Nat.add_left_cancel_iff, Nat.reduceEqDiff, stO_1s, stO_ws, boxA_s, one_bool, one_int, one_str, one_ptr, one_nilptr, one_slice, one_eslice, one_nilslice, one_func, one_iface, one_niliface, List.all_cons, List.all_nil, List.length_cons, List.length_nil, Nat.reduceLT, Nat.reduceEqDiff, Nat.reduceLeDiff, Bool.and_true, Nat.one_ne_zero, Nat.succ_ne_zero, reduceIte, if_false, List.getElem?_cons_zero, List.set_cons_zero, List.set_cons_succ]
    refine callA_of (specNameOK_c _ s hm) ?_
    rintro r h1 ⟨rfl, E1⟩
    have E := e_g0.trans E1
    have bb := bb.ext E1
    have le_E1 := E1.le
    cases q2 : okName s
    · simp only [q2, go_sem, Hold.p, HoldK.k, HoldL.K, HoldL.body, Nat.reduceBEq, Nat.reduceAdd, List.getElem?_cons_zero, List.getElem?_cons_succ, Option.bind_some, List.map_cons, List.map_nil, Nat.zero_add, if_true, List.getD_cons_zero, List.getD_cons_succ, List.contains_cons, List.contains_nil, Nat.reduceBEq, Bool.or_true, Bool.true_or, Bool.or_false, Bool.false_or, Bool.not_true, Bool.not_false, true_and, and_true, rowA_whole, push_n, set_n, push_obj, set_obj, set_push, set_push_ne, set_set, Nat.add_assoc, Nat.left_eq_add, Nat.add_eq_left, Nat.add_left_cancel_iff, Nat.reduceEqDiff, stO_1s, stO_ws, boxA_s, one_bool, one_int, one_str, one_ptr, one_nilptr, one_slice, one_eslice, one_nilslice, one_func, one_iface, one_niliface, List.all_cons, List.all_nil, List.length_cons, List.length_nil, Nat.reduceLT, Nat.reduceEqDiff, Nat.reduceLeDiff, Bool.and_true, Nat.one_ne_zero, Nat.succ_ne_zero, reduceIte, if_false, List.getElem?_cons_zero, List.set_cons_zero, List.set_cons_succ]
      have : encQ id s = ([], 1) := if_neg (fun hx => by rw [q2] at hx; exact Bool.noConfusion hx.2)
      rw [this]
      exact ⟨_, rfl, Own.nil, E⟩
    · obtain ⟨hne, hl⟩ := okName_ne q2
      have hdef : encQ id s = ((beB 2 id ++ [0, UInt8.ofNat s.length]) ++ s, 0) := if_pos ⟨by simp at q1; omega, q2⟩
      rw [hdef]
      have w1 := u8_len (n := s.length) (by omega)
      have hbl := bb.lt
      simp only [q2, bb.eq, w1, go_sem, Hold.p, HoldK.k, HoldL.K, HoldL.body, Nat.reduceBEq, Nat.reduceAdd, List.getElem?_cons_zero, List.getElem?_cons_succ, Option.bind_some, List.map_cons, List.map_nil, Nat.zero_add, if_true, List.getD_cons_zero, List.getD_cons_succ, List.contains_cons, List.contains_nil, Nat.reduceBEq, Bool.or_true, Bool.true_or, Bool.or_false, Bool.false_or, Bool.not_true, Bool.not_false, true_and, and_true, rowA_whole, push_n, set_n, push_obj, set_obj, set_push, set_push_ne, set_set, Nat.add_assoc, Nat.left_eq_add, Nat.add_eq_left, Nat.add_left_cancel_iff, Nat.reduceEqDiff, stO_1s, stO_ws, boxA_s, one_bool, one_int, one_str, one_ptr, one_nilptr, one_slice, one_eslice, one_nilslice, one_func, one_iface, one_niliface, List.all_cons, List.all_nil, List.length_cons, List.length_nil, Nat.reduceLT, Nat.reduceEqDiff, Nat.reduceLeDiff, Bool.and_true, Nat.one_ne_zero, Nat.succ_ne_zero, reduceIte, if_false, List.getElem?_cons_zero, List.set_cons_zero, List.set_cons_succ]
      refine either_of ?_ ?_
      · simp only [go_sem, Hold.p, HoldK.k, HoldL.K, HoldL.body, Nat.reduceBEq, Nat.reduceAdd, List.getElem?_cons_zero, List.getElem?_cons_succ, Option.bind_some, List.map_cons, List.map_nil, Nat.zero_add, if_true, List.getD_cons_zero, List.getD_cons_succ, List.contains_cons, List.contains_nil, Nat.reduceBEq, Bool.or_true, Bool.true_or, Bool.or_false, Bool.false_or, Bool.not_true, Bool.not_false, true_and, and_true, rowA_whole, push_n, set_n, push_obj, set_obj, set_push, set_push_ne, set_set, Nat.add_assoc, Nat.left_eq_add, Nat.add_eq_left, Nat.add_left_cancel_iff, Nat.reduceEqDiff, stO_1s, stO_ws, boxA_s, one_bool, one_int, one_str, one_ptr, one_nilptr, one_slice, one_eslice, one_nilslice, one_func, one_iface, one_niliface, List.all_cons, List.all_nil, List.length_cons, List.length_nil, Nat.reduceLT, Nat.reduceEqDiff, Nat.reduceLeDiff, Bool.and_true, Nat.one_ne_zero, Nat.succ_ne_zero, reduceIte, if_false, List.getElem?_cons_zero, List.set_cons_zero, List.set_cons_succ]
        refine callA_of (l03Put_c _ id 2 (by omega)) ?_
        rintro x h2 ⟨ox, E2⟩
        have bb := bb.ext E2
        have E := E.ext E2
        have le_E2 := E2.le
        have hn2 : (h.n = h2.n) = False := by simp; omega
        simp only [bb.eq, w1, bslA_2, hn2, go_sem, Hold.p, HoldK.k, HoldL.K, HoldL.body, Nat.reduceBEq, Nat.reduceAdd, List.getElem?_cons_zero, List.getElem?_cons_succ, Option.bind_some, List.map_cons, List.map_nil, Nat.zero_add, if_true, List.getD_cons_zero, List.getD_cons_succ, List.contains_cons, List.contains_nil, Nat.reduceBEq, Bool.or_true, Bool.true_or, Bool.or_false, Bool.false_or, Bool.not_true, Bool.not_false, true_and, and_true, rowA_whole, push_n, set_n, push_obj, set_obj, set_push, set_push_ne, set_set, Nat.add_assoc, Nat.left_eq_add, Nat.add_eq_left, Nat.add_left_cancel_iff, Nat.reduceEqDiff, stO_1s, stO_ws, boxA_s, one_bool, one_int, one_str, one_ptr, one_nilptr, one_slice, one_eslice, one_nilslice, one_func, one_iface, one_niliface, List.all_cons, List.all_nil, List.length_cons, List.length_nil, Nat.reduceLT, Nat.reduceEqDiff, Nat.reduceLeDiff, Bool.and_true, Nat.one_ne_zero, Nat.succ_ne_zero, reduceIte, if_false, List.getElem?_cons_zero, List.set_cons_zero, List.set_cons_succ]
        generalize hq_g3 : IH.push h2 (IObj.rows [[IV.int .u8 0], [IV.int .u8 (UInt8.ofNat s.length).toNat]] 5 1 false) = g3
        have e_g3 : Ext h2 g3 := by rw [← hq_g3]; exact (Ext.refl _).push _
        have l_g3 : g3.n = h2.n + 1 := by rw [← hq_g3]; rfl
        have ba : At g3 h2.n (IObj.rows [[IV.int .u8 0], [IV.int .u8 (UInt8.ofNat s.length).toNat]] 5 1 false) := by rw [← hq_g3]; exact At.new _ _
        clear hq_g3
        have ox := ox.ext e_g3
        have bb := bb.ext e_g3
        have E := E.ext e_g3
        have hy : SlR g3 1 (.slice h2.n 0 2) (strRows [0, UInt8.ofNat s.length]) := SlR.whole ba.eq rfl ba.lt
        refine callA_of (l01Join_c _ _ _ _ _ ox.sl hy (by rw [beB_len]; omega) (by simp)) ?_
        rintro v3 h3 ⟨o3, E3⟩
        have bb := bb.ext E3
        have E := E.ext E3
        have le_E3 := E3.le
        simp only [bb.eq, s2bA_some hne (by omega), go_sem, Hold.p, HoldK.k, HoldL.K, HoldL.body, Nat.reduceBEq, Nat.reduceAdd, List.getElem?_cons_zero, List.getElem?_cons_succ, Option.bind_some, List.map_cons, List.map_nil, Nat.zero_add, if_true, List.getD_cons_zero, List.getD_cons_succ, List.contains_cons, List.contains_nil, Nat.reduceBEq, Bool.or_true, Bool.true_or, Bool.or_false, Bool.false_or, Bool.not_true, Bool.not_false, true_and, and_true, rowA_whole, push_n, set_n, push_obj, set_obj, set_push, set_push_ne, set_set, Nat.add_assoc, Nat.left_eq_add, Nat.add_eq_left, Nat.add_left_cancel_iff, Nat.reduceEqDiff, stO_1s, stO_ws, boxA_s, one_bool, one_int, one_str, one_ptr, one_nilptr, one_slice, one_eslice, one_nilslice, one_func, one_iface, one_niliface, List.all_cons, List.all_nil, List.length_cons, List.length_nil, Nat.reduceLT, Nat.reduceEqDiff, Nat.reduceLeDiff, Bool.and_true, Nat.one_ne_zero, Nat.succ_ne_zero, reduceIte, if_false, List.getElem?_cons_zero, List.set_cons_zero, List.set_cons_succ]
        generalize hq_g4 : IH.push h3 (IObj.rows (strRows s) 5 1 false) = g4
        have e_g4 : Ext h3 g4 := by rw [← hq_g4]; exact (Ext.refl _).push _
        have l_g4 : g4.n = h3.n + 1 := by rw [← hq_g4]; rfl
        have bs : At g4 h3.n (IObj.rows (strRows s) 5 1 false) := by rw [← hq_g4]; exact At.new _ _
        clear hq_g4
        have o3 := o3.ext e_g4
        have bb := bb.ext e_g4
        have E := E.ext e_g4
        have hz : SlR g4 1 (.slice h3.n 0 s.length) (strRows s) := SlR.whole bs.eq (strRows_len s) bs.lt
        refine callA_of (l01Join_c _ _ _ _ _ o3.sl hz (by simp [beB_len]) (by omega)) ?_
        rintro v5 h5 ⟨o5, E5⟩
        have E4le := E.le
        have E := E.ext E5
        have le_E5 := E5.le
        simp only [go_sem, Hold.p, HoldK.k, HoldL.K, HoldL.body, Nat.reduceBEq, Nat.reduceAdd, List.getElem?_cons_zero, List.getElem?_cons_succ, Option.bind_some, List.map_cons, List.map_nil, Nat.zero_add, if_true, List.getD_cons_zero, List.getD_cons_succ, List.contains_cons, List.contains_nil, Nat.reduceBEq, Bool.or_true, Bool.true_or, Bool.or_false, Bool.false_or, Bool.not_true, Bool.not_false, true_and, and_true, rowA_whole, push_n, set_n, push_obj, set_obj, set_push, set_push_ne, set_set, Nat.add_assoc, Nat.left_eq_add, Nat.add_eq_left, Nat.add_left_cancel_iff, Nat.reduceEqDiff, stO_1s, stO_ws, boxA_s, one_bool, one_int, one_str, one_ptr, one_nilptr, one_slice, one_eslice, one_nilslice, one_func, one_iface, one_niliface, List.all_cons, List.all_nil, List.length_cons, List.length_nil, Nat.reduceLT, Nat.reduceEqDiff, Nat.reduceLeDiff, Bool.and_true, Nat.one_ne_zero, Nat.succ_ne_zero, reduceIte, if_false, List.getElem?_cons_zero, List.set_cons_zero, List.set_cons_succ]
        exact ⟨v5, rfl, o5.wide E4le (Nat.le_refl _) (Nat.le_refl _), E⟩
      · have hn2 : (h.n = h1.n) = False := by simp; omega
        simp only [bb.eq, w1, bslA_2, hn2, go_sem, Hold.p, HoldK.k, HoldL.K, HoldL.body, Nat.reduceBEq, Nat.reduceAdd, List.getElem?_cons_zero, List.getElem?_cons_succ, Option.bind_some, List.map_cons, List.map_nil, Nat.zero_add, if_true, List.getD_cons_zero, List.getD_cons_succ, List.contains_cons, List.contains_nil, Nat.reduceBEq, Bool.or_true, Bool.true_or, Bool.or_false, Bool.false_or, Bool.not_true, Bool.not_false, true_and, and_true, rowA_whole, push_n, set_n, push_obj, set_obj, set_push, set_push_ne, set_set, Nat.add_assoc, Nat.left_eq_add, Nat.add_eq_left, Nat.add_left_cancel_iff, Nat.reduceEqDiff, stO_1s, stO_ws, boxA_s, one_bool, one_int, one_str, one_ptr, one_nilptr, one_slice, one_eslice, one_nilslice, one_func, one_iface, one_niliface, List.all_cons, List.all_nil, List.length_cons, List.length_nil, Nat.reduceLT, Nat.reduceEqDiff, Nat.reduceLeDiff, Bool.and_true, Nat.one_ne_zero, Nat.succ_ne_zero, reduceIte, if_false, List.getElem?_cons_zero, List.set_cons_zero, List.set_cons_succ]
        generalize hq_g3 : IH.push h1 (IObj.rows [[IV.int .u8 0], [IV.int .u8 (UInt8.ofNat s.length).toNat]] 5 1 false) = g3
        have e_g3 : Ext h1 g3 := by rw [← hq_g3]; exact (Ext.refl _).push _
        have l_g3 : g3.n = h1.n + 1 := by rw [← hq_g3]; rfl
        have ba : At g3 h1.n (IObj.rows [[IV.int .u8 0], [IV.int .u8 (UInt8.ofNat s.length).toNat]] 5 1 false) := by rw [← hq_g3]; exact At.new _ _
        clear hq_g3
        have bb := bb.ext e_g3
        have E := E.ext e_g3
        refine callA_of (l03Put_c _ id 2 (by omega)) ?_
        rintro x h2 ⟨ox, E2⟩
        have bb := bb.ext E2
        have E := E.ext E2
        have ba := ba.ext E2
        have le_E2 := E2.le
        simp only [bb.eq, w1, go_sem, Hold.p, HoldK.k, HoldL.K, HoldL.body, Nat.reduceBEq, Nat.reduceAdd, List.getElem?_cons_zero, List.getElem?_cons_succ, Option.bind_some, List.map_cons, List.map_nil, Nat.zero_add, if_true, List.getD_cons_zero, List.getD_cons_succ, List.contains_cons, List.contains_nil, Nat.reduceBEq, Bool.or_true, Bool.true_or, Bool.or_false, Bool.false_or, Bool.not_true, Bool.not_false, true_and, and_true, rowA_whole, push_n, set_n, push_obj, set_obj, set_push, set_push_ne, set_set, Nat.add_assoc, Nat.left_eq_add, Nat.add_eq_left, Nat.add_left_cancel_iff, Nat.reduceEqDiff, stO_1s, stO_ws, boxA_s, one_bool, one_int, one_str, one_ptr, one_nilptr, one_slice, one_eslice, one_nilslice, one_func, one_iface, one_niliface, List.all_cons, List.all_nil, List.length_cons, List.length_nil, Nat.reduceLT, Nat.reduceEqDiff, Nat.reduceLeDiff, Bool.and_true, Nat.one_ne_zero, Nat.succ_ne_zero, reduceIte, if_false, List.getElem?_cons_zero, List.set_cons_zero, List.set_cons_succ]
        have hy : SlR h2 1 (.slice h1.n 0 2) (strRows [0, UInt8.ofNat s.length]) := SlR.whole ba.eq rfl ba.lt
        refine callA_of (l01Join_c _ _ _ _ _ ox.sl hy (by rw [beB_len]; omega) (by simp)) ?_
        rintro v3 h3 ⟨o3, E3⟩
        have bb := bb.ext E3
        have E := E.ext E3
        have le_E3 := E3.le
        simp only [bb.eq, s2bA_some hne (by omega), go_sem, Hold.p, HoldK.k, HoldL.K, HoldL.body, Nat.reduceBEq, Nat.reduceAdd, List.getElem?_cons_zero, List.getElem?_cons_succ, Option.bind_some, List.map_cons, List.map_nil, Nat.zero_add, if_true, List.getD_cons_zero, List.getD_cons_succ, List.contains_cons, List.contains_nil, Nat.reduceBEq, Bool.or_true, Bool.true_or, Bool.or_false, Bool.false_or, Bool.not_true, Bool.not_false, true_and, and_true, rowA_whole, push_n, set_n, push_obj, set_obj, set_push, set_push_ne, set_set, Nat.add_assoc, Nat.left_eq_add, Nat.add_eq_left, Nat.add_left_cancel_iff, Nat.reduceEqDiff, stO_1s, stO_ws, boxA_s, one_bool, one_int, one_str, one_ptr, one_nilptr, one_slice, one_eslice, one_nilslice, one_func, one_iface, one_niliface, List.all_cons, List.all_nil, List.length_cons, List.length_nil, Nat.reduceLT, Nat.reduceEqDiff, Nat.reduceLeDiff, Bool.and_true, Nat.one_ne_zero, Nat.succ_ne_zero, reduceIte, if_false, List.getElem?_cons_zero, List.set_cons_zero, List.set_cons_succ]
        generalize hq_g4 : IH.push h3 (IObj.rows (strRows s) 5 1 false) = g4
        have e_g4 : Ext h3 g4 := by rw [← hq_g4]; exact (Ext.refl _).push _
        have l_g4 : g4.n = h3.n + 1 := by rw [← hq_g4]; rfl
        have bs : At g4 h3.n (IObj.rows (strRows s) 5 1 false) := by rw [← hq_g4]; exact At.new _ _
        clear hq_g4
        have o3 := o3.ext e_g4
        have bb := bb.ext e_g4
        have E := E.ext e_g4
        have hz : SlR g4 1 (.slice h3.n 0 s.length) (strRows s) := SlR.whole bs.eq (strRows_len s) bs.lt
        refine callA_of (l01Join_c _ _ _ _ _ o3.sl hz (by simp [beB_len]) (by omega)) ?_
        rintro v5 h5 ⟨o5, E5⟩
        have E4le := E.le
        have E := E.ext E5
        have le_E5 := E5.le
        simp only [go_sem, Hold.p, HoldK.k, HoldL.K, HoldL.body, Nat.reduceBEq, Nat.reduceAdd, List.getElem?_cons_zero, List.getElem?_cons_succ, Option.bind_some, List.map_cons, List.map_nil, Nat.zero_add, if_true, List.getD_cons_zero, List.getD_cons_succ, List.contains_cons, List.contains_nil, Nat.reduceBEq, Bool.or_true, Bool.true_or, Bool.or_false, Bool.false_or, Bool.not_true, Bool.not_false, true_and, and_true, rowA_whole, push_n, set_n, push_obj, set_obj, set_push, set_push_ne, set_set, Nat.add_assoc, Nat.left_eq_add, Nat.add_eq_left, Nat.add_left_cancel_iff, Nat.reduceEqDiff, stO_1s, stO_ws, boxA_s, one_bool, one_int, one_str, one_ptr, one_nilptr, one_slice, one_eslice, one_nilslice, one_func, one_iface, one_niliface, List.all_cons, List.all_nil, List.length_cons, List.length_nil, Nat.reduceLT, Nat.reduceEqDiff, Nat.reduceLeDiff, Bool.and_true, Nat.one_ne_zero, Nat.succ_ne_zero, reduceIte, if_false, List.getElem?_cons_zero, List.set_cons_zero, List.set_cons_succ]
        exact ⟨v5, rfl, o5.wide E4le (Nat.le_refl _) (Nat.le_refl _), E⟩
end Go.Proofs.YtcmcfmgabafljaaDoor

namespace Go.Proofs.YtcmcfmgabafljaaDoor
open Go Go.IW

theorem strRows_ne {s : List UInt8} (h : s ≠ []) : strRows s ≠ [] := by
  intro hx; exact h (by simpa [strRows] using hx)

set_option maxRecDepth 20000 in
theorem implEncodeQuery_c (h : IH) (id : Int) (s : List UInt8) (hm : s.length ≤ 1048576) : ICalls Tryd.prog 17 [.agg [.int .i64 id, .str s]] h fun r h' => BytesRes h h' r (encQ id s) := by
  refine icalls (.of ok17) (Nat.le_of_ble_eq_true rfl) ?_
  unfold c17
  by_cases c1 : id < 0
  · have d1 : decide (id < 0) = true := decide_eq_true c1
    simp only [d1, go_sem, Hold.p, HoldK.k, HoldL.K, HoldL.body, Nat.reduceBEq, Nat.reduceAdd, List.getElem?_cons_zero, List.getElem?_cons_succ, Option.bind_some, List.map_cons, List.map_nil, Nat.zero_add, if_true, List.getD_cons_zero, List.getD_cons_succ, List.contains_cons, List.contains_nil, Nat.reduceBEq, Bool.or_true, Bool.true_or, Bool.or_false, Bool.false_or, Bool.not_true, Bool.not_false, true_and, and_true, rowA_whole, push_n, set_n, push_obj, set_obj, set_push, set_push_ne, set_set, Nat.add_assoc, Nat.left_eq_add, Nat.add_eq_left, Nat.add_left_cancel_iff, Nat.reduceEqDiff, stO_1s, stO_ws, boxA_s, one_bool, one_int, one_str, one_ptr, one_nilptr, one_slice, one_eslice, one_nilslice, one_func, one_iface, one_niliface, List.all_cons, List.all_nil, List.length_cons, List.length_nil, Nat.reduceLT, Nat.reduceEqDiff, Nat.reduceLeDiff, Bool.and_true, Nat.one_ne_zero, Nat.succ_ne_zero, reduceIte, if_false, List.getElem?_cons_zero, List.set_cons_zero, List.set_cons_succ]
    have : encQ id s = ([], 1) := if_neg (fun hx => by omega)
    rw [this]
    exact ⟨_, rfl, Own.nil, (Ext.refl _).push _⟩
  · have d1 : decide (id < 0) = false := decide_eq_false c1
    by_cases c2 : 65535 < id
    · have d2 : decide (65535 < id) = true := decide_eq_true c2
      simp only [d1, d2, go_sem, Hold.p, HoldK.k, HoldL.K, HoldL.body, Nat.reduceBEq, Nat.reduceAdd, List.getElem?_cons_zero, List.getElem?_cons_succ, Option.bind_some, List.map_cons, List.map_nil, Nat.zero_add, if_true, List.getD_cons_zero, List.getD_cons_succ, List.contains_cons, List.contains_nil, Nat.reduceBEq, Bool.or_true, Bool.true_or, Bool.or_false, Bool.false_or, Bool.not_true, Bool.not_false, true_and, and_true, rowA_whole, push_n, set_n, push_obj, set_obj, set_push, set_push_ne, set_set, Nat.add_assoc, Nat.left_eq_add, Nat.add_eq_left, Nat.add_left_cancel_iff, Nat.reduceEqDiff, stO_1s, stO_ws, boxA_s, one_bool, one_int, one_str, one_ptr, one_nilptr, one_slice, one_eslice, one_nilslice, one_func, one_iface, one_niliface, List.all_cons, List.all_nil, List.length_cons, List.length_nil, Nat.reduceLT, Nat.reduceEqDiff, Nat.reduceLeDiff, Bool.and_true, Nat.one_ne_zero, Nat.succ_ne_zero, reduceIte, if_false, List.getElem?_cons_zero, List.set_cons_zero, List.set_cons_succ]
      have : encQ id s = ([], 1) := if_neg (fun hx => by omega)
      rw [this]
      exact ⟨_, rfl, Own.nil, (Ext.refl _).push _⟩
    · have d2 : decide (65535 < id) = false := decide_eq_false c2
      simp only [d1, d2, go_sem, Hold.p, HoldK.k, HoldL.K, HoldL.body, Nat.reduceBEq, Nat.reduceAdd, List.getElem?_cons_zero, List.getElem?_cons_succ, Option.bind_some, List.map_cons, List.map_nil, Nat.zero_add, if_true, List.getD_cons_zero, List.getD_cons_succ, List.contains_cons, List.contains_nil, Nat.reduceBEq, Bool.or_true, Bool.true_or, Bool.or_false, Bool.false_or, Bool.not_true, Bool.not_false, true_and, and_true, rowA_whole, push_n, set_n, push_obj, set_obj, set_push, set_push_ne, set_set, Nat.add_assoc, Nat.left_eq_add, Nat.add_eq_left, Nat.add_left_cancel_iff, Nat.reduceEqDiff, stO_1s, stO_ws, boxA_s, one_bool, one_int, one_str, one_ptr, one_nilptr, one_slice, one_eslice, one_nilslice, one_func, one_iface, one_niliface, List.all_cons, List.all_nil, List.length_cons, List.length_nil, Nat.reduceLT, Nat.reduceEqDiff, Nat.reduceLeDiff, Bool.and_true, Nat.one_ne_zero, Nat.succ_ne_zero, reduceIte, if_false, List.getElem?_cons_zero, List.set_cons_zero, List.set_cons_succ]
      generalize hq_g0 : IH.push h (IObj.rows [[IV.int .i64 id, IV.str s]] 29 2 false) = g0
      have e_g0 : Ext h g0 := by rw [← hq_g0]; exact (Ext.refl _).push _
      have l_g0 : g0.n = h.n + 1 := by rw [← hq_g0]; rfl
      have bb : At g0 h.n (IObj.rows [[IV.int .i64 id, IV.str s]] 29 2 false) := by rw [← hq_g0]; exact At.new _ _
      clear hq_g0
      refine callA_of (implNameOK_c _ s hm) ?_
      rintro r h1 ⟨rfl, E1⟩
      have E := e_g0.trans E1
      have bb := bb.ext E1
      have le_E1 := E1.le
      cases q2 : okName s
      · simp only [q2, go_sem, Hold.p, HoldK.k, HoldL.K, HoldL.body, Nat.reduceBEq, Nat.reduceAdd, List.getElem?_cons_zero, List.getElem?_cons_succ, Option.bind_some, List.map_cons, List.map_nil, Nat.zero_add, if_true, List.getD_cons_zero, List.getD_cons_succ, List.contains_cons, List.contains_nil, Nat.reduceBEq, Bool.or_true, Bool.true_or, Bool.or_false, Bool.false_or, Bool.not_true, Bool.not_false, true_and, and_true, rowA_whole, push_n, set_n, push_obj, set_obj, set_push, set_push_ne, set_set, Nat.add_assoc, Nat.left_eq_add, Nat.add_eq_left, Nat.add_left_cancel_iff, Nat.reduceEqDiff, stO_1s, stO_ws, boxA_s, one_bool, one_int, one_str, one_ptr, one_nilptr, one_slice, one_eslice, one_nilslice, one_func, one_iface, one_niliface, List.all_cons, List.all_nil, List.length_cons, List.length_nil, Nat.reduceLT, Nat.reduceEqDiff, Nat.reduceLeDiff, Bool.and_true, Nat.one_ne_zero, Nat.succ_ne_zero, reduceIte, if_false, List.getElem?_cons_zero, List.set_cons_zero, List.set_cons_succ]
        have : encQ id s = ([], 1) := if_neg (fun hx => by rw [q2] at hx; exact Bool.noConfusion hx.2)
        rw [this]
        exact ⟨_, rfl, Own.nil, E⟩
      · obtain ⟨hne, hl⟩ := okName_ne q2
        have hdef : encQ id s = ((beB 2 id ++ [0, UInt8.ofNat s.length]) ++ s, 0) := if_pos ⟨by omega, q2⟩
        rw [hdef]
        have w1 := u8_len (n := s.length) (by omega)
        have hbl := bb.lt
        have hsn := strRows_ne hne
        have h2r : ∀ {x : IV} {lo hi : Nat} {g : IH}, Own lo hi g 5 1 x (strRows (beB 2 id) ++ [[IV.int .u8 0], [IV.int .u8 (UInt8.ofNat s.length).toNat]]) → Own lo hi g 5 1 x (strRows (beB 2 id ++ [0, UInt8.ofNat s.length])) := fun o => by rw [strRows_append]; exact o
        simp only [q2, bb.eq, w1, go_sem, Hold.p, HoldK.k, HoldL.K, HoldL.body, Nat.reduceBEq, Nat.reduceAdd, List.getElem?_cons_zero, List.getElem?_cons_succ, Option.bind_some, List.map_cons, List.map_nil, Nat.zero_add, if_true, List.getD_cons_zero, List.getD_cons_succ, List.contains_cons, List.contains_nil, Nat.reduceBEq, Bool.or_true, Bool.true_or, Bool.or_false, Bool.false_or, Bool.not_true, Bool.not_false, true_and, and_true, rowA_whole, push_n, set_n, push_obj, set_obj, set_push, set_push_ne, set_set, Nat.add_assoc, Nat.left_eq_add, Nat.add_eq_left, Nat.add_left_cancel_iff, Nat.reduceEqDiff, stO_1s, stO_ws, boxA_s, one_bool, one_int, one_str, one_ptr, one_nilptr, one_slice, one_eslice, one_nilslice, one_func, one_iface, one_niliface, List.all_cons, List.all_nil, List.length_cons, List.length_nil, Nat.reduceLT, Nat.reduceEqDiff, Nat.reduceLeDiff, Bool.and_true, Nat.one_ne_zero, Nat.succ_ne_zero, reduceIte, if_false, List.getElem?_cons_zero, List.set_cons_zero, List.set_cons_succ]
        refine either_of ?_ ?_
        · simp only [go_sem, Hold.p, HoldK.k, HoldL.K, HoldL.body, Nat.reduceBEq, Nat.reduceAdd, List.getElem?_cons_zero, List.getElem?_cons_succ, Option.bind_some, List.map_cons, List.map_nil, Nat.zero_add, if_true, List.getD_cons_zero, List.getD_cons_succ, List.contains_cons, List.contains_nil, Nat.reduceBEq, Bool.or_true, Bool.true_or, Bool.or_false, Bool.false_or, Bool.not_true, Bool.not_false, true_and, and_true, rowA_whole, push_n, set_n, push_obj, set_obj, set_push, set_push_ne, set_set, Nat.add_assoc, Nat.left_eq_add, Nat.add_eq_left, Nat.add_left_cancel_iff, Nat.reduceEqDiff, stO_1s, stO_ws, boxA_s, one_bool, one_int, one_str, one_ptr, one_nilptr, one_slice, one_eslice, one_nilslice, one_func, one_iface, one_niliface, List.all_cons, List.all_nil, List.length_cons, List.length_nil, Nat.reduceLT, Nat.reduceEqDiff, Nat.reduceLeDiff, Bool.and_true, Nat.one_ne_zero, Nat.succ_ne_zero, reduceIte, if_false, List.getElem?_cons_zero, List.set_cons_zero, List.set_cons_succ]
          refine callA_of (put_c h1 _ (Ext.refl _) .nilslice [] id 2 (by omega) (by omega) (by simp) (Nat.le_refl h1.n) (hi := h1.n) Own.nil (Nat.le_refl _)) ?_
          rintro x h2 ⟨ox, E2⟩
          rw [List.nil_append] at ox
          have bb := bb.ext E2
          have E := E.ext E2
          have le_E2 := E2.le
          have hn2 : (h.n = h2.n) = False := by simp; omega
          simp only [bb.eq, w1, bslA_2, hn2, srcO_2, go_sem, Hold.p, HoldK.k, HoldL.K, HoldL.body, Nat.reduceBEq, Nat.reduceAdd, List.getElem?_cons_zero, List.getElem?_cons_succ, Option.bind_some, List.map_cons, List.map_nil, Nat.zero_add, if_true, List.getD_cons_zero, List.getD_cons_succ, List.contains_cons, List.contains_nil, Nat.reduceBEq, Bool.or_true, Bool.true_or, Bool.or_false, Bool.false_or, Bool.not_true, Bool.not_false, true_and, and_true, rowA_whole, push_n, set_n, push_obj, set_obj, set_push, set_push_ne, set_set, Nat.add_assoc, Nat.left_eq_add, Nat.add_eq_left, Nat.add_left_cancel_iff, Nat.reduceEqDiff, stO_1s, stO_ws, boxA_s, one_bool, one_int, one_str, one_ptr, one_nilptr, one_slice, one_eslice, one_nilslice, one_func, one_iface, one_niliface, List.all_cons, List.all_nil, List.length_cons, List.length_nil, Nat.reduceLT, Nat.reduceEqDiff, Nat.reduceLeDiff, Bool.and_true, Nat.one_ne_zero, Nat.succ_ne_zero, reduceIte, if_false, List.getElem?_cons_zero, List.set_cons_zero, List.set_cons_succ]
          generalize hq_g3 : IH.push h2 (IObj.rows [[IV.int .u8 0], [IV.int .u8 (UInt8.ofNat s.length).toNat]] 5 1 false) = g3
          have e_g3 : Ext h2 g3 := by rw [← hq_g3]; exact (Ext.refl _).push _
          have l_g3 : g3.n = h2.n + 1 := by rw [← hq_g3]; rfl
          have ba : At g3 h2.n (IObj.rows [[IV.int .u8 0], [IV.int .u8 (UInt8.ofNat s.length).toNat]] 5 1 false) := by rw [← hq_g3]; exact At.new _ _
          clear hq_g3
          have ox := ox.ext e_g3
          have bb := bb.ext e_g3
          have E := E.ext e_g3
          refine ox.app (by simp) (by rw [strRows_len, beB_len]; simp) ?_
          intro v6 h6 o6 t6 n6 v6o v6c
          have o7 := h2r o6
          have hbl3 := bb.lt
          have bb := bb.turn ox (by omega) t6
          have E := E.turn ox (by omega) t6
          have le_t6 := t6.le
          simp only [bb.eq, go_sem, Hold.p, HoldK.k, HoldL.K, HoldL.body, Nat.reduceBEq, Nat.reduceAdd, List.getElem?_cons_zero, List.getElem?_cons_succ, Option.bind_some, List.map_cons, List.map_nil, Nat.zero_add, if_true, List.getD_cons_zero, List.getD_cons_succ, List.contains_cons, List.contains_nil, Nat.reduceBEq, Bool.or_true, Bool.true_or, Bool.or_false, Bool.false_or, Bool.not_true, Bool.not_false, true_and, and_true, rowA_whole, push_n, set_n, push_obj, set_obj, set_push, set_push_ne, set_set, Nat.add_assoc, Nat.left_eq_add, Nat.add_eq_left, Nat.add_left_cancel_iff, Nat.reduceEqDiff, stO_1s, stO_ws, boxA_s, one_bool, one_int, one_str, one_ptr, one_nilptr, one_slice, one_eslice, one_nilslice, one_func, one_iface, one_niliface, List.all_cons, List.all_nil, List.length_cons, List.length_nil, Nat.reduceLT, Nat.reduceEqDiff, Nat.reduceLeDiff, Bool.and_true, Nat.one_ne_zero, Nat.succ_ne_zero, reduceIte, if_false, List.getElem?_cons_zero, List.set_cons_zero, List.set_cons_succ]
          refine o7.app hsn (by simp [strRows_len, beB_len]; omega) ?_
          intro v8 h8 o8 t8 n8 v8o v8c
          have bb := bb.turn o7 (by omega) t8
          have E := E.turn o7 (by omega) t8
          have le_t8 := t8.le
          rw [← strRows_append] at o8
          simp only [bb.eq, go_sem, Hold.p, HoldK.k, HoldL.K, HoldL.body, Nat.reduceBEq, Nat.reduceAdd, List.getElem?_cons_zero, List.getElem?_cons_succ, Option.bind_some, List.map_cons, List.map_nil, Nat.zero_add, if_true, List.getD_cons_zero, List.getD_cons_succ, List.contains_cons, List.contains_nil, Nat.reduceBEq, Bool.or_true, Bool.true_or, Bool.or_false, Bool.false_or, Bool.not_true, Bool.not_false, true_and, and_true, rowA_whole, push_n, set_n, push_obj, set_obj, set_push, set_push_ne, set_set, Nat.add_assoc, Nat.left_eq_add, Nat.add_eq_left, Nat.add_left_cancel_iff, Nat.reduceEqDiff, stO_1s, stO_ws, boxA_s, one_bool, one_int, one_str, one_ptr, one_nilptr, one_slice, one_eslice, one_nilslice, one_func, one_iface, one_niliface, List.all_cons, List.all_nil, List.length_cons, List.length_nil, Nat.reduceLT, Nat.reduceEqDiff, Nat.reduceLeDiff, Bool.and_true, Nat.one_ne_zero, Nat.succ_ne_zero, reduceIte, if_false, List.getElem?_cons_zero, List.set_cons_zero, List.set_cons_succ]
          exact ⟨v8, rfl, o8.wide (by have := E.le; omega) (by omega) (Nat.le_refl _), E⟩
        · have hn2 : (h.n = h1.n) = False := by simp; omega
          simp only [bb.eq, w1, bslA_2, hn2, go_sem, Hold.p, HoldK.k, HoldL.K, HoldL.body, Nat.reduceBEq, Nat.reduceAdd, List.getElem?_cons_zero, List.getElem?_cons_succ, Option.bind_some, List.map_cons, List.map_nil, Nat.zero_add, if_true, List.getD_cons_zero, List.getD_cons_succ, List.contains_cons, List.contains_nil, Nat.reduceBEq, Bool.or_true, Bool.true_or, Bool.or_false, Bool.false_or, Bool.not_true, Bool.not_false, true_and, and_true, rowA_whole, push_n, set_n, push_obj, set_obj, set_push, set_push_ne, set_set, Nat.add_assoc, Nat.left_eq_add, Nat.add_eq_left, Nat.add_left_cancel_iff, Nat.reduceEqDiff, stO_1s, stO_ws, boxA_s, one_bool, one_int, one_str, one_ptr, one_nilptr, one_slice, one_eslice, one_nilslice, one_func, one_iface, one_niliface, List.all_cons, List.all_nil, List.length_cons, List.length_nil, Nat.reduceLT, Nat.reduceEqDiff, Nat.reduceLeDiff, Bool.and_true, Nat.one_ne_zero, Nat.succ_ne_zero, reduceIte, if_false, List.getElem?_cons_zero, List.set_cons_zero, List.set_cons_succ]
          generalize hq_g3 : IH.push h1 (IObj.rows [[IV.int .u8 0], [IV.int .u8 (UInt8.ofNat s.length).toNat]] 5 1 false) = g3
          have e_g3 : Ext h1 g3 := by rw [← hq_g3]; exact (Ext.refl _).push _
          have l_g3 : g3.n = h1.n + 1 := by rw [← hq_g3]; rfl
          have ba : At g3 h1.n (IObj.rows [[IV.int .u8 0], [IV.int .u8 (UInt8.ofNat s.length).toNat]] 5 1 false) := by rw [← hq_g3]; exact At.new _ _
          clear hq_g3
          have bb := bb.ext e_g3
          have E := E.ext e_g3
          refine callA_of (put_c g3 _ (Ext.refl _) .nilslice [] id 2 (by omega) (by omega) (by simp) (Nat.le_refl g3.n) (hi := g3.n) Own.nil (Nat.le_refl _)) ?_
          rintro x h2 ⟨ox, E2⟩
          rw [List.nil_append] at ox
          have bb := bb.ext E2
          have E := E.ext E2
          have ba := ba.ext E2
          have le_E2 := E2.le
          simp only [bb.eq, w1, ba.eq, srcO_2, go_sem, Hold.p, HoldK.k, HoldL.K, HoldL.body, Nat.reduceBEq, Nat.reduceAdd, List.getElem?_cons_zero, List.getElem?_cons_succ, Option.bind_some, List.map_cons, List.map_nil, Nat.zero_add, if_true, List.getD_cons_zero, List.getD_cons_succ, List.contains_cons, List.contains_nil, Nat.reduceBEq, Bool.or_true, Bool.true_or, Bool.or_false, Bool.false_or, Bool.not_true, Bool.not_false, true_and, and_true, rowA_whole, push_n, set_n, push_obj, set_obj, set_push, set_push_ne, set_set, Nat.add_assoc, Nat.left_eq_add, Nat.add_eq_left, Nat.add_left_cancel_iff, Nat.reduceEqDiff, stO_1s, stO_ws, boxA_s, one_bool, one_int, one_str, one_ptr, one_nilptr, one_slice, one_eslice, one_nilslice, one_func, one_iface, one_niliface, List.all_cons, List.all_nil, List.length_cons, List.length_nil, Nat.reduceLT, Nat.reduceEqDiff, Nat.reduceLeDiff, Bool.and_true, Nat.one_ne_zero, Nat.succ_ne_zero, reduceIte, if_false, List.getElem?_cons_zero, List.set_cons_zero, List.set_cons_succ]
          refine ox.app (by simp) (by rw [strRows_len, beB_len]; simp) ?_
          intro v6 h6 o6 t6 n6 v6o v6c
          have o7 := h2r o6
          have hbl3 := bb.lt
          have bb := bb.turn ox (by omega) t6
          have E := E.turn ox (by omega) t6
          have le_t6 := t6.le
          simp only [bb.eq, go_sem, Hold.p, HoldK.k, HoldL.K, HoldL.body, Nat.reduceBEq, Nat.reduceAdd, List.getElem?_cons_zero, List.getElem?_cons_succ, Option.bind_some, List.map_cons, List.map_nil, Nat.zero_add, if_true, List.getD_cons_zero, List.getD_cons_succ, List.contains_cons, List.contains_nil, Nat.reduceBEq, Bool.or_true, Bool.true_or, Bool.or_false, Bool.false_or, Bool.not_true, Bool.not_false, true_and, and_true, rowA_whole, push_n, set_n, push_obj, set_obj, set_push, set_push_ne, set_set, Nat.add_assoc, Nat.left_eq_add, Nat.add_eq_left, Nat.add_left_cancel_iff, Nat.reduceEqDiff, stO_1s, stO_ws, boxA_s, one_bool, one_int, one_str, one_ptr, one_nilptr, one_slice, one_eslice, one_nilslice, one_func, one_iface, one_niliface, List.all_cons, List.all_nil, List.length_cons, List.length_nil, Nat.reduceLT, Nat.reduceEqDiff, Nat.reduceLeDiff, Bool.and_true, Nat.one_ne_zero, Nat.succ_ne_zero, reduceIte, if_false, List.getElem?_cons_zero, List.set_cons_zero, List.set_cons_succ]
          refine o7.app hsn (by simp [strRows_len, beB_len]; omega) ?_
          intro v8 h8 o8 t8 n8 v8o v8c
          have bb := bb.turn o7 (by omega) t8
          have E := E.turn o7 (by omega) t8
          have le_t8 := t8.le
          rw [← strRows_append] at o8
          simp only [bb.eq, go_sem, Hold.p, HoldK.k, HoldL.K, HoldL.body, Nat.reduceBEq, Nat.reduceAdd, List.getElem?_cons_zero, List.getElem?_cons_succ, Option.bind_some, List.map_cons, List.map_nil, Nat.zero_add, if_true, List.getD_cons_zero, List.getD_cons_succ, List.contains_cons, List.contains_nil, Nat.reduceBEq, Bool.or_true, Bool.true_or, Bool.or_false, Bool.false_or, Bool.not_true, Bool.not_false, true_and, and_true, rowA_whole, push_n, set_n, push_obj, set_obj, set_push, set_push_ne, set_set, Nat.add_assoc, Nat.left_eq_add, Nat.add_eq_left, Nat.add_left_cancel_iff, Nat.reduceEqDiff, stO_1s, stO_ws, boxA_s, one_bool, one_int, one_str, one_ptr, one_nilptr, one_slice, one_eslice, one_nilslice, one_func, one_iface, one_niliface, List.all_cons, List.all_nil, List.length_cons, List.length_nil, Nat.reduceLT, Nat.reduceEqDiff, Nat.reduceLeDiff, Bool.and_true, Nat.one_ne_zero, Nat.succ_ne_zero, reduceIte, if_false, List.getElem?_cons_zero, List.set_cons_zero, List.set_cons_succ]
          exact ⟨v8, rfl, o8.wide (by have := E.le; omega) (by omega) (Nat.le_refl _), E⟩

def shQuery : Sh := .cat (.int .i64) (.cat .str .nil)
theorem fits_query {h : IH} {cs : List IV} (hf : Fits h shQuery cs) : ∃ (id : Int) (s : List UInt8), cs = [.int .i64 id, .str s] ∧ s.length ≤ maxLen := by
  obtain ⟨_, _, rfl, ⟨a, rfl, _⟩, _, _, rfl, ⟨s, rfl, hs⟩, rfl⟩ := hf
  exact ⟨a, s, rfl, hs⟩
theorem encQ_len {id : Int} {s : List UInt8} : (encQ id s).1.length ≤ 1000 := by
  unfold encQ
  split
  · rename_i h
    have := (okName_ne h.2).2
    simp [beB_len]; omega
  · simp

set_option maxRecDepth 20000 in
theorem lawEncodeQuery : LawTrue Tryd.prog 4 [(shQuery, true)] := by
  rintro h ivs ha ⟨iv, r, rfl, ⟨cs, rfl, hf⟩, rfl⟩
  obtain ⟨id, s, rfl, hm⟩ := fits_query hf
  refine icalls (.of ok4) (Nat.le_of_ble_eq_true rfl) ?_
  unfold c4
  simp only [go_sem, Hold.p, HoldK.k, HoldL.K, HoldL.body, Nat.reduceBEq, Nat.reduceAdd, List.getElem?_cons_zero, List.getElem?_cons_succ, Option.bind_some, List.map_cons, List.map_nil, Nat.zero_add, if_true, List.getD_cons_zero, List.getD_cons_succ, List.contains_cons, List.contains_nil, Nat.reduceBEq, Bool.or_true, Bool.true_or, Bool.or_false, Bool.false_or, Bool.not_true, Bool.not_false, true_and, and_true, rowA_whole, push_n, set_n, push_obj, set_obj, set_push, set_push_ne, set_set, Nat.add_assoc, Nat.left_eq_add, Nat.add_eq_left, Nat.add_left_cancel_iff, Nat.reduceEqDiff, stO_1s, stO_ws, boxA_s, one_bool, one_int, one_str, one_ptr, one_nilptr, one_slice, one_eslice, one_nilslice, one_func, one_iface, one_niliface, List.all_cons, List.all_nil, List.length_cons, List.length_nil, Nat.reduceLT, Nat.reduceEqDiff, Nat.reduceLeDiff, Bool.and_true, Nat.one_ne_zero, Nat.succ_ne_zero, reduceIte, if_false, List.getElem?_cons_zero, List.set_cons_zero, List.set_cons_succ]
  generalize hq_g0 : IH.push h (IObj.rows [[IV.int .i64 id, IV.str s]] 24 2 false) = g0
  have e_g0 : Ext h g0 := by rw [← hq_g0]; exact (Ext.refl _).push _
  have l_g0 : g0.n = h.n + 1 := by rw [← hq_g0]; rfl
  have bA : At g0 h.n (IObj.rows [[IV.int .i64 id, IV.str s]] 24 2 false) := by rw [← hq_g0]; exact At.new _ _
  clear hq_g0
  refine callA_of (szNameQuery_c _ id 1048576 s (by omega) hm) ?_
  rintro r h1 ⟨rfl, hE1⟩
  have bA := bA.ext hE1
  have le_hE1 := hE1.le
  by_cases hbig : (1048576 : Int) < s.length
  · rw [if_pos hbig]
    have hn : decide ((-1 : Int) < 0) = true := rfl
    simp only [hn, go_sem, Hold.p, HoldK.k, HoldL.K, HoldL.body, Nat.reduceBEq, Nat.reduceAdd, List.getElem?_cons_zero, List.getElem?_cons_succ, Option.bind_some, List.map_cons, List.map_nil, Nat.zero_add, if_true, List.getD_cons_zero, List.getD_cons_succ, List.contains_cons, List.contains_nil, Nat.reduceBEq, Bool.or_true, Bool.true_or, Bool.or_false, Bool.false_or, Bool.not_true, Bool.not_false, true_and, and_true, rowA_whole, push_n, set_n, push_obj, set_obj, set_push, set_push_ne, set_set, Nat.add_assoc, Nat.left_eq_add, Nat.add_eq_left, Nat.add_left_cancel_iff, Nat.reduceEqDiff, stO_1s, stO_ws, boxA_s, one_bool, one_int, one_str, one_ptr, one_nilptr, one_slice, one_eslice, one_nilslice, one_func, one_iface, one_niliface, List.all_cons, List.all_nil, List.length_cons, List.length_nil, Nat.reduceLT, Nat.reduceEqDiff, Nat.reduceLeDiff, Bool.and_true, Nat.one_ne_zero, Nat.succ_ne_zero, reduceIte, if_false, List.getElem?_cons_zero, List.set_cons_zero, List.set_cons_succ]
  · rw [if_neg hbig]
    have hn : decide ((1048576 : Int) - (s.length : Int) < 0) = false := by simp; omega
    have hlen : s.length ≤ 1048576 := by omega
    simp only [hn, bA.eq, go_sem, Hold.p, HoldK.k, HoldL.K, HoldL.body, Nat.reduceBEq, Nat.reduceAdd, List.getElem?_cons_zero, List.getElem?_cons_succ, Option.bind_some, List.map_cons, List.map_nil, Nat.zero_add, if_true, List.getD_cons_zero, List.getD_cons_succ, List.contains_cons, List.contains_nil, Nat.reduceBEq, Bool.or_true, Bool.true_or, Bool.or_false, Bool.false_or, Bool.not_true, Bool.not_false, true_and, and_true, rowA_whole, push_n, set_n, push_obj, set_obj, set_push, set_push_ne, set_set, Nat.add_assoc, Nat.left_eq_add, Nat.add_eq_left, Nat.add_left_cancel_iff, Nat.reduceEqDiff, stO_1s, stO_ws, boxA_s, one_bool, one_int, one_str, one_ptr, one_nilptr, one_slice, one_eslice, one_nilslice, one_func, one_iface, one_niliface, List.all_cons, List.all_nil, List.length_cons, List.length_nil, Nat.reduceLT, Nat.reduceEqDiff, Nat.reduceLeDiff, Bool.and_true, Nat.one_ne_zero, Nat.succ_ne_zero, reduceIte, if_false, List.getElem?_cons_zero, List.set_cons_zero, List.set_cons_succ]
    refine callA_of (toNameQuery_c _ id s) ?_
    rintro r h2 ⟨rfl, hE2⟩
    have bA := bA.ext hE2
    have le_hE2 := hE2.le
    simp only [hn, go_sem, Hold.p, HoldK.k, HoldL.K, HoldL.body, Nat.reduceBEq, Nat.reduceAdd, List.getElem?_cons_zero, List.getElem?_cons_succ, Option.bind_some, List.map_cons, List.map_nil, Nat.zero_add, if_true, List.getD_cons_zero, List.getD_cons_succ, List.contains_cons, List.contains_nil, Nat.reduceBEq, Bool.or_true, Bool.true_or, Bool.or_false, Bool.false_or, Bool.not_true, Bool.not_false, true_and, and_true, rowA_whole, push_n, set_n, push_obj, set_obj, set_push, set_push_ne, set_set, Nat.add_assoc, Nat.left_eq_add, Nat.add_eq_left, Nat.add_left_cancel_iff, Nat.reduceEqDiff, stO_1s, stO_ws, boxA_s, one_bool, one_int, one_str, one_ptr, one_nilptr, one_slice, one_eslice, one_nilslice, one_func, one_iface, one_niliface, List.all_cons, List.all_nil, List.length_cons, List.length_nil, Nat.reduceLT, Nat.reduceEqDiff, Nat.reduceLeDiff, Bool.and_true, Nat.one_ne_zero, Nat.succ_ne_zero, reduceIte, if_false, List.getElem?_cons_zero, List.set_cons_zero, List.set_cons_succ]
    refine callA_of (specEncodeQuery_c _ id s hlen) ?_
    rintro r h3 ⟨vW, rfl, oW, hE3⟩
    have bA := bA.ext hE3
    have le_hE3 := hE3.le
    have hfl : (encQ id s).1.length ≤ 1000 := encQ_len
    generalize hfb : encQ id s = fb at oW hfl
    obtain ⟨bs, fc⟩ := fb
    simp only at oW hfl
    simp only [hn, bA.eq, go_sem, Hold.p, HoldK.k, HoldL.K, HoldL.body, Nat.reduceBEq, Nat.reduceAdd, List.getElem?_cons_zero, List.getElem?_cons_succ, Option.bind_some, List.map_cons, List.map_nil, Nat.zero_add, if_true, List.getD_cons_zero, List.getD_cons_succ, List.contains_cons, List.contains_nil, Nat.reduceBEq, Bool.or_true, Bool.true_or, Bool.or_false, Bool.false_or, Bool.not_true, Bool.not_false, true_and, and_true, rowA_whole, push_n, set_n, push_obj, set_obj, set_push, set_push_ne, set_set, Nat.add_assoc, Nat.left_eq_add, Nat.add_eq_left, Nat.add_left_cancel_iff, Nat.reduceEqDiff, stO_1s, stO_ws, boxA_s, one_bool, one_int, one_str, one_ptr, one_nilptr, one_slice, one_eslice, one_nilslice, one_func, one_iface, one_niliface, List.all_cons, List.all_nil, List.length_cons, List.length_nil, Nat.reduceLT, Nat.reduceEqDiff, Nat.reduceLeDiff, Bool.and_true, Nat.one_ne_zero, Nat.succ_ne_zero, reduceIte, if_false, List.getElem?_cons_zero, List.set_cons_zero, List.set_cons_succ]
    refine callA_of (toNameQuery_c _ id s) ?_
    rintro r h4 ⟨rfl, hE4⟩
    have bA := bA.ext hE4
    have oW := oW.ext hE4
    have le_hE4 := hE4.le
    simp only [go_sem, Hold.p, HoldK.k, HoldL.K, HoldL.body, Nat.reduceBEq, Nat.reduceAdd, List.getElem?_cons_zero, List.getElem?_cons_succ, Option.bind_some, List.map_cons, List.map_nil, Nat.zero_add, if_true, List.getD_cons_zero, List.getD_cons_succ, List.contains_cons, List.contains_nil, Nat.reduceBEq, Bool.or_true, Bool.true_or, Bool.or_false, Bool.false_or, Bool.not_true, Bool.not_false, true_and, and_true, rowA_whole, push_n, set_n, push_obj, set_obj, set_push, set_push_ne, set_set, Nat.add_assoc, Nat.left_eq_add, Nat.add_eq_left, Nat.add_left_cancel_iff, Nat.reduceEqDiff, stO_1s, stO_ws, boxA_s, one_bool, one_int, one_str, one_ptr, one_nilptr, one_slice, one_eslice, one_nilslice, one_func, one_iface, one_niliface, List.all_cons, List.all_nil, List.length_cons, List.length_nil, Nat.reduceLT, Nat.reduceEqDiff, Nat.reduceLeDiff, Bool.and_true, Nat.one_ne_zero, Nat.succ_ne_zero, reduceIte, if_false, List.getElem?_cons_zero, List.set_cons_zero, List.set_cons_succ]
    refine callA_of (implEncodeQuery_c _ id s hlen) ?_
    rintro r h5 ⟨vG, rfl, oG, hE5⟩
    rw [hfb] at oG
    simp only [hfb] at oG ⊢
    have bA := bA.ext hE5
    have oW := oW.ext hE5
    have le_hE5 := hE5.le
    simp only [go_sem, Hold.p, HoldK.k, HoldL.K, HoldL.body, Nat.reduceBEq, Nat.reduceAdd, List.getElem?_cons_zero, List.getElem?_cons_succ, Option.bind_some, List.map_cons, List.map_nil, Nat.zero_add, if_true, List.getD_cons_zero, List.getD_cons_succ, List.contains_cons, List.contains_nil, Nat.reduceBEq, Bool.or_true, Bool.true_or, Bool.or_false, Bool.false_or, Bool.not_true, Bool.not_false, true_and, and_true, rowA_whole, push_n, set_n, push_obj, set_obj, set_push, set_push_ne, set_set, Nat.add_assoc, Nat.left_eq_add, Nat.add_eq_left, Nat.add_left_cancel_iff, Nat.reduceEqDiff, stO_1s, stO_ws, boxA_s, one_bool, one_int, one_str, one_ptr, one_nilptr, one_slice, one_eslice, one_nilslice, one_func, one_iface, one_niliface, List.all_cons, List.all_nil, List.length_cons, List.length_nil, Nat.reduceLT, Nat.reduceEqDiff, Nat.reduceLeDiff, Bool.and_true, Nat.one_ne_zero, Nat.succ_ne_zero, reduceIte, if_false, List.getElem?_cons_zero, List.set_cons_zero, List.set_cons_succ]
    refine callA_of (eqByteS_c _ vG vW bs oG.sl oW.sl (by omega)) ?_
    rintro r h6 ⟨rfl, rfl⟩
    simp only [decide_true, go_sem, Hold.p, HoldK.k, HoldL.K, HoldL.body, Nat.reduceBEq, Nat.reduceAdd, List.getElem?_cons_zero, List.getElem?_cons_succ, Option.bind_some, List.map_cons, List.map_nil, Nat.zero_add, if_true, List.getD_cons_zero, List.getD_cons_succ, List.contains_cons, List.contains_nil, Nat.reduceBEq, Bool.or_true, Bool.true_or, Bool.or_false, Bool.false_or, Bool.not_true, Bool.not_false, true_and, and_true, rowA_whole, push_n, set_n, push_obj, set_obj, set_push, set_push_ne, set_set, Nat.add_assoc, Nat.left_eq_add, Nat.add_eq_left, Nat.add_left_cancel_iff, Nat.reduceEqDiff, stO_1s, stO_ws, boxA_s, one_bool, one_int, one_str, one_ptr, one_nilptr, one_slice, one_eslice, one_nilslice, one_func, one_iface, one_niliface, List.all_cons, List.all_nil, List.length_cons, List.length_nil, Nat.reduceLT, Nat.reduceEqDiff, Nat.reduceLeDiff, Bool.and_true, Nat.one_ne_zero, Nat.succ_ne_zero, reduceIte, if_false, List.getElem?_cons_zero, List.set_cons_zero, List.set_cons_succ]
    refine callA_of (markByteS_c _ vG 1 _ oG rows1 (by rw [strRows_len]; omega)) ?_
    rintro r h7 ⟨rfl, oM, ht7⟩
    have bA := bA.turn oG (by omega) ht7
    have oW := oW.turn oG (by omega) ht7
    have le_ht7 := ht7.le
    rw [strRows_len] at oM
    simp only [go_sem, Hold.p, HoldK.k, HoldL.K, HoldL.body, Nat.reduceBEq, Nat.reduceAdd, List.getElem?_cons_zero, List.getElem?_cons_succ, Option.bind_some, List.map_cons, List.map_nil, Nat.zero_add, if_true, List.getD_cons_zero, List.getD_cons_succ, List.contains_cons, List.contains_nil, Nat.reduceBEq, Bool.or_true, Bool.true_or, Bool.or_false, Bool.false_or, Bool.not_true, Bool.not_false, true_and, and_true, rowA_whole, push_n, set_n, push_obj, set_obj, set_push, set_push_ne, set_set, Nat.add_assoc, Nat.left_eq_add, Nat.add_eq_left, Nat.add_left_cancel_iff, Nat.reduceEqDiff, stO_1s, stO_ws, boxA_s, one_bool, one_int, one_str, one_ptr, one_nilptr, one_slice, one_eslice, one_nilslice, one_func, one_iface, one_niliface, List.all_cons, List.all_nil, List.length_cons, List.length_nil, Nat.reduceLT, Nat.reduceEqDiff, Nat.reduceLeDiff, Bool.and_true, Nat.one_ne_zero, Nat.succ_ne_zero, reduceIte, if_false, List.getElem?_cons_zero, List.set_cons_zero, List.set_cons_succ]
    refine callA_of (heldByteS_c _ vG bs.length 1 oM.sl (by omega)) ?_
    rintro r h8 ⟨rfl, rfl⟩
    have hq : decide (((1 + bs.length : Nat) : Int) < 0) = false := decide_eq_false (by omega)
    simp only [hq, bA.eq, decide_true, strRows_len, go_sem, Hold.p, HoldK.k, HoldL.K, HoldL.body, Nat.reduceBEq, Nat.reduceAdd, List.getElem?_cons_zero, List.getElem?_cons_succ, Option.bind_some, List.map_cons, List.map_nil, Nat.zero_add, if_true, List.getD_cons_zero, List.getD_cons_succ, List.contains_cons, List.contains_nil, Nat.reduceBEq, Bool.or_true, Bool.true_or, Bool.or_false, Bool.false_or, Bool.not_true, Bool.not_false, true_and, and_true, rowA_whole, push_n, set_n, push_obj, set_obj, set_push, set_push_ne, set_set, Nat.add_assoc, Nat.left_eq_add, Nat.add_eq_left, Nat.add_left_cancel_iff, Nat.reduceEqDiff, stO_1s, stO_ws, boxA_s, one_bool, one_int, one_str, one_ptr, one_nilptr, one_slice, one_eslice, one_nilslice, one_func, one_iface, one_niliface, List.all_cons, List.all_nil, List.length_cons, List.length_nil, Nat.reduceLT, Nat.reduceEqDiff, Nat.reduceLeDiff, Bool.and_true, Nat.one_ne_zero, Nat.succ_ne_zero, reduceIte, if_false, List.getElem?_cons_zero, List.set_cons_zero, List.set_cons_succ]
    refine callA_of (toNameQuery_c _ id s) ?_
    rintro r h9 ⟨rfl, hE9⟩
    have bA := bA.ext hE9
    have oW := oW.ext hE9
    have oM := oM.ext hE9
    have le_hE9 := hE9.le
    simp only [go_sem, Hold.p, HoldK.k, HoldL.K, HoldL.body, Nat.reduceBEq, Nat.reduceAdd, List.getElem?_cons_zero, List.getElem?_cons_succ, Option.bind_some, List.map_cons, List.map_nil, Nat.zero_add, if_true, List.getD_cons_zero, List.getD_cons_succ, List.contains_cons, List.contains_nil, Nat.reduceBEq, Bool.or_true, Bool.true_or, Bool.or_false, Bool.false_or, Bool.not_true, Bool.not_false, true_and, and_true, rowA_whole, push_n, set_n, push_obj, set_obj, set_push, set_push_ne, set_set, Nat.add_assoc, Nat.left_eq_add, Nat.add_eq_left, Nat.add_left_cancel_iff, Nat.reduceEqDiff, stO_1s, stO_ws, boxA_s, one_bool, one_int, one_str, one_ptr, one_nilptr, one_slice, one_eslice, one_nilslice, one_func, one_iface, one_niliface, List.all_cons, List.all_nil, List.length_cons, List.length_nil, Nat.reduceLT, Nat.reduceEqDiff, Nat.reduceLeDiff, Bool.and_true, Nat.one_ne_zero, Nat.succ_ne_zero, reduceIte, if_false, List.getElem?_cons_zero, List.set_cons_zero, List.set_cons_succ]
    refine callA_of (implEncodeQuery_c _ id s hlen) ?_
    rintro r h10 ⟨vH, rfl, oH, hE10⟩
    rw [hfb] at oH
    simp only [hfb] at oH ⊢
    have bA := bA.ext hE10
    have oW := oW.ext hE10
    have oM := oM.ext hE10
    have le_hE10 := hE10.le
    simp only [go_sem, Hold.p, HoldK.k, HoldL.K, HoldL.body, Nat.reduceBEq, Nat.reduceAdd, List.getElem?_cons_zero, List.getElem?_cons_succ, Option.bind_some, List.map_cons, List.map_nil, Nat.zero_add, if_true, List.getD_cons_zero, List.getD_cons_succ, List.contains_cons, List.contains_nil, Nat.reduceBEq, Bool.or_true, Bool.true_or, Bool.or_false, Bool.false_or, Bool.not_true, Bool.not_false, true_and, and_true, rowA_whole, push_n, set_n, push_obj, set_obj, set_push, set_push_ne, set_set, Nat.add_assoc, Nat.left_eq_add, Nat.add_eq_left, Nat.add_left_cancel_iff, Nat.reduceEqDiff, stO_1s, stO_ws, boxA_s, one_bool, one_int, one_str, one_ptr, one_nilptr, one_slice, one_eslice, one_nilslice, one_func, one_iface, one_niliface, List.all_cons, List.all_nil, List.length_cons, List.length_nil, Nat.reduceLT, Nat.reduceEqDiff, Nat.reduceLeDiff, Bool.and_true, Nat.one_ne_zero, Nat.succ_ne_zero, reduceIte, if_false, List.getElem?_cons_zero, List.set_cons_zero, List.set_cons_succ]
    refine callA_of (eqByteS_c _ vH vW bs oH.sl oW.sl (by omega)) ?_
    rintro r h11 ⟨rfl, rfl⟩
    simp only [decide_true, go_sem, Hold.p, HoldK.k, HoldL.K, HoldL.body, Nat.reduceBEq, Nat.reduceAdd, List.getElem?_cons_zero, List.getElem?_cons_succ, Option.bind_some, List.map_cons, List.map_nil, Nat.zero_add, if_true, List.getD_cons_zero, List.getD_cons_succ, List.contains_cons, List.contains_nil, Nat.reduceBEq, Bool.or_true, Bool.true_or, Bool.or_false, Bool.false_or, Bool.not_true, Bool.not_false, true_and, and_true, rowA_whole, push_n, set_n, push_obj, set_obj, set_push, set_push_ne, set_set, Nat.add_assoc, Nat.left_eq_add, Nat.add_eq_left, Nat.add_left_cancel_iff, Nat.reduceEqDiff, stO_1s, stO_ws, boxA_s, one_bool, one_int, one_str, one_ptr, one_nilptr, one_slice, one_eslice, one_nilslice, one_func, one_iface, one_niliface, List.all_cons, List.all_nil, List.length_cons, List.length_nil, Nat.reduceLT, Nat.reduceEqDiff, Nat.reduceLeDiff, Bool.and_true, Nat.one_ne_zero, Nat.succ_ne_zero, reduceIte, if_false, List.getElem?_cons_zero, List.set_cons_zero, List.set_cons_succ]
    refine callA_of (heldByteS_c _ vG bs.length 1 oM.sl (by omega)) ?_
    rintro r h12 ⟨rfl, rfl⟩
    simp only [hq, decide_true, strRows_len, go_sem, Hold.p, HoldK.k, HoldL.K, HoldL.body, Nat.reduceBEq, Nat.reduceAdd, List.getElem?_cons_zero, List.getElem?_cons_succ, Option.bind_some, List.map_cons, List.map_nil, Nat.zero_add, if_true, List.getD_cons_zero, List.getD_cons_succ, List.contains_cons, List.contains_nil, Nat.reduceBEq, Bool.or_true, Bool.true_or, Bool.or_false, Bool.false_or, Bool.not_true, Bool.not_false, true_and, and_true, rowA_whole, push_n, set_n, push_obj, set_obj, set_push, set_push_ne, set_set, Nat.add_assoc, Nat.left_eq_add, Nat.add_eq_left, Nat.add_left_cancel_iff, Nat.reduceEqDiff, stO_1s, stO_ws, boxA_s, one_bool, one_int, one_str, one_ptr, one_nilptr, one_slice, one_eslice, one_nilslice, one_func, one_iface, one_niliface, List.all_cons, List.all_nil, List.length_cons, List.length_nil, Nat.reduceLT, Nat.reduceEqDiff, Nat.reduceLeDiff, Bool.and_true, Nat.one_ne_zero, Nat.succ_ne_zero, reduceIte, if_false, List.getElem?_cons_zero, List.set_cons_zero, List.set_cons_succ]
end Go.Proofs.YtcmcfmgabafljaaDoor

namespace Go.Proofs.YtcmcfmgabafljaaDoor
open Go Go.IW

set_option maxRecDepth 20000 in
theorem l03Num_c (h : IH) (v : IV) (bs : List UInt8) (hs : SlR h 1 v (strRows bs)) (hl : bs.length ≤ 7) : ICalls Tryd.prog 65 [v] h fun r h' => r = .int .i64 (numB bs) ∧ h' = h := by
  refine icalls (.of ok65) (Nat.le_of_ble_eq_true rfl) ?_
  unfold c65
  have hlen := hs.lenF
  rw [strRows_len] at hlen
  simp only [go_sem, Hold.p, HoldK.k, HoldL.K, HoldL.body, Nat.reduceBEq, Nat.reduceAdd, List.getElem?_cons_zero, List.getElem?_cons_succ, Option.bind_some, List.map_cons, List.map_nil, Nat.zero_add, if_true, List.getD_cons_zero, List.getD_cons_succ, List.contains_cons, List.contains_nil, Nat.reduceBEq, Bool.or_true, Bool.true_or, Bool.or_false, Bool.false_or, Bool.not_true, Bool.not_false, true_and, and_true]
  refine loop_at (fun n e h' => ∃ k, n = bs.length - k ∧ k ≤ bs.length ∧ e 0 = v ∧ e 3 = .int .i64 (numB (bs.take k)) ∧ e 4 = .int .i64 (k : Nat) ∧ h' = h) bs.length ?_ ?_
  · refine ⟨0, by omega, by omega, ?_⟩
    simp only [go_sem, Hold.p, HoldK.k, HoldL.K, HoldL.body, Nat.reduceBEq, Nat.reduceAdd, List.getElem?_cons_zero, List.getElem?_cons_succ, Option.bind_some, List.map_cons, List.map_nil, Nat.zero_add, if_true, List.getD_cons_zero, List.getD_cons_succ, List.contains_cons, List.contains_nil, Nat.reduceBEq, Bool.or_true, Bool.true_or, Bool.or_false, Bool.false_or, Bool.not_true, Bool.not_false, true_and, and_true]
    exact ⟨rfl, rfl⟩
  · rintro n e h' ⟨k, rfl, hk, e0, e3, e4, rfl⟩
    simp only [e0, e3, e4, hlen, go_sem, Hold.p, HoldK.k, HoldL.K, HoldL.body, Nat.reduceBEq, Nat.reduceAdd, List.getElem?_cons_zero, List.getElem?_cons_succ, Option.bind_some, List.map_cons, List.map_nil, Nat.zero_add, if_true, List.getD_cons_zero, List.getD_cons_succ, List.contains_cons, List.contains_nil, Nat.reduceBEq, Bool.or_true, Bool.true_or, Bool.or_false, Bool.false_or, Bool.not_true, Bool.not_false, true_and, and_true]
    refine test_dec (fun hb => ?_) (fun hb => ?_)
    · have hlt' : k < bs.length := by omega
      have hkp : bs[k]? = some bs[k] := List.getElem?_eq_getElem hlt'
      generalize bs[k] = p at hkp
      obtain ⟨l, j, hia, hll, hrow⟩ := hs.at (m := k) (strRows_at hkp) .i64
      have hc := cellO_row hrow
      have hbd := numB_bound 6 (bs.take k) (by simp; omega)
      have hpb : ((p.toNat : Nat) : Int) < 256 := by have := p.toNat_lt; omega
      have w1 : wr .i64 (numB (bs.take k) * 256) = numB (bs.take k) * 256 := wr64 _ (by omega)
      have w2 : wr .i64 ((p.toNat : Nat) : Int) = ((p.toNat : Nat) : Int) := wr64 _ (by omega)
      have w3 : wr .i64 (numB (bs.take k) * 256 + (p.toNat : Int)) = numB (bs.take (k + 1)) := by
        rw [List.take_add_one, hkp]
        simp only [Option.toList_some]
        rw [numB_snoc, wr64 _ (by omega)]
      simp only [e0, e3, e4, hia, hc, w1, w2, w3, go_sem, Hold.p, HoldK.k, HoldL.K, HoldL.body, Nat.reduceBEq, Nat.reduceAdd, List.getElem?_cons_zero, List.getElem?_cons_succ, Option.bind_some, List.map_cons, List.map_nil, Nat.zero_add, if_true, List.getD_cons_zero, List.getD_cons_succ, List.contains_cons, List.contains_nil, Nat.reduceBEq, Bool.or_true, Bool.true_or, Bool.or_false, Bool.false_or, Bool.not_true, Bool.not_false, true_and, and_true]
      exact ⟨_, by omega, k + 1, rfl, by omega, rfl, wr64_succ k (by omega)⟩
    · obtain rfl : k = bs.length := by omega
      rw [List.take_length] at e3
      simp only [e0, e3, e4, go_sem, Hold.p, HoldK.k, HoldL.K, HoldL.body, Nat.reduceBEq, Nat.reduceAdd, List.getElem?_cons_zero, List.getElem?_cons_succ, Option.bind_some, List.map_cons, List.map_nil, Nat.zero_add, if_true, List.getD_cons_zero, List.getD_cons_succ, List.contains_cons, List.contains_nil, Nat.reduceBEq, Bool.or_true, Bool.true_or, Bool.or_false, Bool.false_or, Bool.not_true, Bool.not_false, true_and, and_true]

set_option maxRecDepth 20000 in
theorem get_c (h : IH) (v : IV) (bs : List UInt8) (hs : SlR h 1 v (strRows bs)) (hl : bs.length ≤ 7) : ICalls Tryd.prog 108 [v] h fun r h' => r = .int .i64 (numB bs) ∧ h' = h := by
  refine icalls (.of ok108) (Nat.le_of_ble_eq_true rfl) ?_
  unfold c108
  have hlen := hs.lenF
  rw [strRows_len] at hlen
  simp only [hlen, go_sem, Hold.p, HoldK.k, HoldL.K, HoldL.body, Nat.reduceBEq, Nat.reduceAdd, List.getElem?_cons_zero, List.getElem?_cons_succ, Option.bind_some, List.map_cons, List.map_nil, Nat.zero_add, if_true, List.getD_cons_zero, List.getD_cons_succ, List.contains_cons, List.contains_nil, Nat.reduceBEq, Bool.or_true, Bool.true_or, Bool.or_false, Bool.false_or, Bool.not_true, Bool.not_false, true_and, and_true]
  refine loop_at (fun n e h' => ∃ k, n = bs.length - k ∧ k ≤ bs.length ∧ e 6 = v ∧ e 7 = .int .i64 (bs.length : Nat) ∧ e 3 = .int .i64 (numB (bs.take k)) ∧ e 8 = .int .i64 (k : Nat) ∧ h' = h) bs.length ?_ ?_
  · refine ⟨0, by omega, by omega, ?_⟩
    simp only [go_sem, Hold.p, HoldK.k, HoldL.K, HoldL.body, Nat.reduceBEq, Nat.reduceAdd, List.getElem?_cons_zero, List.getElem?_cons_succ, Option.bind_some, List.map_cons, List.map_nil, Nat.zero_add, if_true, List.getD_cons_zero, List.getD_cons_succ, List.contains_cons, List.contains_nil, Nat.reduceBEq, Bool.or_true, Bool.true_or, Bool.or_false, Bool.false_or, Bool.not_true, Bool.not_false, true_and, and_true]
    exact ⟨rfl, rfl⟩
  · rintro n e h' ⟨k, rfl, hk, e6, e7, e3, e8, rfl⟩
    simp only [e6, e7, e3, e8, go_sem, Hold.p, HoldK.k, HoldL.K, HoldL.body, Nat.reduceBEq, Nat.reduceAdd, List.getElem?_cons_zero, List.getElem?_cons_succ, Option.bind_some, List.map_cons, List.map_nil, Nat.zero_add, if_true, List.getD_cons_zero, List.getD_cons_succ, List.contains_cons, List.contains_nil, Nat.reduceBEq, Bool.or_true, Bool.true_or, Bool.or_false, Bool.false_or, Bool.not_true, Bool.not_false, true_and, and_true]
    refine test_dec (fun hb => ?_) (fun hb => ?_)
    · have hlt' : k < bs.length := by omega
      have hkp : bs[k]? = some bs[k] := List.getElem?_eq_getElem hlt'
      generalize bs[k] = p at hkp
      obtain ⟨l, j, hia, hll, hrow⟩ := hs.at (m := k) (strRows_at hkp) .i64
      have hc := cellO_row hrow
      have hbd := numB_bound 6 (bs.take k) (by simp; omega)
      have hpb : ((p.toNat : Nat) : Int) < 256 := by have := p.toNat_lt; omega
      have w0 := ib_shl .i64 (numB (bs.take k)) 8 .u64 (by omega)
      have hmin : min (8 : Int).toNat IntKind.i64.bits = 8 := rfl
      rw [hmin] at w0
      have w1 : wr .i64 (numB (bs.take k) * 2 ^ 8) = numB (bs.take k) * 256 := wr64 _ (by omega)
      rw [w1] at w0
      have w2 : wr .i64 ((p.toNat : Nat) : Int) = ((p.toNat : Nat) : Int) := wr64 _ (by omega)
      have w3 : IW.bits .or .i64 (numB (bs.take k) * 256) (p.toNat : Int) = numB (bs.take (k + 1)) := by
        rw [or_join (by omega) (by omega) (by omega) hpb, List.take_add_one, hkp]
        simp only [Option.toList_some]
        rw [numB_snoc]
      simp only [e6, e7, e3, e8, hia, hc, w0, w2, w3, go_sem, Hold.p, HoldK.k, HoldL.K, HoldL.body, Nat.reduceBEq, Nat.reduceAdd, List.getElem?_cons_zero, List.getElem?_cons_succ, Option.bind_some, List.map_cons, List.map_nil, Nat.zero_add, if_true, List.getD_cons_zero, List.getD_cons_succ, List.contains_cons, List.contains_nil, Nat.reduceBEq, Bool.or_true, Bool.true_or, Bool.or_false, Bool.false_or, Bool.not_true, Bool.not_false, true_and, and_true]
      exact ⟨_, by omega, k + 1, rfl, by omega, rfl, wr64_succ k (by omega)⟩
    · obtain rfl : k = bs.length := by omega
      rw [List.take_length] at e3
      simp only [e6, e7, e3, e8, go_sem, Hold.p, HoldK.k, HoldL.K, HoldL.body, Nat.reduceBEq, Nat.reduceAdd, List.getElem?_cons_zero, List.getElem?_cons_succ, Option.bind_some, List.map_cons, List.map_nil, Nat.zero_add, if_true, List.getD_cons_zero, List.getD_cons_succ, List.contains_cons, List.contains_nil, Nat.reduceBEq, Bool.or_true, Bool.true_or, Bool.or_false, Bool.false_or, Bool.not_true, Bool.not_false, true_and, and_true]

set_option maxRecDepth 20000 in
theorem toByteS_c (h : IH) (v : IV) (bs : List UInt8) (hs : SlR h 1 v (strRows bs)) (hm : bs.length ≤ 1048576) :
    ICalls Tryd.prog 22 [v] h fun r h' => Own h.n h'.n h' 5 1 r (strRows bs) ∧ Ext h h' := by
  refine icalls (.of ok22) (Nat.le_of_ble_eq_true rfl) ?_
  unfold c22
  have hv1 := hs.one
  have hlen := hs.lenF
  rw [strRows_len] at hlen
  simp only [hv1, hlen, go_sem, Hold.p, HoldK.k, HoldL.K, HoldL.body, Nat.reduceBEq, Nat.reduceAdd, List.getElem?_cons_zero, List.getElem?_cons_succ, Option.bind_some, List.map_cons, List.map_nil, Nat.zero_add, if_true, List.getD_cons_zero, List.getD_cons_succ, List.contains_cons, List.contains_nil, Nat.reduceBEq, Bool.or_true, Bool.true_or, Bool.or_false, Bool.false_or, Bool.not_true, Bool.not_false, true_and, and_true]
  by_cases h0 : bs.length = 0
  · have hps : bs = [] := List.length_eq_zero_iff.1 h0
    subst hps
    refine mksA_0 ?_
    simp only [hv1, hlen, go_sem, Hold.p, HoldK.k, HoldL.K, HoldL.body, Nat.reduceBEq, Nat.reduceAdd, List.getElem?_cons_zero, List.getElem?_cons_succ, Option.bind_some, List.map_cons, List.map_nil, Nat.zero_add, if_true, List.getD_cons_zero, List.getD_cons_succ, List.contains_cons, List.contains_nil, Nat.reduceBEq, Bool.or_true, Bool.true_or, Bool.or_false, Bool.false_or, Bool.not_true, Bool.not_false, true_and, and_true]
    refine loop_at (fun n e h' => n = 0 ∧ h' = h ∧ e 0 = v ∧ e 3 = .eslice true ∧ e 4 = .int .i64 0) 0 ?_ ?_
    · simp only [go_sem, Hold.p, HoldK.k, HoldL.K, HoldL.body, Nat.reduceBEq, Nat.reduceAdd, List.getElem?_cons_zero, List.getElem?_cons_succ, Option.bind_some, List.map_cons, List.map_nil, Nat.zero_add, if_true, List.getD_cons_zero, List.getD_cons_succ, List.contains_cons, List.contains_nil, Nat.reduceBEq, Bool.or_true, Bool.true_or, Bool.or_false, Bool.false_or, Bool.not_true, Bool.not_false, true_and, and_true]
    · rintro n e h' ⟨rfl, rfl, e0, e3, e4⟩
      simp only [e0, e3, e4, hlen, go_sem, Hold.p, HoldK.k, HoldL.K, HoldL.body, Nat.reduceBEq, Nat.reduceAdd, List.getElem?_cons_zero, List.getElem?_cons_succ, Option.bind_some, List.map_cons, List.map_nil, Nat.zero_add, if_true, List.getD_cons_zero, List.getD_cons_succ, List.contains_cons, List.contains_nil, Nat.reduceBEq, Bool.or_true, Bool.true_or, Bool.or_false, Bool.false_or, Bool.not_true, Bool.not_false, true_and, and_true]
      refine test_dec (fun hb => absurd hb (by simp)) (fun _ => ?_)
      simp only [e0, e3, e4, hlen, go_sem, Hold.p, HoldK.k, HoldL.K, HoldL.body, Nat.reduceBEq, Nat.reduceAdd, List.getElem?_cons_zero, List.getElem?_cons_succ, Option.bind_some, List.map_cons, List.map_nil, Nat.zero_add, if_true, List.getD_cons_zero, List.getD_cons_succ, List.contains_cons, List.contains_nil, Nat.reduceBEq, Bool.or_true, Bool.true_or, Bool.or_false, Bool.false_or, Bool.not_true, Bool.not_false, true_and, and_true]
      exact ⟨.empty, Ext.refl _⟩
  · refine mksA_of (by omega) (by omega) (by omega) ?_
    simp only [go_sem, Hold.p, HoldK.k, HoldL.K, HoldL.body, Nat.reduceBEq, Nat.reduceAdd, List.getElem?_cons_zero, List.getElem?_cons_succ, Option.bind_some, List.map_cons, List.map_nil, Nat.zero_add, if_true, List.getD_cons_zero, List.getD_cons_succ, List.contains_cons, List.contains_nil, Nat.reduceBEq, Bool.or_true, Bool.true_or, Bool.or_false, Bool.false_or, Bool.not_true, Bool.not_false, true_and, and_true]
    have hE0 : Ext h (h.push (IObj.rows (List.replicate bs.length [.int .u8 0]) 5 1 false)) := (Ext.refl _).push _
    refine loop_at (fun n e h' => ∃ k, n = bs.length - k ∧ k ≤ bs.length ∧ e 0 = v ∧ e 3 = .slice h.n 0 bs.length ∧ e 4 = .int .i64 k ∧ Ext h h' ∧ h.n < h'.n ∧
      h'.obj h.n = .rows ((strRows bs).take k ++ List.replicate (bs.length - k) [.int .u8 0]) 5 1 false) bs.length ?_ ?_
    · refine ⟨0, by omega, by omega, ?_⟩
      simp only [go_sem, Hold.p, HoldK.k, HoldL.K, HoldL.body, Nat.reduceBEq, Nat.reduceAdd, List.getElem?_cons_zero, List.getElem?_cons_succ, Option.bind_some, List.map_cons, List.map_nil, Nat.zero_add, if_true, List.getD_cons_zero, List.getD_cons_succ, List.contains_cons, List.contains_nil, Nat.reduceBEq, Bool.or_true, Bool.true_or, Bool.or_false, Bool.false_or, Bool.not_true, Bool.not_false, true_and, and_true, rowA_whole, push_n, set_n, push_obj, set_obj, set_push, set_push_ne, set_set, Nat.add_assoc, Nat.left_eq_add, Nat.add_eq_left, Nat.add_left_cancel_iff, Nat.reduceEqDiff, stO_1s, stO_ws, boxA_s, one_bool, one_int, one_str, one_ptr, one_nilptr, one_slice, one_eslice, one_nilslice, one_func, one_iface, one_niliface, List.all_cons, List.all_nil, List.length_cons, List.length_nil, Nat.reduceLT, Nat.reduceEqDiff, Nat.reduceLeDiff, Bool.and_true, Nat.one_ne_zero, Nat.succ_ne_zero, reduceIte, if_false, List.getElem?_cons_zero, List.set_cons_zero, List.set_cons_succ]
      exact ⟨rfl, hE0, by omega, by simp⟩
    · rintro n e h' ⟨k, rfl, hk, e0, e3, e4, hE, hlt, hobj⟩
      simp only [e0, e3, e4, hlen, go_sem, Hold.p, HoldK.k, HoldL.K, HoldL.body, Nat.reduceBEq, Nat.reduceAdd, List.getElem?_cons_zero, List.getElem?_cons_succ, Option.bind_some, List.map_cons, List.map_nil, Nat.zero_add, if_true, List.getD_cons_zero, List.getD_cons_succ, List.contains_cons, List.contains_nil, Nat.reduceBEq, Bool.or_true, Bool.true_or, Bool.or_false, Bool.false_or, Bool.not_true, Bool.not_false, true_and, and_true]
      refine test_dec (fun hb => ?_) (fun hb => ?_)
      · have hlt' : k < bs.length := by omega
        have hkp : bs[k]? = some bs[k] := List.getElem?_eq_getElem hlt'
        generalize bs[k] = p at hkp
        have hkr := strRows_at hkp
        obtain ⟨l, j, hia, hll, hrow⟩ := (hs.ext hE).at (m := k) hkr .i64
        have hc := cellO_row hrow
        have hsl : (strRows bs).length = bs.length := strRows_len bs
        have hia2 : iadrF h' 1 (.slice h.n 0 bs.length) (.int .i64 k) = some (.ptr h.n k 0) := by
          rw [iadrF_of _ (by omega) (by omega) (by rw [size_eq, hobj]; rfl)]; simp
        simp only [e0, e3, e4, hlen, hia, hc, hia2, hobj, go_sem, Hold.p, HoldK.k, HoldL.K, HoldL.body, Nat.reduceBEq, Nat.reduceAdd, List.getElem?_cons_zero, List.getElem?_cons_succ, Option.bind_some, List.map_cons, List.map_nil, Nat.zero_add, if_true, List.getD_cons_zero, List.getD_cons_succ, List.contains_cons, List.contains_nil, Nat.reduceBEq, Bool.or_true, Bool.true_or, Bool.or_false, Bool.false_or, Bool.not_true, Bool.not_false, true_and, and_true]
        refine stO_of (row := [.int .u8 0]) (fill_at _ _ hsl.symm hlt') rfl (by simp) (by simp [IV.one]) ?_
        have hw : wrt [IV.int .u8 0] 0 [IV.int .u8 p.toNat] = [IV.int .u8 p.toNat] := rfl
        rw [hw, fill_set _ _ _ hsl.symm hkr]
        simp only [e0, e3, e4, go_sem, Hold.p, HoldK.k, HoldL.K, HoldL.body, Nat.reduceBEq, Nat.reduceAdd, List.getElem?_cons_zero, List.getElem?_cons_succ, Option.bind_some, List.map_cons, List.map_nil, Nat.zero_add, if_true, List.getD_cons_zero, List.getD_cons_succ, List.contains_cons, List.contains_nil, Nat.reduceBEq, Bool.or_true, Bool.true_or, Bool.or_false, Bool.false_or, Bool.not_true, Bool.not_false, true_and, and_true]
        refine ⟨_, ?_, k + 1, rfl, by omega, wr64_succ k (by omega), hE.set _ (Nat.le_refl _) _, ?_, ?_⟩
        · omega
        · exact hlt
        · simp [IH.set]
      · simp only [e0, e3, e4, hlen, go_sem, Hold.p, HoldK.k, HoldL.K, HoldL.body, Nat.reduceBEq, Nat.reduceAdd, List.getElem?_cons_zero, List.getElem?_cons_succ, Option.bind_some, List.map_cons, List.map_nil, Nat.zero_add, if_true, List.getD_cons_zero, List.getD_cons_succ, List.contains_cons, List.contains_nil, Nat.reduceBEq, Bool.or_true, Bool.true_or, Bool.or_false, Bool.false_or, Bool.not_true, Bool.not_false, true_and, and_true]
        obtain rfl : k = bs.length := by omega
        have hsl : (strRows bs).length = bs.length := strRows_len bs
        refine ⟨.inr ⟨h.n, ?_, ?_, Nat.le_refl _, hlt, Nat.le_refl _, ?_⟩, hE⟩
        · intro hx; exact h0 (by rw [← hsl, hx]; rfl)
        · rw [hsl]
        · rw [hobj, List.take_of_length_le (by omega)]; simp

/-! Bytes that are taken off the front. -/
def takeD (bs : List UInt8) (sh : Bool) (n : Nat) : List UInt8 × List UInt8 × Bool :=
  if bs.length < n then (List.replicate (min n 8) 0, [], true) else (bs.take n, bs.drop n, sh)
structure BitesAt (h : IH) (p : Nat) (bs : List UInt8) (sh : Bool) : Prop where
  box : ∃ v, At h p (.rows [[v, .bool sh]] 105 2 false) ∧ SlR h 1 v (strRows bs) ∧ ∀ l i m, v = .slice l i m → l < p

theorem islc_at {h : IH} {sz a b : Nat} {v : IV} {l i m : Nat} {mx : Option Nat} (e : islc h sz v a b mx = some (.slice l i m)) : ∃ i0 m0, v = .slice l i0 m0 := by
  cases v with
  | slice l0 i0 m0 =>
    simp only [islc] at e
    split at e
    · split at e
      · split at e
        · cases e
        · cases e; exact ⟨i0, m0, rfl⟩
      · split at e
        · split at e
          · cases e
          · cases e; exact ⟨i0, m0, rfl⟩
        · cases e
    · cases e
  | eslice z => simp only [islc] at e; split at e <;> cases e
  | nilslice => simp only [islc] at e; split at e <;> cases e
  | _ => cases e
theorem slcF_at {h : IH} {sz : Nat} {v : IV} {l i m : Nat} {lo hi : Option IV} (e : slcF h sz v lo hi = some (.slice l i m)) : ∃ i0 m0, v = .slice l i0 m0 := by
  unfold slcF at e
  split at e
  · split at e
    · split at e
      · exact islc_at e
      · cases e
    · cases e
  · cases e

theorem strRows_take (a : List UInt8) (n : Nat) : (strRows a).take n = strRows (a.take n) := by simp [strRows, List.map_take]
theorem strRows_drop (a : List UInt8) (n : Nat) : (strRows a).drop n = strRows (a.drop n) := by simp [strRows, List.map_drop]

set_option maxRecDepth 20000 in
theorem take_c (h : IH) (p n : Nat) (bs : List UInt8) (sh : Bool) (hb : BitesAt h p bs sh) (hn : n ≤ 255) (hl : bs.length ≤ 1048576) :
    ICalls Tryd.prog 67 [.ptr p 0 0, .int .i64 n] h fun r h' => SlR h' 1 r (strRows (takeD bs sh n).1) ∧ BitesAt h' p (takeD bs sh n).2.1 (takeD bs sh n).2.2 ∧ But p .nilslice h h' := by
  obtain ⟨v, ha, hs, hlow⟩ := hb.box
  refine icalls (.of ok67) (Nat.le_of_ble_eq_true rfl) ?_
  unfold c67
  have hlen := hs.lenF
  rw [strRows_len] at hlen
  have hae := ha.eq
  have hal := ha.lt
  by_cases hc : bs.length < n
  · have hd : decide ((bs.length : Int) < (n : Int)) = true := decide_eq_true (by omega)
    have hdef : takeD bs sh n = (List.replicate (min n 8) 0, [], true) := if_pos hc
    rw [hdef]
    have hmn : min (n : Int) 8 = ((min n 8 : Nat) : Int) := by omega
    simp only [hae, hlen, hd, hmn, go_sem, Hold.p, HoldK.k, HoldL.K, HoldL.body, Nat.reduceBEq, Nat.reduceAdd, List.getElem?_cons_zero, List.getElem?_cons_succ, Option.bind_some, List.map_cons, List.map_nil, Nat.zero_add, if_true, List.getD_cons_zero, List.getD_cons_succ, List.contains_cons, List.contains_nil, Nat.reduceBEq, Bool.or_true, Bool.true_or, Bool.or_false, Bool.false_or, Bool.not_true, Bool.not_false, true_and, and_true, rowA_whole, push_n, set_n, push_obj, set_obj, set_push, set_push_ne, set_set, Nat.add_assoc, Nat.left_eq_add, Nat.add_eq_left, Nat.add_left_cancel_iff, Nat.reduceEqDiff, stO_1s, stO_ws, boxA_s, one_bool, one_int, one_str, one_ptr, one_nilptr, one_slice, one_eslice, one_nilslice, one_func, one_iface, one_niliface, List.all_cons, List.all_nil, List.length_cons, List.length_nil, Nat.reduceLT, Nat.reduceEqDiff, Nat.reduceLeDiff, Bool.and_true, Nat.one_ne_zero, Nat.succ_ne_zero, reduceIte, if_false, List.getElem?_cons_zero, List.set_cons_zero, List.set_cons_succ]
    refine mksA_of (by omega) (by omega) (by omega) ?_
    simp only [go_sem, Hold.p, HoldK.k, HoldL.K, HoldL.body, Nat.reduceBEq, Nat.reduceAdd, List.getElem?_cons_zero, List.getElem?_cons_succ, Option.bind_some, List.map_cons, List.map_nil, Nat.zero_add, if_true, List.getD_cons_zero, List.getD_cons_succ, List.contains_cons, List.contains_nil, Nat.reduceBEq, Bool.or_true, Bool.true_or, Bool.or_false, Bool.false_or, Bool.not_true, Bool.not_false, true_and, and_true, rowA_whole, push_n, set_n, push_obj, set_obj, set_push, set_push_ne, set_set, Nat.add_assoc, Nat.left_eq_add, Nat.add_eq_left, Nat.add_left_cancel_iff, Nat.reduceEqDiff, stO_1s, stO_ws, boxA_s, one_bool, one_int, one_str, one_ptr, one_nilptr, one_slice, one_eslice, one_nilslice, one_func, one_iface, one_niliface, List.all_cons, List.all_nil, List.length_cons, List.length_nil, Nat.reduceLT, Nat.reduceEqDiff, Nat.reduceLeDiff, Bool.and_true, Nat.one_ne_zero, Nat.succ_ne_zero, reduceIte, if_false, List.getElem?_cons_zero, List.set_cons_zero, List.set_cons_succ]
    have B : But p .nilslice h (h.set p (.rows [[.nilslice, .bool true]] 105 2 false)) := (But.refl _ _ _).set _
    have hrep : List.replicate (min n 8) [IV.int .u8 0] = strRows (List.replicate (min n 8) 0) := by simp [strRows]
    have hpn : (p = h.n) = False := by simp; omega
    refine ⟨?_, ⟨⟨.nilslice, ⟨by simp only [push_n, set_n]; omega, by simp [push_obj, set_obj, set_n, hpn]⟩, SlR.nil _ _, fun l i m e => by cases e⟩⟩, ?_⟩
    · refine SlR.whole (e := 5) (ro := false) (by rw [hrep]; exact push_new _ _) (by rw [strRows_len]; simp) (by simp only [push_n, set_n]; omega)
    · refine B.trans (But.of_ext ((Ext.refl _).push _))
  · have hd : decide ((bs.length : Int) < (n : Int)) = false := decide_eq_false (by omega)
    have hdef : takeD bs sh n = (bs.take n, bs.drop n, sh) := if_neg hc
    rw [hdef]
    obtain ⟨v1, hv1, hs1⟩ := hs.hi (b := n) (q := .i64) (by rw [strRows_len]; omega)
    obtain ⟨v2, hv2, hs2⟩ := hs.lo (a := n) (q := .i64) (by rw [strRows_len]; omega)
    rw [strRows_take] at hs1
    rw [strRows_drop] at hs2
    have hv2o := hs2.one
    have hv2c := hs2.cells
    simp only [hae, hlen, hd, hv1, hv2, Option.map_some, Option.map_none, hv2o, hv2c, go_sem, Hold.p, HoldK.k, HoldL.K, HoldL.body, Nat.reduceBEq, Nat.reduceAdd, List.getElem?_cons_zero, List.getElem?_cons_succ, Option.bind_some, List.map_cons, List.map_nil, Nat.zero_add, if_true, List.getD_cons_zero, List.getD_cons_succ, List.contains_cons, List.contains_nil, Nat.reduceBEq, Bool.or_true, Bool.true_or, Bool.or_false, Bool.false_or, Bool.not_true, Bool.not_false, true_and, and_true, rowA_whole, push_n, set_n, push_obj, set_obj, set_push, set_push_ne, set_set, Nat.add_assoc, Nat.left_eq_add, Nat.add_eq_left, Nat.add_left_cancel_iff, Nat.reduceEqDiff, stO_1s, stO_ws, boxA_s, one_bool, one_int, one_str, one_ptr, one_nilptr, one_slice, one_eslice, one_nilslice, one_func, one_iface, one_niliface, List.all_cons, List.all_nil, List.length_cons, List.length_nil, Nat.reduceLT, Nat.reduceEqDiff, Nat.reduceLeDiff, Bool.and_true, Nat.one_ne_zero, Nat.succ_ne_zero, reduceIte, if_false, List.getElem?_cons_zero, List.set_cons_zero, List.set_cons_succ]
    have B : But p .nilslice h (h.set p (.rows [[v2, .bool sh]] 105 2 false)) := (But.refl _ _ _).set _
    exact ⟨hs1.but B hae (by omega), ⟨⟨v2, ha.here, hs2.but B hae (by omega), fun l i m e => by subst e; obtain ⟨i0, m0, e0⟩ := slcF_at hv2; exact hlow _ _ _ e0⟩⟩, B⟩

set_option maxRecDepth 20000 in
theorem num_c (h : IH) (p n : Nat) (bs : List UInt8) (sh : Bool) (hb : BitesAt h p bs sh) (hn : n ≤ 7) (hl : bs.length ≤ 1048576) :
    ICalls Tryd.prog 66 [.ptr p 0 0, .int .i64 n] h fun r h' => r = .int .i64 (numB (takeD bs sh n).1) ∧ BitesAt h' p (takeD bs sh n).2.1 (takeD bs sh n).2.2 ∧ But p .nilslice h h' := by
  refine icalls (.of ok66) (Nat.le_of_ble_eq_true rfl) ?_
  unfold c66
  simp only [go_sem, Hold.p, HoldK.k, HoldL.K, HoldL.body, Nat.reduceBEq, Nat.reduceAdd, List.getElem?_cons_zero, List.getElem?_cons_succ, Option.bind_some, List.map_cons, List.map_nil, Nat.zero_add, if_true, List.getD_cons_zero, List.getD_cons_succ, List.contains_cons, List.contains_nil, Nat.reduceBEq, Bool.or_true, Bool.true_or, Bool.or_false, Bool.false_or, Bool.not_true, Bool.not_false, true_and, and_true, rowA_whole, push_n, set_n, push_obj, set_obj, set_push, set_push_ne, set_set, Nat.add_assoc, Nat.left_eq_add, Nat.add_eq_left, Nat.add_left_cancel_iff, Nat.reduceEqDiff, stO_1s, stO_ws, boxA_s, one_bool, one_int, one_str, one_ptr, one_nilptr, one_slice, one_eslice, one_nilslice, one_func, one_iface, one_niliface, List.all_cons, List.all_nil, List.length_cons, List.length_nil, Nat.reduceLT, Nat.reduceEqDiff, Nat.reduceLeDiff, Bool.and_true, Nat.one_ne_zero, Nat.succ_ne_zero, reduceIte, if_false, List.getElem?_cons_zero, List.set_cons_zero, List.set_cons_succ]
  refine callA_of (take_c h p n bs sh hb (by omega) hl) ?_
  rintro r h1 ⟨hs, hb1, B⟩
  simp only [go_sem, Hold.p, HoldK.k, HoldL.K, HoldL.body, Nat.reduceBEq, Nat.reduceAdd, List.getElem?_cons_zero, List.getElem?_cons_succ, Option.bind_some, List.map_cons, List.map_nil, Nat.zero_add, if_true, List.getD_cons_zero, List.getD_cons_succ, List.contains_cons, List.contains_nil, Nat.reduceBEq, Bool.or_true, Bool.true_or, Bool.or_false, Bool.false_or, Bool.not_true, Bool.not_false, true_and, and_true, rowA_whole, push_n, set_n, push_obj, set_obj, set_push, set_push_ne, set_set, Nat.add_assoc, Nat.left_eq_add, Nat.add_eq_left, Nat.add_left_cancel_iff, Nat.reduceEqDiff, stO_1s, stO_ws, boxA_s, one_bool, one_int, one_str, one_ptr, one_nilptr, one_slice, one_eslice, one_nilslice, one_func, one_iface, one_niliface, List.all_cons, List.all_nil, List.length_cons, List.length_nil, Nat.reduceLT, Nat.reduceEqDiff, Nat.reduceLeDiff, Bool.and_true, Nat.one_ne_zero, Nat.succ_ne_zero, reduceIte, if_false, List.getElem?_cons_zero, List.set_cons_zero, List.set_cons_succ]
  refine callA_of (get_c h1 r _ hs (by unfold takeD; split <;> simp <;> omega)) ?_
  rintro r2 h2 ⟨rfl, rfl⟩
  simp only [go_sem, Hold.p, HoldK.k, HoldL.K, HoldL.body, Nat.reduceBEq, Nat.reduceAdd, List.getElem?_cons_zero, List.getElem?_cons_succ, Option.bind_some, List.map_cons, List.map_nil, Nat.zero_add, if_true, List.getD_cons_zero, List.getD_cons_succ, List.contains_cons, List.contains_nil, Nat.reduceBEq, Bool.or_true, Bool.true_or, Bool.or_false, Bool.false_or, Bool.not_true, Bool.not_false, true_and, and_true, rowA_whole, push_n, set_n, push_obj, set_obj, set_push, set_push_ne, set_set, Nat.add_assoc, Nat.left_eq_add, Nat.add_eq_left, Nat.add_left_cancel_iff, Nat.reduceEqDiff, stO_1s, stO_ws, boxA_s, one_bool, one_int, one_str, one_ptr, one_nilptr, one_slice, one_eslice, one_nilslice, one_func, one_iface, one_niliface, List.all_cons, List.all_nil, List.length_cons, List.length_nil, Nat.reduceLT, Nat.reduceEqDiff, Nat.reduceLeDiff, Bool.and_true, Nat.one_ne_zero, Nat.succ_ne_zero, reduceIte, if_false, List.getElem?_cons_zero, List.set_cons_zero, List.set_cons_succ]
  exact ⟨hb1, B⟩
end Go.Proofs.YtcmcfmgabafljaaDoor

namespace Go.Proofs.YtcmcfmgabafljaaDoor
open Go Go.IW

theorem getD_at {bs : List UInt8} {k : Nat} (hk : k < bs.length) : bs[k]? = some (bs.getD k 0) := by
  rw [List.getD_eq_getElem?_getD, List.getElem?_eq_getElem hk]; rfl

/-- A text that begins with its length. -/
def textAt (bs : List UInt8) (at_ : Nat) : List UInt8 × Int :=
  if bs.length ≤ at_ ∨ bs.length < at_ + 1 + (bs.getD at_ 0).toNat then ([], -1) else ((bs.take (at_ + 1 + (bs.getD at_ 0).toNat)).drop (at_ + 1), ((at_ + 1 + (bs.getD at_ 0).toNat : Nat) : Int))

set_option maxRecDepth 20000 in
theorem l19Text_c (h : IH) (v : IV) (bs : List UInt8) (a : Nat) (hs : SlR h 1 v (strRows bs)) (hl : bs.length ≤ 1048576) (hal : a ≤ 1048576) : ICalls Tryd.prog 64 [v, .int .i64 a] h fun r h' => r = .tuple [.str (textAt bs a).1, .int .i64 (textAt bs a).2] ∧ h' = h := by
  refine icalls (.of ok64) (Nat.le_of_ble_eq_true rfl) ?_
  unfold c64
  have hlen := hs.lenF
  rw [strRows_len] at hlen
  have d0 : decide ((a : Int) < 0) = false := decide_eq_false (by omega)
  by_cases c1 : bs.length ≤ a
  · have d1 : decide ((bs.length : Int) ≤ (a : Int)) = true := decide_eq_true (by omega)
    simp only [d0, hlen, d1, go_sem, Hold.p, HoldK.k, HoldL.K, HoldL.body, Nat.reduceBEq, Nat.reduceAdd, List.getElem?_cons_zero, List.getElem?_cons_succ, Option.bind_some, List.map_cons, List.map_nil, Nat.zero_add, if_true, List.getD_cons_zero, List.getD_cons_succ, List.contains_cons, List.contains_nil, Nat.reduceBEq, Bool.or_true, Bool.true_or, Bool.or_false, Bool.false_or, Bool.not_true, Bool.not_false, true_and, and_true, rowA_whole, push_n, set_n, push_obj, set_obj, set_push, set_push_ne, set_set, Nat.add_assoc, Nat.left_eq_add, Nat.add_eq_left, Nat.add_left_cancel_iff, Nat.reduceEqDiff, stO_1s, stO_ws, boxA_s, one_bool, one_int, one_str, one_ptr, one_nilptr, one_slice, one_eslice, one_nilslice, one_func, one_iface, one_niliface, List.all_cons, List.all_nil, List.length_cons, List.length_nil, Nat.reduceLT, Nat.reduceEqDiff, Nat.reduceLeDiff, Bool.and_true, Nat.one_ne_zero, Nat.succ_ne_zero, reduceIte, if_false, List.getElem?_cons_zero, List.set_cons_zero, List.set_cons_succ]
    unfold textAt
    rw [if_pos (.inl c1)]
  · have d1 : decide ((bs.length : Int) ≤ (a : Int)) = false := decide_eq_false (by omega)
    have hkp := getD_at (bs := bs) (k := a) (by omega)
    generalize hb : bs.getD a 0 = b at hkp
    have hb256 := b.toNat_lt
    obtain ⟨l, j, hia, hll, hrow⟩ := hs.at (m := a) (strRows_at hkp) .i64
    have hc := cellO_row hrow
    have w2 : wr .i64 ((b.toNat : Nat) : Int) = ((b.toNat : Nat) : Int) := wr64 _ (by omega)
    obtain ⟨en, hen⟩ : ∃ en, en = a + 1 + b.toNat := ⟨_, rfl⟩
    have w1' : wr .i64 ((a : Int) + 1) = ((a + 1 : Nat) : Int) := by rw [wr64 _ (by omega)]; omega
    have w3' : wr .i64 (((a + 1 : Nat) : Int) + (b.toNat : Int)) = (en : Int) := by rw [wr64 _ (by omega)]; omega
    unfold textAt
    rw [hb, ← hen]
    by_cases c2 : bs.length < en
    · have d2 : decide ((bs.length : Int) < (en : Int)) = true := decide_eq_true (by omega)
      simp only [d0, hlen, d1, hia, hc, w1', w2, w3', d2, go_sem, Hold.p, HoldK.k, HoldL.K, HoldL.body, Nat.reduceBEq, Nat.reduceAdd, List.getElem?_cons_zero, List.getElem?_cons_succ, Option.bind_some, List.map_cons, List.map_nil, Nat.zero_add, if_true, List.getD_cons_zero, List.getD_cons_succ, List.contains_cons, List.contains_nil, Nat.reduceBEq, Bool.or_true, Bool.true_or, Bool.or_false, Bool.false_or, Bool.not_true, Bool.not_false, true_and, and_true, rowA_whole, push_n, set_n, push_obj, set_obj, set_push, set_push_ne, set_set, Nat.add_assoc, Nat.left_eq_add, Nat.add_eq_left, Nat.add_left_cancel_iff, Nat.reduceEqDiff, stO_1s, stO_ws, boxA_s, one_bool, one_int, one_str, one_ptr, one_nilptr, one_slice, one_eslice, one_nilslice, one_func, one_iface, one_niliface, List.all_cons, List.all_nil, List.length_cons, List.length_nil, Nat.reduceLT, Nat.reduceEqDiff, Nat.reduceLeDiff, Bool.and_true, Nat.one_ne_zero, Nat.succ_ne_zero, reduceIte, if_false, List.getElem?_cons_zero, List.set_cons_zero, List.set_cons_succ]
      rw [if_pos (.inr c2)]
    · have d2 : decide ((bs.length : Int) < (en : Int)) = false := decide_eq_false (by omega)
      obtain ⟨v1, hv1, hs1⟩ := hs.lohi (a := a + 1) (b := en) (q := .i64) (q' := .i64) (by omega) (by rw [strRows_len]; omega)
      rw [strRows_take, strRows_drop] at hs1
      have hb2 := hs1.b2s
      simp only [d0, hlen, d1, hia, hc, w1', w2, w3', d2, hv1, hb2, Option.map_some, go_sem, Hold.p, HoldK.k, HoldL.K, HoldL.body, Nat.reduceBEq, Nat.reduceAdd, List.getElem?_cons_zero, List.getElem?_cons_succ, Option.bind_some, List.map_cons, List.map_nil, Nat.zero_add, if_true, List.getD_cons_zero, List.getD_cons_succ, List.contains_cons, List.contains_nil, Nat.reduceBEq, Bool.or_true, Bool.true_or, Bool.or_false, Bool.false_or, Bool.not_true, Bool.not_false, true_and, and_true, rowA_whole, push_n, set_n, push_obj, set_obj, set_push, set_push_ne, set_set, Nat.add_assoc, Nat.left_eq_add, Nat.add_eq_left, Nat.add_left_cancel_iff, Nat.reduceEqDiff, stO_1s, stO_ws, boxA_s, one_bool, one_int, one_str, one_ptr, one_nilptr, one_slice, one_eslice, one_nilslice, one_func, one_iface, one_niliface, List.all_cons, List.all_nil, List.length_cons, List.length_nil, Nat.reduceLT, Nat.reduceEqDiff, Nat.reduceLeDiff, Bool.and_true, Nat.one_ne_zero, Nat.succ_ne_zero, reduceIte, if_false, List.getElem?_cons_zero, List.set_cons_zero, List.set_cons_succ]
      rw [if_neg (by omega)]

/-- What DecodeQuery answers: number, name, code. -/
def decQ (bs : List UInt8) : Int × List UInt8 × Int :=
  if bs.length < 4 ∨ bs.length < 4 + (bs.getD 3 0).toNat then (0, [], 2)
  else if 4 + (bs.getD 3 0).toNat < bs.length then (0, [], 5)
  else if bs.getD 2 0 ≠ 0 then (0, [], 9)
  else if okName ((bs.take (4 + (bs.getD 3 0).toNat)).drop 4) = true then (numB (bs.take 2), (bs.take (4 + (bs.getD 3 0).toNat)).drop 4, 0) else (0, [], 6)
def QueryRes (h h' : IH) (r : IV) (x : Int × List UInt8 × Int) : Prop := r = .tuple [.agg [.int .i64 x.1, .str x.2.1], .int .i64 x.2.2] ∧ Ext h h'

set_option maxRecDepth 20000 in
theorem specDecodeQuery_c (h : IH) (v : IV) (bs : List UInt8) (hs : SlR h 1 v (strRows bs)) (hl : bs.length ≤ 1048576) : ICalls Tryd.prog 21 [v] h fun r h' => QueryRes h h' r (decQ bs) := by
  refine icalls (.of ok21) (Nat.le_of_ble_eq_true rfl) ?_
  unfold c21
  have hlen := hs.lenF
  rw [strRows_len] at hlen
  simp only [go_sem, Hold.p, HoldK.k, HoldL.K, HoldL.body, Nat.reduceBEq, Nat.reduceAdd, List.getElem?_cons_zero, List.getElem?_cons_succ, Option.bind_some, List.map_cons, List.map_nil, Nat.zero_add, if_true, List.getD_cons_zero, List.getD_cons_succ, List.contains_cons, List.contains_nil, Nat.reduceBEq, Bool.or_true, Bool.true_or, Bool.or_false, Bool.false_or, Bool.not_true, Bool.not_false, true_and, and_true, rowA_whole, push_n, set_n, push_obj, set_obj, set_push, set_push_ne, set_set, Nat.add_assoc, Nat.left_eq_add, Nat.add_eq_left, Nat.add_left_cancel_iff, Nat.reduceEqDiff, stO_1s, stO_ws, boxA_s, one_bool, one_int, one_str, one_ptr, one_nilptr, one_slice, one_eslice, one_nilslice, one_func, one_iface, one_niliface, List.all_cons, List.all_nil, List.length_cons, List.length_nil, Nat.reduceLT, Nat.reduceEqDiff, Nat.reduceLeDiff, Bool.and_true, Nat.one_ne_zero, Nat.succ_ne_zero, reduceIte, if_false, List.getElem?_cons_zero, List.set_cons_zero, List.set_cons_succ]
  generalize hq_g0 : IH.push h (IObj.rows [[IV.int .i64 0, IV.str []]] 29 2 false) = g0
  have e_g0 : Ext h g0 := by rw [← hq_g0]; exact (Ext.refl _).push _
  have l_g0 : g0.n = h.n + 1 := by rw [← hq_g0]; rfl
  have bb : At g0 h.n (IObj.rows [[IV.int .i64 0, IV.str []]] 29 2 false) := by rw [← hq_g0]; exact At.new _ _
  clear hq_g0
  have hs := hs.ext e_g0
  refine callA_of (l19Text_c g0 v bs 3 hs hl (by omega)) ?_
  rintro r g ⟨rfl, rfl⟩
  have fin : ∀ (o : IObj) (c : Int), decQ bs = (0, [], c) → QueryRes h (g.set h.n o) (.tuple [.agg [.int .i64 0, .str []], .int .i64 c]) (decQ bs) := by
    intro o c e
    rw [e]
    exact ⟨rfl, e_g0.set _ (Nat.le_refl _) _⟩
  by_cases c1 : bs.length ≤ 3 ∨ bs.length < 3 + 1 + (bs.getD 3 0).toNat
  · have e1 : textAt bs 3 = ([], -1) := if_pos c1
    have d1 : decide ((-1 : Int) < 0) = true := rfl
    rw [e1]
    simp only [d1, bb.eq, lay_nil, lay_1, lay_w, Option.map_some, go_sem, Hold.p, HoldK.k, HoldL.K, HoldL.body, Nat.reduceBEq, Nat.reduceAdd, List.getElem?_cons_zero, List.getElem?_cons_succ, Option.bind_some, List.map_cons, List.map_nil, Nat.zero_add, if_true, List.getD_cons_zero, List.getD_cons_succ, List.contains_cons, List.contains_nil, Nat.reduceBEq, Bool.or_true, Bool.true_or, Bool.or_false, Bool.false_or, Bool.not_true, Bool.not_false, true_and, and_true, rowA_whole, push_n, set_n, push_obj, set_obj, set_push, set_push_ne, set_set, Nat.add_assoc, Nat.left_eq_add, Nat.add_eq_left, Nat.add_left_cancel_iff, Nat.reduceEqDiff, stO_1s, stO_ws, boxA_s, one_bool, one_int, one_str, one_ptr, one_nilptr, one_slice, one_eslice, one_nilslice, one_func, one_iface, one_niliface, List.all_cons, List.all_nil, List.length_cons, List.length_nil, Nat.reduceLT, Nat.reduceEqDiff, Nat.reduceLeDiff, Bool.and_true, Nat.one_ne_zero, Nat.succ_ne_zero, reduceIte, if_false, List.getElem?_cons_zero, List.set_cons_zero, List.set_cons_succ]
    exact fin _ _ (if_pos (by omega))
  · have e1 : textAt bs 3 = ((bs.take (3 + 1 + (bs.getD 3 0).toNat)).drop (3 + 1), ((3 + 1 + (bs.getD 3 0).toNat : Nat) : Int)) := if_neg c1
    have hdef : decQ bs = if 4 + (bs.getD 3 0).toNat < bs.length then (0, [], 5)
      else if bs.getD 2 0 ≠ 0 then (0, [], 9)
      else if okName ((bs.take (4 + (bs.getD 3 0).toNat)).drop 4) = true then (numB (bs.take 2), (bs.take (4 + (bs.getD 3 0).toNat)).drop 4, 0) else (0, [], 6) := if_neg (by omega)
    rw [e1]
    generalize bs.getD 3 0 = b3 at *
    have d1 : decide (((3 + 1 + b3.toNat : Nat) : Int) < 0) = false := decide_eq_false (by omega)
    by_cases c2 : 4 + b3.toNat < bs.length
    · have d2 : decide (((3 + 1 + b3.toNat : Nat) : Int) < (bs.length : Int)) = true := decide_eq_true (by omega)
      simp only [d1, d2, hlen, bb.eq, lay_nil, lay_1, lay_w, Option.map_some, go_sem, Hold.p, HoldK.k, HoldL.K, HoldL.body, Nat.reduceBEq, Nat.reduceAdd, List.getElem?_cons_zero, List.getElem?_cons_succ, Option.bind_some, List.map_cons, List.map_nil, Nat.zero_add, if_true, List.getD_cons_zero, List.getD_cons_succ, List.contains_cons, List.contains_nil, Nat.reduceBEq, Bool.or_true, Bool.true_or, Bool.or_false, Bool.false_or, Bool.not_true, Bool.not_false, true_and, and_true, rowA_whole, push_n, set_n, push_obj, set_obj, set_push, set_push_ne, set_set, Nat.add_assoc, Nat.left_eq_add, Nat.add_eq_left, Nat.add_left_cancel_iff, Nat.reduceEqDiff, stO_1s, stO_ws, boxA_s, one_bool, one_int, one_str, one_ptr, one_nilptr, one_slice, one_eslice, one_nilslice, one_func, one_iface, one_niliface, List.all_cons, List.all_nil, List.length_cons, List.length_nil, Nat.reduceLT, Nat.reduceEqDiff, Nat.reduceLeDiff, Bool.and_true, Nat.one_ne_zero, Nat.succ_ne_zero, reduceIte, if_false, List.getElem?_cons_zero, List.set_cons_zero, List.set_cons_succ]
      exact fin _ _ (hdef.trans (if_pos c2))
    · have d2 : decide (((3 + 1 + b3.toNat : Nat) : Int) < (bs.length : Int)) = false := decide_eq_false (by omega)
      rw [if_neg c2] at hdef
      have hkp := getD_at (bs := bs) (k := 2) (by omega)
      generalize hb2 : bs.getD 2 0 = b2 at *
      obtain ⟨l, j, hia, hll, hrow⟩ := hs.at (m := 2) (strRows_at hkp) .i64
      have hc := cellO_row hrow
      have hia : iadrF g 1 v (.int .i64 2) = some (.ptr l j 0) := hia
      by_cases c3 : b2 = 0
      · have d3 : decide ((b2.toNat : Int) = 0) = true := decide_eq_true (by rw [c3]; rfl)
        rw [if_neg (by simpa using c3)] at hdef
        simp only [d1, d2, hlen, hia, hc, d3, lay_nil, lay_1, lay_w, Option.map_some, go_sem, Hold.p, HoldK.k, HoldL.K, HoldL.body, Nat.reduceBEq, Nat.reduceAdd, List.getElem?_cons_zero, List.getElem?_cons_succ, Option.bind_some, List.map_cons, List.map_nil, Nat.zero_add, if_true, List.getD_cons_zero, List.getD_cons_succ, List.contains_cons, List.contains_nil, Nat.reduceBEq, Bool.or_true, Bool.true_or, Bool.or_false, Bool.false_or, Bool.not_true, Bool.not_false, true_and, and_true, rowA_whole, push_n, set_n, push_obj, set_obj, set_push, set_push_ne, set_set, Nat.add_assoc, Nat.left_eq_add, Nat.add_eq_left, Nat.add_left_cancel_iff, Nat.reduceEqDiff, stO_1s, stO_ws, boxA_s, one_bool, one_int, one_str, one_ptr, one_nilptr, one_slice, one_eslice, one_nilslice, one_func, one_iface, one_niliface, List.all_cons, List.all_nil, List.length_cons, List.length_nil, Nat.reduceLT, Nat.reduceEqDiff, Nat.reduceLeDiff, Bool.and_true, Nat.one_ne_zero, Nat.succ_ne_zero, reduceIte, if_false, List.getElem?_cons_zero, List.set_cons_zero, List.set_cons_succ]
        generalize hnm : (bs.take (3 + 1 + b3.toNat)).drop (3 + 1) = nm
        have hnm' : (bs.take (4 + b3.toNat)).drop 4 = nm := hnm
        rw [hnm'] at hdef
        have hnl : nm.length ≤ 1048576 := by rw [← hnm]; simp; omega
        refine callA_of (specNameOK_c g nm hnl) ?_
        rintro r h1 ⟨rfl, E1⟩
        have bb := bb.ext E1
        have hs := hs.ext E1
        have le_E1 := E1.le
        have E := e_g0.trans E1
        cases c4 : okName nm
        · rw [if_neg (by rw [c4]; decide)] at hdef
          simp only [c4, bb.eq, lay_nil, lay_1, lay_w, Option.map_some, go_sem, Hold.p, HoldK.k, HoldL.K, HoldL.body, Nat.reduceBEq, Nat.reduceAdd, List.getElem?_cons_zero, List.getElem?_cons_succ, Option.bind_some, List.map_cons, List.map_nil, Nat.zero_add, if_true, List.getD_cons_zero, List.getD_cons_succ, List.contains_cons, List.contains_nil, Nat.reduceBEq, Bool.or_true, Bool.true_or, Bool.or_false, Bool.false_or, Bool.not_true, Bool.not_false, true_and, and_true, rowA_whole, push_n, set_n, push_obj, set_obj, set_push, set_push_ne, set_set, Nat.add_assoc, Nat.left_eq_add, Nat.add_eq_left, Nat.add_left_cancel_iff, Nat.reduceEqDiff, stO_1s, stO_ws, boxA_s, one_bool, one_int, one_str, one_ptr, one_nilptr, one_slice, one_eslice, one_nilslice, one_func, one_iface, one_niliface, List.all_cons, List.all_nil, List.length_cons, List.length_nil, Nat.reduceLT, Nat.reduceEqDiff, Nat.reduceLeDiff, Bool.and_true, Nat.one_ne_zero, Nat.succ_ne_zero, reduceIte, if_false, List.getElem?_cons_zero, List.set_cons_zero, List.set_cons_succ]
          rw [hdef]
          exact ⟨rfl, E.set _ (Nat.le_refl _) _⟩
        · rw [if_pos c4] at hdef
          obtain ⟨v1, hv1, hs1⟩ := hs.hi (b := 2) (q := .i64) (by rw [strRows_len]; omega)
          rw [strRows_take] at hs1
          have hv1 : slcF h1 1 v none (some (.int .i64 2)) = some v1 := hv1
          simp only [c4, bb.eq, hv1, Option.map_some, Option.map_none, lay_nil, lay_1, lay_w, Option.map_some, go_sem, Hold.p, HoldK.k, HoldL.K, HoldL.body, Nat.reduceBEq, Nat.reduceAdd, List.getElem?_cons_zero, List.getElem?_cons_succ, Option.bind_some, List.map_cons, List.map_nil, Nat.zero_add, if_true, List.getD_cons_zero, List.getD_cons_succ, List.contains_cons, List.contains_nil, Nat.reduceBEq, Bool.or_true, Bool.true_or, Bool.or_false, Bool.false_or, Bool.not_true, Bool.not_false, true_and, and_true, rowA_whole, push_n, set_n, push_obj, set_obj, set_push, set_push_ne, set_set, Nat.add_assoc, Nat.left_eq_add, Nat.add_eq_left, Nat.add_left_cancel_iff, Nat.reduceEqDiff, stO_1s, stO_ws, boxA_s, one_bool, one_int, one_str, one_ptr, one_nilptr, one_slice, one_eslice, one_nilslice, one_func, one_iface, one_niliface, List.all_cons, List.all_nil, List.length_cons, List.length_nil, Nat.reduceLT, Nat.reduceEqDiff, Nat.reduceLeDiff, Bool.and_true, Nat.one_ne_zero, Nat.succ_ne_zero, reduceIte, if_false, List.getElem?_cons_zero, List.set_cons_zero, List.set_cons_succ]
          refine callA_of (l03Num_c h1 v1 _ hs1 (by simp; omega)) ?_
          rintro r h2 ⟨rfl, rfl⟩
          simp only [c4, bb.eq, lay_nil, lay_1, lay_w, Option.map_some, go_sem, Hold.p, HoldK.k, HoldL.K, HoldL.body, Nat.reduceBEq, Nat.reduceAdd, List.getElem?_cons_zero, List.getElem?_cons_succ, Option.bind_some, List.map_cons, List.map_nil, Nat.zero_add, if_true, List.getD_cons_zero, List.getD_cons_succ, List.contains_cons, List.contains_nil, Nat.reduceBEq, Bool.or_true, Bool.true_or, Bool.or_false, Bool.false_or, Bool.not_true, Bool.not_false, true_and, and_true, rowA_whole, push_n, set_n, push_obj, set_obj, set_push, set_push_ne, set_set, Nat.add_assoc, Nat.left_eq_add, Nat.add_eq_left, Nat.add_left_cancel_iff, Nat.reduceEqDiff, stO_1s, stO_ws, boxA_s, one_bool, one_int, one_str, one_ptr, one_nilptr, one_slice, one_eslice, one_nilslice, one_func, one_iface, one_niliface, List.all_cons, List.all_nil, List.length_cons, List.length_nil, Nat.reduceLT, Nat.reduceEqDiff, Nat.reduceLeDiff, Bool.and_true, Nat.one_ne_zero, Nat.succ_ne_zero, reduceIte, if_false, List.getElem?_cons_zero, List.set_cons_zero, List.set_cons_succ]
          rw [hdef]
          exact ⟨rfl, E.set _ (Nat.le_refl _) _⟩
      · have d3 : decide ((b2.toNat : Int) = 0) = false := decide_eq_false (fun h0 => c3 (UInt8.toNat_inj.1 (by simpa using h0)))
        rw [if_pos (by simpa using c3)] at hdef
        simp only [d1, d2, hlen, hia, hc, d3, bb.eq, lay_nil, lay_1, lay_w, Option.map_some, go_sem, Hold.p, HoldK.k, HoldL.K, HoldL.body, Nat.reduceBEq, Nat.reduceAdd, List.getElem?_cons_zero, List.getElem?_cons_succ, Option.bind_some, List.map_cons, List.map_nil, Nat.zero_add, if_true, List.getD_cons_zero, List.getD_cons_succ, List.contains_cons, List.contains_nil, Nat.reduceBEq, Bool.or_true, Bool.true_or, Bool.or_false, Bool.false_or, Bool.not_true, Bool.not_false, true_and, and_true, rowA_whole, push_n, set_n, push_obj, set_obj, set_push, set_push_ne, set_set, Nat.add_assoc, Nat.left_eq_add, Nat.add_eq_left, Nat.add_left_cancel_iff, Nat.reduceEqDiff, stO_1s, stO_ws, boxA_s, one_bool, one_int, one_str, one_ptr, one_nilptr, one_slice, one_eslice, one_nilslice, one_func, one_iface, one_niliface, List.all_cons, List.all_nil, List.length_cons, List.length_nil, Nat.reduceLT, Nat.reduceEqDiff, Nat.reduceLeDiff, Bool.and_true, Nat.one_ne_zero, Nat.succ_ne_zero, reduceIte, if_false, List.getElem?_cons_zero, List.set_cons_zero, List.set_cons_succ]
        exact fin _ _ hdef
end Go.Proofs.YtcmcfmgabafljaaDoor

namespace Go.Proofs.YtcmcfmgabafljaaDoor
open Go Go.IW

theorem takeD_sh (bs : List UInt8) (n : Nat) : (takeD bs true n).2.2 = true := by unfold takeD; split <;> rfl
theorem takeD_len1 (bs : List UInt8) (sh : Bool) {n : Nat} (hn : n ≤ 7) : (takeD bs sh n).1.length ≤ n := by unfold takeD; split <;> simp <;> omega
theorem takeD_len (bs : List UInt8) (sh : Bool) (n : Nat) : (takeD bs sh n).2.1.length ≤ bs.length := by unfold takeD; split <;> simp
theorem takeD_short {bs : List UInt8} {sh : Bool} {n : Nat} (h : bs.length < n) : (takeD bs sh n).2.2 = true := by unfold takeD; rw [if_pos h]
theorem takeD_long {bs : List UInt8} {sh : Bool} {n : Nat} (h : ¬ bs.length < n) : takeD bs sh n = (bs.take n, bs.drop n, sh) := if_neg h
theorem takeD_big (bs : List UInt8) (sh : Bool) (n : Nat) : (takeD bs sh n).1.length ≤ bs.length + 8 := by unfold takeD; split <;> simp <;> omega

set_option maxRecDepth 20000 in
theorem code_c (h : IH) (p : Nat) (bs : List UInt8) (sh : Bool) (kind want : Int) (name : List UInt8) (hb : BitesAt h p bs sh) (hl : bs.length ≤ 1048576) (hnl : name.length ≤ 1048576) :
    ICalls Tryd.prog 68 [.ptr p 0 0, .int .i64 kind, .int .i64 want, .str name] h fun r h' => r = .int .i64 (if sh = true then 2 else if 0 < bs.length then 5 else if kind ≠ want then 9 else if okName name = true then 0 else 6) ∧ Ext h h' := by
  obtain ⟨v, ha, hs, _⟩ := hb.box
  refine icalls (.of ok68) (Nat.le_of_ble_eq_true rfl) ?_
  unfold c68
  have hlen := hs.lenF
  rw [strRows_len] at hlen
  cases sh
  · by_cases c1 : 0 < bs.length
    · have d1 : decide ((0 : Int) < (bs.length : Int)) = true := decide_eq_true (by omega)
      rw [if_neg (by decide), if_pos c1]
      simp only [ha.eq, hlen, d1, go_sem, Hold.p, HoldK.k, HoldL.K, HoldL.body, Nat.reduceBEq, Nat.reduceAdd, List.getElem?_cons_zero, List.getElem?_cons_succ, Option.bind_some, List.map_cons, List.map_nil, Nat.zero_add, if_true, List.getD_cons_zero, List.getD_cons_succ, List.contains_cons, List.contains_nil, Nat.reduceBEq, Bool.or_true, Bool.true_or, Bool.or_false, Bool.false_or, Bool.not_true, Bool.not_false, true_and, and_true, rowA_whole, push_n, set_n, push_obj, set_obj, set_push, set_push_ne, set_set, Nat.add_assoc, Nat.left_eq_add, Nat.add_eq_left, Nat.add_left_cancel_iff, Nat.reduceEqDiff, stO_1s, stO_ws, boxA_s, one_bool, one_int, one_str, one_ptr, one_nilptr, one_slice, one_eslice, one_nilslice, one_func, one_iface, one_niliface, List.all_cons, List.all_nil, List.length_cons, List.length_nil, Nat.reduceLT, Nat.reduceEqDiff, Nat.reduceLeDiff, Bool.and_true, Nat.one_ne_zero, Nat.succ_ne_zero, reduceIte, if_false, List.getElem?_cons_zero, List.set_cons_zero, List.set_cons_succ]
      exact Ext.refl _
    · have d1 : decide ((0 : Int) < (bs.length : Int)) = false := decide_eq_false (by omega)
      rw [if_neg (by decide), if_neg c1]
      by_cases c2 : kind = want
      · have d2 : decide (kind = want) = true := decide_eq_true c2
        rw [if_neg (by simpa using c2)]
        simp only [ha.eq, hlen, d1, d2, go_sem, Hold.p, HoldK.k, HoldL.K, HoldL.body, Nat.reduceBEq, Nat.reduceAdd, List.getElem?_cons_zero, List.getElem?_cons_succ, Option.bind_some, List.map_cons, List.map_nil, Nat.zero_add, if_true, List.getD_cons_zero, List.getD_cons_succ, List.contains_cons, List.contains_nil, Nat.reduceBEq, Bool.or_true, Bool.true_or, Bool.or_false, Bool.false_or, Bool.not_true, Bool.not_false, true_and, and_true, rowA_whole, push_n, set_n, push_obj, set_obj, set_push, set_push_ne, set_set, Nat.add_assoc, Nat.left_eq_add, Nat.add_eq_left, Nat.add_left_cancel_iff, Nat.reduceEqDiff, stO_1s, stO_ws, boxA_s, one_bool, one_int, one_str, one_ptr, one_nilptr, one_slice, one_eslice, one_nilslice, one_func, one_iface, one_niliface, List.all_cons, List.all_nil, List.length_cons, List.length_nil, Nat.reduceLT, Nat.reduceEqDiff, Nat.reduceLeDiff, Bool.and_true, Nat.one_ne_zero, Nat.succ_ne_zero, reduceIte, if_false, List.getElem?_cons_zero, List.set_cons_zero, List.set_cons_succ]
        refine callA_of (implNameOK_c h name hnl) ?_
        rintro r h1 ⟨rfl, E⟩
        cases c3 : okName name
        · simp only [c3, go_sem, Hold.p, HoldK.k, HoldL.K, HoldL.body, Nat.reduceBEq, Nat.reduceAdd, List.getElem?_cons_zero, List.getElem?_cons_succ, Option.bind_some, List.map_cons, List.map_nil, Nat.zero_add, if_true, List.getD_cons_zero, List.getD_cons_succ, List.contains_cons, List.contains_nil, Nat.reduceBEq, Bool.or_true, Bool.true_or, Bool.or_false, Bool.false_or, Bool.not_true, Bool.not_false, true_and, and_true, rowA_whole, push_n, set_n, push_obj, set_obj, set_push, set_push_ne, set_set, Nat.add_assoc, Nat.left_eq_add, Nat.add_eq_left, Nat.add_left_cancel_iff, Nat.reduceEqDiff, stO_1s, stO_ws, boxA_s, one_bool, one_int, one_str, one_ptr, one_nilptr, one_slice, one_eslice, one_nilslice, one_func, one_iface, one_niliface, List.all_cons, List.all_nil, List.length_cons, List.length_nil, Nat.reduceLT, Nat.reduceEqDiff, Nat.reduceLeDiff, Bool.and_true, Nat.one_ne_zero, Nat.succ_ne_zero, reduceIte, if_false, List.getElem?_cons_zero, List.set_cons_zero, List.set_cons_succ]
          exact ⟨rfl, E⟩
        · simp only [c3, go_sem, Hold.p, HoldK.k, HoldL.K, HoldL.body, Nat.reduceBEq, Nat.reduceAdd, List.getElem?_cons_zero, List.getElem?_cons_succ, Option.bind_some, List.map_cons, List.map_nil, Nat.zero_add, if_true, List.getD_cons_zero, List.getD_cons_succ, List.contains_cons, List.contains_nil, Nat.reduceBEq, Bool.or_true, Bool.true_or, Bool.or_false, Bool.false_or, Bool.not_true, Bool.not_false, true_and, and_true, rowA_whole, push_n, set_n, push_obj, set_obj, set_push, set_push_ne, set_set, Nat.add_assoc, Nat.left_eq_add, Nat.add_eq_left, Nat.add_left_cancel_iff, Nat.reduceEqDiff, stO_1s, stO_ws, boxA_s, one_bool, one_int, one_str, one_ptr, one_nilptr, one_slice, one_eslice, one_nilslice, one_func, one_iface, one_niliface, List.all_cons, List.all_nil, List.length_cons, List.length_nil, Nat.reduceLT, Nat.reduceEqDiff, Nat.reduceLeDiff, Bool.and_true, Nat.one_ne_zero, Nat.succ_ne_zero, reduceIte, if_false, List.getElem?_cons_zero, List.set_cons_zero, List.set_cons_succ]
          exact E
      · have d2 : decide (kind = want) = false := decide_eq_false c2
        rw [if_pos c2]
        simp only [ha.eq, hlen, d1, d2, go_sem, Hold.p, HoldK.k, HoldL.K, HoldL.body, Nat.reduceBEq, Nat.reduceAdd, List.getElem?_cons_zero, List.getElem?_cons_succ, Option.bind_some, List.map_cons, List.map_nil, Nat.zero_add, if_true, List.getD_cons_zero, List.getD_cons_succ, List.contains_cons, List.contains_nil, Nat.reduceBEq, Bool.or_true, Bool.true_or, Bool.or_false, Bool.false_or, Bool.not_true, Bool.not_false, true_and, and_true, rowA_whole, push_n, set_n, push_obj, set_obj, set_push, set_push_ne, set_set, Nat.add_assoc, Nat.left_eq_add, Nat.add_eq_left, Nat.add_left_cancel_iff, Nat.reduceEqDiff, stO_1s, stO_ws, boxA_s, one_bool, one_int, one_str, one_ptr, one_nilptr, one_slice, one_eslice, one_nilslice, one_func, one_iface, one_niliface, List.all_cons, List.all_nil, List.length_cons, List.length_nil, Nat.reduceLT, Nat.reduceEqDiff, Nat.reduceLeDiff, Bool.and_true, Nat.one_ne_zero, Nat.succ_ne_zero, reduceIte, if_false, List.getElem?_cons_zero, List.set_cons_zero, List.set_cons_succ]
        exact Ext.refl _
  · rw [if_pos rfl]
    simp only [ha.eq, go_sem, Hold.p, HoldK.k, HoldL.K, HoldL.body, Nat.reduceBEq, Nat.reduceAdd, List.getElem?_cons_zero, List.getElem?_cons_succ, Option.bind_some, List.map_cons, List.map_nil, Nat.zero_add, if_true, List.getD_cons_zero, List.getD_cons_succ, List.contains_cons, List.contains_nil, Nat.reduceBEq, Bool.or_true, Bool.true_or, Bool.or_false, Bool.false_or, Bool.not_true, Bool.not_false, true_and, and_true, rowA_whole, push_n, set_n, push_obj, set_obj, set_push, set_push_ne, set_set, Nat.add_assoc, Nat.left_eq_add, Nat.add_eq_left, Nat.add_left_cancel_iff, Nat.reduceEqDiff, stO_1s, stO_ws, boxA_s, one_bool, one_int, one_str, one_ptr, one_nilptr, one_slice, one_eslice, one_nilslice, one_func, one_iface, one_niliface, List.all_cons, List.all_nil, List.length_cons, List.length_nil, Nat.reduceLT, Nat.reduceEqDiff, Nat.reduceLeDiff, Bool.and_true, Nat.one_ne_zero, Nat.succ_ne_zero, reduceIte, if_false, List.getElem?_cons_zero, List.set_cons_zero, List.set_cons_succ]
    exact Ext.refl _

/-- What is taken off a query's bytes. -/
def chainQ (bs : List UInt8) : Int × Int × List UInt8 × List UInt8 × Bool :=
  let t1 := takeD bs false 2
  let t2 := takeD t1.2.1 t1.2.2 1
  let t3 := takeD t2.2.1 t2.2.2 1
  let t4 := takeD t3.2.1 t3.2.2 (numB t3.1).toNat
  (numB t1.1, numB t2.1, t4.1, t4.2.1, t4.2.2)
def codeQ (x : Int × Int × List UInt8 × List UInt8 × Bool) (want : Int) : Int :=
  if x.2.2.2.2 = true then 2 else if 0 < x.2.2.2.1.length then 5 else if x.2.1 ≠ want then 9 else if okName x.2.2.1 = true then 0 else 6
theorem numB_one (b : UInt8) : numB [b] = b.toNat := by simp [numB]
theorem drop_at {bs : List UInt8} {k : Nat} (h : k < bs.length) : bs.drop k = bs.getD k 0 :: bs.drop (k + 1) := by
  rw [List.drop_eq_getElem_cons h]
  congr 1
  rw [List.getD_eq_getElem?_getD, List.getElem?_eq_getElem h]; rfl
theorem chainQ_short {bs : List UInt8} (h : bs.length < 4 ∨ bs.length < 4 + (bs.getD 3 0).toNat) : (chainQ bs).2.2.2.2 = true := by
  unfold chainQ
  simp only
  by_cases h1 : bs.length < 2
  · have e1 := takeD_short (sh := false) h1
    rw [e1]
    have e2 := takeD_sh (takeD bs false 2).2.1 1
    rw [e2]
    have e3 := takeD_sh (takeD (takeD bs false 2).2.1 true 1).2.1 1
    rw [e3]
    exact takeD_sh _ _
  · rw [takeD_long h1]
    simp only
    by_cases h2 : (bs.drop 2).length < 1
    · have e2 := takeD_short (sh := false) h2
      rw [e2]
      have e3 := takeD_sh (takeD (bs.drop 2) false 1).2.1 1
      rw [e3]
      exact takeD_sh _ _
    · rw [takeD_long h2]
      simp only
      by_cases h3 : ((bs.drop 2).drop 1).length < 1
      · have e3 := takeD_short (sh := false) h3
        rw [e3]
        exact takeD_sh _ _
      · rw [takeD_long h3]
        simp only
        simp at h1 h2 h3
        have e4 : ((bs.drop 2).drop 1).take 1 = [bs.getD 3 0] := by rw [List.drop_drop, drop_at (by omega)]; rfl
        rw [e4, numB_one]
        apply takeD_short
        rw [List.length_drop, List.length_drop, List.length_drop, Int.toNat_natCast]
        omega
theorem chainQ_long {bs : List UInt8} (h : ¬ (bs.length < 4 ∨ bs.length < 4 + (bs.getD 3 0).toNat)) : chainQ bs = (numB (bs.take 2), ((bs.getD 2 0).toNat : Int), (bs.take (4 + (bs.getD 3 0).toNat)).drop 4, bs.drop (4 + (bs.getD 3 0).toNat), false) := by
  have e3 : ((bs.drop 2).drop 1).take 1 = [bs.getD 3 0] := by rw [List.drop_drop, drop_at (by omega)]; rfl
  have e2 : (bs.drop 2).take 1 = [bs.getD 2 0] := by rw [drop_at (by omega)]; rfl
  have a1 := takeD_long (bs := bs) (sh := false) (n := 2) (by omega)
  have a2 := takeD_long (bs := bs.drop 2) (sh := false) (n := 1) (by rw [List.length_drop]; omega)
  have a3 := takeD_long (bs := (bs.drop 2).drop 1) (sh := false) (n := 1) (by rw [List.length_drop, List.length_drop]; omega)
  have a4 := takeD_long (bs := ((bs.drop 2).drop 1).drop 1) (sh := false) (n := (bs.getD 3 0).toNat) (by rw [List.length_drop, List.length_drop, List.length_drop]; omega)
  unfold chainQ
  simp only [a1, a2, a3, e3, e2, numB_one, Int.toNat_natCast, a4]
  simp only [List.drop_drop, List.drop_take, Nat.add_comm]
  congr 3
  all_goals congr 1
  all_goals omega

theorem chainQ_dec (bs : List UInt8) : decQ bs = if codeQ (chainQ bs) 0 = 0 then ((chainQ bs).1, (chainQ bs).2.2.1, 0) else (0, [], codeQ (chainQ bs) 0) := by
  by_cases h : bs.length < 4 ∨ bs.length < 4 + (bs.getD 3 0).toNat
  · have e : codeQ (chainQ bs) 0 = 2 := if_pos (chainQ_short h)
    rw [e]
    exact if_pos h
  · have e := chainQ_long h
    have hcode : codeQ (chainQ bs) 0 = if 4 + (bs.getD 3 0).toNat < bs.length then 5 else if bs.getD 2 0 ≠ 0 then 9 else if okName ((bs.take (4 + (bs.getD 3 0).toNat)).drop 4) = true then 0 else 6 := by
      rw [e]
      unfold codeQ
      simp only [Bool.false_eq_true, if_false, List.length_drop]
      have k1 : (0 < bs.length - (4 + (bs.getD 3 0).toNat)) = (4 + (bs.getD 3 0).toNat < bs.length) := by apply propext; omega
      have k2 : (((bs.getD 2 0).toNat : Int) ≠ 0) = (bs.getD 2 0 ≠ 0) := by
        apply propext
        refine not_congr ⟨fun h0 => UInt8.toNat_inj.1 ?_, fun h0 => by rw [h0]; rfl⟩
        have : (bs.getD 2 0).toNat = 0 := by omega
        rw [this]; rfl
      simp only [k1, k2]
    have hd : decQ bs = if 4 + (bs.getD 3 0).toNat < bs.length then (0, [], 5)
      else if bs.getD 2 0 ≠ 0 then (0, [], 9)
      else if okName ((bs.take (4 + (bs.getD 3 0).toNat)).drop 4) = true then (numB (bs.take 2), (bs.take (4 + (bs.getD 3 0).toNat)).drop 4, 0) else (0, [], 6) := if_neg h
    rw [hcode, hd, e]
    split
    · rfl
    · split
      · rfl
      · split <;> rfl
end Go.Proofs.YtcmcfmgabafljaaDoor
