import Derived.Test.YtecljenjlncfhaaL2
import Derived.Test.YtecljenjlncfhaaK2
import Derived.Test.YtecljenjlncfhaaProg
import Derived.KernelRfl
import Derived.Test.YtecljenjlncfhaaK3
set_option linter.unusedSimpArgs false
set_option linter.unusedVariables false
namespace Go.Proofs.Ytecljenjlncfhaa
open Go Go.IW

theorem splitP_bound {most : Int} (h1 : 1 ≤ most) (h2 : most ≤ 65535) : ∀ (ps : List Piece), (∀ p ∈ ps, 0 ≤ p.fr ∧ p.fr < p.to ∧ p.to ≤ 1099511627776) → (splitP most ps).length ≤ ps.length * 2199023255552
  | [], _ => by simp [splitP]
  | p :: r, h => by
    have i := splitP_bound h1 h2 r (fun q hq => h q (by simp [hq]))
    have hp := h p (by simp)
    have hc := cut_len h1 (p.to - p.fr).toNat p (Nat.le_refl _) hp.2.1
    have : (p.to - p.fr + most - 1) / most ≤ p.to - p.fr + most - 1 := Int.ediv_le_self _ (by omega)
    have e : splitP most (p :: r) = cut most p ++ splitP most r := by simp [splitP]
    rw [e, List.length_append, List.length_cons]
    omega

set_option maxRecDepth 20000 in
theorem specBoardSplit_c (h : IH) (v : IV) (una nxt most : Int) (ps : List Piece) (hs : SlR h 6 v (ps.map Piece.row)) :
    ICalls Try.prog 35 [.agg [.int .i64 una, .int .i64 nxt, v], .int .i64 most] h fun r h' => BRes h h' r (splitB una nxt ps most) := by
  refine icalls (.of ok35) (Nat.le_of_ble_eq_true rfl) ?_
  unfold c35
  have hv1 := hs.one
  have hlen := hs.lenF
  rw [List.length_map] at hlen
  have hE : ∀ a b, Ext h ((h.push a).push b) := fun a b => (Ext.refl _).push _ |>.push _
  simp only [hv1, go_sem, Hold.p, HoldK.k, HoldL.K, HoldL.body, Nat.reduceBEq, Nat.reduceAdd, List.getElem?_cons_zero, List.getElem?_cons_succ, Option.bind_some, List.map_cons, List.map_nil, Nat.zero_add, if_true, List.getD_cons_zero, List.getD_cons_succ, List.contains_cons, List.contains_nil, Nat.reduceBEq, Bool.or_true, Bool.true_or, Bool.or_false, Bool.false_or, Bool.not_true, Bool.not_false, true_and, and_true, rowA_whole, push_n, set_n, push_obj, set_obj, set_push, set_push_ne, set_set, Nat.add_assoc, Nat.left_eq_add, Nat.add_eq_left, Nat.add_left_cancel_iff, Nat.reduceEqDiff, stO_1s, stO_ws, boxA_s, one_bool, one_int, one_str, one_ptr, one_nilptr, one_slice, one_eslice, one_nilslice, one_func, one_iface, one_niliface, List.all_cons, List.all_nil, List.length_cons, List.length_nil, Nat.reduceLT, Nat.reduceEqDiff, Nat.reduceLeDiff, Bool.and_true, Nat.one_ne_zero, Nat.succ_ne_zero, reduceIte, if_false, List.getElem?_cons_zero, List.set_cons_zero, List.set_cons_succ]
  refine callA_of (l15OK_c _ una nxt v ps (hs.ext (hE _ _))) ?_
  rintro r h1 ⟨rfl, hE1⟩
  have b0 := hE1.obj h.n (by simp only [push_n]; omega)
  have b1 := hE1.obj (h.n + 1) (by simp only [push_n]; omega)
  simp [push_obj, push_n] at b0 b1
  have hl1 := hE1.le
  simp only [push_n] at hl1
  have bad : ∀ (h2 : IH) (o : IObj) c, Ext h h2 → (splitB una nxt ps most) = (0, 0, [], c) → BRes h (h2.set (h.n + 1) o) (.tuple [.agg [.int .i64 0, .int .i64 0, .nilslice], .int .i64 c]) (splitB una nxt ps most) := by
    intro h2 o c e2 e
    rw [e]
    exact ⟨.nilslice, rfl, Own.nil, e2.set _ (by omega) _⟩
  by_cases hc : okB una nxt ps = true ∧ (1 ≤ most ∧ most ≤ 65535)
  · obtain ⟨hok, n1, n2⟩ := hc
    have hdef : splitB una nxt ps most = if 4096 < (splitP most ps).length then (0, 0, [], 18) else (una, nxt, splitP most ps, 0) := if_pos ⟨hok, ⟨n1, n2⟩⟩
    obtain ⟨o1, o2, o3, o4, o5⟩ := okB_un hok
    have hw := okB_each hok
    have q1 : (decide (1 ≤ most) && decide (most ≤ 65535)) = true := by simp; omega
    simp only [hok, hv1, go_sem, Hold.p, HoldK.k, HoldL.K, HoldL.body, Nat.reduceBEq, Nat.reduceAdd, List.getElem?_cons_zero, List.getElem?_cons_succ, Option.bind_some, List.map_cons, List.map_nil, Nat.zero_add, if_true, List.getD_cons_zero, List.getD_cons_succ, List.contains_cons, List.contains_nil, Nat.reduceBEq, Bool.or_true, Bool.true_or, Bool.or_false, Bool.false_or, Bool.not_true, Bool.not_false, true_and, and_true, rowA_whole, push_n, set_n, push_obj, set_obj, set_push, set_push_ne, set_set, Nat.add_assoc, Nat.left_eq_add, Nat.add_eq_left, Nat.add_left_cancel_iff, Nat.reduceEqDiff, stO_1s, stO_ws, boxA_s, one_bool, one_int, one_str, one_ptr, one_nilptr, one_slice, one_eslice, one_nilslice, one_func, one_iface, one_niliface, List.all_cons, List.all_nil, List.length_cons, List.length_nil, Nat.reduceLT, Nat.reduceEqDiff, Nat.reduceLeDiff, Bool.and_true, Nat.one_ne_zero, Nat.succ_ne_zero, reduceIte, if_false, List.getElem?_cons_zero, List.set_cons_zero, List.set_cons_succ]
    refine callA_of (l01In_c _ _ _ _) ?_
    rintro r h2 ⟨rfl, rfl⟩
    have E2 := (hE _ _).trans hE1
    have y0 : At h2 h.n (.rows [[.int .i64 una, .int .i64 nxt, v]] 40 3 false) := ⟨by omega, b0⟩
    have y1 : At h2 (h.n + 1) (.rows [[.int .i64 0, .int .i64 0, .nilslice]] 40 3 false) := ⟨by omega, b1⟩
    simp only [q1, b0, lay_nil, lay_1, lay_w, Option.map_some, go_sem, Hold.p, HoldK.k, HoldL.K, HoldL.body, Nat.reduceBEq, Nat.reduceAdd, List.getElem?_cons_zero, List.getElem?_cons_succ, Option.bind_some, List.map_cons, List.map_nil, Nat.zero_add, if_true, List.getD_cons_zero, List.getD_cons_succ, List.contains_cons, List.contains_nil, Nat.reduceBEq, Bool.or_true, Bool.true_or, Bool.or_false, Bool.false_or, Bool.not_true, Bool.not_false, true_and, and_true, rowA_whole, push_n, set_n, push_obj, set_obj, set_push, set_push_ne, set_set, Nat.add_assoc, Nat.left_eq_add, Nat.add_eq_left, Nat.add_left_cancel_iff, Nat.reduceEqDiff, stO_1s, stO_ws, boxA_s, one_bool, one_int, one_str, one_ptr, one_nilptr, one_slice, one_eslice, one_nilslice, one_func, one_iface, one_niliface, List.all_cons, List.all_nil, List.length_cons, List.length_nil, Nat.reduceLT, Nat.reduceEqDiff, Nat.reduceLeDiff, Bool.and_true, Nat.one_ne_zero, Nat.succ_ne_zero, reduceIte, if_false, List.getElem?_cons_zero, List.set_cons_zero, List.set_cons_succ]
    generalize hq_g0 : IH.push h2 (IObj.rows [[IV.int .i64 una, IV.int .i64 nxt, IV.nilslice]] 40 3 false) = g0
    have e_g0 : Ext h2 g0 := by rw [← hq_g0]; exact (Ext.refl _).push _
    have l_g0 : g0.n = h2.n + 1 := by rw [← hq_g0]; rfl
    have yo : At g0 h2.n (IObj.rows [[IV.int .i64 una, IV.int .i64 nxt, IV.nilslice]] 40 3 false) := by rw [← hq_g0]; exact At.new _ _
    clear hq_g0
    have y0 := y0.ext e_g0
    have y1 := y1.ext e_g0
    have E2 := E2.ext e_g0
    have hs0 := hs.ext E2
    have l02 := E2.le
    refine loop_at (fun m e h' => ∃ k, m = ps.length - k ∧ k ≤ ps.length ∧ e 1 = .int .i64 most ∧ e 2 = .ptr h.n 0 0 ∧ e 4 = .ptr (h.n + 1) 0 0 ∧ e 6 = .ptr h2.n 0 0 ∧ e 8 = .int .i64 k ∧
      e 7 = .int .i64 ((splitP most (ps.take k)).length : Int) ∧ h' = g0) ps.length ?_ ?_
    · refine ⟨0, by omega, by omega, ?_⟩
      simp only [go_sem, Hold.p, HoldK.k, HoldL.K, HoldL.body, Nat.reduceBEq, Nat.reduceAdd, List.getElem?_cons_zero, List.getElem?_cons_succ, Option.bind_some, List.map_cons, List.map_nil, Nat.zero_add, if_true, List.getD_cons_zero, List.getD_cons_succ, List.contains_cons, List.contains_nil, Nat.reduceBEq, Bool.or_true, Bool.true_or, Bool.or_false, Bool.false_or, Bool.not_true, Bool.not_false, true_and, and_true, rowA_whole, push_n, set_n, push_obj, set_obj, set_push, set_push_ne, set_set, Nat.add_assoc, Nat.left_eq_add, Nat.add_eq_left, Nat.add_left_cancel_iff, Nat.reduceEqDiff, stO_1s, stO_ws, boxA_s, one_bool, one_int, one_str, one_ptr, one_nilptr, one_slice, one_eslice, one_nilslice, one_func, one_iface, one_niliface, List.all_cons, List.all_nil, List.length_cons, List.length_nil, Nat.reduceLT, Nat.reduceEqDiff, Nat.reduceLeDiff, Bool.and_true, Nat.one_ne_zero, Nat.succ_ne_zero, reduceIte, if_false, List.getElem?_cons_zero, List.set_cons_zero, List.set_cons_succ]
      exact ⟨rfl, by simp [splitP]⟩
    · rintro m e h' ⟨k, rfl, hk, i1, i2, i4, i6, i8, i7, rfl⟩
      simp only [i1, i2, i4, i6, i8, i7, y0.eq, hlen, go_sem, Hold.p, HoldK.k, HoldL.K, HoldL.body, Nat.reduceBEq, Nat.reduceAdd, List.getElem?_cons_zero, List.getElem?_cons_succ, Option.bind_some, List.map_cons, List.map_nil, Nat.zero_add, if_true, List.getD_cons_zero, List.getD_cons_succ, List.contains_cons, List.contains_nil, Nat.reduceBEq, Bool.or_true, Bool.true_or, Bool.or_false, Bool.false_or, Bool.not_true, Bool.not_false, true_and, and_true, rowA_whole, push_n, set_n, push_obj, set_obj, set_push, set_push_ne, set_set, Nat.add_assoc, Nat.left_eq_add, Nat.add_eq_left, Nat.add_left_cancel_iff, Nat.reduceEqDiff, stO_1s, stO_ws, boxA_s, one_bool, one_int, one_str, one_ptr, one_nilptr, one_slice, one_eslice, one_nilslice, one_func, one_iface, one_niliface, List.all_cons, List.all_nil, List.length_cons, List.length_nil, Nat.reduceLT, Nat.reduceEqDiff, Nat.reduceLeDiff, Bool.and_true, Nat.one_ne_zero, Nat.succ_ne_zero, reduceIte, if_false, List.getElem?_cons_zero, List.set_cons_zero, List.set_cons_succ]
      refine test_dec (fun hlt => ?_) (fun hlt => ?_)
      · have hlt' : k < ps.length := by omega
        have hkp : ps[k]? = some ps[k] := List.getElem?_eq_getElem hlt'
        have hpb := hw ps[k] (List.getElem_mem _)
        generalize ps[k] = p at hkp hpb
        have hsu := splitP_succ (most := most) hkp
        obtain ⟨l, j, hia, hlj, hrow⟩ := hs0.at (m := k) (row := p.row) (by rw [List.getElem?_map, hkp]; rfl) .i64
        have hcl := cut_len n1 (p.to - p.fr).toNat p (Nat.le_refl _) hpb.2.1
        have hb1 := splitP_bound n1 n2 (ps.take k) (fun q hq => hw q (List.mem_of_mem_take hq))
        have hb2 := splitP_bound n1 n2 (ps.take (k + 1)) (fun q hq => hw q (List.mem_of_mem_take hq))
        have ht1 : (ps.take k).length ≤ 4096 := by simp; omega
        have ht2 : (ps.take (k + 1)).length ≤ 4096 := by simp; omega
        have hn7 : ((splitP most (ps.take (k + 1))).length : Int) = (splitP most (ps.take k)).length + (cut most p).length := by rw [hsu]; simp
        have w1 : wr .i64 (p.to - p.fr) = p.to - p.fr := wr64 _ (by omega)
        have w2 : wr .i64 (p.to - p.fr + most) = p.to - p.fr + most := wr64 _ (by omega)
        have w3 : wr .i64 (p.to - p.fr + most - 1) = p.to - p.fr + most - 1 := wr64 _ (by omega)
        have w4 : (p.to - p.fr + most - 1).tdiv most = ((cut most p).length : Int) := by rw [Int.tdiv_eq_ediv_of_nonneg (by omega), hcl]
        have w5 : wr .i64 ((cut most p).length : Int) = ((cut most p).length : Int) := wr64 _ (by omega)
        have w6 : wr .i64 ((splitP most (ps.take k)).length + (cut most p).length : Int) = ((splitP most (ps.take (k + 1))).length : Int) := by rw [hn7, wr64 _ (by omega)]
        unfold Piece.row at hrow
        have hcr := cellO_row hrow
        simp only [i1, i2, i4, i6, i8, i7, y0.eq, hlen, hia, hcr, w1, w2, w3, ib_quo _ _ _ (by omega : most ≠ 0), w4, w5, w6, go_sem, Hold.p, HoldK.k, HoldL.K, HoldL.body, Nat.reduceBEq, Nat.reduceAdd, List.getElem?_cons_zero, List.getElem?_cons_succ, Option.bind_some, List.map_cons, List.map_nil, Nat.zero_add, if_true, List.getD_cons_zero, List.getD_cons_succ, List.contains_cons, List.contains_nil, Nat.reduceBEq, Bool.or_true, Bool.true_or, Bool.or_false, Bool.false_or, Bool.not_true, Bool.not_false, true_and, and_true, rowA_whole, push_n, set_n, push_obj, set_obj, set_push, set_push_ne, set_set, Nat.add_assoc, Nat.left_eq_add, Nat.add_eq_left, Nat.add_left_cancel_iff, Nat.reduceEqDiff, stO_1s, stO_ws, boxA_s, one_bool, one_int, one_str, one_ptr, one_nilptr, one_slice, one_eslice, one_nilslice, one_func, one_iface, one_niliface, List.all_cons, List.all_nil, List.length_cons, List.length_nil, Nat.reduceLT, Nat.reduceEqDiff, Nat.reduceLeDiff, Bool.and_true, Nat.one_ne_zero, Nat.succ_ne_zero, reduceIte, if_false, List.getElem?_cons_zero, List.set_cons_zero, List.set_cons_succ]
        refine ⟨_, ?_, k + 1, rfl, by omega, wr64_succ k (by omega), rfl⟩
        omega
      · obtain rfl : k = ps.length := by omega
        rw [List.take_length] at i7
        simp only [i1, i2, i4, i6, i8, i7, go_sem, Hold.p, HoldK.k, HoldL.K, HoldL.body, Nat.reduceBEq, Nat.reduceAdd, List.getElem?_cons_zero, List.getElem?_cons_succ, Option.bind_some, List.map_cons, List.map_nil, Nat.zero_add, if_true, List.getD_cons_zero, List.getD_cons_succ, List.contains_cons, List.contains_nil, Nat.reduceBEq, Bool.or_true, Bool.true_or, Bool.or_false, Bool.false_or, Bool.not_true, Bool.not_false, true_and, and_true, rowA_whole, push_n, set_n, push_obj, set_obj, set_push, set_push_ne, set_set, Nat.add_assoc, Nat.left_eq_add, Nat.add_eq_left, Nat.add_left_cancel_iff, Nat.reduceEqDiff, stO_1s, stO_ws, boxA_s, one_bool, one_int, one_str, one_ptr, one_nilptr, one_slice, one_eslice, one_nilslice, one_func, one_iface, one_niliface, List.all_cons, List.all_nil, List.length_cons, List.length_nil, Nat.reduceLT, Nat.reduceEqDiff, Nat.reduceLeDiff, Bool.and_true, Nat.one_ne_zero, Nat.succ_ne_zero, reduceIte, if_false, List.getElem?_cons_zero, List.set_cons_zero, List.set_cons_succ]
        by_cases c1 : (4096 : Int) < (splitP most ps).length
        · have d1 : decide ((4096 : Int) < (splitP most ps).length) = true := by simpa using c1
          simp only [d1, i4, y1.eq, lay_nil, lay_1, lay_w, Option.map_some, go_sem, Hold.p, HoldK.k, HoldL.K, HoldL.body, Nat.reduceBEq, Nat.reduceAdd, List.getElem?_cons_zero, List.getElem?_cons_succ, Option.bind_some, List.map_cons, List.map_nil, Nat.zero_add, if_true, List.getD_cons_zero, List.getD_cons_succ, List.contains_cons, List.contains_nil, Nat.reduceBEq, Bool.or_true, Bool.true_or, Bool.or_false, Bool.false_or, Bool.not_true, Bool.not_false, true_and, and_true, rowA_whole, push_n, set_n, push_obj, set_obj, set_push, set_push_ne, set_set, Nat.add_assoc, Nat.left_eq_add, Nat.add_eq_left, Nat.add_left_cancel_iff, Nat.reduceEqDiff, stO_1s, stO_ws, boxA_s, one_bool, one_int, one_str, one_ptr, one_nilptr, one_slice, one_eslice, one_nilslice, one_func, one_iface, one_niliface, List.all_cons, List.all_nil, List.length_cons, List.length_nil, Nat.reduceLT, Nat.reduceEqDiff, Nat.reduceLeDiff, Bool.and_true, Nat.one_ne_zero, Nat.succ_ne_zero, reduceIte, if_false, List.getElem?_cons_zero, List.set_cons_zero, List.set_cons_succ]
          exact bad _ _ _ E2 (hdef.trans (if_pos (by omega)))
        · have d1 : decide ((4096 : Int) < (splitP most ps).length) = false := by simpa using c1
          rw [hdef, if_neg (by omega)]
          simp only [d1, i1, i2, i4, i6, lay_nil, lay_1, lay_w, Option.map_some, go_sem, Hold.p, HoldK.k, HoldL.K, HoldL.body, Nat.reduceBEq, Nat.reduceAdd, List.getElem?_cons_zero, List.getElem?_cons_succ, Option.bind_some, List.map_cons, List.map_nil, Nat.zero_add, if_true, List.getD_cons_zero, List.getD_cons_succ, List.contains_cons, List.contains_nil, Nat.reduceBEq, Bool.or_true, Bool.true_or, Bool.or_false, Bool.false_or, Bool.not_true, Bool.not_false, true_and, and_true, rowA_whole, push_n, set_n, push_obj, set_obj, set_push, set_push_ne, set_set, Nat.add_assoc, Nat.left_eq_add, Nat.add_eq_left, Nat.add_left_cancel_iff, Nat.reduceEqDiff, stO_1s, stO_ws, boxA_s, one_bool, one_int, one_str, one_ptr, one_nilptr, one_slice, one_eslice, one_nilslice, one_func, one_iface, one_niliface, List.all_cons, List.all_nil, List.length_cons, List.length_nil, Nat.reduceLT, Nat.reduceEqDiff, Nat.reduceLeDiff, Bool.and_true, Nat.one_ne_zero, Nat.succ_ne_zero, reduceIte, if_false, List.getElem?_cons_zero, List.set_cons_zero, List.set_cons_succ]
          have bnd : ∀ l r : List Piece, l ++ r = splitP most ps → l.length ≤ 4096 := fun l r e => by have := congrArg List.length e; simp at this; omega
          refine loop_at (fun m e h' => ∃ k vl lo hi, m = ps.length - k ∧ k ≤ ps.length ∧ e 1 = .int .i64 most ∧ e 2 = .ptr h.n 0 0 ∧ e 4 = .ptr (h.n + 1) 0 0 ∧ e 6 = .ptr h2.n 0 0 ∧ e 9 = .int .i64 k ∧
            Ext h h' ∧ h2.n < lo ∧ hi ≤ h'.n ∧ Own lo hi h' 113 6 vl ((splitP most (ps.take k)).map Piece.row) ∧ At h' h.n (.rows [[.int .i64 una, .int .i64 nxt, v]] 40 3 false) ∧
            At h' (h.n + 1) (.rows [[.int .i64 0, .int .i64 0, .nilslice]] 40 3 false) ∧ At h' h2.n (.rows [[.int .i64 una, .int .i64 nxt, vl]] 40 3 false)) ps.length ?_ ?_
          · refine ⟨0, .nilslice, h2.n + 1, h2.n + 1, by omega, by omega, ?_⟩
            simp only [i1, i2, i4, i6, go_sem, Hold.p, HoldK.k, HoldL.K, HoldL.body, Nat.reduceBEq, Nat.reduceAdd, List.getElem?_cons_zero, List.getElem?_cons_succ, Option.bind_some, List.map_cons, List.map_nil, Nat.zero_add, if_true, List.getD_cons_zero, List.getD_cons_succ, List.contains_cons, List.contains_nil, Nat.reduceBEq, Bool.or_true, Bool.true_or, Bool.or_false, Bool.false_or, Bool.not_true, Bool.not_false, true_and, and_true, rowA_whole, push_n, set_n, push_obj, set_obj, set_push, set_push_ne, set_set, Nat.add_assoc, Nat.left_eq_add, Nat.add_eq_left, Nat.add_left_cancel_iff, Nat.reduceEqDiff, stO_1s, stO_ws, boxA_s, one_bool, one_int, one_str, one_ptr, one_nilptr, one_slice, one_eslice, one_nilslice, one_func, one_iface, one_niliface, List.all_cons, List.all_nil, List.length_cons, List.length_nil, Nat.reduceLT, Nat.reduceEqDiff, Nat.reduceLeDiff, Bool.and_true, Nat.one_ne_zero, Nat.succ_ne_zero, reduceIte, if_false, List.getElem?_cons_zero, List.set_cons_zero, List.set_cons_succ]
            exact ⟨rfl, E2, by omega, by omega, Own.nil, y0, y1, yo⟩
          · rintro m e h' ⟨k, vl, lo, hi, rfl, hk, i1, i2, i4, i6, i9, E, hlo, hhi, ol, y0, y1, yo⟩
            simp only [i1, i2, i4, i6, i9, y0.eq, hlen, go_sem, Hold.p, HoldK.k, HoldL.K, HoldL.body, Nat.reduceBEq, Nat.reduceAdd, List.getElem?_cons_zero, List.getElem?_cons_succ, Option.bind_some, List.map_cons, List.map_nil, Nat.zero_add, if_true, List.getD_cons_zero, List.getD_cons_succ, List.contains_cons, List.contains_nil, Nat.reduceBEq, Bool.or_true, Bool.true_or, Bool.or_false, Bool.false_or, Bool.not_true, Bool.not_false, true_and, and_true, rowA_whole, push_n, set_n, push_obj, set_obj, set_push, set_push_ne, set_set, Nat.add_assoc, Nat.left_eq_add, Nat.add_eq_left, Nat.add_left_cancel_iff, Nat.reduceEqDiff, stO_1s, stO_ws, boxA_s, one_bool, one_int, one_str, one_ptr, one_nilptr, one_slice, one_eslice, one_nilslice, one_func, one_iface, one_niliface, List.all_cons, List.all_nil, List.length_cons, List.length_nil, Nat.reduceLT, Nat.reduceEqDiff, Nat.reduceLeDiff, Bool.and_true, Nat.one_ne_zero, Nat.succ_ne_zero, reduceIte, if_false, List.getElem?_cons_zero, List.set_cons_zero, List.set_cons_succ]
            have hle := E.le
            have yol := yo.lt
            refine test_dec (fun hlt => ?_) (fun hlt => ?_)
            · have hlt' : k < ps.length := by omega
              have hkp : ps[k]? = some ps[k] := List.getElem?_eq_getElem hlt'
              have hpb := hw ps[k] (List.getElem_mem _)
              generalize ps[k] = p at hkp hpb
              have hsu := splitP_succ (most := most) hkp
              have hpre : splitP most ps = (splitP most (ps.take k) ++ cut most p) ++ splitP most (ps.drop (k + 1)) := by
                rw [← hsu]; unfold splitP; rw [← List.flatMap_append, List.take_append_drop]
              obtain ⟨l, j, hia, hlj, hrow⟩ := (hs.ext E).at (m := k) (row := p.row) (by rw [List.getElem?_map, hkp]; rfl) .i64
              unfold Piece.row at hrow
              simp only [i1, i2, i4, i6, i9, y0.eq, hlen, hia, hrow, lay_nil, lay_1, lay_w, Option.map_some, go_sem, Hold.p, HoldK.k, HoldL.K, HoldL.body, Nat.reduceBEq, Nat.reduceAdd, List.getElem?_cons_zero, List.getElem?_cons_succ, Option.bind_some, List.map_cons, List.map_nil, Nat.zero_add, if_true, List.getD_cons_zero, List.getD_cons_succ, List.contains_cons, List.contains_nil, Nat.reduceBEq, Bool.or_true, Bool.true_or, Bool.or_false, Bool.false_or, Bool.not_true, Bool.not_false, true_and, and_true, rowA_whole, push_n, set_n, push_obj, set_obj, set_push, set_push_ne, set_set, Nat.add_assoc, Nat.left_eq_add, Nat.add_eq_left, Nat.add_left_cancel_iff, Nat.reduceEqDiff, stO_1s, stO_ws, boxA_s, one_bool, one_int, one_str, one_ptr, one_nilptr, one_slice, one_eslice, one_nilslice, one_func, one_iface, one_niliface, List.all_cons, List.all_nil, List.length_cons, List.length_nil, Nat.reduceLT, Nat.reduceEqDiff, Nat.reduceLeDiff, Bool.and_true, Nat.one_ne_zero, Nat.succ_ne_zero, reduceIte, if_false, List.getElem?_cons_zero, List.set_cons_zero, List.set_cons_succ]
              generalize hq_g1 : IH.push h' (IObj.rows [[IV.int .i64 p.fr, IV.int .i64 p.to, IV.int .i64 p.at_, IV.int .i64 p.times, IV.bool p.sacked, IV.bool p.lost]] 113 6 false) = g1
              have e_g1 : Ext h' g1 := by rw [← hq_g1]; exact (Ext.refl _).push _
              have l_g1 : g1.n = h'.n + 1 := by rw [← hq_g1]; rfl
              have yp : At g1 h'.n (IObj.rows [[IV.int .i64 p.fr, IV.int .i64 p.to, IV.int .i64 p.at_, IV.int .i64 p.times, IV.bool p.sacked, IV.bool p.lost]] 113 6 false) := by rw [← hq_g1]; exact At.new _ _
              clear hq_g1
              have y0 := y0.ext e_g1
              have y1 := y1.ext e_g1
              have yo := yo.ext e_g1
              have ol := ol.ext e_g1
              have E := E.ext e_g1
              refine loop_at (fun m e g => ∃ (a : Int) (vl : IV) (lo hi : Nat) (l : List Piece), m = (p.to - a).toNat ∧ e 1 = .int .i64 most ∧ e 2 = .ptr h.n 0 0 ∧ e 4 = .ptr (h.n + 1) 0 0 ∧ e 6 = .ptr h2.n 0 0 ∧ e 9 = .int .i64 k ∧
                e 10 = .ptr h'.n 0 0 ∧ e 11 = .int .i64 a ∧ Ext h g ∧ h2.n < lo ∧ (h'.n < lo ∨ hi ≤ h'.n) ∧ hi ≤ g.n ∧ Own lo hi g 113 6 vl (l.map Piece.row) ∧
                At g h.n (.rows [[.int .i64 una, .int .i64 nxt, v]] 40 3 false) ∧ At g (h.n + 1) (.rows [[.int .i64 0, .int .i64 0, .nilslice]] 40 3 false) ∧ At g h2.n (.rows [[.int .i64 una, .int .i64 nxt, vl]] 40 3 false) ∧
                At g h'.n (.rows [p.row] 113 6 false) ∧ 0 ≤ a ∧ a ≤ 1099511727776 ∧ (a < p.to → l ++ cut most { p with fr := a } = splitP most (ps.take k) ++ cut most p) ∧ (¬ a < p.to → l = splitP most (ps.take k) ++ cut most p)) (p.to - p.fr).toNat ?_ ?_
              · refine ⟨p.fr, vl, lo, hi, splitP most (ps.take k), rfl, ?_⟩
                simp only [yp.eq, i1, i2, i4, i6, i9, lay_nil, lay_1, lay_w, Option.map_some, go_sem, Hold.p, HoldK.k, HoldL.K, HoldL.body, Nat.reduceBEq, Nat.reduceAdd, List.getElem?_cons_zero, List.getElem?_cons_succ, Option.bind_some, List.map_cons, List.map_nil, Nat.zero_add, if_true, List.getD_cons_zero, List.getD_cons_succ, List.contains_cons, List.contains_nil, Nat.reduceBEq, Bool.or_true, Bool.true_or, Bool.or_false, Bool.false_or, Bool.not_true, Bool.not_false, true_and, and_true, rowA_whole, push_n, set_n, push_obj, set_obj, set_push, set_push_ne, set_set, Nat.add_assoc, Nat.left_eq_add, Nat.add_eq_left, Nat.add_left_cancel_iff, Nat.reduceEqDiff, stO_1s, stO_ws, boxA_s, one_bool, one_int, one_str, one_ptr, one_nilptr, one_slice, one_eslice, one_nilslice, one_func, one_iface, one_niliface, List.all_cons, List.all_nil, List.length_cons, List.length_nil, Nat.reduceLT, Nat.reduceEqDiff, Nat.reduceLeDiff, Bool.and_true, Nat.one_ne_zero, Nat.succ_ne_zero, reduceIte, if_false, List.getElem?_cons_zero, List.set_cons_zero, List.set_cons_succ]
                exact ⟨E, hlo, by omega, by omega, ol, y0, y1, yo, yp, by omega, by omega, fun _ => trivial, fun h => absurd hpb.2.1 h⟩
              · rintro m e g ⟨a, vl, lo, hi, l, rfl, i1, i2, i4, i6, i9, i10, i11, E, glo, gd, ghi, go, y0, y1, yo, yp, a1, a2, t1, t2⟩
                have ype := yp.eq
                unfold Piece.row at ype
                have hle2 := E.le
                have ypl := yp.lt
                have yol2 := yo.lt
                have hne : (h'.n = g.n) = False := by simp; omega
                have hne2 : (h2.n = g.n) = False := by simp; omega
                simp only [i1, i2, i4, i6, i9, i10, i11, ype, lay_nil, lay_1, lay_w, Option.map_some, go_sem, Hold.p, HoldK.k, HoldL.K, HoldL.body, Nat.reduceBEq, Nat.reduceAdd, List.getElem?_cons_zero, List.getElem?_cons_succ, Option.bind_some, List.map_cons, List.map_nil, Nat.zero_add, if_true, List.getD_cons_zero, List.getD_cons_succ, List.contains_cons, List.contains_nil, Nat.reduceBEq, Bool.or_true, Bool.true_or, Bool.or_false, Bool.false_or, Bool.not_true, Bool.not_false, true_and, and_true, rowA_whole, push_n, set_n, push_obj, set_obj, set_push, set_push_ne, set_set, Nat.add_assoc, Nat.left_eq_add, Nat.add_eq_left, Nat.add_left_cancel_iff, Nat.reduceEqDiff, stO_1s, stO_ws, boxA_s, one_bool, one_int, one_str, one_ptr, one_nilptr, one_slice, one_eslice, one_nilslice, one_func, one_iface, one_niliface, List.all_cons, List.all_nil, List.length_cons, List.length_nil, Nat.reduceLT, Nat.reduceEqDiff, Nat.reduceLeDiff, Bool.and_true, Nat.one_ne_zero, Nat.succ_ne_zero, reduceIte, if_false, List.getElem?_cons_zero, List.set_cons_zero, List.set_cons_succ]
                refine test_dec (fun c2 => ?_) (fun c2 => ?_)
                · have w1 : wr .i64 (a + most) = a + most := wr64 _ (by omega)
                  have gc := t1 c2
                  have hce := cut_eq n1 { p with fr := a }
                  simp only [i1, i2, i4, i6, i9, i10, i11, ype, w1, hne, lay_nil, lay_1, lay_w, Option.map_some, go_sem, Hold.p, HoldK.k, HoldL.K, HoldL.body, Nat.reduceBEq, Nat.reduceAdd, List.getElem?_cons_zero, List.getElem?_cons_succ, Option.bind_some, List.map_cons, List.map_nil, Nat.zero_add, if_true, List.getD_cons_zero, List.getD_cons_succ, List.contains_cons, List.contains_nil, Nat.reduceBEq, Bool.or_true, Bool.true_or, Bool.or_false, Bool.false_or, Bool.not_true, Bool.not_false, true_and, and_true, rowA_whole, push_n, set_n, push_obj, set_obj, set_push, set_push_ne, set_set, Nat.add_assoc, Nat.left_eq_add, Nat.add_eq_left, Nat.add_left_cancel_iff, Nat.reduceEqDiff, stO_1s, stO_ws, boxA_s, one_bool, one_int, one_str, one_ptr, one_nilptr, one_slice, one_eslice, one_nilslice, one_func, one_iface, one_niliface, List.all_cons, List.all_nil, List.length_cons, List.length_nil, Nat.reduceLT, Nat.reduceEqDiff, Nat.reduceLeDiff, Bool.and_true, Nat.one_ne_zero, Nat.succ_ne_zero, reduceIte, if_false, List.getElem?_cons_zero, List.set_cons_zero, List.set_cons_succ]
                  generalize hq_g2 : IH.push g (IObj.rows [[IV.int .i64 a, IV.int .i64 p.to, IV.int .i64 p.at_, IV.int .i64 p.times, IV.bool p.sacked, IV.bool p.lost]] 113 6 false) = g2
                  have e_g2 : Ext g g2 := by rw [← hq_g2]; exact (Ext.refl _).push _
                  have l_g2 : g2.n = g.n + 1 := by rw [← hq_g2]; rfl
                  have bq : At g2 g.n (IObj.rows [[IV.int .i64 a, IV.int .i64 p.to, IV.int .i64 p.at_, IV.int .i64 p.times, IV.bool p.sacked, IV.bool p.lost]] 113 6 false) := by rw [← hq_g2]; exact At.new _ _
                  clear hq_g2
                  have go := go.ext e_g2
                  have E := E.ext e_g2
                  have y0 := y0.ext e_g2
                  have y1 := y1.ext e_g2
                  have yo := yo.ext e_g2
                  have yp := yp.ext e_g2
                  refine callA_of (l14Min_c _ _ _) ?_
                  rintro r g2' ⟨rfl, rfl⟩
                  simp only [bq.eq, yo.eq, hne2, i1, i2, i4, i6, i9, i10, i11, lay_nil, lay_1, lay_w, Option.map_some, go_sem, Hold.p, HoldK.k, HoldL.K, HoldL.body, Nat.reduceBEq, Nat.reduceAdd, List.getElem?_cons_zero, List.getElem?_cons_succ, Option.bind_some, List.map_cons, List.map_nil, Nat.zero_add, if_true, List.getD_cons_zero, List.getD_cons_succ, List.contains_cons, List.contains_nil, Nat.reduceBEq, Bool.or_true, Bool.true_or, Bool.or_false, Bool.false_or, Bool.not_true, Bool.not_false, true_and, and_true, rowA_whole, push_n, set_n, push_obj, set_obj, set_push, set_push_ne, set_set, Nat.add_assoc, Nat.left_eq_add, Nat.add_eq_left, Nat.add_left_cancel_iff, Nat.reduceEqDiff, stO_1s, stO_ws, boxA_s, one_bool, one_int, one_str, one_ptr, one_nilptr, one_slice, one_eslice, one_nilslice, one_func, one_iface, one_niliface, List.all_cons, List.all_nil, List.length_cons, List.length_nil, Nat.reduceLT, Nat.reduceEqDiff, Nat.reduceLeDiff, Bool.and_true, Nat.one_ne_zero, Nat.succ_ne_zero, reduceIte, if_false, List.getElem?_cons_zero, List.set_cons_zero, List.set_cons_succ]
                  generalize hq_g3 : IH.set g2' (g.n) (IObj.rows [[IV.int .i64 a, IV.int .i64 (min (a + most) p.to), IV.int .i64 p.at_, IV.int .i64 p.times, IV.bool p.sacked, IV.bool p.lost]] 113 6 false) = g3
                  have l_g3 : g3.n = g2'.n := by rw [← hq_g3]; rfl
                  have bq : At g3 (g.n) (IObj.rows [[IV.int .i64 a, IV.int .i64 (min (a + most) p.to), IV.int .i64 p.at_, IV.int .i64 p.times, IV.bool p.sacked, IV.bool p.lost]] 113 6 false) := by rw [← hq_g3]; exact bq.here
                  have go := go.set (m := g.n) (by omega) (IObj.rows [[IV.int .i64 a, IV.int .i64 (min (a + most) p.to), IV.int .i64 p.at_, IV.int .i64 p.times, IV.bool p.sacked, IV.bool p.lost]] 113 6 false)
                  rw [hq_g3] at go
                  have y0 := y0.set (p := g.n) (o' := IObj.rows [[IV.int .i64 a, IV.int .i64 (min (a + most) p.to), IV.int .i64 p.at_, IV.int .i64 p.times, IV.bool p.sacked, IV.bool p.lost]] 113 6 false) (by omega)
                  rw [hq_g3] at y0
                  have y1 := y1.set (p := g.n) (o' := IObj.rows [[IV.int .i64 a, IV.int .i64 (min (a + most) p.to), IV.int .i64 p.at_, IV.int .i64 p.times, IV.bool p.sacked, IV.bool p.lost]] 113 6 false) (by omega)
                  rw [hq_g3] at y1
                  have yo := yo.set (p := g.n) (o' := IObj.rows [[IV.int .i64 a, IV.int .i64 (min (a + most) p.to), IV.int .i64 p.at_, IV.int .i64 p.times, IV.bool p.sacked, IV.bool p.lost]] 113 6 false) (by omega)
                  rw [hq_g3] at yo
                  have yp := yp.set (p := g.n) (o' := IObj.rows [[IV.int .i64 a, IV.int .i64 (min (a + most) p.to), IV.int .i64 p.at_, IV.int .i64 p.times, IV.bool p.sacked, IV.bool p.lost]] 113 6 false) (by omega)
                  rw [hq_g3] at yp
                  have E := E.set (g.n) (by omega) (IObj.rows [[IV.int .i64 a, IV.int .i64 (min (a + most) p.to), IV.int .i64 p.at_, IV.int .i64 p.times, IV.bool p.sacked, IV.bool p.lost]] 113 6 false)
                  rw [hq_g3] at E
                  clear hq_g3
                  generalize hq_g4 : IH.push g3 (IObj.rows [[IV.int .i64 a, IV.int .i64 (min (a + most) p.to), IV.int .i64 p.at_, IV.int .i64 p.times, IV.bool p.sacked, IV.bool p.lost]] 113 6 false) = g4
                  have e_g4 : Ext g3 g4 := by rw [← hq_g4]; exact (Ext.refl _).push _
                  have l_g4 : g4.n = g3.n + 1 := by rw [← hq_g4]; rfl
                  have ba : At g4 g3.n (IObj.rows [[IV.int .i64 a, IV.int .i64 (min (a + most) p.to), IV.int .i64 p.at_, IV.int .i64 p.times, IV.bool p.sacked, IV.bool p.lost]] 113 6 false) := by rw [← hq_g4]; exact At.new _ _
                  clear hq_g4
                  have go := go.ext e_g4
                  have E := E.ext e_g4
                  have y0 := y0.ext e_g4
                  have y1 := y1.ext e_g4
                  have yo := yo.ext e_g4
                  have yp := yp.ext e_g4
                  have bl : l.length ≤ 4096 := by
                    refine bnd l (cut most { p with fr := a } ++ splitP most (ps.drop (k + 1))) ?_
                    rw [hpre, ← gc]; simp
                  refine go.app (by simp) (by simp; omega) ?_
                  intro v6 h6 o6 t6 n6 v6o v6c
                  have y0 := y0.turn go (by omega) t6
                  have y1 := y1.turn go (by omega) t6
                  have yo := yo.turn go (by omega) t6
                  have yp := yp.turn go (by omega) t6
                  have E := E.turn go (by omega) t6
                  have le_t6 := t6.le
                  have o7 : Own g4.n (g4.n + 1) h6 113 6 v6 ((l ++ [{ p with fr := a, to := min (a + most) p.to }]).map Piece.row) := by
                    have : (l ++ [{ p with fr := a, to := min (a + most) p.to }]).map Piece.row = l.map Piece.row ++ [[IV.int .i64 a, IV.int .i64 (min (a + most) p.to), IV.int .i64 p.at_, IV.int .i64 p.times, IV.bool p.sacked, IV.bool p.lost]] := by simp [Piece.row]
                    rw [this]; exact o6
                  simp only [yo.eq, v6o, v6c, w1, i1, i2, i4, i6, i9, i10, i11, lay_nil, lay_1, lay_w, Option.map_some, go_sem, Hold.p, HoldK.k, HoldL.K, HoldL.body, Nat.reduceBEq, Nat.reduceAdd, List.getElem?_cons_zero, List.getElem?_cons_succ, Option.bind_some, List.map_cons, List.map_nil, Nat.zero_add, if_true, List.getD_cons_zero, List.getD_cons_succ, List.contains_cons, List.contains_nil, Nat.reduceBEq, Bool.or_true, Bool.true_or, Bool.or_false, Bool.false_or, Bool.not_true, Bool.not_false, true_and, and_true, rowA_whole, push_n, set_n, push_obj, set_obj, set_push, set_push_ne, set_set, Nat.add_assoc, Nat.left_eq_add, Nat.add_eq_left, Nat.add_left_cancel_iff, Nat.reduceEqDiff, stO_1s, stO_ws, boxA_s, one_bool, one_int, one_str, one_ptr, one_nilptr, one_slice, one_eslice, one_nilslice, one_func, one_iface, one_niliface, List.all_cons, List.all_nil, List.length_cons, List.length_nil, Nat.reduceLT, Nat.reduceEqDiff, Nat.reduceLeDiff, Bool.and_true, Nat.one_ne_zero, Nat.succ_ne_zero, reduceIte, if_false, List.getElem?_cons_zero, List.set_cons_zero, List.set_cons_succ]
                  refine ⟨_, ?_, a + most, v6, g4.n, g4.n + 1, _, rfl, rfl, E.set _ (by omega) _, by omega, by omega, by first | omega | (simp only [set_n]; omega), o7.set (m := h2.n) (by omega) _, y0.set (by omega), y1.set (by omega), yo.here, yp.set (by omega), by omega, by omega, ?_, ?_⟩
                  · omega
                  · intro c3
                    rw [if_pos (by simp only; omega)] at hce
                    rw [← gc, hce, show min (a + most) p.to = a + most by omega]
                    simp
                  · intro c3
                    rw [if_neg (by simp only; omega)] at hce
                    rw [← gc, hce, show min (a + most) p.to = p.to by omega]
                · simp only [i1, i2, i4, i6, i9, i10, i11, lay_nil, lay_1, lay_w, Option.map_some, go_sem, Hold.p, HoldK.k, HoldL.K, HoldL.body, Nat.reduceBEq, Nat.reduceAdd, List.getElem?_cons_zero, List.getElem?_cons_succ, Option.bind_some, List.map_cons, List.map_nil, Nat.zero_add, if_true, List.getD_cons_zero, List.getD_cons_succ, List.contains_cons, List.contains_nil, Nat.reduceBEq, Bool.or_true, Bool.true_or, Bool.or_false, Bool.false_or, Bool.not_true, Bool.not_false, true_and, and_true, rowA_whole, push_n, set_n, push_obj, set_obj, set_push, set_push_ne, set_set, Nat.add_assoc, Nat.left_eq_add, Nat.add_eq_left, Nat.add_left_cancel_iff, Nat.reduceEqDiff, stO_1s, stO_ws, boxA_s, one_bool, one_int, one_str, one_ptr, one_nilptr, one_slice, one_eslice, one_nilslice, one_func, one_iface, one_niliface, List.all_cons, List.all_nil, List.length_cons, List.length_nil, Nat.reduceLT, Nat.reduceEqDiff, Nat.reduceLeDiff, Bool.and_true, Nat.one_ne_zero, Nat.succ_ne_zero, reduceIte, if_false, List.getElem?_cons_zero, List.set_cons_zero, List.set_cons_succ]
                  have gc := t2 c2
                  rw [← hsu] at gc
                  rw [gc] at go
                  refine ⟨_, ?_, k + 1, vl, lo, hi, rfl, by omega, wr64_succ k (by omega), E, glo, ghi, go, y0, y1, yo⟩
                  omega
            · obtain rfl : k = ps.length := by omega
              rw [List.take_length] at ol
              have vlo := ol.one
              simp only [i1, i2, i4, i6, i9, y1.eq, yo.eq, vlo, lay_nil, lay_1, lay_w, Option.map_some, go_sem, Hold.p, HoldK.k, HoldL.K, HoldL.body, Nat.reduceBEq, Nat.reduceAdd, List.getElem?_cons_zero, List.getElem?_cons_succ, Option.bind_some, List.map_cons, List.map_nil, Nat.zero_add, if_true, List.getD_cons_zero, List.getD_cons_succ, List.contains_cons, List.contains_nil, Nat.reduceBEq, Bool.or_true, Bool.true_or, Bool.or_false, Bool.false_or, Bool.not_true, Bool.not_false, true_and, and_true, rowA_whole, push_n, set_n, push_obj, set_obj, set_push, set_push_ne, set_set, Nat.add_assoc, Nat.left_eq_add, Nat.add_eq_left, Nat.add_left_cancel_iff, Nat.reduceEqDiff, stO_1s, stO_ws, boxA_s, one_bool, one_int, one_str, one_ptr, one_nilptr, one_slice, one_eslice, one_nilslice, one_func, one_iface, one_niliface, List.all_cons, List.all_nil, List.length_cons, List.length_nil, Nat.reduceLT, Nat.reduceEqDiff, Nat.reduceLeDiff, Bool.and_true, Nat.one_ne_zero, Nat.succ_ne_zero, reduceIte, if_false, List.getElem?_cons_zero, List.set_cons_zero, List.set_cons_succ]
              refine ⟨vl, rfl, (ol.set (m := h.n + 1) (by omega) _).wide (by omega) (by first | omega | (simp only [set_n]; omega)) (Nat.le_refl _), E.set _ (by omega) _⟩
  · have hdef : splitB una nxt ps most = (0, 0, [], 1) := if_neg hc
    cases hok : okB una nxt ps
    · simp only [hok, hv1, b1, lay_nil, lay_1, lay_w, Option.map_some, go_sem, Hold.p, HoldK.k, HoldL.K, HoldL.body, Nat.reduceBEq, Nat.reduceAdd, List.getElem?_cons_zero, List.getElem?_cons_succ, Option.bind_some, List.map_cons, List.map_nil, Nat.zero_add, if_true, List.getD_cons_zero, List.getD_cons_succ, List.contains_cons, List.contains_nil, Nat.reduceBEq, Bool.or_true, Bool.true_or, Bool.or_false, Bool.false_or, Bool.not_true, Bool.not_false, true_and, and_true, rowA_whole, push_n, set_n, push_obj, set_obj, set_push, set_push_ne, set_set, Nat.add_assoc, Nat.left_eq_add, Nat.add_eq_left, Nat.add_left_cancel_iff, Nat.reduceEqDiff, stO_1s, stO_ws, boxA_s, one_bool, one_int, one_str, one_ptr, one_nilptr, one_slice, one_eslice, one_nilslice, one_func, one_iface, one_niliface, List.all_cons, List.all_nil, List.length_cons, List.length_nil, Nat.reduceLT, Nat.reduceEqDiff, Nat.reduceLeDiff, Bool.and_true, Nat.one_ne_zero, Nat.succ_ne_zero, reduceIte, if_false, List.getElem?_cons_zero, List.set_cons_zero, List.set_cons_succ]
      exact bad _ _ _ ((hE _ _).trans hE1) hdef
    · simp only [hok, hv1, b1, lay_nil, lay_1, lay_w, Option.map_some, go_sem, Hold.p, HoldK.k, HoldL.K, HoldL.body, Nat.reduceBEq, Nat.reduceAdd, List.getElem?_cons_zero, List.getElem?_cons_succ, Option.bind_some, List.map_cons, List.map_nil, Nat.zero_add, if_true, List.getD_cons_zero, List.getD_cons_succ, List.contains_cons, List.contains_nil, Nat.reduceBEq, Bool.or_true, Bool.true_or, Bool.or_false, Bool.false_or, Bool.not_true, Bool.not_false, true_and, and_true, rowA_whole, push_n, set_n, push_obj, set_obj, set_push, set_push_ne, set_set, Nat.add_assoc, Nat.left_eq_add, Nat.add_eq_left, Nat.add_left_cancel_iff, Nat.reduceEqDiff, stO_1s, stO_ws, boxA_s, one_bool, one_int, one_str, one_ptr, one_nilptr, one_slice, one_eslice, one_nilslice, one_func, one_iface, one_niliface, List.all_cons, List.all_nil, List.length_cons, List.length_nil, Nat.reduceLT, Nat.reduceEqDiff, Nat.reduceLeDiff, Bool.and_true, Nat.one_ne_zero, Nat.succ_ne_zero, reduceIte, if_false, List.getElem?_cons_zero, List.set_cons_zero, List.set_cons_succ]
      refine callA_of (l01In_c _ _ _ _) ?_
      rintro r h2 ⟨rfl, rfl⟩
      have q1 : (decide (1 ≤ most) && decide (most ≤ 65535)) = false := by
        apply Bool.eq_false_iff.2
        intro hx
        simp at hx
        exact hc ⟨hok, hx⟩
      simp only [q1, b1, lay_nil, lay_1, lay_w, Option.map_some, go_sem, Hold.p, HoldK.k, HoldL.K, HoldL.body, Nat.reduceBEq, Nat.reduceAdd, List.getElem?_cons_zero, List.getElem?_cons_succ, Option.bind_some, List.map_cons, List.map_nil, Nat.zero_add, if_true, List.getD_cons_zero, List.getD_cons_succ, List.contains_cons, List.contains_nil, Nat.reduceBEq, Bool.or_true, Bool.true_or, Bool.or_false, Bool.false_or, Bool.not_true, Bool.not_false, true_and, and_true, rowA_whole, push_n, set_n, push_obj, set_obj, set_push, set_push_ne, set_set, Nat.add_assoc, Nat.left_eq_add, Nat.add_eq_left, Nat.add_left_cancel_iff, Nat.reduceEqDiff, stO_1s, stO_ws, boxA_s, one_bool, one_int, one_str, one_ptr, one_nilptr, one_slice, one_eslice, one_nilslice, one_func, one_iface, one_niliface, List.all_cons, List.all_nil, List.length_cons, List.length_nil, Nat.reduceLT, Nat.reduceEqDiff, Nat.reduceLeDiff, Bool.and_true, Nat.one_ne_zero, Nat.succ_ne_zero, reduceIte, if_false, List.getElem?_cons_zero, List.set_cons_zero, List.set_cons_succ]
      exact bad _ _ _ ((hE _ _).trans hE1) hdef
end Go.Proofs.Ytecljenjlncfhaa

namespace Go.Proofs.Ytecljenjlncfhaa
open Go Go.IW
/-- loop.example/g00003/laws.FnExactBoardAck -/
def c10 : CC :=
 (.seq (.reg [
   ⟨(some 3), none, .x (.box 35 3 (.t 0))⟩,
   ⟨(some 6), none, .f (.mv (.c (.bool false)))⟩])
 (.seq (.reg [
   ⟨(some 7), none, .f (.mv (.c (.int .i64 1048576)))⟩])
 (.seq (.reg [
   ⟨(some 22), none, .f (.ldA 3 (.t 3))⟩,
   ⟨(some 23), none, .f (.mv (.t 7))⟩,
   ⟨(some 24), none, .x (.call 24 [(.t 22), (.t 23)])⟩,
   ⟨(some 7), none, .f (.mv (.t 24))⟩])
 (.seq (.seq (.reg [
   ⟨(some 25), none, .f (.mv (.t 7))⟩,
   ⟨(some 26), none, .f (.bin .lss (.t 25) (.c (.int .i64 0)))⟩])
 (.cond (.t 26)
  (.seq (.reg [
    ⟨(some 6), none, .f (.mv (.c (.bool true)))⟩])
  .ret)
  .skip))
 (.seq (.reg [
   ⟨(some 27), none, .f (.mv (.t 2))⟩,
   ⟨(some 28), none, .f (.mv (.t 7))⟩,
   ⟨(some 29), none, .x (.call 37 [(.t 27), (.t 28)])⟩,
   ⟨(some 7), none, .f (.mv (.t 29))⟩])
 (.seq (.seq (.reg [
   ⟨(some 30), none, .f (.mv (.t 7))⟩,
   ⟨(some 31), none, .f (.bin .lss (.t 30) (.c (.int .i64 0)))⟩])
 (.cond (.t 31)
  (.seq (.reg [
    ⟨(some 6), none, .f (.mv (.c (.bool true)))⟩])
  .ret)
  .skip))
 (.seq (.reg [
   ⟨(some 33), none, .f (.ldA 3 (.t 3))⟩,
   ⟨(some 34), none, .x (.call 26 [(.t 33)])⟩,
   ⟨(some 35), none, .f (.mv (.t 1))⟩,
   ⟨(some 36), none, .f (.mv (.t 2))⟩,
   ⟨(some 37), none, .x (.call 39 [(.t 36)])⟩,
   ⟨(some 38), none, .x (.call 38 [(.t 34), (.t 35), (.t 37)])⟩,
   ⟨(some 32), none, .f (.mv (.t 38))⟩,
   ⟨(some 39), none, .f (.ext 0 (.t 32))⟩,
   ⟨(some 40), none, .f (.ext 1 (.t 32))⟩,
   ⟨(some 41), none, .f (.ext 2 (.t 32))⟩,
   ⟨(some 8), none, .x (.zero 40 3 [(.int .i64 0), (.int .i64 0), .nilslice])⟩,
   ⟨(some 9), none, .x (.zero 55 3 [(.int .i64 0), (.int .i64 0), (.int .i64 0)])⟩,
   ⟨none, none, .x (.st 3 (.t 8) (.t 39))⟩,
   ⟨none, none, .x (.st 3 (.t 9) (.t 40))⟩,
   ⟨(some 10), none, .f (.mv (.t 41))⟩])
 (.seq (.reg [
   ⟨(some 42), none, .f (.ldA 3 (.t 3))⟩,
   ⟨(some 43), none, .x (.call 26 [(.t 42)])⟩,
   ⟨(some 11), none, .x (.zero 40 3 [(.int .i64 0), (.int .i64 0), .nilslice])⟩,
   ⟨none, none, .x (.st 3 (.t 11) (.t 43))⟩])
 (.seq (.reg [
   ⟨(some 44), none, .f (.mv (.t 2))⟩,
   ⟨(some 45), none, .x (.call 39 [(.t 44)])⟩,
   ⟨(some 12), none, .f (.mv (.t 45))⟩])
 (.seq (.reg [
   ⟨(some 47), none, .f (.ldA 3 (.t 11))⟩,
   ⟨(some 48), none, .f (.mv (.t 1))⟩,
   ⟨(some 49), none, .f (.mv (.t 12))⟩,
   ⟨(some 50), none, .x (.call 40 [(.t 47), (.t 48), (.t 49)])⟩,
   ⟨(some 46), none, .f (.mv (.t 50))⟩,
   ⟨(some 51), none, .f (.ext 0 (.t 46))⟩,
   ⟨(some 52), none, .f (.ext 1 (.t 46))⟩,
   ⟨(some 53), none, .f (.ext 2 (.t 46))⟩,
   ⟨(some 13), none, .x (.zero 40 3 [(.int .i64 0), (.int .i64 0), .nilslice])⟩,
   ⟨(some 14), none, .x (.zero 55 3 [(.int .i64 0), (.int .i64 0), (.int .i64 0)])⟩,
   ⟨none, none, .x (.st 3 (.t 13) (.t 51))⟩,
   ⟨none, none, .x (.st 3 (.t 14) (.t 52))⟩,
   ⟨(some 15), none, .f (.mv (.t 53))⟩])
 (.seq (.seq (.reg [
   ⟨(some 54), none, .f (.ldA 3 (.t 13))⟩,
   ⟨(some 55), none, .f (.ldA 3 (.t 8))⟩,
   ⟨(some 56), none, .x (.call 28 [(.t 54), (.t 55)])⟩,
   ⟨(some 57), none, .f (.un .not (.t 56))⟩,
   ⟨(some 58), none, .f (.mv (.t 57))⟩,
   ⟨(some 59), (some (58, false)), .f (.ldA 3 (.t 14))⟩,
   ⟨(some 60), (some (58, false)), .f (.ldA 3 (.t 9))⟩,
   ⟨(some 61), (some (58, false)), .x (.call 41 [(.t 59), (.t 60)])⟩,
   ⟨(some 62), (some (58, false)), .f (.un .not (.t 61))⟩,
   ⟨(some 63), none, .f (.pick (.t 58) (.c (.bool true)) (.t 62))⟩,
   ⟨(some 64), none, .f (.mv (.t 63))⟩,
   ⟨(some 65), (some (64, false)), .f (.mv (.t 15))⟩,
   ⟨(some 66), (some (64, false)), .f (.mv (.t 10))⟩,
   ⟨(some 67), (some (64, false)), .f (.bin .neq (.t 65) (.t 66))⟩,
   ⟨(some 68), none, .f (.pick (.t 64) (.c (.bool true)) (.t 67))⟩])
 (.cond (.t 68)
  (.seq (.reg [
    ⟨(some 6), none, .f (.mv (.c (.bool false)))⟩])
  .ret)
  .skip))
 (.seq (.seq (.dreg [
   ⟨(some 69), none, .f (.ldA 3 (.t 11))⟩,
   ⟨(some 70), none, .f (.ldA 3 (.t 3))⟩,
   ⟨(some 71), none, .x (.call 26 [(.t 70)])⟩,
   ⟨(some 72), none, .x (.call 28 [(.t 69), (.t 71)])⟩,
   ⟨(some 73), none, .f (.un .not (.t 72))⟩]
   [false, false, true, true, false] [[], [], [1], [0, 2, 1], [3, 0, 2, 1]] [0, 1, 2, 3, 4])
 (.cond (.t 73)
  (.seq (.reg [
    ⟨(some 6), none, .f (.mv (.c (.bool false)))⟩])
  .ret)
  .skip))
 (.seq (.seq (.reg [
   ⟨(some 74), none, .f (.mv (.t 12))⟩,
   ⟨(some 75), none, .f (.mv (.t 2))⟩,
   ⟨(some 76), none, .x (.call 39 [(.t 75)])⟩,
   ⟨(some 77), none, .x (.call 42 [(.t 74), (.t 76)])⟩,
   ⟨(some 78), none, .f (.un .not (.t 77))⟩])
 (.cond (.t 78)
  (.seq (.reg [
    ⟨(some 6), none, .f (.mv (.c (.bool false)))⟩])
  .ret)
  .skip))
 (.seq (.reg [
   ⟨(some 16), none, .f (.mv (.c (.int .i64 1)))⟩])
 (.seq (.reg [
   ⟨(some 79), none, .f (.ldA 3 (.t 11))⟩,
   ⟨(some 80), none, .f (.mv (.t 16))⟩,
   ⟨(some 81), none, .x (.call 31 [(.t 79), (.t 80)])⟩,
   ⟨(some 16), none, .f (.mv (.t 81))⟩])
 (.seq (.reg [
   ⟨(some 82), none, .f (.mv (.t 12))⟩,
   ⟨(some 83), none, .f (.mv (.t 16))⟩,
   ⟨(some 84), none, .x (.call 43 [(.t 82), (.t 83)])⟩,
   ⟨(some 16), none, .f (.mv (.t 84))⟩])
 (.seq (.seq (.reg [
   ⟨(some 85), none, .f (.mv (.t 16))⟩,
   ⟨(some 86), none, .f (.bin .lss (.t 85) (.c (.int .i64 0)))⟩,
   ⟨(some 87), none, .f (.mv (.t 86))⟩,
   ⟨(some 88), (some (87, false)), .f (.ldA 3 (.t 13))⟩,
   ⟨(some 89), (some (87, false)), .f (.ldA 3 (.t 8))⟩,
   ⟨(some 90), (some (87, false)), .x (.call 28 [(.t 88), (.t 89)])⟩,
   ⟨(some 91), (some (87, false)), .f (.un .not (.t 90))⟩,
   ⟨(some 92), none, .f (.pick (.t 87) (.c (.bool true)) (.t 91))⟩,
   ⟨(some 93), none, .f (.mv (.t 92))⟩,
   ⟨(some 94), (some (93, false)), .f (.ldA 3 (.t 14))⟩,
   ⟨(some 95), (some (93, false)), .f (.ldA 3 (.t 9))⟩,
   ⟨(some 96), (some (93, false)), .x (.call 41 [(.t 94), (.t 95)])⟩,
   ⟨(some 97), (some (93, false)), .f (.un .not (.t 96))⟩,
   ⟨(some 98), none, .f (.pick (.t 93) (.c (.bool true)) (.t 97))⟩,
   ⟨(some 99), none, .f (.mv (.t 98))⟩,
   ⟨(some 100), (some (99, false)), .f (.mv (.t 15))⟩,
   ⟨(some 101), (some (99, false)), .f (.mv (.t 10))⟩,
   ⟨(some 102), (some (99, false)), .f (.bin .neq (.t 100) (.t 101))⟩,
   ⟨(some 103), none, .f (.pick (.t 99) (.c (.bool true)) (.t 102))⟩])
 (.cond (.t 103)
  (.seq (.reg [
    ⟨(some 6), none, .f (.mv (.c (.bool false)))⟩])
  .ret)
  .skip))
 (.seq (.reg [
   ⟨(some 17), none, .f (.mv (.c (.int .i64 1)))⟩])
 (.seq (.reg [
   ⟨(some 104), none, .f (.ldA 3 (.t 13))⟩,
   ⟨(some 105), none, .f (.mv (.t 17))⟩,
   ⟨(some 106), none, .x (.call 31 [(.t 104), (.t 105)])⟩,
   ⟨(some 17), none, .f (.mv (.t 106))⟩])
 (.seq (.reg [
   ⟨(some 18), none, .f (.mv (.c (.int .i64 1)))⟩])
 (.seq (.reg [
   ⟨(some 107), none, .f (.ldA 3 (.t 13))⟩,
   ⟨(some 108), none, .f (.mv (.t 18))⟩,
   ⟨(some 109), none, .x (.call 32 [(.t 107), (.t 108)])⟩,
   ⟨(some 18), none, .f (.mv (.t 109))⟩])
 (.seq (.seq (.reg [
   ⟨(some 110), none, .f (.mv (.t 18))⟩,
   ⟨(some 111), none, .f (.bin .lss (.t 110) (.c (.int .i64 0)))⟩])
 (.cond (.t 111)
  (.seq (.reg [
    ⟨(some 6), none, .f (.mv (.c (.bool false)))⟩])
  .ret)
  .skip))
 (.seq (.seq (.reg [
   ⟨(some 112), none, .f (.mv (.t 18))⟩,
   ⟨(some 113), none, .f (.mv (.t 17))⟩,
   ⟨(some 114), none, .f (.bin .neq (.t 112) (.t 113))⟩])
 (.cond (.t 114)
  (.seq (.reg [
    ⟨(some 6), none, .f (.mv (.c (.bool false)))⟩])
  .ret)
  .skip))
 (.seq (.reg [
   ⟨(some 116), none, .f (.ldA 3 (.t 3))⟩,
   ⟨(some 117), none, .x (.call 26 [(.t 116)])⟩,
   ⟨(some 118), none, .f (.mv (.t 1))⟩,
   ⟨(some 119), none, .f (.mv (.t 2))⟩,
   ⟨(some 120), none, .x (.call 39 [(.t 119)])⟩,
   ⟨(some 121), none, .x (.call 40 [(.t 117), (.t 118), (.t 120)])⟩,
   ⟨(some 115), none, .f (.mv (.t 121))⟩,
   ⟨(some 122), none, .f (.ext 0 (.t 115))⟩,
   ⟨(some 123), none, .f (.ext 1 (.t 115))⟩,
   ⟨(some 124), none, .f (.ext 2 (.t 115))⟩,
   ⟨(some 19), none, .x (.zero 40 3 [(.int .i64 0), (.int .i64 0), .nilslice])⟩,
   ⟨(some 20), none, .x (.zero 55 3 [(.int .i64 0), (.int .i64 0), (.int .i64 0)])⟩,
   ⟨none, none, .x (.st 3 (.t 19) (.t 122))⟩,
   ⟨none, none, .x (.st 3 (.t 20) (.t 123))⟩,
   ⟨(some 21), none, .f (.mv (.t 124))⟩])
 (.seq (.seq (.reg [
   ⟨(some 125), none, .f (.ldA 3 (.t 19))⟩,
   ⟨(some 126), none, .f (.ldA 3 (.t 8))⟩,
   ⟨(some 127), none, .x (.call 28 [(.t 125), (.t 126)])⟩,
   ⟨(some 128), none, .f (.un .not (.t 127))⟩,
   ⟨(some 129), none, .f (.mv (.t 128))⟩,
   ⟨(some 130), (some (129, false)), .f (.ldA 3 (.t 20))⟩,
   ⟨(some 131), (some (129, false)), .f (.ldA 3 (.t 9))⟩,
   ⟨(some 132), (some (129, false)), .x (.call 41 [(.t 130), (.t 131)])⟩,
   ⟨(some 133), (some (129, false)), .f (.un .not (.t 132))⟩,
   ⟨(some 134), none, .f (.pick (.t 129) (.c (.bool true)) (.t 133))⟩,
   ⟨(some 135), none, .f (.mv (.t 134))⟩,
   ⟨(some 136), (some (135, false)), .f (.mv (.t 21))⟩,
   ⟨(some 137), (some (135, false)), .f (.mv (.t 10))⟩,
   ⟨(some 138), (some (135, false)), .f (.bin .neq (.t 136) (.t 137))⟩,
   ⟨(some 139), none, .f (.pick (.t 135) (.c (.bool true)) (.t 138))⟩])
 (.cond (.t 139)
  (.seq (.reg [
    ⟨(some 6), none, .f (.mv (.c (.bool false)))⟩])
  .ret)
  .skip))
 (.seq (.reg [
   ⟨(some 18), none, .f (.mv (.c (.int .i64 1)))⟩])
 (.seq (.reg [
   ⟨(some 140), none, .f (.ldA 3 (.t 13))⟩,
   ⟨(some 141), none, .f (.mv (.t 18))⟩,
   ⟨(some 142), none, .x (.call 32 [(.t 140), (.t 141)])⟩,
   ⟨(some 18), none, .f (.mv (.t 142))⟩])
 (.seq (.seq (.reg [
   ⟨(some 143), none, .f (.mv (.t 18))⟩,
   ⟨(some 144), none, .f (.bin .lss (.t 143) (.c (.int .i64 0)))⟩])
 (.cond (.t 144)
  (.seq (.reg [
    ⟨(some 6), none, .f (.mv (.c (.bool false)))⟩])
  .ret)
  .skip))
 (.seq (.seq (.reg [
   ⟨(some 145), none, .f (.mv (.t 18))⟩,
   ⟨(some 146), none, .f (.mv (.t 17))⟩,
   ⟨(some 147), none, .f (.bin .neq (.t 145) (.t 146))⟩])
 (.cond (.t 147)
  (.seq (.reg [
    ⟨(some 6), none, .f (.mv (.c (.bool false)))⟩])
  .ret)
  .skip))
 (.seq (.reg [
   ⟨(some 6), none, .f (.mv (.c (.bool true)))⟩])
 .ret))))))))))))))))))))))))))))))
theorem ok10 : fnComp Try.prog 10 = some (148, c10, [(.mv (.t 6))]) := by kernel_rfl

/-- loop.example/g00003/spec.BoardAck -/
def c38 : CC :=
 (.seq (.reg [
   ⟨(some 3), none, .x (.box 40 3 (.t 0))⟩,
   ⟨(some 6), none, .x (.zero 40 3 [(.int .i64 0), (.int .i64 0), .nilslice])⟩,
   ⟨(some 7), none, .x (.zero 55 3 [(.int .i64 0), (.int .i64 0), (.int .i64 0)])⟩,
   ⟨(some 8), none, .f (.mv (.c (.int .i64 0)))⟩])
 (.seq (.seq (.reg [
   ⟨(some 13), none, .f (.ldA 3 (.t 3))⟩,
   ⟨(some 14), none, .x (.call 67 [(.t 13)])⟩,
   ⟨(some 15), none, .f (.un .not (.t 14))⟩,
   ⟨(some 16), none, .f (.mv (.t 15))⟩,
   ⟨(some 17), (some (16, false)), .f (.mv (.t 1))⟩,
   ⟨(some 18), (some (16, false)), .f (.fadr 0 (.t 3))⟩,
   ⟨(some 19), (some (16, false)), .f (.ld (.t 18))⟩,
   ⟨(some 20), (some (16, false)), .f (.fadr 1 (.t 3))⟩,
   ⟨(some 21), (some (16, false)), .f (.ld (.t 20))⟩,
   ⟨(some 22), (some (16, false)), .x (.call 77 [(.t 17), (.t 19), (.t 21)])⟩,
   ⟨(some 23), (some (16, false)), .f (.un .not (.t 22))⟩,
   ⟨(some 24), none, .f (.pick (.t 16) (.c (.bool true)) (.t 23))⟩,
   ⟨(some 25), none, .f (.mv (.t 24))⟩,
   ⟨(some 26), (some (25, false)), .f (.mv (.t 2))⟩,
   ⟨(some 27), (some (25, false)), .f (.len (.t 26))⟩,
   ⟨(some 28), (some (25, false)), .f (.bin .gtr (.t 27) (.c (.int .i64 3)))⟩,
   ⟨(some 29), none, .f (.pick (.t 25) (.c (.bool true)) (.t 28))⟩])
 (.cond (.t 29)
  (.seq (.reg [
    ⟨(some 30), none, .f (.build [(.int .i64 0), (.int .i64 0), .nilslice] [])⟩,
    ⟨(some 31), none, .f (.build [(.int .i64 0), (.int .i64 0), (.int .i64 0)] [])⟩,
    ⟨none, none, .x (.st 3 (.t 6) (.t 30))⟩,
    ⟨none, none, .x (.st 3 (.t 7) (.t 31))⟩,
    ⟨(some 8), none, .f (.mv (.c (.int .i64 1)))⟩])
  .ret)
  .skip))
 (.seq (.reg [
   ⟨(some 32), none, .f (.mv (.t 1))⟩,
   ⟨(some 33), none, .f (.fadr 0 (.t 3))⟩,
   ⟨(some 34), none, .f (.ld (.t 33))⟩,
   ⟨(some 35), none, .f (.bin .sub (.t 32) (.t 34))⟩,
   ⟨(some 36), none, .f (.build [(.int .i64 0), (.int .i64 0), (.int .i64 0)] [(0, 1, (.t 35)), (2, 1, (.c (.int .i64 (-1))))])⟩,
   ⟨(some 9), none, .x (.zero 55 3 [(.int .i64 0), (.int .i64 0), (.int .i64 0)])⟩,
   ⟨none, none, .x (.st 3 (.t 9) (.t 36))⟩])
 (.seq (.reg [
   ⟨(some 37), none, .f (.mv (.t 1))⟩,
   ⟨(some 38), none, .f (.fadr 1 (.t 3))⟩,
   ⟨(some 39), none, .f (.ld (.t 38))⟩,
   ⟨(some 40), none, .f (.build [(.int .i64 0), (.int .i64 0), .nilslice] [(0, 1, (.t 37)), (1, 1, (.t 39))])⟩,
   ⟨(some 10), none, .x (.zero 40 3 [(.int .i64 0), (.int .i64 0), .nilslice])⟩,
   ⟨none, none, .x (.st 3 (.t 10) (.t 40))⟩])
 (.seq (.seq (.reg [
   ⟨(some 11), none, .f (.mv (.c (.int .i64 0)))⟩])
 (.block 0 (.loop (.seq (.seq (.reg [
     ⟨(some 41), none, .f (.mv (.t 11))⟩,
     ⟨(some 42), none, .f (.fadr 2 (.t 3))⟩,
     ⟨(some 43), none, .f (.ld (.t 42))⟩,
     ⟨(some 44), none, .f (.len (.t 43))⟩,
     ⟨(some 45), none, .f (.bin .lss (.t 41) (.t 44))⟩])
   (.cond (.t 45)
    .skip
    (.exit 0)))
   (.seq (.block 1 (.seq (.reg [
      ⟨(some 48), none, .f (.fadr 2 (.t 3))⟩,
      ⟨(some 49), none, .f (.ld (.t 48))⟩,
      ⟨(some 50), none, .f (.mv (.t 11))⟩,
      ⟨(some 51), none, .f (.iadr 6 (.t 49) (.t 50))⟩,
      ⟨(some 52), none, .f (.ldA 6 (.t 51))⟩,
      ⟨(some 12), none, .x (.zero 113 6 [(.int .i64 0), (.int .i64 0), (.int .i64 0), (.int .i64 0), (.bool false), (.bool false)])⟩,
      ⟨none, none, .x (.st 6 (.t 12) (.t 52))⟩])
    (.seq (.seq (.reg [
      ⟨(some 53), none, .f (.fadr 1 (.t 12))⟩,
      ⟨(some 54), none, .f (.ld (.t 53))⟩,
      ⟨(some 55), none, .f (.mv (.t 1))⟩,
      ⟨(some 56), none, .f (.bin .leq (.t 54) (.t 55))⟩])
    (.cond (.t 56)
     (.seq (.seq (.reg [
       ⟨(some 57), none, .f (.fadr 3 (.t 12))⟩,
       ⟨(some 58), none, .f (.ld (.t 57))⟩,
       ⟨(some 59), none, .f (.bin .eql (.t 58) (.c (.int .i64 1)))⟩,
       ⟨(some 60), none, .f (.mv (.t 59))⟩,
       ⟨(some 61), (some (60, true)), .f (.fadr 4 (.t 12))⟩,
       ⟨(some 62), (some (60, true)), .f (.ld (.t 61))⟩,
       ⟨(some 63), (some (60, true)), .f (.un .not (.t 62))⟩,
       ⟨(some 64), none, .f (.pick (.t 60) (.t 63) (.c (.bool false)))⟩])
     (.cond (.t 64)
      (.reg [
        ⟨(some 65), none, .f (.fadr 2 (.t 12))⟩,
        ⟨(some 66), none, .f (.ld (.t 65))⟩,
        ⟨(some 67), none, .f (.fadr 2 (.t 9))⟩,
        ⟨none, none, .x (.st 1 (.t 67) (.t 66))⟩])
      .skip))
     (.exit 1))
     .skip))
    (.seq (.reg [
      ⟨(some 68), none, .f (.fadr 0 (.t 12))⟩,
      ⟨(some 69), none, .f (.ld (.t 68))⟩,
      ⟨(some 70), none, .f (.mv (.t 1))⟩,
      ⟨(some 71), none, .x (.call 81 [(.t 69), (.t 70)])⟩,
      ⟨(some 72), none, .f (.fadr 0 (.t 12))⟩,
      ⟨none, none, .x (.st 1 (.t 72) (.t 71))⟩])
    (.seq (.seq (.reg [
      ⟨(some 73), none, .f (.fadr 4 (.t 12))⟩,
      ⟨(some 74), none, .f (.ld (.t 73))⟩,
      ⟨(some 75), none, .f (.un .not (.t 74))⟩,
      ⟨(some 76), none, .f (.mv (.t 75))⟩,
      ⟨(some 77), (some (76, true)), .f (.ldA 6 (.t 12))⟩,
      ⟨(some 78), (some (76, true)), .f (.ldA 3 (.t 10))⟩,
      ⟨(some 79), (some (76, true)), .f (.mv (.t 2))⟩,
      ⟨(some 80), (some (76, true)), .x (.call 82 [(.t 77), (.t 78), (.t 79)])⟩,
      ⟨(some 81), none, .f (.pick (.t 76) (.t 80) (.c (.bool false)))⟩])
    (.cond (.t 81)
     (.seq (.reg [
       ⟨(some 82), none, .f (.fadr 4 (.t 12))⟩,
       ⟨none, none, .x (.st 1 (.t 82) (.c (.bool true)))⟩])
     (.seq (.reg [
       ⟨(some 83), none, .f (.fadr 5 (.t 12))⟩,
       ⟨none, none, .x (.st 1 (.t 83) (.c (.bool false)))⟩])
     (.reg [
       ⟨(some 84), none, .f (.fadr 1 (.t 9))⟩,
       ⟨(some 85), none, .f (.ld (.t 84))⟩,
       ⟨(some 86), none, .f (.fadr 1 (.t 12))⟩,
       ⟨(some 87), none, .f (.ld (.t 86))⟩,
       ⟨(some 88), none, .f (.bin .add (.t 85) (.t 87))⟩,
       ⟨(some 89), none, .f (.fadr 0 (.t 12))⟩,
       ⟨(some 90), none, .f (.ld (.t 89))⟩,
       ⟨(some 91), none, .f (.bin .sub (.t 88) (.t 90))⟩,
       ⟨(some 92), none, .f (.fadr 1 (.t 9))⟩,
       ⟨none, none, .x (.st 1 (.t 92) (.t 91))⟩])))
     .skip))
    (.reg [
      ⟨(some 93), none, .f (.fadr 2 (.t 10))⟩,
      ⟨(some 94), none, .f (.ld (.t 93))⟩,
      ⟨(some 95), none, .f (.ldA 6 (.t 12))⟩,
      ⟨(some 96), none, .x (.bslice 113 6 [(.int .i64 0), (.int .i64 0), (.int .i64 0), (.int .i64 0), (.bool false), (.bool false)] 1 [(0, (.t 95))])⟩,
      ⟨(some 97), none, .x (.app 113 6 40 (.t 94) (.t 96))⟩,
      ⟨(some 98), none, .f (.fadr 2 (.t 10))⟩,
      ⟨none, none, .x (.st 1 (.t 98) (.t 97))⟩]))))))
   (.reg [
     ⟨(some 46), none, .f (.mv (.t 11))⟩,
     ⟨(some 47), none, .f (.bin .add (.t 46) (.c (.int .i64 1)))⟩,
     ⟨(some 11), none, .f (.mv (.t 47))⟩]))))))
 (.seq (.dreg [
   ⟨(some 99), none, .f (.ldA 3 (.t 10))⟩,
   ⟨(some 100), none, .f (.ldA 3 (.t 9))⟩,
   ⟨none, none, .x (.st 3 (.t 6) (.t 99))⟩,
   ⟨none, none, .x (.st 3 (.t 7) (.t 100))⟩,
   ⟨(some 8), none, .f (.mv (.c (.int .i64 0)))⟩]
   [false, false, true, true, false] [[], [], [0], [1, 2, 0], [3, 1, 2, 0]] [0, 1, 2, 3, 4])
 .ret))))))
theorem ok38 : fnComp Try.prog 38 = some (101, c38, [(.ldA 3 (.t 6)), (.ldA 3 (.t 7)), (.mv (.t 8))]) := by kernel_rfl

/-- loop.example/g00003/impl.BoardAck -/
def c40 : CC :=
 (.seq (.reg [
   ⟨(some 3), none, .x (.box 40 3 (.t 0))⟩,
   ⟨(some 6), none, .x (.zero 40 3 [(.int .i64 0), (.int .i64 0), .nilslice])⟩,
   ⟨(some 7), none, .x (.zero 55 3 [(.int .i64 0), (.int .i64 0), (.int .i64 0)])⟩,
   ⟨(some 8), none, .f (.mv (.c (.int .i64 0)))⟩])
 (.seq (.seq (.reg [
   ⟨(some 11), none, .f (.ldA 3 (.t 3))⟩,
   ⟨(some 12), none, .x (.call 69 [(.t 11)])⟩,
   ⟨(some 13), none, .f (.un .not (.t 12))⟩,
   ⟨(some 14), none, .f (.mv (.t 13))⟩,
   ⟨(some 15), (some (14, false)), .f (.mv (.t 1))⟩,
   ⟨(some 16), (some (14, false)), .f (.fadr 0 (.t 3))⟩,
   ⟨(some 17), (some (14, false)), .f (.ld (.t 16))⟩,
   ⟨(some 18), (some (14, false)), .f (.bin .lss (.t 15) (.t 17))⟩,
   ⟨(some 19), none, .f (.pick (.t 14) (.c (.bool true)) (.t 18))⟩,
   ⟨(some 20), none, .f (.mv (.t 19))⟩,
   ⟨(some 21), (some (20, false)), .f (.mv (.t 1))⟩,
   ⟨(some 22), (some (20, false)), .f (.fadr 1 (.t 3))⟩,
   ⟨(some 23), (some (20, false)), .f (.ld (.t 22))⟩,
   ⟨(some 24), (some (20, false)), .f (.bin .gtr (.t 21) (.t 23))⟩,
   ⟨(some 25), none, .f (.pick (.t 20) (.c (.bool true)) (.t 24))⟩,
   ⟨(some 26), none, .f (.mv (.t 25))⟩,
   ⟨(some 27), (some (26, false)), .f (.mv (.t 2))⟩,
   ⟨(some 28), (some (26, false)), .f (.len (.t 27))⟩,
   ⟨(some 29), (some (26, false)), .f (.bin .gtr (.t 28) (.c (.int .i64 3)))⟩,
   ⟨(some 30), none, .f (.pick (.t 26) (.c (.bool true)) (.t 29))⟩])
 (.cond (.t 30)
  (.seq (.reg [
    ⟨(some 31), none, .f (.build [(.int .i64 0), (.int .i64 0), .nilslice] [])⟩,
    ⟨(some 32), none, .f (.build [(.int .i64 0), (.int .i64 0), (.int .i64 0)] [])⟩,
    ⟨none, none, .x (.st 3 (.t 6) (.t 31))⟩,
    ⟨none, none, .x (.st 3 (.t 7) (.t 32))⟩,
    ⟨(some 8), none, .f (.mv (.c (.int .i64 1)))⟩])
  .ret)
  .skip))
 (.seq (.reg [
   ⟨(some 33), none, .f (.ldA 3 (.t 3))⟩,
   ⟨(some 34), none, .x (.call 73 [(.t 33)])⟩,
   ⟨(some 35), none, .f (.build [(.int .i64 0), (.int .i64 0), .nilslice] [(0, 3, (.t 34))])⟩,
   ⟨(some 9), none, .x (.zero 116 3 [(.int .i64 0), (.int .i64 0), .nilslice])⟩,
   ⟨none, none, .x (.st 3 (.t 9) (.t 35))⟩])
 (.seq (.reg [
   ⟨(some 36), none, .f (.mv (.t 1))⟩,
   ⟨(some 37), none, .f (.mv (.t 2))⟩,
   ⟨(some 38), none, .x (.call 84 [(.t 9), (.t 36), (.t 37)])⟩,
   ⟨(some 10), none, .x (.zero 55 3 [(.int .i64 0), (.int .i64 0), (.int .i64 0)])⟩,
   ⟨none, none, .x (.st 3 (.t 10) (.t 38))⟩])
 (.seq (.dreg [
   ⟨(some 39), none, .f (.fadr 0 (.t 9))⟩,
   ⟨(some 40), none, .f (.ldA 3 (.t 39))⟩,
   ⟨(some 41), none, .f (.ldA 3 (.t 10))⟩,
   ⟨none, none, .x (.st 3 (.t 6) (.t 40))⟩,
   ⟨none, none, .x (.st 3 (.t 7) (.t 41))⟩,
   ⟨(some 8), none, .f (.mv (.c (.int .i64 0)))⟩]
   [false, false, false, true, true, false] [[], [0], [], [1, 0], [2, 3, 1, 0], [4, 2, 3, 1, 0]] [0, 1, 2, 3, 4, 5])
 .ret)))))
theorem ok40 : fnComp Try.prog 40 = some (42, c40, [(.ldA 3 (.t 6)), (.ldA 3 (.t 7)), (.mv (.t 8))]) := by kernel_rfl

/-- loop.example/g00003/laws.eqBoardNews -/
def c41 : CC :=
 (.seq (.reg [
   ⟨(some 2), none, .x (.box 55 3 (.t 0))⟩,
   ⟨(some 3), none, .x (.box 55 3 (.t 1))⟩,
   ⟨(some 4), none, .f (.mv (.c (.bool false)))⟩])
 (.seq (.seq (.reg [
   ⟨(some 5), none, .f (.fadr 0 (.t 2))⟩,
   ⟨(some 6), none, .f (.ld (.t 5))⟩,
   ⟨(some 7), none, .f (.fadr 0 (.t 3))⟩,
   ⟨(some 8), none, .f (.ld (.t 7))⟩,
   ⟨(some 9), none, .f (.bin .neq (.t 6) (.t 8))⟩])
 (.cond (.t 9)
  (.seq (.reg [
    ⟨(some 4), none, .f (.mv (.c (.bool false)))⟩])
  .ret)
  .skip))
 (.seq (.seq (.reg [
   ⟨(some 10), none, .f (.fadr 1 (.t 2))⟩,
   ⟨(some 11), none, .f (.ld (.t 10))⟩,
   ⟨(some 12), none, .f (.fadr 1 (.t 3))⟩,
   ⟨(some 13), none, .f (.ld (.t 12))⟩,
   ⟨(some 14), none, .f (.bin .neq (.t 11) (.t 13))⟩])
 (.cond (.t 14)
  (.seq (.reg [
    ⟨(some 4), none, .f (.mv (.c (.bool false)))⟩])
  .ret)
  .skip))
 (.seq (.seq (.reg [
   ⟨(some 15), none, .f (.fadr 2 (.t 2))⟩,
   ⟨(some 16), none, .f (.ld (.t 15))⟩,
   ⟨(some 17), none, .f (.fadr 2 (.t 3))⟩,
   ⟨(some 18), none, .f (.ld (.t 17))⟩,
   ⟨(some 19), none, .f (.bin .neq (.t 16) (.t 18))⟩])
 (.cond (.t 19)
  (.seq (.reg [
    ⟨(some 4), none, .f (.mv (.c (.bool false)))⟩])
  .ret)
  .skip))
 (.seq (.reg [
   ⟨(some 4), none, .f (.mv (.c (.bool true)))⟩])
 .ret)))))
theorem ok41 : fnComp Try.prog 41 = some (20, c41, [(.mv (.t 4))]) := by kernel_rfl

/-- loop.example/g00003/laws.eqStretchS -/
def c42 : CC :=
 (.seq (.reg [
   ⟨(some 4), none, .f (.mv (.c (.bool false)))⟩])
 (.seq (.seq (.reg [
   ⟨(some 6), none, .f (.mv (.t 0))⟩,
   ⟨(some 7), none, .f (.len (.t 6))⟩,
   ⟨(some 8), none, .f (.mv (.t 1))⟩,
   ⟨(some 9), none, .f (.len (.t 8))⟩,
   ⟨(some 10), none, .f (.bin .neq (.t 7) (.t 9))⟩])
 (.cond (.t 10)
  (.seq (.reg [
    ⟨(some 4), none, .f (.mv (.c (.bool false)))⟩])
  .ret)
  .skip))
 (.seq (.seq (.reg [
   ⟨(some 5), none, .f (.mv (.c (.int .i64 0)))⟩])
 (.block 0 (.loop (.seq (.seq (.reg [
     ⟨(some 11), none, .f (.mv (.t 5))⟩,
     ⟨(some 12), none, .f (.mv (.t 0))⟩,
     ⟨(some 13), none, .f (.len (.t 12))⟩,
     ⟨(some 14), none, .f (.bin .lss (.t 11) (.t 13))⟩])
   (.cond (.t 14)
    .skip
    (.exit 0)))
   (.seq (.block 1 (.seq (.dreg [
      ⟨(some 17), none, .f (.mv (.t 0))⟩,
      ⟨(some 18), none, .f (.mv (.t 5))⟩,
      ⟨(some 19), none, .f (.iadr 2 (.t 17) (.t 18))⟩,
      ⟨(some 20), none, .f (.ldA 2 (.t 19))⟩,
      ⟨(some 21), none, .f (.mv (.t 1))⟩,
      ⟨(some 22), none, .f (.mv (.t 5))⟩,
      ⟨(some 23), none, .f (.iadr 2 (.t 21) (.t 22))⟩,
      ⟨(some 24), none, .f (.ldA 2 (.t 23))⟩,
      ⟨(some 25), none, .x (.call 85 [(.t 20), (.t 24)])⟩,
      ⟨(some 26), none, .f (.un .not (.t 25))⟩]
      [false, false, false, false, false, false, false, false, true, false] [[], [], [0, 1], [2, 0, 1], [], [], [4, 5], [6, 4, 5], [3, 2, 0, 1, 7, 6, 4, 5], [8, 3, 2, 0, 1, 7, 6, 4, 5]] [0, 1, 2, 3, 4, 5, 6, 7, 8, 9])
    (.cond (.t 26)
     (.seq (.reg [
       ⟨(some 4), none, .f (.mv (.c (.bool false)))⟩])
     .ret)
     .skip)))
   (.reg [
     ⟨(some 15), none, .f (.mv (.t 5))⟩,
     ⟨(some 16), none, .f (.bin .add (.t 15) (.c (.int .i64 1)))⟩,
     ⟨(some 5), none, .f (.mv (.t 16))⟩]))))))
 (.seq (.reg [
   ⟨(some 4), none, .f (.mv (.c (.bool true)))⟩])
 .ret))))
theorem ok42 : fnComp Try.prog 42 = some (27, c42, [(.mv (.t 4))]) := by kernel_rfl

/-- loop.example/g00003/laws.markStretchS -/
def c43 : CC :=
 (.seq (.reg [
   ⟨(some 4), none, .f (.mv (.c (.int .i64 0)))⟩])
 (.seq (.seq (.reg [
   ⟨(some 5), none, .f (.mv (.c (.int .i64 0)))⟩])
 (.block 0 (.loop (.seq (.seq (.reg [
     ⟨(some 6), none, .f (.mv (.t 5))⟩,
     ⟨(some 7), none, .f (.mv (.t 0))⟩,
     ⟨(some 8), none, .f (.len (.t 7))⟩,
     ⟨(some 9), none, .f (.bin .lss (.t 6) (.t 8))⟩])
   (.cond (.t 9)
    .skip
    (.exit 0)))
   (.seq (.block 1 (.seq (.reg [
      ⟨(some 12), none, .f (.mv (.t 0))⟩,
      ⟨(some 13), none, .f (.mv (.t 5))⟩,
      ⟨(some 14), none, .f (.mv (.t 1))⟩,
      ⟨(some 15), none, .f (.iadr 2 (.t 12) (.t 13))⟩,
      ⟨(some 16), none, .f (.fadr 0 (.t 15))⟩,
      ⟨none, none, .x (.st 1 (.t 16) (.t 14))⟩])
    (.seq (.reg [
      ⟨(some 17), none, .f (.mv (.t 1))⟩,
      ⟨(some 18), none, .f (.bin .add (.t 17) (.c (.int .i64 1)))⟩,
      ⟨(some 1), none, .f (.mv (.t 18))⟩])
    (.seq (.reg [
      ⟨(some 19), none, .f (.mv (.t 0))⟩,
      ⟨(some 20), none, .f (.mv (.t 5))⟩,
      ⟨(some 21), none, .f (.mv (.t 1))⟩,
      ⟨(some 22), none, .f (.iadr 2 (.t 19) (.t 20))⟩,
      ⟨(some 23), none, .f (.fadr 1 (.t 22))⟩,
      ⟨none, none, .x (.st 1 (.t 23) (.t 21))⟩])
    (.reg [
      ⟨(some 24), none, .f (.mv (.t 1))⟩,
      ⟨(some 25), none, .f (.bin .add (.t 24) (.c (.int .i64 1)))⟩,
      ⟨(some 1), none, .f (.mv (.t 25))⟩])))))
   (.reg [
     ⟨(some 10), none, .f (.mv (.t 5))⟩,
     ⟨(some 11), none, .f (.bin .add (.t 10) (.c (.int .i64 1)))⟩,
     ⟨(some 5), none, .f (.mv (.t 11))⟩]))))))
 (.seq (.reg [
   ⟨(some 26), none, .f (.mv (.t 1))⟩,
   ⟨(some 4), none, .f (.mv (.t 26))⟩])
 .ret)))
theorem ok43 : fnComp Try.prog 43 = some (27, c43, [(.mv (.t 4))]) := by kernel_rfl

/-- loop.example/g00003/laws.szStretchS -/
def c37 : CC :=
 (.seq (.reg [
   ⟨(some 4), none, .f (.mv (.c (.int .i64 0)))⟩])
 (.seq (.reg [
   ⟨(some 5), none, .f (.mv (.t 1))⟩,
   ⟨(some 6), none, .f (.mv (.t 0))⟩,
   ⟨(some 7), none, .f (.len (.t 6))⟩,
   ⟨(some 8), none, .f (.bin .sub (.t 5) (.t 7))⟩,
   ⟨(some 1), none, .f (.mv (.t 8))⟩])
 (.seq (.seq (.reg [
   ⟨(some 9), none, .f (.mv (.t 1))⟩,
   ⟨(some 10), none, .f (.bin .lss (.t 9) (.c (.int .i64 0)))⟩])
 (.cond (.t 10)
  (.seq (.reg [
    ⟨(some 4), none, .f (.mv (.c (.int .i64 (-1))))⟩])
  .ret)
  .skip))
 (.seq (.reg [
   ⟨(some 11), none, .f (.mv (.t 1))⟩,
   ⟨(some 4), none, .f (.mv (.t 11))⟩])
 .ret))))
theorem ok37 : fnComp Try.prog 37 = some (12, c37, [(.mv (.t 4))]) := by kernel_rfl

/-- loop.example/g00003/laws.toStretchS -/
def c39 : CC :=
 (.seq (.reg [
   ⟨(some 2), none, .f (.mv (.c .nilslice))⟩])
 (.seq (.reg [
   ⟨(some 5), none, .f (.mv (.t 0))⟩,
   ⟨(some 6), none, .f (.len (.t 5))⟩,
   ⟨(some 7), none, .x (.mks 127 2 16 [(.int .i64 0), (.int .i64 0)] (.t 6) (.t 6))⟩,
   ⟨(some 3), none, .f (.mv (.t 7))⟩])
 (.seq (.seq (.reg [
   ⟨(some 4), none, .f (.mv (.c (.int .i64 0)))⟩])
 (.block 0 (.loop (.seq (.seq (.reg [
     ⟨(some 8), none, .f (.mv (.t 4))⟩,
     ⟨(some 9), none, .f (.mv (.t 0))⟩,
     ⟨(some 10), none, .f (.len (.t 9))⟩,
     ⟨(some 11), none, .f (.bin .lss (.t 8) (.t 10))⟩])
   (.cond (.t 11)
    .skip
    (.exit 0)))
   (.seq (.block 1 (.reg [
      ⟨(some 14), none, .f (.mv (.t 3))⟩,
      ⟨(some 15), none, .f (.mv (.t 4))⟩,
      ⟨(some 16), none, .f (.mv (.t 0))⟩,
      ⟨(some 17), none, .f (.mv (.t 4))⟩,
      ⟨(some 18), none, .f (.iadr 2 (.t 16) (.t 17))⟩,
      ⟨(some 19), none, .f (.ldA 2 (.t 18))⟩,
      ⟨(some 20), none, .x (.call 83 [(.t 19)])⟩,
      ⟨(some 21), none, .f (.iadr 2 (.t 14) (.t 15))⟩,
      ⟨none, none, .x (.st 2 (.t 21) (.t 20))⟩]))
   (.reg [
     ⟨(some 12), none, .f (.mv (.t 4))⟩,
     ⟨(some 13), none, .f (.bin .add (.t 12) (.c (.int .i64 1)))⟩,
     ⟨(some 4), none, .f (.mv (.t 13))⟩]))))))
 (.seq (.reg [
   ⟨(some 22), none, .f (.mv (.t 3))⟩,
   ⟨(some 2), none, .f (.mv (.t 22))⟩])
 .ret))))
theorem ok39 : fnComp Try.prog 39 = some (23, c39, [(.mv (.t 2))]) := by kernel_rfl

/-- loop.example/g00003/spec.l15Within -/
def c82 : CC :=
 (.seq (.reg [
   ⟨(some 3), none, .x (.box 113 6 (.t 0))⟩,
   ⟨(some 4), none, .x (.box 40 3 (.t 1))⟩,
   ⟨(some 6), none, .f (.mv (.c (.bool false)))⟩])
 (.seq (.seq (.reg [
   ⟨(some 7), none, .f (.mv (.c (.int .i64 0)))⟩])
 (.block 0 (.loop (.seq (.seq (.reg [
     ⟨(some 9), none, .f (.mv (.t 7))⟩,
     ⟨(some 10), none, .f (.mv (.t 2))⟩,
     ⟨(some 11), none, .f (.len (.t 10))⟩,
     ⟨(some 12), none, .f (.bin .lss (.t 9) (.t 11))⟩])
   (.cond (.t 12)
    .skip
    (.exit 0)))
   (.seq (.block 1 (.seq (.reg [
      ⟨(some 15), none, .f (.mv (.t 2))⟩,
      ⟨(some 16), none, .f (.mv (.t 7))⟩,
      ⟨(some 17), none, .f (.iadr 2 (.t 15) (.t 16))⟩,
      ⟨(some 18), none, .f (.ldA 2 (.t 17))⟩,
      ⟨(some 8), none, .x (.zero 127 2 [(.int .i64 0), (.int .i64 0)])⟩,
      ⟨none, none, .x (.st 2 (.t 8) (.t 18))⟩])
    (.seq (.reg [
      ⟨(some 19), none, .f (.fadr 0 (.t 8))⟩,
      ⟨(some 20), none, .f (.ld (.t 19))⟩,
      ⟨(some 21), none, .f (.fadr 0 (.t 4))⟩,
      ⟨(some 22), none, .f (.ld (.t 21))⟩,
      ⟨(some 23), none, .f (.bin .geq (.t 20) (.t 22))⟩,
      ⟨(some 24), none, .f (.mv (.t 23))⟩,
      ⟨(some 25), (some (24, true)), .f (.fadr 0 (.t 8))⟩,
      ⟨(some 26), (some (24, true)), .f (.ld (.t 25))⟩,
      ⟨(some 27), (some (24, true)), .f (.fadr 1 (.t 8))⟩,
      ⟨(some 28), (some (24, true)), .f (.ld (.t 27))⟩,
      ⟨(some 29), (some (24, true)), .f (.bin .lss (.t 26) (.t 28))⟩,
      ⟨(some 30), none, .f (.pick (.t 24) (.t 29) (.c (.bool false)))⟩,
      ⟨(some 31), none, .f (.mv (.t 30))⟩,
      ⟨(some 32), (some (31, true)), .f (.fadr 1 (.t 8))⟩,
      ⟨(some 33), (some (31, true)), .f (.ld (.t 32))⟩,
      ⟨(some 34), (some (31, true)), .f (.fadr 1 (.t 4))⟩,
      ⟨(some 35), (some (31, true)), .f (.ld (.t 34))⟩,
      ⟨(some 36), (some (31, true)), .f (.bin .leq (.t 33) (.t 35))⟩,
      ⟨(some 37), none, .f (.pick (.t 31) (.t 36) (.c (.bool false)))⟩,
      ⟨(some 38), none, .f (.mv (.t 37))⟩,
      ⟨(some 39), (some (38, true)), .f (.fadr 0 (.t 8))⟩,
      ⟨(some 40), (some (38, true)), .f (.ld (.t 39))⟩,
      ⟨(some 41), (some (38, true)), .f (.fadr 0 (.t 3))⟩,
      ⟨(some 42), (some (38, true)), .f (.ld (.t 41))⟩,
      ⟨(some 43), (some (38, true)), .f (.bin .leq (.t 40) (.t 42))⟩,
      ⟨(some 44), none, .f (.pick (.t 38) (.t 43) (.c (.bool false)))⟩,
      ⟨(some 45), none, .f (.mv (.t 44))⟩,
      ⟨(some 46), (some (45, true)), .f (.fadr 1 (.t 3))⟩,
      ⟨(some 47), (some (45, true)), .f (.ld (.t 46))⟩,
      ⟨(some 48), (some (45, true)), .f (.fadr 1 (.t 8))⟩,
      ⟨(some 49), (some (45, true)), .f (.ld (.t 48))⟩,
      ⟨(some 50), (some (45, true)), .f (.bin .leq (.t 47) (.t 49))⟩,
      ⟨(some 51), none, .f (.pick (.t 45) (.t 50) (.c (.bool false)))⟩])
    (.cond (.t 51)
     (.seq (.reg [
       ⟨(some 6), none, .f (.mv (.c (.bool true)))⟩])
     .ret)
     .skip))))
   (.reg [
     ⟨(some 13), none, .f (.mv (.t 7))⟩,
     ⟨(some 14), none, .f (.bin .add (.t 13) (.c (.int .i64 1)))⟩,
     ⟨(some 7), none, .f (.mv (.t 14))⟩]))))))
 (.seq (.reg [
   ⟨(some 6), none, .f (.mv (.c (.bool false)))⟩])
 .ret)))
theorem ok82 : fnComp Try.prog 82 = some (52, c82, [(.mv (.t 6))]) := by kernel_rfl

/-- loop.example/g00003/laws.toStretch -/
def c83 : CC :=
 (.seq (.reg [
   ⟨(some 1), none, .x (.box 129 2 (.t 0))⟩,
   ⟨(some 2), none, .x (.zero 127 2 [(.int .i64 0), (.int .i64 0)])⟩])
 (.seq (.reg [
   ⟨(some 3), none, .x (.zero 127 2 [(.int .i64 0), (.int .i64 0)])⟩])
 (.seq (.reg [
   ⟨(some 4), none, .f (.fadr 0 (.t 1))⟩,
   ⟨(some 5), none, .f (.ld (.t 4))⟩,
   ⟨(some 6), none, .f (.fadr 0 (.t 3))⟩,
   ⟨none, none, .x (.st 1 (.t 6) (.t 5))⟩])
 (.seq (.reg [
   ⟨(some 7), none, .f (.fadr 1 (.t 1))⟩,
   ⟨(some 8), none, .f (.ld (.t 7))⟩,
   ⟨(some 9), none, .f (.fadr 1 (.t 3))⟩,
   ⟨none, none, .x (.st 1 (.t 9) (.t 8))⟩])
 (.seq (.reg [
   ⟨(some 10), none, .f (.ldA 2 (.t 3))⟩,
   ⟨none, none, .x (.st 2 (.t 2) (.t 10))⟩])
 .ret)))))
theorem ok83 : fnComp Try.prog 83 = some (11, c83, [(.ldA 2 (.t 2))]) := by kernel_rfl

/-- (*loop.example/g00003/impl.board).ack -/
def c84 : CC :=
 (.seq (.reg [
   ⟨(some 6), none, .x (.zero 55 3 [(.int .i64 0), (.int .i64 0), (.int .i64 0)])⟩])
 (.seq (.reg [
   ⟨(some 14), none, .f (.mv (.t 1))⟩,
   ⟨(some 15), none, .f (.mv (.t 0))⟩,
   ⟨(some 16), none, .f (.nck (.t 15))⟩,
   ⟨(some 17), none, .f (.fadr 0 (.t 16))⟩,
   ⟨(some 18), none, .f (.fadr 0 (.t 17))⟩,
   ⟨(some 19), none, .f (.ld (.t 18))⟩,
   ⟨(some 20), none, .f (.bin .sub (.t 14) (.t 19))⟩,
   ⟨(some 21), none, .f (.build [(.int .i64 0), (.int .i64 0), (.int .i64 0)] [(0, 1, (.t 20)), (2, 1, (.c (.int .i64 (-1))))])⟩,
   ⟨(some 7), none, .x (.zero 55 3 [(.int .i64 0), (.int .i64 0), (.int .i64 0)])⟩,
   ⟨none, none, .x (.st 3 (.t 7) (.t 21))⟩])
 (.seq (.reg [
   ⟨(some 22), none, .f (.mv (.t 0))⟩,
   ⟨(some 23), none, .f (.mv (.t 1))⟩,
   ⟨(some 24), none, .f (.nck (.t 22))⟩,
   ⟨(some 25), none, .f (.fadr 0 (.t 24))⟩,
   ⟨(some 26), none, .f (.fadr 0 (.t 25))⟩,
   ⟨none, none, .x (.st 1 (.t 26) (.t 23))⟩])
 (.seq (.reg [
   ⟨(some 8), none, .f (.mv (.c (.int .i64 0)))⟩])
 (.seq (.block 0 (.loop (.seq (.seq (.reg [
     ⟨(some 27), none, .f (.mv (.t 8))⟩,
     ⟨(some 28), none, .f (.mv (.t 0))⟩,
     ⟨(some 29), none, .f (.nck (.t 28))⟩,
     ⟨(some 30), none, .f (.fadr 0 (.t 29))⟩,
     ⟨(some 31), none, .f (.fadr 2 (.t 30))⟩,
     ⟨(some 32), none, .f (.ld (.t 31))⟩,
     ⟨(some 33), none, .f (.len (.t 32))⟩,
     ⟨(some 34), none, .f (.bin .lss (.t 27) (.t 33))⟩,
     ⟨(some 35), none, .f (.mv (.t 34))⟩,
     ⟨(some 36), (some (35, true)), .f (.mv (.t 0))⟩,
     ⟨(some 37), (some (35, true)), .f (.nck (.t 36))⟩,
     ⟨(some 38), (some (35, true)), .f (.fadr 0 (.t 37))⟩,
     ⟨(some 39), (some (35, true)), .f (.fadr 2 (.t 38))⟩,
     ⟨(some 40), (some (35, true)), .f (.ld (.t 39))⟩,
     ⟨(some 41), (some (35, true)), .f (.mv (.t 8))⟩,
     ⟨(some 42), (some (35, true)), .f (.iadr 6 (.t 40) (.t 41))⟩,
     ⟨(some 43), (some (35, true)), .f (.fadr 1 (.t 42))⟩,
     ⟨(some 44), (some (35, true)), .f (.ld (.t 43))⟩,
     ⟨(some 45), (some (35, true)), .f (.mv (.t 1))⟩,
     ⟨(some 46), (some (35, true)), .f (.bin .leq (.t 44) (.t 45))⟩,
     ⟨(some 47), none, .f (.pick (.t 35) (.t 46) (.c (.bool false)))⟩])
   (.cond (.t 47)
    .skip
    (.exit 0)))
   (.block 1 (.seq (.seq (.reg [
      ⟨(some 48), none, .f (.mv (.t 0))⟩,
      ⟨(some 49), none, .f (.nck (.t 48))⟩,
      ⟨(some 50), none, .f (.fadr 0 (.t 49))⟩,
      ⟨(some 51), none, .f (.fadr 2 (.t 50))⟩,
      ⟨(some 52), none, .f (.ld (.t 51))⟩,
      ⟨(some 53), none, .f (.mv (.t 8))⟩,
      ⟨(some 54), none, .f (.iadr 6 (.t 52) (.t 53))⟩,
      ⟨(some 55), none, .f (.ldA 6 (.t 54))⟩,
      ⟨(some 9), none, .x (.zero 113 6 [(.int .i64 0), (.int .i64 0), (.int .i64 0), (.int .i64 0), (.bool false), (.bool false)])⟩,
      ⟨none, none, .x (.st 6 (.t 9) (.t 55))⟩])
    (.seq (.reg [
      ⟨(some 56), none, .f (.fadr 3 (.t 9))⟩,
      ⟨(some 57), none, .f (.ld (.t 56))⟩,
      ⟨(some 58), none, .f (.bin .eql (.t 57) (.c (.int .i64 1)))⟩,
      ⟨(some 59), none, .f (.mv (.t 58))⟩,
      ⟨(some 60), (some (59, true)), .f (.fadr 4 (.t 9))⟩,
      ⟨(some 61), (some (59, true)), .f (.ld (.t 60))⟩,
      ⟨(some 62), (some (59, true)), .f (.un .not (.t 61))⟩,
      ⟨(some 63), none, .f (.pick (.t 59) (.t 62) (.c (.bool false)))⟩])
    (.cond (.t 63)
     (.reg [
       ⟨(some 64), none, .f (.fadr 2 (.t 9))⟩,
       ⟨(some 65), none, .f (.ld (.t 64))⟩,
       ⟨(some 66), none, .f (.fadr 2 (.t 7))⟩,
       ⟨none, none, .x (.st 1 (.t 66) (.t 65))⟩])
     .skip)))
    (.reg [
      ⟨(some 67), none, .f (.mv (.t 8))⟩,
      ⟨(some 68), none, .f (.bin .add (.t 67) (.c (.int .i64 1)))⟩,
      ⟨(some 8), none, .f (.mv (.t 68))⟩]))))))
 (.seq (.reg [
   ⟨(some 69), none, .f (.mv (.t 0))⟩,
   ⟨(some 70), none, .f (.mv (.t 0))⟩,
   ⟨(some 71), none, .f (.nck (.t 70))⟩,
   ⟨(some 72), none, .f (.fadr 0 (.t 71))⟩,
   ⟨(some 73), none, .f (.fadr 2 (.t 72))⟩,
   ⟨(some 74), none, .f (.ld (.t 73))⟩,
   ⟨(some 75), none, .f (.mv (.t 8))⟩,
   ⟨(some 76), none, .f (.slc 6 (.t 74) (some (.t 75)) none none)⟩,
   ⟨(some 77), none, .x (.call 98 [(.t 76)])⟩,
   ⟨(some 78), none, .f (.nck (.t 69))⟩,
   ⟨(some 79), none, .f (.fadr 0 (.t 78))⟩,
   ⟨(some 80), none, .f (.fadr 2 (.t 79))⟩,
   ⟨none, none, .x (.st 1 (.t 80) (.t 77))⟩])
 (.seq (.seq (.reg [
   ⟨(some 81), none, .f (.mv (.t 0))⟩,
   ⟨(some 82), none, .f (.nck (.t 81))⟩,
   ⟨(some 83), none, .f (.fadr 0 (.t 82))⟩,
   ⟨(some 84), none, .f (.fadr 2 (.t 83))⟩,
   ⟨(some 85), none, .f (.ld (.t 84))⟩,
   ⟨(some 86), none, .f (.len (.t 85))⟩,
   ⟨(some 87), none, .f (.bin .gtr (.t 86) (.c (.int .i64 0)))⟩])
 (.cond (.t 87)
  (.reg [
    ⟨(some 88), none, .f (.mv (.t 0))⟩,
    ⟨(some 89), none, .f (.nck (.t 88))⟩,
    ⟨(some 90), none, .f (.fadr 0 (.t 89))⟩,
    ⟨(some 91), none, .f (.fadr 2 (.t 90))⟩,
    ⟨(some 92), none, .f (.ld (.t 91))⟩,
    ⟨(some 93), none, .f (.mv (.t 1))⟩,
    ⟨(some 94), none, .f (.iadr 6 (.t 92) (.c (.int .i64 0)))⟩,
    ⟨(some 95), none, .f (.fadr 0 (.t 94))⟩,
    ⟨none, none, .x (.st 1 (.t 95) (.t 93))⟩])
  .skip))
 (.seq (.seq (.reg [
   ⟨(some 96), none, .f (.mv (.t 0))⟩,
   ⟨(some 97), none, .f (.nck (.t 96))⟩,
   ⟨(some 98), none, .f (.fadr 0 (.t 97))⟩,
   ⟨(some 99), none, .f (.fadr 2 (.t 98))⟩,
   ⟨(some 100), none, .f (.ld (.t 99))⟩,
   ⟨(some 101), none, .f (.len (.t 100))⟩,
   ⟨(some 102), none, .f (.mv (.c (.int .i64 0)))⟩])
 (.block 2 (.loop (.seq (.reg [
     ⟨(some 103), none, .f (.bin .lss (.t 102) (.t 101))⟩])
   (.seq (.cond (.t 103)
    .skip
    (.exit 2))
   (.seq (.block 3 (.seq (.reg [
      ⟨(some 104), none, .f (.mv (.t 102))⟩,
      ⟨(some 10), none, .f (.mv (.t 104))⟩])
    (.seq (.reg [
      ⟨(some 105), none, .f (.mv (.t 0))⟩,
      ⟨(some 106), none, .f (.nck (.t 105))⟩,
      ⟨(some 107), none, .f (.fadr 0 (.t 106))⟩,
      ⟨(some 108), none, .f (.fadr 2 (.t 107))⟩,
      ⟨(some 109), none, .f (.ld (.t 108))⟩,
      ⟨(some 110), none, .f (.mv (.t 10))⟩,
      ⟨(some 111), none, .f (.iadr 6 (.t 109) (.t 110))⟩,
      ⟨(some 11), none, .f (.mv (.t 111))⟩])
    (.seq (.reg [
      ⟨(some 112), none, .f (.mv (.t 2))⟩,
      ⟨(some 113), none, .f (.len (.t 112))⟩,
      ⟨(some 114), none, .f (.mv (.c (.int .i64 0)))⟩])
    (.block 4 (.loop (.seq (.reg [
        ⟨(some 115), none, .f (.bin .lss (.t 114) (.t 113))⟩])
      (.seq (.cond (.t 115)
       .skip
       (.exit 4))
      (.seq (.block 5 (.seq (.reg [
         ⟨(some 116), none, .f (.iadr 2 (.t 112) (.t 114))⟩,
         ⟨(some 117), none, .f (.ldA 2 (.t 116))⟩,
         ⟨(some 13), none, .x (.zero 127 2 [(.int .i64 0), (.int .i64 0)])⟩,
         ⟨none, none, .x (.st 2 (.t 13) (.t 117))⟩])
       (.seq (.dreg [
         ⟨(some 118), none, .f (.mv (.t 11))⟩,
         ⟨(some 119), none, .f (.nck (.t 118))⟩,
         ⟨(some 120), none, .f (.fadr 4 (.t 119))⟩,
         ⟨(some 121), none, .f (.ld (.t 120))⟩,
         ⟨(some 122), none, .f (.un .not (.t 121))⟩,
         ⟨(some 123), none, .f (.mv (.t 122))⟩,
         ⟨(some 124), (some (123, true)), .f (.fadr 0 (.t 13))⟩,
         ⟨(some 125), (some (123, true)), .f (.ld (.t 124))⟩,
         ⟨(some 126), (some (123, true)), .f (.mv (.t 1))⟩,
         ⟨(some 127), (some (123, true)), .f (.bin .geq (.t 125) (.t 126))⟩,
         ⟨(some 128), none, .f (.pick (.t 123) (.t 127) (.c (.bool false)))⟩,
         ⟨(some 129), none, .f (.mv (.t 128))⟩,
         ⟨(some 130), (some (129, true)), .f (.fadr 0 (.t 13))⟩,
         ⟨(some 131), (some (129, true)), .f (.ld (.t 130))⟩,
         ⟨(some 132), (some (129, true)), .f (.fadr 1 (.t 13))⟩,
         ⟨(some 133), (some (129, true)), .f (.ld (.t 132))⟩,
         ⟨(some 134), (some (129, true)), .f (.bin .lss (.t 131) (.t 133))⟩,
         ⟨(some 135), none, .f (.pick (.t 129) (.t 134) (.c (.bool false)))⟩,
         ⟨(some 136), none, .f (.mv (.t 135))⟩,
         ⟨(some 137), (some (136, true)), .f (.fadr 1 (.t 13))⟩,
         ⟨(some 138), (some (136, true)), .f (.ld (.t 137))⟩,
         ⟨(some 139), (some (136, true)), .f (.mv (.t 0))⟩,
         ⟨(some 140), (some (136, true)), .f (.nck (.t 139))⟩,
         ⟨(some 141), (some (136, true)), .f (.fadr 0 (.t 140))⟩,
         ⟨(some 142), (some (136, true)), .f (.fadr 1 (.t 141))⟩,
         ⟨(some 143), (some (136, true)), .f (.ld (.t 142))⟩,
         ⟨(some 144), (some (136, true)), .f (.bin .leq (.t 138) (.t 143))⟩,
         ⟨(some 145), none, .f (.pick (.t 136) (.t 144) (.c (.bool false)))⟩,
         ⟨(some 146), none, .f (.mv (.t 145))⟩,
         ⟨(some 147), (some (146, true)), .f (.mv (.t 11))⟩,
         ⟨(some 148), (some (146, true)), .f (.nck (.t 147))⟩,
         ⟨(some 149), (some (146, true)), .f (.fadr 0 (.t 148))⟩,
         ⟨(some 150), (some (146, true)), .f (.ld (.t 149))⟩,
         ⟨(some 151), (some (146, true)), .f (.fadr 0 (.t 13))⟩,
         ⟨(some 152), (some (146, true)), .f (.ld (.t 151))⟩,
         ⟨(some 153), (some (146, true)), .f (.bin .geq (.t 150) (.t 152))⟩,
         ⟨(some 154), none, .f (.pick (.t 146) (.t 153) (.c (.bool false)))⟩,
         ⟨(some 155), none, .f (.mv (.t 154))⟩,
         ⟨(some 156), (some (155, true)), .f (.mv (.t 11))⟩,
         ⟨(some 157), (some (155, true)), .f (.nck (.t 156))⟩,
         ⟨(some 158), (some (155, true)), .f (.fadr 1 (.t 157))⟩,
         ⟨(some 159), (some (155, true)), .f (.ld (.t 158))⟩,
         ⟨(some 160), (some (155, true)), .f (.fadr 1 (.t 13))⟩,
         ⟨(some 161), (some (155, true)), .f (.ld (.t 160))⟩,
         ⟨(some 162), (some (155, true)), .f (.bin .leq (.t 159) (.t 161))⟩,
         ⟨(some 163), none, .f (.pick (.t 155) (.t 162) (.c (.bool false)))⟩]
         [false, false, false, false, false, false, false, false, false, false, false, false, false, false, false, false, false, false, false, false, false, false, false, false, false, false, false, false, false, false, false, false, false, false, false, false, false, false, false, false, false, false, false, false, false, false] [[], [0], [1, 0], [2, 1, 0], [3, 2, 1, 0], [4, 3, 2, 1, 0], [5, 4, 3, 2, 1, 0], [6, 5, 4, 3, 2, 1, 0], [5, 4, 3, 2, 1, 0], [7, 6, 5, 4, 3, 2, 1, 0, 8], [5, 4, 3, 2, 1, 0, 9, 7, 6, 8], [10, 5, 4, 3, 2, 1, 0, 9, 7, 6, 8], [11, 10, 5, 4, 3, 2, 1, 0, 9, 7, 6, 8], [12, 11, 10, 5, 4, 3, 2, 1, 0, 9, 7, 6, 8], [11, 10, 5, 4, 3, 2, 1, 0, 9, 7, 6, 8], [14, 11, 10, 5, 4, 3, 2, 1, 0, 9, 7, 6, 8], [13, 12, 11, 10, 5, 4, 3, 2, 1, 0, 9, 7, 6, 8, 15, 14], [11, 10, 5, 4, 3, 2, 1, 0, 9, 7, 6, 8, 16, 13, 12, 15, 14], [17, 11, 10, 5, 4, 3, 2, 1, 0, 9, 7, 6, 8, 16, 13, 12, 15, 14], [18, 17, 11, 10, 5, 4, 3, 2, 1, 0, 9, 7, 6, 8, 16, 13, 12, 15, 14], [19, 18, 17, 11, 10, 5, 4, 3, 2, 1, 0, 9, 7, 6, 8, 16, 13, 12, 15, 14], [18, 17, 11, 10, 5, 4, 3, 2, 1, 0, 9, 7, 6, 8, 16, 13, 12, 15, 14], [21, 18, 17, 11, 10, 5, 4, 3, 2, 1, 0, 9, 7, 6, 8, 16, 13, 12, 15, 14], [22, 21, 18, 17, 11, 10, 5, 4, 3, 2, 1, 0, 9, 7, 6, 8, 16, 13, 12, 15, 14], [23, 22, 21, 18, 17, 11, 10, 5, 4, 3, 2, 1, 0, 9, 7, 6, 8, 16, 13, 12, 15, 14], [24, 23, 22, 21, 18, 17, 11, 10, 5, 4, 3, 2, 1, 0, 9, 7, 6, 8, 16, 13, 12, 15, 14], [20, 19, 18, 17, 11, 10, 5, 4, 3, 2, 1, 0, 9, 7, 6, 8, 16, 13, 12, 15, 14, 25, 24, 23, 22, 21], [18, 17, 11, 10, 5, 4, 3, 2, 1, 0, 9, 7, 6, 8, 16, 13, 12, 15, 14, 26, 20, 19, 25, 24, 23, 22, 21], [27, 18, 17, 11, 10, 5, 4, 3, 2, 1, 0, 9, 7, 6, 8, 16, 13, 12, 15, 14, 26, 20, 19, 25, 24, 23, 22, 21], [28, 27, 18, 17, 11, 10, 5, 4, 3, 2, 1, 0, 9, 7, 6, 8, 16, 13, 12, 15, 14, 26, 20, 19, 25, 24, 23, 22, 21], [29, 28, 27, 18, 17, 11, 10, 5, 4, 3, 2, 1, 0, 9, 7, 6, 8, 16, 13, 12, 15, 14, 26, 20, 19, 25, 24, 23, 22, 21], [30, 29, 28, 27, 18, 17, 11, 10, 5, 4, 3, 2, 1, 0, 9, 7, 6, 8, 16, 13, 12, 15, 14, 26, 20, 19, 25, 24, 23, 22, 21], [31, 30, 29, 28, 27, 18, 17, 11, 10, 5, 4, 3, 2, 1, 0, 9, 7, 6, 8, 16, 13, 12, 15, 14, 26, 20, 19, 25, 24, 23, 22, 21], [28, 27, 18, 17, 11, 10, 5, 4, 3, 2, 1, 0, 9, 7, 6, 8, 16, 13, 12, 15, 14, 26, 20, 19, 25, 24, 23, 22, 21], [33, 28, 27, 18, 17, 11, 10, 5, 4, 3, 2, 1, 0, 9, 7, 6, 8, 16, 13, 12, 15, 14, 26, 20, 19, 25, 24, 23, 22, 21], [32, 31, 30, 29, 28, 27, 18, 17, 11, 10, 5, 4, 3, 2, 1, 0, 9, 7, 6, 8, 16, 13, 12, 15, 14, 26, 20, 19, 25, 24, 23, 22, 21, 34, 33], [28, 27, 18, 17, 11, 10, 5, 4, 3, 2, 1, 0, 9, 7, 6, 8, 16, 13, 12, 15, 14, 26, 20, 19, 25, 24, 23, 22, 21, 35, 32, 31, 30, 29, 34, 33], [36, 28, 27, 18, 17, 11, 10, 5, 4, 3, 2, 1, 0, 9, 7, 6, 8, 16, 13, 12, 15, 14, 26, 20, 19, 25, 24, 23, 22, 21, 35, 32, 31, 30, 29, 34, 33], [37, 36, 28, 27, 18, 17, 11, 10, 5, 4, 3, 2, 1, 0, 9, 7, 6, 8, 16, 13, 12, 15, 14, 26, 20, 19, 25, 24, 23, 22, 21, 35, 32, 31, 30, 29, 34, 33], [38, 37, 36, 28, 27, 18, 17, 11, 10, 5, 4, 3, 2, 1, 0, 9, 7, 6, 8, 16, 13, 12, 15, 14, 26, 20, 19, 25, 24, 23, 22, 21, 35, 32, 31, 30, 29, 34, 33], [39, 38, 37, 36, 28, 27, 18, 17, 11, 10, 5, 4, 3, 2, 1, 0, 9, 7, 6, 8, 16, 13, 12, 15, 14, 26, 20, 19, 25, 24, 23, 22, 21, 35, 32, 31, 30, 29, 34, 33], [40, 39, 38, 37, 36, 28, 27, 18, 17, 11, 10, 5, 4, 3, 2, 1, 0, 9, 7, 6, 8, 16, 13, 12, 15, 14, 26, 20, 19, 25, 24, 23, 22, 21, 35, 32, 31, 30, 29, 34, 33], [37, 36, 28, 27, 18, 17, 11, 10, 5, 4, 3, 2, 1, 0, 9, 7, 6, 8, 16, 13, 12, 15, 14, 26, 20, 19, 25, 24, 23, 22, 21, 35, 32, 31, 30, 29, 34, 33], [42, 37, 36, 28, 27, 18, 17, 11, 10, 5, 4, 3, 2, 1, 0, 9, 7, 6, 8, 16, 13, 12, 15, 14, 26, 20, 19, 25, 24, 23, 22, 21, 35, 32, 31, 30, 29, 34, 33], [41, 40, 39, 38, 37, 36, 28, 27, 18, 17, 11, 10, 5, 4, 3, 2, 1, 0, 9, 7, 6, 8, 16, 13, 12, 15, 14, 26, 20, 19, 25, 24, 23, 22, 21, 35, 32, 31, 30, 29, 34, 33, 43, 42], [37, 36, 28, 27, 18, 17, 11, 10, 5, 4, 3, 2, 1, 0, 9, 7, 6, 8, 16, 13, 12, 15, 14, 26, 20, 19, 25, 24, 23, 22, 21, 35, 32, 31, 30, 29, 34, 33, 44, 41, 40, 39, 38, 43, 42]] [0, 1, 2, 3, 4, 5, 6, 7, 8, 9, 10, 11, 12, 13, 14, 15, 16, 17, 18, 19, 20, 21, 22, 23, 24, 25, 26, 27, 28, 29, 30, 31, 32, 33, 34, 35, 36, 37, 38, 39, 40, 41, 42, 43, 44, 45])
       (.cond (.t 163)
        (.seq (.reg [
          ⟨(some 164), none, .f (.mv (.t 11))⟩,
          ⟨(some 165), none, .f (.mv (.t 11))⟩,
          ⟨(some 166), none, .f (.nck (.t 164))⟩,
          ⟨(some 167), none, .f (.fadr 4 (.t 166))⟩,
          ⟨none, none, .x (.st 1 (.t 167) (.c (.bool true)))⟩,
          ⟨(some 168), none, .f (.nck (.t 165))⟩,
          ⟨(some 169), none, .f (.fadr 5 (.t 168))⟩,
          ⟨none, none, .x (.st 1 (.t 169) (.c (.bool false)))⟩])
        (.dreg [
          ⟨(some 170), none, .f (.fadr 1 (.t 7))⟩,
          ⟨(some 171), none, .f (.ld (.t 170))⟩,
          ⟨(some 172), none, .f (.mv (.t 11))⟩,
          ⟨(some 173), none, .f (.nck (.t 172))⟩,
          ⟨(some 174), none, .f (.fadr 1 (.t 173))⟩,
          ⟨(some 175), none, .f (.ld (.t 174))⟩,
          ⟨(some 176), none, .f (.mv (.t 11))⟩,
          ⟨(some 177), none, .f (.nck (.t 176))⟩,
          ⟨(some 178), none, .f (.fadr 0 (.t 177))⟩,
          ⟨(some 179), none, .f (.ld (.t 178))⟩,
          ⟨(some 180), none, .f (.bin .sub (.t 175) (.t 179))⟩,
          ⟨(some 181), none, .f (.bin .add (.t 171) (.t 180))⟩,
          ⟨(some 182), none, .f (.fadr 1 (.t 7))⟩,
          ⟨none, none, .x (.st 1 (.t 182) (.t 181))⟩]
          [false, false, false, false, false, false, false, false, false, false, false, false, false, true] [[], [0], [], [2], [3, 2], [4, 3, 2], [], [6], [7, 6], [8, 7, 6], [5, 4, 3, 2, 9, 8, 7, 6], [1, 0, 10, 5, 4, 3, 2, 9, 8, 7, 6], [0, 1, 2, 3, 4, 5, 6, 7, 8, 9, 10, 11], [12, 0, 1, 2, 3, 4, 5, 6, 7, 8, 9, 10, 11]] [0, 1, 2, 3, 4, 5, 6, 7, 8, 9, 10, 11, 12, 13]))
        .skip))))
      (.reg [
        ⟨(some 183), none, .f (.bin .add (.t 114) (.c (.int .i64 1)))⟩,
        ⟨(some 114), none, .f (.mv (.t 183))⟩]))))))))))
   (.reg [
     ⟨(some 184), none, .f (.bin .add (.t 102) (.c (.int .i64 1)))⟩,
     ⟨(some 102), none, .f (.mv (.t 184))⟩])))))))
 (.seq (.reg [
   ⟨(some 185), none, .f (.ldA 3 (.t 7))⟩,
   ⟨none, none, .x (.st 3 (.t 6) (.t 185))⟩])
 .ret)))))))))
theorem ok84 : fnComp Try.prog 84 = some (186, c84, [(.ldA 3 (.t 6))]) := by kernel_rfl

/-- loop.example/g00003/laws.eqStretch -/
def c85 : CC :=
 (.seq (.reg [
   ⟨(some 2), none, .x (.box 127 2 (.t 0))⟩,
   ⟨(some 3), none, .x (.box 127 2 (.t 1))⟩,
   ⟨(some 4), none, .f (.mv (.c (.bool false)))⟩])
 (.seq (.seq (.reg [
   ⟨(some 5), none, .f (.fadr 0 (.t 2))⟩,
   ⟨(some 6), none, .f (.ld (.t 5))⟩,
   ⟨(some 7), none, .f (.fadr 0 (.t 3))⟩,
   ⟨(some 8), none, .f (.ld (.t 7))⟩,
   ⟨(some 9), none, .f (.bin .neq (.t 6) (.t 8))⟩])
 (.cond (.t 9)
  (.seq (.reg [
    ⟨(some 4), none, .f (.mv (.c (.bool false)))⟩])
  .ret)
  .skip))
 (.seq (.seq (.reg [
   ⟨(some 10), none, .f (.fadr 1 (.t 2))⟩,
   ⟨(some 11), none, .f (.ld (.t 10))⟩,
   ⟨(some 12), none, .f (.fadr 1 (.t 3))⟩,
   ⟨(some 13), none, .f (.ld (.t 12))⟩,
   ⟨(some 14), none, .f (.bin .neq (.t 11) (.t 13))⟩])
 (.cond (.t 14)
  (.seq (.reg [
    ⟨(some 4), none, .f (.mv (.c (.bool false)))⟩])
  .ret)
  .skip))
 (.seq (.reg [
   ⟨(some 4), none, .f (.mv (.c (.bool true)))⟩])
 .ret))))
theorem ok85 : fnComp Try.prog 85 = some (15, c85, [(.mv (.t 4))]) := by kernel_rfl

end Go.Proofs.Ytecljenjlncfhaa

namespace Go.Proofs.Ytecljenjlncfhaa
open Go Go.IW
def t_Piece : Ty := .cat (.int .i64) (.cat (.int .i64) (.cat (.int .i64) (.cat (.int .i64) (.cat .bool (.cat .bool (.nil))))))
def t_Board : Ty := .cat (.int .i64) (.cat (.int .i64) (.cat (.slice 113 t_Piece) (.nil)))
def t_BoardNews : Ty := .cat (.int .i64) (.cat (.int .i64) (.cat (.int .i64) (.nil)))
def t_Stretch : Ty := .cat (.int .i64) (.cat (.int .i64) (.nil))
set_option maxRecDepth 20000 in
theorem eqPiece_f : EqC Try.prog 97 t_Piece := eqSt_calls (N := 35) (a1 := 113) (a2 := 113) (sz := 6) (fs := [(.int .i64, none), (.int .i64, none), (.int .i64, none), (.int .i64, none), (.bool, none), (.bool, none)]) (by kernel_rfl) (by decide) rfl ⟨rfl, ⟨rfl, ⟨rfl, ⟨rfl, ⟨rfl, ⟨rfl, trivial⟩⟩⟩⟩⟩⟩
set_option maxRecDepth 20000 in
theorem eqPieceS_f : EqC Try.prog 71 (.slice 113 t_Piece) := eqSl_calls (g := 97) (by kernel_rfl) eqPiece_f
set_option maxRecDepth 20000 in
theorem eqBoard_f : EqC Try.prog 28 t_Board := eqSt_calls (N := 21) (a1 := 40) (a2 := 40) (sz := 3) (fs := [(.int .i64, none), (.int .i64, none), (.slice 113 t_Piece, some 71)]) (by kernel_rfl) (by decide) rfl ⟨rfl, ⟨rfl, ⟨eqPieceS_f, trivial⟩⟩⟩
set_option maxRecDepth 20000 in
theorem eqBoardNews_f : EqC Try.prog 41 t_BoardNews := eqSt_calls (N := 20) (a1 := 55) (a2 := 55) (sz := 3) (fs := [(.int .i64, none), (.int .i64, none), (.int .i64, none)]) (by kernel_rfl) (by decide) rfl ⟨rfl, ⟨rfl, ⟨rfl, trivial⟩⟩⟩
set_option maxRecDepth 20000 in
theorem eqByteS_f : EqC Try.prog 16 (.slice 5 (.int .u8)) := eqSlI_calls (by kernel_rfl) rfl
set_option maxRecDepth 20000 in
theorem eqStretch_f : EqC Try.prog 85 t_Stretch := eqSt_calls (N := 15) (a1 := 127) (a2 := 127) (sz := 2) (fs := [(.int .i64, none), (.int .i64, none)]) (by kernel_rfl) (by decide) rfl ⟨rfl, ⟨rfl, trivial⟩⟩
set_option maxRecDepth 20000 in
theorem eqStretchS_f : EqC Try.prog 42 (.slice 127 t_Stretch) := eqSl_calls (g := 85) (by kernel_rfl) eqStretch_f
set_option maxRecDepth 20000 in
theorem heldPieceS_f : HdC Try.prog 76 (.slice 113 t_Piece) := held_calls (N := 71) (q := []) (by kernel_rfl) (by decide) rfl ⟨trivial, ⟨trivial, ⟨trivial, ⟨trivial, ⟨trivial, ⟨trivial, trivial⟩⟩⟩⟩⟩⟩
set_option maxRecDepth 20000 in
theorem heldBoard_f : HdC Try.prog 32 t_Board := heldSt_calls (N := 12) (ein := 40) (sz := 3) (fs := [(.int .i64, none), (.int .i64, none), (.slice 113 t_Piece, some 76)]) (by kernel_rfl) (by decide) rfl ⟨rfl, ⟨rfl, ⟨heldPieceS_f, trivial⟩⟩⟩
set_option maxRecDepth 20000 in
theorem heldByteS_f : HdC Try.prog 20 (.slice 5 (.int .u8)) := held_calls (N := 22) (q := []) (by kernel_rfl) (by decide) rfl trivial
set_option maxRecDepth 20000 in
theorem markPieceS_f : MkC Try.prog 75 (.slice 113 t_Piece) := mark_calls (N := 59) (q := []) (by kernel_rfl) (by decide) rfl ⟨trivial, ⟨trivial, ⟨trivial, ⟨trivial, ⟨trivial, ⟨trivial, trivial⟩⟩⟩⟩⟩⟩
set_option maxRecDepth 20000 in
theorem markBoard_f : MkC Try.prog 31 t_Board := markSt_calls (N := 10) (ein := 40) (sz := 3) (fs := [(.int .i64, none), (.int .i64, none), (.slice 113 t_Piece, some 75)]) (by kernel_rfl) (by decide) rfl ⟨rfl, ⟨rfl, ⟨markPieceS_f, trivial⟩⟩⟩
set_option maxRecDepth 20000 in
theorem markByteS_f : MkC Try.prog 19 (.slice 5 (.int .u8)) := mark_calls (N := 20) (q := []) (by kernel_rfl) (by decide) rfl trivial
set_option maxRecDepth 20000 in
theorem markStretchS_f : MkC Try.prog 43 (.slice 127 t_Stretch) := mark_calls (N := 27) (q := []) (by kernel_rfl) (by decide) rfl ⟨trivial, ⟨trivial, trivial⟩⟩
set_option maxRecDepth 20000 in
theorem szPieceS_f : SzC Try.prog 66 (.slice 113 t_Piece) := szSlL_calls (by kernel_rfl) (by exact flat_tot (by decide))
set_option maxRecDepth 20000 in
theorem szBoard_f : SzC Try.prog 24 t_Board := szSt_calls (N := 12) (ein := 35) (sz := 3) (fs := [(.int .i64, .no), (.int .i64, .no), (.slice 113 t_Piece, .sub 66)]) (by kernel_rfl) (by decide) rfl ⟨(by exact flat_tot (by decide)), ⟨(by exact flat_tot (by decide)), ⟨szPieceS_f, trivial⟩⟩⟩
set_option maxRecDepth 20000 in
theorem szStretchS_f : SzC Try.prog 37 (.slice 127 t_Stretch) := szSlL_calls (by kernel_rfl) (by exact flat_tot (by decide))
set_option maxRecDepth 20000 in
theorem toPiece_f : ToC Try.prog 96 t_Piece := toSt_calls (N := 23) (ein := 145) (eout := 113) (sz := 6) (zs := [.int .i64 0, .int .i64 0, .int .i64 0, .int .i64 0, .bool false, .bool false]) (fs := [(.int .i64, none), (.int .i64, none), (.int .i64, none), (.int .i64, none), (.bool, none), (.bool, none)]) (by kernel_rfl) (by decide) rfl rfl rfl ⟨rfl, ⟨rfl, ⟨rfl, ⟨rfl, ⟨rfl, ⟨rfl, trivial⟩⟩⟩⟩⟩⟩
set_option maxRecDepth 20000 in
theorem toPieceS_f : ToC Try.prog 68 (.slice 113 t_Piece) := toSl_calls (g := 96) (b := 40) (z := [.int .i64 0, .int .i64 0, .int .i64 0, .int .i64 0, .bool false, .bool false]) (by kernel_rfl) rfl (by decide) toPiece_f
set_option maxRecDepth 20000 in
theorem toBoard_f : ToC Try.prog 26 t_Board := toSt_calls (N := 15) (ein := 35) (eout := 40) (sz := 3) (zs := [.int .i64 0, .int .i64 0, .nilslice]) (fs := [(.int .i64, none), (.int .i64, none), (.slice 113 t_Piece, some 68)]) (by kernel_rfl) (by decide) rfl rfl rfl ⟨rfl, ⟨rfl, ⟨toPieceS_f, trivial⟩⟩⟩
set_option maxRecDepth 20000 in
theorem toByteS_f : ToC Try.prog 14 (.slice 5 (.int .u8)) := toSlI_calls (b := 1) (z := [.int .u8 0]) (by kernel_rfl) rfl (by decide) rfl
set_option maxRecDepth 20000 in
theorem toStretch_f : ToC Try.prog 83 t_Stretch := toSt_calls (N := 11) (ein := 129) (eout := 127) (sz := 2) (zs := [.int .i64 0, .int .i64 0]) (fs := [(.int .i64, none), (.int .i64, none)]) (by kernel_rfl) (by decide) rfl rfl rfl ⟨rfl, ⟨rfl, trivial⟩⟩
set_option maxRecDepth 20000 in
theorem toStretchS_f : ToC Try.prog 39 (.slice 127 t_Stretch) := toSl_calls (g := 83) (b := 16) (z := [.int .i64 0, .int .i64 0]) (by kernel_rfl) rfl (by decide) toStretch_f
end Go.Proofs.Ytecljenjlncfhaa

namespace Go.Proofs.Ytecljenjlncfhaa
open Go Go.IW

structure Str where
  fr : Int
  to : Int
def Str.row (s : Str) : List IV := [.int .i64 s.fr, .int .i64 s.to]
def in1 (una nxt fr to : Int) (x : Str) : Bool := decide (una ≤ x.fr) && decide (x.fr < x.to) && decide (x.to ≤ nxt) && decide (x.fr ≤ fr) && decide (to ≤ x.to)
def within (una nxt fr to : Int) (ss : List Str) : Bool := ss.any (in1 una nxt fr to)
set_option maxRecDepth 20000 in
theorem l15Within_c (h : IH) (p : Piece) (una nxt : Int) (u v : IV) (hu : u.one = true) (ss : List Str) (hs : SlR h 2 v (ss.map Str.row)) (hm : ss.length ≤ 1048576) :
    ICalls Try.prog 82 [.agg p.row, .agg [.int .i64 una, .int .i64 nxt, u], v] h fun r h' => r = .bool (within una nxt p.fr p.to ss) ∧ Ext h h' := by
  refine icalls (.of ok82) (Nat.le_of_ble_eq_true rfl) ?_
  unfold c82
  have hlen := hs.lenF
  rw [List.length_map] at hlen
  have hpr : p.row = [.int .i64 p.fr, .int .i64 p.to, .int .i64 p.at_, .int .i64 p.times, .bool p.sacked, .bool p.lost] := rfl
  simp (disch := (first | omega | assumption | (simp only [push_n, set_n, put_n, List.length_cons, List.length_nil, List.length_append, Nat.reduceAdd]; done) | (simp only [push_n, set_n, put_n, List.length_cons, List.length_nil, List.length_append]; omega) | (simp only [List.all_cons, List.all_nil, one_bool, one_int, one_str, one_ptr, one_nilptr, one_slice, one_eslice, one_nilslice, one_func, one_iface, one_niliface, Bool.and_true, Bool.true_and, List.getD_cons_zero, List.getD_cons_succ, List.contains_cons, List.contains_nil, Bool.or_true, Bool.true_or, Bool.or_false, Bool.false_or, Nat.reduceBEq, *]; done) | fail)) only [hpr, go_sem, Hold.p, HoldK.k, HoldL.K, HoldL.body, Nat.reduceBEq, Nat.reduceAdd, List.getElem?_cons_zero, List.getElem?_cons_succ, Option.bind_some, List.map_cons, List.map_nil, Nat.zero_add, if_true, List.getD_cons_zero, List.getD_cons_succ, List.contains_cons, List.contains_nil, Nat.reduceBEq, Bool.or_true, Bool.true_or, Bool.or_false, Bool.false_or, Bool.not_true, Bool.not_false, true_and, and_true, rowA_whole, mid_get, stO_mid, rowO_rows, cellO_rows, push_n, set_n, push_at, push_old, set_here, set_there, set_pushT, set_pushN, set_set, upd_ne, Nat.add_assoc, Nat.reduceAdd, Nat.add_zero, stO_1s, stO_ws, boxA_s, List.all_cons, List.all_nil, one_bool, one_int, one_str, one_ptr, one_nilptr, one_slice, one_eslice, one_nilslice, one_func, one_iface, one_niliface, Bool.and_true, Bool.and_self, List.length_cons, List.length_nil, Nat.one_ne_zero, Nat.succ_ne_zero, reduceIte, if_false, List.getElem?_cons_zero, List.set_cons_zero, List.set_cons_succ, lay_nil, lay_1, lay_w, Option.map_some]
  refine loop_at (fun n e g => ∃ k, n = ss.length - k ∧ k ≤ ss.length ∧ e 2 = v ∧ e 3 = .ptr h.n 0 0 ∧ e 4 = .ptr (h.n + 1) 0 0 ∧ e 7 = .int .i64 (k : Nat) ∧ Ext h g ∧ h.n + 1 < g.n ∧ g.obj h.n = .rows [p.row] 113 6 false ∧
    g.obj (h.n + 1) = .rows [[.int .i64 una, .int .i64 nxt, u]] 40 3 false ∧ within una nxt p.fr p.to (ss.take k) = false) ss.length ?_ ?_
  · refine ⟨0, by omega, by omega, ?_⟩
    simp (disch := (first | omega | assumption | (simp only [push_n, set_n, put_n, List.length_cons, List.length_nil, List.length_append, Nat.reduceAdd]; done) | (simp only [push_n, set_n, put_n, List.length_cons, List.length_nil, List.length_append]; omega) | (simp only [List.all_cons, List.all_nil, one_bool, one_int, one_str, one_ptr, one_nilptr, one_slice, one_eslice, one_nilslice, one_func, one_iface, one_niliface, Bool.and_true, Bool.true_and, List.getD_cons_zero, List.getD_cons_succ, List.contains_cons, List.contains_nil, Bool.or_true, Bool.true_or, Bool.or_false, Bool.false_or, Nat.reduceBEq, *]; done) | fail)) only [hpr, go_sem, Hold.p, HoldK.k, HoldL.K, HoldL.body, Nat.reduceBEq, Nat.reduceAdd, List.getElem?_cons_zero, List.getElem?_cons_succ, Option.bind_some, List.map_cons, List.map_nil, Nat.zero_add, if_true, List.getD_cons_zero, List.getD_cons_succ, List.contains_cons, List.contains_nil, Nat.reduceBEq, Bool.or_true, Bool.true_or, Bool.or_false, Bool.false_or, Bool.not_true, Bool.not_false, true_and, and_true, rowA_whole, mid_get, stO_mid, rowO_rows, cellO_rows, push_n, set_n, push_at, push_old, set_here, set_there, set_pushT, set_pushN, set_set, upd_ne, Nat.add_assoc, Nat.reduceAdd, Nat.add_zero, stO_1s, stO_ws, boxA_s, List.all_cons, List.all_nil, one_bool, one_int, one_str, one_ptr, one_nilptr, one_slice, one_eslice, one_nilslice, one_func, one_iface, one_niliface, Bool.and_true, Bool.and_self, List.length_cons, List.length_nil, Nat.one_ne_zero, Nat.succ_ne_zero, reduceIte, if_false, List.getElem?_cons_zero, List.set_cons_zero, List.set_cons_succ, lay_nil, lay_1, lay_w, Option.map_some]
    exact ⟨rfl, ((Ext.refl _).push _).push _, by omega, rfl⟩
  · rintro n e g ⟨k, rfl, hk, i2, i3, i4, i7, E, hlt, o1, o2, W⟩
    rw [hpr] at o1
    simp (disch := (first | omega | assumption | (simp only [push_n, set_n, put_n, List.length_cons, List.length_nil, List.length_append, Nat.reduceAdd]; done) | (simp only [push_n, set_n, put_n, List.length_cons, List.length_nil, List.length_append]; omega) | (simp only [List.all_cons, List.all_nil, one_bool, one_int, one_str, one_ptr, one_nilptr, one_slice, one_eslice, one_nilslice, one_func, one_iface, one_niliface, Bool.and_true, Bool.true_and, List.getD_cons_zero, List.getD_cons_succ, List.contains_cons, List.contains_nil, Bool.or_true, Bool.true_or, Bool.or_false, Bool.false_or, Nat.reduceBEq, *]; done) | fail)) only [i2, i3, i4, i7, hlen, go_sem, Hold.p, HoldK.k, HoldL.K, HoldL.body, Nat.reduceBEq, Nat.reduceAdd, List.getElem?_cons_zero, List.getElem?_cons_succ, Option.bind_some, List.map_cons, List.map_nil, Nat.zero_add, if_true, List.getD_cons_zero, List.getD_cons_succ, List.contains_cons, List.contains_nil, Nat.reduceBEq, Bool.or_true, Bool.true_or, Bool.or_false, Bool.false_or, Bool.not_true, Bool.not_false, true_and, and_true, rowA_whole, mid_get, stO_mid, rowO_rows, cellO_rows, push_n, set_n, push_at, push_old, set_here, set_there, set_pushT, set_pushN, set_set, upd_ne, Nat.add_assoc, Nat.reduceAdd, Nat.add_zero, stO_1s, stO_ws, boxA_s, List.all_cons, List.all_nil, one_bool, one_int, one_str, one_ptr, one_nilptr, one_slice, one_eslice, one_nilslice, one_func, one_iface, one_niliface, Bool.and_true, Bool.and_self, List.length_cons, List.length_nil, Nat.one_ne_zero, Nat.succ_ne_zero, reduceIte, if_false, List.getElem?_cons_zero, List.set_cons_zero, List.set_cons_succ, lay_nil, lay_1, lay_w, Option.map_some]
    refine test_dec (fun hb => ?_) (fun hb => ?_)
    · have hlt' : k < ss.length := by omega
      have hkp : ss[k]? = some ss[k] := List.getElem?_eq_getElem hlt'
      generalize ss[k] = x at hkp
      obtain ⟨l, j, hia, hll, hrow⟩ := (hs.ext E).at (m := k) (row := x.row) (by rw [List.getElem?_map, hkp]; rfl) .i64
      have hxr : x.row = [.int .i64 x.fr, .int .i64 x.to] := rfl
      rw [hxr] at hrow
      simp (disch := (first | omega | assumption | (simp only [push_n, set_n, put_n, List.length_cons, List.length_nil, List.length_append, Nat.reduceAdd]; done) | (simp only [push_n, set_n, put_n, List.length_cons, List.length_nil, List.length_append]; omega) | (simp only [List.all_cons, List.all_nil, one_bool, one_int, one_str, one_ptr, one_nilptr, one_slice, one_eslice, one_nilslice, one_func, one_iface, one_niliface, Bool.and_true, Bool.true_and, List.getD_cons_zero, List.getD_cons_succ, List.contains_cons, List.contains_nil, Bool.or_true, Bool.true_or, Bool.or_false, Bool.false_or, Nat.reduceBEq, *]; done) | fail)) only [i2, i3, i4, i7, hia, hrow, o1, o2, go_sem, Hold.p, HoldK.k, HoldL.K, HoldL.body, Nat.reduceBEq, Nat.reduceAdd, List.getElem?_cons_zero, List.getElem?_cons_succ, Option.bind_some, List.map_cons, List.map_nil, Nat.zero_add, if_true, List.getD_cons_zero, List.getD_cons_succ, List.contains_cons, List.contains_nil, Nat.reduceBEq, Bool.or_true, Bool.true_or, Bool.or_false, Bool.false_or, Bool.not_true, Bool.not_false, true_and, and_true, rowA_whole, mid_get, stO_mid, rowO_rows, cellO_rows, push_n, set_n, push_at, push_old, set_here, set_there, set_pushT, set_pushN, set_set, upd_ne, Nat.add_assoc, Nat.reduceAdd, Nat.add_zero, stO_1s, stO_ws, boxA_s, List.all_cons, List.all_nil, one_bool, one_int, one_str, one_ptr, one_nilptr, one_slice, one_eslice, one_nilslice, one_func, one_iface, one_niliface, Bool.and_true, Bool.and_self, List.length_cons, List.length_nil, Nat.one_ne_zero, Nat.succ_ne_zero, reduceIte, if_false, List.getElem?_cons_zero, List.set_cons_zero, List.set_cons_succ, lay_nil, lay_1, lay_w, Option.map_some]
      refine test_of (fun hb => ?_) (fun hb => ?_)
      · simp (disch := (first | omega | assumption | (simp only [push_n, set_n, put_n, List.length_cons, List.length_nil, List.length_append, Nat.reduceAdd]; done) | (simp only [push_n, set_n, put_n, List.length_cons, List.length_nil, List.length_append]; omega) | (simp only [List.all_cons, List.all_nil, one_bool, one_int, one_str, one_ptr, one_nilptr, one_slice, one_eslice, one_nilslice, one_func, one_iface, one_niliface, Bool.and_true, Bool.true_and, List.getD_cons_zero, List.getD_cons_succ, List.contains_cons, List.contains_nil, Bool.or_true, Bool.true_or, Bool.or_false, Bool.false_or, Nat.reduceBEq, *]; done) | fail)) only [go_sem, Hold.p, HoldK.k, HoldL.K, HoldL.body, Nat.reduceBEq, Nat.reduceAdd, List.getElem?_cons_zero, List.getElem?_cons_succ, Option.bind_some, List.map_cons, List.map_nil, Nat.zero_add, if_true, List.getD_cons_zero, List.getD_cons_succ, List.contains_cons, List.contains_nil, Nat.reduceBEq, Bool.or_true, Bool.true_or, Bool.or_false, Bool.false_or, Bool.not_true, Bool.not_false, true_and, and_true, rowA_whole, mid_get, stO_mid, rowO_rows, cellO_rows, push_n, set_n, push_at, push_old, set_here, set_there, set_pushT, set_pushN, set_set, upd_ne, Nat.add_assoc, Nat.reduceAdd, Nat.add_zero, stO_1s, stO_ws, boxA_s, List.all_cons, List.all_nil, one_bool, one_int, one_str, one_ptr, one_nilptr, one_slice, one_eslice, one_nilslice, one_func, one_iface, one_niliface, Bool.and_true, Bool.and_self, List.length_cons, List.length_nil, Nat.one_ne_zero, Nat.succ_ne_zero, reduceIte, if_false, List.getElem?_cons_zero, List.set_cons_zero, List.set_cons_succ, lay_nil, lay_1, lay_w, Option.map_some]
        refine ⟨?_, E.push _⟩
        have : x ∈ ss := List.mem_of_getElem? hkp
        exact congrArg IV.bool (List.any_eq_true.2 ⟨x, this, hb⟩).symm
      · simp (disch := (first | omega | assumption | (simp only [push_n, set_n, put_n, List.length_cons, List.length_nil, List.length_append, Nat.reduceAdd]; done) | (simp only [push_n, set_n, put_n, List.length_cons, List.length_nil, List.length_append]; omega) | (simp only [List.all_cons, List.all_nil, one_bool, one_int, one_str, one_ptr, one_nilptr, one_slice, one_eslice, one_nilslice, one_func, one_iface, one_niliface, Bool.and_true, Bool.true_and, List.getD_cons_zero, List.getD_cons_succ, List.contains_cons, List.contains_nil, Bool.or_true, Bool.true_or, Bool.or_false, Bool.false_or, Nat.reduceBEq, *]; done) | fail)) only [i2, i3, i4, i7, o1, o2, go_sem, Hold.p, HoldK.k, HoldL.K, HoldL.body, Nat.reduceBEq, Nat.reduceAdd, List.getElem?_cons_zero, List.getElem?_cons_succ, Option.bind_some, List.map_cons, List.map_nil, Nat.zero_add, if_true, List.getD_cons_zero, List.getD_cons_succ, List.contains_cons, List.contains_nil, Nat.reduceBEq, Bool.or_true, Bool.true_or, Bool.or_false, Bool.false_or, Bool.not_true, Bool.not_false, true_and, and_true, rowA_whole, mid_get, stO_mid, rowO_rows, cellO_rows, push_n, set_n, push_at, push_old, set_here, set_there, set_pushT, set_pushN, set_set, upd_ne, Nat.add_assoc, Nat.reduceAdd, Nat.add_zero, stO_1s, stO_ws, boxA_s, List.all_cons, List.all_nil, one_bool, one_int, one_str, one_ptr, one_nilptr, one_slice, one_eslice, one_nilslice, one_func, one_iface, one_niliface, Bool.and_true, Bool.and_self, List.length_cons, List.length_nil, Nat.one_ne_zero, Nat.succ_ne_zero, reduceIte, if_false, List.getElem?_cons_zero, List.set_cons_zero, List.set_cons_succ, lay_nil, lay_1, lay_w, Option.map_some]
        refine ⟨_, ?_, k + 1, rfl, by omega, wr64_succ k (by omega), E.push _, ?_, ?_⟩
        · omega
        · rfl
        · unfold within at W ⊢
          rw [List.take_add_one, hkp]
          simp only [Option.toList, List.any_append, W, List.any_cons, List.any_nil, Bool.false_or, Bool.or_false]
          exact hb
    · obtain rfl : k = ss.length := by omega
      rw [List.take_length] at W
      simp (disch := (first | omega | assumption | (simp only [push_n, set_n, put_n, List.length_cons, List.length_nil, List.length_append, Nat.reduceAdd]; done) | (simp only [push_n, set_n, put_n, List.length_cons, List.length_nil, List.length_append]; omega) | (simp only [List.all_cons, List.all_nil, one_bool, one_int, one_str, one_ptr, one_nilptr, one_slice, one_eslice, one_nilslice, one_func, one_iface, one_niliface, Bool.and_true, Bool.true_and, List.getD_cons_zero, List.getD_cons_succ, List.contains_cons, List.contains_nil, Bool.or_true, Bool.true_or, Bool.or_false, Bool.false_or, Nat.reduceBEq, *]; done) | fail)) only [W, go_sem, Hold.p, HoldK.k, HoldL.K, HoldL.body, Nat.reduceBEq, Nat.reduceAdd, List.getElem?_cons_zero, List.getElem?_cons_succ, Option.bind_some, List.map_cons, List.map_nil, Nat.zero_add, if_true, List.getD_cons_zero, List.getD_cons_succ, List.contains_cons, List.contains_nil, Nat.reduceBEq, Bool.or_true, Bool.true_or, Bool.or_false, Bool.false_or, Bool.not_true, Bool.not_false, true_and, and_true, rowA_whole, mid_get, stO_mid, rowO_rows, cellO_rows, push_n, set_n, push_at, push_old, set_here, set_there, set_pushT, set_pushN, set_set, upd_ne, Nat.add_assoc, Nat.reduceAdd, Nat.add_zero, stO_1s, stO_ws, boxA_s, List.all_cons, List.all_nil, one_bool, one_int, one_str, one_ptr, one_nilptr, one_slice, one_eslice, one_nilslice, one_func, one_iface, one_niliface, Bool.and_true, Bool.and_self, List.length_cons, List.length_nil, Nat.one_ne_zero, Nat.succ_ne_zero, reduceIte, if_false, List.getElem?_cons_zero, List.set_cons_zero, List.set_cons_succ, lay_nil, lay_1, lay_w, Option.map_some]
      exact E
set_option maxRecDepth 20000 in
theorem l14Max_c (h : IH) (a b : Int) : ICalls Try.prog 81 [.int .i64 a, .int .i64 b] h fun r h' => r = .int .i64 (max a b) ∧ h' = h := by
  refine icalls (.of ok81) (Nat.le_of_ble_eq_true rfl) ?_
  unfold c81
  simp (disch := (first | omega | assumption | (simp only [push_n, set_n, put_n, List.length_cons, List.length_nil, List.length_append, Nat.reduceAdd]; done) | (simp only [push_n, set_n, put_n, List.length_cons, List.length_nil, List.length_append]; omega) | (simp only [List.all_cons, List.all_nil, one_bool, one_int, one_str, one_ptr, one_nilptr, one_slice, one_eslice, one_nilslice, one_func, one_iface, one_niliface, Bool.and_true, Bool.true_and, List.getD_cons_zero, List.getD_cons_succ, List.contains_cons, List.contains_nil, Bool.or_true, Bool.true_or, Bool.or_false, Bool.false_or, Nat.reduceBEq, *]; done) | fail)) only [go_sem, Hold.p, HoldK.k, HoldL.K, HoldL.body, Nat.reduceBEq, Nat.reduceAdd, List.getElem?_cons_zero, List.getElem?_cons_succ, Option.bind_some, List.map_cons, List.map_nil, Nat.zero_add, if_true, List.getD_cons_zero, List.getD_cons_succ, List.contains_cons, List.contains_nil, Nat.reduceBEq, Bool.or_true, Bool.true_or, Bool.or_false, Bool.false_or, Bool.not_true, Bool.not_false, true_and, and_true, rowA_whole, mid_get, stO_mid, rowO_rows, cellO_rows, push_n, set_n, push_at, push_old, set_here, set_there, set_pushT, set_pushN, set_set, upd_ne, Nat.add_assoc, Nat.reduceAdd, Nat.add_zero, stO_1s, stO_ws, boxA_s, List.all_cons, List.all_nil, one_bool, one_int, one_str, one_ptr, one_nilptr, one_slice, one_eslice, one_nilslice, one_func, one_iface, one_niliface, Bool.and_true, Bool.and_self, List.length_cons, List.length_nil, Nat.one_ne_zero, Nat.succ_ne_zero, reduceIte, if_false, List.getElem?_cons_zero, List.set_cons_zero, List.set_cons_succ, lay_nil, lay_1, lay_w, Option.map_some]
  refine test_dec (fun hb => ?_) (fun hb => ?_)
  · simp (disch := (first | omega | assumption | (simp only [push_n, set_n, put_n, List.length_cons, List.length_nil, List.length_append, Nat.reduceAdd]; done) | (simp only [push_n, set_n, put_n, List.length_cons, List.length_nil, List.length_append]; omega) | (simp only [List.all_cons, List.all_nil, one_bool, one_int, one_str, one_ptr, one_nilptr, one_slice, one_eslice, one_nilslice, one_func, one_iface, one_niliface, Bool.and_true, Bool.true_and, List.getD_cons_zero, List.getD_cons_succ, List.contains_cons, List.contains_nil, Bool.or_true, Bool.true_or, Bool.or_false, Bool.false_or, Nat.reduceBEq, *]; done) | fail)) only [go_sem, Hold.p, HoldK.k, HoldL.K, HoldL.body, Nat.reduceBEq, Nat.reduceAdd, List.getElem?_cons_zero, List.getElem?_cons_succ, Option.bind_some, List.map_cons, List.map_nil, Nat.zero_add, if_true, List.getD_cons_zero, List.getD_cons_succ, List.contains_cons, List.contains_nil, Nat.reduceBEq, Bool.or_true, Bool.true_or, Bool.or_false, Bool.false_or, Bool.not_true, Bool.not_false, true_and, and_true, rowA_whole, mid_get, stO_mid, rowO_rows, cellO_rows, push_n, set_n, push_at, push_old, set_here, set_there, set_pushT, set_pushN, set_set, upd_ne, Nat.add_assoc, Nat.reduceAdd, Nat.add_zero, stO_1s, stO_ws, boxA_s, List.all_cons, List.all_nil, one_bool, one_int, one_str, one_ptr, one_nilptr, one_slice, one_eslice, one_nilslice, one_func, one_iface, one_niliface, Bool.and_true, Bool.and_self, List.length_cons, List.length_nil, Nat.one_ne_zero, Nat.succ_ne_zero, reduceIte, if_false, List.getElem?_cons_zero, List.set_cons_zero, List.set_cons_succ, lay_nil, lay_1, lay_w, Option.map_some]
    rw [Int.max_eq_left (by omega)]
  · simp (disch := (first | omega | assumption | (simp only [push_n, set_n, put_n, List.length_cons, List.length_nil, List.length_append, Nat.reduceAdd]; done) | (simp only [push_n, set_n, put_n, List.length_cons, List.length_nil, List.length_append]; omega) | (simp only [List.all_cons, List.all_nil, one_bool, one_int, one_str, one_ptr, one_nilptr, one_slice, one_eslice, one_nilslice, one_func, one_iface, one_niliface, Bool.and_true, Bool.true_and, List.getD_cons_zero, List.getD_cons_succ, List.contains_cons, List.contains_nil, Bool.or_true, Bool.true_or, Bool.or_false, Bool.false_or, Nat.reduceBEq, *]; done) | fail)) only [go_sem, Hold.p, HoldK.k, HoldL.K, HoldL.body, Nat.reduceBEq, Nat.reduceAdd, List.getElem?_cons_zero, List.getElem?_cons_succ, Option.bind_some, List.map_cons, List.map_nil, Nat.zero_add, if_true, List.getD_cons_zero, List.getD_cons_succ, List.contains_cons, List.contains_nil, Nat.reduceBEq, Bool.or_true, Bool.true_or, Bool.or_false, Bool.false_or, Bool.not_true, Bool.not_false, true_and, and_true, rowA_whole, mid_get, stO_mid, rowO_rows, cellO_rows, push_n, set_n, push_at, push_old, set_here, set_there, set_pushT, set_pushN, set_set, upd_ne, Nat.add_assoc, Nat.reduceAdd, Nat.add_zero, stO_1s, stO_ws, boxA_s, List.all_cons, List.all_nil, one_bool, one_int, one_str, one_ptr, one_nilptr, one_slice, one_eslice, one_nilslice, one_func, one_iface, one_niliface, Bool.and_true, Bool.and_self, List.length_cons, List.length_nil, Nat.one_ne_zero, Nat.succ_ne_zero, reduceIte, if_false, List.getElem?_cons_zero, List.set_cons_zero, List.set_cons_succ, lay_nil, lay_1, lay_w, Option.map_some]
    rw [Int.max_eq_right (by omega)]
end Go.Proofs.Ytecljenjlncfhaa

namespace Go.Proofs.Ytecljenjlncfhaa
open Go Go.IW

/-- A piece behind an acknowledgement. -/
def ackC (ack nxt : Int) (ss : List Str) (p : Piece) : Bool := !p.sacked && within ack nxt (max p.fr ack) p.to ss
def ackQ (ack nxt : Int) (ss : List Str) (p : Piece) : Piece := if ackC ack nxt ss p = true then ⟨max p.fr ack, p.to, p.at_, p.times, true, false⟩ else ⟨max p.fr ack, p.to, p.at_, p.times, p.sacked, p.lost⟩
def ackD (ack nxt : Int) (ss : List Str) (p : Piece) : Int := if ackC ack nxt ss p = true then p.to - max p.fr ack else 0
def ackS (ack nxt : Int) (ss : List Str) (st : List Piece × Int × Int) (p : Piece) : List Piece × Int × Int :=
  if p.to ≤ ack then (st.1, st.2.1, if (decide (p.times = 1) && !p.sacked) = true then p.at_ else st.2.2) else (st.1 ++ [ackQ ack nxt ss p], st.2.1 + ackD ack nxt ss p, st.2.2)
def ackF (ack nxt : Int) (ss : List Str) (ps : List Piece) : List Piece × Int × Int := ps.foldl (ackS ack nxt ss) ([], 0, -1)
theorem ackF_succ {ack nxt : Int} {ss : List Str} {ps : List Piece} {k : Nat} {p : Piece} (h : ps[k]? = some p) : ackF ack nxt ss (ps.take (k + 1)) = ackS ack nxt ss (ackF ack nxt ss (ps.take k)) p := by
  unfold ackF
  rw [List.take_add_one, h]; simp
theorem ackF_len {ack nxt : Int} {ss : List Str} : ∀ (k : Nat) (ps : List Piece), (ackF ack nxt ss (ps.take k)).1.length ≤ k := by
  intro k
  induction k with
  | zero => intro ps; simp [ackF]
  | succ k ih =>
    intro ps
    cases hp : ps[k]? with
    | none =>
      rw [List.take_add_one, hp]; simp only [Option.toList, List.append_nil]
      have := ih ps; omega
    | some p =>
      rw [ackF_succ hp]
      have := ih ps
      unfold ackS
      split <;> simp <;> omega
/-- What BoardAck answers. -/
def ackB (una nxt : Int) (ps : List Piece) (ack : Int) (ss : List Str) : Int × Int × List Piece × Int × Int × Int × Int :=
  if okB una nxt ps = true ∧ (una ≤ ack ∧ ack ≤ nxt) ∧ ss.length ≤ 3 then (ack, nxt, (ackF ack nxt ss ps).1, ack - una, (ackF ack nxt ss ps).2.1, (ackF ack nxt ss ps).2.2, 0) else (0, 0, [], 0, 0, 0, 1)
def AckRes (h h' : IH) (r : IV) (x : Int × Int × List Piece × Int × Int × Int × Int) : Prop :=
  ∃ v, r = .tuple [.agg [.int .i64 x.1, .int .i64 x.2.1, v], .agg [.int .i64 x.2.2.2.1, .int .i64 x.2.2.2.2.1, .int .i64 x.2.2.2.2.2.1], .int .i64 x.2.2.2.2.2.2] ∧ Own h.n h'.n h' 113 6 v (x.2.2.1.map Piece.row) ∧ Ext h h'

set_option maxRecDepth 20000 in
set_option maxHeartbeats 1000000 in
theorem specBoardAck_c (h : IH) (v w : IV) (una nxt ack : Int) (ps : List Piece) (ss : List Str) (hs : SlR h 6 v (ps.map Piece.row)) (hw : SlR h 2 w (ss.map Str.row)) (hm : ss.length ≤ 1048576) :
    ICalls Try.prog 38 [.agg [.int .i64 una, .int .i64 nxt, v], .int .i64 ack, w] h fun r h' => AckRes h h' r (ackB una nxt ps ack ss) := by
  refine icalls (.of ok38) (Nat.le_of_ble_eq_true rfl) ?_
  unfold c38
  have hs0 := hs
  have hw0 := hw
  have hv1 := hs.one
  have hw1 := hw.one
  have hlw := hw.lenF
  have hlv := hs.lenF
  rw [List.length_map] at hlw hlv
  simp (disch := (first | omega | assumption | (simp only [push_n, set_n, put_n, List.length_cons, List.length_nil, List.length_append, Nat.reduceAdd]; done) | (simp only [push_n, set_n, put_n, List.length_cons, List.length_nil, List.length_append]; omega) | (simp only [List.all_cons, List.all_nil, one_bool, one_int, one_str, one_ptr, one_nilptr, one_slice, one_eslice, one_nilslice, one_func, one_iface, one_niliface, Bool.and_true, Bool.true_and, List.getD_cons_zero, List.getD_cons_succ, List.contains_cons, List.contains_nil, Bool.or_true, Bool.true_or, Bool.or_false, Bool.false_or, Nat.reduceBEq, *]; done) | fail)) only [hv1, go_sem, Hold.p, HoldK.k, HoldL.K, HoldL.body, Nat.reduceBEq, Nat.reduceAdd, List.getElem?_cons_zero, List.getElem?_cons_succ, Option.bind_some, List.map_cons, List.map_nil, Nat.zero_add, if_true, List.getD_cons_zero, List.getD_cons_succ, List.contains_cons, List.contains_nil, Nat.reduceBEq, Bool.or_true, Bool.true_or, Bool.or_false, Bool.false_or, Bool.not_true, Bool.not_false, true_and, and_true, rowA_whole, mid_get, stO_mid, rowO_rows, cellO_rows, push_n, set_n, push_at, push_old, set_here, set_there, set_pushT, set_pushN, set_set, upd_ne, Nat.add_assoc, Nat.reduceAdd, Nat.add_zero, stO_1s, stO_ws, boxA_s, List.all_cons, List.all_nil, one_bool, one_int, one_str, one_ptr, one_nilptr, one_slice, one_eslice, one_nilslice, one_func, one_iface, one_niliface, Bool.and_true, Bool.and_self, List.length_cons, List.length_nil, Nat.one_ne_zero, Nat.succ_ne_zero, reduceIte, if_false, List.getElem?_cons_zero, List.set_cons_zero, List.set_cons_succ, lay_nil, lay_1, lay_w, Option.map_some]
  generalize hq_g0 : IH.push h (IObj.rows [[IV.int .i64 una, IV.int .i64 nxt, v]] 40 3 false) = g0
  have e_g0 : Ext h g0 := by rw [← hq_g0]; exact (Ext.refl _).push _
  have l_g0 : g0.n = h.n + 1 := by rw [← hq_g0]; rfl
  have b0 : At g0 h.n (IObj.rows [[IV.int .i64 una, IV.int .i64 nxt, v]] 40 3 false) := by rw [← hq_g0]; exact At.new _ _
  clear hq_g0
  have hs := hs.ext e_g0
  have hw := hw.ext e_g0
  generalize hq_g1 : IH.push g0 (IObj.rows [[IV.int .i64 0, IV.int .i64 0, IV.nilslice]] 40 3 false) = g1
  have e_g1 : Ext g0 g1 := by rw [← hq_g1]; exact (Ext.refl _).push _
  have l_g1 : g1.n = g0.n + 1 := by rw [← hq_g1]; rfl
  have b1 : At g1 g0.n (IObj.rows [[IV.int .i64 0, IV.int .i64 0, IV.nilslice]] 40 3 false) := by rw [← hq_g1]; exact At.new _ _
  clear hq_g1
  have hs := hs.ext e_g1
  have hw := hw.ext e_g1
  have b0 := b0.ext e_g1
  generalize hq_g2 : IH.push g1 (IObj.rows [[IV.int .i64 0, IV.int .i64 0, IV.int .i64 0]] 55 3 false) = g2
  have e_g2 : Ext g1 g2 := by rw [← hq_g2]; exact (Ext.refl _).push _
  have l_g2 : g2.n = g1.n + 1 := by rw [← hq_g2]; rfl
  have b2 : At g2 g1.n (IObj.rows [[IV.int .i64 0, IV.int .i64 0, IV.int .i64 0]] 55 3 false) := by rw [← hq_g2]; exact At.new _ _
  clear hq_g2
  have hs := hs.ext e_g2
  have hw := hw.ext e_g2
  have b0 := b0.ext e_g2
  have b1 := b1.ext e_g2
  have E0 := (e_g0.trans e_g1).trans e_g2
  refine callA_of (l15OK_c g2 una nxt v ps hs) ?_
  rintro r g3 ⟨rfl, E3⟩
  have b0 := b0.ext E3
  have b1 := b1.ext E3
  have b2 := b2.ext E3
  have hs := hs.ext E3
  have hw := hw.ext E3
  have le_E3 := E3.le
  have hb0 := b0.eq
  have hb1 := b1.eq
  have hb2 := b2.eq
  cases hok : okB una nxt ps
  · simp (disch := (first | omega | assumption | (simp only [push_n, set_n, put_n, List.length_cons, List.length_nil, List.length_append, Nat.reduceAdd]; done) | (simp only [push_n, set_n, put_n, List.length_cons, List.length_nil, List.length_append]; omega) | (simp only [List.all_cons, List.all_nil, one_bool, one_int, one_str, one_ptr, one_nilptr, one_slice, one_eslice, one_nilslice, one_func, one_iface, one_niliface, Bool.and_true, Bool.true_and, List.getD_cons_zero, List.getD_cons_succ, List.contains_cons, List.contains_nil, Bool.or_true, Bool.true_or, Bool.or_false, Bool.false_or, Nat.reduceBEq, *]; done) | fail)) only [hb0, hb1, hb2, hok, go_sem, Hold.p, HoldK.k, HoldL.K, HoldL.body, Nat.reduceBEq, Nat.reduceAdd, List.getElem?_cons_zero, List.getElem?_cons_succ, Option.bind_some, List.map_cons, List.map_nil, Nat.zero_add, if_true, List.getD_cons_zero, List.getD_cons_succ, List.contains_cons, List.contains_nil, Nat.reduceBEq, Bool.or_true, Bool.true_or, Bool.or_false, Bool.false_or, Bool.not_true, Bool.not_false, true_and, and_true, rowA_whole, mid_get, stO_mid, rowO_rows, cellO_rows, push_n, set_n, push_at, push_old, set_here, set_there, set_pushT, set_pushN, set_set, upd_ne, Nat.add_assoc, Nat.reduceAdd, Nat.add_zero, stO_1s, stO_ws, boxA_s, List.all_cons, List.all_nil, one_bool, one_int, one_str, one_ptr, one_nilptr, one_slice, one_eslice, one_nilslice, one_func, one_iface, one_niliface, Bool.and_true, Bool.and_self, List.length_cons, List.length_nil, Nat.one_ne_zero, Nat.succ_ne_zero, reduceIte, if_false, List.getElem?_cons_zero, List.set_cons_zero, List.set_cons_succ, lay_nil, lay_1, lay_w, Option.map_some]
    unfold ackB
    rw [hok, if_neg (by simp)]
    refine ⟨_, rfl, Own.nil, ?_⟩
    exact ((E0.trans E3).set _ (by omega) _).set _ (by omega) _
  simp (disch := (first | omega | assumption | (simp only [push_n, set_n, put_n, List.length_cons, List.length_nil, List.length_append, Nat.reduceAdd]; done) | (simp only [push_n, set_n, put_n, List.length_cons, List.length_nil, List.length_append]; omega) | (simp only [List.all_cons, List.all_nil, one_bool, one_int, one_str, one_ptr, one_nilptr, one_slice, one_eslice, one_nilslice, one_func, one_iface, one_niliface, Bool.and_true, Bool.true_and, List.getD_cons_zero, List.getD_cons_succ, List.contains_cons, List.contains_nil, Bool.or_true, Bool.true_or, Bool.or_false, Bool.false_or, Nat.reduceBEq, *]; done) | fail)) only [hb0, hb1, hb2, hok, go_sem, Hold.p, HoldK.k, HoldL.K, HoldL.body, Nat.reduceBEq, Nat.reduceAdd, List.getElem?_cons_zero, List.getElem?_cons_succ, Option.bind_some, List.map_cons, List.map_nil, Nat.zero_add, if_true, List.getD_cons_zero, List.getD_cons_succ, List.contains_cons, List.contains_nil, Nat.reduceBEq, Bool.or_true, Bool.true_or, Bool.or_false, Bool.false_or, Bool.not_true, Bool.not_false, true_and, and_true, rowA_whole, mid_get, stO_mid, rowO_rows, cellO_rows, push_n, set_n, push_at, push_old, set_here, set_there, set_pushT, set_pushN, set_set, upd_ne, Nat.add_assoc, Nat.reduceAdd, Nat.add_zero, stO_1s, stO_ws, boxA_s, List.all_cons, List.all_nil, one_bool, one_int, one_str, one_ptr, one_nilptr, one_slice, one_eslice, one_nilslice, one_func, one_iface, one_niliface, Bool.and_true, Bool.and_self, List.length_cons, List.length_nil, Nat.one_ne_zero, Nat.succ_ne_zero, reduceIte, if_false, List.getElem?_cons_zero, List.set_cons_zero, List.set_cons_succ, lay_nil, lay_1, lay_w, Option.map_some]
  refine callA_of (l01In_c g3 ack una nxt) ?_
  rintro r g4 ⟨rfl, rfl⟩
  by_cases hg : (una ≤ ack ∧ ack ≤ nxt) ∧ ss.length ≤ 3
  rotate_left
  · have hgb : (!(decide (una ≤ ack) && decide (ack ≤ nxt)) || decide ((3 : Int) < (ss.length : Int))) = true := by
      simp only [Bool.or_eq_true, Bool.not_eq_true', Bool.and_eq_false_iff, decide_eq_false_iff_not, decide_eq_true_eq]
      omega
    simp (disch := (first | omega | assumption | (simp only [push_n, set_n, put_n, List.length_cons, List.length_nil, List.length_append, Nat.reduceAdd]; done) | (simp only [push_n, set_n, put_n, List.length_cons, List.length_nil, List.length_append]; omega) | (simp only [List.all_cons, List.all_nil, one_bool, one_int, one_str, one_ptr, one_nilptr, one_slice, one_eslice, one_nilslice, one_func, one_iface, one_niliface, Bool.and_true, Bool.true_and, List.getD_cons_zero, List.getD_cons_succ, List.contains_cons, List.contains_nil, Bool.or_true, Bool.true_or, Bool.or_false, Bool.false_or, Nat.reduceBEq, *]; done) | fail)) only [hb0, hb1, hb2, hlw, hgb, go_sem, Hold.p, HoldK.k, HoldL.K, HoldL.body, Nat.reduceBEq, Nat.reduceAdd, List.getElem?_cons_zero, List.getElem?_cons_succ, Option.bind_some, List.map_cons, List.map_nil, Nat.zero_add, if_true, List.getD_cons_zero, List.getD_cons_succ, List.contains_cons, List.contains_nil, Nat.reduceBEq, Bool.or_true, Bool.true_or, Bool.or_false, Bool.false_or, Bool.not_true, Bool.not_false, true_and, and_true, rowA_whole, mid_get, stO_mid, rowO_rows, cellO_rows, push_n, set_n, push_at, push_old, set_here, set_there, set_pushT, set_pushN, set_set, upd_ne, Nat.add_assoc, Nat.reduceAdd, Nat.add_zero, stO_1s, stO_ws, boxA_s, List.all_cons, List.all_nil, one_bool, one_int, one_str, one_ptr, one_nilptr, one_slice, one_eslice, one_nilslice, one_func, one_iface, one_niliface, Bool.and_true, Bool.and_self, List.length_cons, List.length_nil, Nat.one_ne_zero, Nat.succ_ne_zero, reduceIte, if_false, List.getElem?_cons_zero, List.set_cons_zero, List.set_cons_succ, lay_nil, lay_1, lay_w, Option.map_some]
    unfold ackB
    rw [hok, if_neg (by simp; omega)]
    refine ⟨_, rfl, Own.nil, ?_⟩
    exact ((E0.trans E3).set _ (by omega) _).set _ (by omega) _
  have hgb : (!(decide (una ≤ ack) && decide (ack ≤ nxt)) || decide ((3 : Int) < (ss.length : Int))) = false := by
    simp only [Bool.or_eq_false_iff, Bool.not_eq_false', Bool.and_eq_true, decide_eq_false_iff_not, decide_eq_true_eq]
    omega
  obtain ⟨u1, u2, u3, u4, u5⟩ := okB_un hok
  have heach := okB_each hok
  have w0 : wr .i64 (ack - una) = ack - una := wr64 _ (by omega)
  simp (disch := (first | omega | assumption | (simp only [push_n, set_n, put_n, List.length_cons, List.length_nil, List.length_append, Nat.reduceAdd]; done) | (simp only [push_n, set_n, put_n, List.length_cons, List.length_nil, List.length_append]; omega) | (simp only [List.all_cons, List.all_nil, one_bool, one_int, one_str, one_ptr, one_nilptr, one_slice, one_eslice, one_nilslice, one_func, one_iface, one_niliface, Bool.and_true, Bool.true_and, List.getD_cons_zero, List.getD_cons_succ, List.contains_cons, List.contains_nil, Bool.or_true, Bool.true_or, Bool.or_false, Bool.false_or, Nat.reduceBEq, *]; done) | fail)) only [hb0, hb1, hb2, hlw, hgb, w0, go_sem, Hold.p, HoldK.k, HoldL.K, HoldL.body, Nat.reduceBEq, Nat.reduceAdd, List.getElem?_cons_zero, List.getElem?_cons_succ, Option.bind_some, List.map_cons, List.map_nil, Nat.zero_add, if_true, List.getD_cons_zero, List.getD_cons_succ, List.contains_cons, List.contains_nil, Nat.reduceBEq, Bool.or_true, Bool.true_or, Bool.or_false, Bool.false_or, Bool.not_true, Bool.not_false, true_and, and_true, rowA_whole, mid_get, stO_mid, rowO_rows, cellO_rows, push_n, set_n, push_at, push_old, set_here, set_there, set_pushT, set_pushN, set_set, upd_ne, Nat.add_assoc, Nat.reduceAdd, Nat.add_zero, stO_1s, stO_ws, boxA_s, List.all_cons, List.all_nil, one_bool, one_int, one_str, one_ptr, one_nilptr, one_slice, one_eslice, one_nilslice, one_func, one_iface, one_niliface, Bool.and_true, Bool.and_self, List.length_cons, List.length_nil, Nat.one_ne_zero, Nat.succ_ne_zero, reduceIte, if_false, List.getElem?_cons_zero, List.set_cons_zero, List.set_cons_succ, lay_nil, lay_1, lay_w, Option.map_some]
  refine loop_at (fun n e g => ∃ (k : Nat) (x : IV) (lo hi : Nat), n = ps.length - k ∧ k ≤ ps.length ∧ e 1 = .int .i64 ack ∧ e 2 = w ∧ e 3 = .ptr h.n 0 0 ∧ e 6 = .ptr g0.n 0 0 ∧ e 7 = .ptr g1.n 0 0 ∧ e 9 = .ptr g4.n 0 0 ∧ e 10 = .ptr (g4.n + 1) 0 0 ∧ e 11 = .int .i64 (k : Nat) ∧
    Ext h g ∧ g4.n + 2 ≤ lo ∧ lo ≤ hi ∧ hi ≤ g.n ∧ At g h.n (.rows [[.int .i64 una, .int .i64 nxt, v]] 40 3 false) ∧ At g g0.n (.rows [[.int .i64 0, .int .i64 0, .nilslice]] 40 3 false) ∧ At g g1.n (.rows [[.int .i64 0, .int .i64 0, .int .i64 0]] 55 3 false) ∧
    At g g4.n (.rows [[.int .i64 (ack - una), .int .i64 (ackF ack nxt ss (ps.take k)).2.1, .int .i64 (ackF ack nxt ss (ps.take k)).2.2]] 55 3 false) ∧ At g (g4.n + 1) (.rows [[.int .i64 ack, .int .i64 nxt, x]] 40 3 false) ∧
    Own lo hi g 113 6 x ((ackF ack nxt ss (ps.take k)).1.map Piece.row) ∧ 0 ≤ (ackF ack nxt ss (ps.take k)).2.1 ∧ (ackF ack nxt ss (ps.take k)).2.1 ≤ k * 1099511627776) ps.length ?_ ?_
  · refine ⟨0, .nilslice, g4.n + 2, g4.n + 2, by omega, by omega, ?_⟩
    have a0 := (b0.ext ((Ext.refl g4).push (.rows [[.int .i64 (ack - una), .int .i64 0, .int .i64 (-1)]] 55 3 false))).ext ((Ext.refl _).push (.rows [[.int .i64 ack, .int .i64 nxt, .nilslice]] 40 3 false))
    have a1 := (b1.ext ((Ext.refl g4).push (.rows [[.int .i64 (ack - una), .int .i64 0, .int .i64 (-1)]] 55 3 false))).ext ((Ext.refl _).push (.rows [[.int .i64 ack, .int .i64 nxt, .nilslice]] 40 3 false))
    have a2 := (b2.ext ((Ext.refl g4).push (.rows [[.int .i64 (ack - una), .int .i64 0, .int .i64 (-1)]] 55 3 false))).ext ((Ext.refl _).push (.rows [[.int .i64 ack, .int .i64 nxt, .nilslice]] 40 3 false))
    simp (disch := (first | omega | assumption | (simp only [push_n, set_n, put_n, List.length_cons, List.length_nil, List.length_append, Nat.reduceAdd]; done) | (simp only [push_n, set_n, put_n, List.length_cons, List.length_nil, List.length_append]; omega) | (simp only [List.all_cons, List.all_nil, one_bool, one_int, one_str, one_ptr, one_nilptr, one_slice, one_eslice, one_nilslice, one_func, one_iface, one_niliface, Bool.and_true, Bool.true_and, List.getD_cons_zero, List.getD_cons_succ, List.contains_cons, List.contains_nil, Bool.or_true, Bool.true_or, Bool.or_false, Bool.false_or, Nat.reduceBEq, *]; done) | fail)) only [List.take_zero, go_sem, Hold.p, HoldK.k, HoldL.K, HoldL.body, Nat.reduceBEq, Nat.reduceAdd, List.getElem?_cons_zero, List.getElem?_cons_succ, Option.bind_some, List.map_cons, List.map_nil, Nat.zero_add, if_true, List.getD_cons_zero, List.getD_cons_succ, List.contains_cons, List.contains_nil, Nat.reduceBEq, Bool.or_true, Bool.true_or, Bool.or_false, Bool.false_or, Bool.not_true, Bool.not_false, true_and, and_true, rowA_whole, mid_get, stO_mid, rowO_rows, cellO_rows, push_n, set_n, push_at, push_old, set_here, set_there, set_pushT, set_pushN, set_set, upd_ne, Nat.add_assoc, Nat.reduceAdd, Nat.add_zero, stO_1s, stO_ws, boxA_s, List.all_cons, List.all_nil, one_bool, one_int, one_str, one_ptr, one_nilptr, one_slice, one_eslice, one_nilslice, one_func, one_iface, one_niliface, Bool.and_true, Bool.and_self, List.length_cons, List.length_nil, Nat.one_ne_zero, Nat.succ_ne_zero, reduceIte, if_false, List.getElem?_cons_zero, List.set_cons_zero, List.set_cons_succ, lay_nil, lay_1, lay_w, Option.map_some]
    refine ⟨rfl, ((E0.trans E3).push _).push _, Nat.le_refl _, Nat.le_refl _, Nat.le_refl _, a0, a1, a2, (At.new g4 _).ext ((Ext.refl _).push _), At.new _ _, Own.nil, Int.le_refl _, by simp [ackF]⟩
  · rintro n e g ⟨k, x, lo, hi, rfl, hk, i1, i2, i3, i6, i7, i9, i10, i11, E, hlo, hlh, hhi, a0, a1, a2, a3, a4, o, s0, s1⟩
    have hle := E.le
    have q0 := a0.eq
    have q3 := a3.eq
    have q4 := a4.eq
    simp (disch := (first | omega | assumption | (simp only [push_n, set_n, put_n, List.length_cons, List.length_nil, List.length_append, Nat.reduceAdd]; done) | (simp only [push_n, set_n, put_n, List.length_cons, List.length_nil, List.length_append]; omega) | (simp only [List.all_cons, List.all_nil, one_bool, one_int, one_str, one_ptr, one_nilptr, one_slice, one_eslice, one_nilslice, one_func, one_iface, one_niliface, Bool.and_true, Bool.true_and, List.getD_cons_zero, List.getD_cons_succ, List.contains_cons, List.contains_nil, Bool.or_true, Bool.true_or, Bool.or_false, Bool.false_or, Nat.reduceBEq, *]; done) | fail)) only [i1, i2, i3, i6, i7, i9, i10, i11, q0, q3, q4, hlv, go_sem, Hold.p, HoldK.k, HoldL.K, HoldL.body, Nat.reduceBEq, Nat.reduceAdd, List.getElem?_cons_zero, List.getElem?_cons_succ, Option.bind_some, List.map_cons, List.map_nil, Nat.zero_add, if_true, List.getD_cons_zero, List.getD_cons_succ, List.contains_cons, List.contains_nil, Nat.reduceBEq, Bool.or_true, Bool.true_or, Bool.or_false, Bool.false_or, Bool.not_true, Bool.not_false, true_and, and_true, rowA_whole, mid_get, stO_mid, rowO_rows, cellO_rows, push_n, set_n, push_at, push_old, set_here, set_there, set_pushT, set_pushN, set_set, upd_ne, Nat.add_assoc, Nat.reduceAdd, Nat.add_zero, stO_1s, stO_ws, boxA_s, List.all_cons, List.all_nil, one_bool, one_int, one_str, one_ptr, one_nilptr, one_slice, one_eslice, one_nilslice, one_func, one_iface, one_niliface, Bool.and_true, Bool.and_self, List.length_cons, List.length_nil, Nat.one_ne_zero, Nat.succ_ne_zero, reduceIte, if_false, List.getElem?_cons_zero, List.set_cons_zero, List.set_cons_succ, lay_nil, lay_1, lay_w, Option.map_some]
    refine test_dec (fun hb => ?_) (fun hb => ?_)
    · have hlt' : k < ps.length := by omega
      have hkp : ps[k]? = some ps[k] := List.getElem?_eq_getElem hlt'
      have hmem : ps[k] ∈ ps := List.getElem_mem hlt'
      generalize ps[k] = p at hkp hmem
      obtain ⟨p1, p2, p3⟩ := heach p hmem
      have hF := ackF_succ (ack := ack) (nxt := nxt) (ss := ss) hkp
      have hL := ackF_len (ack := ack) (nxt := nxt) (ss := ss) k ps
      generalize ackF ack nxt ss (ps.take k) = st at hF a3 o s0 s1 q3 hL
      obtain ⟨so, sk, sm⟩ := st
      simp only at hF a3 o s0 s1 q3 hL
      have hs' := hs0.ext E
      have hw' := hw0.ext E
      have hxo := o.one
      obtain ⟨l, j, hia, hll, hrow⟩ := hs'.at (m := k) (row := p.row) (by rw [List.getElem?_map, hkp]; rfl) .i64
      have hpr : p.row = [.int .i64 p.fr, .int .i64 p.to, .int .i64 p.at_, .int .i64 p.times, .bool p.sacked, .bool p.lost] := rfl
      rw [hpr] at hrow
      simp (disch := (first | omega | assumption | (simp only [push_n, set_n, put_n, List.length_cons, List.length_nil, List.length_append, Nat.reduceAdd]; done) | (simp only [push_n, set_n, put_n, List.length_cons, List.length_nil, List.length_append]; omega) | (simp only [List.all_cons, List.all_nil, one_bool, one_int, one_str, one_ptr, one_nilptr, one_slice, one_eslice, one_nilslice, one_func, one_iface, one_niliface, Bool.and_true, Bool.true_and, List.getD_cons_zero, List.getD_cons_succ, List.contains_cons, List.contains_nil, Bool.or_true, Bool.true_or, Bool.or_false, Bool.false_or, Nat.reduceBEq, *]; done) | fail)) only [i1, i2, i3, i6, i7, i9, i10, i11, q0, q3, q4, hlv, hia, hrow, go_sem, Hold.p, HoldK.k, HoldL.K, HoldL.body, Nat.reduceBEq, Nat.reduceAdd, List.getElem?_cons_zero, List.getElem?_cons_succ, Option.bind_some, List.map_cons, List.map_nil, Nat.zero_add, if_true, List.getD_cons_zero, List.getD_cons_succ, List.contains_cons, List.contains_nil, Nat.reduceBEq, Bool.or_true, Bool.true_or, Bool.or_false, Bool.false_or, Bool.not_true, Bool.not_false, true_and, and_true, rowA_whole, mid_get, stO_mid, rowO_rows, cellO_rows, push_n, set_n, push_at, push_old, set_here, set_there, set_pushT, set_pushN, set_set, upd_ne, Nat.add_assoc, Nat.reduceAdd, Nat.add_zero, stO_1s, stO_ws, boxA_s, List.all_cons, List.all_nil, one_bool, one_int, one_str, one_ptr, one_nilptr, one_slice, one_eslice, one_nilslice, one_func, one_iface, one_niliface, Bool.and_true, Bool.and_self, List.length_cons, List.length_nil, Nat.one_ne_zero, Nat.succ_ne_zero, reduceIte, if_false, List.getElem?_cons_zero, List.set_cons_zero, List.set_cons_succ, lay_nil, lay_1, lay_w, Option.map_some]
      refine test_dec (fun hto => ?_) (fun hto => ?_)
      · have hS : ackS ack nxt ss (so, sk, sm) p = (so, sk, if (decide (p.times = 1) && !p.sacked) = true then p.at_ else sm) := by unfold ackS; rw [if_pos hto]
        rw [hS] at hF
        generalize hq_g5 : IH.push g (IObj.rows [[.int .i64 p.fr, .int .i64 p.to, .int .i64 p.at_, .int .i64 p.times, .bool p.sacked, .bool p.lost]] 113 6 false) = g5
        have e_g5 : Ext g g5 := by rw [← hq_g5]; exact (Ext.refl _).push _
        have l_g5 : g5.n = g.n + 1 := by rw [← hq_g5]; rfl
        have a5 : At g5 g.n (IObj.rows [[.int .i64 p.fr, .int .i64 p.to, .int .i64 p.at_, .int .i64 p.times, .bool p.sacked, .bool p.lost]] 113 6 false) := by rw [← hq_g5]; exact At.new _ _
        clear hq_g5
        have a0 := a0.ext e_g5
        have a1 := a1.ext e_g5
        have a2 := a2.ext e_g5
        have a3 := a3.ext e_g5
        have a4 := a4.ext e_g5
        have o := o.ext e_g5
        have E := E.ext e_g5
        have r3 := a3.eq
        have r5 := a5.eq
        try simp (disch := (first | omega | assumption | (simp only [push_n, set_n, put_n, List.length_cons, List.length_nil, List.length_append, Nat.reduceAdd]; done) | (simp only [push_n, set_n, put_n, List.length_cons, List.length_nil, List.length_append]; omega) | (simp only [List.all_cons, List.all_nil, one_bool, one_int, one_str, one_ptr, one_nilptr, one_slice, one_eslice, one_nilslice, one_func, one_iface, one_niliface, Bool.and_true, Bool.true_and, List.getD_cons_zero, List.getD_cons_succ, List.contains_cons, List.contains_nil, Bool.or_true, Bool.true_or, Bool.or_false, Bool.false_or, Nat.reduceBEq, *]; done) | fail)) only [i1, i2, i3, i6, i7, i9, i10, i11, r3, r5, go_sem, Hold.p, HoldK.k, HoldL.K, HoldL.body, Nat.reduceBEq, Nat.reduceAdd, List.getElem?_cons_zero, List.getElem?_cons_succ, Option.bind_some, List.map_cons, List.map_nil, Nat.zero_add, if_true, List.getD_cons_zero, List.getD_cons_succ, List.contains_cons, List.contains_nil, Nat.reduceBEq, Bool.or_true, Bool.true_or, Bool.or_false, Bool.false_or, Bool.not_true, Bool.not_false, true_and, and_true, rowA_whole, mid_get, stO_mid, rowO_rows, cellO_rows, push_n, set_n, push_at, push_old, set_here, set_there, set_pushT, set_pushN, set_set, upd_ne, Nat.add_assoc, Nat.reduceAdd, Nat.add_zero, stO_1s, stO_ws, boxA_s, List.all_cons, List.all_nil, one_bool, one_int, one_str, one_ptr, one_nilptr, one_slice, one_eslice, one_nilslice, one_func, one_iface, one_niliface, Bool.and_true, Bool.and_self, List.length_cons, List.length_nil, Nat.one_ne_zero, Nat.succ_ne_zero, reduceIte, if_false, List.getElem?_cons_zero, List.set_cons_zero, List.set_cons_succ, lay_nil, lay_1, lay_w, Option.map_some]
        refine test_of (fun ht => ?_) (fun ht => ?_)
        · rw [if_pos ht] at hF
          simp (disch := (first | omega | assumption | (simp only [push_n, set_n, put_n, List.length_cons, List.length_nil, List.length_append, Nat.reduceAdd]; done) | (simp only [push_n, set_n, put_n, List.length_cons, List.length_nil, List.length_append]; omega) | (simp only [List.all_cons, List.all_nil, one_bool, one_int, one_str, one_ptr, one_nilptr, one_slice, one_eslice, one_nilslice, one_func, one_iface, one_niliface, Bool.and_true, Bool.true_and, List.getD_cons_zero, List.getD_cons_succ, List.contains_cons, List.contains_nil, Bool.or_true, Bool.true_or, Bool.or_false, Bool.false_or, Nat.reduceBEq, *]; done) | fail)) only [i1, i2, i3, i6, i7, i9, i10, i11, r3, r5, go_sem, Hold.p, HoldK.k, HoldL.K, HoldL.body, Nat.reduceBEq, Nat.reduceAdd, List.getElem?_cons_zero, List.getElem?_cons_succ, Option.bind_some, List.map_cons, List.map_nil, Nat.zero_add, if_true, List.getD_cons_zero, List.getD_cons_succ, List.contains_cons, List.contains_nil, Nat.reduceBEq, Bool.or_true, Bool.true_or, Bool.or_false, Bool.false_or, Bool.not_true, Bool.not_false, true_and, and_true, rowA_whole, mid_get, stO_mid, rowO_rows, cellO_rows, push_n, set_n, push_at, push_old, set_here, set_there, set_pushT, set_pushN, set_set, upd_ne, Nat.add_assoc, Nat.reduceAdd, Nat.add_zero, stO_1s, stO_ws, boxA_s, List.all_cons, List.all_nil, one_bool, one_int, one_str, one_ptr, one_nilptr, one_slice, one_eslice, one_nilslice, one_func, one_iface, one_niliface, Bool.and_true, Bool.and_self, List.length_cons, List.length_nil, Nat.one_ne_zero, Nat.succ_ne_zero, reduceIte, if_false, List.getElem?_cons_zero, List.set_cons_zero, List.set_cons_succ, lay_nil, lay_1, lay_w, Option.map_some]
          refine ⟨_, ?_, k + 1, x, lo, hi, rfl, by omega, wr64_succ k (by omega), E.set _ (by omega) _, hlo, hlh, by omega, a0.set (by omega), a1.set (by omega), a2.set (by omega), ?_, a4.set (by omega), ?_, ?_, ?_⟩
          · omega
          · rw [hF]; exact a3.here
          · rw [hF]; exact o.set (by omega) _
          · rw [hF]; exact s0
          · rw [hF]; simp only; omega
        · have ht' : ¬ (decide (p.times = 1) && !p.sacked) = true := by rw [ht]; simp
          rw [if_neg ht'] at hF
          simp (disch := (first | omega | assumption | (simp only [push_n, set_n, put_n, List.length_cons, List.length_nil, List.length_append, Nat.reduceAdd]; done) | (simp only [push_n, set_n, put_n, List.length_cons, List.length_nil, List.length_append]; omega) | (simp only [List.all_cons, List.all_nil, one_bool, one_int, one_str, one_ptr, one_nilptr, one_slice, one_eslice, one_nilslice, one_func, one_iface, one_niliface, Bool.and_true, Bool.true_and, List.getD_cons_zero, List.getD_cons_succ, List.contains_cons, List.contains_nil, Bool.or_true, Bool.true_or, Bool.or_false, Bool.false_or, Nat.reduceBEq, *]; done) | fail)) only [i1, i2, i3, i6, i7, i9, i10, i11, r3, r5, go_sem, Hold.p, HoldK.k, HoldL.K, HoldL.body, Nat.reduceBEq, Nat.reduceAdd, List.getElem?_cons_zero, List.getElem?_cons_succ, Option.bind_some, List.map_cons, List.map_nil, Nat.zero_add, if_true, List.getD_cons_zero, List.getD_cons_succ, List.contains_cons, List.contains_nil, Nat.reduceBEq, Bool.or_true, Bool.true_or, Bool.or_false, Bool.false_or, Bool.not_true, Bool.not_false, true_and, and_true, rowA_whole, mid_get, stO_mid, rowO_rows, cellO_rows, push_n, set_n, push_at, push_old, set_here, set_there, set_pushT, set_pushN, set_set, upd_ne, Nat.add_assoc, Nat.reduceAdd, Nat.add_zero, stO_1s, stO_ws, boxA_s, List.all_cons, List.all_nil, one_bool, one_int, one_str, one_ptr, one_nilptr, one_slice, one_eslice, one_nilslice, one_func, one_iface, one_niliface, Bool.and_true, Bool.and_self, List.length_cons, List.length_nil, Nat.one_ne_zero, Nat.succ_ne_zero, reduceIte, if_false, List.getElem?_cons_zero, List.set_cons_zero, List.set_cons_succ, lay_nil, lay_1, lay_w, Option.map_some]
          refine ⟨_, ?_, k + 1, x, lo, hi, rfl, by omega, wr64_succ k (by omega), E, hlo, hlh, by omega, a0, a1, a2, ?_, a4, ?_, ?_, ?_⟩
          · omega
          · rw [hF]; exact a3
          · rw [hF]; exact o
          · rw [hF]; exact s0
          · rw [hF]; simp only; omega
      · have hS : ackS ack nxt ss (so, sk, sm) p = (so ++ [ackQ ack nxt ss p], sk + ackD ack nxt ss p, sm) := by unfold ackS; rw [if_neg hto]
        rw [hS] at hF
        simp (disch := (first | omega | assumption | (simp only [push_n, set_n, put_n, List.length_cons, List.length_nil, List.length_append, Nat.reduceAdd]; done) | (simp only [push_n, set_n, put_n, List.length_cons, List.length_nil, List.length_append]; omega) | (simp only [List.all_cons, List.all_nil, one_bool, one_int, one_str, one_ptr, one_nilptr, one_slice, one_eslice, one_nilslice, one_func, one_iface, one_niliface, Bool.and_true, Bool.true_and, List.getD_cons_zero, List.getD_cons_succ, List.contains_cons, List.contains_nil, Bool.or_true, Bool.true_or, Bool.or_false, Bool.false_or, Nat.reduceBEq, *]; done) | fail)) only [i1, i2, i3, i6, i7, i9, i10, i11, go_sem, Hold.p, HoldK.k, HoldL.K, HoldL.body, Nat.reduceBEq, Nat.reduceAdd, List.getElem?_cons_zero, List.getElem?_cons_succ, Option.bind_some, List.map_cons, List.map_nil, Nat.zero_add, if_true, List.getD_cons_zero, List.getD_cons_succ, List.contains_cons, List.contains_nil, Nat.reduceBEq, Bool.or_true, Bool.true_or, Bool.or_false, Bool.false_or, Bool.not_true, Bool.not_false, true_and, and_true, rowA_whole, mid_get, stO_mid, rowO_rows, cellO_rows, push_n, set_n, push_at, push_old, set_here, set_there, set_pushT, set_pushN, set_set, upd_ne, Nat.add_assoc, Nat.reduceAdd, Nat.add_zero, stO_1s, stO_ws, boxA_s, List.all_cons, List.all_nil, one_bool, one_int, one_str, one_ptr, one_nilptr, one_slice, one_eslice, one_nilslice, one_func, one_iface, one_niliface, Bool.and_true, Bool.and_self, List.length_cons, List.length_nil, Nat.one_ne_zero, Nat.succ_ne_zero, reduceIte, if_false, List.getElem?_cons_zero, List.set_cons_zero, List.set_cons_succ, lay_nil, lay_1, lay_w, Option.map_some]
        refine callA_of (l14Max_c _ _ _) ?_
        rintro r g5 ⟨rfl, rfl⟩
        have wm : max p.fr ack ≤ p.to := by omega
        have wm0 : 0 ≤ max p.fr ack := by omega
        cases hsk : p.sacked
        · simp (disch := (first | omega | assumption | (simp only [push_n, set_n, put_n, List.length_cons, List.length_nil, List.length_append, Nat.reduceAdd]; done) | (simp only [push_n, set_n, put_n, List.length_cons, List.length_nil, List.length_append]; omega) | (simp only [List.all_cons, List.all_nil, one_bool, one_int, one_str, one_ptr, one_nilptr, one_slice, one_eslice, one_nilslice, one_func, one_iface, one_niliface, Bool.and_true, Bool.true_and, List.getD_cons_zero, List.getD_cons_succ, List.contains_cons, List.contains_nil, Bool.or_true, Bool.true_or, Bool.or_false, Bool.false_or, Nat.reduceBEq, *]; done) | fail)) only [i1, i2, i3, i6, i7, i9, i10, i11, hsk, q4, go_sem, Hold.p, HoldK.k, HoldL.K, HoldL.body, Nat.reduceBEq, Nat.reduceAdd, List.getElem?_cons_zero, List.getElem?_cons_succ, Option.bind_some, List.map_cons, List.map_nil, Nat.zero_add, if_true, List.getD_cons_zero, List.getD_cons_succ, List.contains_cons, List.contains_nil, Nat.reduceBEq, Bool.or_true, Bool.true_or, Bool.or_false, Bool.false_or, Bool.not_true, Bool.not_false, true_and, and_true, rowA_whole, mid_get, stO_mid, rowO_rows, cellO_rows, push_n, set_n, push_at, push_old, set_here, set_there, set_pushT, set_pushN, set_set, upd_ne, Nat.add_assoc, Nat.reduceAdd, Nat.add_zero, stO_1s, stO_ws, boxA_s, List.all_cons, List.all_nil, one_bool, one_int, one_str, one_ptr, one_nilptr, one_slice, one_eslice, one_nilslice, one_func, one_iface, one_niliface, Bool.and_true, Bool.and_self, List.length_cons, List.length_nil, Nat.one_ne_zero, Nat.succ_ne_zero, reduceIte, if_false, List.getElem?_cons_zero, List.set_cons_zero, List.set_cons_succ, lay_nil, lay_1, lay_w, Option.map_some]
          generalize hq_g6 : IH.push g (IObj.rows [[.int .i64 (max p.fr ack), .int .i64 p.to, .int .i64 p.at_, .int .i64 p.times, .bool false, .bool p.lost]] 113 6 false) = g6
          have e_g6 : Ext g g6 := by rw [← hq_g6]; exact (Ext.refl _).push _
          have l_g6 : g6.n = g.n + 1 := by rw [← hq_g6]; rfl
          have a5 : At g6 g.n (IObj.rows [[.int .i64 (max p.fr ack), .int .i64 p.to, .int .i64 p.at_, .int .i64 p.times, .bool false, .bool p.lost]] 113 6 false) := by rw [← hq_g6]; exact At.new _ _
          clear hq_g6
          have a0 := a0.ext e_g6
          have a1 := a1.ext e_g6
          have a2 := a2.ext e_g6
          have a3 := a3.ext e_g6
          have a4 := a4.ext e_g6
          have o := o.ext e_g6
          have E := E.ext e_g6
          have hw' := hw'.ext e_g6
          refine callA_of (l15Within_c g6 ⟨max p.fr ack, p.to, p.at_, p.times, false, p.lost⟩ ack nxt x w hxo ss hw' hm) ?_
          rintro r g7 ⟨rfl, E7⟩
          have a0 := a0.ext E7
          have a1 := a1.ext E7
          have a2 := a2.ext E7
          have a3 := a3.ext E7
          have a4 := a4.ext E7
          have a5 := a5.ext E7
          have o := o.ext E7
          have le_E7 := E7.le
          have E := E.trans E7
          have r3 := a3.eq
          have r4 := a4.eq
          have r5 := a5.eq
          simp only
          cases hwi : within ack nxt (max p.fr ack) p.to ss
          · have hq : ackQ ack nxt ss p = ⟨max p.fr ack, p.to, p.at_, p.times, false, p.lost⟩ := by unfold ackQ ackC; rw [hsk, hwi]; rfl
            have hd : ackD ack nxt ss p = 0 := by unfold ackD ackC; rw [hsk, hwi]; rfl
            rw [hq, hd] at hF
            simp (disch := (first | omega | assumption | (simp only [push_n, set_n, put_n, List.length_cons, List.length_nil, List.length_append, Nat.reduceAdd]; done) | (simp only [push_n, set_n, put_n, List.length_cons, List.length_nil, List.length_append]; omega) | (simp only [List.all_cons, List.all_nil, one_bool, one_int, one_str, one_ptr, one_nilptr, one_slice, one_eslice, one_nilslice, one_func, one_iface, one_niliface, Bool.and_true, Bool.true_and, List.getD_cons_zero, List.getD_cons_succ, List.contains_cons, List.contains_nil, Bool.or_true, Bool.true_or, Bool.or_false, Bool.false_or, Nat.reduceBEq, *]; done) | fail)) only [i1, i2, i3, i6, i7, i9, i10, i11, r3, r4, r5, hwi, go_sem, Hold.p, HoldK.k, HoldL.K, HoldL.body, Nat.reduceBEq, Nat.reduceAdd, List.getElem?_cons_zero, List.getElem?_cons_succ, Option.bind_some, List.map_cons, List.map_nil, Nat.zero_add, if_true, List.getD_cons_zero, List.getD_cons_succ, List.contains_cons, List.contains_nil, Nat.reduceBEq, Bool.or_true, Bool.true_or, Bool.or_false, Bool.false_or, Bool.not_true, Bool.not_false, true_and, and_true, rowA_whole, mid_get, stO_mid, rowO_rows, cellO_rows, push_n, set_n, push_at, push_old, set_here, set_there, set_pushT, set_pushN, set_set, upd_ne, Nat.add_assoc, Nat.reduceAdd, Nat.add_zero, stO_1s, stO_ws, boxA_s, List.all_cons, List.all_nil, one_bool, one_int, one_str, one_ptr, one_nilptr, one_slice, one_eslice, one_nilslice, one_func, one_iface, one_niliface, Bool.and_true, Bool.and_self, List.length_cons, List.length_nil, Nat.one_ne_zero, Nat.succ_ne_zero, reduceIte, if_false, List.getElem?_cons_zero, List.set_cons_zero, List.set_cons_succ, lay_nil, lay_1, lay_w, Option.map_some]
            generalize hq_g8 : IH.push g7 (IObj.rows [[.int .i64 (max p.fr ack), .int .i64 p.to, .int .i64 p.at_, .int .i64 p.times, .bool false, .bool p.lost]] 113 6 false) = g8
            have e_g8 : Ext g7 g8 := by rw [← hq_g8]; exact (Ext.refl _).push _
            have l_g8 : g8.n = g7.n + 1 := by rw [← hq_g8]; rfl
            have a8 : At g8 g7.n (IObj.rows [[.int .i64 (max p.fr ack), .int .i64 p.to, .int .i64 p.at_, .int .i64 p.times, .bool false, .bool p.lost]] 113 6 false) := by rw [← hq_g8]; exact At.new _ _
            clear hq_g8
            have a0 := a0.ext e_g8
            have a1 := a1.ext e_g8
            have a2 := a2.ext e_g8
            have a3 := a3.ext e_g8
            have a4 := a4.ext e_g8
            have o := o.ext e_g8
            have E := E.ext e_g8
            refine o.app (by simp) (by rw [List.length_map, List.length_singleton]; omega) ?_
            intro v9 h9 o9 t9 n9 v9o v9c
            have a0 := a0.turn o (by omega) t9
            have a1 := a1.turn o (by omega) t9
            have a2 := a2.turn o (by omega) t9
            have a3 := a3.turn o (by omega) t9
            have a4 := a4.turn o (by omega) t9
            have E := E.turn o (by omega) t9
            have le_t9 := t9.le
            have r4 := a4.eq
            simp (disch := (first | omega | assumption | (simp only [push_n, set_n, put_n, List.length_cons, List.length_nil, List.length_append, Nat.reduceAdd]; done) | (simp only [push_n, set_n, put_n, List.length_cons, List.length_nil, List.length_append]; omega) | (simp only [List.all_cons, List.all_nil, one_bool, one_int, one_str, one_ptr, one_nilptr, one_slice, one_eslice, one_nilslice, one_func, one_iface, one_niliface, Bool.and_true, Bool.true_and, List.getD_cons_zero, List.getD_cons_succ, List.contains_cons, List.contains_nil, Bool.or_true, Bool.true_or, Bool.or_false, Bool.false_or, Nat.reduceBEq, *]; done) | fail)) only [i1, i2, i3, i6, i7, i9, i10, i11, r4, v9c, go_sem, Hold.p, HoldK.k, HoldL.K, HoldL.body, Nat.reduceBEq, Nat.reduceAdd, List.getElem?_cons_zero, List.getElem?_cons_succ, Option.bind_some, List.map_cons, List.map_nil, Nat.zero_add, if_true, List.getD_cons_zero, List.getD_cons_succ, List.contains_cons, List.contains_nil, Nat.reduceBEq, Bool.or_true, Bool.true_or, Bool.or_false, Bool.false_or, Bool.not_true, Bool.not_false, true_and, and_true, rowA_whole, mid_get, stO_mid, rowO_rows, cellO_rows, push_n, set_n, push_at, push_old, set_here, set_there, set_pushT, set_pushN, set_set, upd_ne, Nat.add_assoc, Nat.reduceAdd, Nat.add_zero, stO_1s, stO_ws, boxA_s, List.all_cons, List.all_nil, one_bool, one_int, one_str, one_ptr, one_nilptr, one_slice, one_eslice, one_nilslice, one_func, one_iface, one_niliface, Bool.and_true, Bool.and_self, List.length_cons, List.length_nil, Nat.one_ne_zero, Nat.succ_ne_zero, reduceIte, if_false, List.getElem?_cons_zero, List.set_cons_zero, List.set_cons_succ, lay_nil, lay_1, lay_w, Option.map_some]
            refine ⟨_, ?_, k + 1, v9, g8.n, g8.n + 1, rfl, by omega, wr64_succ k (by omega), E.set _ (by omega) _, by omega, by omega, by omega, a0.set (by omega), a1.set (by omega), a2.set (by omega), ?_, a4.here, ?_, ?_, ?_⟩
            · omega
            · rw [hF]; simp only [Int.add_zero]; exact a3.set (by omega)
            · rw [hF]; simp only [List.map_append]; exact o9.set (by omega) _
            · rw [hF]; simp only; omega
            · rw [hF]; simp only; omega
          · have hq : ackQ ack nxt ss p = ⟨max p.fr ack, p.to, p.at_, p.times, true, false⟩ := by unfold ackQ ackC; rw [hsk, hwi]; rfl
            have hd : ackD ack nxt ss p = p.to - max p.fr ack := by unfold ackD ackC; rw [hsk, hwi]; rfl
            rw [hq, hd] at hF
            have w1 : wr .i64 (sk + p.to) = sk + p.to := wr64 _ (by omega)
            have w2 : wr .i64 (sk + p.to - max p.fr ack) = sk + (p.to - max p.fr ack) := by rw [wr64 _ (by omega)]; omega
            simp (disch := (first | omega | assumption | (simp only [push_n, set_n, put_n, List.length_cons, List.length_nil, List.length_append, Nat.reduceAdd]; done) | (simp only [push_n, set_n, put_n, List.length_cons, List.length_nil, List.length_append]; omega) | (simp only [List.all_cons, List.all_nil, one_bool, one_int, one_str, one_ptr, one_nilptr, one_slice, one_eslice, one_nilslice, one_func, one_iface, one_niliface, Bool.and_true, Bool.true_and, List.getD_cons_zero, List.getD_cons_succ, List.contains_cons, List.contains_nil, Bool.or_true, Bool.true_or, Bool.or_false, Bool.false_or, Nat.reduceBEq, *]; done) | fail)) only [i1, i2, i3, i6, i7, i9, i10, i11, r3, r4, r5, hwi, w1, w2, go_sem, Hold.p, HoldK.k, HoldL.K, HoldL.body, Nat.reduceBEq, Nat.reduceAdd, List.getElem?_cons_zero, List.getElem?_cons_succ, Option.bind_some, List.map_cons, List.map_nil, Nat.zero_add, if_true, List.getD_cons_zero, List.getD_cons_succ, List.contains_cons, List.contains_nil, Nat.reduceBEq, Bool.or_true, Bool.true_or, Bool.or_false, Bool.false_or, Bool.not_true, Bool.not_false, true_and, and_true, rowA_whole, mid_get, stO_mid, rowO_rows, cellO_rows, push_n, set_n, push_at, push_old, set_here, set_there, set_pushT, set_pushN, set_set, upd_ne, Nat.add_assoc, Nat.reduceAdd, Nat.add_zero, stO_1s, stO_ws, boxA_s, List.all_cons, List.all_nil, one_bool, one_int, one_str, one_ptr, one_nilptr, one_slice, one_eslice, one_nilslice, one_func, one_iface, one_niliface, Bool.and_true, Bool.and_self, List.length_cons, List.length_nil, Nat.one_ne_zero, Nat.succ_ne_zero, reduceIte, if_false, List.getElem?_cons_zero, List.set_cons_zero, List.set_cons_succ, lay_nil, lay_1, lay_w, Option.map_some]
            generalize hq_gA : IH.set g7 (g.n) (IObj.rows [[.int .i64 (max p.fr ack), .int .i64 p.to, .int .i64 p.at_, .int .i64 p.times, .bool true, .bool false]] 113 6 false) = gA
            have l_gA : gA.n = g7.n := by rw [← hq_gA]; rfl
            have a5 : At gA (g.n) (IObj.rows [[.int .i64 (max p.fr ack), .int .i64 p.to, .int .i64 p.at_, .int .i64 p.times, .bool true, .bool false]] 113 6 false) := by rw [← hq_gA]; exact a5.here
            have o := o.set (m := g.n) (by omega) (IObj.rows [[.int .i64 (max p.fr ack), .int .i64 p.to, .int .i64 p.at_, .int .i64 p.times, .bool true, .bool false]] 113 6 false)
            rw [hq_gA] at o
            have a0 := a0.set (p := g.n) (o' := IObj.rows [[.int .i64 (max p.fr ack), .int .i64 p.to, .int .i64 p.at_, .int .i64 p.times, .bool true, .bool false]] 113 6 false) (by omega)
            rw [hq_gA] at a0
            have a1 := a1.set (p := g.n) (o' := IObj.rows [[.int .i64 (max p.fr ack), .int .i64 p.to, .int .i64 p.at_, .int .i64 p.times, .bool true, .bool false]] 113 6 false) (by omega)
            rw [hq_gA] at a1
            have a2 := a2.set (p := g.n) (o' := IObj.rows [[.int .i64 (max p.fr ack), .int .i64 p.to, .int .i64 p.at_, .int .i64 p.times, .bool true, .bool false]] 113 6 false) (by omega)
            rw [hq_gA] at a2
            have a3 := a3.set (p := g.n) (o' := IObj.rows [[.int .i64 (max p.fr ack), .int .i64 p.to, .int .i64 p.at_, .int .i64 p.times, .bool true, .bool false]] 113 6 false) (by omega)
            rw [hq_gA] at a3
            have a4 := a4.set (p := g.n) (o' := IObj.rows [[.int .i64 (max p.fr ack), .int .i64 p.to, .int .i64 p.at_, .int .i64 p.times, .bool true, .bool false]] 113 6 false) (by omega)
            rw [hq_gA] at a4
            have E := E.set (g.n) (by omega) (IObj.rows [[.int .i64 (max p.fr ack), .int .i64 p.to, .int .i64 p.at_, .int .i64 p.times, .bool true, .bool false]] 113 6 false)
            rw [hq_gA] at E
            clear hq_gA
            generalize hq_gB : IH.set gA (g4.n) (IObj.rows [[.int .i64 (ack - una), .int .i64 (sk + (p.to - max p.fr ack)), .int .i64 sm]] 55 3 false) = gB
            have l_gB : gB.n = gA.n := by rw [← hq_gB]; rfl
            have a3 : At gB (g4.n) (IObj.rows [[.int .i64 (ack - una), .int .i64 (sk + (p.to - max p.fr ack)), .int .i64 sm]] 55 3 false) := by rw [← hq_gB]; exact a3.here
            have o := o.set (m := g4.n) (by omega) (IObj.rows [[.int .i64 (ack - una), .int .i64 (sk + (p.to - max p.fr ack)), .int .i64 sm]] 55 3 false)
            rw [hq_gB] at o
            have a0 := a0.set (p := g4.n) (o' := IObj.rows [[.int .i64 (ack - una), .int .i64 (sk + (p.to - max p.fr ack)), .int .i64 sm]] 55 3 false) (by omega)
            rw [hq_gB] at a0
            have a1 := a1.set (p := g4.n) (o' := IObj.rows [[.int .i64 (ack - una), .int .i64 (sk + (p.to - max p.fr ack)), .int .i64 sm]] 55 3 false) (by omega)
            rw [hq_gB] at a1
            have a2 := a2.set (p := g4.n) (o' := IObj.rows [[.int .i64 (ack - una), .int .i64 (sk + (p.to - max p.fr ack)), .int .i64 sm]] 55 3 false) (by omega)
            rw [hq_gB] at a2
            have a4 := a4.set (p := g4.n) (o' := IObj.rows [[.int .i64 (ack - una), .int .i64 (sk + (p.to - max p.fr ack)), .int .i64 sm]] 55 3 false) (by omega)
            rw [hq_gB] at a4
            have E := E.set (g4.n) (by omega) (IObj.rows [[.int .i64 (ack - una), .int .i64 (sk + (p.to - max p.fr ack)), .int .i64 sm]] 55 3 false)
            rw [hq_gB] at E
            clear hq_gB
            generalize hq_g8 : IH.push gB (IObj.rows [[.int .i64 (max p.fr ack), .int .i64 p.to, .int .i64 p.at_, .int .i64 p.times, .bool true, .bool false]] 113 6 false) = g8
            have e_g8 : Ext gB g8 := by rw [← hq_g8]; exact (Ext.refl _).push _
            have l_g8 : g8.n = gB.n + 1 := by rw [← hq_g8]; rfl
            have a8 : At g8 gB.n (IObj.rows [[.int .i64 (max p.fr ack), .int .i64 p.to, .int .i64 p.at_, .int .i64 p.times, .bool true, .bool false]] 113 6 false) := by rw [← hq_g8]; exact At.new _ _
            clear hq_g8
            have a0 := a0.ext e_g8
            have a1 := a1.ext e_g8
            have a2 := a2.ext e_g8
            have a3 := a3.ext e_g8
            have a4 := a4.ext e_g8
            have o := o.ext e_g8
            have E := E.ext e_g8
            refine o.app (by simp) (by rw [List.length_map, List.length_singleton]; omega) ?_
            intro v9 h9 o9 t9 n9 v9o v9c
            have a0 := a0.turn o (by omega) t9
            have a1 := a1.turn o (by omega) t9
            have a2 := a2.turn o (by omega) t9
            have a3 := a3.turn o (by omega) t9
            have a4 := a4.turn o (by omega) t9
            have E := E.turn o (by omega) t9
            have le_t9 := t9.le
            have r4 := a4.eq
            simp (disch := (first | omega | assumption | (simp only [push_n, set_n, put_n, List.length_cons, List.length_nil, List.length_append, Nat.reduceAdd]; done) | (simp only [push_n, set_n, put_n, List.length_cons, List.length_nil, List.length_append]; omega) | (simp only [List.all_cons, List.all_nil, one_bool, one_int, one_str, one_ptr, one_nilptr, one_slice, one_eslice, one_nilslice, one_func, one_iface, one_niliface, Bool.and_true, Bool.true_and, List.getD_cons_zero, List.getD_cons_succ, List.contains_cons, List.contains_nil, Bool.or_true, Bool.true_or, Bool.or_false, Bool.false_or, Nat.reduceBEq, *]; done) | fail)) only [i1, i2, i3, i6, i7, i9, i10, i11, r4, v9c, go_sem, Hold.p, HoldK.k, HoldL.K, HoldL.body, Nat.reduceBEq, Nat.reduceAdd, List.getElem?_cons_zero, List.getElem?_cons_succ, Option.bind_some, List.map_cons, List.map_nil, Nat.zero_add, if_true, List.getD_cons_zero, List.getD_cons_succ, List.contains_cons, List.contains_nil, Nat.reduceBEq, Bool.or_true, Bool.true_or, Bool.or_false, Bool.false_or, Bool.not_true, Bool.not_false, true_and, and_true, rowA_whole, mid_get, stO_mid, rowO_rows, cellO_rows, push_n, set_n, push_at, push_old, set_here, set_there, set_pushT, set_pushN, set_set, upd_ne, Nat.add_assoc, Nat.reduceAdd, Nat.add_zero, stO_1s, stO_ws, boxA_s, List.all_cons, List.all_nil, one_bool, one_int, one_str, one_ptr, one_nilptr, one_slice, one_eslice, one_nilslice, one_func, one_iface, one_niliface, Bool.and_true, Bool.and_self, List.length_cons, List.length_nil, Nat.one_ne_zero, Nat.succ_ne_zero, reduceIte, if_false, List.getElem?_cons_zero, List.set_cons_zero, List.set_cons_succ, lay_nil, lay_1, lay_w, Option.map_some]
            refine ⟨_, ?_, k + 1, v9, g8.n, g8.n + 1, rfl, by omega, wr64_succ k (by omega), E.set _ (by omega) _, by omega, by omega, by omega, a0.set (by omega), a1.set (by omega), a2.set (by omega), ?_, a4.here, ?_, ?_, ?_⟩
            · omega
            · rw [hF]; simp only; exact a3.set (by omega)
            · rw [hF]; simp only [List.map_append]; exact o9.set (by omega) _
            · rw [hF]; simp only; omega
            · rw [hF]; simp only; omega
        · have hq : ackQ ack nxt ss p = ⟨max p.fr ack, p.to, p.at_, p.times, true, p.lost⟩ := by unfold ackQ ackC; rw [hsk]; rfl
          have hd : ackD ack nxt ss p = 0 := by unfold ackD ackC; rw [hsk]; rfl
          rw [hq, hd] at hF
          simp (disch := (first | omega | assumption | (simp only [push_n, set_n, put_n, List.length_cons, List.length_nil, List.length_append, Nat.reduceAdd]; done) | (simp only [push_n, set_n, put_n, List.length_cons, List.length_nil, List.length_append]; omega) | (simp only [List.all_cons, List.all_nil, one_bool, one_int, one_str, one_ptr, one_nilptr, one_slice, one_eslice, one_nilslice, one_func, one_iface, one_niliface, Bool.and_true, Bool.true_and, List.getD_cons_zero, List.getD_cons_succ, List.contains_cons, List.contains_nil, Bool.or_true, Bool.true_or, Bool.or_false, Bool.false_or, Nat.reduceBEq, *]; done) | fail)) only [i1, i2, i3, i6, i7, i9, i10, i11, hsk, q4, go_sem, Hold.p, HoldK.k, HoldL.K, HoldL.body, Nat.reduceBEq, Nat.reduceAdd, List.getElem?_cons_zero, List.getElem?_cons_succ, Option.bind_some, List.map_cons, List.map_nil, Nat.zero_add, if_true, List.getD_cons_zero, List.getD_cons_succ, List.contains_cons, List.contains_nil, Nat.reduceBEq, Bool.or_true, Bool.true_or, Bool.or_false, Bool.false_or, Bool.not_true, Bool.not_false, true_and, and_true, rowA_whole, mid_get, stO_mid, rowO_rows, cellO_rows, push_n, set_n, push_at, push_old, set_here, set_there, set_pushT, set_pushN, set_set, upd_ne, Nat.add_assoc, Nat.reduceAdd, Nat.add_zero, stO_1s, stO_ws, boxA_s, List.all_cons, List.all_nil, one_bool, one_int, one_str, one_ptr, one_nilptr, one_slice, one_eslice, one_nilslice, one_func, one_iface, one_niliface, Bool.and_true, Bool.and_self, List.length_cons, List.length_nil, Nat.one_ne_zero, Nat.succ_ne_zero, reduceIte, if_false, List.getElem?_cons_zero, List.set_cons_zero, List.set_cons_succ, lay_nil, lay_1, lay_w, Option.map_some]
          generalize hq_g7 : IH.push g (IObj.rows [[.int .i64 (max p.fr ack), .int .i64 p.to, .int .i64 p.at_, .int .i64 p.times, .bool true, .bool p.lost]] 113 6 false) = g7
          have e_g7 : Ext g g7 := by rw [← hq_g7]; exact (Ext.refl _).push _
          have l_g7 : g7.n = g.n + 1 := by rw [← hq_g7]; rfl
          have a5 : At g7 g.n (IObj.rows [[.int .i64 (max p.fr ack), .int .i64 p.to, .int .i64 p.at_, .int .i64 p.times, .bool true, .bool p.lost]] 113 6 false) := by rw [← hq_g7]; exact At.new _ _
          clear hq_g7
          have a0 := a0.ext e_g7
          have a1 := a1.ext e_g7
          have a2 := a2.ext e_g7
          have a3 := a3.ext e_g7
          have a4 := a4.ext e_g7
          have o := o.ext e_g7
          have E := E.ext e_g7
          generalize hq_g8 : IH.push g7 (IObj.rows [[.int .i64 (max p.fr ack), .int .i64 p.to, .int .i64 p.at_, .int .i64 p.times, .bool true, .bool p.lost]] 113 6 false) = g8
          have e_g8 : Ext g7 g8 := by rw [← hq_g8]; exact (Ext.refl _).push _
          have l_g8 : g8.n = g7.n + 1 := by rw [← hq_g8]; rfl
          have a8 : At g8 g7.n (IObj.rows [[.int .i64 (max p.fr ack), .int .i64 p.to, .int .i64 p.at_, .int .i64 p.times, .bool true, .bool p.lost]] 113 6 false) := by rw [← hq_g8]; exact At.new _ _
          clear hq_g8
          have a0 := a0.ext e_g8
          have a1 := a1.ext e_g8
          have a2 := a2.ext e_g8
          have a3 := a3.ext e_g8
          have a4 := a4.ext e_g8
          have o := o.ext e_g8
          have E := E.ext e_g8
          refine o.app (by simp) (by rw [List.length_map, List.length_singleton]; omega) ?_
          intro v9 h9 o9 t9 n9 v9o v9c
          have a0 := a0.turn o (by omega) t9
          have a1 := a1.turn o (by omega) t9
          have a2 := a2.turn o (by omega) t9
          have a3 := a3.turn o (by omega) t9
          have a4 := a4.turn o (by omega) t9
          have E := E.turn o (by omega) t9
          have le_t9 := t9.le
          have r4 := a4.eq
          simp (disch := (first | omega | assumption | (simp only [push_n, set_n, put_n, List.length_cons, List.length_nil, List.length_append, Nat.reduceAdd]; done) | (simp only [push_n, set_n, put_n, List.length_cons, List.length_nil, List.length_append]; omega) | (simp only [List.all_cons, List.all_nil, one_bool, one_int, one_str, one_ptr, one_nilptr, one_slice, one_eslice, one_nilslice, one_func, one_iface, one_niliface, Bool.and_true, Bool.true_and, List.getD_cons_zero, List.getD_cons_succ, List.contains_cons, List.contains_nil, Bool.or_true, Bool.true_or, Bool.or_false, Bool.false_or, Nat.reduceBEq, *]; done) | fail)) only [i1, i2, i3, i6, i7, i9, i10, i11, r4, v9c, go_sem, Hold.p, HoldK.k, HoldL.K, HoldL.body, Nat.reduceBEq, Nat.reduceAdd, List.getElem?_cons_zero, List.getElem?_cons_succ, Option.bind_some, List.map_cons, List.map_nil, Nat.zero_add, if_true, List.getD_cons_zero, List.getD_cons_succ, List.contains_cons, List.contains_nil, Nat.reduceBEq, Bool.or_true, Bool.true_or, Bool.or_false, Bool.false_or, Bool.not_true, Bool.not_false, true_and, and_true, rowA_whole, mid_get, stO_mid, rowO_rows, cellO_rows, push_n, set_n, push_at, push_old, set_here, set_there, set_pushT, set_pushN, set_set, upd_ne, Nat.add_assoc, Nat.reduceAdd, Nat.add_zero, stO_1s, stO_ws, boxA_s, List.all_cons, List.all_nil, one_bool, one_int, one_str, one_ptr, one_nilptr, one_slice, one_eslice, one_nilslice, one_func, one_iface, one_niliface, Bool.and_true, Bool.and_self, List.length_cons, List.length_nil, Nat.one_ne_zero, Nat.succ_ne_zero, reduceIte, if_false, List.getElem?_cons_zero, List.set_cons_zero, List.set_cons_succ, lay_nil, lay_1, lay_w, Option.map_some]
          refine ⟨_, ?_, k + 1, v9, g8.n, g8.n + 1, rfl, by omega, wr64_succ k (by omega), E.set _ (by omega) _, by omega, by omega, by omega, a0.set (by omega), a1.set (by omega), a2.set (by omega), ?_, a4.here, ?_, ?_, ?_⟩
          · omega
          · rw [hF]; simp only [Int.add_zero]; exact a3.set (by omega)
          · rw [hF]; simp only [List.map_append]; exact o9.set (by omega) _
          · rw [hF]; simp only; omega
          · rw [hF]; simp only; omega
    · obtain rfl : k = ps.length := by omega
      rw [List.take_length] at a3 o s0 s1
      have q1 := a1.eq
      have q2 := a2.eq
      have hxo := o.one
      simp (disch := (first | omega | assumption | (simp only [push_n, set_n, put_n, List.length_cons, List.length_nil, List.length_append, Nat.reduceAdd]; done) | (simp only [push_n, set_n, put_n, List.length_cons, List.length_nil, List.length_append]; omega) | (simp only [List.all_cons, List.all_nil, one_bool, one_int, one_str, one_ptr, one_nilptr, one_slice, one_eslice, one_nilslice, one_func, one_iface, one_niliface, Bool.and_true, Bool.true_and, List.getD_cons_zero, List.getD_cons_succ, List.contains_cons, List.contains_nil, Bool.or_true, Bool.true_or, Bool.or_false, Bool.false_or, Nat.reduceBEq, *]; done) | fail)) only [i1, i2, i3, i6, i7, i9, i10, i11, q0, q1, q2, q3, q4, hlv, go_sem, Hold.p, HoldK.k, HoldL.K, HoldL.body, Nat.reduceBEq, Nat.reduceAdd, List.getElem?_cons_zero, List.getElem?_cons_succ, Option.bind_some, List.map_cons, List.map_nil, Nat.zero_add, if_true, List.getD_cons_zero, List.getD_cons_succ, List.contains_cons, List.contains_nil, Nat.reduceBEq, Bool.or_true, Bool.true_or, Bool.or_false, Bool.false_or, Bool.not_true, Bool.not_false, true_and, and_true, rowA_whole, mid_get, stO_mid, rowO_rows, cellO_rows, push_n, set_n, push_at, push_old, set_here, set_there, set_pushT, set_pushN, set_set, upd_ne, Nat.add_assoc, Nat.reduceAdd, Nat.add_zero, stO_1s, stO_ws, boxA_s, List.all_cons, List.all_nil, one_bool, one_int, one_str, one_ptr, one_nilptr, one_slice, one_eslice, one_nilslice, one_func, one_iface, one_niliface, Bool.and_true, Bool.and_self, List.length_cons, List.length_nil, Nat.one_ne_zero, Nat.succ_ne_zero, reduceIte, if_false, List.getElem?_cons_zero, List.set_cons_zero, List.set_cons_succ, lay_nil, lay_1, lay_w, Option.map_some]
      unfold ackB
      rw [if_pos ⟨hok, hg⟩, List.take_length]
      refine ⟨x, rfl, ?_, (E.set g0.n (by omega) _).set g1.n (by omega) _⟩
      exact ((o.set (m := g0.n) (by omega) _).set (m := g1.n) (by omega) _).wide (lo' := h.n) (hi' := g.n) (by omega) hhi (Nat.le_refl _)
end Go.Proofs.Ytecljenjlncfhaa
