import Derived.Test.YtecljenjlncfhaaCH
namespace Go.Proofs.Ytecljenjlncfhaa
open Go Go.IW
set_option linter.unusedSimpArgs false
set_option linter.unusedVariables false

theorem splitP_bound {most : Int} (h1 : 1 ≤ most) (h2 : most ≤ 65535) : ∀ (ps : List Piece), (∀ p ∈ ps, 0 ≤ p.fr ∧ p.fr < p.to ∧ p.to ≤ 1099511627776) → (splitP most ps).length ≤ ps.length * 2199023255552
  | [], _ => by simp [splitP]
  | p :: r, h => by
    have i := splitP_bound h1 h2 r (fun q hq => h q (by simp [hq]))
    have hp := h p (by simp)
    have hc := cut_len h1 (p.to - p.fr).toNat p (Nat.le_refl _) hp.2.1
    have : (p.to - p.fr + most - 1) / most ≤ p.to - p.fr + most - 1 := Int.ediv_le_self _ (by omega)
    have e : splitP most (p :: r) = cut most p ++ splitP most r := by simp [splitP]
    rw [e, List.length_append, List.length_cons]
    omega

set_option maxRecDepth 20000 in
theorem specBoardSplit_c (h : IH) (v : IV) (una nxt most : Int) (ps : List Piece) (hs : SlR h 6 v (ps.map Piece.row)) :
    ICalls Try.prog 35 [.agg [.int .i64 una, .int .i64 nxt, v], .int .i64 most] h fun r h' => BRes h h' r (splitB una nxt ps most) := by
  refine icalls (.of ok35) (Nat.le_of_ble_eq_true rfl) ?_
  unfold c35
  have hv1 := hs.one
  have hlen := hs.lenF
  rw [List.length_map] at hlen
  have hE : ∀ a b, Ext h ((h.push a).push b) := fun a b => (Ext.refl _).push _ |>.push _
  simp only [hv1, go_sem, Hold.p, HoldK.k, HoldL.K, HoldL.body, Nat.reduceBEq, Nat.reduceAdd, List.getElem?_cons_zero, List.getElem?_cons_succ, Option.bind_some, List.map_cons, List.map_nil, Nat.zero_add, if_true, List.getD_cons_zero, List.getD_cons_succ, List.contains_cons, List.contains_nil, Nat.reduceBEq, Bool.or_true, Bool.true_or, Bool.or_false, Bool.false_or, Bool.not_true, Bool.not_false, true_and, and_true, rowA_whole, push_n, set_n, push_obj, set_obj, set_push, set_push_ne, set_set, Nat.add_assoc, Nat.left_eq_add, Nat.add_eq_left, Nat.add_left_cancel_iff, Nat.reduceEqDiff, stO_1s, stO_ws, boxA_s, one_bool, one_int, one_str, one_ptr, one_nilptr, one_slice, one_eslice, one_nilslice, one_func, one_iface, one_niliface, List.all_cons, List.all_nil, List.length_cons, List.length_nil, Nat.reduceLT, Nat.reduceEqDiff, Nat.reduceLeDiff, Bool.and_true, Nat.one_ne_zero, Nat.succ_ne_zero, reduceIte, if_false, List.getElem?_cons_zero, List.set_cons_zero, List.set_cons_succ]
  refine callA_of (l15OK_c _ una nxt v ps (hs.ext (hE _ _))) ?_
  rintro r h1 ⟨rfl, hE1⟩
  have b0 := hE1.obj h.n (by simp only [push_n]; omega)
  have b1 := hE1.obj (h.n + 1) (by simp only [push_n]; omega)
  simp [push_obj, push_n] at b0 b1
  have hl1 := hE1.le
  simp only [push_n] at hl1
  have bad : ∀ (h2 : IH) (o : IObj) c, Ext h h2 → (splitB una nxt ps most) = (0, 0, [], c) → BRes h (h2.set (h.n + 1) o) (.tuple [.agg [.int .i64 0, .int .i64 0, .nilslice], .int .i64 c]) (splitB una nxt ps most) := by
    intro h2 o c e2 e
    rw [e]
    exact ⟨.nilslice, rfl, Own.nil, e2.set _ (by omega) _⟩
  by_cases hc : okB una nxt ps = true ∧ (1 ≤ most ∧ most ≤ 65535)
  · obtain ⟨hok, n1, n2⟩ := hc
    have hdef : splitB una nxt ps most = if 4096 < (splitP most ps).length then (0, 0, [], 18) else (una, nxt, splitP most ps, 0) := if_pos ⟨hok, ⟨n1, n2⟩⟩
    obtain ⟨o1, o2, o3, o4, o5⟩ := okB_un hok
    have hw := okB_each hok
    have q1 : (decide (1 ≤ most) && decide (most ≤ 65535)) = true := by simp; omega
    simp only [hok, hv1, go_sem, Hold.p, HoldK.k, HoldL.K, HoldL.body, Nat.reduceBEq, Nat.reduceAdd, List.getElem?_cons_zero, List.getElem?_cons_succ, Option.bind_some, List.map_cons, List.map_nil, Nat.zero_add, if_true, List.getD_cons_zero, List.getD_cons_succ, List.contains_cons, List.contains_nil, Nat.reduceBEq, Bool.or_true, Bool.true_or, Bool.or_false, Bool.false_or, Bool.not_true, Bool.not_false, true_and, and_true, rowA_whole, push_n, set_n, push_obj, set_obj, set_push, set_push_ne, set_set, Nat.add_assoc, Nat.left_eq_add, Nat.add_eq_left, Nat.add_left_cancel_iff, Nat.reduceEqDiff, stO_1s, stO_ws, boxA_s, one_bool, one_int, one_str, one_ptr, one_nilptr, one_slice, one_eslice, one_nilslice, one_func, one_iface, one_niliface, List.all_cons, List.all_nil, List.length_cons, List.length_nil, Nat.reduceLT, Nat.reduceEqDiff, Nat.reduceLeDiff, Bool.and_true, Nat.one_ne_zero, Nat.succ_ne_zero, reduceIte, if_false, List.getElem?_cons_zero, List.set_cons_zero, List.set_cons_succ]
    refine callA_of (l01In_c _ _ _ _) ?_
    rintro r h2 ⟨rfl, rfl⟩
    have E2 := (hE _ _).trans hE1
    have y0 : At h2 h.n (.rows [[.int .i64 una, .int .i64 nxt, v]] 40 3 false) := ⟨by omega, b0⟩
    have y1 : At h2 (h.n + 1) (.rows [[.int .i64 0, .int .i64 0, .nilslice]] 40 3 false) := ⟨by omega, b1⟩
    simp only [q1, b0, lay_nil, lay_1, lay_w, Option.map_some, go_sem, Hold.p, HoldK.k, HoldL.K, HoldL.body, Nat.reduceBEq, Nat.reduceAdd, List.getElem?_cons_zero, List.getElem?_cons_succ, Option.bind_some, List.map_cons, List.map_nil, Nat.zero_add, if_true, List.getD_cons_zero, List.getD_cons_succ, List.contains_cons, List.contains_nil, Nat.reduceBEq, Bool.or_true, Bool.true_or, Bool.or_false, Bool.false_or, Bool.not_true, Bool.not_false, true_and, and_true, rowA_whole, push_n, set_n, push_obj, set_obj, set_push, set_push_ne, set_set, Nat.add_assoc, Nat.left_eq_add, Nat.add_eq_left, Nat.add_left_cancel_iff, Nat.reduceEqDiff, stO_1s, stO_ws, boxA_s, one_bool, one_int, one_str, one_ptr, one_nilptr, one_slice, one_eslice, one_nilslice, one_func, one_iface, one_niliface, List.all_cons, List.all_nil, List.length_cons, List.length_nil, Nat.reduceLT, Nat.reduceEqDiff, Nat.reduceLeDiff, Bool.and_true, Nat.one_ne_zero, Nat.succ_ne_zero, reduceIte, if_false, List.getElem?_cons_zero, List.set_cons_zero, List.set_cons_succ]
    generalize hq_g0 : IH.push h2 (IObj.rows [[IV.int .i64 una, IV.int .i64 nxt, IV.nilslice]] 40 3 false) = g0
    have e_g0 : Ext h2 g0 := by rw [← hq_g0]; exact (Ext.refl _).push _
    have l_g0 : g0.n = h2.n + 1 := by rw [← hq_g0]; rfl
    have yo : At g0 h2.n (IObj.rows [[IV.int .i64 una, IV.int .i64 nxt, IV.nilslice]] 40 3 false) := by rw [← hq_g0]; exact At.new _ _
    clear hq_g0
    have y0 := y0.ext e_g0
    have y1 := y1.ext e_g0
    have E2 := E2.ext e_g0
    have hs0 := hs.ext E2
    have l02 := E2.le
    refine loop_at (fun m e h' => ∃ k, m = ps.length - k ∧ k ≤ ps.length ∧ e 1 = .int .i64 most ∧ e 2 = .ptr h.n 0 0 ∧ e 4 = .ptr (h.n + 1) 0 0 ∧ e 6 = .ptr h2.n 0 0 ∧ e 8 = .int .i64 k ∧
      e 7 = .int .i64 ((splitP most (ps.take k)).length : Int) ∧ h' = g0) ps.length ?_ ?_
    · refine ⟨0, by omega, by omega, ?_⟩
      simp only [go_sem, Hold.p, HoldK.k, HoldL.K, HoldL.body, Nat.reduceBEq, Nat.reduceAdd, List.getElem?_cons_zero, List.getElem?_cons_succ, Option.bind_some, List.map_cons, List.map_nil, Nat.zero_add, if_true, List.getD_cons_zero, List.getD_cons_succ, List.contains_cons, List.contains_nil, Nat.reduceBEq, Bool.or_true, Bool.true_or, Bool.or_false, Bool.false_or, Bool.not_true, Bool.not_false, true_and, and_true, rowA_whole, push_n, set_n, push_obj, set_obj, set_push, set_push_ne, set_set, Nat.add_assoc, Nat.left_eq_add, Nat.add_eq_left, Nat.add_left_cancel_iff, Nat.reduceEqDiff, stO_1s, stO_ws, boxA_s, one_bool, one_int, one_str, one_ptr, one_nilptr, one_slice, one_eslice, one_nilslice, one_func, one_iface, one_niliface, List.all_cons, List.all_nil, List.length_cons, List.length_nil, Nat.reduceLT, Nat.reduceEqDiff, Nat.reduceLeDiff, Bool.and_true, Nat.one_ne_zero, Nat.succ_ne_zero, reduceIte, if_false, List.getElem?_cons_zero, List.set_cons_zero, List.set_cons_succ]
      exact ⟨rfl, by simp [splitP]⟩
    · rintro m e h' ⟨k, rfl, hk, i1, i2, i4, i6, i8, i7, rfl⟩
      simp only [i1, i2, i4, i6, i8, i7, y0.eq, hlen, go_sem, Hold.p, HoldK.k, HoldL.K, HoldL.body, Nat.reduceBEq, Nat.reduceAdd, List.getElem?_cons_zero, List.getElem?_cons_succ, Option.bind_some, List.map_cons, List.map_nil, Nat.zero_add, if_true, List.getD_cons_zero, List.getD_cons_succ, List.contains_cons, List.contains_nil, Nat.reduceBEq, Bool.or_true, Bool.true_or, Bool.or_false, Bool.false_or, Bool.not_true, Bool.not_false, true_and, and_true, rowA_whole, push_n, set_n, push_obj, set_obj, set_push, set_push_ne, set_set, Nat.add_assoc, Nat.left_eq_add, Nat.add_eq_left, Nat.add_left_cancel_iff, Nat.reduceEqDiff, stO_1s, stO_ws, boxA_s, one_bool, one_int, one_str, one_ptr, one_nilptr, one_slice, one_eslice, one_nilslice, one_func, one_iface, one_niliface, List.all_cons, List.all_nil, List.length_cons, List.length_nil, Nat.reduceLT, Nat.reduceEqDiff, Nat.reduceLeDiff, Bool.and_true, Nat.one_ne_zero, Nat.succ_ne_zero, reduceIte, if_false, List.getElem?_cons_zero, List.set_cons_zero, List.set_cons_succ]
      refine test_dec (fun hlt => ?_) (fun hlt => ?_)
      · have hlt' : k < ps.length := by omega
        have hkp : ps[k]? = some ps[k] := List.getElem?_eq_getElem hlt'
        have hpb := hw ps[k] (List.getElem_mem _)
        generalize ps[k] = p at hkp hpb
        have hsu := splitP_succ (most := most) hkp
        obtain ⟨l, j, hia, hlj, hrow⟩ := hs0.at (m := k) (row := p.row) (by rw [List.getElem?_map, hkp]; rfl) .i64
        have hcl := cut_len n1 (p.to - p.fr).toNat p (Nat.le_refl _) hpb.2.1
        have hb1 := splitP_bound n1 n2 (ps.take k) (fun q hq => hw q (List.mem_of_mem_take hq))
        have hb2 := splitP_bound n1 n2 (ps.take (k + 1)) (fun q hq => hw q (List.mem_of_mem_take hq))
        have ht1 : (ps.take k).length ≤ 4096 := by simp; omega
        have ht2 : (ps.take (k + 1)).length ≤ 4096 := by simp; omega
        have hn7 : ((splitP most (ps.take (k + 1))).length : Int) = (splitP most (ps.take k)).length + (cut most p).length := by rw [hsu]; simp
        have w1 : wr .i64 (p.to - p.fr) = p.to - p.fr := wr64 _ (by omega)
        have w2 : wr .i64 (p.to - p.fr + most) = p.to - p.fr + most := wr64 _ (by omega)
        have w3 : wr .i64 (p.to - p.fr + most - 1) = p.to - p.fr + most - 1 := wr64 _ (by omega)
        have w4 : (p.to - p.fr + most - 1).tdiv most = ((cut most p).length : Int) := by rw [Int.tdiv_eq_ediv_of_nonneg (by omega), hcl]
        have w5 : wr .i64 ((cut most p).length : Int) = ((cut most p).length : Int) := wr64 _ (by omega)
        have w6 : wr .i64 ((splitP most (ps.take k)).length + (cut most p).length : Int) = ((splitP most (ps.take (k + 1))).length : Int) := by rw [hn7, wr64 _ (by omega)]
        unfold Piece.row at hrow
        have hcr := cellO_row hrow
        simp only [i1, i2, i4, i6, i8, i7, y0.eq, hlen, hia, hcr, w1, w2, w3, ib_quo _ _ _ (by omega : most ≠ 0), w4, w5, w6, go_sem, Hold.p, HoldK.k, HoldL.K, HoldL.body, Nat.reduceBEq, Nat.reduceAdd, List.getElem?_cons_zero, List.getElem?_cons_succ, Option.bind_some, List.map_cons, List.map_nil, Nat.zero_add, if_true, List.getD_cons_zero, List.getD_cons_succ, List.contains_cons, List.contains_nil, Nat.reduceBEq, Bool.or_true, Bool.true_or, Bool.or_false, Bool.false_or, Bool.not_true, Bool.not_false, true_and, and_true, rowA_whole, push_n, set_n, push_obj, set_obj, set_push, set_push_ne, set_set, Nat.add_assoc, Nat.left_eq_add, Nat.add_eq_left, Nat.add_left_cancel_iff, Nat.reduceEqDiff, stO_1s, stO_ws, boxA_s, one_bool, one_int, one_str, one_ptr, one_nilptr, one_slice, one_eslice, one_nilslice, one_func, one_iface, one_niliface, List.all_cons, List.all_nil, List.length_cons, List.length_nil, Nat.reduceLT, Nat.reduceEqDiff, Nat.reduceLeDiff, Bool.and_true, Nat.one_ne_zero, Nat.succ_ne_zero, reduceIte, if_false, List.getElem?_cons_zero, List.set_cons_zero, List.set_cons_succ]
        refine ⟨_, ?_, k + 1, rfl, by omega, wr64_succ k (by omega), rfl⟩
        omega
      · obtain rfl : k = ps.length := by omega
        rw [List.take_length] at i7
        simp only [i1, i2, i4, i6, i8, i7, go_sem, Hold.p, HoldK.k, HoldL.K, HoldL.body, Nat.reduceBEq, Nat.reduceAdd, List.getElem?_cons_zero, List.getElem?_cons_succ, Option.bind_some, List.map_cons, List.map_nil, Nat.zero_add, if_true, List.getD_cons_zero, List.getD_cons_succ, List.contains_cons, List.contains_nil, Nat.reduceBEq, Bool.or_true, Bool.true_or, Bool.or_false, Bool.false_or, Bool.not_true, Bool.not_false, true_and, and_true, rowA_whole, push_n, set_n, push_obj, set_obj, set_push, set_push_ne, set_set, Nat.add_assoc, Nat.left_eq_add, Nat.add_eq_left, Nat.add_left_cancel_iff, Nat.reduceEqDiff, stO_1s, stO_ws, boxA_s, one_bool, one_int, one_str, one_ptr, one_nilptr, one_slice, one_eslice, one_nilslice, one_func, one_iface, one_niliface, List.all_cons, List.all_nil, List.length_cons, List.length_nil, Nat.reduceLT, Nat.reduceEqDiff, Nat.reduceLeDiff, Bool.and_true, Nat.one_ne_zero, Nat.succ_ne_zero, reduceIte, if_false, List.getElem?_cons_zero, List.set_cons_zero, List.set_cons_succ]
        by_cases c1 : (4096 : Int) < (splitP most ps).length
        · have d1 : decide ((4096 : Int) < (splitP most ps).length) = true := by simpa using c1
          simp only [d1, i4, y1.eq, lay_nil, lay_1, lay_w, Option.map_some, go_sem, Hold.p, HoldK.k, HoldL.K, HoldL.body, Nat.reduceBEq, Nat.reduceAdd, List.getElem?_cons_zero, List.getElem?_cons_succ, Option.bind_some, List.map_cons, List.map_nil, Nat.zero_add, if_true, List.getD_cons_zero, List.getD_cons_succ, List.contains_cons, List.contains_nil, Nat.reduceBEq, Bool.or_true, Bool.true_or, Bool.or_false, Bool.false_or, Bool.not_true, Bool.not_false, true_and, and_true, rowA_whole, push_n, set_n, push_obj, set_obj, set_push, set_push_ne, set_set, Nat.add_assoc, Nat.left_eq_add, Nat.add_eq_left, Nat.add_left_cancel_iff, Nat.reduceEqDiff, stO_1s, stO_ws, boxA_s, one_bool, one_int, one_str, one_ptr, one_nilptr, one_slice, one_eslice, one_nilslice, one_func, one_iface, one_niliface, List.all_cons, List.all_nil, List.length_cons, List.length_nil, Nat.reduceLT, Nat.reduceEqDiff, Nat.reduceLeDiff, Bool.and_true, Nat.one_ne_zero, Nat.succ_ne_zero, reduceIte, if_false, List.getElem?_cons_zero, List.set_cons_zero, List.set_cons_succ]
          exact bad _ _ _ E2 (hdef.trans (if_pos (by omega)))
        · have d1 : decide ((4096 : Int) < (splitP most ps).length) = false := by simpa using c1
          rw [hdef, if_neg (by omega)]
          simp only [d1, i1, i2, i4, i6, lay_nil, lay_1, lay_w, Option.map_some, go_sem, Hold.p, HoldK.k, HoldL.K, HoldL.body, Nat.reduceBEq, Nat.reduceAdd, List.getElem?_cons_zero, List.getElem?_cons_succ, Option.bind_some, List.map_cons, List.map_nil, Nat.zero_add, if_true, List.getD_cons_zero, List.getD_cons_succ, List.contains_cons, List.contains_nil, Nat.reduceBEq, Bool.or_true, Bool.true_or, Bool.or_false, Bool.false_or, Bool.not_true, Bool.not_false, true_and, and_true, rowA_whole, push_n, set_n, push_obj, set_obj, set_push, set_push_ne, set_set, Nat.add_assoc, Nat.left_eq_add, Nat.add_eq_left, Nat.add_left_cancel_iff, Nat.reduceEqDiff, stO_1s, stO_ws, boxA_s, one_bool, one_int, one_str, one_ptr, one_nilptr, one_slice, one_eslice, one_nilslice, one_func, one_iface, one_niliface, List.all_cons, List.all_nil, List.length_cons, List.length_nil, Nat.reduceLT, Nat.reduceEqDiff, Nat.reduceLeDiff, Bool.and_true, Nat.one_ne_zero, Nat.succ_ne_zero, reduceIte, if_false, List.getElem?_cons_zero, List.set_cons_zero, List.set_cons_succ]
          have bnd : ∀ l r : List Piece, l ++ r = splitP most ps → l.length ≤ 4096 := fun l r e => by have := congrArg List.length e; simp at this; omega
          refine loop_at (fun m e h' => ∃ k vl lo hi, m = ps.length - k ∧ k ≤ ps.length ∧ e 1 = .int .i64 most ∧ e 2 = .ptr h.n 0 0 ∧ e 4 = .ptr (h.n + 1) 0 0 ∧ e 6 = .ptr h2.n 0 0 ∧ e 9 = .int .i64 k ∧
            Ext h h' ∧ h2.n < lo ∧ hi ≤ h'.n ∧ Own lo hi h' 113 6 vl ((splitP most (ps.take k)).map Piece.row) ∧ At h' h.n (.rows [[.int .i64 una, .int .i64 nxt, v]] 40 3 false) ∧
            At h' (h.n + 1) (.rows [[.int .i64 0, .int .i64 0, .nilslice]] 40 3 false) ∧ At h' h2.n (.rows [[.int .i64 una, .int .i64 nxt, vl]] 40 3 false)) ps.length ?_ ?_
          · refine ⟨0, .nilslice, h2.n + 1, h2.n + 1, by omega, by omega, ?_⟩
            simp only [i1, i2, i4, i6, go_sem, Hold.p, HoldK.k, HoldL.K, HoldL.body, Nat.reduceBEq, Nat.reduceAdd, List.getElem?_cons_zero, List.getElem?_cons_succ, Option.bind_some, List.map_cons, List.map_nil, Nat.zero_add, if_true, List.getD_cons_zero, List.getD_cons_succ, List.contains_cons, List.contains_nil, Nat.reduceBEq, Bool.or_true, Bool.true_or, Bool.or_false, Bool.false_or, Bool.not_true, Bool.not_false, true_and, and_true, rowA_whole, push_n, set_n, push_obj, set_obj, set_push, set_push_ne, set_set, Nat.add_assoc, Nat.left_eq_add, Nat.add_eq_left, Nat.add_left_cancel_iff, Nat.reduceEqDiff, stO_1s, stO_ws, boxA_s, one_bool, one_int, one_str, one_ptr, one_nilptr, one_slice, one_eslice, one_nilslice, one_func, one_iface, one_niliface, List.all_cons, List.all_nil, List.length_cons, List.length_nil, Nat.reduceLT, Nat.reduceEqDiff, Nat.reduceLeDiff, Bool.and_true, Nat.one_ne_zero, Nat.succ_ne_zero, reduceIte, if_false, List.getElem?_cons_zero, List.set_cons_zero, List.set_cons_succ]
            exact ⟨rfl, E2, by omega, by omega, Own.nil, y0, y1, yo⟩
          · rintro m e h' ⟨k, vl, lo, hi, rfl, hk, i1, i2, i4, i6, i9, E, hlo, hhi, ol, y0, y1, yo⟩
            simp only [i1, i2, i4, i6, i9, y0.eq, hlen, go_sem, Hold.p, HoldK.k, HoldL.K, HoldL.body, Nat.reduceBEq, Nat.reduceAdd, List.getElem?_cons_zero, List.getElem?_cons_succ, Option.bind_some, List.map_cons, List.map_nil, Nat.zero_add, if_true, List.getD_cons_zero, List.getD_cons_succ, List.contains_cons, List.contains_nil, Nat.reduceBEq, Bool.or_true, Bool.true_or, Bool.or_false, Bool.false_or, Bool.not_true, Bool.not_false, true_and, and_true, rowA_whole, push_n, set_n, push_obj, set_obj, set_push, set_push_ne, set_set, Nat.add_assoc, Nat.left_eq_add, Nat.add_eq_left, Nat.add_left_cancel_iff, Nat.reduceEqDiff, stO_1s, stO_ws, boxA_s, one_bool, one_int, one_str, one_ptr, one_nilptr, one_slice, one_eslice, one_nilslice, one_func, one_iface, one_niliface, List.all_cons, List.all_nil, List.length_cons, List.length_nil, Nat.reduceLT, Nat.reduceEqDiff, Nat.reduceLeDiff, Bool.and_true, Nat.one_ne_zero, Nat.succ_ne_zero, reduceIte, if_false, List.getElem?_cons_zero, List.set_cons_zero, List.set_cons_succ]
            have hle := E.le
            have yol := yo.lt
            refine test_dec (fun hlt => ?_) (fun hlt => ?_)
            · have hlt' : k < ps.length := by omega
              have hkp : ps[k]? = some ps[k] := List.getElem?_eq_getElem hlt'
              have hpb := hw ps[k] (List.getElem_mem _)
              generalize ps[k] = p at hkp hpb
              have hsu := splitP_succ (most := most) hkp
              have hpre : splitP most ps = (splitP most (ps.take k) ++ cut most p) ++ splitP most (ps.drop (k + 1)) := by
                rw [← hsu]; unfold splitP; rw [← List.flatMap_append, List.take_append_drop]
              obtain ⟨l, j, hia, hlj, hrow⟩ := (hs.ext E).at (m := k) (row := p.row) (by rw [List.getElem?_map, hkp]; rfl) .i64
              unfold Piece.row at hrow
              simp only [i1, i2, i4, i6, i9, y0.eq, hlen, hia, hrow, lay_nil, lay_1, lay_w, Option.map_some, go_sem, Hold.p, HoldK.k, HoldL.K, HoldL.body, Nat.reduceBEq, Nat.reduceAdd, List.getElem?_cons_zero, List.getElem?_cons_succ, Option.bind_some, List.map_cons, List.map_nil, Nat.zero_add, if_true, List.getD_cons_zero, List.getD_cons_succ, List.contains_cons, List.contains_nil, Nat.reduceBEq, Bool.or_true, Bool.true_or, Bool.or_false, Bool.false_or, Bool.not_true, Bool.not_false, true_and, and_true, rowA_whole, push_n, set_n, push_obj, set_obj, set_push, set_push_ne, set_set, Nat.add_assoc, Nat.left_eq_add, Nat.add_eq_left, Nat.add_left_cancel_iff, Nat.reduceEqDiff, stO_1s, stO_ws, boxA_s, one_bool, one_int, one_str, one_ptr, one_nilptr, one_slice, one_eslice, one_nilslice, one_func, one_iface, one_niliface, List.all_cons, List.all_nil, List.length_cons, List.length_nil, Nat.reduceLT, Nat.reduceEqDiff, Nat.reduceLeDiff, Bool.and_true, Nat.one_ne_zero, Nat.succ_ne_zero, reduceIte, if_false, List.getElem?_cons_zero, List.set_cons_zero, List.set_cons_succ]
              generalize hq_g1 : IH.push h' (IObj.rows [[IV.int .i64 p.fr, IV.int .i64 p.to, IV.int .i64 p.at_, IV.int .i64 p.times, IV.bool p.sacked, IV.bool p.lost]] 113 6 false) = g1
              have e_g1 : Ext h' g1 := by rw [← hq_g1]; exact (Ext.refl _).push _
              have l_g1 : g1.n = h'.n + 1 := by rw [← hq_g1]; rfl
              have yp : At g1 h'.n (IObj.rows [[IV.int .i64 p.fr, IV.int .i64 p.to, IV.int .i64 p.at_, IV.int .i64 p.times, IV.bool p.sacked, IV.bool p.lost]] 113 6 false) := by rw [← hq_g1]; exact At.new _ _
              clear hq_g1
              have y0 := y0.ext e_g1
              have y1 := y1.ext e_g1
              have yo := yo.ext e_g1
              have ol := ol.ext e_g1
              have E := E.ext e_g1
              refine loop_at (fun m e g => ∃ (a : Int) (vl : IV) (lo hi : Nat) (l : List Piece), m = (p.to - a).toNat ∧ e 1 = .int .i64 most ∧ e 2 = .ptr h.n 0 0 ∧ e 4 = .ptr (h.n + 1) 0 0 ∧ e 6 = .ptr h2.n 0 0 ∧ e 9 = .int .i64 k ∧
                e 10 = .ptr h'.n 0 0 ∧ e 11 = .int .i64 a ∧ Ext h g ∧ h2.n < lo ∧ (h'.n < lo ∨ hi ≤ h'.n) ∧ hi ≤ g.n ∧ Own lo hi g 113 6 vl (l.map Piece.row) ∧
                At g h.n (.rows [[.int .i64 una, .int .i64 nxt, v]] 40 3 false) ∧ At g (h.n + 1) (.rows [[.int .i64 0, .int .i64 0, .nilslice]] 40 3 false) ∧ At g h2.n (.rows [[.int .i64 una, .int .i64 nxt, vl]] 40 3 false) ∧
                At g h'.n (.rows [p.row] 113 6 false) ∧ 0 ≤ a ∧ a ≤ 1099511727776 ∧ (a < p.to → l ++ cut most { p with fr := a } = splitP most (ps.take k) ++ cut most p) ∧ (¬ a < p.to → l = splitP most (ps.take k) ++ cut most p)) (p.to - p.fr).toNat ?_ ?_
              · refine ⟨p.fr, vl, lo, hi, splitP most (ps.take k), rfl, ?_⟩
                simp only [yp.eq, i1, i2, i4, i6, i9, lay_nil, lay_1, lay_w, Option.map_some, go_sem, Hold.p, HoldK.k, HoldL.K, HoldL.body, Nat.reduceBEq, Nat.reduceAdd, List.getElem?_cons_zero, List.getElem?_cons_succ, Option.bind_some, List.map_cons, List.map_nil, Nat.zero_add, if_true, List.getD_cons_zero, List.getD_cons_succ, List.contains_cons, List.contains_nil, Nat.reduceBEq, Bool.or_true, Bool.true_or, Bool.or_false, Bool.false_or, Bool.not_true, Bool.not_false, true_and, and_true, rowA_whole, push_n, set_n, push_obj, set_obj, set_push, set_push_ne, set_set, Nat.add_assoc, Nat.left_eq_add, Nat.add_eq_left, Nat.add_left_cancel_iff, Nat.reduceEqDiff, stO_1s, stO_ws, boxA_s, one_bool, one_int, one_str, one_ptr, one_nilptr, one_slice, one_eslice, one_nilslice, one_func, one_iface, one_niliface, List.all_cons, List.all_nil, List.length_cons, List.length_nil, Nat.reduceLT, Nat.reduceEqDiff, Nat.reduceLeDiff, Bool.and_true, Nat.one_ne_zero, Nat.succ_ne_zero, reduceIte, if_false, List.getElem?_cons_zero, List.set_cons_zero, List.set_cons_succ]
                exact ⟨E, hlo, by omega, by omega, ol, y0, y1, yo, yp, by omega, by omega, fun _ => trivial, fun h => absurd hpb.2.1 h⟩
              · rintro m e g ⟨a, vl, lo, hi, l, rfl, i1, i2, i4, i6, i9, i10, i11, E, glo, gd, ghi, go, y0, y1, yo, yp, a1, a2, t1, t2⟩
                have ype := yp.eq
                unfold Piece.row at ype
                have hle2 := E.le
                have ypl := yp.lt
                have yol2 := yo.lt
                have hne : (h'.n = g.n) = False := by simp; omega
                have hne2 : (h2.n = g.n) = False := by simp; omega
                simp only [i1, i2, i4, i6, i9, i10, i11, ype, lay_nil, lay_1, lay_w, Option.map_some, go_sem, Hold.p, HoldK.k, HoldL.K, HoldL.body, Nat.reduceBEq, Nat.reduceAdd, List.getElem?_cons_zero, List.getElem?_cons_succ, Option.bind_some, List.map_cons, List.map_nil, Nat.zero_add, if_true, List.getD_cons_zero, List.getD_cons_succ, List.contains_cons, List.contains_nil, Nat.reduceBEq, Bool.or_true, Bool.true_or, Bool.or_false, Bool.false_or, Bool.not_true, Bool.not_false, true_and, and_true, rowA_whole, push_n, set_n, push_obj, set_obj, set_push, set_push_ne, set_set, Nat.add_assoc, Nat.left_eq_add, Nat.add_eq_left, Nat.add_left_cancel_iff, Nat.reduceEqDiff, stO_1s, stO_ws, boxA_s, one_bool, one_int, one_str, one_ptr, one_nilptr, one_slice, one_eslice, one_nilslice, one_func, one_iface, one_niliface, List.all_cons, List.all_nil, List.length_cons, List.length_nil, Nat.reduceLT, Nat.reduceEqDiff, Nat.reduceLeDiff, Bool.and_true, Nat.one_ne_zero, Nat.succ_ne_zero, reduceIte, if_false, List.getElem?_cons_zero, List.set_cons_zero, List.set_cons_succ]
                refine test_dec (fun c2 => ?_) (fun c2 => ?_)
                · have w1 : wr .i64 (a + most) = a + most := wr64 _ (by omega)
                  have gc := t1 c2
                  have hce := cut_eq n1 { p with fr := a }
                  simp only [i1, i2, i4, i6, i9, i10, i11, ype, w1, hne, lay_nil, lay_1, lay_w, Option.map_some, go_sem, Hold.p, HoldK.k, HoldL.K, HoldL.body, Nat.reduceBEq, Nat.reduceAdd, List.getElem?_cons_zero, List.getElem?_cons_succ, Option.bind_some, List.map_cons, List.map_nil, Nat.zero_add, if_true, List.getD_cons_zero, List.getD_cons_succ, List.contains_cons, List.contains_nil, Nat.reduceBEq, Bool.or_true, Bool.true_or, Bool.or_false, Bool.false_or, Bool.not_true, Bool.not_false, true_and, and_true, rowA_whole, push_n, set_n, push_obj, set_obj, set_push, set_push_ne, set_set, Nat.add_assoc, Nat.left_eq_add, Nat.add_eq_left, Nat.add_left_cancel_iff, Nat.reduceEqDiff, stO_1s, stO_ws, boxA_s, one_bool, one_int, one_str, one_ptr, one_nilptr, one_slice, one_eslice, one_nilslice, one_func, one_iface, one_niliface, List.all_cons, List.all_nil, List.length_cons, List.length_nil, Nat.reduceLT, Nat.reduceEqDiff, Nat.reduceLeDiff, Bool.and_true, Nat.one_ne_zero, Nat.succ_ne_zero, reduceIte, if_false, List.getElem?_cons_zero, List.set_cons_zero, List.set_cons_succ]
                  generalize hq_g2 : IH.push g (IObj.rows [[IV.int .i64 a, IV.int .i64 p.to, IV.int .i64 p.at_, IV.int .i64 p.times, IV.bool p.sacked, IV.bool p.lost]] 113 6 false) = g2
                  have e_g2 : Ext g g2 := by rw [← hq_g2]; exact (Ext.refl _).push _
                  have l_g2 : g2.n = g.n + 1 := by rw [← hq_g2]; rfl
                  have bq : At g2 g.n (IObj.rows [[IV.int .i64 a, IV.int .i64 p.to, IV.int .i64 p.at_, IV.int .i64 p.times, IV.bool p.sacked, IV.bool p.lost]] 113 6 false) := by rw [← hq_g2]; exact At.new _ _
                  clear hq_g2
                  have go := go.ext e_g2
                  have E := E.ext e_g2
                  have y0 := y0.ext e_g2
                  have y1 := y1.ext e_g2
                  have yo := yo.ext e_g2
                  have yp := yp.ext e_g2
                  refine callA_of (l14Min_c _ _ _) ?_
                  rintro r g2' ⟨rfl, rfl⟩
                  simp only [bq.eq, yo.eq, hne2, i1, i2, i4, i6, i9, i10, i11, lay_nil, lay_1, lay_w, Option.map_some, go_sem, Hold.p, HoldK.k, HoldL.K, HoldL.body, Nat.reduceBEq, Nat.reduceAdd, List.getElem?_cons_zero, List.getElem?_cons_succ, Option.bind_some, List.map_cons, List.map_nil, Nat.zero_add, if_true, List.getD_cons_zero, List.getD_cons_succ, List.contains_cons, List.contains_nil, Nat.reduceBEq, Bool.or_true, Bool.true_or, Bool.or_false, Bool.false_or, Bool.not_true, Bool.not_false, true_and, and_true, rowA_whole, push_n, set_n, push_obj, set_obj, set_push, set_push_ne, set_set, Nat.add_assoc, Nat.left_eq_add, Nat.add_eq_left, Nat.add_left_cancel_iff, Nat.reduceEqDiff, stO_1s, stO_ws, boxA_s, one_bool, one_int, one_str, one_ptr, one_nilptr, one_slice, one_eslice, one_nilslice, one_func, one_iface, one_niliface, List.all_cons, List.all_nil, List.length_cons, List.length_nil, Nat.reduceLT, Nat.reduceEqDiff, Nat.reduceLeDiff, Bool.and_true, Nat.one_ne_zero, Nat.succ_ne_zero, reduceIte, if_false, List.getElem?_cons_zero, List.set_cons_zero, List.set_cons_succ]
                  generalize hq_g3 : IH.set g2' (g.n) (IObj.rows [[IV.int .i64 a, IV.int .i64 (min (a + most) p.to), IV.int .i64 p.at_, IV.int .i64 p.times, IV.bool p.sacked, IV.bool p.lost]] 113 6 false) = g3
                  have l_g3 : g3.n = g2'.n := by rw [← hq_g3]; rfl
                  have bq : At g3 (g.n) (IObj.rows [[IV.int .i64 a, IV.int .i64 (min (a + most) p.to), IV.int .i64 p.at_, IV.int .i64 p.times, IV.bool p.sacked, IV.bool p.lost]] 113 6 false) := by rw [← hq_g3]; exact bq.here
                  have go := go.set (m := g.n) (by omega) (IObj.rows [[IV.int .i64 a, IV.int .i64 (min (a + most) p.to), IV.int .i64 p.at_, IV.int .i64 p.times, IV.bool p.sacked, IV.bool p.lost]] 113 6 false)
                  rw [hq_g3] at go
                  have y0 := y0.set (p := g.n) (o' := IObj.rows [[IV.int .i64 a, IV.int .i64 (min (a + most) p.to), IV.int .i64 p.at_, IV.int .i64 p.times, IV.bool p.sacked, IV.bool p.lost]] 113 6 false) (by omega)
                  rw [hq_g3] at y0
                  have y1 := y1.set (p := g.n) (o' := IObj.rows [[IV.int .i64 a, IV.int .i64 (min (a + most) p.to), IV.int .i64 p.at_, IV.int .i64 p.times, IV.bool p.sacked, IV.bool p.lost]] 113 6 false) (by omega)
                  rw [hq_g3] at y1
                  have yo := yo.set (p := g.n) (o' := IObj.rows [[IV.int .i64 a, IV.int .i64 (min (a + most) p.to), IV.int .i64 p.at_, IV.int .i64 p.times, IV.bool p.sacked, IV.bool p.lost]] 113 6 false) (by omega)
                  rw [hq_g3] at yo
                  have yp := yp.set (p := g.n) (o' := IObj.rows [[IV.int .i64 a, IV.int .i64 (min (a + most) p.to), IV.int .i64 p.at_, IV.int .i64 p.times, IV.bool p.sacked, IV.bool p.lost]] 113 6 false) (by omega)
                  rw [hq_g3] at yp
                  have E := E.set (g.n) (by omega) (IObj.rows [[IV.int .i64 a, IV.int .i64 (min (a + most) p.to), IV.int .i64 p.at_, IV.int .i64 p.times, IV.bool p.sacked, IV.bool p.lost]] 113 6 false)
                  rw [hq_g3] at E
                  clear hq_g3
                  generalize hq_g4 : IH.push g3 (IObj.rows [[IV.int .i64 a, IV.int .i64 (min (a + most) p.to), IV.int .i64 p.at_, IV.int .i64 p.times, IV.bool p.sacked, IV.bool p.lost]] 113 6 false) = g4
                  have e_g4 : Ext g3 g4 := by rw [← hq_g4]; exact (Ext.refl _).push _
                  have l_g4 : g4.n = g3.n + 1 := by rw [← hq_g4]; rfl
                  have ba : At g4 g3.n (IObj.rows [[IV.int .i64 a, IV.int .i64 (min (a + most) p.to), IV.int .i64 p.at_, IV.int .i64 p.times, IV.bool p.sacked, IV.bool p.lost]] 113 6 false) := by rw [← hq_g4]; exact At.new _ _
                  clear hq_g4
                  have go := go.ext e_g4
                  have E := E.ext e_g4
                  have y0 := y0.ext e_g4
                  have y1 := y1.ext e_g4
                  have yo := yo.ext e_g4
                  have yp := yp.ext e_g4
                  have bl : l.length ≤ 4096 := by
                    refine bnd l (cut most { p with fr := a } ++ splitP most (ps.drop (k + 1))) ?_
                    rw [hpre, ← gc]; simp
                  refine go.app (by simp) (by simp; omega) ?_
                  intro v6 h6 o6 t6 n6 v6o v6c
                  have y0 := y0.turn go (by omega) t6
                  have y1 := y1.turn go (by omega) t6
                  have yo := yo.turn go (by omega) t6
                  have yp := yp.turn go (by omega) t6
                  have E := E.turn go (by omega) t6
                  have le_t6 := t6.le
                  have o7 : Own g4.n (g4.n + 1) h6 113 6 v6 ((l ++ [{ p with fr := a, to := min (a + most) p.to }]).map Piece.row) := by
                    have : (l ++ [{ p with fr := a, to := min (a + most) p.to }]).map Piece.row = l.map Piece.row ++ [[IV.int .i64 a, IV.int .i64 (min (a + most) p.to), IV.int .i64 p.at_, IV.int .i64 p.times, IV.bool p.sacked, IV.bool p.lost]] := by simp [Piece.row]
                    rw [this]; exact o6
                  simp only [yo.eq, v6o, v6c, w1, i1, i2, i4, i6, i9, i10, i11, lay_nil, lay_1, lay_w, Option.map_some, go_sem, Hold.p, HoldK.k, HoldL.K, HoldL.body, Nat.reduceBEq, Nat.reduceAdd, List.getElem?_cons_zero, List.getElem?_cons_succ, Option.bind_some, List.map_cons, List.map_nil, Nat.zero_add, if_true, List.getD_cons_zero, List.getD_cons_succ, List.contains_cons, List.contains_nil, Nat.reduceBEq, Bool.or_true, Bool.true_or, Bool.or_false, Bool.false_or, Bool.not_true, Bool.not_false, true_and, and_true, rowA_whole, push_n, set_n, push_obj, set_obj, set_push, set_push_ne, set_set, Nat.add_assoc, Nat.left_eq_add, Nat.add_eq_left, Nat.add_left_cancel_iff, Nat.reduceEqDiff, stO_1s, stO_ws, boxA_s, one_bool, one_int, one_str, one_ptr, one_nilptr, one_slice, one_eslice, one_nilslice, one_func, one_iface, one_niliface, List.all_cons, List.all_nil, List.length_cons, List.length_nil, Nat.reduceLT, Nat.reduceEqDiff, Nat.reduceLeDiff, Bool.and_true, Nat.one_ne_zero, Nat.succ_ne_zero, reduceIte, if_false, List.getElem?_cons_zero, List.set_cons_zero, List.set_cons_succ]
                  refine ⟨_, ?_, a + most, v6, g4.n, g4.n + 1, _, rfl, rfl, E.set _ (by omega) _, by omega, by omega, by first | omega | (simp only [set_n]; omega), o7.set (m := h2.n) (by omega) _, y0.set (by omega), y1.set (by omega), yo.here, yp.set (by omega), by omega, by omega, ?_, ?_⟩
                  · omega
                  · intro c3
                    rw [if_pos (by simp only; omega)] at hce
                    rw [← gc, hce, show min (a + most) p.to = a + most by omega]
                    simp
                  · intro c3
                    rw [if_neg (by simp only; omega)] at hce
                    rw [← gc, hce, show min (a + most) p.to = p.to by omega]
                · simp only [i1, i2, i4, i6, i9, i10, i11, lay_nil, lay_1, lay_w, Option.map_some, go_sem, Hold.p, HoldK.k, HoldL.K, HoldL.body, Nat.reduceBEq, Nat.reduceAdd, List.getElem?_cons_zero, List.getElem?_cons_succ, Option.bind_some, List.map_cons, List.map_nil, Nat.zero_add, if_true, List.getD_cons_zero, List.getD_cons_succ, List.contains_cons, List.contains_nil, Nat.reduceBEq, Bool.or_true, Bool.true_or, Bool.or_false, Bool.false_or, Bool.not_true, Bool.not_false, true_and, and_true, rowA_whole, push_n, set_n, push_obj, set_obj, set_push, set_push_ne, set_set, Nat.add_assoc, Nat.left_eq_add, Nat.add_eq_left, Nat.add_left_cancel_iff, Nat.reduceEqDiff, stO_1s, stO_ws, boxA_s, one_bool, one_int, one_str, one_ptr, one_nilptr, one_slice, one_eslice, one_nilslice, one_func, one_iface, one_niliface, List.all_cons, List.all_nil, List.length_cons, List.length_nil, Nat.reduceLT, Nat.reduceEqDiff, Nat.reduceLeDiff, Bool.and_true, Nat.one_ne_zero, Nat.succ_ne_zero, reduceIte, if_false, List.getElem?_cons_zero, List.set_cons_zero, List.set_cons_succ]
                  have gc := t2 c2
                  rw [← hsu] at gc
                  rw [gc] at go
                  refine ⟨_, ?_, k + 1, vl, lo, hi, rfl, by omega, wr64_succ k (by omega), E, glo, ghi, go, y0, y1, yo⟩
                  omega
            · obtain rfl : k = ps.length := by omega
              rw [List.take_length] at ol
              have vlo := ol.one
              simp only [i1, i2, i4, i6, i9, y1.eq, yo.eq, vlo, lay_nil, lay_1, lay_w, Option.map_some, go_sem, Hold.p, HoldK.k, HoldL.K, HoldL.body, Nat.reduceBEq, Nat.reduceAdd, List.getElem?_cons_zero, List.getElem?_cons_succ, Option.bind_some, List.map_cons, List.map_nil, Nat.zero_add, if_true, List.getD_cons_zero, List.getD_cons_succ, List.contains_cons, List.contains_nil, Nat.reduceBEq, Bool.or_true, Bool.true_or, Bool.or_false, Bool.false_or, Bool.not_true, Bool.not_false, true_and, and_true, rowA_whole, push_n, set_n, push_obj, set_obj, set_push, set_push_ne, set_set, Nat.add_assoc, Nat.left_eq_add, Nat.add_eq_left, Nat.add_left_cancel_iff, Nat.reduceEqDiff, stO_1s, stO_ws, boxA_s, one_bool, one_int, one_str, one_ptr, one_nilptr, one_slice, one_eslice, one_nilslice, one_func, one_iface, one_niliface, List.all_cons, List.all_nil, List.length_cons, List.length_nil, Nat.reduceLT, Nat.reduceEqDiff, Nat.reduceLeDiff, Bool.and_true, Nat.one_ne_zero, Nat.succ_ne_zero, reduceIte, if_false, List.getElem?_cons_zero, List.set_cons_zero, List.set_cons_succ]
              refine ⟨vl, rfl, (ol.set (m := h.n + 1) (by omega) _).wide (by omega) (by first | omega | (simp only [set_n]; omega)) (Nat.le_refl _), E.set _ (by omega) _⟩
  · have hdef : splitB una nxt ps most = (0, 0, [], 1) := if_neg hc
    cases hok : okB una nxt ps
    · simp only [hok, hv1, b1, lay_nil, lay_1, lay_w, Option.map_some, go_sem, Hold.p, HoldK.k, HoldL.K, HoldL.body, Nat.reduceBEq, Nat.reduceAdd, List.getElem?_cons_zero, List.getElem?_cons_succ, Option.bind_some, List.map_cons, List.map_nil, Nat.zero_add, if_true, List.getD_cons_zero, List.getD_cons_succ, List.contains_cons, List.contains_nil, Nat.reduceBEq, Bool.or_true, Bool.true_or, Bool.or_false, Bool.false_or, Bool.not_true, Bool.not_false, true_and, and_true, rowA_whole, push_n, set_n, push_obj, set_obj, set_push, set_push_ne, set_set, Nat.add_assoc, Nat.left_eq_add, Nat.add_eq_left, Nat.add_left_cancel_iff, Nat.reduceEqDiff, stO_1s, stO_ws, boxA_s, one_bool, one_int, one_str, one_ptr, one_nilptr, one_slice, one_eslice, one_nilslice, one_func, one_iface, one_niliface, List.all_cons, List.all_nil, List.length_cons, List.length_nil, Nat.reduceLT, Nat.reduceEqDiff, Nat.reduceLeDiff, Bool.and_true, Nat.one_ne_zero, Nat.succ_ne_zero, reduceIte, if_false, List.getElem?_cons_zero, List.set_cons_zero, List.set_cons_succ]
      exact bad _ _ _ ((hE _ _).trans hE1) hdef
    · simp only [hok, hv1, b1, lay_nil, lay_1, lay_w, Option.map_some, go_sem, Hold.p, HoldK.k, HoldL.K, HoldL.body, Nat.reduceBEq, Nat.reduceAdd, List.getElem?_cons_zero, List.getElem?_cons_succ, Option.bind_some, List.map_cons, List.map_nil, Nat.zero_add, if_true, List.getD_cons_zero, List.getD_cons_succ, List.contains_cons, List.contains_nil, Nat.reduceBEq, Bool.or_true, Bool.true_or, Bool.or_false, Bool.false_or, Bool.not_true, Bool.not_false, true_and, and_true, rowA_whole, push_n, set_n, push_obj, set_obj, set_push, set_push_ne, set_set, Nat.add_assoc, Nat.left_eq_add, Nat.add_eq_left, Nat.add_left_cancel_iff, Nat.reduceEqDiff, stO_1s, stO_ws, boxA_s, one_bool, one_int, one_str, one_ptr, one_nilptr, one_slice, one_eslice, one_nilslice, one_func, one_iface, one_niliface, List.all_cons, List.all_nil, List.length_cons, List.length_nil, Nat.reduceLT, Nat.reduceEqDiff, Nat.reduceLeDiff, Bool.and_true, Nat.one_ne_zero, Nat.succ_ne_zero, reduceIte, if_false, List.getElem?_cons_zero, List.set_cons_zero, List.set_cons_succ]
      refine callA_of (l01In_c _ _ _ _) ?_
      rintro r h2 ⟨rfl, rfl⟩
      have q1 : (decide (1 ≤ most) && decide (most ≤ 65535)) = false := by
        apply Bool.eq_false_iff.2
        intro hx
        simp at hx
        exact hc ⟨hok, hx⟩
      simp only [q1, b1, lay_nil, lay_1, lay_w, Option.map_some, go_sem, Hold.p, HoldK.k, HoldL.K, HoldL.body, Nat.reduceBEq, Nat.reduceAdd, List.getElem?_cons_zero, List.getElem?_cons_succ, Option.bind_some, List.map_cons, List.map_nil, Nat.zero_add, if_true, List.getD_cons_zero, List.getD_cons_succ, List.contains_cons, List.contains_nil, Nat.reduceBEq, Bool.or_true, Bool.true_or, Bool.or_false, Bool.false_or, Bool.not_true, Bool.not_false, true_and, and_true, rowA_whole, push_n, set_n, push_obj, set_obj, set_push, set_push_ne, set_set, Nat.add_assoc, Nat.left_eq_add, Nat.add_eq_left, Nat.add_left_cancel_iff, Nat.reduceEqDiff, stO_1s, stO_ws, boxA_s, one_bool, one_int, one_str, one_ptr, one_nilptr, one_slice, one_eslice, one_nilslice, one_func, one_iface, one_niliface, List.all_cons, List.all_nil, List.length_cons, List.length_nil, Nat.reduceLT, Nat.reduceEqDiff, Nat.reduceLeDiff, Bool.and_true, Nat.one_ne_zero, Nat.succ_ne_zero, reduceIte, if_false, List.getElem?_cons_zero, List.set_cons_zero, List.set_cons_succ]
      exact bad _ _ _ ((hE _ _).trans hE1) hdef
end Go.Proofs.Ytecljenjlncfhaa
