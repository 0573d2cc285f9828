import Derived.Test.YtecljenjlncfhaaCG
namespace Go.Proofs.Ytecljenjlncfhaa
open Go Go.IW
set_option linter.unusedSimpArgs false
set_option linter.unusedVariables false

/-! Pieces that are cut. -/
def cutF (most : Int) : Nat → Piece → List Piece
  | 0, p => [p]
  | n + 1, p => if most < p.to - p.fr then { p with to := p.fr + most } :: cutF most n { p with fr := p.fr + most } else [p]
def cut (most : Int) (p : Piece) : List Piece := cutF most (p.to - p.fr).toNat p
def splitP (most : Int) (ps : List Piece) : List Piece := ps.flatMap (cut most)

theorem cutF_fuel {most : Int} (h1 : 1 ≤ most) : ∀ (n m : Nat) (p : Piece), (p.to - p.fr).toNat ≤ n → (p.to - p.fr).toNat ≤ m → cutF most n p = cutF most m p
  | 0, 0, p, _, _ => rfl
  | 0, m + 1, p, hn, _ => by simp only [cutF]; rw [if_neg (by omega)]
  | n + 1, 0, p, _, hm => by simp only [cutF]; rw [if_neg (by omega)]
  | n + 1, m + 1, p, hn, hm => by
    simp only [cutF]
    split
    · rw [cutF_fuel h1 n m _ (by simp only; omega) (by simp only; omega)]
    · rfl
theorem cut_eq {most : Int} (h1 : 1 ≤ most) (p : Piece) : cut most p = if most < p.to - p.fr then { p with to := p.fr + most } :: cut most { p with fr := p.fr + most } else [p] := by
  unfold cut
  rw [cutF_fuel h1 _ ((p.to - p.fr).toNat + 1) p (Nat.le_refl _) (Nat.le_succ _)]
  simp only [cutF]
  split
  · rw [cutF_fuel h1 (p.to - p.fr).toNat _ _ (by simp only; omega) (Nat.le_refl _)]
  · rfl
theorem cut_len {most : Int} (h1 : 1 ≤ most) : ∀ (n : Nat) (p : Piece), (p.to - p.fr).toNat ≤ n → p.fr < p.to → ((cut most p).length : Int) = (p.to - p.fr + most - 1) / most
  | 0, p, hn, hp => by omega
  | n + 1, p, hn, hp => by
    rw [cut_eq h1]
    split
    · rename_i h
      rw [List.length_cons, Int.natCast_add, cut_len h1 n _ (by simp only; omega) (by simp only; omega)]
      simp only
      have : p.to - p.fr + most - 1 = (p.to - (p.fr + most) + most - 1) + 1 * most := by omega
      rw [this, Int.add_mul_ediv_right _ _ (by omega)]
      rfl
    · rename_i h
      have : p.to - p.fr + most - 1 = (p.to - p.fr - 1) + 1 * most := by omega
      rw [this, Int.add_mul_ediv_right _ _ (by omega), Int.ediv_eq_zero_of_lt (by omega) (by omega)]
      rfl
theorem splitP_succ {most : Int} {ps : List Piece} {k : Nat} {p : Piece} (h : ps[k]? = some p) : splitP most (ps.take (k + 1)) = splitP most (ps.take k) ++ cut most p := by
  rw [List.take_add_one, h]; simp [splitP]
theorem splitP_le {most : Int} {ps : List Piece} (k : Nat) : (splitP most (ps.take k)).length ≤ (splitP most ps).length := by
  have : splitP most ps = splitP most (ps.take k) ++ splitP most (ps.drop k) := by
    unfold splitP
    rw [← List.flatMap_append, List.take_append_drop]
  rw [this, List.length_append]
  omega
theorem cut_pos (most : Int) (p : Piece) : 1 ≤ (cut most p).length := by
  unfold cut
  cases (p.to - p.fr).toNat with
  | zero => simp [cutF]
  | succ n => simp only [cutF]; split <;> simp

/-- What BoardSplit answers. -/
def splitB (una nxt : Int) (ps : List Piece) (most : Int) : Int × Int × List Piece × Int :=
  if okB una nxt ps ∧ (1 ≤ most ∧ most ≤ 65535) then
    if 4096 < (splitP most ps).length then (0, 0, [], 18) else (una, nxt, splitP most ps, 0)
  else (0, 0, [], 1)
theorem splitB_len (una nxt most : Int) (ps : List Piece) : (splitB una nxt ps most).2.2.1.length ≤ 1048576 := by
  unfold splitB
  split
  · split
    · simp
    · simp; omega
  · simp
theorem cut_row (p : Piece) : p.row.length = 6 := rfl

set_option maxRecDepth 20000 in
theorem l14Min_c (h : IH) (a b : Int) : ICalls Try.prog 79 [.int .i64 a, .int .i64 b] h fun r h' => r = .int .i64 (min a b) ∧ h' = h := by
  refine icalls (.of ok79) (Nat.le_of_ble_eq_true rfl) ?_
  unfold c79
  simp only [go_sem, Hold.p, HoldK.k, HoldL.K, HoldL.body, Nat.reduceBEq, Nat.reduceAdd, List.getElem?_cons_zero, List.getElem?_cons_succ, Option.bind_some, List.map_cons, List.map_nil, Nat.zero_add, if_true, List.getD_cons_zero, List.getD_cons_succ, List.contains_cons, List.contains_nil, Nat.reduceBEq, Bool.or_true, Bool.true_or, Bool.or_false, Bool.false_or, Bool.not_true, Bool.not_false, true_and, and_true]
  refine test_dec (fun hb => ?_) (fun hb => ?_)
  · simp only [go_sem, Hold.p, HoldK.k, HoldL.K, HoldL.body, Nat.reduceBEq, Nat.reduceAdd, List.getElem?_cons_zero, List.getElem?_cons_succ, Option.bind_some, List.map_cons, List.map_nil, Nat.zero_add, if_true, List.getD_cons_zero, List.getD_cons_succ, List.contains_cons, List.contains_nil, Nat.reduceBEq, Bool.or_true, Bool.true_or, Bool.or_false, Bool.false_or, Bool.not_true, Bool.not_false, true_and, and_true]; congr 1; omega
  · simp only [go_sem, Hold.p, HoldK.k, HoldL.K, HoldL.body, Nat.reduceBEq, Nat.reduceAdd, List.getElem?_cons_zero, List.getElem?_cons_succ, Option.bind_some, List.map_cons, List.map_nil, Nat.zero_add, if_true, List.getD_cons_zero, List.getD_cons_succ, List.contains_cons, List.contains_nil, Nat.reduceBEq, Bool.or_true, Bool.true_or, Bool.or_false, Bool.false_or, Bool.not_true, Bool.not_false, true_and, and_true]; congr 1; omega

set_option maxRecDepth 20000 in
theorem split_c (h : IH) (b e0 : Nat) (v : IV) (una nxt most : Int) (ps : List Piece) (hb : At h b (.rows [[.int .i64 una, .int .i64 nxt, v]] e0 3 false)) (hs : SlR h 6 v (ps.map Piece.row))
    (hw : ∀ p ∈ ps, 0 ≤ p.fr ∧ p.fr < p.to ∧ p.to ≤ 1099511627776) (hm : ps.length ≤ 4096) (h1 : 1 ≤ most) (h2 : most ≤ 65535) :
    ICalls Try.prog 80 [.ptr b 0 0, .int .i64 most] h fun r h' => if 4096 < (splitP most ps).length then r = .bool false ∧ Ext h h' else
      r = .bool true ∧ ∃ v', At h' b (.rows [[.int .i64 una, .int .i64 nxt, v']] e0 3 false) ∧ Own h.n h'.n h' 113 6 v' ((splitP most ps).map Piece.row) ∧ But b .nilslice h h' := by
  refine icalls (.of ok80) (Nat.le_of_ble_eq_true rfl) ?_
  unfold c80
  have hlen := hs.lenF
  rw [List.length_map] at hlen
  have hbe := hb.eq
  simp only [hbe, hlen, go_sem, Hold.p, HoldK.k, HoldL.K, HoldL.body, Nat.reduceBEq, Nat.reduceAdd, List.getElem?_cons_zero, List.getElem?_cons_succ, Option.bind_some, List.map_cons, List.map_nil, Nat.zero_add, if_true, List.getD_cons_zero, List.getD_cons_succ, List.contains_cons, List.contains_nil, Nat.reduceBEq, Bool.or_true, Bool.true_or, Bool.or_false, Bool.false_or, Bool.not_true, Bool.not_false, true_and, and_true, rowA_whole, push_n, set_n, push_obj, set_obj, set_push, set_push_ne, set_set, Nat.add_assoc, Nat.left_eq_add, Nat.add_eq_left, Nat.add_left_cancel_iff, Nat.reduceEqDiff, stO_1s, stO_ws, boxA_s, one_bool, one_int, one_str, one_ptr, one_nilptr, one_slice, one_eslice, one_nilslice, one_func, one_iface, one_niliface, List.all_cons, List.all_nil, List.length_cons, List.length_nil, Nat.reduceLT, Nat.reduceEqDiff, Nat.reduceLeDiff, Bool.and_true, Nat.one_ne_zero, Nat.succ_ne_zero, reduceIte, if_false, List.getElem?_cons_zero, List.set_cons_zero, List.set_cons_succ]
  refine loop_at (fun m e h' => ∃ k vl lo hi, m = ps.length - k ∧ k ≤ ps.length ∧ e 0 = .ptr b 0 0 ∧ e 1 = .int .i64 most ∧ e 13 = v ∧ e 14 = .int .i64 ps.length ∧ e 15 = .int .i64 k ∧ e 5 = vl ∧
    Ext h h' ∧ h.n ≤ lo ∧ Own lo hi h' 113 6 vl ((splitP most (ps.take k)).map Piece.row) ∧ hi ≤ h'.n ∧ (splitP most (ps.take k)).length ≤ 4096 + k) ps.length ?_ ?_
  · refine ⟨0, .nilslice, h.n, h.n, by omega, by omega, ?_⟩
    simp only [go_sem, Hold.p, HoldK.k, HoldL.K, HoldL.body, Nat.reduceBEq, Nat.reduceAdd, List.getElem?_cons_zero, List.getElem?_cons_succ, Option.bind_some, List.map_cons, List.map_nil, Nat.zero_add, if_true, List.getD_cons_zero, List.getD_cons_succ, List.contains_cons, List.contains_nil, Nat.reduceBEq, Bool.or_true, Bool.true_or, Bool.or_false, Bool.false_or, Bool.not_true, Bool.not_false, true_and, and_true, rowA_whole, push_n, set_n, push_obj, set_obj, set_push, set_push_ne, set_set, Nat.add_assoc, Nat.left_eq_add, Nat.add_eq_left, Nat.add_left_cancel_iff, Nat.reduceEqDiff, stO_1s, stO_ws, boxA_s, one_bool, one_int, one_str, one_ptr, one_nilptr, one_slice, one_eslice, one_nilslice, one_func, one_iface, one_niliface, List.all_cons, List.all_nil, List.length_cons, List.length_nil, Nat.reduceLT, Nat.reduceEqDiff, Nat.reduceLeDiff, Bool.and_true, Nat.one_ne_zero, Nat.succ_ne_zero, reduceIte, if_false, List.getElem?_cons_zero, List.set_cons_zero, List.set_cons_succ]
    exact ⟨rfl, Ext.refl _, Nat.le_refl _, Own.nil, Nat.le_refl _, by simp [splitP]⟩
  · rintro m e h' ⟨k, vl, lo, hi, rfl, hk, i0, i1, i13, i14, i15, i5, hE, hlo, ol, hhi, hll⟩
    simp only [i0, i1, i13, i14, i15, i5, go_sem, Hold.p, HoldK.k, HoldL.K, HoldL.body, Nat.reduceBEq, Nat.reduceAdd, List.getElem?_cons_zero, List.getElem?_cons_succ, Option.bind_some, List.map_cons, List.map_nil, Nat.zero_add, if_true, List.getD_cons_zero, List.getD_cons_succ, List.contains_cons, List.contains_nil, Nat.reduceBEq, Bool.or_true, Bool.true_or, Bool.or_false, Bool.false_or, Bool.not_true, Bool.not_false, true_and, and_true, rowA_whole, push_n, set_n, push_obj, set_obj, set_push, set_push_ne, set_set, Nat.add_assoc, Nat.left_eq_add, Nat.add_eq_left, Nat.add_left_cancel_iff, Nat.reduceEqDiff, stO_1s, stO_ws, boxA_s, one_bool, one_int, one_str, one_ptr, one_nilptr, one_slice, one_eslice, one_nilslice, one_func, one_iface, one_niliface, List.all_cons, List.all_nil, List.length_cons, List.length_nil, Nat.reduceLT, Nat.reduceEqDiff, Nat.reduceLeDiff, Bool.and_true, Nat.one_ne_zero, Nat.succ_ne_zero, reduceIte, if_false, List.getElem?_cons_zero, List.set_cons_zero, List.set_cons_succ]
    refine test_dec (fun hlt => ?_) (fun hlt => ?_)
    · have hlt' : k < ps.length := by omega
      have hkp : ps[k]? = some ps[k] := List.getElem?_eq_getElem hlt'
      have hpb := hw ps[k] (List.getElem_mem _)
      generalize ps[k] = p at hkp hpb
      have hsu := splitP_succ (most := most) hkp
      obtain ⟨l, j, hia, hlj, hrow⟩ := (hs.ext hE).at (m := k) (row := p.row) (by rw [List.getElem?_map, hkp]; rfl) .i64
      simp only [i0, i1, i13, i14, i15, i5, go_sem, Hold.p, HoldK.k, HoldL.K, HoldL.body, Nat.reduceBEq, Nat.reduceAdd, List.getElem?_cons_zero, List.getElem?_cons_succ, Option.bind_some, List.map_cons, List.map_nil, Nat.zero_add, if_true, List.getD_cons_zero, List.getD_cons_succ, List.contains_cons, List.contains_nil, Nat.reduceBEq, Bool.or_true, Bool.true_or, Bool.or_false, Bool.false_or, Bool.not_true, Bool.not_false, true_and, and_true, rowA_whole, push_n, set_n, push_obj, set_obj, set_push, set_push_ne, set_set, Nat.add_assoc, Nat.left_eq_add, Nat.add_eq_left, Nat.add_left_cancel_iff, Nat.reduceEqDiff, stO_1s, stO_ws, boxA_s, one_bool, one_int, one_str, one_ptr, one_nilptr, one_slice, one_eslice, one_nilslice, one_func, one_iface, one_niliface, List.all_cons, List.all_nil, List.length_cons, List.length_nil, Nat.reduceLT, Nat.reduceEqDiff, Nat.reduceLeDiff, Bool.and_true, Nat.one_ne_zero, Nat.succ_ne_zero, reduceIte, if_false, List.getElem?_cons_zero, List.set_cons_zero, List.set_cons_succ]
      refine got_of hia ?_
      unfold Piece.row at hrow
      simp only [hrow, i0, i1, i13, i14, i15, i5, go_sem, Hold.p, HoldK.k, HoldL.K, HoldL.body, Nat.reduceBEq, Nat.reduceAdd, List.getElem?_cons_zero, List.getElem?_cons_succ, Option.bind_some, List.map_cons, List.map_nil, Nat.zero_add, if_true, List.getD_cons_zero, List.getD_cons_succ, List.contains_cons, List.contains_nil, Nat.reduceBEq, Bool.or_true, Bool.true_or, Bool.or_false, Bool.false_or, Bool.not_true, Bool.not_false, true_and, and_true, rowA_whole, push_n, set_n, push_obj, set_obj, set_push, set_push_ne, set_set, Nat.add_assoc, Nat.left_eq_add, Nat.add_eq_left, Nat.add_left_cancel_iff, Nat.reduceEqDiff, stO_1s, stO_ws, boxA_s, one_bool, one_int, one_str, one_ptr, one_nilptr, one_slice, one_eslice, one_nilslice, one_func, one_iface, one_niliface, List.all_cons, List.all_nil, List.length_cons, List.length_nil, Nat.reduceLT, Nat.reduceEqDiff, Nat.reduceLeDiff, Bool.and_true, Nat.one_ne_zero, Nat.succ_ne_zero, reduceIte, if_false, List.getElem?_cons_zero, List.set_cons_zero, List.set_cons_succ]
      generalize hq_g0 : IH.push h' (IObj.rows [[IV.int .i64 p.fr, IV.int .i64 p.to, IV.int .i64 p.at_, IV.int .i64 p.times, IV.bool p.sacked, IV.bool p.lost]] 113 6 false) = g0
      have e_g0 : Ext h' g0 := by rw [← hq_g0]; exact (Ext.refl _).push _
      have l_g0 : g0.n = h'.n + 1 := by rw [← hq_g0]; rfl
      have bp : At g0 h'.n (IObj.rows [[IV.int .i64 p.fr, IV.int .i64 p.to, IV.int .i64 p.at_, IV.int .i64 p.times, IV.bool p.sacked, IV.bool p.lost]] 113 6 false) := by rw [← hq_g0]; exact At.new _ _
      clear hq_g0
      have ol := ol.ext e_g0
      refine loop_at (fun m e g => ∃ (p' : Piece) (vl : IV) (lo hi : Nat) (l : List Piece), m = (p'.to - p'.fr).toNat ∧ e 0 = .ptr b 0 0 ∧ e 1 = .int .i64 most ∧ e 13 = v ∧ e 14 = .int .i64 ps.length ∧ e 15 = .int .i64 k ∧ e 5 = vl ∧ e 7 = .ptr h'.n 0 0 ∧
        Ext h g ∧ h.n ≤ lo ∧ (h'.n < lo ∨ hi ≤ h'.n) ∧ hi ≤ g.n ∧ Own lo hi g 113 6 vl (l.map Piece.row) ∧ l.length ≤ 4096 + k ∧ l ++ cut most p' = splitP most (ps.take k) ++ cut most p ∧ At g h'.n (.rows [p'.row] 113 6 false) ∧
        (0 ≤ p'.fr ∧ p'.fr < p'.to ∧ p'.to ≤ 1099511627776)) (p.to - p.fr).toNat ?_ ?_
      · refine ⟨p, vl, lo, hi, splitP most (ps.take k), rfl, ?_⟩
        simp only [i0, i1, i13, i14, i15, i5, go_sem, Hold.p, HoldK.k, HoldL.K, HoldL.body, Nat.reduceBEq, Nat.reduceAdd, List.getElem?_cons_zero, List.getElem?_cons_succ, Option.bind_some, List.map_cons, List.map_nil, Nat.zero_add, if_true, List.getD_cons_zero, List.getD_cons_succ, List.contains_cons, List.contains_nil, Nat.reduceBEq, Bool.or_true, Bool.true_or, Bool.or_false, Bool.false_or, Bool.not_true, Bool.not_false, true_and, and_true, rowA_whole, push_n, set_n, push_obj, set_obj, set_push, set_push_ne, set_set, Nat.add_assoc, Nat.left_eq_add, Nat.add_eq_left, Nat.add_left_cancel_iff, Nat.reduceEqDiff, stO_1s, stO_ws, boxA_s, one_bool, one_int, one_str, one_ptr, one_nilptr, one_slice, one_eslice, one_nilslice, one_func, one_iface, one_niliface, List.all_cons, List.all_nil, List.length_cons, List.length_nil, Nat.reduceLT, Nat.reduceEqDiff, Nat.reduceLeDiff, Bool.and_true, Nat.one_ne_zero, Nat.succ_ne_zero, reduceIte, if_false, List.getElem?_cons_zero, List.set_cons_zero, List.set_cons_succ]
        exact ⟨hE.trans e_g0, hlo, by omega, by omega, ol, hll, bp, hpb⟩
      · rintro m e g ⟨p', vl, lo, hi, l, rfl, j0, j1, j13, j14, j15, j5, j7, gE, glo, gd, ghi, go, gl, gc, gb, gw⟩
        have gbe := gb.eq
        unfold Piece.row at gbe
        have hw0 : wr .i64 (p'.to - p'.fr) = p'.to - p'.fr := wr64 _ (by omega)
        have hw1 : wr .i64 (p'.fr + most) = p'.fr + most := wr64 _ (by omega)
        have hle := hE.le
        have gble := gb.lt
        have hne : (h'.n = g.n) = False := by simp; omega
        have hce := cut_eq h1 p'
        simp only [j0, j1, j13, j14, j15, j5, j7, gbe, hw0, go_sem, Hold.p, HoldK.k, HoldL.K, HoldL.body, Nat.reduceBEq, Nat.reduceAdd, List.getElem?_cons_zero, List.getElem?_cons_succ, Option.bind_some, List.map_cons, List.map_nil, Nat.zero_add, if_true, List.getD_cons_zero, List.getD_cons_succ, List.contains_cons, List.contains_nil, Nat.reduceBEq, Bool.or_true, Bool.true_or, Bool.or_false, Bool.false_or, Bool.not_true, Bool.not_false, true_and, and_true, rowA_whole, push_n, set_n, push_obj, set_obj, set_push, set_push_ne, set_set, Nat.add_assoc, Nat.left_eq_add, Nat.add_eq_left, Nat.add_left_cancel_iff, Nat.reduceEqDiff, stO_1s, stO_ws, boxA_s, one_bool, one_int, one_str, one_ptr, one_nilptr, one_slice, one_eslice, one_nilslice, one_func, one_iface, one_niliface, List.all_cons, List.all_nil, List.length_cons, List.length_nil, Nat.reduceLT, Nat.reduceEqDiff, Nat.reduceLeDiff, Bool.and_true, Nat.one_ne_zero, Nat.succ_ne_zero, reduceIte, if_false, List.getElem?_cons_zero, List.set_cons_zero, List.set_cons_succ]
        refine test_dec (fun c1 => ?_) (fun c1 => ?_)
        · rw [if_pos c1] at hce
          simp only [j0, j1, j13, j14, j15, j5, j7, gbe, hw0, hw1, hne, lay_nil, lay_1, lay_w, Option.map_some, go_sem, Hold.p, HoldK.k, HoldL.K, HoldL.body, Nat.reduceBEq, Nat.reduceAdd, List.getElem?_cons_zero, List.getElem?_cons_succ, Option.bind_some, List.map_cons, List.map_nil, Nat.zero_add, if_true, List.getD_cons_zero, List.getD_cons_succ, List.contains_cons, List.contains_nil, Nat.reduceBEq, Bool.or_true, Bool.true_or, Bool.or_false, Bool.false_or, Bool.not_true, Bool.not_false, true_and, and_true, rowA_whole, push_n, set_n, push_obj, set_obj, set_push, set_push_ne, set_set, Nat.add_assoc, Nat.left_eq_add, Nat.add_eq_left, Nat.add_left_cancel_iff, Nat.reduceEqDiff, stO_1s, stO_ws, boxA_s, one_bool, one_int, one_str, one_ptr, one_nilptr, one_slice, one_eslice, one_nilslice, one_func, one_iface, one_niliface, List.all_cons, List.all_nil, List.length_cons, List.length_nil, Nat.reduceLT, Nat.reduceEqDiff, Nat.reduceLeDiff, Bool.and_true, Nat.one_ne_zero, Nat.succ_ne_zero, reduceIte, if_false, List.getElem?_cons_zero, List.set_cons_zero, List.set_cons_succ]
          generalize hq_g1 : IH.set g (h'.n) (IObj.rows [[IV.int .i64 (p'.fr + most), IV.int .i64 p'.to, IV.int .i64 p'.at_, IV.int .i64 p'.times, IV.bool p'.sacked, IV.bool p'.lost]] 113 6 false) = g1
          have l_g1 : g1.n = g.n := by rw [← hq_g1]; rfl
          have gb : At g1 (h'.n) (IObj.rows [[IV.int .i64 (p'.fr + most), IV.int .i64 p'.to, IV.int .i64 p'.at_, IV.int .i64 p'.times, IV.bool p'.sacked, IV.bool p'.lost]] 113 6 false) := by rw [← hq_g1]; exact gb.here
          have go := go.set (m := h'.n) (by omega) (IObj.rows [[IV.int .i64 (p'.fr + most), IV.int .i64 p'.to, IV.int .i64 p'.at_, IV.int .i64 p'.times, IV.bool p'.sacked, IV.bool p'.lost]] 113 6 false)
          rw [hq_g1] at go
          have gE := gE.set (h'.n) (by omega) (IObj.rows [[IV.int .i64 (p'.fr + most), IV.int .i64 p'.to, IV.int .i64 p'.at_, IV.int .i64 p'.times, IV.bool p'.sacked, IV.bool p'.lost]] 113 6 false)
          rw [hq_g1] at gE
          clear hq_g1
          generalize hq_g2 : IH.push g1 (IObj.rows [[IV.int .i64 p'.fr, IV.int .i64 (p'.fr + most), IV.int .i64 p'.at_, IV.int .i64 p'.times, IV.bool p'.sacked, IV.bool p'.lost]] 113 6 false) = g2
          have e_g2 : Ext g1 g2 := by rw [← hq_g2]; exact (Ext.refl _).push _
          have l_g2 : g2.n = g1.n + 1 := by rw [← hq_g2]; rfl
          have bq : At g2 g1.n (IObj.rows [[IV.int .i64 p'.fr, IV.int .i64 (p'.fr + most), IV.int .i64 p'.at_, IV.int .i64 p'.times, IV.bool p'.sacked, IV.bool p'.lost]] 113 6 false) := by rw [← hq_g2]; exact At.new _ _
          clear hq_g2
          have gb := gb.ext e_g2
          have go := go.ext e_g2
          have gE := gE.ext e_g2
          generalize hq_g3 : IH.push g2 (IObj.rows [[IV.int .i64 p'.fr, IV.int .i64 (p'.fr + most), IV.int .i64 p'.at_, IV.int .i64 p'.times, IV.bool p'.sacked, IV.bool p'.lost]] 113 6 false) = g3
          have e_g3 : Ext g2 g3 := by rw [← hq_g3]; exact (Ext.refl _).push _
          have l_g3 : g3.n = g2.n + 1 := by rw [← hq_g3]; rfl
          have ba : At g3 g2.n (IObj.rows [[IV.int .i64 p'.fr, IV.int .i64 (p'.fr + most), IV.int .i64 p'.at_, IV.int .i64 p'.times, IV.bool p'.sacked, IV.bool p'.lost]] 113 6 false) := by rw [← hq_g3]; exact At.new _ _
          clear hq_g3
          have gb := gb.ext e_g3
          have go := go.ext e_g3
          have gE := gE.ext e_g3
          refine go.app (by simp) (by simp; omega) ?_
          intro v6 h6 o6 t6 n6 v6o v6c
          have gb := gb.turn go (by omega) t6
          have gE := gE.turn go (by omega) t6
          have le_t6 := t6.le
          have hl6 : lenF v6 = some (.int .i64 ((l.length + 1 : Nat) : Int)) := by simpa using o6.lenF
          have o7 : Own g3.n (g3.n + 1) h6 113 6 v6 ((l ++ [{ p' with to := p'.fr + most }]).map Piece.row) := by
            have : (l ++ [{ p' with to := p'.fr + most }]).map Piece.row = l.map Piece.row ++ [[IV.int .i64 p'.fr, IV.int .i64 (p'.fr + most), IV.int .i64 p'.at_, IV.int .i64 p'.times, IV.bool p'.sacked, IV.bool p'.lost]] := by simp [Piece.row]
            rw [this]; exact o6
          have gc2 : (l ++ [{ p' with to := p'.fr + most }]) ++ cut most { p' with fr := p'.fr + most } = splitP most (ps.take k) ++ cut most p := by rw [← gc, hce]; simp
          simp only [hl6, j0, j1, j13, j14, j15, j5, j7, go_sem, Hold.p, HoldK.k, HoldL.K, HoldL.body, Nat.reduceBEq, Nat.reduceAdd, List.getElem?_cons_zero, List.getElem?_cons_succ, Option.bind_some, List.map_cons, List.map_nil, Nat.zero_add, if_true, List.getD_cons_zero, List.getD_cons_succ, List.contains_cons, List.contains_nil, Nat.reduceBEq, Bool.or_true, Bool.true_or, Bool.or_false, Bool.false_or, Bool.not_true, Bool.not_false, true_and, and_true, rowA_whole, push_n, set_n, push_obj, set_obj, set_push, set_push_ne, set_set, Nat.add_assoc, Nat.left_eq_add, Nat.add_eq_left, Nat.add_left_cancel_iff, Nat.reduceEqDiff, stO_1s, stO_ws, boxA_s, one_bool, one_int, one_str, one_ptr, one_nilptr, one_slice, one_eslice, one_nilslice, one_func, one_iface, one_niliface, List.all_cons, List.all_nil, List.length_cons, List.length_nil, Nat.reduceLT, Nat.reduceEqDiff, Nat.reduceLeDiff, Bool.and_true, Nat.one_ne_zero, Nat.succ_ne_zero, reduceIte, if_false, List.getElem?_cons_zero, List.set_cons_zero, List.set_cons_succ]
          refine test_dec (fun c2 => ?_) (fun c2 => ?_)
          · simp only [j0, go_sem, Hold.p, HoldK.k, HoldL.K, HoldL.body, Nat.reduceBEq, Nat.reduceAdd, List.getElem?_cons_zero, List.getElem?_cons_succ, Option.bind_some, List.map_cons, List.map_nil, Nat.zero_add, if_true, List.getD_cons_zero, List.getD_cons_succ, List.contains_cons, List.contains_nil, Nat.reduceBEq, Bool.or_true, Bool.true_or, Bool.or_false, Bool.false_or, Bool.not_true, Bool.not_false, true_and, and_true, rowA_whole, push_n, set_n, push_obj, set_obj, set_push, set_push_ne, set_set, Nat.add_assoc, Nat.left_eq_add, Nat.add_eq_left, Nat.add_left_cancel_iff, Nat.reduceEqDiff, stO_1s, stO_ws, boxA_s, one_bool, one_int, one_str, one_ptr, one_nilptr, one_slice, one_eslice, one_nilslice, one_func, one_iface, one_niliface, List.all_cons, List.all_nil, List.length_cons, List.length_nil, Nat.reduceLT, Nat.reduceEqDiff, Nat.reduceLeDiff, Bool.and_true, Nat.one_ne_zero, Nat.succ_ne_zero, reduceIte, if_false, List.getElem?_cons_zero, List.set_cons_zero, List.set_cons_succ]
            have := splitP_le (most := most) (ps := ps) (k + 1)
            rw [hsu, ← gc2] at this
            simp only [List.length_append, List.length_cons, List.length_nil] at this
            rw [if_pos (by omega)]
            exact gE
          · simp only [j0, j1, j13, j14, j15, j5, j7, go_sem, Hold.p, HoldK.k, HoldL.K, HoldL.body, Nat.reduceBEq, Nat.reduceAdd, List.getElem?_cons_zero, List.getElem?_cons_succ, Option.bind_some, List.map_cons, List.map_nil, Nat.zero_add, if_true, List.getD_cons_zero, List.getD_cons_succ, List.contains_cons, List.contains_nil, Nat.reduceBEq, Bool.or_true, Bool.true_or, Bool.or_false, Bool.false_or, Bool.not_true, Bool.not_false, true_and, and_true, rowA_whole, push_n, set_n, push_obj, set_obj, set_push, set_push_ne, set_set, Nat.add_assoc, Nat.left_eq_add, Nat.add_eq_left, Nat.add_left_cancel_iff, Nat.reduceEqDiff, stO_1s, stO_ws, boxA_s, one_bool, one_int, one_str, one_ptr, one_nilptr, one_slice, one_eslice, one_nilslice, one_func, one_iface, one_niliface, List.all_cons, List.all_nil, List.length_cons, List.length_nil, Nat.reduceLT, Nat.reduceEqDiff, Nat.reduceLeDiff, Bool.and_true, Nat.one_ne_zero, Nat.succ_ne_zero, reduceIte, if_false, List.getElem?_cons_zero, List.set_cons_zero, List.set_cons_succ]
            refine ⟨_, ?_, { p' with fr := p'.fr + most }, v6, g3.n, g3.n + 1, _, rfl, rfl, gE, by omega, by omega, by omega, o7, by simp; omega, gc2, gb, ?_⟩
            · simp only; omega
            · simp only; omega
        · rw [if_neg c1] at hce
          simp only [j0, j1, j13, j14, j15, j5, j7, gbe, hw0, hw1, go_sem, Hold.p, HoldK.k, HoldL.K, HoldL.body, Nat.reduceBEq, Nat.reduceAdd, List.getElem?_cons_zero, List.getElem?_cons_succ, Option.bind_some, List.map_cons, List.map_nil, Nat.zero_add, if_true, List.getD_cons_zero, List.getD_cons_succ, List.contains_cons, List.contains_nil, Nat.reduceBEq, Bool.or_true, Bool.true_or, Bool.or_false, Bool.false_or, Bool.not_true, Bool.not_false, true_and, and_true, rowA_whole, push_n, set_n, push_obj, set_obj, set_push, set_push_ne, set_set, Nat.add_assoc, Nat.left_eq_add, Nat.add_eq_left, Nat.add_left_cancel_iff, Nat.reduceEqDiff, stO_1s, stO_ws, boxA_s, one_bool, one_int, one_str, one_ptr, one_nilptr, one_slice, one_eslice, one_nilslice, one_func, one_iface, one_niliface, List.all_cons, List.all_nil, List.length_cons, List.length_nil, Nat.reduceLT, Nat.reduceEqDiff, Nat.reduceLeDiff, Bool.and_true, Nat.one_ne_zero, Nat.succ_ne_zero, reduceIte, if_false, List.getElem?_cons_zero, List.set_cons_zero, List.set_cons_succ]
          generalize hq_g3 : IH.push g (IObj.rows [[IV.int .i64 p'.fr, IV.int .i64 p'.to, IV.int .i64 p'.at_, IV.int .i64 p'.times, IV.bool p'.sacked, IV.bool p'.lost]] 113 6 false) = g3
          have e_g3 : Ext g g3 := by rw [← hq_g3]; exact (Ext.refl _).push _
          have l_g3 : g3.n = g.n + 1 := by rw [← hq_g3]; rfl
          have ba : At g3 g.n (IObj.rows [[IV.int .i64 p'.fr, IV.int .i64 p'.to, IV.int .i64 p'.at_, IV.int .i64 p'.times, IV.bool p'.sacked, IV.bool p'.lost]] 113 6 false) := by rw [← hq_g3]; exact At.new _ _
          clear hq_g3
          have go := go.ext e_g3
          have gE := gE.ext e_g3
          refine go.app (by simp) (by simp; omega) ?_
          intro v6 h6 o6 t6 n6 v6o v6c
          have gE := gE.turn go (by omega) t6
          have le_t6 := t6.le
          have o7 : Own g3.n (g3.n + 1) h6 113 6 v6 ((l ++ [p']).map Piece.row) := by
            have : (l ++ [p']).map Piece.row = l.map Piece.row ++ [[IV.int .i64 p'.fr, IV.int .i64 p'.to, IV.int .i64 p'.at_, IV.int .i64 p'.times, IV.bool p'.sacked, IV.bool p'.lost]] := by simp [Piece.row]
            rw [this]; exact o6
          rw [hce, ← hsu] at gc
          rw [gc] at o7
          simp only [j0, j1, j13, j14, j15, j5, j7, go_sem, Hold.p, HoldK.k, HoldL.K, HoldL.body, Nat.reduceBEq, Nat.reduceAdd, List.getElem?_cons_zero, List.getElem?_cons_succ, Option.bind_some, List.map_cons, List.map_nil, Nat.zero_add, if_true, List.getD_cons_zero, List.getD_cons_succ, List.contains_cons, List.contains_nil, Nat.reduceBEq, Bool.or_true, Bool.true_or, Bool.or_false, Bool.false_or, Bool.not_true, Bool.not_false, true_and, and_true, rowA_whole, push_n, set_n, push_obj, set_obj, set_push, set_push_ne, set_set, Nat.add_assoc, Nat.left_eq_add, Nat.add_eq_left, Nat.add_left_cancel_iff, Nat.reduceEqDiff, stO_1s, stO_ws, boxA_s, one_bool, one_int, one_str, one_ptr, one_nilptr, one_slice, one_eslice, one_nilslice, one_func, one_iface, one_niliface, List.all_cons, List.all_nil, List.length_cons, List.length_nil, Nat.reduceLT, Nat.reduceEqDiff, Nat.reduceLeDiff, Bool.and_true, Nat.one_ne_zero, Nat.succ_ne_zero, reduceIte, if_false, List.getElem?_cons_zero, List.set_cons_zero, List.set_cons_succ]
          refine ⟨_, ?_, k + 1, v6, g3.n, g3.n + 1, rfl, by omega, wr64_succ k (by omega), rfl, gE, by omega, o7, by omega, ?_⟩
          · omega
          · rw [← gc]; simp; omega
    · obtain rfl : k = ps.length := by omega
      rw [List.take_length] at ol hll
      have hl6 : lenF vl = some (.int .i64 ((splitP most ps).length : Int)) := by simpa using ol.lenF
      have vlo := ol.one
      have vlc := ol.cells
      have bx := hb.ext hE
      simp only [i0, i1, i13, i14, i15, i5, hl6, vlo, vlc, bx.eq, go_sem, Hold.p, HoldK.k, HoldL.K, HoldL.body, Nat.reduceBEq, Nat.reduceAdd, List.getElem?_cons_zero, List.getElem?_cons_succ, Option.bind_some, List.map_cons, List.map_nil, Nat.zero_add, if_true, List.getD_cons_zero, List.getD_cons_succ, List.contains_cons, List.contains_nil, Nat.reduceBEq, Bool.or_true, Bool.true_or, Bool.or_false, Bool.false_or, Bool.not_true, Bool.not_false, true_and, and_true, rowA_whole, push_n, set_n, push_obj, set_obj, set_push, set_push_ne, set_set, Nat.add_assoc, Nat.left_eq_add, Nat.add_eq_left, Nat.add_left_cancel_iff, Nat.reduceEqDiff, stO_1s, stO_ws, boxA_s, one_bool, one_int, one_str, one_ptr, one_nilptr, one_slice, one_eslice, one_nilslice, one_func, one_iface, one_niliface, List.all_cons, List.all_nil, List.length_cons, List.length_nil, Nat.reduceLT, Nat.reduceEqDiff, Nat.reduceLeDiff, Bool.and_true, Nat.one_ne_zero, Nat.succ_ne_zero, reduceIte, if_false, List.getElem?_cons_zero, List.set_cons_zero, List.set_cons_succ]
      refine test_dec (fun c2 => ?_) (fun c2 => ?_)
      · simp only [i0, go_sem, Hold.p, HoldK.k, HoldL.K, HoldL.body, Nat.reduceBEq, Nat.reduceAdd, List.getElem?_cons_zero, List.getElem?_cons_succ, Option.bind_some, List.map_cons, List.map_nil, Nat.zero_add, if_true, List.getD_cons_zero, List.getD_cons_succ, List.contains_cons, List.contains_nil, Nat.reduceBEq, Bool.or_true, Bool.true_or, Bool.or_false, Bool.false_or, Bool.not_true, Bool.not_false, true_and, and_true, rowA_whole, push_n, set_n, push_obj, set_obj, set_push, set_push_ne, set_set, Nat.add_assoc, Nat.left_eq_add, Nat.add_eq_left, Nat.add_left_cancel_iff, Nat.reduceEqDiff, stO_1s, stO_ws, boxA_s, one_bool, one_int, one_str, one_ptr, one_nilptr, one_slice, one_eslice, one_nilslice, one_func, one_iface, one_niliface, List.all_cons, List.all_nil, List.length_cons, List.length_nil, Nat.reduceLT, Nat.reduceEqDiff, Nat.reduceLeDiff, Bool.and_true, Nat.one_ne_zero, Nat.succ_ne_zero, reduceIte, if_false, List.getElem?_cons_zero, List.set_cons_zero, List.set_cons_succ]
        rw [if_pos (by omega)]
        exact hE
      · simp only [i0, i1, i13, i14, i15, i5, hl6, vlo, vlc, bx.eq, go_sem, Hold.p, HoldK.k, HoldL.K, HoldL.body, Nat.reduceBEq, Nat.reduceAdd, List.getElem?_cons_zero, List.getElem?_cons_succ, Option.bind_some, List.map_cons, List.map_nil, Nat.zero_add, if_true, List.getD_cons_zero, List.getD_cons_succ, List.contains_cons, List.contains_nil, Nat.reduceBEq, Bool.or_true, Bool.true_or, Bool.or_false, Bool.false_or, Bool.not_true, Bool.not_false, true_and, and_true, rowA_whole, push_n, set_n, push_obj, set_obj, set_push, set_push_ne, set_set, Nat.add_assoc, Nat.left_eq_add, Nat.add_eq_left, Nat.add_left_cancel_iff, Nat.reduceEqDiff, stO_1s, stO_ws, boxA_s, one_bool, one_int, one_str, one_ptr, one_nilptr, one_slice, one_eslice, one_nilslice, one_func, one_iface, one_niliface, List.all_cons, List.all_nil, List.length_cons, List.length_nil, Nat.reduceLT, Nat.reduceEqDiff, Nat.reduceLeDiff, Bool.and_true, Nat.one_ne_zero, Nat.succ_ne_zero, reduceIte, if_false, List.getElem?_cons_zero, List.set_cons_zero, List.set_cons_succ]
        rw [if_neg (by omega)]
        have hbl := hb.lt
        refine ⟨vl, bx.here, (ol.set (m := b) (by omega) _).wide (by omega) (by omega) (Nat.le_refl _), hE.le, fun m hm hmb _ => ?_⟩
        rw [set_there _ _ _ _ hmb, hE.obj m hm]

set_option maxRecDepth 20000 in
theorem implBoardSplit_c (h : IH) (v : IV) (una nxt most : Int) (ps : List Piece) (hs : SlR h 6 v (ps.map Piece.row)) :
    ICalls Try.prog 36 [.agg [.int .i64 una, .int .i64 nxt, v], .int .i64 most] h fun r h' => BRes h h' r (splitB una nxt ps most) := by
  refine icalls (.of ok36) (Nat.le_of_ble_eq_true rfl) ?_
  unfold c36
  have hv1 := hs.one
  have hE : ∀ a b, Ext h ((h.push a).push b) := fun a b => (Ext.refl _).push _ |>.push _
  simp only [hv1, go_sem, Hold.p, HoldK.k, HoldL.K, HoldL.body, Nat.reduceBEq, Nat.reduceAdd, List.getElem?_cons_zero, List.getElem?_cons_succ, Option.bind_some, List.map_cons, List.map_nil, Nat.zero_add, if_true, List.getD_cons_zero, List.getD_cons_succ, List.contains_cons, List.contains_nil, Nat.reduceBEq, Bool.or_true, Bool.true_or, Bool.or_false, Bool.false_or, Bool.not_true, Bool.not_false, true_and, and_true, rowA_whole, push_n, set_n, push_obj, set_obj, set_push, set_push_ne, set_set, Nat.add_assoc, Nat.left_eq_add, Nat.add_eq_left, Nat.add_left_cancel_iff, Nat.reduceEqDiff, stO_1s, stO_ws, boxA_s, one_bool, one_int, one_str, one_ptr, one_nilptr, one_slice, one_eslice, one_nilslice, one_func, one_iface, one_niliface, List.all_cons, List.all_nil, List.length_cons, List.length_nil, Nat.reduceLT, Nat.reduceEqDiff, Nat.reduceLeDiff, Bool.and_true, Nat.one_ne_zero, Nat.succ_ne_zero, reduceIte, if_false, List.getElem?_cons_zero, List.set_cons_zero, List.set_cons_succ]
  refine callA_of (okBoard_c _ una nxt v ps (hs.ext (hE _ _))) ?_
  rintro r h1 ⟨rfl, hE1⟩
  have b0 := hE1.obj h.n (by simp only [push_n]; omega)
  have b1 := hE1.obj (h.n + 1) (by simp only [push_n]; omega)
  simp [push_obj, push_n] at b0 b1
  have hl1 := hE1.le
  simp only [push_n] at hl1
  have bad : ∀ (o : IObj) c, (splitB una nxt ps most) = (0, 0, [], c) → BRes h (h1.set (h.n + 1) o) (.tuple [.agg [.int .i64 0, .int .i64 0, .nilslice], .int .i64 c]) (splitB una nxt ps most) := by
    intro o c e
    rw [e]
    exact ⟨.nilslice, rfl, Own.nil, ((hE _ _).trans hE1).set _ (by omega) _⟩
  by_cases hc : okB una nxt ps = true ∧ (1 ≤ most ∧ most ≤ 65535)
  · obtain ⟨hok, n1, n2⟩ := hc
    have hdef : splitB una nxt ps most = if 4096 < (splitP most ps).length then (0, 0, [], 18) else (una, nxt, splitP most ps, 0) := if_pos ⟨hok, ⟨n1, n2⟩⟩
    have q1 : decide (most < 1) = false := by simp; omega
    have q2 : decide (65535 < most) = false := by simp; omega
    have hm : (ps.map Piece.row).length ≤ 1048576 := by have := (okB_un hok).2.2.2.1; simp; omega
    simp only [hok, hv1, b0, q1, q2, go_sem, Hold.p, HoldK.k, HoldL.K, HoldL.body, Nat.reduceBEq, Nat.reduceAdd, List.getElem?_cons_zero, List.getElem?_cons_succ, Option.bind_some, List.map_cons, List.map_nil, Nat.zero_add, if_true, List.getD_cons_zero, List.getD_cons_succ, List.contains_cons, List.contains_nil, Nat.reduceBEq, Bool.or_true, Bool.true_or, Bool.or_false, Bool.false_or, Bool.not_true, Bool.not_false, true_and, and_true, rowA_whole, push_n, set_n, push_obj, set_obj, set_push, set_push_ne, set_set, Nat.add_assoc, Nat.left_eq_add, Nat.add_eq_left, Nat.add_left_cancel_iff, Nat.reduceEqDiff, stO_1s, stO_ws, boxA_s, one_bool, one_int, one_str, one_ptr, one_nilptr, one_slice, one_eslice, one_nilslice, one_func, one_iface, one_niliface, List.all_cons, List.all_nil, List.length_cons, List.length_nil, Nat.reduceLT, Nat.reduceEqDiff, Nat.reduceLeDiff, Bool.and_true, Nat.one_ne_zero, Nat.succ_ne_zero, reduceIte, if_false, List.getElem?_cons_zero, List.set_cons_zero, List.set_cons_succ]
    refine callA_of (ownBoard_c _ v una nxt _ (hs.ext ((hE _ _).trans hE1)) hm) ?_
    rintro r h2 ⟨v2, rfl, ho2, hE2⟩
    have hl2 := hE2.le
    have hv2 := ho2.one
    have y1 : At h2 (h.n + 1) (.rows [[.int .i64 0, .int .i64 0, .nilslice]] 40 3 false) := ⟨by omega, (hE2.obj _ (by omega)).trans b1⟩
    simp only [hv2, lay_nil, lay_1, lay_w, Option.map_some, go_sem, Hold.p, HoldK.k, HoldL.K, HoldL.body, Nat.reduceBEq, Nat.reduceAdd, List.getElem?_cons_zero, List.getElem?_cons_succ, Option.bind_some, List.map_cons, List.map_nil, Nat.zero_add, if_true, List.getD_cons_zero, List.getD_cons_succ, List.contains_cons, List.contains_nil, Nat.reduceBEq, Bool.or_true, Bool.true_or, Bool.or_false, Bool.false_or, Bool.not_true, Bool.not_false, true_and, and_true, rowA_whole, push_n, set_n, push_obj, set_obj, set_push, set_push_ne, set_set, Nat.add_assoc, Nat.left_eq_add, Nat.add_eq_left, Nat.add_left_cancel_iff, Nat.reduceEqDiff, stO_1s, stO_ws, boxA_s, one_bool, one_int, one_str, one_ptr, one_nilptr, one_slice, one_eslice, one_nilslice, one_func, one_iface, one_niliface, List.all_cons, List.all_nil, List.length_cons, List.length_nil, Nat.reduceLT, Nat.reduceEqDiff, Nat.reduceLeDiff, Bool.and_true, Nat.one_ne_zero, Nat.succ_ne_zero, reduceIte, if_false, List.getElem?_cons_zero, List.set_cons_zero, List.set_cons_succ]
    have E2 := ((hE _ _).trans hE1).trans hE2
    generalize hq_g2 : IH.push h2 (IObj.rows [[.int .i64 una, .int .i64 nxt, v2]] 116 3 false) = g2
    have e_g2 : Ext h2 g2 := by rw [← hq_g2]; exact (Ext.refl _).push _
    have l_g2 : g2.n = h2.n + 1 := by rw [← hq_g2]; rfl
    have x2 : At g2 h2.n (IObj.rows [[.int .i64 una, .int .i64 nxt, v2]] 116 3 false) := by rw [← hq_g2]; exact At.new _ _
    clear hq_g2
    have y1 := y1.ext e_g2
    have ho2 := ho2.ext e_g2
    have E2 := E2.ext e_g2
    obtain ⟨o1, o2, o3, o4, o5⟩ := okB_un hok
    refine callA_of (split_c _ h2.n 116 v2 una nxt most ps x2 ho2.sl (okB_each hok) o4 n1 n2) ?_
    intro r h4 hr
    split at hr
    · rename_i hfull
      obtain ⟨rfl, hE4⟩ := hr
      have z1 := (y1.ext hE4).eq
      simp only [z1, lay_nil, lay_1, lay_w, Option.map_some, go_sem, Hold.p, HoldK.k, HoldL.K, HoldL.body, Nat.reduceBEq, Nat.reduceAdd, List.getElem?_cons_zero, List.getElem?_cons_succ, Option.bind_some, List.map_cons, List.map_nil, Nat.zero_add, if_true, List.getD_cons_zero, List.getD_cons_succ, List.contains_cons, List.contains_nil, Nat.reduceBEq, Bool.or_true, Bool.true_or, Bool.or_false, Bool.false_or, Bool.not_true, Bool.not_false, true_and, and_true, rowA_whole, push_n, set_n, push_obj, set_obj, set_push, set_push_ne, set_set, Nat.add_assoc, Nat.left_eq_add, Nat.add_eq_left, Nat.add_left_cancel_iff, Nat.reduceEqDiff, stO_1s, stO_ws, boxA_s, one_bool, one_int, one_str, one_ptr, one_nilptr, one_slice, one_eslice, one_nilslice, one_func, one_iface, one_niliface, List.all_cons, List.all_nil, List.length_cons, List.length_nil, Nat.reduceLT, Nat.reduceEqDiff, Nat.reduceLeDiff, Bool.and_true, Nat.one_ne_zero, Nat.succ_ne_zero, reduceIte, if_false, List.getElem?_cons_zero, List.set_cons_zero, List.set_cons_succ]
      rw [hdef, if_pos hfull]
      exact ⟨.nilslice, rfl, Own.nil, (E2.trans hE4).set _ (by omega) _⟩
    · rename_i hfull
      obtain ⟨rfl, v4, z2, o4', ht4⟩ := hr
      have z1 : h4.obj (h.n + 1) = _ := (ht4.obj _ y1.lt (by omega) (by rintro ⟨i, n, e⟩; cases e)).trans y1.eq
      have z2e := z2.eq
      have v4o := o4'.one
      have hl4 := ht4.le
      simp only [z1, z2e, v4o, lay_nil, lay_1, lay_w, Option.map_some, go_sem, Hold.p, HoldK.k, HoldL.K, HoldL.body, Nat.reduceBEq, Nat.reduceAdd, List.getElem?_cons_zero, List.getElem?_cons_succ, Option.bind_some, List.map_cons, List.map_nil, Nat.zero_add, if_true, List.getD_cons_zero, List.getD_cons_succ, List.contains_cons, List.contains_nil, Nat.reduceBEq, Bool.or_true, Bool.true_or, Bool.or_false, Bool.false_or, Bool.not_true, Bool.not_false, true_and, and_true, rowA_whole, push_n, set_n, push_obj, set_obj, set_push, set_push_ne, set_set, Nat.add_assoc, Nat.left_eq_add, Nat.add_eq_left, Nat.add_left_cancel_iff, Nat.reduceEqDiff, stO_1s, stO_ws, boxA_s, one_bool, one_int, one_str, one_ptr, one_nilptr, one_slice, one_eslice, one_nilslice, one_func, one_iface, one_niliface, List.all_cons, List.all_nil, List.length_cons, List.length_nil, Nat.reduceLT, Nat.reduceEqDiff, Nat.reduceLeDiff, Bool.and_true, Nat.one_ne_zero, Nat.succ_ne_zero, reduceIte, if_false, List.getElem?_cons_zero, List.set_cons_zero, List.set_cons_succ]
      rw [hdef, if_neg hfull]
      refine ⟨v4, rfl, (o4'.set (m := h.n + 1) (.inl (by omega)) _).wide (by omega) (by rw [set_n]; omega) (Nat.le_refl _), ?_⟩
      have E4 : Ext h h4 := ⟨by omega, fun m hm => (ht4.obj m (by omega) (by omega) (by rintro ⟨i, n, e⟩; cases e)).trans (E2.obj m hm)⟩
      exact E4.set _ (by omega) _
  · have hdef : splitB una nxt ps most = (0, 0, [], 1) := if_neg hc
    cases hok : okB una nxt ps
    · simp only [hok, hv1, b1, lay_nil, lay_1, lay_w, Option.map_some, go_sem, Hold.p, HoldK.k, HoldL.K, HoldL.body, Nat.reduceBEq, Nat.reduceAdd, List.getElem?_cons_zero, List.getElem?_cons_succ, Option.bind_some, List.map_cons, List.map_nil, Nat.zero_add, if_true, List.getD_cons_zero, List.getD_cons_succ, List.contains_cons, List.contains_nil, Nat.reduceBEq, Bool.or_true, Bool.true_or, Bool.or_false, Bool.false_or, Bool.not_true, Bool.not_false, true_and, and_true, rowA_whole, push_n, set_n, push_obj, set_obj, set_push, set_push_ne, set_set, Nat.add_assoc, Nat.left_eq_add, Nat.add_eq_left, Nat.add_left_cancel_iff, Nat.reduceEqDiff, stO_1s, stO_ws, boxA_s, one_bool, one_int, one_str, one_ptr, one_nilptr, one_slice, one_eslice, one_nilslice, one_func, one_iface, one_niliface, List.all_cons, List.all_nil, List.length_cons, List.length_nil, Nat.reduceLT, Nat.reduceEqDiff, Nat.reduceLeDiff, Bool.and_true, Nat.one_ne_zero, Nat.succ_ne_zero, reduceIte, if_false, List.getElem?_cons_zero, List.set_cons_zero, List.set_cons_succ]
      exact bad _ _ hdef
    · by_cases c1 : most < 1
      · have d1 : decide (most < 1) = true := by simpa using c1
        simp only [hok, hv1, b1, d1, lay_nil, lay_1, lay_w, Option.map_some, go_sem, Hold.p, HoldK.k, HoldL.K, HoldL.body, Nat.reduceBEq, Nat.reduceAdd, List.getElem?_cons_zero, List.getElem?_cons_succ, Option.bind_some, List.map_cons, List.map_nil, Nat.zero_add, if_true, List.getD_cons_zero, List.getD_cons_succ, List.contains_cons, List.contains_nil, Nat.reduceBEq, Bool.or_true, Bool.true_or, Bool.or_false, Bool.false_or, Bool.not_true, Bool.not_false, true_and, and_true, rowA_whole, push_n, set_n, push_obj, set_obj, set_push, set_push_ne, set_set, Nat.add_assoc, Nat.left_eq_add, Nat.add_eq_left, Nat.add_left_cancel_iff, Nat.reduceEqDiff, stO_1s, stO_ws, boxA_s, one_bool, one_int, one_str, one_ptr, one_nilptr, one_slice, one_eslice, one_nilslice, one_func, one_iface, one_niliface, List.all_cons, List.all_nil, List.length_cons, List.length_nil, Nat.reduceLT, Nat.reduceEqDiff, Nat.reduceLeDiff, Bool.and_true, Nat.one_ne_zero, Nat.succ_ne_zero, reduceIte, if_false, List.getElem?_cons_zero, List.set_cons_zero, List.set_cons_succ]
        exact bad _ _ hdef
      · have d1 : decide (most < 1) = false := by simpa using c1
        have d2 : decide (65535 < most) = true := by simp; apply Classical.byContradiction; intro h; exact hc ⟨hok, by omega, by omega⟩
        simp only [hok, hv1, b1, d1, d2, lay_nil, lay_1, lay_w, Option.map_some, go_sem, Hold.p, HoldK.k, HoldL.K, HoldL.body, Nat.reduceBEq, Nat.reduceAdd, List.getElem?_cons_zero, List.getElem?_cons_succ, Option.bind_some, List.map_cons, List.map_nil, Nat.zero_add, if_true, List.getD_cons_zero, List.getD_cons_succ, List.contains_cons, List.contains_nil, Nat.reduceBEq, Bool.or_true, Bool.true_or, Bool.or_false, Bool.false_or, Bool.not_true, Bool.not_false, true_and, and_true, rowA_whole, push_n, set_n, push_obj, set_obj, set_push, set_push_ne, set_set, Nat.add_assoc, Nat.left_eq_add, Nat.add_eq_left, Nat.add_left_cancel_iff, Nat.reduceEqDiff, stO_1s, stO_ws, boxA_s, one_bool, one_int, one_str, one_ptr, one_nilptr, one_slice, one_eslice, one_nilslice, one_func, one_iface, one_niliface, List.all_cons, List.all_nil, List.length_cons, List.length_nil, Nat.reduceLT, Nat.reduceEqDiff, Nat.reduceLeDiff, Bool.and_true, Nat.one_ne_zero, Nat.succ_ne_zero, reduceIte, if_false, List.getElem?_cons_zero, List.set_cons_zero, List.set_cons_succ]
        exact bad _ _ hdef
end Go.Proofs.Ytecljenjlncfhaa
