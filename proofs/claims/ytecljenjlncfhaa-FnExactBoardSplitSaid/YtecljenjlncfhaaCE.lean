import Derived.Test.YtecljenjlncfhaaCD
import Derived.Test.YtecljenjlncfhaaBG
namespace Go.Proofs.Ytecljenjlncfhaa
open Go Go.IW
set_option linter.unusedSimpArgs false
set_option linter.unusedVariables false

theorem marksP_len (n k : Nat) : (marksP n k).length = n := by simp [marksP]
theorem rows6 {ps : List Piece} : ∀ r ∈ ps.map Piece.row, r.length = 6 := by
  intro r hr
  obtain ⟨p, _, rfl⟩ := List.mem_map.1 hr
  rfl
theorem firstB_len {una nxt : Int} {ps : List Piece} : (firstB una nxt ps).2.2.1.length ≤ ps.length := by
  unfold firstB
  split
  · cases ps with
    | nil => simp [firstP]
    | cons p r => simp only [firstP]; split <;> simp
  · simp

set_option maxRecDepth 20000 in
theorem lawBoardFirst : LawTrue Try.prog 7 [(shBoard, true)] := by
  rintro h ivs ha ⟨iv, r, rfl, ⟨cs, rfl, hf⟩, rfl⟩
  obtain ⟨una, nxt, v, ps, rfl, hs, hm⟩ := fits_board hf
  refine icalls (.of ok7) (Nat.le_of_ble_eq_true rfl) ?_
  unfold c7
  have aA := Arg.of hs
  have hv1 := hs.one
  simp only [hv1, go_sem, Hold.p, HoldK.k, HoldL.K, HoldL.body, Nat.reduceBEq, Nat.reduceAdd, List.getElem?_cons_zero, List.getElem?_cons_succ, Option.bind_some, List.map_cons, List.map_nil, Nat.zero_add, if_true, List.getD_cons_zero, List.getD_cons_succ, List.contains_cons, List.contains_nil, Nat.reduceBEq, Bool.or_true, Bool.true_or, Bool.or_false, Bool.false_or, Bool.not_true, Bool.not_false, true_and, and_true, rowA_whole, push_n, set_n, push_obj, set_obj, set_push, set_push_ne, set_set, Nat.add_assoc, Nat.left_eq_add, Nat.add_eq_left, Nat.add_left_cancel_iff, Nat.reduceEqDiff, stO_1s, stO_ws, boxA_s, one_bool, one_int, one_str, one_ptr, one_nilptr, one_slice, one_eslice, one_nilslice, one_func, one_iface, one_niliface, List.all_cons, List.all_nil, List.length_cons, List.length_nil, Nat.reduceLT, Nat.reduceEqDiff, Nat.reduceLeDiff, Bool.and_true, Nat.one_ne_zero, Nat.succ_ne_zero, reduceIte, if_false, List.getElem?_cons_zero, List.set_cons_zero, List.set_cons_succ]
  generalize hq_g0 : IH.push h (IObj.rows [[IV.int .i64 una, IV.int .i64 nxt, v]] 35 3 false) = g0
  have e_g0 : Ext h g0 := by rw [← hq_g0]; exact (Ext.refl _).push _
  have l_g0 : g0.n = h.n + 1 := by rw [← hq_g0]; rfl
  have bA : At g0 h.n (IObj.rows [[IV.int .i64 una, IV.int .i64 nxt, v]] 35 3 false) := by rw [← hq_g0]; exact At.new _ _
  clear hq_g0
  have aA := aA.ext e_g0
  refine callA_of (szBoard_c _ v una nxt _ 1048576 aA.sl (by omega) (by simpa using hm)) ?_
  rintro r h1 ⟨rfl, hE1⟩
  rw [List.length_map]
  have bA := bA.ext hE1
  have aA := aA.ext hE1
  have le_hE1 := hE1.le
  by_cases hbig : (1048576 : Int) < ps.length
  · rw [if_pos hbig]
    have hn : decide ((-1 : Int) < 0) = true := rfl
    simp only [hn, go_sem, Hold.p, HoldK.k, HoldL.K, HoldL.body, Nat.reduceBEq, Nat.reduceAdd, List.getElem?_cons_zero, List.getElem?_cons_succ, Option.bind_some, List.map_cons, List.map_nil, Nat.zero_add, if_true, List.getD_cons_zero, List.getD_cons_succ, List.contains_cons, List.contains_nil, Nat.reduceBEq, Bool.or_true, Bool.true_or, Bool.or_false, Bool.false_or, Bool.not_true, Bool.not_false, true_and, and_true, rowA_whole, push_n, set_n, push_obj, set_obj, set_push, set_push_ne, set_set, Nat.add_assoc, Nat.left_eq_add, Nat.add_eq_left, Nat.add_left_cancel_iff, Nat.reduceEqDiff, stO_1s, stO_ws, boxA_s, one_bool, one_int, one_str, one_ptr, one_nilptr, one_slice, one_eslice, one_nilslice, one_func, one_iface, one_niliface, List.all_cons, List.all_nil, List.length_cons, List.length_nil, Nat.reduceLT, Nat.reduceEqDiff, Nat.reduceLeDiff, Bool.and_true, Nat.one_ne_zero, Nat.succ_ne_zero, reduceIte, if_false, List.getElem?_cons_zero, List.set_cons_zero, List.set_cons_succ]
  · rw [if_neg hbig]
    have hn : decide ((1048576 : Int) - (ps.length : Int) < 0) = false := by simp; omega
    have hlen : ps.length ≤ 1048576 := by omega
    simp only [hn, bA.eq, go_sem, Hold.p, HoldK.k, HoldL.K, HoldL.body, Nat.reduceBEq, Nat.reduceAdd, List.getElem?_cons_zero, List.getElem?_cons_succ, Option.bind_some, List.map_cons, List.map_nil, Nat.zero_add, if_true, List.getD_cons_zero, List.getD_cons_succ, List.contains_cons, List.contains_nil, Nat.reduceBEq, Bool.or_true, Bool.true_or, Bool.or_false, Bool.false_or, Bool.not_true, Bool.not_false, true_and, and_true, rowA_whole, push_n, set_n, push_obj, set_obj, set_push, set_push_ne, set_set, Nat.add_assoc, Nat.left_eq_add, Nat.add_eq_left, Nat.add_left_cancel_iff, Nat.reduceEqDiff, stO_1s, stO_ws, boxA_s, one_bool, one_int, one_str, one_ptr, one_nilptr, one_slice, one_eslice, one_nilslice, one_func, one_iface, one_niliface, List.all_cons, List.all_nil, List.length_cons, List.length_nil, Nat.reduceLT, Nat.reduceEqDiff, Nat.reduceLeDiff, Bool.and_true, Nat.one_ne_zero, Nat.succ_ne_zero, reduceIte, if_false, List.getElem?_cons_zero, List.set_cons_zero, List.set_cons_succ]
    refine callA_of (toBoard_c _ v una nxt ps aA.sl hlen) ?_
    rintro r h2 ⟨v2, rfl, o2, hE2⟩
    have bA := bA.ext hE2
    have aA := aA.ext hE2
    have le_hE2 := hE2.le
    simp only [hn, go_sem, Hold.p, HoldK.k, HoldL.K, HoldL.body, Nat.reduceBEq, Nat.reduceAdd, List.getElem?_cons_zero, List.getElem?_cons_succ, Option.bind_some, List.map_cons, List.map_nil, Nat.zero_add, if_true, List.getD_cons_zero, List.getD_cons_succ, List.contains_cons, List.contains_nil, Nat.reduceBEq, Bool.or_true, Bool.true_or, Bool.or_false, Bool.false_or, Bool.not_true, Bool.not_false, true_and, and_true, rowA_whole, push_n, set_n, push_obj, set_obj, set_push, set_push_ne, set_set, Nat.add_assoc, Nat.left_eq_add, Nat.add_eq_left, Nat.add_left_cancel_iff, Nat.reduceEqDiff, stO_1s, stO_ws, boxA_s, one_bool, one_int, one_str, one_ptr, one_nilptr, one_slice, one_eslice, one_nilslice, one_func, one_iface, one_niliface, List.all_cons, List.all_nil, List.length_cons, List.length_nil, Nat.reduceLT, Nat.reduceEqDiff, Nat.reduceLeDiff, Bool.and_true, Nat.one_ne_zero, Nat.succ_ne_zero, reduceIte, if_false, List.getElem?_cons_zero, List.set_cons_zero, List.set_cons_succ]
    refine callA_of (specBoardFirst_c _ v2 una nxt ps o2.sl) ?_
    rintro r h3 ⟨vW, rfl, oW, hE3⟩
    have bA := bA.ext hE3
    have aA := aA.ext hE3
    have le_hE3 := hE3.le
    have hfl : (firstB una nxt ps).2.2.1.length ≤ 1048576 := Nat.le_trans firstB_len hlen
    generalize hfb : firstB una nxt ps = fb at oW hfl
    obtain ⟨fu, fn, fp, fk, fc⟩ := fb
    simp only at oW hfl
    have wv := oW.one
    simp only [hn, wv, bA.eq, Nat.ne_of_lt bA.lt, go_sem, Hold.p, HoldK.k, HoldL.K, HoldL.body, Nat.reduceBEq, Nat.reduceAdd, List.getElem?_cons_zero, List.getElem?_cons_succ, Option.bind_some, List.map_cons, List.map_nil, Nat.zero_add, if_true, List.getD_cons_zero, List.getD_cons_succ, List.contains_cons, List.contains_nil, Nat.reduceBEq, Bool.or_true, Bool.true_or, Bool.or_false, Bool.false_or, Bool.not_true, Bool.not_false, true_and, and_true, rowA_whole, push_n, set_n, push_obj, set_obj, set_push, set_push_ne, set_set, Nat.add_assoc, Nat.left_eq_add, Nat.add_eq_left, Nat.add_left_cancel_iff, Nat.reduceEqDiff, stO_1s, stO_ws, boxA_s, one_bool, one_int, one_str, one_ptr, one_nilptr, one_slice, one_eslice, one_nilslice, one_func, one_iface, one_niliface, List.all_cons, List.all_nil, List.length_cons, List.length_nil, Nat.reduceLT, Nat.reduceEqDiff, Nat.reduceLeDiff, Bool.and_true, Nat.one_ne_zero, Nat.succ_ne_zero, reduceIte, if_false, List.getElem?_cons_zero, List.set_cons_zero, List.set_cons_succ]
    generalize hq_g3 : IH.push h3 (IObj.rows [[IV.int .i64 fu, IV.int .i64 fn, vW]] 40 3 false) = g3
    have e_g3 : Ext h3 g3 := by rw [← hq_g3]; exact (Ext.refl _).push _
    have l_g3 : g3.n = h3.n + 1 := by rw [← hq_g3]; rfl
    have bW : At g3 h3.n (IObj.rows [[IV.int .i64 fu, IV.int .i64 fn, vW]] 40 3 false) := by rw [← hq_g3]; exact At.new _ _
    clear hq_g3
    have bA := bA.ext e_g3
    have aA := aA.ext e_g3
    have oW := oW.ext e_g3
    refine callA_of (toBoard_c _ v una nxt ps aA.sl hlen) ?_
    rintro r h4 ⟨vX, rfl, oX, hE4⟩
    have bA := bA.ext hE4
    have aA := aA.ext hE4
    have bW := bW.ext hE4
    have oW := oW.ext hE4
    have le_hE4 := hE4.le
    have xv := oX.one
    simp only [xv, go_sem, Hold.p, HoldK.k, HoldL.K, HoldL.body, Nat.reduceBEq, Nat.reduceAdd, List.getElem?_cons_zero, List.getElem?_cons_succ, Option.bind_some, List.map_cons, List.map_nil, Nat.zero_add, if_true, List.getD_cons_zero, List.getD_cons_succ, List.contains_cons, List.contains_nil, Nat.reduceBEq, Bool.or_true, Bool.true_or, Bool.or_false, Bool.false_or, Bool.not_true, Bool.not_false, true_and, and_true, rowA_whole, push_n, set_n, push_obj, set_obj, set_push, set_push_ne, set_set, Nat.add_assoc, Nat.left_eq_add, Nat.add_eq_left, Nat.add_left_cancel_iff, Nat.reduceEqDiff, stO_1s, stO_ws, boxA_s, one_bool, one_int, one_str, one_ptr, one_nilptr, one_slice, one_eslice, one_nilslice, one_func, one_iface, one_niliface, List.all_cons, List.all_nil, List.length_cons, List.length_nil, Nat.reduceLT, Nat.reduceEqDiff, Nat.reduceLeDiff, Bool.and_true, Nat.one_ne_zero, Nat.succ_ne_zero, reduceIte, if_false, List.getElem?_cons_zero, List.set_cons_zero, List.set_cons_succ]
    generalize hq_g4 : IH.push h4 (IObj.rows [[IV.int .i64 una, IV.int .i64 nxt, vX]] 40 3 false) = g4
    have e_g4 : Ext h4 g4 := by rw [← hq_g4]; exact (Ext.refl _).push _
    have l_g4 : g4.n = h4.n + 1 := by rw [← hq_g4]; rfl
    have bX : At g4 h4.n (IObj.rows [[IV.int .i64 una, IV.int .i64 nxt, vX]] 40 3 false) := by rw [← hq_g4]; exact At.new _ _
    clear hq_g4
    have bA := bA.ext e_g4
    have aA := aA.ext e_g4
    have bW := bW.ext e_g4
    have oW := oW.ext e_g4
    have oX := oX.ext e_g4
    refine callA_of (implBoardFirst_c _ vX una nxt ps oX.sl) ?_
    rintro r h5 ⟨vG, rfl, oG, hE5⟩
    rw [hfb] at oG
    simp only [hfb] at oG ⊢
    have bA := bA.ext hE5
    have aA := aA.ext hE5
    have bW := bW.ext hE5
    have oW := oW.ext hE5
    have bX := bX.ext hE5
    have oX := oX.ext hE5
    have le_hE5 := hE5.le
    have gv := oG.one
    simp only [gv, bA.eq, bW.eq, bX.eq, Nat.ne_of_lt bA.lt, Nat.ne_of_lt bW.lt, Nat.ne_of_lt bX.lt, go_sem, Hold.p, HoldK.k, HoldL.K, HoldL.body, Nat.reduceBEq, Nat.reduceAdd, List.getElem?_cons_zero, List.getElem?_cons_succ, Option.bind_some, List.map_cons, List.map_nil, Nat.zero_add, if_true, List.getD_cons_zero, List.getD_cons_succ, List.contains_cons, List.contains_nil, Nat.reduceBEq, Bool.or_true, Bool.true_or, Bool.or_false, Bool.false_or, Bool.not_true, Bool.not_false, true_and, and_true, rowA_whole, push_n, set_n, push_obj, set_obj, set_push, set_push_ne, set_set, Nat.add_assoc, Nat.left_eq_add, Nat.add_eq_left, Nat.add_left_cancel_iff, Nat.reduceEqDiff, stO_1s, stO_ws, boxA_s, one_bool, one_int, one_str, one_ptr, one_nilptr, one_slice, one_eslice, one_nilslice, one_func, one_iface, one_niliface, List.all_cons, List.all_nil, List.length_cons, List.length_nil, Nat.reduceLT, Nat.reduceEqDiff, Nat.reduceLeDiff, Bool.and_true, Nat.one_ne_zero, Nat.succ_ne_zero, reduceIte, if_false, List.getElem?_cons_zero, List.set_cons_zero, List.set_cons_succ]
    generalize hq_g5 : IH.push h5 (IObj.rows [[IV.int .i64 fu, IV.int .i64 fn, vG]] 40 3 false) = g5
    have e_g5 : Ext h5 g5 := by rw [← hq_g5]; exact (Ext.refl _).push _
    have l_g5 : g5.n = h5.n + 1 := by rw [← hq_g5]; rfl
    have bG : At g5 h5.n (IObj.rows [[IV.int .i64 fu, IV.int .i64 fn, vG]] 40 3 false) := by rw [← hq_g5]; exact At.new _ _
    clear hq_g5
    have bA := bA.ext e_g5
    have aA := aA.ext e_g5
    have bW := bW.ext e_g5
    have oW := oW.ext e_g5
    have bX := bX.ext e_g5
    have oX := oX.ext e_g5
    have oG := oG.ext e_g5
    refine callA_of (eqBoard_c _ vG vW fu fn fp oG.sl oW.sl hfl) ?_
    rintro r h6 ⟨rfl, hE6⟩
    have bA := bA.ext hE6
    have aA := aA.ext hE6
    have bW := bW.ext hE6
    have oW := oW.ext hE6
    have bX := bX.ext hE6
    have oX := oX.ext hE6
    have bG := bG.ext hE6
    have oG := oG.ext hE6
    have le_hE6 := hE6.le
    simp only [bA.eq, bX.eq, decide_true, go_sem, Hold.p, HoldK.k, HoldL.K, HoldL.body, Nat.reduceBEq, Nat.reduceAdd, List.getElem?_cons_zero, List.getElem?_cons_succ, Option.bind_some, List.map_cons, List.map_nil, Nat.zero_add, if_true, List.getD_cons_zero, List.getD_cons_succ, List.contains_cons, List.contains_nil, Nat.reduceBEq, Bool.or_true, Bool.true_or, Bool.or_false, Bool.false_or, Bool.not_true, Bool.not_false, true_and, and_true, rowA_whole, push_n, set_n, push_obj, set_obj, set_push, set_push_ne, set_set, Nat.add_assoc, Nat.left_eq_add, Nat.add_eq_left, Nat.add_left_cancel_iff, Nat.reduceEqDiff, stO_1s, stO_ws, boxA_s, one_bool, one_int, one_str, one_ptr, one_nilptr, one_slice, one_eslice, one_nilslice, one_func, one_iface, one_niliface, List.all_cons, List.all_nil, List.length_cons, List.length_nil, Nat.reduceLT, Nat.reduceEqDiff, Nat.reduceLeDiff, Bool.and_true, Nat.one_ne_zero, Nat.succ_ne_zero, reduceIte, if_false, List.getElem?_cons_zero, List.set_cons_zero, List.set_cons_succ]
    refine callA_of (toBoard_c _ v una nxt ps aA.sl hlen) ?_
    rintro r h7 ⟨vY, rfl, oY, hE7⟩
    have bA := bA.ext hE7
    have aA := aA.ext hE7
    have bW := bW.ext hE7
    have oW := oW.ext hE7
    have bX := bX.ext hE7
    have oX := oX.ext hE7
    have bG := bG.ext hE7
    have oG := oG.ext hE7
    have le_hE7 := hE7.le
    simp only [bX.eq, go_sem, Hold.p, HoldK.k, HoldL.K, HoldL.body, Nat.reduceBEq, Nat.reduceAdd, List.getElem?_cons_zero, List.getElem?_cons_succ, Option.bind_some, List.map_cons, List.map_nil, Nat.zero_add, if_true, List.getD_cons_zero, List.getD_cons_succ, List.contains_cons, List.contains_nil, Nat.reduceBEq, Bool.or_true, Bool.true_or, Bool.or_false, Bool.false_or, Bool.not_true, Bool.not_false, true_and, and_true, rowA_whole, push_n, set_n, push_obj, set_obj, set_push, set_push_ne, set_set, Nat.add_assoc, Nat.left_eq_add, Nat.add_eq_left, Nat.add_left_cancel_iff, Nat.reduceEqDiff, stO_1s, stO_ws, boxA_s, one_bool, one_int, one_str, one_ptr, one_nilptr, one_slice, one_eslice, one_nilslice, one_func, one_iface, one_niliface, List.all_cons, List.all_nil, List.length_cons, List.length_nil, Nat.reduceLT, Nat.reduceEqDiff, Nat.reduceLeDiff, Bool.and_true, Nat.one_ne_zero, Nat.succ_ne_zero, reduceIte, if_false, List.getElem?_cons_zero, List.set_cons_zero, List.set_cons_succ]
    refine callA_of (eqBoard_c _ vX vY una nxt ps oX.sl oY.sl hlen) ?_
    rintro r h8 ⟨rfl, hE8⟩
    have bA := bA.ext hE8
    have aA := aA.ext hE8
    have bW := bW.ext hE8
    have oW := oW.ext hE8
    have bX := bX.ext hE8
    have oX := oX.ext hE8
    have bG := bG.ext hE8
    have oG := oG.ext hE8
    have le_hE8 := hE8.le
    simp only [bX.eq, decide_true, go_sem, Hold.p, HoldK.k, HoldL.K, HoldL.body, Nat.reduceBEq, Nat.reduceAdd, List.getElem?_cons_zero, List.getElem?_cons_succ, Option.bind_some, List.map_cons, List.map_nil, Nat.zero_add, if_true, List.getD_cons_zero, List.getD_cons_succ, List.contains_cons, List.contains_nil, Nat.reduceBEq, Bool.or_true, Bool.true_or, Bool.or_false, Bool.false_or, Bool.not_true, Bool.not_false, true_and, and_true, rowA_whole, push_n, set_n, push_obj, set_obj, set_push, set_push_ne, set_set, Nat.add_assoc, Nat.left_eq_add, Nat.add_eq_left, Nat.add_left_cancel_iff, Nat.reduceEqDiff, stO_1s, stO_ws, boxA_s, one_bool, one_int, one_str, one_ptr, one_nilptr, one_slice, one_eslice, one_nilslice, one_func, one_iface, one_niliface, List.all_cons, List.all_nil, List.length_cons, List.length_nil, Nat.reduceLT, Nat.reduceEqDiff, Nat.reduceLeDiff, Bool.and_true, Nat.one_ne_zero, Nat.succ_ne_zero, reduceIte, if_false, List.getElem?_cons_zero, List.set_cons_zero, List.set_cons_succ]
    refine callA_of (markBoard_c _ vX una nxt 1 _ oX rows6 (by simp; omega)) ?_
    rintro r h9 ⟨rfl, oX9, ht9⟩
    have bA := bA.turn oX (by omega) ht9
    have aA := aA.turn oX (by omega) ht9
    have bW := bW.turn oX (by omega) ht9
    have oW := oW.turn oX (by omega) ht9
    have bX := bX.turn oX (by omega) ht9
    have bG := bG.turn oX (by omega) ht9
    have oG := oG.turn oX (by omega) ht9
    have le_ht9 := ht9.le
    have hk : decide (((1 + 6 * (ps.map Piece.row).length : Nat) : Int) < 0) = false := by simp; omega
    simp only [bG.eq, bW.eq, hk, go_sem, Hold.p, HoldK.k, HoldL.K, HoldL.body, Nat.reduceBEq, Nat.reduceAdd, List.getElem?_cons_zero, List.getElem?_cons_succ, Option.bind_some, List.map_cons, List.map_nil, Nat.zero_add, if_true, List.getD_cons_zero, List.getD_cons_succ, List.contains_cons, List.contains_nil, Nat.reduceBEq, Bool.or_true, Bool.true_or, Bool.or_false, Bool.false_or, Bool.not_true, Bool.not_false, true_and, and_true, rowA_whole, push_n, set_n, push_obj, set_obj, set_push, set_push_ne, set_set, Nat.add_assoc, Nat.left_eq_add, Nat.add_eq_left, Nat.add_left_cancel_iff, Nat.reduceEqDiff, stO_1s, stO_ws, boxA_s, one_bool, one_int, one_str, one_ptr, one_nilptr, one_slice, one_eslice, one_nilslice, one_func, one_iface, one_niliface, List.all_cons, List.all_nil, List.length_cons, List.length_nil, Nat.reduceLT, Nat.reduceEqDiff, Nat.reduceLeDiff, Bool.and_true, Nat.one_ne_zero, Nat.succ_ne_zero, reduceIte, if_false, List.getElem?_cons_zero, List.set_cons_zero, List.set_cons_succ]
    refine callA_of (eqBoard_c _ vG vW fu fn fp oG.sl oW.sl hfl) ?_
    rintro r h10 ⟨rfl, hE10⟩
    have bA := bA.ext hE10
    have aA := aA.ext hE10
    have bW := bW.ext hE10
    have oW := oW.ext hE10
    have bG := bG.ext hE10
    have oG := oG.ext hE10
    have le_hE10 := hE10.le
    simp only [bG.eq, decide_true, go_sem, Hold.p, HoldK.k, HoldL.K, HoldL.body, Nat.reduceBEq, Nat.reduceAdd, List.getElem?_cons_zero, List.getElem?_cons_succ, Option.bind_some, List.map_cons, List.map_nil, Nat.zero_add, if_true, List.getD_cons_zero, List.getD_cons_succ, List.contains_cons, List.contains_nil, Nat.reduceBEq, Bool.or_true, Bool.true_or, Bool.or_false, Bool.false_or, Bool.not_true, Bool.not_false, true_and, and_true, rowA_whole, push_n, set_n, push_obj, set_obj, set_push, set_push_ne, set_set, Nat.add_assoc, Nat.left_eq_add, Nat.add_eq_left, Nat.add_left_cancel_iff, Nat.reduceEqDiff, stO_1s, stO_ws, boxA_s, one_bool, one_int, one_str, one_ptr, one_nilptr, one_slice, one_eslice, one_nilslice, one_func, one_iface, one_niliface, List.all_cons, List.all_nil, List.length_cons, List.length_nil, Nat.reduceLT, Nat.reduceEqDiff, Nat.reduceLeDiff, Bool.and_true, Nat.one_ne_zero, Nat.succ_ne_zero, reduceIte, if_false, List.getElem?_cons_zero, List.set_cons_zero, List.set_cons_succ]
    refine callA_of (markBoard_c _ vG fu fn 1 _ oG rows6 (by simp; omega)) ?_
    rintro r h11 ⟨rfl, oM, ht11⟩
    have bA := bA.turn oG (by omega) ht11
    have aA := aA.turn oG (by omega) ht11
    have bW := bW.turn oG (by omega) ht11
    have oW := oW.turn oG (by omega) ht11
    have bG := bG.turn oG (by omega) ht11
    have le_ht11 := ht11.le
    rw [List.length_map] at oM
    simp only [bG.eq, go_sem, Hold.p, HoldK.k, HoldL.K, HoldL.body, Nat.reduceBEq, Nat.reduceAdd, List.getElem?_cons_zero, List.getElem?_cons_succ, Option.bind_some, List.map_cons, List.map_nil, Nat.zero_add, if_true, List.getD_cons_zero, List.getD_cons_succ, List.contains_cons, List.contains_nil, Nat.reduceBEq, Bool.or_true, Bool.true_or, Bool.or_false, Bool.false_or, Bool.not_true, Bool.not_false, true_and, and_true, rowA_whole, push_n, set_n, push_obj, set_obj, set_push, set_push_ne, set_set, Nat.add_assoc, Nat.left_eq_add, Nat.add_eq_left, Nat.add_left_cancel_iff, Nat.reduceEqDiff, stO_1s, stO_ws, boxA_s, one_bool, one_int, one_str, one_ptr, one_nilptr, one_slice, one_eslice, one_nilslice, one_func, one_iface, one_niliface, List.all_cons, List.all_nil, List.length_cons, List.length_nil, Nat.reduceLT, Nat.reduceEqDiff, Nat.reduceLeDiff, Bool.and_true, Nat.one_ne_zero, Nat.succ_ne_zero, reduceIte, if_false, List.getElem?_cons_zero, List.set_cons_zero, List.set_cons_succ]
    refine callA_of (heldBoard_c _ vG fu fn fp.length 1 oM.sl (by omega)) ?_
    rintro r h12 ⟨rfl, hE12⟩
    have bA := bA.ext hE12
    have aA := aA.ext hE12
    have bW := bW.ext hE12
    have oW := oW.ext hE12
    have bG := bG.ext hE12
    have oM := oM.ext hE12
    have le_hE12 := hE12.le
    have hq : decide (((1 + 6 * fp.length : Nat) : Int) < 0) = false := by simp; omega
    simp only [hq, bA.eq, decide_true, List.length_map, go_sem, Hold.p, HoldK.k, HoldL.K, HoldL.body, Nat.reduceBEq, Nat.reduceAdd, List.getElem?_cons_zero, List.getElem?_cons_succ, Option.bind_some, List.map_cons, List.map_nil, Nat.zero_add, if_true, List.getD_cons_zero, List.getD_cons_succ, List.contains_cons, List.contains_nil, Nat.reduceBEq, Bool.or_true, Bool.true_or, Bool.or_false, Bool.false_or, Bool.not_true, Bool.not_false, true_and, and_true, rowA_whole, push_n, set_n, push_obj, set_obj, set_push, set_push_ne, set_set, Nat.add_assoc, Nat.left_eq_add, Nat.add_eq_left, Nat.add_left_cancel_iff, Nat.reduceEqDiff, stO_1s, stO_ws, boxA_s, one_bool, one_int, one_str, one_ptr, one_nilptr, one_slice, one_eslice, one_nilslice, one_func, one_iface, one_niliface, List.all_cons, List.all_nil, List.length_cons, List.length_nil, Nat.reduceLT, Nat.reduceEqDiff, Nat.reduceLeDiff, Bool.and_true, Nat.one_ne_zero, Nat.succ_ne_zero, reduceIte, if_false, List.getElem?_cons_zero, List.set_cons_zero, List.set_cons_succ]
    refine callA_of (toBoard_c _ v una nxt ps aA.sl hlen) ?_
    rintro r h13 ⟨vZ, rfl, oZ, hE13⟩
    have bA := bA.ext hE13
    have aA := aA.ext hE13
    have bW := bW.ext hE13
    have oW := oW.ext hE13
    have bG := bG.ext hE13
    have oM := oM.ext hE13
    have le_hE13 := hE13.le
    simp only [go_sem, Hold.p, HoldK.k, HoldL.K, HoldL.body, Nat.reduceBEq, Nat.reduceAdd, List.getElem?_cons_zero, List.getElem?_cons_succ, Option.bind_some, List.map_cons, List.map_nil, Nat.zero_add, if_true, List.getD_cons_zero, List.getD_cons_succ, List.contains_cons, List.contains_nil, Nat.reduceBEq, Bool.or_true, Bool.true_or, Bool.or_false, Bool.false_or, Bool.not_true, Bool.not_false, true_and, and_true, rowA_whole, push_n, set_n, push_obj, set_obj, set_push, set_push_ne, set_set, Nat.add_assoc, Nat.left_eq_add, Nat.add_eq_left, Nat.add_left_cancel_iff, Nat.reduceEqDiff, stO_1s, stO_ws, boxA_s, one_bool, one_int, one_str, one_ptr, one_nilptr, one_slice, one_eslice, one_nilslice, one_func, one_iface, one_niliface, List.all_cons, List.all_nil, List.length_cons, List.length_nil, Nat.reduceLT, Nat.reduceEqDiff, Nat.reduceLeDiff, Bool.and_true, Nat.one_ne_zero, Nat.succ_ne_zero, reduceIte, if_false, List.getElem?_cons_zero, List.set_cons_zero, List.set_cons_succ]
    refine callA_of (implBoardFirst_c _ vZ una nxt ps oZ.sl) ?_
    rintro r h14 ⟨vH, rfl, oH, hE14⟩
    rw [hfb] at oH
    simp only [hfb] at oH ⊢
    have bA := bA.ext hE14
    have aA := aA.ext hE14
    have bW := bW.ext hE14
    have oW := oW.ext hE14
    have bG := bG.ext hE14
    have oM := oM.ext hE14
    have le_hE14 := hE14.le
    have hv := oH.one
    simp only [hv, bA.eq, bW.eq, bG.eq, Nat.ne_of_lt bA.lt, Nat.ne_of_lt bW.lt, Nat.ne_of_lt bG.lt, go_sem, Hold.p, HoldK.k, HoldL.K, HoldL.body, Nat.reduceBEq, Nat.reduceAdd, List.getElem?_cons_zero, List.getElem?_cons_succ, Option.bind_some, List.map_cons, List.map_nil, Nat.zero_add, if_true, List.getD_cons_zero, List.getD_cons_succ, List.contains_cons, List.contains_nil, Nat.reduceBEq, Bool.or_true, Bool.true_or, Bool.or_false, Bool.false_or, Bool.not_true, Bool.not_false, true_and, and_true, rowA_whole, push_n, set_n, push_obj, set_obj, set_push, set_push_ne, set_set, Nat.add_assoc, Nat.left_eq_add, Nat.add_eq_left, Nat.add_left_cancel_iff, Nat.reduceEqDiff, stO_1s, stO_ws, boxA_s, one_bool, one_int, one_str, one_ptr, one_nilptr, one_slice, one_eslice, one_nilslice, one_func, one_iface, one_niliface, List.all_cons, List.all_nil, List.length_cons, List.length_nil, Nat.reduceLT, Nat.reduceEqDiff, Nat.reduceLeDiff, Bool.and_true, Nat.one_ne_zero, Nat.succ_ne_zero, reduceIte, if_false, List.getElem?_cons_zero, List.set_cons_zero, List.set_cons_succ]
    generalize hq_g14 : IH.push h14 (IObj.rows [[IV.int .i64 fu, IV.int .i64 fn, vH]] 40 3 false) = g14
    have e_g14 : Ext h14 g14 := by rw [← hq_g14]; exact (Ext.refl _).push _
    have l_g14 : g14.n = h14.n + 1 := by rw [← hq_g14]; rfl
    have bH : At g14 h14.n (IObj.rows [[IV.int .i64 fu, IV.int .i64 fn, vH]] 40 3 false) := by rw [← hq_g14]; exact At.new _ _
    clear hq_g14
    have bA := bA.ext e_g14
    have aA := aA.ext e_g14
    have bW := bW.ext e_g14
    have oW := oW.ext e_g14
    have bG := bG.ext e_g14
    have oM := oM.ext e_g14
    have oH := oH.ext e_g14
    refine callA_of (eqBoard_c _ vH vW fu fn fp oH.sl oW.sl hfl) ?_
    rintro r h15 ⟨rfl, hE15⟩
    have bG := bG.ext hE15
    have oM := oM.ext hE15
    have le_hE15 := hE15.le
    simp only [bG.eq, decide_true, go_sem, Hold.p, HoldK.k, HoldL.K, HoldL.body, Nat.reduceBEq, Nat.reduceAdd, List.getElem?_cons_zero, List.getElem?_cons_succ, Option.bind_some, List.map_cons, List.map_nil, Nat.zero_add, if_true, List.getD_cons_zero, List.getD_cons_succ, List.contains_cons, List.contains_nil, Nat.reduceBEq, Bool.or_true, Bool.true_or, Bool.or_false, Bool.false_or, Bool.not_true, Bool.not_false, true_and, and_true, rowA_whole, push_n, set_n, push_obj, set_obj, set_push, set_push_ne, set_set, Nat.add_assoc, Nat.left_eq_add, Nat.add_eq_left, Nat.add_left_cancel_iff, Nat.reduceEqDiff, stO_1s, stO_ws, boxA_s, one_bool, one_int, one_str, one_ptr, one_nilptr, one_slice, one_eslice, one_nilslice, one_func, one_iface, one_niliface, List.all_cons, List.all_nil, List.length_cons, List.length_nil, Nat.reduceLT, Nat.reduceEqDiff, Nat.reduceLeDiff, Bool.and_true, Nat.one_ne_zero, Nat.succ_ne_zero, reduceIte, if_false, List.getElem?_cons_zero, List.set_cons_zero, List.set_cons_succ]
    refine callA_of (heldBoard_c _ vG fu fn fp.length 1 oM.sl (by omega)) ?_
    rintro r h16 ⟨rfl, hE16⟩
    simp only [hq, decide_true, List.length_map, go_sem, Hold.p, HoldK.k, HoldL.K, HoldL.body, Nat.reduceBEq, Nat.reduceAdd, List.getElem?_cons_zero, List.getElem?_cons_succ, Option.bind_some, List.map_cons, List.map_nil, Nat.zero_add, if_true, List.getD_cons_zero, List.getD_cons_succ, List.contains_cons, List.contains_nil, Nat.reduceBEq, Bool.or_true, Bool.true_or, Bool.or_false, Bool.false_or, Bool.not_true, Bool.not_false, true_and, and_true, rowA_whole, push_n, set_n, push_obj, set_obj, set_push, set_push_ne, set_set, Nat.add_assoc, Nat.left_eq_add, Nat.add_eq_left, Nat.add_left_cancel_iff, Nat.reduceEqDiff, stO_1s, stO_ws, boxA_s, one_bool, one_int, one_str, one_ptr, one_nilptr, one_slice, one_eslice, one_nilslice, one_func, one_iface, one_niliface, List.all_cons, List.all_nil, List.length_cons, List.length_nil, Nat.reduceLT, Nat.reduceEqDiff, Nat.reduceLeDiff, Bool.and_true, Nat.one_ne_zero, Nat.succ_ne_zero, reduceIte, if_false, List.getElem?_cons_zero, List.set_cons_zero, List.set_cons_succ]
end Go.Proofs.Ytecljenjlncfhaa
