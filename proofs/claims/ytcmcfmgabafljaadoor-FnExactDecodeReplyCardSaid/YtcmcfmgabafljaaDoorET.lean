import Derived.Test.YtcmcfmgabafljaaDoorES
set_option linter.unusedSimpArgs false
set_option linter.unusedVariables false
namespace Go.Proofs.YtcmcfmgabafljaaDoor
open Go Go.IW

/-- The parts that the program takes off. -/
def parM (bs : List UInt8) : Nat := (numB (pieceD bs 8 1)).toNat
def parC (bs : List UInt8) : Nat := (numB (pieceD bs (9 + parM bs) 1)).toNat
def parZ (bs : List UInt8) (k : Nat) : List Int := (List.range k).map fun j => numB (pieceD bs (10 + parM bs + 4 * j) 4)
theorem parZ_succ (bs : List UInt8) (k : Nat) : parZ bs (k + 1) = parZ bs k ++ [numB (pieceD bs (10 + parM bs + 4 * k) 4)] := by
  unfold parZ; rw [List.range_succ, List.map_append]; rfl
theorem parZ_len (bs : List UInt8) (k : Nat) : (parZ bs k).length = k := by unfold parZ; simp
def parAt (bs : List UInt8) (k : Nat) : RepV := ⟨numB (pieceD bs 0 2), numB (pieceD bs 3 1), numB (pieceD bs 4 4), pieceD bs 9 (parM bs), parZ bs k⟩
def parErr (bs : List UInt8) (k : Nat) : Int :=
  if codeAt bs (10 + parM bs + 4 * k) (numB (pieceD bs 2 1)) 1 (parAt bs k).nm = 0 then (if (parAt bs k).ok = true then 0 else 1) else codeAt bs (10 + parM bs + 4 * k) (numB (pieceD bs 2 1)) 1 (parAt bs k).nm

theorem parM_eq {bs : List UInt8} (h : 9 ≤ bs.length) : parM bs = repM bs := by
  unfold parM repM
  rw [pieceD_one (by omega), numB_one]; rfl
theorem parC_eq {bs : List UInt8} (h : 10 + parM bs ≤ bs.length) : parC bs = repC bs := by
  have hm := parM_eq (bs := bs) (by omega)
  unfold parC repC
  rw [pieceD_one (by omega), numB_one, hm]; rfl
/-- What the program's parts amount to. -/
theorem par_dec {bs : List UInt8} {k : Nat} (hk : k ≤ parC bs) (hend : k = parC bs ∨ bs.length < 10 + parM bs + 4 * k) :
    decR bs = if parErr bs k = 0 then (parAt bs k, 0) else (.zero, parErr bs k) := by
  by_cases c0 : bs.length < 10 + parM bs
  · have hc : codeAt bs (10 + parM bs + 4 * k) (numB (pieceD bs 2 1)) 1 (parAt bs k).nm = 2 := if_pos (by omega)
    have he : parErr bs k = 2 := by unfold parErr; rw [hc]; rfl
    rw [he, if_neg (by decide)]
    refine if_pos ?_
    by_cases h9 : 9 ≤ bs.length
    · rw [parM_eq h9] at c0; exact .inl c0
    · left; omega
  · have hm := parM_eq (bs := bs) (by omega)
    have hc := parC_eq (bs := bs) (by omega)
    rw [hm] at c0 hend
    rw [hc] at hk hend
    by_cases c1 : bs.length < 10 + repM bs + 4 * repC bs
    · have hlt : bs.length < 10 + repM bs + 4 * k := by omega
      have hcd : codeAt bs (10 + parM bs + 4 * k) (numB (pieceD bs 2 1)) 1 (parAt bs k).nm = 2 := if_pos (by rw [hm]; exact hlt)
      have he : parErr bs k = 2 := by unfold parErr; rw [hcd]; rfl
      rw [he, if_neg (by decide)]
      exact if_pos (.inr c1)
    · obtain rfl : k = repC bs := by omega
      have hnm : (parAt bs (repC bs)).nm = (repAt bs).nm := by
        show pieceD bs 9 (parM bs) = _
        rw [hm, pieceD_long (by omega)]; rfl
      have hall : parAt bs (repC bs) = repAt bs := by
        have e1 : numB (pieceD bs 0 2) = numB (bs.take 2) := by rw [pieceD_long (by omega)]; rfl
        have e2 : numB (pieceD bs 3 1) = ((bs.getD 3 0).toNat : Int) := by rw [pieceD_one (by omega), numB_one]
        have e3 : numB (pieceD bs 4 4) = numB ((bs.take 8).drop 4) := by rw [pieceD_long (by omega)]
        have e4 : parZ bs (repC bs) = wordsAt bs (10 + repM bs) (repC bs) := by
          unfold parZ wordsAt
          refine List.map_congr_left fun j hj => ?_
          have := List.mem_range.1 hj
          rw [hm, pieceD_long (by omega)]
        unfold parAt repAt
        rw [e1, e2, e3, e4]
        congr 1
      have hk2 : numB (pieceD bs 2 1) = ((bs.getD 2 0).toNat : Int) := by rw [pieceD_one (by omega), numB_one]
      have hdef : decR bs = if 10 + repM bs + 4 * repC bs < bs.length then (.zero, 5) else if bs.getD 2 0 ≠ 1 then (.zero, 9) else if okName (repAt bs).nm = false then (.zero, 6) else if (repAt bs).ok = true then (repAt bs, 0) else (.zero, 1) := if_neg (by omega)
      rw [hdef]
      unfold parErr
      rw [hall, hk2, hm]
      have hcd : codeAt bs (10 + repM bs + 4 * repC bs) ((bs.getD 2 0).toNat : Int) 1 (repAt bs).nm = if 10 + repM bs + 4 * repC bs < bs.length then 5 else if ((bs.getD 2 0).toNat : Int) ≠ 1 then 9 else if okName (repAt bs).nm = true then 0 else 6 := if_neg (by omega)
      rw [hcd]
      by_cases c2 : 10 + repM bs + 4 * repC bs < bs.length
      · rw [if_pos c2, if_pos c2]; rfl
      · rw [if_neg c2, if_neg c2]
        by_cases c3 : bs.getD 2 0 ≠ 1
        · have c3n : ((bs.getD 2 0).toNat : Int) ≠ 1 := byte_ne (b := 1) c3
          rw [if_pos c3, if_pos c3n]; rfl
        · have c3' : ((bs.getD 2 0).toNat : Int) = 1 := by rw [show bs.getD 2 0 = 1 by simpa using c3]; rfl
          have c3n : ¬ ((bs.getD 2 0).toNat : Int) ≠ 1 := fun hx => hx c3'
          rw [if_neg c3, if_neg c3n]
          cases okName (repAt bs).nm
          · rfl
          · cases (repAt bs).ok <;> rfl

set_option maxRecDepth 20000 in
theorem implDecodeReply_c (h : IH) (v : IV) (bs : List UInt8) (hs : SlR h 1 v (strRows bs)) (hl : bs.length ≤ 1048576) : ICalls Tryd.prog 32 [v] h fun r h' => ReplyRes h h' r (decR bs) := by
  refine icalls (.of ok32) (Nat.le_of_ble_eq_true rfl) ?_
  unfold c32
  have hvo := hs.one
  have hvc := hs.cells
  have hsl := hs.lt
  simp only [hvo, hvc, lay_nil, lay_1, lay_w, Option.map_some, go_sem, Hold.p, HoldK.k, HoldL.K, HoldL.body, Nat.reduceBEq, Nat.reduceAdd, List.getElem?_cons_zero, List.getElem?_cons_succ, Option.bind_some, List.map_cons, List.map_nil, Nat.zero_add, if_true, List.getD_cons_zero, List.getD_cons_succ, List.contains_cons, List.contains_nil, Nat.reduceBEq, Bool.or_true, Bool.true_or, Bool.or_false, Bool.false_or, Bool.not_true, Bool.not_false, true_and, and_true, rowA_whole, push_n, set_n, push_obj, set_obj, set_push, set_push_ne, set_set, Nat.add_assoc, Nat.left_eq_add, Nat.add_eq_left, Nat.add_left_cancel_iff, Nat.reduceEqDiff, stO_1s, stO_ws, boxA_s, one_bool, one_int, one_str, one_ptr, one_nilptr, one_slice, one_eslice, one_nilslice, one_func, one_iface, one_niliface, List.all_cons, List.all_nil, List.length_cons, List.length_nil, Nat.reduceLT, Nat.reduceEqDiff, Nat.reduceLeDiff, Bool.and_true, Nat.one_ne_zero, Nat.succ_ne_zero, reduceIte, if_false, List.getElem?_cons_zero, List.set_cons_zero, List.set_cons_succ]
  generalize hq_g0 : IH.push h (IObj.rows [[IV.int .i64 0, IV.int .i64 0, IV.int .i64 0, IV.str [], IV.nilslice]] 44 5 false) = g0
  have e_g0 : Ext h g0 := by rw [← hq_g0]; exact (Ext.refl _).push _
  have l_g0 : g0.n = h.n + 1 := by rw [← hq_g0]; rfl
  have bb : At g0 h.n (IObj.rows [[IV.int .i64 0, IV.int .i64 0, IV.int .i64 0, IV.str [], IV.nilslice]] 44 5 false) := by rw [← hq_g0]; exact At.new _ _
  clear hq_g0
  have hs := hs.ext e_g0
  generalize hq_g1 : IH.push g0 (IObj.rows [[v, IV.bool false]] 105 2 false) = g1
  have e_g1 : Ext g0 g1 := by rw [← hq_g1]; exact (Ext.refl _).push _
  have l_g1 : g1.n = g0.n + 1 := by rw [← hq_g1]; rfl
  have ba : At g1 g0.n (IObj.rows [[v, IV.bool false]] 105 2 false) := by rw [← hq_g1]; exact At.new _ _
  clear hq_g1
  have hs := hs.ext e_g1
  have bb := bb.ext e_g1
  have B := AtB.zero (BitesAt.mk' ba hs (fun l i m e => by have := hsl l i m e; omega))
  rw [l_g0] at B
  have E := e_g0.trans e_g1
  refine callA_of (numAt_c g1 _ 0 2 bs B (by omega) hl) ?_
  rintro r h1 ⟨rfl, B1, U1⟩
  replace bb := U1.at0 bb (by omega)
  replace E := U1.ext0 E (by omega)
  have u1 := U1.le
  simp only [bb.eq, lay_nil, lay_1, lay_w, Option.map_some, go_sem, Hold.p, HoldK.k, HoldL.K, HoldL.body, Nat.reduceBEq, Nat.reduceAdd, List.getElem?_cons_zero, List.getElem?_cons_succ, Option.bind_some, List.map_cons, List.map_nil, Nat.zero_add, if_true, List.getD_cons_zero, List.getD_cons_succ, List.contains_cons, List.contains_nil, Nat.reduceBEq, Bool.or_true, Bool.true_or, Bool.or_false, Bool.false_or, Bool.not_true, Bool.not_false, true_and, and_true, rowA_whole, push_n, set_n, push_obj, set_obj, set_push, set_push_ne, set_set, Nat.add_assoc, Nat.left_eq_add, Nat.add_eq_left, Nat.add_left_cancel_iff, Nat.reduceEqDiff, stO_1s, stO_ws, boxA_s, one_bool, one_int, one_str, one_ptr, one_nilptr, one_slice, one_eslice, one_nilslice, one_func, one_iface, one_niliface, List.all_cons, List.all_nil, List.length_cons, List.length_nil, Nat.reduceLT, Nat.reduceEqDiff, Nat.reduceLeDiff, Bool.and_true, Nat.one_ne_zero, Nat.succ_ne_zero, reduceIte, if_false, List.getElem?_cons_zero, List.set_cons_zero, List.set_cons_succ]
  generalize hq_g2 : IH.push h1 (IObj.rows [[IV.int .i64 (numB (pieceD bs 0 2)), IV.int .i64 0, IV.int .i64 0, IV.str [], IV.nilslice]] 44 5 false) = g2
  have e_g2 : Ext h1 g2 := by rw [← hq_g2]; exact (Ext.refl _).push _
  have l_g2 : g2.n = h1.n + 1 := by rw [← hq_g2]; rfl
  have bq : At g2 h1.n (IObj.rows [[IV.int .i64 (numB (pieceD bs 0 2)), IV.int .i64 0, IV.int .i64 0, IV.str [], IV.nilslice]] 44 5 false) := by rw [← hq_g2]; exact At.new _ _
  clear hq_g2
  have bb := bb.ext e_g2
  have B1 := B1.ext e_g2
  have E := E.ext e_g2
  generalize hp2 : h1.n = p2 at bq l_g2
  refine callA_of (numAt_c g2 _ 2 1 bs B1 (by omega) hl) ?_
  rintro r h2 ⟨rfl, B2, U⟩
  replace bb := U.at0 bb (by omega)
  replace bq := U.at0 bq (by omega)
  replace E := U.ext0 E (by omega)
  have u_h2 := U.le
  clear U
  simp only [bb.eq, bq.eq, lay_nil, lay_1, lay_w, Option.map_some, go_sem, Hold.p, HoldK.k, HoldL.K, HoldL.body, Nat.reduceBEq, Nat.reduceAdd, List.getElem?_cons_zero, List.getElem?_cons_succ, Option.bind_some, List.map_cons, List.map_nil, Nat.zero_add, if_true, List.getD_cons_zero, List.getD_cons_succ, List.contains_cons, List.contains_nil, Nat.reduceBEq, Bool.or_true, Bool.true_or, Bool.or_false, Bool.false_or, Bool.not_true, Bool.not_false, true_and, and_true, rowA_whole, push_n, set_n, push_obj, set_obj, set_push, set_push_ne, set_set, Nat.add_assoc, Nat.left_eq_add, Nat.add_eq_left, Nat.add_left_cancel_iff, Nat.reduceEqDiff, stO_1s, stO_ws, boxA_s, one_bool, one_int, one_str, one_ptr, one_nilptr, one_slice, one_eslice, one_nilslice, one_func, one_iface, one_niliface, List.all_cons, List.all_nil, List.length_cons, List.length_nil, Nat.reduceLT, Nat.reduceEqDiff, Nat.reduceLeDiff, Bool.and_true, Nat.one_ne_zero, Nat.succ_ne_zero, reduceIte, if_false, List.getElem?_cons_zero, List.set_cons_zero, List.set_cons_succ]
  refine callA_of (numAt_c h2 _ 3 1 bs B2 (by omega) hl) ?_
  rintro r h3 ⟨rfl, B3, U⟩
  replace bb := U.at0 bb (by omega)
  replace bq := U.at0 bq (by omega)
  replace E := U.ext0 E (by omega)
  have u_h3 := U.le
  clear U
  simp only [bb.eq, bq.eq, lay_nil, lay_1, lay_w, Option.map_some, go_sem, Hold.p, HoldK.k, HoldL.K, HoldL.body, Nat.reduceBEq, Nat.reduceAdd, List.getElem?_cons_zero, List.getElem?_cons_succ, Option.bind_some, List.map_cons, List.map_nil, Nat.zero_add, if_true, List.getD_cons_zero, List.getD_cons_succ, List.contains_cons, List.contains_nil, Nat.reduceBEq, Bool.or_true, Bool.true_or, Bool.or_false, Bool.false_or, Bool.not_true, Bool.not_false, true_and, and_true, rowA_whole, push_n, set_n, push_obj, set_obj, set_push, set_push_ne, set_set, Nat.add_assoc, Nat.left_eq_add, Nat.add_eq_left, Nat.add_left_cancel_iff, Nat.reduceEqDiff, stO_1s, stO_ws, boxA_s, one_bool, one_int, one_str, one_ptr, one_nilptr, one_slice, one_eslice, one_nilslice, one_func, one_iface, one_niliface, List.all_cons, List.all_nil, List.length_cons, List.length_nil, Nat.reduceLT, Nat.reduceEqDiff, Nat.reduceLeDiff, Bool.and_true, Nat.one_ne_zero, Nat.succ_ne_zero, reduceIte, if_false, List.getElem?_cons_zero, List.set_cons_zero, List.set_cons_succ]
  refine callA_of (numAt_c h3 _ 4 4 bs B3 (by omega) hl) ?_
  rintro r h4 ⟨rfl, B4, U⟩
  replace bb := U.at0 bb (by omega)
  replace bq := U.at0 bq (by omega)
  replace E := U.ext0 E (by omega)
  have u_h4 := U.le
  clear U
  have B5 := B4.other (q := p2) (o := IObj.rows [[IV.int .i64 (numB (pieceD bs 0 2)), IV.int .i64 (numB (pieceD bs 3 1)), IV.int .i64 (numB (pieceD bs 4 4)), IV.str [], .nilslice]] 44 5 false) (by omega) bq.eq (by decide)
  simp only [bb.eq, bq.eq, lay_nil, lay_1, lay_w, Option.map_some, go_sem, Hold.p, HoldK.k, HoldL.K, HoldL.body, Nat.reduceBEq, Nat.reduceAdd, List.getElem?_cons_zero, List.getElem?_cons_succ, Option.bind_some, List.map_cons, List.map_nil, Nat.zero_add, if_true, List.getD_cons_zero, List.getD_cons_succ, List.contains_cons, List.contains_nil, Nat.reduceBEq, Bool.or_true, Bool.true_or, Bool.or_false, Bool.false_or, Bool.not_true, Bool.not_false, true_and, and_true, rowA_whole, push_n, set_n, push_obj, set_obj, set_push, set_push_ne, set_set, Nat.add_assoc, Nat.left_eq_add, Nat.add_eq_left, Nat.add_left_cancel_iff, Nat.reduceEqDiff, stO_1s, stO_ws, boxA_s, one_bool, one_int, one_str, one_ptr, one_nilptr, one_slice, one_eslice, one_nilslice, one_func, one_iface, one_niliface, List.all_cons, List.all_nil, List.length_cons, List.length_nil, Nat.reduceLT, Nat.reduceEqDiff, Nat.reduceLeDiff, Bool.and_true, Nat.one_ne_zero, Nat.succ_ne_zero, reduceIte, if_false, List.getElem?_cons_zero, List.set_cons_zero, List.set_cons_succ]
  generalize hq_g5 : IH.set h4 (p2) (IObj.rows [[IV.int .i64 (numB (pieceD bs 0 2)), IV.int .i64 (numB (pieceD bs 3 1)), IV.int .i64 (numB (pieceD bs 4 4)), IV.str [], .nilslice]] 44 5 false) = g5
  have l_g5 : g5.n = h4.n := by rw [← hq_g5]; rfl
  have bq : At g5 (p2) (IObj.rows [[IV.int .i64 (numB (pieceD bs 0 2)), IV.int .i64 (numB (pieceD bs 3 1)), IV.int .i64 (numB (pieceD bs 4 4)), IV.str [], .nilslice]] 44 5 false) := by rw [← hq_g5]; exact bq.here
  have bb := bb.set (p := p2) (o' := IObj.rows [[IV.int .i64 (numB (pieceD bs 0 2)), IV.int .i64 (numB (pieceD bs 3 1)), IV.int .i64 (numB (pieceD bs 4 4)), IV.str [], .nilslice]] 44 5 false) (by omega)
  rw [hq_g5] at bb
  have E := E.set (p2) (by omega) (IObj.rows [[IV.int .i64 (numB (pieceD bs 0 2)), IV.int .i64 (numB (pieceD bs 3 1)), IV.int .i64 (numB (pieceD bs 4 4)), IV.str [], .nilslice]] 44 5 false)
  rw [hq_g5] at E
  rw [hq_g5] at B5
  clear hq_g5
  refine callA_of (numAt_c g5 _ 8 1 bs B5 (by omega) hl) ?_
  rintro r h6 ⟨rfl, B6, U⟩
  replace bb := U.at0 bb (by omega)
  replace bq := U.at0 bq (by omega)
  replace E := U.ext0 E (by omega)
  have u_h6 := U.le
  clear U
  obtain ⟨q1, q2⟩ := numB_one_le (pieceD_le bs 8 1)
  have hpm : numB (pieceD bs 8 1) = (parM bs : Int) := q2
  have hpl : parM bs ≤ 255 := q1
  rw [hpm]
  simp only [bb.eq, bq.eq, lay_nil, lay_1, lay_w, Option.map_some, go_sem, Hold.p, HoldK.k, HoldL.K, HoldL.body, Nat.reduceBEq, Nat.reduceAdd, List.getElem?_cons_zero, List.getElem?_cons_succ, Option.bind_some, List.map_cons, List.map_nil, Nat.zero_add, if_true, List.getD_cons_zero, List.getD_cons_succ, List.contains_cons, List.contains_nil, Nat.reduceBEq, Bool.or_true, Bool.true_or, Bool.or_false, Bool.false_or, Bool.not_true, Bool.not_false, true_and, and_true, rowA_whole, push_n, set_n, push_obj, set_obj, set_push, set_push_ne, set_set, Nat.add_assoc, Nat.left_eq_add, Nat.add_eq_left, Nat.add_left_cancel_iff, Nat.reduceEqDiff, stO_1s, stO_ws, boxA_s, one_bool, one_int, one_str, one_ptr, one_nilptr, one_slice, one_eslice, one_nilslice, one_func, one_iface, one_niliface, List.all_cons, List.all_nil, List.length_cons, List.length_nil, Nat.reduceLT, Nat.reduceEqDiff, Nat.reduceLeDiff, Bool.and_true, Nat.one_ne_zero, Nat.succ_ne_zero, reduceIte, if_false, List.getElem?_cons_zero, List.set_cons_zero, List.set_cons_succ]
  refine callA_of (takeAt_c h6 _ 9 (parM bs) bs B6 hpl hl) ?_
  rintro r h7 ⟨hs7, B7, U⟩
  replace bb := U.at0 bb (by omega)
  replace bq := U.at0 bq (by omega)
  replace E := U.ext0 E (by omega)
  have u_h7 := U.le
  clear U
  have hb2 := hs7.b2s
  have k7 := pieceD_le bs 9 (parM bs)
  have B8 := B7.other (q := p2) (o := IObj.rows [[IV.int .i64 (numB (pieceD bs 0 2)), IV.int .i64 (numB (pieceD bs 3 1)), IV.int .i64 (numB (pieceD bs 4 4)), IV.str (pieceD bs 9 (parM bs)), .nilslice]] 44 5 false) (by omega) bq.eq (by decide)
  simp only [bb.eq, bq.eq, hb2, lay_nil, lay_1, lay_w, Option.map_some, go_sem, Hold.p, HoldK.k, HoldL.K, HoldL.body, Nat.reduceBEq, Nat.reduceAdd, List.getElem?_cons_zero, List.getElem?_cons_succ, Option.bind_some, List.map_cons, List.map_nil, Nat.zero_add, if_true, List.getD_cons_zero, List.getD_cons_succ, List.contains_cons, List.contains_nil, Nat.reduceBEq, Bool.or_true, Bool.true_or, Bool.or_false, Bool.false_or, Bool.not_true, Bool.not_false, true_and, and_true, rowA_whole, push_n, set_n, push_obj, set_obj, set_push, set_push_ne, set_set, Nat.add_assoc, Nat.left_eq_add, Nat.add_eq_left, Nat.add_left_cancel_iff, Nat.reduceEqDiff, stO_1s, stO_ws, boxA_s, one_bool, one_int, one_str, one_ptr, one_nilptr, one_slice, one_eslice, one_nilslice, one_func, one_iface, one_niliface, List.all_cons, List.all_nil, List.length_cons, List.length_nil, Nat.reduceLT, Nat.reduceEqDiff, Nat.reduceLeDiff, Bool.and_true, Nat.one_ne_zero, Nat.succ_ne_zero, reduceIte, if_false, List.getElem?_cons_zero, List.set_cons_zero, List.set_cons_succ]
  generalize hq_g8 : IH.set h7 (p2) (IObj.rows [[IV.int .i64 (numB (pieceD bs 0 2)), IV.int .i64 (numB (pieceD bs 3 1)), IV.int .i64 (numB (pieceD bs 4 4)), IV.str (pieceD bs 9 (parM bs)), .nilslice]] 44 5 false) = g8
  have l_g8 : g8.n = h7.n := by rw [← hq_g8]; rfl
  have bq : At g8 (p2) (IObj.rows [[IV.int .i64 (numB (pieceD bs 0 2)), IV.int .i64 (numB (pieceD bs 3 1)), IV.int .i64 (numB (pieceD bs 4 4)), IV.str (pieceD bs 9 (parM bs)), .nilslice]] 44 5 false) := by rw [← hq_g8]; exact bq.here
  have bb := bb.set (p := p2) (o' := IObj.rows [[IV.int .i64 (numB (pieceD bs 0 2)), IV.int .i64 (numB (pieceD bs 3 1)), IV.int .i64 (numB (pieceD bs 4 4)), IV.str (pieceD bs 9 (parM bs)), .nilslice]] 44 5 false) (by omega)
  rw [hq_g8] at bb
  have E := E.set (p2) (by omega) (IObj.rows [[IV.int .i64 (numB (pieceD bs 0 2)), IV.int .i64 (numB (pieceD bs 3 1)), IV.int .i64 (numB (pieceD bs 4 4)), IV.str (pieceD bs 9 (parM bs)), .nilslice]] 44 5 false)
  rw [hq_g8] at E
  rw [hq_g8] at B8
  clear hq_g8
  refine callA_of (numAt_c g8 _ (9 + parM bs) 1 bs B8 (by omega) hl) ?_
  rintro r h9 ⟨rfl, B9, U⟩
  replace bb := U.at0 bb (by omega)
  replace bq := U.at0 bq (by omega)
  replace E := U.ext0 E (by omega)
  have u_h9 := U.le
  clear U
  obtain ⟨q3, q4⟩ := numB_one_le (pieceD_le bs (9 + parM bs) 1)
  have hpc : numB (pieceD bs (9 + parM bs) 1) = (parC bs : Int) := q4
  have hpcl : parC bs ≤ 255 := q3
  rw [hpc]
  have B10 : AtB h9 (h.n + 1) bs (10 + parM bs + 4 * 0) := by
    have : 9 + parM bs + 1 = 10 + parM bs + 4 * 0 := by omega
    rw [← this]; exact B9
  simp only [bb.eq, bq.eq, lay_nil, lay_1, lay_w, Option.map_some, go_sem, Hold.p, HoldK.k, HoldL.K, HoldL.body, Nat.reduceBEq, Nat.reduceAdd, List.getElem?_cons_zero, List.getElem?_cons_succ, Option.bind_some, List.map_cons, List.map_nil, Nat.zero_add, if_true, List.getD_cons_zero, List.getD_cons_succ, List.contains_cons, List.contains_nil, Nat.reduceBEq, Bool.or_true, Bool.true_or, Bool.or_false, Bool.false_or, Bool.not_true, Bool.not_false, true_and, and_true, rowA_whole, push_n, set_n, push_obj, set_obj, set_push, set_push_ne, set_set, Nat.add_assoc, Nat.left_eq_add, Nat.add_eq_left, Nat.add_left_cancel_iff, Nat.reduceEqDiff, stO_1s, stO_ws, boxA_s, one_bool, one_int, one_str, one_ptr, one_nilptr, one_slice, one_eslice, one_nilslice, one_func, one_iface, one_niliface, List.all_cons, List.all_nil, List.length_cons, List.length_nil, Nat.reduceLT, Nat.reduceEqDiff, Nat.reduceLeDiff, Bool.and_true, Nat.one_ne_zero, Nat.succ_ne_zero, reduceIte, if_false, List.getElem?_cons_zero, List.set_cons_zero, List.set_cons_succ]
  refine loop_at (fun n e g' => ∃ (k : Nat) (vz : IV) (lo hi : Nat), n = parC bs - k ∧ k ≤ parC bs ∧ e 2 = .ptr h.n 0 0 ∧ e 4 = .ptr (h.n + 1) 0 0 ∧ e 5 = .ptr p2 0 0 ∧ e 6 = .int .i64 (numB (pieceD bs 2 1)) ∧ e 7 = .int .i64 ((parC bs - k : Nat) : Int) ∧ At g' h.n (IObj.rows [[IV.int .i64 0, IV.int .i64 0, IV.int .i64 0, IV.str [], IV.nilslice]] 44 5 false) ∧ At g' p2 (IObj.rows [[IV.int .i64 (numB (pieceD bs 0 2)), IV.int .i64 (numB (pieceD bs 3 1)), IV.int .i64 (numB (pieceD bs 4 4)), IV.str (pieceD bs 9 (parM bs)), vz]] 44 5 false) ∧ AtB g' (h.n + 1) bs (10 + parM bs + 4 * k) ∧ Own lo hi g' 2 1 vz (intRows (parZ bs k)) ∧ p2 < lo ∧ hi ≤ g'.n ∧ Ext h g') (parC bs) ?_ ?_
  · refine ⟨0, .nilslice, p2 + 1, p2 + 1, by omega, by omega, ?_⟩
    simp only [lay_nil, lay_1, lay_w, Option.map_some, go_sem, Hold.p, HoldK.k, HoldL.K, HoldL.body, Nat.reduceBEq, Nat.reduceAdd, List.getElem?_cons_zero, List.getElem?_cons_succ, Option.bind_some, List.map_cons, List.map_nil, Nat.zero_add, if_true, List.getD_cons_zero, List.getD_cons_succ, List.contains_cons, List.contains_nil, Nat.reduceBEq, Bool.or_true, Bool.true_or, Bool.or_false, Bool.false_or, Bool.not_true, Bool.not_false, true_and, and_true, rowA_whole, push_n, set_n, push_obj, set_obj, set_push, set_push_ne, set_set, Nat.add_assoc, Nat.left_eq_add, Nat.add_eq_left, Nat.add_left_cancel_iff, Nat.reduceEqDiff, stO_1s, stO_ws, boxA_s, one_bool, one_int, one_str, one_ptr, one_nilptr, one_slice, one_eslice, one_nilslice, one_func, one_iface, one_niliface, List.all_cons, List.all_nil, List.length_cons, List.length_nil, Nat.reduceLT, Nat.reduceEqDiff, Nat.reduceLeDiff, Bool.and_true, Nat.one_ne_zero, Nat.succ_ne_zero, reduceIte, if_false, List.getElem?_cons_zero, List.set_cons_zero, List.set_cons_succ]
    exact ⟨rfl, bb, bq, B10, Own.nil, Nat.lt_succ_self _, by omega, E⟩
  · have hp2 : h.n + 1 < p2 := by omega
    clear bb bq B B1 B2 B3 B4 B5 B6 B7 B8 B9 B10 E
    rintro n e g' ⟨k, vz, lo, hi, rfl, hk, i2, i4, i5, i6, i7, bb, bq, B, oz, hlo, hhi, E⟩
    obtain ⟨nn, hnn⟩ : ∃ nn, nn = 10 + parM bs + 4 * k := ⟨_, rfl⟩
    rw [← hnn] at B
    obtain ⟨vB, bB, sB, _⟩ := BitesAt.box B
    simp only [i2, i4, i5, i6, i7, bb.eq, bq.eq, bB.eq, lay_nil, lay_1, lay_w, Option.map_some, go_sem, Hold.p, HoldK.k, HoldL.K, HoldL.body, Nat.reduceBEq, Nat.reduceAdd, List.getElem?_cons_zero, List.getElem?_cons_succ, Option.bind_some, List.map_cons, List.map_nil, Nat.zero_add, if_true, List.getD_cons_zero, List.getD_cons_succ, List.contains_cons, List.contains_nil, Nat.reduceBEq, Bool.or_true, Bool.true_or, Bool.or_false, Bool.false_or, Bool.not_true, Bool.not_false, true_and, and_true, rowA_whole, push_n, set_n, push_obj, set_obj, set_push, set_push_ne, set_set, Nat.add_assoc, Nat.left_eq_add, Nat.add_eq_left, Nat.add_left_cancel_iff, Nat.reduceEqDiff, stO_1s, stO_ws, boxA_s, one_bool, one_int, one_str, one_ptr, one_nilptr, one_slice, one_eslice, one_nilslice, one_func, one_iface, one_niliface, List.all_cons, List.all_nil, List.length_cons, List.length_nil, Nat.reduceLT, Nat.reduceEqDiff, Nat.reduceLeDiff, Bool.and_true, Nat.one_ne_zero, Nat.succ_ne_zero, reduceIte, if_false, List.getElem?_cons_zero, List.set_cons_zero, List.set_cons_succ]
    have lq := bq.lt
    by_cases c1 : k < parC bs
    · have d1 : decide ((0 : Int) < ((parC bs - k : Nat) : Int)) = true := decide_eq_true (by omega)
      cases c2 : (restD bs nn).2
      · simp only [i2, i4, i5, i6, i7, bb.eq, bq.eq, bB.eq, d1, c2, lay_nil, lay_1, lay_w, Option.map_some, go_sem, Hold.p, HoldK.k, HoldL.K, HoldL.body, Nat.reduceBEq, Nat.reduceAdd, List.getElem?_cons_zero, List.getElem?_cons_succ, Option.bind_some, List.map_cons, List.map_nil, Nat.zero_add, if_true, List.getD_cons_zero, List.getD_cons_succ, List.contains_cons, List.contains_nil, Nat.reduceBEq, Bool.or_true, Bool.true_or, Bool.or_false, Bool.false_or, Bool.not_true, Bool.not_false, true_and, and_true, rowA_whole, push_n, set_n, push_obj, set_obj, set_push, set_push_ne, set_set, Nat.add_assoc, Nat.left_eq_add, Nat.add_eq_left, Nat.add_left_cancel_iff, Nat.reduceEqDiff, stO_1s, stO_ws, boxA_s, one_bool, one_int, one_str, one_ptr, one_nilptr, one_slice, one_eslice, one_nilslice, one_func, one_iface, one_niliface, List.all_cons, List.all_nil, List.length_cons, List.length_nil, Nat.reduceLT, Nat.reduceEqDiff, Nat.reduceLeDiff, Bool.and_true, Nat.one_ne_zero, Nat.succ_ne_zero, reduceIte, if_false, List.getElem?_cons_zero, List.set_cons_zero, List.set_cons_succ]
        refine callA_of (numAt_c g' _ nn 4 bs B (by omega) hl) ?_
        rintro r h2 ⟨rfl, B2, U⟩
        replace bb := U.at0 bb (by omega)
        replace bq := U.at0 bq (by omega)
        replace E := U.ext0 E (by omega)
        replace oz := ownBut oz U (.inl (by omega))
        have u2 := U.le
        clear U B bB sB
        have nq : (p2 = h2.n) = False := by simp; omega
        simp only [i2, i4, i5, i6, i7, bb.eq, bq.eq, nq, bslA_1, lay_nil, lay_1, lay_w, Option.map_some, go_sem, Hold.p, HoldK.k, HoldL.K, HoldL.body, Nat.reduceBEq, Nat.reduceAdd, List.getElem?_cons_zero, List.getElem?_cons_succ, Option.bind_some, List.map_cons, List.map_nil, Nat.zero_add, if_true, List.getD_cons_zero, List.getD_cons_succ, List.contains_cons, List.contains_nil, Nat.reduceBEq, Bool.or_true, Bool.true_or, Bool.or_false, Bool.false_or, Bool.not_true, Bool.not_false, true_and, and_true, rowA_whole, push_n, set_n, push_obj, set_obj, set_push, set_push_ne, set_set, Nat.add_assoc, Nat.left_eq_add, Nat.add_eq_left, Nat.add_left_cancel_iff, Nat.reduceEqDiff, stO_1s, stO_ws, boxA_s, one_bool, one_int, one_str, one_ptr, one_nilptr, one_slice, one_eslice, one_nilslice, one_func, one_iface, one_niliface, List.all_cons, List.all_nil, List.length_cons, List.length_nil, Nat.reduceLT, Nat.reduceEqDiff, Nat.reduceLeDiff, Bool.and_true, Nat.one_ne_zero, Nat.succ_ne_zero, reduceIte, if_false, List.getElem?_cons_zero, List.set_cons_zero, List.set_cons_succ]
        generalize hq_g3 : IH.push h2 (IObj.rows [[IV.int .i64 (numB (pieceD bs nn 4))]] 2 1 false) = g3
        have e_g3 : Ext h2 g3 := by rw [← hq_g3]; exact (Ext.refl _).push _
        have l_g3 : g3.n = h2.n + 1 := by rw [← hq_g3]; rfl
        have bw : At g3 h2.n (IObj.rows [[IV.int .i64 (numB (pieceD bs nn 4))]] 2 1 false) := by rw [← hq_g3]; exact At.new _ _
        clear hq_g3
        have bb := bb.ext e_g3
        have bq := bq.ext e_g3
        have oz := oz.ext e_g3
        have E := E.ext e_g3
        have B2 := B2.ext e_g3
        refine oz.app (by simp) (by rw [intRows_len, parZ_len]; simp; omega) ?_
        intro v6 h6 o6 t6 n6 v6o v6c
        have B3 := B2.turn oz (by omega) t6
        have bb := bb.turn oz (by omega) t6
        have bq := bq.turn oz (by omega) t6
        have E := E.turn oz (by omega) t6
        have le_t6 := t6.le
        have o7 : Own g3.n (g3.n + 1) h6 2 1 v6 (intRows (parZ bs (k + 1))) := by
          rw [parZ_succ, intRows_append, ← hnn]; exact o6
        have w7 : wr .i64 (((parC bs - k : Nat) : Int) - 1) = ((parC bs - (k + 1) : Nat) : Int) := by rw [wr64 _ (by omega)]; omega
        have B4 := B3.other (q := p2) (o := IObj.rows [[IV.int .i64 (numB (pieceD bs 0 2)), IV.int .i64 (numB (pieceD bs 3 1)), IV.int .i64 (numB (pieceD bs 4 4)), IV.str (pieceD bs 9 (parM bs)), v6]] 44 5 false) (by omega) bq.eq (by decide)
        simp only [i2, i4, i5, i6, i7, bq.eq, v6o, v6c, w7, lay_nil, lay_1, lay_w, Option.map_some, go_sem, Hold.p, HoldK.k, HoldL.K, HoldL.body, Nat.reduceBEq, Nat.reduceAdd, List.getElem?_cons_zero, List.getElem?_cons_succ, Option.bind_some, List.map_cons, List.map_nil, Nat.zero_add, if_true, List.getD_cons_zero, List.getD_cons_succ, List.contains_cons, List.contains_nil, Nat.reduceBEq, Bool.or_true, Bool.true_or, Bool.or_false, Bool.false_or, Bool.not_true, Bool.not_false, true_and, and_true, rowA_whole, push_n, set_n, push_obj, set_obj, set_push, set_push_ne, set_set, Nat.add_assoc, Nat.left_eq_add, Nat.add_eq_left, Nat.add_left_cancel_iff, Nat.reduceEqDiff, stO_1s, stO_ws, boxA_s, one_bool, one_int, one_str, one_ptr, one_nilptr, one_slice, one_eslice, one_nilslice, one_func, one_iface, one_niliface, List.all_cons, List.all_nil, List.length_cons, List.length_nil, Nat.reduceLT, Nat.reduceEqDiff, Nat.reduceLeDiff, Bool.and_true, Nat.one_ne_zero, Nat.succ_ne_zero, reduceIte, if_false, List.getElem?_cons_zero, List.set_cons_zero, List.set_cons_succ]
        generalize hq_g9 : IH.set h6 (p2) (IObj.rows [[IV.int .i64 (numB (pieceD bs 0 2)), IV.int .i64 (numB (pieceD bs 3 1)), IV.int .i64 (numB (pieceD bs 4 4)), IV.str (pieceD bs 9 (parM bs)), v6]] 44 5 false) = g9
        have l_g9 : g9.n = h6.n := by rw [← hq_g9]; rfl
        have bq : At g9 (p2) (IObj.rows [[IV.int .i64 (numB (pieceD bs 0 2)), IV.int .i64 (numB (pieceD bs 3 1)), IV.int .i64 (numB (pieceD bs 4 4)), IV.str (pieceD bs 9 (parM bs)), v6]] 44 5 false) := by rw [← hq_g9]; exact bq.here
        have o7 := o7.set (m := p2) (by omega) (IObj.rows [[IV.int .i64 (numB (pieceD bs 0 2)), IV.int .i64 (numB (pieceD bs 3 1)), IV.int .i64 (numB (pieceD bs 4 4)), IV.str (pieceD bs 9 (parM bs)), v6]] 44 5 false)
        rw [hq_g9] at o7
        have bb := bb.set (p := p2) (o' := IObj.rows [[IV.int .i64 (numB (pieceD bs 0 2)), IV.int .i64 (numB (pieceD bs 3 1)), IV.int .i64 (numB (pieceD bs 4 4)), IV.str (pieceD bs 9 (parM bs)), v6]] 44 5 false) (by omega)
        rw [hq_g9] at bb
        have E := E.set (p2) (by omega) (IObj.rows [[IV.int .i64 (numB (pieceD bs 0 2)), IV.int .i64 (numB (pieceD bs 3 1)), IV.int .i64 (numB (pieceD bs 4 4)), IV.str (pieceD bs 9 (parM bs)), v6]] 44 5 false)
        rw [hq_g9] at E
        rw [hq_g9] at B4
        clear hq_g9
        refine ⟨_, ?_, k + 1, v6, g3.n, g3.n + 1, rfl, by omega, rfl, bb, bq, ?_, o7, by omega, by omega, E⟩
        · omega
        · have : nn + 4 = 10 + (parM bs + 4 * (k + 1)) := by omega
          rw [← this]; exact B4
      · have hsh : bs.length < nn := by
          unfold restD at c2
          split at c2
          · assumption
          · cases c2
        have hdec := par_dec hk (by omega)
        simp only [i2, i4, i5, i6, i7, bb.eq, bq.eq, bB.eq, d1, c2, lay_nil, lay_1, lay_w, Option.map_some, go_sem, Hold.p, HoldK.k, HoldL.K, HoldL.body, Nat.reduceBEq, Nat.reduceAdd, List.getElem?_cons_zero, List.getElem?_cons_succ, Option.bind_some, List.map_cons, List.map_nil, Nat.zero_add, if_true, List.getD_cons_zero, List.getD_cons_succ, List.contains_cons, List.contains_nil, Nat.reduceBEq, Bool.or_true, Bool.true_or, Bool.or_false, Bool.false_or, Bool.not_true, Bool.not_false, true_and, and_true, rowA_whole, push_n, set_n, push_obj, set_obj, set_push, set_push_ne, set_set, Nat.add_assoc, Nat.left_eq_add, Nat.add_eq_left, Nat.add_left_cancel_iff, Nat.reduceEqDiff, stO_1s, stO_ws, boxA_s, one_bool, one_int, one_str, one_ptr, one_nilptr, one_slice, one_eslice, one_nilslice, one_func, one_iface, one_niliface, List.all_cons, List.all_nil, List.length_cons, List.length_nil, Nat.reduceLT, Nat.reduceEqDiff, Nat.reduceLeDiff, Bool.and_true, Nat.one_ne_zero, Nat.succ_ne_zero, reduceIte, if_false, List.getElem?_cons_zero, List.set_cons_zero, List.set_cons_succ]
        refine callA_of (codeAt_c g' _ nn bs (numB (pieceD bs 2 1)) 1 (pieceD bs 9 (parM bs)) B hl (by omega)) ?_
        rintro r h7 ⟨rfl, E7⟩
        have bb := bb.ext E7
        have bq := bq.ext E7
        have oz := oz.ext E7
        have E := E.ext E7
        have le_E7 := E7.le
        have hz := codeAt_zero (bs := bs) (n := nn) (kind := numB (pieceD bs 2 1)) (want := 1) (nm := pieceD bs 9 (parM bs))
        have he : parErr bs k = if codeAt bs nn (numB (pieceD bs 2 1)) 1 (pieceD bs 9 (parM bs)) = 0 then (if (parAt bs k).ok = true then 0 else 1) else codeAt bs nn (numB (pieceD bs 2 1)) 1 (pieceD bs 9 (parM bs)) := by unfold parErr; rw [← hnn]; rfl
        generalize codeAt bs nn (numB (pieceD bs 2 1)) 1 (pieceD bs 9 (parM bs)) = cd at he hz ⊢
        by_cases c0 : cd = 0
        · have d0 : decide (cd = 0) = true := decide_eq_true c0
          rw [if_pos c0] at he
          simp only [i2, i5, bb.eq, bq.eq, d0, lay_nil, lay_1, lay_w, Option.map_some, go_sem, Hold.p, HoldK.k, HoldL.K, HoldL.body, Nat.reduceBEq, Nat.reduceAdd, List.getElem?_cons_zero, List.getElem?_cons_succ, Option.bind_some, List.map_cons, List.map_nil, Nat.zero_add, if_true, List.getD_cons_zero, List.getD_cons_succ, List.contains_cons, List.contains_nil, Nat.reduceBEq, Bool.or_true, Bool.true_or, Bool.or_false, Bool.false_or, Bool.not_true, Bool.not_false, true_and, and_true, rowA_whole, push_n, set_n, push_obj, set_obj, set_push, set_push_ne, set_set, Nat.add_assoc, Nat.left_eq_add, Nat.add_eq_left, Nat.add_left_cancel_iff, Nat.reduceEqDiff, stO_1s, stO_ws, boxA_s, one_bool, one_int, one_str, one_ptr, one_nilptr, one_slice, one_eslice, one_nilslice, one_func, one_iface, one_niliface, List.all_cons, List.all_nil, List.length_cons, List.length_nil, Nat.reduceLT, Nat.reduceEqDiff, Nat.reduceLeDiff, Bool.and_true, Nat.one_ne_zero, Nat.succ_ne_zero, reduceIte, if_false, List.getElem?_cons_zero, List.set_cons_zero, List.set_cons_succ]
          refine callA_of (okReply_c _ (parAt bs k).id (parAt bs k).code (parAt bs k).ttl (parAt bs k).nm vz (parAt bs k).zs oz.sl (by show (parZ bs k).length ≤ _; rw [parZ_len]; omega)) ?_
          rintro r h8 ⟨⟨b, rfl, hb⟩, E8⟩
          have bb := bb.ext E8
          have bq := bq.ext E8
          have oz := oz.ext E8
          have E := E.ext E8
          have le_E8 := E8.le
          have hb2 : b = (parAt bs k).ok := by
            have h1 : okName (parAt bs k).nm = true := hz c0
            rw [h1, Bool.and_true] at hb; exact hb
          rw [← hb2] at he
          cases b
          · have he1 : parErr bs k = 1 := he
            rw [he1] at hdec
            have hdec1 : decR bs = (.zero, 1) := hdec
            have d9 : decide ((1 : Int) = 0) = false := by decide
            simp only [i2, i5, bb.eq, bq.eq, d0, d9, lay_nil, lay_1, lay_w, Option.map_some, go_sem, Hold.p, HoldK.k, HoldL.K, HoldL.body, Nat.reduceBEq, Nat.reduceAdd, List.getElem?_cons_zero, List.getElem?_cons_succ, Option.bind_some, List.map_cons, List.map_nil, Nat.zero_add, if_true, List.getD_cons_zero, List.getD_cons_succ, List.contains_cons, List.contains_nil, Nat.reduceBEq, Bool.or_true, Bool.true_or, Bool.or_false, Bool.false_or, Bool.not_true, Bool.not_false, true_and, and_true, rowA_whole, push_n, set_n, push_obj, set_obj, set_push, set_push_ne, set_set, Nat.add_assoc, Nat.left_eq_add, Nat.add_eq_left, Nat.add_left_cancel_iff, Nat.reduceEqDiff, stO_1s, stO_ws, boxA_s, one_bool, one_int, one_str, one_ptr, one_nilptr, one_slice, one_eslice, one_nilslice, one_func, one_iface, one_niliface, List.all_cons, List.all_nil, List.length_cons, List.length_nil, Nat.reduceLT, Nat.reduceEqDiff, Nat.reduceLeDiff, Bool.and_true, Nat.one_ne_zero, Nat.succ_ne_zero, reduceIte, if_false, List.getElem?_cons_zero, List.set_cons_zero, List.set_cons_succ]
            rw [hdec1]
            exact ⟨_, rfl, Own.nil, E.set _ (Nat.le_refl _) _⟩
          · have he1 : parErr bs k = 0 := he
            rw [he1] at hdec
            have hdec1 : decR bs = (parAt bs k, 0) := hdec
            have vo := oz.sl.one
            have vc := oz.sl.cells
            simp only [i2, i5, bb.eq, bq.eq, d0, vo, vc, lay_nil, lay_1, lay_w, Option.map_some, go_sem, Hold.p, HoldK.k, HoldL.K, HoldL.body, Nat.reduceBEq, Nat.reduceAdd, List.getElem?_cons_zero, List.getElem?_cons_succ, Option.bind_some, List.map_cons, List.map_nil, Nat.zero_add, if_true, List.getD_cons_zero, List.getD_cons_succ, List.contains_cons, List.contains_nil, Nat.reduceBEq, Bool.or_true, Bool.true_or, Bool.or_false, Bool.false_or, Bool.not_true, Bool.not_false, true_and, and_true, rowA_whole, push_n, set_n, push_obj, set_obj, set_push, set_push_ne, set_set, Nat.add_assoc, Nat.left_eq_add, Nat.add_eq_left, Nat.add_left_cancel_iff, Nat.reduceEqDiff, stO_1s, stO_ws, boxA_s, one_bool, one_int, one_str, one_ptr, one_nilptr, one_slice, one_eslice, one_nilslice, one_func, one_iface, one_niliface, List.all_cons, List.all_nil, List.length_cons, List.length_nil, Nat.reduceLT, Nat.reduceEqDiff, Nat.reduceLeDiff, Bool.and_true, Nat.one_ne_zero, Nat.succ_ne_zero, reduceIte, if_false, List.getElem?_cons_zero, List.set_cons_zero, List.set_cons_succ]
            rw [hdec1]
            exact ⟨vz, rfl, (Own.set oz (m := h.n) (by omega) _).wide (by omega) (by rw [set_n]; omega) (Nat.le_refl _), E.set _ (Nat.le_refl _) _⟩
        · have d0 : decide (cd = 0) = false := decide_eq_false c0
          rw [if_neg c0] at he
          rw [he, if_neg c0] at hdec
          simp only [i2, i5, bb.eq, bq.eq, d0, lay_nil, lay_1, lay_w, Option.map_some, go_sem, Hold.p, HoldK.k, HoldL.K, HoldL.body, Nat.reduceBEq, Nat.reduceAdd, List.getElem?_cons_zero, List.getElem?_cons_succ, Option.bind_some, List.map_cons, List.map_nil, Nat.zero_add, if_true, List.getD_cons_zero, List.getD_cons_succ, List.contains_cons, List.contains_nil, Nat.reduceBEq, Bool.or_true, Bool.true_or, Bool.or_false, Bool.false_or, Bool.not_true, Bool.not_false, true_and, and_true, rowA_whole, push_n, set_n, push_obj, set_obj, set_push, set_push_ne, set_set, Nat.add_assoc, Nat.left_eq_add, Nat.add_eq_left, Nat.add_left_cancel_iff, Nat.reduceEqDiff, stO_1s, stO_ws, boxA_s, one_bool, one_int, one_str, one_ptr, one_nilptr, one_slice, one_eslice, one_nilslice, one_func, one_iface, one_niliface, List.all_cons, List.all_nil, List.length_cons, List.length_nil, Nat.reduceLT, Nat.reduceEqDiff, Nat.reduceLeDiff, Bool.and_true, Nat.one_ne_zero, Nat.succ_ne_zero, reduceIte, if_false, List.getElem?_cons_zero, List.set_cons_zero, List.set_cons_succ]
          rw [hdec]
          exact ⟨_, rfl, Own.nil, E.set _ (Nat.le_refl _) _⟩
    · have d1 : decide ((0 : Int) < ((parC bs - k : Nat) : Int)) = false := decide_eq_false (by omega)
      have hdec := par_dec hk (by omega)
      simp only [i2, i4, i5, i6, i7, bb.eq, bq.eq, bB.eq, d1, lay_nil, lay_1, lay_w, Option.map_some, go_sem, Hold.p, HoldK.k, HoldL.K, HoldL.body, Nat.reduceBEq, Nat.reduceAdd, List.getElem?_cons_zero, List.getElem?_cons_succ, Option.bind_some, List.map_cons, List.map_nil, Nat.zero_add, if_true, List.getD_cons_zero, List.getD_cons_succ, List.contains_cons, List.contains_nil, Nat.reduceBEq, Bool.or_true, Bool.true_or, Bool.or_false, Bool.false_or, Bool.not_true, Bool.not_false, true_and, and_true, rowA_whole, push_n, set_n, push_obj, set_obj, set_push, set_push_ne, set_set, Nat.add_assoc, Nat.left_eq_add, Nat.add_eq_left, Nat.add_left_cancel_iff, Nat.reduceEqDiff, stO_1s, stO_ws, boxA_s, one_bool, one_int, one_str, one_ptr, one_nilptr, one_slice, one_eslice, one_nilslice, one_func, one_iface, one_niliface, List.all_cons, List.all_nil, List.length_cons, List.length_nil, Nat.reduceLT, Nat.reduceEqDiff, Nat.reduceLeDiff, Bool.and_true, Nat.one_ne_zero, Nat.succ_ne_zero, reduceIte, if_false, List.getElem?_cons_zero, List.set_cons_zero, List.set_cons_succ]
      refine callA_of (codeAt_c g' _ nn bs (numB (pieceD bs 2 1)) 1 (pieceD bs 9 (parM bs)) B hl (by omega)) ?_
      rintro r h7 ⟨rfl, E7⟩
      have bb := bb.ext E7
      have bq := bq.ext E7
      have oz := oz.ext E7
      have E := E.ext E7
      have le_E7 := E7.le
      have hz := codeAt_zero (bs := bs) (n := nn) (kind := numB (pieceD bs 2 1)) (want := 1) (nm := pieceD bs 9 (parM bs))
      have he : parErr bs k = if codeAt bs nn (numB (pieceD bs 2 1)) 1 (pieceD bs 9 (parM bs)) = 0 then (if (parAt bs k).ok = true then 0 else 1) else codeAt bs nn (numB (pieceD bs 2 1)) 1 (pieceD bs 9 (parM bs)) := by unfold parErr; rw [← hnn]; rfl
      generalize codeAt bs nn (numB (pieceD bs 2 1)) 1 (pieceD bs 9 (parM bs)) = cd at he hz ⊢
      by_cases c0 : cd = 0
      · have d0 : decide (cd = 0) = true := decide_eq_true c0
        rw [if_pos c0] at he
        simp only [i2, i5, bb.eq, bq.eq, d0, lay_nil, lay_1, lay_w, Option.map_some, go_sem, Hold.p, HoldK.k, HoldL.K, HoldL.body, Nat.reduceBEq, Nat.reduceAdd, List.getElem?_cons_zero, List.getElem?_cons_succ, Option.bind_some, List.map_cons, List.map_nil, Nat.zero_add, if_true, List.getD_cons_zero, List.getD_cons_succ, List.contains_cons, List.contains_nil, Nat.reduceBEq, Bool.or_true, Bool.true_or, Bool.or_false, Bool.false_or, Bool.not_true, Bool.not_false, true_and, and_true, rowA_whole, push_n, set_n, push_obj, set_obj, set_push, set_push_ne, set_set, Nat.add_assoc, Nat.left_eq_add, Nat.add_eq_left, Nat.add_left_cancel_iff, Nat.reduceEqDiff, stO_1s, stO_ws, boxA_s, one_bool, one_int, one_str, one_ptr, one_nilptr, one_slice, one_eslice, one_nilslice, one_func, one_iface, one_niliface, List.all_cons, List.all_nil, List.length_cons, List.length_nil, Nat.reduceLT, Nat.reduceEqDiff, Nat.reduceLeDiff, Bool.and_true, Nat.one_ne_zero, Nat.succ_ne_zero, reduceIte, if_false, List.getElem?_cons_zero, List.set_cons_zero, List.set_cons_succ]
        refine callA_of (okReply_c _ (parAt bs k).id (parAt bs k).code (parAt bs k).ttl (parAt bs k).nm vz (parAt bs k).zs oz.sl (by show (parZ bs k).length ≤ _; rw [parZ_len]; omega)) ?_
        rintro r h8 ⟨⟨b, rfl, hb⟩, E8⟩
        have bb := bb.ext E8
        have bq := bq.ext E8
        have oz := oz.ext E8
        have E := E.ext E8
        have le_E8 := E8.le
        have hb2 : b = (parAt bs k).ok := by
          have h1 : okName (parAt bs k).nm = true := hz c0
          rw [h1, Bool.and_true] at hb; exact hb
        rw [← hb2] at he
        cases b
        · have he1 : parErr bs k = 1 := he
          rw [he1] at hdec
          have hdec1 : decR bs = (.zero, 1) := hdec
          have d9 : decide ((1 : Int) = 0) = false := by decide
          simp only [i2, i5, bb.eq, bq.eq, d0, d9, lay_nil, lay_1, lay_w, Option.map_some, go_sem, Hold.p, HoldK.k, HoldL.K, HoldL.body, Nat.reduceBEq, Nat.reduceAdd, List.getElem?_cons_zero, List.getElem?_cons_succ, Option.bind_some, List.map_cons, List.map_nil, Nat.zero_add, if_true, List.getD_cons_zero, List.getD_cons_succ, List.contains_cons, List.contains_nil, Nat.reduceBEq, Bool.or_true, Bool.true_or, Bool.or_false, Bool.false_or, Bool.not_true, Bool.not_false, true_and, and_true, rowA_whole, push_n, set_n, push_obj, set_obj, set_push, set_push_ne, set_set, Nat.add_assoc, Nat.left_eq_add, Nat.add_eq_left, Nat.add_left_cancel_iff, Nat.reduceEqDiff, stO_1s, stO_ws, boxA_s, one_bool, one_int, one_str, one_ptr, one_nilptr, one_slice, one_eslice, one_nilslice, one_func, one_iface, one_niliface, List.all_cons, List.all_nil, List.length_cons, List.length_nil, Nat.reduceLT, Nat.reduceEqDiff, Nat.reduceLeDiff, Bool.and_true, Nat.one_ne_zero, Nat.succ_ne_zero, reduceIte, if_false, List.getElem?_cons_zero, List.set_cons_zero, List.set_cons_succ]
          rw [hdec1]
          exact ⟨_, rfl, Own.nil, E.set _ (Nat.le_refl _) _⟩
        · have he1 : parErr bs k = 0 := he
          rw [he1] at hdec
          have hdec1 : decR bs = (parAt bs k, 0) := hdec
          have vo := oz.sl.one
          have vc := oz.sl.cells
          simp only [i2, i5, bb.eq, bq.eq, d0, vo, vc, lay_nil, lay_1, lay_w, Option.map_some, go_sem, Hold.p, HoldK.k, HoldL.K, HoldL.body, Nat.reduceBEq, Nat.reduceAdd, List.getElem?_cons_zero, List.getElem?_cons_succ, Option.bind_some, List.map_cons, List.map_nil, Nat.zero_add, if_true, List.getD_cons_zero, List.getD_cons_succ, List.contains_cons, List.contains_nil, Nat.reduceBEq, Bool.or_true, Bool.true_or, Bool.or_false, Bool.false_or, Bool.not_true, Bool.not_false, true_and, and_true, rowA_whole, push_n, set_n, push_obj, set_obj, set_push, set_push_ne, set_set, Nat.add_assoc, Nat.left_eq_add, Nat.add_eq_left, Nat.add_left_cancel_iff, Nat.reduceEqDiff, stO_1s, stO_ws, boxA_s, one_bool, one_int, one_str, one_ptr, one_nilptr, one_slice, one_eslice, one_nilslice, one_func, one_iface, one_niliface, List.all_cons, List.all_nil, List.length_cons, List.length_nil, Nat.reduceLT, Nat.reduceEqDiff, Nat.reduceLeDiff, Bool.and_true, Nat.one_ne_zero, Nat.succ_ne_zero, reduceIte, if_false, List.getElem?_cons_zero, List.set_cons_zero, List.set_cons_succ]
          rw [hdec1]
          exact ⟨vz, rfl, (Own.set oz (m := h.n) (by omega) _).wide (by omega) (by rw [set_n]; omega) (Nat.le_refl _), E.set _ (Nat.le_refl _) _⟩
      · have d0 : decide (cd = 0) = false := decide_eq_false c0
        rw [if_neg c0] at he
        rw [he, if_neg c0] at hdec
        simp only [i2, i5, bb.eq, bq.eq, d0, lay_nil, lay_1, lay_w, Option.map_some, go_sem, Hold.p, HoldK.k, HoldL.K, HoldL.body, Nat.reduceBEq, Nat.reduceAdd, List.getElem?_cons_zero, List.getElem?_cons_succ, Option.bind_some, List.map_cons, List.map_nil, Nat.zero_add, if_true, List.getD_cons_zero, List.getD_cons_succ, List.contains_cons, List.contains_nil, Nat.reduceBEq, Bool.or_true, Bool.true_or, Bool.or_false, Bool.false_or, Bool.not_true, Bool.not_false, true_and, and_true, rowA_whole, push_n, set_n, push_obj, set_obj, set_push, set_push_ne, set_set, Nat.add_assoc, Nat.left_eq_add, Nat.add_eq_left, Nat.add_left_cancel_iff, Nat.reduceEqDiff, stO_1s, stO_ws, boxA_s, one_bool, one_int, one_str, one_ptr, one_nilptr, one_slice, one_eslice, one_nilslice, one_func, one_iface, one_niliface, List.all_cons, List.all_nil, List.length_cons, List.length_nil, Nat.reduceLT, Nat.reduceEqDiff, Nat.reduceLeDiff, Bool.and_true, Nat.one_ne_zero, Nat.succ_ne_zero, reduceIte, if_false, List.getElem?_cons_zero, List.set_cons_zero, List.set_cons_succ]
        rw [hdec]
        exact ⟨_, rfl, Own.nil, E.set _ (Nat.le_refl _) _⟩
end Go.Proofs.YtcmcfmgabafljaaDoor
