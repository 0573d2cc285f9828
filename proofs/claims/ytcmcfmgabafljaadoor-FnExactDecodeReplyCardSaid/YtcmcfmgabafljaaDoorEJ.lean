import Derived.Test.YtcmcfmgabafljaaDoorEI
set_option linter.unusedSimpArgs false
set_option linter.unusedVariables false
namespace Go.Proofs.YtcmcfmgabafljaaDoor
open Go Go.IW

theorem BitesAt.ext {h h' : IH} {p : Nat} {bs : List UInt8} {sh : Bool} (b : BitesAt h p bs sh) (e : Ext h h') : BitesAt h' p bs sh := by
  obtain ⟨v, ha, hs, hlow⟩ := b.box
  exact ⟨⟨v, ha.ext e, hs.ext e, hlow⟩⟩
theorem BitesAt.other {h : IH} {p q e sz : Nat} {bs : List UInt8} {sh ro : Bool} {rs : List (List IV)} {o : IObj} (b : BitesAt h p bs sh) (hq : p ≠ q) (ho : h.obj q = .rows rs e sz ro) (h1 : 1 ≠ sz) : BitesAt (h.set q o) p bs sh := by
  obtain ⟨v, ha, hs, hlow⟩ := b.box
  exact ⟨⟨v, ha.set hq, hs.but ((But.refl _ _ _).set _) ho h1, hlow⟩⟩
theorem BitesAt.turn {lo hi : Nat} {h h' : IH} {p el sz : Nat} {bs : List UInt8} {sh : Bool} {w : IV} {rs : List (List IV)} (b : BitesAt h p bs sh) (hw : Own lo hi h el sz w rs) (hd : p < lo) (t : Turn w h h') : BitesAt h' p bs sh := by
  obtain ⟨v, ha, hs, hlow⟩ := b.box
  exact ⟨⟨v, ha.turn hw (.inl hd) t, hs.turn (fun l i n hv => Nat.lt_trans (hlow l i n hv) hd) hw t, hlow⟩⟩
theorem BitesAt.lt {h : IH} {p : Nat} {bs : List UInt8} {sh : Bool} (b : BitesAt h p bs sh) : p < h.n := by
  obtain ⟨v, ha, hs, _⟩ := b.box; exact ha.lt
theorem BitesAt.mk' {h : IH} {p : Nat} {bs : List UInt8} {sh : Bool} {v : IV} (ha : At h p (.rows [[v, .bool sh]] 105 2 false)) (hs : SlR h 1 v (strRows bs)) (hlow : ∀ l i m, v = .slice l i m → l < p) : BitesAt h p bs sh := ⟨⟨v, ha, hs, hlow⟩⟩

theorem takeD_le (bs : List UInt8) (sh : Bool) (n : Nat) : (takeD bs sh n).1.length ≤ n := by unfold takeD; split <;> simp <;> omega
theorem numB_one_le {bs : List UInt8} (h : bs.length ≤ 1) : (numB bs).toNat ≤ 255 ∧ numB bs = ((numB bs).toNat : Int) := by
  match bs, h with
  | [], _ => exact ⟨by decide, rfl⟩
  | [b], _ => have := b.toNat_lt; rw [numB_one]; exact ⟨by omega, by omega⟩

set_option maxRecDepth 20000 in
theorem implDecodeQuery_c (h : IH) (v : IV) (bs : List UInt8) (hs : SlR h 1 v (strRows bs)) (hl : bs.length ≤ 1048576) : ICalls Tryd.prog 23 [v] h fun r h' => QueryRes h h' r (decQ bs) := by
  refine icalls (.of ok23) (Nat.le_of_ble_eq_true rfl) ?_
  unfold c23
  rw [chainQ_dec]
  unfold chainQ
  have hvo := hs.one
  have hvc := hs.cells
  have hsl := hs.lt
  simp only
  simp only [hvo, hvc, lay_nil, lay_1, lay_w, Option.map_some, go_sem, Hold.p, HoldK.k, HoldL.K, HoldL.body, Nat.reduceBEq, Nat.reduceAdd, List.getElem?_cons_zero, List.getElem?_cons_succ, Option.bind_some, List.map_cons, List.map_nil, Nat.zero_add, if_true, List.getD_cons_zero, List.getD_cons_succ, List.contains_cons, List.contains_nil, Nat.reduceBEq, Bool.or_true, Bool.true_or, Bool.or_false, Bool.false_or, Bool.not_true, Bool.not_false, true_and, and_true, rowA_whole, push_n, set_n, push_obj, set_obj, set_push, set_push_ne, set_set, Nat.add_assoc, Nat.left_eq_add, Nat.add_eq_left, Nat.add_left_cancel_iff, Nat.reduceEqDiff, stO_1s, stO_ws, boxA_s, one_bool, one_int, one_str, one_ptr, one_nilptr, one_slice, one_eslice, one_nilslice, one_func, one_iface, one_niliface, List.all_cons, List.all_nil, List.length_cons, List.length_nil, Nat.reduceLT, Nat.reduceEqDiff, Nat.reduceLeDiff, Bool.and_true, Nat.one_ne_zero, Nat.succ_ne_zero, reduceIte, if_false, List.getElem?_cons_zero, List.set_cons_zero, List.set_cons_succ]
  generalize hq_g0 : IH.push h (IObj.rows [[IV.int .i64 0, IV.str []]] 29 2 false) = g0
  have e_g0 : Ext h g0 := by rw [← hq_g0]; exact (Ext.refl _).push _
  have l_g0 : g0.n = h.n + 1 := by rw [← hq_g0]; rfl
  have bb : At g0 h.n (IObj.rows [[IV.int .i64 0, IV.str []]] 29 2 false) := by rw [← hq_g0]; exact At.new _ _
  clear hq_g0
  have hs := hs.ext e_g0
  generalize hq_g1 : IH.push g0 (IObj.rows [[v, IV.bool false]] 105 2 false) = g1
  have e_g1 : Ext g0 g1 := by rw [← hq_g1]; exact (Ext.refl _).push _
  have l_g1 : g1.n = g0.n + 1 := by rw [← hq_g1]; rfl
  have ba : At g1 g0.n (IObj.rows [[v, IV.bool false]] 105 2 false) := by rw [← hq_g1]; exact At.new _ _
  clear hq_g1
  have hs := hs.ext e_g1
  have bb := bb.ext e_g1
  have B := BitesAt.mk' ba hs (fun l i m e => by have := hsl l i m e; omega)
  rw [l_g0] at B
  have E := e_g0.trans e_g1
  refine callA_of (num_c g1 _ 2 bs false B (by omega) hl) ?_
  rintro r h1 ⟨rfl, B1, U1⟩
  replace bb := U1.at0 bb (by omega)
  replace E := U1.ext0 E (by omega)
  have k1 := takeD_len bs false 2
  generalize takeD bs false 2 = t1 at B1 k1 ⊢
  simp only [bb.eq, lay_nil, lay_1, lay_w, Option.map_some, go_sem, Hold.p, HoldK.k, HoldL.K, HoldL.body, Nat.reduceBEq, Nat.reduceAdd, List.getElem?_cons_zero, List.getElem?_cons_succ, Option.bind_some, List.map_cons, List.map_nil, Nat.zero_add, if_true, List.getD_cons_zero, List.getD_cons_succ, List.contains_cons, List.contains_nil, Nat.reduceBEq, Bool.or_true, Bool.true_or, Bool.or_false, Bool.false_or, Bool.not_true, Bool.not_false, true_and, and_true, rowA_whole, push_n, set_n, push_obj, set_obj, set_push, set_push_ne, set_set, Nat.add_assoc, Nat.left_eq_add, Nat.add_eq_left, Nat.add_left_cancel_iff, Nat.reduceEqDiff, stO_1s, stO_ws, boxA_s, one_bool, one_int, one_str, one_ptr, one_nilptr, one_slice, one_eslice, one_nilslice, one_func, one_iface, one_niliface, List.all_cons, List.all_nil, List.length_cons, List.length_nil, Nat.reduceLT, Nat.reduceEqDiff, Nat.reduceLeDiff, Bool.and_true, Nat.one_ne_zero, Nat.succ_ne_zero, reduceIte, if_false, List.getElem?_cons_zero, List.set_cons_zero, List.set_cons_succ]
  generalize hq_g2 : IH.push h1 (IObj.rows [[IV.int .i64 (numB t1.1), IV.str []]] 29 2 false) = g2
  have e_g2 : Ext h1 g2 := by rw [← hq_g2]; exact (Ext.refl _).push _
  have l_g2 : g2.n = h1.n + 1 := by rw [← hq_g2]; rfl
  have bq : At g2 h1.n (IObj.rows [[IV.int .i64 (numB t1.1), IV.str []]] 29 2 false) := by rw [← hq_g2]; exact At.new _ _
  clear hq_g2
  have bb := bb.ext e_g2
  have B1 := B1.ext e_g2
  have E := E.ext e_g2
  generalize hp2 : h1.n = p2 at bq l_g2
  have u1 := U1.le
  refine callA_of (num_c g2 _ 1 _ _ B1 (by omega) (by omega)) ?_
  rintro r h2 ⟨rfl, B2, U2⟩
  replace bb := U2.at0 bb (by omega)
  replace bq := U2.at0 bq (by omega)
  replace E := U2.ext0 E (by omega)
  have k2 := takeD_len t1.2.1 t1.2.2 1
  generalize takeD t1.2.1 t1.2.2 1 = t2 at B2 k2 ⊢
  have u2 := U2.le
  simp only [bb.eq, bq.eq, go_sem, Hold.p, HoldK.k, HoldL.K, HoldL.body, Nat.reduceBEq, Nat.reduceAdd, List.getElem?_cons_zero, List.getElem?_cons_succ, Option.bind_some, List.map_cons, List.map_nil, Nat.zero_add, if_true, List.getD_cons_zero, List.getD_cons_succ, List.contains_cons, List.contains_nil, Nat.reduceBEq, Bool.or_true, Bool.true_or, Bool.or_false, Bool.false_or, Bool.not_true, Bool.not_false, true_and, and_true, rowA_whole, push_n, set_n, push_obj, set_obj, set_push, set_push_ne, set_set, Nat.add_assoc, Nat.left_eq_add, Nat.add_eq_left, Nat.add_left_cancel_iff, Nat.reduceEqDiff, stO_1s, stO_ws, boxA_s, one_bool, one_int, one_str, one_ptr, one_nilptr, one_slice, one_eslice, one_nilslice, one_func, one_iface, one_niliface, List.all_cons, List.all_nil, List.length_cons, List.length_nil, Nat.reduceLT, Nat.reduceEqDiff, Nat.reduceLeDiff, Bool.and_true, Nat.one_ne_zero, Nat.succ_ne_zero, reduceIte, if_false, List.getElem?_cons_zero, List.set_cons_zero, List.set_cons_succ]
  refine callA_of (num_c h2 _ 1 _ _ B2 (by omega) (by omega)) ?_
  rintro r h3 ⟨rfl, B3, U3⟩
  replace bb := U3.at0 bb (by omega)
  replace bq := U3.at0 bq (by omega)
  replace E := U3.ext0 E (by omega)
  have k3 := takeD_len t2.2.1 t2.2.2 1
  have k3' := takeD_len1 t2.2.1 t2.2.2 (n := 1) (by omega)
  generalize takeD t2.2.1 t2.2.2 1 = t3 at B3 k3 k3' ⊢
  have u3 := U3.le
  obtain ⟨q1, q2⟩ := numB_one_le k3'
  rw [q2]
  generalize (numB t3.1).toNat = n3 at q1
  clear q2
  rw [Int.toNat_natCast]
  simp only [bb.eq, bq.eq, go_sem, Hold.p, HoldK.k, HoldL.K, HoldL.body, Nat.reduceBEq, Nat.reduceAdd, List.getElem?_cons_zero, List.getElem?_cons_succ, Option.bind_some, List.map_cons, List.map_nil, Nat.zero_add, if_true, List.getD_cons_zero, List.getD_cons_succ, List.contains_cons, List.contains_nil, Nat.reduceBEq, Bool.or_true, Bool.true_or, Bool.or_false, Bool.false_or, Bool.not_true, Bool.not_false, true_and, and_true, rowA_whole, push_n, set_n, push_obj, set_obj, set_push, set_push_ne, set_set, Nat.add_assoc, Nat.left_eq_add, Nat.add_eq_left, Nat.add_left_cancel_iff, Nat.reduceEqDiff, stO_1s, stO_ws, boxA_s, one_bool, one_int, one_str, one_ptr, one_nilptr, one_slice, one_eslice, one_nilslice, one_func, one_iface, one_niliface, List.all_cons, List.all_nil, List.length_cons, List.length_nil, Nat.reduceLT, Nat.reduceEqDiff, Nat.reduceLeDiff, Bool.and_true, Nat.one_ne_zero, Nat.succ_ne_zero, reduceIte, if_false, List.getElem?_cons_zero, List.set_cons_zero, List.set_cons_succ]
  refine callA_of (take_c h3 _ n3 _ _ B3 q1 (by omega)) ?_
  rintro r h4 ⟨hs4, B4, U4⟩
  replace bb := U4.at0 bb (by omega)
  replace bq := U4.at0 bq (by omega)
  replace E := U4.ext0 E (by omega)
  have k4 := takeD_len t3.2.1 t3.2.2 n3
  have k4' := takeD_le t3.2.1 t3.2.2 n3
  generalize takeD t3.2.1 t3.2.2 n3 = t4 at B4 hs4 k4 k4' ⊢
  have u4 := U4.le
  have hb2 := hs4.b2s
  simp only [bb.eq, bq.eq, hb2, go_sem, Hold.p, HoldK.k, HoldL.K, HoldL.body, Nat.reduceBEq, Nat.reduceAdd, List.getElem?_cons_zero, List.getElem?_cons_succ, Option.bind_some, List.map_cons, List.map_nil, Nat.zero_add, if_true, List.getD_cons_zero, List.getD_cons_succ, List.contains_cons, List.contains_nil, Nat.reduceBEq, Bool.or_true, Bool.true_or, Bool.or_false, Bool.false_or, Bool.not_true, Bool.not_false, true_and, and_true, rowA_whole, push_n, set_n, push_obj, set_obj, set_push, set_push_ne, set_set, Nat.add_assoc, Nat.left_eq_add, Nat.add_eq_left, Nat.add_left_cancel_iff, Nat.reduceEqDiff, stO_1s, stO_ws, boxA_s, one_bool, one_int, one_str, one_ptr, one_nilptr, one_slice, one_eslice, one_nilslice, one_func, one_iface, one_niliface, List.all_cons, List.all_nil, List.length_cons, List.length_nil, Nat.reduceLT, Nat.reduceEqDiff, Nat.reduceLeDiff, Bool.and_true, Nat.one_ne_zero, Nat.succ_ne_zero, reduceIte, if_false, List.getElem?_cons_zero, List.set_cons_zero, List.set_cons_succ]
  have B5 := B4.other (q := p2) (o := IObj.rows [[IV.int .i64 (numB t1.1), IV.str t4.1]] 29 2 false) (by omega) bq.eq (by decide)
  generalize hq_g5 : IH.set h4 (p2) (IObj.rows [[IV.int .i64 (numB t1.1), IV.str t4.1]] 29 2 false) = g5
  have l_g5 : g5.n = h4.n := by rw [← hq_g5]; rfl
  have bq : At g5 (p2) (IObj.rows [[IV.int .i64 (numB t1.1), IV.str t4.1]] 29 2 false) := by rw [← hq_g5]; exact bq.here
  have bb := bb.set (p := p2) (o' := IObj.rows [[IV.int .i64 (numB t1.1), IV.str t4.1]] 29 2 false) (by omega)
  rw [hq_g5] at bb
  have E := E.set (p2) (by omega) (IObj.rows [[IV.int .i64 (numB t1.1), IV.str t4.1]] 29 2 false)
  rw [hq_g5] at E
  rw [hq_g5] at B5
  clear hq_g5
  refine callA_of (code_c g5 _ t4.2.1 t4.2.2 (numB t2.1) 0 t4.1 ?_ (by omega) (by omega)) ?_
  · exact B5
  rintro r h6 ⟨rfl, E6⟩
  have bb := bb.ext E6
  have bq := bq.ext E6
  have E := E.ext E6
  have le_E6 := E6.le
  have hcd : (if t4.2.2 = true then 2 else if 0 < t4.2.1.length then 5 else if numB t2.1 ≠ 0 then 9 else if okName t4.1 = true then 0 else 6) = codeQ (numB t1.1, numB t2.1, t4.1, t4.2.1, t4.2.2) 0 := rfl
  rw [hcd]
  generalize codeQ (numB t1.1, numB t2.1, t4.1, t4.2.1, t4.2.2) 0 = cd
  by_cases c0 : cd = 0
  · have d0 : decide (cd = 0) = true := decide_eq_true c0
    rw [if_pos c0]
    simp only [bb.eq, bq.eq, d0, lay_nil, lay_1, lay_w, Option.map_some, go_sem, Hold.p, HoldK.k, HoldL.K, HoldL.body, Nat.reduceBEq, Nat.reduceAdd, List.getElem?_cons_zero, List.getElem?_cons_succ, Option.bind_some, List.map_cons, List.map_nil, Nat.zero_add, if_true, List.getD_cons_zero, List.getD_cons_succ, List.contains_cons, List.contains_nil, Nat.reduceBEq, Bool.or_true, Bool.true_or, Bool.or_false, Bool.false_or, Bool.not_true, Bool.not_false, true_and, and_true, rowA_whole, push_n, set_n, push_obj, set_obj, set_push, set_push_ne, set_set, Nat.add_assoc, Nat.left_eq_add, Nat.add_eq_left, Nat.add_left_cancel_iff, Nat.reduceEqDiff, stO_1s, stO_ws, boxA_s, one_bool, one_int, one_str, one_ptr, one_nilptr, one_slice, one_eslice, one_nilslice, one_func, one_iface, one_niliface, List.all_cons, List.all_nil, List.length_cons, List.length_nil, Nat.reduceLT, Nat.reduceEqDiff, Nat.reduceLeDiff, Bool.and_true, Nat.one_ne_zero, Nat.succ_ne_zero, reduceIte, if_false, List.getElem?_cons_zero, List.set_cons_zero, List.set_cons_succ]
    exact ⟨rfl, E.set _ (Nat.le_refl _) _⟩
  · have d0 : decide (cd = 0) = false := decide_eq_false c0
    rw [if_neg c0]
    simp only [bb.eq, bq.eq, d0, lay_nil, lay_1, lay_w, Option.map_some, go_sem, Hold.p, HoldK.k, HoldL.K, HoldL.body, Nat.reduceBEq, Nat.reduceAdd, List.getElem?_cons_zero, List.getElem?_cons_succ, Option.bind_some, List.map_cons, List.map_nil, Nat.zero_add, if_true, List.getD_cons_zero, List.getD_cons_succ, List.contains_cons, List.contains_nil, Nat.reduceBEq, Bool.or_true, Bool.true_or, Bool.or_false, Bool.false_or, Bool.not_true, Bool.not_false, true_and, and_true, rowA_whole, push_n, set_n, push_obj, set_obj, set_push, set_push_ne, set_set, Nat.add_assoc, Nat.left_eq_add, Nat.add_eq_left, Nat.add_left_cancel_iff, Nat.reduceEqDiff, stO_1s, stO_ws, boxA_s, one_bool, one_int, one_str, one_ptr, one_nilptr, one_slice, one_eslice, one_nilslice, one_func, one_iface, one_niliface, List.all_cons, List.all_nil, List.length_cons, List.length_nil, Nat.reduceLT, Nat.reduceEqDiff, Nat.reduceLeDiff, Bool.and_true, Nat.one_ne_zero, Nat.succ_ne_zero, reduceIte, if_false, List.getElem?_cons_zero, List.set_cons_zero, List.set_cons_succ]
    exact ⟨rfl, E.set _ (Nat.le_refl _) _⟩
end Go.Proofs.YtcmcfmgabafljaaDoor
