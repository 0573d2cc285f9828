import Derived.Test.YtcmcfmgabafljaaDoorL2
import Derived.Test.YtcmcfmgabafljaaDoorK2
import Derived.Test.YtcmcfmgabafljaaDoorL1
set_option linter.unusedSimpArgs false
set_option linter.unusedVariables false
namespace Go.Proofs.YtcmcfmgabafljaaDoor
open Go Go.IW

theorem BitesAt.ext {h h' : IH} {p : Nat} {bs : List UInt8} {sh : Bool} (b : BitesAt h p bs sh) (e : Ext h h') : BitesAt h' p bs sh := by
  obtain ⟨v, ha, hs, hlow⟩ := b.box
  exact ⟨⟨v, ha.ext e, hs.ext e, hlow⟩⟩
theorem BitesAt.other {h : IH} {p q e sz : Nat} {bs : List UInt8} {sh ro : Bool} {rs : List (List IV)} {o : IObj} (b : BitesAt h p bs sh) (hq : p ≠ q) (ho : h.obj q = .rows rs e sz ro) (h1 : 1 ≠ sz) : BitesAt (h.set q o) p bs sh := by
  obtain ⟨v, ha, hs, hlow⟩ := b.box
  exact ⟨⟨v, ha.set hq, hs.but ((But.refl _ _ _).set _) ho h1, hlow⟩⟩
theorem BitesAt.turn {lo hi : Nat} {h h' : IH} {p el sz : Nat} {bs : List UInt8} {sh : Bool} {w : IV} {rs : List (List IV)} (b : BitesAt h p bs sh) (hw : Own lo hi h el sz w rs) (hd : p < lo) (t : Turn w h h') : BitesAt h' p bs sh := by
  obtain ⟨v, ha, hs, hlow⟩ := b.box
  exact ⟨⟨v, ha.turn hw (.inl hd) t, hs.turn (fun l i n hv => Nat.lt_trans (hlow l i n hv) hd) hw t, hlow⟩⟩
theorem BitesAt.lt {h : IH} {p : Nat} {bs : List UInt8} {sh : Bool} (b : BitesAt h p bs sh) : p < h.n := by
  obtain ⟨v, ha, hs, _⟩ := b.box; exact ha.lt
theorem BitesAt.mk' {h : IH} {p : Nat} {bs : List UInt8} {sh : Bool} {v : IV} (ha : At h p (.rows [[v, .bool sh]] 105 2 false)) (hs : SlR h 1 v (strRows bs)) (hlow : ∀ l i m, v = .slice l i m → l < p) : BitesAt h p bs sh := ⟨⟨v, ha, hs, hlow⟩⟩

theorem takeD_le (bs : List UInt8) (sh : Bool) (n : Nat) : (takeD bs sh n).1.length ≤ n := by unfold takeD; split <;> simp <;> omega
theorem numB_one_le {bs : List UInt8} (h : bs.length ≤ 1) : (numB bs).toNat ≤ 255 ∧ numB bs = ((numB bs).toNat : Int) := by
  match bs, h with
  | [], _ => exact ⟨by decide, rfl⟩
  | [b], _ => have := b.toNat_lt; rw [numB_one]; exact ⟨by omega, by omega⟩

set_option maxRecDepth 20000 in
theorem implDecodeQuery_c (h : IH) (v : IV) (bs : List UInt8) (hs : SlR h 1 v (strRows bs)) (hl : bs.length ≤ 1048576) : ICalls Tryd.prog 23 [v] h fun r h' => QueryRes h h' r (decQ bs) := by
  refine icalls (.of ok23) (Nat.le_of_ble_eq_true rfl) ?_
  unfold c23
  rw [chainQ_dec]
  unfold chainQ
  have hvo := hs.one
  have hvc := hs.cells
  have hsl := hs.lt
  simp only
  simp only [hvo, hvc, lay_nil, lay_1, lay_w, Option.map_some, go_sem, Hold.p, HoldK.k, HoldL.K, HoldL.body, Nat.reduceBEq, Nat.reduceAdd, List.getElem?_cons_zero, List.getElem?_cons_succ, Option.bind_some, List.map_cons, List.map_nil, Nat.zero_add, if_true, List.getD_cons_zero, List.getD_cons_succ, List.contains_cons, List.contains_nil, Nat.reduceBEq, Bool.or_true, Bool.true_or, Bool.or_false, Bool.false_or, Bool.not_true, Bool.not_false, true_and, and_true, rowA_whole, push_n, set_n, push_obj, set_obj, set_push, set_push_ne, set_set, Nat.add_assoc, Nat.left_eq_add, Nat.add_eq_left, Nat.add_left_cancel_iff, Nat.reduceEqDiff, stO_1s, stO_ws, boxA_s, one_bool, one_int, one_str, one_ptr, one_nilptr, one_slice, one_eslice, one_nilslice, one_func, one_iface, one_niliface, List.all_cons, List.all_nil, List.length_cons, List.length_nil, Nat.reduceLT, Nat.reduceEqDiff, Nat.reduceLeDiff, Bool.and_true, Nat.one_ne_zero, Nat.succ_ne_zero, reduceIte, if_false, List.getElem?_cons_zero, List.set_cons_zero, List.set_cons_succ]
  generalize hq_g0 : IH.push h (IObj.rows [[IV.int .i64 0, IV.str []]] 29 2 false) = g0
  have e_g0 : Ext h g0 := by rw [← hq_g0]; exact (Ext.refl _).push _
  have l_g0 : g0.n = h.n + 1 := by rw [← hq_g0]; rfl
  have bb : At g0 h.n (IObj.rows [[IV.int .i64 0, IV.str []]] 29 2 false) := by rw [← hq_g0]; exact At.new _ _
  clear hq_g0
  have hs := hs.ext e_g0
  generalize hq_g1 : IH.push g0 (IObj.rows [[v, IV.bool false]] 105 2 false) = g1
  have e_g1 : Ext g0 g1 := by rw [← hq_g1]; exact (Ext.refl _).push _
  have l_g1 : g1.n = g0.n + 1 := by rw [← hq_g1]; rfl
  have ba : At g1 g0.n (IObj.rows [[v, IV.bool false]] 105 2 false) := by rw [← hq_g1]; exact At.new _ _
  clear hq_g1
  have hs := hs.ext e_g1
  have bb := bb.ext e_g1
  have B := BitesAt.mk' ba hs (fun l i m e => by have := hsl l i m e; omega)
  rw [l_g0] at B
  have E := e_g0.trans e_g1
  refine callA_of (num_c g1 _ 2 bs false B (by omega) hl) ?_
  rintro r h1 ⟨rfl, B1, U1⟩
  replace bb := U1.at0 bb (by omega)
  replace E := U1.ext0 E (by omega)
  have k1 := takeD_len bs false 2
  generalize takeD bs false 2 = t1 at B1 k1 ⊢
  simp only [bb.eq, lay_nil, lay_1, lay_w, Option.map_some, go_sem, Hold.p, HoldK.k, HoldL.K, HoldL.body, Nat.reduceBEq, Nat.reduceAdd, List.getElem?_cons_zero, List.getElem?_cons_succ, Option.bind_some, List.map_cons, List.map_nil, Nat.zero_add, if_true, List.getD_cons_zero, List.getD_cons_succ, List.contains_cons, List.contains_nil, Nat.reduceBEq, Bool.or_true, Bool.true_or, Bool.or_false, Bool.false_or, Bool.not_true, Bool.not_false, true_and, and_true, rowA_whole, push_n, set_n, push_obj, set_obj, set_push, set_push_ne, set_set, Nat.add_assoc, Nat.left_eq_add, Nat.add_eq_left, Nat.add_left_cancel_iff, Nat.reduceEqDiff, stO_1s, stO_ws, boxA_s, one_bool, one_int, one_str, one_ptr, one_nilptr, one_slice, one_eslice, one_nilslice, one_func, one_iface, one_niliface, List.all_cons, List.all_nil, List.length_cons, List.length_nil, Nat.reduceLT, Nat.reduceEqDiff, Nat.reduceLeDiff, Bool.and_true, Nat.one_ne_zero, Nat.succ_ne_zero, reduceIte, if_false, List.getElem?_cons_zero, List.set_cons_zero, List.set_cons_succ]
  generalize hq_g2 : IH.push h1 (IObj.rows [[IV.int .i64 (numB t1.1), IV.str []]] 29 2 false) = g2
  have e_g2 : Ext h1 g2 := by rw [← hq_g2]; exact (Ext.refl _).push _
  have l_g2 : g2.n = h1.n + 1 := by rw [← hq_g2]; rfl
  have bq : At g2 h1.n (IObj.rows [[IV.int .i64 (numB t1.1), IV.str []]] 29 2 false) := by rw [← hq_g2]; exact At.new _ _
  clear hq_g2
  have bb := bb.ext e_g2
  have B1 := B1.ext e_g2
  have E := E.ext e_g2
  generalize hp2 : h1.n = p2 at bq l_g2
  have u1 := U1.le
  refine callA_of (num_c g2 _ 1 _ _ B1 (by omega) (by omega)) ?_
  rintro r h2 ⟨rfl, B2, U2⟩
  replace bb := U2.at0 bb (by omega)
  replace bq := U2.at0 bq (by omega)
  replace E := U2.ext0 E (by omega)
  have k2 := takeD_len t1.2.1 t1.2.2 1
  generalize takeD t1.2.1 t1.2.2 1 = t2 at B2 k2 ⊢
  have u2 := U2.le
  simp only [bb.eq, bq.eq, go_sem, Hold.p, HoldK.k, HoldL.K, HoldL.body, Nat.reduceBEq, Nat.reduceAdd, List.getElem?_cons_zero, List.getElem?_cons_succ, Option.bind_some, List.map_cons, List.map_nil, Nat.zero_add, if_true, List.getD_cons_zero, List.getD_cons_succ, List.contains_cons, List.contains_nil, Nat.reduceBEq, Bool.or_true, Bool.true_or, Bool.or_false, Bool.false_or, Bool.not_true, Bool.not_false, true_and, and_true, rowA_whole, push_n, set_n, push_obj, set_obj, set_push, set_push_ne, set_set, Nat.add_assoc, Nat.left_eq_add, Nat.add_eq_left, Nat.add_left_cancel_iff, Nat.reduceEqDiff, stO_1s, stO_ws, boxA_s, one_bool, one_int, one_str, one_ptr, one_nilptr, one_slice, one_eslice, one_nilslice, one_func, one_iface, one_niliface, List.all_cons, List.all_nil, List.length_cons, List.length_nil, Nat.reduceLT, Nat.reduceEqDiff, Nat.reduceLeDiff, Bool.and_true, Nat.one_ne_zero, Nat.succ_ne_zero, reduceIte, if_false, List.getElem?_cons_zero, List.set_cons_zero, List.set_cons_succ]
  refine callA_of (num_c h2 _ 1 _ _ B2 (by omega) (by omega)) ?_
  rintro r h3 ⟨rfl, B3, U3⟩
  replace bb := U3.at0 bb (by omega)
  replace bq := U3.at0 bq (by omega)
  replace E := U3.ext0 E (by omega)
  have k3 := takeD_len t2.2.1 t2.2.2 1
  have k3' := takeD_len1 t2.2.1 t2.2.2 (n := 1) (by omega)
  generalize takeD t2.2.1 t2.2.2 1 = t3 at B3 k3 k3' ⊢
  have u3 := U3.le
  obtain ⟨q1, q2⟩ := numB_one_le k3'
  rw [q2]
  generalize (numB t3.1).toNat = n3 at q1
  clear q2
  rw [Int.toNat_natCast]
  simp only [bb.eq, bq.eq, go_sem, Hold.p, HoldK.k, HoldL.K, HoldL.body, Nat.reduceBEq, Nat.reduceAdd, List.getElem?_cons_zero, List.getElem?_cons_succ, Option.bind_some, List.map_cons, List.map_nil, Nat.zero_add, if_true, List.getD_cons_zero, List.getD_cons_succ, List.contains_cons, List.contains_nil, Nat.reduceBEq, Bool.or_true, Bool.true_or, Bool.or_false, Bool.false_or, Bool.not_true, Bool.not_false, true_and, and_true, rowA_whole, push_n, set_n, push_obj, set_obj, set_push, set_push_ne, set_set, Nat.add_assoc, Nat.left_eq_add, Nat.add_eq_left, Nat.add_left_cancel_iff, Nat.reduceEqDiff, stO_1s, stO_ws, boxA_s, one_bool, one_int, one_str, one_ptr, one_nilptr, one_slice, one_eslice, one_nilslice, one_func, one_iface, one_niliface, List.all_cons, List.all_nil, List.length_cons, List.length_nil, Nat.reduceLT, Nat.reduceEqDiff, Nat.reduceLeDiff, Bool.and_true, Nat.one_ne_zero, Nat.succ_ne_zero, reduceIte, if_false, List.getElem?_cons_zero, List.set_cons_zero, List.set_cons_succ]
  refine callA_of (take_c h3 _ n3 _ _ B3 q1 (by omega)) ?_
  rintro r h4 ⟨hs4, B4, U4⟩
  replace bb := U4.at0 bb (by omega)
  replace bq := U4.at0 bq (by omega)
  replace E := U4.ext0 E (by omega)
  have k4 := takeD_len t3.2.1 t3.2.2 n3
  have k4' := takeD_le t3.2.1 t3.2.2 n3
  generalize takeD t3.2.1 t3.2.2 n3 = t4 at B4 hs4 k4 k4' ⊢
  have u4 := U4.le
  have hb2 := hs4.b2s
  simp only [bb.eq, bq.eq, hb2, go_sem, Hold.p, HoldK.k, HoldL.K, HoldL.body, Nat.reduceBEq, Nat.reduceAdd, List.getElem?_cons_zero, List.getElem?_cons_succ, Option.bind_some, List.map_cons, List.map_nil, Nat.zero_add, if_true, List.getD_cons_zero, List.getD_cons_succ, List.contains_cons, List.contains_nil, Nat.reduceBEq, Bool.or_true, Bool.true_or, Bool.or_false, Bool.false_or, Bool.not_true, Bool.not_false, true_and, and_true, rowA_whole, push_n, set_n, push_obj, set_obj, set_push, set_push_ne, set_set, Nat.add_assoc, Nat.left_eq_add, Nat.add_eq_left, Nat.add_left_cancel_iff, Nat.reduceEqDiff, stO_1s, stO_ws, boxA_s, one_bool, one_int, one_str, one_ptr, one_nilptr, one_slice, one_eslice, one_nilslice, one_func, one_iface, one_niliface, List.all_cons, List.all_nil, List.length_cons, List.length_nil, Nat.reduceLT, Nat.reduceEqDiff, Nat.reduceLeDiff, Bool.and_true, Nat.one_ne_zero, Nat.succ_ne_zero, reduceIte, if_false, List.getElem?_cons_zero, List.set_cons_zero, List.set_cons_succ]
  have B5 := B4.other (q := p2) (o := IObj.rows [[IV.int .i64 (numB t1.1), IV.str t4.1]] 29 2 false) (by omega) bq.eq (by decide)
  generalize hq_g5 : IH.set h4 (p2) (IObj.rows [[IV.int .i64 (numB t1.1), IV.str t4.1]] 29 2 false) = g5
  have l_g5 : g5.n = h4.n := by rw [← hq_g5]; rfl
  have bq : At g5 (p2) (IObj.rows [[IV.int .i64 (numB t1.1), IV.str t4.1]] 29 2 false) := by rw [← hq_g5]; exact bq.here
  have bb := bb.set (p := p2) (o' := IObj.rows [[IV.int .i64 (numB t1.1), IV.str t4.1]] 29 2 false) (by omega)
  rw [hq_g5] at bb
  have E := E.set (p2) (by omega) (IObj.rows [[IV.int .i64 (numB t1.1), IV.str t4.1]] 29 2 false)
  rw [hq_g5] at E
  rw [hq_g5] at B5
  clear hq_g5
  refine callA_of (code_c g5 _ t4.2.1 t4.2.2 (numB t2.1) 0 t4.1 ?_ (by omega) (by omega)) ?_
  · exact B5
  rintro r h6 ⟨rfl, E6⟩
  have bb := bb.ext E6
  have bq := bq.ext E6
  have E := E.ext E6
  have le_E6 := E6.le
  have hcd : (if t4.2.2 = true then 2 else if 0 < t4.2.1.length then 5 else if numB t2.1 ≠ 0 then 9 else if okName t4.1 = true then 0 else 6) = codeQ (numB t1.1, numB t2.1, t4.1, t4.2.1, t4.2.2) 0 := rfl
  rw [hcd]
  generalize codeQ (numB t1.1, numB t2.1, t4.1, t4.2.1, t4.2.2) 0 = cd
  by_cases c0 : cd = 0
  · have d0 : decide (cd = 0) = true := decide_eq_true c0
    rw [if_pos c0]
    simp only [bb.eq, bq.eq, d0, lay_nil, lay_1, lay_w, Option.map_some, go_sem, Hold.p, HoldK.k, HoldL.K, HoldL.body, Nat.reduceBEq, Nat.reduceAdd, List.getElem?_cons_zero, List.getElem?_cons_succ, Option.bind_some, List.map_cons, List.map_nil, Nat.zero_add, if_true, List.getD_cons_zero, List.getD_cons_succ, List.contains_cons, List.contains_nil, Nat.reduceBEq, Bool.or_true, Bool.true_or, Bool.or_false, Bool.false_or, Bool.not_true, Bool.not_false, true_and, and_true, rowA_whole, push_n, set_n, push_obj, set_obj, set_push, set_push_ne, set_set, Nat.add_assoc, Nat.left_eq_add, Nat.add_eq_left, Nat.add_left_cancel_iff, Nat.reduceEqDiff, stO_1s, stO_ws, boxA_s, one_bool, one_int, one_str, one_ptr, one_nilptr, one_slice, one_eslice, one_nilslice, one_func, one_iface, one_niliface, List.all_cons, List.all_nil, List.length_cons, List.length_nil, Nat.reduceLT, Nat.reduceEqDiff, Nat.reduceLeDiff, Bool.and_true, Nat.one_ne_zero, Nat.succ_ne_zero, reduceIte, if_false, List.getElem?_cons_zero, List.set_cons_zero, List.set_cons_succ]
    exact ⟨rfl, E.set _ (Nat.le_refl _) _⟩
  · have d0 : decide (cd = 0) = false := decide_eq_false c0
    rw [if_neg c0]
    simp only [bb.eq, bq.eq, d0, lay_nil, lay_1, lay_w, Option.map_some, go_sem, Hold.p, HoldK.k, HoldL.K, HoldL.body, Nat.reduceBEq, Nat.reduceAdd, List.getElem?_cons_zero, List.getElem?_cons_succ, Option.bind_some, List.map_cons, List.map_nil, Nat.zero_add, if_true, List.getD_cons_zero, List.getD_cons_succ, List.contains_cons, List.contains_nil, Nat.reduceBEq, Bool.or_true, Bool.true_or, Bool.or_false, Bool.false_or, Bool.not_true, Bool.not_false, true_and, and_true, rowA_whole, push_n, set_n, push_obj, set_obj, set_push, set_push_ne, set_set, Nat.add_assoc, Nat.left_eq_add, Nat.add_eq_left, Nat.add_left_cancel_iff, Nat.reduceEqDiff, stO_1s, stO_ws, boxA_s, one_bool, one_int, one_str, one_ptr, one_nilptr, one_slice, one_eslice, one_nilslice, one_func, one_iface, one_niliface, List.all_cons, List.all_nil, List.length_cons, List.length_nil, Nat.reduceLT, Nat.reduceEqDiff, Nat.reduceLeDiff, Bool.and_true, Nat.one_ne_zero, Nat.succ_ne_zero, reduceIte, if_false, List.getElem?_cons_zero, List.set_cons_zero, List.set_cons_succ]
    exact ⟨rfl, E.set _ (Nat.le_refl _) _⟩
end Go.Proofs.YtcmcfmgabafljaaDoor

namespace Go.Proofs.YtcmcfmgabafljaaDoor
open Go Go.IW

set_option maxRecDepth 20000 in
theorem eqNameQuery_c (h : IH) (id : Int) (s : List UInt8) : ICalls Tryd.prog 24 [.agg [.int .i64 id, .str s], .agg [.int .i64 id, .str s]] h fun r h' => r = .bool true ∧ Ext h h' := by
  refine icalls (.of ok24) (Nat.le_of_ble_eq_true rfl) ?_
  unfold c24
  simp only [go_sem, Hold.p, HoldK.k, HoldL.K, HoldL.body, Nat.reduceBEq, Nat.reduceAdd, List.getElem?_cons_zero, List.getElem?_cons_succ, Option.bind_some, List.map_cons, List.map_nil, Nat.zero_add, if_true, List.getD_cons_zero, List.getD_cons_succ, List.contains_cons, List.contains_nil, Nat.reduceBEq, Bool.or_true, Bool.true_or, Bool.or_false, Bool.false_or, Bool.not_true, Bool.not_false, true_and, and_true, rowA_whole, push_n, set_n, push_obj, set_obj, set_push, set_push_ne, set_set, Nat.add_assoc, Nat.left_eq_add, Nat.add_eq_left, Nat.add_left_cancel_iff, Nat.reduceEqDiff, stO_1s, stO_ws, boxA_s, one_bool, one_int, one_str, one_ptr, one_nilptr, one_slice, one_eslice, one_nilslice, one_func, one_iface, one_niliface, List.all_cons, List.all_nil, List.length_cons, List.length_nil, Nat.reduceLT, Nat.reduceEqDiff, Nat.reduceLeDiff, Bool.and_true, Nat.one_ne_zero, Nat.succ_ne_zero, reduceIte, if_false, List.getElem?_cons_zero, List.set_cons_zero, List.set_cons_succ]
  generalize hq_g0 : IH.push h (IObj.rows [[IV.int .i64 id, IV.str s]] 29 2 false) = g0
  have e_g0 : Ext h g0 := by rw [← hq_g0]; exact (Ext.refl _).push _
  have l_g0 : g0.n = h.n + 1 := by rw [← hq_g0]; rfl
  have bb : At g0 h.n (IObj.rows [[IV.int .i64 id, IV.str s]] 29 2 false) := by rw [← hq_g0]; exact At.new _ _
  clear hq_g0
  generalize hq_g1 : IH.push g0 (IObj.rows [[IV.int .i64 id, IV.str s]] 29 2 false) = g1
  have e_g1 : Ext g0 g1 := by rw [← hq_g1]; exact (Ext.refl _).push _
  have l_g1 : g1.n = g0.n + 1 := by rw [← hq_g1]; rfl
  have bc : At g1 g0.n (IObj.rows [[IV.int .i64 id, IV.str s]] 29 2 false) := by rw [← hq_g1]; exact At.new _ _
  clear hq_g1
  have bb := bb.ext e_g1
  have E := e_g0.trans e_g1
  rw [l_g0] at bc
  simp only [bb.eq, bc.eq, decide_true, l_g0, go_sem, Hold.p, HoldK.k, HoldL.K, HoldL.body, Nat.reduceBEq, Nat.reduceAdd, List.getElem?_cons_zero, List.getElem?_cons_succ, Option.bind_some, List.map_cons, List.map_nil, Nat.zero_add, if_true, List.getD_cons_zero, List.getD_cons_succ, List.contains_cons, List.contains_nil, Nat.reduceBEq, Bool.or_true, Bool.true_or, Bool.or_false, Bool.false_or, Bool.not_true, Bool.not_false, true_and, and_true, rowA_whole, push_n, set_n, push_obj, set_obj, set_push, set_push_ne, set_set, Nat.add_assoc, Nat.left_eq_add, Nat.add_eq_left, Nat.add_left_cancel_iff, Nat.reduceEqDiff, stO_1s, stO_ws, boxA_s, one_bool, one_int, one_str, one_ptr, one_nilptr, one_slice, one_eslice, one_nilslice, one_func, one_iface, one_niliface, List.all_cons, List.all_nil, List.length_cons, List.length_nil, Nat.reduceLT, Nat.reduceEqDiff, Nat.reduceLeDiff, Bool.and_true, Nat.one_ne_zero, Nat.succ_ne_zero, reduceIte, if_false, List.getElem?_cons_zero, List.set_cons_zero, List.set_cons_succ]
  exact E

/-- Rows of bytes are a text's. -/
theorem fits_bytes {h : IH} : ∀ {rs : List (List IV)}, (∀ r ∈ rs, Fits h (.int .u8) r) → ∃ bs : List UInt8, rs = strRows bs
  | [], _ => ⟨[], rfl⟩
  | r :: rs, hf => by
    obtain ⟨bs, e⟩ := fits_bytes fun x hx => hf x (List.mem_cons_of_mem _ hx)
    obtain ⟨a, ha, hb⟩ := hf r List.mem_cons_self
    refine ⟨UInt8.ofNat a.toNat :: bs, ?_⟩
    have m1 : IntKind.u8.min = 0 := rfl
    have m2 : IntKind.u8.max = 255 := rfl
    have h2 : 0 ≤ a ∧ a < 256 := by simp [Lit.wf, m1, m2] at hb; omega
    subst ha
    rw [e]
    have h3 : ((UInt8.ofNat a.toNat).toNat : Int) = a := by
      have : (UInt8.ofNat a.toNat).toNat = a.toNat % 256 := UInt8.toNat_ofNat'
      omega
    show [IV.int .u8 a] :: strRows bs = [IV.int .u8 ((UInt8.ofNat a.toNat).toNat : Int)] :: strRows bs
    rw [h3]

set_option maxRecDepth 20000 in
theorem lawDecodeQuery : LawTrue Tryd.prog 5 [(.slice (.int .u8), false)] := by
  rintro h ivs ha ⟨iv, r, rfl, ⟨v, rs, hiv, hs, hm, hf⟩, rfl⟩
  obtain rfl := List.cons.inj hiv |>.1
  obtain ⟨bs, rfl⟩ := fits_bytes hf
  refine icalls (.of ok5) (Nat.le_of_ble_eq_true rfl) ?_
  unfold c5
  have hlen := hs.lenF
  rw [strRows_len] at hlen
  have hs : SlR h 1 iv (strRows bs) := hs
  by_cases hbig : (1048576 : Int) < bs.length
  · have hn : decide ((1048576 : Int) < (bs.length : Int)) = true := decide_eq_true hbig
    simp only [hlen, hn, go_sem, Hold.p, HoldK.k, HoldL.K, HoldL.body, Nat.reduceBEq, Nat.reduceAdd, List.getElem?_cons_zero, List.getElem?_cons_succ, Option.bind_some, List.map_cons, List.map_nil, Nat.zero_add, if_true, List.getD_cons_zero, List.getD_cons_succ, List.contains_cons, List.contains_nil, Nat.reduceBEq, Bool.or_true, Bool.true_or, Bool.or_false, Bool.false_or, Bool.not_true, Bool.not_false, true_and, and_true, rowA_whole, push_n, set_n, push_obj, set_obj, set_push, set_push_ne, set_set, Nat.add_assoc, Nat.left_eq_add, Nat.add_eq_left, Nat.add_left_cancel_iff, Nat.reduceEqDiff, stO_1s, stO_ws, boxA_s, one_bool, one_int, one_str, one_ptr, one_nilptr, one_slice, one_eslice, one_nilslice, one_func, one_iface, one_niliface, List.all_cons, List.all_nil, List.length_cons, List.length_nil, Nat.reduceLT, Nat.reduceEqDiff, Nat.reduceLeDiff, Bool.and_true, Nat.one_ne_zero, Nat.succ_ne_zero, reduceIte, if_false, List.getElem?_cons_zero, List.set_cons_zero, List.set_cons_succ]
  · have hn : decide ((1048576 : Int) < (bs.length : Int)) = false := decide_eq_false hbig
    have hl : bs.length ≤ 1048576 := by omega
    simp only [hlen, hn, go_sem, Hold.p, HoldK.k, HoldL.K, HoldL.body, Nat.reduceBEq, Nat.reduceAdd, List.getElem?_cons_zero, List.getElem?_cons_succ, Option.bind_some, List.map_cons, List.map_nil, Nat.zero_add, if_true, List.getD_cons_zero, List.getD_cons_succ, List.contains_cons, List.contains_nil, Nat.reduceBEq, Bool.or_true, Bool.true_or, Bool.or_false, Bool.false_or, Bool.not_true, Bool.not_false, true_and, and_true, rowA_whole, push_n, set_n, push_obj, set_obj, set_push, set_push_ne, set_set, Nat.add_assoc, Nat.left_eq_add, Nat.add_eq_left, Nat.add_left_cancel_iff, Nat.reduceEqDiff, stO_1s, stO_ws, boxA_s, one_bool, one_int, one_str, one_ptr, one_nilptr, one_slice, one_eslice, one_nilslice, one_func, one_iface, one_niliface, List.all_cons, List.all_nil, List.length_cons, List.length_nil, Nat.reduceLT, Nat.reduceEqDiff, Nat.reduceLeDiff, Bool.and_true, Nat.one_ne_zero, Nat.succ_ne_zero, reduceIte, if_false, List.getElem?_cons_zero, List.set_cons_zero, List.set_cons_succ]
    refine callA_of (toByteS_c _ iv bs hs hl) ?_
    rintro v1 h1 ⟨o1, hE1⟩
    have hs := hs.ext hE1
    have le_hE1 := hE1.le
    simp only [go_sem, Hold.p, HoldK.k, HoldL.K, HoldL.body, Nat.reduceBEq, Nat.reduceAdd, List.getElem?_cons_zero, List.getElem?_cons_succ, Option.bind_some, List.map_cons, List.map_nil, Nat.zero_add, if_true, List.getD_cons_zero, List.getD_cons_succ, List.contains_cons, List.contains_nil, Nat.reduceBEq, Bool.or_true, Bool.true_or, Bool.or_false, Bool.false_or, Bool.not_true, Bool.not_false, true_and, and_true, rowA_whole, push_n, set_n, push_obj, set_obj, set_push, set_push_ne, set_set, Nat.add_assoc, Nat.left_eq_add, Nat.add_eq_left, Nat.add_left_cancel_iff, Nat.reduceEqDiff, stO_1s, stO_ws, boxA_s, one_bool, one_int, one_str, one_ptr, one_nilptr, one_slice, one_eslice, one_nilslice, one_func, one_iface, one_niliface, List.all_cons, List.all_nil, List.length_cons, List.length_nil, Nat.reduceLT, Nat.reduceEqDiff, Nat.reduceLeDiff, Bool.and_true, Nat.one_ne_zero, Nat.succ_ne_zero, reduceIte, if_false, List.getElem?_cons_zero, List.set_cons_zero, List.set_cons_succ]
    refine callA_of (specDecodeQuery_c _ v1 bs o1.sl hl) ?_
    rintro r h2 ⟨rfl, hE2⟩
    have hs := hs.ext hE2
    have le_hE2 := hE2.le
    generalize hd : decQ bs = dq
    obtain ⟨qi, qn, qc⟩ := dq
    simp only [go_sem, Hold.p, HoldK.k, HoldL.K, HoldL.body, Nat.reduceBEq, Nat.reduceAdd, List.getElem?_cons_zero, List.getElem?_cons_succ, Option.bind_some, List.map_cons, List.map_nil, Nat.zero_add, if_true, List.getD_cons_zero, List.getD_cons_succ, List.contains_cons, List.contains_nil, Nat.reduceBEq, Bool.or_true, Bool.true_or, Bool.or_false, Bool.false_or, Bool.not_true, Bool.not_false, true_and, and_true, rowA_whole, push_n, set_n, push_obj, set_obj, set_push, set_push_ne, set_set, Nat.add_assoc, Nat.left_eq_add, Nat.add_eq_left, Nat.add_left_cancel_iff, Nat.reduceEqDiff, stO_1s, stO_ws, boxA_s, one_bool, one_int, one_str, one_ptr, one_nilptr, one_slice, one_eslice, one_nilslice, one_func, one_iface, one_niliface, List.all_cons, List.all_nil, List.length_cons, List.length_nil, Nat.reduceLT, Nat.reduceEqDiff, Nat.reduceLeDiff, Bool.and_true, Nat.one_ne_zero, Nat.succ_ne_zero, reduceIte, if_false, List.getElem?_cons_zero, List.set_cons_zero, List.set_cons_succ]
    generalize hq_g3 : IH.push h2 (IObj.rows [[IV.int .i64 qi, IV.str qn]] 29 2 false) = g3
    have e_g3 : Ext h2 g3 := by rw [← hq_g3]; exact (Ext.refl _).push _
    have l_g3 : g3.n = h2.n + 1 := by rw [← hq_g3]; rfl
    have bW : At g3 h2.n (IObj.rows [[IV.int .i64 qi, IV.str qn]] 29 2 false) := by rw [← hq_g3]; exact At.new _ _
    clear hq_g3
    have hs := hs.ext e_g3
    refine callA_of (toByteS_c _ iv bs hs hl) ?_
    rintro v4 h4 ⟨o4, hE4⟩
    have hs := hs.ext hE4
    have bW := bW.ext hE4
    have le_hE4 := hE4.le
    simp only [bW.eq, go_sem, Hold.p, HoldK.k, HoldL.K, HoldL.body, Nat.reduceBEq, Nat.reduceAdd, List.getElem?_cons_zero, List.getElem?_cons_succ, Option.bind_some, List.map_cons, List.map_nil, Nat.zero_add, if_true, List.getD_cons_zero, List.getD_cons_succ, List.contains_cons, List.contains_nil, Nat.reduceBEq, Bool.or_true, Bool.true_or, Bool.or_false, Bool.false_or, Bool.not_true, Bool.not_false, true_and, and_true, rowA_whole, push_n, set_n, push_obj, set_obj, set_push, set_push_ne, set_set, Nat.add_assoc, Nat.left_eq_add, Nat.add_eq_left, Nat.add_left_cancel_iff, Nat.reduceEqDiff, stO_1s, stO_ws, boxA_s, one_bool, one_int, one_str, one_ptr, one_nilptr, one_slice, one_eslice, one_nilslice, one_func, one_iface, one_niliface, List.all_cons, List.all_nil, List.length_cons, List.length_nil, Nat.reduceLT, Nat.reduceEqDiff, Nat.reduceLeDiff, Bool.and_true, Nat.one_ne_zero, Nat.succ_ne_zero, reduceIte, if_false, List.getElem?_cons_zero, List.set_cons_zero, List.set_cons_succ]
    refine callA_of (implDecodeQuery_c _ v4 bs o4.sl hl) ?_
    rintro r h5 ⟨rfl, hE5⟩
    have hs := hs.ext hE5
    have bW := bW.ext hE5
    have o4 := o4.ext hE5
    have le_hE5 := hE5.le
    rw [hd]
    have hne : (h2.n = h5.n) = False := by have := bW.lt; simp; omega
    simp only [bW.eq, hne, go_sem, Hold.p, HoldK.k, HoldL.K, HoldL.body, Nat.reduceBEq, Nat.reduceAdd, List.getElem?_cons_zero, List.getElem?_cons_succ, Option.bind_some, List.map_cons, List.map_nil, Nat.zero_add, if_true, List.getD_cons_zero, List.getD_cons_succ, List.contains_cons, List.contains_nil, Nat.reduceBEq, Bool.or_true, Bool.true_or, Bool.or_false, Bool.false_or, Bool.not_true, Bool.not_false, true_and, and_true, rowA_whole, push_n, set_n, push_obj, set_obj, set_push, set_push_ne, set_set, Nat.add_assoc, Nat.left_eq_add, Nat.add_eq_left, Nat.add_left_cancel_iff, Nat.reduceEqDiff, stO_1s, stO_ws, boxA_s, one_bool, one_int, one_str, one_ptr, one_nilptr, one_slice, one_eslice, one_nilslice, one_func, one_iface, one_niliface, List.all_cons, List.all_nil, List.length_cons, List.length_nil, Nat.reduceLT, Nat.reduceEqDiff, Nat.reduceLeDiff, Bool.and_true, Nat.one_ne_zero, Nat.succ_ne_zero, reduceIte, if_false, List.getElem?_cons_zero, List.set_cons_zero, List.set_cons_succ]
    generalize hq_g6 : IH.push h5 (IObj.rows [[IV.int .i64 qi, IV.str qn]] 29 2 false) = g6
    have e_g6 : Ext h5 g6 := by rw [← hq_g6]; exact (Ext.refl _).push _
    have l_g6 : g6.n = h5.n + 1 := by rw [← hq_g6]; rfl
    have bG : At g6 h5.n (IObj.rows [[IV.int .i64 qi, IV.str qn]] 29 2 false) := by rw [← hq_g6]; exact At.new _ _
    clear hq_g6
    have hs := hs.ext e_g6
    have bW := bW.ext e_g6
    have o4 := o4.ext e_g6
    refine callA_of (eqNameQuery_c _ qi qn) ?_
    rintro r h7 ⟨rfl, hE7⟩
    have hs := hs.ext hE7
    have bW := bW.ext hE7
    have bG := bG.ext hE7
    have o4 := o4.ext hE7
    have le_hE7 := hE7.le
    simp only [bW.eq, bG.eq, decide_true, go_sem, Hold.p, HoldK.k, HoldL.K, HoldL.body, Nat.reduceBEq, Nat.reduceAdd, List.getElem?_cons_zero, List.getElem?_cons_succ, Option.bind_some, List.map_cons, List.map_nil, Nat.zero_add, if_true, List.getD_cons_zero, List.getD_cons_succ, List.contains_cons, List.contains_nil, Nat.reduceBEq, Bool.or_true, Bool.true_or, Bool.or_false, Bool.false_or, Bool.not_true, Bool.not_false, true_and, and_true, rowA_whole, push_n, set_n, push_obj, set_obj, set_push, set_push_ne, set_set, Nat.add_assoc, Nat.left_eq_add, Nat.add_eq_left, Nat.add_left_cancel_iff, Nat.reduceEqDiff, stO_1s, stO_ws, boxA_s, one_bool, one_int, one_str, one_ptr, one_nilptr, one_slice, one_eslice, one_nilslice, one_func, one_iface, one_niliface, List.all_cons, List.all_nil, List.length_cons, List.length_nil, Nat.reduceLT, Nat.reduceEqDiff, Nat.reduceLeDiff, Bool.and_true, Nat.one_ne_zero, Nat.succ_ne_zero, reduceIte, if_false, List.getElem?_cons_zero, List.set_cons_zero, List.set_cons_succ]
    refine callA_of (toByteS_c _ iv bs hs hl) ?_
    rintro v8 h8 ⟨o8, hE8⟩
    have o4 := o4.ext hE8
    have le_hE8 := hE8.le
    simp only [go_sem, Hold.p, HoldK.k, HoldL.K, HoldL.body, Nat.reduceBEq, Nat.reduceAdd, List.getElem?_cons_zero, List.getElem?_cons_succ, Option.bind_some, List.map_cons, List.map_nil, Nat.zero_add, if_true, List.getD_cons_zero, List.getD_cons_succ, List.contains_cons, List.contains_nil, Nat.reduceBEq, Bool.or_true, Bool.true_or, Bool.or_false, Bool.false_or, Bool.not_true, Bool.not_false, true_and, and_true, rowA_whole, push_n, set_n, push_obj, set_obj, set_push, set_push_ne, set_set, Nat.add_assoc, Nat.left_eq_add, Nat.add_eq_left, Nat.add_left_cancel_iff, Nat.reduceEqDiff, stO_1s, stO_ws, boxA_s, one_bool, one_int, one_str, one_ptr, one_nilptr, one_slice, one_eslice, one_nilslice, one_func, one_iface, one_niliface, List.all_cons, List.all_nil, List.length_cons, List.length_nil, Nat.reduceLT, Nat.reduceEqDiff, Nat.reduceLeDiff, Bool.and_true, Nat.one_ne_zero, Nat.succ_ne_zero, reduceIte, if_false, List.getElem?_cons_zero, List.set_cons_zero, List.set_cons_succ]
    refine callA_of (eqByteS_c _ v4 v8 bs o4.sl o8.sl (by omega)) ?_
    rintro r h9 ⟨rfl, rfl⟩
    simp only [decide_true, go_sem, Hold.p, HoldK.k, HoldL.K, HoldL.body, Nat.reduceBEq, Nat.reduceAdd, List.getElem?_cons_zero, List.getElem?_cons_succ, Option.bind_some, List.map_cons, List.map_nil, Nat.zero_add, if_true, List.getD_cons_zero, List.getD_cons_succ, List.contains_cons, List.contains_nil, Nat.reduceBEq, Bool.or_true, Bool.true_or, Bool.or_false, Bool.false_or, Bool.not_true, Bool.not_false, true_and, and_true, rowA_whole, push_n, set_n, push_obj, set_obj, set_push, set_push_ne, set_set, Nat.add_assoc, Nat.left_eq_add, Nat.add_eq_left, Nat.add_left_cancel_iff, Nat.reduceEqDiff, stO_1s, stO_ws, boxA_s, one_bool, one_int, one_str, one_ptr, one_nilptr, one_slice, one_eslice, one_nilslice, one_func, one_iface, one_niliface, List.all_cons, List.all_nil, List.length_cons, List.length_nil, Nat.reduceLT, Nat.reduceEqDiff, Nat.reduceLeDiff, Bool.and_true, Nat.one_ne_zero, Nat.succ_ne_zero, reduceIte, if_false, List.getElem?_cons_zero, List.set_cons_zero, List.set_cons_succ]
end Go.Proofs.YtcmcfmgabafljaaDoor

namespace Go.Proofs.YtcmcfmgabafljaaDoor
open Go Go.IW

/-! Rows of numbers. -/
def intRows (zs : List Int) : List (List IV) := zs.map fun a => [.int .i64 a]
theorem intRows_len (a : List Int) : (intRows a).length = a.length := by simp [intRows]
theorem intRows_at {a : List Int} {k : Nat} {b : Int} (h : a[k]? = some b) : (intRows a)[k]? = some [.int .i64 b] := by simp [intRows, h]
theorem intRows_append (a b : List Int) : intRows (a ++ b) = intRows a ++ intRows b := by simp [intRows]
theorem intRows_take (a : List Int) (n : Nat) : (intRows a).take n = intRows (a.take n) := by simp [intRows, List.map_take]

set_option maxRecDepth 20000 in
theorem szInt64S_c (h : IH) (v : IV) (zs : List Int) (left : Int) (hs : SlR h 1 v (intRows zs)) (hl : 0 ≤ left ∧ left ≤ 1048576) (hm : zs.length ≤ maxLen) :
    ICalls Tryd.prog 69 [v, .int .i64 left] h fun r h' => r = .int .i64 (if left < zs.length then -1 else left - zs.length) ∧ h' = h := by
  refine icalls (.of ok69) (Nat.le_of_ble_eq_true rfl) ?_
  unfold c69
  have hlen := hs.lenF
  rw [intRows_len] at hlen
  have w0 : wr .i64 (left - (zs.length : Int)) = left - (zs.length : Int) := wr64 _ (by unfold maxLen at hm; omega)
  by_cases hb : left < (zs.length : Int)
  · have d0 : decide (left - (zs.length : Int) < 0) = true := decide_eq_true (by omega)
    simp only [hlen, w0, d0, go_sem, Hold.p, HoldK.k, HoldL.K, HoldL.body, Nat.reduceBEq, Nat.reduceAdd, List.getElem?_cons_zero, List.getElem?_cons_succ, Option.bind_some, List.map_cons, List.map_nil, Nat.zero_add, if_true, List.getD_cons_zero, List.getD_cons_succ, List.contains_cons, List.contains_nil, Nat.reduceBEq, Bool.or_true, Bool.true_or, Bool.or_false, Bool.false_or, Bool.not_true, Bool.not_false, true_and, and_true]
    rw [if_pos hb]
  · have d0 : decide (left - (zs.length : Int) < 0) = false := decide_eq_false (by omega)
    simp only [hlen, w0, d0, go_sem, Hold.p, HoldK.k, HoldL.K, HoldL.body, Nat.reduceBEq, Nat.reduceAdd, List.getElem?_cons_zero, List.getElem?_cons_succ, Option.bind_some, List.map_cons, List.map_nil, Nat.zero_add, if_true, List.getD_cons_zero, List.getD_cons_succ, List.contains_cons, List.contains_nil, Nat.reduceBEq, Bool.or_true, Bool.true_or, Bool.or_false, Bool.false_or, Bool.not_true, Bool.not_false, true_and, and_true]
    rw [if_neg hb]

set_option maxRecDepth 20000 in
theorem toInt64S_c (h : IH) (v : IV) (zs : List Int) (hs : SlR h 1 v (intRows zs)) (hm : zs.length ≤ 1048576) :
    ICalls Tryd.prog 71 [v] h fun r h' => Own h.n h'.n h' 2 1 r (intRows zs) ∧ Ext h h' := by
  refine icalls (.of ok71) (Nat.le_of_ble_eq_true rfl) ?_
  unfold c71
  have hv1 := hs.one
  have hlen := hs.lenF
  rw [intRows_len] at hlen
  simp only [hv1, hlen, go_sem, Hold.p, HoldK.k, HoldL.K, HoldL.body, Nat.reduceBEq, Nat.reduceAdd, List.getElem?_cons_zero, List.getElem?_cons_succ, Option.bind_some, List.map_cons, List.map_nil, Nat.zero_add, if_true, List.getD_cons_zero, List.getD_cons_succ, List.contains_cons, List.contains_nil, Nat.reduceBEq, Bool.or_true, Bool.true_or, Bool.or_false, Bool.false_or, Bool.not_true, Bool.not_false, true_and, and_true]
  by_cases h0 : zs.length = 0
  · have hps : zs = [] := List.length_eq_zero_iff.1 h0
    subst hps
    refine mksA_0 ?_
    simp only [hv1, hlen, go_sem, Hold.p, HoldK.k, HoldL.K, HoldL.body, Nat.reduceBEq, Nat.reduceAdd, List.getElem?_cons_zero, List.getElem?_cons_succ, Option.bind_some, List.map_cons, List.map_nil, Nat.zero_add, if_true, List.getD_cons_zero, List.getD_cons_succ, List.contains_cons, List.contains_nil, Nat.reduceBEq, Bool.or_true, Bool.true_or, Bool.or_false, Bool.false_or, Bool.not_true, Bool.not_false, true_and, and_true]
    refine loop_at (fun n e h' => n = 0 ∧ h' = h ∧ e 0 = v ∧ e 3 = .eslice true ∧ e 4 = .int .i64 0) 0 ?_ ?_
    · simp only [go_sem, Hold.p, HoldK.k, HoldL.K, HoldL.body, Nat.reduceBEq, Nat.reduceAdd, List.getElem?_cons_zero, List.getElem?_cons_succ, Option.bind_some, List.map_cons, List.map_nil, Nat.zero_add, if_true, List.getD_cons_zero, List.getD_cons_succ, List.contains_cons, List.contains_nil, Nat.reduceBEq, Bool.or_true, Bool.true_or, Bool.or_false, Bool.false_or, Bool.not_true, Bool.not_false, true_and, and_true]
    · rintro n e h' ⟨rfl, rfl, e0, e3, e4⟩
      simp only [e0, e3, e4, hlen, go_sem, Hold.p, HoldK.k, HoldL.K, HoldL.body, Nat.reduceBEq, Nat.reduceAdd, List.getElem?_cons_zero, List.getElem?_cons_succ, Option.bind_some, List.map_cons, List.map_nil, Nat.zero_add, if_true, List.getD_cons_zero, List.getD_cons_succ, List.contains_cons, List.contains_nil, Nat.reduceBEq, Bool.or_true, Bool.true_or, Bool.or_false, Bool.false_or, Bool.not_true, Bool.not_false, true_and, and_true]
      refine test_dec (fun hb => absurd hb (by simp)) (fun _ => ?_)
      simp only [e0, e3, e4, hlen, go_sem, Hold.p, HoldK.k, HoldL.K, HoldL.body, Nat.reduceBEq, Nat.reduceAdd, List.getElem?_cons_zero, List.getElem?_cons_succ, Option.bind_some, List.map_cons, List.map_nil, Nat.zero_add, if_true, List.getD_cons_zero, List.getD_cons_succ, List.contains_cons, List.contains_nil, Nat.reduceBEq, Bool.or_true, Bool.true_or, Bool.or_false, Bool.false_or, Bool.not_true, Bool.not_false, true_and, and_true]
      exact ⟨.empty, Ext.refl _⟩
  · refine mksA_of (by omega) (by omega) (by omega) ?_
    simp only [go_sem, Hold.p, HoldK.k, HoldL.K, HoldL.body, Nat.reduceBEq, Nat.reduceAdd, List.getElem?_cons_zero, List.getElem?_cons_succ, Option.bind_some, List.map_cons, List.map_nil, Nat.zero_add, if_true, List.getD_cons_zero, List.getD_cons_succ, List.contains_cons, List.contains_nil, Nat.reduceBEq, Bool.or_true, Bool.true_or, Bool.or_false, Bool.false_or, Bool.not_true, Bool.not_false, true_and, and_true]
    have hE0 : Ext h (h.push (IObj.rows (List.replicate zs.length [.int .i64 0]) 2 1 false)) := (Ext.refl _).push _
    refine loop_at (fun n e h' => ∃ k, n = zs.length - k ∧ k ≤ zs.length ∧ e 0 = v ∧ e 3 = .slice h.n 0 zs.length ∧ e 4 = .int .i64 k ∧ Ext h h' ∧ h.n < h'.n ∧
      h'.obj h.n = .rows ((intRows zs).take k ++ List.replicate (zs.length - k) [.int .i64 0]) 2 1 false) zs.length ?_ ?_
    · refine ⟨0, by omega, by omega, ?_⟩
      simp only [go_sem, Hold.p, HoldK.k, HoldL.K, HoldL.body, Nat.reduceBEq, Nat.reduceAdd, List.getElem?_cons_zero, List.getElem?_cons_succ, Option.bind_some, List.map_cons, List.map_nil, Nat.zero_add, if_true, List.getD_cons_zero, List.getD_cons_succ, List.contains_cons, List.contains_nil, Nat.reduceBEq, Bool.or_true, Bool.true_or, Bool.or_false, Bool.false_or, Bool.not_true, Bool.not_false, true_and, and_true, rowA_whole, push_n, set_n, push_obj, set_obj, set_push, set_push_ne, set_set, Nat.add_assoc, Nat.left_eq_add, Nat.add_eq_left, Nat.add_left_cancel_iff, Nat.reduceEqDiff, stO_1s, stO_ws, boxA_s, one_bool, one_int, one_str, one_ptr, one_nilptr, one_slice, one_eslice, one_nilslice, one_func, one_iface, one_niliface, List.all_cons, List.all_nil, List.length_cons, List.length_nil, Nat.reduceLT, Nat.reduceEqDiff, Nat.reduceLeDiff, Bool.and_true, Nat.one_ne_zero, Nat.succ_ne_zero, reduceIte, if_false, List.getElem?_cons_zero, List.set_cons_zero, List.set_cons_succ]
      exact ⟨rfl, hE0, by omega, by simp⟩
    · rintro n e h' ⟨k, rfl, hk, e0, e3, e4, hE, hlt, hobj⟩
      simp only [e0, e3, e4, hlen, go_sem, Hold.p, HoldK.k, HoldL.K, HoldL.body, Nat.reduceBEq, Nat.reduceAdd, List.getElem?_cons_zero, List.getElem?_cons_succ, Option.bind_some, List.map_cons, List.map_nil, Nat.zero_add, if_true, List.getD_cons_zero, List.getD_cons_succ, List.contains_cons, List.contains_nil, Nat.reduceBEq, Bool.or_true, Bool.true_or, Bool.or_false, Bool.false_or, Bool.not_true, Bool.not_false, true_and, and_true]
      refine test_dec (fun hb => ?_) (fun hb => ?_)
      · have hlt' : k < zs.length := by omega
        have hkp : zs[k]? = some zs[k] := List.getElem?_eq_getElem hlt'
        generalize zs[k] = p at hkp
        have hkr := intRows_at hkp
        obtain ⟨l, j, hia, hll, hrow⟩ := (hs.ext hE).at (m := k) hkr .i64
        have hc := cellO_row hrow
        have hsl : (intRows zs).length = zs.length := intRows_len zs
        have hia2 : iadrF h' 1 (.slice h.n 0 zs.length) (.int .i64 k) = some (.ptr h.n k 0) := by
          rw [iadrF_of _ (by omega) (by omega) (by rw [size_eq, hobj]; rfl)]; simp
        simp only [e0, e3, e4, hlen, hia, hc, hia2, hobj, go_sem, Hold.p, HoldK.k, HoldL.K, HoldL.body, Nat.reduceBEq, Nat.reduceAdd, List.getElem?_cons_zero, List.getElem?_cons_succ, Option.bind_some, List.map_cons, List.map_nil, Nat.zero_add, if_true, List.getD_cons_zero, List.getD_cons_succ, List.contains_cons, List.contains_nil, Nat.reduceBEq, Bool.or_true, Bool.true_or, Bool.or_false, Bool.false_or, Bool.not_true, Bool.not_false, true_and, and_true]
        refine stO_of (row := [.int .i64 0]) (fill_at _ _ hsl.symm hlt') rfl (by simp) (by simp [IV.one]) ?_
        have hw : wrt [IV.int .i64 0] 0 [IV.int .i64 p] = [IV.int .i64 p] := rfl
        rw [hw, fill_set _ _ _ hsl.symm hkr]
        simp only [e0, e3, e4, go_sem, Hold.p, HoldK.k, HoldL.K, HoldL.body, Nat.reduceBEq, Nat.reduceAdd, List.getElem?_cons_zero, List.getElem?_cons_succ, Option.bind_some, List.map_cons, List.map_nil, Nat.zero_add, if_true, List.getD_cons_zero, List.getD_cons_succ, List.contains_cons, List.contains_nil, Nat.reduceBEq, Bool.or_true, Bool.true_or, Bool.or_false, Bool.false_or, Bool.not_true, Bool.not_false, true_and, and_true]
        refine ⟨_, ?_, k + 1, rfl, by omega, wr64_succ k (by omega), hE.set _ (Nat.le_refl _) _, ?_, ?_⟩
        · omega
        · exact hlt
        · simp [IH.set]
      · simp only [e0, e3, e4, hlen, go_sem, Hold.p, HoldK.k, HoldL.K, HoldL.body, Nat.reduceBEq, Nat.reduceAdd, List.getElem?_cons_zero, List.getElem?_cons_succ, Option.bind_some, List.map_cons, List.map_nil, Nat.zero_add, if_true, List.getD_cons_zero, List.getD_cons_succ, List.contains_cons, List.contains_nil, Nat.reduceBEq, Bool.or_true, Bool.true_or, Bool.or_false, Bool.false_or, Bool.not_true, Bool.not_false, true_and, and_true]
        obtain rfl : k = zs.length := by omega
        have hsl : (intRows zs).length = zs.length := intRows_len zs
        refine ⟨.inr ⟨h.n, ?_, ?_, Nat.le_refl _, hlt, Nat.le_refl _, ?_⟩, hE⟩
        · intro hx; exact h0 (by rw [← hsl, hx]; rfl)
        · rw [hsl]
        · rw [hobj, List.take_of_length_le (by omega)]; simp

/-! When a reply is well. -/
def okAddr (a : Int) : Bool := decide (0 ≤ a) && decide (a ≤ 4294967295)
def okRep (id code ttl : Int) (nm : List UInt8) (zs : List Int) : Bool :=
  (decide (0 ≤ id) && decide (id ≤ 65535)) && okName nm && (decide (0 ≤ code) && decide (code ≤ 255)) && (decide (0 ≤ ttl) && decide (ttl ≤ 86400)) && decide (zs.length ≤ 8) && zs.all okAddr

set_option maxRecDepth 20000 in
theorem l02AddrOK_c (h : IH) (n : Int) : ICalls Tryd.prog 77 [.int .i64 n] h fun r h' => r = .bool (okAddr n) ∧ h' = h := by
  refine icalls (.of ok77) (Nat.le_of_ble_eq_true rfl) ?_
  unfold c77
  simp only [go_sem, Hold.p, HoldK.k, HoldL.K, HoldL.body, Nat.reduceBEq, Nat.reduceAdd, List.getElem?_cons_zero, List.getElem?_cons_succ, Option.bind_some, List.map_cons, List.map_nil, Nat.zero_add, if_true, List.getD_cons_zero, List.getD_cons_succ, List.contains_cons, List.contains_nil, Nat.reduceBEq, Bool.or_true, Bool.true_or, Bool.or_false, Bool.false_or, Bool.not_true, Bool.not_false, true_and, and_true]
  refine callA_of (l01In_c h n 0 4294967295) ?_
  rintro r h' ⟨rfl, rfl⟩
  simp only [okAddr, go_sem, Hold.p, HoldK.k, HoldL.K, HoldL.body, Nat.reduceBEq, Nat.reduceAdd, List.getElem?_cons_zero, List.getElem?_cons_succ, Option.bind_some, List.map_cons, List.map_nil, Nat.zero_add, if_true, List.getD_cons_zero, List.getD_cons_succ, List.contains_cons, List.contains_nil, Nat.reduceBEq, Bool.or_true, Bool.true_or, Bool.or_false, Bool.false_or, Bool.not_true, Bool.not_false, true_and, and_true]

set_option maxRecDepth 20000 in
theorem isAddr_c (h : IH) (n : Int) : ICalls Tryd.prog 80 [.int .i64 n] h fun r h' => r = .bool (okAddr n) ∧ h' = h := by
  refine icalls (.of ok80) (Nat.le_of_ble_eq_true rfl) ?_
  unfold c80
  by_cases c1 : 0 ≤ n
  · have d1 : decide (0 ≤ n) = true := decide_eq_true c1
    simp only [d1, okAddr, Bool.true_and, Bool.false_and, go_sem, Hold.p, HoldK.k, HoldL.K, HoldL.body, Nat.reduceBEq, Nat.reduceAdd, List.getElem?_cons_zero, List.getElem?_cons_succ, Option.bind_some, List.map_cons, List.map_nil, Nat.zero_add, if_true, List.getD_cons_zero, List.getD_cons_succ, List.contains_cons, List.contains_nil, Nat.reduceBEq, Bool.or_true, Bool.true_or, Bool.or_false, Bool.false_or, Bool.not_true, Bool.not_false, true_and, and_true]
  · have d1 : decide (0 ≤ n) = false := decide_eq_false c1
    simp only [d1, okAddr, Bool.true_and, Bool.false_and, go_sem, Hold.p, HoldK.k, HoldL.K, HoldL.body, Nat.reduceBEq, Nat.reduceAdd, List.getElem?_cons_zero, List.getElem?_cons_succ, Option.bind_some, List.map_cons, List.map_nil, Nat.zero_add, if_true, List.getD_cons_zero, List.getD_cons_succ, List.contains_cons, List.contains_nil, Nat.reduceBEq, Bool.or_true, Bool.true_or, Bool.or_false, Bool.false_or, Bool.not_true, Bool.not_false, true_and, and_true]

set_option maxRecDepth 20000 in
theorem notAddr_c (h : IH) (n : Int) : ICalls Tryd.prog 110 [.int .i64 n] h fun r h' => r = .bool (!okAddr n) ∧ h' = h := by
  refine icalls (.of ok110) (Nat.le_of_ble_eq_true rfl) ?_
  unfold c110
  simp only [go_sem, Hold.p, HoldK.k, HoldL.K, HoldL.body, Nat.reduceBEq, Nat.reduceAdd, List.getElem?_cons_zero, List.getElem?_cons_succ, Option.bind_some, List.map_cons, List.map_nil, Nat.zero_add, if_true, List.getD_cons_zero, List.getD_cons_succ, List.contains_cons, List.contains_nil, Nat.reduceBEq, Bool.or_true, Bool.true_or, Bool.or_false, Bool.false_or, Bool.not_true, Bool.not_false, true_and, and_true]
  refine callA_of (isAddr_c h n) ?_
  rintro r h' ⟨rfl, rfl⟩
  simp only [go_sem, Hold.p, HoldK.k, HoldL.K, HoldL.body, Nat.reduceBEq, Nat.reduceAdd, List.getElem?_cons_zero, List.getElem?_cons_succ, Option.bind_some, List.map_cons, List.map_nil, Nat.zero_add, if_true, List.getD_cons_zero, List.getD_cons_succ, List.contains_cons, List.contains_nil, Nat.reduceBEq, Bool.or_true, Bool.true_or, Bool.or_false, Bool.false_or, Bool.not_true, Bool.not_false, true_and, and_true]

set_option maxRecDepth 20000 in
theorem indexBad_c (h : IH) (v : IV) (zs : List Int) (hs : SlR h 1 v (intRows zs)) (hm : zs.length ≤ 1048576) :
    ICalls Tryd.prog 133 [v, .func 110 [] []] h fun r h' => (∃ n : Int, r = .int .i64 n ∧ decide (0 ≤ n) = !zs.all okAddr) ∧ h' = h := by
  refine icalls (.of ok133) (Nat.le_of_ble_eq_true rfl) ?_
  unfold c133
  have hlen := hs.lenF
  rw [intRows_len] at hlen
  simp only [hlen, go_sem, Hold.p, HoldK.k, HoldL.K, HoldL.body, Nat.reduceBEq, Nat.reduceAdd, List.getElem?_cons_zero, List.getElem?_cons_succ, Option.bind_some, List.map_cons, List.map_nil, Nat.zero_add, if_true, List.getD_cons_zero, List.getD_cons_succ, List.contains_cons, List.contains_nil, Nat.reduceBEq, Bool.or_true, Bool.true_or, Bool.or_false, Bool.false_or, Bool.not_true, Bool.not_false, true_and, and_true]
  refine loop_at (fun n e h' => ∃ k, n = zs.length - k ∧ k ≤ zs.length ∧ e 0 = v ∧ e 1 = .func 110 [] [] ∧ e 7 = .int .i64 (zs.length : Nat) ∧ e 8 = .int .i64 (k : Nat) ∧ (zs.take k).all okAddr = true ∧ h' = h) zs.length ?_ ?_
  · refine ⟨0, by omega, by omega, ?_⟩
    simp only [go_sem, Hold.p, HoldK.k, HoldL.K, HoldL.body, Nat.reduceBEq, Nat.reduceAdd, List.getElem?_cons_zero, List.getElem?_cons_succ, Option.bind_some, List.map_cons, List.map_nil, Nat.zero_add, if_true, List.getD_cons_zero, List.getD_cons_succ, List.contains_cons, List.contains_nil, Nat.reduceBEq, Bool.or_true, Bool.true_or, Bool.or_false, Bool.false_or, Bool.not_true, Bool.not_false, true_and, and_true]
    exact ⟨rfl, rfl⟩
  · rintro n e h' ⟨k, rfl, hk, e0, e1, e7, e8, hok, rfl⟩
    simp only [e0, e1, e7, e8, go_sem, Hold.p, HoldK.k, HoldL.K, HoldL.body, Nat.reduceBEq, Nat.reduceAdd, List.getElem?_cons_zero, List.getElem?_cons_succ, Option.bind_some, List.map_cons, List.map_nil, Nat.zero_add, if_true, List.getD_cons_zero, List.getD_cons_succ, List.contains_cons, List.contains_nil, Nat.reduceBEq, Bool.or_true, Bool.true_or, Bool.or_false, Bool.false_or, Bool.not_true, Bool.not_false, true_and, and_true]
    refine test_dec (fun hb => ?_) (fun hb => ?_)
    · have hlt' : k < zs.length := by omega
      have hkp : zs[k]? = some zs[k] := List.getElem?_eq_getElem hlt'
      generalize zs[k] = p at hkp
      obtain ⟨l, j, hia, hll, hrow⟩ := hs.at (m := k) (intRows_at hkp) .i64
      have hc := cellO_row hrow
      simp only [e0, e1, e7, e8, hia, hc, List.nil_append, List.append_nil, go_sem, Hold.p, HoldK.k, HoldL.K, HoldL.body, Nat.reduceBEq, Nat.reduceAdd, List.getElem?_cons_zero, List.getElem?_cons_succ, Option.bind_some, List.map_cons, List.map_nil, Nat.zero_add, if_true, List.getD_cons_zero, List.getD_cons_succ, List.contains_cons, List.contains_nil, Nat.reduceBEq, Bool.or_true, Bool.true_or, Bool.or_false, Bool.false_or, Bool.not_true, Bool.not_false, true_and, and_true]
      refine callA_of (notAddr_c _ p) ?_
      rintro r h2 ⟨rfl, rfl⟩
      cases hp : okAddr p
      · simp only [hp, go_sem, Hold.p, HoldK.k, HoldL.K, HoldL.body, Nat.reduceBEq, Nat.reduceAdd, List.getElem?_cons_zero, List.getElem?_cons_succ, Option.bind_some, List.map_cons, List.map_nil, Nat.zero_add, if_true, List.getD_cons_zero, List.getD_cons_succ, List.contains_cons, List.contains_nil, Nat.reduceBEq, Bool.or_true, Bool.true_or, Bool.or_false, Bool.false_or, Bool.not_true, Bool.not_false, true_and, and_true]
        refine ⟨_, rfl, ?_⟩
        rw [not_all hkp hp]
        exact decide_eq_true (by omega)
      · simp only [e0, e1, e7, e8, hp, go_sem, Hold.p, HoldK.k, HoldL.K, HoldL.body, Nat.reduceBEq, Nat.reduceAdd, List.getElem?_cons_zero, List.getElem?_cons_succ, Option.bind_some, List.map_cons, List.map_nil, Nat.zero_add, if_true, List.getD_cons_zero, List.getD_cons_succ, List.contains_cons, List.contains_nil, Nat.reduceBEq, Bool.or_true, Bool.true_or, Bool.or_false, Bool.false_or, Bool.not_true, Bool.not_false, true_and, and_true]
        refine ⟨_, ?_, k + 1, rfl, by omega, wr64_succ k (by omega), ?_⟩
        · omega
        · rw [take_all hkp hok]; exact hp
    · obtain rfl : k = zs.length := by omega
      rw [List.take_length] at hok
      simp only [go_sem, Hold.p, HoldK.k, HoldL.K, HoldL.body, Nat.reduceBEq, Nat.reduceAdd, List.getElem?_cons_zero, List.getElem?_cons_succ, Option.bind_some, List.map_cons, List.map_nil, Nat.zero_add, if_true, List.getD_cons_zero, List.getD_cons_succ, List.contains_cons, List.contains_nil, Nat.reduceBEq, Bool.or_true, Bool.true_or, Bool.or_false, Bool.false_or, Bool.not_true, Bool.not_false, true_and, and_true]
      exact ⟨-1, rfl, by rw [hok]; rfl⟩

set_option maxRecDepth 20000 in
theorem containsBad_c (h : IH) (v : IV) (zs : List Int) (hs : SlR h 1 v (intRows zs)) (hm : zs.length ≤ 1048576) :
    ICalls Tryd.prog 109 [v, .func 110 [] []] h fun r h' => r = .bool (!zs.all okAddr) ∧ h' = h := by
  refine icalls (.of ok109) (Nat.le_of_ble_eq_true rfl) ?_
  unfold c109
  simp only [go_sem, Hold.p, HoldK.k, HoldL.K, HoldL.body, Nat.reduceBEq, Nat.reduceAdd, List.getElem?_cons_zero, List.getElem?_cons_succ, Option.bind_some, List.map_cons, List.map_nil, Nat.zero_add, if_true, List.getD_cons_zero, List.getD_cons_succ, List.contains_cons, List.contains_nil, Nat.reduceBEq, Bool.or_true, Bool.true_or, Bool.or_false, Bool.false_or, Bool.not_true, Bool.not_false, true_and, and_true]
  refine callA_of (indexBad_c h v zs hs hm) ?_
  rintro r h' ⟨⟨n, rfl, hn⟩, rfl⟩
  simp only [hn, go_sem, Hold.p, HoldK.k, HoldL.K, HoldL.body, Nat.reduceBEq, Nat.reduceAdd, List.getElem?_cons_zero, List.getElem?_cons_succ, Option.bind_some, List.map_cons, List.map_nil, Nat.zero_add, if_true, List.getD_cons_zero, List.getD_cons_succ, List.contains_cons, List.contains_nil, Nat.reduceBEq, Bool.or_true, Bool.true_or, Bool.or_false, Bool.false_or, Bool.not_true, Bool.not_false, true_and, and_true]

set_option maxRecDepth 20000 in
theorem okReply_c (h : IH) (id code ttl : Int) (nm : List UInt8) (v : IV) (zs : List Int) (hs : SlR h 1 v (intRows zs)) (hm : zs.length ≤ 1048576) :
    ICalls Tryd.prog 72 [.agg [.int .i64 id, .int .i64 code, .int .i64 ttl, .str nm, v]] h fun r h' => (∃ b : Bool, r = .bool b ∧ (b && okName nm) = okRep id code ttl nm zs) ∧ Ext h h' := by
  refine icalls (.of ok72) (Nat.le_of_ble_eq_true rfl) ?_
  unfold c72
  have hv1 := hs.one
  have hvc := hs.cells
  simp only [hv1, go_sem, Hold.p, HoldK.k, HoldL.K, HoldL.body, Nat.reduceBEq, Nat.reduceAdd, List.getElem?_cons_zero, List.getElem?_cons_succ, Option.bind_some, List.map_cons, List.map_nil, Nat.zero_add, if_true, List.getD_cons_zero, List.getD_cons_succ, List.contains_cons, List.contains_nil, Nat.reduceBEq, Bool.or_true, Bool.true_or, Bool.or_false, Bool.false_or, Bool.not_true, Bool.not_false, true_and, and_true, rowA_whole, push_n, set_n, push_obj, set_obj, set_push, set_push_ne, set_set, Nat.add_assoc, Nat.left_eq_add, Nat.add_eq_left, Nat.add_left_cancel_iff, Nat.reduceEqDiff, stO_1s, stO_ws, boxA_s, one_bool, one_int, one_str, one_ptr, one_nilptr, one_slice, one_eslice, one_nilslice, one_func, one_iface, one_niliface, List.all_cons, List.all_nil, List.length_cons, List.length_nil, Nat.reduceLT, Nat.reduceEqDiff, Nat.reduceLeDiff, Bool.and_true, Nat.one_ne_zero, Nat.succ_ne_zero, reduceIte, if_false, List.getElem?_cons_zero, List.set_cons_zero, List.set_cons_succ]
  generalize hq_g0 : IH.push h (IObj.rows [[IV.int .i64 id, IV.int .i64 code, IV.int .i64 ttl, IV.str nm, v]] 44 5 false) = g0
  have e_g0 : Ext h g0 := by rw [← hq_g0]; exact (Ext.refl _).push _
  have l_g0 : g0.n = h.n + 1 := by rw [← hq_g0]; rfl
  have bb : At g0 h.n (IObj.rows [[IV.int .i64 id, IV.int .i64 code, IV.int .i64 ttl, IV.str nm, v]] 44 5 false) := by rw [← hq_g0]; exact At.new _ _
  clear hq_g0
  have hs := hs.ext e_g0
  have hlen := hs.lenF
  rw [intRows_len] at hlen
  have no : ∀ {b : Bool}, okRep id code ttl nm zs = false → (∃ b : Bool, IV.bool false = .bool b ∧ (b && okName nm) = okRep id code ttl nm zs) ∧ Ext h g0 := fun hx => ⟨⟨false, rfl, by rw [hx]; rfl⟩, e_g0⟩
  by_cases c1 : id < 0
  · have d1 : decide (id < 0) = true := decide_eq_true c1
    have d1' : decide (0 ≤ id) = false := decide_eq_false (by omega)
    simp only [bb.eq, d1, go_sem, Hold.p, HoldK.k, HoldL.K, HoldL.body, Nat.reduceBEq, Nat.reduceAdd, List.getElem?_cons_zero, List.getElem?_cons_succ, Option.bind_some, List.map_cons, List.map_nil, Nat.zero_add, if_true, List.getD_cons_zero, List.getD_cons_succ, List.contains_cons, List.contains_nil, Nat.reduceBEq, Bool.or_true, Bool.true_or, Bool.or_false, Bool.false_or, Bool.not_true, Bool.not_false, true_and, and_true, rowA_whole, push_n, set_n, push_obj, set_obj, set_push, set_push_ne, set_set, Nat.add_assoc, Nat.left_eq_add, Nat.add_eq_left, Nat.add_left_cancel_iff, Nat.reduceEqDiff, stO_1s, stO_ws, boxA_s, one_bool, one_int, one_str, one_ptr, one_nilptr, one_slice, one_eslice, one_nilslice, one_func, one_iface, one_niliface, List.all_cons, List.all_nil, List.length_cons, List.length_nil, Nat.reduceLT, Nat.reduceEqDiff, Nat.reduceLeDiff, Bool.and_true, Nat.one_ne_zero, Nat.succ_ne_zero, reduceIte, if_false, List.getElem?_cons_zero, List.set_cons_zero, List.set_cons_succ]
    exact no (b := true) (by unfold okRep; simp only [d1', Bool.false_and, Bool.and_false])
  have d1 : decide (id < 0) = false := decide_eq_false c1
  have d1' : decide (0 ≤ id) = true := decide_eq_true (by omega)
  by_cases c2 : 65535 < id
  · have d2 : decide (65535 < id) = true := decide_eq_true c2
    have d2' : decide (id ≤ 65535) = false := decide_eq_false (by omega)
    simp only [bb.eq, d1, d2, go_sem, Hold.p, HoldK.k, HoldL.K, HoldL.body, Nat.reduceBEq, Nat.reduceAdd, List.getElem?_cons_zero, List.getElem?_cons_succ, Option.bind_some, List.map_cons, List.map_nil, Nat.zero_add, if_true, List.getD_cons_zero, List.getD_cons_succ, List.contains_cons, List.contains_nil, Nat.reduceBEq, Bool.or_true, Bool.true_or, Bool.or_false, Bool.false_or, Bool.not_true, Bool.not_false, true_and, and_true, rowA_whole, push_n, set_n, push_obj, set_obj, set_push, set_push_ne, set_set, Nat.add_assoc, Nat.left_eq_add, Nat.add_eq_left, Nat.add_left_cancel_iff, Nat.reduceEqDiff, stO_1s, stO_ws, boxA_s, one_bool, one_int, one_str, one_ptr, one_nilptr, one_slice, one_eslice, one_nilslice, one_func, one_iface, one_niliface, List.all_cons, List.all_nil, List.length_cons, List.length_nil, Nat.reduceLT, Nat.reduceEqDiff, Nat.reduceLeDiff, Bool.and_true, Nat.one_ne_zero, Nat.succ_ne_zero, reduceIte, if_false, List.getElem?_cons_zero, List.set_cons_zero, List.set_cons_succ]
    exact no (b := true) (by unfold okRep; simp only [d2', Bool.false_and, Bool.and_false])
  have d2 : decide (65535 < id) = false := decide_eq_false c2
  have d2' : decide (id ≤ 65535) = true := decide_eq_true (by omega)
  by_cases c3 : code < 0
  · have d3 : decide (code < 0) = true := decide_eq_true c3
    have d3' : decide (0 ≤ code) = false := decide_eq_false (by omega)
    simp only [bb.eq, d1, d2, d3, go_sem, Hold.p, HoldK.k, HoldL.K, HoldL.body, Nat.reduceBEq, Nat.reduceAdd, List.getElem?_cons_zero, List.getElem?_cons_succ, Option.bind_some, List.map_cons, List.map_nil, Nat.zero_add, if_true, List.getD_cons_zero, List.getD_cons_succ, List.contains_cons, List.contains_nil, Nat.reduceBEq, Bool.or_true, Bool.true_or, Bool.or_false, Bool.false_or, Bool.not_true, Bool.not_false, true_and, and_true, rowA_whole, push_n, set_n, push_obj, set_obj, set_push, set_push_ne, set_set, Nat.add_assoc, Nat.left_eq_add, Nat.add_eq_left, Nat.add_left_cancel_iff, Nat.reduceEqDiff, stO_1s, stO_ws, boxA_s, one_bool, one_int, one_str, one_ptr, one_nilptr, one_slice, one_eslice, one_nilslice, one_func, one_iface, one_niliface, List.all_cons, List.all_nil, List.length_cons, List.length_nil, Nat.reduceLT, Nat.reduceEqDiff, Nat.reduceLeDiff, Bool.and_true, Nat.one_ne_zero, Nat.succ_ne_zero, reduceIte, if_false, List.getElem?_cons_zero, List.set_cons_zero, List.set_cons_succ]
    exact no (b := true) (by unfold okRep; simp only [d3', Bool.false_and, Bool.and_false])
  have d3 : decide (code < 0) = false := decide_eq_false c3
  have d3' : decide (0 ≤ code) = true := decide_eq_true (by omega)
  by_cases c4 : 255 < code
  · have d4 : decide (255 < code) = true := decide_eq_true c4
    have d4' : decide (code ≤ 255) = false := decide_eq_false (by omega)
    simp only [bb.eq, d1, d2, d3, d4, go_sem, Hold.p, HoldK.k, HoldL.K, HoldL.body, Nat.reduceBEq, Nat.reduceAdd, List.getElem?_cons_zero, List.getElem?_cons_succ, Option.bind_some, List.map_cons, List.map_nil, Nat.zero_add, if_true, List.getD_cons_zero, List.getD_cons_succ, List.contains_cons, List.contains_nil, Nat.reduceBEq, Bool.or_true, Bool.true_or, Bool.or_false, Bool.false_or, Bool.not_true, Bool.not_false, true_and, and_true, rowA_whole, push_n, set_n, push_obj, set_obj, set_push, set_push_ne, set_set, Nat.add_assoc, Nat.left_eq_add, Nat.add_eq_left, Nat.add_left_cancel_iff, Nat.reduceEqDiff, stO_1s, stO_ws, boxA_s, one_bool, one_int, one_str, one_ptr, one_nilptr, one_slice, one_eslice, one_nilslice, one_func, one_iface, one_niliface, List.all_cons, List.all_nil, List.length_cons, List.length_nil, Nat.reduceLT, Nat.reduceEqDiff, Nat.reduceLeDiff, Bool.and_true, Nat.one_ne_zero, Nat.succ_ne_zero, reduceIte, if_false, List.getElem?_cons_zero, List.set_cons_zero, List.set_cons_succ]
    exact no (b := true) (by unfold okRep; simp only [d4', Bool.false_and, Bool.and_false])
  have d4 : decide (255 < code) = false := decide_eq_false c4
  have d4' : decide (code ≤ 255) = true := decide_eq_true (by omega)
  by_cases c5 : ttl < 0
  · have d5 : decide (ttl < 0) = true := decide_eq_true c5
    have d5' : decide (0 ≤ ttl) = false := decide_eq_false (by omega)
    simp only [bb.eq, d1, d2, d3, d4, d5, go_sem, Hold.p, HoldK.k, HoldL.K, HoldL.body, Nat.reduceBEq, Nat.reduceAdd, List.getElem?_cons_zero, List.getElem?_cons_succ, Option.bind_some, List.map_cons, List.map_nil, Nat.zero_add, if_true, List.getD_cons_zero, List.getD_cons_succ, List.contains_cons, List.contains_nil, Nat.reduceBEq, Bool.or_true, Bool.true_or, Bool.or_false, Bool.false_or, Bool.not_true, Bool.not_false, true_and, and_true, rowA_whole, push_n, set_n, push_obj, set_obj, set_push, set_push_ne, set_set, Nat.add_assoc, Nat.left_eq_add, Nat.add_eq_left, Nat.add_left_cancel_iff, Nat.reduceEqDiff, stO_1s, stO_ws, boxA_s, one_bool, one_int, one_str, one_ptr, one_nilptr, one_slice, one_eslice, one_nilslice, one_func, one_iface, one_niliface, List.all_cons, List.all_nil, List.length_cons, List.length_nil, Nat.reduceLT, Nat.reduceEqDiff, Nat.reduceLeDiff, Bool.and_true, Nat.one_ne_zero, Nat.succ_ne_zero, reduceIte, if_false, List.getElem?_cons_zero, List.set_cons_zero, List.set_cons_succ]
    exact no (b := true) (by unfold okRep; simp only [d5', Bool.false_and, Bool.and_false])
  have d5 : decide (ttl < 0) = false := decide_eq_false c5
  have d5' : decide (0 ≤ ttl) = true := decide_eq_true (by omega)
  by_cases c6 : 86400 < ttl
  · have d6 : decide (86400 < ttl) = true := decide_eq_true c6
    have d6' : decide (ttl ≤ 86400) = false := decide_eq_false (by omega)
    simp only [bb.eq, d1, d2, d3, d4, d5, d6, go_sem, Hold.p, HoldK.k, HoldL.K, HoldL.body, Nat.reduceBEq, Nat.reduceAdd, List.getElem?_cons_zero, List.getElem?_cons_succ, Option.bind_some, List.map_cons, List.map_nil, Nat.zero_add, if_true, List.getD_cons_zero, List.getD_cons_succ, List.contains_cons, List.contains_nil, Nat.reduceBEq, Bool.or_true, Bool.true_or, Bool.or_false, Bool.false_or, Bool.not_true, Bool.not_false, true_and, and_true, rowA_whole, push_n, set_n, push_obj, set_obj, set_push, set_push_ne, set_set, Nat.add_assoc, Nat.left_eq_add, Nat.add_eq_left, Nat.add_left_cancel_iff, Nat.reduceEqDiff, stO_1s, stO_ws, boxA_s, one_bool, one_int, one_str, one_ptr, one_nilptr, one_slice, one_eslice, one_nilslice, one_func, one_iface, one_niliface, List.all_cons, List.all_nil, List.length_cons, List.length_nil, Nat.reduceLT, Nat.reduceEqDiff, Nat.reduceLeDiff, Bool.and_true, Nat.one_ne_zero, Nat.succ_ne_zero, reduceIte, if_false, List.getElem?_cons_zero, List.set_cons_zero, List.set_cons_succ]
    exact no (b := true) (by unfold okRep; simp only [d6', Bool.false_and, Bool.and_false])
  have d6 : decide (86400 < ttl) = false := decide_eq_false c6
  have d6' : decide (ttl ≤ 86400) = true := decide_eq_true (by omega)
  by_cases c7 : 8 < zs.length
  · have d7 : decide ((8 : Int) < (zs.length : Int)) = true := decide_eq_true (by omega)
    have d7' : decide (zs.length ≤ 8) = false := decide_eq_false (by omega)
    simp only [bb.eq, d1, d2, d3, d4, d5, d6, hlen, d7, go_sem, Hold.p, HoldK.k, HoldL.K, HoldL.body, Nat.reduceBEq, Nat.reduceAdd, List.getElem?_cons_zero, List.getElem?_cons_succ, Option.bind_some, List.map_cons, List.map_nil, Nat.zero_add, if_true, List.getD_cons_zero, List.getD_cons_succ, List.contains_cons, List.contains_nil, Nat.reduceBEq, Bool.or_true, Bool.true_or, Bool.or_false, Bool.false_or, Bool.not_true, Bool.not_false, true_and, and_true, rowA_whole, push_n, set_n, push_obj, set_obj, set_push, set_push_ne, set_set, Nat.add_assoc, Nat.left_eq_add, Nat.add_eq_left, Nat.add_left_cancel_iff, Nat.reduceEqDiff, stO_1s, stO_ws, boxA_s, one_bool, one_int, one_str, one_ptr, one_nilptr, one_slice, one_eslice, one_nilslice, one_func, one_iface, one_niliface, List.all_cons, List.all_nil, List.length_cons, List.length_nil, Nat.reduceLT, Nat.reduceEqDiff, Nat.reduceLeDiff, Bool.and_true, Nat.one_ne_zero, Nat.succ_ne_zero, reduceIte, if_false, List.getElem?_cons_zero, List.set_cons_zero, List.set_cons_succ]
    exact no (b := true) (by unfold okRep; simp only [d7', Bool.false_and, Bool.and_false])
  have d7 : decide ((8 : Int) < (zs.length : Int)) = false := decide_eq_false (by omega)
  have d7' : decide (zs.length ≤ 8) = true := decide_eq_true (by omega)
  simp only [bb.eq, d1, d2, d3, d4, d5, d6, hlen, d7, go_sem, Hold.p, HoldK.k, HoldL.K, HoldL.body, Nat.reduceBEq, Nat.reduceAdd, List.getElem?_cons_zero, List.getElem?_cons_succ, Option.bind_some, List.map_cons, List.map_nil, Nat.zero_add, if_true, List.getD_cons_zero, List.getD_cons_succ, List.contains_cons, List.contains_nil, Nat.reduceBEq, Bool.or_true, Bool.true_or, Bool.or_false, Bool.false_or, Bool.not_true, Bool.not_false, true_and, and_true, rowA_whole, push_n, set_n, push_obj, set_obj, set_push, set_push_ne, set_set, Nat.add_assoc, Nat.left_eq_add, Nat.add_eq_left, Nat.add_left_cancel_iff, Nat.reduceEqDiff, stO_1s, stO_ws, boxA_s, one_bool, one_int, one_str, one_ptr, one_nilptr, one_slice, one_eslice, one_nilslice, one_func, one_iface, one_niliface, List.all_cons, List.all_nil, List.length_cons, List.length_nil, Nat.reduceLT, Nat.reduceEqDiff, Nat.reduceLeDiff, Bool.and_true, Nat.one_ne_zero, Nat.succ_ne_zero, reduceIte, if_false, List.getElem?_cons_zero, List.set_cons_zero, List.set_cons_succ]
  refine callA_of (containsBad_c _ v zs hs hm) ?_
  rintro r h' ⟨rfl, rfl⟩
  simp only [Bool.not_not, go_sem, Hold.p, HoldK.k, HoldL.K, HoldL.body, Nat.reduceBEq, Nat.reduceAdd, List.getElem?_cons_zero, List.getElem?_cons_succ, Option.bind_some, List.map_cons, List.map_nil, Nat.zero_add, if_true, List.getD_cons_zero, List.getD_cons_succ, List.contains_cons, List.contains_nil, Nat.reduceBEq, Bool.or_true, Bool.true_or, Bool.or_false, Bool.false_or, Bool.not_true, Bool.not_false, true_and, and_true, rowA_whole, push_n, set_n, push_obj, set_obj, set_push, set_push_ne, set_set, Nat.add_assoc, Nat.left_eq_add, Nat.add_eq_left, Nat.add_left_cancel_iff, Nat.reduceEqDiff, stO_1s, stO_ws, boxA_s, one_bool, one_int, one_str, one_ptr, one_nilptr, one_slice, one_eslice, one_nilslice, one_func, one_iface, one_niliface, List.all_cons, List.all_nil, List.length_cons, List.length_nil, Nat.reduceLT, Nat.reduceEqDiff, Nat.reduceLeDiff, Bool.and_true, Nat.one_ne_zero, Nat.succ_ne_zero, reduceIte, if_false, List.getElem?_cons_zero, List.set_cons_zero, List.set_cons_succ]
  refine ⟨⟨_, rfl, ?_⟩, e_g0⟩
  unfold okRep
  simp only [d1', d2', d3', d4', d5', d6', d7', Bool.true_and, Bool.and_true]
  exact Bool.and_comm _ _
end Go.Proofs.YtcmcfmgabafljaaDoor

namespace Go.Proofs.YtcmcfmgabafljaaDoor
open Go Go.IW

set_option maxRecDepth 20000 in
theorem szNameReply_c (h : IH) (id code ttl left : Int) (nm : List UInt8) (v : IV) (zs : List Int) (hs : SlR h 1 v (intRows zs)) (hl : 0 ≤ left ∧ left ≤ 1048576) (hm : nm.length ≤ maxLen) (hz : zs.length ≤ maxLen) :
    ICalls Tryd.prog 25 [.agg [.int .i64 id, .int .i64 code, .int .i64 ttl, .str nm, v], .int .i64 left] h fun r h' => r = .int .i64 (if left < nm.length + zs.length then -1 else left - nm.length - zs.length) ∧ Ext h h' := by
  refine icalls (.of ok25) (Nat.le_of_ble_eq_true rfl) ?_
  unfold c25
  have hv1 := hs.one
  have hvc := hs.cells
  have hw : wr .i64 (left - nm.length) = left - nm.length := wr64 _ (by unfold maxLen at hm; omega)
  simp only [hv1, hw, go_sem, Hold.p, HoldK.k, HoldL.K, HoldL.body, Nat.reduceBEq, Nat.reduceAdd, List.getElem?_cons_zero, List.getElem?_cons_succ, Option.bind_some, List.map_cons, List.map_nil, Nat.zero_add, if_true, List.getD_cons_zero, List.getD_cons_succ, List.contains_cons, List.contains_nil, Nat.reduceBEq, Bool.or_true, Bool.true_or, Bool.or_false, Bool.false_or, Bool.not_true, Bool.not_false, true_and, and_true, rowA_whole, push_n, set_n, push_obj, set_obj, set_push, set_push_ne, set_set, Nat.add_assoc, Nat.left_eq_add, Nat.add_eq_left, Nat.add_left_cancel_iff, Nat.reduceEqDiff, stO_1s, stO_ws, boxA_s, one_bool, one_int, one_str, one_ptr, one_nilptr, one_slice, one_eslice, one_nilslice, one_func, one_iface, one_niliface, List.all_cons, List.all_nil, List.length_cons, List.length_nil, Nat.reduceLT, Nat.reduceEqDiff, Nat.reduceLeDiff, Bool.and_true, Nat.one_ne_zero, Nat.succ_ne_zero, reduceIte, if_false, List.getElem?_cons_zero, List.set_cons_zero, List.set_cons_succ]
  generalize hq_g0 : IH.push h (IObj.rows [[IV.int .i64 id, IV.int .i64 code, IV.int .i64 ttl, IV.str nm, v]] 41 5 false) = g0
  have e_g0 : Ext h g0 := by rw [← hq_g0]; exact (Ext.refl _).push _
  have l_g0 : g0.n = h.n + 1 := by rw [← hq_g0]; rfl
  have bb : At g0 h.n (IObj.rows [[IV.int .i64 id, IV.int .i64 code, IV.int .i64 ttl, IV.str nm, v]] 41 5 false) := by rw [← hq_g0]; exact At.new _ _
  clear hq_g0
  have hs := hs.ext e_g0
  refine test_dec (fun hb => ?_) (fun hb => ?_)
  · simp only [hw, go_sem, Hold.p, HoldK.k, HoldL.K, HoldL.body, Nat.reduceBEq, Nat.reduceAdd, List.getElem?_cons_zero, List.getElem?_cons_succ, Option.bind_some, List.map_cons, List.map_nil, Nat.zero_add, if_true, List.getD_cons_zero, List.getD_cons_succ, List.contains_cons, List.contains_nil, Nat.reduceBEq, Bool.or_true, Bool.true_or, Bool.or_false, Bool.false_or, Bool.not_true, Bool.not_false, true_and, and_true, rowA_whole, push_n, set_n, push_obj, set_obj, set_push, set_push_ne, set_set, Nat.add_assoc, Nat.left_eq_add, Nat.add_eq_left, Nat.add_left_cancel_iff, Nat.reduceEqDiff, stO_1s, stO_ws, boxA_s, one_bool, one_int, one_str, one_ptr, one_nilptr, one_slice, one_eslice, one_nilslice, one_func, one_iface, one_niliface, List.all_cons, List.all_nil, List.length_cons, List.length_nil, Nat.reduceLT, Nat.reduceEqDiff, Nat.reduceLeDiff, Bool.and_true, Nat.one_ne_zero, Nat.succ_ne_zero, reduceIte, if_false, List.getElem?_cons_zero, List.set_cons_zero, List.set_cons_succ]
    rw [if_pos (by omega)]
    exact ⟨rfl, e_g0⟩
  · simp only [hw, bb.eq, go_sem, Hold.p, HoldK.k, HoldL.K, HoldL.body, Nat.reduceBEq, Nat.reduceAdd, List.getElem?_cons_zero, List.getElem?_cons_succ, Option.bind_some, List.map_cons, List.map_nil, Nat.zero_add, if_true, List.getD_cons_zero, List.getD_cons_succ, List.contains_cons, List.contains_nil, Nat.reduceBEq, Bool.or_true, Bool.true_or, Bool.or_false, Bool.false_or, Bool.not_true, Bool.not_false, true_and, and_true, rowA_whole, push_n, set_n, push_obj, set_obj, set_push, set_push_ne, set_set, Nat.add_assoc, Nat.left_eq_add, Nat.add_eq_left, Nat.add_left_cancel_iff, Nat.reduceEqDiff, stO_1s, stO_ws, boxA_s, one_bool, one_int, one_str, one_ptr, one_nilptr, one_slice, one_eslice, one_nilslice, one_func, one_iface, one_niliface, List.all_cons, List.all_nil, List.length_cons, List.length_nil, Nat.reduceLT, Nat.reduceEqDiff, Nat.reduceLeDiff, Bool.and_true, Nat.one_ne_zero, Nat.succ_ne_zero, reduceIte, if_false, List.getElem?_cons_zero, List.set_cons_zero, List.set_cons_succ]
    refine callA_of (szInt64S_c _ v zs _ hs (by omega) hz) ?_
    rintro r h' ⟨rfl, rfl⟩
    by_cases hc : left - nm.length < (zs.length : Int)
    · have d0 : decide ((-1 : Int) < 0) = true := rfl
      rw [if_pos hc, if_pos (by omega)]
      simp only [d0, go_sem, Hold.p, HoldK.k, HoldL.K, HoldL.body, Nat.reduceBEq, Nat.reduceAdd, List.getElem?_cons_zero, List.getElem?_cons_succ, Option.bind_some, List.map_cons, List.map_nil, Nat.zero_add, if_true, List.getD_cons_zero, List.getD_cons_succ, List.contains_cons, List.contains_nil, Nat.reduceBEq, Bool.or_true, Bool.true_or, Bool.or_false, Bool.false_or, Bool.not_true, Bool.not_false, true_and, and_true, rowA_whole, push_n, set_n, push_obj, set_obj, set_push, set_push_ne, set_set, Nat.add_assoc, Nat.left_eq_add, Nat.add_eq_left, Nat.add_left_cancel_iff, Nat.reduceEqDiff, stO_1s, stO_ws, boxA_s, one_bool, one_int, one_str, one_ptr, one_nilptr, one_slice, one_eslice, one_nilslice, one_func, one_iface, one_niliface, List.all_cons, List.all_nil, List.length_cons, List.length_nil, Nat.reduceLT, Nat.reduceEqDiff, Nat.reduceLeDiff, Bool.and_true, Nat.one_ne_zero, Nat.succ_ne_zero, reduceIte, if_false, List.getElem?_cons_zero, List.set_cons_zero, List.set_cons_succ]
      exact e_g0
    · have d0 : decide (left - (nm.length : Int) - (zs.length : Int) < 0) = false := decide_eq_false (by omega)
      rw [if_neg hc, if_neg (by omega)]
      simp only [d0, go_sem, Hold.p, HoldK.k, HoldL.K, HoldL.body, Nat.reduceBEq, Nat.reduceAdd, List.getElem?_cons_zero, List.getElem?_cons_succ, Option.bind_some, List.map_cons, List.map_nil, Nat.zero_add, if_true, List.getD_cons_zero, List.getD_cons_succ, List.contains_cons, List.contains_nil, Nat.reduceBEq, Bool.or_true, Bool.true_or, Bool.or_false, Bool.false_or, Bool.not_true, Bool.not_false, true_and, and_true, rowA_whole, push_n, set_n, push_obj, set_obj, set_push, set_push_ne, set_set, Nat.add_assoc, Nat.left_eq_add, Nat.add_eq_left, Nat.add_left_cancel_iff, Nat.reduceEqDiff, stO_1s, stO_ws, boxA_s, one_bool, one_int, one_str, one_ptr, one_nilptr, one_slice, one_eslice, one_nilslice, one_func, one_iface, one_niliface, List.all_cons, List.all_nil, List.length_cons, List.length_nil, Nat.reduceLT, Nat.reduceEqDiff, Nat.reduceLeDiff, Bool.and_true, Nat.one_ne_zero, Nat.succ_ne_zero, reduceIte, if_false, List.getElem?_cons_zero, List.set_cons_zero, List.set_cons_succ]
      exact e_g0

set_option maxRecDepth 20000 in
theorem toNameReply_c (h : IH) (id code ttl : Int) (nm : List UInt8) (v : IV) (zs : List Int) (hs : SlR h 1 v (intRows zs)) (hz : zs.length ≤ 1048576) :
    ICalls Tryd.prog 27 [.agg [.int .i64 id, .int .i64 code, .int .i64 ttl, .str nm, v]] h fun r h' => ∃ v', r = .agg [.int .i64 id, .int .i64 code, .int .i64 ttl, .str nm, v'] ∧ Own h.n h'.n h' 2 1 v' (intRows zs) ∧ Ext h h' := by
  refine icalls (.of ok27) (Nat.le_of_ble_eq_true rfl) ?_
  unfold c27
  have hv1 := hs.one
  have hvc := hs.cells
  simp only [hv1, go_sem, Hold.p, HoldK.k, HoldL.K, HoldL.body, Nat.reduceBEq, Nat.reduceAdd, List.getElem?_cons_zero, List.getElem?_cons_succ, Option.bind_some, List.map_cons, List.map_nil, Nat.zero_add, if_true, List.getD_cons_zero, List.getD_cons_succ, List.contains_cons, List.contains_nil, Nat.reduceBEq, Bool.or_true, Bool.true_or, Bool.or_false, Bool.false_or, Bool.not_true, Bool.not_false, true_and, and_true, rowA_whole, push_n, set_n, push_obj, set_obj, set_push, set_push_ne, set_set, Nat.add_assoc, Nat.left_eq_add, Nat.add_eq_left, Nat.add_left_cancel_iff, Nat.reduceEqDiff, stO_1s, stO_ws, boxA_s, one_bool, one_int, one_str, one_ptr, one_nilptr, one_slice, one_eslice, one_nilslice, one_func, one_iface, one_niliface, List.all_cons, List.all_nil, List.length_cons, List.length_nil, Nat.reduceLT, Nat.reduceEqDiff, Nat.reduceLeDiff, Bool.and_true, Nat.one_ne_zero, Nat.succ_ne_zero, reduceIte, if_false, List.getElem?_cons_zero, List.set_cons_zero, List.set_cons_succ]
  generalize hq_g0 : IH.push h (IObj.rows [[IV.int .i64 id, IV.int .i64 code, IV.int .i64 ttl, IV.str nm, v]] 41 5 false) = g0
  have e_g0 : Ext h g0 := by rw [← hq_g0]; exact (Ext.refl _).push _
  have l_g0 : g0.n = h.n + 1 := by rw [← hq_g0]; rfl
  have bb : At g0 h.n (IObj.rows [[IV.int .i64 id, IV.int .i64 code, IV.int .i64 ttl, IV.str nm, v]] 41 5 false) := by rw [← hq_g0]; exact At.new _ _
  clear hq_g0
  have hs := hs.ext e_g0
  generalize hq_g1 : IH.push g0 (IObj.rows [[IV.int .i64 0, IV.int .i64 0, IV.int .i64 0, IV.str [], IV.nilslice]] 44 5 false) = g1
  have e_g1 : Ext g0 g1 := by rw [← hq_g1]; exact (Ext.refl _).push _
  have l_g1 : g1.n = g0.n + 1 := by rw [← hq_g1]; rfl
  have b1 : At g1 g0.n (IObj.rows [[IV.int .i64 0, IV.int .i64 0, IV.int .i64 0, IV.str [], IV.nilslice]] 44 5 false) := by rw [← hq_g1]; exact At.new _ _
  clear hq_g1
  have hs := hs.ext e_g1
  have bb := bb.ext e_g1
  generalize hq_g2 : IH.push g1 (IObj.rows [[IV.int .i64 id, IV.int .i64 code, IV.int .i64 ttl, IV.str nm, IV.nilslice]] 44 5 false) = g2
  have e_g2 : Ext g1 g2 := by rw [← hq_g2]; exact (Ext.refl _).push _
  have l_g2 : g2.n = g1.n + 1 := by rw [← hq_g2]; rfl
  have b2 : At g2 g1.n (IObj.rows [[IV.int .i64 id, IV.int .i64 code, IV.int .i64 ttl, IV.str nm, IV.nilslice]] 44 5 false) := by rw [← hq_g2]; exact At.new _ _
  clear hq_g2
  have hs := hs.ext e_g2
  have bb := bb.ext e_g2
  have b1 := b1.ext e_g2
  have E := (e_g0.trans e_g1).trans e_g2
  rw [l_g0] at b1
  rw [l_g1, l_g0] at b2
  refine callA_of (toInt64S_c _ v zs hs hz) ?_
  rintro v' h3 ⟨o, hE3⟩
  have bb := bb.ext hE3
  have b1 := b1.ext hE3
  have b2 := b2.ext hE3
  have E := E.ext hE3
  have le_hE3 := hE3.le
  have vo := o.sl.one
  have vc := o.sl.cells
  have n1 : (h.n + 1 = h.n + 1 + 1) = False := by simp
  simp only [l_g1, l_g0, bb.eq, b1.eq, b2.eq, vo, vc, n1, go_sem, Hold.p, HoldK.k, HoldL.K, HoldL.body, Nat.reduceBEq, Nat.reduceAdd, List.getElem?_cons_zero, List.getElem?_cons_succ, Option.bind_some, List.map_cons, List.map_nil, Nat.zero_add, if_true, List.getD_cons_zero, List.getD_cons_succ, List.contains_cons, List.contains_nil, Nat.reduceBEq, Bool.or_true, Bool.true_or, Bool.or_false, Bool.false_or, Bool.not_true, Bool.not_false, true_and, and_true, rowA_whole, push_n, set_n, push_obj, set_obj, set_push, set_push_ne, set_set, Nat.add_assoc, Nat.left_eq_add, Nat.add_eq_left, Nat.add_left_cancel_iff, Nat.reduceEqDiff, stO_1s, stO_ws, boxA_s, one_bool, one_int, one_str, one_ptr, one_nilptr, one_slice, one_eslice, one_nilslice, one_func, one_iface, one_niliface, List.all_cons, List.all_nil, List.length_cons, List.length_nil, Nat.reduceLT, Nat.reduceEqDiff, Nat.reduceLeDiff, Bool.and_true, Nat.one_ne_zero, Nat.succ_ne_zero, reduceIte, if_false, List.getElem?_cons_zero, List.set_cons_zero, List.set_cons_succ]
  exact ⟨v', rfl, ((Own.set (m := h.n + 1) (Own.set (m := h.n + 1 + 1) o (by omega) _) (by omega) _).wide (by omega) (by omega) (Nat.le_refl _)), (E.set _ (by omega) _).set _ (by omega) _⟩

set_option maxRecDepth 20000 in
theorem l19ReplyOK_c (h : IH) (id code ttl : Int) (nm : List UInt8) (v : IV) (zs : List Int) (hs : SlR h 1 v (intRows zs)) (hm : nm.length ≤ 1048576) (hz : zs.length ≤ 1048576) :
    ICalls Tryd.prog 70 [.agg [.int .i64 id, .int .i64 code, .int .i64 ttl, .str nm, v]] h fun r h' => r = .bool (okRep id code ttl nm zs) ∧ Ext h h' := by
  refine icalls (.of ok70) (Nat.le_of_ble_eq_true rfl) ?_
  unfold c70
  have hv1 := hs.one
  have hvc := hs.cells
  have hlen := hs.lenF
  rw [intRows_len] at hlen
  unfold okRep
  simp only [hv1, go_sem, Hold.p, HoldK.k, HoldL.K, HoldL.body, Nat.reduceBEq, Nat.reduceAdd, List.getElem?_cons_zero, List.getElem?_cons_succ, Option.bind_some, List.map_cons, List.map_nil, Nat.zero_add, if_true, List.getD_cons_zero, List.getD_cons_succ, List.contains_cons, List.contains_nil, Nat.reduceBEq, Bool.or_true, Bool.true_or, Bool.or_false, Bool.false_or, Bool.not_true, Bool.not_false, true_and, and_true, rowA_whole, push_n, set_n, push_obj, set_obj, set_push, set_push_ne, set_set, Nat.add_assoc, Nat.left_eq_add, Nat.add_eq_left, Nat.add_left_cancel_iff, Nat.reduceEqDiff, stO_1s, stO_ws, boxA_s, one_bool, one_int, one_str, one_ptr, one_nilptr, one_slice, one_eslice, one_nilslice, one_func, one_iface, one_niliface, List.all_cons, List.all_nil, List.length_cons, List.length_nil, Nat.reduceLT, Nat.reduceEqDiff, Nat.reduceLeDiff, Bool.and_true, Nat.one_ne_zero, Nat.succ_ne_zero, reduceIte, if_false, List.getElem?_cons_zero, List.set_cons_zero, List.set_cons_succ]
  generalize hq_g0 : IH.push h (IObj.rows [[IV.int .i64 id, IV.int .i64 code, IV.int .i64 ttl, IV.str nm, v]] 44 5 false) = g0
  have e_g0 : Ext h g0 := by rw [← hq_g0]; exact (Ext.refl _).push _
  have l_g0 : g0.n = h.n + 1 := by rw [← hq_g0]; rfl
  have bb : At g0 h.n (IObj.rows [[IV.int .i64 id, IV.int .i64 code, IV.int .i64 ttl, IV.str nm, v]] 44 5 false) := by rw [← hq_g0]; exact At.new _ _
  clear hq_g0
  have hs := hs.ext e_g0
  refine callA_of (l10PortOK_c _ id) ?_
  rintro r g0' ⟨rfl, rfl⟩
  cases q1 : (decide (0 ≤ id) && decide (id ≤ 65535))
  · simp only [q1, Bool.true_and, Bool.false_and, go_sem, Hold.p, HoldK.k, HoldL.K, HoldL.body, Nat.reduceBEq, Nat.reduceAdd, List.getElem?_cons_zero, List.getElem?_cons_succ, Option.bind_some, List.map_cons, List.map_nil, Nat.zero_add, if_true, List.getD_cons_zero, List.getD_cons_succ, List.contains_cons, List.contains_nil, Nat.reduceBEq, Bool.or_true, Bool.true_or, Bool.or_false, Bool.false_or, Bool.not_true, Bool.not_false, true_and, and_true, rowA_whole, push_n, set_n, push_obj, set_obj, set_push, set_push_ne, set_set, Nat.add_assoc, Nat.left_eq_add, Nat.add_eq_left, Nat.add_left_cancel_iff, Nat.reduceEqDiff, stO_1s, stO_ws, boxA_s, one_bool, one_int, one_str, one_ptr, one_nilptr, one_slice, one_eslice, one_nilslice, one_func, one_iface, one_niliface, List.all_cons, List.all_nil, List.length_cons, List.length_nil, Nat.reduceLT, Nat.reduceEqDiff, Nat.reduceLeDiff, Bool.and_true, Nat.one_ne_zero, Nat.succ_ne_zero, reduceIte, if_false, List.getElem?_cons_zero, List.set_cons_zero, List.set_cons_succ]
    exact e_g0
  simp only [q1, bb.eq, go_sem, Hold.p, HoldK.k, HoldL.K, HoldL.body, Nat.reduceBEq, Nat.reduceAdd, List.getElem?_cons_zero, List.getElem?_cons_succ, Option.bind_some, List.map_cons, List.map_nil, Nat.zero_add, if_true, List.getD_cons_zero, List.getD_cons_succ, List.contains_cons, List.contains_nil, Nat.reduceBEq, Bool.or_true, Bool.true_or, Bool.or_false, Bool.false_or, Bool.not_true, Bool.not_false, true_and, and_true, rowA_whole, push_n, set_n, push_obj, set_obj, set_push, set_push_ne, set_set, Nat.add_assoc, Nat.left_eq_add, Nat.add_eq_left, Nat.add_left_cancel_iff, Nat.reduceEqDiff, stO_1s, stO_ws, boxA_s, one_bool, one_int, one_str, one_ptr, one_nilptr, one_slice, one_eslice, one_nilslice, one_func, one_iface, one_niliface, List.all_cons, List.all_nil, List.length_cons, List.length_nil, Nat.reduceLT, Nat.reduceEqDiff, Nat.reduceLeDiff, Bool.and_true, Nat.one_ne_zero, Nat.succ_ne_zero, reduceIte, if_false, List.getElem?_cons_zero, List.set_cons_zero, List.set_cons_succ]
  refine callA_of (specNameOK_c _ nm hm) ?_
  rintro r h1 ⟨rfl, E1⟩
  have E := e_g0.trans E1
  have bb := bb.ext E1
  have hs := hs.ext E1
  have le_E1 := E1.le
  cases q2 : okName nm
  · simp only [q2, Bool.true_and, Bool.false_and, go_sem, Hold.p, HoldK.k, HoldL.K, HoldL.body, Nat.reduceBEq, Nat.reduceAdd, List.getElem?_cons_zero, List.getElem?_cons_succ, Option.bind_some, List.map_cons, List.map_nil, Nat.zero_add, if_true, List.getD_cons_zero, List.getD_cons_succ, List.contains_cons, List.contains_nil, Nat.reduceBEq, Bool.or_true, Bool.true_or, Bool.or_false, Bool.false_or, Bool.not_true, Bool.not_false, true_and, and_true, rowA_whole, push_n, set_n, push_obj, set_obj, set_push, set_push_ne, set_set, Nat.add_assoc, Nat.left_eq_add, Nat.add_eq_left, Nat.add_left_cancel_iff, Nat.reduceEqDiff, stO_1s, stO_ws, boxA_s, one_bool, one_int, one_str, one_ptr, one_nilptr, one_slice, one_eslice, one_nilslice, one_func, one_iface, one_niliface, List.all_cons, List.all_nil, List.length_cons, List.length_nil, Nat.reduceLT, Nat.reduceEqDiff, Nat.reduceLeDiff, Bool.and_true, Nat.one_ne_zero, Nat.succ_ne_zero, reduceIte, if_false, List.getElem?_cons_zero, List.set_cons_zero, List.set_cons_succ]
    exact E
  simp only [q2, bb.eq, go_sem, Hold.p, HoldK.k, HoldL.K, HoldL.body, Nat.reduceBEq, Nat.reduceAdd, List.getElem?_cons_zero, List.getElem?_cons_succ, Option.bind_some, List.map_cons, List.map_nil, Nat.zero_add, if_true, List.getD_cons_zero, List.getD_cons_succ, List.contains_cons, List.contains_nil, Nat.reduceBEq, Bool.or_true, Bool.true_or, Bool.or_false, Bool.false_or, Bool.not_true, Bool.not_false, true_and, and_true, rowA_whole, push_n, set_n, push_obj, set_obj, set_push, set_push_ne, set_set, Nat.add_assoc, Nat.left_eq_add, Nat.add_eq_left, Nat.add_left_cancel_iff, Nat.reduceEqDiff, stO_1s, stO_ws, boxA_s, one_bool, one_int, one_str, one_ptr, one_nilptr, one_slice, one_eslice, one_nilslice, one_func, one_iface, one_niliface, List.all_cons, List.all_nil, List.length_cons, List.length_nil, Nat.reduceLT, Nat.reduceEqDiff, Nat.reduceLeDiff, Bool.and_true, Nat.one_ne_zero, Nat.succ_ne_zero, reduceIte, if_false, List.getElem?_cons_zero, List.set_cons_zero, List.set_cons_succ]
  refine callA_of (l01In_c _ code 0 255) ?_
  rintro r h1' ⟨rfl, rfl⟩
  cases q3 : (decide (0 ≤ code) && decide (code ≤ 255))
  · simp only [q3, Bool.true_and, Bool.false_and, go_sem, Hold.p, HoldK.k, HoldL.K, HoldL.body, Nat.reduceBEq, Nat.reduceAdd, List.getElem?_cons_zero, List.getElem?_cons_succ, Option.bind_some, List.map_cons, List.map_nil, Nat.zero_add, if_true, List.getD_cons_zero, List.getD_cons_succ, List.contains_cons, List.contains_nil, Nat.reduceBEq, Bool.or_true, Bool.true_or, Bool.or_false, Bool.false_or, Bool.not_true, Bool.not_false, true_and, and_true, rowA_whole, push_n, set_n, push_obj, set_obj, set_push, set_push_ne, set_set, Nat.add_assoc, Nat.left_eq_add, Nat.add_eq_left, Nat.add_left_cancel_iff, Nat.reduceEqDiff, stO_1s, stO_ws, boxA_s, one_bool, one_int, one_str, one_ptr, one_nilptr, one_slice, one_eslice, one_nilslice, one_func, one_iface, one_niliface, List.all_cons, List.all_nil, List.length_cons, List.length_nil, Nat.reduceLT, Nat.reduceEqDiff, Nat.reduceLeDiff, Bool.and_true, Nat.one_ne_zero, Nat.succ_ne_zero, reduceIte, if_false, List.getElem?_cons_zero, List.set_cons_zero, List.set_cons_succ]
    exact E
  simp only [q3, bb.eq, go_sem, Hold.p, HoldK.k, HoldL.K, HoldL.body, Nat.reduceBEq, Nat.reduceAdd, List.getElem?_cons_zero, List.getElem?_cons_succ, Option.bind_some, List.map_cons, List.map_nil, Nat.zero_add, if_true, List.getD_cons_zero, List.getD_cons_succ, List.contains_cons, List.contains_nil, Nat.reduceBEq, Bool.or_true, Bool.true_or, Bool.or_false, Bool.false_or, Bool.not_true, Bool.not_false, true_and, and_true, rowA_whole, push_n, set_n, push_obj, set_obj, set_push, set_push_ne, set_set, Nat.add_assoc, Nat.left_eq_add, Nat.add_eq_left, Nat.add_left_cancel_iff, Nat.reduceEqDiff, stO_1s, stO_ws, boxA_s, one_bool, one_int, one_str, one_ptr, one_nilptr, one_slice, one_eslice, one_nilslice, one_func, one_iface, one_niliface, List.all_cons, List.all_nil, List.length_cons, List.length_nil, Nat.reduceLT, Nat.reduceEqDiff, Nat.reduceLeDiff, Bool.and_true, Nat.one_ne_zero, Nat.succ_ne_zero, reduceIte, if_false, List.getElem?_cons_zero, List.set_cons_zero, List.set_cons_succ]
  refine callA_of (l01In_c _ ttl 0 86400) ?_
  rintro r h1'' ⟨rfl, rfl⟩
  cases q4 : (decide (0 ≤ ttl) && decide (ttl ≤ 86400))
  · simp only [q4, Bool.true_and, Bool.false_and, go_sem, Hold.p, HoldK.k, HoldL.K, HoldL.body, Nat.reduceBEq, Nat.reduceAdd, List.getElem?_cons_zero, List.getElem?_cons_succ, Option.bind_some, List.map_cons, List.map_nil, Nat.zero_add, if_true, List.getD_cons_zero, List.getD_cons_succ, List.contains_cons, List.contains_nil, Nat.reduceBEq, Bool.or_true, Bool.true_or, Bool.or_false, Bool.false_or, Bool.not_true, Bool.not_false, true_and, and_true, rowA_whole, push_n, set_n, push_obj, set_obj, set_push, set_push_ne, set_set, Nat.add_assoc, Nat.left_eq_add, Nat.add_eq_left, Nat.add_left_cancel_iff, Nat.reduceEqDiff, stO_1s, stO_ws, boxA_s, one_bool, one_int, one_str, one_ptr, one_nilptr, one_slice, one_eslice, one_nilslice, one_func, one_iface, one_niliface, List.all_cons, List.all_nil, List.length_cons, List.length_nil, Nat.reduceLT, Nat.reduceEqDiff, Nat.reduceLeDiff, Bool.and_true, Nat.one_ne_zero, Nat.succ_ne_zero, reduceIte, if_false, List.getElem?_cons_zero, List.set_cons_zero, List.set_cons_succ]
    exact E
  have hlen := hs.lenF
  rw [intRows_len] at hlen
  by_cases c7 : 8 < zs.length
  · have d7 : decide ((8 : Int) < (zs.length : Int)) = true := decide_eq_true (by omega)
    have d7' : decide (zs.length ≤ 8) = false := decide_eq_false (by omega)
    simp only [q4, bb.eq, hlen, d7, d7', Bool.true_and, Bool.false_and, go_sem, Hold.p, HoldK.k, HoldL.K, HoldL.body, Nat.reduceBEq, Nat.reduceAdd, List.getElem?_cons_zero, List.getElem?_cons_succ, Option.bind_some, List.map_cons, List.map_nil, Nat.zero_add, if_true, List.getD_cons_zero, List.getD_cons_succ, List.contains_cons, List.contains_nil, Nat.reduceBEq, Bool.or_true, Bool.true_or, Bool.or_false, Bool.false_or, Bool.not_true, Bool.not_false, true_and, and_true, rowA_whole, push_n, set_n, push_obj, set_obj, set_push, set_push_ne, set_set, Nat.add_assoc, Nat.left_eq_add, Nat.add_eq_left, Nat.add_left_cancel_iff, Nat.reduceEqDiff, stO_1s, stO_ws, boxA_s, one_bool, one_int, one_str, one_ptr, one_nilptr, one_slice, one_eslice, one_nilslice, one_func, one_iface, one_niliface, List.all_cons, List.all_nil, List.length_cons, List.length_nil, Nat.reduceLT, Nat.reduceEqDiff, Nat.reduceLeDiff, Bool.and_true, Nat.one_ne_zero, Nat.succ_ne_zero, reduceIte, if_false, List.getElem?_cons_zero, List.set_cons_zero, List.set_cons_succ]
    exact E
  have d7 : decide ((8 : Int) < (zs.length : Int)) = false := decide_eq_false (by omega)
  have d7' : decide (zs.length ≤ 8) = true := decide_eq_true (by omega)
  clear E1
  simp only [q4, bb.eq, hlen, d7, d7', Bool.true_and, go_sem, Hold.p, HoldK.k, HoldL.K, HoldL.body, Nat.reduceBEq, Nat.reduceAdd, List.getElem?_cons_zero, List.getElem?_cons_succ, Option.bind_some, List.map_cons, List.map_nil, Nat.zero_add, if_true, List.getD_cons_zero, List.getD_cons_succ, List.contains_cons, List.contains_nil, Nat.reduceBEq, Bool.or_true, Bool.true_or, Bool.or_false, Bool.false_or, Bool.not_true, Bool.not_false, true_and, and_true, rowA_whole, push_n, set_n, push_obj, set_obj, set_push, set_push_ne, set_set, Nat.add_assoc, Nat.left_eq_add, Nat.add_eq_left, Nat.add_left_cancel_iff, Nat.reduceEqDiff, stO_1s, stO_ws, boxA_s, one_bool, one_int, one_str, one_ptr, one_nilptr, one_slice, one_eslice, one_nilslice, one_func, one_iface, one_niliface, List.all_cons, List.all_nil, List.length_cons, List.length_nil, Nat.reduceLT, Nat.reduceEqDiff, Nat.reduceLeDiff, Bool.and_true, Nat.one_ne_zero, Nat.succ_ne_zero, reduceIte, if_false, List.getElem?_cons_zero, List.set_cons_zero, List.set_cons_succ]
  refine loop_at (fun n e h' => ∃ k, n = zs.length - k ∧ k ≤ zs.length ∧ e 1 = .ptr h.n 0 0 ∧ e 3 = .int .i64 (k : Nat) ∧ (zs.take k).all okAddr = true ∧ h' = h1'') zs.length ?_ ?_
  · refine ⟨0, by omega, by omega, ?_⟩
    simp only [go_sem, Hold.p, HoldK.k, HoldL.K, HoldL.body, Nat.reduceBEq, Nat.reduceAdd, List.getElem?_cons_zero, List.getElem?_cons_succ, Option.bind_some, List.map_cons, List.map_nil, Nat.zero_add, if_true, List.getD_cons_zero, List.getD_cons_succ, List.contains_cons, List.contains_nil, Nat.reduceBEq, Bool.or_true, Bool.true_or, Bool.or_false, Bool.false_or, Bool.not_true, Bool.not_false, true_and, and_true]
    exact ⟨rfl, rfl⟩
  · rintro n e h' ⟨k, rfl, hk, e1, e3, hok, rfl⟩
    simp only [e1, e3, bb.eq, hlen, go_sem, Hold.p, HoldK.k, HoldL.K, HoldL.body, Nat.reduceBEq, Nat.reduceAdd, List.getElem?_cons_zero, List.getElem?_cons_succ, Option.bind_some, List.map_cons, List.map_nil, Nat.zero_add, if_true, List.getD_cons_zero, List.getD_cons_succ, List.contains_cons, List.contains_nil, Nat.reduceBEq, Bool.or_true, Bool.true_or, Bool.or_false, Bool.false_or, Bool.not_true, Bool.not_false, true_and, and_true, rowA_whole, push_n, set_n, push_obj, set_obj, set_push, set_push_ne, set_set, Nat.add_assoc, Nat.left_eq_add, Nat.add_eq_left, Nat.add_left_cancel_iff, Nat.reduceEqDiff, stO_1s, stO_ws, boxA_s, one_bool, one_int, one_str, one_ptr, one_nilptr, one_slice, one_eslice, one_nilslice, one_func, one_iface, one_niliface, List.all_cons, List.all_nil, List.length_cons, List.length_nil, Nat.reduceLT, Nat.reduceEqDiff, Nat.reduceLeDiff, Bool.and_true, Nat.one_ne_zero, Nat.succ_ne_zero, reduceIte, if_false, List.getElem?_cons_zero, List.set_cons_zero, List.set_cons_succ]
    refine test_dec (fun hb => ?_) (fun hb => ?_)
    · have hlt' : k < zs.length := by omega
      have hkp : zs[k]? = some zs[k] := List.getElem?_eq_getElem hlt'
      generalize zs[k] = p at hkp
      obtain ⟨l, j, hia, hll, hrow⟩ := hs.at (m := k) (intRows_at hkp) .i64
      have hc := cellO_row hrow
      simp only [e1, e3, bb.eq, hia, hc, go_sem, Hold.p, HoldK.k, HoldL.K, HoldL.body, Nat.reduceBEq, Nat.reduceAdd, List.getElem?_cons_zero, List.getElem?_cons_succ, Option.bind_some, List.map_cons, List.map_nil, Nat.zero_add, if_true, List.getD_cons_zero, List.getD_cons_succ, List.contains_cons, List.contains_nil, Nat.reduceBEq, Bool.or_true, Bool.true_or, Bool.or_false, Bool.false_or, Bool.not_true, Bool.not_false, true_and, and_true, rowA_whole, push_n, set_n, push_obj, set_obj, set_push, set_push_ne, set_set, Nat.add_assoc, Nat.left_eq_add, Nat.add_eq_left, Nat.add_left_cancel_iff, Nat.reduceEqDiff, stO_1s, stO_ws, boxA_s, one_bool, one_int, one_str, one_ptr, one_nilptr, one_slice, one_eslice, one_nilslice, one_func, one_iface, one_niliface, List.all_cons, List.all_nil, List.length_cons, List.length_nil, Nat.reduceLT, Nat.reduceEqDiff, Nat.reduceLeDiff, Bool.and_true, Nat.one_ne_zero, Nat.succ_ne_zero, reduceIte, if_false, List.getElem?_cons_zero, List.set_cons_zero, List.set_cons_succ]
      refine callA_of (l02AddrOK_c _ p) ?_
      rintro r h2 ⟨rfl, rfl⟩
      cases hp : okAddr p
      · simp only [hp, go_sem, Hold.p, HoldK.k, HoldL.K, HoldL.body, Nat.reduceBEq, Nat.reduceAdd, List.getElem?_cons_zero, List.getElem?_cons_succ, Option.bind_some, List.map_cons, List.map_nil, Nat.zero_add, if_true, List.getD_cons_zero, List.getD_cons_succ, List.contains_cons, List.contains_nil, Nat.reduceBEq, Bool.or_true, Bool.true_or, Bool.or_false, Bool.false_or, Bool.not_true, Bool.not_false, true_and, and_true, rowA_whole, push_n, set_n, push_obj, set_obj, set_push, set_push_ne, set_set, Nat.add_assoc, Nat.left_eq_add, Nat.add_eq_left, Nat.add_left_cancel_iff, Nat.reduceEqDiff, stO_1s, stO_ws, boxA_s, one_bool, one_int, one_str, one_ptr, one_nilptr, one_slice, one_eslice, one_nilslice, one_func, one_iface, one_niliface, List.all_cons, List.all_nil, List.length_cons, List.length_nil, Nat.reduceLT, Nat.reduceEqDiff, Nat.reduceLeDiff, Bool.and_true, Nat.one_ne_zero, Nat.succ_ne_zero, reduceIte, if_false, List.getElem?_cons_zero, List.set_cons_zero, List.set_cons_succ]
        rw [not_all hkp hp, Bool.and_false]
        exact ⟨rfl, E⟩
      · simp only [e1, e3, hp, go_sem, Hold.p, HoldK.k, HoldL.K, HoldL.body, Nat.reduceBEq, Nat.reduceAdd, List.getElem?_cons_zero, List.getElem?_cons_succ, Option.bind_some, List.map_cons, List.map_nil, Nat.zero_add, if_true, List.getD_cons_zero, List.getD_cons_succ, List.contains_cons, List.contains_nil, Nat.reduceBEq, Bool.or_true, Bool.true_or, Bool.or_false, Bool.false_or, Bool.not_true, Bool.not_false, true_and, and_true, rowA_whole, push_n, set_n, push_obj, set_obj, set_push, set_push_ne, set_set, Nat.add_assoc, Nat.left_eq_add, Nat.add_eq_left, Nat.add_left_cancel_iff, Nat.reduceEqDiff, stO_1s, stO_ws, boxA_s, one_bool, one_int, one_str, one_ptr, one_nilptr, one_slice, one_eslice, one_nilslice, one_func, one_iface, one_niliface, List.all_cons, List.all_nil, List.length_cons, List.length_nil, Nat.reduceLT, Nat.reduceEqDiff, Nat.reduceLeDiff, Bool.and_true, Nat.one_ne_zero, Nat.succ_ne_zero, reduceIte, if_false, List.getElem?_cons_zero, List.set_cons_zero, List.set_cons_succ]
        refine ⟨_, ?_, k + 1, rfl, by omega, wr64_succ k (by omega), ?_⟩
        · omega
        · rw [take_all hkp hok]; exact hp
    · obtain rfl : k = zs.length := by omega
      rw [List.take_length] at hok
      simp only [hok, d7', Bool.true_and, go_sem, Hold.p, HoldK.k, HoldL.K, HoldL.body, Nat.reduceBEq, Nat.reduceAdd, List.getElem?_cons_zero, List.getElem?_cons_succ, Option.bind_some, List.map_cons, List.map_nil, Nat.zero_add, if_true, List.getD_cons_zero, List.getD_cons_succ, List.contains_cons, List.contains_nil, Nat.reduceBEq, Bool.or_true, Bool.true_or, Bool.or_false, Bool.false_or, Bool.not_true, Bool.not_false, true_and, and_true, rowA_whole, push_n, set_n, push_obj, set_obj, set_push, set_push_ne, set_set, Nat.add_assoc, Nat.left_eq_add, Nat.add_eq_left, Nat.add_left_cancel_iff, Nat.reduceEqDiff, stO_1s, stO_ws, boxA_s, one_bool, one_int, one_str, one_ptr, one_nilptr, one_slice, one_eslice, one_nilslice, one_func, one_iface, one_niliface, List.all_cons, List.all_nil, List.length_cons, List.length_nil, Nat.reduceLT, Nat.reduceEqDiff, Nat.reduceLeDiff, Bool.and_true, Nat.one_ne_zero, Nat.succ_ne_zero, reduceIte, if_false, List.getElem?_cons_zero, List.set_cons_zero, List.set_cons_succ]
      exact E
end Go.Proofs.YtcmcfmgabafljaaDoor

namespace Go.Proofs.YtcmcfmgabafljaaDoor
open Go Go.IW

/-- What EncodeReply answers. -/
def repHead (id code ttl : Int) (nm : List UInt8) (zs : List Int) : List UInt8 :=
  (((beB 2 id ++ [1, UInt8.ofNat (code % 256).toNat]) ++ beB 4 ttl ++ [UInt8.ofNat nm.length]) ++ nm) ++ [UInt8.ofNat zs.length]
def encR (id code ttl : Int) (nm : List UInt8) (zs : List Int) : List UInt8 × Int :=
  if okRep id code ttl nm zs = true then (repHead id code ttl nm zs ++ zs.flatMap (beB 4), 0) else ([], 1)
theorem okRep_ok {id code ttl : Int} {nm : List UInt8} {zs : List Int} (h : okRep id code ttl nm zs = true) : (0 ≤ id ∧ id ≤ 65535) ∧ okName nm = true ∧ (0 ≤ code ∧ code ≤ 255) ∧ (0 ≤ ttl ∧ ttl ≤ 86400) ∧ zs.length ≤ 8 ∧ zs.all okAddr = true := by
  unfold okRep at h
  simp only [Bool.and_eq_true, decide_eq_true_eq] at h
  exact ⟨h.1.1.1.1.1, h.1.1.1.1.2, h.1.1.1.2, h.1.1.2, h.1.2, h.2⟩
theorem flat_len (zs : List Int) : (zs.flatMap (beB 4)).length = 4 * zs.length := by
  induction zs with
  | nil => rfl
  | cons a r ih => rw [List.flatMap_cons, List.length_append, ih, beB_len, List.length_cons]; omega
theorem flat_snoc {zs : List Int} {k : Nat} {p : Int} (h : zs[k]? = some p) : (zs.take (k + 1)).flatMap (beB 4) = (zs.take k).flatMap (beB 4) ++ beB 4 p := by
  rw [List.take_add_one, h]; simp
/-- Between two pieces. -/
def Bet (hB : IH) (p : Nat) (bs : List UInt8) (e : Env) (g : IH) : Prop := ∃ x, e 1 = .ptr p 0 0 ∧ e 4 = x ∧ Own hB.n g.n g 5 1 x (strRows bs) ∧ Ext hB g

set_option maxRecDepth 20000 in
theorem specEncodeReply_c (h : IH) (id code ttl : Int) (nm : List UInt8) (v : IV) (zs : List Int) (hs : SlR h 1 v (intRows zs)) (hm : nm.length ≤ 1048576) (hz : zs.length ≤ 1048576) :
    ICalls Tryd.prog 26 [.agg [.int .i64 id, .int .i64 code, .int .i64 ttl, .str nm, v]] h fun r h' => BytesRes h h' r (encR id code ttl nm zs) := by
  refine icalls (.of ok26) (Nat.le_of_ble_eq_true rfl) ?_
  unfold c26
  have hv1 := hs.one
  have hvc := hs.cells
  by_cases hok : okRep id code ttl nm zs = true
  · obtain ⟨hid, hnm, hcode, httl, hzl, hza⟩ := okRep_ok hok
    obtain ⟨hne, hl⟩ := okName_ne hnm
    have hdef : encR id code ttl nm zs = (repHead id code ttl nm zs ++ zs.flatMap (beB 4), 0) := if_pos hok
    rw [hdef]
    have w1 := u8_len (n := nm.length) (by omega)
    have w2 := u8_len (n := zs.length) (by omega)
    have w3 := wr_u8 code
    generalize hbc : UInt8.ofNat (code % 256).toNat = bc at w3
    refine vc_cut2 (fun e g => ∃ hB : IH, At hB h.n (IObj.rows [[IV.int .i64 id, IV.int .i64 code, IV.int .i64 ttl, IV.str nm, v]] 44 5 false) ∧ SlR hB 1 v (intRows zs) ∧ Ext h hB ∧ e 1 = .ptr h.n 0 0 ∧ g = hB) ?_ ?_
    · simp only [hv1, go_sem, Hold.p, HoldK.k, HoldL.K, HoldL.body, Nat.reduceBEq, Nat.reduceAdd, List.getElem?_cons_zero, List.getElem?_cons_succ, Option.bind_some, List.map_cons, List.map_nil, Nat.zero_add, if_true, List.getD_cons_zero, List.getD_cons_succ, List.contains_cons, List.contains_nil, Nat.reduceBEq, Bool.or_true, Bool.true_or, Bool.or_false, Bool.false_or, Bool.not_true, Bool.not_false, true_and, and_true, rowA_whole, push_n, set_n, push_obj, set_obj, set_push, set_push_ne, set_set, Nat.add_assoc, Nat.left_eq_add, Nat.add_eq_left, Nat.add_left_cancel_iff, Nat.reduceEqDiff, stO_1s, stO_ws, boxA_s, one_bool, one_int, one_str, one_ptr, one_nilptr, one_slice, one_eslice, one_nilslice, one_func, one_iface, one_niliface, List.all_cons, List.all_nil, List.length_cons, List.length_nil, Nat.reduceLT, Nat.reduceEqDiff, Nat.reduceLeDiff, Bool.and_true, Nat.one_ne_zero, Nat.succ_ne_zero, reduceIte, if_false, List.getElem?_cons_zero, List.set_cons_zero, List.set_cons_succ]
      generalize hq_g0 : IH.push h (IObj.rows [[IV.int .i64 id, IV.int .i64 code, IV.int .i64 ttl, IV.str nm, v]] 44 5 false) = g0
      have e_g0 : Ext h g0 := by rw [← hq_g0]; exact (Ext.refl _).push _
      have l_g0 : g0.n = h.n + 1 := by rw [← hq_g0]; rfl
      have bb : At g0 h.n (IObj.rows [[IV.int .i64 id, IV.int .i64 code, IV.int .i64 ttl, IV.str nm, v]] 44 5 false) := by rw [← hq_g0]; exact At.new _ _
      clear hq_g0
      have hs := hs.ext e_g0
      refine callA_of (l19ReplyOK_c _ id code ttl nm v zs hs hm hz) ?_
      rintro r h1 ⟨rfl, E1⟩
      have E := e_g0.trans E1
      have bb := bb.ext E1
      have hs := hs.ext E1
      have le_E1 := E1.le
      simp only [hok, go_sem, Hold.p, HoldK.k, HoldL.K, HoldL.body, Nat.reduceBEq, Nat.reduceAdd, List.getElem?_cons_zero, List.getElem?_cons_succ, Option.bind_some, List.map_cons, List.map_nil, Nat.zero_add, if_true, List.getD_cons_zero, List.getD_cons_succ, List.contains_cons, List.contains_nil, Nat.reduceBEq, Bool.or_true, Bool.true_or, Bool.or_false, Bool.false_or, Bool.not_true, Bool.not_false, true_and, and_true, rowA_whole, push_n, set_n, push_obj, set_obj, set_push, set_push_ne, set_set, Nat.add_assoc, Nat.left_eq_add, Nat.add_eq_left, Nat.add_left_cancel_iff, Nat.reduceEqDiff, stO_1s, stO_ws, boxA_s, one_bool, one_int, one_str, one_ptr, one_nilptr, one_slice, one_eslice, one_nilslice, one_func, one_iface, one_niliface, List.all_cons, List.all_nil, List.length_cons, List.length_nil, Nat.reduceLT, Nat.reduceEqDiff, Nat.reduceLeDiff, Bool.and_true, Nat.one_ne_zero, Nat.succ_ne_zero, reduceIte, if_false, List.getElem?_cons_zero, List.set_cons_zero, List.set_cons_succ]
      exact ⟨h1, bb, hs, E, rfl⟩
    rintro e g ⟨hB, bb, hs, E, i1, rfl⟩
    have bbl := bb.lt
    refine vc_cut (Bet g h.n (beB 2 id ++ [1, bc])) ?_ ?_
    · simp only [i1, bb.eq, w3, go_sem, Hold.p, HoldK.k, HoldL.K, HoldL.body, Nat.reduceBEq, Nat.reduceAdd, List.getElem?_cons_zero, List.getElem?_cons_succ, Option.bind_some, List.map_cons, List.map_nil, Nat.zero_add, if_true, List.getD_cons_zero, List.getD_cons_succ, List.contains_cons, List.contains_nil, Nat.reduceBEq, Bool.or_true, Bool.true_or, Bool.or_false, Bool.false_or, Bool.not_true, Bool.not_false, true_and, and_true, rowA_whole, push_n, set_n, push_obj, set_obj, set_push, set_push_ne, set_set, Nat.add_assoc, Nat.left_eq_add, Nat.add_eq_left, Nat.add_left_cancel_iff, Nat.reduceEqDiff, stO_1s, stO_ws, boxA_s, one_bool, one_int, one_str, one_ptr, one_nilptr, one_slice, one_eslice, one_nilslice, one_func, one_iface, one_niliface, List.all_cons, List.all_nil, List.length_cons, List.length_nil, Nat.reduceLT, Nat.reduceEqDiff, Nat.reduceLeDiff, Bool.and_true, Nat.one_ne_zero, Nat.succ_ne_zero, reduceIte, if_false, List.getElem?_cons_zero, List.set_cons_zero, List.set_cons_succ]
      refine either_of ?_ ?_
      · simp only [i1, go_sem, Hold.p, HoldK.k, HoldL.K, HoldL.body, Nat.reduceBEq, Nat.reduceAdd, List.getElem?_cons_zero, List.getElem?_cons_succ, Option.bind_some, List.map_cons, List.map_nil, Nat.zero_add, if_true, List.getD_cons_zero, List.getD_cons_succ, List.contains_cons, List.contains_nil, Nat.reduceBEq, Bool.or_true, Bool.true_or, Bool.or_false, Bool.false_or, Bool.not_true, Bool.not_false, true_and, and_true, rowA_whole, push_n, set_n, push_obj, set_obj, set_push, set_push_ne, set_set, Nat.add_assoc, Nat.left_eq_add, Nat.add_eq_left, Nat.add_left_cancel_iff, Nat.reduceEqDiff, stO_1s, stO_ws, boxA_s, one_bool, one_int, one_str, one_ptr, one_nilptr, one_slice, one_eslice, one_nilslice, one_func, one_iface, one_niliface, List.all_cons, List.all_nil, List.length_cons, List.length_nil, Nat.reduceLT, Nat.reduceEqDiff, Nat.reduceLeDiff, Bool.and_true, Nat.one_ne_zero, Nat.succ_ne_zero, reduceIte, if_false, List.getElem?_cons_zero, List.set_cons_zero, List.set_cons_succ]
        refine callA_of (l03Put_c _ id 2 (by omega)) ?_
        rintro x h2 ⟨ox, E2⟩
        have bb2 := bb.ext E2
        have hn2 : (h.n = h2.n) = False := by have := E2.le; simp; omega
        simp only [i1, bb2.eq, w3, bslA_2, hn2, go_sem, Hold.p, HoldK.k, HoldL.K, HoldL.body, Nat.reduceBEq, Nat.reduceAdd, List.getElem?_cons_zero, List.getElem?_cons_succ, Option.bind_some, List.map_cons, List.map_nil, Nat.zero_add, if_true, List.getD_cons_zero, List.getD_cons_succ, List.contains_cons, List.contains_nil, Nat.reduceBEq, Bool.or_true, Bool.true_or, Bool.or_false, Bool.false_or, Bool.not_true, Bool.not_false, true_and, and_true, rowA_whole, push_n, set_n, push_obj, set_obj, set_push, set_push_ne, set_set, Nat.add_assoc, Nat.left_eq_add, Nat.add_eq_left, Nat.add_left_cancel_iff, Nat.reduceEqDiff, stO_1s, stO_ws, boxA_s, one_bool, one_int, one_str, one_ptr, one_nilptr, one_slice, one_eslice, one_nilslice, one_func, one_iface, one_niliface, List.all_cons, List.all_nil, List.length_cons, List.length_nil, Nat.reduceLT, Nat.reduceEqDiff, Nat.reduceLeDiff, Bool.and_true, Nat.one_ne_zero, Nat.succ_ne_zero, reduceIte, if_false, List.getElem?_cons_zero, List.set_cons_zero, List.set_cons_succ]
        generalize hq_g3 : IH.push h2 (IObj.rows [[IV.int .u8 1], [IV.int .u8 bc.toNat]] 5 1 false) = g3
        have e_g3 : Ext h2 g3 := by rw [← hq_g3]; exact (Ext.refl _).push _
        have l_g3 : g3.n = h2.n + 1 := by rw [← hq_g3]; rfl
        have ba : At g3 h2.n (IObj.rows [[IV.int .u8 1], [IV.int .u8 bc.toNat]] 5 1 false) := by rw [← hq_g3]; exact At.new _ _
        clear hq_g3
        have ox := ox.ext e_g3
        have bb2 := bb2.ext e_g3
        have hy : SlR g3 1 (.slice h2.n 0 2) (strRows [1, bc]) := SlR.whole ba.eq rfl ba.lt
        refine callA_of (l01Join_c _ _ _ _ _ ox.sl hy (by rw [beB_len]; omega) (by simp)) ?_
        rintro v3 h3 ⟨o3, E3⟩
        have E' := (E2.trans e_g3).trans E3
        have := E'.le
        unfold Bet
        simp only [i1, go_sem, Hold.p, HoldK.k, HoldL.K, HoldL.body, Nat.reduceBEq, Nat.reduceAdd, List.getElem?_cons_zero, List.getElem?_cons_succ, Option.bind_some, List.map_cons, List.map_nil, Nat.zero_add, if_true, List.getD_cons_zero, List.getD_cons_succ, List.contains_cons, List.contains_nil, Nat.reduceBEq, Bool.or_true, Bool.true_or, Bool.or_false, Bool.false_or, Bool.not_true, Bool.not_false, true_and, and_true, rowA_whole, push_n, set_n, push_obj, set_obj, set_push, set_push_ne, set_set, Nat.add_assoc, Nat.left_eq_add, Nat.add_eq_left, Nat.add_left_cancel_iff, Nat.reduceEqDiff, stO_1s, stO_ws, boxA_s, one_bool, one_int, one_str, one_ptr, one_nilptr, one_slice, one_eslice, one_nilslice, one_func, one_iface, one_niliface, List.all_cons, List.all_nil, List.length_cons, List.length_nil, Nat.reduceLT, Nat.reduceEqDiff, Nat.reduceLeDiff, Bool.and_true, Nat.one_ne_zero, Nat.succ_ne_zero, reduceIte, if_false, List.getElem?_cons_zero, List.set_cons_zero, List.set_cons_succ]
        exact ⟨v3, rfl, o3.wide (by have := (E2.trans e_g3).le; omega) (by omega) (Nat.le_refl _), E'⟩
      · have hn2 : (h.n = g.n) = False := by simp; omega
        simp only [i1, bb.eq, w3, bslA_2, hn2, go_sem, Hold.p, HoldK.k, HoldL.K, HoldL.body, Nat.reduceBEq, Nat.reduceAdd, List.getElem?_cons_zero, List.getElem?_cons_succ, Option.bind_some, List.map_cons, List.map_nil, Nat.zero_add, if_true, List.getD_cons_zero, List.getD_cons_succ, List.contains_cons, List.contains_nil, Nat.reduceBEq, Bool.or_true, Bool.true_or, Bool.or_false, Bool.false_or, Bool.not_true, Bool.not_false, true_and, and_true, rowA_whole, push_n, set_n, push_obj, set_obj, set_push, set_push_ne, set_set, Nat.add_assoc, Nat.left_eq_add, Nat.add_eq_left, Nat.add_left_cancel_iff, Nat.reduceEqDiff, stO_1s, stO_ws, boxA_s, one_bool, one_int, one_str, one_ptr, one_nilptr, one_slice, one_eslice, one_nilslice, one_func, one_iface, one_niliface, List.all_cons, List.all_nil, List.length_cons, List.length_nil, Nat.reduceLT, Nat.reduceEqDiff, Nat.reduceLeDiff, Bool.and_true, Nat.one_ne_zero, Nat.succ_ne_zero, reduceIte, if_false, List.getElem?_cons_zero, List.set_cons_zero, List.set_cons_succ]
        generalize hq_g3 : IH.push g (IObj.rows [[IV.int .u8 1], [IV.int .u8 bc.toNat]] 5 1 false) = g3
        have e_g3 : Ext g g3 := by rw [← hq_g3]; exact (Ext.refl _).push _
        have l_g3 : g3.n = g.n + 1 := by rw [← hq_g3]; rfl
        have ba : At g3 g.n (IObj.rows [[IV.int .u8 1], [IV.int .u8 bc.toNat]] 5 1 false) := by rw [← hq_g3]; exact At.new _ _
        clear hq_g3
        have bb := bb.ext e_g3
        refine callA_of (l03Put_c _ id 2 (by omega)) ?_
        rintro x h2 ⟨ox, E2⟩
        have bb := bb.ext E2
        have ba := ba.ext E2
        have le_E2 := E2.le
        have hy : SlR h2 1 (.slice g.n 0 2) (strRows [1, bc]) := SlR.whole ba.eq rfl ba.lt
        simp only [i1, bb.eq, w3, go_sem, Hold.p, HoldK.k, HoldL.K, HoldL.body, Nat.reduceBEq, Nat.reduceAdd, List.getElem?_cons_zero, List.getElem?_cons_succ, Option.bind_some, List.map_cons, List.map_nil, Nat.zero_add, if_true, List.getD_cons_zero, List.getD_cons_succ, List.contains_cons, List.contains_nil, Nat.reduceBEq, Bool.or_true, Bool.true_or, Bool.or_false, Bool.false_or, Bool.not_true, Bool.not_false, true_and, and_true, rowA_whole, push_n, set_n, push_obj, set_obj, set_push, set_push_ne, set_set, Nat.add_assoc, Nat.left_eq_add, Nat.add_eq_left, Nat.add_left_cancel_iff, Nat.reduceEqDiff, stO_1s, stO_ws, boxA_s, one_bool, one_int, one_str, one_ptr, one_nilptr, one_slice, one_eslice, one_nilslice, one_func, one_iface, one_niliface, List.all_cons, List.all_nil, List.length_cons, List.length_nil, Nat.reduceLT, Nat.reduceEqDiff, Nat.reduceLeDiff, Bool.and_true, Nat.one_ne_zero, Nat.succ_ne_zero, reduceIte, if_false, List.getElem?_cons_zero, List.set_cons_zero, List.set_cons_succ]
        refine callA_of (l01Join_c _ _ _ _ _ ox.sl hy (by rw [beB_len]; omega) (by simp)) ?_
        rintro v3 h3 ⟨o3, E3⟩
        have E' := (e_g3.trans E2).trans E3
        have := E'.le
        unfold Bet
        simp only [i1, go_sem, Hold.p, HoldK.k, HoldL.K, HoldL.body, Nat.reduceBEq, Nat.reduceAdd, List.getElem?_cons_zero, List.getElem?_cons_succ, Option.bind_some, List.map_cons, List.map_nil, Nat.zero_add, if_true, List.getD_cons_zero, List.getD_cons_succ, List.contains_cons, List.contains_nil, Nat.reduceBEq, Bool.or_true, Bool.true_or, Bool.or_false, Bool.false_or, Bool.not_true, Bool.not_false, true_and, and_true, rowA_whole, push_n, set_n, push_obj, set_obj, set_push, set_push_ne, set_set, Nat.add_assoc, Nat.left_eq_add, Nat.add_eq_left, Nat.add_left_cancel_iff, Nat.reduceEqDiff, stO_1s, stO_ws, boxA_s, one_bool, one_int, one_str, one_ptr, one_nilptr, one_slice, one_eslice, one_nilslice, one_func, one_iface, one_niliface, List.all_cons, List.all_nil, List.length_cons, List.length_nil, Nat.reduceLT, Nat.reduceEqDiff, Nat.reduceLeDiff, Bool.and_true, Nat.one_ne_zero, Nat.succ_ne_zero, reduceIte, if_false, List.getElem?_cons_zero, List.set_cons_zero, List.set_cons_succ]
        exact ⟨v3, rfl, o3.wide (by have := (e_g3.trans E2).le; omega) (by omega) (Nat.le_refl _), E'⟩
    rintro e g2 ⟨x, i1, i4, ox, E2⟩
    refine vc_cut (Bet g h.n ((beB 2 id ++ [1, bc]) ++ beB 4 ttl ++ [UInt8.ofNat nm.length])) ?_ ?_
    · have hlen := (hs.ext E2).lenF
      rw [intRows_len] at hlen
      have bb := bb.ext E2
      have l2 := E2.le
      have fin : ∀ (z : IV) (g' : IH) (lo : Nat), g.n ≤ lo → Ext g g' → Own lo g'.n g' 5 1 z (strRows ((beB 2 id ++ [1, bc]) ++ beB 4 ttl ++ [UInt8.ofNat nm.length])) → Own g.n g'.n g' 5 1 z (strRows ((beB 2 id ++ [1, bc]) ++ beB 4 ttl ++ [UInt8.ofNat nm.length])) ∧ Ext g g' := fun z g' lo h1 h2 h3 => ⟨h3.wide h1 (Nat.le_refl _) (Nat.le_refl _), h2⟩
      have hbl : (beB 2 id ++ [1, bc]).length = 4 := by simp [beB_len] <;> omega
      simp only [i1, i4, bb.eq, w1, w2, hlen, go_sem, Hold.p, HoldK.k, HoldL.K, HoldL.body, Nat.reduceBEq, Nat.reduceAdd, List.getElem?_cons_zero, List.getElem?_cons_succ, Option.bind_some, List.map_cons, List.map_nil, Nat.zero_add, if_true, List.getD_cons_zero, List.getD_cons_succ, List.contains_cons, List.contains_nil, Nat.reduceBEq, Bool.or_true, Bool.true_or, Bool.or_false, Bool.false_or, Bool.not_true, Bool.not_false, true_and, and_true, rowA_whole, push_n, set_n, push_obj, set_obj, set_push, set_push_ne, set_set, Nat.add_assoc, Nat.left_eq_add, Nat.add_eq_left, Nat.add_left_cancel_iff, Nat.reduceEqDiff, stO_1s, stO_ws, boxA_s, one_bool, one_int, one_str, one_ptr, one_nilptr, one_slice, one_eslice, one_nilslice, one_func, one_iface, one_niliface, List.all_cons, List.all_nil, List.length_cons, List.length_nil, Nat.reduceLT, Nat.reduceEqDiff, Nat.reduceLeDiff, Bool.and_true, Nat.one_ne_zero, Nat.succ_ne_zero, reduceIte, if_false, List.getElem?_cons_zero, List.set_cons_zero, List.set_cons_succ]
      refine either_of ?_ ?_
      · skip
        try simp only [i1, i4, bb.eq, w1, w2, hlen, bslA_1, s2bA_some hne (Nat.le_trans hl (by omega)), go_sem, Hold.p, HoldK.k, HoldL.K, HoldL.body, Nat.reduceBEq, Nat.reduceAdd, List.getElem?_cons_zero, List.getElem?_cons_succ, Option.bind_some, List.map_cons, List.map_nil, Nat.zero_add, if_true, List.getD_cons_zero, List.getD_cons_succ, List.contains_cons, List.contains_nil, Nat.reduceBEq, Bool.or_true, Bool.true_or, Bool.or_false, Bool.false_or, Bool.not_true, Bool.not_false, true_and, and_true, rowA_whole, push_n, set_n, push_obj, set_obj, set_push, set_push_ne, set_set, Nat.add_assoc, Nat.left_eq_add, Nat.add_eq_left, Nat.add_left_cancel_iff, Nat.reduceEqDiff, stO_1s, stO_ws, boxA_s, one_bool, one_int, one_str, one_ptr, one_nilptr, one_slice, one_eslice, one_nilslice, one_func, one_iface, one_niliface, List.all_cons, List.all_nil, List.length_cons, List.length_nil, Nat.reduceLT, Nat.reduceEqDiff, Nat.reduceLeDiff, Bool.and_true, Nat.one_ne_zero, Nat.succ_ne_zero, reduceIte, if_false, List.getElem?_cons_zero, List.set_cons_zero, List.set_cons_succ]
        refine callA_of (l03Put_c _ ttl 4 (by omega)) ?_
        rintro y hA ⟨oy, EA⟩
        have hy := oy.sl
        have bb := bb.ext EA
        have ox := ox.ext EA
        have le_EA := EA.le
        try simp only [i1, i4, bb.eq, w1, w2, hlen, bslA_1, s2bA_some hne (Nat.le_trans hl (by omega)), go_sem, Hold.p, HoldK.k, HoldL.K, HoldL.body, Nat.reduceBEq, Nat.reduceAdd, List.getElem?_cons_zero, List.getElem?_cons_succ, Option.bind_some, List.map_cons, List.map_nil, Nat.zero_add, if_true, List.getD_cons_zero, List.getD_cons_succ, List.contains_cons, List.contains_nil, Nat.reduceBEq, Bool.or_true, Bool.true_or, Bool.or_false, Bool.false_or, Bool.not_true, Bool.not_false, true_and, and_true, rowA_whole, push_n, set_n, push_obj, set_obj, set_push, set_push_ne, set_set, Nat.add_assoc, Nat.left_eq_add, Nat.add_eq_left, Nat.add_left_cancel_iff, Nat.reduceEqDiff, stO_1s, stO_ws, boxA_s, one_bool, one_int, one_str, one_ptr, one_nilptr, one_slice, one_eslice, one_nilslice, one_func, one_iface, one_niliface, List.all_cons, List.all_nil, List.length_cons, List.length_nil, Nat.reduceLT, Nat.reduceEqDiff, Nat.reduceLeDiff, Bool.and_true, Nat.one_ne_zero, Nat.succ_ne_zero, reduceIte, if_false, List.getElem?_cons_zero, List.set_cons_zero, List.set_cons_succ]
        refine either_of ?_ ?_
        · skip
          try simp only [i1, i4, bb.eq, w1, w2, hlen, bslA_1, s2bA_some hne (Nat.le_trans hl (by omega)), go_sem, Hold.p, HoldK.k, HoldL.K, HoldL.body, Nat.reduceBEq, Nat.reduceAdd, List.getElem?_cons_zero, List.getElem?_cons_succ, Option.bind_some, List.map_cons, List.map_nil, Nat.zero_add, if_true, List.getD_cons_zero, List.getD_cons_succ, List.contains_cons, List.contains_nil, Nat.reduceBEq, Bool.or_true, Bool.true_or, Bool.or_false, Bool.false_or, Bool.not_true, Bool.not_false, true_and, and_true, rowA_whole, push_n, set_n, push_obj, set_obj, set_push, set_push_ne, set_set, Nat.add_assoc, Nat.left_eq_add, Nat.add_eq_left, Nat.add_left_cancel_iff, Nat.reduceEqDiff, stO_1s, stO_ws, boxA_s, one_bool, one_int, one_str, one_ptr, one_nilptr, one_slice, one_eslice, one_nilslice, one_func, one_iface, one_niliface, List.all_cons, List.all_nil, List.length_cons, List.length_nil, Nat.reduceLT, Nat.reduceEqDiff, Nat.reduceLeDiff, Bool.and_true, Nat.one_ne_zero, Nat.succ_ne_zero, reduceIte, if_false, List.getElem?_cons_zero, List.set_cons_zero, List.set_cons_succ]
          refine callA_of (l01Join_c _ _ _ _ _ ox.sl hy (by rw [hbl]; omega) (by rw [beB_len]; omega)) ?_
          rintro z hB' ⟨oz, EB⟩
          have bb := bb.ext EB
          have le_EB := EB.le
          have hnq : (h.n = hB'.n) = False := by simp; omega
          try simp only [i1, i4, bb.eq, w1, w2, hlen, bslA_1, s2bA_some hne (Nat.le_trans hl (by omega)), hnq, go_sem, Hold.p, HoldK.k, HoldL.K, HoldL.body, Nat.reduceBEq, Nat.reduceAdd, List.getElem?_cons_zero, List.getElem?_cons_succ, Option.bind_some, List.map_cons, List.map_nil, Nat.zero_add, if_true, List.getD_cons_zero, List.getD_cons_succ, List.contains_cons, List.contains_nil, Nat.reduceBEq, Bool.or_true, Bool.true_or, Bool.or_false, Bool.false_or, Bool.not_true, Bool.not_false, true_and, and_true, rowA_whole, push_n, set_n, push_obj, set_obj, set_push, set_push_ne, set_set, Nat.add_assoc, Nat.left_eq_add, Nat.add_eq_left, Nat.add_left_cancel_iff, Nat.reduceEqDiff, stO_1s, stO_ws, boxA_s, one_bool, one_int, one_str, one_ptr, one_nilptr, one_slice, one_eslice, one_nilslice, one_func, one_iface, one_niliface, List.all_cons, List.all_nil, List.length_cons, List.length_nil, Nat.reduceLT, Nat.reduceEqDiff, Nat.reduceLeDiff, Bool.and_true, Nat.one_ne_zero, Nat.succ_ne_zero, reduceIte, if_false, List.getElem?_cons_zero, List.set_cons_zero, List.set_cons_succ]
          generalize hq_hC : IH.push hB' (IObj.rows [[IV.int .u8 (UInt8.ofNat nm.length).toNat]] 5 1 false) = hC
          have e_hC : Ext hB' hC := by rw [← hq_hC]; exact (Ext.refl _).push _
          have l_hC : hC.n = hB'.n + 1 := by rw [← hq_hC]; rfl
          have bw : At hC hB'.n (IObj.rows [[IV.int .u8 (UInt8.ofNat nm.length).toNat]] 5 1 false) := by rw [← hq_hC]; exact At.new _ _
          clear hq_hC
          have bb := bb.ext e_hC
          have oz := oz.ext e_hC
          have hw : SlR hC 1 (.slice hB'.n 0 1) (strRows [UInt8.ofNat nm.length]) := SlR.whole bw.eq rfl bw.lt
          clear bw
          try simp only [i1, i4, bb.eq, w1, w2, hlen, bslA_1, s2bA_some hne (Nat.le_trans hl (by omega)), go_sem, Hold.p, HoldK.k, HoldL.K, HoldL.body, Nat.reduceBEq, Nat.reduceAdd, List.getElem?_cons_zero, List.getElem?_cons_succ, Option.bind_some, List.map_cons, List.map_nil, Nat.zero_add, if_true, List.getD_cons_zero, List.getD_cons_succ, List.contains_cons, List.contains_nil, Nat.reduceBEq, Bool.or_true, Bool.true_or, Bool.or_false, Bool.false_or, Bool.not_true, Bool.not_false, true_and, and_true, rowA_whole, push_n, set_n, push_obj, set_obj, set_push, set_push_ne, set_set, Nat.add_assoc, Nat.left_eq_add, Nat.add_eq_left, Nat.add_left_cancel_iff, Nat.reduceEqDiff, stO_1s, stO_ws, boxA_s, one_bool, one_int, one_str, one_ptr, one_nilptr, one_slice, one_eslice, one_nilslice, one_func, one_iface, one_niliface, List.all_cons, List.all_nil, List.length_cons, List.length_nil, Nat.reduceLT, Nat.reduceEqDiff, Nat.reduceLeDiff, Bool.and_true, Nat.one_ne_zero, Nat.succ_ne_zero, reduceIte, if_false, List.getElem?_cons_zero, List.set_cons_zero, List.set_cons_succ]
          refine callA_of (l01Join_c _ _ _ _ _ oz.sl hw (by rw [List.length_append, hbl]; have : (beB 4 ttl).length ≤ 1000 := (by rw [beB_len]; omega); omega) (by simp)) ?_
          rintro zz hD ⟨oD, ED⟩
          have EE := (((E2.trans EA).trans EB).trans e_hC).trans ED
          have lEE := EE.le
          unfold Bet
          simp only [i1, go_sem, Hold.p, HoldK.k, HoldL.K, HoldL.body, Nat.reduceBEq, Nat.reduceAdd, List.getElem?_cons_zero, List.getElem?_cons_succ, Option.bind_some, List.map_cons, List.map_nil, Nat.zero_add, if_true, List.getD_cons_zero, List.getD_cons_succ, List.contains_cons, List.contains_nil, Nat.reduceBEq, Bool.or_true, Bool.true_or, Bool.or_false, Bool.false_or, Bool.not_true, Bool.not_false, true_and, and_true, rowA_whole, push_n, set_n, push_obj, set_obj, set_push, set_push_ne, set_set, Nat.add_assoc, Nat.left_eq_add, Nat.add_eq_left, Nat.add_left_cancel_iff, Nat.reduceEqDiff, stO_1s, stO_ws, boxA_s, one_bool, one_int, one_str, one_ptr, one_nilptr, one_slice, one_eslice, one_nilslice, one_func, one_iface, one_niliface, List.all_cons, List.all_nil, List.length_cons, List.length_nil, Nat.reduceLT, Nat.reduceEqDiff, Nat.reduceLeDiff, Bool.and_true, Nat.one_ne_zero, Nat.succ_ne_zero, reduceIte, if_false, List.getElem?_cons_zero, List.set_cons_zero, List.set_cons_succ]
          exact ⟨zz, rfl, fin _ _ _ (by omega) EE oD⟩
        · skip
          have hnq : (h.n = hA.n) = False := by simp; omega
          try simp only [i1, i4, bb.eq, w1, w2, hlen, bslA_1, s2bA_some hne (Nat.le_trans hl (by omega)), hnq, go_sem, Hold.p, HoldK.k, HoldL.K, HoldL.body, Nat.reduceBEq, Nat.reduceAdd, List.getElem?_cons_zero, List.getElem?_cons_succ, Option.bind_some, List.map_cons, List.map_nil, Nat.zero_add, if_true, List.getD_cons_zero, List.getD_cons_succ, List.contains_cons, List.contains_nil, Nat.reduceBEq, Bool.or_true, Bool.true_or, Bool.or_false, Bool.false_or, Bool.not_true, Bool.not_false, true_and, and_true, rowA_whole, push_n, set_n, push_obj, set_obj, set_push, set_push_ne, set_set, Nat.add_assoc, Nat.left_eq_add, Nat.add_eq_left, Nat.add_left_cancel_iff, Nat.reduceEqDiff, stO_1s, stO_ws, boxA_s, one_bool, one_int, one_str, one_ptr, one_nilptr, one_slice, one_eslice, one_nilslice, one_func, one_iface, one_niliface, List.all_cons, List.all_nil, List.length_cons, List.length_nil, Nat.reduceLT, Nat.reduceEqDiff, Nat.reduceLeDiff, Bool.and_true, Nat.one_ne_zero, Nat.succ_ne_zero, reduceIte, if_false, List.getElem?_cons_zero, List.set_cons_zero, List.set_cons_succ]
          generalize hq_hC : IH.push hA (IObj.rows [[IV.int .u8 (UInt8.ofNat nm.length).toNat]] 5 1 false) = hC
          have e_hC : Ext hA hC := by rw [← hq_hC]; exact (Ext.refl _).push _
          have l_hC : hC.n = hA.n + 1 := by rw [← hq_hC]; rfl
          have bw : At hC hA.n (IObj.rows [[IV.int .u8 (UInt8.ofNat nm.length).toNat]] 5 1 false) := by rw [← hq_hC]; exact At.new _ _
          clear hq_hC
          have bb := bb.ext e_hC
          have ox := ox.ext e_hC
          have hy := hy.ext e_hC
          have hw : SlR hC 1 (.slice hA.n 0 1) (strRows [UInt8.ofNat nm.length]) := SlR.whole bw.eq rfl bw.lt
          clear bw
          try simp only [i1, i4, bb.eq, w1, w2, hlen, bslA_1, s2bA_some hne (Nat.le_trans hl (by omega)), go_sem, Hold.p, HoldK.k, HoldL.K, HoldL.body, Nat.reduceBEq, Nat.reduceAdd, List.getElem?_cons_zero, List.getElem?_cons_succ, Option.bind_some, List.map_cons, List.map_nil, Nat.zero_add, if_true, List.getD_cons_zero, List.getD_cons_succ, List.contains_cons, List.contains_nil, Nat.reduceBEq, Bool.or_true, Bool.true_or, Bool.or_false, Bool.false_or, Bool.not_true, Bool.not_false, true_and, and_true, rowA_whole, push_n, set_n, push_obj, set_obj, set_push, set_push_ne, set_set, Nat.add_assoc, Nat.left_eq_add, Nat.add_eq_left, Nat.add_left_cancel_iff, Nat.reduceEqDiff, stO_1s, stO_ws, boxA_s, one_bool, one_int, one_str, one_ptr, one_nilptr, one_slice, one_eslice, one_nilslice, one_func, one_iface, one_niliface, List.all_cons, List.all_nil, List.length_cons, List.length_nil, Nat.reduceLT, Nat.reduceEqDiff, Nat.reduceLeDiff, Bool.and_true, Nat.one_ne_zero, Nat.succ_ne_zero, reduceIte, if_false, List.getElem?_cons_zero, List.set_cons_zero, List.set_cons_succ]
          refine callA_of (l01Join_c _ _ _ _ _ ox.sl hy (by rw [hbl]; omega) (by rw [beB_len]; omega)) ?_
          rintro z hB' ⟨oz, EB⟩
          have bb := bb.ext EB
          have hw := hw.ext EB
          have le_EB := EB.le
          try simp only [i1, i4, bb.eq, w1, w2, hlen, bslA_1, s2bA_some hne (Nat.le_trans hl (by omega)), go_sem, Hold.p, HoldK.k, HoldL.K, HoldL.body, Nat.reduceBEq, Nat.reduceAdd, List.getElem?_cons_zero, List.getElem?_cons_succ, Option.bind_some, List.map_cons, List.map_nil, Nat.zero_add, if_true, List.getD_cons_zero, List.getD_cons_succ, List.contains_cons, List.contains_nil, Nat.reduceBEq, Bool.or_true, Bool.true_or, Bool.or_false, Bool.false_or, Bool.not_true, Bool.not_false, true_and, and_true, rowA_whole, push_n, set_n, push_obj, set_obj, set_push, set_push_ne, set_set, Nat.add_assoc, Nat.left_eq_add, Nat.add_eq_left, Nat.add_left_cancel_iff, Nat.reduceEqDiff, stO_1s, stO_ws, boxA_s, one_bool, one_int, one_str, one_ptr, one_nilptr, one_slice, one_eslice, one_nilslice, one_func, one_iface, one_niliface, List.all_cons, List.all_nil, List.length_cons, List.length_nil, Nat.reduceLT, Nat.reduceEqDiff, Nat.reduceLeDiff, Bool.and_true, Nat.one_ne_zero, Nat.succ_ne_zero, reduceIte, if_false, List.getElem?_cons_zero, List.set_cons_zero, List.set_cons_succ]
          refine callA_of (l01Join_c _ _ _ _ _ oz.sl hw (by rw [List.length_append, hbl]; have : (beB 4 ttl).length ≤ 1000 := (by rw [beB_len]; omega); omega) (by simp)) ?_
          rintro zz hD ⟨oD, ED⟩
          have EE := (((E2.trans EA).trans e_hC).trans EB).trans ED
          have lEE := EE.le
          unfold Bet
          simp only [i1, go_sem, Hold.p, HoldK.k, HoldL.K, HoldL.body, Nat.reduceBEq, Nat.reduceAdd, List.getElem?_cons_zero, List.getElem?_cons_succ, Option.bind_some, List.map_cons, List.map_nil, Nat.zero_add, if_true, List.getD_cons_zero, List.getD_cons_succ, List.contains_cons, List.contains_nil, Nat.reduceBEq, Bool.or_true, Bool.true_or, Bool.or_false, Bool.false_or, Bool.not_true, Bool.not_false, true_and, and_true, rowA_whole, push_n, set_n, push_obj, set_obj, set_push, set_push_ne, set_set, Nat.add_assoc, Nat.left_eq_add, Nat.add_eq_left, Nat.add_left_cancel_iff, Nat.reduceEqDiff, stO_1s, stO_ws, boxA_s, one_bool, one_int, one_str, one_ptr, one_nilptr, one_slice, one_eslice, one_nilslice, one_func, one_iface, one_niliface, List.all_cons, List.all_nil, List.length_cons, List.length_nil, Nat.reduceLT, Nat.reduceEqDiff, Nat.reduceLeDiff, Bool.and_true, Nat.one_ne_zero, Nat.succ_ne_zero, reduceIte, if_false, List.getElem?_cons_zero, List.set_cons_zero, List.set_cons_succ]
          exact ⟨zz, rfl, fin _ _ _ (by omega) EE oD⟩
      · skip
        have hnr : (h.n = g2.n + 1) = False := by simp; omega
        have hnq : (h.n = g2.n) = False := by simp; omega
        try simp only [i1, i4, bb.eq, w1, w2, hlen, bslA_1, s2bA_some hne (Nat.le_trans hl (by omega)), hnr, hnq, go_sem, Hold.p, HoldK.k, HoldL.K, HoldL.body, Nat.reduceBEq, Nat.reduceAdd, List.getElem?_cons_zero, List.getElem?_cons_succ, Option.bind_some, List.map_cons, List.map_nil, Nat.zero_add, if_true, List.getD_cons_zero, List.getD_cons_succ, List.contains_cons, List.contains_nil, Nat.reduceBEq, Bool.or_true, Bool.true_or, Bool.or_false, Bool.false_or, Bool.not_true, Bool.not_false, true_and, and_true, rowA_whole, push_n, set_n, push_obj, set_obj, set_push, set_push_ne, set_set, Nat.add_assoc, Nat.left_eq_add, Nat.add_eq_left, Nat.add_left_cancel_iff, Nat.reduceEqDiff, stO_1s, stO_ws, boxA_s, one_bool, one_int, one_str, one_ptr, one_nilptr, one_slice, one_eslice, one_nilslice, one_func, one_iface, one_niliface, List.all_cons, List.all_nil, List.length_cons, List.length_nil, Nat.reduceLT, Nat.reduceEqDiff, Nat.reduceLeDiff, Bool.and_true, Nat.one_ne_zero, Nat.succ_ne_zero, reduceIte, if_false, List.getElem?_cons_zero, List.set_cons_zero, List.set_cons_succ]
        generalize hq_hC : IH.push g2 (IObj.rows [[IV.int .u8 (UInt8.ofNat nm.length).toNat]] 5 1 false) = hC
        have e_hC : Ext g2 hC := by rw [← hq_hC]; exact (Ext.refl _).push _
        have l_hC : hC.n = g2.n + 1 := by rw [← hq_hC]; rfl
        have bw : At hC g2.n (IObj.rows [[IV.int .u8 (UInt8.ofNat nm.length).toNat]] 5 1 false) := by rw [← hq_hC]; exact At.new _ _
        clear hq_hC
        have bb := bb.ext e_hC
        have ox := ox.ext e_hC
        have hw : SlR hC 1 (.slice g2.n 0 1) (strRows [UInt8.ofNat nm.length]) := SlR.whole bw.eq rfl bw.lt
        clear bw
        try simp only [i1, i4, bb.eq, w1, w2, hlen, bslA_1, s2bA_some hne (Nat.le_trans hl (by omega)), hnr, go_sem, Hold.p, HoldK.k, HoldL.K, HoldL.body, Nat.reduceBEq, Nat.reduceAdd, List.getElem?_cons_zero, List.getElem?_cons_succ, Option.bind_some, List.map_cons, List.map_nil, Nat.zero_add, if_true, List.getD_cons_zero, List.getD_cons_succ, List.contains_cons, List.contains_nil, Nat.reduceBEq, Bool.or_true, Bool.true_or, Bool.or_false, Bool.false_or, Bool.not_true, Bool.not_false, true_and, and_true, rowA_whole, push_n, set_n, push_obj, set_obj, set_push, set_push_ne, set_set, Nat.add_assoc, Nat.left_eq_add, Nat.add_eq_left, Nat.add_left_cancel_iff, Nat.reduceEqDiff, stO_1s, stO_ws, boxA_s, one_bool, one_int, one_str, one_ptr, one_nilptr, one_slice, one_eslice, one_nilslice, one_func, one_iface, one_niliface, List.all_cons, List.all_nil, List.length_cons, List.length_nil, Nat.reduceLT, Nat.reduceEqDiff, Nat.reduceLeDiff, Bool.and_true, Nat.one_ne_zero, Nat.succ_ne_zero, reduceIte, if_false, List.getElem?_cons_zero, List.set_cons_zero, List.set_cons_succ]
        refine callA_of (l03Put_c _ ttl 4 (by omega)) ?_
        rintro y hA ⟨oy, EA⟩
        have hy := oy.sl
        have bb := bb.ext EA
        have ox := ox.ext EA
        have hw := hw.ext EA
        have le_EA := EA.le
        try simp only [i1, i4, bb.eq, w1, w2, hlen, bslA_1, s2bA_some hne (Nat.le_trans hl (by omega)), hnr, go_sem, Hold.p, HoldK.k, HoldL.K, HoldL.body, Nat.reduceBEq, Nat.reduceAdd, List.getElem?_cons_zero, List.getElem?_cons_succ, Option.bind_some, List.map_cons, List.map_nil, Nat.zero_add, if_true, List.getD_cons_zero, List.getD_cons_succ, List.contains_cons, List.contains_nil, Nat.reduceBEq, Bool.or_true, Bool.true_or, Bool.or_false, Bool.false_or, Bool.not_true, Bool.not_false, true_and, and_true, rowA_whole, push_n, set_n, push_obj, set_obj, set_push, set_push_ne, set_set, Nat.add_assoc, Nat.left_eq_add, Nat.add_eq_left, Nat.add_left_cancel_iff, Nat.reduceEqDiff, stO_1s, stO_ws, boxA_s, one_bool, one_int, one_str, one_ptr, one_nilptr, one_slice, one_eslice, one_nilslice, one_func, one_iface, one_niliface, List.all_cons, List.all_nil, List.length_cons, List.length_nil, Nat.reduceLT, Nat.reduceEqDiff, Nat.reduceLeDiff, Bool.and_true, Nat.one_ne_zero, Nat.succ_ne_zero, reduceIte, if_false, List.getElem?_cons_zero, List.set_cons_zero, List.set_cons_succ]
        refine callA_of (l01Join_c _ _ _ _ _ ox.sl hy (by rw [hbl]; omega) (by rw [beB_len]; omega)) ?_
        rintro z hB' ⟨oz, EB⟩
        have bb := bb.ext EB
        have hw := hw.ext EB
        have le_EB := EB.le
        try simp only [i1, i4, bb.eq, w1, w2, hlen, bslA_1, s2bA_some hne (Nat.le_trans hl (by omega)), hnr, go_sem, Hold.p, HoldK.k, HoldL.K, HoldL.body, Nat.reduceBEq, Nat.reduceAdd, List.getElem?_cons_zero, List.getElem?_cons_succ, Option.bind_some, List.map_cons, List.map_nil, Nat.zero_add, if_true, List.getD_cons_zero, List.getD_cons_succ, List.contains_cons, List.contains_nil, Nat.reduceBEq, Bool.or_true, Bool.true_or, Bool.or_false, Bool.false_or, Bool.not_true, Bool.not_false, true_and, and_true, rowA_whole, push_n, set_n, push_obj, set_obj, set_push, set_push_ne, set_set, Nat.add_assoc, Nat.left_eq_add, Nat.add_eq_left, Nat.add_left_cancel_iff, Nat.reduceEqDiff, stO_1s, stO_ws, boxA_s, one_bool, one_int, one_str, one_ptr, one_nilptr, one_slice, one_eslice, one_nilslice, one_func, one_iface, one_niliface, List.all_cons, List.all_nil, List.length_cons, List.length_nil, Nat.reduceLT, Nat.reduceEqDiff, Nat.reduceLeDiff, Bool.and_true, Nat.one_ne_zero, Nat.succ_ne_zero, reduceIte, if_false, List.getElem?_cons_zero, List.set_cons_zero, List.set_cons_succ]
        refine callA_of (l01Join_c _ _ _ _ _ oz.sl hw (by rw [List.length_append, hbl]; have : (beB 4 ttl).length ≤ 1000 := (by rw [beB_len]; omega); omega) (by simp)) ?_
        rintro zz hD ⟨oD, ED⟩
        have EE := (((E2.trans e_hC).trans EA).trans EB).trans ED
        have lEE := EE.le
        unfold Bet
        simp only [i1, go_sem, Hold.p, HoldK.k, HoldL.K, HoldL.body, Nat.reduceBEq, Nat.reduceAdd, List.getElem?_cons_zero, List.getElem?_cons_succ, Option.bind_some, List.map_cons, List.map_nil, Nat.zero_add, if_true, List.getD_cons_zero, List.getD_cons_succ, List.contains_cons, List.contains_nil, Nat.reduceBEq, Bool.or_true, Bool.true_or, Bool.or_false, Bool.false_or, Bool.not_true, Bool.not_false, true_and, and_true, rowA_whole, push_n, set_n, push_obj, set_obj, set_push, set_push_ne, set_set, Nat.add_assoc, Nat.left_eq_add, Nat.add_eq_left, Nat.add_left_cancel_iff, Nat.reduceEqDiff, stO_1s, stO_ws, boxA_s, one_bool, one_int, one_str, one_ptr, one_nilptr, one_slice, one_eslice, one_nilslice, one_func, one_iface, one_niliface, List.all_cons, List.all_nil, List.length_cons, List.length_nil, Nat.reduceLT, Nat.reduceEqDiff, Nat.reduceLeDiff, Bool.and_true, Nat.one_ne_zero, Nat.succ_ne_zero, reduceIte, if_false, List.getElem?_cons_zero, List.set_cons_zero, List.set_cons_succ]
        exact ⟨zz, rfl, fin _ _ _ (by omega) EE oD⟩
    clear E2 ox i1 i4
    rintro e g2 ⟨x, i1, i4, ox, E2⟩
    refine vc_cut (Bet g h.n ((((beB 2 id ++ [1, bc]) ++ beB 4 ttl ++ [UInt8.ofNat nm.length]) ++ nm) ++ [UInt8.ofNat zs.length])) ?_ ?_
    · have hlen := (hs.ext E2).lenF
      rw [intRows_len] at hlen
      have bb := bb.ext E2
      have l2 := E2.le
      have fin : ∀ (z : IV) (g' : IH) (lo : Nat), g.n ≤ lo → Ext g g' → Own lo g'.n g' 5 1 z (strRows ((((beB 2 id ++ [1, bc]) ++ beB 4 ttl ++ [UInt8.ofNat nm.length]) ++ nm) ++ [UInt8.ofNat zs.length])) → Own g.n g'.n g' 5 1 z (strRows ((((beB 2 id ++ [1, bc]) ++ beB 4 ttl ++ [UInt8.ofNat nm.length]) ++ nm) ++ [UInt8.ofNat zs.length])) ∧ Ext g g' := fun z g' lo h1 h2 h3 => ⟨h3.wide h1 (Nat.le_refl _) (Nat.le_refl _), h2⟩
      have hbl : ((beB 2 id ++ [1, bc]) ++ beB 4 ttl ++ [UInt8.ofNat nm.length]).length = 9 := by simp [beB_len] <;> omega
      simp only [i1, i4, bb.eq, w1, w2, hlen, go_sem, Hold.p, HoldK.k, HoldL.K, HoldL.body, Nat.reduceBEq, Nat.reduceAdd, List.getElem?_cons_zero, List.getElem?_cons_succ, Option.bind_some, List.map_cons, List.map_nil, Nat.zero_add, if_true, List.getD_cons_zero, List.getD_cons_succ, List.contains_cons, List.contains_nil, Nat.reduceBEq, Bool.or_true, Bool.true_or, Bool.or_false, Bool.false_or, Bool.not_true, Bool.not_false, true_and, and_true, rowA_whole, push_n, set_n, push_obj, set_obj, set_push, set_push_ne, set_set, Nat.add_assoc, Nat.left_eq_add, Nat.add_eq_left, Nat.add_left_cancel_iff, Nat.reduceEqDiff, stO_1s, stO_ws, boxA_s, one_bool, one_int, one_str, one_ptr, one_nilptr, one_slice, one_eslice, one_nilslice, one_func, one_iface, one_niliface, List.all_cons, List.all_nil, List.length_cons, List.length_nil, Nat.reduceLT, Nat.reduceEqDiff, Nat.reduceLeDiff, Bool.and_true, Nat.one_ne_zero, Nat.succ_ne_zero, reduceIte, if_false, List.getElem?_cons_zero, List.set_cons_zero, List.set_cons_succ]
      refine either_of ?_ ?_
      · skip
        have hnq : (h.n = g2.n) = False := by simp; omega
        try simp only [i1, i4, bb.eq, w1, w2, hlen, bslA_1, s2bA_some hne (Nat.le_trans hl (by omega)), hnq, go_sem, Hold.p, HoldK.k, HoldL.K, HoldL.body, Nat.reduceBEq, Nat.reduceAdd, List.getElem?_cons_zero, List.getElem?_cons_succ, Option.bind_some, List.map_cons, List.map_nil, Nat.zero_add, if_true, List.getD_cons_zero, List.getD_cons_succ, List.contains_cons, List.contains_nil, Nat.reduceBEq, Bool.or_true, Bool.true_or, Bool.or_false, Bool.false_or, Bool.not_true, Bool.not_false, true_and, and_true, rowA_whole, push_n, set_n, push_obj, set_obj, set_push, set_push_ne, set_set, Nat.add_assoc, Nat.left_eq_add, Nat.add_eq_left, Nat.add_left_cancel_iff, Nat.reduceEqDiff, stO_1s, stO_ws, boxA_s, one_bool, one_int, one_str, one_ptr, one_nilptr, one_slice, one_eslice, one_nilslice, one_func, one_iface, one_niliface, List.all_cons, List.all_nil, List.length_cons, List.length_nil, Nat.reduceLT, Nat.reduceEqDiff, Nat.reduceLeDiff, Bool.and_true, Nat.one_ne_zero, Nat.succ_ne_zero, reduceIte, if_false, List.getElem?_cons_zero, List.set_cons_zero, List.set_cons_succ]
        generalize hq_hA : IH.push g2 (IObj.rows (strRows nm) 5 1 false) = hA
        have e_hA : Ext g2 hA := by rw [← hq_hA]; exact (Ext.refl _).push _
        have l_hA : hA.n = g2.n + 1 := by rw [← hq_hA]; rfl
        have ba : At hA g2.n (IObj.rows (strRows nm) 5 1 false) := by rw [← hq_hA]; exact At.new _ _
        clear hq_hA
        have bb := bb.ext e_hA
        have hy : SlR hA 1 (.slice g2.n 0 nm.length) (strRows nm) := SlR.whole ba.eq (strRows_len nm) ba.lt
        have EA : Ext g2 hA := e_hA
        clear ba e_hA
        have ox := ox.ext EA
        have le_EA := EA.le
        try simp only [i1, i4, bb.eq, w1, w2, hlen, bslA_1, s2bA_some hne (Nat.le_trans hl (by omega)), go_sem, Hold.p, HoldK.k, HoldL.K, HoldL.body, Nat.reduceBEq, Nat.reduceAdd, List.getElem?_cons_zero, List.getElem?_cons_succ, Option.bind_some, List.map_cons, List.map_nil, Nat.zero_add, if_true, List.getD_cons_zero, List.getD_cons_succ, List.contains_cons, List.contains_nil, Nat.reduceBEq, Bool.or_true, Bool.true_or, Bool.or_false, Bool.false_or, Bool.not_true, Bool.not_false, true_and, and_true, rowA_whole, push_n, set_n, push_obj, set_obj, set_push, set_push_ne, set_set, Nat.add_assoc, Nat.left_eq_add, Nat.add_eq_left, Nat.add_left_cancel_iff, Nat.reduceEqDiff, stO_1s, stO_ws, boxA_s, one_bool, one_int, one_str, one_ptr, one_nilptr, one_slice, one_eslice, one_nilslice, one_func, one_iface, one_niliface, List.all_cons, List.all_nil, List.length_cons, List.length_nil, Nat.reduceLT, Nat.reduceEqDiff, Nat.reduceLeDiff, Bool.and_true, Nat.one_ne_zero, Nat.succ_ne_zero, reduceIte, if_false, List.getElem?_cons_zero, List.set_cons_zero, List.set_cons_succ]
        refine either_of ?_ ?_
        · skip
          try simp only [i1, i4, bb.eq, w1, w2, hlen, bslA_1, s2bA_some hne (Nat.le_trans hl (by omega)), go_sem, Hold.p, HoldK.k, HoldL.K, HoldL.body, Nat.reduceBEq, Nat.reduceAdd, List.getElem?_cons_zero, List.getElem?_cons_succ, Option.bind_some, List.map_cons, List.map_nil, Nat.zero_add, if_true, List.getD_cons_zero, List.getD_cons_succ, List.contains_cons, List.contains_nil, Nat.reduceBEq, Bool.or_true, Bool.true_or, Bool.or_false, Bool.false_or, Bool.not_true, Bool.not_false, true_and, and_true, rowA_whole, push_n, set_n, push_obj, set_obj, set_push, set_push_ne, set_set, Nat.add_assoc, Nat.left_eq_add, Nat.add_eq_left, Nat.add_left_cancel_iff, Nat.reduceEqDiff, stO_1s, stO_ws, boxA_s, one_bool, one_int, one_str, one_ptr, one_nilptr, one_slice, one_eslice, one_nilslice, one_func, one_iface, one_niliface, List.all_cons, List.all_nil, List.length_cons, List.length_nil, Nat.reduceLT, Nat.reduceEqDiff, Nat.reduceLeDiff, Bool.and_true, Nat.one_ne_zero, Nat.succ_ne_zero, reduceIte, if_false, List.getElem?_cons_zero, List.set_cons_zero, List.set_cons_succ]
          refine callA_of (l01Join_c _ _ _ _ _ ox.sl hy (by rw [hbl]; omega) (by omega)) ?_
          rintro z hB' ⟨oz, EB⟩
          have bb := bb.ext EB
          have le_EB := EB.le
          have hnq : (h.n = hB'.n) = False := by simp; omega
          try simp only [i1, i4, bb.eq, w1, w2, hlen, bslA_1, s2bA_some hne (Nat.le_trans hl (by omega)), hnq, go_sem, Hold.p, HoldK.k, HoldL.K, HoldL.body, Nat.reduceBEq, Nat.reduceAdd, List.getElem?_cons_zero, List.getElem?_cons_succ, Option.bind_some, List.map_cons, List.map_nil, Nat.zero_add, if_true, List.getD_cons_zero, List.getD_cons_succ, List.contains_cons, List.contains_nil, Nat.reduceBEq, Bool.or_true, Bool.true_or, Bool.or_false, Bool.false_or, Bool.not_true, Bool.not_false, true_and, and_true, rowA_whole, push_n, set_n, push_obj, set_obj, set_push, set_push_ne, set_set, Nat.add_assoc, Nat.left_eq_add, Nat.add_eq_left, Nat.add_left_cancel_iff, Nat.reduceEqDiff, stO_1s, stO_ws, boxA_s, one_bool, one_int, one_str, one_ptr, one_nilptr, one_slice, one_eslice, one_nilslice, one_func, one_iface, one_niliface, List.all_cons, List.all_nil, List.length_cons, List.length_nil, Nat.reduceLT, Nat.reduceEqDiff, Nat.reduceLeDiff, Bool.and_true, Nat.one_ne_zero, Nat.succ_ne_zero, reduceIte, if_false, List.getElem?_cons_zero, List.set_cons_zero, List.set_cons_succ]
          generalize hq_hC : IH.push hB' (IObj.rows [[IV.int .u8 (UInt8.ofNat zs.length).toNat]] 5 1 false) = hC
          have e_hC : Ext hB' hC := by rw [← hq_hC]; exact (Ext.refl _).push _
          have l_hC : hC.n = hB'.n + 1 := by rw [← hq_hC]; rfl
          have bw : At hC hB'.n (IObj.rows [[IV.int .u8 (UInt8.ofNat zs.length).toNat]] 5 1 false) := by rw [← hq_hC]; exact At.new _ _
          clear hq_hC
          have bb := bb.ext e_hC
          have oz := oz.ext e_hC
          have hw : SlR hC 1 (.slice hB'.n 0 1) (strRows [UInt8.ofNat zs.length]) := SlR.whole bw.eq rfl bw.lt
          clear bw
          try simp only [i1, i4, bb.eq, w1, w2, hlen, bslA_1, s2bA_some hne (Nat.le_trans hl (by omega)), go_sem, Hold.p, HoldK.k, HoldL.K, HoldL.body, Nat.reduceBEq, Nat.reduceAdd, List.getElem?_cons_zero, List.getElem?_cons_succ, Option.bind_some, List.map_cons, List.map_nil, Nat.zero_add, if_true, List.getD_cons_zero, List.getD_cons_succ, List.contains_cons, List.contains_nil, Nat.reduceBEq, Bool.or_true, Bool.true_or, Bool.or_false, Bool.false_or, Bool.not_true, Bool.not_false, true_and, and_true, rowA_whole, push_n, set_n, push_obj, set_obj, set_push, set_push_ne, set_set, Nat.add_assoc, Nat.left_eq_add, Nat.add_eq_left, Nat.add_left_cancel_iff, Nat.reduceEqDiff, stO_1s, stO_ws, boxA_s, one_bool, one_int, one_str, one_ptr, one_nilptr, one_slice, one_eslice, one_nilslice, one_func, one_iface, one_niliface, List.all_cons, List.all_nil, List.length_cons, List.length_nil, Nat.reduceLT, Nat.reduceEqDiff, Nat.reduceLeDiff, Bool.and_true, Nat.one_ne_zero, Nat.succ_ne_zero, reduceIte, if_false, List.getElem?_cons_zero, List.set_cons_zero, List.set_cons_succ]
          refine callA_of (l01Join_c _ _ _ _ _ oz.sl hw (by rw [List.length_append, hbl]; have : (nm).length ≤ 1000 := (by omega); omega) (by simp)) ?_
          rintro zz hD ⟨oD, ED⟩
          have EE := (((E2.trans EA).trans EB).trans e_hC).trans ED
          have lEE := EE.le
          unfold Bet
          simp only [i1, go_sem, Hold.p, HoldK.k, HoldL.K, HoldL.body, Nat.reduceBEq, Nat.reduceAdd, List.getElem?_cons_zero, List.getElem?_cons_succ, Option.bind_some, List.map_cons, List.map_nil, Nat.zero_add, if_true, List.getD_cons_zero, List.getD_cons_succ, List.contains_cons, List.contains_nil, Nat.reduceBEq, Bool.or_true, Bool.true_or, Bool.or_false, Bool.false_or, Bool.not_true, Bool.not_false, true_and, and_true, rowA_whole, push_n, set_n, push_obj, set_obj, set_push, set_push_ne, set_set, Nat.add_assoc, Nat.left_eq_add, Nat.add_eq_left, Nat.add_left_cancel_iff, Nat.reduceEqDiff, stO_1s, stO_ws, boxA_s, one_bool, one_int, one_str, one_ptr, one_nilptr, one_slice, one_eslice, one_nilslice, one_func, one_iface, one_niliface, List.all_cons, List.all_nil, List.length_cons, List.length_nil, Nat.reduceLT, Nat.reduceEqDiff, Nat.reduceLeDiff, Bool.and_true, Nat.one_ne_zero, Nat.succ_ne_zero, reduceIte, if_false, List.getElem?_cons_zero, List.set_cons_zero, List.set_cons_succ]
          exact ⟨zz, rfl, fin _ _ _ (by omega) EE oD⟩
        · skip
          have hnq : (h.n = hA.n) = False := by simp; omega
          try simp only [i1, i4, bb.eq, w1, w2, hlen, bslA_1, s2bA_some hne (Nat.le_trans hl (by omega)), hnq, go_sem, Hold.p, HoldK.k, HoldL.K, HoldL.body, Nat.reduceBEq, Nat.reduceAdd, List.getElem?_cons_zero, List.getElem?_cons_succ, Option.bind_some, List.map_cons, List.map_nil, Nat.zero_add, if_true, List.getD_cons_zero, List.getD_cons_succ, List.contains_cons, List.contains_nil, Nat.reduceBEq, Bool.or_true, Bool.true_or, Bool.or_false, Bool.false_or, Bool.not_true, Bool.not_false, true_and, and_true, rowA_whole, push_n, set_n, push_obj, set_obj, set_push, set_push_ne, set_set, Nat.add_assoc, Nat.left_eq_add, Nat.add_eq_left, Nat.add_left_cancel_iff, Nat.reduceEqDiff, stO_1s, stO_ws, boxA_s, one_bool, one_int, one_str, one_ptr, one_nilptr, one_slice, one_eslice, one_nilslice, one_func, one_iface, one_niliface, List.all_cons, List.all_nil, List.length_cons, List.length_nil, Nat.reduceLT, Nat.reduceEqDiff, Nat.reduceLeDiff, Bool.and_true, Nat.one_ne_zero, Nat.succ_ne_zero, reduceIte, if_false, List.getElem?_cons_zero, List.set_cons_zero, List.set_cons_succ]
          generalize hq_hC : IH.push hA (IObj.rows [[IV.int .u8 (UInt8.ofNat zs.length).toNat]] 5 1 false) = hC
          have e_hC : Ext hA hC := by rw [← hq_hC]; exact (Ext.refl _).push _
          have l_hC : hC.n = hA.n + 1 := by rw [← hq_hC]; rfl
          have bw : At hC hA.n (IObj.rows [[IV.int .u8 (UInt8.ofNat zs.length).toNat]] 5 1 false) := by rw [← hq_hC]; exact At.new _ _
          clear hq_hC
          have bb := bb.ext e_hC
          have ox := ox.ext e_hC
          have hy := hy.ext e_hC
          have hw : SlR hC 1 (.slice hA.n 0 1) (strRows [UInt8.ofNat zs.length]) := SlR.whole bw.eq rfl bw.lt
          clear bw
          try simp only [i1, i4, bb.eq, w1, w2, hlen, bslA_1, s2bA_some hne (Nat.le_trans hl (by omega)), go_sem, Hold.p, HoldK.k, HoldL.K, HoldL.body, Nat.reduceBEq, Nat.reduceAdd, List.getElem?_cons_zero, List.getElem?_cons_succ, Option.bind_some, List.map_cons, List.map_nil, Nat.zero_add, if_true, List.getD_cons_zero, List.getD_cons_succ, List.contains_cons, List.contains_nil, Nat.reduceBEq, Bool.or_true, Bool.true_or, Bool.or_false, Bool.false_or, Bool.not_true, Bool.not_false, true_and, and_true, rowA_whole, push_n, set_n, push_obj, set_obj, set_push, set_push_ne, set_set, Nat.add_assoc, Nat.left_eq_add, Nat.add_eq_left, Nat.add_left_cancel_iff, Nat.reduceEqDiff, stO_1s, stO_ws, boxA_s, one_bool, one_int, one_str, one_ptr, one_nilptr, one_slice, one_eslice, one_nilslice, one_func, one_iface, one_niliface, List.all_cons, List.all_nil, List.length_cons, List.length_nil, Nat.reduceLT, Nat.reduceEqDiff, Nat.reduceLeDiff, Bool.and_true, Nat.one_ne_zero, Nat.succ_ne_zero, reduceIte, if_false, List.getElem?_cons_zero, List.set_cons_zero, List.set_cons_succ]
          refine callA_of (l01Join_c _ _ _ _ _ ox.sl hy (by rw [hbl]; omega) (by omega)) ?_
          rintro z hB' ⟨oz, EB⟩
          have bb := bb.ext EB
          have hw := hw.ext EB
          have le_EB := EB.le
          try simp only [i1, i4, bb.eq, w1, w2, hlen, bslA_1, s2bA_some hne (Nat.le_trans hl (by omega)), go_sem, Hold.p, HoldK.k, HoldL.K, HoldL.body, Nat.reduceBEq, Nat.reduceAdd, List.getElem?_cons_zero, List.getElem?_cons_succ, Option.bind_some, List.map_cons, List.map_nil, Nat.zero_add, if_true, List.getD_cons_zero, List.getD_cons_succ, List.contains_cons, List.contains_nil, Nat.reduceBEq, Bool.or_true, Bool.true_or, Bool.or_false, Bool.false_or, Bool.not_true, Bool.not_false, true_and, and_true, rowA_whole, push_n, set_n, push_obj, set_obj, set_push, set_push_ne, set_set, Nat.add_assoc, Nat.left_eq_add, Nat.add_eq_left, Nat.add_left_cancel_iff, Nat.reduceEqDiff, stO_1s, stO_ws, boxA_s, one_bool, one_int, one_str, one_ptr, one_nilptr, one_slice, one_eslice, one_nilslice, one_func, one_iface, one_niliface, List.all_cons, List.all_nil, List.length_cons, List.length_nil, Nat.reduceLT, Nat.reduceEqDiff, Nat.reduceLeDiff, Bool.and_true, Nat.one_ne_zero, Nat.succ_ne_zero, reduceIte, if_false, List.getElem?_cons_zero, List.set_cons_zero, List.set_cons_succ]
          refine callA_of (l01Join_c _ _ _ _ _ oz.sl hw (by rw [List.length_append, hbl]; have : (nm).length ≤ 1000 := (by omega); omega) (by simp)) ?_
          rintro zz hD ⟨oD, ED⟩
          have EE := (((E2.trans EA).trans e_hC).trans EB).trans ED
          have lEE := EE.le
          unfold Bet
          simp only [i1, go_sem, Hold.p, HoldK.k, HoldL.K, HoldL.body, Nat.reduceBEq, Nat.reduceAdd, List.getElem?_cons_zero, List.getElem?_cons_succ, Option.bind_some, List.map_cons, List.map_nil, Nat.zero_add, if_true, List.getD_cons_zero, List.getD_cons_succ, List.contains_cons, List.contains_nil, Nat.reduceBEq, Bool.or_true, Bool.true_or, Bool.or_false, Bool.false_or, Bool.not_true, Bool.not_false, true_and, and_true, rowA_whole, push_n, set_n, push_obj, set_obj, set_push, set_push_ne, set_set, Nat.add_assoc, Nat.left_eq_add, Nat.add_eq_left, Nat.add_left_cancel_iff, Nat.reduceEqDiff, stO_1s, stO_ws, boxA_s, one_bool, one_int, one_str, one_ptr, one_nilptr, one_slice, one_eslice, one_nilslice, one_func, one_iface, one_niliface, List.all_cons, List.all_nil, List.length_cons, List.length_nil, Nat.reduceLT, Nat.reduceEqDiff, Nat.reduceLeDiff, Bool.and_true, Nat.one_ne_zero, Nat.succ_ne_zero, reduceIte, if_false, List.getElem?_cons_zero, List.set_cons_zero, List.set_cons_succ]
          exact ⟨zz, rfl, fin _ _ _ (by omega) EE oD⟩
      · skip
        have hnr : (h.n = g2.n + 1) = False := by simp; omega
        have hnq : (h.n = g2.n) = False := by simp; omega
        try simp only [i1, i4, bb.eq, w1, w2, hlen, bslA_1, s2bA_some hne (Nat.le_trans hl (by omega)), hnr, hnq, go_sem, Hold.p, HoldK.k, HoldL.K, HoldL.body, Nat.reduceBEq, Nat.reduceAdd, List.getElem?_cons_zero, List.getElem?_cons_succ, Option.bind_some, List.map_cons, List.map_nil, Nat.zero_add, if_true, List.getD_cons_zero, List.getD_cons_succ, List.contains_cons, List.contains_nil, Nat.reduceBEq, Bool.or_true, Bool.true_or, Bool.or_false, Bool.false_or, Bool.not_true, Bool.not_false, true_and, and_true, rowA_whole, push_n, set_n, push_obj, set_obj, set_push, set_push_ne, set_set, Nat.add_assoc, Nat.left_eq_add, Nat.add_eq_left, Nat.add_left_cancel_iff, Nat.reduceEqDiff, stO_1s, stO_ws, boxA_s, one_bool, one_int, one_str, one_ptr, one_nilptr, one_slice, one_eslice, one_nilslice, one_func, one_iface, one_niliface, List.all_cons, List.all_nil, List.length_cons, List.length_nil, Nat.reduceLT, Nat.reduceEqDiff, Nat.reduceLeDiff, Bool.and_true, Nat.one_ne_zero, Nat.succ_ne_zero, reduceIte, if_false, List.getElem?_cons_zero, List.set_cons_zero, List.set_cons_succ]
        generalize hq_hC : IH.push g2 (IObj.rows [[IV.int .u8 (UInt8.ofNat zs.length).toNat]] 5 1 false) = hC
        have e_hC : Ext g2 hC := by rw [← hq_hC]; exact (Ext.refl _).push _
        have l_hC : hC.n = g2.n + 1 := by rw [← hq_hC]; rfl
        have bw : At hC g2.n (IObj.rows [[IV.int .u8 (UInt8.ofNat zs.length).toNat]] 5 1 false) := by rw [← hq_hC]; exact At.new _ _
        clear hq_hC
        have bb := bb.ext e_hC
        have ox := ox.ext e_hC
        have hw : SlR hC 1 (.slice g2.n 0 1) (strRows [UInt8.ofNat zs.length]) := SlR.whole bw.eq rfl bw.lt
        clear bw
        have hnq : (h.n = hC.n) = False := by simp; omega
        try simp only [i1, i4, bb.eq, w1, w2, hlen, bslA_1, s2bA_some hne (Nat.le_trans hl (by omega)), hnr, hnq, go_sem, Hold.p, HoldK.k, HoldL.K, HoldL.body, Nat.reduceBEq, Nat.reduceAdd, List.getElem?_cons_zero, List.getElem?_cons_succ, Option.bind_some, List.map_cons, List.map_nil, Nat.zero_add, if_true, List.getD_cons_zero, List.getD_cons_succ, List.contains_cons, List.contains_nil, Nat.reduceBEq, Bool.or_true, Bool.true_or, Bool.or_false, Bool.false_or, Bool.not_true, Bool.not_false, true_and, and_true, rowA_whole, push_n, set_n, push_obj, set_obj, set_push, set_push_ne, set_set, Nat.add_assoc, Nat.left_eq_add, Nat.add_eq_left, Nat.add_left_cancel_iff, Nat.reduceEqDiff, stO_1s, stO_ws, boxA_s, one_bool, one_int, one_str, one_ptr, one_nilptr, one_slice, one_eslice, one_nilslice, one_func, one_iface, one_niliface, List.all_cons, List.all_nil, List.length_cons, List.length_nil, Nat.reduceLT, Nat.reduceEqDiff, Nat.reduceLeDiff, Bool.and_true, Nat.one_ne_zero, Nat.succ_ne_zero, reduceIte, if_false, List.getElem?_cons_zero, List.set_cons_zero, List.set_cons_succ]
        generalize hq_hA : IH.push hC (IObj.rows (strRows nm) 5 1 false) = hA
        have e_hA : Ext hC hA := by rw [← hq_hA]; exact (Ext.refl _).push _
        have l_hA : hA.n = hC.n + 1 := by rw [← hq_hA]; rfl
        have ba : At hA hC.n (IObj.rows (strRows nm) 5 1 false) := by rw [← hq_hA]; exact At.new _ _
        clear hq_hA
        have bb := bb.ext e_hA
        have hy : SlR hA 1 (.slice hC.n 0 nm.length) (strRows nm) := SlR.whole ba.eq (strRows_len nm) ba.lt
        have EA : Ext hC hA := e_hA
        clear ba e_hA
        rw [l_hC] at hy
        have ox := ox.ext EA
        have hw := hw.ext EA
        have le_EA := EA.le
        try simp only [i1, i4, bb.eq, w1, w2, hlen, bslA_1, s2bA_some hne (Nat.le_trans hl (by omega)), hnr, go_sem, Hold.p, HoldK.k, HoldL.K, HoldL.body, Nat.reduceBEq, Nat.reduceAdd, List.getElem?_cons_zero, List.getElem?_cons_succ, Option.bind_some, List.map_cons, List.map_nil, Nat.zero_add, if_true, List.getD_cons_zero, List.getD_cons_succ, List.contains_cons, List.contains_nil, Nat.reduceBEq, Bool.or_true, Bool.true_or, Bool.or_false, Bool.false_or, Bool.not_true, Bool.not_false, true_and, and_true, rowA_whole, push_n, set_n, push_obj, set_obj, set_push, set_push_ne, set_set, Nat.add_assoc, Nat.left_eq_add, Nat.add_eq_left, Nat.add_left_cancel_iff, Nat.reduceEqDiff, stO_1s, stO_ws, boxA_s, one_bool, one_int, one_str, one_ptr, one_nilptr, one_slice, one_eslice, one_nilslice, one_func, one_iface, one_niliface, List.all_cons, List.all_nil, List.length_cons, List.length_nil, Nat.reduceLT, Nat.reduceEqDiff, Nat.reduceLeDiff, Bool.and_true, Nat.one_ne_zero, Nat.succ_ne_zero, reduceIte, if_false, List.getElem?_cons_zero, List.set_cons_zero, List.set_cons_succ]
        refine callA_of (l01Join_c _ _ _ _ _ ox.sl hy (by rw [hbl]; omega) (by omega)) ?_
        rintro z hB' ⟨oz, EB⟩
        have bb := bb.ext EB
        have hw := hw.ext EB
        have le_EB := EB.le
        try simp only [i1, i4, bb.eq, w1, w2, hlen, bslA_1, s2bA_some hne (Nat.le_trans hl (by omega)), hnr, go_sem, Hold.p, HoldK.k, HoldL.K, HoldL.body, Nat.reduceBEq, Nat.reduceAdd, List.getElem?_cons_zero, List.getElem?_cons_succ, Option.bind_some, List.map_cons, List.map_nil, Nat.zero_add, if_true, List.getD_cons_zero, List.getD_cons_succ, List.contains_cons, List.contains_nil, Nat.reduceBEq, Bool.or_true, Bool.true_or, Bool.or_false, Bool.false_or, Bool.not_true, Bool.not_false, true_and, and_true, rowA_whole, push_n, set_n, push_obj, set_obj, set_push, set_push_ne, set_set, Nat.add_assoc, Nat.left_eq_add, Nat.add_eq_left, Nat.add_left_cancel_iff, Nat.reduceEqDiff, stO_1s, stO_ws, boxA_s, one_bool, one_int, one_str, one_ptr, one_nilptr, one_slice, one_eslice, one_nilslice, one_func, one_iface, one_niliface, List.all_cons, List.all_nil, List.length_cons, List.length_nil, Nat.reduceLT, Nat.reduceEqDiff, Nat.reduceLeDiff, Bool.and_true, Nat.one_ne_zero, Nat.succ_ne_zero, reduceIte, if_false, List.getElem?_cons_zero, List.set_cons_zero, List.set_cons_succ]
        refine callA_of (l01Join_c _ _ _ _ _ oz.sl hw (by rw [List.length_append, hbl]; have : (nm).length ≤ 1000 := (by omega); omega) (by simp)) ?_
        rintro zz hD ⟨oD, ED⟩
        have EE := (((E2.trans e_hC).trans EA).trans EB).trans ED
        have lEE := EE.le
        unfold Bet
        simp only [i1, go_sem, Hold.p, HoldK.k, HoldL.K, HoldL.body, Nat.reduceBEq, Nat.reduceAdd, List.getElem?_cons_zero, List.getElem?_cons_succ, Option.bind_some, List.map_cons, List.map_nil, Nat.zero_add, if_true, List.getD_cons_zero, List.getD_cons_succ, List.contains_cons, List.contains_nil, Nat.reduceBEq, Bool.or_true, Bool.true_or, Bool.or_false, Bool.false_or, Bool.not_true, Bool.not_false, true_and, and_true, rowA_whole, push_n, set_n, push_obj, set_obj, set_push, set_push_ne, set_set, Nat.add_assoc, Nat.left_eq_add, Nat.add_eq_left, Nat.add_left_cancel_iff, Nat.reduceEqDiff, stO_1s, stO_ws, boxA_s, one_bool, one_int, one_str, one_ptr, one_nilptr, one_slice, one_eslice, one_nilslice, one_func, one_iface, one_niliface, List.all_cons, List.all_nil, List.length_cons, List.length_nil, Nat.reduceLT, Nat.reduceEqDiff, Nat.reduceLeDiff, Bool.and_true, Nat.one_ne_zero, Nat.succ_ne_zero, reduceIte, if_false, List.getElem?_cons_zero, List.set_cons_zero, List.set_cons_succ]
        exact ⟨zz, rfl, fin _ _ _ (by omega) EE oD⟩
    clear E2 ox i1 i4
    rintro e g2 ⟨x, i1, i4, ox, E2⟩
    have hrh : repHead id code ttl nm zs = (((beB 2 id ++ [1, bc]) ++ beB 4 ttl ++ [UInt8.ofNat nm.length]) ++ nm) ++ [UInt8.ofNat zs.length] := by rw [← hbc]; rfl
    rw [hrh]
    have hbl : ((((beB 2 id ++ [1, bc]) ++ beB 4 ttl ++ [UInt8.ofNat nm.length]) ++ nm) ++ [UInt8.ofNat zs.length]).length = 10 + nm.length := by simp [beB_len]; omega
    generalize (((beB 2 id ++ [1, bc]) ++ beB 4 ttl ++ [UInt8.ofNat nm.length]) ++ nm) ++ [UInt8.ofNat zs.length] = hd at ox hbl ⊢
    have hlen := (hs.ext E2).lenF
    rw [intRows_len] at hlen
    simp only [i1, i4, go_sem, Hold.p, HoldK.k, HoldL.K, HoldL.body, Nat.reduceBEq, Nat.reduceAdd, List.getElem?_cons_zero, List.getElem?_cons_succ, Option.bind_some, List.map_cons, List.map_nil, Nat.zero_add, if_true, List.getD_cons_zero, List.getD_cons_succ, List.contains_cons, List.contains_nil, Nat.reduceBEq, Bool.or_true, Bool.true_or, Bool.or_false, Bool.false_or, Bool.not_true, Bool.not_false, true_and, and_true, rowA_whole, push_n, set_n, push_obj, set_obj, set_push, set_push_ne, set_set, Nat.add_assoc, Nat.left_eq_add, Nat.add_eq_left, Nat.add_left_cancel_iff, Nat.reduceEqDiff, stO_1s, stO_ws, boxA_s, one_bool, one_int, one_str, one_ptr, one_nilptr, one_slice, one_eslice, one_nilslice, one_func, one_iface, one_niliface, List.all_cons, List.all_nil, List.length_cons, List.length_nil, Nat.reduceLT, Nat.reduceEqDiff, Nat.reduceLeDiff, Bool.and_true, Nat.one_ne_zero, Nat.succ_ne_zero, reduceIte, if_false, List.getElem?_cons_zero, List.set_cons_zero, List.set_cons_succ]
    refine loop_at (fun n e g' => ∃ k, n = zs.length - k ∧ k ≤ zs.length ∧ Bet g h.n (hd ++ (zs.take k).flatMap (beB 4)) e g' ∧ e 5 = .int .i64 (k : Nat)) zs.length ?_ ?_
    · refine ⟨0, by omega, by omega, ⟨x, ?_⟩, ?_⟩
      · simp only [i1, i4, go_sem, Hold.p, HoldK.k, HoldL.K, HoldL.body, Nat.reduceBEq, Nat.reduceAdd, List.getElem?_cons_zero, List.getElem?_cons_succ, Option.bind_some, List.map_cons, List.map_nil, Nat.zero_add, if_true, List.getD_cons_zero, List.getD_cons_succ, List.contains_cons, List.contains_nil, Nat.reduceBEq, Bool.or_true, Bool.true_or, Bool.or_false, Bool.false_or, Bool.not_true, Bool.not_false, true_and, and_true, rowA_whole, push_n, set_n, push_obj, set_obj, set_push, set_push_ne, set_set, Nat.add_assoc, Nat.left_eq_add, Nat.add_eq_left, Nat.add_left_cancel_iff, Nat.reduceEqDiff, stO_1s, stO_ws, boxA_s, one_bool, one_int, one_str, one_ptr, one_nilptr, one_slice, one_eslice, one_nilslice, one_func, one_iface, one_niliface, List.all_cons, List.all_nil, List.length_cons, List.length_nil, Nat.reduceLT, Nat.reduceEqDiff, Nat.reduceLeDiff, Bool.and_true, Nat.one_ne_zero, Nat.succ_ne_zero, reduceIte, if_false, List.getElem?_cons_zero, List.set_cons_zero, List.set_cons_succ]
        exact ⟨by simpa using ox, E2⟩
      · simp only [i1, i4, go_sem, Hold.p, HoldK.k, HoldL.K, HoldL.body, Nat.reduceBEq, Nat.reduceAdd, List.getElem?_cons_zero, List.getElem?_cons_succ, Option.bind_some, List.map_cons, List.map_nil, Nat.zero_add, if_true, List.getD_cons_zero, List.getD_cons_succ, List.contains_cons, List.contains_nil, Nat.reduceBEq, Bool.or_true, Bool.true_or, Bool.or_false, Bool.false_or, Bool.not_true, Bool.not_false, true_and, and_true, rowA_whole, push_n, set_n, push_obj, set_obj, set_push, set_push_ne, set_set, Nat.add_assoc, Nat.left_eq_add, Nat.add_eq_left, Nat.add_left_cancel_iff, Nat.reduceEqDiff, stO_1s, stO_ws, boxA_s, one_bool, one_int, one_str, one_ptr, one_nilptr, one_slice, one_eslice, one_nilslice, one_func, one_iface, one_niliface, List.all_cons, List.all_nil, List.length_cons, List.length_nil, Nat.reduceLT, Nat.reduceEqDiff, Nat.reduceLeDiff, Bool.and_true, Nat.one_ne_zero, Nat.succ_ne_zero, reduceIte, if_false, List.getElem?_cons_zero, List.set_cons_zero, List.set_cons_succ]
        rfl
    · clear i1 i4 ox E2 hlen
      rintro n e g3 ⟨k, rfl, hk, ⟨x, i1, i4, ox, E3⟩, i5⟩
      have bb := bb.ext E3
      have hs := hs.ext E3
      have hlen := hs.lenF
      rw [intRows_len] at hlen
      have l3 := E3.le
      simp only [i1, i4, i5, bb.eq, hlen, go_sem, Hold.p, HoldK.k, HoldL.K, HoldL.body, Nat.reduceBEq, Nat.reduceAdd, List.getElem?_cons_zero, List.getElem?_cons_succ, Option.bind_some, List.map_cons, List.map_nil, Nat.zero_add, if_true, List.getD_cons_zero, List.getD_cons_succ, List.contains_cons, List.contains_nil, Nat.reduceBEq, Bool.or_true, Bool.true_or, Bool.or_false, Bool.false_or, Bool.not_true, Bool.not_false, true_and, and_true, rowA_whole, push_n, set_n, push_obj, set_obj, set_push, set_push_ne, set_set, Nat.add_assoc, Nat.left_eq_add, Nat.add_eq_left, Nat.add_left_cancel_iff, Nat.reduceEqDiff, stO_1s, stO_ws, boxA_s, one_bool, one_int, one_str, one_ptr, one_nilptr, one_slice, one_eslice, one_nilslice, one_func, one_iface, one_niliface, List.all_cons, List.all_nil, List.length_cons, List.length_nil, Nat.reduceLT, Nat.reduceEqDiff, Nat.reduceLeDiff, Bool.and_true, Nat.one_ne_zero, Nat.succ_ne_zero, reduceIte, if_false, List.getElem?_cons_zero, List.set_cons_zero, List.set_cons_succ]
      refine test_dec (fun hb => ?_) (fun hb => ?_)
      · have hlt' : k < zs.length := by omega
        have hkp : zs[k]? = some zs[k] := List.getElem?_eq_getElem hlt'
        generalize zs[k] = p at hkp
        obtain ⟨l, j, hia, hll, hrow⟩ := hs.at (m := k) (intRows_at hkp) .i64
        have hc := cellO_row hrow
        simp only [i1, i4, i5, bb.eq, hia, hc, go_sem, Hold.p, HoldK.k, HoldL.K, HoldL.body, Nat.reduceBEq, Nat.reduceAdd, List.getElem?_cons_zero, List.getElem?_cons_succ, Option.bind_some, List.map_cons, List.map_nil, Nat.zero_add, if_true, List.getD_cons_zero, List.getD_cons_succ, List.contains_cons, List.contains_nil, Nat.reduceBEq, Bool.or_true, Bool.true_or, Bool.or_false, Bool.false_or, Bool.not_true, Bool.not_false, true_and, and_true, rowA_whole, push_n, set_n, push_obj, set_obj, set_push, set_push_ne, set_set, Nat.add_assoc, Nat.left_eq_add, Nat.add_eq_left, Nat.add_left_cancel_iff, Nat.reduceEqDiff, stO_1s, stO_ws, boxA_s, one_bool, one_int, one_str, one_ptr, one_nilptr, one_slice, one_eslice, one_nilslice, one_func, one_iface, one_niliface, List.all_cons, List.all_nil, List.length_cons, List.length_nil, Nat.reduceLT, Nat.reduceEqDiff, Nat.reduceLeDiff, Bool.and_true, Nat.one_ne_zero, Nat.succ_ne_zero, reduceIte, if_false, List.getElem?_cons_zero, List.set_cons_zero, List.set_cons_succ]
        refine callA_of (l03Put_c _ p 4 (by omega)) ?_
        rintro y h4 ⟨oy, E4⟩
        have bb := bb.ext E4
        have ox := ox.ext E4
        have le_E4 := E4.le
        simp only [i1, i4, i5, go_sem, Hold.p, HoldK.k, HoldL.K, HoldL.body, Nat.reduceBEq, Nat.reduceAdd, List.getElem?_cons_zero, List.getElem?_cons_succ, Option.bind_some, List.map_cons, List.map_nil, Nat.zero_add, if_true, List.getD_cons_zero, List.getD_cons_succ, List.contains_cons, List.contains_nil, Nat.reduceBEq, Bool.or_true, Bool.true_or, Bool.or_false, Bool.false_or, Bool.not_true, Bool.not_false, true_and, and_true, rowA_whole, push_n, set_n, push_obj, set_obj, set_push, set_push_ne, set_set, Nat.add_assoc, Nat.left_eq_add, Nat.add_eq_left, Nat.add_left_cancel_iff, Nat.reduceEqDiff, stO_1s, stO_ws, boxA_s, one_bool, one_int, one_str, one_ptr, one_nilptr, one_slice, one_eslice, one_nilslice, one_func, one_iface, one_niliface, List.all_cons, List.all_nil, List.length_cons, List.length_nil, Nat.reduceLT, Nat.reduceEqDiff, Nat.reduceLeDiff, Bool.and_true, Nat.one_ne_zero, Nat.succ_ne_zero, reduceIte, if_false, List.getElem?_cons_zero, List.set_cons_zero, List.set_cons_succ]
        refine callA_of (l01Join_c _ _ _ _ _ ox.sl oy.sl (by rw [List.length_append, hbl, flat_len]; have := List.length_take_le k zs; omega) (by rw [beB_len]; omega)) ?_
        rintro z h5 ⟨oz, E5⟩
        have EE := (E3.trans E4).trans E5
        have lEE := EE.le
        unfold Bet
        simp only [i1, i5, go_sem, Hold.p, HoldK.k, HoldL.K, HoldL.body, Nat.reduceBEq, Nat.reduceAdd, List.getElem?_cons_zero, List.getElem?_cons_succ, Option.bind_some, List.map_cons, List.map_nil, Nat.zero_add, if_true, List.getD_cons_zero, List.getD_cons_succ, List.contains_cons, List.contains_nil, Nat.reduceBEq, Bool.or_true, Bool.true_or, Bool.or_false, Bool.false_or, Bool.not_true, Bool.not_false, true_and, and_true, rowA_whole, push_n, set_n, push_obj, set_obj, set_push, set_push_ne, set_set, Nat.add_assoc, Nat.left_eq_add, Nat.add_eq_left, Nat.add_left_cancel_iff, Nat.reduceEqDiff, stO_1s, stO_ws, boxA_s, one_bool, one_int, one_str, one_ptr, one_nilptr, one_slice, one_eslice, one_nilslice, one_func, one_iface, one_niliface, List.all_cons, List.all_nil, List.length_cons, List.length_nil, Nat.reduceLT, Nat.reduceEqDiff, Nat.reduceLeDiff, Bool.and_true, Nat.one_ne_zero, Nat.succ_ne_zero, reduceIte, if_false, List.getElem?_cons_zero, List.set_cons_zero, List.set_cons_succ]
        refine ⟨_, ?_, k + 1, rfl, by omega, ⟨z, rfl, ?_, EE⟩, wr64_succ k (by omega)⟩
        · omega
        · rw [flat_snoc hkp, ← List.append_assoc]
          exact oz.wide (by omega) (Nat.le_refl _) (Nat.le_refl _)
      · obtain rfl : k = zs.length := by omega
        rw [List.take_length] at ox
        simp only [i1, i4, go_sem, Hold.p, HoldK.k, HoldL.K, HoldL.body, Nat.reduceBEq, Nat.reduceAdd, List.getElem?_cons_zero, List.getElem?_cons_succ, Option.bind_some, List.map_cons, List.map_nil, Nat.zero_add, if_true, List.getD_cons_zero, List.getD_cons_succ, List.contains_cons, List.contains_nil, Nat.reduceBEq, Bool.or_true, Bool.true_or, Bool.or_false, Bool.false_or, Bool.not_true, Bool.not_false, true_and, and_true, rowA_whole, push_n, set_n, push_obj, set_obj, set_push, set_push_ne, set_set, Nat.add_assoc, Nat.left_eq_add, Nat.add_eq_left, Nat.add_left_cancel_iff, Nat.reduceEqDiff, stO_1s, stO_ws, boxA_s, one_bool, one_int, one_str, one_ptr, one_nilptr, one_slice, one_eslice, one_nilslice, one_func, one_iface, one_niliface, List.all_cons, List.all_nil, List.length_cons, List.length_nil, Nat.reduceLT, Nat.reduceEqDiff, Nat.reduceLeDiff, Bool.and_true, Nat.one_ne_zero, Nat.succ_ne_zero, reduceIte, if_false, List.getElem?_cons_zero, List.set_cons_zero, List.set_cons_succ]
        exact ⟨x, rfl, ox.wide (by have := E.le; omega) (Nat.le_refl _) (Nat.le_refl _), E.trans E3⟩
  · have hokf : okRep id code ttl nm zs = false := by simpa using hok
    have hdef : encR id code ttl nm zs = ([], 1) := if_neg hok
    rw [hdef]
    simp only [hv1, go_sem, Hold.p, HoldK.k, HoldL.K, HoldL.body, Nat.reduceBEq, Nat.reduceAdd, List.getElem?_cons_zero, List.getElem?_cons_succ, Option.bind_some, List.map_cons, List.map_nil, Nat.zero_add, if_true, List.getD_cons_zero, List.getD_cons_succ, List.contains_cons, List.contains_nil, Nat.reduceBEq, Bool.or_true, Bool.true_or, Bool.or_false, Bool.false_or, Bool.not_true, Bool.not_false, true_and, and_true, rowA_whole, push_n, set_n, push_obj, set_obj, set_push, set_push_ne, set_set, Nat.add_assoc, Nat.left_eq_add, Nat.add_eq_left, Nat.add_left_cancel_iff, Nat.reduceEqDiff, stO_1s, stO_ws, boxA_s, one_bool, one_int, one_str, one_ptr, one_nilptr, one_slice, one_eslice, one_nilslice, one_func, one_iface, one_niliface, List.all_cons, List.all_nil, List.length_cons, List.length_nil, Nat.reduceLT, Nat.reduceEqDiff, Nat.reduceLeDiff, Bool.and_true, Nat.one_ne_zero, Nat.succ_ne_zero, reduceIte, if_false, List.getElem?_cons_zero, List.set_cons_zero, List.set_cons_succ]
    generalize hq_g0 : IH.push h (IObj.rows [[IV.int .i64 id, IV.int .i64 code, IV.int .i64 ttl, IV.str nm, v]] 44 5 false) = g0
    have e_g0 : Ext h g0 := by rw [← hq_g0]; exact (Ext.refl _).push _
    have l_g0 : g0.n = h.n + 1 := by rw [← hq_g0]; rfl
    have bb : At g0 h.n (IObj.rows [[IV.int .i64 id, IV.int .i64 code, IV.int .i64 ttl, IV.str nm, v]] 44 5 false) := by rw [← hq_g0]; exact At.new _ _
    clear hq_g0
    have hs := hs.ext e_g0
    refine callA_of (l19ReplyOK_c _ id code ttl nm v zs hs hm hz) ?_
    rintro r h1 ⟨rfl, E1⟩
    have E := e_g0.trans E1
    simp only [hokf, go_sem, Hold.p, HoldK.k, HoldL.K, HoldL.body, Nat.reduceBEq, Nat.reduceAdd, List.getElem?_cons_zero, List.getElem?_cons_succ, Option.bind_some, List.map_cons, List.map_nil, Nat.zero_add, if_true, List.getD_cons_zero, List.getD_cons_succ, List.contains_cons, List.contains_nil, Nat.reduceBEq, Bool.or_true, Bool.true_or, Bool.or_false, Bool.false_or, Bool.not_true, Bool.not_false, true_and, and_true, rowA_whole, push_n, set_n, push_obj, set_obj, set_push, set_push_ne, set_set, Nat.add_assoc, Nat.left_eq_add, Nat.add_eq_left, Nat.add_left_cancel_iff, Nat.reduceEqDiff, stO_1s, stO_ws, boxA_s, one_bool, one_int, one_str, one_ptr, one_nilptr, one_slice, one_eslice, one_nilslice, one_func, one_iface, one_niliface, List.all_cons, List.all_nil, List.length_cons, List.length_nil, Nat.reduceLT, Nat.reduceEqDiff, Nat.reduceLeDiff, Bool.and_true, Nat.one_ne_zero, Nat.succ_ne_zero, reduceIte, if_false, List.getElem?_cons_zero, List.set_cons_zero, List.set_cons_succ]
    exact ⟨_, rfl, Own.nil, E⟩
end Go.Proofs.YtcmcfmgabafljaaDoor

namespace Go.Proofs.YtcmcfmgabafljaaDoor
open Go Go.IW

set_option maxRecDepth 20000 in
theorem implEncodeReply_c (h : IH) (id code ttl : Int) (nm : List UInt8) (v : IV) (zs : List Int) (hs : SlR h 1 v (intRows zs)) (hm : nm.length ≤ 1048576) (hz : zs.length ≤ 1048576) :
    ICalls Tryd.prog 28 [.agg [.int .i64 id, .int .i64 code, .int .i64 ttl, .str nm, v]] h fun r h' => BytesRes h h' r (encR id code ttl nm zs) := by
  refine icalls (.of ok28) (Nat.le_of_ble_eq_true rfl) ?_
  unfold c28
  have hv1 := hs.one
  have hvc := hs.cells
  by_cases hok : okRep id code ttl nm zs = true
  · obtain ⟨hid, hnm, hcode, httl, hzl, hza⟩ := okRep_ok hok
    obtain ⟨hne, hl⟩ := okName_ne hnm
    have hdef : encR id code ttl nm zs = (repHead id code ttl nm zs ++ zs.flatMap (beB 4), 0) := if_pos hok
    rw [hdef]
    have w1 := u8_len (n := nm.length) (by omega)
    have w2 := u8_len (n := zs.length) (by omega)
    have w3 := wr_u8 code
    have hrh : repHead id code ttl nm zs = (((beB 2 id ++ [1, UInt8.ofNat (code % 256).toNat]) ++ beB 4 ttl ++ [UInt8.ofNat nm.length]) ++ nm) ++ [UInt8.ofNat zs.length] := rfl
    rw [hrh]
    clear hrh hdef
    generalize hbc : UInt8.ofNat (code % 256).toNat = bc at w3 ⊢
    refine vc_cut2 (fun e g => ∃ hB : IH, At hB h.n (IObj.rows [[IV.int .i64 id, IV.int .i64 code, IV.int .i64 ttl, IV.str nm, v]] 44 5 false) ∧ SlR hB 1 v (intRows zs) ∧ Ext h hB ∧ e 1 = .ptr h.n 0 0 ∧ g = hB) ?_ ?_
    · simp only [hv1, go_sem, Hold.p, HoldK.k, HoldL.K, HoldL.body, Nat.reduceBEq, Nat.reduceAdd, List.getElem?_cons_zero, List.getElem?_cons_succ, Option.bind_some, List.map_cons, List.map_nil, Nat.zero_add, if_true, List.getD_cons_zero, List.getD_cons_succ, List.contains_cons, List.contains_nil, Nat.reduceBEq, Bool.or_true, Bool.true_or, Bool.or_false, Bool.false_or, Bool.not_true, Bool.not_false, true_and, and_true, rowA_whole, push_n, set_n, push_obj, set_obj, set_push, set_push_ne, set_set, Nat.add_assoc, Nat.left_eq_add, Nat.add_eq_left, Nat.add_left_cancel_iff, Nat.reduceEqDiff, stO_1s, stO_ws, boxA_s, one_bool, one_int, one_str, one_ptr, one_nilptr, one_slice, one_eslice, one_nilslice, one_func, one_iface, one_niliface, List.all_cons, List.all_nil, List.length_cons, List.length_nil, Nat.reduceLT, Nat.reduceEqDiff, Nat.reduceLeDiff, Bool.and_true, Nat.one_ne_zero, Nat.succ_ne_zero, reduceIte, if_false, List.getElem?_cons_zero, List.set_cons_zero, List.set_cons_succ]
      generalize hq_g0 : IH.push h (IObj.rows [[IV.int .i64 id, IV.int .i64 code, IV.int .i64 ttl, IV.str nm, v]] 44 5 false) = g0
      have e_g0 : Ext h g0 := by rw [← hq_g0]; exact (Ext.refl _).push _
      have l_g0 : g0.n = h.n + 1 := by rw [← hq_g0]; rfl
      have bb : At g0 h.n (IObj.rows [[IV.int .i64 id, IV.int .i64 code, IV.int .i64 ttl, IV.str nm, v]] 44 5 false) := by rw [← hq_g0]; exact At.new _ _
      clear hq_g0
      have hs := hs.ext e_g0
      refine callA_of (okReply_c _ id code ttl nm v zs hs hz) ?_
      rintro r h1 ⟨⟨b, rfl, hb⟩, E1⟩
      have E := e_g0.trans E1
      have bb := bb.ext E1
      have hs := hs.ext E1
      have le_E1 := E1.le
      rw [hok, hnm, Bool.and_true] at hb
      subst hb
      simp only [bb.eq, go_sem, Hold.p, HoldK.k, HoldL.K, HoldL.body, Nat.reduceBEq, Nat.reduceAdd, List.getElem?_cons_zero, List.getElem?_cons_succ, Option.bind_some, List.map_cons, List.map_nil, Nat.zero_add, if_true, List.getD_cons_zero, List.getD_cons_succ, List.contains_cons, List.contains_nil, Nat.reduceBEq, Bool.or_true, Bool.true_or, Bool.or_false, Bool.false_or, Bool.not_true, Bool.not_false, true_and, and_true, rowA_whole, push_n, set_n, push_obj, set_obj, set_push, set_push_ne, set_set, Nat.add_assoc, Nat.left_eq_add, Nat.add_eq_left, Nat.add_left_cancel_iff, Nat.reduceEqDiff, stO_1s, stO_ws, boxA_s, one_bool, one_int, one_str, one_ptr, one_nilptr, one_slice, one_eslice, one_nilslice, one_func, one_iface, one_niliface, List.all_cons, List.all_nil, List.length_cons, List.length_nil, Nat.reduceLT, Nat.reduceEqDiff, Nat.reduceLeDiff, Bool.and_true, Nat.one_ne_zero, Nat.succ_ne_zero, reduceIte, if_false, List.getElem?_cons_zero, List.set_cons_zero, List.set_cons_succ]
      refine callA_of (implNameOK_c _ nm hm) ?_
      rintro r h2 ⟨rfl, E2⟩
      have bb := bb.ext E2
      have hs := hs.ext E2
      have E := E.ext E2
      have le_E2 := E2.le
      simp only [hnm, go_sem, Hold.p, HoldK.k, HoldL.K, HoldL.body, Nat.reduceBEq, Nat.reduceAdd, List.getElem?_cons_zero, List.getElem?_cons_succ, Option.bind_some, List.map_cons, List.map_nil, Nat.zero_add, if_true, List.getD_cons_zero, List.getD_cons_succ, List.contains_cons, List.contains_nil, Nat.reduceBEq, Bool.or_true, Bool.true_or, Bool.or_false, Bool.false_or, Bool.not_true, Bool.not_false, true_and, and_true, rowA_whole, push_n, set_n, push_obj, set_obj, set_push, set_push_ne, set_set, Nat.add_assoc, Nat.left_eq_add, Nat.add_eq_left, Nat.add_left_cancel_iff, Nat.reduceEqDiff, stO_1s, stO_ws, boxA_s, one_bool, one_int, one_str, one_ptr, one_nilptr, one_slice, one_eslice, one_nilslice, one_func, one_iface, one_niliface, List.all_cons, List.all_nil, List.length_cons, List.length_nil, Nat.reduceLT, Nat.reduceEqDiff, Nat.reduceLeDiff, Bool.and_true, Nat.one_ne_zero, Nat.succ_ne_zero, reduceIte, if_false, List.getElem?_cons_zero, List.set_cons_zero, List.set_cons_succ]
      exact ⟨h2, bb, hs, E, rfl⟩
    rintro e g ⟨hB, bb, hs, E, i1, rfl⟩
    have bbl := bb.lt
    have lE := E.le
    refine vc_cut (Bet g h.n ((beB 2 id ++ [1, bc]) ++ beB 4 ttl)) ?_ ?_
    · simp only [i1, bb.eq, w3, go_sem, Hold.p, HoldK.k, HoldL.K, HoldL.body, Nat.reduceBEq, Nat.reduceAdd, List.getElem?_cons_zero, List.getElem?_cons_succ, Option.bind_some, List.map_cons, List.map_nil, Nat.zero_add, if_true, List.getD_cons_zero, List.getD_cons_succ, List.contains_cons, List.contains_nil, Nat.reduceBEq, Bool.or_true, Bool.true_or, Bool.or_false, Bool.false_or, Bool.not_true, Bool.not_false, true_and, and_true, rowA_whole, push_n, set_n, push_obj, set_obj, set_push, set_push_ne, set_set, Nat.add_assoc, Nat.left_eq_add, Nat.add_eq_left, Nat.add_left_cancel_iff, Nat.reduceEqDiff, stO_1s, stO_ws, boxA_s, one_bool, one_int, one_str, one_ptr, one_nilptr, one_slice, one_eslice, one_nilslice, one_func, one_iface, one_niliface, List.all_cons, List.all_nil, List.length_cons, List.length_nil, Nat.reduceLT, Nat.reduceEqDiff, Nat.reduceLeDiff, Bool.and_true, Nat.one_ne_zero, Nat.succ_ne_zero, reduceIte, if_false, List.getElem?_cons_zero, List.set_cons_zero, List.set_cons_succ]
      refine either_of ?_ ?_
      · try simp only [i1, go_sem, Hold.p, HoldK.k, HoldL.K, HoldL.body, Nat.reduceBEq, Nat.reduceAdd, List.getElem?_cons_zero, List.getElem?_cons_succ, Option.bind_some, List.map_cons, List.map_nil, Nat.zero_add, if_true, List.getD_cons_zero, List.getD_cons_succ, List.contains_cons, List.contains_nil, Nat.reduceBEq, Bool.or_true, Bool.true_or, Bool.or_false, Bool.false_or, Bool.not_true, Bool.not_false, true_and, and_true, rowA_whole, push_n, set_n, push_obj, set_obj, set_push, set_push_ne, set_set, Nat.add_assoc, Nat.left_eq_add, Nat.add_eq_left, Nat.add_left_cancel_iff, Nat.reduceEqDiff, stO_1s, stO_ws, boxA_s, one_bool, one_int, one_str, one_ptr, one_nilptr, one_slice, one_eslice, one_nilslice, one_func, one_iface, one_niliface, List.all_cons, List.all_nil, List.length_cons, List.length_nil, Nat.reduceLT, Nat.reduceEqDiff, Nat.reduceLeDiff, Bool.and_true, Nat.one_ne_zero, Nat.succ_ne_zero, reduceIte, if_false, List.getElem?_cons_zero, List.set_cons_zero, List.set_cons_succ]
        refine callA_of (put_c g g (Ext.refl _) .nilslice [] id 2 (by omega) (by omega) (by simp) (Nat.le_refl g.n) (hi := g.n) Own.nil (Nat.le_refl _)) ?_
        rintro x h2 ⟨ox, E2⟩
        rw [List.nil_append] at ox
        have bb2 := bb.ext E2
        have le0 := E2.le
        have hn2 : (h.n = h2.n) = False := by have := E2.le; simp; omega
        simp only [i1, bb2.eq, w3, bslA_2, hn2, srcO_2, go_sem, Hold.p, HoldK.k, HoldL.K, HoldL.body, Nat.reduceBEq, Nat.reduceAdd, List.getElem?_cons_zero, List.getElem?_cons_succ, Option.bind_some, List.map_cons, List.map_nil, Nat.zero_add, if_true, List.getD_cons_zero, List.getD_cons_succ, List.contains_cons, List.contains_nil, Nat.reduceBEq, Bool.or_true, Bool.true_or, Bool.or_false, Bool.false_or, Bool.not_true, Bool.not_false, true_and, and_true, rowA_whole, push_n, set_n, push_obj, set_obj, set_push, set_push_ne, set_set, Nat.add_assoc, Nat.left_eq_add, Nat.add_eq_left, Nat.add_left_cancel_iff, Nat.reduceEqDiff, stO_1s, stO_ws, boxA_s, one_bool, one_int, one_str, one_ptr, one_nilptr, one_slice, one_eslice, one_nilslice, one_func, one_iface, one_niliface, List.all_cons, List.all_nil, List.length_cons, List.length_nil, Nat.reduceLT, Nat.reduceEqDiff, Nat.reduceLeDiff, Bool.and_true, Nat.one_ne_zero, Nat.succ_ne_zero, reduceIte, if_false, List.getElem?_cons_zero, List.set_cons_zero, List.set_cons_succ]
        generalize hq_g3 : IH.push h2 (IObj.rows [[IV.int .u8 1], [IV.int .u8 bc.toNat]] 5 1 false) = g3
        have e_g3 : Ext h2 g3 := by rw [← hq_g3]; exact (Ext.refl _).push _
        have l_g3 : g3.n = h2.n + 1 := by rw [← hq_g3]; rfl
        have ba : At g3 h2.n (IObj.rows [[IV.int .u8 1], [IV.int .u8 bc.toNat]] 5 1 false) := by rw [← hq_g3]; exact At.new _ _
        clear hq_g3
        have ox := ox.ext e_g3
        have bb2 := bb2.ext e_g3
        have E2 := E2.ext e_g3
        refine ox.app (by simp) (by rw [strRows_len, beB_len]; simp) ?_
        intro v6 h6 o6 t6 n6 v6o v6c
        have bb2 := bb2.turn ox (by omega) t6
        have E2 := E2.turn ox (by omega) t6
        have le_t6 := t6.le
        have o7 : Own g3.n (g3.n + 1) h6 5 1 v6 (strRows (beB 2 id ++ [1, bc])) := by rw [strRows_append]; exact o6
        have le2 := E2.le
        simp only [i1, bb2.eq, go_sem, Hold.p, HoldK.k, HoldL.K, HoldL.body, Nat.reduceBEq, Nat.reduceAdd, List.getElem?_cons_zero, List.getElem?_cons_succ, Option.bind_some, List.map_cons, List.map_nil, Nat.zero_add, if_true, List.getD_cons_zero, List.getD_cons_succ, List.contains_cons, List.contains_nil, Nat.reduceBEq, Bool.or_true, Bool.true_or, Bool.or_false, Bool.false_or, Bool.not_true, Bool.not_false, true_and, and_true, rowA_whole, push_n, set_n, push_obj, set_obj, set_push, set_push_ne, set_set, Nat.add_assoc, Nat.left_eq_add, Nat.add_eq_left, Nat.add_left_cancel_iff, Nat.reduceEqDiff, stO_1s, stO_ws, boxA_s, one_bool, one_int, one_str, one_ptr, one_nilptr, one_slice, one_eslice, one_nilslice, one_func, one_iface, one_niliface, List.all_cons, List.all_nil, List.length_cons, List.length_nil, Nat.reduceLT, Nat.reduceEqDiff, Nat.reduceLeDiff, Bool.and_true, Nat.one_ne_zero, Nat.succ_ne_zero, reduceIte, if_false, List.getElem?_cons_zero, List.set_cons_zero, List.set_cons_succ]
        refine callA_of (put_c g h6 E2 v6 _ ttl 4 (by omega) (by omega) (by simp [beB_len]) (by omega) o7 (by omega)) ?_
        rintro z h8 ⟨oz, E8⟩
        unfold Bet
        simp only [i1, go_sem, Hold.p, HoldK.k, HoldL.K, HoldL.body, Nat.reduceBEq, Nat.reduceAdd, List.getElem?_cons_zero, List.getElem?_cons_succ, Option.bind_some, List.map_cons, List.map_nil, Nat.zero_add, if_true, List.getD_cons_zero, List.getD_cons_succ, List.contains_cons, List.contains_nil, Nat.reduceBEq, Bool.or_true, Bool.true_or, Bool.or_false, Bool.false_or, Bool.not_true, Bool.not_false, true_and, and_true, rowA_whole, push_n, set_n, push_obj, set_obj, set_push, set_push_ne, set_set, Nat.add_assoc, Nat.left_eq_add, Nat.add_eq_left, Nat.add_left_cancel_iff, Nat.reduceEqDiff, stO_1s, stO_ws, boxA_s, one_bool, one_int, one_str, one_ptr, one_nilptr, one_slice, one_eslice, one_nilslice, one_func, one_iface, one_niliface, List.all_cons, List.all_nil, List.length_cons, List.length_nil, Nat.reduceLT, Nat.reduceEqDiff, Nat.reduceLeDiff, Bool.and_true, Nat.one_ne_zero, Nat.succ_ne_zero, reduceIte, if_false, List.getElem?_cons_zero, List.set_cons_zero, List.set_cons_succ]
        exact ⟨z, rfl, oz, E8⟩
      · have hn2 : (h.n = g.n) = False := by simp; omega
        simp only [i1, bb.eq, w3, bslA_2, hn2, go_sem, Hold.p, HoldK.k, HoldL.K, HoldL.body, Nat.reduceBEq, Nat.reduceAdd, List.getElem?_cons_zero, List.getElem?_cons_succ, Option.bind_some, List.map_cons, List.map_nil, Nat.zero_add, if_true, List.getD_cons_zero, List.getD_cons_succ, List.contains_cons, List.contains_nil, Nat.reduceBEq, Bool.or_true, Bool.true_or, Bool.or_false, Bool.false_or, Bool.not_true, Bool.not_false, true_and, and_true, rowA_whole, push_n, set_n, push_obj, set_obj, set_push, set_push_ne, set_set, Nat.add_assoc, Nat.left_eq_add, Nat.add_eq_left, Nat.add_left_cancel_iff, Nat.reduceEqDiff, stO_1s, stO_ws, boxA_s, one_bool, one_int, one_str, one_ptr, one_nilptr, one_slice, one_eslice, one_nilslice, one_func, one_iface, one_niliface, List.all_cons, List.all_nil, List.length_cons, List.length_nil, Nat.reduceLT, Nat.reduceEqDiff, Nat.reduceLeDiff, Bool.and_true, Nat.one_ne_zero, Nat.succ_ne_zero, reduceIte, if_false, List.getElem?_cons_zero, List.set_cons_zero, List.set_cons_succ]
        generalize hq_g3 : IH.push g (IObj.rows [[IV.int .u8 1], [IV.int .u8 bc.toNat]] 5 1 false) = g3
        have e_g3 : Ext g g3 := by rw [← hq_g3]; exact (Ext.refl _).push _
        have l_g3 : g3.n = g.n + 1 := by rw [← hq_g3]; rfl
        have ba : At g3 g.n (IObj.rows [[IV.int .u8 1], [IV.int .u8 bc.toNat]] 5 1 false) := by rw [← hq_g3]; exact At.new _ _
        clear hq_g3
        have bb := bb.ext e_g3
        refine callA_of (put_c g3 _ (Ext.refl _) .nilslice [] id 2 (by omega) (by omega) (by simp) (Nat.le_refl g3.n) (hi := g3.n) Own.nil (Nat.le_refl _)) ?_
        rintro x h2 ⟨ox, E2⟩
        rw [List.nil_append] at ox
        have bb := bb.ext E2
        have ba := ba.ext E2
        have le_E2 := E2.le
        have EE := e_g3.trans E2
        have le0 := EE.le
        simp only [i1, bb.eq, w3, ba.eq, srcO_2, go_sem, Hold.p, HoldK.k, HoldL.K, HoldL.body, Nat.reduceBEq, Nat.reduceAdd, List.getElem?_cons_zero, List.getElem?_cons_succ, Option.bind_some, List.map_cons, List.map_nil, Nat.zero_add, if_true, List.getD_cons_zero, List.getD_cons_succ, List.contains_cons, List.contains_nil, Nat.reduceBEq, Bool.or_true, Bool.true_or, Bool.or_false, Bool.false_or, Bool.not_true, Bool.not_false, true_and, and_true, rowA_whole, push_n, set_n, push_obj, set_obj, set_push, set_push_ne, set_set, Nat.add_assoc, Nat.left_eq_add, Nat.add_eq_left, Nat.add_left_cancel_iff, Nat.reduceEqDiff, stO_1s, stO_ws, boxA_s, one_bool, one_int, one_str, one_ptr, one_nilptr, one_slice, one_eslice, one_nilslice, one_func, one_iface, one_niliface, List.all_cons, List.all_nil, List.length_cons, List.length_nil, Nat.reduceLT, Nat.reduceEqDiff, Nat.reduceLeDiff, Bool.and_true, Nat.one_ne_zero, Nat.succ_ne_zero, reduceIte, if_false, List.getElem?_cons_zero, List.set_cons_zero, List.set_cons_succ]
        refine ox.app (by simp) (by rw [strRows_len, beB_len]; simp) ?_
        intro v6 h6 o6 t6 n6 v6o v6c
        have bb := bb.turn ox (by omega) t6
        have EE := EE.turn ox (by omega) t6
        have le_t6 := t6.le
        have o7 : Own h2.n (h2.n + 1) h6 5 1 v6 (strRows (beB 2 id ++ [1, bc])) := by rw [strRows_append]; exact o6
        have le2 := EE.le
        simp only [i1, bb.eq, go_sem, Hold.p, HoldK.k, HoldL.K, HoldL.body, Nat.reduceBEq, Nat.reduceAdd, List.getElem?_cons_zero, List.getElem?_cons_succ, Option.bind_some, List.map_cons, List.map_nil, Nat.zero_add, if_true, List.getD_cons_zero, List.getD_cons_succ, List.contains_cons, List.contains_nil, Nat.reduceBEq, Bool.or_true, Bool.true_or, Bool.or_false, Bool.false_or, Bool.not_true, Bool.not_false, true_and, and_true, rowA_whole, push_n, set_n, push_obj, set_obj, set_push, set_push_ne, set_set, Nat.add_assoc, Nat.left_eq_add, Nat.add_eq_left, Nat.add_left_cancel_iff, Nat.reduceEqDiff, stO_1s, stO_ws, boxA_s, one_bool, one_int, one_str, one_ptr, one_nilptr, one_slice, one_eslice, one_nilslice, one_func, one_iface, one_niliface, List.all_cons, List.all_nil, List.length_cons, List.length_nil, Nat.reduceLT, Nat.reduceEqDiff, Nat.reduceLeDiff, Bool.and_true, Nat.one_ne_zero, Nat.succ_ne_zero, reduceIte, if_false, List.getElem?_cons_zero, List.set_cons_zero, List.set_cons_succ]
        refine callA_of (put_c g h6 EE v6 _ ttl 4 (by omega) (by omega) (by simp [beB_len]) (by omega) o7 (by omega)) ?_
        rintro z h8 ⟨oz, E8⟩
        unfold Bet
        simp only [i1, go_sem, Hold.p, HoldK.k, HoldL.K, HoldL.body, Nat.reduceBEq, Nat.reduceAdd, List.getElem?_cons_zero, List.getElem?_cons_succ, Option.bind_some, List.map_cons, List.map_nil, Nat.zero_add, if_true, List.getD_cons_zero, List.getD_cons_succ, List.contains_cons, List.contains_nil, Nat.reduceBEq, Bool.or_true, Bool.true_or, Bool.or_false, Bool.false_or, Bool.not_true, Bool.not_false, true_and, and_true, rowA_whole, push_n, set_n, push_obj, set_obj, set_push, set_push_ne, set_set, Nat.add_assoc, Nat.left_eq_add, Nat.add_eq_left, Nat.add_left_cancel_iff, Nat.reduceEqDiff, stO_1s, stO_ws, boxA_s, one_bool, one_int, one_str, one_ptr, one_nilptr, one_slice, one_eslice, one_nilslice, one_func, one_iface, one_niliface, List.all_cons, List.all_nil, List.length_cons, List.length_nil, Nat.reduceLT, Nat.reduceEqDiff, Nat.reduceLeDiff, Bool.and_true, Nat.one_ne_zero, Nat.succ_ne_zero, reduceIte, if_false, List.getElem?_cons_zero, List.set_cons_zero, List.set_cons_succ]
        exact ⟨z, rfl, oz, E8⟩
    rintro e g2 ⟨x, i1, i4, ox, E2⟩
    refine vc_cut2 (Bet g h.n ((((beB 2 id ++ [1, bc]) ++ beB 4 ttl ++ [UInt8.ofNat nm.length]) ++ nm) ++ [UInt8.ofNat zs.length])) ?_ ?_
    · have hsn := strRows_ne hne
      have bb2 := bb.ext E2
      have l2 := E2.le
      have hn2 : (h.n = g2.n) = False := by simp; omega
      simp only [i1, i4, bb2.eq, w1, bslA_1, hn2, go_sem, Hold.p, HoldK.k, HoldL.K, HoldL.body, Nat.reduceBEq, Nat.reduceAdd, List.getElem?_cons_zero, List.getElem?_cons_succ, Option.bind_some, List.map_cons, List.map_nil, Nat.zero_add, if_true, List.getD_cons_zero, List.getD_cons_succ, List.contains_cons, List.contains_nil, Nat.reduceBEq, Bool.or_true, Bool.true_or, Bool.or_false, Bool.false_or, Bool.not_true, Bool.not_false, true_and, and_true, rowA_whole, push_n, set_n, push_obj, set_obj, set_push, set_push_ne, set_set, Nat.add_assoc, Nat.left_eq_add, Nat.add_eq_left, Nat.add_left_cancel_iff, Nat.reduceEqDiff, stO_1s, stO_ws, boxA_s, one_bool, one_int, one_str, one_ptr, one_nilptr, one_slice, one_eslice, one_nilslice, one_func, one_iface, one_niliface, List.all_cons, List.all_nil, List.length_cons, List.length_nil, Nat.reduceLT, Nat.reduceEqDiff, Nat.reduceLeDiff, Bool.and_true, Nat.one_ne_zero, Nat.succ_ne_zero, reduceIte, if_false, List.getElem?_cons_zero, List.set_cons_zero, List.set_cons_succ]
      generalize hq_g3 : IH.push g2 (IObj.rows [[IV.int .u8 (UInt8.ofNat nm.length).toNat]] 5 1 false) = g3
      have e_g3 : Ext g2 g3 := by rw [← hq_g3]; exact (Ext.refl _).push _
      have l_g3 : g3.n = g2.n + 1 := by rw [← hq_g3]; rfl
      have ba : At g3 g2.n (IObj.rows [[IV.int .u8 (UInt8.ofNat nm.length).toNat]] 5 1 false) := by rw [← hq_g3]; exact At.new _ _
      clear hq_g3
      have ox := ox.ext e_g3
      have E2 := E2.ext e_g3
      refine ox.app (by simp) (by rw [strRows_len]; simp [beB_len]) ?_
      intro v6 h6 o6 t6 n6 v6o v6c
      have o7 : Own g3.n (g3.n + 1) h6 5 1 v6 (strRows (((beB 2 id ++ [1, bc]) ++ beB 4 ttl) ++ [UInt8.ofNat nm.length])) := by rw [strRows_append]; exact o6
      have E2 := E2.turn ox (by omega) t6
      have le_t6 := t6.le
      have bb2 := bb.ext E2
      simp only [i1, bb2.eq, go_sem, Hold.p, HoldK.k, HoldL.K, HoldL.body, Nat.reduceBEq, Nat.reduceAdd, List.getElem?_cons_zero, List.getElem?_cons_succ, Option.bind_some, List.map_cons, List.map_nil, Nat.zero_add, if_true, List.getD_cons_zero, List.getD_cons_succ, List.contains_cons, List.contains_nil, Nat.reduceBEq, Bool.or_true, Bool.true_or, Bool.or_false, Bool.false_or, Bool.not_true, Bool.not_false, true_and, and_true, rowA_whole, push_n, set_n, push_obj, set_obj, set_push, set_push_ne, set_set, Nat.add_assoc, Nat.left_eq_add, Nat.add_eq_left, Nat.add_left_cancel_iff, Nat.reduceEqDiff, stO_1s, stO_ws, boxA_s, one_bool, one_int, one_str, one_ptr, one_nilptr, one_slice, one_eslice, one_nilslice, one_func, one_iface, one_niliface, List.all_cons, List.all_nil, List.length_cons, List.length_nil, Nat.reduceLT, Nat.reduceEqDiff, Nat.reduceLeDiff, Bool.and_true, Nat.one_ne_zero, Nat.succ_ne_zero, reduceIte, if_false, List.getElem?_cons_zero, List.set_cons_zero, List.set_cons_succ]
      refine o7.app hsn (by rw [strRows_len, strRows_len]; simp [beB_len]; omega) ?_
      intro v8 h8 o8 t8 n8 v8o v8c
      rw [← strRows_append] at o8
      have E2 := E2.turn o7 (by omega) t8
      have le_t8 := t8.le
      have bb2 := bb.ext E2
      have hlen := (hs.ext E2).lenF
      rw [intRows_len] at hlen
      have hn3 : (h.n = h8.n) = False := by simp; omega
      simp only [i1, bb2.eq, hlen, w2, bslA_1, hn3, go_sem, Hold.p, HoldK.k, HoldL.K, HoldL.body, Nat.reduceBEq, Nat.reduceAdd, List.getElem?_cons_zero, List.getElem?_cons_succ, Option.bind_some, List.map_cons, List.map_nil, Nat.zero_add, if_true, List.getD_cons_zero, List.getD_cons_succ, List.contains_cons, List.contains_nil, Nat.reduceBEq, Bool.or_true, Bool.true_or, Bool.or_false, Bool.false_or, Bool.not_true, Bool.not_false, true_and, and_true, rowA_whole, push_n, set_n, push_obj, set_obj, set_push, set_push_ne, set_set, Nat.add_assoc, Nat.left_eq_add, Nat.add_eq_left, Nat.add_left_cancel_iff, Nat.reduceEqDiff, stO_1s, stO_ws, boxA_s, one_bool, one_int, one_str, one_ptr, one_nilptr, one_slice, one_eslice, one_nilslice, one_func, one_iface, one_niliface, List.all_cons, List.all_nil, List.length_cons, List.length_nil, Nat.reduceLT, Nat.reduceEqDiff, Nat.reduceLeDiff, Bool.and_true, Nat.one_ne_zero, Nat.succ_ne_zero, reduceIte, if_false, List.getElem?_cons_zero, List.set_cons_zero, List.set_cons_succ]
      generalize hq_g9 : IH.push h8 (IObj.rows [[IV.int .u8 (UInt8.ofNat zs.length).toNat]] 5 1 false) = g9
      have e_g9 : Ext h8 g9 := by rw [← hq_g9]; exact (Ext.refl _).push _
      have l_g9 : g9.n = h8.n + 1 := by rw [← hq_g9]; rfl
      have ba9 : At g9 h8.n (IObj.rows [[IV.int .u8 (UInt8.ofNat zs.length).toNat]] 5 1 false) := by rw [← hq_g9]; exact At.new _ _
      clear hq_g9
      have o8 := o8.ext e_g9
      have E2 := E2.ext e_g9
      refine o8.app (by simp) (by rw [strRows_len]; simp [beB_len]; omega) ?_
      intro vA hA oA tA nA vAo vAc
      rw [show [[IV.int .u8 ((UInt8.ofNat zs.length).toNat : Int)]] = strRows [UInt8.ofNat zs.length] from rfl, ← strRows_append] at oA
      have E2 := E2.turn o8 (by omega) tA
      have le_tA := tA.le
      unfold Bet
      simp only [i1, go_sem, Hold.p, HoldK.k, HoldL.K, HoldL.body, Nat.reduceBEq, Nat.reduceAdd, List.getElem?_cons_zero, List.getElem?_cons_succ, Option.bind_some, List.map_cons, List.map_nil, Nat.zero_add, if_true, List.getD_cons_zero, List.getD_cons_succ, List.contains_cons, List.contains_nil, Nat.reduceBEq, Bool.or_true, Bool.true_or, Bool.or_false, Bool.false_or, Bool.not_true, Bool.not_false, true_and, and_true, rowA_whole, push_n, set_n, push_obj, set_obj, set_push, set_push_ne, set_set, Nat.add_assoc, Nat.left_eq_add, Nat.add_eq_left, Nat.add_left_cancel_iff, Nat.reduceEqDiff, stO_1s, stO_ws, boxA_s, one_bool, one_int, one_str, one_ptr, one_nilptr, one_slice, one_eslice, one_nilslice, one_func, one_iface, one_niliface, List.all_cons, List.all_nil, List.length_cons, List.length_nil, Nat.reduceLT, Nat.reduceEqDiff, Nat.reduceLeDiff, Bool.and_true, Nat.one_ne_zero, Nat.succ_ne_zero, reduceIte, if_false, List.getElem?_cons_zero, List.set_cons_zero, List.set_cons_succ]
      exact ⟨vA, rfl, oA.wide (by omega) (by omega) (Nat.le_refl _), E2⟩
    clear i1 i4 E2 ox
    have hbl : ((((beB 2 id ++ [1, bc]) ++ beB 4 ttl ++ [UInt8.ofNat nm.length]) ++ nm) ++ [UInt8.ofNat zs.length]).length = 10 + nm.length := by simp [beB_len]; omega
    generalize (((beB 2 id ++ [1, bc]) ++ beB 4 ttl ++ [UInt8.ofNat nm.length]) ++ nm) ++ [UInt8.ofNat zs.length] = hd at hbl ⊢
    rintro e g2 ⟨x, i1, i4, ox, E2⟩
    have bb2 := bb.ext E2
    have hlen := (hs.ext E2).lenF
    rw [intRows_len] at hlen
    simp only [i1, i4, bb2.eq, hlen, go_sem, Hold.p, HoldK.k, HoldL.K, HoldL.body, Nat.reduceBEq, Nat.reduceAdd, List.getElem?_cons_zero, List.getElem?_cons_succ, Option.bind_some, List.map_cons, List.map_nil, Nat.zero_add, if_true, List.getD_cons_zero, List.getD_cons_succ, List.contains_cons, List.contains_nil, Nat.reduceBEq, Bool.or_true, Bool.true_or, Bool.or_false, Bool.false_or, Bool.not_true, Bool.not_false, true_and, and_true, rowA_whole, push_n, set_n, push_obj, set_obj, set_push, set_push_ne, set_set, Nat.add_assoc, Nat.left_eq_add, Nat.add_eq_left, Nat.add_left_cancel_iff, Nat.reduceEqDiff, stO_1s, stO_ws, boxA_s, one_bool, one_int, one_str, one_ptr, one_nilptr, one_slice, one_eslice, one_nilslice, one_func, one_iface, one_niliface, List.all_cons, List.all_nil, List.length_cons, List.length_nil, Nat.reduceLT, Nat.reduceEqDiff, Nat.reduceLeDiff, Bool.and_true, Nat.one_ne_zero, Nat.succ_ne_zero, reduceIte, if_false, List.getElem?_cons_zero, List.set_cons_zero, List.set_cons_succ]
    refine loop_at (fun n e g' => ∃ k, n = zs.length - k ∧ k ≤ zs.length ∧ Bet g h.n (hd ++ (zs.take k).flatMap (beB 4)) e g' ∧ e 45 = v ∧ e 46 = .int .i64 (zs.length : Nat) ∧ e 47 = .int .i64 (k : Nat)) zs.length ?_ ?_
    · refine ⟨0, by omega, by omega, ⟨x, ?_⟩, ?_⟩
      · simp only [i1, i4, go_sem, Hold.p, HoldK.k, HoldL.K, HoldL.body, Nat.reduceBEq, Nat.reduceAdd, List.getElem?_cons_zero, List.getElem?_cons_succ, Option.bind_some, List.map_cons, List.map_nil, Nat.zero_add, if_true, List.getD_cons_zero, List.getD_cons_succ, List.contains_cons, List.contains_nil, Nat.reduceBEq, Bool.or_true, Bool.true_or, Bool.or_false, Bool.false_or, Bool.not_true, Bool.not_false, true_and, and_true, rowA_whole, push_n, set_n, push_obj, set_obj, set_push, set_push_ne, set_set, Nat.add_assoc, Nat.left_eq_add, Nat.add_eq_left, Nat.add_left_cancel_iff, Nat.reduceEqDiff, stO_1s, stO_ws, boxA_s, one_bool, one_int, one_str, one_ptr, one_nilptr, one_slice, one_eslice, one_nilslice, one_func, one_iface, one_niliface, List.all_cons, List.all_nil, List.length_cons, List.length_nil, Nat.reduceLT, Nat.reduceEqDiff, Nat.reduceLeDiff, Bool.and_true, Nat.one_ne_zero, Nat.succ_ne_zero, reduceIte, if_false, List.getElem?_cons_zero, List.set_cons_zero, List.set_cons_succ]
        exact ⟨by simpa using ox, E2⟩
      · simp only [i1, i4, go_sem, Hold.p, HoldK.k, HoldL.K, HoldL.body, Nat.reduceBEq, Nat.reduceAdd, List.getElem?_cons_zero, List.getElem?_cons_succ, Option.bind_some, List.map_cons, List.map_nil, Nat.zero_add, if_true, List.getD_cons_zero, List.getD_cons_succ, List.contains_cons, List.contains_nil, Nat.reduceBEq, Bool.or_true, Bool.true_or, Bool.or_false, Bool.false_or, Bool.not_true, Bool.not_false, true_and, and_true, rowA_whole, push_n, set_n, push_obj, set_obj, set_push, set_push_ne, set_set, Nat.add_assoc, Nat.left_eq_add, Nat.add_eq_left, Nat.add_left_cancel_iff, Nat.reduceEqDiff, stO_1s, stO_ws, boxA_s, one_bool, one_int, one_str, one_ptr, one_nilptr, one_slice, one_eslice, one_nilslice, one_func, one_iface, one_niliface, List.all_cons, List.all_nil, List.length_cons, List.length_nil, Nat.reduceLT, Nat.reduceEqDiff, Nat.reduceLeDiff, Bool.and_true, Nat.one_ne_zero, Nat.succ_ne_zero, reduceIte, if_false, List.getElem?_cons_zero, List.set_cons_zero, List.set_cons_succ]
        rfl
    · clear i1 i4 ox E2 hlen bb2
      rintro n e g3 ⟨k, rfl, hk, ⟨x, i1, i4, ox, E3⟩, i45, i46, i47⟩
      have hs3 := hs.ext E3
      have l3 := E3.le
      simp only [i1, i4, i45, i46, i47, go_sem, Hold.p, HoldK.k, HoldL.K, HoldL.body, Nat.reduceBEq, Nat.reduceAdd, List.getElem?_cons_zero, List.getElem?_cons_succ, Option.bind_some, List.map_cons, List.map_nil, Nat.zero_add, if_true, List.getD_cons_zero, List.getD_cons_succ, List.contains_cons, List.contains_nil, Nat.reduceBEq, Bool.or_true, Bool.true_or, Bool.or_false, Bool.false_or, Bool.not_true, Bool.not_false, true_and, and_true, rowA_whole, push_n, set_n, push_obj, set_obj, set_push, set_push_ne, set_set, Nat.add_assoc, Nat.left_eq_add, Nat.add_eq_left, Nat.add_left_cancel_iff, Nat.reduceEqDiff, stO_1s, stO_ws, boxA_s, one_bool, one_int, one_str, one_ptr, one_nilptr, one_slice, one_eslice, one_nilslice, one_func, one_iface, one_niliface, List.all_cons, List.all_nil, List.length_cons, List.length_nil, Nat.reduceLT, Nat.reduceEqDiff, Nat.reduceLeDiff, Bool.and_true, Nat.one_ne_zero, Nat.succ_ne_zero, reduceIte, if_false, List.getElem?_cons_zero, List.set_cons_zero, List.set_cons_succ]
      refine test_dec (fun hb => ?_) (fun hb => ?_)
      · have hlt' : k < zs.length := by omega
        have hkp : zs[k]? = some zs[k] := List.getElem?_eq_getElem hlt'
        have hpa : okAddr zs[k] = true := List.all_eq_true.1 hza _ (List.getElem_mem hlt')
        generalize zs[k] = p at hkp hpa
        unfold okAddr at hpa
        simp only [Bool.and_eq_true, decide_eq_true_eq] at hpa
        obtain ⟨l, j, hia, hll, hrow⟩ := hs3.at (m := k) (intRows_at hkp) .i64
        have hc := cellO_row hrow
        simp only [i1, i4, i45, i46, i47, hia, hc, go_sem, Hold.p, HoldK.k, HoldL.K, HoldL.body, Nat.reduceBEq, Nat.reduceAdd, List.getElem?_cons_zero, List.getElem?_cons_succ, Option.bind_some, List.map_cons, List.map_nil, Nat.zero_add, if_true, List.getD_cons_zero, List.getD_cons_succ, List.contains_cons, List.contains_nil, Nat.reduceBEq, Bool.or_true, Bool.true_or, Bool.or_false, Bool.false_or, Bool.not_true, Bool.not_false, true_and, and_true, rowA_whole, push_n, set_n, push_obj, set_obj, set_push, set_push_ne, set_set, Nat.add_assoc, Nat.left_eq_add, Nat.add_eq_left, Nat.add_left_cancel_iff, Nat.reduceEqDiff, stO_1s, stO_ws, boxA_s, one_bool, one_int, one_str, one_ptr, one_nilptr, one_slice, one_eslice, one_nilslice, one_func, one_iface, one_niliface, List.all_cons, List.all_nil, List.length_cons, List.length_nil, Nat.reduceLT, Nat.reduceEqDiff, Nat.reduceLeDiff, Bool.and_true, Nat.one_ne_zero, Nat.succ_ne_zero, reduceIte, if_false, List.getElem?_cons_zero, List.set_cons_zero, List.set_cons_succ]
        refine callA_of (put_c g g3 E3 x _ p 4 (by omega) (by omega) (by rw [List.length_append, hbl, flat_len]; have := List.length_take_le k zs; omega) (Nat.le_refl _) ox (Nat.le_refl _)) ?_
        rintro z h5 ⟨oz, E5⟩
        unfold Bet
        simp only [i1, i45, i46, i47, go_sem, Hold.p, HoldK.k, HoldL.K, HoldL.body, Nat.reduceBEq, Nat.reduceAdd, List.getElem?_cons_zero, List.getElem?_cons_succ, Option.bind_some, List.map_cons, List.map_nil, Nat.zero_add, if_true, List.getD_cons_zero, List.getD_cons_succ, List.contains_cons, List.contains_nil, Nat.reduceBEq, Bool.or_true, Bool.true_or, Bool.or_false, Bool.false_or, Bool.not_true, Bool.not_false, true_and, and_true, rowA_whole, push_n, set_n, push_obj, set_obj, set_push, set_push_ne, set_set, Nat.add_assoc, Nat.left_eq_add, Nat.add_eq_left, Nat.add_left_cancel_iff, Nat.reduceEqDiff, stO_1s, stO_ws, boxA_s, one_bool, one_int, one_str, one_ptr, one_nilptr, one_slice, one_eslice, one_nilslice, one_func, one_iface, one_niliface, List.all_cons, List.all_nil, List.length_cons, List.length_nil, Nat.reduceLT, Nat.reduceEqDiff, Nat.reduceLeDiff, Bool.and_true, Nat.one_ne_zero, Nat.succ_ne_zero, reduceIte, if_false, List.getElem?_cons_zero, List.set_cons_zero, List.set_cons_succ]
        refine ⟨_, ?_, k + 1, rfl, by omega, ⟨z, rfl, ?_, E5⟩, wr64_succ k (by omega)⟩
        · omega
        · rw [flat_snoc hkp, ← List.append_assoc]
          exact oz
      · obtain rfl : k = zs.length := by omega
        rw [List.take_length] at ox
        simp only [i1, i4, go_sem, Hold.p, HoldK.k, HoldL.K, HoldL.body, Nat.reduceBEq, Nat.reduceAdd, List.getElem?_cons_zero, List.getElem?_cons_succ, Option.bind_some, List.map_cons, List.map_nil, Nat.zero_add, if_true, List.getD_cons_zero, List.getD_cons_succ, List.contains_cons, List.contains_nil, Nat.reduceBEq, Bool.or_true, Bool.true_or, Bool.or_false, Bool.false_or, Bool.not_true, Bool.not_false, true_and, and_true, rowA_whole, push_n, set_n, push_obj, set_obj, set_push, set_push_ne, set_set, Nat.add_assoc, Nat.left_eq_add, Nat.add_eq_left, Nat.add_left_cancel_iff, Nat.reduceEqDiff, stO_1s, stO_ws, boxA_s, one_bool, one_int, one_str, one_ptr, one_nilptr, one_slice, one_eslice, one_nilslice, one_func, one_iface, one_niliface, List.all_cons, List.all_nil, List.length_cons, List.length_nil, Nat.reduceLT, Nat.reduceEqDiff, Nat.reduceLeDiff, Bool.and_true, Nat.one_ne_zero, Nat.succ_ne_zero, reduceIte, if_false, List.getElem?_cons_zero, List.set_cons_zero, List.set_cons_succ]
        exact ⟨x, rfl, ox.wide (by have := E.le; omega) (Nat.le_refl _) (Nat.le_refl _), E.trans E3⟩
  · have hokf : okRep id code ttl nm zs = false := by simpa using hok
    have hdef : encR id code ttl nm zs = ([], 1) := if_neg hok
    rw [hdef]
    simp only [hv1, go_sem, Hold.p, HoldK.k, HoldL.K, HoldL.body, Nat.reduceBEq, Nat.reduceAdd, List.getElem?_cons_zero, List.getElem?_cons_succ, Option.bind_some, List.map_cons, List.map_nil, Nat.zero_add, if_true, List.getD_cons_zero, List.getD_cons_succ, List.contains_cons, List.contains_nil, Nat.reduceBEq, Bool.or_true, Bool.true_or, Bool.or_false, Bool.false_or, Bool.not_true, Bool.not_false, true_and, and_true, rowA_whole, push_n, set_n, push_obj, set_obj, set_push, set_push_ne, set_set, Nat.add_assoc, Nat.left_eq_add, Nat.add_eq_left, Nat.add_left_cancel_iff, Nat.reduceEqDiff, stO_1s, stO_ws, boxA_s, one_bool, one_int, one_str, one_ptr, one_nilptr, one_slice, one_eslice, one_nilslice, one_func, one_iface, one_niliface, List.all_cons, List.all_nil, List.length_cons, List.length_nil, Nat.reduceLT, Nat.reduceEqDiff, Nat.reduceLeDiff, Bool.and_true, Nat.one_ne_zero, Nat.succ_ne_zero, reduceIte, if_false, List.getElem?_cons_zero, List.set_cons_zero, List.set_cons_succ]
    generalize hq_g0 : IH.push h (IObj.rows [[IV.int .i64 id, IV.int .i64 code, IV.int .i64 ttl, IV.str nm, v]] 44 5 false) = g0
    have e_g0 : Ext h g0 := by rw [← hq_g0]; exact (Ext.refl _).push _
    have l_g0 : g0.n = h.n + 1 := by rw [← hq_g0]; rfl
    have bb : At g0 h.n (IObj.rows [[IV.int .i64 id, IV.int .i64 code, IV.int .i64 ttl, IV.str nm, v]] 44 5 false) := by rw [← hq_g0]; exact At.new _ _
    clear hq_g0
    have hs := hs.ext e_g0
    refine callA_of (okReply_c _ id code ttl nm v zs hs hz) ?_
    rintro r h1 ⟨⟨b, rfl, hb⟩, E1⟩
    have E := e_g0.trans E1
    have bb := bb.ext E1
    have hs := hs.ext E1
    have le_E1 := E1.le
    rw [hokf] at hb
    cases b
    · simp only [go_sem, Hold.p, HoldK.k, HoldL.K, HoldL.body, Nat.reduceBEq, Nat.reduceAdd, List.getElem?_cons_zero, List.getElem?_cons_succ, Option.bind_some, List.map_cons, List.map_nil, Nat.zero_add, if_true, List.getD_cons_zero, List.getD_cons_succ, List.contains_cons, List.contains_nil, Nat.reduceBEq, Bool.or_true, Bool.true_or, Bool.or_false, Bool.false_or, Bool.not_true, Bool.not_false, true_and, and_true, rowA_whole, push_n, set_n, push_obj, set_obj, set_push, set_push_ne, set_set, Nat.add_assoc, Nat.left_eq_add, Nat.add_eq_left, Nat.add_left_cancel_iff, Nat.reduceEqDiff, stO_1s, stO_ws, boxA_s, one_bool, one_int, one_str, one_ptr, one_nilptr, one_slice, one_eslice, one_nilslice, one_func, one_iface, one_niliface, List.all_cons, List.all_nil, List.length_cons, List.length_nil, Nat.reduceLT, Nat.reduceEqDiff, Nat.reduceLeDiff, Bool.and_true, Nat.one_ne_zero, Nat.succ_ne_zero, reduceIte, if_false, List.getElem?_cons_zero, List.set_cons_zero, List.set_cons_succ]
      exact ⟨_, rfl, Own.nil, E⟩
    · simp only [bb.eq, go_sem, Hold.p, HoldK.k, HoldL.K, HoldL.body, Nat.reduceBEq, Nat.reduceAdd, List.getElem?_cons_zero, List.getElem?_cons_succ, Option.bind_some, List.map_cons, List.map_nil, Nat.zero_add, if_true, List.getD_cons_zero, List.getD_cons_succ, List.contains_cons, List.contains_nil, Nat.reduceBEq, Bool.or_true, Bool.true_or, Bool.or_false, Bool.false_or, Bool.not_true, Bool.not_false, true_and, and_true, rowA_whole, push_n, set_n, push_obj, set_obj, set_push, set_push_ne, set_set, Nat.add_assoc, Nat.left_eq_add, Nat.add_eq_left, Nat.add_left_cancel_iff, Nat.reduceEqDiff, stO_1s, stO_ws, boxA_s, one_bool, one_int, one_str, one_ptr, one_nilptr, one_slice, one_eslice, one_nilslice, one_func, one_iface, one_niliface, List.all_cons, List.all_nil, List.length_cons, List.length_nil, Nat.reduceLT, Nat.reduceEqDiff, Nat.reduceLeDiff, Bool.and_true, Nat.one_ne_zero, Nat.succ_ne_zero, reduceIte, if_false, List.getElem?_cons_zero, List.set_cons_zero, List.set_cons_succ]
      refine callA_of (implNameOK_c _ nm hm) ?_
      rintro r h2 ⟨rfl, E2⟩
      rw [Bool.true_and] at hb
      simp only [hb, go_sem, Hold.p, HoldK.k, HoldL.K, HoldL.body, Nat.reduceBEq, Nat.reduceAdd, List.getElem?_cons_zero, List.getElem?_cons_succ, Option.bind_some, List.map_cons, List.map_nil, Nat.zero_add, if_true, List.getD_cons_zero, List.getD_cons_succ, List.contains_cons, List.contains_nil, Nat.reduceBEq, Bool.or_true, Bool.true_or, Bool.or_false, Bool.false_or, Bool.not_true, Bool.not_false, true_and, and_true, rowA_whole, push_n, set_n, push_obj, set_obj, set_push, set_push_ne, set_set, Nat.add_assoc, Nat.left_eq_add, Nat.add_eq_left, Nat.add_left_cancel_iff, Nat.reduceEqDiff, stO_1s, stO_ws, boxA_s, one_bool, one_int, one_str, one_ptr, one_nilptr, one_slice, one_eslice, one_nilslice, one_func, one_iface, one_niliface, List.all_cons, List.all_nil, List.length_cons, List.length_nil, Nat.reduceLT, Nat.reduceEqDiff, Nat.reduceLeDiff, Bool.and_true, Nat.one_ne_zero, Nat.succ_ne_zero, reduceIte, if_false, List.getElem?_cons_zero, List.set_cons_zero, List.set_cons_succ]
      exact ⟨_, rfl, Own.nil, E.trans E2⟩
end Go.Proofs.YtcmcfmgabafljaaDoor

namespace Go.Proofs.YtcmcfmgabafljaaDoor
open Go Go.IW

set_option maxRecDepth 20000 in
theorem eqInt64S_c (h : IH) (v w : IV) (zs : List Int) (hv : SlR h 1 v (intRows zs)) (hw : SlR h 1 w (intRows zs)) (hm : zs.length ≤ 16777300) :
    ICalls Tryd.prog 73 [v, w] h fun r h' => r = .bool true ∧ h' = h := by
  refine icalls (.of ok73) (Nat.le_of_ble_eq_true rfl) ?_
  unfold c73
  have hlv := hv.lenF
  have hlw := hw.lenF
  rw [intRows_len] at hlv hlw
  simp only [hlv, hlw, decide_true, go_sem, Hold.p, HoldK.k, HoldL.K, HoldL.body, Nat.reduceBEq, Nat.reduceAdd, List.getElem?_cons_zero, List.getElem?_cons_succ, Option.bind_some, List.map_cons, List.map_nil, Nat.zero_add, if_true, List.getD_cons_zero, List.getD_cons_succ, List.contains_cons, List.contains_nil, Nat.reduceBEq, Bool.or_true, Bool.true_or, Bool.or_false, Bool.false_or, Bool.not_true, Bool.not_false, true_and, and_true]
  refine loop_at (fun n e h' => ∃ k, n = zs.length - k ∧ k ≤ zs.length ∧ e 0 = v ∧ e 1 = w ∧ e 5 = .int .i64 (k : Nat) ∧ h' = h) zs.length ?_ ?_
  · refine ⟨0, by omega, by omega, ?_⟩
    simp only [go_sem, Hold.p, HoldK.k, HoldL.K, HoldL.body, Nat.reduceBEq, Nat.reduceAdd, List.getElem?_cons_zero, List.getElem?_cons_succ, Option.bind_some, List.map_cons, List.map_nil, Nat.zero_add, if_true, List.getD_cons_zero, List.getD_cons_succ, List.contains_cons, List.contains_nil, Nat.reduceBEq, Bool.or_true, Bool.true_or, Bool.or_false, Bool.false_or, Bool.not_true, Bool.not_false, true_and, and_true]
    rfl
  · rintro n e h' ⟨k, rfl, hk, e0, e1, e5, rfl⟩
    simp only [e0, e1, e5, hlv, go_sem, Hold.p, HoldK.k, HoldL.K, HoldL.body, Nat.reduceBEq, Nat.reduceAdd, List.getElem?_cons_zero, List.getElem?_cons_succ, Option.bind_some, List.map_cons, List.map_nil, Nat.zero_add, if_true, List.getD_cons_zero, List.getD_cons_succ, List.contains_cons, List.contains_nil, Nat.reduceBEq, Bool.or_true, Bool.true_or, Bool.or_false, Bool.false_or, Bool.not_true, Bool.not_false, true_and, and_true]
    refine test_dec (fun hb => ?_) (fun hb => ?_)
    · have hlt' : k < zs.length := by omega
      have hkp : zs[k]? = some zs[k] := List.getElem?_eq_getElem hlt'
      generalize zs[k] = p at hkp
      obtain ⟨l, j, hia, hll, hrow⟩ := hv.at (m := k) (intRows_at hkp) .i64
      obtain ⟨l2, j2, hia2, hll2, hrow2⟩ := hw.at (m := k) (intRows_at hkp) .i64
      have hc := cellO_row hrow
      have hc2 := cellO_row hrow2
      simp only [e0, e1, e5, hlv, hia, hia2, hc, hc2, decide_true, go_sem, Hold.p, HoldK.k, HoldL.K, HoldL.body, Nat.reduceBEq, Nat.reduceAdd, List.getElem?_cons_zero, List.getElem?_cons_succ, Option.bind_some, List.map_cons, List.map_nil, Nat.zero_add, if_true, List.getD_cons_zero, List.getD_cons_succ, List.contains_cons, List.contains_nil, Nat.reduceBEq, Bool.or_true, Bool.true_or, Bool.or_false, Bool.false_or, Bool.not_true, Bool.not_false, true_and, and_true]
      exact ⟨_, by omega, k + 1, rfl, by omega, wr64_succ k (by omega)⟩
    · simp only [e0, e1, e5, go_sem, Hold.p, HoldK.k, HoldL.K, HoldL.body, Nat.reduceBEq, Nat.reduceAdd, List.getElem?_cons_zero, List.getElem?_cons_succ, Option.bind_some, List.map_cons, List.map_nil, Nat.zero_add, if_true, List.getD_cons_zero, List.getD_cons_succ, List.contains_cons, List.contains_nil, Nat.reduceBEq, Bool.or_true, Bool.true_or, Bool.or_false, Bool.false_or, Bool.not_true, Bool.not_false, true_and, and_true]

def marksI (n k0 : Nat) : List (List IV) := (List.range n).map fun j => [.int .i64 ((k0 + j : Nat) : Int)]

set_option maxRecDepth 20000 in
theorem markInt64S_n (h : IH) (l n k0 e0 : Nat) (rs : List (List IV)) (hn : rs.length = n) (h0 : n ≠ 0) (hob : h.obj l = .rows rs e0 1 false) (hl : l < h.n)
    (hrs : ∀ r ∈ rs, r.length = 1) (hk : k0 + n < 4611686018427387904) :
    ICalls Tryd.prog 74 [.slice l 0 n, .int .i64 k0] h fun r h' => r = .int .i64 ((k0 + n : Nat) : Int) ∧ h' = h.set l (.rows (marksI n k0) e0 1 false) := by
  refine icalls (.of ok74) (Nat.le_of_ble_eq_true rfl) ?_
  unfold c74
  have hml : (marksI n k0).length = n := by simp [marksI]
  simp only [go_sem, Hold.p, HoldK.k, HoldL.K, HoldL.body, Nat.reduceBEq, Nat.reduceAdd, List.getElem?_cons_zero, List.getElem?_cons_succ, Option.bind_some, List.map_cons, List.map_nil, Nat.zero_add, if_true, List.getD_cons_zero, List.getD_cons_succ, List.contains_cons, List.contains_nil, Nat.reduceBEq, Bool.or_true, Bool.true_or, Bool.or_false, Bool.false_or, Bool.not_true, Bool.not_false, true_and, and_true]
  refine loop_at (fun m e h' => ∃ k, m = n - k ∧ k ≤ n ∧ e 0 = .slice l 0 n ∧ e 1 = .int .i64 ((k0 + k : Nat) : Int) ∧ e 5 = .int .i64 (k : Nat) ∧
    h' = h.set l (.rows ((marksI n k0).take k ++ rs.drop k) e0 1 false)) n ?_ ?_
  · refine ⟨0, by omega, by omega, ?_⟩
    simp only [go_sem, Hold.p, HoldK.k, HoldL.K, HoldL.body, Nat.reduceBEq, Nat.reduceAdd, List.getElem?_cons_zero, List.getElem?_cons_succ, Option.bind_some, List.map_cons, List.map_nil, Nat.zero_add, if_true, List.getD_cons_zero, List.getD_cons_succ, List.contains_cons, List.contains_nil, Nat.reduceBEq, Bool.or_true, Bool.true_or, Bool.or_false, Bool.false_or, Bool.not_true, Bool.not_false, true_and, and_true]
    exact ⟨by simp, rfl, (set_self (by simpa using hob)).symm⟩
  · rintro m e h' ⟨k, rfl, hkn, e0', e1, e5, rfl⟩
    simp only [e0', e1, e5, go_sem, Hold.p, HoldK.k, HoldL.K, HoldL.body, Nat.reduceBEq, Nat.reduceAdd, List.getElem?_cons_zero, List.getElem?_cons_succ, Option.bind_some, List.map_cons, List.map_nil, Nat.zero_add, if_true, List.getD_cons_zero, List.getD_cons_succ, List.contains_cons, List.contains_nil, Nat.reduceBEq, Bool.or_true, Bool.true_or, Bool.or_false, Bool.false_or, Bool.not_true, Bool.not_false, true_and, and_true]
    refine test_dec (fun hb => ?_) (fun hb => ?_)
    · have hkn' : k < n := by omega
      obtain ⟨row, hrow⟩ : ∃ row, rs[k]? = some row := ⟨rs[k], List.getElem?_eq_getElem (by omega)⟩
      have hrl : row.length = 1 := hrs row (List.mem_of_getElem? hrow)
      match row, hrl with
      | [a0], _ =>
      generalize hh : h.set l (.rows ((marksI n k0).take k ++ rs.drop k) e0 1 false) = h1
      have hob1 : h1.obj l = .rows ((marksI n k0).take k ++ rs.drop k) e0 1 false := by rw [← hh, set_here]
      have hr1 : rowO (h1.obj l) k = some [a0] := by
        rw [hob1]
        show (_ ++ _)[k]? = _
        rw [List.getElem?_append_right (by simp; omega)]
        simp [hkn, hml, hrow]
      have hia : iadrF h1 1 (.slice l 0 n) (.int .i64 k) = some (.ptr l k 0) := by
        rw [iadrF_nat hkn' (by rw [hob1]; rfl), Nat.zero_add]
      rw [← put_self hr1]
      have hr2 : (rowO (h1.obj l) k).isSome = true := by rw [hr1]; rfl
      have ho1 : (h1.obj l).own = true := by rw [hob1]; rfl
      generalize hq : k0 + k = q at e1
      have hq' : q + 1 < 4611686018427387904 := by omega
      have w0 : wr .i64 (((q : Nat) : Int) + 1) = ((q + 1 : Nat) : Int) := by rw [wr64 _ (by omega)]; rfl
      simp only [e0', e1, e5, hia, iadrF_put, stA_put1 hr2 ho1, put_put, w0, go_sem, Hold.p, HoldK.k, HoldL.K, HoldL.body, Nat.reduceBEq, Nat.reduceAdd, List.getElem?_cons_zero, List.getElem?_cons_succ, Option.bind_some, List.map_cons, List.map_nil, Nat.zero_add, if_true, List.getD_cons_zero, List.getD_cons_succ, List.contains_cons, List.contains_nil, Nat.reduceBEq, Bool.or_true, Bool.true_or, Bool.or_false, Bool.false_or, Bool.not_true, Bool.not_false, true_and, and_true, rowA_whole, push_n, set_n, push_obj, set_obj, set_push, set_push_ne, set_set, Nat.add_assoc, Nat.left_eq_add, Nat.add_eq_left, Nat.add_left_cancel_iff, Nat.reduceEqDiff, stO_1s, stO_ws, boxA_s, one_bool, one_int, one_str, one_ptr, one_nilptr, one_slice, one_eslice, one_nilslice, one_func, one_iface, one_niliface, List.all_cons, List.all_nil, List.length_cons, List.length_nil, Nat.reduceLT, Nat.reduceEqDiff, Nat.reduceLeDiff, Bool.and_true, Nat.one_ne_zero, Nat.succ_ne_zero, reduceIte, if_false, List.getElem?_cons_zero, List.set_cons_zero, List.set_cons_succ]
      subst hq
      refine ⟨_, ?_, k + 1, rfl, by omega, by congr 2, wr64_succ k (by omega), ?_⟩
      · omega
      · unfold IH.put
        rw [hob1, ← hh, set_set]
        unfold putO
        have := over_set (xs := marksI n k0) (ys := rs) (k := k) (x := [.int .i64 ((k0 + k : Nat) : Int)]) (by rw [hml, hn]) (by unfold marksI; simp [hkn'])
        rw [← this]
    · simp only [e0', e1, e5, go_sem, Hold.p, HoldK.k, HoldL.K, HoldL.body, Nat.reduceBEq, Nat.reduceAdd, List.getElem?_cons_zero, List.getElem?_cons_succ, Option.bind_some, List.map_cons, List.map_nil, Nat.zero_add, if_true, List.getD_cons_zero, List.getD_cons_succ, List.contains_cons, List.contains_nil, Nat.reduceBEq, Bool.or_true, Bool.true_or, Bool.or_false, Bool.false_or, Bool.not_true, Bool.not_false, true_and, and_true]
      obtain rfl : k = n := by omega
      exact ⟨rfl, by congr 2; rw [List.drop_eq_nil_of_le (by omega), List.append_nil, List.take_of_length_le (by omega)]⟩

theorem rowsI1 {zs : List Int} : ∀ r ∈ intRows zs, r.length = 1 := by
  intro r hr
  obtain ⟨p, _, rfl⟩ := List.mem_map.1 hr
  rfl
set_option maxRecDepth 20000 in
theorem markInt64S_c {lo hi : Nat} (h : IH) (v : IV) (k0 : Nat) (rs : List (List IV)) (ho : Own lo hi h 2 1 v rs) (hrs : ∀ r ∈ rs, r.length = 1) (hk : k0 + rs.length < 4611686018427387904) :
    ICalls Tryd.prog 74 [v, .int .i64 k0] h fun r h' => r = .int .i64 ((k0 + rs.length : Nat) : Int) ∧ Own lo hi h' 2 1 v (marksI rs.length k0) ∧ Turn v h h' := by
  refine ho.mark (fun hr hlen h1 => ?_) (fun l hv h0 hl h1 h2 h3 hob => ?_)
  · subst hr
    refine icalls (.of ok74) (Nat.le_of_ble_eq_true rfl) ?_
    unfold c74
    simp only [hlen, go_sem, Hold.p, HoldK.k, HoldL.K, HoldL.body, Nat.reduceBEq, Nat.reduceAdd, List.getElem?_cons_zero, List.getElem?_cons_succ, Option.bind_some, List.map_cons, List.map_nil, Nat.zero_add, if_true, List.getD_cons_zero, List.getD_cons_succ, List.contains_cons, List.contains_nil, Nat.reduceBEq, Bool.or_true, Bool.true_or, Bool.or_false, Bool.false_or, Bool.not_true, Bool.not_false, true_and, and_true]
    refine loop_at (fun m e h' => m = 0 ∧ h' = h ∧ e 0 = v ∧ e 1 = .int .i64 k0 ∧ e 5 = .int .i64 0) 0 ?_ ?_
    · simp only [go_sem, Hold.p, HoldK.k, HoldL.K, HoldL.body, Nat.reduceBEq, Nat.reduceAdd, List.getElem?_cons_zero, List.getElem?_cons_succ, Option.bind_some, List.map_cons, List.map_nil, Nat.zero_add, if_true, List.getD_cons_zero, List.getD_cons_succ, List.contains_cons, List.contains_nil, Nat.reduceBEq, Bool.or_true, Bool.true_or, Bool.or_false, Bool.false_or, Bool.not_true, Bool.not_false, true_and, and_true]
    · rintro m e h' ⟨rfl, rfl, e0, e1, e5⟩
      simp only [e0, e1, e5, hlen, go_sem, Hold.p, HoldK.k, HoldL.K, HoldL.body, Nat.reduceBEq, Nat.reduceAdd, List.getElem?_cons_zero, List.getElem?_cons_succ, Option.bind_some, List.map_cons, List.map_nil, Nat.zero_add, if_true, List.getD_cons_zero, List.getD_cons_succ, List.contains_cons, List.contains_nil, Nat.reduceBEq, Bool.or_true, Bool.true_or, Bool.or_false, Bool.false_or, Bool.not_true, Bool.not_false, true_and, and_true]
      refine test_dec (fun hb => absurd hb (by simp)) (fun _ => ?_)
      simp only [e0, e1, e5, go_sem, Hold.p, HoldK.k, HoldL.K, HoldL.body, Nat.reduceBEq, Nat.reduceAdd, List.getElem?_cons_zero, List.getElem?_cons_succ, Option.bind_some, List.map_cons, List.map_nil, Nat.zero_add, if_true, List.getD_cons_zero, List.getD_cons_succ, List.contains_cons, List.contains_nil, Nat.reduceBEq, Bool.or_true, Bool.true_or, Bool.or_false, Bool.false_or, Bool.not_true, Bool.not_false, true_and, and_true]
      exact ⟨by simp, ho, Turn.refl _ _⟩
  · subst hv
    refine (markInt64S_n h l rs.length k0 2 rs rfl h0 hob hl hrs hk).mono ?_
    rintro r h' ⟨rfl, rfl⟩
    exact ⟨rfl, Own.over (by simp [marksI]) h0 h1 h2 h3, Turn.set _⟩

set_option maxRecDepth 20000 in
theorem heldInt64S_c (h : IH) (v : IV) (n k0 : Nat) (hs : SlR h 1 v (marksI n k0)) (hk : k0 + n < 4611686018427387904) :
    ICalls Tryd.prog 75 [v, .int .i64 k0] h fun r h' => r = .int .i64 ((k0 + n : Nat) : Int) ∧ h' = h := by
  refine icalls (.of ok75) (Nat.le_of_ble_eq_true rfl) ?_
  unfold c75
  have hlen := hs.lenF
  have hml : (marksI n k0).length = n := by simp [marksI]
  rw [hml] at hlen
  simp only [go_sem, Hold.p, HoldK.k, HoldL.K, HoldL.body, Nat.reduceBEq, Nat.reduceAdd, List.getElem?_cons_zero, List.getElem?_cons_succ, Option.bind_some, List.map_cons, List.map_nil, Nat.zero_add, if_true, List.getD_cons_zero, List.getD_cons_succ, List.contains_cons, List.contains_nil, Nat.reduceBEq, Bool.or_true, Bool.true_or, Bool.or_false, Bool.false_or, Bool.not_true, Bool.not_false, true_and, and_true]
  refine loop_at (fun m e h' => ∃ k, m = n - k ∧ k ≤ n ∧ e 0 = v ∧ e 1 = .int .i64 ((k0 + k : Nat) : Int) ∧ e 5 = .int .i64 (k : Nat) ∧ h' = h) n ?_ ?_
  · refine ⟨0, by omega, by omega, ?_⟩
    simp only [go_sem, Hold.p, HoldK.k, HoldL.K, HoldL.body, Nat.reduceBEq, Nat.reduceAdd, List.getElem?_cons_zero, List.getElem?_cons_succ, Option.bind_some, List.map_cons, List.map_nil, Nat.zero_add, if_true, List.getD_cons_zero, List.getD_cons_succ, List.contains_cons, List.contains_nil, Nat.reduceBEq, Bool.or_true, Bool.true_or, Bool.or_false, Bool.false_or, Bool.not_true, Bool.not_false, true_and, and_true]
    exact ⟨by simp, rfl⟩
  · rintro m e h' ⟨k, rfl, hkn, e0', e1, e5, rfl⟩
    simp only [e0', e1, e5, hlen, go_sem, Hold.p, HoldK.k, HoldL.K, HoldL.body, Nat.reduceBEq, Nat.reduceAdd, List.getElem?_cons_zero, List.getElem?_cons_succ, Option.bind_some, List.map_cons, List.map_nil, Nat.zero_add, if_true, List.getD_cons_zero, List.getD_cons_succ, List.contains_cons, List.contains_nil, Nat.reduceBEq, Bool.or_true, Bool.true_or, Bool.or_false, Bool.false_or, Bool.not_true, Bool.not_false, true_and, and_true]
    refine test_dec (fun hb => ?_) (fun hb => ?_)
    · have hkn' : k < n := by omega
      obtain ⟨l, j, hia, hll, hrow⟩ := hs.at (m := k) (row := [.int .i64 ((k0 + k : Nat) : Int)]) (by unfold marksI; simp [hkn']) .i64
      have hc := cellO_row hrow
      generalize hq : k0 + k = q at e1 hc
      have hq' : q + 1 < 4611686018427387904 := by omega
      have w0 : wr .i64 (((q : Nat) : Int) + 1) = ((q + 1 : Nat) : Int) := by rw [wr64 _ (by omega)]; rfl
      simp only [e0', e1, e5, hia, hc, decide_true, w0, go_sem, Hold.p, HoldK.k, HoldL.K, HoldL.body, Nat.reduceBEq, Nat.reduceAdd, List.getElem?_cons_zero, List.getElem?_cons_succ, Option.bind_some, List.map_cons, List.map_nil, Nat.zero_add, if_true, List.getD_cons_zero, List.getD_cons_succ, List.contains_cons, List.contains_nil, Nat.reduceBEq, Bool.or_true, Bool.true_or, Bool.or_false, Bool.false_or, Bool.not_true, Bool.not_false, true_and, and_true]
      subst hq
      refine ⟨_, ?_, k + 1, rfl, by omega, by congr 2, wr64_succ k (by omega)⟩
      omega
    · simp only [e0', e1, e5, hlen, go_sem, Hold.p, HoldK.k, HoldL.K, HoldL.body, Nat.reduceBEq, Nat.reduceAdd, List.getElem?_cons_zero, List.getElem?_cons_succ, Option.bind_some, List.map_cons, List.map_nil, Nat.zero_add, if_true, List.getD_cons_zero, List.getD_cons_succ, List.contains_cons, List.contains_nil, Nat.reduceBEq, Bool.or_true, Bool.true_or, Bool.or_false, Bool.false_or, Bool.not_true, Bool.not_false, true_and, and_true]
      obtain rfl : k = n := by omega
      trivial

set_option maxRecDepth 20000 in
theorem eqNameReply_c (h : IH) (id code ttl : Int) (nm : List UInt8) (v w : IV) (zs : List Int) (hv : SlR h 1 v (intRows zs)) (hw : SlR h 1 w (intRows zs)) (hm : zs.length ≤ 16777300) :
    ICalls Tryd.prog 29 [.agg [.int .i64 id, .int .i64 code, .int .i64 ttl, .str nm, v], .agg [.int .i64 id, .int .i64 code, .int .i64 ttl, .str nm, w]] h fun r h' => r = .bool true ∧ Ext h h' := by
  refine icalls (.of ok29) (Nat.le_of_ble_eq_true rfl) ?_
  unfold c29
  have v1 := hv.one
  have v2 := hv.cells
  have v3 := hw.one
  have v4 := hw.cells
  simp only [v1, v3, go_sem, Hold.p, HoldK.k, HoldL.K, HoldL.body, Nat.reduceBEq, Nat.reduceAdd, List.getElem?_cons_zero, List.getElem?_cons_succ, Option.bind_some, List.map_cons, List.map_nil, Nat.zero_add, if_true, List.getD_cons_zero, List.getD_cons_succ, List.contains_cons, List.contains_nil, Nat.reduceBEq, Bool.or_true, Bool.true_or, Bool.or_false, Bool.false_or, Bool.not_true, Bool.not_false, true_and, and_true, rowA_whole, push_n, set_n, push_obj, set_obj, set_push, set_push_ne, set_set, Nat.add_assoc, Nat.left_eq_add, Nat.add_eq_left, Nat.add_left_cancel_iff, Nat.reduceEqDiff, stO_1s, stO_ws, boxA_s, one_bool, one_int, one_str, one_ptr, one_nilptr, one_slice, one_eslice, one_nilslice, one_func, one_iface, one_niliface, List.all_cons, List.all_nil, List.length_cons, List.length_nil, Nat.reduceLT, Nat.reduceEqDiff, Nat.reduceLeDiff, Bool.and_true, Nat.one_ne_zero, Nat.succ_ne_zero, reduceIte, if_false, List.getElem?_cons_zero, List.set_cons_zero, List.set_cons_succ]
  generalize hq_g0 : IH.push h (IObj.rows [[IV.int .i64 id, IV.int .i64 code, IV.int .i64 ttl, IV.str nm, v]] 44 5 false) = g0
  have e_g0 : Ext h g0 := by rw [← hq_g0]; exact (Ext.refl _).push _
  have l_g0 : g0.n = h.n + 1 := by rw [← hq_g0]; rfl
  have bb : At g0 h.n (IObj.rows [[IV.int .i64 id, IV.int .i64 code, IV.int .i64 ttl, IV.str nm, v]] 44 5 false) := by rw [← hq_g0]; exact At.new _ _
  clear hq_g0
  have hv := hv.ext e_g0
  have hw := hw.ext e_g0
  generalize hq_g1 : IH.push g0 (IObj.rows [[IV.int .i64 id, IV.int .i64 code, IV.int .i64 ttl, IV.str nm, w]] 44 5 false) = g1
  have e_g1 : Ext g0 g1 := by rw [← hq_g1]; exact (Ext.refl _).push _
  have l_g1 : g1.n = g0.n + 1 := by rw [← hq_g1]; rfl
  have bc : At g1 g0.n (IObj.rows [[IV.int .i64 id, IV.int .i64 code, IV.int .i64 ttl, IV.str nm, w]] 44 5 false) := by rw [← hq_g1]; exact At.new _ _
  clear hq_g1
  have bb := bb.ext e_g1
  have hv := hv.ext e_g1
  have hw := hw.ext e_g1
  have E := e_g0.trans e_g1
  rw [l_g0] at bc
  simp only [bb.eq, bc.eq, decide_true, l_g0, go_sem, Hold.p, HoldK.k, HoldL.K, HoldL.body, Nat.reduceBEq, Nat.reduceAdd, List.getElem?_cons_zero, List.getElem?_cons_succ, Option.bind_some, List.map_cons, List.map_nil, Nat.zero_add, if_true, List.getD_cons_zero, List.getD_cons_succ, List.contains_cons, List.contains_nil, Nat.reduceBEq, Bool.or_true, Bool.true_or, Bool.or_false, Bool.false_or, Bool.not_true, Bool.not_false, true_and, and_true, rowA_whole, push_n, set_n, push_obj, set_obj, set_push, set_push_ne, set_set, Nat.add_assoc, Nat.left_eq_add, Nat.add_eq_left, Nat.add_left_cancel_iff, Nat.reduceEqDiff, stO_1s, stO_ws, boxA_s, one_bool, one_int, one_str, one_ptr, one_nilptr, one_slice, one_eslice, one_nilslice, one_func, one_iface, one_niliface, List.all_cons, List.all_nil, List.length_cons, List.length_nil, Nat.reduceLT, Nat.reduceEqDiff, Nat.reduceLeDiff, Bool.and_true, Nat.one_ne_zero, Nat.succ_ne_zero, reduceIte, if_false, List.getElem?_cons_zero, List.set_cons_zero, List.set_cons_succ]
  refine callA_of (eqInt64S_c _ v w zs hv hw hm) ?_
  rintro r h' ⟨rfl, rfl⟩
  simp only [go_sem, Hold.p, HoldK.k, HoldL.K, HoldL.body, Nat.reduceBEq, Nat.reduceAdd, List.getElem?_cons_zero, List.getElem?_cons_succ, Option.bind_some, List.map_cons, List.map_nil, Nat.zero_add, if_true, List.getD_cons_zero, List.getD_cons_succ, List.contains_cons, List.contains_nil, Nat.reduceBEq, Bool.or_true, Bool.true_or, Bool.or_false, Bool.false_or, Bool.not_true, Bool.not_false, true_and, and_true, rowA_whole, push_n, set_n, push_obj, set_obj, set_push, set_push_ne, set_set, Nat.add_assoc, Nat.left_eq_add, Nat.add_eq_left, Nat.add_left_cancel_iff, Nat.reduceEqDiff, stO_1s, stO_ws, boxA_s, one_bool, one_int, one_str, one_ptr, one_nilptr, one_slice, one_eslice, one_nilslice, one_func, one_iface, one_niliface, List.all_cons, List.all_nil, List.length_cons, List.length_nil, Nat.reduceLT, Nat.reduceEqDiff, Nat.reduceLeDiff, Bool.and_true, Nat.one_ne_zero, Nat.succ_ne_zero, reduceIte, if_false, List.getElem?_cons_zero, List.set_cons_zero, List.set_cons_succ]
  exact E

set_option maxRecDepth 20000 in
theorem markNameReply_c {lo hi : Nat} (h : IH) (id code ttl : Int) (nm : List UInt8) (v : IV) (zs : List Int) (k0 : Nat) (ho : Own lo hi h 2 1 v (intRows zs)) (hhi : hi ≤ h.n) (hk : k0 + zs.length < 4611686018427387904) :
    ICalls Tryd.prog 30 [.agg [.int .i64 id, .int .i64 code, .int .i64 ttl, .str nm, v], .int .i64 k0] h fun r h' => r = .int .i64 ((k0 + zs.length : Nat) : Int) ∧ Own lo hi h' 2 1 v (marksI zs.length k0) ∧ Turn v h h' := by
  refine icalls (.of ok30) (Nat.le_of_ble_eq_true rfl) ?_
  unfold c30
  have v1 := ho.sl.one
  have v2 := ho.sl.cells
  simp only [v1, go_sem, Hold.p, HoldK.k, HoldL.K, HoldL.body, Nat.reduceBEq, Nat.reduceAdd, List.getElem?_cons_zero, List.getElem?_cons_succ, Option.bind_some, List.map_cons, List.map_nil, Nat.zero_add, if_true, List.getD_cons_zero, List.getD_cons_succ, List.contains_cons, List.contains_nil, Nat.reduceBEq, Bool.or_true, Bool.true_or, Bool.or_false, Bool.false_or, Bool.not_true, Bool.not_false, true_and, and_true, rowA_whole, push_n, set_n, push_obj, set_obj, set_push, set_push_ne, set_set, Nat.add_assoc, Nat.left_eq_add, Nat.add_eq_left, Nat.add_left_cancel_iff, Nat.reduceEqDiff, stO_1s, stO_ws, boxA_s, one_bool, one_int, one_str, one_ptr, one_nilptr, one_slice, one_eslice, one_nilslice, one_func, one_iface, one_niliface, List.all_cons, List.all_nil, List.length_cons, List.length_nil, Nat.reduceLT, Nat.reduceEqDiff, Nat.reduceLeDiff, Bool.and_true, Nat.one_ne_zero, Nat.succ_ne_zero, reduceIte, if_false, List.getElem?_cons_zero, List.set_cons_zero, List.set_cons_succ]
  generalize hq_g0 : IH.push h (IObj.rows [[IV.int .i64 id, IV.int .i64 code, IV.int .i64 ttl, IV.str nm, v]] 44 5 false) = g0
  have e_g0 : Ext h g0 := by rw [← hq_g0]; exact (Ext.refl _).push _
  have l_g0 : g0.n = h.n + 1 := by rw [← hq_g0]; rfl
  have bb : At g0 h.n (IObj.rows [[IV.int .i64 id, IV.int .i64 code, IV.int .i64 ttl, IV.str nm, v]] 44 5 false) := by rw [← hq_g0]; exact At.new _ _
  clear hq_g0
  have ho := ho.ext e_g0
  refine callA_of (markInt64S_c _ v k0 _ ho rowsI1 (by rw [intRows_len]; omega)) ?_
  rintro r h' ⟨rfl, o', t'⟩
  rw [intRows_len] at o'
  simp only [intRows_len, go_sem, Hold.p, HoldK.k, HoldL.K, HoldL.body, Nat.reduceBEq, Nat.reduceAdd, List.getElem?_cons_zero, List.getElem?_cons_succ, Option.bind_some, List.map_cons, List.map_nil, Nat.zero_add, if_true, List.getD_cons_zero, List.getD_cons_succ, List.contains_cons, List.contains_nil, Nat.reduceBEq, Bool.or_true, Bool.true_or, Bool.or_false, Bool.false_or, Bool.not_true, Bool.not_false, true_and, and_true, rowA_whole, push_n, set_n, push_obj, set_obj, set_push, set_push_ne, set_set, Nat.add_assoc, Nat.left_eq_add, Nat.add_eq_left, Nat.add_left_cancel_iff, Nat.reduceEqDiff, stO_1s, stO_ws, boxA_s, one_bool, one_int, one_str, one_ptr, one_nilptr, one_slice, one_eslice, one_nilslice, one_func, one_iface, one_niliface, List.all_cons, List.all_nil, List.length_cons, List.length_nil, Nat.reduceLT, Nat.reduceEqDiff, Nat.reduceLeDiff, Bool.and_true, Nat.one_ne_zero, Nat.succ_ne_zero, reduceIte, if_false, List.getElem?_cons_zero, List.set_cons_zero, List.set_cons_succ]
  exact ⟨o', (Turn.of_ext e_g0).trans t'⟩
end Go.Proofs.YtcmcfmgabafljaaDoor
