import Derived.Test.YtdpaehdolhdjdaaDoorL2
import Derived.Test.YtdpaehdolhdjdaaDoorL1
import Derived.Test.YtdpaehdolhdjdaaDoorK2
import Derived.Test.YtdpaehdolhdjdaaDoorProg
import Derived.KernelRfl
import Derived.Test.YtdpaehdolhdjdaaDoorK3
set_option linter.unusedSimpArgs false
set_option linter.unusedVariables false

namespace Go.Proofs.YtdpaehdolhdjdaaDoor
open Go Go.IW

set_option maxRecDepth 20000 in
theorem implEncodeReply_c (h : IH) (id code ttl : Int) (nm : List UInt8) (v : IV) (zs : List Int) (hs : SlR h 1 v (intRows zs)) (hm : nm.length ≤ 1048576) (hz : zs.length ≤ 1048576) :
    ICalls Tryd.prog 32 [.agg [.int .i64 id, .int .i64 code, .int .i64 ttl, .str nm, v]] h fun r h' => BytesRes h h' r (encR id code ttl nm zs) := by
  refine icalls (.of ok32) (Nat.le_of_ble_eq_true rfl) ?_
  unfold c32
  have hv1 := hs.one
  have hvc := hs.cells
  by_cases hok : okRep id code ttl nm zs = true
  · obtain ⟨hid, hnm, hcode, httl, hzl, hza⟩ := okRep_ok hok
    obtain ⟨hne, hl⟩ := okName_ne hnm
    have hdef : encR id code ttl nm zs = (repHead id code ttl nm zs ++ zs.flatMap (beB 4), 0) := if_pos hok
    rw [hdef]
    have w1 := u8_len (n := nm.length) (by omega)
    have w2 := u8_len (n := zs.length) (by omega)
    have w3 := wr_u8 code
    have hrh : repHead id code ttl nm zs = (((beB 2 id ++ [1, UInt8.ofNat (code % 256).toNat]) ++ beB 4 ttl ++ [UInt8.ofNat nm.length]) ++ nm) ++ [UInt8.ofNat zs.length] := rfl
    rw [hrh]
    clear hrh hdef
    generalize hbc : UInt8.ofNat (code % 256).toNat = bc at w3 ⊢
    refine vc_cut2 (fun e g => ∃ hB : IH, At hB h.n (IObj.rows [[IV.int .i64 id, IV.int .i64 code, IV.int .i64 ttl, IV.str nm, v]] 54 5 false) ∧ SlR hB 1 v (intRows zs) ∧ Ext h hB ∧ e 1 = .ptr h.n 0 0 ∧ g = hB) ?_ ?_
    · simp only [hv1, go_sem, Hold.p, HoldK.k, HoldL.K, HoldL.body, Nat.reduceBEq, Nat.reduceAdd, List.getElem?_cons_zero, List.getElem?_cons_succ, Option.bind_some, List.map_cons, List.map_nil, Nat.zero_add, if_true, List.getD_cons_zero, List.getD_cons_succ, List.contains_cons, List.contains_nil, Nat.reduceBEq, Bool.or_true, Bool.true_or, Bool.or_false, Bool.false_or, Bool.not_true, Bool.not_false, true_and, and_true, rowA_whole, push_n, set_n, push_obj, set_obj, set_push, set_push_ne, set_set, Nat.add_assoc, Nat.left_eq_add, Nat.add_eq_left, Nat.add_left_cancel_iff, Nat.reduceEqDiff, stO_1s, stO_ws, boxA_s, one_bool, one_int, one_str, one_ptr, one_nilptr, one_slice, one_eslice, one_nilslice, one_func, one_iface, one_niliface, List.all_cons, List.all_nil, List.length_cons, List.length_nil, Nat.reduceLT, Nat.reduceEqDiff, Nat.reduceLeDiff, Bool.and_true, Nat.one_ne_zero, Nat.succ_ne_zero, reduceIte, if_false, List.getElem?_cons_zero, List.set_cons_zero, List.set_cons_succ]
      generalize hq_g0 : IH.push h (IObj.rows [[IV.int .i64 id, IV.int .i64 code, IV.int .i64 ttl, IV.str nm, v]] 54 5 false) = g0
      have e_g0 : Ext h g0 := by rw [← hq_g0]; exact (Ext.refl _).push _
      have l_g0 : g0.n = h.n + 1 := by rw [← hq_g0]; rfl
      have bb : At g0 h.n (IObj.rows [[IV.int .i64 id, IV.int .i64 code, IV.int .i64 ttl, IV.str nm, v]] 54 5 false) := by rw [← hq_g0]; exact At.new _ _
      clear hq_g0
      have hs := hs.ext e_g0
      refine callA_of (okReply_c _ id code ttl nm v zs hs hz) ?_
      rintro r h1 ⟨⟨b, rfl, hb⟩, E1⟩
      have E := e_g0.trans E1
      have bb := bb.ext E1
      have hs := hs.ext E1
      have le_E1 := E1.le
      rw [hok, hnm, Bool.and_true] at hb
      subst hb
      simp only [bb.eq, go_sem, Hold.p, HoldK.k, HoldL.K, HoldL.body, Nat.reduceBEq, Nat.reduceAdd, List.getElem?_cons_zero, List.getElem?_cons_succ, Option.bind_some, List.map_cons, List.map_nil, Nat.zero_add, if_true, List.getD_cons_zero, List.getD_cons_succ, List.contains_cons, List.contains_nil, Nat.reduceBEq, Bool.or_true, Bool.true_or, Bool.or_false, Bool.false_or, Bool.not_true, Bool.not_false, true_and, and_true, rowA_whole, push_n, set_n, push_obj, set_obj, set_push, set_push_ne, set_set, Nat.add_assoc, Nat.left_eq_add, Nat.add_eq_left, Nat.add_left_cancel_iff, Nat.reduceEqDiff, stO_1s, stO_ws, boxA_s, one_bool, one_int, one_str, one_ptr, one_nilptr, one_slice, one_eslice, one_nilslice, one_func, one_iface, one_niliface, List.all_cons, List.all_nil, List.length_cons, List.length_nil, Nat.reduceLT, Nat.reduceEqDiff, Nat.reduceLeDiff, Bool.and_true, Nat.one_ne_zero, Nat.succ_ne_zero, reduceIte, if_false, List.getElem?_cons_zero, List.set_cons_zero, List.set_cons_succ]
      refine callA_of (implNameOK_c _ nm hm) ?_
      rintro r h2 ⟨rfl, E2⟩
      have bb := bb.ext E2
      have hs := hs.ext E2
      have E := E.ext E2
      have le_E2 := E2.le
      simp only [hnm, go_sem, Hold.p, HoldK.k, HoldL.K, HoldL.body, Nat.reduceBEq, Nat.reduceAdd, List.getElem?_cons_zero, List.getElem?_cons_succ, Option.bind_some, List.map_cons, List.map_nil, Nat.zero_add, if_true, List.getD_cons_zero, List.getD_cons_succ, List.contains_cons, List.contains_nil, Nat.reduceBEq, Bool.or_true, Bool.true_or, Bool.or_false, Bool.false_or, Bool.not_true, Bool.not_false, true_and, and_true, rowA_whole, push_n, set_n, push_obj, set_obj, set_push, set_push_ne, set_set, Nat.add_assoc, Nat.left_eq_add, Nat.add_eq_left, Nat.add_left_cancel_iff, Nat.reduceEqDiff, stO_1s, stO_ws, boxA_s, one_bool, one_int, one_str, one_ptr, one_nilptr, one_slice, one_eslice, one_nilslice, one_func, one_iface, one_niliface, List.all_cons, List.all_nil, List.length_cons, List.length_nil, Nat.reduceLT, Nat.reduceEqDiff, Nat.reduceLeDiff, Bool.and_true, Nat.one_ne_zero, Nat.succ_ne_zero, reduceIte, if_false, List.getElem?_cons_zero, List.set_cons_zero, List.set_cons_succ]
      exact ⟨h2, bb, hs, E, rfl⟩
    rintro e g ⟨hB, bb, hs, E, i1, rfl⟩
    have bbl := bb.lt
    have lE := E.le
    refine vc_cut (Bet g h.n ((beB 2 id ++ [1, bc]) ++ beB 4 ttl)) ?_ ?_
    · simp only [i1, bb.eq, w3, go_sem, Hold.p, HoldK.k, HoldL.K, HoldL.body, Nat.reduceBEq, Nat.reduceAdd, List.getElem?_cons_zero, List.getElem?_cons_succ, Option.bind_some, List.map_cons, List.map_nil, Nat.zero_add, if_true, List.getD_cons_zero, List.getD_cons_succ, List.contains_cons, List.contains_nil, Nat.reduceBEq, Bool.or_true, Bool.true_or, Bool.or_false, Bool.false_or, Bool.not_true, Bool.not_false, true_and, and_true, rowA_whole, push_n, set_n, push_obj, set_obj, set_push, set_push_ne, set_set, Nat.add_assoc, Nat.left_eq_add, Nat.add_eq_left, Nat.add_left_cancel_iff, Nat.reduceEqDiff, stO_1s, stO_ws, boxA_s, one_bool, one_int, one_str, one_ptr, one_nilptr, one_slice, one_eslice, one_nilslice, one_func, one_iface, one_niliface, List.all_cons, List.all_nil, List.length_cons, List.length_nil, Nat.reduceLT, Nat.reduceEqDiff, Nat.reduceLeDiff, Bool.and_true, Nat.one_ne_zero, Nat.succ_ne_zero, reduceIte, if_false, List.getElem?_cons_zero, List.set_cons_zero, List.set_cons_succ]
      refine either_of ?_ ?_
      · try simp only [i1, go_sem, Hold.p, HoldK.k, HoldL.K, HoldL.body, Nat.reduceBEq, Nat.reduceAdd, List.getElem?_cons_zero, List.getElem?_cons_succ, Option.bind_some, List.map_cons, List.map_nil, Nat.zero_add, if_true, List.getD_cons_zero, List.getD_cons_succ, List.contains_cons, List.contains_nil, Nat.reduceBEq, Bool.or_true, Bool.true_or, Bool.or_false, Bool.false_or, Bool.not_true, Bool.not_false, true_and, and_true, rowA_whole, push_n, set_n, push_obj, set_obj, set_push, set_push_ne, set_set, Nat.add_assoc, Nat.left_eq_add, Nat.add_eq_left, Nat.add_left_cancel_iff, Nat.reduceEqDiff, stO_1s, stO_ws, boxA_s, one_bool, one_int, one_str, one_ptr, one_nilptr, one_slice, one_eslice, one_nilslice, one_func, one_iface, one_niliface, List.all_cons, List.all_nil, List.length_cons, List.length_nil, Nat.reduceLT, Nat.reduceEqDiff, Nat.reduceLeDiff, Bool.and_true, Nat.one_ne_zero, Nat.succ_ne_zero, reduceIte, if_false, List.getElem?_cons_zero, List.set_cons_zero, List.set_cons_succ]
        refine callA_of (put_c g g (Ext.refl _) .nilslice [] id 2 (by omega) (by omega) (by simp) (Nat.le_refl g.n) (hi := g.n) Own.nil (Nat.le_refl _)) ?_
        rintro x h2 ⟨ox, E2⟩
        rw [List.nil_append] at ox
        have bb2 := bb.ext E2
        have le0 := E2.le
        have hn2 : (h.n = h2.n) = False := by have := E2.le; simp; omega
        simp only [i1, bb2.eq, w3, bslA_2, hn2, srcO_2, go_sem, Hold.p, HoldK.k, HoldL.K, HoldL.body, Nat.reduceBEq, Nat.reduceAdd, List.getElem?_cons_zero, List.getElem?_cons_succ, Option.bind_some, List.map_cons, List.map_nil, Nat.zero_add, if_true, List.getD_cons_zero, List.getD_cons_succ, List.contains_cons, List.contains_nil, Nat.reduceBEq, Bool.or_true, Bool.true_or, Bool.or_false, Bool.false_or, Bool.not_true, Bool.not_false, true_and, and_true, rowA_whole, push_n, set_n, push_obj, set_obj, set_push, set_push_ne, set_set, Nat.add_assoc, Nat.left_eq_add, Nat.add_eq_left, Nat.add_left_cancel_iff, Nat.reduceEqDiff, stO_1s, stO_ws, boxA_s, one_bool, one_int, one_str, one_ptr, one_nilptr, one_slice, one_eslice, one_nilslice, one_func, one_iface, one_niliface, List.all_cons, List.all_nil, List.length_cons, List.length_nil, Nat.reduceLT, Nat.reduceEqDiff, Nat.reduceLeDiff, Bool.and_true, Nat.one_ne_zero, Nat.succ_ne_zero, reduceIte, if_false, List.getElem?_cons_zero, List.set_cons_zero, List.set_cons_succ]
        generalize hq_g3 : IH.push h2 (IObj.rows [[IV.int .u8 1], [IV.int .u8 bc.toNat]] 5 1 false) = g3
        have e_g3 : Ext h2 g3 := by rw [← hq_g3]; exact (Ext.refl _).push _
        have l_g3 : g3.n = h2.n + 1 := by rw [← hq_g3]; rfl
        have ba : At g3 h2.n (IObj.rows [[IV.int .u8 1], [IV.int .u8 bc.toNat]] 5 1 false) := by rw [← hq_g3]; exact At.new _ _
        clear hq_g3
        have ox := ox.ext e_g3
        have bb2 := bb2.ext e_g3
        have E2 := E2.ext e_g3
        refine ox.app (by simp) (by rw [strRows_len, beB_len]; simp) ?_
        intro v6 h6 o6 t6 n6 v6o v6c
        have bb2 := bb2.turn ox (by omega) t6
        have E2 := E2.turn ox (by omega) t6
        have le_t6 := t6.le
        have o7 : Own g3.n (g3.n + 1) h6 5 1 v6 (strRows (beB 2 id ++ [1, bc])) := by rw [strRows_append]; exact o6
        have le2 := E2.le
        simp only [i1, bb2.eq, go_sem, Hold.p, HoldK.k, HoldL.K, HoldL.body, Nat.reduceBEq, Nat.reduceAdd, List.getElem?_cons_zero, List.getElem?_cons_succ, Option.bind_some, List.map_cons, List.map_nil, Nat.zero_add, if_true, List.getD_cons_zero, List.getD_cons_succ, List.contains_cons, List.contains_nil, Nat.reduceBEq, Bool.or_true, Bool.true_or, Bool.or_false, Bool.false_or, Bool.not_true, Bool.not_false, true_and, and_true, rowA_whole, push_n, set_n, push_obj, set_obj, set_push, set_push_ne, set_set, Nat.add_assoc, Nat.left_eq_add, Nat.add_eq_left, Nat.add_left_cancel_iff, Nat.reduceEqDiff, stO_1s, stO_ws, boxA_s, one_bool, one_int, one_str, one_ptr, one_nilptr, one_slice, one_eslice, one_nilslice, one_func, one_iface, one_niliface, List.all_cons, List.all_nil, List.length_cons, List.length_nil, Nat.reduceLT, Nat.reduceEqDiff, Nat.reduceLeDiff, Bool.and_true, Nat.one_ne_zero, Nat.succ_ne_zero, reduceIte, if_false, List.getElem?_cons_zero, List.set_cons_zero, List.set_cons_succ]
        refine callA_of (put_c g h6 E2 v6 _ ttl 4 (by omega) (by omega) (by simp [beB_len]) (by omega) o7 (by omega)) ?_
        rintro z h8 ⟨oz, E8⟩
        unfold Bet
        simp only [i1, go_sem, Hold.p, HoldK.k, HoldL.K, HoldL.body, Nat.reduceBEq, Nat.reduceAdd, List.getElem?_cons_zero, List.getElem?_cons_succ, Option.bind_some, List.map_cons, List.map_nil, Nat.zero_add, if_true, List.getD_cons_zero, List.getD_cons_succ, List.contains_cons, List.contains_nil, Nat.reduceBEq, Bool.or_true, Bool.true_or, Bool.or_false, Bool.false_or, Bool.not_true, Bool.not_false, true_and, and_true, rowA_whole, push_n, set_n, push_obj, set_obj, set_push, set_push_ne, set_set, Nat.add_assoc, Nat.left_eq_add, Nat.add_eq_left, Nat.add_left_cancel_iff, Nat.reduceEqDiff, stO_1s, stO_ws, boxA_s, one_bool, one_int, one_str, one_ptr, one_nilptr, one_slice, one_eslice, one_nilslice, one_func, one_iface, one_niliface, List.all_cons, List.all_nil, List.length_cons, List.length_nil, Nat.reduceLT, Nat.reduceEqDiff, Nat.reduceLeDiff, Bool.and_true, Nat.one_ne_zero, Nat.succ_ne_zero, reduceIte, if_false, List.getElem?_cons_zero, List.set_cons_zero, List.set_cons_succ]
        exact ⟨z, rfl, oz, E8⟩
      · have hn2 : (h.n = g.n) = False := by simp; omega
        simp only [i1, bb.eq, w3, bslA_2, hn2, go_sem, Hold.p, HoldK.k, HoldL.K, HoldL.body, Nat.reduceBEq, Nat.reduceAdd, List.getElem?_cons_zero, List.getElem?_cons_succ, Option.bind_some, List.map_cons, List.map_nil, Nat.zero_add, if_true, List.getD_cons_zero, List.getD_cons_succ, List.contains_cons, List.contains_nil, Nat.reduceBEq, Bool.or_true, Bool.true_or, Bool.or_false, Bool.false_or, Bool.not_true, Bool.not_false, true_and, and_true, rowA_whole, push_n, set_n, push_obj, set_obj, set_push, set_push_ne, set_set, Nat.add_assoc, Nat.left_eq_add, Nat.add_eq_left, Nat.add_left_cancel_iff, Nat.reduceEqDiff, stO_1s, stO_ws, boxA_s, one_bool, one_int, one_str, one_ptr, one_nilptr, one_slice, one_eslice, one_nilslice, one_func, one_iface, one_niliface, List.all_cons, List.all_nil, List.length_cons, List.length_nil, Nat.reduceLT, Nat.reduceEqDiff, Nat.reduceLeDiff, Bool.and_true, Nat.one_ne_zero, Nat.succ_ne_zero, reduceIte, if_false, List.getElem?_cons_zero, List.set_cons_zero, List.set_cons_succ]
        generalize hq_g3 : IH.push g (IObj.rows [[IV.int .u8 1], [IV.int .u8 bc.toNat]] 5 1 false) = g3
        have e_g3 : Ext g g3 := by rw [← hq_g3]; exact (Ext.refl _).push _
        have l_g3 : g3.n = g.n + 1 := by rw [← hq_g3]; rfl
        have ba : At g3 g.n (IObj.rows [[IV.int .u8 1], [IV.int .u8 bc.toNat]] 5 1 false) := by rw [← hq_g3]; exact At.new _ _
        clear hq_g3
        have bb := bb.ext e_g3
        refine callA_of (put_c g3 _ (Ext.refl _) .nilslice [] id 2 (by omega) (by omega) (by simp) (Nat.le_refl g3.n) (hi := g3.n) Own.nil (Nat.le_refl _)) ?_
        rintro x h2 ⟨ox, E2⟩
        rw [List.nil_append] at ox
        have bb := bb.ext E2
        have ba := ba.ext E2
        have le_E2 := E2.le
        have EE := e_g3.trans E2
        have le0 := EE.le
        simp only [i1, bb.eq, w3, ba.eq, srcO_2, go_sem, Hold.p, HoldK.k, HoldL.K, HoldL.body, Nat.reduceBEq, Nat.reduceAdd, List.getElem?_cons_zero, List.getElem?_cons_succ, Option.bind_some, List.map_cons, List.map_nil, Nat.zero_add, if_true, List.getD_cons_zero, List.getD_cons_succ, List.contains_cons, List.contains_nil, Nat.reduceBEq, Bool.or_true, Bool.true_or, Bool.or_false, Bool.false_or, Bool.not_true, Bool.not_false, true_and, and_true, rowA_whole, push_n, set_n, push_obj, set_obj, set_push, set_push_ne, set_set, Nat.add_assoc, Nat.left_eq_add, Nat.add_eq_left, Nat.add_left_cancel_iff, Nat.reduceEqDiff, stO_1s, stO_ws, boxA_s, one_bool, one_int, one_str, one_ptr, one_nilptr, one_slice, one_eslice, one_nilslice, one_func, one_iface, one_niliface, List.all_cons, List.all_nil, List.length_cons, List.length_nil, Nat.reduceLT, Nat.reduceEqDiff, Nat.reduceLeDiff, Bool.and_true, Nat.one_ne_zero, Nat.succ_ne_zero, reduceIte, if_false, List.getElem?_cons_zero, List.set_cons_zero, List.set_cons_succ]
        refine ox.app (by simp) (by rw [strRows_len, beB_len]; simp) ?_
        intro v6 h6 o6 t6 n6 v6o v6c
        have bb := bb.turn ox (by omega) t6
        have EE := EE.turn ox (by omega) t6
        have le_t6 := t6.le
        have o7 : Own h2.n (h2.n + 1) h6 5 1 v6 (strRows (beB 2 id ++ [1, bc])) := by rw [strRows_append]; exact o6
        have le2 := EE.le
        simp only [i1, bb.eq, go_sem, Hold.p, HoldK.k, HoldL.K, HoldL.body, Nat.reduceBEq, Nat.reduceAdd, List.getElem?_cons_zero, List.getElem?_cons_succ, Option.bind_some, List.map_cons, List.map_nil, Nat.zero_add, if_true, List.getD_cons_zero, List.getD_cons_succ, List.contains_cons, List.contains_nil, Nat.reduceBEq, Bool.or_true, Bool.true_or, Bool.or_false, Bool.false_or, Bool.not_true, Bool.not_false, true_and, and_true, rowA_whole, push_n, set_n, push_obj, set_obj, set_push, set_push_ne, set_set, Nat.add_assoc, Nat.left_eq_add, Nat.add_eq_left, Nat.add_left_cancel_iff, Nat.reduceEqDiff, stO_1s, stO_ws, boxA_s, one_bool, one_int, one_str, one_ptr, one_nilptr, one_slice, one_eslice, one_nilslice, one_func, one_iface, one_niliface, List.all_cons, List.all_nil, List.length_cons, List.length_nil, Nat.reduceLT, Nat.reduceEqDiff, Nat.reduceLeDiff, Bool.and_true, Nat.one_ne_zero, Nat.succ_ne_zero, reduceIte, if_false, List.getElem?_cons_zero, List.set_cons_zero, List.set_cons_succ]
        refine callA_of (put_c g h6 EE v6 _ ttl 4 (by omega) (by omega) (by simp [beB_len]) (by omega) o7 (by omega)) ?_
        rintro z h8 ⟨oz, E8⟩
        unfold Bet
        simp only [i1, go_sem, Hold.p, HoldK.k, HoldL.K, HoldL.body, Nat.reduceBEq, Nat.reduceAdd, List.getElem?_cons_zero, List.getElem?_cons_succ, Option.bind_some, List.map_cons, List.map_nil, Nat.zero_add, if_true, List.getD_cons_zero, List.getD_cons_succ, List.contains_cons, List.contains_nil, Nat.reduceBEq, Bool.or_true, Bool.true_or, Bool.or_false, Bool.false_or, Bool.not_true, Bool.not_false, true_and, and_true, rowA_whole, push_n, set_n, push_obj, set_obj, set_push, set_push_ne, set_set, Nat.add_assoc, Nat.left_eq_add, Nat.add_eq_left, Nat.add_left_cancel_iff, Nat.reduceEqDiff, stO_1s, stO_ws, boxA_s, one_bool, one_int, one_str, one_ptr, one_nilptr, one_slice, one_eslice, one_nilslice, one_func, one_iface, one_niliface, List.all_cons, List.all_nil, List.length_cons, List.length_nil, Nat.reduceLT, Nat.reduceEqDiff, Nat.reduceLeDiff, Bool.and_true, Nat.one_ne_zero, Nat.succ_ne_zero, reduceIte, if_false, List.getElem?_cons_zero, List.set_cons_zero, List.set_cons_succ]
        exact ⟨z, rfl, oz, E8⟩
    rintro e g2 ⟨x, i1, i4, ox, E2⟩
    refine vc_cut2 (Bet g h.n ((((beB 2 id ++ [1, bc]) ++ beB 4 ttl ++ [UInt8.ofNat nm.length]) ++ nm) ++ [UInt8.ofNat zs.length])) ?_ ?_
    · have hsn := strRows_ne hne
      have bb2 := bb.ext E2
      have l2 := E2.le
      have hn2 : (h.n = g2.n) = False := by simp; omega
      simp only [i1, i4, bb2.eq, w1, bslA_1, hn2, go_sem, Hold.p, HoldK.k, HoldL.K, HoldL.body, Nat.reduceBEq, Nat.reduceAdd, List.getElem?_cons_zero, List.getElem?_cons_succ, Option.bind_some, List.map_cons, List.map_nil, Nat.zero_add, if_true, List.getD_cons_zero, List.getD_cons_succ, List.contains_cons, List.contains_nil, Nat.reduceBEq, Bool.or_true, Bool.true_or, Bool.or_false, Bool.false_or, Bool.not_true, Bool.not_false, true_and, and_true, rowA_whole, push_n, set_n, push_obj, set_obj, set_push, set_push_ne, set_set, Nat.add_assoc, Nat.left_eq_add, Nat.add_eq_left, Nat.add_left_cancel_iff, Nat.reduceEqDiff, stO_1s, stO_ws, boxA_s, one_bool, one_int, one_str, one_ptr, one_nilptr, one_slice, one_eslice, one_nilslice, one_func, one_iface, one_niliface, List.all_cons, List.all_nil, List.length_cons, List.length_nil, Nat.reduceLT, Nat.reduceEqDiff, Nat.reduceLeDiff, Bool.and_true, Nat.one_ne_zero, Nat.succ_ne_zero, reduceIte, if_false, List.getElem?_cons_zero, List.set_cons_zero, List.set_cons_succ]
      generalize hq_g3 : IH.push g2 (IObj.rows [[IV.int .u8 (UInt8.ofNat nm.length).toNat]] 5 1 false) = g3
      have e_g3 : Ext g2 g3 := by rw [← hq_g3]; exact (Ext.refl _).push _
      have l_g3 : g3.n = g2.n + 1 := by rw [← hq_g3]; rfl
      have ba : At g3 g2.n (IObj.rows [[IV.int .u8 (UInt8.ofNat nm.length).toNat]] 5 1 false) := by rw [← hq_g3]; exact At.new _ _
      clear hq_g3
      have ox := ox.ext e_g3
      have E2 := E2.ext e_g3
      refine ox.app (by simp) (by rw [strRows_len]; simp [beB_len]) ?_
      intro v6 h6 o6 t6 n6 v6o v6c
      have o7 : Own g3.n (g3.n + 1) h6 5 1 v6 (strRows (((beB 2 id ++ [1, bc]) ++ beB 4 ttl) ++ [UInt8.ofNat nm.length])) := by rw [strRows_append]; exact o6
      have E2 := E2.turn ox (by omega) t6
      have le_t6 := t6.le
      have bb2 := bb.ext E2
      simp only [i1, bb2.eq, go_sem, Hold.p, HoldK.k, HoldL.K, HoldL.body, Nat.reduceBEq, Nat.reduceAdd, List.getElem?_cons_zero, List.getElem?_cons_succ, Option.bind_some, List.map_cons, List.map_nil, Nat.zero_add, if_true, List.getD_cons_zero, List.getD_cons_succ, List.contains_cons, List.contains_nil, Nat.reduceBEq, Bool.or_true, Bool.true_or, Bool.or_false, Bool.false_or, Bool.not_true, Bool.not_false, true_and, and_true, rowA_whole, push_n, set_n, push_obj, set_obj, set_push, set_push_ne, set_set, Nat.add_assoc, Nat.left_eq_add, Nat.add_eq_left, Nat.add_left_cancel_iff, Nat.reduceEqDiff, stO_1s, stO_ws, boxA_s, one_bool, one_int, one_str, one_ptr, one_nilptr, one_slice, one_eslice, one_nilslice, one_func, one_iface, one_niliface, List.all_cons, List.all_nil, List.length_cons, List.length_nil, Nat.reduceLT, Nat.reduceEqDiff, Nat.reduceLeDiff, Bool.and_true, Nat.one_ne_zero, Nat.succ_ne_zero, reduceIte, if_false, List.getElem?_cons_zero, List.set_cons_zero, List.set_cons_succ]
      refine o7.app hsn (by rw [strRows_len, strRows_len]; simp [beB_len]; omega) ?_
      intro v8 h8 o8 t8 n8 v8o v8c
      rw [← strRows_append] at o8
      have E2 := E2.turn o7 (by omega) t8
      have le_t8 := t8.le
      have bb2 := bb.ext E2
      have hlen := (hs.ext E2).lenF
      rw [intRows_len] at hlen
      have hn3 : (h.n = h8.n) = False := by simp; omega
      simp only [i1, bb2.eq, hlen, w2, bslA_1, hn3, go_sem, Hold.p, HoldK.k, HoldL.K, HoldL.body, Nat.reduceBEq, Nat.reduceAdd, List.getElem?_cons_zero, List.getElem?_cons_succ, Option.bind_some, List.map_cons, List.map_nil, Nat.zero_add, if_true, List.getD_cons_zero, List.getD_cons_succ, List.contains_cons, List.contains_nil, Nat.reduceBEq, Bool.or_true, Bool.true_or, Bool.or_false, Bool.false_or, Bool.not_true, Bool.not_false, true_and, and_true, rowA_whole, push_n, set_n, push_obj, set_obj, set_push, set_push_ne, set_set, Nat.add_assoc, Nat.left_eq_add, Nat.add_eq_left, Nat.add_left_cancel_iff, Nat.reduceEqDiff, stO_1s, stO_ws, boxA_s, one_bool, one_int, one_str, one_ptr, one_nilptr, one_slice, one_eslice, one_nilslice, one_func, one_iface, one_niliface, List.all_cons, List.all_nil, List.length_cons, List.length_nil, Nat.reduceLT, Nat.reduceEqDiff, Nat.reduceLeDiff, Bool.and_true, Nat.one_ne_zero, Nat.succ_ne_zero, reduceIte, if_false, List.getElem?_cons_zero, List.set_cons_zero, List.set_cons_succ]
      generalize hq_g9 : IH.push h8 (IObj.rows [[IV.int .u8 (UInt8.ofNat zs.length).toNat]] 5 1 false) = g9
      have e_g9 : Ext h8 g9 := by rw [← hq_g9]; exact (Ext.refl _).push _
      have l_g9 : g9.n = h8.n + 1 := by rw [← hq_g9]; rfl
      have ba9 : At g9 h8.n (IObj.rows [[IV.int .u8 (UInt8.ofNat zs.length).toNat]] 5 1 false) := by rw [← hq_g9]; exact At.new _ _
      clear hq_g9
      have o8 := o8.ext e_g9
      have E2 := E2.ext e_g9
      refine o8.app (by simp) (by rw [strRows_len]; simp [beB_len]; omega) ?_
      intro vA hA oA tA nA vAo vAc
      rw [show [[IV.int .u8 ((UInt8.ofNat zs.length).toNat : Int)]] = strRows [UInt8.ofNat zs.length] from rfl, ← strRows_append] at oA
      have E2 := E2.turn o8 (by omega) tA
      have le_tA := tA.le
      unfold Bet
      simp only [i1, go_sem, Hold.p, HoldK.k, HoldL.K, HoldL.body, Nat.reduceBEq, Nat.reduceAdd, List.getElem?_cons_zero, List.getElem?_cons_succ, Option.bind_some, List.map_cons, List.map_nil, Nat.zero_add, if_true, List.getD_cons_zero, List.getD_cons_succ, List.contains_cons, List.contains_nil, Nat.reduceBEq, Bool.or_true, Bool.true_or, Bool.or_false, Bool.false_or, Bool.not_true, Bool.not_false, true_and, and_true, rowA_whole, push_n, set_n, push_obj, set_obj, set_push, set_push_ne, set_set, Nat.add_assoc, Nat.left_eq_add, Nat.add_eq_left, Nat.add_left_cancel_iff, Nat.reduceEqDiff, stO_1s, stO_ws, boxA_s, one_bool, one_int, one_str, one_ptr, one_nilptr, one_slice, one_eslice, one_nilslice, one_func, one_iface, one_niliface, List.all_cons, List.all_nil, List.length_cons, List.length_nil, Nat.reduceLT, Nat.reduceEqDiff, Nat.reduceLeDiff, Bool.and_true, Nat.one_ne_zero, Nat.succ_ne_zero, reduceIte, if_false, List.getElem?_cons_zero, List.set_cons_zero, List.set_cons_succ]
      exact ⟨vA, rfl, oA.wide (by omega) (by omega) (Nat.le_refl _), E2⟩
    clear i1 i4 E2 ox
    have hbl : ((((beB 2 id ++ [1, bc]) ++ beB 4 ttl ++ [UInt8.ofNat nm.length]) ++ nm) ++ [UInt8.ofNat zs.length]).length = 10 + nm.length := by simp [beB_len]; omega
    generalize (((beB 2 id ++ [1, bc]) ++ beB 4 ttl ++ [UInt8.ofNat nm.length]) ++ nm) ++ [UInt8.ofNat zs.length] = hd at hbl ⊢
    rintro e g2 ⟨x, i1, i4, ox, E2⟩
    have bb2 := bb.ext E2
    have hlen := (hs.ext E2).lenF
    rw [intRows_len] at hlen
    simp only [i1, i4, bb2.eq, hlen, go_sem, Hold.p, HoldK.k, HoldL.K, HoldL.body, Nat.reduceBEq, Nat.reduceAdd, List.getElem?_cons_zero, List.getElem?_cons_succ, Option.bind_some, List.map_cons, List.map_nil, Nat.zero_add, if_true, List.getD_cons_zero, List.getD_cons_succ, List.contains_cons, List.contains_nil, Nat.reduceBEq, Bool.or_true, Bool.true_or, Bool.or_false, Bool.false_or, Bool.not_true, Bool.not_false, true_and, and_true, rowA_whole, push_n, set_n, push_obj, set_obj, set_push, set_push_ne, set_set, Nat.add_assoc, Nat.left_eq_add, Nat.add_eq_left, Nat.add_left_cancel_iff, Nat.reduceEqDiff, stO_1s, stO_ws, boxA_s, one_bool, one_int, one_str, one_ptr, one_nilptr, one_slice, one_eslice, one_nilslice, one_func, one_iface, one_niliface, List.all_cons, List.all_nil, List.length_cons, List.length_nil, Nat.reduceLT, Nat.reduceEqDiff, Nat.reduceLeDiff, Bool.and_true, Nat.one_ne_zero, Nat.succ_ne_zero, reduceIte, if_false, List.getElem?_cons_zero, List.set_cons_zero, List.set_cons_succ]
    refine loop_at (fun n e g' => ∃ k, n = zs.length - k ∧ k ≤ zs.length ∧ Bet g h.n (hd ++ (zs.take k).flatMap (beB 4)) e g' ∧ e 45 = v ∧ e 46 = .int .i64 (zs.length : Nat) ∧ e 47 = .int .i64 (k : Nat)) zs.length ?_ ?_
    · refine ⟨0, by omega, by omega, ⟨x, ?_⟩, ?_⟩
      · simp only [i1, i4, go_sem, Hold.p, HoldK.k, HoldL.K, HoldL.body, Nat.reduceBEq, Nat.reduceAdd, List.getElem?_cons_zero, List.getElem?_cons_succ, Option.bind_some, List.map_cons, List.map_nil, Nat.zero_add, if_true, List.getD_cons_zero, List.getD_cons_succ, List.contains_cons, List.contains_nil, Nat.reduceBEq, Bool.or_true, Bool.true_or, Bool.or_false, Bool.false_or, Bool.not_true, Bool.not_false, true_and, and_true, rowA_whole, push_n, set_n, push_obj, set_obj, set_push, set_push_ne, set_set, Nat.add_assoc, Nat.left_eq_add, Nat.add_eq_left, Nat.add_left_cancel_iff, Nat.reduceEqDiff, stO_1s, stO_ws, boxA_s, one_bool, one_int, one_str, one_ptr, one_nilptr, one_slice, one_eslice, one_nilslice, one_func, one_iface, one_niliface, List.all_cons, List.all_nil, List.length_cons, List.length_nil, Nat.reduceLT, Nat.reduceEqDiff, Nat.reduceLeDiff, Bool.and_true, Nat.one_ne_zero, Nat.succ_ne_zero, reduceIte, if_false, List.getElem?_cons_zero, List.set_cons_zero, List.set_cons_succ]
        exact ⟨by simpa using ox, E2⟩
      · simp only [i1, i4, go_sem, Hold.p, HoldK.k, HoldL.K, HoldL.body, Nat.reduceBEq, Nat.reduceAdd, List.getElem?_cons_zero, List.getElem?_cons_succ, Option.bind_some, List.map_cons, List.map_nil, Nat.zero_add, if_true, List.getD_cons_zero, List.getD_cons_succ, List.contains_cons, List.contains_nil, Nat.reduceBEq, Bool.or_true, Bool.true_or, Bool.or_false, Bool.false_or, Bool.not_true, Bool.not_false, true_and, and_true, rowA_whole, push_n, set_n, push_obj, set_obj, set_push, set_push_ne, set_set, Nat.add_assoc, Nat.left_eq_add, Nat.add_eq_left, Nat.add_left_cancel_iff, Nat.reduceEqDiff, stO_1s, stO_ws, boxA_s, one_bool, one_int, one_str, one_ptr, one_nilptr, one_slice, one_eslice, one_nilslice, one_func, one_iface, one_niliface, List.all_cons, List.all_nil, List.length_cons, List.length_nil, Nat.reduceLT, Nat.reduceEqDiff, Nat.reduceLeDiff, Bool.and_true, Nat.one_ne_zero, Nat.succ_ne_zero, reduceIte, if_false, List.getElem?_cons_zero, List.set_cons_zero, List.set_cons_succ]
        rfl
    · clear i1 i4 ox E2 hlen bb2
      rintro n e g3 ⟨k, rfl, hk, ⟨x, i1, i4, ox, E3⟩, i45, i46, i47⟩
      have hs3 := hs.ext E3
      have l3 := E3.le
      simp only [i1, i4, i45, i46, i47, go_sem, Hold.p, HoldK.k, HoldL.K, HoldL.body, Nat.reduceBEq, Nat.reduceAdd, List.getElem?_cons_zero, List.getElem?_cons_succ, Option.bind_some, List.map_cons, List.map_nil, Nat.zero_add, if_true, List.getD_cons_zero, List.getD_cons_succ, List.contains_cons, List.contains_nil, Nat.reduceBEq, Bool.or_true, Bool.true_or, Bool.or_false, Bool.false_or, Bool.not_true, Bool.not_false, true_and, and_true, rowA_whole, push_n, set_n, push_obj, set_obj, set_push, set_push_ne, set_set, Nat.add_assoc, Nat.left_eq_add, Nat.add_eq_left, Nat.add_left_cancel_iff, Nat.reduceEqDiff, stO_1s, stO_ws, boxA_s, one_bool, one_int, one_str, one_ptr, one_nilptr, one_slice, one_eslice, one_nilslice, one_func, one_iface, one_niliface, List.all_cons, List.all_nil, List.length_cons, List.length_nil, Nat.reduceLT, Nat.reduceEqDiff, Nat.reduceLeDiff, Bool.and_true, Nat.one_ne_zero, Nat.succ_ne_zero, reduceIte, if_false, List.getElem?_cons_zero, List.set_cons_zero, List.set_cons_succ]
      refine test_dec (fun hb => ?_) (fun hb => ?_)
      · have hlt' : k < zs.length := by omega
        have hkp : zs[k]? = some zs[k] := List.getElem?_eq_getElem hlt'
        have hpa : okAddr zs[k] = true := List.all_eq_true.1 hza _ (List.getElem_mem hlt')
        generalize zs[k] = p at hkp hpa
        unfold okAddr at hpa
        simp only [Bool.and_eq_true, decide_eq_true_eq] at hpa
        obtain ⟨l, j, hia, hll, hrow⟩ := hs3.at (m := k) (intRows_at hkp) .i64
        have hc := cellO_row hrow
        simp only [i1, i4, i45, i46, i47, hia, hc, go_sem, Hold.p, HoldK.k, HoldL.K, HoldL.body, Nat.reduceBEq, Nat.reduceAdd, List.getElem?_cons_zero, List.getElem?_cons_succ, Option.bind_some, List.map_cons, List.map_nil, Nat.zero_add, if_true, List.getD_cons_zero, List.getD_cons_succ, List.contains_cons, List.contains_nil, Nat.reduceBEq, Bool.or_true, Bool.true_or, Bool.or_false, Bool.false_or, Bool.not_true, Bool.not_false, true_and, and_true, rowA_whole, push_n, set_n, push_obj, set_obj, set_push, set_push_ne, set_set, Nat.add_assoc, Nat.left_eq_add, Nat.add_eq_left, Nat.add_left_cancel_iff, Nat.reduceEqDiff, stO_1s, stO_ws, boxA_s, one_bool, one_int, one_str, one_ptr, one_nilptr, one_slice, one_eslice, one_nilslice, one_func, one_iface, one_niliface, List.all_cons, List.all_nil, List.length_cons, List.length_nil, Nat.reduceLT, Nat.reduceEqDiff, Nat.reduceLeDiff, Bool.and_true, Nat.one_ne_zero, Nat.succ_ne_zero, reduceIte, if_false, List.getElem?_cons_zero, List.set_cons_zero, List.set_cons_succ]
        refine callA_of (put_c g g3 E3 x _ p 4 (by omega) (by omega) (by rw [List.length_append, hbl, flat_len]; have := List.length_take_le k zs; omega) (Nat.le_refl _) ox (Nat.le_refl _)) ?_
        rintro z h5 ⟨oz, E5⟩
        unfold Bet
        simp only [i1, i45, i46, i47, go_sem, Hold.p, HoldK.k, HoldL.K, HoldL.body, Nat.reduceBEq, Nat.reduceAdd, List.getElem?_cons_zero, List.getElem?_cons_succ, Option.bind_some, List.map_cons, List.map_nil, Nat.zero_add, if_true, List.getD_cons_zero, List.getD_cons_succ, List.contains_cons, List.contains_nil, Nat.reduceBEq, Bool.or_true, Bool.true_or, Bool.or_false, Bool.false_or, Bool.not_true, Bool.not_false, true_and, and_true, rowA_whole, push_n, set_n, push_obj, set_obj, set_push, set_push_ne, set_set, Nat.add_assoc, Nat.left_eq_add, Nat.add_eq_left, Nat.add_left_cancel_iff, Nat.reduceEqDiff, stO_1s, stO_ws, boxA_s, one_bool, one_int, one_str, one_ptr, one_nilptr, one_slice, one_eslice, one_nilslice, one_func, one_iface, one_niliface, List.all_cons, List.all_nil, List.length_cons, List.length_nil, Nat.reduceLT, Nat.reduceEqDiff, Nat.reduceLeDiff, Bool.and_true, Nat.one_ne_zero, Nat.succ_ne_zero, reduceIte, if_false, List.getElem?_cons_zero, List.set_cons_zero, List.set_cons_succ]
        refine ⟨_, ?_, k + 1, rfl, by omega, ⟨z, rfl, ?_, E5⟩, wr64_succ k (by omega)⟩
        · omega
        · rw [flat_snoc hkp, ← List.append_assoc]
          exact oz
      · obtain rfl : k = zs.length := by omega
        rw [List.take_length] at ox
        simp only [i1, i4, go_sem, Hold.p, HoldK.k, HoldL.K, HoldL.body, Nat.reduceBEq, Nat.reduceAdd, List.getElem?_cons_zero, List.getElem?_cons_succ, Option.bind_some, List.map_cons, List.map_nil, Nat.zero_add, if_true, List.getD_cons_zero, List.getD_cons_succ, List.contains_cons, List.contains_nil, Nat.reduceBEq, Bool.or_true, Bool.true_or, Bool.or_false, Bool.false_or, Bool.not_true, Bool.not_false, true_and, and_true, rowA_whole, push_n, set_n, push_obj, set_obj, set_push, set_push_ne, set_set, Nat.add_assoc, Nat.left_eq_add, Nat.add_eq_left, Nat.add_left_cancel_iff, Nat.reduceEqDiff, stO_1s, stO_ws, boxA_s, one_bool, one_int, one_str, one_ptr, one_nilptr, one_slice, one_eslice, one_nilslice, one_func, one_iface, one_niliface, List.all_cons, List.all_nil, List.length_cons, List.length_nil, Nat.reduceLT, Nat.reduceEqDiff, Nat.reduceLeDiff, Bool.and_true, Nat.one_ne_zero, Nat.succ_ne_zero, reduceIte, if_false, List.getElem?_cons_zero, List.set_cons_zero, List.set_cons_succ]
        exact ⟨x, rfl, ox.wide (by have := E.le; omega) (Nat.le_refl _) (Nat.le_refl _), E.trans E3⟩
  · have hokf : okRep id code ttl nm zs = false := by simpa using hok
    have hdef : encR id code ttl nm zs = ([], 1) := if_neg hok
    rw [hdef]
    simp only [hv1, go_sem, Hold.p, HoldK.k, HoldL.K, HoldL.body, Nat.reduceBEq, Nat.reduceAdd, List.getElem?_cons_zero, List.getElem?_cons_succ, Option.bind_some, List.map_cons, List.map_nil, Nat.zero_add, if_true, List.getD_cons_zero, List.getD_cons_succ, List.contains_cons, List.contains_nil, Nat.reduceBEq, Bool.or_true, Bool.true_or, Bool.or_false, Bool.false_or, Bool.not_true, Bool.not_false, true_and, and_true, rowA_whole, push_n, set_n, push_obj, set_obj, set_push, set_push_ne, set_set, Nat.add_assoc, Nat.left_eq_add, Nat.add_eq_left, Nat.add_left_cancel_iff, Nat.reduceEqDiff, stO_1s, stO_ws, boxA_s, one_bool, one_int, one_str, one_ptr, one_nilptr, one_slice, one_eslice, one_nilslice, one_func, one_iface, one_niliface, List.all_cons, List.all_nil, List.length_cons, List.length_nil, Nat.reduceLT, Nat.reduceEqDiff, Nat.reduceLeDiff, Bool.and_true, Nat.one_ne_zero, Nat.succ_ne_zero, reduceIte, if_false, List.getElem?_cons_zero, List.set_cons_zero, List.set_cons_succ]
    generalize hq_g0 : IH.push h (IObj.rows [[IV.int .i64 id, IV.int .i64 code, IV.int .i64 ttl, IV.str nm, v]] 54 5 false) = g0
    have e_g0 : Ext h g0 := by rw [← hq_g0]; exact (Ext.refl _).push _
    have l_g0 : g0.n = h.n + 1 := by rw [← hq_g0]; rfl
    have bb : At g0 h.n (IObj.rows [[IV.int .i64 id, IV.int .i64 code, IV.int .i64 ttl, IV.str nm, v]] 54 5 false) := by rw [← hq_g0]; exact At.new _ _
    clear hq_g0
    have hs := hs.ext e_g0
    refine callA_of (okReply_c _ id code ttl nm v zs hs hz) ?_
    rintro r h1 ⟨⟨b, rfl, hb⟩, E1⟩
    have E := e_g0.trans E1
    have bb := bb.ext E1
    have hs := hs.ext E1
    have le_E1 := E1.le
    rw [hokf] at hb
    cases b
    · simp only [go_sem, Hold.p, HoldK.k, HoldL.K, HoldL.body, Nat.reduceBEq, Nat.reduceAdd, List.getElem?_cons_zero, List.getElem?_cons_succ, Option.bind_some, List.map_cons, List.map_nil, Nat.zero_add, if_true, List.getD_cons_zero, List.getD_cons_succ, List.contains_cons, List.contains_nil, Nat.reduceBEq, Bool.or_true, Bool.true_or, Bool.or_false, Bool.false_or, Bool.not_true, Bool.not_false, true_and, and_true, rowA_whole, push_n, set_n, push_obj, set_obj, set_push, set_push_ne, set_set, Nat.add_assoc, Nat.left_eq_add, Nat.add_eq_left, Nat.add_left_cancel_iff, Nat.reduceEqDiff, stO_1s, stO_ws, boxA_s, one_bool, one_int, one_str, one_ptr, one_nilptr, one_slice, one_eslice, one_nilslice, one_func, one_iface, one_niliface, List.all_cons, List.all_nil, List.length_cons, List.length_nil, Nat.reduceLT, Nat.reduceEqDiff, Nat.reduceLeDiff, Bool.and_true, Nat.one_ne_zero, Nat.succ_ne_zero, reduceIte, if_false, List.getElem?_cons_zero, List.set_cons_zero, List.set_cons_succ]
      exact ⟨_, rfl, Own.nil, E⟩
    · simp only [bb.eq, go_sem, Hold.p, HoldK.k, HoldL.K, HoldL.body, Nat.reduceBEq, Nat.reduceAdd, List.getElem?_cons_zero, List.getElem?_cons_succ, Option.bind_some, List.map_cons, List.map_nil, Nat.zero_add, if_true, List.getD_cons_zero, List.getD_cons_succ, List.contains_cons, List.contains_nil, Nat.reduceBEq, Bool.or_true, Bool.true_or, Bool.or_false, Bool.false_or, Bool.not_true, Bool.not_false, true_and, and_true, rowA_whole, push_n, set_n, push_obj, set_obj, set_push, set_push_ne, set_set, Nat.add_assoc, Nat.left_eq_add, Nat.add_eq_left, Nat.add_left_cancel_iff, Nat.reduceEqDiff, stO_1s, stO_ws, boxA_s, one_bool, one_int, one_str, one_ptr, one_nilptr, one_slice, one_eslice, one_nilslice, one_func, one_iface, one_niliface, List.all_cons, List.all_nil, List.length_cons, List.length_nil, Nat.reduceLT, Nat.reduceEqDiff, Nat.reduceLeDiff, Bool.and_true, Nat.one_ne_zero, Nat.succ_ne_zero, reduceIte, if_false, List.getElem?_cons_zero, List.set_cons_zero, List.set_cons_succ]
      refine callA_of (implNameOK_c _ nm hm) ?_
      rintro r h2 ⟨rfl, E2⟩
      rw [Bool.true_and] at hb
      simp only [hb, go_sem, Hold.p, HoldK.k, HoldL.K, HoldL.body, Nat.reduceBEq, Nat.reduceAdd, List.getElem?_cons_zero, List.getElem?_cons_succ, Option.bind_some, List.map_cons, List.map_nil, Nat.zero_add, if_true, List.getD_cons_zero, List.getD_cons_succ, List.contains_cons, List.contains_nil, Nat.reduceBEq, Bool.or_true, Bool.true_or, Bool.or_false, Bool.false_or, Bool.not_true, Bool.not_false, true_and, and_true, rowA_whole, push_n, set_n, push_obj, set_obj, set_push, set_push_ne, set_set, Nat.add_assoc, Nat.left_eq_add, Nat.add_eq_left, Nat.add_left_cancel_iff, Nat.reduceEqDiff, stO_1s, stO_ws, boxA_s, one_bool, one_int, one_str, one_ptr, one_nilptr, one_slice, one_eslice, one_nilslice, one_func, one_iface, one_niliface, List.all_cons, List.all_nil, List.length_cons, List.length_nil, Nat.reduceLT, Nat.reduceEqDiff, Nat.reduceLeDiff, Bool.and_true, Nat.one_ne_zero, Nat.succ_ne_zero, reduceIte, if_false, List.getElem?_cons_zero, List.set_cons_zero, List.set_cons_succ]
      exact ⟨_, rfl, Own.nil, E.trans E2⟩
end Go.Proofs.YtdpaehdolhdjdaaDoor


namespace Go.Proofs.YtdpaehdolhdjdaaDoor
open Go Go.IW

end Go.Proofs.YtdpaehdolhdjdaaDoor


namespace Go.Proofs.YtdpaehdolhdjdaaDoor
open Go Go.IW

theorem encR_len {id code ttl : Int} {nm : List UInt8} {zs : List Int} : (encR id code ttl nm zs).1.length ≤ 1000 := by
  unfold encR
  split
  · rename_i h
    obtain ⟨_, hn, _, _, hz, _⟩ := okRep_ok h
    have := (okName_ne hn).2
    rw [List.length_append, flat_len]
    simp [repHead, beB_len]; omega
  · simp

end Go.Proofs.YtdpaehdolhdjdaaDoor


namespace Go.Proofs.YtdpaehdolhdjdaaDoor
open Go Go.IW

/-- The numbers of four bytes each from a place on. -/
def wordsAt (bs : List UInt8) (s k : Nat) : List Int := (List.range k).map fun j => numB ((bs.take (s + 4 * j + 4)).drop (s + 4 * j))
structure RepV where
  id : Int
  code : Int
  ttl : Int
  nm : List UInt8
  zs : List Int
def RepV.zero : RepV := ⟨0, 0, 0, [], []⟩
def repM (bs : List UInt8) : Nat := (bs.getD 8 0).toNat
def repC (bs : List UInt8) : Nat := (bs.getD (9 + repM bs) 0).toNat
def repAt (bs : List UInt8) : RepV := ⟨numB (bs.take 2), ((bs.getD 3 0).toNat : Int), numB ((bs.take 8).drop 4), (bs.take (9 + repM bs)).drop 9, wordsAt bs (10 + repM bs) (repC bs)⟩
def RepV.ok (x : RepV) : Bool := okRep x.id x.code x.ttl x.nm x.zs
/-- What DecodeReply answers. -/
def decR (bs : List UInt8) : RepV × Int :=
  if bs.length < 10 + repM bs ∨ bs.length < 10 + repM bs + 4 * repC bs then (.zero, 2)
  else if 10 + repM bs + 4 * repC bs < bs.length then (.zero, 5)
  else if bs.getD 2 0 ≠ 1 then (.zero, 9)
  else if okName (repAt bs).nm = false then (.zero, 6)
  else if (repAt bs).ok = true then (repAt bs, 0) else (.zero, 1)
def ReplyRes (h h' : IH) (r : IV) (x : RepV × Int) : Prop := ∃ v, r = .tuple [.agg [.int .i64 x.1.id, .int .i64 x.1.code, .int .i64 x.1.ttl, .str x.1.nm, v], .int .i64 x.2] ∧ Own h.n h'.n h' 2 1 v (intRows x.1.zs) ∧ Ext h h'
theorem byte_ne {a b : UInt8} (h : a ≠ b) : (a.toNat : Int) ≠ (b.toNat : Int) := fun e => h (UInt8.toNat_inj.1 (by omega))

end Go.Proofs.YtdpaehdolhdjdaaDoor


namespace Go.Proofs.YtdpaehdolhdjdaaDoor
open Go Go.IW

/-! Pieces that are taken one behind another: what is left, and the piece, by the place. -/
def restD (bs : List UInt8) (n : Nat) : List UInt8 × Bool := if bs.length < n then ([], true) else (bs.drop n, false)
def pieceD (bs : List UInt8) (n k : Nat) : List UInt8 := if bs.length < n + k then List.replicate (min k 8) 0 else (bs.drop n).take k
theorem takeD_rest (bs : List UInt8) (n k : Nat) : takeD (restD bs n).1 (restD bs n).2 k = (pieceD bs n k, (restD bs (n + k)).1, (restD bs (n + k)).2) := by
  unfold restD
  by_cases h : bs.length < n
  · rw [if_pos h]
    have h2 : bs.length < n + k := by omega
    unfold pieceD
    rw [if_pos h2, if_pos h2]
    cases k with
    | zero => rfl
    | succ k => exact if_pos (Nat.zero_lt_succ k)
  · rw [if_neg h]
    by_cases h2 : bs.length < n + k
    · unfold pieceD
      rw [if_pos h2, if_pos h2]
      exact if_pos (by rw [List.length_drop]; omega)
    · unfold pieceD
      rw [if_neg h2, if_neg h2]
      refine (takeD_long (by rw [List.length_drop]; omega)).trans ?_
      rw [List.drop_drop]
theorem restD_len (bs : List UInt8) (n : Nat) : (restD bs n).1.length ≤ bs.length := by unfold restD; split <;> simp
theorem pieceD_le (bs : List UInt8) (n k : Nat) : (pieceD bs n k).length ≤ k := by unfold pieceD; split <;> simp <;> omega
theorem pieceD_long {bs : List UInt8} {n k : Nat} (h : n + k ≤ bs.length) : pieceD bs n k = (bs.take (n + k)).drop n := by
  unfold pieceD
  rw [if_neg (by omega), List.drop_take]
  congr 1; omega
theorem pieceD_one {bs : List UInt8} {n : Nat} (h : n < bs.length) : pieceD bs n 1 = [bs.getD n 0] := by
  unfold pieceD
  rw [if_neg (by omega), drop_at h]; rfl
def AtB (h : IH) (p : Nat) (bs : List UInt8) (n : Nat) : Prop := BitesAt h p (restD bs n).1 (restD bs n).2
theorem AtB.ext {h h' : IH} {p n : Nat} {bs : List UInt8} (b : AtB h p bs n) (e : Ext h h') : AtB h' p bs n := BitesAt.ext b e
theorem AtB.other {h : IH} {p q e sz n : Nat} {bs : List UInt8} {ro : Bool} {rs : List (List IV)} {o : IObj} (b : AtB h p bs n) (hq : p ≠ q) (ho : h.obj q = .rows rs e sz ro) (h1 : 1 ≠ sz) : AtB (h.set q o) p bs n := BitesAt.other b hq ho h1
theorem AtB.turn {lo hi : Nat} {h h' : IH} {p n el sz : Nat} {bs : List UInt8} {w : IV} {rs : List (List IV)} (b : AtB h p bs n) (hw : Own lo hi h el sz w rs) (hd : p < lo) (t : Turn w h h') : AtB h' p bs n := BitesAt.turn b hw hd t
theorem AtB.zero {h : IH} {p : Nat} {bs : List UInt8} (b : BitesAt h p bs false) : AtB h p bs 0 := by
  have : restD bs 0 = (bs, false) := by unfold restD; rw [if_neg (by omega)]; rfl
  unfold AtB
  rw [this]; exact b

set_option maxRecDepth 20000 in
theorem numAt_c (h : IH) (p n k : Nat) (bs : List UInt8) (hb : AtB h p bs n) (hk : k ≤ 7) (hl : bs.length ≤ 1048576) :
    ICalls Tryd.prog 82 [.ptr p 0 0, .int .i64 k] h fun r h' => r = .int .i64 (numB (pieceD bs n k)) ∧ AtB h' p bs (n + k) ∧ But p .nilslice h h' := by
  refine (num_c h p k _ _ hb hk (Nat.le_trans (restD_len bs n) hl)).mono ?_
  rintro r h' ⟨rfl, b, U⟩
  rw [takeD_rest] at b ⊢
  exact ⟨rfl, b, U⟩
set_option maxRecDepth 20000 in
theorem takeAt_c (h : IH) (p n k : Nat) (bs : List UInt8) (hb : AtB h p bs n) (hk : k ≤ 255) (hl : bs.length ≤ 1048576) :
    ICalls Tryd.prog 83 [.ptr p 0 0, .int .i64 k] h fun r h' => SlR h' 1 r (strRows (pieceD bs n k)) ∧ AtB h' p bs (n + k) ∧ But p .nilslice h h' := by
  refine (take_c h p k _ _ hb hk (Nat.le_trans (restD_len bs n) hl)).mono ?_
  rintro r h' ⟨s, b, U⟩
  rw [takeD_rest] at s b
  exact ⟨s, b, U⟩
def codeAt (bs : List UInt8) (n : Nat) (kind want : Int) (nm : List UInt8) : Int := if bs.length < n then 2 else if n < bs.length then 5 else if kind ≠ want then 9 else if okName nm = true then 0 else 6
set_option maxRecDepth 20000 in
theorem codeAt_c (h : IH) (p n : Nat) (bs : List UInt8) (kind want : Int) (nm : List UInt8) (hb : AtB h p bs n) (hl : bs.length ≤ 1048576) (hnl : nm.length ≤ 1048576) :
    ICalls Tryd.prog 84 [.ptr p 0 0, .int .i64 kind, .int .i64 want, .str nm] h fun r h' => r = .int .i64 (codeAt bs n kind want nm) ∧ Ext h h' := by
  refine (code_c h p _ _ kind want nm hb (Nat.le_trans (restD_len bs n) hl) hnl).mono ?_
  rintro r h' ⟨rfl, E⟩
  refine ⟨?_, E⟩
  congr 1
  unfold codeAt restD
  by_cases h1 : bs.length < n
  · rw [if_pos h1, if_pos h1]; rfl
  · rw [if_neg h1, if_neg h1]
    simp only [Bool.false_eq_true, if_false, List.length_drop]
    by_cases h2 : n < bs.length
    · rw [if_pos h2, if_pos (by omega)]
    · rw [if_neg h2, if_neg (by omega)]
theorem ownBut {lo hi : Nat} {h h' : IH} {el sz p : Nat} {v : IV} {rs : List (List IV)} (o : Own lo hi h el sz v rs) (t : But p .nilslice h h') (hp : p < lo ∨ hi ≤ p) : Own lo hi h' el sz v rs := by
  rcases o with h0 | ⟨l, h0, rfl, h1, h2, h3, h4⟩
  · exact .inl h0
  · exact .inr ⟨l, h0, rfl, h1, h2, Nat.le_trans h3 t.le, (t.obj l (by omega) (by omega) (nil_at l)).trans h4⟩
theorem codeAt_zero {bs : List UInt8} {n : Nat} {kind want : Int} {nm : List UInt8} (h : codeAt bs n kind want nm = 0) : okName nm = true := by
  unfold codeAt at h
  split at h
  · omega
  · split at h
    · omega
    · split at h
      · omega
      · split at h
        · assumption
        · omega
end Go.Proofs.YtdpaehdolhdjdaaDoor


namespace Go.Proofs.YtdpaehdolhdjdaaDoor
open Go Go.IW

/-- The parts that the program takes off. -/
def parM (bs : List UInt8) : Nat := (numB (pieceD bs 8 1)).toNat
def parC (bs : List UInt8) : Nat := (numB (pieceD bs (9 + parM bs) 1)).toNat
def parZ (bs : List UInt8) (k : Nat) : List Int := (List.range k).map fun j => numB (pieceD bs (10 + parM bs + 4 * j) 4)
theorem parZ_succ (bs : List UInt8) (k : Nat) : parZ bs (k + 1) = parZ bs k ++ [numB (pieceD bs (10 + parM bs + 4 * k) 4)] := by
  unfold parZ; rw [List.range_succ, List.map_append]; rfl
theorem parZ_len (bs : List UInt8) (k : Nat) : (parZ bs k).length = k := by unfold parZ; simp
def parAt (bs : List UInt8) (k : Nat) : RepV := ⟨numB (pieceD bs 0 2), numB (pieceD bs 3 1), numB (pieceD bs 4 4), pieceD bs 9 (parM bs), parZ bs k⟩
def parErr (bs : List UInt8) (k : Nat) : Int :=
  if codeAt bs (10 + parM bs + 4 * k) (numB (pieceD bs 2 1)) 1 (parAt bs k).nm = 0 then (if (parAt bs k).ok = true then 0 else 1) else codeAt bs (10 + parM bs + 4 * k) (numB (pieceD bs 2 1)) 1 (parAt bs k).nm

theorem parM_eq {bs : List UInt8} (h : 9 ≤ bs.length) : parM bs = repM bs := by
  unfold parM repM
  rw [pieceD_one (by omega), numB_one]; rfl
theorem parC_eq {bs : List UInt8} (h : 10 + parM bs ≤ bs.length) : parC bs = repC bs := by
  have hm := parM_eq (bs := bs) (by omega)
  unfold parC repC
  rw [pieceD_one (by omega), numB_one, hm]; rfl
/-- What the program's parts amount to. -/
theorem par_dec {bs : List UInt8} {k : Nat} (hk : k ≤ parC bs) (hend : k = parC bs ∨ bs.length < 10 + parM bs + 4 * k) :
    decR bs = if parErr bs k = 0 then (parAt bs k, 0) else (.zero, parErr bs k) := by
  by_cases c0 : bs.length < 10 + parM bs
  · have hc : codeAt bs (10 + parM bs + 4 * k) (numB (pieceD bs 2 1)) 1 (parAt bs k).nm = 2 := if_pos (by omega)
    have he : parErr bs k = 2 := by unfold parErr; rw [hc]; rfl
    rw [he, if_neg (by decide)]
    refine if_pos ?_
    by_cases h9 : 9 ≤ bs.length
    · rw [parM_eq h9] at c0; exact .inl c0
    · left; omega
  · have hm := parM_eq (bs := bs) (by omega)
    have hc := parC_eq (bs := bs) (by omega)
    rw [hm] at c0 hend
    rw [hc] at hk hend
    by_cases c1 : bs.length < 10 + repM bs + 4 * repC bs
    · have hlt : bs.length < 10 + repM bs + 4 * k := by omega
      have hcd : codeAt bs (10 + parM bs + 4 * k) (numB (pieceD bs 2 1)) 1 (parAt bs k).nm = 2 := if_pos (by rw [hm]; exact hlt)
      have he : parErr bs k = 2 := by unfold parErr; rw [hcd]; rfl
      rw [he, if_neg (by decide)]
      exact if_pos (.inr c1)
    · obtain rfl : k = repC bs := by omega
      have hnm : (parAt bs (repC bs)).nm = (repAt bs).nm := by
        show pieceD bs 9 (parM bs) = _
        rw [hm, pieceD_long (by omega)]; rfl
      have hall : parAt bs (repC bs) = repAt bs := by
        have e1 : numB (pieceD bs 0 2) = numB (bs.take 2) := by rw [pieceD_long (by omega)]; rfl
        have e2 : numB (pieceD bs 3 1) = ((bs.getD 3 0).toNat : Int) := by rw [pieceD_one (by omega), numB_one]
        have e3 : numB (pieceD bs 4 4) = numB ((bs.take 8).drop 4) := by rw [pieceD_long (by omega)]
        have e4 : parZ bs (repC bs) = wordsAt bs (10 + repM bs) (repC bs) := by
          unfold parZ wordsAt
          refine List.map_congr_left fun j hj => ?_
          have := List.mem_range.1 hj
          rw [hm, pieceD_long (by omega)]
        unfold parAt repAt
        rw [e1, e2, e3, e4]
        congr 1
      have hk2 : numB (pieceD bs 2 1) = ((bs.getD 2 0).toNat : Int) := by rw [pieceD_one (by omega), numB_one]
      have hdef : decR bs = if 10 + repM bs + 4 * repC bs < bs.length then (.zero, 5) else if bs.getD 2 0 ≠ 1 then (.zero, 9) else if okName (repAt bs).nm = false then (.zero, 6) else if (repAt bs).ok = true then (repAt bs, 0) else (.zero, 1) := if_neg (by omega)
      rw [hdef]
      unfold parErr
      rw [hall, hk2, hm]
      have hcd : codeAt bs (10 + repM bs + 4 * repC bs) ((bs.getD 2 0).toNat : Int) 1 (repAt bs).nm = if 10 + repM bs + 4 * repC bs < bs.length then 5 else if ((bs.getD 2 0).toNat : Int) ≠ 1 then 9 else if okName (repAt bs).nm = true then 0 else 6 := if_neg (by omega)
      rw [hcd]
      by_cases c2 : 10 + repM bs + 4 * repC bs < bs.length
      · rw [if_pos c2, if_pos c2]; rfl
      · rw [if_neg c2, if_neg c2]
        by_cases c3 : bs.getD 2 0 ≠ 1
        · have c3n : ((bs.getD 2 0).toNat : Int) ≠ 1 := byte_ne (b := 1) c3
          rw [if_pos c3, if_pos c3n]; rfl
        · have c3' : ((bs.getD 2 0).toNat : Int) = 1 := by rw [show bs.getD 2 0 = 1 by simpa using c3]; rfl
          have c3n : ¬ ((bs.getD 2 0).toNat : Int) ≠ 1 := fun hx => hx c3'
          rw [if_neg c3, if_neg c3n]
          cases okName (repAt bs).nm
          · rfl
          · cases (repAt bs).ok <;> rfl

set_option maxRecDepth 20000 in
theorem implDecodeReply_c (h : IH) (v : IV) (bs : List UInt8) (hs : SlR h 1 v (strRows bs)) (hl : bs.length ≤ 1048576) : ICalls Tryd.prog 33 [v] h fun r h' => ReplyRes h h' r (decR bs) := by
  refine icalls (.of ok33) (Nat.le_of_ble_eq_true rfl) ?_
  unfold c33
  have hvo := hs.one
  have hvc := hs.cells
  have hsl := hs.lt
  simp only [hvo, hvc, lay_nil, lay_1, lay_w, Option.map_some, go_sem, Hold.p, HoldK.k, HoldL.K, HoldL.body, Nat.reduceBEq, Nat.reduceAdd, List.getElem?_cons_zero, List.getElem?_cons_succ, Option.bind_some, List.map_cons, List.map_nil, Nat.zero_add, if_true, List.getD_cons_zero, List.getD_cons_succ, List.contains_cons, List.contains_nil, Nat.reduceBEq, Bool.or_true, Bool.true_or, Bool.or_false, Bool.false_or, Bool.not_true, Bool.not_false, true_and, and_true, rowA_whole, push_n, set_n, push_obj, set_obj, set_push, set_push_ne, set_set, Nat.add_assoc, Nat.left_eq_add, Nat.add_eq_left, Nat.add_left_cancel_iff, Nat.reduceEqDiff, stO_1s, stO_ws, boxA_s, one_bool, one_int, one_str, one_ptr, one_nilptr, one_slice, one_eslice, one_nilslice, one_func, one_iface, one_niliface, List.all_cons, List.all_nil, List.length_cons, List.length_nil, Nat.reduceLT, Nat.reduceEqDiff, Nat.reduceLeDiff, Bool.and_true, Nat.one_ne_zero, Nat.succ_ne_zero, reduceIte, if_false, List.getElem?_cons_zero, List.set_cons_zero, List.set_cons_succ]
  generalize hq_g0 : IH.push h (IObj.rows [[IV.int .i64 0, IV.int .i64 0, IV.int .i64 0, IV.str [], IV.nilslice]] 54 5 false) = g0
  have e_g0 : Ext h g0 := by rw [← hq_g0]; exact (Ext.refl _).push _
  have l_g0 : g0.n = h.n + 1 := by rw [← hq_g0]; rfl
  have bb : At g0 h.n (IObj.rows [[IV.int .i64 0, IV.int .i64 0, IV.int .i64 0, IV.str [], IV.nilslice]] 54 5 false) := by rw [← hq_g0]; exact At.new _ _
  clear hq_g0
  have hs := hs.ext e_g0
  generalize hq_g1 : IH.push g0 (IObj.rows [[v, IV.bool false]] 130 2 false) = g1
  have e_g1 : Ext g0 g1 := by rw [← hq_g1]; exact (Ext.refl _).push _
  have l_g1 : g1.n = g0.n + 1 := by rw [← hq_g1]; rfl
  have ba : At g1 g0.n (IObj.rows [[v, IV.bool false]] 130 2 false) := by rw [← hq_g1]; exact At.new _ _
  clear hq_g1
  have hs := hs.ext e_g1
  have bb := bb.ext e_g1
  have B := AtB.zero (BitesAt.mk' ba hs (fun l i m e => by have := hsl l i m e; omega))
  rw [l_g0] at B
  have E := e_g0.trans e_g1
  refine callA_of (numAt_c g1 _ 0 2 bs B (by omega) hl) ?_
  rintro r h1 ⟨rfl, B1, U1⟩
  replace bb := U1.at0 bb (by omega)
  replace E := U1.ext0 E (by omega)
  have u1 := U1.le
  simp only [bb.eq, lay_nil, lay_1, lay_w, Option.map_some, go_sem, Hold.p, HoldK.k, HoldL.K, HoldL.body, Nat.reduceBEq, Nat.reduceAdd, List.getElem?_cons_zero, List.getElem?_cons_succ, Option.bind_some, List.map_cons, List.map_nil, Nat.zero_add, if_true, List.getD_cons_zero, List.getD_cons_succ, List.contains_cons, List.contains_nil, Nat.reduceBEq, Bool.or_true, Bool.true_or, Bool.or_false, Bool.false_or, Bool.not_true, Bool.not_false, true_and, and_true, rowA_whole, push_n, set_n, push_obj, set_obj, set_push, set_push_ne, set_set, Nat.add_assoc, Nat.left_eq_add, Nat.add_eq_left, Nat.add_left_cancel_iff, Nat.reduceEqDiff, stO_1s, stO_ws, boxA_s, one_bool, one_int, one_str, one_ptr, one_nilptr, one_slice, one_eslice, one_nilslice, one_func, one_iface, one_niliface, List.all_cons, List.all_nil, List.length_cons, List.length_nil, Nat.reduceLT, Nat.reduceEqDiff, Nat.reduceLeDiff, Bool.and_true, Nat.one_ne_zero, Nat.succ_ne_zero, reduceIte, if_false, List.getElem?_cons_zero, List.set_cons_zero, List.set_cons_succ]
  generalize hq_g2 : IH.push h1 (IObj.rows [[IV.int .i64 (numB (pieceD bs 0 2)), IV.int .i64 0, IV.int .i64 0, IV.str [], IV.nilslice]] 54 5 false) = g2
  have e_g2 : Ext h1 g2 := by rw [← hq_g2]; exact (Ext.refl _).push _
  have l_g2 : g2.n = h1.n + 1 := by rw [← hq_g2]; rfl
  have bq : At g2 h1.n (IObj.rows [[IV.int .i64 (numB (pieceD bs 0 2)), IV.int .i64 0, IV.int .i64 0, IV.str [], IV.nilslice]] 54 5 false) := by rw [← hq_g2]; exact At.new _ _
  clear hq_g2
  have bb := bb.ext e_g2
  have B1 := B1.ext e_g2
  have E := E.ext e_g2
  generalize hp2 : h1.n = p2 at bq l_g2
  refine callA_of (numAt_c g2 _ 2 1 bs B1 (by omega) hl) ?_
  rintro r h2 ⟨rfl, B2, U⟩
  replace bb := U.at0 bb (by omega)
  replace bq := U.at0 bq (by omega)
  replace E := U.ext0 E (by omega)
  have u_h2 := U.le
  clear U
  simp only [bb.eq, bq.eq, lay_nil, lay_1, lay_w, Option.map_some, go_sem, Hold.p, HoldK.k, HoldL.K, HoldL.body, Nat.reduceBEq, Nat.reduceAdd, List.getElem?_cons_zero, List.getElem?_cons_succ, Option.bind_some, List.map_cons, List.map_nil, Nat.zero_add, if_true, List.getD_cons_zero, List.getD_cons_succ, List.contains_cons, List.contains_nil, Nat.reduceBEq, Bool.or_true, Bool.true_or, Bool.or_false, Bool.false_or, Bool.not_true, Bool.not_false, true_and, and_true, rowA_whole, push_n, set_n, push_obj, set_obj, set_push, set_push_ne, set_set, Nat.add_assoc, Nat.left_eq_add, Nat.add_eq_left, Nat.add_left_cancel_iff, Nat.reduceEqDiff, stO_1s, stO_ws, boxA_s, one_bool, one_int, one_str, one_ptr, one_nilptr, one_slice, one_eslice, one_nilslice, one_func, one_iface, one_niliface, List.all_cons, List.all_nil, List.length_cons, List.length_nil, Nat.reduceLT, Nat.reduceEqDiff, Nat.reduceLeDiff, Bool.and_true, Nat.one_ne_zero, Nat.succ_ne_zero, reduceIte, if_false, List.getElem?_cons_zero, List.set_cons_zero, List.set_cons_succ]
  refine callA_of (numAt_c h2 _ 3 1 bs B2 (by omega) hl) ?_
  rintro r h3 ⟨rfl, B3, U⟩
  replace bb := U.at0 bb (by omega)
  replace bq := U.at0 bq (by omega)
  replace E := U.ext0 E (by omega)
  have u_h3 := U.le
  clear U
  simp only [bb.eq, bq.eq, lay_nil, lay_1, lay_w, Option.map_some, go_sem, Hold.p, HoldK.k, HoldL.K, HoldL.body, Nat.reduceBEq, Nat.reduceAdd, List.getElem?_cons_zero, List.getElem?_cons_succ, Option.bind_some, List.map_cons, List.map_nil, Nat.zero_add, if_true, List.getD_cons_zero, List.getD_cons_succ, List.contains_cons, List.contains_nil, Nat.reduceBEq, Bool.or_true, Bool.true_or, Bool.or_false, Bool.false_or, Bool.not_true, Bool.not_false, true_and, and_true, rowA_whole, push_n, set_n, push_obj, set_obj, set_push, set_push_ne, set_set, Nat.add_assoc, Nat.left_eq_add, Nat.add_eq_left, Nat.add_left_cancel_iff, Nat.reduceEqDiff, stO_1s, stO_ws, boxA_s, one_bool, one_int, one_str, one_ptr, one_nilptr, one_slice, one_eslice, one_nilslice, one_func, one_iface, one_niliface, List.all_cons, List.all_nil, List.length_cons, List.length_nil, Nat.reduceLT, Nat.reduceEqDiff, Nat.reduceLeDiff, Bool.and_true, Nat.one_ne_zero, Nat.succ_ne_zero, reduceIte, if_false, List.getElem?_cons_zero, List.set_cons_zero, List.set_cons_succ]
  refine callA_of (numAt_c h3 _ 4 4 bs B3 (by omega) hl) ?_
  rintro r h4 ⟨rfl, B4, U⟩
  replace bb := U.at0 bb (by omega)
  replace bq := U.at0 bq (by omega)
  replace E := U.ext0 E (by omega)
  have u_h4 := U.le
  clear U
  have B5 := B4.other (q := p2) (o := IObj.rows [[IV.int .i64 (numB (pieceD bs 0 2)), IV.int .i64 (numB (pieceD bs 3 1)), IV.int .i64 (numB (pieceD bs 4 4)), IV.str [], .nilslice]] 54 5 false) (by omega) bq.eq (by decide)
  simp only [bb.eq, bq.eq, lay_nil, lay_1, lay_w, Option.map_some, go_sem, Hold.p, HoldK.k, HoldL.K, HoldL.body, Nat.reduceBEq, Nat.reduceAdd, List.getElem?_cons_zero, List.getElem?_cons_succ, Option.bind_some, List.map_cons, List.map_nil, Nat.zero_add, if_true, List.getD_cons_zero, List.getD_cons_succ, List.contains_cons, List.contains_nil, Nat.reduceBEq, Bool.or_true, Bool.true_or, Bool.or_false, Bool.false_or, Bool.not_true, Bool.not_false, true_and, and_true, rowA_whole, push_n, set_n, push_obj, set_obj, set_push, set_push_ne, set_set, Nat.add_assoc, Nat.left_eq_add, Nat.add_eq_left, Nat.add_left_cancel_iff, Nat.reduceEqDiff, stO_1s, stO_ws, boxA_s, one_bool, one_int, one_str, one_ptr, one_nilptr, one_slice, one_eslice, one_nilslice, one_func, one_iface, one_niliface, List.all_cons, List.all_nil, List.length_cons, List.length_nil, Nat.reduceLT, Nat.reduceEqDiff, Nat.reduceLeDiff, Bool.and_true, Nat.one_ne_zero, Nat.succ_ne_zero, reduceIte, if_false, List.getElem?_cons_zero, List.set_cons_zero, List.set_cons_succ]
  generalize hq_g5 : IH.set h4 (p2) (IObj.rows [[IV.int .i64 (numB (pieceD bs 0 2)), IV.int .i64 (numB (pieceD bs 3 1)), IV.int .i64 (numB (pieceD bs 4 4)), IV.str [], .nilslice]] 54 5 false) = g5
  have l_g5 : g5.n = h4.n := by rw [← hq_g5]; rfl
  have bq : At g5 (p2) (IObj.rows [[IV.int .i64 (numB (pieceD bs 0 2)), IV.int .i64 (numB (pieceD bs 3 1)), IV.int .i64 (numB (pieceD bs 4 4)), IV.str [], .nilslice]] 54 5 false) := by rw [← hq_g5]; exact bq.here
  have bb := bb.set (p := p2) (o' := IObj.rows [[IV.int .i64 (numB (pieceD bs 0 2)), IV.int .i64 (numB (pieceD bs 3 1)), IV.int .i64 (numB (pieceD bs 4 4)), IV.str [], .nilslice]] 54 5 false) (by omega)
  rw [hq_g5] at bb
  have E := E.set (p2) (by omega) (IObj.rows [[IV.int .i64 (numB (pieceD bs 0 2)), IV.int .i64 (numB (pieceD bs 3 1)), IV.int .i64 (numB (pieceD bs 4 4)), IV.str [], .nilslice]] 54 5 false)
  rw [hq_g5] at E
  rw [hq_g5] at B5
  clear hq_g5
  refine callA_of (numAt_c g5 _ 8 1 bs B5 (by omega) hl) ?_
  rintro r h6 ⟨rfl, B6, U⟩
  replace bb := U.at0 bb (by omega)
  replace bq := U.at0 bq (by omega)
  replace E := U.ext0 E (by omega)
  have u_h6 := U.le
  clear U
  obtain ⟨q1, q2⟩ := numB_one_le (pieceD_le bs 8 1)
  have hpm : numB (pieceD bs 8 1) = (parM bs : Int) := q2
  have hpl : parM bs ≤ 255 := q1
  rw [hpm]
  simp only [bb.eq, bq.eq, lay_nil, lay_1, lay_w, Option.map_some, go_sem, Hold.p, HoldK.k, HoldL.K, HoldL.body, Nat.reduceBEq, Nat.reduceAdd, List.getElem?_cons_zero, List.getElem?_cons_succ, Option.bind_some, List.map_cons, List.map_nil, Nat.zero_add, if_true, List.getD_cons_zero, List.getD_cons_succ, List.contains_cons, List.contains_nil, Nat.reduceBEq, Bool.or_true, Bool.true_or, Bool.or_false, Bool.false_or, Bool.not_true, Bool.not_false, true_and, and_true, rowA_whole, push_n, set_n, push_obj, set_obj, set_push, set_push_ne, set_set, Nat.add_assoc, Nat.left_eq_add, Nat.add_eq_left, Nat.add_left_cancel_iff, Nat.reduceEqDiff, stO_1s, stO_ws, boxA_s, one_bool, one_int, one_str, one_ptr, one_nilptr, one_slice, one_eslice, one_nilslice, one_func, one_iface, one_niliface, List.all_cons, List.all_nil, List.length_cons, List.length_nil, Nat.reduceLT, Nat.reduceEqDiff, Nat.reduceLeDiff, Bool.and_true, Nat.one_ne_zero, Nat.succ_ne_zero, reduceIte, if_false, List.getElem?_cons_zero, List.set_cons_zero, List.set_cons_succ]
  refine callA_of (takeAt_c h6 _ 9 (parM bs) bs B6 hpl hl) ?_
  rintro r h7 ⟨hs7, B7, U⟩
  replace bb := U.at0 bb (by omega)
  replace bq := U.at0 bq (by omega)
  replace E := U.ext0 E (by omega)
  have u_h7 := U.le
  clear U
  have hb2 := hs7.b2s
  have k7 := pieceD_le bs 9 (parM bs)
  have B8 := B7.other (q := p2) (o := IObj.rows [[IV.int .i64 (numB (pieceD bs 0 2)), IV.int .i64 (numB (pieceD bs 3 1)), IV.int .i64 (numB (pieceD bs 4 4)), IV.str (pieceD bs 9 (parM bs)), .nilslice]] 54 5 false) (by omega) bq.eq (by decide)
  simp only [bb.eq, bq.eq, hb2, lay_nil, lay_1, lay_w, Option.map_some, go_sem, Hold.p, HoldK.k, HoldL.K, HoldL.body, Nat.reduceBEq, Nat.reduceAdd, List.getElem?_cons_zero, List.getElem?_cons_succ, Option.bind_some, List.map_cons, List.map_nil, Nat.zero_add, if_true, List.getD_cons_zero, List.getD_cons_succ, List.contains_cons, List.contains_nil, Nat.reduceBEq, Bool.or_true, Bool.true_or, Bool.or_false, Bool.false_or, Bool.not_true, Bool.not_false, true_and, and_true, rowA_whole, push_n, set_n, push_obj, set_obj, set_push, set_push_ne, set_set, Nat.add_assoc, Nat.left_eq_add, Nat.add_eq_left, Nat.add_left_cancel_iff, Nat.reduceEqDiff, stO_1s, stO_ws, boxA_s, one_bool, one_int, one_str, one_ptr, one_nilptr, one_slice, one_eslice, one_nilslice, one_func, one_iface, one_niliface, List.all_cons, List.all_nil, List.length_cons, List.length_nil, Nat.reduceLT, Nat.reduceEqDiff, Nat.reduceLeDiff, Bool.and_true, Nat.one_ne_zero, Nat.succ_ne_zero, reduceIte, if_false, List.getElem?_cons_zero, List.set_cons_zero, List.set_cons_succ]
  generalize hq_g8 : IH.set h7 (p2) (IObj.rows [[IV.int .i64 (numB (pieceD bs 0 2)), IV.int .i64 (numB (pieceD bs 3 1)), IV.int .i64 (numB (pieceD bs 4 4)), IV.str (pieceD bs 9 (parM bs)), .nilslice]] 54 5 false) = g8
  have l_g8 : g8.n = h7.n := by rw [← hq_g8]; rfl
  have bq : At g8 (p2) (IObj.rows [[IV.int .i64 (numB (pieceD bs 0 2)), IV.int .i64 (numB (pieceD bs 3 1)), IV.int .i64 (numB (pieceD bs 4 4)), IV.str (pieceD bs 9 (parM bs)), .nilslice]] 54 5 false) := by rw [← hq_g8]; exact bq.here
  have bb := bb.set (p := p2) (o' := IObj.rows [[IV.int .i64 (numB (pieceD bs 0 2)), IV.int .i64 (numB (pieceD bs 3 1)), IV.int .i64 (numB (pieceD bs 4 4)), IV.str (pieceD bs 9 (parM bs)), .nilslice]] 54 5 false) (by omega)
  rw [hq_g8] at bb
  have E := E.set (p2) (by omega) (IObj.rows [[IV.int .i64 (numB (pieceD bs 0 2)), IV.int .i64 (numB (pieceD bs 3 1)), IV.int .i64 (numB (pieceD bs 4 4)), IV.str (pieceD bs 9 (parM bs)), .nilslice]] 54 5 false)
  rw [hq_g8] at E
  rw [hq_g8] at B8
  clear hq_g8
  refine callA_of (numAt_c g8 _ (9 + parM bs) 1 bs B8 (by omega) hl) ?_
  rintro r h9 ⟨rfl, B9, U⟩
  replace bb := U.at0 bb (by omega)
  replace bq := U.at0 bq (by omega)
  replace E := U.ext0 E (by omega)
  have u_h9 := U.le
  clear U
  obtain ⟨q3, q4⟩ := numB_one_le (pieceD_le bs (9 + parM bs) 1)
  have hpc : numB (pieceD bs (9 + parM bs) 1) = (parC bs : Int) := q4
  have hpcl : parC bs ≤ 255 := q3
  rw [hpc]
  have B10 : AtB h9 (h.n + 1) bs (10 + parM bs + 4 * 0) := by
    have : 9 + parM bs + 1 = 10 + parM bs + 4 * 0 := by omega
    rw [← this]; exact B9
  simp only [bb.eq, bq.eq, lay_nil, lay_1, lay_w, Option.map_some, go_sem, Hold.p, HoldK.k, HoldL.K, HoldL.body, Nat.reduceBEq, Nat.reduceAdd, List.getElem?_cons_zero, List.getElem?_cons_succ, Option.bind_some, List.map_cons, List.map_nil, Nat.zero_add, if_true, List.getD_cons_zero, List.getD_cons_succ, List.contains_cons, List.contains_nil, Nat.reduceBEq, Bool.or_true, Bool.true_or, Bool.or_false, Bool.false_or, Bool.not_true, Bool.not_false, true_and, and_true, rowA_whole, push_n, set_n, push_obj, set_obj, set_push, set_push_ne, set_set, Nat.add_assoc, Nat.left_eq_add, Nat.add_eq_left, Nat.add_left_cancel_iff, Nat.reduceEqDiff, stO_1s, stO_ws, boxA_s, one_bool, one_int, one_str, one_ptr, one_nilptr, one_slice, one_eslice, one_nilslice, one_func, one_iface, one_niliface, List.all_cons, List.all_nil, List.length_cons, List.length_nil, Nat.reduceLT, Nat.reduceEqDiff, Nat.reduceLeDiff, Bool.and_true, Nat.one_ne_zero, Nat.succ_ne_zero, reduceIte, if_false, List.getElem?_cons_zero, List.set_cons_zero, List.set_cons_succ]
  refine loop_at (fun n e g' => ∃ (k : Nat) (vz : IV) (lo hi : Nat), n = parC bs - k ∧ k ≤ parC bs ∧ e 2 = .ptr h.n 0 0 ∧ e 4 = .ptr (h.n + 1) 0 0 ∧ e 5 = .ptr p2 0 0 ∧ e 6 = .int .i64 (numB (pieceD bs 2 1)) ∧ e 7 = .int .i64 ((parC bs - k : Nat) : Int) ∧ At g' h.n (IObj.rows [[IV.int .i64 0, IV.int .i64 0, IV.int .i64 0, IV.str [], IV.nilslice]] 54 5 false) ∧ At g' p2 (IObj.rows [[IV.int .i64 (numB (pieceD bs 0 2)), IV.int .i64 (numB (pieceD bs 3 1)), IV.int .i64 (numB (pieceD bs 4 4)), IV.str (pieceD bs 9 (parM bs)), vz]] 54 5 false) ∧ AtB g' (h.n + 1) bs (10 + parM bs + 4 * k) ∧ Own lo hi g' 2 1 vz (intRows (parZ bs k)) ∧ p2 < lo ∧ hi ≤ g'.n ∧ Ext h g') (parC bs) ?_ ?_
  · refine ⟨0, .nilslice, p2 + 1, p2 + 1, by omega, by omega, ?_⟩
    simp only [lay_nil, lay_1, lay_w, Option.map_some, go_sem, Hold.p, HoldK.k, HoldL.K, HoldL.body, Nat.reduceBEq, Nat.reduceAdd, List.getElem?_cons_zero, List.getElem?_cons_succ, Option.bind_some, List.map_cons, List.map_nil, Nat.zero_add, if_true, List.getD_cons_zero, List.getD_cons_succ, List.contains_cons, List.contains_nil, Nat.reduceBEq, Bool.or_true, Bool.true_or, Bool.or_false, Bool.false_or, Bool.not_true, Bool.not_false, true_and, and_true, rowA_whole, push_n, set_n, push_obj, set_obj, set_push, set_push_ne, set_set, Nat.add_assoc, Nat.left_eq_add, Nat.add_eq_left, Nat.add_left_cancel_iff, Nat.reduceEqDiff, stO_1s, stO_ws, boxA_s, one_bool, one_int, one_str, one_ptr, one_nilptr, one_slice, one_eslice, one_nilslice, one_func, one_iface, one_niliface, List.all_cons, List.all_nil, List.length_cons, List.length_nil, Nat.reduceLT, Nat.reduceEqDiff, Nat.reduceLeDiff, Bool.and_true, Nat.one_ne_zero, Nat.succ_ne_zero, reduceIte, if_false, List.getElem?_cons_zero, List.set_cons_zero, List.set_cons_succ]
    exact ⟨rfl, bb, bq, B10, Own.nil, Nat.lt_succ_self _, by omega, E⟩
  · have hp2 : h.n + 1 < p2 := by omega
    clear bb bq B B1 B2 B3 B4 B5 B6 B7 B8 B9 B10 E
    rintro n e g' ⟨k, vz, lo, hi, rfl, hk, i2, i4, i5, i6, i7, bb, bq, B, oz, hlo, hhi, E⟩
    obtain ⟨nn, hnn⟩ : ∃ nn, nn = 10 + parM bs + 4 * k := ⟨_, rfl⟩
    rw [← hnn] at B
    obtain ⟨vB, bB, sB, _⟩ := BitesAt.box B
    simp only [i2, i4, i5, i6, i7, bb.eq, bq.eq, bB.eq, lay_nil, lay_1, lay_w, Option.map_some, go_sem, Hold.p, HoldK.k, HoldL.K, HoldL.body, Nat.reduceBEq, Nat.reduceAdd, List.getElem?_cons_zero, List.getElem?_cons_succ, Option.bind_some, List.map_cons, List.map_nil, Nat.zero_add, if_true, List.getD_cons_zero, List.getD_cons_succ, List.contains_cons, List.contains_nil, Nat.reduceBEq, Bool.or_true, Bool.true_or, Bool.or_false, Bool.false_or, Bool.not_true, Bool.not_false, true_and, and_true, rowA_whole, push_n, set_n, push_obj, set_obj, set_push, set_push_ne, set_set, Nat.add_assoc, Nat.left_eq_add, Nat.add_eq_left, Nat.add_left_cancel_iff, Nat.reduceEqDiff, stO_1s, stO_ws, boxA_s, one_bool, one_int, one_str, one_ptr, one_nilptr, one_slice, one_eslice, one_nilslice, one_func, one_iface, one_niliface, List.all_cons, List.all_nil, List.length_cons, List.length_nil, Nat.reduceLT, Nat.reduceEqDiff, Nat.reduceLeDiff, Bool.and_true, Nat.one_ne_zero, Nat.succ_ne_zero, reduceIte, if_false, List.getElem?_cons_zero, List.set_cons_zero, List.set_cons_succ]
    have lq := bq.lt
    by_cases c1 : k < parC bs
    · have d1 : decide ((0 : Int) < ((parC bs - k : Nat) : Int)) = true := decide_eq_true (by omega)
      cases c2 : (restD bs nn).2
      · simp only [i2, i4, i5, i6, i7, bb.eq, bq.eq, bB.eq, d1, c2, lay_nil, lay_1, lay_w, Option.map_some, go_sem, Hold.p, HoldK.k, HoldL.K, HoldL.body, Nat.reduceBEq, Nat.reduceAdd, List.getElem?_cons_zero, List.getElem?_cons_succ, Option.bind_some, List.map_cons, List.map_nil, Nat.zero_add, if_true, List.getD_cons_zero, List.getD_cons_succ, List.contains_cons, List.contains_nil, Nat.reduceBEq, Bool.or_true, Bool.true_or, Bool.or_false, Bool.false_or, Bool.not_true, Bool.not_false, true_and, and_true, rowA_whole, push_n, set_n, push_obj, set_obj, set_push, set_push_ne, set_set, Nat.add_assoc, Nat.left_eq_add, Nat.add_eq_left, Nat.add_left_cancel_iff, Nat.reduceEqDiff, stO_1s, stO_ws, boxA_s, one_bool, one_int, one_str, one_ptr, one_nilptr, one_slice, one_eslice, one_nilslice, one_func, one_iface, one_niliface, List.all_cons, List.all_nil, List.length_cons, List.length_nil, Nat.reduceLT, Nat.reduceEqDiff, Nat.reduceLeDiff, Bool.and_true, Nat.one_ne_zero, Nat.succ_ne_zero, reduceIte, if_false, List.getElem?_cons_zero, List.set_cons_zero, List.set_cons_succ]
        refine callA_of (numAt_c g' _ nn 4 bs B (by omega) hl) ?_
        rintro r h2 ⟨rfl, B2, U⟩
        replace bb := U.at0 bb (by omega)
        replace bq := U.at0 bq (by omega)
        replace E := U.ext0 E (by omega)
        replace oz := ownBut oz U (.inl (by omega))
        have u2 := U.le
        clear U B bB sB
        have nq : (p2 = h2.n) = False := by simp; omega
        simp only [i2, i4, i5, i6, i7, bb.eq, bq.eq, nq, bslA_1, lay_nil, lay_1, lay_w, Option.map_some, go_sem, Hold.p, HoldK.k, HoldL.K, HoldL.body, Nat.reduceBEq, Nat.reduceAdd, List.getElem?_cons_zero, List.getElem?_cons_succ, Option.bind_some, List.map_cons, List.map_nil, Nat.zero_add, if_true, List.getD_cons_zero, List.getD_cons_succ, List.contains_cons, List.contains_nil, Nat.reduceBEq, Bool.or_true, Bool.true_or, Bool.or_false, Bool.false_or, Bool.not_true, Bool.not_false, true_and, and_true, rowA_whole, push_n, set_n, push_obj, set_obj, set_push, set_push_ne, set_set, Nat.add_assoc, Nat.left_eq_add, Nat.add_eq_left, Nat.add_left_cancel_iff, Nat.reduceEqDiff, stO_1s, stO_ws, boxA_s, one_bool, one_int, one_str, one_ptr, one_nilptr, one_slice, one_eslice, one_nilslice, one_func, one_iface, one_niliface, List.all_cons, List.all_nil, List.length_cons, List.length_nil, Nat.reduceLT, Nat.reduceEqDiff, Nat.reduceLeDiff, Bool.and_true, Nat.one_ne_zero, Nat.succ_ne_zero, reduceIte, if_false, List.getElem?_cons_zero, List.set_cons_zero, List.set_cons_succ]
        generalize hq_g3 : IH.push h2 (IObj.rows [[IV.int .i64 (numB (pieceD bs nn 4))]] 2 1 false) = g3
        have e_g3 : Ext h2 g3 := by rw [← hq_g3]; exact (Ext.refl _).push _
        have l_g3 : g3.n = h2.n + 1 := by rw [← hq_g3]; rfl
        have bw : At g3 h2.n (IObj.rows [[IV.int .i64 (numB (pieceD bs nn 4))]] 2 1 false) := by rw [← hq_g3]; exact At.new _ _
        clear hq_g3
        have bb := bb.ext e_g3
        have bq := bq.ext e_g3
        have oz := oz.ext e_g3
        have E := E.ext e_g3
        have B2 := B2.ext e_g3
        refine oz.app (by simp) (by rw [intRows_len, parZ_len]; simp; omega) ?_
        intro v6 h6 o6 t6 n6 v6o v6c
        have B3 := B2.turn oz (by omega) t6
        have bb := bb.turn oz (by omega) t6
        have bq := bq.turn oz (by omega) t6
        have E := E.turn oz (by omega) t6
        have le_t6 := t6.le
        have o7 : Own g3.n (g3.n + 1) h6 2 1 v6 (intRows (parZ bs (k + 1))) := by
          rw [parZ_succ, intRows_append, ← hnn]; exact o6
        have w7 : wr .i64 (((parC bs - k : Nat) : Int) - 1) = ((parC bs - (k + 1) : Nat) : Int) := by rw [wr64 _ (by omega)]; omega
        have B4 := B3.other (q := p2) (o := IObj.rows [[IV.int .i64 (numB (pieceD bs 0 2)), IV.int .i64 (numB (pieceD bs 3 1)), IV.int .i64 (numB (pieceD bs 4 4)), IV.str (pieceD bs 9 (parM bs)), v6]] 54 5 false) (by omega) bq.eq (by decide)
        simp only [i2, i4, i5, i6, i7, bq.eq, v6o, v6c, w7, lay_nil, lay_1, lay_w, Option.map_some, go_sem, Hold.p, HoldK.k, HoldL.K, HoldL.body, Nat.reduceBEq, Nat.reduceAdd, List.getElem?_cons_zero, List.getElem?_cons_succ, Option.bind_some, List.map_cons, List.map_nil, Nat.zero_add, if_true, List.getD_cons_zero, List.getD_cons_succ, List.contains_cons, List.contains_nil, Nat.reduceBEq, Bool.or_true, Bool.true_or, Bool.or_false, Bool.false_or, Bool.not_true, Bool.not_false, true_and, and_true, rowA_whole, push_n, set_n, push_obj, set_obj, set_push, set_push_ne, set_set, Nat.add_assoc, Nat.left_eq_add, Nat.add_eq_left, Nat.add_left_cancel_iff, Nat.reduceEqDiff, stO_1s, stO_ws, boxA_s, one_bool, one_int, one_str, one_ptr, one_nilptr, one_slice, one_eslice, one_nilslice, one_func, one_iface, one_niliface, List.all_cons, List.all_nil, List.length_cons, List.length_nil, Nat.reduceLT, Nat.reduceEqDiff, Nat.reduceLeDiff, Bool.and_true, Nat.one_ne_zero, Nat.succ_ne_zero, reduceIte, if_false, List.getElem?_cons_zero, List.set_cons_zero, List.set_cons_succ]
        generalize hq_g9 : IH.set h6 (p2) (IObj.rows [[IV.int .i64 (numB (pieceD bs 0 2)), IV.int .i64 (numB (pieceD bs 3 1)), IV.int .i64 (numB (pieceD bs 4 4)), IV.str (pieceD bs 9 (parM bs)), v6]] 54 5 false) = g9
        have l_g9 : g9.n = h6.n := by rw [← hq_g9]; rfl
        have bq : At g9 (p2) (IObj.rows [[IV.int .i64 (numB (pieceD bs 0 2)), IV.int .i64 (numB (pieceD bs 3 1)), IV.int .i64 (numB (pieceD bs 4 4)), IV.str (pieceD bs 9 (parM bs)), v6]] 54 5 false) := by rw [← hq_g9]; exact bq.here
        have o7 := o7.set (m := p2) (by omega) (IObj.rows [[IV.int .i64 (numB (pieceD bs 0 2)), IV.int .i64 (numB (pieceD bs 3 1)), IV.int .i64 (numB (pieceD bs 4 4)), IV.str (pieceD bs 9 (parM bs)), v6]] 54 5 false)
        rw [hq_g9] at o7
        have bb := bb.set (p := p2) (o' := IObj.rows [[IV.int .i64 (numB (pieceD bs 0 2)), IV.int .i64 (numB (pieceD bs 3 1)), IV.int .i64 (numB (pieceD bs 4 4)), IV.str (pieceD bs 9 (parM bs)), v6]] 54 5 false) (by omega)
        rw [hq_g9] at bb
        have E := E.set (p2) (by omega) (IObj.rows [[IV.int .i64 (numB (pieceD bs 0 2)), IV.int .i64 (numB (pieceD bs 3 1)), IV.int .i64 (numB (pieceD bs 4 4)), IV.str (pieceD bs 9 (parM bs)), v6]] 54 5 false)
        rw [hq_g9] at E
        rw [hq_g9] at B4
        clear hq_g9
        refine ⟨_, ?_, k + 1, v6, g3.n, g3.n + 1, rfl, by omega, rfl, bb, bq, ?_, o7, by omega, by omega, E⟩
        · omega
        · have : nn + 4 = 10 + (parM bs + 4 * (k + 1)) := by omega
          rw [← this]; exact B4
      · have hsh : bs.length < nn := by
          unfold restD at c2
          split at c2
          · assumption
          · cases c2
        have hdec := par_dec hk (by omega)
        simp only [i2, i4, i5, i6, i7, bb.eq, bq.eq, bB.eq, d1, c2, Bool.and_false, lay_nil, lay_1, lay_w, Option.map_some, go_sem, Hold.p, HoldK.k, HoldL.K, HoldL.body, Nat.reduceBEq, Nat.reduceAdd, List.getElem?_cons_zero, List.getElem?_cons_succ, Option.bind_some, List.map_cons, List.map_nil, Nat.zero_add, if_true, List.getD_cons_zero, List.getD_cons_succ, List.contains_cons, List.contains_nil, Nat.reduceBEq, Bool.or_true, Bool.true_or, Bool.or_false, Bool.false_or, Bool.not_true, Bool.not_false, true_and, and_true, rowA_whole, push_n, set_n, push_obj, set_obj, set_push, set_push_ne, set_set, Nat.add_assoc, Nat.left_eq_add, Nat.add_eq_left, Nat.add_left_cancel_iff, Nat.reduceEqDiff, stO_1s, stO_ws, boxA_s, one_bool, one_int, one_str, one_ptr, one_nilptr, one_slice, one_eslice, one_nilslice, one_func, one_iface, one_niliface, List.all_cons, List.all_nil, List.length_cons, List.length_nil, Nat.reduceLT, Nat.reduceEqDiff, Nat.reduceLeDiff, Bool.and_true, Nat.one_ne_zero, Nat.succ_ne_zero, reduceIte, if_false, List.getElem?_cons_zero, List.set_cons_zero, List.set_cons_succ]
        refine callA_of (codeAt_c g' _ nn bs (numB (pieceD bs 2 1)) 1 (pieceD bs 9 (parM bs)) B hl (by omega)) ?_
        rintro r h7 ⟨rfl, E7⟩
        have bb := bb.ext E7
        have bq := bq.ext E7
        have oz := oz.ext E7
        have E := E.ext E7
        have le_E7 := E7.le
        have hz := codeAt_zero (bs := bs) (n := nn) (kind := numB (pieceD bs 2 1)) (want := 1) (nm := pieceD bs 9 (parM bs))
        have he : parErr bs k = if codeAt bs nn (numB (pieceD bs 2 1)) 1 (pieceD bs 9 (parM bs)) = 0 then (if (parAt bs k).ok = true then 0 else 1) else codeAt bs nn (numB (pieceD bs 2 1)) 1 (pieceD bs 9 (parM bs)) := by unfold parErr; rw [← hnn]; rfl
        generalize codeAt bs nn (numB (pieceD bs 2 1)) 1 (pieceD bs 9 (parM bs)) = cd at he hz ⊢
        by_cases c0 : cd = 0
        · have d0 : decide (cd = 0) = true := decide_eq_true c0
          rw [if_pos c0] at he
          simp only [i2, i5, bb.eq, bq.eq, d0, lay_nil, lay_1, lay_w, Option.map_some, go_sem, Hold.p, HoldK.k, HoldL.K, HoldL.body, Nat.reduceBEq, Nat.reduceAdd, List.getElem?_cons_zero, List.getElem?_cons_succ, Option.bind_some, List.map_cons, List.map_nil, Nat.zero_add, if_true, List.getD_cons_zero, List.getD_cons_succ, List.contains_cons, List.contains_nil, Nat.reduceBEq, Bool.or_true, Bool.true_or, Bool.or_false, Bool.false_or, Bool.not_true, Bool.not_false, true_and, and_true, rowA_whole, push_n, set_n, push_obj, set_obj, set_push, set_push_ne, set_set, Nat.add_assoc, Nat.left_eq_add, Nat.add_eq_left, Nat.add_left_cancel_iff, Nat.reduceEqDiff, stO_1s, stO_ws, boxA_s, one_bool, one_int, one_str, one_ptr, one_nilptr, one_slice, one_eslice, one_nilslice, one_func, one_iface, one_niliface, List.all_cons, List.all_nil, List.length_cons, List.length_nil, Nat.reduceLT, Nat.reduceEqDiff, Nat.reduceLeDiff, Bool.and_true, Nat.one_ne_zero, Nat.succ_ne_zero, reduceIte, if_false, List.getElem?_cons_zero, List.set_cons_zero, List.set_cons_succ]
          refine callA_of (okReply_c _ (parAt bs k).id (parAt bs k).code (parAt bs k).ttl (parAt bs k).nm vz (parAt bs k).zs oz.sl (by show (parZ bs k).length ≤ _; rw [parZ_len]; omega)) ?_
          rintro r h8 ⟨⟨b, rfl, hb⟩, E8⟩
          have bb := bb.ext E8
          have bq := bq.ext E8
          have oz := oz.ext E8
          have E := E.ext E8
          have le_E8 := E8.le
          have hb2 : b = (parAt bs k).ok := by
            have h1 : okName (parAt bs k).nm = true := hz c0
            rw [h1, Bool.and_true] at hb; exact hb
          rw [← hb2] at he
          cases b
          · have he1 : parErr bs k = 1 := he
            rw [he1] at hdec
            have hdec1 : decR bs = (.zero, 1) := hdec
            have d9 : decide ((1 : Int) = 0) = false := by decide
            simp only [i2, i5, bb.eq, bq.eq, d0, d9, lay_nil, lay_1, lay_w, Option.map_some, go_sem, Hold.p, HoldK.k, HoldL.K, HoldL.body, Nat.reduceBEq, Nat.reduceAdd, List.getElem?_cons_zero, List.getElem?_cons_succ, Option.bind_some, List.map_cons, List.map_nil, Nat.zero_add, if_true, List.getD_cons_zero, List.getD_cons_succ, List.contains_cons, List.contains_nil, Nat.reduceBEq, Bool.or_true, Bool.true_or, Bool.or_false, Bool.false_or, Bool.not_true, Bool.not_false, true_and, and_true, rowA_whole, push_n, set_n, push_obj, set_obj, set_push, set_push_ne, set_set, Nat.add_assoc, Nat.left_eq_add, Nat.add_eq_left, Nat.add_left_cancel_iff, Nat.reduceEqDiff, stO_1s, stO_ws, boxA_s, one_bool, one_int, one_str, one_ptr, one_nilptr, one_slice, one_eslice, one_nilslice, one_func, one_iface, one_niliface, List.all_cons, List.all_nil, List.length_cons, List.length_nil, Nat.reduceLT, Nat.reduceEqDiff, Nat.reduceLeDiff, Bool.and_true, Nat.one_ne_zero, Nat.succ_ne_zero, reduceIte, if_false, List.getElem?_cons_zero, List.set_cons_zero, List.set_cons_succ]
            rw [hdec1]
            exact ⟨_, rfl, Own.nil, E.set _ (Nat.le_refl _) _⟩
          · have he1 : parErr bs k = 0 := he
            rw [he1] at hdec
            have hdec1 : decR bs = (parAt bs k, 0) := hdec
            have vo := oz.sl.one
            have vc := oz.sl.cells
            simp only [i2, i5, bb.eq, bq.eq, d0, vo, vc, lay_nil, lay_1, lay_w, Option.map_some, go_sem, Hold.p, HoldK.k, HoldL.K, HoldL.body, Nat.reduceBEq, Nat.reduceAdd, List.getElem?_cons_zero, List.getElem?_cons_succ, Option.bind_some, List.map_cons, List.map_nil, Nat.zero_add, if_true, List.getD_cons_zero, List.getD_cons_succ, List.contains_cons, List.contains_nil, Nat.reduceBEq, Bool.or_true, Bool.true_or, Bool.or_false, Bool.false_or, Bool.not_true, Bool.not_false, true_and, and_true, rowA_whole, push_n, set_n, push_obj, set_obj, set_push, set_push_ne, set_set, Nat.add_assoc, Nat.left_eq_add, Nat.add_eq_left, Nat.add_left_cancel_iff, Nat.reduceEqDiff, stO_1s, stO_ws, boxA_s, one_bool, one_int, one_str, one_ptr, one_nilptr, one_slice, one_eslice, one_nilslice, one_func, one_iface, one_niliface, List.all_cons, List.all_nil, List.length_cons, List.length_nil, Nat.reduceLT, Nat.reduceEqDiff, Nat.reduceLeDiff, Bool.and_true, Nat.one_ne_zero, Nat.succ_ne_zero, reduceIte, if_false, List.getElem?_cons_zero, List.set_cons_zero, List.set_cons_succ]
            rw [hdec1]
            exact ⟨vz, rfl, (Own.set oz (m := h.n) (by omega) _).wide (by omega) (by rw [set_n]; omega) (Nat.le_refl _), E.set _ (Nat.le_refl _) _⟩
        · have d0 : decide (cd = 0) = false := decide_eq_false c0
          rw [if_neg c0] at he
          rw [he, if_neg c0] at hdec
          simp only [i2, i5, bb.eq, bq.eq, d0, lay_nil, lay_1, lay_w, Option.map_some, go_sem, Hold.p, HoldK.k, HoldL.K, HoldL.body, Nat.reduceBEq, Nat.reduceAdd, List.getElem?_cons_zero, List.getElem?_cons_succ, Option.bind_some, List.map_cons, List.map_nil, Nat.zero_add, if_true, List.getD_cons_zero, List.getD_cons_succ, List.contains_cons, List.contains_nil, Nat.reduceBEq, Bool.or_true, Bool.true_or, Bool.or_false, Bool.false_or, Bool.not_true, Bool.not_false, true_and, and_true, rowA_whole, push_n, set_n, push_obj, set_obj, set_push, set_push_ne, set_set, Nat.add_assoc, Nat.left_eq_add, Nat.add_eq_left, Nat.add_left_cancel_iff, Nat.reduceEqDiff, stO_1s, stO_ws, boxA_s, one_bool, one_int, one_str, one_ptr, one_nilptr, one_slice, one_eslice, one_nilslice, one_func, one_iface, one_niliface, List.all_cons, List.all_nil, List.length_cons, List.length_nil, Nat.reduceLT, Nat.reduceEqDiff, Nat.reduceLeDiff, Bool.and_true, Nat.one_ne_zero, Nat.succ_ne_zero, reduceIte, if_false, List.getElem?_cons_zero, List.set_cons_zero, List.set_cons_succ]
          rw [hdec]
          exact ⟨_, rfl, Own.nil, E.set _ (Nat.le_refl _) _⟩
    · have d1 : decide ((0 : Int) < ((parC bs - k : Nat) : Int)) = false := decide_eq_false (by omega)
      have hdec := par_dec hk (by omega)
      simp only [i2, i4, i5, i6, i7, bb.eq, bq.eq, bB.eq, d1, Bool.false_and, lay_nil, lay_1, lay_w, Option.map_some, go_sem, Hold.p, HoldK.k, HoldL.K, HoldL.body, Nat.reduceBEq, Nat.reduceAdd, List.getElem?_cons_zero, List.getElem?_cons_succ, Option.bind_some, List.map_cons, List.map_nil, Nat.zero_add, if_true, List.getD_cons_zero, List.getD_cons_succ, List.contains_cons, List.contains_nil, Nat.reduceBEq, Bool.or_true, Bool.true_or, Bool.or_false, Bool.false_or, Bool.not_true, Bool.not_false, true_and, and_true, rowA_whole, push_n, set_n, push_obj, set_obj, set_push, set_push_ne, set_set, Nat.add_assoc, Nat.left_eq_add, Nat.add_eq_left, Nat.add_left_cancel_iff, Nat.reduceEqDiff, stO_1s, stO_ws, boxA_s, one_bool, one_int, one_str, one_ptr, one_nilptr, one_slice, one_eslice, one_nilslice, one_func, one_iface, one_niliface, List.all_cons, List.all_nil, List.length_cons, List.length_nil, Nat.reduceLT, Nat.reduceEqDiff, Nat.reduceLeDiff, Bool.and_true, Nat.one_ne_zero, Nat.succ_ne_zero, reduceIte, if_false, List.getElem?_cons_zero, List.set_cons_zero, List.set_cons_succ]
      refine callA_of (codeAt_c g' _ nn bs (numB (pieceD bs 2 1)) 1 (pieceD bs 9 (parM bs)) B hl (by omega)) ?_
      rintro r h7 ⟨rfl, E7⟩
      have bb := bb.ext E7
      have bq := bq.ext E7
      have oz := oz.ext E7
      have E := E.ext E7
      have le_E7 := E7.le
      have hz := codeAt_zero (bs := bs) (n := nn) (kind := numB (pieceD bs 2 1)) (want := 1) (nm := pieceD bs 9 (parM bs))
      have he : parErr bs k = if codeAt bs nn (numB (pieceD bs 2 1)) 1 (pieceD bs 9 (parM bs)) = 0 then (if (parAt bs k).ok = true then 0 else 1) else codeAt bs nn (numB (pieceD bs 2 1)) 1 (pieceD bs 9 (parM bs)) := by unfold parErr; rw [← hnn]; rfl
      generalize codeAt bs nn (numB (pieceD bs 2 1)) 1 (pieceD bs 9 (parM bs)) = cd at he hz ⊢
      by_cases c0 : cd = 0
      · have d0 : decide (cd = 0) = true := decide_eq_true c0
        rw [if_pos c0] at he
        simp only [i2, i5, bb.eq, bq.eq, d0, lay_nil, lay_1, lay_w, Option.map_some, go_sem, Hold.p, HoldK.k, HoldL.K, HoldL.body, Nat.reduceBEq, Nat.reduceAdd, List.getElem?_cons_zero, List.getElem?_cons_succ, Option.bind_some, List.map_cons, List.map_nil, Nat.zero_add, if_true, List.getD_cons_zero, List.getD_cons_succ, List.contains_cons, List.contains_nil, Nat.reduceBEq, Bool.or_true, Bool.true_or, Bool.or_false, Bool.false_or, Bool.not_true, Bool.not_false, true_and, and_true, rowA_whole, push_n, set_n, push_obj, set_obj, set_push, set_push_ne, set_set, Nat.add_assoc, Nat.left_eq_add, Nat.add_eq_left, Nat.add_left_cancel_iff, Nat.reduceEqDiff, stO_1s, stO_ws, boxA_s, one_bool, one_int, one_str, one_ptr, one_nilptr, one_slice, one_eslice, one_nilslice, one_func, one_iface, one_niliface, List.all_cons, List.all_nil, List.length_cons, List.length_nil, Nat.reduceLT, Nat.reduceEqDiff, Nat.reduceLeDiff, Bool.and_true, Nat.one_ne_zero, Nat.succ_ne_zero, reduceIte, if_false, List.getElem?_cons_zero, List.set_cons_zero, List.set_cons_succ]
        refine callA_of (okReply_c _ (parAt bs k).id (parAt bs k).code (parAt bs k).ttl (parAt bs k).nm vz (parAt bs k).zs oz.sl (by show (parZ bs k).length ≤ _; rw [parZ_len]; omega)) ?_
        rintro r h8 ⟨⟨b, rfl, hb⟩, E8⟩
        have bb := bb.ext E8
        have bq := bq.ext E8
        have oz := oz.ext E8
        have E := E.ext E8
        have le_E8 := E8.le
        have hb2 : b = (parAt bs k).ok := by
          have h1 : okName (parAt bs k).nm = true := hz c0
          rw [h1, Bool.and_true] at hb; exact hb
        rw [← hb2] at he
        cases b
        · have he1 : parErr bs k = 1 := he
          rw [he1] at hdec
          have hdec1 : decR bs = (.zero, 1) := hdec
          have d9 : decide ((1 : Int) = 0) = false := by decide
          simp only [i2, i5, bb.eq, bq.eq, d0, d9, lay_nil, lay_1, lay_w, Option.map_some, go_sem, Hold.p, HoldK.k, HoldL.K, HoldL.body, Nat.reduceBEq, Nat.reduceAdd, List.getElem?_cons_zero, List.getElem?_cons_succ, Option.bind_some, List.map_cons, List.map_nil, Nat.zero_add, if_true, List.getD_cons_zero, List.getD_cons_succ, List.contains_cons, List.contains_nil, Nat.reduceBEq, Bool.or_true, Bool.true_or, Bool.or_false, Bool.false_or, Bool.not_true, Bool.not_false, true_and, and_true, rowA_whole, push_n, set_n, push_obj, set_obj, set_push, set_push_ne, set_set, Nat.add_assoc, Nat.left_eq_add, Nat.add_eq_left, Nat.add_left_cancel_iff, Nat.reduceEqDiff, stO_1s, stO_ws, boxA_s, one_bool, one_int, one_str, one_ptr, one_nilptr, one_slice, one_eslice, one_nilslice, one_func, one_iface, one_niliface, List.all_cons, List.all_nil, List.length_cons, List.length_nil, Nat.reduceLT, Nat.reduceEqDiff, Nat.reduceLeDiff, Bool.and_true, Nat.one_ne_zero, Nat.succ_ne_zero, reduceIte, if_false, List.getElem?_cons_zero, List.set_cons_zero, List.set_cons_succ]
          rw [hdec1]
          exact ⟨_, rfl, Own.nil, E.set _ (Nat.le_refl _) _⟩
        · have he1 : parErr bs k = 0 := he
          rw [he1] at hdec
          have hdec1 : decR bs = (parAt bs k, 0) := hdec
          have vo := oz.sl.one
          have vc := oz.sl.cells
          simp only [i2, i5, bb.eq, bq.eq, d0, vo, vc, lay_nil, lay_1, lay_w, Option.map_some, go_sem, Hold.p, HoldK.k, HoldL.K, HoldL.body, Nat.reduceBEq, Nat.reduceAdd, List.getElem?_cons_zero, List.getElem?_cons_succ, Option.bind_some, List.map_cons, List.map_nil, Nat.zero_add, if_true, List.getD_cons_zero, List.getD_cons_succ, List.contains_cons, List.contains_nil, Nat.reduceBEq, Bool.or_true, Bool.true_or, Bool.or_false, Bool.false_or, Bool.not_true, Bool.not_false, true_and, and_true, rowA_whole, push_n, set_n, push_obj, set_obj, set_push, set_push_ne, set_set, Nat.add_assoc, Nat.left_eq_add, Nat.add_eq_left, Nat.add_left_cancel_iff, Nat.reduceEqDiff, stO_1s, stO_ws, boxA_s, one_bool, one_int, one_str, one_ptr, one_nilptr, one_slice, one_eslice, one_nilslice, one_func, one_iface, one_niliface, List.all_cons, List.all_nil, List.length_cons, List.length_nil, Nat.reduceLT, Nat.reduceEqDiff, Nat.reduceLeDiff, Bool.and_true, Nat.one_ne_zero, Nat.succ_ne_zero, reduceIte, if_false, List.getElem?_cons_zero, List.set_cons_zero, List.set_cons_succ]
          rw [hdec1]
          exact ⟨vz, rfl, (Own.set oz (m := h.n) (by omega) _).wide (by omega) (by rw [set_n]; omega) (Nat.le_refl _), E.set _ (Nat.le_refl _) _⟩
      · have d0 : decide (cd = 0) = false := decide_eq_false c0
        rw [if_neg c0] at he
        rw [he, if_neg c0] at hdec
        simp only [i2, i5, bb.eq, bq.eq, d0, lay_nil, lay_1, lay_w, Option.map_some, go_sem, Hold.p, HoldK.k, HoldL.K, HoldL.body, Nat.reduceBEq, Nat.reduceAdd, List.getElem?_cons_zero, List.getElem?_cons_succ, Option.bind_some, List.map_cons, List.map_nil, Nat.zero_add, if_true, List.getD_cons_zero, List.getD_cons_succ, List.contains_cons, List.contains_nil, Nat.reduceBEq, Bool.or_true, Bool.true_or, Bool.or_false, Bool.false_or, Bool.not_true, Bool.not_false, true_and, and_true, rowA_whole, push_n, set_n, push_obj, set_obj, set_push, set_push_ne, set_set, Nat.add_assoc, Nat.left_eq_add, Nat.add_eq_left, Nat.add_left_cancel_iff, Nat.reduceEqDiff, stO_1s, stO_ws, boxA_s, one_bool, one_int, one_str, one_ptr, one_nilptr, one_slice, one_eslice, one_nilslice, one_func, one_iface, one_niliface, List.all_cons, List.all_nil, List.length_cons, List.length_nil, Nat.reduceLT, Nat.reduceEqDiff, Nat.reduceLeDiff, Bool.and_true, Nat.one_ne_zero, Nat.succ_ne_zero, reduceIte, if_false, List.getElem?_cons_zero, List.set_cons_zero, List.set_cons_succ]
        rw [hdec]
        exact ⟨_, rfl, Own.nil, E.set _ (Nat.le_refl _) _⟩
end Go.Proofs.YtdpaehdolhdjdaaDoor


namespace Go.Proofs.YtdpaehdolhdjdaaDoor
open Go Go.IW

end Go.Proofs.YtdpaehdolhdjdaaDoor


namespace Go.Proofs.YtdpaehdolhdjdaaDoor
open Go Go.IW

structure Ent where
  nm : List UInt8
  addr : Int
  ttl : Int
def Ent.row (e : Ent) : List IV := [.str e.nm, .int .i64 e.addr, .int .i64 e.ttl]
def entRows (es : List Ent) : List (List IV) := es.map Ent.row
theorem entRows_len (es : List Ent) : (entRows es).length = es.length := by simp [entRows]
theorem entRows_at {es : List Ent} {k : Nat} {e : Ent} (h : es[k]? = some e) : (entRows es)[k]? = some e.row := by simp [entRows, h]

end Go.Proofs.YtdpaehdolhdjdaaDoor


namespace Go.Proofs.YtdpaehdolhdjdaaDoor
open Go Go.IW

end Go.Proofs.YtdpaehdolhdjdaaDoor


namespace Go.Proofs.YtdpaehdolhdjdaaDoor
open Go Go.IW

/-- An entry that answers a question. -/
def fitE (qn : List UInt8) (e : Ent) : Bool := decide (e.nm = qn) && okAddr e.addr && (decide (0 ≤ e.ttl) && decide (e.ttl ≤ 86400))
def ansStep (qn : List UInt8) (st : Int × Int × List Int) (e : Ent) : Int × Int × List Int :=
  if fitE qn e = true ∧ st.2.2.length < 8 then (0, if st.1 ≠ 0 ∨ e.ttl < st.2.1 then e.ttl else st.2.1, st.2.2 ++ [e.addr]) else st
def ansQ (es : List Ent) (qn : List UInt8) : Int × Int × List Int := es.foldl (ansStep qn) (20, 10, [])
theorem ansQ_snoc {es : List Ent} {qn : List UInt8} {k : Nat} {e : Ent} (h : es[k]? = some e) : ansQ (es.take (k + 1)) qn = ansStep qn (ansQ (es.take k) qn) e := by
  unfold ansQ
  rw [List.take_add_one, h]
  simp
theorem ansQ_inv (qn : List UInt8) : ∀ (es : List Ent), ((ansQ es qn).1 = 20 ∨ (ansQ es qn).1 = 0) ∧ (ansQ es qn).2.2.length ≤ 8 := by
  have key : ∀ (es : List Ent) (st : Int × Int × List Int), (st.1 = 20 ∨ st.1 = 0) ∧ st.2.2.length ≤ 8 → ((es.foldl (ansStep qn) st).1 = 20 ∨ (es.foldl (ansStep qn) st).1 = 0) ∧ (es.foldl (ansStep qn) st).2.2.length ≤ 8 := by
    intro es
    induction es with
    | nil => intro st h; exact h
    | cons e es ih =>
      intro st h
      refine ih _ ?_
      unfold ansStep
      split
      · rename_i hc
        exact ⟨.inr rfl, by simp; omega⟩
      · exact h
  exact fun es => key es _ ⟨.inl rfl, by simp⟩
/-- What AnswerName answers. -/
def ansN (es : List Ent) (bs : List UInt8) : List UInt8 × Int :=
  if (decQ bs).2.2 ≠ 0 then ([], (decQ bs).2.2)
  else encR (decQ bs).1 (ansQ es (decQ bs).2.1).1 (ansQ es (decQ bs).2.1).2.1 (decQ bs).2.1 (ansQ es (decQ bs).2.1).2.2
theorem decQ_len (bs : List UInt8) : (decQ bs).2.1.length ≤ bs.length := by
  unfold decQ
  split
  · simp
  · split
    · simp
    · split
      · simp
      · split
        · simp; omega
        · simp

/-- The state of an answer that is being made. -/
structure AnsAt (h g : IH) (pq pr : Nat) (id : Int) (qn : List UInt8) (st : Int × Int × List Int) : Prop where
  ext : Ext h g
  q : At g pq (.rows [[.int .i64 id, .str qn]] 46 2 false)
  r : ∃ v lo hi, At g pr (.rows [[.int .i64 id, .int .i64 st.1, .int .i64 st.2.1, .str qn, v]] 54 5 false) ∧ Own lo hi g 2 1 v (intRows st.2.2) ∧ pr < lo ∧ hi ≤ g.n

end Go.Proofs.YtdpaehdolhdjdaaDoor


namespace Go.Proofs.YtdpaehdolhdjdaaDoor
open Go Go.IW

set_option maxRecDepth 20000 in
theorem implAnswerName_c (h : IH) (vz vb : IV) (es : List Ent) (bs : List UInt8) (hz : SlR h 3 vz (entRows es)) (hb : SlR h 1 vb (strRows bs)) (hzl : es.length ≤ 1048576) (hbl : bs.length ≤ 1048576) :
    ICalls Tryd.prog 37 [vz, vb] h fun r h' => BytesRes h h' r (ansN es bs) := by
  refine icalls (.of ok37) (Nat.le_of_ble_eq_true rfl) ?_
  unfold c37
  simp only [go_sem, Hold.p, HoldK.k, HoldL.K, HoldL.body, Nat.reduceBEq, Nat.reduceAdd, List.getElem?_cons_zero, List.getElem?_cons_succ, Option.bind_some, List.map_cons, List.map_nil, Nat.zero_add, if_true, List.getD_cons_zero, List.getD_cons_succ, List.contains_cons, List.contains_nil, Nat.reduceBEq, Bool.or_true, Bool.true_or, Bool.or_false, Bool.false_or, Bool.not_true, Bool.not_false, true_and, and_true, rowA_whole, push_n, set_n, push_obj, set_obj, set_push, set_push_ne, set_set, Nat.add_assoc, Nat.left_eq_add, Nat.add_eq_left, Nat.add_left_cancel_iff, Nat.reduceEqDiff, stO_1s, stO_ws, boxA_s, one_bool, one_int, one_str, one_ptr, one_nilptr, one_slice, one_eslice, one_nilslice, one_func, one_iface, one_niliface, List.all_cons, List.all_nil, List.length_cons, List.length_nil, Nat.reduceLT, Nat.reduceEqDiff, Nat.reduceLeDiff, Bool.and_true, Nat.one_ne_zero, Nat.succ_ne_zero, reduceIte, if_false, List.getElem?_cons_zero, List.set_cons_zero, List.set_cons_succ]
  refine callA_of (implDecodeQuery_c h vb bs hb hbl) ?_
  rintro r h1 ⟨rfl, E1⟩
  have hql := decQ_len bs
  have hdef : ansN es bs = if (decQ bs).2.2 ≠ 0 then ([], (decQ bs).2.2) else encR (decQ bs).1 (ansQ es (decQ bs).2.1).1 (ansQ es (decQ bs).2.1).2.1 (decQ bs).2.1 (ansQ es (decQ bs).2.1).2.2 := rfl
  generalize decQ bs = dq at hql hdef ⊢
  obtain ⟨id, qn, qc⟩ := dq
  simp only at hql hdef ⊢
  simp only [go_sem, Hold.p, HoldK.k, HoldL.K, HoldL.body, Nat.reduceBEq, Nat.reduceAdd, List.getElem?_cons_zero, List.getElem?_cons_succ, Option.bind_some, List.map_cons, List.map_nil, Nat.zero_add, if_true, List.getD_cons_zero, List.getD_cons_succ, List.contains_cons, List.contains_nil, Nat.reduceBEq, Bool.or_true, Bool.true_or, Bool.or_false, Bool.false_or, Bool.not_true, Bool.not_false, true_and, and_true, rowA_whole, push_n, set_n, push_obj, set_obj, set_push, set_push_ne, set_set, Nat.add_assoc, Nat.left_eq_add, Nat.add_eq_left, Nat.add_left_cancel_iff, Nat.reduceEqDiff, stO_1s, stO_ws, boxA_s, one_bool, one_int, one_str, one_ptr, one_nilptr, one_slice, one_eslice, one_nilslice, one_func, one_iface, one_niliface, List.all_cons, List.all_nil, List.length_cons, List.length_nil, Nat.reduceLT, Nat.reduceEqDiff, Nat.reduceLeDiff, Bool.and_true, Nat.one_ne_zero, Nat.succ_ne_zero, reduceIte, if_false, List.getElem?_cons_zero, List.set_cons_zero, List.set_cons_succ]
  generalize hq_g2 : IH.push h1 (IObj.rows [[IV.int .i64 id, IV.str qn]] 46 2 false) = g2
  have e_g2 : Ext h1 g2 := by rw [← hq_g2]; exact (Ext.refl _).push _
  have l_g2 : g2.n = h1.n + 1 := by rw [← hq_g2]; rfl
  have bq : At g2 h1.n (IObj.rows [[IV.int .i64 id, IV.str qn]] 46 2 false) := by rw [← hq_g2]; exact At.new _ _
  clear hq_g2
  have E1 := E1.ext e_g2
  have lE := E1.le
  by_cases c0 : qc = 0
  · subst c0
    rw [if_neg (by decide)] at hdef
    simp only [bq.eq, decide_true, lay_nil, lay_1, lay_w, Option.map_some, go_sem, Hold.p, HoldK.k, HoldL.K, HoldL.body, Nat.reduceBEq, Nat.reduceAdd, List.getElem?_cons_zero, List.getElem?_cons_succ, Option.bind_some, List.map_cons, List.map_nil, Nat.zero_add, if_true, List.getD_cons_zero, List.getD_cons_succ, List.contains_cons, List.contains_nil, Nat.reduceBEq, Bool.or_true, Bool.true_or, Bool.or_false, Bool.false_or, Bool.not_true, Bool.not_false, true_and, and_true, rowA_whole, push_n, set_n, push_obj, set_obj, set_push, set_push_ne, set_set, Nat.add_assoc, Nat.left_eq_add, Nat.add_eq_left, Nat.add_left_cancel_iff, Nat.reduceEqDiff, stO_1s, stO_ws, boxA_s, one_bool, one_int, one_str, one_ptr, one_nilptr, one_slice, one_eslice, one_nilslice, one_func, one_iface, one_niliface, List.all_cons, List.all_nil, List.length_cons, List.length_nil, Nat.reduceLT, Nat.reduceEqDiff, Nat.reduceLeDiff, Bool.and_true, Nat.one_ne_zero, Nat.succ_ne_zero, reduceIte, if_false, List.getElem?_cons_zero, List.set_cons_zero, List.set_cons_succ]
    generalize hq_g3 : IH.push g2 (IObj.rows [[IV.int .i64 id, IV.int .i64 20, IV.int .i64 10, IV.str qn, IV.nilslice]] 54 5 false) = g3
    have e_g3 : Ext g2 g3 := by rw [← hq_g3]; exact (Ext.refl _).push _
    have l_g3 : g3.n = g2.n + 1 := by rw [← hq_g3]; rfl
    have br : At g3 g2.n (IObj.rows [[IV.int .i64 id, IV.int .i64 20, IV.int .i64 10, IV.str qn, IV.nilslice]] 54 5 false) := by rw [← hq_g3]; exact At.new _ _
    clear hq_g3
    have E1 := E1.ext e_g3
    have bq := bq.ext e_g3
    have hlz0 := hz.lenF
    rw [entRows_len] at hlz0
    simp only [hlz0, go_sem, Hold.p, HoldK.k, HoldL.K, HoldL.body, Nat.reduceBEq, Nat.reduceAdd, List.getElem?_cons_zero, List.getElem?_cons_succ, Option.bind_some, List.map_cons, List.map_nil, Nat.zero_add, if_true, List.getD_cons_zero, List.getD_cons_succ, List.contains_cons, List.contains_nil, Nat.reduceBEq, Bool.or_true, Bool.true_or, Bool.or_false, Bool.false_or, Bool.not_true, Bool.not_false, true_and, and_true, rowA_whole, push_n, set_n, push_obj, set_obj, set_push, set_push_ne, set_set, Nat.add_assoc, Nat.left_eq_add, Nat.add_eq_left, Nat.add_left_cancel_iff, Nat.reduceEqDiff, stO_1s, stO_ws, boxA_s, one_bool, one_int, one_str, one_ptr, one_nilptr, one_slice, one_eslice, one_nilslice, one_func, one_iface, one_niliface, List.all_cons, List.all_nil, List.length_cons, List.length_nil, Nat.reduceLT, Nat.reduceEqDiff, Nat.reduceLeDiff, Bool.and_true, Nat.one_ne_zero, Nat.succ_ne_zero, reduceIte, if_false, List.getElem?_cons_zero, List.set_cons_zero, List.set_cons_succ]
    refine loop_at (fun n e g => ∃ k, n = es.length - k ∧ k ≤ es.length ∧ e 24 = vz ∧ e 25 = .int .i64 (es.length : Nat) ∧ e 6 = .ptr h1.n 0 0 ∧ e 8 = .ptr g2.n 0 0 ∧ e 26 = .int .i64 (k : Nat) ∧ AnsAt h g h1.n g2.n id qn (ansQ (es.take k) qn)) es.length ?_ ?_
    · refine ⟨0, by omega, by omega, ?_⟩
      simp only [go_sem, Hold.p, HoldK.k, HoldL.K, HoldL.body, Nat.reduceBEq, Nat.reduceAdd, List.getElem?_cons_zero, List.getElem?_cons_succ, Option.bind_some, List.map_cons, List.map_nil, Nat.zero_add, if_true, List.getD_cons_zero, List.getD_cons_succ, List.contains_cons, List.contains_nil, Nat.reduceBEq, Bool.or_true, Bool.true_or, Bool.or_false, Bool.false_or, Bool.not_true, Bool.not_false, true_and, and_true, rowA_whole, push_n, set_n, push_obj, set_obj, set_push, set_push_ne, set_set, Nat.add_assoc, Nat.left_eq_add, Nat.add_eq_left, Nat.add_left_cancel_iff, Nat.reduceEqDiff, stO_1s, stO_ws, boxA_s, one_bool, one_int, one_str, one_ptr, one_nilptr, one_slice, one_eslice, one_nilslice, one_func, one_iface, one_niliface, List.all_cons, List.all_nil, List.length_cons, List.length_nil, Nat.reduceLT, Nat.reduceEqDiff, Nat.reduceLeDiff, Bool.and_true, Nat.one_ne_zero, Nat.succ_ne_zero, reduceIte, if_false, List.getElem?_cons_zero, List.set_cons_zero, List.set_cons_succ]
      exact ⟨rfl, E1, bq, .nilslice, g2.n + 1, g2.n + 1, br, Own.nil, Nat.lt_succ_self _, by omega⟩
    · clear bq br E1
      rintro n e g ⟨k, rfl, hk, i0, i25, i6, i8, i9, E, bq, v, lo, hi, br, ov, hlo, hhi⟩
      have hz := hz.ext E
      have hlz := hz.lenF
      rw [entRows_len] at hlz
      obtain ⟨inv1, inv2⟩ := ansQ_inv qn (es.take k)
      simp only [i0, i25, i6, i8, i9, hlz, go_sem, Hold.p, HoldK.k, HoldL.K, HoldL.body, Nat.reduceBEq, Nat.reduceAdd, List.getElem?_cons_zero, List.getElem?_cons_succ, Option.bind_some, List.map_cons, List.map_nil, Nat.zero_add, if_true, List.getD_cons_zero, List.getD_cons_succ, List.contains_cons, List.contains_nil, Nat.reduceBEq, Bool.or_true, Bool.true_or, Bool.or_false, Bool.false_or, Bool.not_true, Bool.not_false, true_and, and_true, rowA_whole, push_n, set_n, push_obj, set_obj, set_push, set_push_ne, set_set, Nat.add_assoc, Nat.left_eq_add, Nat.add_eq_left, Nat.add_left_cancel_iff, Nat.reduceEqDiff, stO_1s, stO_ws, boxA_s, one_bool, one_int, one_str, one_ptr, one_nilptr, one_slice, one_eslice, one_nilslice, one_func, one_iface, one_niliface, List.all_cons, List.all_nil, List.length_cons, List.length_nil, Nat.reduceLT, Nat.reduceEqDiff, Nat.reduceLeDiff, Bool.and_true, Nat.one_ne_zero, Nat.succ_ne_zero, reduceIte, if_false, List.getElem?_cons_zero, List.set_cons_zero, List.set_cons_succ]
      refine test_dec (fun hb => ?_) (fun hb => ?_)
      · have hlt' : k < es.length := by omega
        have hkp : es[k]? = some es[k] := List.getElem?_eq_getElem hlt'
        generalize es[k] = p at hkp
        have hst := ansQ_snoc (qn := qn) hkp
        generalize hs0 : ansQ (es.take k) qn = st at br ov hst inv1 inv2
        obtain ⟨sc, sttl, zs⟩ := st
        simp only at br ov inv1 inv2
        obtain ⟨l, j, hia, hll, hrow⟩ := hz.at (m := k) (entRows_at hkp) .i64
        have hvl := ov.sl.lenF
        rw [intRows_len] at hvl
        have bql := bq.lt
        have brl := br.lt
        have nq : (h1.n = g.n) = False := by simp; omega
        have nr : (g2.n = g.n) = False := by simp; omega
        unfold Ent.row at hrow
        have hrw := rowA_whole [IV.str p.nm, .int .i64 p.addr, .int .i64 p.ttl] 3 rfl
        have nrg : (g.n = g2.n) = False := by simp; omega
        simp only [i0, i25, i6, i8, i9, hia, hrow, hrw, bq.eq, br.eq, nq, nr, go_sem, Hold.p, HoldK.k, HoldL.K, HoldL.body, Nat.reduceBEq, Nat.reduceAdd, List.getElem?_cons_zero, List.getElem?_cons_succ, Option.bind_some, List.map_cons, List.map_nil, Nat.zero_add, if_true, List.getD_cons_zero, List.getD_cons_succ, List.contains_cons, List.contains_nil, Nat.reduceBEq, Bool.or_true, Bool.true_or, Bool.or_false, Bool.false_or, Bool.not_true, Bool.not_false, true_and, and_true, rowA_whole, push_n, set_n, push_obj, set_obj, set_push, set_push_ne, set_set, Nat.add_assoc, Nat.left_eq_add, Nat.add_eq_left, Nat.add_left_cancel_iff, Nat.reduceEqDiff, stO_1s, stO_ws, boxA_s, one_bool, one_int, one_str, one_ptr, one_nilptr, one_slice, one_eslice, one_nilslice, one_func, one_iface, one_niliface, List.all_cons, List.all_nil, List.length_cons, List.length_nil, Nat.reduceLT, Nat.reduceEqDiff, Nat.reduceLeDiff, Bool.and_true, Nat.one_ne_zero, Nat.succ_ne_zero, reduceIte, if_false, List.getElem?_cons_zero, List.set_cons_zero, List.set_cons_succ]
        generalize hq_g4 : IH.push g (IObj.rows [[IV.str p.nm, IV.int .i64 p.addr, IV.int .i64 p.ttl]] 65 3 false) = g4
        have e_g4 : Ext g g4 := by rw [← hq_g4]; exact (Ext.refl _).push _
        have l_g4 : g4.n = g.n + 1 := by rw [← hq_g4]; rfl
        have bp : At g4 g.n (IObj.rows [[IV.str p.nm, IV.int .i64 p.addr, IV.int .i64 p.ttl]] 65 3 false) := by rw [← hq_g4]; exact At.new _ _
        clear hq_g4
        have E := E.ext e_g4
        have bq := bq.ext e_g4
        have br := br.ext e_g4
        have ov := ov.ext e_g4
        by_cases n1 : p.nm = qn
        · have d1 : decide (p.nm = qn) = true := decide_eq_true n1
          simp only [i0, i25, i6, i8, i9, d1, bq.eq, br.eq, bp.eq, go_sem, Hold.p, HoldK.k, HoldL.K, HoldL.body, Nat.reduceBEq, Nat.reduceAdd, List.getElem?_cons_zero, List.getElem?_cons_succ, Option.bind_some, List.map_cons, List.map_nil, Nat.zero_add, if_true, List.getD_cons_zero, List.getD_cons_succ, List.contains_cons, List.contains_nil, Nat.reduceBEq, Bool.or_true, Bool.true_or, Bool.or_false, Bool.false_or, Bool.not_true, Bool.not_false, true_and, and_true, rowA_whole, push_n, set_n, push_obj, set_obj, set_push, set_push_ne, set_set, Nat.add_assoc, Nat.left_eq_add, Nat.add_eq_left, Nat.add_left_cancel_iff, Nat.reduceEqDiff, stO_1s, stO_ws, boxA_s, one_bool, one_int, one_str, one_ptr, one_nilptr, one_slice, one_eslice, one_nilslice, one_func, one_iface, one_niliface, List.all_cons, List.all_nil, List.length_cons, List.length_nil, Nat.reduceLT, Nat.reduceEqDiff, Nat.reduceLeDiff, Bool.and_true, Nat.one_ne_zero, Nat.succ_ne_zero, reduceIte, if_false, List.getElem?_cons_zero, List.set_cons_zero, List.set_cons_succ]
          refine callA_of (isAddr_c _ p.addr) ?_
          rintro r g4a ⟨rfl, rfl⟩
          cases n2 : okAddr p.addr
          · simp only [i0, i25, i6, i8, i9, d1, go_sem, Hold.p, HoldK.k, HoldL.K, HoldL.body, Nat.reduceBEq, Nat.reduceAdd, List.getElem?_cons_zero, List.getElem?_cons_succ, Option.bind_some, List.map_cons, List.map_nil, Nat.zero_add, if_true, List.getD_cons_zero, List.getD_cons_succ, List.contains_cons, List.contains_nil, Nat.reduceBEq, Bool.or_true, Bool.true_or, Bool.or_false, Bool.false_or, Bool.not_true, Bool.not_false, true_and, and_true, rowA_whole, push_n, set_n, push_obj, set_obj, set_push, set_push_ne, set_set, Nat.add_assoc, Nat.left_eq_add, Nat.add_eq_left, Nat.add_left_cancel_iff, Nat.reduceEqDiff, stO_1s, stO_ws, boxA_s, one_bool, one_int, one_str, one_ptr, one_nilptr, one_slice, one_eslice, one_nilslice, one_func, one_iface, one_niliface, List.all_cons, List.all_nil, List.length_cons, List.length_nil, Nat.reduceLT, Nat.reduceEqDiff, Nat.reduceLeDiff, Bool.and_true, Nat.one_ne_zero, Nat.succ_ne_zero, reduceIte, if_false, List.getElem?_cons_zero, List.set_cons_zero, List.set_cons_succ]
            have hskip : ansStep qn (sc, sttl, zs) p = (sc, sttl, zs) := if_neg (by unfold fitE; rw [n2, Bool.and_false, Bool.false_and]; simp)
            refine ⟨_, ?_, k + 1, rfl, by omega, wr64_succ k (by omega), ?_⟩
            · omega
            · rw [hst, hskip]; exact ⟨E, bq, v, lo, hi, br, ov, hlo, by omega⟩
          by_cases n3a : p.ttl < 0
          · have d3 : decide (p.ttl < 0) = true := decide_eq_true n3a
            simp only [i0, i25, i6, i8, i9, d1, d3, bq.eq, br.eq, bp.eq, go_sem, Hold.p, HoldK.k, HoldL.K, HoldL.body, Nat.reduceBEq, Nat.reduceAdd, List.getElem?_cons_zero, List.getElem?_cons_succ, Option.bind_some, List.map_cons, List.map_nil, Nat.zero_add, if_true, List.getD_cons_zero, List.getD_cons_succ, List.contains_cons, List.contains_nil, Nat.reduceBEq, Bool.or_true, Bool.true_or, Bool.or_false, Bool.false_or, Bool.not_true, Bool.not_false, true_and, and_true, rowA_whole, push_n, set_n, push_obj, set_obj, set_push, set_push_ne, set_set, Nat.add_assoc, Nat.left_eq_add, Nat.add_eq_left, Nat.add_left_cancel_iff, Nat.reduceEqDiff, stO_1s, stO_ws, boxA_s, one_bool, one_int, one_str, one_ptr, one_nilptr, one_slice, one_eslice, one_nilslice, one_func, one_iface, one_niliface, List.all_cons, List.all_nil, List.length_cons, List.length_nil, Nat.reduceLT, Nat.reduceEqDiff, Nat.reduceLeDiff, Bool.and_true, Nat.one_ne_zero, Nat.succ_ne_zero, reduceIte, if_false, List.getElem?_cons_zero, List.set_cons_zero, List.set_cons_succ]
            have hskip : ansStep qn (sc, sttl, zs) p = (sc, sttl, zs) := if_neg (by unfold fitE; rw [show decide (0 ≤ p.ttl) = false from decide_eq_false (by omega), Bool.false_and, Bool.and_false]; simp)
            refine ⟨_, ?_, k + 1, rfl, by omega, wr64_succ k (by omega), ?_⟩
            · omega
            · rw [hst, hskip]; exact ⟨E, bq, v, lo, hi, br, ov, hlo, by omega⟩
          have d3 : decide (p.ttl < 0) = false := decide_eq_false n3a
          by_cases n3b : 86400 < p.ttl
          · have d3b : decide (86400 < p.ttl) = true := decide_eq_true n3b
            simp only [i0, i25, i6, i8, i9, d1, d3, d3b, bq.eq, br.eq, bp.eq, go_sem, Hold.p, HoldK.k, HoldL.K, HoldL.body, Nat.reduceBEq, Nat.reduceAdd, List.getElem?_cons_zero, List.getElem?_cons_succ, Option.bind_some, List.map_cons, List.map_nil, Nat.zero_add, if_true, List.getD_cons_zero, List.getD_cons_succ, List.contains_cons, List.contains_nil, Nat.reduceBEq, Bool.or_true, Bool.true_or, Bool.or_false, Bool.false_or, Bool.not_true, Bool.not_false, true_and, and_true, rowA_whole, push_n, set_n, push_obj, set_obj, set_push, set_push_ne, set_set, Nat.add_assoc, Nat.left_eq_add, Nat.add_eq_left, Nat.add_left_cancel_iff, Nat.reduceEqDiff, stO_1s, stO_ws, boxA_s, one_bool, one_int, one_str, one_ptr, one_nilptr, one_slice, one_eslice, one_nilslice, one_func, one_iface, one_niliface, List.all_cons, List.all_nil, List.length_cons, List.length_nil, Nat.reduceLT, Nat.reduceEqDiff, Nat.reduceLeDiff, Bool.and_true, Nat.one_ne_zero, Nat.succ_ne_zero, reduceIte, if_false, List.getElem?_cons_zero, List.set_cons_zero, List.set_cons_succ]
            have hskip : ansStep qn (sc, sttl, zs) p = (sc, sttl, zs) := if_neg (by unfold fitE; rw [show decide (p.ttl ≤ 86400) = false from decide_eq_false (by omega), Bool.and_false, Bool.and_false]; simp)
            refine ⟨_, ?_, k + 1, rfl, by omega, wr64_succ k (by omega), ?_⟩
            · omega
            · rw [hst, hskip]; exact ⟨E, bq, v, lo, hi, br, ov, hlo, by omega⟩
          have d3b : decide (86400 < p.ttl) = false := decide_eq_false n3b
          have n3 : (decide (0 ≤ p.ttl) && decide (p.ttl ≤ 86400)) = true := by simp; omega
          have hfit : fitE qn p = true := by unfold fitE; rw [n2, n3, d1]; rfl
          by_cases n4 : 8 ≤ zs.length
          · have d4 : decide ((8 : Int) ≤ (zs.length : Int)) = true := decide_eq_true (by omega)
            simp only [i0, i25, i6, i8, i9, d1, d3, d3b, br.eq, bp.eq, hvl, d4, go_sem, Hold.p, HoldK.k, HoldL.K, HoldL.body, Nat.reduceBEq, Nat.reduceAdd, List.getElem?_cons_zero, List.getElem?_cons_succ, Option.bind_some, List.map_cons, List.map_nil, Nat.zero_add, if_true, List.getD_cons_zero, List.getD_cons_succ, List.contains_cons, List.contains_nil, Nat.reduceBEq, Bool.or_true, Bool.true_or, Bool.or_false, Bool.false_or, Bool.not_true, Bool.not_false, true_and, and_true, rowA_whole, push_n, set_n, push_obj, set_obj, set_push, set_push_ne, set_set, Nat.add_assoc, Nat.left_eq_add, Nat.add_eq_left, Nat.add_left_cancel_iff, Nat.reduceEqDiff, stO_1s, stO_ws, boxA_s, one_bool, one_int, one_str, one_ptr, one_nilptr, one_slice, one_eslice, one_nilslice, one_func, one_iface, one_niliface, List.all_cons, List.all_nil, List.length_cons, List.length_nil, Nat.reduceLT, Nat.reduceEqDiff, Nat.reduceLeDiff, Bool.and_true, Nat.one_ne_zero, Nat.succ_ne_zero, reduceIte, if_false, List.getElem?_cons_zero, List.set_cons_zero, List.set_cons_succ]
            have hskip : ansStep qn (sc, sttl, zs) p = (sc, sttl, zs) := if_neg (by exact fun hx => by have h2 : zs.length < 8 := hx.2; omega)
            refine ⟨_, ?_, k + 1, rfl, by omega, wr64_succ k (by omega), ?_⟩
            · omega
            · rw [hst, hskip]; exact ⟨E, bq, v, lo, hi, br, ov, hlo, by omega⟩
          have d4 : decide ((8 : Int) ≤ (zs.length : Int)) = false := decide_eq_false (by omega)
          rcases inv1 with rfl | rfl
          · have d5 : decide ((20 : Int) = 20) = true := rfl
            have hgo : ansStep qn (20, sttl, zs) p = (0, p.ttl, zs ++ [p.addr]) := by
              unfold ansStep
              rw [if_pos ⟨hfit, by show zs.length < 8; omega⟩]
              rw [if_pos (.inl (by show (20 : Int) ≠ 0; decide))]
            simp only [i0, i25, i6, i8, i9, d1, d3, d3b, br.eq, bp.eq, hvl, d4, d5, decide_true, eq_self, nrg, go_sem, Hold.p, HoldK.k, HoldL.K, HoldL.body, Nat.reduceBEq, Nat.reduceAdd, List.getElem?_cons_zero, List.getElem?_cons_succ, Option.bind_some, List.map_cons, List.map_nil, Nat.zero_add, if_true, List.getD_cons_zero, List.getD_cons_succ, List.contains_cons, List.contains_nil, Nat.reduceBEq, Bool.or_true, Bool.true_or, Bool.or_false, Bool.false_or, Bool.not_true, Bool.not_false, true_and, and_true, rowA_whole, push_n, set_n, push_obj, set_obj, set_push, set_push_ne, set_set, Nat.add_assoc, Nat.left_eq_add, Nat.add_eq_left, Nat.add_left_cancel_iff, Nat.reduceEqDiff, stO_1s, stO_ws, boxA_s, one_bool, one_int, one_str, one_ptr, one_nilptr, one_slice, one_eslice, one_nilslice, one_func, one_iface, one_niliface, List.all_cons, List.all_nil, List.length_cons, List.length_nil, Nat.reduceLT, Nat.reduceEqDiff, Nat.reduceLeDiff, Bool.and_true, Nat.one_ne_zero, Nat.succ_ne_zero, reduceIte, if_false, List.getElem?_cons_zero, List.set_cons_zero, List.set_cons_succ]
            generalize hq_g5 : IH.set g4a (g2.n) (IObj.rows [[IV.int .i64 id, IV.int .i64 0, IV.int .i64 p.ttl, IV.str qn, v]] 54 5 false) = g5
            have l_g5 : g5.n = g4a.n := by rw [← hq_g5]; rfl
            have br : At g5 (g2.n) (IObj.rows [[IV.int .i64 id, IV.int .i64 0, IV.int .i64 p.ttl, IV.str qn, v]] 54 5 false) := by rw [← hq_g5]; exact br.here
            have ov := ov.set (m := g2.n) (by omega) (IObj.rows [[IV.int .i64 id, IV.int .i64 0, IV.int .i64 p.ttl, IV.str qn, v]] 54 5 false)
            rw [hq_g5] at ov
            have bq := bq.set (p := g2.n) (o' := IObj.rows [[IV.int .i64 id, IV.int .i64 0, IV.int .i64 p.ttl, IV.str qn, v]] 54 5 false) (by omega)
            rw [hq_g5] at bq
            have bp := bp.set (p := g2.n) (o' := IObj.rows [[IV.int .i64 id, IV.int .i64 0, IV.int .i64 p.ttl, IV.str qn, v]] 54 5 false) (by omega)
            rw [hq_g5] at bp
            have E := E.set (g2.n) (by omega) (IObj.rows [[IV.int .i64 id, IV.int .i64 0, IV.int .i64 p.ttl, IV.str qn, v]] 54 5 false)
            rw [hq_g5] at E
            clear hq_g5
            have n5 : (g2.n = g5.n) = False := by simp; omega
            try simp only [i0, i25, i6, i8, i9, bq.eq, br.eq, bp.eq, n5, nrg, bslA_1, go_sem, Hold.p, HoldK.k, HoldL.K, HoldL.body, Nat.reduceBEq, Nat.reduceAdd, List.getElem?_cons_zero, List.getElem?_cons_succ, Option.bind_some, List.map_cons, List.map_nil, Nat.zero_add, if_true, List.getD_cons_zero, List.getD_cons_succ, List.contains_cons, List.contains_nil, Nat.reduceBEq, Bool.or_true, Bool.true_or, Bool.or_false, Bool.false_or, Bool.not_true, Bool.not_false, true_and, and_true, rowA_whole, push_n, set_n, push_obj, set_obj, set_push, set_push_ne, set_set, Nat.add_assoc, Nat.left_eq_add, Nat.add_eq_left, Nat.add_left_cancel_iff, Nat.reduceEqDiff, stO_1s, stO_ws, boxA_s, one_bool, one_int, one_str, one_ptr, one_nilptr, one_slice, one_eslice, one_nilslice, one_func, one_iface, one_niliface, List.all_cons, List.all_nil, List.length_cons, List.length_nil, Nat.reduceLT, Nat.reduceEqDiff, Nat.reduceLeDiff, Bool.and_true, Nat.one_ne_zero, Nat.succ_ne_zero, reduceIte, if_false, List.getElem?_cons_zero, List.set_cons_zero, List.set_cons_succ]
            generalize hq_g6 : IH.push g5 (IObj.rows [[IV.int .i64 p.addr]] 2 1 false) = g6
            have e_g6 : Ext g5 g6 := by rw [← hq_g6]; exact (Ext.refl _).push _
            have l_g6 : g6.n = g5.n + 1 := by rw [← hq_g6]; rfl
            have bw : At g6 g5.n (IObj.rows [[IV.int .i64 p.addr]] 2 1 false) := by rw [← hq_g6]; exact At.new _ _
            clear hq_g6
            have br := br.ext e_g6
            have ov := ov.ext e_g6
            have bq := bq.ext e_g6
            have bp := bp.ext e_g6
            have E := E.ext e_g6
            refine ov.app (by simp) (by rw [intRows_len]; simp; omega) ?_
            intro v6 h7 o6 t6 n6 v6o v6c
            have br := br.turn ov (by omega) t6
            have bq := bq.turn ov (by omega) t6
            have E := E.turn ov (by omega) t6
            have le_t6 := t6.le
            simp only [i0, i25, i6, i8, i9, br.eq, v6o, v6c, go_sem, Hold.p, HoldK.k, HoldL.K, HoldL.body, Nat.reduceBEq, Nat.reduceAdd, List.getElem?_cons_zero, List.getElem?_cons_succ, Option.bind_some, List.map_cons, List.map_nil, Nat.zero_add, if_true, List.getD_cons_zero, List.getD_cons_succ, List.contains_cons, List.contains_nil, Nat.reduceBEq, Bool.or_true, Bool.true_or, Bool.or_false, Bool.false_or, Bool.not_true, Bool.not_false, true_and, and_true, rowA_whole, push_n, set_n, push_obj, set_obj, set_push, set_push_ne, set_set, Nat.add_assoc, Nat.left_eq_add, Nat.add_eq_left, Nat.add_left_cancel_iff, Nat.reduceEqDiff, stO_1s, stO_ws, boxA_s, one_bool, one_int, one_str, one_ptr, one_nilptr, one_slice, one_eslice, one_nilslice, one_func, one_iface, one_niliface, List.all_cons, List.all_nil, List.length_cons, List.length_nil, Nat.reduceLT, Nat.reduceEqDiff, Nat.reduceLeDiff, Bool.and_true, Nat.one_ne_zero, Nat.succ_ne_zero, reduceIte, if_false, List.getElem?_cons_zero, List.set_cons_zero, List.set_cons_succ]
            have o7 : Own g6.n (g6.n + 1) h7 2 1 v6 (intRows (zs ++ [p.addr])) := by rw [intRows_append]; exact o6
            generalize hq_g8 : IH.set h7 (g2.n) (IObj.rows [[IV.int .i64 id, IV.int .i64 0, IV.int .i64 p.ttl, IV.str qn, v6]] 54 5 false) = g8
            have l_g8 : g8.n = h7.n := by rw [← hq_g8]; rfl
            have br : At g8 (g2.n) (IObj.rows [[IV.int .i64 id, IV.int .i64 0, IV.int .i64 p.ttl, IV.str qn, v6]] 54 5 false) := by rw [← hq_g8]; exact br.here
            have o7 := o7.set (m := g2.n) (by omega) (IObj.rows [[IV.int .i64 id, IV.int .i64 0, IV.int .i64 p.ttl, IV.str qn, v6]] 54 5 false)
            rw [hq_g8] at o7
            have bq := bq.set (p := g2.n) (o' := IObj.rows [[IV.int .i64 id, IV.int .i64 0, IV.int .i64 p.ttl, IV.str qn, v6]] 54 5 false) (by omega)
            rw [hq_g8] at bq
            have E := E.set (g2.n) (by omega) (IObj.rows [[IV.int .i64 id, IV.int .i64 0, IV.int .i64 p.ttl, IV.str qn, v6]] 54 5 false)
            rw [hq_g8] at E
            clear hq_g8
            refine ⟨_, ?_, k + 1, rfl, by omega, wr64_succ k (by omega), ?_⟩
            · omega
            · rw [hst, hgo]; exact ⟨E, bq, v6, g6.n, g6.n + 1, br, o7, by omega, by omega⟩
          have d5 : decide ((0 : Int) = 20) = false := rfl
          by_cases n6 : p.ttl < sttl
          · have d6 : decide (p.ttl < sttl) = true := decide_eq_true n6
            have hgo : ansStep qn (0, sttl, zs) p = (0, p.ttl, zs ++ [p.addr]) := by
              unfold ansStep
              rw [if_pos ⟨hfit, by show zs.length < 8; omega⟩]
              rw [if_pos (.inr n6)]
            simp only [i0, i25, i6, i8, i9, d1, d3, d3b, br.eq, bp.eq, hvl, d4, d5, d6, decide_true, eq_self, nrg, go_sem, Hold.p, HoldK.k, HoldL.K, HoldL.body, Nat.reduceBEq, Nat.reduceAdd, List.getElem?_cons_zero, List.getElem?_cons_succ, Option.bind_some, List.map_cons, List.map_nil, Nat.zero_add, if_true, List.getD_cons_zero, List.getD_cons_succ, List.contains_cons, List.contains_nil, Nat.reduceBEq, Bool.or_true, Bool.true_or, Bool.or_false, Bool.false_or, Bool.not_true, Bool.not_false, true_and, and_true, rowA_whole, push_n, set_n, push_obj, set_obj, set_push, set_push_ne, set_set, Nat.add_assoc, Nat.left_eq_add, Nat.add_eq_left, Nat.add_left_cancel_iff, Nat.reduceEqDiff, stO_1s, stO_ws, boxA_s, one_bool, one_int, one_str, one_ptr, one_nilptr, one_slice, one_eslice, one_nilslice, one_func, one_iface, one_niliface, List.all_cons, List.all_nil, List.length_cons, List.length_nil, Nat.reduceLT, Nat.reduceEqDiff, Nat.reduceLeDiff, Bool.and_true, Nat.one_ne_zero, Nat.succ_ne_zero, reduceIte, if_false, List.getElem?_cons_zero, List.set_cons_zero, List.set_cons_succ]
            generalize hq_g5 : IH.set g4a (g2.n) (IObj.rows [[IV.int .i64 id, IV.int .i64 0, IV.int .i64 p.ttl, IV.str qn, v]] 54 5 false) = g5
            have l_g5 : g5.n = g4a.n := by rw [← hq_g5]; rfl
            have br : At g5 (g2.n) (IObj.rows [[IV.int .i64 id, IV.int .i64 0, IV.int .i64 p.ttl, IV.str qn, v]] 54 5 false) := by rw [← hq_g5]; exact br.here
            have ov := ov.set (m := g2.n) (by omega) (IObj.rows [[IV.int .i64 id, IV.int .i64 0, IV.int .i64 p.ttl, IV.str qn, v]] 54 5 false)
            rw [hq_g5] at ov
            have bq := bq.set (p := g2.n) (o' := IObj.rows [[IV.int .i64 id, IV.int .i64 0, IV.int .i64 p.ttl, IV.str qn, v]] 54 5 false) (by omega)
            rw [hq_g5] at bq
            have bp := bp.set (p := g2.n) (o' := IObj.rows [[IV.int .i64 id, IV.int .i64 0, IV.int .i64 p.ttl, IV.str qn, v]] 54 5 false) (by omega)
            rw [hq_g5] at bp
            have E := E.set (g2.n) (by omega) (IObj.rows [[IV.int .i64 id, IV.int .i64 0, IV.int .i64 p.ttl, IV.str qn, v]] 54 5 false)
            rw [hq_g5] at E
            clear hq_g5
            have n5 : (g2.n = g5.n) = False := by simp; omega
            try simp only [i0, i25, i6, i8, i9, bq.eq, br.eq, bp.eq, n5, nrg, bslA_1, go_sem, Hold.p, HoldK.k, HoldL.K, HoldL.body, Nat.reduceBEq, Nat.reduceAdd, List.getElem?_cons_zero, List.getElem?_cons_succ, Option.bind_some, List.map_cons, List.map_nil, Nat.zero_add, if_true, List.getD_cons_zero, List.getD_cons_succ, List.contains_cons, List.contains_nil, Nat.reduceBEq, Bool.or_true, Bool.true_or, Bool.or_false, Bool.false_or, Bool.not_true, Bool.not_false, true_and, and_true, rowA_whole, push_n, set_n, push_obj, set_obj, set_push, set_push_ne, set_set, Nat.add_assoc, Nat.left_eq_add, Nat.add_eq_left, Nat.add_left_cancel_iff, Nat.reduceEqDiff, stO_1s, stO_ws, boxA_s, one_bool, one_int, one_str, one_ptr, one_nilptr, one_slice, one_eslice, one_nilslice, one_func, one_iface, one_niliface, List.all_cons, List.all_nil, List.length_cons, List.length_nil, Nat.reduceLT, Nat.reduceEqDiff, Nat.reduceLeDiff, Bool.and_true, Nat.one_ne_zero, Nat.succ_ne_zero, reduceIte, if_false, List.getElem?_cons_zero, List.set_cons_zero, List.set_cons_succ]
            generalize hq_g6 : IH.push g5 (IObj.rows [[IV.int .i64 p.addr]] 2 1 false) = g6
            have e_g6 : Ext g5 g6 := by rw [← hq_g6]; exact (Ext.refl _).push _
            have l_g6 : g6.n = g5.n + 1 := by rw [← hq_g6]; rfl
            have bw : At g6 g5.n (IObj.rows [[IV.int .i64 p.addr]] 2 1 false) := by rw [← hq_g6]; exact At.new _ _
            clear hq_g6
            have br := br.ext e_g6
            have ov := ov.ext e_g6
            have bq := bq.ext e_g6
            have bp := bp.ext e_g6
            have E := E.ext e_g6
            refine ov.app (by simp) (by rw [intRows_len]; simp; omega) ?_
            intro v6 h7 o6 t6 n6 v6o v6c
            have br := br.turn ov (by omega) t6
            have bq := bq.turn ov (by omega) t6
            have E := E.turn ov (by omega) t6
            have le_t6 := t6.le
            simp only [i0, i25, i6, i8, i9, br.eq, v6o, v6c, go_sem, Hold.p, HoldK.k, HoldL.K, HoldL.body, Nat.reduceBEq, Nat.reduceAdd, List.getElem?_cons_zero, List.getElem?_cons_succ, Option.bind_some, List.map_cons, List.map_nil, Nat.zero_add, if_true, List.getD_cons_zero, List.getD_cons_succ, List.contains_cons, List.contains_nil, Nat.reduceBEq, Bool.or_true, Bool.true_or, Bool.or_false, Bool.false_or, Bool.not_true, Bool.not_false, true_and, and_true, rowA_whole, push_n, set_n, push_obj, set_obj, set_push, set_push_ne, set_set, Nat.add_assoc, Nat.left_eq_add, Nat.add_eq_left, Nat.add_left_cancel_iff, Nat.reduceEqDiff, stO_1s, stO_ws, boxA_s, one_bool, one_int, one_str, one_ptr, one_nilptr, one_slice, one_eslice, one_nilslice, one_func, one_iface, one_niliface, List.all_cons, List.all_nil, List.length_cons, List.length_nil, Nat.reduceLT, Nat.reduceEqDiff, Nat.reduceLeDiff, Bool.and_true, Nat.one_ne_zero, Nat.succ_ne_zero, reduceIte, if_false, List.getElem?_cons_zero, List.set_cons_zero, List.set_cons_succ]
            have o7 : Own g6.n (g6.n + 1) h7 2 1 v6 (intRows (zs ++ [p.addr])) := by rw [intRows_append]; exact o6
            generalize hq_g8 : IH.set h7 (g2.n) (IObj.rows [[IV.int .i64 id, IV.int .i64 0, IV.int .i64 p.ttl, IV.str qn, v6]] 54 5 false) = g8
            have l_g8 : g8.n = h7.n := by rw [← hq_g8]; rfl
            have br : At g8 (g2.n) (IObj.rows [[IV.int .i64 id, IV.int .i64 0, IV.int .i64 p.ttl, IV.str qn, v6]] 54 5 false) := by rw [← hq_g8]; exact br.here
            have o7 := o7.set (m := g2.n) (by omega) (IObj.rows [[IV.int .i64 id, IV.int .i64 0, IV.int .i64 p.ttl, IV.str qn, v6]] 54 5 false)
            rw [hq_g8] at o7
            have bq := bq.set (p := g2.n) (o' := IObj.rows [[IV.int .i64 id, IV.int .i64 0, IV.int .i64 p.ttl, IV.str qn, v6]] 54 5 false) (by omega)
            rw [hq_g8] at bq
            have E := E.set (g2.n) (by omega) (IObj.rows [[IV.int .i64 id, IV.int .i64 0, IV.int .i64 p.ttl, IV.str qn, v6]] 54 5 false)
            rw [hq_g8] at E
            clear hq_g8
            refine ⟨_, ?_, k + 1, rfl, by omega, wr64_succ k (by omega), ?_⟩
            · omega
            · rw [hst, hgo]; exact ⟨E, bq, v6, g6.n, g6.n + 1, br, o7, by omega, by omega⟩
          · have d6 : decide (p.ttl < sttl) = false := decide_eq_false n6
            have hgo : ansStep qn (0, sttl, zs) p = (0, sttl, zs ++ [p.addr]) := by
              unfold ansStep
              rw [if_pos ⟨hfit, by show zs.length < 8; omega⟩]
              rw [if_neg (by show ¬ ((0 : Int) ≠ 0 ∨ p.ttl < sttl); omega)]
            simp only [i0, i25, i6, i8, i9, d1, d3, d3b, br.eq, bp.eq, hvl, d4, d5, d6, decide_true, eq_self, nrg, go_sem, Hold.p, HoldK.k, HoldL.K, HoldL.body, Nat.reduceBEq, Nat.reduceAdd, List.getElem?_cons_zero, List.getElem?_cons_succ, Option.bind_some, List.map_cons, List.map_nil, Nat.zero_add, if_true, List.getD_cons_zero, List.getD_cons_succ, List.contains_cons, List.contains_nil, Nat.reduceBEq, Bool.or_true, Bool.true_or, Bool.or_false, Bool.false_or, Bool.not_true, Bool.not_false, true_and, and_true, rowA_whole, push_n, set_n, push_obj, set_obj, set_push, set_push_ne, set_set, Nat.add_assoc, Nat.left_eq_add, Nat.add_eq_left, Nat.add_left_cancel_iff, Nat.reduceEqDiff, stO_1s, stO_ws, boxA_s, one_bool, one_int, one_str, one_ptr, one_nilptr, one_slice, one_eslice, one_nilslice, one_func, one_iface, one_niliface, List.all_cons, List.all_nil, List.length_cons, List.length_nil, Nat.reduceLT, Nat.reduceEqDiff, Nat.reduceLeDiff, Bool.and_true, Nat.one_ne_zero, Nat.succ_ne_zero, reduceIte, if_false, List.getElem?_cons_zero, List.set_cons_zero, List.set_cons_succ]
            generalize hq_g5 : IH.set g4a (g2.n) (IObj.rows [[IV.int .i64 id, IV.int .i64 0, IV.int .i64 sttl, IV.str qn, v]] 54 5 false) = g5
            have l_g5 : g5.n = g4a.n := by rw [← hq_g5]; rfl
            have br : At g5 (g2.n) (IObj.rows [[IV.int .i64 id, IV.int .i64 0, IV.int .i64 sttl, IV.str qn, v]] 54 5 false) := by rw [← hq_g5]; exact br.here
            have ov := ov.set (m := g2.n) (by omega) (IObj.rows [[IV.int .i64 id, IV.int .i64 0, IV.int .i64 sttl, IV.str qn, v]] 54 5 false)
            rw [hq_g5] at ov
            have bq := bq.set (p := g2.n) (o' := IObj.rows [[IV.int .i64 id, IV.int .i64 0, IV.int .i64 sttl, IV.str qn, v]] 54 5 false) (by omega)
            rw [hq_g5] at bq
            have bp := bp.set (p := g2.n) (o' := IObj.rows [[IV.int .i64 id, IV.int .i64 0, IV.int .i64 sttl, IV.str qn, v]] 54 5 false) (by omega)
            rw [hq_g5] at bp
            have E := E.set (g2.n) (by omega) (IObj.rows [[IV.int .i64 id, IV.int .i64 0, IV.int .i64 sttl, IV.str qn, v]] 54 5 false)
            rw [hq_g5] at E
            clear hq_g5
            have n5 : (g2.n = g5.n) = False := by simp; omega
            try simp only [i0, i25, i6, i8, i9, bq.eq, br.eq, bp.eq, n5, nrg, bslA_1, go_sem, Hold.p, HoldK.k, HoldL.K, HoldL.body, Nat.reduceBEq, Nat.reduceAdd, List.getElem?_cons_zero, List.getElem?_cons_succ, Option.bind_some, List.map_cons, List.map_nil, Nat.zero_add, if_true, List.getD_cons_zero, List.getD_cons_succ, List.contains_cons, List.contains_nil, Nat.reduceBEq, Bool.or_true, Bool.true_or, Bool.or_false, Bool.false_or, Bool.not_true, Bool.not_false, true_and, and_true, rowA_whole, push_n, set_n, push_obj, set_obj, set_push, set_push_ne, set_set, Nat.add_assoc, Nat.left_eq_add, Nat.add_eq_left, Nat.add_left_cancel_iff, Nat.reduceEqDiff, stO_1s, stO_ws, boxA_s, one_bool, one_int, one_str, one_ptr, one_nilptr, one_slice, one_eslice, one_nilslice, one_func, one_iface, one_niliface, List.all_cons, List.all_nil, List.length_cons, List.length_nil, Nat.reduceLT, Nat.reduceEqDiff, Nat.reduceLeDiff, Bool.and_true, Nat.one_ne_zero, Nat.succ_ne_zero, reduceIte, if_false, List.getElem?_cons_zero, List.set_cons_zero, List.set_cons_succ]
            generalize hq_g6 : IH.push g5 (IObj.rows [[IV.int .i64 p.addr]] 2 1 false) = g6
            have e_g6 : Ext g5 g6 := by rw [← hq_g6]; exact (Ext.refl _).push _
            have l_g6 : g6.n = g5.n + 1 := by rw [← hq_g6]; rfl
            have bw : At g6 g5.n (IObj.rows [[IV.int .i64 p.addr]] 2 1 false) := by rw [← hq_g6]; exact At.new _ _
            clear hq_g6
            have br := br.ext e_g6
            have ov := ov.ext e_g6
            have bq := bq.ext e_g6
            have bp := bp.ext e_g6
            have E := E.ext e_g6
            refine ov.app (by simp) (by rw [intRows_len]; simp; omega) ?_
            intro v6 h7 o6 t6 n6 v6o v6c
            have br := br.turn ov (by omega) t6
            have bq := bq.turn ov (by omega) t6
            have E := E.turn ov (by omega) t6
            have le_t6 := t6.le
            simp only [i0, i25, i6, i8, i9, br.eq, v6o, v6c, go_sem, Hold.p, HoldK.k, HoldL.K, HoldL.body, Nat.reduceBEq, Nat.reduceAdd, List.getElem?_cons_zero, List.getElem?_cons_succ, Option.bind_some, List.map_cons, List.map_nil, Nat.zero_add, if_true, List.getD_cons_zero, List.getD_cons_succ, List.contains_cons, List.contains_nil, Nat.reduceBEq, Bool.or_true, Bool.true_or, Bool.or_false, Bool.false_or, Bool.not_true, Bool.not_false, true_and, and_true, rowA_whole, push_n, set_n, push_obj, set_obj, set_push, set_push_ne, set_set, Nat.add_assoc, Nat.left_eq_add, Nat.add_eq_left, Nat.add_left_cancel_iff, Nat.reduceEqDiff, stO_1s, stO_ws, boxA_s, one_bool, one_int, one_str, one_ptr, one_nilptr, one_slice, one_eslice, one_nilslice, one_func, one_iface, one_niliface, List.all_cons, List.all_nil, List.length_cons, List.length_nil, Nat.reduceLT, Nat.reduceEqDiff, Nat.reduceLeDiff, Bool.and_true, Nat.one_ne_zero, Nat.succ_ne_zero, reduceIte, if_false, List.getElem?_cons_zero, List.set_cons_zero, List.set_cons_succ]
            have o7 : Own g6.n (g6.n + 1) h7 2 1 v6 (intRows (zs ++ [p.addr])) := by rw [intRows_append]; exact o6
            generalize hq_g8 : IH.set h7 (g2.n) (IObj.rows [[IV.int .i64 id, IV.int .i64 0, IV.int .i64 sttl, IV.str qn, v6]] 54 5 false) = g8
            have l_g8 : g8.n = h7.n := by rw [← hq_g8]; rfl
            have br : At g8 (g2.n) (IObj.rows [[IV.int .i64 id, IV.int .i64 0, IV.int .i64 sttl, IV.str qn, v6]] 54 5 false) := by rw [← hq_g8]; exact br.here
            have o7 := o7.set (m := g2.n) (by omega) (IObj.rows [[IV.int .i64 id, IV.int .i64 0, IV.int .i64 sttl, IV.str qn, v6]] 54 5 false)
            rw [hq_g8] at o7
            have bq := bq.set (p := g2.n) (o' := IObj.rows [[IV.int .i64 id, IV.int .i64 0, IV.int .i64 sttl, IV.str qn, v6]] 54 5 false) (by omega)
            rw [hq_g8] at bq
            have E := E.set (g2.n) (by omega) (IObj.rows [[IV.int .i64 id, IV.int .i64 0, IV.int .i64 sttl, IV.str qn, v6]] 54 5 false)
            rw [hq_g8] at E
            clear hq_g8
            refine ⟨_, ?_, k + 1, rfl, by omega, wr64_succ k (by omega), ?_⟩
            · omega
            · rw [hst, hgo]; exact ⟨E, bq, v6, g6.n, g6.n + 1, br, o7, by omega, by omega⟩
        · have d1 : decide (p.nm = qn) = false := decide_eq_false n1
          simp only [i0, i25, i6, i8, i9, d1, go_sem, Hold.p, HoldK.k, HoldL.K, HoldL.body, Nat.reduceBEq, Nat.reduceAdd, List.getElem?_cons_zero, List.getElem?_cons_succ, Option.bind_some, List.map_cons, List.map_nil, Nat.zero_add, if_true, List.getD_cons_zero, List.getD_cons_succ, List.contains_cons, List.contains_nil, Nat.reduceBEq, Bool.or_true, Bool.true_or, Bool.or_false, Bool.false_or, Bool.not_true, Bool.not_false, true_and, and_true, rowA_whole, push_n, set_n, push_obj, set_obj, set_push, set_push_ne, set_set, Nat.add_assoc, Nat.left_eq_add, Nat.add_eq_left, Nat.add_left_cancel_iff, Nat.reduceEqDiff, stO_1s, stO_ws, boxA_s, one_bool, one_int, one_str, one_ptr, one_nilptr, one_slice, one_eslice, one_nilslice, one_func, one_iface, one_niliface, List.all_cons, List.all_nil, List.length_cons, List.length_nil, Nat.reduceLT, Nat.reduceEqDiff, Nat.reduceLeDiff, Bool.and_true, Nat.one_ne_zero, Nat.succ_ne_zero, reduceIte, if_false, List.getElem?_cons_zero, List.set_cons_zero, List.set_cons_succ]
          have hskip : ansStep qn (sc, sttl, zs) p = (sc, sttl, zs) := if_neg (by unfold fitE; rw [d1, Bool.false_and, Bool.false_and]; simp)
          refine ⟨_, ?_, k + 1, rfl, by omega, wr64_succ k (by omega), ?_⟩
          · omega
          · rw [hst, hskip]; exact ⟨E, bq, v, lo, hi, br, ov, hlo, by omega⟩
      · obtain rfl : k = es.length := by omega
        rw [List.take_length] at br ov inv2
        generalize ansQ es qn = st at br ov hdef inv2
        obtain ⟨sc, sttl, zs⟩ := st
        simp only at br ov hdef inv2
        simp only [i8, br.eq, go_sem, Hold.p, HoldK.k, HoldL.K, HoldL.body, Nat.reduceBEq, Nat.reduceAdd, List.getElem?_cons_zero, List.getElem?_cons_succ, Option.bind_some, List.map_cons, List.map_nil, Nat.zero_add, if_true, List.getD_cons_zero, List.getD_cons_succ, List.contains_cons, List.contains_nil, Nat.reduceBEq, Bool.or_true, Bool.true_or, Bool.or_false, Bool.false_or, Bool.not_true, Bool.not_false, true_and, and_true, rowA_whole, push_n, set_n, push_obj, set_obj, set_push, set_push_ne, set_set, Nat.add_assoc, Nat.left_eq_add, Nat.add_eq_left, Nat.add_left_cancel_iff, Nat.reduceEqDiff, stO_1s, stO_ws, boxA_s, one_bool, one_int, one_str, one_ptr, one_nilptr, one_slice, one_eslice, one_nilslice, one_func, one_iface, one_niliface, List.all_cons, List.all_nil, List.length_cons, List.length_nil, Nat.reduceLT, Nat.reduceEqDiff, Nat.reduceLeDiff, Bool.and_true, Nat.one_ne_zero, Nat.succ_ne_zero, reduceIte, if_false, List.getElem?_cons_zero, List.set_cons_zero, List.set_cons_succ]
        refine callA_of (implEncodeReply_c g id sc sttl qn v zs ov.sl (by omega) (by omega)) ?_
        rintro r h7 ⟨vr, rfl, o7, E7⟩
        rw [← hdef] at o7 ⊢
        simp only [go_sem, Hold.p, HoldK.k, HoldL.K, HoldL.body, Nat.reduceBEq, Nat.reduceAdd, List.getElem?_cons_zero, List.getElem?_cons_succ, Option.bind_some, List.map_cons, List.map_nil, Nat.zero_add, if_true, List.getD_cons_zero, List.getD_cons_succ, List.contains_cons, List.contains_nil, Nat.reduceBEq, Bool.or_true, Bool.true_or, Bool.or_false, Bool.false_or, Bool.not_true, Bool.not_false, true_and, and_true, rowA_whole, push_n, set_n, push_obj, set_obj, set_push, set_push_ne, set_set, Nat.add_assoc, Nat.left_eq_add, Nat.add_eq_left, Nat.add_left_cancel_iff, Nat.reduceEqDiff, stO_1s, stO_ws, boxA_s, one_bool, one_int, one_str, one_ptr, one_nilptr, one_slice, one_eslice, one_nilslice, one_func, one_iface, one_niliface, List.all_cons, List.all_nil, List.length_cons, List.length_nil, Nat.reduceLT, Nat.reduceEqDiff, Nat.reduceLeDiff, Bool.and_true, Nat.one_ne_zero, Nat.succ_ne_zero, reduceIte, if_false, List.getElem?_cons_zero, List.set_cons_zero, List.set_cons_succ]
        exact ⟨vr, rfl, o7.wide E.le (Nat.le_refl _) (Nat.le_refl _), E.trans E7⟩
  · have d0 : decide (qc = 0) = false := decide_eq_false c0
    rw [if_pos c0] at hdef
    simp only [d0, go_sem, Hold.p, HoldK.k, HoldL.K, HoldL.body, Nat.reduceBEq, Nat.reduceAdd, List.getElem?_cons_zero, List.getElem?_cons_succ, Option.bind_some, List.map_cons, List.map_nil, Nat.zero_add, if_true, List.getD_cons_zero, List.getD_cons_succ, List.contains_cons, List.contains_nil, Nat.reduceBEq, Bool.or_true, Bool.true_or, Bool.or_false, Bool.false_or, Bool.not_true, Bool.not_false, true_and, and_true, rowA_whole, push_n, set_n, push_obj, set_obj, set_push, set_push_ne, set_set, Nat.add_assoc, Nat.left_eq_add, Nat.add_eq_left, Nat.add_left_cancel_iff, Nat.reduceEqDiff, stO_1s, stO_ws, boxA_s, one_bool, one_int, one_str, one_ptr, one_nilptr, one_slice, one_eslice, one_nilslice, one_func, one_iface, one_niliface, List.all_cons, List.all_nil, List.length_cons, List.length_nil, Nat.reduceLT, Nat.reduceEqDiff, Nat.reduceLeDiff, Bool.and_true, Nat.one_ne_zero, Nat.succ_ne_zero, reduceIte, if_false, List.getElem?_cons_zero, List.set_cons_zero, List.set_cons_succ]
    rw [hdef]
    exact ⟨_, rfl, Own.nil, E1⟩
end Go.Proofs.YtdpaehdolhdjdaaDoor


namespace Go.Proofs.YtdpaehdolhdjdaaDoor
open Go Go.IW

end Go.Proofs.YtdpaehdolhdjdaaDoor

namespace Go.Proofs.YtdpaehdolhdjdaaDoor
open Go Go.IW
/-- loop.example/g00003/laws.FnQuestions -/
def c6 : CC :=
 (.seq (.reg [
   ⟨(some 2), none, .f (.mv (.c (.bool false)))⟩])
 (.seq (.seq (.reg [
   ⟨(some 28), none, .f (.mv (.t 0))⟩,
   ⟨(some 29), none, .f (.len (.t 28))⟩,
   ⟨(some 30), none, .f (.bin .gtr (.t 29) (.c (.int .i64 1048576)))⟩])
 (.cond (.t 30)
  (.seq (.reg [
    ⟨(some 2), none, .f (.mv (.c (.bool true)))⟩])
  .ret)
  .skip))
 (.seq (.reg [
   ⟨(some 31), none, .f (.mv (.t 0))⟩,
   ⟨(some 32), none, .x (.call 26 [(.t 31)])⟩,
   ⟨(some 3), none, .x (.zero 46 2 [(.int .i64 0), (.str [])])⟩,
   ⟨none, none, .x (.st 2 (.t 3) (.t 32))⟩])
 (.seq (.seq (.reg [
   ⟨(some 34), none, .f (.ldA 2 (.t 3))⟩,
   ⟨(some 35), none, .x (.call 27 [(.t 34)])⟩,
   ⟨(some 33), none, .f (.mv (.t 35))⟩,
   ⟨(some 36), none, .f (.ext 0 (.t 33))⟩,
   ⟨(some 37), none, .f (.ext 1 (.t 33))⟩,
   ⟨(some 4), none, .f (.mv (.t 36))⟩,
   ⟨(some 5), none, .f (.mv (.t 37))⟩])
 (.seq (.reg [
   ⟨(some 38), none, .f (.mv (.t 5))⟩,
   ⟨(some 39), none, .f (.bin .eql (.t 38) (.c (.int .i64 0)))⟩])
 (.cond (.t 39)
  (.seq (.reg [
    ⟨(some 41), none, .f (.ldA 2 (.t 3))⟩,
    ⟨(some 42), none, .x (.call 28 [(.t 41)])⟩,
    ⟨(some 40), none, .f (.mv (.t 42))⟩,
    ⟨(some 43), none, .f (.ext 0 (.t 40))⟩,
    ⟨(some 44), none, .f (.ext 1 (.t 40))⟩,
    ⟨(some 6), none, .f (.mv (.t 43))⟩,
    ⟨(some 7), none, .f (.mv (.t 44))⟩])
  (.seq (.reg [
    ⟨(some 46), none, .f (.mv (.t 6))⟩,
    ⟨(some 47), none, .x (.call 29 [(.t 46)])⟩,
    ⟨(some 45), none, .f (.mv (.t 47))⟩,
    ⟨(some 48), none, .f (.ext 0 (.t 45))⟩,
    ⟨(some 49), none, .f (.ext 1 (.t 45))⟩,
    ⟨(some 8), none, .x (.zero 46 2 [(.int .i64 0), (.str [])])⟩,
    ⟨none, none, .x (.st 2 (.t 8) (.t 48))⟩,
    ⟨(some 9), none, .f (.mv (.t 49))⟩])
  (.seq (.reg [
    ⟨(some 50), none, .f (.mv (.t 7))⟩,
    ⟨(some 51), none, .f (.bin .neq (.t 50) (.c (.int .i64 0)))⟩,
    ⟨(some 52), none, .f (.mv (.t 51))⟩,
    ⟨(some 53), (some (52, false)), .f (.mv (.t 9))⟩,
    ⟨(some 54), (some (52, false)), .f (.bin .neq (.t 53) (.c (.int .i64 0)))⟩,
    ⟨(some 55), none, .f (.pick (.t 52) (.c (.bool true)) (.t 54))⟩,
    ⟨(some 56), none, .f (.mv (.t 55))⟩,
    ⟨(some 57), (some (56, false)), .f (.ldA 2 (.t 8))⟩,
    ⟨(some 58), (some (56, false)), .f (.ldA 2 (.t 3))⟩,
    ⟨(some 59), (some (56, false)), .f (.u (.aeq true [0, 1]) [(.t 57), (.t 58)])⟩,
    ⟨(some 60), none, .f (.pick (.t 56) (.c (.bool true)) (.t 59))⟩])
  (.cond (.t 60)
   (.seq (.reg [
     ⟨(some 2), none, .f (.mv (.c (.bool false)))⟩])
   .ret)
   .skip))))
  .skip)))
 (.seq (.reg [
   ⟨(some 61), none, .f (.mv (.t 0))⟩,
   ⟨(some 62), none, .x (.call 30 [(.t 61)])⟩,
   ⟨(some 10), none, .x (.zero 54 5 [(.int .i64 0), (.int .i64 0), (.int .i64 0), (.str []), .nilslice])⟩,
   ⟨none, none, .x (.st 5 (.t 10) (.t 62))⟩])
 (.seq (.seq (.reg [
   ⟨(some 64), none, .f (.ldA 5 (.t 10))⟩,
   ⟨(some 65), none, .x (.call 31 [(.t 64)])⟩,
   ⟨(some 63), none, .f (.mv (.t 65))⟩,
   ⟨(some 66), none, .f (.ext 0 (.t 63))⟩,
   ⟨(some 67), none, .f (.ext 1 (.t 63))⟩,
   ⟨(some 11), none, .f (.mv (.t 66))⟩,
   ⟨(some 12), none, .f (.mv (.t 67))⟩])
 (.seq (.reg [
   ⟨(some 68), none, .f (.mv (.t 12))⟩,
   ⟨(some 69), none, .f (.bin .eql (.t 68) (.c (.int .i64 0)))⟩])
 (.cond (.t 69)
  (.seq (.reg [
    ⟨(some 71), none, .f (.ldA 5 (.t 10))⟩,
    ⟨(some 72), none, .x (.call 32 [(.t 71)])⟩,
    ⟨(some 70), none, .f (.mv (.t 72))⟩,
    ⟨(some 73), none, .f (.ext 0 (.t 70))⟩,
    ⟨(some 74), none, .f (.ext 1 (.t 70))⟩,
    ⟨(some 13), none, .f (.mv (.t 73))⟩,
    ⟨(some 14), none, .f (.mv (.t 74))⟩])
  (.seq (.reg [
    ⟨(some 76), none, .f (.mv (.t 13))⟩,
    ⟨(some 77), none, .x (.call 33 [(.t 76)])⟩,
    ⟨(some 75), none, .f (.mv (.t 77))⟩,
    ⟨(some 78), none, .f (.ext 0 (.t 75))⟩,
    ⟨(some 79), none, .f (.ext 1 (.t 75))⟩,
    ⟨(some 15), none, .x (.zero 54 5 [(.int .i64 0), (.int .i64 0), (.int .i64 0), (.str []), .nilslice])⟩,
    ⟨none, none, .x (.st 5 (.t 15) (.t 78))⟩,
    ⟨(some 16), none, .f (.mv (.t 79))⟩])
  (.seq (.reg [
    ⟨(some 80), none, .f (.mv (.t 14))⟩,
    ⟨(some 81), none, .f (.bin .neq (.t 80) (.c (.int .i64 0)))⟩,
    ⟨(some 82), none, .f (.mv (.t 81))⟩,
    ⟨(some 83), (some (82, false)), .f (.mv (.t 16))⟩,
    ⟨(some 84), (some (82, false)), .f (.bin .neq (.t 83) (.c (.int .i64 0)))⟩,
    ⟨(some 85), none, .f (.pick (.t 82) (.c (.bool true)) (.t 84))⟩,
    ⟨(some 86), none, .f (.mv (.t 85))⟩,
    ⟨(some 87), (some (86, false)), .f (.ldA 5 (.t 15))⟩,
    ⟨(some 88), (some (86, false)), .f (.ldA 5 (.t 10))⟩,
    ⟨(some 89), (some (86, false)), .x (.call 34 [(.t 87), (.t 88)])⟩,
    ⟨(some 90), (some (86, false)), .f (.un .not (.t 89))⟩,
    ⟨(some 91), none, .f (.pick (.t 86) (.c (.bool true)) (.t 90))⟩])
  (.cond (.t 91)
   (.seq (.reg [
     ⟨(some 2), none, .f (.mv (.c (.bool false)))⟩])
   .ret)
   .skip))))
  .skip)))
 (.seq (.reg [
   ⟨(some 93), none, .f (.mv (.t 0))⟩,
   ⟨(some 94), none, .x (.call 35 [(.t 93)])⟩,
   ⟨(some 92), none, .f (.mv (.t 94))⟩,
   ⟨(some 95), none, .f (.ext 0 (.t 92))⟩,
   ⟨(some 96), none, .f (.ext 1 (.t 92))⟩,
   ⟨(some 17), none, .f (.mv (.t 95))⟩,
   ⟨(some 18), none, .f (.mv (.t 96))⟩])
 (.seq (.reg [
   ⟨(some 98), none, .f (.mv (.t 18))⟩,
   ⟨(some 99), none, .x (.call 36 [(.t 98)])⟩,
   ⟨(some 97), none, .f (.mv (.t 99))⟩,
   ⟨(some 100), none, .f (.ext 0 (.t 97))⟩,
   ⟨(some 101), none, .f (.ext 1 (.t 97))⟩,
   ⟨(some 19), none, .x (.zero 46 2 [(.int .i64 0), (.str [])])⟩,
   ⟨none, none, .x (.st 2 (.t 19) (.t 100))⟩,
   ⟨(some 20), none, .f (.mv (.t 101))⟩])
 (.seq (.reg [
   ⟨(some 103), none, .x (.bslice 65 3 [(.str []), (.int .i64 0), (.int .i64 0)] 0 [])⟩,
   ⟨(some 104), none, .f (.mv (.t 17))⟩,
   ⟨(some 105), none, .x (.app 65 3 32 (.t 103) (.t 104))⟩,
   ⟨(some 106), none, .x (.bslice 5 1 [(.int .u8 0)] 0 [])⟩,
   ⟨(some 107), none, .f (.mv (.t 18))⟩,
   ⟨(some 108), none, .x (.app 5 1 1 (.t 106) (.t 107))⟩,
   ⟨(some 109), none, .x (.call 37 [(.t 105), (.t 108)])⟩,
   ⟨(some 102), none, .f (.mv (.t 109))⟩,
   ⟨(some 110), none, .f (.ext 0 (.t 102))⟩,
   ⟨(some 111), none, .f (.ext 1 (.t 102))⟩,
   ⟨(some 21), none, .f (.mv (.t 110))⟩,
   ⟨(some 22), none, .f (.mv (.t 111))⟩])
 (.seq (.seq (.reg [
   ⟨(some 112), none, .f (.mv (.t 22))⟩,
   ⟨(some 113), none, .f (.mv (.t 20))⟩,
   ⟨(some 114), none, .f (.bin .neq (.t 112) (.t 113))⟩])
 (.cond (.t 114)
  (.seq (.reg [
    ⟨(some 2), none, .f (.mv (.c (.bool false)))⟩])
  .ret)
  .skip))
 (.seq (.seq (.reg [
   ⟨(some 115), none, .f (.mv (.t 22))⟩,
   ⟨(some 116), none, .f (.bin .neq (.t 115) (.c (.int .i64 0)))⟩])
 (.cond (.t 116)
  (.seq (.reg [
    ⟨(some 2), none, .f (.mv (.c (.bool true)))⟩])
  .ret)
  .skip))
 (.seq (.reg [
   ⟨(some 118), none, .f (.mv (.t 21))⟩,
   ⟨(some 119), none, .x (.call 33 [(.t 118)])⟩,
   ⟨(some 117), none, .f (.mv (.t 119))⟩,
   ⟨(some 120), none, .f (.ext 0 (.t 117))⟩,
   ⟨(some 121), none, .f (.ext 1 (.t 117))⟩,
   ⟨(some 23), none, .x (.zero 54 5 [(.int .i64 0), (.int .i64 0), (.int .i64 0), (.str []), .nilslice])⟩,
   ⟨none, none, .x (.st 5 (.t 23) (.t 120))⟩,
   ⟨(some 24), none, .f (.mv (.t 121))⟩])
 (.seq (.seq (.reg [
   ⟨(some 122), none, .f (.mv (.t 24))⟩,
   ⟨(some 123), none, .f (.bin .neq (.t 122) (.c (.int .i64 0)))⟩,
   ⟨(some 124), none, .f (.mv (.t 123))⟩,
   ⟨(some 125), (some (124, false)), .f (.fadr 0 (.t 23))⟩,
   ⟨(some 126), (some (124, false)), .f (.ld (.t 125))⟩,
   ⟨(some 127), (some (124, false)), .f (.fadr 0 (.t 19))⟩,
   ⟨(some 128), (some (124, false)), .f (.ld (.t 127))⟩,
   ⟨(some 129), (some (124, false)), .f (.bin .neq (.t 126) (.t 128))⟩,
   ⟨(some 130), none, .f (.pick (.t 124) (.c (.bool true)) (.t 129))⟩,
   ⟨(some 131), none, .f (.mv (.t 130))⟩,
   ⟨(some 132), (some (131, false)), .f (.fadr 3 (.t 23))⟩,
   ⟨(some 133), (some (131, false)), .f (.ld (.t 132))⟩,
   ⟨(some 134), (some (131, false)), .f (.fadr 1 (.t 19))⟩,
   ⟨(some 135), (some (131, false)), .f (.ld (.t 134))⟩,
   ⟨(some 136), (some (131, false)), .f (.bin .neq (.t 133) (.t 135))⟩,
   ⟨(some 137), none, .f (.pick (.t 131) (.c (.bool true)) (.t 136))⟩])
 (.cond (.t 137)
  (.seq (.reg [
    ⟨(some 2), none, .f (.mv (.c (.bool false)))⟩])
  .ret)
  .skip))
 (.seq (.reg [
   ⟨(some 25), none, .f (.mv (.c (.int .i64 0)))⟩])
 (.seq (.seq (.reg [
   ⟨(some 26), none, .f (.mv (.c (.int .i64 0)))⟩])
 (.block 0 (.loop (.seq (.seq (.reg [
     ⟨(some 138), none, .f (.mv (.t 26))⟩,
     ⟨(some 139), none, .f (.mv (.t 17))⟩,
     ⟨(some 140), none, .f (.len (.t 139))⟩,
     ⟨(some 141), none, .f (.bin .lss (.t 138) (.t 140))⟩])
   (.cond (.t 141)
    .skip
    (.exit 0)))
   (.seq (.block 1 (.seq (.dreg [
      ⟨(some 144), none, .f (.mv (.t 17))⟩,
      ⟨(some 145), none, .f (.mv (.t 26))⟩,
      ⟨(some 146), none, .f (.iadr 3 (.t 144) (.t 145))⟩,
      ⟨(some 147), none, .f (.fadr 0 (.t 146))⟩,
      ⟨(some 148), none, .f (.ld (.t 147))⟩,
      ⟨(some 149), none, .f (.fadr 1 (.t 19))⟩,
      ⟨(some 150), none, .f (.ld (.t 149))⟩,
      ⟨(some 151), none, .f (.bin .eql (.t 148) (.t 150))⟩,
      ⟨(some 152), none, .f (.mv (.t 151))⟩,
      ⟨(some 153), (some (152, true)), .f (.mv (.t 17))⟩,
      ⟨(some 154), (some (152, true)), .f (.mv (.t 26))⟩,
      ⟨(some 155), (some (152, true)), .f (.iadr 3 (.t 153) (.t 154))⟩,
      ⟨(some 156), (some (152, true)), .f (.fadr 1 (.t 155))⟩,
      ⟨(some 157), (some (152, true)), .f (.ld (.t 156))⟩,
      ⟨(some 158), (some (152, true)), .f (.bin .geq (.t 157) (.c (.int .i64 0)))⟩,
      ⟨(some 159), none, .f (.pick (.t 152) (.t 158) (.c (.bool false)))⟩,
      ⟨(some 160), none, .f (.mv (.t 159))⟩,
      ⟨(some 161), (some (160, true)), .f (.mv (.t 17))⟩,
      ⟨(some 162), (some (160, true)), .f (.mv (.t 26))⟩,
      ⟨(some 163), (some (160, true)), .f (.iadr 3 (.t 161) (.t 162))⟩,
      ⟨(some 164), (some (160, true)), .f (.fadr 1 (.t 163))⟩,
      ⟨(some 165), (some (160, true)), .f (.ld (.t 164))⟩,
      ⟨(some 166), (some (160, true)), .f (.bin .lss (.t 165) (.c (.int .i64 4294967296)))⟩,
      ⟨(some 167), none, .f (.pick (.t 160) (.t 166) (.c (.bool false)))⟩,
      ⟨(some 168), none, .f (.mv (.t 167))⟩,
      ⟨(some 169), (some (168, true)), .f (.mv (.t 17))⟩,
      ⟨(some 170), (some (168, true)), .f (.mv (.t 26))⟩,
      ⟨(some 171), (some (168, true)), .f (.iadr 3 (.t 169) (.t 170))⟩,
      ⟨(some 172), (some (168, true)), .f (.fadr 2 (.t 171))⟩,
      ⟨(some 173), (some (168, true)), .f (.ld (.t 172))⟩,
      ⟨(some 174), (some (168, true)), .f (.bin .geq (.t 173) (.c (.int .i64 0)))⟩,
      ⟨(some 175), none, .f (.pick (.t 168) (.t 174) (.c (.bool false)))⟩,
      ⟨(some 176), none, .f (.mv (.t 175))⟩,
      ⟨(some 177), (some (176, true)), .f (.mv (.t 17))⟩,
      ⟨(some 178), (some (176, true)), .f (.mv (.t 26))⟩,
      ⟨(some 179), (some (176, true)), .f (.iadr 3 (.t 177) (.t 178))⟩,
      ⟨(some 180), (some (176, true)), .f (.fadr 2 (.t 179))⟩,
      ⟨(some 181), (some (176, true)), .f (.ld (.t 180))⟩,
      ⟨(some 182), (some (176, true)), .f (.bin .leq (.t 181) (.c (.int .i64 86400)))⟩,
      ⟨(some 183), none, .f (.pick (.t 176) (.t 182) (.c (.bool false)))⟩,
      ⟨(some 27), none, .f (.mv (.t 183))⟩]
      [false, false, false, false, false, false, false, false, false, false, false, false, false, false, false, false, false, false, false, false, false, false, false, false, false, false, false, false, false, false, false, false, false, false, false, false, false, false, false, false, false] [[], [], [0, 1], [2, 0, 1], [3, 2, 0, 1], [], [5], [4, 3, 2, 0, 1, 6, 5], [7, 4, 3, 2, 0, 1, 6, 5], [8, 7, 4, 3, 2, 0, 1, 6, 5], [8, 7, 4, 3, 2, 0, 1, 6, 5], [9, 8, 7, 4, 3, 2, 0, 1, 6, 5, 10], [11, 9, 8, 7, 4, 3, 2, 0, 1, 6, 5, 10], [12, 11, 9, 8, 7, 4, 3, 2, 0, 1, 6, 5, 10], [13, 12, 11, 9, 8, 7, 4, 3, 2, 0, 1, 6, 5, 10], [8, 7, 4, 3, 2, 0, 1, 6, 5, 14, 13, 12, 11, 9, 10], [15, 8, 7, 4, 3, 2, 0, 1, 6, 5, 14, 13, 12, 11, 9, 10], [16, 15, 8, 7, 4, 3, 2, 0, 1, 6, 5, 14, 13, 12, 11, 9, 10], [16, 15, 8, 7, 4, 3, 2, 0, 1, 6, 5, 14, 13, 12, 11, 9, 10], [17, 16, 15, 8, 7, 4, 3, 2, 0, 1, 6, 5, 14, 13, 12, 11, 9, 10, 18], [19, 17, 16, 15, 8, 7, 4, 3, 2, 0, 1, 6, 5, 14, 13, 12, 11, 9, 10, 18], [20, 19, 17, 16, 15, 8, 7, 4, 3, 2, 0, 1, 6, 5, 14, 13, 12, 11, 9, 10, 18], [21, 20, 19, 17, 16, 15, 8, 7, 4, 3, 2, 0, 1, 6, 5, 14, 13, 12, 11, 9, 10, 18], [16, 15, 8, 7, 4, 3, 2, 0, 1, 6, 5, 14, 13, 12, 11, 9, 10, 22, 21, 20, 19, 17, 18], [23, 16, 15, 8, 7, 4, 3, 2, 0, 1, 6, 5, 14, 13, 12, 11, 9, 10, 22, 21, 20, 19, 17, 18], [24, 23, 16, 15, 8, 7, 4, 3, 2, 0, 1, 6, 5, 14, 13, 12, 11, 9, 10, 22, 21, 20, 19, 17, 18], [24, 23, 16, 15, 8, 7, 4, 3, 2, 0, 1, 6, 5, 14, 13, 12, 11, 9, 10, 22, 21, 20, 19, 17, 18], [25, 24, 23, 16, 15, 8, 7, 4, 3, 2, 0, 1, 6, 5, 14, 13, 12, 11, 9, 10, 22, 21, 20, 19, 17, 18, 26], [27, 25, 24, 23, 16, 15, 8, 7, 4, 3, 2, 0, 1, 6, 5, 14, 13, 12, 11, 9, 10, 22, 21, 20, 19, 17, 18, 26], [28, 27, 25, 24, 23, 16, 15, 8, 7, 4, 3, 2, 0, 1, 6, 5, 14, 13, 12, 11, 9, 10, 22, 21, 20, 19, 17, 18, 26], [29, 28, 27, 25, 24, 23, 16, 15, 8, 7, 4, 3, 2, 0, 1, 6, 5, 14, 13, 12, 11, 9, 10, 22, 21, 20, 19, 17, 18, 26], [24, 23, 16, 15, 8, 7, 4, 3, 2, 0, 1, 6, 5, 14, 13, 12, 11, 9, 10, 22, 21, 20, 19, 17, 18, 30, 29, 28, 27, 25, 26], [31, 24, 23, 16, 15, 8, 7, 4, 3, 2, 0, 1, 6, 5, 14, 13, 12, 11, 9, 10, 22, 21, 20, 19, 17, 18, 30, 29, 28, 27, 25, 26], [32, 31, 24, 23, 16, 15, 8, 7, 4, 3, 2, 0, 1, 6, 5, 14, 13, 12, 11, 9, 10, 22, 21, 20, 19, 17, 18, 30, 29, 28, 27, 25, 26], [32, 31, 24, 23, 16, 15, 8, 7, 4, 3, 2, 0, 1, 6, 5, 14, 13, 12, 11, 9, 10, 22, 21, 20, 19, 17, 18, 30, 29, 28, 27, 25, 26], [33, 32, 31, 24, 23, 16, 15, 8, 7, 4, 3, 2, 0, 1, 6, 5, 14, 13, 12, 11, 9, 10, 22, 21, 20, 19, 17, 18, 30, 29, 28, 27, 25, 26, 34], [35, 33, 32, 31, 24, 23, 16, 15, 8, 7, 4, 3, 2, 0, 1, 6, 5, 14, 13, 12, 11, 9, 10, 22, 21, 20, 19, 17, 18, 30, 29, 28, 27, 25, 26, 34], [36, 35, 33, 32, 31, 24, 23, 16, 15, 8, 7, 4, 3, 2, 0, 1, 6, 5, 14, 13, 12, 11, 9, 10, 22, 21, 20, 19, 17, 18, 30, 29, 28, 27, 25, 26, 34], [37, 36, 35, 33, 32, 31, 24, 23, 16, 15, 8, 7, 4, 3, 2, 0, 1, 6, 5, 14, 13, 12, 11, 9, 10, 22, 21, 20, 19, 17, 18, 30, 29, 28, 27, 25, 26, 34], [32, 31, 24, 23, 16, 15, 8, 7, 4, 3, 2, 0, 1, 6, 5, 14, 13, 12, 11, 9, 10, 22, 21, 20, 19, 17, 18, 30, 29, 28, 27, 25, 26, 38, 37, 36, 35, 33, 34], [39, 32, 31, 24, 23, 16, 15, 8, 7, 4, 3, 2, 0, 1, 6, 5, 14, 13, 12, 11, 9, 10, 22, 21, 20, 19, 17, 18, 30, 29, 28, 27, 25, 26, 38, 37, 36, 35, 33, 34]] [0, 1, 2, 3, 4, 5, 6, 7, 8, 9, 10, 11, 12, 13, 14, 15, 16, 17, 18, 19, 20, 21, 22, 23, 24, 25, 26, 27, 28, 29, 30, 31, 32, 33, 34, 35, 36, 37, 38, 39, 40])
    (.seq (.seq (.reg [
      ⟨(some 184), none, .f (.mv (.t 27))⟩,
      ⟨(some 185), none, .f (.un .not (.t 184))⟩])
    (.cond (.t 185)
     (.exit 1)
     .skip))
    (.seq (.seq (.dreg [
      ⟨(some 186), none, .f (.fadr 1 (.t 23))⟩,
      ⟨(some 187), none, .f (.ld (.t 186))⟩,
      ⟨(some 188), none, .f (.bin .neq (.t 187) (.c (.int .i64 0)))⟩,
      ⟨(some 189), none, .f (.mv (.t 188))⟩,
      ⟨(some 190), (some (189, false)), .f (.mv (.t 25))⟩,
      ⟨(some 191), (some (189, false)), .f (.bin .lss (.t 190) (.c (.int .i64 8)))⟩,
      ⟨(some 192), (some (189, false)), .f (.mv (.t 191))⟩,
      ⟨(some 193), (some (192, true)), .f (.mv (.t 25))⟩,
      ⟨(some 194), (some (192, true)), .f (.fadr 4 (.t 23))⟩,
      ⟨(some 195), (some (192, true)), .f (.ld (.t 194))⟩,
      ⟨(some 196), (some (192, true)), .f (.len (.t 195))⟩,
      ⟨(some 197), (some (192, true)), .f (.bin .geq (.t 193) (.t 196))⟩,
      ⟨(some 198), (some (192, true)), .f (.mv (.t 197))⟩,
      ⟨(some 199), (some (198, false)), .f (.fadr 4 (.t 23))⟩,
      ⟨(some 200), (some (198, false)), .f (.ld (.t 199))⟩,
      ⟨(some 201), (some (198, false)), .f (.mv (.t 25))⟩,
      ⟨(some 202), (some (198, false)), .f (.iadr 1 (.t 200) (.t 201))⟩,
      ⟨(some 203), (some (198, false)), .f (.ld (.t 202))⟩,
      ⟨(some 204), (some (198, false)), .f (.mv (.t 17))⟩,
      ⟨(some 205), (some (198, false)), .f (.mv (.t 26))⟩,
      ⟨(some 206), (some (198, false)), .f (.iadr 3 (.t 204) (.t 205))⟩,
      ⟨(some 207), (some (198, false)), .f (.fadr 1 (.t 206))⟩,
      ⟨(some 208), (some (198, false)), .f (.ld (.t 207))⟩,
      ⟨(some 209), (some (198, false)), .f (.bin .neq (.t 203) (.t 208))⟩,
      ⟨(some 210), (some (192, true)), .f (.pick (.t 198) (.c (.bool true)) (.t 209))⟩,
      ⟨(some 211), (some (192, true)), .f (.mv (.t 210))⟩,
      ⟨(some 212), (some (211, false)), .f (.fadr 2 (.t 23))⟩,
      ⟨(some 213), (some (211, false)), .f (.ld (.t 212))⟩,
      ⟨(some 214), (some (211, false)), .f (.mv (.t 17))⟩,
      ⟨(some 215), (some (211, false)), .f (.mv (.t 26))⟩,
      ⟨(some 216), (some (211, false)), .f (.iadr 3 (.t 214) (.t 215))⟩,
      ⟨(some 217), (some (211, false)), .f (.fadr 2 (.t 216))⟩,
      ⟨(some 218), (some (211, false)), .f (.ld (.t 217))⟩,
      ⟨(some 219), (some (211, false)), .f (.bin .gtr (.t 213) (.t 218))⟩,
      ⟨(some 220), (some (192, true)), .f (.pick (.t 211) (.c (.bool true)) (.t 219))⟩,
      ⟨(some 221), (some (189, false)), .f (.pick (.t 192) (.t 220) (.c (.bool false)))⟩,
      ⟨(some 222), none, .f (.pick (.t 189) (.c (.bool true)) (.t 221))⟩]
      [false, false, false, false, false, false, false, false, false, false, false, false, false, false, false, false, false, false, false, false, false, false, false, false, false, false, false, false, false, false, false, false, false, false, false, false, false] [[], [0], [1, 0], [2, 1, 0], [3, 2, 1, 0], [4, 3, 2, 1, 0], [5, 4, 3, 2, 1, 0], [6, 5, 4, 3, 2, 1, 0], [6, 5, 4, 3, 2, 1, 0], [8, 6, 5, 4, 3, 2, 1, 0], [9, 8, 6, 5, 4, 3, 2, 1, 0], [7, 6, 5, 4, 3, 2, 1, 0, 10, 9, 8], [11, 7, 6, 5, 4, 3, 2, 1, 0, 10, 9, 8], [12, 11, 7, 6, 5, 4, 3, 2, 1, 0, 10, 9, 8], [13, 12, 11, 7, 6, 5, 4, 3, 2, 1, 0, 10, 9, 8], [12, 11, 7, 6, 5, 4, 3, 2, 1, 0, 10, 9, 8], [14, 13, 12, 11, 7, 6, 5, 4, 3, 2, 1, 0, 10, 9, 8, 15], [16, 14, 13, 12, 11, 7, 6, 5, 4, 3, 2, 1, 0, 10, 9, 8, 15], [12, 11, 7, 6, 5, 4, 3, 2, 1, 0, 10, 9, 8], [12, 11, 7, 6, 5, 4, 3, 2, 1, 0, 10, 9, 8], [18, 12, 11, 7, 6, 5, 4, 3, 2, 1, 0, 10, 9, 8, 19], [20, 18, 12, 11, 7, 6, 5, 4, 3, 2, 1, 0, 10, 9, 8, 19], [21, 20, 18, 12, 11, 7, 6, 5, 4, 3, 2, 1, 0, 10, 9, 8, 19], [17, 16, 14, 13, 12, 11, 7, 6, 5, 4, 3, 2, 1, 0, 10, 9, 8, 15, 22, 21, 20, 18, 19], [12, 11, 7, 6, 5, 4, 3, 2, 1, 0, 10, 9, 8, 23, 17, 16, 14, 13, 15, 22, 21, 20, 18, 19], [24, 12, 11, 7, 6, 5, 4, 3, 2, 1, 0, 10, 9, 8, 23, 17, 16, 14, 13, 15, 22, 21, 20, 18, 19], [25, 24, 12, 11, 7, 6, 5, 4, 3, 2, 1, 0, 10, 9, 8, 23, 17, 16, 14, 13, 15, 22, 21, 20, 18, 19], [26, 25, 24, 12, 11, 7, 6, 5, 4, 3, 2, 1, 0, 10, 9, 8, 23, 17, 16, 14, 13, 15, 22, 21, 20, 18, 19], [25, 24, 12, 11, 7, 6, 5, 4, 3, 2, 1, 0, 10, 9, 8, 23, 17, 16, 14, 13, 15, 22, 21, 20, 18, 19], [25, 24, 12, 11, 7, 6, 5, 4, 3, 2, 1, 0, 10, 9, 8, 23, 17, 16, 14, 13, 15, 22, 21, 20, 18, 19], [28, 25, 24, 12, 11, 7, 6, 5, 4, 3, 2, 1, 0, 10, 9, 8, 23, 17, 16, 14, 13, 15, 22, 21, 20, 18, 19, 29], [30, 28, 25, 24, 12, 11, 7, 6, 5, 4, 3, 2, 1, 0, 10, 9, 8, 23, 17, 16, 14, 13, 15, 22, 21, 20, 18, 19, 29], [31, 30, 28, 25, 24, 12, 11, 7, 6, 5, 4, 3, 2, 1, 0, 10, 9, 8, 23, 17, 16, 14, 13, 15, 22, 21, 20, 18, 19, 29], [27, 26, 25, 24, 12, 11, 7, 6, 5, 4, 3, 2, 1, 0, 10, 9, 8, 23, 17, 16, 14, 13, 15, 22, 21, 20, 18, 19, 32, 31, 30, 28, 29], [25, 24, 12, 11, 7, 6, 5, 4, 3, 2, 1, 0, 10, 9, 8, 23, 17, 16, 14, 13, 15, 22, 21, 20, 18, 19, 33, 27, 26, 32, 31, 30, 28, 29], [6, 5, 4, 3, 2, 1, 0, 34, 25, 24, 12, 11, 7, 10, 9, 8, 23, 17, 16, 14, 13, 15, 22, 21, 20, 18, 19, 33, 27, 26, 32, 31, 30, 28, 29], [3, 2, 1, 0, 35, 6, 5, 4, 34, 25, 24, 12, 11, 7, 10, 9, 8, 23, 17, 16, 14, 13, 15, 22, 21, 20, 18, 19, 33, 27, 26, 32, 31, 30, 28, 29]] [0, 1, 2, 3, 4, 5, 6, 7, 8, 9, 10, 11, 12, 13, 14, 15, 16, 17, 18, 19, 20, 21, 22, 23, 24, 25, 26, 27, 28, 29, 30, 31, 32, 33, 34, 35, 36])
    (.cond (.t 222)
     (.seq (.reg [
       ⟨(some 2), none, .f (.mv (.c (.bool false)))⟩])
     .ret)
     .skip))
    (.reg [
      ⟨(some 223), none, .f (.mv (.t 25))⟩,
      ⟨(some 224), none, .f (.bin .add (.t 223) (.c (.int .i64 1)))⟩,
      ⟨(some 25), none, .f (.mv (.t 224))⟩])))))
   (.reg [
     ⟨(some 142), none, .f (.mv (.t 26))⟩,
     ⟨(some 143), none, .f (.bin .add (.t 142) (.c (.int .i64 1)))⟩,
     ⟨(some 26), none, .f (.mv (.t 143))⟩]))))))
 (.seq (.seq (.reg [
   ⟨(some 225), none, .f (.mv (.t 25))⟩,
   ⟨(some 226), none, .f (.bin .gtr (.t 225) (.c (.int .i64 8)))⟩])
 (.cond (.t 226)
  (.reg [
    ⟨(some 25), none, .f (.mv (.c (.int .i64 8)))⟩])
  .skip))
 (.seq (.reg [
   ⟨(some 227), none, .f (.fadr 4 (.t 23))⟩,
   ⟨(some 228), none, .f (.ld (.t 227))⟩,
   ⟨(some 229), none, .f (.len (.t 228))⟩,
   ⟨(some 230), none, .f (.mv (.t 25))⟩,
   ⟨(some 231), none, .f (.bin .eql (.t 229) (.t 230))⟩,
   ⟨(some 232), none, .f (.mv (.t 231))⟩,
   ⟨(some 233), (some (232, true)), .f (.mv (.t 25))⟩,
   ⟨(some 234), (some (232, true)), .f (.bin .gtr (.t 233) (.c (.int .i64 0)))⟩,
   ⟨(some 235), (some (232, true)), .f (.mv (.t 234))⟩,
   ⟨(some 236), (some (235, false)), .f (.fadr 1 (.t 23))⟩,
   ⟨(some 237), (some (235, false)), .f (.ld (.t 236))⟩,
   ⟨(some 238), (some (235, false)), .f (.bin .eql (.t 237) (.c (.int .i64 20)))⟩,
   ⟨(some 239), (some (232, true)), .f (.pick (.t 235) (.c (.bool true)) (.t 238))⟩,
   ⟨(some 240), none, .f (.pick (.t 232) (.t 239) (.c (.bool false)))⟩,
   ⟨(some 2), none, .f (.mv (.t 240))⟩])
 .ret)))))))))))))))))
theorem ok6 : fnComp Tryd.prog 6 = some (241, c6, [(.mv (.t 2))]) := by kernel_rfl

/-- loop.example/g00003/spec.DrawEncodeQuery -/
def c26 : CC :=
 (.seq (.reg [
   ⟨(some 2), none, .x (.zero 46 2 [(.int .i64 0), (.str [])])⟩])
 (.seq (.reg [
   ⟨(some 5), none, .f (.mv (.t 0))⟩,
   ⟨(some 6), none, .x (.call 72 [(.t 5)])⟩,
   ⟨(some 3), none, .x (.zero 118 3 [.nilslice, (.int .i64 0), (.int .u64 0)])⟩,
   ⟨none, none, .x (.st 3 (.t 3) (.t 6))⟩])
 (.seq (.reg [
   ⟨(some 7), none, .x (.call 73 [(.t 3)])⟩,
   ⟨(some 4), none, .x (.zero 46 2 [(.int .i64 0), (.str [])])⟩,
   ⟨none, none, .x (.st 2 (.t 4) (.t 7))⟩])
 (.seq (.seq (.reg [
   ⟨(some 8), none, .x (.call 74 [(.t 3), (.c (.int .i64 8))])⟩])
 (.block 0 (.seq (.reg [
    ⟨(some 10), none, .f (.bin .eql (.t 8) (.c (.int .i64 0)))⟩,
    ⟨(some 9), none, .f (.mv (.t 10))⟩])
  (.cond (.t 9)
   (.reg [
     ⟨(some 11), none, .f (.fadr 0 (.t 4))⟩,
     ⟨none, none, .x (.st 1 (.t 11) (.c (.int .i64 65536)))⟩])
   (.seq (.reg [
     ⟨(some 13), none, .f (.bin .eql (.t 8) (.c (.int .i64 1)))⟩,
     ⟨(some 12), none, .f (.mv (.t 13))⟩])
   (.cond (.t 12)
    (.reg [
      ⟨(some 14), none, .f (.fadr 1 (.t 4))⟩,
      ⟨(some 15), none, .f (.ld (.t 14))⟩,
      ⟨(some 16), none, .x (.call 75 [(.t 3), (.t 15), (.c (.int .i64 1))])⟩,
      ⟨(some 17), none, .f (.fadr 1 (.t 4))⟩,
      ⟨none, none, .x (.st 1 (.t 17) (.t 16))⟩])
    .skip))))))
 (.seq (.reg [
   ⟨(some 18), none, .f (.ldA 2 (.t 4))⟩,
   ⟨none, none, .x (.st 2 (.t 2) (.t 18))⟩])
 .ret)))))
theorem ok26 : fnComp Tryd.prog 26 = some (19, c26, [(.ldA 2 (.t 2))]) := by kernel_rfl

/-- loop.example/g00003/spec.DrawEncodeReply -/
def c30 : CC :=
 (.seq (.reg [
   ⟨(some 2), none, .x (.zero 54 5 [(.int .i64 0), (.int .i64 0), (.int .i64 0), (.str []), .nilslice])⟩])
 (.seq (.reg [
   ⟨(some 5), none, .f (.mv (.t 0))⟩,
   ⟨(some 6), none, .x (.call 72 [(.t 5)])⟩,
   ⟨(some 3), none, .x (.zero 118 3 [.nilslice, (.int .i64 0), (.int .u64 0)])⟩,
   ⟨none, none, .x (.st 3 (.t 3) (.t 6))⟩])
 (.seq (.reg [
   ⟨(some 7), none, .x (.call 85 [(.t 3)])⟩,
   ⟨(some 4), none, .x (.zero 54 5 [(.int .i64 0), (.int .i64 0), (.int .i64 0), (.str []), .nilslice])⟩,
   ⟨none, none, .x (.st 5 (.t 4) (.t 7))⟩])
 (.seq (.seq (.reg [
   ⟨(some 8), none, .x (.call 74 [(.t 3), (.c (.int .i64 16))])⟩])
 (.block 0 (.seq (.reg [
    ⟨(some 10), none, .f (.bin .eql (.t 8) (.c (.int .i64 0)))⟩,
    ⟨(some 9), none, .f (.mv (.t 10))⟩])
  (.cond (.t 9)
   (.reg [
     ⟨(some 11), none, .f (.fadr 0 (.t 4))⟩,
     ⟨none, none, .x (.st 1 (.t 11) (.c (.int .i64 (-1))))⟩])
   (.seq (.reg [
     ⟨(some 13), none, .f (.bin .eql (.t 8) (.c (.int .i64 1)))⟩,
     ⟨(some 12), none, .f (.mv (.t 13))⟩])
   (.cond (.t 12)
    (.reg [
      ⟨(some 14), none, .f (.fadr 1 (.t 4))⟩,
      ⟨none, none, .x (.st 1 (.t 14) (.c (.int .i64 256)))⟩])
    (.seq (.reg [
      ⟨(some 16), none, .f (.bin .eql (.t 8) (.c (.int .i64 2)))⟩,
      ⟨(some 15), none, .f (.mv (.t 16))⟩])
    (.cond (.t 15)
     (.reg [
       ⟨(some 17), none, .x (.call 74 [(.t 3), (.c (.int .i64 2))])⟩,
       ⟨(some 18), none, .f (.bin .add (.c (.int .i64 86400)) (.t 17))⟩,
       ⟨(some 19), none, .f (.fadr 2 (.t 4))⟩,
       ⟨none, none, .x (.st 1 (.t 19) (.t 18))⟩])
     (.seq (.reg [
       ⟨(some 21), none, .f (.bin .eql (.t 8) (.c (.int .i64 3)))⟩,
       ⟨(some 20), none, .f (.mv (.t 21))⟩])
     (.cond (.t 20)
      (.reg [
        ⟨(some 22), none, .x (.call 74 [(.t 3), (.c (.int .i64 2))])⟩,
        ⟨(some 23), none, .f (.bin .add (.c (.int .i64 8)) (.t 22))⟩,
        ⟨(some 24), none, .x (.mks 2 1 8 [(.int .i64 0)] (.t 23) (.t 23))⟩,
        ⟨(some 25), none, .f (.fadr 4 (.t 4))⟩,
        ⟨none, none, .x (.st 1 (.t 25) (.t 24))⟩])
      (.seq (.reg [
        ⟨(some 27), none, .f (.bin .eql (.t 8) (.c (.int .i64 4)))⟩,
        ⟨(some 26), none, .f (.mv (.t 27))⟩])
      (.cond (.t 26)
       (.reg [
         ⟨(some 28), none, .x (.bslice 2 1 [(.int .i64 0)] 1 [(0, (.c (.int .i64 4294967296)))])⟩,
         ⟨(some 29), none, .f (.fadr 4 (.t 4))⟩,
         ⟨none, none, .x (.st 1 (.t 29) (.t 28))⟩])
       (.seq (.reg [
         ⟨(some 31), none, .f (.bin .eql (.t 8) (.c (.int .i64 5)))⟩,
         ⟨(some 30), none, .f (.mv (.t 31))⟩])
       (.cond (.t 30)
        (.reg [
          ⟨(some 32), none, .f (.fadr 3 (.t 4))⟩,
          ⟨none, none, .x (.st 1 (.t 32) (.c (.str [45])))⟩])
        .skip))))))))))))))
 (.seq (.reg [
   ⟨(some 33), none, .f (.ldA 5 (.t 4))⟩,
   ⟨none, none, .x (.st 5 (.t 2) (.t 33))⟩])
 .ret)))))
theorem ok30 : fnComp Tryd.prog 30 = some (34, c30, [(.ldA 5 (.t 2))]) := by kernel_rfl

/-- loop.example/g00003/spec.DrawAnswerName -/
def c35 : CC :=
 (.seq (.reg [
   ⟨(some 2), none, .f (.mv (.c .nilslice))⟩,
   ⟨(some 3), none, .f (.mv (.c .nilslice))⟩])
 (.seq (.reg [
   ⟨(some 7), none, .f (.mv (.t 0))⟩,
   ⟨(some 8), none, .x (.call 72 [(.t 7)])⟩,
   ⟨(some 4), none, .x (.zero 118 3 [.nilslice, (.int .i64 0), (.int .u64 0)])⟩,
   ⟨none, none, .x (.st 3 (.t 4) (.t 8))⟩])
 (.seq (.reg [
   ⟨(some 10), none, .x (.call 73 [(.t 4)])⟩,
   ⟨(some 11), none, .x (.call 27 [(.t 10)])⟩,
   ⟨(some 9), none, .f (.mv (.t 11))⟩,
   ⟨(some 12), none, .f (.ext 0 (.t 9))⟩,
   ⟨(some 13), none, .f (.ext 1 (.t 9))⟩,
   ⟨(some 5), none, .f (.mv (.t 12))⟩,
   ⟨(some 6), none, .f (.mv (.t 13))⟩])
 (.seq (.reg [
   ⟨(some 14), none, .x (.call 88 [(.t 4)])⟩,
   ⟨(some 15), none, .f (.mv (.t 5))⟩,
   ⟨(some 16), none, .x (.call 89 [(.t 4), (.t 15)])⟩,
   ⟨(some 2), none, .f (.mv (.t 14))⟩,
   ⟨(some 3), none, .f (.mv (.t 16))⟩])
 .ret))))
theorem ok35 : fnComp Tryd.prog 35 = some (17, c35, [(.mv (.t 2)), (.mv (.t 3))]) := by kernel_rfl

/-- loop.example/g00003/laws.lwReply -/
def c34 : CC :=
 (.seq (.reg [
   ⟨(some 2), none, .x (.box 54 5 (.t 0))⟩,
   ⟨(some 3), none, .x (.box 54 5 (.t 1))⟩,
   ⟨(some 4), none, .f (.mv (.c (.bool false)))⟩])
 (.seq (.seq (.reg [
   ⟨(some 6), none, .f (.fadr 0 (.t 2))⟩,
   ⟨(some 7), none, .f (.ld (.t 6))⟩,
   ⟨(some 8), none, .f (.fadr 0 (.t 3))⟩,
   ⟨(some 9), none, .f (.ld (.t 8))⟩,
   ⟨(some 10), none, .f (.bin .neq (.t 7) (.t 9))⟩,
   ⟨(some 11), none, .f (.mv (.t 10))⟩,
   ⟨(some 12), (some (11, false)), .f (.fadr 1 (.t 2))⟩,
   ⟨(some 13), (some (11, false)), .f (.ld (.t 12))⟩,
   ⟨(some 14), (some (11, false)), .f (.fadr 1 (.t 3))⟩,
   ⟨(some 15), (some (11, false)), .f (.ld (.t 14))⟩,
   ⟨(some 16), (some (11, false)), .f (.bin .neq (.t 13) (.t 15))⟩,
   ⟨(some 17), none, .f (.pick (.t 11) (.c (.bool true)) (.t 16))⟩,
   ⟨(some 18), none, .f (.mv (.t 17))⟩,
   ⟨(some 19), (some (18, false)), .f (.fadr 2 (.t 2))⟩,
   ⟨(some 20), (some (18, false)), .f (.ld (.t 19))⟩,
   ⟨(some 21), (some (18, false)), .f (.fadr 2 (.t 3))⟩,
   ⟨(some 22), (some (18, false)), .f (.ld (.t 21))⟩,
   ⟨(some 23), (some (18, false)), .f (.bin .neq (.t 20) (.t 22))⟩,
   ⟨(some 24), none, .f (.pick (.t 18) (.c (.bool true)) (.t 23))⟩,
   ⟨(some 25), none, .f (.mv (.t 24))⟩,
   ⟨(some 26), (some (25, false)), .f (.fadr 3 (.t 2))⟩,
   ⟨(some 27), (some (25, false)), .f (.ld (.t 26))⟩,
   ⟨(some 28), (some (25, false)), .f (.fadr 3 (.t 3))⟩,
   ⟨(some 29), (some (25, false)), .f (.ld (.t 28))⟩,
   ⟨(some 30), (some (25, false)), .f (.bin .neq (.t 27) (.t 29))⟩,
   ⟨(some 31), none, .f (.pick (.t 25) (.c (.bool true)) (.t 30))⟩,
   ⟨(some 32), none, .f (.mv (.t 31))⟩,
   ⟨(some 33), (some (32, false)), .f (.fadr 4 (.t 2))⟩,
   ⟨(some 34), (some (32, false)), .f (.ld (.t 33))⟩,
   ⟨(some 35), (some (32, false)), .f (.len (.t 34))⟩,
   ⟨(some 36), (some (32, false)), .f (.fadr 4 (.t 3))⟩,
   ⟨(some 37), (some (32, false)), .f (.ld (.t 36))⟩,
   ⟨(some 38), (some (32, false)), .f (.len (.t 37))⟩,
   ⟨(some 39), (some (32, false)), .f (.bin .neq (.t 35) (.t 38))⟩,
   ⟨(some 40), none, .f (.pick (.t 32) (.c (.bool true)) (.t 39))⟩])
 (.cond (.t 40)
  (.seq (.reg [
    ⟨(some 4), none, .f (.mv (.c (.bool false)))⟩])
  .ret)
  .skip))
 (.seq (.seq (.reg [
   ⟨(some 5), none, .f (.mv (.c (.int .i64 0)))⟩])
 (.block 0 (.loop (.seq (.seq (.reg [
     ⟨(some 41), none, .f (.mv (.t 5))⟩,
     ⟨(some 42), none, .f (.fadr 4 (.t 2))⟩,
     ⟨(some 43), none, .f (.ld (.t 42))⟩,
     ⟨(some 44), none, .f (.len (.t 43))⟩,
     ⟨(some 45), none, .f (.bin .lss (.t 41) (.t 44))⟩])
   (.cond (.t 45)
    .skip
    (.exit 0)))
   (.seq (.block 1 (.seq (.dreg [
      ⟨(some 48), none, .f (.fadr 4 (.t 2))⟩,
      ⟨(some 49), none, .f (.ld (.t 48))⟩,
      ⟨(some 50), none, .f (.mv (.t 5))⟩,
      ⟨(some 51), none, .f (.iadr 1 (.t 49) (.t 50))⟩,
      ⟨(some 52), none, .f (.ld (.t 51))⟩,
      ⟨(some 53), none, .f (.fadr 4 (.t 3))⟩,
      ⟨(some 54), none, .f (.ld (.t 53))⟩,
      ⟨(some 55), none, .f (.mv (.t 5))⟩,
      ⟨(some 56), none, .f (.iadr 1 (.t 54) (.t 55))⟩,
      ⟨(some 57), none, .f (.ld (.t 56))⟩,
      ⟨(some 58), none, .f (.bin .neq (.t 52) (.t 57))⟩]
      [false, false, false, false, false, false, false, false, false, false, false] [[], [0], [], [1, 0, 2], [3, 1, 0, 2], [], [5], [], [6, 5, 7], [8, 6, 5, 7], [4, 3, 1, 0, 2, 9, 8, 6, 5, 7]] [0, 1, 2, 3, 4, 5, 6, 7, 8, 9, 10])
    (.cond (.t 58)
     (.seq (.reg [
       ⟨(some 4), none, .f (.mv (.c (.bool false)))⟩])
     .ret)
     .skip)))
   (.reg [
     ⟨(some 46), none, .f (.mv (.t 5))⟩,
     ⟨(some 47), none, .f (.bin .add (.t 46) (.c (.int .i64 1)))⟩,
     ⟨(some 5), none, .f (.mv (.t 47))⟩]))))))
 (.seq (.reg [
   ⟨(some 4), none, .f (.mv (.c (.bool true)))⟩])
 .ret))))
theorem ok34 : fnComp Tryd.prog 34 = some (59, c34, [(.mv (.t 4))]) := by kernel_rfl

/-- loop.example/g00003/spec.l01Begin -/
def c72 : CC :=
 (.seq (.reg [
   ⟨(some 2), none, .x (.zero 118 3 [.nilslice, (.int .i64 0), (.int .u64 0)])⟩])
 (.seq (.reg [
   ⟨(some 5), none, .f (.mv (.t 0))⟩,
   ⟨(some 6), none, .f (.build [.nilslice, (.int .i64 0), (.int .u64 0)] [(0, 1, (.t 5))])⟩,
   ⟨(some 3), none, .x (.zero 118 3 [.nilslice, (.int .i64 0), (.int .u64 0)])⟩,
   ⟨none, none, .x (.st 3 (.t 3) (.t 6))⟩])
 (.seq (.reg [
   ⟨(some 7), none, .f (.fadr 2 (.t 3))⟩,
   ⟨none, none, .x (.st 1 (.t 7) (.c (.int .u64 1469598103934665603)))⟩])
 (.seq (.seq (.reg [
   ⟨(some 4), none, .f (.mv (.c (.int .i64 0)))⟩])
 (.block 0 (.loop (.seq (.seq (.reg [
     ⟨(some 8), none, .f (.mv (.t 4))⟩,
     ⟨(some 9), none, .f (.mv (.t 0))⟩,
     ⟨(some 10), none, .f (.len (.t 9))⟩,
     ⟨(some 11), none, .f (.bin .lss (.t 8) (.t 10))⟩])
   (.cond (.t 11)
    .skip
    (.exit 0)))
   (.seq (.block 1 (.dreg [
      ⟨(some 14), none, .f (.fadr 2 (.t 3))⟩,
      ⟨(some 15), none, .f (.ld (.t 14))⟩,
      ⟨(some 16), none, .f (.mv (.t 0))⟩,
      ⟨(some 17), none, .f (.mv (.t 4))⟩,
      ⟨(some 18), none, .f (.iadr 1 (.t 16) (.t 17))⟩,
      ⟨(some 19), none, .f (.ld (.t 18))⟩,
      ⟨(some 20), none, .f (.cvI .u64 (.t 19))⟩,
      ⟨(some 21), none, .f (.bin .xor (.t 15) (.t 20))⟩,
      ⟨(some 22), none, .f (.bin .mul (.t 21) (.c (.int .u64 1099511628211)))⟩,
      ⟨(some 23), none, .f (.fadr 2 (.t 3))⟩,
      ⟨none, none, .x (.st 1 (.t 23) (.t 22))⟩]
      [false, false, false, false, false, false, false, false, false, false, true] [[], [0], [], [], [2, 3], [4, 2, 3], [5, 4, 2, 3], [1, 0, 6, 5, 4, 2, 3], [7, 1, 0, 6, 5, 4, 2, 3], [0, 1, 2, 3, 4, 5, 6, 7, 8], [9, 0, 1, 2, 3, 4, 5, 6, 7, 8]] [0, 1, 2, 3, 4, 5, 6, 7, 8, 9, 10]))
   (.reg [
     ⟨(some 12), none, .f (.mv (.t 4))⟩,
     ⟨(some 13), none, .f (.bin .add (.t 12) (.c (.int .i64 1)))⟩,
     ⟨(some 4), none, .f (.mv (.t 13))⟩]))))))
 (.seq (.reg [
   ⟨(some 24), none, .f (.ldA 3 (.t 3))⟩,
   ⟨none, none, .x (.st 3 (.t 2) (.t 24))⟩])
 .ret)))))
theorem ok72 : fnComp Tryd.prog 72 = some (25, c72, [(.ldA 3 (.t 2))]) := by kernel_rfl

/-- loop.example/g00003/spec.l19Query -/
def c73 : CC :=
 (.seq (.reg [
   ⟨(some 2), none, .x (.zero 46 2 [(.int .i64 0), (.str [])])⟩])
 (.seq (.reg [
   ⟨(some 4), none, .f (.mv (.t 0))⟩,
   ⟨(some 5), none, .x (.call 74 [(.t 4), (.c (.int .i64 65536))])⟩,
   ⟨(some 6), none, .f (.mv (.t 0))⟩,
   ⟨(some 7), none, .x (.call 127 [(.t 6)])⟩,
   ⟨(some 8), none, .f (.build [(.int .i64 0), (.str [])] [(0, 1, (.t 5)), (1, 1, (.t 7))])⟩,
   ⟨(some 3), none, .x (.zero 46 2 [(.int .i64 0), (.str [])])⟩,
   ⟨none, none, .x (.st 2 (.t 3) (.t 8))⟩])
 (.seq (.seq (.reg [
   ⟨(some 9), none, .f (.mv (.t 0))⟩,
   ⟨(some 10), none, .x (.call 105 [(.t 9)])⟩])
 (.cond (.t 10)
  (.reg [
    ⟨(some 11), none, .f (.fadr 1 (.t 3))⟩,
    ⟨none, none, .x (.st 1 (.t 11) (.c (.str [102, 105, 108, 101, 115, 46, 108, 97, 110])))⟩])
  .skip))
 (.seq (.reg [
   ⟨(some 12), none, .f (.ldA 2 (.t 3))⟩,
   ⟨none, none, .x (.st 2 (.t 2) (.t 12))⟩])
 .ret))))
theorem ok73 : fnComp Tryd.prog 73 = some (13, c73, [(.ldA 2 (.t 2))]) := by kernel_rfl

/-- loop.example/g00003/spec.l01Next -/
def c74 : CC :=
 (.seq (.reg [
   ⟨(some 4), none, .f (.mv (.c (.int .i64 0)))⟩])
 (.seq (.seq (.reg [
   ⟨(some 6), none, .f (.mv (.t 1))⟩,
   ⟨(some 7), none, .f (.bin .leq (.t 6) (.c (.int .i64 0)))⟩])
 (.cond (.t 7)
  (.seq (.reg [
    ⟨(some 4), none, .f (.mv (.c (.int .i64 0)))⟩])
  .ret)
  .skip))
 (.seq (.reg [
   ⟨(some 8), none, .f (.mv (.t 0))⟩,
   ⟨(some 9), none, .f (.mv (.t 0))⟩,
   ⟨(some 10), none, .f (.nck (.t 9))⟩,
   ⟨(some 11), none, .f (.fadr 2 (.t 10))⟩,
   ⟨(some 12), none, .f (.ld (.t 11))⟩,
   ⟨(some 13), none, .f (.bin .mul (.t 12) (.c (.int .u64 6364136223846793005)))⟩,
   ⟨(some 14), none, .f (.bin .add (.t 13) (.c (.int .u64 1442695040888963407)))⟩,
   ⟨(some 15), none, .f (.nck (.t 8))⟩,
   ⟨(some 16), none, .f (.fadr 2 (.t 15))⟩,
   ⟨none, none, .x (.st 1 (.t 16) (.t 14))⟩])
 (.seq (.reg [
   ⟨(some 17), none, .f (.mv (.t 0))⟩,
   ⟨(some 18), none, .f (.nck (.t 17))⟩,
   ⟨(some 19), none, .f (.fadr 2 (.t 18))⟩,
   ⟨(some 20), none, .f (.ld (.t 19))⟩,
   ⟨(some 21), none, .f (.bin .shr (.t 20) (.c (.int .u64 33)))⟩,
   ⟨(some 5), none, .f (.mv (.t 21))⟩])
 (.seq (.seq (.dreg [
   ⟨(some 22), none, .f (.mv (.t 0))⟩,
   ⟨(some 23), none, .f (.nck (.t 22))⟩,
   ⟨(some 24), none, .f (.fadr 1 (.t 23))⟩,
   ⟨(some 25), none, .f (.ld (.t 24))⟩,
   ⟨(some 26), none, .f (.mv (.t 0))⟩,
   ⟨(some 27), none, .f (.nck (.t 26))⟩,
   ⟨(some 28), none, .f (.fadr 0 (.t 27))⟩,
   ⟨(some 29), none, .f (.ld (.t 28))⟩,
   ⟨(some 30), none, .f (.len (.t 29))⟩,
   ⟨(some 31), none, .f (.bin .lss (.t 25) (.t 30))⟩]
   [false, false, false, false, false, false, false, false, false, false] [[], [0], [1, 0], [2, 1, 0], [], [4], [5, 4], [6, 5, 4], [7, 6, 5, 4], [3, 2, 1, 0, 8, 7, 6, 5, 4]] [0, 1, 2, 3, 4, 5, 6, 7, 8, 9])
 (.cond (.t 31)
  (.seq (.dreg [
    ⟨(some 32), none, .f (.mv (.t 5))⟩,
    ⟨(some 33), none, .f (.mv (.t 0))⟩,
    ⟨(some 34), none, .f (.nck (.t 33))⟩,
    ⟨(some 35), none, .f (.fadr 0 (.t 34))⟩,
    ⟨(some 36), none, .f (.ld (.t 35))⟩,
    ⟨(some 37), none, .f (.mv (.t 0))⟩,
    ⟨(some 38), none, .f (.nck (.t 37))⟩,
    ⟨(some 39), none, .f (.fadr 1 (.t 38))⟩,
    ⟨(some 40), none, .f (.ld (.t 39))⟩,
    ⟨(some 41), none, .f (.iadr 1 (.t 36) (.t 40))⟩,
    ⟨(some 42), none, .f (.ld (.t 41))⟩,
    ⟨(some 43), none, .f (.cvI .u64 (.t 42))⟩,
    ⟨(some 44), none, .f (.bin .xor (.t 32) (.t 43))⟩,
    ⟨(some 5), none, .f (.mv (.t 44))⟩]
    [false, false, false, false, false, false, false, false, false, false, false, false, false, true] [[], [], [1], [2, 1], [3, 2, 1], [], [5], [6, 5], [7, 6, 5], [4, 3, 2, 1, 8, 7, 6, 5], [9, 4, 3, 2, 1, 8, 7, 6, 5], [10, 9, 4, 3, 2, 1, 8, 7, 6, 5], [0, 11, 10, 9, 4, 3, 2, 1, 8, 7, 6, 5], [12, 0, 11, 10, 9, 4, 3, 2, 1, 8, 7, 6, 5]] [0, 1, 2, 3, 4, 5, 6, 7, 8, 9, 10, 11, 12, 13])
  (.reg [
    ⟨(some 45), none, .f (.mv (.t 0))⟩,
    ⟨(some 46), none, .f (.mv (.t 0))⟩,
    ⟨(some 47), none, .f (.nck (.t 46))⟩,
    ⟨(some 48), none, .f (.fadr 1 (.t 47))⟩,
    ⟨(some 49), none, .f (.ld (.t 48))⟩,
    ⟨(some 50), none, .f (.bin .add (.t 49) (.c (.int .i64 1)))⟩,
    ⟨(some 51), none, .f (.nck (.t 45))⟩,
    ⟨(some 52), none, .f (.fadr 1 (.t 51))⟩,
    ⟨none, none, .x (.st 1 (.t 52) (.t 50))⟩]))
  .skip))
 (.seq (.reg [
   ⟨(some 53), none, .f (.mv (.t 5))⟩,
   ⟨(some 54), none, .f (.mv (.t 1))⟩,
   ⟨(some 55), none, .f (.cvI .u64 (.t 54))⟩,
   ⟨(some 56), none, .f (.bin .rem (.t 53) (.t 55))⟩,
   ⟨(some 57), none, .f (.cvI .i64 (.t 56))⟩,
   ⟨(some 4), none, .f (.mv (.t 57))⟩])
 .ret))))))
theorem ok74 : fnComp Tryd.prog 74 = some (58, c74, [(.mv (.t 4))]) := by kernel_rfl

/-- loop.example/g00003/spec.l02Bend -/
def c75 : CC :=
 (.seq (.reg [
   ⟨(some 6), none, .f (.mv (.c (.str [])))⟩])
 (.seq (.seq (.reg [
   ⟨(some 10), none, .f (.mv (.t 0))⟩,
   ⟨(some 11), none, .f (.mv (.t 2))⟩,
   ⟨(some 12), none, .x (.call 74 [(.t 10), (.t 11)])⟩,
   ⟨(some 13), none, .f (.bin .gtr (.t 12) (.c (.int .i64 0)))⟩])
 (.cond (.t 13)
  (.seq (.reg [
    ⟨(some 14), none, .f (.mv (.t 1))⟩,
    ⟨(some 6), none, .f (.mv (.t 14))⟩])
  .ret)
  .skip))
 (.seq (.reg [
   ⟨(some 7), none, .f (.mv (.c (.str [46, 58, 47, 48, 49, 50, 57, 97, 71, 32, 45, 10])))⟩])
 (.seq (.reg [
   ⟨(some 15), none, .f (.mv (.t 0))⟩,
   ⟨(some 16), none, .f (.mv (.t 1))⟩,
   ⟨(some 17), none, .f (.lenS (.t 16))⟩,
   ⟨(some 18), none, .f (.bin .add (.t 17) (.c (.int .i64 1)))⟩,
   ⟨(some 19), none, .x (.call 74 [(.t 15), (.t 18)])⟩,
   ⟨(some 8), none, .f (.mv (.t 19))⟩])
 (.seq (.reg [
   ⟨(some 20), none, .f (.mv (.t 0))⟩,
   ⟨(some 21), none, .f (.mv (.t 7))⟩,
   ⟨(some 22), none, .f (.lenS (.t 21))⟩,
   ⟨(some 23), none, .x (.call 74 [(.t 20), (.t 22)])⟩,
   ⟨(some 9), none, .f (.mv (.t 23))⟩])
 (.seq (.seq (.reg [
   ⟨(some 24), none, .f (.mv (.t 0))⟩,
   ⟨(some 25), none, .x (.call 74 [(.t 24), (.c (.int .i64 3))])⟩])
 (.block 0 (.seq (.reg [
    ⟨(some 27), none, .f (.bin .eql (.t 25) (.c (.int .i64 0)))⟩,
    ⟨(some 26), none, .f (.mv (.t 27))⟩])
  (.cond (.t 26)
   (.seq (.reg [
     ⟨(some 28), none, .f (.mv (.t 1))⟩,
     ⟨(some 29), none, .f (.mv (.t 8))⟩,
     ⟨(some 30), none, .f (.slcS (.t 28) none (some (.t 29)))⟩,
     ⟨(some 6), none, .f (.mv (.t 30))⟩])
   .ret)
   (.seq (.reg [
     ⟨(some 32), none, .f (.bin .eql (.t 25) (.c (.int .i64 1)))⟩,
     ⟨(some 31), none, .f (.mv (.t 32))⟩])
   (.cond (.t 31)
    (.seq (.dreg [
      ⟨(some 33), none, .f (.mv (.t 1))⟩,
      ⟨(some 34), none, .f (.mv (.t 8))⟩,
      ⟨(some 35), none, .f (.slcS (.t 33) none (some (.t 34)))⟩,
      ⟨(some 36), none, .f (.mv (.t 7))⟩,
      ⟨(some 37), none, .f (.mv (.t 9))⟩,
      ⟨(some 38), none, .f (.mv (.t 9))⟩,
      ⟨(some 39), none, .f (.bin .add (.t 38) (.c (.int .i64 1)))⟩,
      ⟨(some 40), none, .f (.slcS (.t 36) (some (.t 37)) (some (.t 39)))⟩,
      ⟨(some 41), none, .f (.bin .add (.t 35) (.t 40))⟩,
      ⟨(some 42), none, .f (.mv (.t 1))⟩,
      ⟨(some 43), none, .f (.mv (.t 8))⟩,
      ⟨(some 44), none, .f (.slcS (.t 42) (some (.t 43)) none)⟩,
      ⟨(some 45), none, .f (.bin .add (.t 41) (.t 44))⟩,
      ⟨(some 6), none, .f (.mv (.t 45))⟩]
      [false, false, false, false, false, false, false, false, false, false, false, false, false, false] [[], [], [0, 1], [], [], [], [5], [3, 4, 6, 5], [2, 0, 1, 7, 3, 4, 6, 5], [], [], [9, 10], [8, 2, 0, 1, 7, 3, 4, 6, 5, 11, 9, 10], [12, 8, 2, 0, 1, 7, 3, 4, 6, 5, 11, 9, 10]] [0, 1, 2, 3, 4, 5, 6, 7, 8, 9, 10, 11, 12, 13])
    .ret)
    .skip))))))
 (.seq (.seq (.reg [
   ⟨(some 46), none, .f (.mv (.t 8))⟩,
   ⟨(some 47), none, .f (.mv (.t 1))⟩,
   ⟨(some 48), none, .f (.lenS (.t 47))⟩,
   ⟨(some 49), none, .f (.bin .lss (.t 46) (.t 48))⟩])
 (.cond (.t 49)
  (.seq (.dreg [
    ⟨(some 50), none, .f (.mv (.t 1))⟩,
    ⟨(some 51), none, .f (.mv (.t 8))⟩,
    ⟨(some 52), none, .f (.slcS (.t 50) none (some (.t 51)))⟩,
    ⟨(some 53), none, .f (.mv (.t 7))⟩,
    ⟨(some 54), none, .f (.mv (.t 9))⟩,
    ⟨(some 55), none, .f (.mv (.t 9))⟩,
    ⟨(some 56), none, .f (.bin .add (.t 55) (.c (.int .i64 1)))⟩,
    ⟨(some 57), none, .f (.slcS (.t 53) (some (.t 54)) (some (.t 56)))⟩,
    ⟨(some 58), none, .f (.bin .add (.t 52) (.t 57))⟩,
    ⟨(some 59), none, .f (.mv (.t 1))⟩,
    ⟨(some 60), none, .f (.mv (.t 8))⟩,
    ⟨(some 61), none, .f (.bin .add (.t 60) (.c (.int .i64 1)))⟩,
    ⟨(some 62), none, .f (.slcS (.t 59) (some (.t 61)) none)⟩,
    ⟨(some 63), none, .f (.bin .add (.t 58) (.t 62))⟩,
    ⟨(some 6), none, .f (.mv (.t 63))⟩]
    [false, false, false, false, false, false, false, false, false, false, false, false, false, false, false] [[], [], [0, 1], [], [], [], [5], [3, 4, 6, 5], [2, 0, 1, 7, 3, 4, 6, 5], [], [], [10], [9, 11, 10], [8, 2, 0, 1, 7, 3, 4, 6, 5, 12, 9, 11, 10], [13, 8, 2, 0, 1, 7, 3, 4, 6, 5, 12, 9, 11, 10]] [0, 1, 2, 3, 4, 5, 6, 7, 8, 9, 10, 11, 12, 13, 14])
  .ret)
  .skip))
 (.seq (.reg [
   ⟨(some 64), none, .f (.mv (.t 1))⟩,
   ⟨(some 6), none, .f (.mv (.t 64))⟩])
 .ret))))))))
theorem ok75 : fnComp Tryd.prog 75 = some (65, c75, [(.mv (.t 6))]) := by kernel_rfl

/-- loop.example/g00003/spec.l19Reply -/
def c85 : CC :=
 (.seq (.reg [
   ⟨(some 2), none, .x (.zero 54 5 [(.int .i64 0), (.int .i64 0), (.int .i64 0), (.str []), .nilslice])⟩])
 (.seq (.treg [
   ⟨(some 6), none, .f (.mv (.t 0))⟩,
   ⟨(some 7), none, .x (.call 74 [(.t 6), (.c (.int .i64 65536))])⟩,
   ⟨(some 8), none, .x (.bslice 2 1 [(.int .i64 0)] 4 [(0, (.c (.int .i64 0))), (1, (.c (.int .i64 0))), (2, (.c (.int .i64 20))), (3, (.c (.int .i64 3)))])⟩,
   ⟨(some 9), none, .f (.mv (.t 0))⟩,
   ⟨(some 10), none, .x (.call 74 [(.t 9), (.c (.int .i64 4))])⟩,
   ⟨(some 11), none, .f (.iadr 1 (.t 8) (.t 10))⟩,
   ⟨(some 12), none, .f (.ld (.t 11))⟩,
   ⟨(some 13), none, .f (.mv (.t 0))⟩,
   ⟨(some 14), none, .x (.call 74 [(.t 13), (.c (.int .i64 300))])⟩,
   ⟨(some 15), none, .f (.mv (.t 0))⟩,
   ⟨(some 16), none, .x (.call 127 [(.t 15)])⟩,
   ⟨(some 17), none, .f (.build [(.int .i64 0), (.int .i64 0), (.int .i64 0), (.str []), .nilslice] [(0, 1, (.t 7)), (1, 1, (.t 12)), (2, 1, (.t 14)), (3, 1, (.t 16))])⟩,
   ⟨(some 3), none, .x (.zero 54 5 [(.int .i64 0), (.int .i64 0), (.int .i64 0), (.str []), .nilslice])⟩,
   ⟨none, none, .x (.st 5 (.t 3) (.t 17))⟩]
   [[], [0], [], [], [3, 1, 0], [2, 4, 3, 1, 0], [5, 2, 4, 3, 1, 0], [], [7, 4, 3, 1, 0], [], [9, 8, 7, 4, 3, 1, 0], [1, 0, 6, 5, 2, 4, 3, 8, 7, 10, 9], [], [12, 11, 1, 0, 6, 5, 2, 4, 3, 8, 7, 10, 9]] (.fl 0 (.fl 3 (.fl 7 (.fl 9 (.br 1 (.br 2 (.br 4 (.fl 5 (.fl 6 (.br 8 (.br 10 (.fl 11 (.br 12 (.br 13 .fin .stop) .stop)) (.br 12 (.br 10 (.fl 11 (.br 13 .fin .stop)) .stop) .stop)) (.br 12 (.br 8 (.br 10 (.fl 11 (.br 13 .fin .stop)) .stop) .stop) .stop)))) (.br 12 (.br 4 (.fl 5 (.fl 6 (.br 8 (.br 10 (.fl 11 (.br 13 .fin .stop)) .stop) .stop))) .stop) .stop)) (.br 4 (.br 2 (.fl 5 (.fl 6 (.br 8 (.br 10 (.fl 11 (.br 12 (.br 13 .fin .stop) .stop)) (.br 12 (.br 10 (.fl 11 (.br 13 .fin .stop)) .stop) .stop)) (.br 12 (.br 8 (.br 10 (.fl 11 (.br 13 .fin .stop)) .stop) .stop) .stop)))) (.br 8 (.br 2 (.fl 5 (.fl 6 (.br 10 (.fl 11 (.br 12 (.br 13 .fin .stop) .stop)) (.br 12 (.br 10 (.fl 11 (.br 13 .fin .stop)) .stop) .stop)))) (.br 10 (.br 2 (.fl 5 (.fl 6 (.fl 11 (.br 12 (.br 13 .fin .stop) .stop)))) (.br 12 (.br 2 (.fl 5 (.fl 6 (.fl 11 (.br 13 .fin .stop)))) .stop) .stop)) (.br 12 (.br 2 (.fl 5 (.fl 6 (.br 10 (.fl 11 (.br 13 .fin .stop)) .stop))) (.br 10 (.br 2 (.fl 5 (.fl 6 (.fl 11 (.br 13 .fin .stop)))) .stop) .stop)) .stop))) (.br 12 (.br 2 (.fl 5 (.fl 6 (.br 8 (.br 10 (.fl 11 (.br 13 .fin .stop)) .stop) .stop))) (.br 8 (.br 2 (.fl 5 (.fl 6 (.br 10 (.fl 11 (.br 13 .fin .stop)) .stop))) (.br 10 (.br 2 (.fl 5 (.fl 6 (.fl 11 (.br 13 .fin .stop)))) .stop) .stop)) .stop)) .stop))) (.br 12 (.br 2 (.br 4 (.fl 5 (.fl 6 (.br 8 (.br 10 (.fl 11 (.br 13 .fin .stop)) .stop) .stop))) .stop) (.br 4 (.br 2 (.fl 5 (.fl 6 (.br 8 (.br 10 (.fl 11 (.br 13 .fin .stop)) .stop) .stop))) (.br 8 (.br 2 (.fl 5 (.fl 6 (.br 10 (.fl 11 (.br 13 .fin .stop)) .stop))) (.br 10 (.br 2 (.fl 5 (.fl 6 (.fl 11 (.br 13 .fin .stop)))) .stop) .stop)) .stop)) .stop)) .stop))) (.br 2 (.br 1 (.br 4 (.fl 5 (.fl 6 (.br 8 (.br 10 (.fl 11 (.br 12 (.br 13 .fin .stop) .stop)) (.br 12 (.br 10 (.fl 11 (.br 13 .fin .stop)) .stop) .stop)) (.br 12 (.br 8 (.br 10 (.fl 11 (.br 13 .fin .stop)) .stop) .stop) .stop)))) (.br 12 (.br 4 (.fl 5 (.fl 6 (.br 8 (.br 10 (.fl 11 (.br 13 .fin .stop)) .stop) .stop))) .stop) .stop)) (.br 12 (.br 1 (.br 4 (.fl 5 (.fl 6 (.br 8 (.br 10 (.fl 11 (.br 13 .fin .stop)) .stop) .stop))) .stop) .stop) .stop)) (.br 12 (.br 1 (.br 2 (.br 4 (.fl 5 (.fl 6 (.br 8 (.br 10 (.fl 11 (.br 13 .fin .stop)) .stop) .stop))) .stop) (.br 4 (.br 2 (.fl 5 (.fl 6 (.br 8 (.br 10 (.fl 11 (.br 13 .fin .stop)) .stop) .stop))) (.br 8 (.br 2 (.fl 5 (.fl 6 (.br 10 (.fl 11 (.br 13 .fin .stop)) .stop))) (.br 10 (.br 2 (.fl 5 (.fl 6 (.fl 11 (.br 13 .fin .stop)))) .stop) .stop)) .stop)) .stop)) (.br 2 (.br 1 (.br 4 (.fl 5 (.fl 6 (.br 8 (.br 10 (.fl 11 (.br 13 .fin .stop)) .stop) .stop))) .stop) .stop) .stop)) .stop))))))))
 (.seq (.reg [
   ⟨(some 18), none, .f (.mv (.t 0))⟩,
   ⟨(some 19), none, .x (.call 74 [(.t 18), (.c (.int .i64 9))])⟩,
   ⟨(some 4), none, .f (.mv (.t 19))⟩])
 (.seq (.seq (.reg [
   ⟨(some 5), none, .f (.mv (.c (.int .i64 0)))⟩])
 (.block 0 (.loop (.seq (.seq (.reg [
     ⟨(some 20), none, .f (.mv (.t 5))⟩,
     ⟨(some 21), none, .f (.mv (.t 4))⟩,
     ⟨(some 22), none, .f (.bin .lss (.t 20) (.t 21))⟩,
     ⟨(some 23), none, .f (.mv (.t 22))⟩,
     ⟨(some 24), (some (23, true)), .f (.fadr 1 (.t 3))⟩,
     ⟨(some 25), (some (23, true)), .f (.ld (.t 24))⟩,
     ⟨(some 26), (some (23, true)), .f (.bin .eql (.t 25) (.c (.int .i64 0)))⟩,
     ⟨(some 27), none, .f (.pick (.t 23) (.t 26) (.c (.bool false)))⟩])
   (.cond (.t 27)
    .skip
    (.exit 0)))
   (.seq (.block 1 (.dreg [
      ⟨(some 30), none, .f (.fadr 4 (.t 3))⟩,
      ⟨(some 31), none, .f (.ld (.t 30))⟩,
      ⟨(some 32), none, .f (.mv (.t 0))⟩,
      ⟨(some 33), none, .x (.call 131 [(.t 32)])⟩,
      ⟨(some 34), none, .x (.bslice 2 1 [(.int .i64 0)] 1 [(0, (.t 33))])⟩,
      ⟨(some 35), none, .x (.app 2 1 8 (.t 31) (.t 34))⟩,
      ⟨(some 36), none, .f (.fadr 4 (.t 3))⟩,
      ⟨none, none, .x (.st 1 (.t 36) (.t 35))⟩]
      [false, false, false, true, true, true, false, true] [[], [0], [], [2], [3, 2], [1, 0, 4, 3, 2], [0, 1, 2, 3, 4, 5], [6, 0, 1, 2, 3, 4, 5]] [0, 1, 2, 3, 4, 5, 6, 7]))
   (.reg [
     ⟨(some 28), none, .f (.mv (.t 5))⟩,
     ⟨(some 29), none, .f (.bin .add (.t 28) (.c (.int .i64 1)))⟩,
     ⟨(some 5), none, .f (.mv (.t 29))⟩]))))))
 (.seq (.reg [
   ⟨(some 37), none, .f (.ldA 5 (.t 3))⟩,
   ⟨none, none, .x (.st 5 (.t 2) (.t 37))⟩])
 .ret)))))
theorem ok85 : fnComp Tryd.prog 85 = some (38, c85, [(.ldA 5 (.t 2))]) := by kernel_rfl

/-- loop.example/g00003/spec.l19Zone -/
def c88 : CC :=
 (.seq (.reg [
   ⟨(some 2), none, .f (.mv (.c .nilslice))⟩])
 (.seq (.reg [
   ⟨(some 7), none, .x (.bslice 65 3 [(.str []), (.int .i64 0), (.int .i64 0)] 0 [])⟩,
   ⟨(some 3), none, .f (.mv (.t 7))⟩])
 (.seq (.reg [
   ⟨(some 8), none, .f (.mv (.t 0))⟩,
   ⟨(some 9), none, .x (.call 74 [(.t 8), (.c (.int .i64 14))])⟩,
   ⟨(some 4), none, .f (.mv (.t 9))⟩])
 (.seq (.seq (.reg [
   ⟨(some 5), none, .f (.mv (.c (.int .i64 0)))⟩])
 (.block 0 (.loop (.seq (.seq (.reg [
     ⟨(some 10), none, .f (.mv (.t 5))⟩,
     ⟨(some 11), none, .f (.mv (.t 4))⟩,
     ⟨(some 12), none, .f (.bin .lss (.t 10) (.t 11))⟩])
   (.cond (.t 12)
    .skip
    (.exit 0)))
   (.seq (.block 1 (.seq (.reg [
      ⟨(some 15), none, .f (.mv (.t 0))⟩,
      ⟨(some 16), none, .x (.call 127 [(.t 15)])⟩,
      ⟨(some 17), none, .f (.mv (.t 0))⟩,
      ⟨(some 18), none, .x (.call 131 [(.t 17)])⟩,
      ⟨(some 19), none, .f (.mv (.t 0))⟩,
      ⟨(some 20), none, .x (.call 74 [(.t 19), (.c (.int .i64 200))])⟩,
      ⟨(some 21), none, .f (.build [(.str []), (.int .i64 0), (.int .i64 0)] [(0, 1, (.t 16)), (1, 1, (.t 18)), (2, 1, (.t 20))])⟩,
      ⟨(some 6), none, .x (.zero 65 3 [(.str []), (.int .i64 0), (.int .i64 0)])⟩,
      ⟨none, none, .x (.st 3 (.t 6) (.t 21))⟩])
    (.seq (.seq (.reg [
      ⟨(some 22), none, .f (.mv (.t 0))⟩,
      ⟨(some 23), none, .x (.call 74 [(.t 22), (.c (.int .i64 4))])⟩,
      ⟨(some 24), none, .f (.bin .gtr (.t 23) (.c (.int .i64 0)))⟩])
    (.cond (.t 24)
     (.reg [
       ⟨(some 25), none, .f (.fadr 0 (.t 6))⟩,
       ⟨none, none, .x (.st 1 (.t 25) (.c (.str [102, 105, 108, 101, 115, 46, 108, 97, 110])))⟩])
     .skip))
    (.seq (.seq (.reg [
      ⟨(some 26), none, .f (.mv (.t 0))⟩,
      ⟨(some 27), none, .x (.call 74 [(.t 26), (.c (.int .i64 12))])⟩])
    (.block 2 (.seq (.reg [
       ⟨(some 29), none, .f (.bin .eql (.t 27) (.c (.int .i64 0)))⟩,
       ⟨(some 28), none, .f (.mv (.t 29))⟩])
     (.cond (.t 28)
      (.reg [
        ⟨(some 30), none, .f (.fadr 1 (.t 6))⟩,
        ⟨none, none, .x (.st 1 (.t 30) (.c (.int .i64 (-1))))⟩])
      (.seq (.reg [
        ⟨(some 32), none, .f (.bin .eql (.t 27) (.c (.int .i64 1)))⟩,
        ⟨(some 31), none, .f (.mv (.t 32))⟩])
      (.cond (.t 31)
       (.reg [
         ⟨(some 33), none, .f (.mv (.t 0))⟩,
         ⟨(some 34), none, .x (.call 74 [(.t 33), (.c (.int .i64 2))])⟩,
         ⟨(some 35), none, .f (.bin .add (.c (.int .i64 86400)) (.t 34))⟩,
         ⟨(some 36), none, .f (.fadr 2 (.t 6))⟩,
         ⟨none, none, .x (.st 1 (.t 36) (.t 35))⟩])
       (.seq (.reg [
         ⟨(some 38), none, .f (.bin .eql (.t 27) (.c (.int .i64 2)))⟩,
         ⟨(some 37), none, .f (.mv (.t 38))⟩])
       (.cond (.t 37)
        (.reg [
          ⟨(some 39), none, .f (.fadr 2 (.t 6))⟩,
          ⟨none, none, .x (.st 1 (.t 39) (.c (.int .i64 (-1))))⟩])
        .skip))))))))
    (.reg [
      ⟨(some 40), none, .f (.mv (.t 3))⟩,
      ⟨(some 41), none, .f (.ldA 3 (.t 6))⟩,
      ⟨(some 42), none, .x (.bslice 65 3 [(.str []), (.int .i64 0), (.int .i64 0)] 1 [(0, (.t 41))])⟩,
      ⟨(some 43), none, .x (.app 65 3 32 (.t 40) (.t 42))⟩,
      ⟨(some 3), none, .f (.mv (.t 43))⟩])))))
   (.reg [
     ⟨(some 13), none, .f (.mv (.t 5))⟩,
     ⟨(some 14), none, .f (.bin .add (.t 13) (.c (.int .i64 1)))⟩,
     ⟨(some 5), none, .f (.mv (.t 14))⟩]))))))
 (.seq (.reg [
   ⟨(some 44), none, .f (.mv (.t 3))⟩,
   ⟨(some 2), none, .f (.mv (.t 44))⟩])
 .ret)))))
theorem ok88 : fnComp Tryd.prog 88 = some (45, c88, [(.mv (.t 2))]) := by kernel_rfl

/-- loop.example/g00003/spec.l19Cut -/
def c89 : CC :=
 (.seq (.reg [
   ⟨(some 4), none, .f (.mv (.c .nilslice))⟩])
 (.seq (.seq (.reg [
   ⟨(some 6), none, .f (.mv (.t 0))⟩,
   ⟨(some 7), none, .x (.call 74 [(.t 6), (.c (.int .i64 10))])⟩])
 (.block 0 (.seq (.reg [
    ⟨(some 9), none, .f (.bin .eql (.t 7) (.c (.int .i64 0)))⟩,
    ⟨(some 8), none, .f (.mv (.t 9))⟩])
  (.cond (.t 8)
   (.seq (.reg [
     ⟨(some 10), none, .f (.mv (.t 1))⟩,
     ⟨(some 11), none, .f (.mv (.t 0))⟩,
     ⟨(some 12), none, .f (.mv (.t 1))⟩,
     ⟨(some 13), none, .f (.len (.t 12))⟩,
     ⟨(some 14), none, .f (.bin .add (.t 13) (.c (.int .i64 1)))⟩,
     ⟨(some 15), none, .x (.call 74 [(.t 11), (.t 14)])⟩,
     ⟨(some 16), none, .f (.slc 1 (.t 10) none (some (.t 15)) none)⟩,
     ⟨(some 4), none, .f (.mv (.t 16))⟩])
   .ret)
   (.seq (.reg [
     ⟨(some 18), none, .f (.bin .eql (.t 7) (.c (.int .i64 1)))⟩,
     ⟨(some 17), none, .f (.mv (.t 18))⟩])
   (.cond (.t 17)
    (.seq (.reg [
      ⟨(some 19), none, .f (.mv (.t 1))⟩,
      ⟨(some 20), none, .x (.bslice 5 1 [(.int .u8 0)] 1 [(0, (.c (.int .u8 7)))])⟩,
      ⟨(some 21), none, .x (.app 5 1 1 (.t 19) (.t 20))⟩,
      ⟨(some 4), none, .f (.mv (.t 21))⟩])
    .ret)
    (.seq (.reg [
      ⟨(some 23), none, .f (.bin .eql (.t 7) (.c (.int .i64 2)))⟩,
      ⟨(some 22), none, .f (.mv (.t 23))⟩])
    (.cond (.t 22)
     (.seq (.reg [
       ⟨(some 24), none, .f (.mv (.t 0))⟩,
       ⟨(some 25), none, .f (.mv (.t 1))⟩,
       ⟨(some 26), none, .x (.call 135 [(.t 24), (.t 25), (.c (.int .i64 6))])⟩,
       ⟨(some 4), none, .f (.mv (.t 26))⟩])
     .ret)
     (.seq (.reg [
       ⟨(some 28), none, .f (.bin .eql (.t 7) (.c (.int .i64 3)))⟩,
       ⟨(some 27), none, .f (.mv (.t 28))⟩])
     (.cond (.t 27)
      (.seq (.reg [
        ⟨(some 29), none, .f (.mv (.t 1))⟩,
        ⟨(some 30), none, .x (.call 109 [(.t 29)])⟩,
        ⟨(some 5), none, .f (.mv (.t 30))⟩])
      (.seq (.seq (.reg [
        ⟨(some 31), none, .f (.mv (.t 5))⟩,
        ⟨(some 32), none, .f (.len (.t 31))⟩,
        ⟨(some 33), none, .f (.bin .gtr (.t 32) (.c (.int .i64 2)))⟩])
      (.cond (.t 33)
       (.reg [
         ⟨(some 34), none, .f (.mv (.t 5))⟩,
         ⟨(some 35), none, .f (.mv (.t 0))⟩,
         ⟨(some 36), none, .x (.call 74 [(.t 35), (.c (.int .i64 3))])⟩,
         ⟨(some 37), none, .f (.cvI .u8 (.t 36))⟩,
         ⟨(some 38), none, .f (.iadr 1 (.t 34) (.c (.int .i64 2)))⟩,
         ⟨none, none, .x (.st 1 (.t 38) (.t 37))⟩])
       .skip))
      (.seq (.reg [
        ⟨(some 39), none, .f (.mv (.t 5))⟩,
        ⟨(some 4), none, .f (.mv (.t 39))⟩])
      .ret)))
      .skip))))))))))
 (.seq (.reg [
   ⟨(some 40), none, .f (.mv (.t 1))⟩,
   ⟨(some 4), none, .f (.mv (.t 40))⟩])
 .ret)))
theorem ok89 : fnComp Tryd.prog 89 = some (41, c89, [(.mv (.t 4))]) := by kernel_rfl

/-- loop.example/g00003/spec.l19Name -/
def c127 : CC :=
 (.seq (.reg [
   ⟨(some 2), none, .f (.mv (.c (.str [])))⟩])
 (.seq (.reg [
   ⟨(some 3), none, .x (.bslice 9 1 [(.str [])] 6 [(0, (.c (.str [97]))), (1, (.c (.str [98, 46, 108, 97, 110]))), (2, (.c (.str [102, 105, 108, 101, 115, 46, 108, 97, 110]))), (3, (.c (.str [120, 45, 49, 46, 121, 46, 122]))), (4, (.c (.str [119, 119, 119, 46, 101, 120, 97, 109, 112, 108, 101, 45, 55, 46, 110, 101, 116]))), (5, (.c (.str [113])))])⟩,
   ⟨(some 4), none, .f (.mv (.t 0))⟩,
   ⟨(some 5), none, .x (.call 74 [(.t 4), (.c (.int .i64 6))])⟩,
   ⟨(some 6), none, .f (.iadr 1 (.t 3) (.t 5))⟩,
   ⟨(some 7), none, .f (.ld (.t 6))⟩,
   ⟨(some 2), none, .f (.mv (.t 7))⟩])
 .ret))
theorem ok127 : fnComp Tryd.prog 127 = some (8, c127, [(.mv (.t 2))]) := by kernel_rfl

/-- loop.example/g00003/spec.l01Bool -/
def c105 : CC :=
 (.seq (.reg [
   ⟨(some 2), none, .f (.mv (.c (.bool false)))⟩])
 (.seq (.reg [
   ⟨(some 3), none, .f (.mv (.t 0))⟩,
   ⟨(some 4), none, .x (.call 74 [(.t 3), (.c (.int .i64 2))])⟩,
   ⟨(some 5), none, .f (.bin .eql (.t 4) (.c (.int .i64 0)))⟩,
   ⟨(some 2), none, .f (.mv (.t 5))⟩])
 .ret))
theorem ok105 : fnComp Tryd.prog 105 = some (6, c105, [(.mv (.t 2))]) := by kernel_rfl

/-- loop.example/g00003/spec.l02Host -/
def c131 : CC :=
 (.seq (.reg [
   ⟨(some 2), none, .f (.mv (.c (.int .i64 0)))⟩])
 (.seq (.reg [
   ⟨(some 3), none, .f (.mv (.t 0))⟩,
   ⟨(some 4), none, .x (.call 74 [(.t 3), (.c (.int .i64 2))])⟩,
   ⟨(some 5), none, .f (.bin .mul (.t 4) (.c (.int .i64 256)))⟩,
   ⟨(some 6), none, .f (.bin .add (.c (.int .i64 167772160)) (.t 5))⟩,
   ⟨(some 7), none, .f (.bin .add (.t 6) (.c (.int .i64 1)))⟩,
   ⟨(some 8), none, .f (.mv (.t 0))⟩,
   ⟨(some 9), none, .x (.call 74 [(.t 8), (.c (.int .i64 6))])⟩,
   ⟨(some 10), none, .f (.bin .add (.t 7) (.t 9))⟩,
   ⟨(some 2), none, .f (.mv (.t 10))⟩])
 .ret))
theorem ok131 : fnComp Tryd.prog 131 = some (11, c131, [(.mv (.t 2))]) := by kernel_rfl

/-- loop.example/g00003/spec.l03Flip -/
def c135 : CC :=
 (.seq (.reg [
   ⟨(some 6), none, .f (.mv (.c .nilslice))⟩])
 (.seq (.reg [
   ⟨(some 11), none, .f (.mv (.t 1))⟩,
   ⟨(some 12), none, .x (.call 109 [(.t 11)])⟩,
   ⟨(some 7), none, .f (.mv (.t 12))⟩])
 (.seq (.seq (.reg [
   ⟨(some 13), none, .f (.mv (.t 7))⟩,
   ⟨(some 14), none, .f (.len (.t 13))⟩,
   ⟨(some 15), none, .f (.bin .eql (.t 14) (.c (.int .i64 0)))⟩])
 (.cond (.t 15)
  (.seq (.reg [
    ⟨(some 16), none, .f (.mv (.t 7))⟩,
    ⟨(some 6), none, .f (.mv (.t 16))⟩])
  .ret)
  .skip))
 (.seq (.reg [
   ⟨(some 17), none, .f (.mv (.t 0))⟩,
   ⟨(some 18), none, .f (.mv (.t 7))⟩,
   ⟨(some 19), none, .f (.len (.t 18))⟩,
   ⟨(some 20), none, .f (.bin .mul (.c (.int .i64 8)) (.t 19))⟩,
   ⟨(some 21), none, .x (.call 74 [(.t 17), (.t 20)])⟩,
   ⟨(some 8), none, .f (.mv (.t 21))⟩])
 (.seq (.reg [
   ⟨(some 22), none, .f (.mv (.t 0))⟩,
   ⟨(some 23), none, .f (.mv (.t 2))⟩,
   ⟨(some 24), none, .x (.call 74 [(.t 22), (.t 23)])⟩,
   ⟨(some 25), none, .f (.bin .add (.c (.int .i64 1)) (.t 24))⟩,
   ⟨(some 9), none, .f (.mv (.t 25))⟩])
 (.seq (.seq (.reg [
   ⟨(some 26), none, .f (.mv (.t 8))⟩,
   ⟨(some 10), none, .f (.mv (.t 26))⟩])
 (.block 0 (.loop (.seq (.seq (.reg [
     ⟨(some 27), none, .f (.mv (.t 10))⟩,
     ⟨(some 28), none, .f (.mv (.t 8))⟩,
     ⟨(some 29), none, .f (.mv (.t 9))⟩,
     ⟨(some 30), none, .f (.bin .add (.t 28) (.t 29))⟩,
     ⟨(some 31), none, .f (.bin .lss (.t 27) (.t 30))⟩,
     ⟨(some 32), none, .f (.mv (.t 31))⟩,
     ⟨(some 33), (some (32, true)), .f (.mv (.t 10))⟩,
     ⟨(some 34), (some (32, true)), .f (.mv (.t 7))⟩,
     ⟨(some 35), (some (32, true)), .f (.len (.t 34))⟩,
     ⟨(some 36), (some (32, true)), .f (.bin .mul (.c (.int .i64 8)) (.t 35))⟩,
     ⟨(some 37), (some (32, true)), .f (.bin .lss (.t 33) (.t 36))⟩,
     ⟨(some 38), none, .f (.pick (.t 32) (.t 37) (.c (.bool false)))⟩])
   (.cond (.t 38)
    .skip
    (.exit 0)))
   (.seq (.block 1 (.seq (.reg [
      ⟨(some 41), none, .f (.mv (.t 10))⟩,
      ⟨(some 42), none, .f (.mv (.t 8))⟩,
      ⟨(some 43), none, .f (.bin .eql (.t 41) (.t 42))⟩,
      ⟨(some 44), none, .f (.mv (.t 43))⟩,
      ⟨(some 45), (some (44, false)), .f (.mv (.t 0))⟩,
      ⟨(some 46), (some (44, false)), .x (.call 105 [(.t 45)])⟩,
      ⟨(some 47), none, .f (.pick (.t 44) (.c (.bool true)) (.t 46))⟩])
    (.cond (.t 47)
     (.reg [
       ⟨(some 48), none, .f (.mv (.t 7))⟩,
       ⟨(some 49), none, .f (.mv (.t 10))⟩,
       ⟨(some 50), none, .f (.bin .quo (.t 49) (.c (.int .i64 8)))⟩,
       ⟨(some 51), none, .f (.mv (.t 7))⟩,
       ⟨(some 52), none, .f (.mv (.t 10))⟩,
       ⟨(some 53), none, .f (.bin .quo (.t 52) (.c (.int .i64 8)))⟩,
       ⟨(some 54), none, .f (.iadr 1 (.t 51) (.t 53))⟩,
       ⟨(some 55), none, .f (.ld (.t 54))⟩,
       ⟨(some 56), none, .f (.mv (.t 10))⟩,
       ⟨(some 57), none, .f (.bin .rem (.t 56) (.c (.int .i64 8)))⟩,
       ⟨(some 58), none, .f (.cvI .u64 (.t 57))⟩,
       ⟨(some 59), none, .f (.bin .shl (.c (.int .u8 1)) (.t 58))⟩,
       ⟨(some 60), none, .f (.bin .xor (.t 55) (.t 59))⟩,
       ⟨(some 61), none, .f (.iadr 1 (.t 48) (.t 50))⟩,
       ⟨none, none, .x (.st 1 (.t 61) (.t 60))⟩])
     .skip)))
   (.reg [
     ⟨(some 39), none, .f (.mv (.t 10))⟩,
     ⟨(some 40), none, .f (.bin .add (.t 39) (.c (.int .i64 1)))⟩,
     ⟨(some 10), none, .f (.mv (.t 40))⟩]))))))
 (.seq (.reg [
   ⟨(some 62), none, .f (.mv (.t 7))⟩,
   ⟨(some 6), none, .f (.mv (.t 62))⟩])
 .ret)))))))
theorem ok135 : fnComp Tryd.prog 135 = some (63, c135, [(.mv (.t 6))]) := by kernel_rfl

end Go.Proofs.YtdpaehdolhdjdaaDoor


namespace Go.Proofs.YtdpaehdolhdjdaaDoor
open Go Go.IW
section
attribute [local go_sem] List.getElem?_cons_zero List.getElem?_cons_succ Option.bind_some List.map_cons List.map_nil Nat.zero_add if_true List.getD_cons_zero List.getD_cons_succ List.contains_cons List.contains_nil Bool.or_true Bool.true_or Bool.or_false Bool.false_or Bool.not_true Bool.not_false true_and and_true rowA_whole mid_get stO_mid rowO_rows cellO_rows push_n set_n push_at push_old set_here set_there set_pushT set_pushN set_set upd_ne Nat.add_assoc Nat.add_zero stO_1s stO_ws boxA_s List.all_cons List.all_nil one_bool one_int one_str one_ptr one_nilptr one_slice one_eslice one_nilslice one_func one_iface one_niliface Bool.and_true Bool.and_self List.length_cons List.length_nil Nat.one_ne_zero Nat.succ_ne_zero if_false List.set_cons_zero List.set_cons_succ lay_nil lay_1 lay_w Option.map_some

/-- A source of drawn numbers over a code. -/
structure Src (h : IH) (p : Nat) (v : IV) (code : List UInt8) : Prop where
  at_ : ∃ pos st : Int, At h p (.rows [[v, .int .i64 pos, .int .u64 st]] 118 3 false) ∧ 0 ≤ pos ∧ pos ≤ code.length
  sl : SlR h 1 v (strRows code)
  ne : ∀ l i n, v = .slice l i n → l ≠ p
theorem Src.ext {h g : IH} {p : Nat} {v : IV} {code : List UInt8} (s : Src h p v code) (e : Ext h g) : Src g p v code := by
  obtain ⟨pos, st, a, b, c⟩ := s.at_
  exact ⟨⟨pos, st, a.ext e, b, c⟩, s.sl.ext e, s.ne⟩
theorem wrU (x : Int) : wr .u64 x = x % 18446744073709551616 := by unfold wr; rw [IntKind.wrap_u64]
theorem wrU_nn (x : Int) : 0 ≤ wr .u64 x := by rw [wrU]; omega
set_option maxRecDepth 20000 in
theorem l01Next_c (h : IH) (p : Nat) (v : IV) (code : List UInt8) (n : Int) (S : Src h p v code) (h0 : 0 < n) (h1 : n ≤ 1099511627776) (hl : code.length ≤ 1048576) :
    ICalls Tryd.prog 74 [.ptr p 0 0, .int .i64 n] h fun r h' => ∃ x : Int, r = .int .i64 x ∧ 0 ≤ x ∧ x < n ∧ Src h' p v code ∧ Sav p h h' ∧ h'.n = h.n := by
  refine icalls (.of ok74) (Nat.le_of_ble_eq_true rfl) ?_
  unfold c74
  obtain ⟨pos, st, ha, hp0, hp1⟩ := S.at_
  have hs := S.sl
  have hv1 := hs.one
  have hlen := hs.lenF
  rw [strRows_len] at hlen
  have q0 := ha.eq
  have d0 : decide (n ≤ 0) = false := decide_eq_false (by omega)
  generalize hst : wr .u64 (wr .u64 (st * 6364136223846793005) + 1442695040888963407) = s2
  have hs2 : 0 ≤ s2 := by rw [← hst]; exact wrU_nn _
  have hshr : ibin .shr (.int .u64 s2) (.int .u64 33) = some (.int .u64 (s2 / 8589934592)) := by
    have := ib_shr (k := .u64) (a := s2) (b := 33) .u64 (by decide)
    have hm : min (33 : Int).toNat IntKind.u64.bits = 33 := rfl
    rw [hm, Int.fdiv_eq_ediv_of_nonneg _ (by decide)] at this
    exact this
  have hwn : wr .u64 n = n := by rw [wrU]; omega
  have hrem : ∀ x : Int, 0 ≤ x → ibin .rem (.int .u64 x) (.int .u64 n) = some (.int .u64 (x % n)) := by
    intro x hx
    simp only [ibin, if_true, if_neg (show ¬ n = 0 by omega), Int.tmod_eq_emod_of_nonneg hx]
  have hr0 : ∀ x : Int, 0 ≤ x % n ∧ x % n < n := fun x => ⟨Int.emod_nonneg _ (by omega), Int.emod_lt_of_pos _ h0⟩
  have hri : ∀ x : Int, wr .i64 (x % n) = x % n := fun x => wr64 _ (by have := hr0 x; omega)
  have fin : ∀ (pos' : Int), 0 ≤ pos' → pos' ≤ code.length → Src (h.set p (.rows [[v, .int .i64 pos', .int .u64 s2]] 118 3 false)) p v code ∧ Sav p h (h.set p (.rows [[v, .int .i64 pos', .int .u64 s2]] 118 3 false)) := by
    intro pos' a b
    have sv : Sav p h (h.set p (.rows [[v, .int .i64 pos', .int .u64 s2]] 118 3 false)) := (Sav.refl p h).set (.inr rfl) _
    exact ⟨⟨⟨pos', s2, ha.here, a, b⟩, sv.sl hs S.ne, S.ne⟩, sv⟩
  by_cases hlt : pos < code.length
  · have d1 : decide (pos < (code.length : Int)) = true := decide_eq_true hlt
    obtain ⟨k, rfl⟩ : ∃ k : Nat, pos = k := ⟨pos.toNat, by omega⟩
    have hkl : k < code.length := by omega
    have hkp : code[k]? = some code[k] := List.getElem?_eq_getElem hkl
    generalize code[k] = c at hkp
    obtain ⟨l, j, hia, hll, hrow⟩ := hs.at (m := k) (strRows_at hkp) .i64
    obtain ⟨vi, vn, hve⟩ := iadr_sl hia
    have hlp : l ≠ p := S.ne _ _ _ hve
    have hia2 : ∀ o, iadrF (h.set p o) 1 v (.int .i64 (k : Nat)) = some (.ptr l j 0) := fun o => iadr_same hia (set_there _ _ _ _ hlp)
    have hcc := cellO_row hrow
    have w1 : wr .i64 ((k : Int) + 1) = ((k + 1 : Nat) : Int) := by rw [wr64 _ (by omega)]; rfl
    have hx : 0 ≤ IW.bits .xor .u64 (s2 / 8589934592) (wr .u64 (c.toNat : Int)) := by unfold IW.bits; exact wrU_nn _
    simp (disch := (first | omega | assumption | (simp only [push_n, set_n, put_n, List.length_cons, List.length_nil, List.length_append, Nat.reduceAdd]; done) | (simp only [push_n, set_n, put_n, List.length_cons, List.length_nil, List.length_append]; omega) | (simp only [List.all_cons, List.all_nil, one_bool, one_int, one_str, one_ptr, one_nilptr, one_slice, one_eslice, one_nilslice, one_func, one_iface, one_niliface, Bool.and_true, Bool.true_and, List.getD_cons_zero, List.getD_cons_succ, List.contains_cons, List.contains_nil, Bool.or_true, Bool.true_or, Bool.or_false, Bool.false_or, Nat.reduceBEq, *]; done) | fail)) only [d0, q0, hst, hshr, hlen, d1, hia2, hcc, hwn, hrem _ hx, hri, w1, go_sem, Hold.p, HoldK.k, HoldL.K, HoldL.body, Nat.reduceBEq, Nat.reduceAdd, reduceIte]
    exact ⟨_, rfl, (hr0 _).1, (hr0 _).2, (fin _ (by omega) (by omega)).1, (fin _ (by omega) (by omega)).2⟩
  · have d1 : decide (pos < (code.length : Int)) = false := decide_eq_false hlt
    have hx : 0 ≤ s2 / 8589934592 := by omega
    simp (disch := (first | omega | assumption | (simp only [push_n, set_n, put_n, List.length_cons, List.length_nil, List.length_append, Nat.reduceAdd]; done) | (simp only [push_n, set_n, put_n, List.length_cons, List.length_nil, List.length_append]; omega) | (simp only [List.all_cons, List.all_nil, one_bool, one_int, one_str, one_ptr, one_nilptr, one_slice, one_eslice, one_nilslice, one_func, one_iface, one_niliface, Bool.and_true, Bool.true_and, List.getD_cons_zero, List.getD_cons_succ, List.contains_cons, List.contains_nil, Bool.or_true, Bool.true_or, Bool.or_false, Bool.false_or, Nat.reduceBEq, *]; done) | fail)) only [d0, q0, hst, hshr, hlen, d1, hwn, hrem _ hx, hri, go_sem, Hold.p, HoldK.k, HoldL.K, HoldL.body, Nat.reduceBEq, Nat.reduceAdd, reduceIte]
    exact ⟨_, rfl, (hr0 _).1, (hr0 _).2, (fin _ (by omega) (by omega)).1, (fin _ (by omega) (by omega)).2⟩
end
end Go.Proofs.YtdpaehdolhdjdaaDoor


namespace Go.Proofs.YtdpaehdolhdjdaaDoor
open Go Go.IW
section
attribute [local go_sem] List.getElem?_cons_zero List.getElem?_cons_succ Option.bind_some List.map_cons List.map_nil Nat.zero_add if_true List.getD_cons_zero List.getD_cons_succ List.contains_cons List.contains_nil Bool.or_true Bool.true_or Bool.or_false Bool.false_or Bool.not_true Bool.not_false true_and and_true rowA_whole mid_get stO_mid rowO_rows cellO_rows push_n set_n push_at push_old set_here set_there set_pushT set_pushN set_set upd_ne Nat.add_assoc Nat.add_zero stO_1s stO_ws boxA_s List.all_cons List.all_nil one_bool one_int one_str one_ptr one_nilptr one_slice one_eslice one_nilslice one_func one_iface one_niliface Bool.and_true Bool.and_self List.length_cons List.length_nil Nat.one_ne_zero Nat.succ_ne_zero if_false List.set_cons_zero List.set_cons_succ lay_nil lay_1 lay_w Option.map_some

set_option maxRecDepth 20000 in
theorem l01Begin_c (h : IH) (v : IV) (code : List UInt8) (hs : SlR h 1 v (strRows code)) (hl : code.length ≤ 1048576) :
    ICalls Tryd.prog 72 [v] h fun r h' => ∃ st : Int, r = .agg [v, .int .i64 0, .int .u64 st] ∧ Ext h h' := by
  refine icalls (.of ok72) (Nat.le_of_ble_eq_true rfl) ?_
  unfold c72
  have hv1 := hs.one
  have hlen := hs.lenF
  rw [strRows_len] at hlen
  simp (disch := (first | omega | assumption | (simp only [push_n, set_n, put_n, List.length_cons, List.length_nil, List.length_append, Nat.reduceAdd]; done) | (simp only [push_n, set_n, put_n, List.length_cons, List.length_nil, List.length_append]; omega) | (simp only [List.all_cons, List.all_nil, one_bool, one_int, one_str, one_ptr, one_nilptr, one_slice, one_eslice, one_nilslice, one_func, one_iface, one_niliface, Bool.and_true, Bool.true_and, List.getD_cons_zero, List.getD_cons_succ, List.contains_cons, List.contains_nil, Bool.or_true, Bool.true_or, Bool.or_false, Bool.false_or, Nat.reduceBEq, *]; done) | fail)) only [go_sem, Hold.p, HoldK.k, HoldL.K, HoldL.body, Nat.reduceBEq, Nat.reduceAdd, reduceIte]
  refine loop_at (fun n e g => ∃ (k : Nat) (st : Int), n = code.length - k ∧ k ≤ code.length ∧ e 0 = v ∧ e 2 = .ptr h.n 0 0 ∧ e 3 = .ptr (h.n + 1) 0 0 ∧ e 4 = .int .i64 (k : Nat) ∧ Ext h g ∧ h.n + 2 ≤ g.n ∧ At g h.n (.rows [[.nilslice, .int .i64 0, .int .u64 0]] 118 3 false) ∧
    At g (h.n + 1) (.rows [[v, .int .i64 0, .int .u64 st]] 118 3 false)) code.length ?_ ?_
  · refine ⟨0, 1469598103934665603, by omega, by omega, ?_⟩
    simp (disch := (first | omega | assumption | (simp only [push_n, set_n, put_n, List.length_cons, List.length_nil, List.length_append, Nat.reduceAdd]; done) | (simp only [push_n, set_n, put_n, List.length_cons, List.length_nil, List.length_append]; omega) | (simp only [List.all_cons, List.all_nil, one_bool, one_int, one_str, one_ptr, one_nilptr, one_slice, one_eslice, one_nilslice, one_func, one_iface, one_niliface, Bool.and_true, Bool.true_and, List.getD_cons_zero, List.getD_cons_succ, List.contains_cons, List.contains_nil, Bool.or_true, Bool.true_or, Bool.or_false, Bool.false_or, Nat.reduceBEq, *]; done) | fail)) only [go_sem, Hold.p, HoldK.k, HoldL.K, HoldL.body, Nat.reduceBEq, Nat.reduceAdd, reduceIte]
    exact ⟨rfl, ⟨by (first | omega | (simp only [push_n, set_n]; omega)), fun l hl => by simp (disch := (first | omega | assumption | (simp only [push_n, set_n, put_n, List.length_cons, List.length_nil, List.length_append, Nat.reduceAdd]; done) | (simp only [push_n, set_n, put_n, List.length_cons, List.length_nil, List.length_append]; omega) | (simp only [List.all_cons, List.all_nil, one_bool, one_int, one_str, one_ptr, one_nilptr, one_slice, one_eslice, one_nilslice, one_func, one_iface, one_niliface, Bool.and_true, Bool.true_and, List.getD_cons_zero, List.getD_cons_succ, List.contains_cons, List.contains_nil, Bool.or_true, Bool.true_or, Bool.or_false, Bool.false_or, Nat.reduceBEq, *]; done) | fail)) only [push_n, set_n, push_at, push_old, set_here, set_there, Nat.add_assoc, Nat.reduceAdd]⟩, Nat.le_refl _, ⟨by (first | omega | (simp only [push_n, set_n]; omega)), by (first | rfl | simp (disch := (first | omega | assumption | (simp only [push_n, set_n, put_n, List.length_cons, List.length_nil, List.length_append, Nat.reduceAdd]; done) | (simp only [push_n, set_n, put_n, List.length_cons, List.length_nil, List.length_append]; omega) | (simp only [List.all_cons, List.all_nil, one_bool, one_int, one_str, one_ptr, one_nilptr, one_slice, one_eslice, one_nilslice, one_func, one_iface, one_niliface, Bool.and_true, Bool.true_and, List.getD_cons_zero, List.getD_cons_succ, List.contains_cons, List.contains_nil, Bool.or_true, Bool.true_or, Bool.or_false, Bool.false_or, Nat.reduceBEq, *]; done) | fail)) only [push_n, set_n, push_at, push_old, set_here, set_there, Nat.add_assoc, Nat.reduceAdd])⟩, ⟨by (first | omega | (simp only [push_n, set_n]; omega)), by (first | rfl | simp (disch := (first | omega | assumption | (simp only [push_n, set_n, put_n, List.length_cons, List.length_nil, List.length_append, Nat.reduceAdd]; done) | (simp only [push_n, set_n, put_n, List.length_cons, List.length_nil, List.length_append]; omega) | (simp only [List.all_cons, List.all_nil, one_bool, one_int, one_str, one_ptr, one_nilptr, one_slice, one_eslice, one_nilslice, one_func, one_iface, one_niliface, Bool.and_true, Bool.true_and, List.getD_cons_zero, List.getD_cons_succ, List.contains_cons, List.contains_nil, Bool.or_true, Bool.true_or, Bool.or_false, Bool.false_or, Nat.reduceBEq, *]; done) | fail)) only [push_n, set_n, push_at, push_old, set_here, set_there, Nat.add_assoc, Nat.reduceAdd])⟩⟩
  · rintro n e g ⟨k, st, rfl, hk, i0, i2, i3, i4, E, hgn, a0, a1⟩
    have q0 := a0.eq
    have q1 := a1.eq
    simp (disch := (first | omega | assumption | (simp only [push_n, set_n, put_n, List.length_cons, List.length_nil, List.length_append, Nat.reduceAdd]; done) | (simp only [push_n, set_n, put_n, List.length_cons, List.length_nil, List.length_append]; omega) | (simp only [List.all_cons, List.all_nil, one_bool, one_int, one_str, one_ptr, one_nilptr, one_slice, one_eslice, one_nilslice, one_func, one_iface, one_niliface, Bool.and_true, Bool.true_and, List.getD_cons_zero, List.getD_cons_succ, List.contains_cons, List.contains_nil, Bool.or_true, Bool.true_or, Bool.or_false, Bool.false_or, Nat.reduceBEq, *]; done) | fail)) only [i0, i2, i3, i4, hlen, go_sem, Hold.p, HoldK.k, HoldL.K, HoldL.body, Nat.reduceBEq, Nat.reduceAdd, reduceIte]
    refine test_dec (fun hb => ?_) (fun hb => ?_)
    · have hlt : k < code.length := by omega
      have hkp : code[k]? = some code[k] := List.getElem?_eq_getElem hlt
      generalize code[k] = c at hkp
      obtain ⟨l, j, hia, hll, hrow⟩ := (hs.ext E).at (m := k) (strRows_at hkp) .i64
      have hcc := cellO_row hrow
      have w1 : wr .i64 ((k : Int) + 1) = ((k + 1 : Nat) : Int) := by rw [wr64 _ (by omega)]; rfl
      have hxor : ibin .xor (.int .u64 st) (.int .u64 (wr .u64 (c.toNat : Int))) = some (.int .u64 (IW.bits .xor .u64 st (wr .u64 (c.toNat : Int)))) := rfl
      simp (disch := (first | omega | assumption | (simp only [push_n, set_n, put_n, List.length_cons, List.length_nil, List.length_append, Nat.reduceAdd]; done) | (simp only [push_n, set_n, put_n, List.length_cons, List.length_nil, List.length_append]; omega) | (simp only [List.all_cons, List.all_nil, one_bool, one_int, one_str, one_ptr, one_nilptr, one_slice, one_eslice, one_nilslice, one_func, one_iface, one_niliface, Bool.and_true, Bool.true_and, List.getD_cons_zero, List.getD_cons_succ, List.contains_cons, List.contains_nil, Bool.or_true, Bool.true_or, Bool.or_false, Bool.false_or, Nat.reduceBEq, *]; done) | fail)) only [i0, i2, i3, i4, q0, q1, hia, hcc, w1, hxor, go_sem, Hold.p, HoldK.k, HoldL.K, HoldL.body, Nat.reduceBEq, Nat.reduceAdd, reduceIte]
      exact ⟨_, by omega, k + 1, _, rfl, by omega, rfl, E.set _ (by omega) _, hgn, ⟨by (first | omega | (simp only [push_n, set_n]; omega)), by (first | rfl | simp (disch := (first | omega | assumption | (simp only [push_n, set_n, put_n, List.length_cons, List.length_nil, List.length_append, Nat.reduceAdd]; done) | (simp only [push_n, set_n, put_n, List.length_cons, List.length_nil, List.length_append]; omega) | (simp only [List.all_cons, List.all_nil, one_bool, one_int, one_str, one_ptr, one_nilptr, one_slice, one_eslice, one_nilslice, one_func, one_iface, one_niliface, Bool.and_true, Bool.true_and, List.getD_cons_zero, List.getD_cons_succ, List.contains_cons, List.contains_nil, Bool.or_true, Bool.true_or, Bool.or_false, Bool.false_or, Nat.reduceBEq, *]; done) | fail)) only [q0, push_n, set_n, push_at, push_old, set_here, set_there, Nat.add_assoc, Nat.reduceAdd])⟩, a1.here⟩
    · simp (disch := (first | omega | assumption | (simp only [push_n, set_n, put_n, List.length_cons, List.length_nil, List.length_append, Nat.reduceAdd]; done) | (simp only [push_n, set_n, put_n, List.length_cons, List.length_nil, List.length_append]; omega) | (simp only [List.all_cons, List.all_nil, one_bool, one_int, one_str, one_ptr, one_nilptr, one_slice, one_eslice, one_nilslice, one_func, one_iface, one_niliface, Bool.and_true, Bool.true_and, List.getD_cons_zero, List.getD_cons_succ, List.contains_cons, List.contains_nil, Bool.or_true, Bool.true_or, Bool.or_false, Bool.false_or, Nat.reduceBEq, *]; done) | fail)) only [i0, i2, i3, i4, q0, q1, go_sem, Hold.p, HoldK.k, HoldL.K, HoldL.body, Nat.reduceBEq, Nat.reduceAdd, reduceIte]
      exact ⟨st, rfl, E.set _ (by omega) _⟩
set_option maxRecDepth 20000 in
theorem l01Bool_c (h : IH) (p : Nat) (v : IV) (code : List UInt8) (S : Src h p v code) (hl : code.length ≤ 1048576) :
    ICalls Tryd.prog 105 [.ptr p 0 0] h fun r h' => ∃ b, r = .bool b ∧ Src h' p v code ∧ Sav p h h' ∧ h'.n = h.n := by
  refine icalls (.of ok105) (Nat.le_of_ble_eq_true rfl) ?_
  unfold c105
  simp (disch := (first | omega | assumption | (simp only [push_n, set_n, put_n, List.length_cons, List.length_nil, List.length_append, Nat.reduceAdd]; done) | (simp only [push_n, set_n, put_n, List.length_cons, List.length_nil, List.length_append]; omega) | (simp only [List.all_cons, List.all_nil, one_bool, one_int, one_str, one_ptr, one_nilptr, one_slice, one_eslice, one_nilslice, one_func, one_iface, one_niliface, Bool.and_true, Bool.true_and, List.getD_cons_zero, List.getD_cons_succ, List.contains_cons, List.contains_nil, Bool.or_true, Bool.true_or, Bool.or_false, Bool.false_or, Nat.reduceBEq, *]; done) | fail)) only [go_sem, Hold.p, HoldK.k, HoldL.K, HoldL.body, Nat.reduceBEq, Nat.reduceAdd, reduceIte]
  refine callA_of (l01Next_c h p v code 2 S (by omega) (by omega) hl) ?_
  rintro r g ⟨x, rfl, _, _, S2, V, hn⟩
  simp (disch := (first | omega | assumption | (simp only [push_n, set_n, put_n, List.length_cons, List.length_nil, List.length_append, Nat.reduceAdd]; done) | (simp only [push_n, set_n, put_n, List.length_cons, List.length_nil, List.length_append]; omega) | (simp only [List.all_cons, List.all_nil, one_bool, one_int, one_str, one_ptr, one_nilptr, one_slice, one_eslice, one_nilslice, one_func, one_iface, one_niliface, Bool.and_true, Bool.true_and, List.getD_cons_zero, List.getD_cons_succ, List.contains_cons, List.contains_nil, Bool.or_true, Bool.true_or, Bool.or_false, Bool.false_or, Nat.reduceBEq, *]; done) | fail)) only [go_sem, Hold.p, HoldK.k, HoldL.K, HoldL.body, Nat.reduceBEq, Nat.reduceAdd, reduceIte]
  exact ⟨_, rfl, S2, V, hn⟩
end
end Go.Proofs.YtdpaehdolhdjdaaDoor
