import Derived.Test.YtcmcfmgabafljaaDoorL4
set_option linter.unusedSimpArgs false
set_option linter.unusedVariables false
namespace Go.Proofs.YtcmcfmgabafljaaDoor
open Go Go.IW

set_option maxRecDepth 20000 in
theorem implAnswerName_c (h : IH) (vz vb : IV) (es : List Ent) (bs : List UInt8) (hz : SlR h 3 vz (entRows es)) (hb : SlR h 1 vb (strRows bs)) (hzl : es.length ≤ 1048576) (hbl : bs.length ≤ 1048576) :
    ICalls Tryd.prog 37 [vz, vb] h fun r h' => BytesRes h h' r (ansN es bs) := by
  refine icalls (.of ok37) (Nat.le_of_ble_eq_true rfl) ?_
  unfold c37
  simp only [go_sem, Hold.p, HoldK.k, HoldL.K, HoldL.body, Nat.reduceBEq, Nat.reduceAdd, List.getElem?_cons_zero, List.getElem?_cons_succ, Option.bind_some, List.map_cons, List.map_nil, Nat.zero_add, if_true, List.getD_cons_zero, List.getD_cons_succ, List.contains_cons, List.contains_nil, Nat.reduceBEq, Bool.or_true, Bool.true_or, Bool.or_false, Bool.false_or, Bool.not_true, Bool.not_false, true_and, and_true, rowA_whole, push_n, set_n, push_obj, set_obj, set_push, set_push_ne, set_set, Nat.add_assoc, Nat.left_eq_add, Nat.add_eq_left, Nat.add_left_cancel_iff, Nat.reduceEqDiff, stO_1s, stO_ws, boxA_s, one_bool, one_int, one_str, one_ptr, one_nilptr, one_slice, one_eslice, one_nilslice, one_func, one_iface, one_niliface, List.all_cons, List.all_nil, List.length_cons, List.length_nil, Nat.reduceLT, Nat.reduceEqDiff, Nat.reduceLeDiff, Bool.and_true, Nat.one_ne_zero, Nat.succ_ne_zero, reduceIte, if_false, List.getElem?_cons_zero, List.set_cons_zero, List.set_cons_succ]
  refine callA_of (implDecodeQuery_c h vb bs hb hbl) ?_
  rintro r h1 ⟨rfl, E1⟩
  have hql := decQ_len bs
  have hdef : ansN es bs = if (decQ bs).2.2 ≠ 0 then ([], (decQ bs).2.2) else encR (decQ bs).1 (ansQ es (decQ bs).2.1).1 (ansQ es (decQ bs).2.1).2.1 (decQ bs).2.1 (ansQ es (decQ bs).2.1).2.2 := rfl
  generalize decQ bs = dq at hql hdef ⊢
  obtain ⟨id, qn, qc⟩ := dq
  simp only at hql hdef ⊢
  simp only [go_sem, Hold.p, HoldK.k, HoldL.K, HoldL.body, Nat.reduceBEq, Nat.reduceAdd, List.getElem?_cons_zero, List.getElem?_cons_succ, Option.bind_some, List.map_cons, List.map_nil, Nat.zero_add, if_true, List.getD_cons_zero, List.getD_cons_succ, List.contains_cons, List.contains_nil, Nat.reduceBEq, Bool.or_true, Bool.true_or, Bool.or_false, Bool.false_or, Bool.not_true, Bool.not_false, true_and, and_true, rowA_whole, push_n, set_n, push_obj, set_obj, set_push, set_push_ne, set_set, Nat.add_assoc, Nat.left_eq_add, Nat.add_eq_left, Nat.add_left_cancel_iff, Nat.reduceEqDiff, stO_1s, stO_ws, boxA_s, one_bool, one_int, one_str, one_ptr, one_nilptr, one_slice, one_eslice, one_nilslice, one_func, one_iface, one_niliface, List.all_cons, List.all_nil, List.length_cons, List.length_nil, Nat.reduceLT, Nat.reduceEqDiff, Nat.reduceLeDiff, Bool.and_true, Nat.one_ne_zero, Nat.succ_ne_zero, reduceIte, if_false, List.getElem?_cons_zero, List.set_cons_zero, List.set_cons_succ]
  generalize hq_g2 : IH.push h1 (IObj.rows [[IV.int .i64 id, IV.str qn]] 29 2 false) = g2
  have e_g2 : Ext h1 g2 := by rw [← hq_g2]; exact (Ext.refl _).push _
  have l_g2 : g2.n = h1.n + 1 := by rw [← hq_g2]; rfl
  have bq : At g2 h1.n (IObj.rows [[IV.int .i64 id, IV.str qn]] 29 2 false) := by rw [← hq_g2]; exact At.new _ _
  clear hq_g2
  have E1 := E1.ext e_g2
  have lE := E1.le
  by_cases c0 : qc = 0
  · subst c0
    rw [if_neg (by decide)] at hdef
    simp only [bq.eq, decide_true, lay_nil, lay_1, lay_w, Option.map_some, go_sem, Hold.p, HoldK.k, HoldL.K, HoldL.body, Nat.reduceBEq, Nat.reduceAdd, List.getElem?_cons_zero, List.getElem?_cons_succ, Option.bind_some, List.map_cons, List.map_nil, Nat.zero_add, if_true, List.getD_cons_zero, List.getD_cons_succ, List.contains_cons, List.contains_nil, Nat.reduceBEq, Bool.or_true, Bool.true_or, Bool.or_false, Bool.false_or, Bool.not_true, Bool.not_false, true_and, and_true, rowA_whole, push_n, set_n, push_obj, set_obj, set_push, set_push_ne, set_set, Nat.add_assoc, Nat.left_eq_add, Nat.add_eq_left, Nat.add_left_cancel_iff, Nat.reduceEqDiff, stO_1s, stO_ws, boxA_s, one_bool, one_int, one_str, one_ptr, one_nilptr, one_slice, one_eslice, one_nilslice, one_func, one_iface, one_niliface, List.all_cons, List.all_nil, List.length_cons, List.length_nil, Nat.reduceLT, Nat.reduceEqDiff, Nat.reduceLeDiff, Bool.and_true, Nat.one_ne_zero, Nat.succ_ne_zero, reduceIte, if_false, List.getElem?_cons_zero, List.set_cons_zero, List.set_cons_succ]
    generalize hq_g3 : IH.push g2 (IObj.rows [[IV.int .i64 id, IV.int .i64 20, IV.int .i64 10, IV.str qn, IV.nilslice]] 44 5 false) = g3
    have e_g3 : Ext g2 g3 := by rw [← hq_g3]; exact (Ext.refl _).push _
    have l_g3 : g3.n = g2.n + 1 := by rw [← hq_g3]; rfl
    have br : At g3 g2.n (IObj.rows [[IV.int .i64 id, IV.int .i64 20, IV.int .i64 10, IV.str qn, IV.nilslice]] 44 5 false) := by rw [← hq_g3]; exact At.new _ _
    clear hq_g3
    have E1 := E1.ext e_g3
    have bq := bq.ext e_g3
    have hlz0 := hz.lenF
    rw [entRows_len] at hlz0
    simp only [hlz0, go_sem, Hold.p, HoldK.k, HoldL.K, HoldL.body, Nat.reduceBEq, Nat.reduceAdd, List.getElem?_cons_zero, List.getElem?_cons_succ, Option.bind_some, List.map_cons, List.map_nil, Nat.zero_add, if_true, List.getD_cons_zero, List.getD_cons_succ, List.contains_cons, List.contains_nil, Nat.reduceBEq, Bool.or_true, Bool.true_or, Bool.or_false, Bool.false_or, Bool.not_true, Bool.not_false, true_and, and_true, rowA_whole, push_n, set_n, push_obj, set_obj, set_push, set_push_ne, set_set, Nat.add_assoc, Nat.left_eq_add, Nat.add_eq_left, Nat.add_left_cancel_iff, Nat.reduceEqDiff, stO_1s, stO_ws, boxA_s, one_bool, one_int, one_str, one_ptr, one_nilptr, one_slice, one_eslice, one_nilslice, one_func, one_iface, one_niliface, List.all_cons, List.all_nil, List.length_cons, List.length_nil, Nat.reduceLT, Nat.reduceEqDiff, Nat.reduceLeDiff, Bool.and_true, Nat.one_ne_zero, Nat.succ_ne_zero, reduceIte, if_false, List.getElem?_cons_zero, List.set_cons_zero, List.set_cons_succ]
    refine loop_at (fun n e g => ∃ k, n = es.length - k ∧ k ≤ es.length ∧ e 24 = vz ∧ e 25 = .int .i64 (es.length : Nat) ∧ e 6 = .ptr h1.n 0 0 ∧ e 8 = .ptr g2.n 0 0 ∧ e 26 = .int .i64 (k : Nat) ∧ AnsAt h g h1.n g2.n id qn (ansQ (es.take k) qn)) es.length ?_ ?_
    · refine ⟨0, by omega, by omega, ?_⟩
      simp only [go_sem, Hold.p, HoldK.k, HoldL.K, HoldL.body, Nat.reduceBEq, Nat.reduceAdd, List.getElem?_cons_zero, List.getElem?_cons_succ, Option.bind_some, List.map_cons, List.map_nil, Nat.zero_add, if_true, List.getD_cons_zero, List.getD_cons_succ, List.contains_cons, List.contains_nil, Nat.reduceBEq, Bool.or_true, Bool.true_or, Bool.or_false, Bool.false_or, Bool.not_true, Bool.not_false, true_and, and_true, rowA_whole, push_n, set_n, push_obj, set_obj, set_push, set_push_ne, set_set, Nat.add_assoc, Nat.left_eq_add, Nat.add_eq_left, Nat.add_left_cancel_iff, Nat.reduceEqDiff, stO_1s, stO_ws, boxA_s, one_bool, one_int, one_str, one_ptr, one_nilptr, one_slice, one_eslice, one_nilslice, one_func, one_iface, one_niliface, List.all_cons, List.all_nil, List.length_cons, List.length_nil, Nat.reduceLT, Nat.reduceEqDiff, Nat.reduceLeDiff, Bool.and_true, Nat.one_ne_zero, Nat.succ_ne_zero, reduceIte, if_false, List.getElem?_cons_zero, List.set_cons_zero, List.set_cons_succ]
      exact ⟨rfl, E1, bq, .nilslice, g2.n + 1, g2.n + 1, br, Own.nil, Nat.lt_succ_self _, by omega⟩
    · clear bq br E1
      rintro n e g ⟨k, rfl, hk, i0, i25, i6, i8, i9, E, bq, v, lo, hi, br, ov, hlo, hhi⟩
      have hz := hz.ext E
      have hlz := hz.lenF
      rw [entRows_len] at hlz
      obtain ⟨inv1, inv2⟩ := ansQ_inv qn (es.take k)
      simp only [i0, i25, i6, i8, i9, hlz, go_sem, Hold.p, HoldK.k, HoldL.K, HoldL.body, Nat.reduceBEq, Nat.reduceAdd, List.getElem?_cons_zero, List.getElem?_cons_succ, Option.bind_some, List.map_cons, List.map_nil, Nat.zero_add, if_true, List.getD_cons_zero, List.getD_cons_succ, List.contains_cons, List.contains_nil, Nat.reduceBEq, Bool.or_true, Bool.true_or, Bool.or_false, Bool.false_or, Bool.not_true, Bool.not_false, true_and, and_true, rowA_whole, push_n, set_n, push_obj, set_obj, set_push, set_push_ne, set_set, Nat.add_assoc, Nat.left_eq_add, Nat.add_eq_left, Nat.add_left_cancel_iff, Nat.reduceEqDiff, stO_1s, stO_ws, boxA_s, one_bool, one_int, one_str, one_ptr, one_nilptr, one_slice, one_eslice, one_nilslice, one_func, one_iface, one_niliface, List.all_cons, List.all_nil, List.length_cons, List.length_nil, Nat.reduceLT, Nat.reduceEqDiff, Nat.reduceLeDiff, Bool.and_true, Nat.one_ne_zero, Nat.succ_ne_zero, reduceIte, if_false, List.getElem?_cons_zero, List.set_cons_zero, List.set_cons_succ]
      refine test_dec (fun hb => ?_) (fun hb => ?_)
      · have hlt' : k < es.length := by omega
        have hkp : es[k]? = some es[k] := List.getElem?_eq_getElem hlt'
        generalize es[k] = p at hkp
        have hst := ansQ_snoc (qn := qn) hkp
        generalize hs0 : ansQ (es.take k) qn = st at br ov hst inv1 inv2
        obtain ⟨sc, sttl, zs⟩ := st
        simp only at br ov inv1 inv2
        obtain ⟨l, j, hia, hll, hrow⟩ := hz.at (m := k) (entRows_at hkp) .i64
        have hvl := ov.sl.lenF
        rw [intRows_len] at hvl
        have bql := bq.lt
        have brl := br.lt
        have nq : (h1.n = g.n) = False := by simp; omega
        have nr : (g2.n = g.n) = False := by simp; omega
        unfold Ent.row at hrow
        have hrw := rowA_whole [IV.str p.nm, .int .i64 p.addr, .int .i64 p.ttl] 3 rfl
        have nrg : (g.n = g2.n) = False := by simp; omega
        simp only [i0, i25, i6, i8, i9, hia, hrow, hrw, bq.eq, br.eq, nq, nr, go_sem, Hold.p, HoldK.k, HoldL.K, HoldL.body, Nat.reduceBEq, Nat.reduceAdd, List.getElem?_cons_zero, List.getElem?_cons_succ, Option.bind_some, List.map_cons, List.map_nil, Nat.zero_add, if_true, List.getD_cons_zero, List.getD_cons_succ, List.contains_cons, List.contains_nil, Nat.reduceBEq, Bool.or_true, Bool.true_or, Bool.or_false, Bool.false_or, Bool.not_true, Bool.not_false, true_and, and_true, rowA_whole, push_n, set_n, push_obj, set_obj, set_push, set_push_ne, set_set, Nat.add_assoc, Nat.left_eq_add, Nat.add_eq_left, Nat.add_left_cancel_iff, Nat.reduceEqDiff, stO_1s, stO_ws, boxA_s, one_bool, one_int, one_str, one_ptr, one_nilptr, one_slice, one_eslice, one_nilslice, one_func, one_iface, one_niliface, List.all_cons, List.all_nil, List.length_cons, List.length_nil, Nat.reduceLT, Nat.reduceEqDiff, Nat.reduceLeDiff, Bool.and_true, Nat.one_ne_zero, Nat.succ_ne_zero, reduceIte, if_false, List.getElem?_cons_zero, List.set_cons_zero, List.set_cons_succ]
        generalize hq_g4 : IH.push g (IObj.rows [[IV.str p.nm, IV.int .i64 p.addr, IV.int .i64 p.ttl]] 116 3 false) = g4
        have e_g4 : Ext g g4 := by rw [← hq_g4]; exact (Ext.refl _).push _
        have l_g4 : g4.n = g.n + 1 := by rw [← hq_g4]; rfl
        have bp : At g4 g.n (IObj.rows [[IV.str p.nm, IV.int .i64 p.addr, IV.int .i64 p.ttl]] 116 3 false) := by rw [← hq_g4]; exact At.new _ _
        clear hq_g4
        have E := E.ext e_g4
        have bq := bq.ext e_g4
        have br := br.ext e_g4
        have ov := ov.ext e_g4
        by_cases n1 : p.nm = qn
        · have d1 : decide (p.nm = qn) = true := decide_eq_true n1
          simp only [i0, i25, i6, i8, i9, d1, bq.eq, br.eq, bp.eq, go_sem, Hold.p, HoldK.k, HoldL.K, HoldL.body, Nat.reduceBEq, Nat.reduceAdd, List.getElem?_cons_zero, List.getElem?_cons_succ, Option.bind_some, List.map_cons, List.map_nil, Nat.zero_add, if_true, List.getD_cons_zero, List.getD_cons_succ, List.contains_cons, List.contains_nil, Nat.reduceBEq, Bool.or_true, Bool.true_or, Bool.or_false, Bool.false_or, Bool.not_true, Bool.not_false, true_and, and_true, rowA_whole, push_n, set_n, push_obj, set_obj, set_push, set_push_ne, set_set, Nat.add_assoc, Nat.left_eq_add, Nat.add_eq_left, Nat.add_left_cancel_iff, Nat.reduceEqDiff, stO_1s, stO_ws, boxA_s, one_bool, one_int, one_str, one_ptr, one_nilptr, one_slice, one_eslice, one_nilslice, one_func, one_iface, one_niliface, List.all_cons, List.all_nil, List.length_cons, List.length_nil, Nat.reduceLT, Nat.reduceEqDiff, Nat.reduceLeDiff, Bool.and_true, Nat.one_ne_zero, Nat.succ_ne_zero, reduceIte, if_false, List.getElem?_cons_zero, List.set_cons_zero, List.set_cons_succ]
          refine callA_of (isAddr_c _ p.addr) ?_
          rintro r g4a ⟨rfl, rfl⟩
          cases n2 : okAddr p.addr
          · simp only [i0, i25, i6, i8, i9, d1, go_sem, Hold.p, HoldK.k, HoldL.K, HoldL.body, Nat.reduceBEq, Nat.reduceAdd, List.getElem?_cons_zero, List.getElem?_cons_succ, Option.bind_some, List.map_cons, List.map_nil, Nat.zero_add, if_true, List.getD_cons_zero, List.getD_cons_succ, List.contains_cons, List.contains_nil, Nat.reduceBEq, Bool.or_true, Bool.true_or, Bool.or_false, Bool.false_or, Bool.not_true, Bool.not_false, true_and, and_true, rowA_whole, push_n, set_n, push_obj, set_obj, set_push, set_push_ne, set_set, Nat.add_assoc, Nat.left_eq_add, Nat.add_eq_left, Nat.add_left_cancel_iff, Nat.reduceEqDiff, stO_1s, stO_ws, boxA_s, one_bool, one_int, one_str, one_ptr, one_nilptr, one_slice, one_eslice, one_nilslice, one_func, one_iface, one_niliface, List.all_cons, List.all_nil, List.length_cons, List.length_nil, Nat.reduceLT, Nat.reduceEqDiff, Nat.reduceLeDiff, Bool.and_true, Nat.one_ne_zero, Nat.succ_ne_zero, reduceIte, if_false, List.getElem?_cons_zero, List.set_cons_zero, List.set_cons_succ]
            have hskip : ansStep qn (sc, sttl, zs) p = (sc, sttl, zs) := if_neg (by unfold fitE; rw [n2, Bool.and_false, Bool.false_and]; simp)
            refine ⟨_, ?_, k + 1, rfl, by omega, wr64_succ k (by omega), ?_⟩
            · omega
            · rw [hst, hskip]; exact ⟨E, bq, v, lo, hi, br, ov, hlo, by omega⟩
          by_cases n3a : p.ttl < 0
          · have d3 : decide (p.ttl < 0) = true := decide_eq_true n3a
            simp only [i0, i25, i6, i8, i9, d1, d3, bq.eq, br.eq, bp.eq, go_sem, Hold.p, HoldK.k, HoldL.K, HoldL.body, Nat.reduceBEq, Nat.reduceAdd, List.getElem?_cons_zero, List.getElem?_cons_succ, Option.bind_some, List.map_cons, List.map_nil, Nat.zero_add, if_true, List.getD_cons_zero, List.getD_cons_succ, List.contains_cons, List.contains_nil, Nat.reduceBEq, Bool.or_true, Bool.true_or, Bool.or_false, Bool.false_or, Bool.not_true, Bool.not_false, true_and, and_true, rowA_whole, push_n, set_n, push_obj, set_obj, set_push, set_push_ne, set_set, Nat.add_assoc, Nat.left_eq_add, Nat.add_eq_left, Nat.add_left_cancel_iff, Nat.reduceEqDiff, stO_1s, stO_ws, boxA_s, one_bool, one_int, one_str, one_ptr, one_nilptr, one_slice, one_eslice, one_nilslice, one_func, one_iface, one_niliface, List.all_cons, List.all_nil, List.length_cons, List.length_nil, Nat.reduceLT, Nat.reduceEqDiff, Nat.reduceLeDiff, Bool.and_true, Nat.one_ne_zero, Nat.succ_ne_zero, reduceIte, if_false, List.getElem?_cons_zero, List.set_cons_zero, List.set_cons_succ]
            have hskip : ansStep qn (sc, sttl, zs) p = (sc, sttl, zs) := if_neg (by unfold fitE; rw [show decide (0 ≤ p.ttl) = false from decide_eq_false (by omega), Bool.false_and, Bool.and_false]; simp)
            refine ⟨_, ?_, k + 1, rfl, by omega, wr64_succ k (by omega), ?_⟩
            · omega
            · rw [hst, hskip]; exact ⟨E, bq, v, lo, hi, br, ov, hlo, by omega⟩
          have d3 : decide (p.ttl < 0) = false := decide_eq_false n3a
          by_cases n3b : 86400 < p.ttl
          · have d3b : decide (86400 < p.ttl) = true := decide_eq_true n3b
            simp only [i0, i25, i6, i8, i9, d1, d3, d3b, bq.eq, br.eq, bp.eq, go_sem, Hold.p, HoldK.k, HoldL.K, HoldL.body, Nat.reduceBEq, Nat.reduceAdd, List.getElem?_cons_zero, List.getElem?_cons_succ, Option.bind_some, List.map_cons, List.map_nil, Nat.zero_add, if_true, List.getD_cons_zero, List.getD_cons_succ, List.contains_cons, List.contains_nil, Nat.reduceBEq, Bool.or_true, Bool.true_or, Bool.or_false, Bool.false_or, Bool.not_true, Bool.not_false, true_and, and_true, rowA_whole, push_n, set_n, push_obj, set_obj, set_push, set_push_ne, set_set, Nat.add_assoc, Nat.left_eq_add, Nat.add_eq_left, Nat.add_left_cancel_iff, Nat.reduceEqDiff, stO_1s, stO_ws, boxA_s, one_bool, one_int, one_str, one_ptr, one_nilptr, one_slice, one_eslice, one_nilslice, one_func, one_iface, one_niliface, List.all_cons, List.all_nil, List.length_cons, List.length_nil, Nat.reduceLT, Nat.reduceEqDiff, Nat.reduceLeDiff, Bool.and_true, Nat.one_ne_zero, Nat.succ_ne_zero, reduceIte, if_false, List.getElem?_cons_zero, List.set_cons_zero, List.set_cons_succ]
            have hskip : ansStep qn (sc, sttl, zs) p = (sc, sttl, zs) := if_neg (by unfold fitE; rw [show decide (p.ttl ≤ 86400) = false from decide_eq_false (by omega), Bool.and_false, Bool.and_false]; simp)
            refine ⟨_, ?_, k + 1, rfl, by omega, wr64_succ k (by omega), ?_⟩
            · omega
            · rw [hst, hskip]; exact ⟨E, bq, v, lo, hi, br, ov, hlo, by omega⟩
          have d3b : decide (86400 < p.ttl) = false := decide_eq_false n3b
          have n3 : (decide (0 ≤ p.ttl) && decide (p.ttl ≤ 86400)) = true := by simp; omega
          have hfit : fitE qn p = true := by unfold fitE; rw [n2, n3, d1]; rfl
          by_cases n4 : 8 ≤ zs.length
          · have d4 : decide ((8 : Int) ≤ (zs.length : Int)) = true := decide_eq_true (by omega)
            simp only [i0, i25, i6, i8, i9, d1, d3, d3b, br.eq, bp.eq, hvl, d4, go_sem, Hold.p, HoldK.k, HoldL.K, HoldL.body, Nat.reduceBEq, Nat.reduceAdd, List.getElem?_cons_zero, List.getElem?_cons_succ, Option.bind_some, List.map_cons, List.map_nil, Nat.zero_add, if_true, List.getD_cons_zero, List.getD_cons_succ, List.contains_cons, List.contains_nil, Nat.reduceBEq, Bool.or_true, Bool.true_or, Bool.or_false, Bool.false_or, Bool.not_true, Bool.not_false, true_and, and_true, rowA_whole, push_n, set_n, push_obj, set_obj, set_push, set_push_ne, set_set, Nat.add_assoc, Nat.left_eq_add, Nat.add_eq_left, Nat.add_left_cancel_iff, Nat.reduceEqDiff, stO_1s, stO_ws, boxA_s, one_bool, one_int, one_str, one_ptr, one_nilptr, one_slice, one_eslice, one_nilslice, one_func, one_iface, one_niliface, List.all_cons, List.all_nil, List.length_cons, List.length_nil, Nat.reduceLT, Nat.reduceEqDiff, Nat.reduceLeDiff, Bool.and_true, Nat.one_ne_zero, Nat.succ_ne_zero, reduceIte, if_false, List.getElem?_cons_zero, List.set_cons_zero, List.set_cons_succ]
            have hskip : ansStep qn (sc, sttl, zs) p = (sc, sttl, zs) := if_neg (by exact fun hx => by have h2 : zs.length < 8 := hx.2; omega)
            refine ⟨_, ?_, k + 1, rfl, by omega, wr64_succ k (by omega), ?_⟩
            · omega
            · rw [hst, hskip]; exact ⟨E, bq, v, lo, hi, br, ov, hlo, by omega⟩
          have d4 : decide ((8 : Int) ≤ (zs.length : Int)) = false := decide_eq_false (by omega)
          rcases inv1 with rfl | rfl
          · have d5 : decide ((20 : Int) = 20) = true := rfl
            have hgo : ansStep qn (20, sttl, zs) p = (0, p.ttl, zs ++ [p.addr]) := by
              unfold ansStep
              rw [if_pos ⟨hfit, by show zs.length < 8; omega⟩]
              rw [if_pos (.inl (by show (20 : Int) ≠ 0; decide))]
            simp only [i0, i25, i6, i8, i9, d1, d3, d3b, br.eq, bp.eq, hvl, d4, d5, decide_true, eq_self, nrg, go_sem, Hold.p, HoldK.k, HoldL.K, HoldL.body, Nat.reduceBEq, Nat.reduceAdd, List.getElem?_cons_zero, List.getElem?_cons_succ, Option.bind_some, List.map_cons, List.map_nil, Nat.zero_add, if_true, List.getD_cons_zero, List.getD_cons_succ, List.contains_cons, List.contains_nil, Nat.reduceBEq, Bool.or_true, Bool.true_or, Bool.or_false, Bool.false_or, Bool.not_true, Bool.not_false, true_and, and_true, rowA_whole, push_n, set_n, push_obj, set_obj, set_push, set_push_ne, set_set, Nat.add_assoc, Nat.left_eq_add, Nat.add_eq_left, Nat.add_left_cancel_iff, Nat.reduceEqDiff, stO_1s, stO_ws, boxA_s, one_bool, one_int, one_str, one_ptr, one_nilptr, one_slice, one_eslice, one_nilslice, one_func, one_iface, one_niliface, List.all_cons, List.all_nil, List.length_cons, List.length_nil, Nat.reduceLT, Nat.reduceEqDiff, Nat.reduceLeDiff, Bool.and_true, Nat.one_ne_zero, Nat.succ_ne_zero, reduceIte, if_false, List.getElem?_cons_zero, List.set_cons_zero, List.set_cons_succ]
            generalize hq_g5 : IH.set g4a (g2.n) (IObj.rows [[IV.int .i64 id, IV.int .i64 0, IV.int .i64 p.ttl, IV.str qn, v]] 44 5 false) = g5
            have l_g5 : g5.n = g4a.n := by rw [← hq_g5]; rfl
            have br : At g5 (g2.n) (IObj.rows [[IV.int .i64 id, IV.int .i64 0, IV.int .i64 p.ttl, IV.str qn, v]] 44 5 false) := by rw [← hq_g5]; exact br.here
            have ov := ov.set (m := g2.n) (by omega) (IObj.rows [[IV.int .i64 id, IV.int .i64 0, IV.int .i64 p.ttl, IV.str qn, v]] 44 5 false)
            rw [hq_g5] at ov
            have bq := bq.set (p := g2.n) (o' := IObj.rows [[IV.int .i64 id, IV.int .i64 0, IV.int .i64 p.ttl, IV.str qn, v]] 44 5 false) (by omega)
            rw [hq_g5] at bq
            have bp := bp.set (p := g2.n) (o' := IObj.rows [[IV.int .i64 id, IV.int .i64 0, IV.int .i64 p.ttl, IV.str qn, v]] 44 5 false) (by omega)
            rw [hq_g5] at bp
            have E := E.set (g2.n) (by omega) (IObj.rows [[IV.int .i64 id, IV.int .i64 0, IV.int .i64 p.ttl, IV.str qn, v]] 44 5 false)
            rw [hq_g5] at E
            clear hq_g5
            have n5 : (g2.n = g5.n) = False := by simp; omega
            try simp only [i0, i25, i6, i8, i9, bq.eq, br.eq, bp.eq, n5, nrg, bslA_1, go_sem, Hold.p, HoldK.k, HoldL.K, HoldL.body, Nat.reduceBEq, Nat.reduceAdd, List.getElem?_cons_zero, List.getElem?_cons_succ, Option.bind_some, List.map_cons, List.map_nil, Nat.zero_add, if_true, List.getD_cons_zero, List.getD_cons_succ, List.contains_cons, List.contains_nil, Nat.reduceBEq, Bool.or_true, Bool.true_or, Bool.or_false, Bool.false_or, Bool.not_true, Bool.not_false, true_and, and_true, rowA_whole, push_n, set_n, push_obj, set_obj, set_push, set_push_ne, set_set, Nat.add_assoc, Nat.left_eq_add, Nat.add_eq_left, Nat.add_left_cancel_iff, Nat.reduceEqDiff, stO_1s, stO_ws, boxA_s, one_bool, one_int, one_str, one_ptr, one_nilptr, one_slice, one_eslice, one_nilslice, one_func, one_iface, one_niliface, List.all_cons, List.all_nil, List.length_cons, List.length_nil, Nat.reduceLT, Nat.reduceEqDiff, Nat.reduceLeDiff, Bool.and_true, Nat.one_ne_zero, Nat.succ_ne_zero, reduceIte, if_false, List.getElem?_cons_zero, List.set_cons_zero, List.set_cons_succ]
            generalize hq_g6 : IH.push g5 (IObj.rows [[IV.int .i64 p.addr]] 2 1 false) = g6
            have e_g6 : Ext g5 g6 := by rw [← hq_g6]; exact (Ext.refl _).push _
            have l_g6 : g6.n = g5.n + 1 := by rw [← hq_g6]; rfl
            have bw : At g6 g5.n (IObj.rows [[IV.int .i64 p.addr]] 2 1 false) := by rw [← hq_g6]; exact At.new _ _
            clear hq_g6
            have br := br.ext e_g6
            have ov := ov.ext e_g6
            have bq := bq.ext e_g6
            have bp := bp.ext e_g6
            have E := E.ext e_g6
            refine ov.app (by simp) (by rw [intRows_len]; simp; omega) ?_
            intro v6 h7 o6 t6 n6 v6o v6c
            have br := br.turn ov (by omega) t6
            have bq := bq.turn ov (by omega) t6
            have E := E.turn ov (by omega) t6
            have le_t6 := t6.le
            simp only [i0, i25, i6, i8, i9, br.eq, v6o, v6c, go_sem, Hold.p, HoldK.k, HoldL.K, HoldL.body, Nat.reduceBEq, Nat.reduceAdd, List.getElem?_cons_zero, List.getElem?_cons_succ, Option.bind_some, List.map_cons, List.map_nil, Nat.zero_add, if_true, List.getD_cons_zero, List.getD_cons_succ, List.contains_cons, List.contains_nil, Nat.reduceBEq, Bool.or_true, Bool.true_or, Bool.or_false, Bool.false_or, Bool.not_true, Bool.not_false, true_and, and_true, rowA_whole, push_n, set_n, push_obj, set_obj, set_push, set_push_ne, set_set, Nat.add_assoc, Nat.left_eq_add, Nat.add_eq_left, Nat.add_left_cancel_iff, Nat.reduceEqDiff, stO_1s, stO_ws, boxA_s, one_bool, one_int, one_str, one_ptr, one_nilptr, one_slice, one_eslice, one_nilslice, one_func, one_iface, one_niliface, List.all_cons, List.all_nil, List.length_cons, List.length_nil, Nat.reduceLT, Nat.reduceEqDiff, Nat.reduceLeDiff, Bool.and_true, Nat.one_ne_zero, Nat.succ_ne_zero, reduceIte, if_false, List.getElem?_cons_zero, List.set_cons_zero, List.set_cons_succ]
            have o7 : Own g6.n (g6.n + 1) h7 2 1 v6 (intRows (zs ++ [p.addr])) := by rw [intRows_append]; exact o6
            generalize hq_g8 : IH.set h7 (g2.n) (IObj.rows [[IV.int .i64 id, IV.int .i64 0, IV.int .i64 p.ttl, IV.str qn, v6]] 44 5 false) = g8
            have l_g8 : g8.n = h7.n := by rw [← hq_g8]; rfl
            have br : At g8 (g2.n) (IObj.rows [[IV.int .i64 id, IV.int .i64 0, IV.int .i64 p.ttl, IV.str qn, v6]] 44 5 false) := by rw [← hq_g8]; exact br.here
            have o7 := o7.set (m := g2.n) (by omega) (IObj.rows [[IV.int .i64 id, IV.int .i64 0, IV.int .i64 p.ttl, IV.str qn, v6]] 44 5 false)
            rw [hq_g8] at o7
            have bq := bq.set (p := g2.n) (o' := IObj.rows [[IV.int .i64 id, IV.int .i64 0, IV.int .i64 p.ttl, IV.str qn, v6]] 44 5 false) (by omega)
            rw [hq_g8] at bq
            have E := E.set (g2.n) (by omega) (IObj.rows [[IV.int .i64 id, IV.int .i64 0, IV.int .i64 p.ttl, IV.str qn, v6]] 44 5 false)
            rw [hq_g8] at E
            clear hq_g8
            refine ⟨_, ?_, k + 1, rfl, by omega, wr64_succ k (by omega), ?_⟩
            · omega
            · rw [hst, hgo]; exact ⟨E, bq, v6, g6.n, g6.n + 1, br, o7, by omega, by omega⟩
          have d5 : decide ((0 : Int) = 20) = false := rfl
          by_cases n6 : p.ttl < sttl
          · have d6 : decide (p.ttl < sttl) = true := decide_eq_true n6
            have hgo : ansStep qn (0, sttl, zs) p = (0, p.ttl, zs ++ [p.addr]) := by
              unfold ansStep
              rw [if_pos ⟨hfit, by show zs.length < 8; omega⟩]
              rw [if_pos (.inr n6)]
            simp only [i0, i25, i6, i8, i9, d1, d3, d3b, br.eq, bp.eq, hvl, d4, d5, d6, decide_true, eq_self, nrg, go_sem, Hold.p, HoldK.k, HoldL.K, HoldL.body, Nat.reduceBEq, Nat.reduceAdd, List.getElem?_cons_zero, List.getElem?_cons_succ, Option.bind_some, List.map_cons, List.map_nil, Nat.zero_add, if_true, List.getD_cons_zero, List.getD_cons_succ, List.contains_cons, List.contains_nil, Nat.reduceBEq, Bool.or_true, Bool.true_or, Bool.or_false, Bool.false_or, Bool.not_true, Bool.not_false, true_and, and_true, rowA_whole, push_n, set_n, push_obj, set_obj, set_push, set_push_ne, set_set, Nat.add_assoc, Nat.left_eq_add, Nat.add_eq_left, Nat.add_left_cancel_iff, Nat.reduceEqDiff, stO_1s, stO_ws, boxA_s, one_bool, one_int, one_str, one_ptr, one_nilptr, one_slice, one_eslice, one_nilslice, one_func, one_iface, one_niliface, List.all_cons, List.all_nil, List.length_cons, List.length_nil, Nat.reduceLT, Nat.reduceEqDiff, Nat.reduceLeDiff, Bool.and_true, Nat.one_ne_zero, Nat.succ_ne_zero, reduceIte, if_false, List.getElem?_cons_zero, List.set_cons_zero, List.set_cons_succ]
            generalize hq_g5 : IH.set g4a (g2.n) (IObj.rows [[IV.int .i64 id, IV.int .i64 0, IV.int .i64 p.ttl, IV.str qn, v]] 44 5 false) = g5
            have l_g5 : g5.n = g4a.n := by rw [← hq_g5]; rfl
            have br : At g5 (g2.n) (IObj.rows [[IV.int .i64 id, IV.int .i64 0, IV.int .i64 p.ttl, IV.str qn, v]] 44 5 false) := by rw [← hq_g5]; exact br.here
            have ov := ov.set (m := g2.n) (by omega) (IObj.rows [[IV.int .i64 id, IV.int .i64 0, IV.int .i64 p.ttl, IV.str qn, v]] 44 5 false)
            rw [hq_g5] at ov
            have bq := bq.set (p := g2.n) (o' := IObj.rows [[IV.int .i64 id, IV.int .i64 0, IV.int .i64 p.ttl, IV.str qn, v]] 44 5 false) (by omega)
            rw [hq_g5] at bq
            have bp := bp.set (p := g2.n) (o' := IObj.rows [[IV.int .i64 id, IV.int .i64 0, IV.int .i64 p.ttl, IV.str qn, v]] 44 5 false) (by omega)
            rw [hq_g5] at bp
            have E := E.set (g2.n) (by omega) (IObj.rows [[IV.int .i64 id, IV.int .i64 0, IV.int .i64 p.ttl, IV.str qn, v]] 44 5 false)
            rw [hq_g5] at E
            clear hq_g5
            have n5 : (g2.n = g5.n) = False := by simp; omega
            try simp only [i0, i25, i6, i8, i9, bq.eq, br.eq, bp.eq, n5, nrg, bslA_1, go_sem, Hold.p, HoldK.k, HoldL.K, HoldL.body, Nat.reduceBEq, Nat.reduceAdd, List.getElem?_cons_zero, List.getElem?_cons_succ, Option.bind_some, List.map_cons, List.map_nil, Nat.zero_add, if_true, List.getD_cons_zero, List.getD_cons_succ, List.contains_cons, List.contains_nil, Nat.reduceBEq, Bool.or_true, Bool.true_or, Bool.or_false, Bool.false_or, Bool.not_true, Bool.not_false, true_and, and_true, rowA_whole, push_n, set_n, push_obj, set_obj, set_push, set_push_ne, set_set, Nat.add_assoc, Nat.left_eq_add, Nat.add_eq_left, Nat.add_left_cancel_iff, Nat.reduceEqDiff, stO_1s, stO_ws, boxA_s, one_bool, one_int, one_str, one_ptr, one_nilptr, one_slice, one_eslice, one_nilslice, one_func, one_iface, one_niliface, List.all_cons, List.all_nil, List.length_cons, List.length_nil, Nat.reduceLT, Nat.reduceEqDiff, Nat.reduceLeDiff, Bool.and_true, Nat.one_ne_zero, Nat.succ_ne_zero, reduceIte, if_false, List.getElem?_cons_zero, List.set_cons_zero, List.set_cons_succ]
            generalize hq_g6 : IH.push g5 (IObj.rows [[IV.int .i64 p.addr]] 2 1 false) = g6
            have e_g6 : Ext g5 g6 := by rw [← hq_g6]; exact (Ext.refl _).push _
            have l_g6 : g6.n = g5.n + 1 := by rw [← hq_g6]; rfl
            have bw : At g6 g5.n (IObj.rows [[IV.int .i64 p.addr]] 2 1 false) := by rw [← hq_g6]; exact At.new _ _
            clear hq_g6
            have br := br.ext e_g6
            have ov := ov.ext e_g6
            have bq := bq.ext e_g6
            have bp := bp.ext e_g6
            have E := E.ext e_g6
            refine ov.app (by simp) (by rw [intRows_len]; simp; omega) ?_
            intro v6 h7 o6 t6 n6 v6o v6c
            have br := br.turn ov (by omega) t6
            have bq := bq.turn ov (by omega) t6
            have E := E.turn ov (by omega) t6
            have le_t6 := t6.le
            simp only [i0, i25, i6, i8, i9, br.eq, v6o, v6c, go_sem, Hold.p, HoldK.k, HoldL.K, HoldL.body, Nat.reduceBEq, Nat.reduceAdd, List.getElem?_cons_zero, List.getElem?_cons_succ, Option.bind_some, List.map_cons, List.map_nil, Nat.zero_add, if_true, List.getD_cons_zero, List.getD_cons_succ, List.contains_cons, List.contains_nil, Nat.reduceBEq, Bool.or_true, Bool.true_or, Bool.or_false, Bool.false_or, Bool.not_true, Bool.not_false, true_and, and_true, rowA_whole, push_n, set_n, push_obj, set_obj, set_push, set_push_ne, set_set, Nat.add_assoc, Nat.left_eq_add, Nat.add_eq_left, Nat.add_left_cancel_iff, Nat.reduceEqDiff, stO_1s, stO_ws, boxA_s, one_bool, one_int, one_str, one_ptr, one_nilptr, one_slice, one_eslice, one_nilslice, one_func, one_iface, one_niliface, List.all_cons, List.all_nil, List.length_cons, List.length_nil, Nat.reduceLT, Nat.reduceEqDiff, Nat.reduceLeDiff, Bool.and_true, Nat.one_ne_zero, Nat.succ_ne_zero, reduceIte, if_false, List.getElem?_cons_zero, List.set_cons_zero, List.set_cons_succ]
            have o7 : Own g6.n (g6.n + 1) h7 2 1 v6 (intRows (zs ++ [p.addr])) := by rw [intRows_append]; exact o6
            generalize hq_g8 : IH.set h7 (g2.n) (IObj.rows [[IV.int .i64 id, IV.int .i64 0, IV.int .i64 p.ttl, IV.str qn, v6]] 44 5 false) = g8
            have l_g8 : g8.n = h7.n := by rw [← hq_g8]; rfl
            have br : At g8 (g2.n) (IObj.rows [[IV.int .i64 id, IV.int .i64 0, IV.int .i64 p.ttl, IV.str qn, v6]] 44 5 false) := by rw [← hq_g8]; exact br.here
            have o7 := o7.set (m := g2.n) (by omega) (IObj.rows [[IV.int .i64 id, IV.int .i64 0, IV.int .i64 p.ttl, IV.str qn, v6]] 44 5 false)
            rw [hq_g8] at o7
            have bq := bq.set (p := g2.n) (o' := IObj.rows [[IV.int .i64 id, IV.int .i64 0, IV.int .i64 p.ttl, IV.str qn, v6]] 44 5 false) (by omega)
            rw [hq_g8] at bq
            have E := E.set (g2.n) (by omega) (IObj.rows [[IV.int .i64 id, IV.int .i64 0, IV.int .i64 p.ttl, IV.str qn, v6]] 44 5 false)
            rw [hq_g8] at E
            clear hq_g8
            refine ⟨_, ?_, k + 1, rfl, by omega, wr64_succ k (by omega), ?_⟩
            · omega
            · rw [hst, hgo]; exact ⟨E, bq, v6, g6.n, g6.n + 1, br, o7, by omega, by omega⟩
          · have d6 : decide (p.ttl < sttl) = false := decide_eq_false n6
            have hgo : ansStep qn (0, sttl, zs) p = (0, sttl, zs ++ [p.addr]) := by
              unfold ansStep
              rw [if_pos ⟨hfit, by show zs.length < 8; omega⟩]
              rw [if_neg (by show ¬ ((0 : Int) ≠ 0 ∨ p.ttl < sttl); omega)]
            simp only [i0, i25, i6, i8, i9, d1, d3, d3b, br.eq, bp.eq, hvl, d4, d5, d6, decide_true, eq_self, nrg, go_sem, Hold.p, HoldK.k, HoldL.K, HoldL.body, Nat.reduceBEq, Nat.reduceAdd, List.getElem?_cons_zero, List.getElem?_cons_succ, Option.bind_some, List.map_cons, List.map_nil, Nat.zero_add, if_true, List.getD_cons_zero, List.getD_cons_succ, List.contains_cons, List.contains_nil, Nat.reduceBEq, Bool.or_true, Bool.true_or, Bool.or_false, Bool.false_or, Bool.not_true, Bool.not_false, true_and, and_true, rowA_whole, push_n, set_n, push_obj, set_obj, set_push, set_push_ne, set_set, Nat.add_assoc, Nat.left_eq_add, Nat.add_eq_left, Nat.add_left_cancel_iff, Nat.reduceEqDiff, stO_1s, stO_ws, boxA_s, one_bool, one_int, one_str, one_ptr, one_nilptr, one_slice, one_eslice, one_nilslice, one_func, one_iface, one_niliface, List.all_cons, List.all_nil, List.length_cons, List.length_nil, Nat.reduceLT, Nat.reduceEqDiff, Nat.reduceLeDiff, Bool.and_true, Nat.one_ne_zero, Nat.succ_ne_zero, reduceIte, if_false, List.getElem?_cons_zero, List.set_cons_zero, List.set_cons_succ]
            generalize hq_g5 : IH.set g4a (g2.n) (IObj.rows [[IV.int .i64 id, IV.int .i64 0, IV.int .i64 sttl, IV.str qn, v]] 44 5 false) = g5
            have l_g5 : g5.n = g4a.n := by rw [← hq_g5]; rfl
            have br : At g5 (g2.n) (IObj.rows [[IV.int .i64 id, IV.int .i64 0, IV.int .i64 sttl, IV.str qn, v]] 44 5 false) := by rw [← hq_g5]; exact br.here
            have ov := ov.set (m := g2.n) (by omega) (IObj.rows [[IV.int .i64 id, IV.int .i64 0, IV.int .i64 sttl, IV.str qn, v]] 44 5 false)
            rw [hq_g5] at ov
            have bq := bq.set (p := g2.n) (o' := IObj.rows [[IV.int .i64 id, IV.int .i64 0, IV.int .i64 sttl, IV.str qn, v]] 44 5 false) (by omega)
            rw [hq_g5] at bq
            have bp := bp.set (p := g2.n) (o' := IObj.rows [[IV.int .i64 id, IV.int .i64 0, IV.int .i64 sttl, IV.str qn, v]] 44 5 false) (by omega)
            rw [hq_g5] at bp
            have E := E.set (g2.n) (by omega) (IObj.rows [[IV.int .i64 id, IV.int .i64 0, IV.int .i64 sttl, IV.str qn, v]] 44 5 false)
            rw [hq_g5] at E
            clear hq_g5
            have n5 : (g2.n = g5.n) = False := by simp; omega
            try simp only [i0, i25, i6, i8, i9, bq.eq, br.eq, bp.eq, n5, nrg, bslA_1, go_sem, Hold.p, HoldK.k, HoldL.K, HoldL.body, Nat.reduceBEq, Nat.reduceAdd, List.getElem?_cons_zero, List.getElem?_cons_succ, Option.bind_some, List.map_cons, List.map_nil, Nat.zero_add, if_true, List.getD_cons_zero, List.getD_cons_succ, List.contains_cons, List.contains_nil, Nat.reduceBEq, Bool.or_true, Bool.true_or, Bool.or_false, Bool.false_or, Bool.not_true, Bool.not_false, true_and, and_true, rowA_whole, push_n, set_n, push_obj, set_obj, set_push, set_push_ne, set_set, Nat.add_assoc, Nat.left_eq_add, Nat.add_eq_left, Nat.add_left_cancel_iff, Nat.reduceEqDiff, stO_1s, stO_ws, boxA_s, one_bool, one_int, one_str, one_ptr, one_nilptr, one_slice, one_eslice, one_nilslice, one_func, one_iface, one_niliface, List.all_cons, List.all_nil, List.length_cons, List.length_nil, Nat.reduceLT, Nat.reduceEqDiff, Nat.reduceLeDiff, Bool.and_true, Nat.one_ne_zero, Nat.succ_ne_zero, reduceIte, if_false, List.getElem?_cons_zero, List.set_cons_zero, List.set_cons_succ]
            generalize hq_g6 : IH.push g5 (IObj.rows [[IV.int .i64 p.addr]] 2 1 false) = g6
            have e_g6 : Ext g5 g6 := by rw [← hq_g6]; exact (Ext.refl _).push _
            have l_g6 : g6.n = g5.n + 1 := by rw [← hq_g6]; rfl
            have bw : At g6 g5.n (IObj.rows [[IV.int .i64 p.addr]] 2 1 false) := by rw [← hq_g6]; exact At.new _ _
            clear hq_g6
            have br := br.ext e_g6
            have ov := ov.ext e_g6
            have bq := bq.ext e_g6
            have bp := bp.ext e_g6
            have E := E.ext e_g6
            refine ov.app (by simp) (by rw [intRows_len]; simp; omega) ?_
            intro v6 h7 o6 t6 n6 v6o v6c
            have br := br.turn ov (by omega) t6
            have bq := bq.turn ov (by omega) t6
            have E := E.turn ov (by omega) t6
            have le_t6 := t6.le
            simp only [i0, i25, i6, i8, i9, br.eq, v6o, v6c, go_sem, Hold.p, HoldK.k, HoldL.K, HoldL.body, Nat.reduceBEq, Nat.reduceAdd, List.getElem?_cons_zero, List.getElem?_cons_succ, Option.bind_some, List.map_cons, List.map_nil, Nat.zero_add, if_true, List.getD_cons_zero, List.getD_cons_succ, List.contains_cons, List.contains_nil, Nat.reduceBEq, Bool.or_true, Bool.true_or, Bool.or_false, Bool.false_or, Bool.not_true, Bool.not_false, true_and, and_true, rowA_whole, push_n, set_n, push_obj, set_obj, set_push, set_push_ne, set_set, Nat.add_assoc, Nat.left_eq_add, Nat.add_eq_left, Nat.add_left_cancel_iff, Nat.reduceEqDiff, stO_1s, stO_ws, boxA_s, one_bool, one_int, one_str, one_ptr, one_nilptr, one_slice, one_eslice, one_nilslice, one_func, one_iface, one_niliface, List.all_cons, List.all_nil, List.length_cons, List.length_nil, Nat.reduceLT, Nat.reduceEqDiff, Nat.reduceLeDiff, Bool.and_true, Nat.one_ne_zero, Nat.succ_ne_zero, reduceIte, if_false, List.getElem?_cons_zero, List.set_cons_zero, List.set_cons_succ]
            have o7 : Own g6.n (g6.n + 1) h7 2 1 v6 (intRows (zs ++ [p.addr])) := by rw [intRows_append]; exact o6
            generalize hq_g8 : IH.set h7 (g2.n) (IObj.rows [[IV.int .i64 id, IV.int .i64 0, IV.int .i64 sttl, IV.str qn, v6]] 44 5 false) = g8
            have l_g8 : g8.n = h7.n := by rw [← hq_g8]; rfl
            have br : At g8 (g2.n) (IObj.rows [[IV.int .i64 id, IV.int .i64 0, IV.int .i64 sttl, IV.str qn, v6]] 44 5 false) := by rw [← hq_g8]; exact br.here
            have o7 := o7.set (m := g2.n) (by omega) (IObj.rows [[IV.int .i64 id, IV.int .i64 0, IV.int .i64 sttl, IV.str qn, v6]] 44 5 false)
            rw [hq_g8] at o7
            have bq := bq.set (p := g2.n) (o' := IObj.rows [[IV.int .i64 id, IV.int .i64 0, IV.int .i64 sttl, IV.str qn, v6]] 44 5 false) (by omega)
            rw [hq_g8] at bq
            have E := E.set (g2.n) (by omega) (IObj.rows [[IV.int .i64 id, IV.int .i64 0, IV.int .i64 sttl, IV.str qn, v6]] 44 5 false)
            rw [hq_g8] at E
            clear hq_g8
            refine ⟨_, ?_, k + 1, rfl, by omega, wr64_succ k (by omega), ?_⟩
            · omega
            · rw [hst, hgo]; exact ⟨E, bq, v6, g6.n, g6.n + 1, br, o7, by omega, by omega⟩
        · have d1 : decide (p.nm = qn) = false := decide_eq_false n1
          simp only [i0, i25, i6, i8, i9, d1, go_sem, Hold.p, HoldK.k, HoldL.K, HoldL.body, Nat.reduceBEq, Nat.reduceAdd, List.getElem?_cons_zero, List.getElem?_cons_succ, Option.bind_some, List.map_cons, List.map_nil, Nat.zero_add, if_true, List.getD_cons_zero, List.getD_cons_succ, List.contains_cons, List.contains_nil, Nat.reduceBEq, Bool.or_true, Bool.true_or, Bool.or_false, Bool.false_or, Bool.not_true, Bool.not_false, true_and, and_true, rowA_whole, push_n, set_n, push_obj, set_obj, set_push, set_push_ne, set_set, Nat.add_assoc, Nat.left_eq_add, Nat.add_eq_left, Nat.add_left_cancel_iff, Nat.reduceEqDiff, stO_1s, stO_ws, boxA_s, one_bool, one_int, one_str, one_ptr, one_nilptr, one_slice, one_eslice, one_nilslice, one_func, one_iface, one_niliface, List.all_cons, List.all_nil, List.length_cons, List.length_nil, Nat.reduceLT, Nat.reduceEqDiff, Nat.reduceLeDiff, Bool.and_true, Nat.one_ne_zero, Nat.succ_ne_zero, reduceIte, if_false, List.getElem?_cons_zero, List.set_cons_zero, List.set_cons_succ]
          have hskip : ansStep qn (sc, sttl, zs) p = (sc, sttl, zs) := if_neg (by unfold fitE; rw [d1, Bool.false_and, Bool.false_and]; simp)
          refine ⟨_, ?_, k + 1, rfl, by omega, wr64_succ k (by omega), ?_⟩
          · omega
          · rw [hst, hskip]; exact ⟨E, bq, v, lo, hi, br, ov, hlo, by omega⟩
      · obtain rfl : k = es.length := by omega
        rw [List.take_length] at br ov inv2
        generalize ansQ es qn = st at br ov hdef inv2
        obtain ⟨sc, sttl, zs⟩ := st
        simp only at br ov hdef inv2
        simp only [i8, br.eq, go_sem, Hold.p, HoldK.k, HoldL.K, HoldL.body, Nat.reduceBEq, Nat.reduceAdd, List.getElem?_cons_zero, List.getElem?_cons_succ, Option.bind_some, List.map_cons, List.map_nil, Nat.zero_add, if_true, List.getD_cons_zero, List.getD_cons_succ, List.contains_cons, List.contains_nil, Nat.reduceBEq, Bool.or_true, Bool.true_or, Bool.or_false, Bool.false_or, Bool.not_true, Bool.not_false, true_and, and_true, rowA_whole, push_n, set_n, push_obj, set_obj, set_push, set_push_ne, set_set, Nat.add_assoc, Nat.left_eq_add, Nat.add_eq_left, Nat.add_left_cancel_iff, Nat.reduceEqDiff, stO_1s, stO_ws, boxA_s, one_bool, one_int, one_str, one_ptr, one_nilptr, one_slice, one_eslice, one_nilslice, one_func, one_iface, one_niliface, List.all_cons, List.all_nil, List.length_cons, List.length_nil, Nat.reduceLT, Nat.reduceEqDiff, Nat.reduceLeDiff, Bool.and_true, Nat.one_ne_zero, Nat.succ_ne_zero, reduceIte, if_false, List.getElem?_cons_zero, List.set_cons_zero, List.set_cons_succ]
        refine callA_of (implEncodeReply_c g id sc sttl qn v zs ov.sl (by omega) (by omega)) ?_
        rintro r h7 ⟨vr, rfl, o7, E7⟩
        rw [← hdef] at o7 ⊢
        simp only [go_sem, Hold.p, HoldK.k, HoldL.K, HoldL.body, Nat.reduceBEq, Nat.reduceAdd, List.getElem?_cons_zero, List.getElem?_cons_succ, Option.bind_some, List.map_cons, List.map_nil, Nat.zero_add, if_true, List.getD_cons_zero, List.getD_cons_succ, List.contains_cons, List.contains_nil, Nat.reduceBEq, Bool.or_true, Bool.true_or, Bool.or_false, Bool.false_or, Bool.not_true, Bool.not_false, true_and, and_true, rowA_whole, push_n, set_n, push_obj, set_obj, set_push, set_push_ne, set_set, Nat.add_assoc, Nat.left_eq_add, Nat.add_eq_left, Nat.add_left_cancel_iff, Nat.reduceEqDiff, stO_1s, stO_ws, boxA_s, one_bool, one_int, one_str, one_ptr, one_nilptr, one_slice, one_eslice, one_nilslice, one_func, one_iface, one_niliface, List.all_cons, List.all_nil, List.length_cons, List.length_nil, Nat.reduceLT, Nat.reduceEqDiff, Nat.reduceLeDiff, Bool.and_true, Nat.one_ne_zero, Nat.succ_ne_zero, reduceIte, if_false, List.getElem?_cons_zero, List.set_cons_zero, List.set_cons_succ]
        exact ⟨vr, rfl, o7.wide E.le (Nat.le_refl _) (Nat.le_refl _), E.trans E7⟩
  · have d0 : decide (qc = 0) = false := decide_eq_false c0
    rw [if_pos c0] at hdef
    simp only [d0, go_sem, Hold.p, HoldK.k, HoldL.K, HoldL.body, Nat.reduceBEq, Nat.reduceAdd, List.getElem?_cons_zero, List.getElem?_cons_succ, Option.bind_some, List.map_cons, List.map_nil, Nat.zero_add, if_true, List.getD_cons_zero, List.getD_cons_succ, List.contains_cons, List.contains_nil, Nat.reduceBEq, Bool.or_true, Bool.true_or, Bool.or_false, Bool.false_or, Bool.not_true, Bool.not_false, true_and, and_true, rowA_whole, push_n, set_n, push_obj, set_obj, set_push, set_push_ne, set_set, Nat.add_assoc, Nat.left_eq_add, Nat.add_eq_left, Nat.add_left_cancel_iff, Nat.reduceEqDiff, stO_1s, stO_ws, boxA_s, one_bool, one_int, one_str, one_ptr, one_nilptr, one_slice, one_eslice, one_nilslice, one_func, one_iface, one_niliface, List.all_cons, List.all_nil, List.length_cons, List.length_nil, Nat.reduceLT, Nat.reduceEqDiff, Nat.reduceLeDiff, Bool.and_true, Nat.one_ne_zero, Nat.succ_ne_zero, reduceIte, if_false, List.getElem?_cons_zero, List.set_cons_zero, List.set_cons_succ]
    rw [hdef]
    exact ⟨_, rfl, Own.nil, E1⟩
end Go.Proofs.YtcmcfmgabafljaaDoor

namespace Go.Proofs.YtcmcfmgabafljaaDoor
open Go Go.IW

def shEnt : Sh := .cat .str (.cat (.int .i64) (.cat (.int .i64) .nil))
theorem fits_ents {h : IH} : ∀ {rs : List (List IV)}, (∀ r ∈ rs, Fits h shEnt r) → ∃ es : List Ent, rs = entRows es ∧ ∀ e ∈ es, e.nm.length ≤ maxLen
  | [], _ => ⟨[], rfl, by simp⟩
  | r :: rs, hf => by
    obtain ⟨es, e, he⟩ := fits_ents fun x hx => hf x (List.mem_cons_of_mem _ hx)
    obtain ⟨_, _, rfl, ⟨s, rfl, hs⟩, _, _, rfl, ⟨a, rfl, _⟩, _, _, rfl, ⟨b, rfl, _⟩, rfl⟩ := hf r List.mem_cons_self
    refine ⟨⟨s, a, b⟩ :: es, by rw [e]; rfl, ?_⟩
    intro x hx
    rcases List.mem_cons.1 hx with rfl | h1
    · exact hs
    · exact he x h1
theorem ansN_len {es : List Ent} {bs : List UInt8} : (ansN es bs).1.length ≤ 1000 := by
  unfold ansN
  split
  · simp
  · exact encR_len

set_option maxRecDepth 20000 in
theorem lawAnswerName : LawTrue Tryd.prog 8 [(.slice shEnt, false), (.slice (.int .u8), false)] := by
  rintro h ivs ha ⟨iz, r, rfl, ⟨vz, rs, hiz, hz, hzm, hzf⟩, ⟨ib, r2, rfl, ⟨vb, rb, hib, hb, hbm, hbf⟩, rfl⟩⟩
  obtain rfl := List.cons.inj hiz |>.1
  obtain rfl := List.cons.inj hib |>.1
  obtain ⟨es, rfl, hne⟩ := fits_ents hzf
  obtain ⟨bs, rfl⟩ := fits_bytes hbf
  refine icalls (.of ok8) (Nat.le_of_ble_eq_true rfl) ?_
  unfold c8
  have hlen := hb.lenF
  rw [strRows_len] at hlen
  rw [entRows_len] at hzm
  have hb : SlR h 1 ib (strRows bs) := hb
  have hz : SlR h 3 iz (entRows es) := hz
  by_cases hbig : (1048576 : Int) < bs.length
  · have hn : decide ((1048576 : Int) < (bs.length : Int)) = true := decide_eq_true hbig
    simp only [hlen, hn, go_sem, Hold.p, HoldK.k, HoldL.K, HoldL.body, Nat.reduceBEq, Nat.reduceAdd, List.getElem?_cons_zero, List.getElem?_cons_succ, Option.bind_some, List.map_cons, List.map_nil, Nat.zero_add, if_true, List.getD_cons_zero, List.getD_cons_succ, List.contains_cons, List.contains_nil, Nat.reduceBEq, Bool.or_true, Bool.true_or, Bool.or_false, Bool.false_or, Bool.not_true, Bool.not_false, true_and, and_true, rowA_whole, push_n, set_n, push_obj, set_obj, set_push, set_push_ne, set_set, Nat.add_assoc, Nat.left_eq_add, Nat.add_eq_left, Nat.add_left_cancel_iff, Nat.reduceEqDiff, stO_1s, stO_ws, boxA_s, one_bool, one_int, one_str, one_ptr, one_nilptr, one_slice, one_eslice, one_nilslice, one_func, one_iface, one_niliface, List.all_cons, List.all_nil, List.length_cons, List.length_nil, Nat.reduceLT, Nat.reduceEqDiff, Nat.reduceLeDiff, Bool.and_true, Nat.one_ne_zero, Nat.succ_ne_zero, reduceIte, if_false, List.getElem?_cons_zero, List.set_cons_zero, List.set_cons_succ]
  have hn : decide ((1048576 : Int) < (bs.length : Int)) = false := decide_eq_false hbig
  have hl : bs.length ≤ 1048576 := by omega
  have aZ := Arg.of hz
  have aB := Arg.of hb
  simp only [hlen, hn, go_sem, Hold.p, HoldK.k, HoldL.K, HoldL.body, Nat.reduceBEq, Nat.reduceAdd, List.getElem?_cons_zero, List.getElem?_cons_succ, Option.bind_some, List.map_cons, List.map_nil, Nat.zero_add, if_true, List.getD_cons_zero, List.getD_cons_succ, List.contains_cons, List.contains_nil, Nat.reduceBEq, Bool.or_true, Bool.true_or, Bool.or_false, Bool.false_or, Bool.not_true, Bool.not_false, true_and, and_true, rowA_whole, push_n, set_n, push_obj, set_obj, set_push, set_push_ne, set_set, Nat.add_assoc, Nat.left_eq_add, Nat.add_eq_left, Nat.add_left_cancel_iff, Nat.reduceEqDiff, stO_1s, stO_ws, boxA_s, one_bool, one_int, one_str, one_ptr, one_nilptr, one_slice, one_eslice, one_nilslice, one_func, one_iface, one_niliface, List.all_cons, List.all_nil, List.length_cons, List.length_nil, Nat.reduceLT, Nat.reduceEqDiff, Nat.reduceLeDiff, Bool.and_true, Nat.one_ne_zero, Nat.succ_ne_zero, reduceIte, if_false, List.getElem?_cons_zero, List.set_cons_zero, List.set_cons_succ]
  refine callA_of (szNameEntryS_c h iz es 1048576 hz (by omega) hzm hne) ?_
  rintro r h1 ⟨⟨L, rfl, hL1, hL2⟩, hE1⟩
  have aZ := aZ.ext hE1
  have aB := aB.ext hE1
  have le_hE1 := hE1.le
  by_cases hbig : L < 0
  · have hn : decide (L < 0) = true := decide_eq_true hbig
    simp only [hn, go_sem, Hold.p, HoldK.k, HoldL.K, HoldL.body, Nat.reduceBEq, Nat.reduceAdd, List.getElem?_cons_zero, List.getElem?_cons_succ, Option.bind_some, List.map_cons, List.map_nil, Nat.zero_add, if_true, List.getD_cons_zero, List.getD_cons_succ, List.contains_cons, List.contains_nil, Nat.reduceBEq, Bool.or_true, Bool.true_or, Bool.or_false, Bool.false_or, Bool.not_true, Bool.not_false, true_and, and_true, rowA_whole, push_n, set_n, push_obj, set_obj, set_push, set_push_ne, set_set, Nat.add_assoc, Nat.left_eq_add, Nat.add_eq_left, Nat.add_left_cancel_iff, Nat.reduceEqDiff, stO_1s, stO_ws, boxA_s, one_bool, one_int, one_str, one_ptr, one_nilptr, one_slice, one_eslice, one_nilslice, one_func, one_iface, one_niliface, List.all_cons, List.all_nil, List.length_cons, List.length_nil, Nat.reduceLT, Nat.reduceEqDiff, Nat.reduceLeDiff, Bool.and_true, Nat.one_ne_zero, Nat.succ_ne_zero, reduceIte, if_false, List.getElem?_cons_zero, List.set_cons_zero, List.set_cons_succ]
  have hn : decide (L < 0) = false := decide_eq_false hbig
  have hzl : es.length ≤ 1048576 := by have := hL2 (by omega); omega
  simp only [hn, go_sem, Hold.p, HoldK.k, HoldL.K, HoldL.body, Nat.reduceBEq, Nat.reduceAdd, List.getElem?_cons_zero, List.getElem?_cons_succ, Option.bind_some, List.map_cons, List.map_nil, Nat.zero_add, if_true, List.getD_cons_zero, List.getD_cons_succ, List.contains_cons, List.contains_nil, Nat.reduceBEq, Bool.or_true, Bool.true_or, Bool.or_false, Bool.false_or, Bool.not_true, Bool.not_false, true_and, and_true, rowA_whole, push_n, set_n, push_obj, set_obj, set_push, set_push_ne, set_set, Nat.add_assoc, Nat.left_eq_add, Nat.add_eq_left, Nat.add_left_cancel_iff, Nat.reduceEqDiff, stO_1s, stO_ws, boxA_s, one_bool, one_int, one_str, one_ptr, one_nilptr, one_slice, one_eslice, one_nilslice, one_func, one_iface, one_niliface, List.all_cons, List.all_nil, List.length_cons, List.length_nil, Nat.reduceLT, Nat.reduceEqDiff, Nat.reduceLeDiff, Bool.and_true, Nat.one_ne_zero, Nat.succ_ne_zero, reduceIte, if_false, List.getElem?_cons_zero, List.set_cons_zero, List.set_cons_succ]
  refine callA_of (toNameEntryS_c _ iz es aZ.sl hzl) ?_
  rintro v2 h2 ⟨o2, hE2⟩
  have aZ := aZ.ext hE2
  have aB := aB.ext hE2
  have le_hE2 := hE2.le
  simp only [go_sem, Hold.p, HoldK.k, HoldL.K, HoldL.body, Nat.reduceBEq, Nat.reduceAdd, List.getElem?_cons_zero, List.getElem?_cons_succ, Option.bind_some, List.map_cons, List.map_nil, Nat.zero_add, if_true, List.getD_cons_zero, List.getD_cons_succ, List.contains_cons, List.contains_nil, Nat.reduceBEq, Bool.or_true, Bool.true_or, Bool.or_false, Bool.false_or, Bool.not_true, Bool.not_false, true_and, and_true, rowA_whole, push_n, set_n, push_obj, set_obj, set_push, set_push_ne, set_set, Nat.add_assoc, Nat.left_eq_add, Nat.add_eq_left, Nat.add_left_cancel_iff, Nat.reduceEqDiff, stO_1s, stO_ws, boxA_s, one_bool, one_int, one_str, one_ptr, one_nilptr, one_slice, one_eslice, one_nilslice, one_func, one_iface, one_niliface, List.all_cons, List.all_nil, List.length_cons, List.length_nil, Nat.reduceLT, Nat.reduceEqDiff, Nat.reduceLeDiff, Bool.and_true, Nat.one_ne_zero, Nat.succ_ne_zero, reduceIte, if_false, List.getElem?_cons_zero, List.set_cons_zero, List.set_cons_succ]
  refine callA_of (toByteS_c _ ib bs aB.sl hl) ?_
  rintro v3 h3 ⟨o3, hE3⟩
  have aZ := aZ.ext hE3
  have aB := aB.ext hE3
  have o2 := o2.ext hE3
  have le_hE3 := hE3.le
  simp only [go_sem, Hold.p, HoldK.k, HoldL.K, HoldL.body, Nat.reduceBEq, Nat.reduceAdd, List.getElem?_cons_zero, List.getElem?_cons_succ, Option.bind_some, List.map_cons, List.map_nil, Nat.zero_add, if_true, List.getD_cons_zero, List.getD_cons_succ, List.contains_cons, List.contains_nil, Nat.reduceBEq, Bool.or_true, Bool.true_or, Bool.or_false, Bool.false_or, Bool.not_true, Bool.not_false, true_and, and_true, rowA_whole, push_n, set_n, push_obj, set_obj, set_push, set_push_ne, set_set, Nat.add_assoc, Nat.left_eq_add, Nat.add_eq_left, Nat.add_left_cancel_iff, Nat.reduceEqDiff, stO_1s, stO_ws, boxA_s, one_bool, one_int, one_str, one_ptr, one_nilptr, one_slice, one_eslice, one_nilslice, one_func, one_iface, one_niliface, List.all_cons, List.all_nil, List.length_cons, List.length_nil, Nat.reduceLT, Nat.reduceEqDiff, Nat.reduceLeDiff, Bool.and_true, Nat.one_ne_zero, Nat.succ_ne_zero, reduceIte, if_false, List.getElem?_cons_zero, List.set_cons_zero, List.set_cons_succ]
  refine callA_of (specAnswerName_c _ v2 v3 es bs o2.sl o3.sl hzl hl) ?_
  rintro r h4 ⟨vW, rfl, oW, hE4⟩
  have aZ := aZ.ext hE4
  have aB := aB.ext hE4
  have le_hE4 := hE4.le
  have hfl : (ansN es bs).1.length ≤ 1000 := ansN_len
  generalize hfb : ansN es bs = fb at oW hfl
  obtain ⟨ws, fc⟩ := fb
  simp only at oW hfl
  simp only [go_sem, Hold.p, HoldK.k, HoldL.K, HoldL.body, Nat.reduceBEq, Nat.reduceAdd, List.getElem?_cons_zero, List.getElem?_cons_succ, Option.bind_some, List.map_cons, List.map_nil, Nat.zero_add, if_true, List.getD_cons_zero, List.getD_cons_succ, List.contains_cons, List.contains_nil, Nat.reduceBEq, Bool.or_true, Bool.true_or, Bool.or_false, Bool.false_or, Bool.not_true, Bool.not_false, true_and, and_true, rowA_whole, push_n, set_n, push_obj, set_obj, set_push, set_push_ne, set_set, Nat.add_assoc, Nat.left_eq_add, Nat.add_eq_left, Nat.add_left_cancel_iff, Nat.reduceEqDiff, stO_1s, stO_ws, boxA_s, one_bool, one_int, one_str, one_ptr, one_nilptr, one_slice, one_eslice, one_nilslice, one_func, one_iface, one_niliface, List.all_cons, List.all_nil, List.length_cons, List.length_nil, Nat.reduceLT, Nat.reduceEqDiff, Nat.reduceLeDiff, Bool.and_true, Nat.one_ne_zero, Nat.succ_ne_zero, reduceIte, if_false, List.getElem?_cons_zero, List.set_cons_zero, List.set_cons_succ]
  refine callA_of (toNameEntryS_c _ iz es aZ.sl hzl) ?_
  rintro vX h5 ⟨oX, hE5⟩
  have aZ := aZ.ext hE5
  have aB := aB.ext hE5
  have oW := oW.ext hE5
  have le_hE5 := hE5.le
  simp only [go_sem, Hold.p, HoldK.k, HoldL.K, HoldL.body, Nat.reduceBEq, Nat.reduceAdd, List.getElem?_cons_zero, List.getElem?_cons_succ, Option.bind_some, List.map_cons, List.map_nil, Nat.zero_add, if_true, List.getD_cons_zero, List.getD_cons_succ, List.contains_cons, List.contains_nil, Nat.reduceBEq, Bool.or_true, Bool.true_or, Bool.or_false, Bool.false_or, Bool.not_true, Bool.not_false, true_and, and_true, rowA_whole, push_n, set_n, push_obj, set_obj, set_push, set_push_ne, set_set, Nat.add_assoc, Nat.left_eq_add, Nat.add_eq_left, Nat.add_left_cancel_iff, Nat.reduceEqDiff, stO_1s, stO_ws, boxA_s, one_bool, one_int, one_str, one_ptr, one_nilptr, one_slice, one_eslice, one_nilslice, one_func, one_iface, one_niliface, List.all_cons, List.all_nil, List.length_cons, List.length_nil, Nat.reduceLT, Nat.reduceEqDiff, Nat.reduceLeDiff, Bool.and_true, Nat.one_ne_zero, Nat.succ_ne_zero, reduceIte, if_false, List.getElem?_cons_zero, List.set_cons_zero, List.set_cons_succ]
  refine callA_of (toByteS_c _ ib bs aB.sl hl) ?_
  rintro vY h6 ⟨oY, hE6⟩
  have aZ := aZ.ext hE6
  have aB := aB.ext hE6
  have oW := oW.ext hE6
  have oX := oX.ext hE6
  have le_hE6 := hE6.le
  simp only [go_sem, Hold.p, HoldK.k, HoldL.K, HoldL.body, Nat.reduceBEq, Nat.reduceAdd, List.getElem?_cons_zero, List.getElem?_cons_succ, Option.bind_some, List.map_cons, List.map_nil, Nat.zero_add, if_true, List.getD_cons_zero, List.getD_cons_succ, List.contains_cons, List.contains_nil, Nat.reduceBEq, Bool.or_true, Bool.true_or, Bool.or_false, Bool.false_or, Bool.not_true, Bool.not_false, true_and, and_true, rowA_whole, push_n, set_n, push_obj, set_obj, set_push, set_push_ne, set_set, Nat.add_assoc, Nat.left_eq_add, Nat.add_eq_left, Nat.add_left_cancel_iff, Nat.reduceEqDiff, stO_1s, stO_ws, boxA_s, one_bool, one_int, one_str, one_ptr, one_nilptr, one_slice, one_eslice, one_nilslice, one_func, one_iface, one_niliface, List.all_cons, List.all_nil, List.length_cons, List.length_nil, Nat.reduceLT, Nat.reduceEqDiff, Nat.reduceLeDiff, Bool.and_true, Nat.one_ne_zero, Nat.succ_ne_zero, reduceIte, if_false, List.getElem?_cons_zero, List.set_cons_zero, List.set_cons_succ]
  refine callA_of (implAnswerName_c _ vX vY es bs oX.sl oY.sl hzl hl) ?_
  rintro r h7 ⟨vG, rfl, oG, hE7⟩
  rw [hfb] at oG
  simp only [hfb] at oG ⊢
  have aZ := aZ.ext hE7
  have aB := aB.ext hE7
  have oW := oW.ext hE7
  have oX := oX.ext hE7
  have oY := oY.ext hE7
  have le_hE7 := hE7.le
  simp only [go_sem, Hold.p, HoldK.k, HoldL.K, HoldL.body, Nat.reduceBEq, Nat.reduceAdd, List.getElem?_cons_zero, List.getElem?_cons_succ, Option.bind_some, List.map_cons, List.map_nil, Nat.zero_add, if_true, List.getD_cons_zero, List.getD_cons_succ, List.contains_cons, List.contains_nil, Nat.reduceBEq, Bool.or_true, Bool.true_or, Bool.or_false, Bool.false_or, Bool.not_true, Bool.not_false, true_and, and_true, rowA_whole, push_n, set_n, push_obj, set_obj, set_push, set_push_ne, set_set, Nat.add_assoc, Nat.left_eq_add, Nat.add_eq_left, Nat.add_left_cancel_iff, Nat.reduceEqDiff, stO_1s, stO_ws, boxA_s, one_bool, one_int, one_str, one_ptr, one_nilptr, one_slice, one_eslice, one_nilslice, one_func, one_iface, one_niliface, List.all_cons, List.all_nil, List.length_cons, List.length_nil, Nat.reduceLT, Nat.reduceEqDiff, Nat.reduceLeDiff, Bool.and_true, Nat.one_ne_zero, Nat.succ_ne_zero, reduceIte, if_false, List.getElem?_cons_zero, List.set_cons_zero, List.set_cons_succ]
  refine callA_of (eqByteS_c _ vG vW ws oG.sl oW.sl (by omega)) ?_
  rintro r h8 ⟨rfl, rfl⟩
  simp only [decide_true, go_sem, Hold.p, HoldK.k, HoldL.K, HoldL.body, Nat.reduceBEq, Nat.reduceAdd, List.getElem?_cons_zero, List.getElem?_cons_succ, Option.bind_some, List.map_cons, List.map_nil, Nat.zero_add, if_true, List.getD_cons_zero, List.getD_cons_succ, List.contains_cons, List.contains_nil, Nat.reduceBEq, Bool.or_true, Bool.true_or, Bool.or_false, Bool.false_or, Bool.not_true, Bool.not_false, true_and, and_true, rowA_whole, push_n, set_n, push_obj, set_obj, set_push, set_push_ne, set_set, Nat.add_assoc, Nat.left_eq_add, Nat.add_eq_left, Nat.add_left_cancel_iff, Nat.reduceEqDiff, stO_1s, stO_ws, boxA_s, one_bool, one_int, one_str, one_ptr, one_nilptr, one_slice, one_eslice, one_nilslice, one_func, one_iface, one_niliface, List.all_cons, List.all_nil, List.length_cons, List.length_nil, Nat.reduceLT, Nat.reduceEqDiff, Nat.reduceLeDiff, Bool.and_true, Nat.one_ne_zero, Nat.succ_ne_zero, reduceIte, if_false, List.getElem?_cons_zero, List.set_cons_zero, List.set_cons_succ]
  refine callA_of (toNameEntryS_c _ iz es aZ.sl hzl) ?_
  rintro v9 h9 ⟨o9, hE9⟩
  have aZ := aZ.ext hE9
  have aB := aB.ext hE9
  have oW := oW.ext hE9
  have oX := oX.ext hE9
  have oY := oY.ext hE9
  have oG := oG.ext hE9
  have le_hE9 := hE9.le
  simp only [go_sem, Hold.p, HoldK.k, HoldL.K, HoldL.body, Nat.reduceBEq, Nat.reduceAdd, List.getElem?_cons_zero, List.getElem?_cons_succ, Option.bind_some, List.map_cons, List.map_nil, Nat.zero_add, if_true, List.getD_cons_zero, List.getD_cons_succ, List.contains_cons, List.contains_nil, Nat.reduceBEq, Bool.or_true, Bool.true_or, Bool.or_false, Bool.false_or, Bool.not_true, Bool.not_false, true_and, and_true, rowA_whole, push_n, set_n, push_obj, set_obj, set_push, set_push_ne, set_set, Nat.add_assoc, Nat.left_eq_add, Nat.add_eq_left, Nat.add_left_cancel_iff, Nat.reduceEqDiff, stO_1s, stO_ws, boxA_s, one_bool, one_int, one_str, one_ptr, one_nilptr, one_slice, one_eslice, one_nilslice, one_func, one_iface, one_niliface, List.all_cons, List.all_nil, List.length_cons, List.length_nil, Nat.reduceLT, Nat.reduceEqDiff, Nat.reduceLeDiff, Bool.and_true, Nat.one_ne_zero, Nat.succ_ne_zero, reduceIte, if_false, List.getElem?_cons_zero, List.set_cons_zero, List.set_cons_succ]
  refine callA_of (eqNameEntryS_c _ vX v9 es oX.sl o9.sl hzl) ?_
  rintro r h10 ⟨rfl, hE10⟩
  have aZ := aZ.ext hE10
  have aB := aB.ext hE10
  have oW := oW.ext hE10
  have oX := oX.ext hE10
  have oY := oY.ext hE10
  have oG := oG.ext hE10
  have le_hE10 := hE10.le
  simp only [go_sem, Hold.p, HoldK.k, HoldL.K, HoldL.body, Nat.reduceBEq, Nat.reduceAdd, List.getElem?_cons_zero, List.getElem?_cons_succ, Option.bind_some, List.map_cons, List.map_nil, Nat.zero_add, if_true, List.getD_cons_zero, List.getD_cons_succ, List.contains_cons, List.contains_nil, Nat.reduceBEq, Bool.or_true, Bool.true_or, Bool.or_false, Bool.false_or, Bool.not_true, Bool.not_false, true_and, and_true, rowA_whole, push_n, set_n, push_obj, set_obj, set_push, set_push_ne, set_set, Nat.add_assoc, Nat.left_eq_add, Nat.add_eq_left, Nat.add_left_cancel_iff, Nat.reduceEqDiff, stO_1s, stO_ws, boxA_s, one_bool, one_int, one_str, one_ptr, one_nilptr, one_slice, one_eslice, one_nilslice, one_func, one_iface, one_niliface, List.all_cons, List.all_nil, List.length_cons, List.length_nil, Nat.reduceLT, Nat.reduceEqDiff, Nat.reduceLeDiff, Bool.and_true, Nat.one_ne_zero, Nat.succ_ne_zero, reduceIte, if_false, List.getElem?_cons_zero, List.set_cons_zero, List.set_cons_succ]
  refine callA_of (toByteS_c _ ib bs aB.sl hl) ?_
  rintro v11 h11 ⟨o11, hE11⟩
  have aZ := aZ.ext hE11
  have aB := aB.ext hE11
  have oW := oW.ext hE11
  have oX := oX.ext hE11
  have oY := oY.ext hE11
  have oG := oG.ext hE11
  have le_hE11 := hE11.le
  simp only [go_sem, Hold.p, HoldK.k, HoldL.K, HoldL.body, Nat.reduceBEq, Nat.reduceAdd, List.getElem?_cons_zero, List.getElem?_cons_succ, Option.bind_some, List.map_cons, List.map_nil, Nat.zero_add, if_true, List.getD_cons_zero, List.getD_cons_succ, List.contains_cons, List.contains_nil, Nat.reduceBEq, Bool.or_true, Bool.true_or, Bool.or_false, Bool.false_or, Bool.not_true, Bool.not_false, true_and, and_true, rowA_whole, push_n, set_n, push_obj, set_obj, set_push, set_push_ne, set_set, Nat.add_assoc, Nat.left_eq_add, Nat.add_eq_left, Nat.add_left_cancel_iff, Nat.reduceEqDiff, stO_1s, stO_ws, boxA_s, one_bool, one_int, one_str, one_ptr, one_nilptr, one_slice, one_eslice, one_nilslice, one_func, one_iface, one_niliface, List.all_cons, List.all_nil, List.length_cons, List.length_nil, Nat.reduceLT, Nat.reduceEqDiff, Nat.reduceLeDiff, Bool.and_true, Nat.one_ne_zero, Nat.succ_ne_zero, reduceIte, if_false, List.getElem?_cons_zero, List.set_cons_zero, List.set_cons_succ]
  refine callA_of (eqByteS_c _ vY v11 bs oY.sl o11.sl (by omega)) ?_
  rintro r h12 ⟨rfl, rfl⟩
  simp only [decide_true, go_sem, Hold.p, HoldK.k, HoldL.K, HoldL.body, Nat.reduceBEq, Nat.reduceAdd, List.getElem?_cons_zero, List.getElem?_cons_succ, Option.bind_some, List.map_cons, List.map_nil, Nat.zero_add, if_true, List.getD_cons_zero, List.getD_cons_succ, List.contains_cons, List.contains_nil, Nat.reduceBEq, Bool.or_true, Bool.true_or, Bool.or_false, Bool.false_or, Bool.not_true, Bool.not_false, true_and, and_true, rowA_whole, push_n, set_n, push_obj, set_obj, set_push, set_push_ne, set_set, Nat.add_assoc, Nat.left_eq_add, Nat.add_eq_left, Nat.add_left_cancel_iff, Nat.reduceEqDiff, stO_1s, stO_ws, boxA_s, one_bool, one_int, one_str, one_ptr, one_nilptr, one_slice, one_eslice, one_nilslice, one_func, one_iface, one_niliface, List.all_cons, List.all_nil, List.length_cons, List.length_nil, Nat.reduceLT, Nat.reduceEqDiff, Nat.reduceLeDiff, Bool.and_true, Nat.one_ne_zero, Nat.succ_ne_zero, reduceIte, if_false, List.getElem?_cons_zero, List.set_cons_zero, List.set_cons_succ]
  refine callA_of (markNameEntryS_c _ vX 1 _ oX entRows_ok (by rw [entRows_len]; omega)) ?_
  rintro r h13 ⟨rfl, ht13⟩
  have aZ := aZ.turn oX (by omega) ht13
  have aB := aB.turn oX (by omega) ht13
  have oW := oW.turn oX (by omega) ht13
  have oY := oY.turn oX (by omega) ht13
  have oG := oG.turn oX (by omega) ht13
  have le_ht13 := ht13.le
  rw [entRows_len]
  simp only [go_sem, Hold.p, HoldK.k, HoldL.K, HoldL.body, Nat.reduceBEq, Nat.reduceAdd, List.getElem?_cons_zero, List.getElem?_cons_succ, Option.bind_some, List.map_cons, List.map_nil, Nat.zero_add, if_true, List.getD_cons_zero, List.getD_cons_succ, List.contains_cons, List.contains_nil, Nat.reduceBEq, Bool.or_true, Bool.true_or, Bool.or_false, Bool.false_or, Bool.not_true, Bool.not_false, true_and, and_true, rowA_whole, push_n, set_n, push_obj, set_obj, set_push, set_push_ne, set_set, Nat.add_assoc, Nat.left_eq_add, Nat.add_eq_left, Nat.add_left_cancel_iff, Nat.reduceEqDiff, stO_1s, stO_ws, boxA_s, one_bool, one_int, one_str, one_ptr, one_nilptr, one_slice, one_eslice, one_nilslice, one_func, one_iface, one_niliface, List.all_cons, List.all_nil, List.length_cons, List.length_nil, Nat.reduceLT, Nat.reduceEqDiff, Nat.reduceLeDiff, Bool.and_true, Nat.one_ne_zero, Nat.succ_ne_zero, reduceIte, if_false, List.getElem?_cons_zero, List.set_cons_zero, List.set_cons_succ]
  refine callA_of (markByteS_c _ vY (1 + 3 * es.length) _ oY rows1 (by rw [strRows_len]; omega)) ?_
  rintro r h14 ⟨rfl, _, ht14⟩
  have aZ := aZ.turn oY (by omega) ht14
  have aB := aB.turn oY (by omega) ht14
  have oW := oW.turn oY (by omega) ht14
  have oG := oG.turn oY (by omega) ht14
  have le_ht14 := ht14.le
  rw [strRows_len]
  have hq1 : decide (((1 + (3 * es.length + bs.length) : Nat) : Int) < 0) = false := decide_eq_false (by omega)
  simp only [hq1, go_sem, Hold.p, HoldK.k, HoldL.K, HoldL.body, Nat.reduceBEq, Nat.reduceAdd, List.getElem?_cons_zero, List.getElem?_cons_succ, Option.bind_some, List.map_cons, List.map_nil, Nat.zero_add, if_true, List.getD_cons_zero, List.getD_cons_succ, List.contains_cons, List.contains_nil, Nat.reduceBEq, Bool.or_true, Bool.true_or, Bool.or_false, Bool.false_or, Bool.not_true, Bool.not_false, true_and, and_true, rowA_whole, push_n, set_n, push_obj, set_obj, set_push, set_push_ne, set_set, Nat.add_assoc, Nat.left_eq_add, Nat.add_eq_left, Nat.add_left_cancel_iff, Nat.reduceEqDiff, stO_1s, stO_ws, boxA_s, one_bool, one_int, one_str, one_ptr, one_nilptr, one_slice, one_eslice, one_nilslice, one_func, one_iface, one_niliface, List.all_cons, List.all_nil, List.length_cons, List.length_nil, Nat.reduceLT, Nat.reduceEqDiff, Nat.reduceLeDiff, Bool.and_true, Nat.one_ne_zero, Nat.succ_ne_zero, reduceIte, if_false, List.getElem?_cons_zero, List.set_cons_zero, List.set_cons_succ]
  refine callA_of (eqByteS_c _ vG vW ws oG.sl oW.sl (by omega)) ?_
  rintro r h15 ⟨rfl, rfl⟩
  simp only [decide_true, go_sem, Hold.p, HoldK.k, HoldL.K, HoldL.body, Nat.reduceBEq, Nat.reduceAdd, List.getElem?_cons_zero, List.getElem?_cons_succ, Option.bind_some, List.map_cons, List.map_nil, Nat.zero_add, if_true, List.getD_cons_zero, List.getD_cons_succ, List.contains_cons, List.contains_nil, Nat.reduceBEq, Bool.or_true, Bool.true_or, Bool.or_false, Bool.false_or, Bool.not_true, Bool.not_false, true_and, and_true, rowA_whole, push_n, set_n, push_obj, set_obj, set_push, set_push_ne, set_set, Nat.add_assoc, Nat.left_eq_add, Nat.add_eq_left, Nat.add_left_cancel_iff, Nat.reduceEqDiff, stO_1s, stO_ws, boxA_s, one_bool, one_int, one_str, one_ptr, one_nilptr, one_slice, one_eslice, one_nilslice, one_func, one_iface, one_niliface, List.all_cons, List.all_nil, List.length_cons, List.length_nil, Nat.reduceLT, Nat.reduceEqDiff, Nat.reduceLeDiff, Bool.and_true, Nat.one_ne_zero, Nat.succ_ne_zero, reduceIte, if_false, List.getElem?_cons_zero, List.set_cons_zero, List.set_cons_succ]
  refine callA_of (markByteS_c _ vG 1 _ oG rows1 (by rw [strRows_len]; omega)) ?_
  rintro r h16 ⟨rfl, oM, ht16⟩
  have aZ := aZ.turn oG (by omega) ht16
  have aB := aB.turn oG (by omega) ht16
  have oW := oW.turn oG (by omega) ht16
  have le_ht16 := ht16.le
  rw [strRows_len] at oM
  simp only [go_sem, Hold.p, HoldK.k, HoldL.K, HoldL.body, Nat.reduceBEq, Nat.reduceAdd, List.getElem?_cons_zero, List.getElem?_cons_succ, Option.bind_some, List.map_cons, List.map_nil, Nat.zero_add, if_true, List.getD_cons_zero, List.getD_cons_succ, List.contains_cons, List.contains_nil, Nat.reduceBEq, Bool.or_true, Bool.true_or, Bool.or_false, Bool.false_or, Bool.not_true, Bool.not_false, true_and, and_true, rowA_whole, push_n, set_n, push_obj, set_obj, set_push, set_push_ne, set_set, Nat.add_assoc, Nat.left_eq_add, Nat.add_eq_left, Nat.add_left_cancel_iff, Nat.reduceEqDiff, stO_1s, stO_ws, boxA_s, one_bool, one_int, one_str, one_ptr, one_nilptr, one_slice, one_eslice, one_nilslice, one_func, one_iface, one_niliface, List.all_cons, List.all_nil, List.length_cons, List.length_nil, Nat.reduceLT, Nat.reduceEqDiff, Nat.reduceLeDiff, Bool.and_true, Nat.one_ne_zero, Nat.succ_ne_zero, reduceIte, if_false, List.getElem?_cons_zero, List.set_cons_zero, List.set_cons_succ]
  refine callA_of (heldByteS_c _ vG ws.length 1 oM.sl (by omega)) ?_
  rintro r h17 ⟨rfl, rfl⟩
  have hq : decide (((1 + ws.length : Nat) : Int) < 0) = false := decide_eq_false (by omega)
  simp only [hq, decide_true, strRows_len, go_sem, Hold.p, HoldK.k, HoldL.K, HoldL.body, Nat.reduceBEq, Nat.reduceAdd, List.getElem?_cons_zero, List.getElem?_cons_succ, Option.bind_some, List.map_cons, List.map_nil, Nat.zero_add, if_true, List.getD_cons_zero, List.getD_cons_succ, List.contains_cons, List.contains_nil, Nat.reduceBEq, Bool.or_true, Bool.true_or, Bool.or_false, Bool.false_or, Bool.not_true, Bool.not_false, true_and, and_true, rowA_whole, push_n, set_n, push_obj, set_obj, set_push, set_push_ne, set_set, Nat.add_assoc, Nat.left_eq_add, Nat.add_eq_left, Nat.add_left_cancel_iff, Nat.reduceEqDiff, stO_1s, stO_ws, boxA_s, one_bool, one_int, one_str, one_ptr, one_nilptr, one_slice, one_eslice, one_nilslice, one_func, one_iface, one_niliface, List.all_cons, List.all_nil, List.length_cons, List.length_nil, Nat.reduceLT, Nat.reduceEqDiff, Nat.reduceLeDiff, Bool.and_true, Nat.one_ne_zero, Nat.succ_ne_zero, reduceIte, if_false, List.getElem?_cons_zero, List.set_cons_zero, List.set_cons_succ]
  refine callA_of (toNameEntryS_c _ iz es aZ.sl hzl) ?_
  rintro v18 h18 ⟨o18, hE18⟩
  have aB := aB.ext hE18
  have oW := oW.ext hE18
  have oM := oM.ext hE18
  have le_hE18 := hE18.le
  simp only [go_sem, Hold.p, HoldK.k, HoldL.K, HoldL.body, Nat.reduceBEq, Nat.reduceAdd, List.getElem?_cons_zero, List.getElem?_cons_succ, Option.bind_some, List.map_cons, List.map_nil, Nat.zero_add, if_true, List.getD_cons_zero, List.getD_cons_succ, List.contains_cons, List.contains_nil, Nat.reduceBEq, Bool.or_true, Bool.true_or, Bool.or_false, Bool.false_or, Bool.not_true, Bool.not_false, true_and, and_true, rowA_whole, push_n, set_n, push_obj, set_obj, set_push, set_push_ne, set_set, Nat.add_assoc, Nat.left_eq_add, Nat.add_eq_left, Nat.add_left_cancel_iff, Nat.reduceEqDiff, stO_1s, stO_ws, boxA_s, one_bool, one_int, one_str, one_ptr, one_nilptr, one_slice, one_eslice, one_nilslice, one_func, one_iface, one_niliface, List.all_cons, List.all_nil, List.length_cons, List.length_nil, Nat.reduceLT, Nat.reduceEqDiff, Nat.reduceLeDiff, Bool.and_true, Nat.one_ne_zero, Nat.succ_ne_zero, reduceIte, if_false, List.getElem?_cons_zero, List.set_cons_zero, List.set_cons_succ]
  refine callA_of (toByteS_c _ ib bs aB.sl hl) ?_
  rintro v19 h19 ⟨o19, hE19⟩
  have oW := oW.ext hE19
  have oM := oM.ext hE19
  have o18 := o18.ext hE19
  have le_hE19 := hE19.le
  simp only [go_sem, Hold.p, HoldK.k, HoldL.K, HoldL.body, Nat.reduceBEq, Nat.reduceAdd, List.getElem?_cons_zero, List.getElem?_cons_succ, Option.bind_some, List.map_cons, List.map_nil, Nat.zero_add, if_true, List.getD_cons_zero, List.getD_cons_succ, List.contains_cons, List.contains_nil, Nat.reduceBEq, Bool.or_true, Bool.true_or, Bool.or_false, Bool.false_or, Bool.not_true, Bool.not_false, true_and, and_true, rowA_whole, push_n, set_n, push_obj, set_obj, set_push, set_push_ne, set_set, Nat.add_assoc, Nat.left_eq_add, Nat.add_eq_left, Nat.add_left_cancel_iff, Nat.reduceEqDiff, stO_1s, stO_ws, boxA_s, one_bool, one_int, one_str, one_ptr, one_nilptr, one_slice, one_eslice, one_nilslice, one_func, one_iface, one_niliface, List.all_cons, List.all_nil, List.length_cons, List.length_nil, Nat.reduceLT, Nat.reduceEqDiff, Nat.reduceLeDiff, Bool.and_true, Nat.one_ne_zero, Nat.succ_ne_zero, reduceIte, if_false, List.getElem?_cons_zero, List.set_cons_zero, List.set_cons_succ]
  refine callA_of (implAnswerName_c _ v18 v19 es bs o18.sl o19.sl hzl hl) ?_
  rintro r h20 ⟨vH, rfl, oH, hE20⟩
  rw [hfb] at oH
  simp only [hfb] at oH ⊢
  have oW := oW.ext hE20
  have oM := oM.ext hE20
  have le_hE20 := hE20.le
  simp only [go_sem, Hold.p, HoldK.k, HoldL.K, HoldL.body, Nat.reduceBEq, Nat.reduceAdd, List.getElem?_cons_zero, List.getElem?_cons_succ, Option.bind_some, List.map_cons, List.map_nil, Nat.zero_add, if_true, List.getD_cons_zero, List.getD_cons_succ, List.contains_cons, List.contains_nil, Nat.reduceBEq, Bool.or_true, Bool.true_or, Bool.or_false, Bool.false_or, Bool.not_true, Bool.not_false, true_and, and_true, rowA_whole, push_n, set_n, push_obj, set_obj, set_push, set_push_ne, set_set, Nat.add_assoc, Nat.left_eq_add, Nat.add_eq_left, Nat.add_left_cancel_iff, Nat.reduceEqDiff, stO_1s, stO_ws, boxA_s, one_bool, one_int, one_str, one_ptr, one_nilptr, one_slice, one_eslice, one_nilslice, one_func, one_iface, one_niliface, List.all_cons, List.all_nil, List.length_cons, List.length_nil, Nat.reduceLT, Nat.reduceEqDiff, Nat.reduceLeDiff, Bool.and_true, Nat.one_ne_zero, Nat.succ_ne_zero, reduceIte, if_false, List.getElem?_cons_zero, List.set_cons_zero, List.set_cons_succ]
  refine callA_of (eqByteS_c _ vH vW ws oH.sl oW.sl (by omega)) ?_
  rintro r h21 ⟨rfl, rfl⟩
  simp only [decide_true, go_sem, Hold.p, HoldK.k, HoldL.K, HoldL.body, Nat.reduceBEq, Nat.reduceAdd, List.getElem?_cons_zero, List.getElem?_cons_succ, Option.bind_some, List.map_cons, List.map_nil, Nat.zero_add, if_true, List.getD_cons_zero, List.getD_cons_succ, List.contains_cons, List.contains_nil, Nat.reduceBEq, Bool.or_true, Bool.true_or, Bool.or_false, Bool.false_or, Bool.not_true, Bool.not_false, true_and, and_true, rowA_whole, push_n, set_n, push_obj, set_obj, set_push, set_push_ne, set_set, Nat.add_assoc, Nat.left_eq_add, Nat.add_eq_left, Nat.add_left_cancel_iff, Nat.reduceEqDiff, stO_1s, stO_ws, boxA_s, one_bool, one_int, one_str, one_ptr, one_nilptr, one_slice, one_eslice, one_nilslice, one_func, one_iface, one_niliface, List.all_cons, List.all_nil, List.length_cons, List.length_nil, Nat.reduceLT, Nat.reduceEqDiff, Nat.reduceLeDiff, Bool.and_true, Nat.one_ne_zero, Nat.succ_ne_zero, reduceIte, if_false, List.getElem?_cons_zero, List.set_cons_zero, List.set_cons_succ]
  refine callA_of (heldByteS_c _ vG ws.length 1 oM.sl (by omega)) ?_
  rintro r h22 ⟨rfl, rfl⟩
  simp only [hq, decide_true, strRows_len, go_sem, Hold.p, HoldK.k, HoldL.K, HoldL.body, Nat.reduceBEq, Nat.reduceAdd, List.getElem?_cons_zero, List.getElem?_cons_succ, Option.bind_some, List.map_cons, List.map_nil, Nat.zero_add, if_true, List.getD_cons_zero, List.getD_cons_succ, List.contains_cons, List.contains_nil, Nat.reduceBEq, Bool.or_true, Bool.true_or, Bool.or_false, Bool.false_or, Bool.not_true, Bool.not_false, true_and, and_true, rowA_whole, push_n, set_n, push_obj, set_obj, set_push, set_push_ne, set_set, Nat.add_assoc, Nat.left_eq_add, Nat.add_eq_left, Nat.add_left_cancel_iff, Nat.reduceEqDiff, stO_1s, stO_ws, boxA_s, one_bool, one_int, one_str, one_ptr, one_nilptr, one_slice, one_eslice, one_nilslice, one_func, one_iface, one_niliface, List.all_cons, List.all_nil, List.length_cons, List.length_nil, Nat.reduceLT, Nat.reduceEqDiff, Nat.reduceLeDiff, Bool.and_true, Nat.one_ne_zero, Nat.succ_ne_zero, reduceIte, if_false, List.getElem?_cons_zero, List.set_cons_zero, List.set_cons_succ]
end Go.Proofs.YtcmcfmgabafljaaDoor
