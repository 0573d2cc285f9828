import Derived.Test.YtcmcfmgabafljaaDoorEO
import Derived.Test.YtcmcfmgabafljaaDoorFE
set_option linter.unusedSimpArgs false
set_option linter.unusedVariables false
namespace Go.Proofs.YtcmcfmgabafljaaDoor
open Go Go.IW

set_option maxRecDepth 20000 in
theorem eqInt64S_c (h : IH) (v w : IV) (zs : List Int) (hv : SlR h 1 v (intRows zs)) (hw : SlR h 1 w (intRows zs)) (hm : zs.length ≤ 16777300) :
    ICalls Tryd.prog 73 [v, w] h fun r h' => r = .bool true ∧ h' = h := by
  refine icalls (.of ok73) (Nat.le_of_ble_eq_true rfl) ?_
  unfold c73
  have hlv := hv.lenF
  have hlw := hw.lenF
  rw [intRows_len] at hlv hlw
  simp only [hlv, hlw, decide_true, go_sem, Hold.p, HoldK.k, HoldL.K, HoldL.body, Nat.reduceBEq, Nat.reduceAdd, List.getElem?_cons_zero, List.getElem?_cons_succ, Option.bind_some, List.map_cons, List.map_nil, Nat.zero_add, if_true, List.getD_cons_zero, List.getD_cons_succ, List.contains_cons, List.contains_nil, Nat.reduceBEq, Bool.or_true, Bool.true_or, Bool.or_false, Bool.false_or, Bool.not_true, Bool.not_false, true_and, and_true]
  refine loop_at (fun n e h' => ∃ k, n = zs.length - k ∧ k ≤ zs.length ∧ e 0 = v ∧ e 1 = w ∧ e 5 = .int .i64 (k : Nat) ∧ h' = h) zs.length ?_ ?_
  · refine ⟨0, by omega, by omega, ?_⟩
    simp only [go_sem, Hold.p, HoldK.k, HoldL.K, HoldL.body, Nat.reduceBEq, Nat.reduceAdd, List.getElem?_cons_zero, List.getElem?_cons_succ, Option.bind_some, List.map_cons, List.map_nil, Nat.zero_add, if_true, List.getD_cons_zero, List.getD_cons_succ, List.contains_cons, List.contains_nil, Nat.reduceBEq, Bool.or_true, Bool.true_or, Bool.or_false, Bool.false_or, Bool.not_true, Bool.not_false, true_and, and_true]
    rfl
  · rintro n e h' ⟨k, rfl, hk, e0, e1, e5, rfl⟩
    simp only [e0, e1, e5, hlv, go_sem, Hold.p, HoldK.k, HoldL.K, HoldL.body, Nat.reduceBEq, Nat.reduceAdd, List.getElem?_cons_zero, List.getElem?_cons_succ, Option.bind_some, List.map_cons, List.map_nil, Nat.zero_add, if_true, List.getD_cons_zero, List.getD_cons_succ, List.contains_cons, List.contains_nil, Nat.reduceBEq, Bool.or_true, Bool.true_or, Bool.or_false, Bool.false_or, Bool.not_true, Bool.not_false, true_and, and_true]
    refine test_dec (fun hb => ?_) (fun hb => ?_)
    · have hlt' : k < zs.length := by omega
      have hkp : zs[k]? = some zs[k] := List.getElem?_eq_getElem hlt'
      generalize zs[k] = p at hkp
      obtain ⟨l, j, hia, hll, hrow⟩ := hv.at (m := k) (intRows_at hkp) .i64
      obtain ⟨l2, j2, hia2, hll2, hrow2⟩ := hw.at (m := k) (intRows_at hkp) .i64
      have hc := cellO_row hrow
      have hc2 := cellO_row hrow2
      simp only [e0, e1, e5, hlv, hia, hia2, hc, hc2, decide_true, go_sem, Hold.p, HoldK.k, HoldL.K, HoldL.body, Nat.reduceBEq, Nat.reduceAdd, List.getElem?_cons_zero, List.getElem?_cons_succ, Option.bind_some, List.map_cons, List.map_nil, Nat.zero_add, if_true, List.getD_cons_zero, List.getD_cons_succ, List.contains_cons, List.contains_nil, Nat.reduceBEq, Bool.or_true, Bool.true_or, Bool.or_false, Bool.false_or, Bool.not_true, Bool.not_false, true_and, and_true]
      exact ⟨_, by omega, k + 1, rfl, by omega, wr64_succ k (by omega)⟩
    · simp only [e0, e1, e5, go_sem, Hold.p, HoldK.k, HoldL.K, HoldL.body, Nat.reduceBEq, Nat.reduceAdd, List.getElem?_cons_zero, List.getElem?_cons_succ, Option.bind_some, List.map_cons, List.map_nil, Nat.zero_add, if_true, List.getD_cons_zero, List.getD_cons_succ, List.contains_cons, List.contains_nil, Nat.reduceBEq, Bool.or_true, Bool.true_or, Bool.or_false, Bool.false_or, Bool.not_true, Bool.not_false, true_and, and_true]

def marksI (n k0 : Nat) : List (List IV) := (List.range n).map fun j => [.int .i64 ((k0 + j : Nat) : Int)]

set_option maxRecDepth 20000 in
theorem markInt64S_n (h : IH) (l n k0 e0 : Nat) (rs : List (List IV)) (hn : rs.length = n) (h0 : n ≠ 0) (hob : h.obj l = .rows rs e0 1 false) (hl : l < h.n)
    (hrs : ∀ r ∈ rs, r.length = 1) (hk : k0 + n < 4611686018427387904) :
    ICalls Tryd.prog 74 [.slice l 0 n, .int .i64 k0] h fun r h' => r = .int .i64 ((k0 + n : Nat) : Int) ∧ h' = h.set l (.rows (marksI n k0) e0 1 false) := by
  refine icalls (.of ok74) (Nat.le_of_ble_eq_true rfl) ?_
  unfold c74
  have hml : (marksI n k0).length = n := by simp [marksI]
  simp only [go_sem, Hold.p, HoldK.k, HoldL.K, HoldL.body, Nat.reduceBEq, Nat.reduceAdd, List.getElem?_cons_zero, List.getElem?_cons_succ, Option.bind_some, List.map_cons, List.map_nil, Nat.zero_add, if_true, List.getD_cons_zero, List.getD_cons_succ, List.contains_cons, List.contains_nil, Nat.reduceBEq, Bool.or_true, Bool.true_or, Bool.or_false, Bool.false_or, Bool.not_true, Bool.not_false, true_and, and_true]
  refine loop_at (fun m e h' => ∃ k, m = n - k ∧ k ≤ n ∧ e 0 = .slice l 0 n ∧ e 1 = .int .i64 ((k0 + k : Nat) : Int) ∧ e 5 = .int .i64 (k : Nat) ∧
    h' = h.set l (.rows ((marksI n k0).take k ++ rs.drop k) e0 1 false)) n ?_ ?_
  · refine ⟨0, by omega, by omega, ?_⟩
    simp only [go_sem, Hold.p, HoldK.k, HoldL.K, HoldL.body, Nat.reduceBEq, Nat.reduceAdd, List.getElem?_cons_zero, List.getElem?_cons_succ, Option.bind_some, List.map_cons, List.map_nil, Nat.zero_add, if_true, List.getD_cons_zero, List.getD_cons_succ, List.contains_cons, List.contains_nil, Nat.reduceBEq, Bool.or_true, Bool.true_or, Bool.or_false, Bool.false_or, Bool.not_true, Bool.not_false, true_and, and_true]
    exact ⟨by simp, rfl, (set_self (by simpa using hob)).symm⟩
  · rintro m e h' ⟨k, rfl, hkn, e0', e1, e5, rfl⟩
    simp only [e0', e1, e5, go_sem, Hold.p, HoldK.k, HoldL.K, HoldL.body, Nat.reduceBEq, Nat.reduceAdd, List.getElem?_cons_zero, List.getElem?_cons_succ, Option.bind_some, List.map_cons, List.map_nil, Nat.zero_add, if_true, List.getD_cons_zero, List.getD_cons_succ, List.contains_cons, List.contains_nil, Nat.reduceBEq, Bool.or_true, Bool.true_or, Bool.or_false, Bool.false_or, Bool.not_true, Bool.not_false, true_and, and_true]
    refine test_dec (fun hb => ?_) (fun hb => ?_)
    · have hkn' : k < n := by omega
      obtain ⟨row, hrow⟩ : ∃ row, rs[k]? = some row := ⟨rs[k], List.getElem?_eq_getElem (by omega)⟩
      have hrl : row.length = 1 := hrs row (List.mem_of_getElem? hrow)
      match row, hrl with
      | [a0], _ =>
      generalize hh : h.set l (.rows ((marksI n k0).take k ++ rs.drop k) e0 1 false) = h1
      have hob1 : h1.obj l = .rows ((marksI n k0).take k ++ rs.drop k) e0 1 false := by rw [← hh, set_here]
      have hr1 : rowO (h1.obj l) k = some [a0] := by
        rw [hob1]
        show (_ ++ _)[k]? = _
        rw [List.getElem?_append_right (by simp; omega)]
        simp [hkn, hml, hrow]
      have hia : iadrF h1 1 (.slice l 0 n) (.int .i64 k) = some (.ptr l k 0) := by
        rw [iadrF_nat hkn' (by rw [hob1]; rfl), Nat.zero_add]
      rw [← put_self hr1]
      have hr2 : (rowO (h1.obj l) k).isSome = true := by rw [hr1]; rfl
      have ho1 : (h1.obj l).own = true := by rw [hob1]; rfl
      generalize hq : k0 + k = q at e1
      have hq' : q + 1 < 4611686018427387904 := by omega
      have w0 : wr .i64 (((q : Nat) : Int) + 1) = ((q + 1 : Nat) : Int) := by rw [wr64 _ (by omega)]; rfl
      simp only [e0', e1, e5, hia, iadrF_put, stA_put1 hr2 ho1, put_put, w0, go_sem, Hold.p, HoldK.k, HoldL.K, HoldL.body, Nat.reduceBEq, Nat.reduceAdd, List.getElem?_cons_zero, List.getElem?_cons_succ, Option.bind_some, List.map_cons, List.map_nil, Nat.zero_add, if_true, List.getD_cons_zero, List.getD_cons_succ, List.contains_cons, List.contains_nil, Nat.reduceBEq, Bool.or_true, Bool.true_or, Bool.or_false, Bool.false_or, Bool.not_true, Bool.not_false, true_and, and_true, rowA_whole, push_n, set_n, push_obj, set_obj, set_push, set_push_ne, set_set, Nat.add_assoc, Nat.left_eq_add, Nat.add_eq_left, Nat.add_left_cancel_iff, Nat.reduceEqDiff, stO_1s, stO_ws, boxA_s, one_bool, one_int, one_str, one_ptr, one_nilptr, one_slice, one_eslice, one_nilslice, one_func, one_iface, one_niliface, List.all_cons, List.all_nil, List.length_cons, List.length_nil, Nat.reduceLT, Nat.reduceEqDiff, Nat.reduceLeDiff, Bool.and_true, Nat.one_ne_zero, Nat.succ_ne_zero, reduceIte, if_false, List.getElem?_cons_zero, List.set_cons_zero, List.set_cons_succ]
      subst hq
      refine ⟨_, ?_, k + 1, rfl, by omega, by congr 2, wr64_succ k (by omega), ?_⟩
      · omega
      · unfold IH.put
        rw [hob1, ← hh, set_set]
        unfold putO
        have := over_set (xs := marksI n k0) (ys := rs) (k := k) (x := [.int .i64 ((k0 + k : Nat) : Int)]) (by rw [hml, hn]) (by unfold marksI; simp [hkn'])
        rw [← this]
    · simp only [e0', e1, e5, go_sem, Hold.p, HoldK.k, HoldL.K, HoldL.body, Nat.reduceBEq, Nat.reduceAdd, List.getElem?_cons_zero, List.getElem?_cons_succ, Option.bind_some, List.map_cons, List.map_nil, Nat.zero_add, if_true, List.getD_cons_zero, List.getD_cons_succ, List.contains_cons, List.contains_nil, Nat.reduceBEq, Bool.or_true, Bool.true_or, Bool.or_false, Bool.false_or, Bool.not_true, Bool.not_false, true_and, and_true]
      obtain rfl : k = n := by omega
      exact ⟨rfl, by congr 2; rw [List.drop_eq_nil_of_le (by omega), List.append_nil, List.take_of_length_le (by omega)]⟩

theorem rowsI1 {zs : List Int} : ∀ r ∈ intRows zs, r.length = 1 := by
  intro r hr
  obtain ⟨p, _, rfl⟩ := List.mem_map.1 hr
  rfl
set_option maxRecDepth 20000 in
theorem markInt64S_c {lo hi : Nat} (h : IH) (v : IV) (k0 : Nat) (rs : List (List IV)) (ho : Own lo hi h 2 1 v rs) (hrs : ∀ r ∈ rs, r.length = 1) (hk : k0 + rs.length < 4611686018427387904) :
    ICalls Tryd.prog 74 [v, .int .i64 k0] h fun r h' => r = .int .i64 ((k0 + rs.length : Nat) : Int) ∧ Own lo hi h' 2 1 v (marksI rs.length k0) ∧ Turn v h h' := by
  refine ho.mark (fun hr hlen h1 => ?_) (fun l hv h0 hl h1 h2 h3 hob => ?_)
  · subst hr
    refine icalls (.of ok74) (Nat.le_of_ble_eq_true rfl) ?_
    unfold c74
    simp only [hlen, go_sem, Hold.p, HoldK.k, HoldL.K, HoldL.body, Nat.reduceBEq, Nat.reduceAdd, List.getElem?_cons_zero, List.getElem?_cons_succ, Option.bind_some, List.map_cons, List.map_nil, Nat.zero_add, if_true, List.getD_cons_zero, List.getD_cons_succ, List.contains_cons, List.contains_nil, Nat.reduceBEq, Bool.or_true, Bool.true_or, Bool.or_false, Bool.false_or, Bool.not_true, Bool.not_false, true_and, and_true]
    refine loop_at (fun m e h' => m = 0 ∧ h' = h ∧ e 0 = v ∧ e 1 = .int .i64 k0 ∧ e 5 = .int .i64 0) 0 ?_ ?_
    · simp only [go_sem, Hold.p, HoldK.k, HoldL.K, HoldL.body, Nat.reduceBEq, Nat.reduceAdd, List.getElem?_cons_zero, List.getElem?_cons_succ, Option.bind_some, List.map_cons, List.map_nil, Nat.zero_add, if_true, List.getD_cons_zero, List.getD_cons_succ, List.contains_cons, List.contains_nil, Nat.reduceBEq, Bool.or_true, Bool.true_or, Bool.or_false, Bool.false_or, Bool.not_true, Bool.not_false, true_and, and_true]
    · rintro m e h' ⟨rfl, rfl, e0, e1, e5⟩
      simp only [e0, e1, e5, hlen, go_sem, Hold.p, HoldK.k, HoldL.K, HoldL.body, Nat.reduceBEq, Nat.reduceAdd, List.getElem?_cons_zero, List.getElem?_cons_succ, Option.bind_some, List.map_cons, List.map_nil, Nat.zero_add, if_true, List.getD_cons_zero, List.getD_cons_succ, List.contains_cons, List.contains_nil, Nat.reduceBEq, Bool.or_true, Bool.true_or, Bool.or_false, Bool.false_or, Bool.not_true, Bool.not_false, true_and, and_true]
      refine test_dec (fun hb => absurd hb (by simp)) (fun _ => ?_)
      simp only [e0, e1, e5, go_sem, Hold.p, HoldK.k, HoldL.K, HoldL.body, Nat.reduceBEq, Nat.reduceAdd, List.getElem?_cons_zero, List.getElem?_cons_succ, Option.bind_some, List.map_cons, List.map_nil, Nat.zero_add, if_true, List.getD_cons_zero, List.getD_cons_succ, List.contains_cons, List.contains_nil, Nat.reduceBEq, Bool.or_true, Bool.true_or, Bool.or_false, Bool.false_or, Bool.not_true, Bool.not_false, true_and, and_true]
      exact ⟨by simp, ho, Turn.refl _ _⟩
  · subst hv
    refine (markInt64S_n h l rs.length k0 2 rs rfl h0 hob hl hrs hk).mono ?_
    rintro r h' ⟨rfl, rfl⟩
    exact ⟨rfl, Own.over (by simp [marksI]) h0 h1 h2 h3, Turn.set _⟩

set_option maxRecDepth 20000 in
theorem heldInt64S_c (h : IH) (v : IV) (n k0 : Nat) (hs : SlR h 1 v (marksI n k0)) (hk : k0 + n < 4611686018427387904) :
    ICalls Tryd.prog 75 [v, .int .i64 k0] h fun r h' => r = .int .i64 ((k0 + n : Nat) : Int) ∧ h' = h := by
  refine icalls (.of ok75) (Nat.le_of_ble_eq_true rfl) ?_
  unfold c75
  have hlen := hs.lenF
  have hml : (marksI n k0).length = n := by simp [marksI]
  rw [hml] at hlen
  simp only [go_sem, Hold.p, HoldK.k, HoldL.K, HoldL.body, Nat.reduceBEq, Nat.reduceAdd, List.getElem?_cons_zero, List.getElem?_cons_succ, Option.bind_some, List.map_cons, List.map_nil, Nat.zero_add, if_true, List.getD_cons_zero, List.getD_cons_succ, List.contains_cons, List.contains_nil, Nat.reduceBEq, Bool.or_true, Bool.true_or, Bool.or_false, Bool.false_or, Bool.not_true, Bool.not_false, true_and, and_true]
  refine loop_at (fun m e h' => ∃ k, m = n - k ∧ k ≤ n ∧ e 0 = v ∧ e 1 = .int .i64 ((k0 + k : Nat) : Int) ∧ e 5 = .int .i64 (k : Nat) ∧ h' = h) n ?_ ?_
  · refine ⟨0, by omega, by omega, ?_⟩
    simp only [go_sem, Hold.p, HoldK.k, HoldL.K, HoldL.body, Nat.reduceBEq, Nat.reduceAdd, List.getElem?_cons_zero, List.getElem?_cons_succ, Option.bind_some, List.map_cons, List.map_nil, Nat.zero_add, if_true, List.getD_cons_zero, List.getD_cons_succ, List.contains_cons, List.contains_nil, Nat.reduceBEq, Bool.or_true, Bool.true_or, Bool.or_false, Bool.false_or, Bool.not_true, Bool.not_false, true_and, and_true]
    exact ⟨by simp, rfl⟩
  · rintro m e h' ⟨k, rfl, hkn, e0', e1, e5, rfl⟩
    simp only [e0', e1, e5, hlen, go_sem, Hold.p, HoldK.k, HoldL.K, HoldL.body, Nat.reduceBEq, Nat.reduceAdd, List.getElem?_cons_zero, List.getElem?_cons_succ, Option.bind_some, List.map_cons, List.map_nil, Nat.zero_add, if_true, List.getD_cons_zero, List.getD_cons_succ, List.contains_cons, List.contains_nil, Nat.reduceBEq, Bool.or_true, Bool.true_or, Bool.or_false, Bool.false_or, Bool.not_true, Bool.not_false, true_and, and_true]
    refine test_dec (fun hb => ?_) (fun hb => ?_)
    · have hkn' : k < n := by omega
      obtain ⟨l, j, hia, hll, hrow⟩ := hs.at (m := k) (row := [.int .i64 ((k0 + k : Nat) : Int)]) (by unfold marksI; simp [hkn']) .i64
      have hc := cellO_row hrow
      generalize hq : k0 + k = q at e1 hc
      have hq' : q + 1 < 4611686018427387904 := by omega
      have w0 : wr .i64 (((q : Nat) : Int) + 1) = ((q + 1 : Nat) : Int) := by rw [wr64 _ (by omega)]; rfl
      simp only [e0', e1, e5, hia, hc, decide_true, w0, go_sem, Hold.p, HoldK.k, HoldL.K, HoldL.body, Nat.reduceBEq, Nat.reduceAdd, List.getElem?_cons_zero, List.getElem?_cons_succ, Option.bind_some, List.map_cons, List.map_nil, Nat.zero_add, if_true, List.getD_cons_zero, List.getD_cons_succ, List.contains_cons, List.contains_nil, Nat.reduceBEq, Bool.or_true, Bool.true_or, Bool.or_false, Bool.false_or, Bool.not_true, Bool.not_false, true_and, and_true]
      subst hq
      refine ⟨_, ?_, k + 1, rfl, by omega, by congr 2, wr64_succ k (by omega)⟩
      omega
    · simp only [e0', e1, e5, hlen, go_sem, Hold.p, HoldK.k, HoldL.K, HoldL.body, Nat.reduceBEq, Nat.reduceAdd, List.getElem?_cons_zero, List.getElem?_cons_succ, Option.bind_some, List.map_cons, List.map_nil, Nat.zero_add, if_true, List.getD_cons_zero, List.getD_cons_succ, List.contains_cons, List.contains_nil, Nat.reduceBEq, Bool.or_true, Bool.true_or, Bool.or_false, Bool.false_or, Bool.not_true, Bool.not_false, true_and, and_true]
      obtain rfl : k = n := by omega
      trivial

set_option maxRecDepth 20000 in
theorem eqNameReply_c (h : IH) (id code ttl : Int) (nm : List UInt8) (v w : IV) (zs : List Int) (hv : SlR h 1 v (intRows zs)) (hw : SlR h 1 w (intRows zs)) (hm : zs.length ≤ 16777300) :
    ICalls Tryd.prog 29 [.agg [.int .i64 id, .int .i64 code, .int .i64 ttl, .str nm, v], .agg [.int .i64 id, .int .i64 code, .int .i64 ttl, .str nm, w]] h fun r h' => r = .bool true ∧ Ext h h' := by
  refine icalls (.of ok29) (Nat.le_of_ble_eq_true rfl) ?_
  unfold c29
  have v1 := hv.one
  have v2 := hv.cells
  have v3 := hw.one
  have v4 := hw.cells
  simp only [v1, v3, go_sem, Hold.p, HoldK.k, HoldL.K, HoldL.body, Nat.reduceBEq, Nat.reduceAdd, List.getElem?_cons_zero, List.getElem?_cons_succ, Option.bind_some, List.map_cons, List.map_nil, Nat.zero_add, if_true, List.getD_cons_zero, List.getD_cons_succ, List.contains_cons, List.contains_nil, Nat.reduceBEq, Bool.or_true, Bool.true_or, Bool.or_false, Bool.false_or, Bool.not_true, Bool.not_false, true_and, and_true, rowA_whole, push_n, set_n, push_obj, set_obj, set_push, set_push_ne, set_set, Nat.add_assoc, Nat.left_eq_add, Nat.add_eq_left, Nat.add_left_cancel_iff, Nat.reduceEqDiff, stO_1s, stO_ws, boxA_s, one_bool, one_int, one_str, one_ptr, one_nilptr, one_slice, one_eslice, one_nilslice, one_func, one_iface, one_niliface, List.all_cons, List.all_nil, List.length_cons, List.length_nil, Nat.reduceLT, Nat.reduceEqDiff, Nat.reduceLeDiff, Bool.and_true, Nat.one_ne_zero, Nat.succ_ne_zero, reduceIte, if_false, List.getElem?_cons_zero, List.set_cons_zero, List.set_cons_succ]
  generalize hq_g0 : IH.push h (IObj.rows [[IV.int .i64 id, IV.int .i64 code, IV.int .i64 ttl, IV.str nm, v]] 44 5 false) = g0
  have e_g0 : Ext h g0 := by rw [← hq_g0]; exact (Ext.refl _).push _
  have l_g0 : g0.n = h.n + 1 := by rw [← hq_g0]; rfl
  have bb : At g0 h.n (IObj.rows [[IV.int .i64 id, IV.int .i64 code, IV.int .i64 ttl, IV.str nm, v]] 44 5 false) := by rw [← hq_g0]; exact At.new _ _
  clear hq_g0
  have hv := hv.ext e_g0
  have hw := hw.ext e_g0
  generalize hq_g1 : IH.push g0 (IObj.rows [[IV.int .i64 id, IV.int .i64 code, IV.int .i64 ttl, IV.str nm, w]] 44 5 false) = g1
  have e_g1 : Ext g0 g1 := by rw [← hq_g1]; exact (Ext.refl _).push _
  have l_g1 : g1.n = g0.n + 1 := by rw [← hq_g1]; rfl
  have bc : At g1 g0.n (IObj.rows [[IV.int .i64 id, IV.int .i64 code, IV.int .i64 ttl, IV.str nm, w]] 44 5 false) := by rw [← hq_g1]; exact At.new _ _
  clear hq_g1
  have bb := bb.ext e_g1
  have hv := hv.ext e_g1
  have hw := hw.ext e_g1
  have E := e_g0.trans e_g1
  rw [l_g0] at bc
  simp only [bb.eq, bc.eq, decide_true, l_g0, go_sem, Hold.p, HoldK.k, HoldL.K, HoldL.body, Nat.reduceBEq, Nat.reduceAdd, List.getElem?_cons_zero, List.getElem?_cons_succ, Option.bind_some, List.map_cons, List.map_nil, Nat.zero_add, if_true, List.getD_cons_zero, List.getD_cons_succ, List.contains_cons, List.contains_nil, Nat.reduceBEq, Bool.or_true, Bool.true_or, Bool.or_false, Bool.false_or, Bool.not_true, Bool.not_false, true_and, and_true, rowA_whole, push_n, set_n, push_obj, set_obj, set_push, set_push_ne, set_set, Nat.add_assoc, Nat.left_eq_add, Nat.add_eq_left, Nat.add_left_cancel_iff, Nat.reduceEqDiff, stO_1s, stO_ws, boxA_s, one_bool, one_int, one_str, one_ptr, one_nilptr, one_slice, one_eslice, one_nilslice, one_func, one_iface, one_niliface, List.all_cons, List.all_nil, List.length_cons, List.length_nil, Nat.reduceLT, Nat.reduceEqDiff, Nat.reduceLeDiff, Bool.and_true, Nat.one_ne_zero, Nat.succ_ne_zero, reduceIte, if_false, List.getElem?_cons_zero, List.set_cons_zero, List.set_cons_succ]
  refine callA_of (eqInt64S_c _ v w zs hv hw hm) ?_
  rintro r h' ⟨rfl, rfl⟩
  simp only [go_sem, Hold.p, HoldK.k, HoldL.K, HoldL.body, Nat.reduceBEq, Nat.reduceAdd, List.getElem?_cons_zero, List.getElem?_cons_succ, Option.bind_some, List.map_cons, List.map_nil, Nat.zero_add, if_true, List.getD_cons_zero, List.getD_cons_succ, List.contains_cons, List.contains_nil, Nat.reduceBEq, Bool.or_true, Bool.true_or, Bool.or_false, Bool.false_or, Bool.not_true, Bool.not_false, true_and, and_true, rowA_whole, push_n, set_n, push_obj, set_obj, set_push, set_push_ne, set_set, Nat.add_assoc, Nat.left_eq_add, Nat.add_eq_left, Nat.add_left_cancel_iff, Nat.reduceEqDiff, stO_1s, stO_ws, boxA_s, one_bool, one_int, one_str, one_ptr, one_nilptr, one_slice, one_eslice, one_nilslice, one_func, one_iface, one_niliface, List.all_cons, List.all_nil, List.length_cons, List.length_nil, Nat.reduceLT, Nat.reduceEqDiff, Nat.reduceLeDiff, Bool.and_true, Nat.one_ne_zero, Nat.succ_ne_zero, reduceIte, if_false, List.getElem?_cons_zero, List.set_cons_zero, List.set_cons_succ]
  exact E

set_option maxRecDepth 20000 in
theorem markNameReply_c {lo hi : Nat} (h : IH) (id code ttl : Int) (nm : List UInt8) (v : IV) (zs : List Int) (k0 : Nat) (ho : Own lo hi h 2 1 v (intRows zs)) (hhi : hi ≤ h.n) (hk : k0 + zs.length < 4611686018427387904) :
    ICalls Tryd.prog 30 [.agg [.int .i64 id, .int .i64 code, .int .i64 ttl, .str nm, v], .int .i64 k0] h fun r h' => r = .int .i64 ((k0 + zs.length : Nat) : Int) ∧ Own lo hi h' 2 1 v (marksI zs.length k0) ∧ Turn v h h' := by
  refine icalls (.of ok30) (Nat.le_of_ble_eq_true rfl) ?_
  unfold c30
  have v1 := ho.sl.one
  have v2 := ho.sl.cells
  simp only [v1, go_sem, Hold.p, HoldK.k, HoldL.K, HoldL.body, Nat.reduceBEq, Nat.reduceAdd, List.getElem?_cons_zero, List.getElem?_cons_succ, Option.bind_some, List.map_cons, List.map_nil, Nat.zero_add, if_true, List.getD_cons_zero, List.getD_cons_succ, List.contains_cons, List.contains_nil, Nat.reduceBEq, Bool.or_true, Bool.true_or, Bool.or_false, Bool.false_or, Bool.not_true, Bool.not_false, true_and, and_true, rowA_whole, push_n, set_n, push_obj, set_obj, set_push, set_push_ne, set_set, Nat.add_assoc, Nat.left_eq_add, Nat.add_eq_left, Nat.add_left_cancel_iff, Nat.reduceEqDiff, stO_1s, stO_ws, boxA_s, one_bool, one_int, one_str, one_ptr, one_nilptr, one_slice, one_eslice, one_nilslice, one_func, one_iface, one_niliface, List.all_cons, List.all_nil, List.length_cons, List.length_nil, Nat.reduceLT, Nat.reduceEqDiff, Nat.reduceLeDiff, Bool.and_true, Nat.one_ne_zero, Nat.succ_ne_zero, reduceIte, if_false, List.getElem?_cons_zero, List.set_cons_zero, List.set_cons_succ]
  generalize hq_g0 : IH.push h (IObj.rows [[IV.int .i64 id, IV.int .i64 code, IV.int .i64 ttl, IV.str nm, v]] 44 5 false) = g0
  have e_g0 : Ext h g0 := by rw [← hq_g0]; exact (Ext.refl _).push _
  have l_g0 : g0.n = h.n + 1 := by rw [← hq_g0]; rfl
  have bb : At g0 h.n (IObj.rows [[IV.int .i64 id, IV.int .i64 code, IV.int .i64 ttl, IV.str nm, v]] 44 5 false) := by rw [← hq_g0]; exact At.new _ _
  clear hq_g0
  have ho := ho.ext e_g0
  refine callA_of (markInt64S_c _ v k0 _ ho rowsI1 (by rw [intRows_len]; omega)) ?_
  rintro r h' ⟨rfl, o', t'⟩
  rw [intRows_len] at o'
  simp only [intRows_len, go_sem, Hold.p, HoldK.k, HoldL.K, HoldL.body, Nat.reduceBEq, Nat.reduceAdd, List.getElem?_cons_zero, List.getElem?_cons_succ, Option.bind_some, List.map_cons, List.map_nil, Nat.zero_add, if_true, List.getD_cons_zero, List.getD_cons_succ, List.contains_cons, List.contains_nil, Nat.reduceBEq, Bool.or_true, Bool.true_or, Bool.or_false, Bool.false_or, Bool.not_true, Bool.not_false, true_and, and_true, rowA_whole, push_n, set_n, push_obj, set_obj, set_push, set_push_ne, set_set, Nat.add_assoc, Nat.left_eq_add, Nat.add_eq_left, Nat.add_left_cancel_iff, Nat.reduceEqDiff, stO_1s, stO_ws, boxA_s, one_bool, one_int, one_str, one_ptr, one_nilptr, one_slice, one_eslice, one_nilslice, one_func, one_iface, one_niliface, List.all_cons, List.all_nil, List.length_cons, List.length_nil, Nat.reduceLT, Nat.reduceEqDiff, Nat.reduceLeDiff, Bool.and_true, Nat.one_ne_zero, Nat.succ_ne_zero, reduceIte, if_false, List.getElem?_cons_zero, List.set_cons_zero, List.set_cons_succ]
  exact ⟨o', (Turn.of_ext e_g0).trans t'⟩
end Go.Proofs.YtcmcfmgabafljaaDoor
