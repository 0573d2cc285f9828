import Derived.Test.YtcmcfmgabafljaaL3
import Derived.Test.YtcmcfmgabafljaaL1
import Derived.Test.YtcmcfmgabafljaaK2
set_option linter.unusedSimpArgs false
set_option linter.unusedVariables false
namespace Go.Proofs.Ytcmcfmgabafljaa
open Go Go.IW

set_option maxRecDepth 20000 in
theorem toPrefix_c (h : IH) (a b : Int) : ICalls Try.prog 115 [.agg [.int .i64 a, .int .i64 b]] h fun r h' => r = .agg [.int .i64 a, .int .i64 b] ∧ Ext h h' := by
  refine icalls (.of ok115) (Nat.le_of_ble_eq_true rfl) ?_
  unfold c115
  simp only [go_sem, Hold.p, HoldK.k, HoldL.K, HoldL.body, Nat.reduceBEq, Nat.reduceAdd, List.getElem?_cons_zero, List.getElem?_cons_succ, Option.bind_some, List.map_cons, List.map_nil, Nat.zero_add, if_true, List.getD_cons_zero, List.getD_cons_succ, List.contains_cons, List.contains_nil, Nat.reduceBEq, Bool.or_true, Bool.true_or, Bool.or_false, Bool.false_or, Bool.not_true, Bool.not_false, true_and, and_true, rowA_whole, push_n, set_n, push_obj, set_obj, set_push, set_push_ne, set_set, Nat.add_assoc, Nat.left_eq_add, Nat.add_eq_left, Nat.add_left_cancel_iff, Nat.reduceEqDiff, stO_1s, stO_ws, boxA_s, one_bool, one_int, one_str, one_ptr, one_nilptr, one_slice, one_eslice, one_nilslice, one_func, one_iface, one_niliface, List.all_cons, List.all_nil, List.length_cons, List.length_nil, Nat.reduceLT, Nat.reduceEqDiff, Nat.reduceLeDiff, Bool.and_true, Nat.one_ne_zero, Nat.succ_ne_zero, reduceIte, if_false, List.getElem?_cons_zero, List.set_cons_zero, List.set_cons_succ]
  exact (((Ext.refl _).push _).push _).push _
set_option maxRecDepth 20000 in
theorem eqPrefix_c (h : IH) (a b : Int) : ICalls Try.prog 116 [.agg [.int .i64 a, .int .i64 b], .agg [.int .i64 a, .int .i64 b]] h fun r h' => r = .bool true ∧ Ext h h' := by
  refine icalls (.of ok116) (Nat.le_of_ble_eq_true rfl) ?_
  unfold c116
  simp only [decide_true, go_sem, Hold.p, HoldK.k, HoldL.K, HoldL.body, Nat.reduceBEq, Nat.reduceAdd, List.getElem?_cons_zero, List.getElem?_cons_succ, Option.bind_some, List.map_cons, List.map_nil, Nat.zero_add, if_true, List.getD_cons_zero, List.getD_cons_succ, List.contains_cons, List.contains_nil, Nat.reduceBEq, Bool.or_true, Bool.true_or, Bool.or_false, Bool.false_or, Bool.not_true, Bool.not_false, true_and, and_true, rowA_whole, push_n, set_n, push_obj, set_obj, set_push, set_push_ne, set_set, Nat.add_assoc, Nat.left_eq_add, Nat.add_eq_left, Nat.add_left_cancel_iff, Nat.reduceEqDiff, stO_1s, stO_ws, boxA_s, one_bool, one_int, one_str, one_ptr, one_nilptr, one_slice, one_eslice, one_nilslice, one_func, one_iface, one_niliface, List.all_cons, List.all_nil, List.length_cons, List.length_nil, Nat.reduceLT, Nat.reduceEqDiff, Nat.reduceLeDiff, Bool.and_true, Nat.one_ne_zero, Nat.succ_ne_zero, reduceIte, if_false, List.getElem?_cons_zero, List.set_cons_zero, List.set_cons_succ]
  exact ((Ext.refl _).push _).push _

structure Lnk where
  mac : Int
  addr : Int
  a : Int
  b : Int
  mtu : Int
def Lnk.row (x : Lnk) : List IV := [.int .i64 x.mac, .int .i64 x.addr, .int .i64 x.a, .int .i64 x.b, .int .i64 x.mtu]
def Lnk.rows (xs : List Lnk) : List (List IV) := xs.map Lnk.row
theorem Lnk.rows_len (xs : List Lnk) : (Lnk.rows xs).length = xs.length := by simp [Lnk.rows]
theorem Lnk.rows_mem {xs : List Lnk} {r : List IV} (h : r ∈ Lnk.rows xs) : ∃ x ∈ xs, r = x.row := by
  obtain ⟨x, hx, rfl⟩ := List.mem_map.1 h
  exact ⟨x, hx, rfl⟩
theorem Lnk.rows_ok {xs : List Lnk} : ∀ r ∈ Lnk.rows xs, r.length = 5 ∧ ∀ y ∈ r, y.one = true := by
  intro r hr
  obtain ⟨x, _, rfl⟩ := Lnk.rows_mem hr
  exact ⟨rfl, by simp [Lnk.row, IV.one]⟩
theorem Lnk.rows_at {xs : List Lnk} {k : Nat} {x : Lnk} (h : xs[k]? = some x) : (Lnk.rows xs)[k]? = some x.row := by simp [Lnk.rows, h]

set_option maxRecDepth 20000 in
theorem toHostLink_c (h : IH) (mac addr a b mtu : Int) : ICalls Try.prog 87 [.agg [.int .i64 mac, .int .i64 addr, .int .i64 a, .int .i64 b, .int .i64 mtu]] h fun r h' => r = .agg [.int .i64 mac, .int .i64 addr, .int .i64 a, .int .i64 b, .int .i64 mtu] ∧ Ext h h' := by
  refine icalls (.of ok87) (Nat.le_of_ble_eq_true rfl) ?_
  unfold c87
  have hr2 : rowA (some [IV.int .i64 mac, IV.int .i64 addr, IV.int .i64 a, IV.int .i64 b, IV.int .i64 mtu]) 2 2 = some (.agg [.int .i64 a, .int .i64 b]) := rfl
  simp only [hr2, go_sem, Hold.p, HoldK.k, HoldL.K, HoldL.body, Nat.reduceBEq, Nat.reduceAdd, List.getElem?_cons_zero, List.getElem?_cons_succ, Option.bind_some, List.map_cons, List.map_nil, Nat.zero_add, if_true, List.getD_cons_zero, List.getD_cons_succ, List.contains_cons, List.contains_nil, Nat.reduceBEq, Bool.or_true, Bool.true_or, Bool.or_false, Bool.false_or, Bool.not_true, Bool.not_false, true_and, and_true, rowA_whole, push_n, set_n, push_obj, set_obj, set_push, set_push_ne, set_set, Nat.add_assoc, Nat.left_eq_add, Nat.add_eq_left, Nat.add_left_cancel_iff, Nat.reduceEqDiff, stO_1s, stO_ws, boxA_s, one_bool, one_int, one_str, one_ptr, one_nilptr, one_slice, one_eslice, one_nilslice, one_func, one_iface, one_niliface, List.all_cons, List.all_nil, List.length_cons, List.length_nil, Nat.reduceLT, Nat.reduceEqDiff, Nat.reduceLeDiff, Bool.and_true, Nat.one_ne_zero, Nat.succ_ne_zero, reduceIte, if_false, List.getElem?_cons_zero, List.set_cons_zero, List.set_cons_succ]
  generalize hq_g0 : IH.push h (IObj.rows [[IV.int .i64 mac, IV.int .i64 addr, IV.int .i64 a, IV.int .i64 b, IV.int .i64 mtu]] 141 5 false) = g0
  have e_g0 : Ext h g0 := by rw [← hq_g0]; exact (Ext.refl _).push _
  have l_g0 : g0.n = h.n + 1 := by rw [← hq_g0]; rfl
  have b1 : At g0 h.n (IObj.rows [[IV.int .i64 mac, IV.int .i64 addr, IV.int .i64 a, IV.int .i64 b, IV.int .i64 mtu]] 141 5 false) := by rw [← hq_g0]; exact At.new _ _
  clear hq_g0
  generalize hq_g1 : IH.push g0 (IObj.rows [[IV.int .i64 0, IV.int .i64 0, IV.int .i64 0, IV.int .i64 0, IV.int .i64 0]] 73 5 false) = g1
  have e_g1 : Ext g0 g1 := by rw [← hq_g1]; exact (Ext.refl _).push _
  have l_g1 : g1.n = g0.n + 1 := by rw [← hq_g1]; rfl
  have b2 : At g1 g0.n (IObj.rows [[IV.int .i64 0, IV.int .i64 0, IV.int .i64 0, IV.int .i64 0, IV.int .i64 0]] 73 5 false) := by rw [← hq_g1]; exact At.new _ _
  clear hq_g1
  have b1 := b1.ext e_g1
  generalize hq_g2 : IH.push g1 (IObj.rows [[IV.int .i64 mac, IV.int .i64 addr, IV.int .i64 0, IV.int .i64 0, IV.int .i64 0]] 73 5 false) = g2
  have e_g2 : Ext g1 g2 := by rw [← hq_g2]; exact (Ext.refl _).push _
  have l_g2 : g2.n = g1.n + 1 := by rw [← hq_g2]; rfl
  have b3 : At g2 g1.n (IObj.rows [[IV.int .i64 mac, IV.int .i64 addr, IV.int .i64 0, IV.int .i64 0, IV.int .i64 0]] 73 5 false) := by rw [← hq_g2]; exact At.new _ _
  clear hq_g2
  have b1 := b1.ext e_g2
  have b2 := b2.ext e_g2
  have E := (e_g0.trans e_g1).trans e_g2
  rw [l_g0] at b2
  rw [l_g1, l_g0] at b3
  have n1 : (h.n = h.n + 1 + 1) = False := by simp; omega
  have n2 : (h.n + 1 = h.n + 1 + 1) = False := by simp
  refine callA_of (toPrefix_c _ a b) ?_
  rintro r k0 ⟨rfl, E0⟩
  have b1 := b1.ext E0
  have b2 := b2.ext E0
  have b3 := b3.ext E0
  have E := E.ext E0
  have le_E0 := E0.le
  simp only [hr2, l_g0, l_g1, b1.eq, b2.eq, b3.eq, n1, n2, stO_2s, List.take_succ_cons, List.take_zero, List.drop_succ_cons, List.drop_zero, List.cons_append, List.nil_append, go_sem, Hold.p, HoldK.k, HoldL.K, HoldL.body, Nat.reduceBEq, Nat.reduceAdd, List.getElem?_cons_zero, List.getElem?_cons_succ, Option.bind_some, List.map_cons, List.map_nil, Nat.zero_add, if_true, List.getD_cons_zero, List.getD_cons_succ, List.contains_cons, List.contains_nil, Nat.reduceBEq, Bool.or_true, Bool.true_or, Bool.or_false, Bool.false_or, Bool.not_true, Bool.not_false, true_and, and_true, rowA_whole, push_n, set_n, push_obj, set_obj, set_push, set_push_ne, set_set, Nat.add_assoc, Nat.left_eq_add, Nat.add_eq_left, Nat.add_left_cancel_iff, Nat.reduceEqDiff, stO_1s, stO_ws, boxA_s, one_bool, one_int, one_str, one_ptr, one_nilptr, one_slice, one_eslice, one_nilslice, one_func, one_iface, one_niliface, List.all_cons, List.all_nil, List.length_cons, List.length_nil, Nat.reduceLT, Nat.reduceEqDiff, Nat.reduceLeDiff, Bool.and_true, Nat.one_ne_zero, Nat.succ_ne_zero, reduceIte, if_false, List.getElem?_cons_zero, List.set_cons_zero, List.set_cons_succ]
  first | exact (E.set _ (by omega) _).set _ (by omega) _ | exact ⟨rfl, (E.set _ (by omega) _).set _ (by omega) _⟩

set_option maxRecDepth 20000 in
theorem eqHostLink_c (h : IH) (mac addr a b mtu : Int) : ICalls Try.prog 92 [.agg [.int .i64 mac, .int .i64 addr, .int .i64 a, .int .i64 b, .int .i64 mtu], .agg [.int .i64 mac, .int .i64 addr, .int .i64 a, .int .i64 b, .int .i64 mtu]] h fun r h' => r = .bool true ∧ Ext h h' := by
  refine icalls (.of ok92) (Nat.le_of_ble_eq_true rfl) ?_
  unfold c92
  have hr2 : rowA (some [IV.int .i64 mac, IV.int .i64 addr, IV.int .i64 a, IV.int .i64 b, IV.int .i64 mtu]) 2 2 = some (.agg [.int .i64 a, .int .i64 b]) := rfl
  simp only [hr2, decide_true, go_sem, Hold.p, HoldK.k, HoldL.K, HoldL.body, Nat.reduceBEq, Nat.reduceAdd, List.getElem?_cons_zero, List.getElem?_cons_succ, Option.bind_some, List.map_cons, List.map_nil, Nat.zero_add, if_true, List.getD_cons_zero, List.getD_cons_succ, List.contains_cons, List.contains_nil, Nat.reduceBEq, Bool.or_true, Bool.true_or, Bool.or_false, Bool.false_or, Bool.not_true, Bool.not_false, true_and, and_true, rowA_whole, push_n, set_n, push_obj, set_obj, set_push, set_push_ne, set_set, Nat.add_assoc, Nat.left_eq_add, Nat.add_eq_left, Nat.add_left_cancel_iff, Nat.reduceEqDiff, stO_1s, stO_ws, boxA_s, one_bool, one_int, one_str, one_ptr, one_nilptr, one_slice, one_eslice, one_nilslice, one_func, one_iface, one_niliface, List.all_cons, List.all_nil, List.length_cons, List.length_nil, Nat.reduceLT, Nat.reduceEqDiff, Nat.reduceLeDiff, Bool.and_true, Nat.one_ne_zero, Nat.succ_ne_zero, reduceIte, if_false, List.getElem?_cons_zero, List.set_cons_zero, List.set_cons_succ]
  generalize hq_g0 : IH.push h (IObj.rows [[IV.int .i64 mac, IV.int .i64 addr, IV.int .i64 a, IV.int .i64 b, IV.int .i64 mtu]] 73 5 false) = g0
  have e_g0 : Ext h g0 := by rw [← hq_g0]; exact (Ext.refl _).push _
  have l_g0 : g0.n = h.n + 1 := by rw [← hq_g0]; rfl
  have b1 : At g0 h.n (IObj.rows [[IV.int .i64 mac, IV.int .i64 addr, IV.int .i64 a, IV.int .i64 b, IV.int .i64 mtu]] 73 5 false) := by rw [← hq_g0]; exact At.new _ _
  clear hq_g0
  generalize hq_g1 : IH.push g0 (IObj.rows [[IV.int .i64 mac, IV.int .i64 addr, IV.int .i64 a, IV.int .i64 b, IV.int .i64 mtu]] 73 5 false) = g1
  have e_g1 : Ext g0 g1 := by rw [← hq_g1]; exact (Ext.refl _).push _
  have l_g1 : g1.n = g0.n + 1 := by rw [← hq_g1]; rfl
  have b2 : At g1 g0.n (IObj.rows [[IV.int .i64 mac, IV.int .i64 addr, IV.int .i64 a, IV.int .i64 b, IV.int .i64 mtu]] 73 5 false) := by rw [← hq_g1]; exact At.new _ _
  clear hq_g1
  have b1 := b1.ext e_g1
  have E := e_g0.trans e_g1
  rw [l_g0] at b2
  refine callA_of (eqPrefix_c _ a b) ?_
  rintro r k0 ⟨rfl, E0⟩
  have b1 := b1.ext E0
  have b2 := b2.ext E0
  have E := E.ext E0
  have le_E0 := E0.le
  simp only [hr2, l_g0, b1.eq, b2.eq, decide_true, go_sem, Hold.p, HoldK.k, HoldL.K, HoldL.body, Nat.reduceBEq, Nat.reduceAdd, List.getElem?_cons_zero, List.getElem?_cons_succ, Option.bind_some, List.map_cons, List.map_nil, Nat.zero_add, if_true, List.getD_cons_zero, List.getD_cons_succ, List.contains_cons, List.contains_nil, Nat.reduceBEq, Bool.or_true, Bool.true_or, Bool.or_false, Bool.false_or, Bool.not_true, Bool.not_false, true_and, and_true, rowA_whole, push_n, set_n, push_obj, set_obj, set_push, set_push_ne, set_set, Nat.add_assoc, Nat.left_eq_add, Nat.add_eq_left, Nat.add_left_cancel_iff, Nat.reduceEqDiff, stO_1s, stO_ws, boxA_s, one_bool, one_int, one_str, one_ptr, one_nilptr, one_slice, one_eslice, one_nilslice, one_func, one_iface, one_niliface, List.all_cons, List.all_nil, List.length_cons, List.length_nil, Nat.reduceLT, Nat.reduceEqDiff, Nat.reduceLeDiff, Bool.and_true, Nat.one_ne_zero, Nat.succ_ne_zero, reduceIte, if_false, List.getElem?_cons_zero, List.set_cons_zero, List.set_cons_succ]
  exact E

set_option maxRecDepth 20000 in
theorem toHostLinkS_c (h : IH) (v : IV) (xs : List Lnk) (hs : SlR h 5 v (Lnk.rows xs)) (hm : xs.length ≤ 1048576) :
    ICalls Try.prog 34 [v] h fun r h' => Own h.n h'.n h' 73 5 r (Lnk.rows xs) ∧ Ext h h' :=
  toS_calls (z := [IV.int .i64 0, IV.int .i64 0, IV.int .i64 0, IV.int .i64 0, IV.int .i64 0]) ok34 hs rfl Lnk.rows_ok (by rw [Lnk.rows_len]; omega) (by rw [Lnk.rows_len]; omega) fun h r hr => by
    obtain ⟨x, _, rfl⟩ := Lnk.rows_mem hr
    exact toHostLink_c h x.mac x.addr x.a x.b x.mtu
set_option maxRecDepth 20000 in
theorem eqHostLinkS_c (h : IH) (v w : IV) (xs : List Lnk) (hv : SlR h 5 v (Lnk.rows xs)) (hw : SlR h 5 w (Lnk.rows xs)) (hm : xs.length ≤ 1048576) :
    ICalls Try.prog 45 [v, w] h fun r h' => r = .bool true ∧ Ext h h' :=
  eqS_calls ok45 hv hw (fun r hr => (Lnk.rows_ok r hr).1) (by rw [Lnk.rows_len]; omega) fun h r hr => by
    obtain ⟨x, _, rfl⟩ := Lnk.rows_mem hr
    exact eqHostLink_c h x.mac x.addr x.a x.b x.mtu
set_option maxRecDepth 20000 in
theorem szHostLinkS_c (h : IH) (v : IV) (xs : List Lnk) (left : Int) (hs : SlR h 5 v (Lnk.rows xs)) (hl : 0 ≤ left ∧ left ≤ 1048576) (hz : xs.length ≤ maxLen) :
    ICalls Try.prog 26 [v, .int .i64 left] h fun x h' => Szd left x (xs.length ≤ left) ∧ h' = h := by
  have := szL_calls ok26 hs (by rw [Lnk.rows_len]; exact hz) hl
  rw [Lnk.rows_len] at this
  exact this

structure Rte where
  a : Int
  b : Int
  via : Int
  link : Int
  metric : Int
def Rte.row (x : Rte) : List IV := [.int .i64 x.a, .int .i64 x.b, .int .i64 x.via, .int .i64 x.link, .int .i64 x.metric]
def Rte.rows (xs : List Rte) : List (List IV) := xs.map Rte.row
theorem Rte.rows_len (xs : List Rte) : (Rte.rows xs).length = xs.length := by simp [Rte.rows]
theorem Rte.rows_mem {xs : List Rte} {r : List IV} (h : r ∈ Rte.rows xs) : ∃ x ∈ xs, r = x.row := by
  obtain ⟨x, hx, rfl⟩ := List.mem_map.1 h
  exact ⟨x, hx, rfl⟩
theorem Rte.rows_ok {xs : List Rte} : ∀ r ∈ Rte.rows xs, r.length = 5 ∧ ∀ y ∈ r, y.one = true := by
  intro r hr
  obtain ⟨x, _, rfl⟩ := Rte.rows_mem hr
  exact ⟨rfl, by simp [Rte.row, IV.one]⟩
theorem Rte.rows_at {xs : List Rte} {k : Nat} {x : Rte} (h : xs[k]? = some x) : (Rte.rows xs)[k]? = some x.row := by simp [Rte.rows, h]

set_option maxRecDepth 20000 in
theorem toRoute_c (h : IH) (a b via link metric : Int) : ICalls Try.prog 88 [.agg [.int .i64 a, .int .i64 b, .int .i64 via, .int .i64 link, .int .i64 metric]] h fun r h' => r = .agg [.int .i64 a, .int .i64 b, .int .i64 via, .int .i64 link, .int .i64 metric] ∧ Ext h h' := by
  refine icalls (.of ok88) (Nat.le_of_ble_eq_true rfl) ?_
  unfold c88
  have hr0 : rowA (some [IV.int .i64 a, IV.int .i64 b, IV.int .i64 via, IV.int .i64 link, IV.int .i64 metric]) 0 2 = some (.agg [.int .i64 a, .int .i64 b]) := rfl
  simp only [hr0, go_sem, Hold.p, HoldK.k, HoldL.K, HoldL.body, Nat.reduceBEq, Nat.reduceAdd, List.getElem?_cons_zero, List.getElem?_cons_succ, Option.bind_some, List.map_cons, List.map_nil, Nat.zero_add, if_true, List.getD_cons_zero, List.getD_cons_succ, List.contains_cons, List.contains_nil, Nat.reduceBEq, Bool.or_true, Bool.true_or, Bool.or_false, Bool.false_or, Bool.not_true, Bool.not_false, true_and, and_true, rowA_whole, push_n, set_n, push_obj, set_obj, set_push, set_push_ne, set_set, Nat.add_assoc, Nat.left_eq_add, Nat.add_eq_left, Nat.add_left_cancel_iff, Nat.reduceEqDiff, stO_1s, stO_ws, boxA_s, one_bool, one_int, one_str, one_ptr, one_nilptr, one_slice, one_eslice, one_nilslice, one_func, one_iface, one_niliface, List.all_cons, List.all_nil, List.length_cons, List.length_nil, Nat.reduceLT, Nat.reduceEqDiff, Nat.reduceLeDiff, Bool.and_true, Nat.one_ne_zero, Nat.succ_ne_zero, reduceIte, if_false, List.getElem?_cons_zero, List.set_cons_zero, List.set_cons_succ]
  generalize hq_g0 : IH.push h (IObj.rows [[IV.int .i64 a, IV.int .i64 b, IV.int .i64 via, IV.int .i64 link, IV.int .i64 metric]] 144 5 false) = g0
  have e_g0 : Ext h g0 := by rw [← hq_g0]; exact (Ext.refl _).push _
  have l_g0 : g0.n = h.n + 1 := by rw [← hq_g0]; rfl
  have b1 : At g0 h.n (IObj.rows [[IV.int .i64 a, IV.int .i64 b, IV.int .i64 via, IV.int .i64 link, IV.int .i64 metric]] 144 5 false) := by rw [← hq_g0]; exact At.new _ _
  clear hq_g0
  generalize hq_g1 : IH.push g0 (IObj.rows [[IV.int .i64 0, IV.int .i64 0, IV.int .i64 0, IV.int .i64 0, IV.int .i64 0]] 75 5 false) = g1
  have e_g1 : Ext g0 g1 := by rw [← hq_g1]; exact (Ext.refl _).push _
  have l_g1 : g1.n = g0.n + 1 := by rw [← hq_g1]; rfl
  have b2 : At g1 g0.n (IObj.rows [[IV.int .i64 0, IV.int .i64 0, IV.int .i64 0, IV.int .i64 0, IV.int .i64 0]] 75 5 false) := by rw [← hq_g1]; exact At.new _ _
  clear hq_g1
  have b1 := b1.ext e_g1
  generalize hq_g2 : IH.push g1 (IObj.rows [[IV.int .i64 0, IV.int .i64 0, IV.int .i64 0, IV.int .i64 0, IV.int .i64 0]] 75 5 false) = g2
  have e_g2 : Ext g1 g2 := by rw [← hq_g2]; exact (Ext.refl _).push _
  have l_g2 : g2.n = g1.n + 1 := by rw [← hq_g2]; rfl
  have b3 : At g2 g1.n (IObj.rows [[IV.int .i64 0, IV.int .i64 0, IV.int .i64 0, IV.int .i64 0, IV.int .i64 0]] 75 5 false) := by rw [← hq_g2]; exact At.new _ _
  clear hq_g2
  have b1 := b1.ext e_g2
  have b2 := b2.ext e_g2
  have E := (e_g0.trans e_g1).trans e_g2
  rw [l_g0] at b2
  rw [l_g1, l_g0] at b3
  have n1 : (h.n = h.n + 1 + 1) = False := by simp; omega
  have n2 : (h.n + 1 = h.n + 1 + 1) = False := by simp
  refine callA_of (toPrefix_c _ a b) ?_
  rintro r k0 ⟨rfl, E0⟩
  have b1 := b1.ext E0
  have b2 := b2.ext E0
  have b3 := b3.ext E0
  have E := E.ext E0
  have le_E0 := E0.le
  simp only [hr0, l_g0, l_g1, b1.eq, b2.eq, b3.eq, n1, n2, stO_2s, List.take_succ_cons, List.take_zero, List.drop_succ_cons, List.drop_zero, List.cons_append, List.nil_append, go_sem, Hold.p, HoldK.k, HoldL.K, HoldL.body, Nat.reduceBEq, Nat.reduceAdd, List.getElem?_cons_zero, List.getElem?_cons_succ, Option.bind_some, List.map_cons, List.map_nil, Nat.zero_add, if_true, List.getD_cons_zero, List.getD_cons_succ, List.contains_cons, List.contains_nil, Nat.reduceBEq, Bool.or_true, Bool.true_or, Bool.or_false, Bool.false_or, Bool.not_true, Bool.not_false, true_and, and_true, rowA_whole, push_n, set_n, push_obj, set_obj, set_push, set_push_ne, set_set, Nat.add_assoc, Nat.left_eq_add, Nat.add_eq_left, Nat.add_left_cancel_iff, Nat.reduceEqDiff, stO_1s, stO_ws, boxA_s, one_bool, one_int, one_str, one_ptr, one_nilptr, one_slice, one_eslice, one_nilslice, one_func, one_iface, one_niliface, List.all_cons, List.all_nil, List.length_cons, List.length_nil, Nat.reduceLT, Nat.reduceEqDiff, Nat.reduceLeDiff, Bool.and_true, Nat.one_ne_zero, Nat.succ_ne_zero, reduceIte, if_false, List.getElem?_cons_zero, List.set_cons_zero, List.set_cons_succ]
  first | exact (E.set _ (by omega) _).set _ (by omega) _ | exact ⟨rfl, (E.set _ (by omega) _).set _ (by omega) _⟩

set_option maxRecDepth 20000 in
theorem eqRoute_c (h : IH) (a b via link metric : Int) : ICalls Try.prog 93 [.agg [.int .i64 a, .int .i64 b, .int .i64 via, .int .i64 link, .int .i64 metric], .agg [.int .i64 a, .int .i64 b, .int .i64 via, .int .i64 link, .int .i64 metric]] h fun r h' => r = .bool true ∧ Ext h h' := by
  refine icalls (.of ok93) (Nat.le_of_ble_eq_true rfl) ?_
  unfold c93
  have hr0 : rowA (some [IV.int .i64 a, IV.int .i64 b, IV.int .i64 via, IV.int .i64 link, IV.int .i64 metric]) 0 2 = some (.agg [.int .i64 a, .int .i64 b]) := rfl
  simp only [hr0, decide_true, go_sem, Hold.p, HoldK.k, HoldL.K, HoldL.body, Nat.reduceBEq, Nat.reduceAdd, List.getElem?_cons_zero, List.getElem?_cons_succ, Option.bind_some, List.map_cons, List.map_nil, Nat.zero_add, if_true, List.getD_cons_zero, List.getD_cons_succ, List.contains_cons, List.contains_nil, Nat.reduceBEq, Bool.or_true, Bool.true_or, Bool.or_false, Bool.false_or, Bool.not_true, Bool.not_false, true_and, and_true, rowA_whole, push_n, set_n, push_obj, set_obj, set_push, set_push_ne, set_set, Nat.add_assoc, Nat.left_eq_add, Nat.add_eq_left, Nat.add_left_cancel_iff, Nat.reduceEqDiff, stO_1s, stO_ws, boxA_s, one_bool, one_int, one_str, one_ptr, one_nilptr, one_slice, one_eslice, one_nilslice, one_func, one_iface, one_niliface, List.all_cons, List.all_nil, List.length_cons, List.length_nil, Nat.reduceLT, Nat.reduceEqDiff, Nat.reduceLeDiff, Bool.and_true, Nat.one_ne_zero, Nat.succ_ne_zero, reduceIte, if_false, List.getElem?_cons_zero, List.set_cons_zero, List.set_cons_succ]
  generalize hq_g0 : IH.push h (IObj.rows [[IV.int .i64 a, IV.int .i64 b, IV.int .i64 via, IV.int .i64 link, IV.int .i64 metric]] 75 5 false) = g0
  have e_g0 : Ext h g0 := by rw [← hq_g0]; exact (Ext.refl _).push _
  have l_g0 : g0.n = h.n + 1 := by rw [← hq_g0]; rfl
  have b1 : At g0 h.n (IObj.rows [[IV.int .i64 a, IV.int .i64 b, IV.int .i64 via, IV.int .i64 link, IV.int .i64 metric]] 75 5 false) := by rw [← hq_g0]; exact At.new _ _
  clear hq_g0
  generalize hq_g1 : IH.push g0 (IObj.rows [[IV.int .i64 a, IV.int .i64 b, IV.int .i64 via, IV.int .i64 link, IV.int .i64 metric]] 75 5 false) = g1
  have e_g1 : Ext g0 g1 := by rw [← hq_g1]; exact (Ext.refl _).push _
  have l_g1 : g1.n = g0.n + 1 := by rw [← hq_g1]; rfl
  have b2 : At g1 g0.n (IObj.rows [[IV.int .i64 a, IV.int .i64 b, IV.int .i64 via, IV.int .i64 link, IV.int .i64 metric]] 75 5 false) := by rw [← hq_g1]; exact At.new _ _
  clear hq_g1
  have b1 := b1.ext e_g1
  have E := e_g0.trans e_g1
  rw [l_g0] at b2
  refine callA_of (eqPrefix_c _ a b) ?_
  rintro r k0 ⟨rfl, E0⟩
  have b1 := b1.ext E0
  have b2 := b2.ext E0
  have E := E.ext E0
  have le_E0 := E0.le
  simp only [hr0, l_g0, b1.eq, b2.eq, decide_true, go_sem, Hold.p, HoldK.k, HoldL.K, HoldL.body, Nat.reduceBEq, Nat.reduceAdd, List.getElem?_cons_zero, List.getElem?_cons_succ, Option.bind_some, List.map_cons, List.map_nil, Nat.zero_add, if_true, List.getD_cons_zero, List.getD_cons_succ, List.contains_cons, List.contains_nil, Nat.reduceBEq, Bool.or_true, Bool.true_or, Bool.or_false, Bool.false_or, Bool.not_true, Bool.not_false, true_and, and_true, rowA_whole, push_n, set_n, push_obj, set_obj, set_push, set_push_ne, set_set, Nat.add_assoc, Nat.left_eq_add, Nat.add_eq_left, Nat.add_left_cancel_iff, Nat.reduceEqDiff, stO_1s, stO_ws, boxA_s, one_bool, one_int, one_str, one_ptr, one_nilptr, one_slice, one_eslice, one_nilslice, one_func, one_iface, one_niliface, List.all_cons, List.all_nil, List.length_cons, List.length_nil, Nat.reduceLT, Nat.reduceEqDiff, Nat.reduceLeDiff, Bool.and_true, Nat.one_ne_zero, Nat.succ_ne_zero, reduceIte, if_false, List.getElem?_cons_zero, List.set_cons_zero, List.set_cons_succ]
  exact E

set_option maxRecDepth 20000 in
theorem toRouteS_c (h : IH) (v : IV) (xs : List Rte) (hs : SlR h 5 v (Rte.rows xs)) (hm : xs.length ≤ 1048576) :
    ICalls Try.prog 35 [v] h fun r h' => Own h.n h'.n h' 75 5 r (Rte.rows xs) ∧ Ext h h' :=
  toS_calls (z := [IV.int .i64 0, IV.int .i64 0, IV.int .i64 0, IV.int .i64 0, IV.int .i64 0]) ok35 hs rfl Rte.rows_ok (by rw [Rte.rows_len]; omega) (by rw [Rte.rows_len]; omega) fun h r hr => by
    obtain ⟨x, _, rfl⟩ := Rte.rows_mem hr
    exact toRoute_c h x.a x.b x.via x.link x.metric
set_option maxRecDepth 20000 in
theorem eqRouteS_c (h : IH) (v w : IV) (xs : List Rte) (hv : SlR h 5 v (Rte.rows xs)) (hw : SlR h 5 w (Rte.rows xs)) (hm : xs.length ≤ 1048576) :
    ICalls Try.prog 46 [v, w] h fun r h' => r = .bool true ∧ Ext h h' :=
  eqS_calls ok46 hv hw (fun r hr => (Rte.rows_ok r hr).1) (by rw [Rte.rows_len]; omega) fun h r hr => by
    obtain ⟨x, _, rfl⟩ := Rte.rows_mem hr
    exact eqRoute_c h x.a x.b x.via x.link x.metric
set_option maxRecDepth 20000 in
theorem szRouteS_c (h : IH) (v : IV) (xs : List Rte) (left : Int) (hs : SlR h 5 v (Rte.rows xs)) (hl : 0 ≤ left ∧ left ≤ 1048576) (hz : xs.length ≤ maxLen) :
    ICalls Try.prog 27 [v, .int .i64 left] h fun x h' => Szd left x (xs.length ≤ left) ∧ h' = h := by
  have := szL_calls ok27 hs (by rw [Rte.rows_len]; exact hz) hl
  rw [Rte.rows_len] at this
  exact this

structure Rul where
  action : Int
  dir : Int
  proto : Int
  sa : Int
  sb : Int
  sl : Int
  sh : Int
  da : Int
  db : Int
  dl : Int
  dh : Int
  state : Int
def Rul.row (x : Rul) : List IV := [.int .i64 x.action, .int .i64 x.dir, .int .i64 x.proto, .int .i64 x.sa, .int .i64 x.sb, .int .i64 x.sl, .int .i64 x.sh, .int .i64 x.da, .int .i64 x.db, .int .i64 x.dl, .int .i64 x.dh, .int .i64 x.state]
def Rul.rows (xs : List Rul) : List (List IV) := xs.map Rul.row
theorem Rul.rows_len (xs : List Rul) : (Rul.rows xs).length = xs.length := by simp [Rul.rows]
theorem Rul.rows_mem {xs : List Rul} {r : List IV} (h : r ∈ Rul.rows xs) : ∃ x ∈ xs, r = x.row := by
  obtain ⟨x, hx, rfl⟩ := List.mem_map.1 h
  exact ⟨x, hx, rfl⟩
theorem Rul.rows_ok {xs : List Rul} : ∀ r ∈ Rul.rows xs, r.length = 12 ∧ ∀ y ∈ r, y.one = true := by
  intro r hr
  obtain ⟨x, _, rfl⟩ := Rul.rows_mem hr
  exact ⟨rfl, by simp [Rul.row, IV.one]⟩
theorem Rul.rows_at {xs : List Rul} {k : Nat} {x : Rul} (h : xs[k]? = some x) : (Rul.rows xs)[k]? = some x.row := by simp [Rul.rows, h]

set_option maxRecDepth 20000 in
theorem toRule_c (h : IH) (action dir proto sa sb sl sh da db dl dh state : Int) : ICalls Try.prog 89 [.agg [.int .i64 action, .int .i64 dir, .int .i64 proto, .int .i64 sa, .int .i64 sb, .int .i64 sl, .int .i64 sh, .int .i64 da, .int .i64 db, .int .i64 dl, .int .i64 dh, .int .i64 state]] h fun r h' => r = .agg [.int .i64 action, .int .i64 dir, .int .i64 proto, .int .i64 sa, .int .i64 sb, .int .i64 sl, .int .i64 sh, .int .i64 da, .int .i64 db, .int .i64 dl, .int .i64 dh, .int .i64 state] ∧ Ext h h' := by
  refine icalls (.of ok89) (Nat.le_of_ble_eq_true rfl) ?_
  unfold c89
  have hr3 : rowA (some [IV.int .i64 action, IV.int .i64 dir, IV.int .i64 proto, IV.int .i64 sa, IV.int .i64 sb, IV.int .i64 sl, IV.int .i64 sh, IV.int .i64 da, IV.int .i64 db, IV.int .i64 dl, IV.int .i64 dh, IV.int .i64 state]) 3 2 = some (.agg [.int .i64 sa, .int .i64 sb]) := rfl
  have hr7 : rowA (some [IV.int .i64 action, IV.int .i64 dir, IV.int .i64 proto, IV.int .i64 sa, IV.int .i64 sb, IV.int .i64 sl, IV.int .i64 sh, IV.int .i64 da, IV.int .i64 db, IV.int .i64 dl, IV.int .i64 dh, IV.int .i64 state]) 7 2 = some (.agg [.int .i64 da, .int .i64 db]) := rfl
  simp only [hr3, hr7, go_sem, Hold.p, HoldK.k, HoldL.K, HoldL.body, Nat.reduceBEq, Nat.reduceAdd, List.getElem?_cons_zero, List.getElem?_cons_succ, Option.bind_some, List.map_cons, List.map_nil, Nat.zero_add, if_true, List.getD_cons_zero, List.getD_cons_succ, List.contains_cons, List.contains_nil, Nat.reduceBEq, Bool.or_true, Bool.true_or, Bool.or_false, Bool.false_or, Bool.not_true, Bool.not_false, true_and, and_true, rowA_whole, push_n, set_n, push_obj, set_obj, set_push, set_push_ne, set_set, Nat.add_assoc, Nat.left_eq_add, Nat.add_eq_left, Nat.add_left_cancel_iff, Nat.reduceEqDiff, stO_1s, stO_ws, boxA_s, one_bool, one_int, one_str, one_ptr, one_nilptr, one_slice, one_eslice, one_nilslice, one_func, one_iface, one_niliface, List.all_cons, List.all_nil, List.length_cons, List.length_nil, Nat.reduceLT, Nat.reduceEqDiff, Nat.reduceLeDiff, Bool.and_true, Nat.one_ne_zero, Nat.succ_ne_zero, reduceIte, if_false, List.getElem?_cons_zero, List.set_cons_zero, List.set_cons_succ]
  generalize hq_g0 : IH.push h (IObj.rows [[IV.int .i64 action, IV.int .i64 dir, IV.int .i64 proto, IV.int .i64 sa, IV.int .i64 sb, IV.int .i64 sl, IV.int .i64 sh, IV.int .i64 da, IV.int .i64 db, IV.int .i64 dl, IV.int .i64 dh, IV.int .i64 state]] 147 12 false) = g0
  have e_g0 : Ext h g0 := by rw [← hq_g0]; exact (Ext.refl _).push _
  have l_g0 : g0.n = h.n + 1 := by rw [← hq_g0]; rfl
  have b1 : At g0 h.n (IObj.rows [[IV.int .i64 action, IV.int .i64 dir, IV.int .i64 proto, IV.int .i64 sa, IV.int .i64 sb, IV.int .i64 sl, IV.int .i64 sh, IV.int .i64 da, IV.int .i64 db, IV.int .i64 dl, IV.int .i64 dh, IV.int .i64 state]] 147 12 false) := by rw [← hq_g0]; exact At.new _ _
  clear hq_g0
  generalize hq_g1 : IH.push g0 (IObj.rows [[IV.int .i64 0, IV.int .i64 0, IV.int .i64 0, IV.int .i64 0, IV.int .i64 0, IV.int .i64 0, IV.int .i64 0, IV.int .i64 0, IV.int .i64 0, IV.int .i64 0, IV.int .i64 0, IV.int .i64 0]] 80 12 false) = g1
  have e_g1 : Ext g0 g1 := by rw [← hq_g1]; exact (Ext.refl _).push _
  have l_g1 : g1.n = g0.n + 1 := by rw [← hq_g1]; rfl
  have b2 : At g1 g0.n (IObj.rows [[IV.int .i64 0, IV.int .i64 0, IV.int .i64 0, IV.int .i64 0, IV.int .i64 0, IV.int .i64 0, IV.int .i64 0, IV.int .i64 0, IV.int .i64 0, IV.int .i64 0, IV.int .i64 0, IV.int .i64 0]] 80 12 false) := by rw [← hq_g1]; exact At.new _ _
  clear hq_g1
  have b1 := b1.ext e_g1
  generalize hq_g2 : IH.push g1 (IObj.rows [[IV.int .i64 action, IV.int .i64 dir, IV.int .i64 proto, IV.int .i64 0, IV.int .i64 0, IV.int .i64 0, IV.int .i64 0, IV.int .i64 0, IV.int .i64 0, IV.int .i64 0, IV.int .i64 0, IV.int .i64 0]] 80 12 false) = g2
  have e_g2 : Ext g1 g2 := by rw [← hq_g2]; exact (Ext.refl _).push _
  have l_g2 : g2.n = g1.n + 1 := by rw [← hq_g2]; rfl
  have b3 : At g2 g1.n (IObj.rows [[IV.int .i64 action, IV.int .i64 dir, IV.int .i64 proto, IV.int .i64 0, IV.int .i64 0, IV.int .i64 0, IV.int .i64 0, IV.int .i64 0, IV.int .i64 0, IV.int .i64 0, IV.int .i64 0, IV.int .i64 0]] 80 12 false) := by rw [← hq_g2]; exact At.new _ _
  clear hq_g2
  have b1 := b1.ext e_g2
  have b2 := b2.ext e_g2
  have E := (e_g0.trans e_g1).trans e_g2
  rw [l_g0] at b2
  rw [l_g1, l_g0] at b3
  have n1 : (h.n = h.n + 1 + 1) = False := by simp; omega
  have n2 : (h.n + 1 = h.n + 1 + 1) = False := by simp
  refine callA_of (toPrefix_c _ sa sb) ?_
  rintro r k0 ⟨rfl, E0⟩
  have b1 := b1.ext E0
  have b2 := b2.ext E0
  have b3 := b3.ext E0
  have E := E.ext E0
  have le_E0 := E0.le
  simp only [hr3, hr7, l_g0, l_g1, b1.eq, b2.eq, b3.eq, n1, n2, stO_2s, List.take_succ_cons, List.take_zero, List.drop_succ_cons, List.drop_zero, List.cons_append, List.nil_append, go_sem, Hold.p, HoldK.k, HoldL.K, HoldL.body, Nat.reduceBEq, Nat.reduceAdd, List.getElem?_cons_zero, List.getElem?_cons_succ, Option.bind_some, List.map_cons, List.map_nil, Nat.zero_add, if_true, List.getD_cons_zero, List.getD_cons_succ, List.contains_cons, List.contains_nil, Nat.reduceBEq, Bool.or_true, Bool.true_or, Bool.or_false, Bool.false_or, Bool.not_true, Bool.not_false, true_and, and_true, rowA_whole, push_n, set_n, push_obj, set_obj, set_push, set_push_ne, set_set, Nat.add_assoc, Nat.left_eq_add, Nat.add_eq_left, Nat.add_left_cancel_iff, Nat.reduceEqDiff, stO_1s, stO_ws, boxA_s, one_bool, one_int, one_str, one_ptr, one_nilptr, one_slice, one_eslice, one_nilslice, one_func, one_iface, one_niliface, List.all_cons, List.all_nil, List.length_cons, List.length_nil, Nat.reduceLT, Nat.reduceEqDiff, Nat.reduceLeDiff, Bool.and_true, Nat.one_ne_zero, Nat.succ_ne_zero, reduceIte, if_false, List.getElem?_cons_zero, List.set_cons_zero, List.set_cons_succ]
  generalize hq_q0 : IH.set k0 (h.n + 1 + 1) (IObj.rows [[IV.int .i64 action, IV.int .i64 dir, IV.int .i64 proto, IV.int .i64 sa, IV.int .i64 sb, IV.int .i64 sl, IV.int .i64 sh, IV.int .i64 0, IV.int .i64 0, IV.int .i64 0, IV.int .i64 0, IV.int .i64 0]] 80 12 false) = q0
  have l_q0 : q0.n = k0.n := by rw [← hq_q0]; rfl
  have b3 : At q0 (h.n + 1 + 1) (IObj.rows [[IV.int .i64 action, IV.int .i64 dir, IV.int .i64 proto, IV.int .i64 sa, IV.int .i64 sb, IV.int .i64 sl, IV.int .i64 sh, IV.int .i64 0, IV.int .i64 0, IV.int .i64 0, IV.int .i64 0, IV.int .i64 0]] 80 12 false) := by rw [← hq_q0]; exact b3.here
  have b1 := b1.set (p := h.n + 1 + 1) (o' := IObj.rows [[IV.int .i64 action, IV.int .i64 dir, IV.int .i64 proto, IV.int .i64 sa, IV.int .i64 sb, IV.int .i64 sl, IV.int .i64 sh, IV.int .i64 0, IV.int .i64 0, IV.int .i64 0, IV.int .i64 0, IV.int .i64 0]] 80 12 false) (by omega)
  rw [hq_q0] at b1
  have b2 := b2.set (p := h.n + 1 + 1) (o' := IObj.rows [[IV.int .i64 action, IV.int .i64 dir, IV.int .i64 proto, IV.int .i64 sa, IV.int .i64 sb, IV.int .i64 sl, IV.int .i64 sh, IV.int .i64 0, IV.int .i64 0, IV.int .i64 0, IV.int .i64 0, IV.int .i64 0]] 80 12 false) (by omega)
  rw [hq_q0] at b2
  have E := E.set (h.n + 1 + 1) (by omega) (IObj.rows [[IV.int .i64 action, IV.int .i64 dir, IV.int .i64 proto, IV.int .i64 sa, IV.int .i64 sb, IV.int .i64 sl, IV.int .i64 sh, IV.int .i64 0, IV.int .i64 0, IV.int .i64 0, IV.int .i64 0, IV.int .i64 0]] 80 12 false)
  rw [hq_q0] at E
  clear hq_q0
  refine callA_of (toPrefix_c _ da db) ?_
  rintro r k1 ⟨rfl, E1⟩
  have b1 := b1.ext E1
  have b2 := b2.ext E1
  have b3 := b3.ext E1
  have E := E.ext E1
  have le_E1 := E1.le
  simp only [hr3, hr7, l_g0, l_g1, b1.eq, b2.eq, b3.eq, n1, n2, stO_2s, List.take_succ_cons, List.take_zero, List.drop_succ_cons, List.drop_zero, List.cons_append, List.nil_append, go_sem, Hold.p, HoldK.k, HoldL.K, HoldL.body, Nat.reduceBEq, Nat.reduceAdd, List.getElem?_cons_zero, List.getElem?_cons_succ, Option.bind_some, List.map_cons, List.map_nil, Nat.zero_add, if_true, List.getD_cons_zero, List.getD_cons_succ, List.contains_cons, List.contains_nil, Nat.reduceBEq, Bool.or_true, Bool.true_or, Bool.or_false, Bool.false_or, Bool.not_true, Bool.not_false, true_and, and_true, rowA_whole, push_n, set_n, push_obj, set_obj, set_push, set_push_ne, set_set, Nat.add_assoc, Nat.left_eq_add, Nat.add_eq_left, Nat.add_left_cancel_iff, Nat.reduceEqDiff, stO_1s, stO_ws, boxA_s, one_bool, one_int, one_str, one_ptr, one_nilptr, one_slice, one_eslice, one_nilslice, one_func, one_iface, one_niliface, List.all_cons, List.all_nil, List.length_cons, List.length_nil, Nat.reduceLT, Nat.reduceEqDiff, Nat.reduceLeDiff, Bool.and_true, Nat.one_ne_zero, Nat.succ_ne_zero, reduceIte, if_false, List.getElem?_cons_zero, List.set_cons_zero, List.set_cons_succ]
  first | exact (E.set _ (by omega) _).set _ (by omega) _ | exact ⟨rfl, (E.set _ (by omega) _).set _ (by omega) _⟩

set_option maxRecDepth 20000 in
theorem eqRule_c (h : IH) (action dir proto sa sb sl sh da db dl dh state : Int) : ICalls Try.prog 94 [.agg [.int .i64 action, .int .i64 dir, .int .i64 proto, .int .i64 sa, .int .i64 sb, .int .i64 sl, .int .i64 sh, .int .i64 da, .int .i64 db, .int .i64 dl, .int .i64 dh, .int .i64 state], .agg [.int .i64 action, .int .i64 dir, .int .i64 proto, .int .i64 sa, .int .i64 sb, .int .i64 sl, .int .i64 sh, .int .i64 da, .int .i64 db, .int .i64 dl, .int .i64 dh, .int .i64 state]] h fun r h' => r = .bool true ∧ Ext h h' := by
  refine icalls (.of ok94) (Nat.le_of_ble_eq_true rfl) ?_
  unfold c94
  have hr3 : rowA (some [IV.int .i64 action, IV.int .i64 dir, IV.int .i64 proto, IV.int .i64 sa, IV.int .i64 sb, IV.int .i64 sl, IV.int .i64 sh, IV.int .i64 da, IV.int .i64 db, IV.int .i64 dl, IV.int .i64 dh, IV.int .i64 state]) 3 2 = some (.agg [.int .i64 sa, .int .i64 sb]) := rfl
  have hr7 : rowA (some [IV.int .i64 action, IV.int .i64 dir, IV.int .i64 proto, IV.int .i64 sa, IV.int .i64 sb, IV.int .i64 sl, IV.int .i64 sh, IV.int .i64 da, IV.int .i64 db, IV.int .i64 dl, IV.int .i64 dh, IV.int .i64 state]) 7 2 = some (.agg [.int .i64 da, .int .i64 db]) := rfl
  simp only [hr3, hr7, decide_true, go_sem, Hold.p, HoldK.k, HoldL.K, HoldL.body, Nat.reduceBEq, Nat.reduceAdd, List.getElem?_cons_zero, List.getElem?_cons_succ, Option.bind_some, List.map_cons, List.map_nil, Nat.zero_add, if_true, List.getD_cons_zero, List.getD_cons_succ, List.contains_cons, List.contains_nil, Nat.reduceBEq, Bool.or_true, Bool.true_or, Bool.or_false, Bool.false_or, Bool.not_true, Bool.not_false, true_and, and_true, rowA_whole, push_n, set_n, push_obj, set_obj, set_push, set_push_ne, set_set, Nat.add_assoc, Nat.left_eq_add, Nat.add_eq_left, Nat.add_left_cancel_iff, Nat.reduceEqDiff, stO_1s, stO_ws, boxA_s, one_bool, one_int, one_str, one_ptr, one_nilptr, one_slice, one_eslice, one_nilslice, one_func, one_iface, one_niliface, List.all_cons, List.all_nil, List.length_cons, List.length_nil, Nat.reduceLT, Nat.reduceEqDiff, Nat.reduceLeDiff, Bool.and_true, Nat.one_ne_zero, Nat.succ_ne_zero, reduceIte, if_false, List.getElem?_cons_zero, List.set_cons_zero, List.set_cons_succ]
  generalize hq_g0 : IH.push h (IObj.rows [[IV.int .i64 action, IV.int .i64 dir, IV.int .i64 proto, IV.int .i64 sa, IV.int .i64 sb, IV.int .i64 sl, IV.int .i64 sh, IV.int .i64 da, IV.int .i64 db, IV.int .i64 dl, IV.int .i64 dh, IV.int .i64 state]] 80 12 false) = g0
  have e_g0 : Ext h g0 := by rw [← hq_g0]; exact (Ext.refl _).push _
  have l_g0 : g0.n = h.n + 1 := by rw [← hq_g0]; rfl
  have b1 : At g0 h.n (IObj.rows [[IV.int .i64 action, IV.int .i64 dir, IV.int .i64 proto, IV.int .i64 sa, IV.int .i64 sb, IV.int .i64 sl, IV.int .i64 sh, IV.int .i64 da, IV.int .i64 db, IV.int .i64 dl, IV.int .i64 dh, IV.int .i64 state]] 80 12 false) := by rw [← hq_g0]; exact At.new _ _
  clear hq_g0
  generalize hq_g1 : IH.push g0 (IObj.rows [[IV.int .i64 action, IV.int .i64 dir, IV.int .i64 proto, IV.int .i64 sa, IV.int .i64 sb, IV.int .i64 sl, IV.int .i64 sh, IV.int .i64 da, IV.int .i64 db, IV.int .i64 dl, IV.int .i64 dh, IV.int .i64 state]] 80 12 false) = g1
  have e_g1 : Ext g0 g1 := by rw [← hq_g1]; exact (Ext.refl _).push _
  have l_g1 : g1.n = g0.n + 1 := by rw [← hq_g1]; rfl
  have b2 : At g1 g0.n (IObj.rows [[IV.int .i64 action, IV.int .i64 dir, IV.int .i64 proto, IV.int .i64 sa, IV.int .i64 sb, IV.int .i64 sl, IV.int .i64 sh, IV.int .i64 da, IV.int .i64 db, IV.int .i64 dl, IV.int .i64 dh, IV.int .i64 state]] 80 12 false) := by rw [← hq_g1]; exact At.new _ _
  clear hq_g1
  have b1 := b1.ext e_g1
  have E := e_g0.trans e_g1
  rw [l_g0] at b2
  refine callA_of (eqPrefix_c _ sa sb) ?_
  rintro r k0 ⟨rfl, E0⟩
  have b1 := b1.ext E0
  have b2 := b2.ext E0
  have E := E.ext E0
  have le_E0 := E0.le
  simp only [hr3, hr7, l_g0, b1.eq, b2.eq, decide_true, go_sem, Hold.p, HoldK.k, HoldL.K, HoldL.body, Nat.reduceBEq, Nat.reduceAdd, List.getElem?_cons_zero, List.getElem?_cons_succ, Option.bind_some, List.map_cons, List.map_nil, Nat.zero_add, if_true, List.getD_cons_zero, List.getD_cons_succ, List.contains_cons, List.contains_nil, Nat.reduceBEq, Bool.or_true, Bool.true_or, Bool.or_false, Bool.false_or, Bool.not_true, Bool.not_false, true_and, and_true, rowA_whole, push_n, set_n, push_obj, set_obj, set_push, set_push_ne, set_set, Nat.add_assoc, Nat.left_eq_add, Nat.add_eq_left, Nat.add_left_cancel_iff, Nat.reduceEqDiff, stO_1s, stO_ws, boxA_s, one_bool, one_int, one_str, one_ptr, one_nilptr, one_slice, one_eslice, one_nilslice, one_func, one_iface, one_niliface, List.all_cons, List.all_nil, List.length_cons, List.length_nil, Nat.reduceLT, Nat.reduceEqDiff, Nat.reduceLeDiff, Bool.and_true, Nat.one_ne_zero, Nat.succ_ne_zero, reduceIte, if_false, List.getElem?_cons_zero, List.set_cons_zero, List.set_cons_succ]
  refine callA_of (eqPrefix_c _ da db) ?_
  rintro r k1 ⟨rfl, E1⟩
  have b1 := b1.ext E1
  have b2 := b2.ext E1
  have E := E.ext E1
  have le_E1 := E1.le
  simp only [hr3, hr7, l_g0, b1.eq, b2.eq, decide_true, go_sem, Hold.p, HoldK.k, HoldL.K, HoldL.body, Nat.reduceBEq, Nat.reduceAdd, List.getElem?_cons_zero, List.getElem?_cons_succ, Option.bind_some, List.map_cons, List.map_nil, Nat.zero_add, if_true, List.getD_cons_zero, List.getD_cons_succ, List.contains_cons, List.contains_nil, Nat.reduceBEq, Bool.or_true, Bool.true_or, Bool.or_false, Bool.false_or, Bool.not_true, Bool.not_false, true_and, and_true, rowA_whole, push_n, set_n, push_obj, set_obj, set_push, set_push_ne, set_set, Nat.add_assoc, Nat.left_eq_add, Nat.add_eq_left, Nat.add_left_cancel_iff, Nat.reduceEqDiff, stO_1s, stO_ws, boxA_s, one_bool, one_int, one_str, one_ptr, one_nilptr, one_slice, one_eslice, one_nilslice, one_func, one_iface, one_niliface, List.all_cons, List.all_nil, List.length_cons, List.length_nil, Nat.reduceLT, Nat.reduceEqDiff, Nat.reduceLeDiff, Bool.and_true, Nat.one_ne_zero, Nat.succ_ne_zero, reduceIte, if_false, List.getElem?_cons_zero, List.set_cons_zero, List.set_cons_succ]
  exact E

set_option maxRecDepth 20000 in
theorem toRuleS_c (h : IH) (v : IV) (xs : List Rul) (hs : SlR h 12 v (Rul.rows xs)) (hm : xs.length ≤ 1048576) :
    ICalls Try.prog 36 [v] h fun r h' => Own h.n h'.n h' 80 12 r (Rul.rows xs) ∧ Ext h h' :=
  toS_calls (z := [IV.int .i64 0, IV.int .i64 0, IV.int .i64 0, IV.int .i64 0, IV.int .i64 0, IV.int .i64 0, IV.int .i64 0, IV.int .i64 0, IV.int .i64 0, IV.int .i64 0, IV.int .i64 0, IV.int .i64 0]) ok36 hs rfl Rul.rows_ok (by rw [Rul.rows_len]; omega) (by rw [Rul.rows_len]; omega) fun h r hr => by
    obtain ⟨x, _, rfl⟩ := Rul.rows_mem hr
    exact toRule_c h x.action x.dir x.proto x.sa x.sb x.sl x.sh x.da x.db x.dl x.dh x.state
set_option maxRecDepth 20000 in
theorem eqRuleS_c (h : IH) (v w : IV) (xs : List Rul) (hv : SlR h 12 v (Rul.rows xs)) (hw : SlR h 12 w (Rul.rows xs)) (hm : xs.length ≤ 1048576) :
    ICalls Try.prog 47 [v, w] h fun r h' => r = .bool true ∧ Ext h h' :=
  eqS_calls ok47 hv hw (fun r hr => (Rul.rows_ok r hr).1) (by rw [Rul.rows_len]; omega) fun h r hr => by
    obtain ⟨x, _, rfl⟩ := Rul.rows_mem hr
    exact eqRule_c h x.action x.dir x.proto x.sa x.sb x.sl x.sh x.da x.db x.dl x.dh x.state
set_option maxRecDepth 20000 in
theorem szRuleS_c (h : IH) (v : IV) (xs : List Rul) (left : Int) (hs : SlR h 12 v (Rul.rows xs)) (hl : 0 ≤ left ∧ left ≤ 1048576) (hz : xs.length ≤ maxLen) :
    ICalls Try.prog 28 [v, .int .i64 left] h fun x h' => Szd left x (xs.length ≤ left) ∧ h' = h := by
  have := szL_calls ok28 hs (by rw [Rul.rows_len]; exact hz) hl
  rw [Rul.rows_len] at this
  exact this

end Go.Proofs.Ytcmcfmgabafljaa

namespace Go.Proofs.Ytcmcfmgabafljaa
open Go Go.IW

/-- A host's set-up: lists and the rest. -/
structure Cfg where
  ls : List Lnk
  rs : List Rte
  us : List Rul
  fl : Bool
  fw : Bool
  se : Int

set_option maxRecDepth 20000 in
theorem szHostConfig_c (h : IH) (v1 v2 v3 : IV) (c : Cfg) (h1 : SlR h 5 v1 (Lnk.rows c.ls)) (h2 : SlR h 5 v2 (Rte.rows c.rs)) (h3 : SlR h 12 v3 (Rul.rows c.us)) (m1 : c.ls.length ≤ maxLen) (m2 : c.rs.length ≤ maxLen) (m3 : c.us.length ≤ maxLen) :
    ICalls Try.prog 6 [.agg [v1, v2, v3, .bool c.fl, .bool c.fw, .int .i64 c.se], .int .i64 1048576] h fun x h' => Szd 1048576 x (c.ls.length ≤ 1048576 ∧ c.rs.length ≤ 1048576 ∧ c.us.length ≤ 1048576) ∧ Ext h h' := by
  refine icalls (.of ok6) (Nat.le_of_ble_eq_true rfl) ?_
  unfold c6
  have o1 := h1.one
  have o2 := h2.one
  have o3 := h3.one
  have p1 := h1.cells
  have p2 := h2.cells
  have p3 := h3.cells
  simp only [o1, o2, o3, go_sem, Hold.p, HoldK.k, HoldL.K, HoldL.body, Nat.reduceBEq, Nat.reduceAdd, List.getElem?_cons_zero, List.getElem?_cons_succ, Option.bind_some, List.map_cons, List.map_nil, Nat.zero_add, if_true, List.getD_cons_zero, List.getD_cons_succ, List.contains_cons, List.contains_nil, Nat.reduceBEq, Bool.or_true, Bool.true_or, Bool.or_false, Bool.false_or, Bool.not_true, Bool.not_false, true_and, and_true, rowA_whole, push_n, set_n, push_obj, set_obj, set_push, set_push_ne, set_set, Nat.add_assoc, Nat.left_eq_add, Nat.add_eq_left, Nat.add_left_cancel_iff, Nat.reduceEqDiff, stO_1s, stO_ws, boxA_s, one_bool, one_int, one_str, one_ptr, one_nilptr, one_slice, one_eslice, one_nilslice, one_func, one_iface, one_niliface, List.all_cons, List.all_nil, List.length_cons, List.length_nil, Nat.reduceLT, Nat.reduceEqDiff, Nat.reduceLeDiff, Bool.and_true, Nat.one_ne_zero, Nat.succ_ne_zero, reduceIte, if_false, List.getElem?_cons_zero, List.set_cons_zero, List.set_cons_succ]
  generalize hq_g0 : IH.push h (IObj.rows [[v1, v2, v3, IV.bool c.fl, IV.bool c.fw, IV.int .i64 c.se]] 26 6 false) = g0
  have e_g0 : Ext h g0 := by rw [← hq_g0]; exact (Ext.refl _).push _
  have l_g0 : g0.n = h.n + 1 := by rw [← hq_g0]; rfl
  have bb : At g0 h.n (IObj.rows [[v1, v2, v3, IV.bool c.fl, IV.bool c.fw, IV.int .i64 c.se]] 26 6 false) := by rw [← hq_g0]; exact At.new _ _
  clear hq_g0
  have h1 := h1.ext e_g0
  have h2 := h2.ext e_g0
  have h3 := h3.ext e_g0
  try simp only [bb.eq, go_sem, Hold.p, HoldK.k, HoldL.K, HoldL.body, Nat.reduceBEq, Nat.reduceAdd, List.getElem?_cons_zero, List.getElem?_cons_succ, Option.bind_some, List.map_cons, List.map_nil, Nat.zero_add, if_true, List.getD_cons_zero, List.getD_cons_succ, List.contains_cons, List.contains_nil, Nat.reduceBEq, Bool.or_true, Bool.true_or, Bool.or_false, Bool.false_or, Bool.not_true, Bool.not_false, true_and, and_true, rowA_whole, push_n, set_n, push_obj, set_obj, set_push, set_push_ne, set_set, Nat.add_assoc, Nat.left_eq_add, Nat.add_eq_left, Nat.add_left_cancel_iff, Nat.reduceEqDiff, stO_1s, stO_ws, boxA_s, one_bool, one_int, one_str, one_ptr, one_nilptr, one_slice, one_eslice, one_nilslice, one_func, one_iface, one_niliface, List.all_cons, List.all_nil, List.length_cons, List.length_nil, Nat.reduceLT, Nat.reduceEqDiff, Nat.reduceLeDiff, Bool.and_true, Nat.one_ne_zero, Nat.succ_ne_zero, reduceIte, if_false, List.getElem?_cons_zero, List.set_cons_zero, List.set_cons_succ]
  refine callA_of (szHostLinkS_c _ v1 c.ls 1048576 h1 (by omega) m1) ?_
  rintro r g1 ⟨⟨L1, rfl, q1, q2⟩, rfl⟩
  by_cases n1 : L1 < 0
  · have d1 : decide (L1 < 0) = true := decide_eq_true n1
    simp only [d1, go_sem, Hold.p, HoldK.k, HoldL.K, HoldL.body, Nat.reduceBEq, Nat.reduceAdd, List.getElem?_cons_zero, List.getElem?_cons_succ, Option.bind_some, List.map_cons, List.map_nil, Nat.zero_add, if_true, List.getD_cons_zero, List.getD_cons_succ, List.contains_cons, List.contains_nil, Nat.reduceBEq, Bool.or_true, Bool.true_or, Bool.or_false, Bool.false_or, Bool.not_true, Bool.not_false, true_and, and_true, rowA_whole, push_n, set_n, push_obj, set_obj, set_push, set_push_ne, set_set, Nat.add_assoc, Nat.left_eq_add, Nat.add_eq_left, Nat.add_left_cancel_iff, Nat.reduceEqDiff, stO_1s, stO_ws, boxA_s, one_bool, one_int, one_str, one_ptr, one_nilptr, one_slice, one_eslice, one_nilslice, one_func, one_iface, one_niliface, List.all_cons, List.all_nil, List.length_cons, List.length_nil, Nat.reduceLT, Nat.reduceEqDiff, Nat.reduceLeDiff, Bool.and_true, Nat.one_ne_zero, Nat.succ_ne_zero, reduceIte, if_false, List.getElem?_cons_zero, List.set_cons_zero, List.set_cons_succ]
    exact ⟨⟨-1, rfl, by omega, fun hx => by omega⟩, e_g0⟩
  have d1 : decide (L1 < 0) = false := decide_eq_false n1
  simp only [d1, bb.eq, go_sem, Hold.p, HoldK.k, HoldL.K, HoldL.body, Nat.reduceBEq, Nat.reduceAdd, List.getElem?_cons_zero, List.getElem?_cons_succ, Option.bind_some, List.map_cons, List.map_nil, Nat.zero_add, if_true, List.getD_cons_zero, List.getD_cons_succ, List.contains_cons, List.contains_nil, Nat.reduceBEq, Bool.or_true, Bool.true_or, Bool.or_false, Bool.false_or, Bool.not_true, Bool.not_false, true_and, and_true, rowA_whole, push_n, set_n, push_obj, set_obj, set_push, set_push_ne, set_set, Nat.add_assoc, Nat.left_eq_add, Nat.add_eq_left, Nat.add_left_cancel_iff, Nat.reduceEqDiff, stO_1s, stO_ws, boxA_s, one_bool, one_int, one_str, one_ptr, one_nilptr, one_slice, one_eslice, one_nilslice, one_func, one_iface, one_niliface, List.all_cons, List.all_nil, List.length_cons, List.length_nil, Nat.reduceLT, Nat.reduceEqDiff, Nat.reduceLeDiff, Bool.and_true, Nat.one_ne_zero, Nat.succ_ne_zero, reduceIte, if_false, List.getElem?_cons_zero, List.set_cons_zero, List.set_cons_succ]
  refine callA_of (szRouteS_c _ v2 c.rs L1 h2 (by omega) m2) ?_
  rintro r g2 ⟨⟨L2, rfl, q3, q4⟩, rfl⟩
  by_cases n2 : L2 < 0
  · have d2 : decide (L2 < 0) = true := decide_eq_true n2
    simp only [d2, go_sem, Hold.p, HoldK.k, HoldL.K, HoldL.body, Nat.reduceBEq, Nat.reduceAdd, List.getElem?_cons_zero, List.getElem?_cons_succ, Option.bind_some, List.map_cons, List.map_nil, Nat.zero_add, if_true, List.getD_cons_zero, List.getD_cons_succ, List.contains_cons, List.contains_nil, Nat.reduceBEq, Bool.or_true, Bool.true_or, Bool.or_false, Bool.false_or, Bool.not_true, Bool.not_false, true_and, and_true, rowA_whole, push_n, set_n, push_obj, set_obj, set_push, set_push_ne, set_set, Nat.add_assoc, Nat.left_eq_add, Nat.add_eq_left, Nat.add_left_cancel_iff, Nat.reduceEqDiff, stO_1s, stO_ws, boxA_s, one_bool, one_int, one_str, one_ptr, one_nilptr, one_slice, one_eslice, one_nilslice, one_func, one_iface, one_niliface, List.all_cons, List.all_nil, List.length_cons, List.length_nil, Nat.reduceLT, Nat.reduceEqDiff, Nat.reduceLeDiff, Bool.and_true, Nat.one_ne_zero, Nat.succ_ne_zero, reduceIte, if_false, List.getElem?_cons_zero, List.set_cons_zero, List.set_cons_succ]
    exact ⟨⟨-1, rfl, by omega, fun hx => by omega⟩, e_g0⟩
  have d2 : decide (L2 < 0) = false := decide_eq_false n2
  simp only [d2, bb.eq, go_sem, Hold.p, HoldK.k, HoldL.K, HoldL.body, Nat.reduceBEq, Nat.reduceAdd, List.getElem?_cons_zero, List.getElem?_cons_succ, Option.bind_some, List.map_cons, List.map_nil, Nat.zero_add, if_true, List.getD_cons_zero, List.getD_cons_succ, List.contains_cons, List.contains_nil, Nat.reduceBEq, Bool.or_true, Bool.true_or, Bool.or_false, Bool.false_or, Bool.not_true, Bool.not_false, true_and, and_true, rowA_whole, push_n, set_n, push_obj, set_obj, set_push, set_push_ne, set_set, Nat.add_assoc, Nat.left_eq_add, Nat.add_eq_left, Nat.add_left_cancel_iff, Nat.reduceEqDiff, stO_1s, stO_ws, boxA_s, one_bool, one_int, one_str, one_ptr, one_nilptr, one_slice, one_eslice, one_nilslice, one_func, one_iface, one_niliface, List.all_cons, List.all_nil, List.length_cons, List.length_nil, Nat.reduceLT, Nat.reduceEqDiff, Nat.reduceLeDiff, Bool.and_true, Nat.one_ne_zero, Nat.succ_ne_zero, reduceIte, if_false, List.getElem?_cons_zero, List.set_cons_zero, List.set_cons_succ]
  refine callA_of (szRuleS_c _ v3 c.us L2 h3 (by omega) m3) ?_
  rintro r g3 ⟨⟨L3, rfl, q5, q6⟩, rfl⟩
  by_cases n3 : L3 < 0
  · have d3 : decide (L3 < 0) = true := decide_eq_true n3
    simp only [d3, go_sem, Hold.p, HoldK.k, HoldL.K, HoldL.body, Nat.reduceBEq, Nat.reduceAdd, List.getElem?_cons_zero, List.getElem?_cons_succ, Option.bind_some, List.map_cons, List.map_nil, Nat.zero_add, if_true, List.getD_cons_zero, List.getD_cons_succ, List.contains_cons, List.contains_nil, Nat.reduceBEq, Bool.or_true, Bool.true_or, Bool.or_false, Bool.false_or, Bool.not_true, Bool.not_false, true_and, and_true, rowA_whole, push_n, set_n, push_obj, set_obj, set_push, set_push_ne, set_set, Nat.add_assoc, Nat.left_eq_add, Nat.add_eq_left, Nat.add_left_cancel_iff, Nat.reduceEqDiff, stO_1s, stO_ws, boxA_s, one_bool, one_int, one_str, one_ptr, one_nilptr, one_slice, one_eslice, one_nilslice, one_func, one_iface, one_niliface, List.all_cons, List.all_nil, List.length_cons, List.length_nil, Nat.reduceLT, Nat.reduceEqDiff, Nat.reduceLeDiff, Bool.and_true, Nat.one_ne_zero, Nat.succ_ne_zero, reduceIte, if_false, List.getElem?_cons_zero, List.set_cons_zero, List.set_cons_succ]
    exact ⟨⟨-1, rfl, by omega, fun hx => by omega⟩, e_g0⟩
  have d3 : decide (L3 < 0) = false := decide_eq_false n3
  simp only [d3, bb.eq, go_sem, Hold.p, HoldK.k, HoldL.K, HoldL.body, Nat.reduceBEq, Nat.reduceAdd, List.getElem?_cons_zero, List.getElem?_cons_succ, Option.bind_some, List.map_cons, List.map_nil, Nat.zero_add, if_true, List.getD_cons_zero, List.getD_cons_succ, List.contains_cons, List.contains_nil, Nat.reduceBEq, Bool.or_true, Bool.true_or, Bool.or_false, Bool.false_or, Bool.not_true, Bool.not_false, true_and, and_true, rowA_whole, push_n, set_n, push_obj, set_obj, set_push, set_push_ne, set_set, Nat.add_assoc, Nat.left_eq_add, Nat.add_eq_left, Nat.add_left_cancel_iff, Nat.reduceEqDiff, stO_1s, stO_ws, boxA_s, one_bool, one_int, one_str, one_ptr, one_nilptr, one_slice, one_eslice, one_nilslice, one_func, one_iface, one_niliface, List.all_cons, List.all_nil, List.length_cons, List.length_nil, Nat.reduceLT, Nat.reduceEqDiff, Nat.reduceLeDiff, Bool.and_true, Nat.one_ne_zero, Nat.succ_ne_zero, reduceIte, if_false, List.getElem?_cons_zero, List.set_cons_zero, List.set_cons_succ]
  have k1 := q2 (by omega)
  have k2 := q4 (by omega)
  have k3 := q6 (by omega)
  exact ⟨⟨_, rfl, by omega, fun _ => ⟨by omega, by omega, by omega⟩⟩, e_g0⟩

/-- A set-up's own copy. -/
def CfgOwn (lo hi : Nat) (h : IH) (v1 v2 v3 : IV) (c : Cfg) : Prop := Own lo hi h 73 5 v1 (Lnk.rows c.ls) ∧ Own lo hi h 75 5 v2 (Rte.rows c.rs) ∧ Own lo hi h 80 12 v3 (Rul.rows c.us)
theorem CfgOwn.ext {lo hi : Nat} {h h' : IH} {v1 v2 v3 : IV} {c : Cfg} (o : CfgOwn lo hi h v1 v2 v3 c) (e : Ext h h') : CfgOwn lo hi h' v1 v2 v3 c := ⟨o.1.ext e, o.2.1.ext e, o.2.2.ext e⟩

set_option maxRecDepth 20000 in
theorem toHostConfig_c (h : IH) (v1 v2 v3 : IV) (c : Cfg) (h1 : SlR h 5 v1 (Lnk.rows c.ls)) (h2 : SlR h 5 v2 (Rte.rows c.rs)) (h3 : SlR h 12 v3 (Rul.rows c.us)) (m1 : c.ls.length ≤ 1048576) (m2 : c.rs.length ≤ 1048576) (m3 : c.us.length ≤ 1048576) :
    ICalls Try.prog 8 [.agg [v1, v2, v3, .bool c.fl, .bool c.fw, .int .i64 c.se]] h fun r h' => ∃ w1 w2 w3, r = .agg [w1, w2, w3, .bool c.fl, .bool c.fw, .int .i64 c.se] ∧ CfgOwn h.n h'.n h' w1 w2 w3 c ∧ Ext h h' := by
  refine icalls (.of ok8) (Nat.le_of_ble_eq_true rfl) ?_
  unfold c8
  have o1 := h1.one
  have o2 := h2.one
  have o3 := h3.one
  have p1 := h1.cells
  have p2 := h2.cells
  have p3 := h3.cells
  simp only [o1, o2, o3, go_sem, Hold.p, HoldK.k, HoldL.K, HoldL.body, Nat.reduceBEq, Nat.reduceAdd, List.getElem?_cons_zero, List.getElem?_cons_succ, Option.bind_some, List.map_cons, List.map_nil, Nat.zero_add, if_true, List.getD_cons_zero, List.getD_cons_succ, List.contains_cons, List.contains_nil, Nat.reduceBEq, Bool.or_true, Bool.true_or, Bool.or_false, Bool.false_or, Bool.not_true, Bool.not_false, true_and, and_true, rowA_whole, push_n, set_n, push_obj, set_obj, set_push, set_push_ne, set_set, Nat.add_assoc, Nat.left_eq_add, Nat.add_eq_left, Nat.add_left_cancel_iff, Nat.reduceEqDiff, stO_1s, stO_ws, boxA_s, one_bool, one_int, one_str, one_ptr, one_nilptr, one_slice, one_eslice, one_nilslice, one_func, one_iface, one_niliface, List.all_cons, List.all_nil, List.length_cons, List.length_nil, Nat.reduceLT, Nat.reduceEqDiff, Nat.reduceLeDiff, Bool.and_true, Nat.one_ne_zero, Nat.succ_ne_zero, reduceIte, if_false, List.getElem?_cons_zero, List.set_cons_zero, List.set_cons_succ]
  generalize hq_g0 : IH.push h (IObj.rows [[v1, v2, v3, IV.bool c.fl, IV.bool c.fw, IV.int .i64 c.se]] 26 6 false) = g0
  have e_g0 : Ext h g0 := by rw [← hq_g0]; exact (Ext.refl _).push _
  have l_g0 : g0.n = h.n + 1 := by rw [← hq_g0]; rfl
  have b1 : At g0 h.n (IObj.rows [[v1, v2, v3, IV.bool c.fl, IV.bool c.fw, IV.int .i64 c.se]] 26 6 false) := by rw [← hq_g0]; exact At.new _ _
  clear hq_g0
  have h1 := h1.ext e_g0
  have h2 := h2.ext e_g0
  have h3 := h3.ext e_g0
  generalize hq_g1 : IH.push g0 (IObj.rows [[IV.nilslice, IV.nilslice, IV.nilslice, IV.bool false, IV.bool false, IV.int .i64 0]] 33 6 false) = g1
  have e_g1 : Ext g0 g1 := by rw [← hq_g1]; exact (Ext.refl _).push _
  have l_g1 : g1.n = g0.n + 1 := by rw [← hq_g1]; rfl
  have b2 : At g1 g0.n (IObj.rows [[IV.nilslice, IV.nilslice, IV.nilslice, IV.bool false, IV.bool false, IV.int .i64 0]] 33 6 false) := by rw [← hq_g1]; exact At.new _ _
  clear hq_g1
  have h1 := h1.ext e_g1
  have h2 := h2.ext e_g1
  have h3 := h3.ext e_g1
  have b1 := b1.ext e_g1
  generalize hq_g2 : IH.push g1 (IObj.rows [[IV.nilslice, IV.nilslice, IV.nilslice, IV.bool false, IV.bool false, IV.int .i64 0]] 33 6 false) = g2
  have e_g2 : Ext g1 g2 := by rw [← hq_g2]; exact (Ext.refl _).push _
  have l_g2 : g2.n = g1.n + 1 := by rw [← hq_g2]; rfl
  have b3 : At g2 g1.n (IObj.rows [[IV.nilslice, IV.nilslice, IV.nilslice, IV.bool false, IV.bool false, IV.int .i64 0]] 33 6 false) := by rw [← hq_g2]; exact At.new _ _
  clear hq_g2
  have h1 := h1.ext e_g2
  have h2 := h2.ext e_g2
  have h3 := h3.ext e_g2
  have b1 := b1.ext e_g2
  have b2 := b2.ext e_g2
  have E := (e_g0.trans e_g1).trans e_g2
  rw [l_g0] at b2
  rw [l_g1, l_g0] at b3
  have b3 : At g2 (h.n + 2) (IObj.rows [[IV.nilslice, IV.nilslice, IV.nilslice, IV.bool false, IV.bool false, IV.int .i64 0]] 33 6 false) := b3
  have n1 : (h.n = h.n + 2) = False := by simp
  have n2 : (h.n + 1 = h.n + 2) = False := by simp
  refine callA_of (toHostLinkS_c _ v1 c.ls h1 m1) ?_
  rintro w1 k1 ⟨x1, E1⟩
  have h2 := h2.ext E1
  have h3 := h3.ext E1
  have b1 := b1.ext E1
  have b2 := b2.ext E1
  have b3 := b3.ext E1
  have E := E.ext E1
  have le_E1 := E1.le
  have y1 := x1.sl.one
  have z1 := x1.sl.cells
  have hl2 := h2.lt
  have hl3 := h3.lt
  simp only [l_g0, l_g1, b1.eq, b2.eq, b3.eq, n1, n2, y1, z1, go_sem, Hold.p, HoldK.k, HoldL.K, HoldL.body, Nat.reduceBEq, Nat.reduceAdd, List.getElem?_cons_zero, List.getElem?_cons_succ, Option.bind_some, List.map_cons, List.map_nil, Nat.zero_add, if_true, List.getD_cons_zero, List.getD_cons_succ, List.contains_cons, List.contains_nil, Nat.reduceBEq, Bool.or_true, Bool.true_or, Bool.or_false, Bool.false_or, Bool.not_true, Bool.not_false, true_and, and_true, rowA_whole, push_n, set_n, push_obj, set_obj, set_push, set_push_ne, set_set, Nat.add_assoc, Nat.left_eq_add, Nat.add_eq_left, Nat.add_left_cancel_iff, Nat.reduceEqDiff, stO_1s, stO_ws, boxA_s, one_bool, one_int, one_str, one_ptr, one_nilptr, one_slice, one_eslice, one_nilslice, one_func, one_iface, one_niliface, List.all_cons, List.all_nil, List.length_cons, List.length_nil, Nat.reduceLT, Nat.reduceEqDiff, Nat.reduceLeDiff, Bool.and_true, Nat.one_ne_zero, Nat.succ_ne_zero, reduceIte, if_false, List.getElem?_cons_zero, List.set_cons_zero, List.set_cons_succ]
  have h2' := h2.but ((But.refl (h.n + 2) .nilslice k1).set (IObj.rows [[w1, IV.nilslice, IV.nilslice, IV.bool false, IV.bool false, IV.int .i64 0]] 33 6 false)) b3.eq (by decide)
  have h3' := h3.but ((But.refl (h.n + 2) .nilslice k1).set (IObj.rows [[w1, IV.nilslice, IV.nilslice, IV.bool false, IV.bool false, IV.int .i64 0]] 33 6 false)) b3.eq (by decide)
  generalize hq_j1 : IH.set k1 (h.n + 2) (IObj.rows [[w1, IV.nilslice, IV.nilslice, IV.bool false, IV.bool false, IV.int .i64 0]] 33 6 false) = j1
  have l_j1 : j1.n = k1.n := by rw [← hq_j1]; rfl
  have b3 : At j1 (h.n + 2) (IObj.rows [[w1, IV.nilslice, IV.nilslice, IV.bool false, IV.bool false, IV.int .i64 0]] 33 6 false) := by rw [← hq_j1]; exact b3.here
  have x1 := x1.set (m := h.n + 2) (by omega) (IObj.rows [[w1, IV.nilslice, IV.nilslice, IV.bool false, IV.bool false, IV.int .i64 0]] 33 6 false)
  rw [hq_j1] at x1
  have b1 := b1.set (p := h.n + 2) (o' := IObj.rows [[w1, IV.nilslice, IV.nilslice, IV.bool false, IV.bool false, IV.int .i64 0]] 33 6 false) (by omega)
  rw [hq_j1] at b1
  have b2 := b2.set (p := h.n + 2) (o' := IObj.rows [[w1, IV.nilslice, IV.nilslice, IV.bool false, IV.bool false, IV.int .i64 0]] 33 6 false) (by omega)
  rw [hq_j1] at b2
  have E := E.set (h.n + 2) (by omega) (IObj.rows [[w1, IV.nilslice, IV.nilslice, IV.bool false, IV.bool false, IV.int .i64 0]] 33 6 false)
  rw [hq_j1] at E
  rw [hq_j1] at h2'
  rw [hq_j1] at h3'
  clear hq_j1
  refine callA_of (toRouteS_c _ v2 c.rs h2' m2) ?_
  rintro w2 k2 ⟨x2, E2⟩
  have h3' := h3'.ext E2
  have b1 := b1.ext E2
  have b2 := b2.ext E2
  have b3 := b3.ext E2
  have E := E.ext E2
  have x1 := x1.ext E2
  have le_E2 := E2.le
  have y2 := x2.sl.one
  have z2 := x2.sl.cells
  simp only [l_g0, l_g1, b1.eq, b2.eq, b3.eq, n1, n2, y1, z1, y2, z2, go_sem, Hold.p, HoldK.k, HoldL.K, HoldL.body, Nat.reduceBEq, Nat.reduceAdd, List.getElem?_cons_zero, List.getElem?_cons_succ, Option.bind_some, List.map_cons, List.map_nil, Nat.zero_add, if_true, List.getD_cons_zero, List.getD_cons_succ, List.contains_cons, List.contains_nil, Nat.reduceBEq, Bool.or_true, Bool.true_or, Bool.or_false, Bool.false_or, Bool.not_true, Bool.not_false, true_and, and_true, rowA_whole, push_n, set_n, push_obj, set_obj, set_push, set_push_ne, set_set, Nat.add_assoc, Nat.left_eq_add, Nat.add_eq_left, Nat.add_left_cancel_iff, Nat.reduceEqDiff, stO_1s, stO_ws, boxA_s, one_bool, one_int, one_str, one_ptr, one_nilptr, one_slice, one_eslice, one_nilslice, one_func, one_iface, one_niliface, List.all_cons, List.all_nil, List.length_cons, List.length_nil, Nat.reduceLT, Nat.reduceEqDiff, Nat.reduceLeDiff, Bool.and_true, Nat.one_ne_zero, Nat.succ_ne_zero, reduceIte, if_false, List.getElem?_cons_zero, List.set_cons_zero, List.set_cons_succ]
  have h3'' := h3'.but ((But.refl (h.n + 2) .nilslice k2).set (IObj.rows [[w1, w2, IV.nilslice, IV.bool false, IV.bool false, IV.int .i64 0]] 33 6 false)) b3.eq (by decide)
  generalize hq_j2 : IH.set k2 (h.n + 2) (IObj.rows [[w1, w2, IV.nilslice, IV.bool false, IV.bool false, IV.int .i64 0]] 33 6 false) = j2
  have l_j2 : j2.n = k2.n := by rw [← hq_j2]; rfl
  have b3 : At j2 (h.n + 2) (IObj.rows [[w1, w2, IV.nilslice, IV.bool false, IV.bool false, IV.int .i64 0]] 33 6 false) := by rw [← hq_j2]; exact b3.here
  have x1 := x1.set (m := h.n + 2) (by omega) (IObj.rows [[w1, w2, IV.nilslice, IV.bool false, IV.bool false, IV.int .i64 0]] 33 6 false)
  rw [hq_j2] at x1
  have x2 := x2.set (m := h.n + 2) (by omega) (IObj.rows [[w1, w2, IV.nilslice, IV.bool false, IV.bool false, IV.int .i64 0]] 33 6 false)
  rw [hq_j2] at x2
  have b1 := b1.set (p := h.n + 2) (o' := IObj.rows [[w1, w2, IV.nilslice, IV.bool false, IV.bool false, IV.int .i64 0]] 33 6 false) (by omega)
  rw [hq_j2] at b1
  have b2 := b2.set (p := h.n + 2) (o' := IObj.rows [[w1, w2, IV.nilslice, IV.bool false, IV.bool false, IV.int .i64 0]] 33 6 false) (by omega)
  rw [hq_j2] at b2
  have E := E.set (h.n + 2) (by omega) (IObj.rows [[w1, w2, IV.nilslice, IV.bool false, IV.bool false, IV.int .i64 0]] 33 6 false)
  rw [hq_j2] at E
  rw [hq_j2] at h3''
  clear hq_j2
  refine callA_of (toRuleS_c _ v3 c.us h3'' m3) ?_
  rintro w3 k3 ⟨x3, E3⟩
  have b1 := b1.ext E3
  have b2 := b2.ext E3
  have b3 := b3.ext E3
  have E := E.ext E3
  have x1 := x1.ext E3
  have x2 := x2.ext E3
  have le_E3 := E3.le
  have y3 := x3.sl.one
  have z3 := x3.sl.cells
  simp only [l_g0, l_g1, b1.eq, b2.eq, b3.eq, n1, n2, y1, z1, y2, z2, y3, z3, go_sem, Hold.p, HoldK.k, HoldL.K, HoldL.body, Nat.reduceBEq, Nat.reduceAdd, List.getElem?_cons_zero, List.getElem?_cons_succ, Option.bind_some, List.map_cons, List.map_nil, Nat.zero_add, if_true, List.getD_cons_zero, List.getD_cons_succ, List.contains_cons, List.contains_nil, Nat.reduceBEq, Bool.or_true, Bool.true_or, Bool.or_false, Bool.false_or, Bool.not_true, Bool.not_false, true_and, and_true, rowA_whole, push_n, set_n, push_obj, set_obj, set_push, set_push_ne, set_set, Nat.add_assoc, Nat.left_eq_add, Nat.add_eq_left, Nat.add_left_cancel_iff, Nat.reduceEqDiff, stO_1s, stO_ws, boxA_s, one_bool, one_int, one_str, one_ptr, one_nilptr, one_slice, one_eslice, one_nilslice, one_func, one_iface, one_niliface, List.all_cons, List.all_nil, List.length_cons, List.length_nil, Nat.reduceLT, Nat.reduceEqDiff, Nat.reduceLeDiff, Bool.and_true, Nat.one_ne_zero, Nat.succ_ne_zero, reduceIte, if_false, List.getElem?_cons_zero, List.set_cons_zero, List.set_cons_succ]
  refine ⟨w1, w2, w3, rfl, ?_, (E.set _ (by omega) _).set _ (by omega) _⟩
  refine ⟨?_, ?_, ?_⟩
  · exact ((Own.set (m := h.n + 1) (Own.set (m := h.n + 2) x1 (by omega) _) (by omega) _).wide (by omega) (by first | omega | (simp only [set_n, push_n, put_n] at *; omega)) (Nat.le_refl _))
  · exact ((Own.set (m := h.n + 1) (Own.set (m := h.n + 2) x2 (by omega) _) (by omega) _).wide (by omega) (by first | omega | (simp only [set_n, push_n, put_n] at *; omega)) (Nat.le_refl _))
  · exact ((Own.set (m := h.n + 1) (Own.set (m := h.n + 2) x3 (by omega) _) (by omega) _).wide (by omega) (by first | omega | (simp only [set_n, push_n, put_n] at *; omega)) (Nat.le_refl _))

set_option maxRecDepth 20000 in
theorem eqHostConfig_c (h : IH) (v1 v2 v3 w1 w2 w3 : IV) (c : Cfg) (h1 : SlR h 5 v1 (Lnk.rows c.ls)) (h2 : SlR h 5 v2 (Rte.rows c.rs)) (h3 : SlR h 12 v3 (Rul.rows c.us))
    (k1 : SlR h 5 w1 (Lnk.rows c.ls)) (k2 : SlR h 5 w2 (Rte.rows c.rs)) (k3 : SlR h 12 w3 (Rul.rows c.us)) (m1 : c.ls.length ≤ 1048576) (m2 : c.rs.length ≤ 1048576) (m3 : c.us.length ≤ 1048576) :
    ICalls Try.prog 10 [.agg [v1, v2, v3, .bool c.fl, .bool c.fw, .int .i64 c.se], .agg [w1, w2, w3, .bool c.fl, .bool c.fw, .int .i64 c.se]] h fun r h' => r = .bool true ∧ Ext h h' := by
  refine icalls (.of ok10) (Nat.le_of_ble_eq_true rfl) ?_
  unfold c10
  have o1 := h1.one
  have o2 := h2.one
  have o3 := h3.one
  have p1 := k1.one
  have p2 := k2.one
  have p3 := k3.one
  simp only [o1, o2, o3, p1, p2, p3, go_sem, Hold.p, HoldK.k, HoldL.K, HoldL.body, Nat.reduceBEq, Nat.reduceAdd, List.getElem?_cons_zero, List.getElem?_cons_succ, Option.bind_some, List.map_cons, List.map_nil, Nat.zero_add, if_true, List.getD_cons_zero, List.getD_cons_succ, List.contains_cons, List.contains_nil, Nat.reduceBEq, Bool.or_true, Bool.true_or, Bool.or_false, Bool.false_or, Bool.not_true, Bool.not_false, true_and, and_true, rowA_whole, push_n, set_n, push_obj, set_obj, set_push, set_push_ne, set_set, Nat.add_assoc, Nat.left_eq_add, Nat.add_eq_left, Nat.add_left_cancel_iff, Nat.reduceEqDiff, stO_1s, stO_ws, boxA_s, one_bool, one_int, one_str, one_ptr, one_nilptr, one_slice, one_eslice, one_nilslice, one_func, one_iface, one_niliface, List.all_cons, List.all_nil, List.length_cons, List.length_nil, Nat.reduceLT, Nat.reduceEqDiff, Nat.reduceLeDiff, Bool.and_true, Nat.one_ne_zero, Nat.succ_ne_zero, reduceIte, if_false, List.getElem?_cons_zero, List.set_cons_zero, List.set_cons_succ]
  generalize hq_g0 : IH.push h (IObj.rows [[v1, v2, v3, IV.bool c.fl, IV.bool c.fw, IV.int .i64 c.se]] 33 6 false) = g0
  have e_g0 : Ext h g0 := by rw [← hq_g0]; exact (Ext.refl _).push _
  have l_g0 : g0.n = h.n + 1 := by rw [← hq_g0]; rfl
  have b1 : At g0 h.n (IObj.rows [[v1, v2, v3, IV.bool c.fl, IV.bool c.fw, IV.int .i64 c.se]] 33 6 false) := by rw [← hq_g0]; exact At.new _ _
  clear hq_g0
  have h1 := h1.ext e_g0
  have h2 := h2.ext e_g0
  have h3 := h3.ext e_g0
  have k1 := k1.ext e_g0
  have k2 := k2.ext e_g0
  have k3 := k3.ext e_g0
  generalize hq_g1 : IH.push g0 (IObj.rows [[w1, w2, w3, IV.bool c.fl, IV.bool c.fw, IV.int .i64 c.se]] 33 6 false) = g1
  have e_g1 : Ext g0 g1 := by rw [← hq_g1]; exact (Ext.refl _).push _
  have l_g1 : g1.n = g0.n + 1 := by rw [← hq_g1]; rfl
  have b2 : At g1 g0.n (IObj.rows [[w1, w2, w3, IV.bool c.fl, IV.bool c.fw, IV.int .i64 c.se]] 33 6 false) := by rw [← hq_g1]; exact At.new _ _
  clear hq_g1
  have h1 := h1.ext e_g1
  have h2 := h2.ext e_g1
  have h3 := h3.ext e_g1
  have k1 := k1.ext e_g1
  have k2 := k2.ext e_g1
  have k3 := k3.ext e_g1
  have b1 := b1.ext e_g1
  have E := e_g0.trans e_g1
  rw [l_g0] at b2
  try simp only [b1.eq, b2.eq, l_g0, go_sem, Hold.p, HoldK.k, HoldL.K, HoldL.body, Nat.reduceBEq, Nat.reduceAdd, List.getElem?_cons_zero, List.getElem?_cons_succ, Option.bind_some, List.map_cons, List.map_nil, Nat.zero_add, if_true, List.getD_cons_zero, List.getD_cons_succ, List.contains_cons, List.contains_nil, Nat.reduceBEq, Bool.or_true, Bool.true_or, Bool.or_false, Bool.false_or, Bool.not_true, Bool.not_false, true_and, and_true, rowA_whole, push_n, set_n, push_obj, set_obj, set_push, set_push_ne, set_set, Nat.add_assoc, Nat.left_eq_add, Nat.add_eq_left, Nat.add_left_cancel_iff, Nat.reduceEqDiff, stO_1s, stO_ws, boxA_s, one_bool, one_int, one_str, one_ptr, one_nilptr, one_slice, one_eslice, one_nilslice, one_func, one_iface, one_niliface, List.all_cons, List.all_nil, List.length_cons, List.length_nil, Nat.reduceLT, Nat.reduceEqDiff, Nat.reduceLeDiff, Bool.and_true, Nat.one_ne_zero, Nat.succ_ne_zero, reduceIte, if_false, List.getElem?_cons_zero, List.set_cons_zero, List.set_cons_succ]
  refine callA_of (eqHostLinkS_c _ v1 w1 c.ls h1 k1 m1) ?_
  rintro r g2 ⟨rfl, E2⟩
  have h2 := h2.ext E2
  have h3 := h3.ext E2
  have k2 := k2.ext E2
  have k3 := k3.ext E2
  have b1 := b1.ext E2
  have b2 := b2.ext E2
  have E := E.ext E2
  have le_E2 := E2.le
  simp only [b1.eq, b2.eq, l_g0, go_sem, Hold.p, HoldK.k, HoldL.K, HoldL.body, Nat.reduceBEq, Nat.reduceAdd, List.getElem?_cons_zero, List.getElem?_cons_succ, Option.bind_some, List.map_cons, List.map_nil, Nat.zero_add, if_true, List.getD_cons_zero, List.getD_cons_succ, List.contains_cons, List.contains_nil, Nat.reduceBEq, Bool.or_true, Bool.true_or, Bool.or_false, Bool.false_or, Bool.not_true, Bool.not_false, true_and, and_true, rowA_whole, push_n, set_n, push_obj, set_obj, set_push, set_push_ne, set_set, Nat.add_assoc, Nat.left_eq_add, Nat.add_eq_left, Nat.add_left_cancel_iff, Nat.reduceEqDiff, stO_1s, stO_ws, boxA_s, one_bool, one_int, one_str, one_ptr, one_nilptr, one_slice, one_eslice, one_nilslice, one_func, one_iface, one_niliface, List.all_cons, List.all_nil, List.length_cons, List.length_nil, Nat.reduceLT, Nat.reduceEqDiff, Nat.reduceLeDiff, Bool.and_true, Nat.one_ne_zero, Nat.succ_ne_zero, reduceIte, if_false, List.getElem?_cons_zero, List.set_cons_zero, List.set_cons_succ]
  refine callA_of (eqRouteS_c _ v2 w2 c.rs h2 k2 m2) ?_
  rintro r g3 ⟨rfl, E3⟩
  have h3 := h3.ext E3
  have k3 := k3.ext E3
  have b1 := b1.ext E3
  have b2 := b2.ext E3
  have E := E.ext E3
  have le_E3 := E3.le
  simp only [b1.eq, b2.eq, l_g0, go_sem, Hold.p, HoldK.k, HoldL.K, HoldL.body, Nat.reduceBEq, Nat.reduceAdd, List.getElem?_cons_zero, List.getElem?_cons_succ, Option.bind_some, List.map_cons, List.map_nil, Nat.zero_add, if_true, List.getD_cons_zero, List.getD_cons_succ, List.contains_cons, List.contains_nil, Nat.reduceBEq, Bool.or_true, Bool.true_or, Bool.or_false, Bool.false_or, Bool.not_true, Bool.not_false, true_and, and_true, rowA_whole, push_n, set_n, push_obj, set_obj, set_push, set_push_ne, set_set, Nat.add_assoc, Nat.left_eq_add, Nat.add_eq_left, Nat.add_left_cancel_iff, Nat.reduceEqDiff, stO_1s, stO_ws, boxA_s, one_bool, one_int, one_str, one_ptr, one_nilptr, one_slice, one_eslice, one_nilslice, one_func, one_iface, one_niliface, List.all_cons, List.all_nil, List.length_cons, List.length_nil, Nat.reduceLT, Nat.reduceEqDiff, Nat.reduceLeDiff, Bool.and_true, Nat.one_ne_zero, Nat.succ_ne_zero, reduceIte, if_false, List.getElem?_cons_zero, List.set_cons_zero, List.set_cons_succ]
  refine callA_of (eqRuleS_c _ v3 w3 c.us h3 k3 m3) ?_
  rintro r g4 ⟨rfl, E4⟩
  have b1 := b1.ext E4
  have b2 := b2.ext E4
  have E := E.ext E4
  have le_E4 := E4.le
  have hB : ∀ a, ibinB true (.bool a) (.bool a) = some (.bool false) := by intro a; cases a <;> rfl
  simp only [b1.eq, b2.eq, l_g0, hB, decide_true, go_sem, Hold.p, HoldK.k, HoldL.K, HoldL.body, Nat.reduceBEq, Nat.reduceAdd, List.getElem?_cons_zero, List.getElem?_cons_succ, Option.bind_some, List.map_cons, List.map_nil, Nat.zero_add, if_true, List.getD_cons_zero, List.getD_cons_succ, List.contains_cons, List.contains_nil, Nat.reduceBEq, Bool.or_true, Bool.true_or, Bool.or_false, Bool.false_or, Bool.not_true, Bool.not_false, true_and, and_true, rowA_whole, push_n, set_n, push_obj, set_obj, set_push, set_push_ne, set_set, Nat.add_assoc, Nat.left_eq_add, Nat.add_eq_left, Nat.add_left_cancel_iff, Nat.reduceEqDiff, stO_1s, stO_ws, boxA_s, one_bool, one_int, one_str, one_ptr, one_nilptr, one_slice, one_eslice, one_nilslice, one_func, one_iface, one_niliface, List.all_cons, List.all_nil, List.length_cons, List.length_nil, Nat.reduceLT, Nat.reduceEqDiff, Nat.reduceLeDiff, Bool.and_true, Nat.one_ne_zero, Nat.succ_ne_zero, reduceIte, if_false, List.getElem?_cons_zero, List.set_cons_zero, List.set_cons_succ]
  exact E
end Go.Proofs.Ytcmcfmgabafljaa

namespace Go.Proofs.Ytcmcfmgabafljaa
open Go Go.IW

theorem all_no {α : Type} {p : α → Bool} {s : List α} {k : Nat} {b : α} (hk : s[k]? = some b) (h : p b = false) : s.all p = false := by
  rw [Bool.eq_false_iff]
  intro ha
  have := List.all_eq_true.1 ha b (List.mem_of_getElem? hk)
  rw [h] at this; exact Bool.noConfusion this
theorem all_go {α : Type} {p : α → Bool} {s : List α} {k : Nat} {b : α} (hk : s[k]? = some b) (h : (s.take k).all p = true) (hb : p b = true) : (s.take (k + 1)).all p = true := by
  rw [List.take_add_one, hk, List.all_append, h]
  simp [hb]
theorem any_yes {α : Type} {p : α → Bool} {s : List α} {k : Nat} {b : α} (hk : s[k]? = some b) (h : p b = true) : s.any p = true :=
  List.any_eq_true.2 ⟨b, List.mem_of_getElem? hk, h⟩
theorem any_go {α : Type} {p : α → Bool} {s : List α} {k : Nat} {b : α} (hk : s[k]? = some b) (h : (s.take k).any p = false) (hb : p b = false) : (s.take (k + 1)).any p = false := by
  rw [List.take_add_one, hk, List.any_append, h]
  simp [hb]

def linkOk (l : Lnk) : Bool := okLink l.mac l.addr l.a l.b l.mtu
def clash (l k : Lnk) : Bool := decide (k.mac = l.mac) || decide (k.addr = l.addr)
def stepL (ls : List Lnk) (i : Nat) : Bool := match ls[i]? with | some l => linkOk l && !(ls.take i).any (clash l) | none => true
def linksG (ls : List Lnk) (n : Nat) : Bool := (List.range n).all (stepL ls)
theorem stepL_at {ls : List Lnk} {i : Nat} {l : Lnk} (h : ls[i]? = some l) : stepL ls i = (linkOk l && !(ls.take i).any (clash l)) := by unfold stepL; rw [h]
theorem linksG_go {ls : List Lnk} {n : Nat} (h : linksG ls n = true) (hs : stepL ls n = true) : linksG ls (n + 1) = true := by
  unfold linksG at *
  rw [List.range_succ, List.all_append, h]
  simp [hs]
theorem linksG_no {ls : List Lnk} {k n : Nat} (hk : k < n) (hs : stepL ls k = false) : linksG ls n = false := by
  unfold linksG
  rw [Bool.eq_false_iff]
  intro ha
  have := List.all_eq_true.1 ha k (List.mem_range.2 hk)
  rw [hs] at this; exact Bool.noConfusion this
def ownA (ls : List Lnk) (a : Int) : Bool := ls.any fun l => decide (l.addr = a)
def rteOk (ls : List Lnk) (r : Rte) : Bool := okRoute r.a r.b r.via r.link r.metric && decide (r.link < (ls.length : Int)) && !ownA ls r.via
def rulOk (u : Rul) : Bool := okRule u.action u.dir u.proto u.sa u.sb u.sl u.sh u.da u.db u.dl u.dh u.state
def okHost (c : Cfg) : Bool :=
  decide (1 ≤ (c.ls.length : Int)) && decide ((c.ls.length : Int) ≤ 8) && decide ((c.rs.length : Int) ≤ 64) && decide ((c.us.length : Int) ≤ 64) && okA c.se && linksG c.ls c.ls.length && c.rs.all (rteOk c.ls) && c.us.all rulOk

set_option maxRecDepth 20000 in
theorem l18Own_c (h : IH) (v1 v2 v3 : IV) (ls : List Lnk) (fl fw : Bool) (se a : Int) (h1 : SlR h 5 v1 (Lnk.rows ls)) (o2 : v2.one = true) (o3 : v3.one = true) (hm : ls.length ≤ 1048576) :
    ICalls Try.prog 32 [.agg [v1, v2, v3, .bool fl, .bool fw, .int .i64 se], .int .i64 a] h fun r h' => r = .bool (ownA ls a) ∧ Ext h h' := by
  refine icalls (.of ok32) (Nat.le_of_ble_eq_true rfl) ?_
  unfold c32
  have o1 := h1.one
  simp only [o1, o2, o3, go_sem, Hold.p, HoldK.k, HoldL.K, HoldL.body, Nat.reduceBEq, Nat.reduceAdd, List.getElem?_cons_zero, List.getElem?_cons_succ, Option.bind_some, List.map_cons, List.map_nil, Nat.zero_add, if_true, List.getD_cons_zero, List.getD_cons_succ, List.contains_cons, List.contains_nil, Nat.reduceBEq, Bool.or_true, Bool.true_or, Bool.or_false, Bool.false_or, Bool.not_true, Bool.not_false, true_and, and_true, rowA_whole, push_n, set_n, push_obj, set_obj, set_push, set_push_ne, set_set, Nat.add_assoc, Nat.left_eq_add, Nat.add_eq_left, Nat.add_left_cancel_iff, Nat.reduceEqDiff, stO_1s, stO_ws, boxA_s, one_bool, one_int, one_str, one_ptr, one_nilptr, one_slice, one_eslice, one_nilslice, one_func, one_iface, one_niliface, List.all_cons, List.all_nil, List.length_cons, List.length_nil, Nat.reduceLT, Nat.reduceEqDiff, Nat.reduceLeDiff, Bool.and_true, Nat.one_ne_zero, Nat.succ_ne_zero, reduceIte, if_false, List.getElem?_cons_zero, List.set_cons_zero, List.set_cons_succ]
  generalize hq_g0 : IH.push h (IObj.rows [[v1, v2, v3, IV.bool fl, IV.bool fw, IV.int .i64 se]] 33 6 false) = g0
  have e_g0 : Ext h g0 := by rw [← hq_g0]; exact (Ext.refl _).push _
  have l_g0 : g0.n = h.n + 1 := by rw [← hq_g0]; rfl
  have bb : At g0 h.n (IObj.rows [[v1, v2, v3, IV.bool fl, IV.bool fw, IV.int .i64 se]] 33 6 false) := by rw [← hq_g0]; exact At.new _ _
  clear hq_g0
  have h1 := h1.ext e_g0
  have hlen := h1.lenF
  rw [Lnk.rows_len] at hlen
  refine loop_at (fun n e h' => ∃ k : Nat, n = ls.length - k ∧ k ≤ ls.length ∧ e 1 = .int .i64 a ∧ e 2 = .ptr h.n 0 0 ∧ e 5 = .int .i64 (k : Nat) ∧ (ls.take k).any (fun l => decide (l.addr = a)) = false ∧ h' = g0) ls.length ?_ ?_
  · refine ⟨0, by omega, by omega, ?_⟩
    simp only [go_sem, Hold.p, HoldK.k, HoldL.K, HoldL.body, Nat.reduceBEq, Nat.reduceAdd, List.getElem?_cons_zero, List.getElem?_cons_succ, Option.bind_some, List.map_cons, List.map_nil, Nat.zero_add, if_true, List.getD_cons_zero, List.getD_cons_succ, List.contains_cons, List.contains_nil, Nat.reduceBEq, Bool.or_true, Bool.true_or, Bool.or_false, Bool.false_or, Bool.not_true, Bool.not_false, true_and, and_true, rowA_whole, push_n, set_n, push_obj, set_obj, set_push, set_push_ne, set_set, Nat.add_assoc, Nat.left_eq_add, Nat.add_eq_left, Nat.add_left_cancel_iff, Nat.reduceEqDiff, stO_1s, stO_ws, boxA_s, one_bool, one_int, one_str, one_ptr, one_nilptr, one_slice, one_eslice, one_nilslice, one_func, one_iface, one_niliface, List.all_cons, List.all_nil, List.length_cons, List.length_nil, Nat.reduceLT, Nat.reduceEqDiff, Nat.reduceLeDiff, Bool.and_true, Nat.one_ne_zero, Nat.succ_ne_zero, reduceIte, if_false, List.getElem?_cons_zero, List.set_cons_zero, List.set_cons_succ]
    exact ⟨rfl, rfl⟩
  · rintro n e h' ⟨k, rfl, hk, e1, e2, e5, hno, rfl⟩
    simp only [e1, e2, e5, bb.eq, hlen, go_sem, Hold.p, HoldK.k, HoldL.K, HoldL.body, Nat.reduceBEq, Nat.reduceAdd, List.getElem?_cons_zero, List.getElem?_cons_succ, Option.bind_some, List.map_cons, List.map_nil, Nat.zero_add, if_true, List.getD_cons_zero, List.getD_cons_succ, List.contains_cons, List.contains_nil, Nat.reduceBEq, Bool.or_true, Bool.true_or, Bool.or_false, Bool.false_or, Bool.not_true, Bool.not_false, true_and, and_true, rowA_whole, push_n, set_n, push_obj, set_obj, set_push, set_push_ne, set_set, Nat.add_assoc, Nat.left_eq_add, Nat.add_eq_left, Nat.add_left_cancel_iff, Nat.reduceEqDiff, stO_1s, stO_ws, boxA_s, one_bool, one_int, one_str, one_ptr, one_nilptr, one_slice, one_eslice, one_nilslice, one_func, one_iface, one_niliface, List.all_cons, List.all_nil, List.length_cons, List.length_nil, Nat.reduceLT, Nat.reduceEqDiff, Nat.reduceLeDiff, Bool.and_true, Nat.one_ne_zero, Nat.succ_ne_zero, reduceIte, if_false, List.getElem?_cons_zero, List.set_cons_zero, List.set_cons_succ]
    refine test_dec (fun hb => ?_) (fun hb => ?_)
    · have hlt : k < ls.length := by omega
      have hkp : ls[k]? = some ls[k] := List.getElem?_eq_getElem hlt
      generalize ls[k] = p at hkp
      obtain ⟨l, j, hia, hll, hrow⟩ := h1.at (m := k) (Lnk.rows_at hkp) .i64
      have hc := cellO_row hrow
      unfold Lnk.row at hc
      by_cases c1 : p.addr = a
      · have d1 : decide (p.addr = a) = true := decide_eq_true c1
        simp only [e1, e2, e5, bb.eq, hia, hc, d1, go_sem, Hold.p, HoldK.k, HoldL.K, HoldL.body, Nat.reduceBEq, Nat.reduceAdd, List.getElem?_cons_zero, List.getElem?_cons_succ, Option.bind_some, List.map_cons, List.map_nil, Nat.zero_add, if_true, List.getD_cons_zero, List.getD_cons_succ, List.contains_cons, List.contains_nil, Nat.reduceBEq, Bool.or_true, Bool.true_or, Bool.or_false, Bool.false_or, Bool.not_true, Bool.not_false, true_and, and_true, rowA_whole, push_n, set_n, push_obj, set_obj, set_push, set_push_ne, set_set, Nat.add_assoc, Nat.left_eq_add, Nat.add_eq_left, Nat.add_left_cancel_iff, Nat.reduceEqDiff, stO_1s, stO_ws, boxA_s, one_bool, one_int, one_str, one_ptr, one_nilptr, one_slice, one_eslice, one_nilslice, one_func, one_iface, one_niliface, List.all_cons, List.all_nil, List.length_cons, List.length_nil, Nat.reduceLT, Nat.reduceEqDiff, Nat.reduceLeDiff, Bool.and_true, Nat.one_ne_zero, Nat.succ_ne_zero, reduceIte, if_false, List.getElem?_cons_zero, List.set_cons_zero, List.set_cons_succ]
        exact ⟨by unfold ownA; rw [any_yes hkp d1], e_g0⟩
      · have d1 : decide (p.addr = a) = false := decide_eq_false c1
        simp only [e1, e2, e5, bb.eq, hia, hc, d1, go_sem, Hold.p, HoldK.k, HoldL.K, HoldL.body, Nat.reduceBEq, Nat.reduceAdd, List.getElem?_cons_zero, List.getElem?_cons_succ, Option.bind_some, List.map_cons, List.map_nil, Nat.zero_add, if_true, List.getD_cons_zero, List.getD_cons_succ, List.contains_cons, List.contains_nil, Nat.reduceBEq, Bool.or_true, Bool.true_or, Bool.or_false, Bool.false_or, Bool.not_true, Bool.not_false, true_and, and_true, rowA_whole, push_n, set_n, push_obj, set_obj, set_push, set_push_ne, set_set, Nat.add_assoc, Nat.left_eq_add, Nat.add_eq_left, Nat.add_left_cancel_iff, Nat.reduceEqDiff, stO_1s, stO_ws, boxA_s, one_bool, one_int, one_str, one_ptr, one_nilptr, one_slice, one_eslice, one_nilslice, one_func, one_iface, one_niliface, List.all_cons, List.all_nil, List.length_cons, List.length_nil, Nat.reduceLT, Nat.reduceEqDiff, Nat.reduceLeDiff, Bool.and_true, Nat.one_ne_zero, Nat.succ_ne_zero, reduceIte, if_false, List.getElem?_cons_zero, List.set_cons_zero, List.set_cons_succ]
        refine ⟨_, ?_, k + 1, rfl, by omega, wr64_succ k (by omega), any_go hkp hno d1⟩
        omega
    · obtain rfl : k = ls.length := by omega
      rw [List.take_length] at hno
      simp only [go_sem, Hold.p, HoldK.k, HoldL.K, HoldL.body, Nat.reduceBEq, Nat.reduceAdd, List.getElem?_cons_zero, List.getElem?_cons_succ, Option.bind_some, List.map_cons, List.map_nil, Nat.zero_add, if_true, List.getD_cons_zero, List.getD_cons_succ, List.contains_cons, List.contains_nil, Nat.reduceBEq, Bool.or_true, Bool.true_or, Bool.or_false, Bool.false_or, Bool.not_true, Bool.not_false, true_and, and_true, rowA_whole, push_n, set_n, push_obj, set_obj, set_push, set_push_ne, set_set, Nat.add_assoc, Nat.left_eq_add, Nat.add_eq_left, Nat.add_left_cancel_iff, Nat.reduceEqDiff, stO_1s, stO_ws, boxA_s, one_bool, one_int, one_str, one_ptr, one_nilptr, one_slice, one_eslice, one_nilslice, one_func, one_iface, one_niliface, List.all_cons, List.all_nil, List.length_cons, List.length_nil, Nat.reduceLT, Nat.reduceEqDiff, Nat.reduceLeDiff, Bool.and_true, Nat.one_ne_zero, Nat.succ_ne_zero, reduceIte, if_false, List.getElem?_cons_zero, List.set_cons_zero, List.set_cons_succ]
      exact ⟨by unfold ownA; rw [hno], e_g0⟩

set_option maxRecDepth 20000 in
theorem specHostOK_c (h : IH) (v1 v2 v3 : IV) (c : Cfg) (h1 : SlR h 5 v1 (Lnk.rows c.ls)) (h2 : SlR h 5 v2 (Rte.rows c.rs)) (h3 : SlR h 12 v3 (Rul.rows c.us)) (m1 : c.ls.length ≤ 1048576) (m2 : c.rs.length ≤ 1048576) (m3 : c.us.length ≤ 1048576) :
    ICalls Try.prog 7 [.agg [v1, v2, v3, .bool c.fl, .bool c.fw, .int .i64 c.se]] h fun r h' => r = .bool (okHost c) ∧ Ext h h' := by
  refine icalls (.of ok7) (Nat.le_of_ble_eq_true rfl) ?_
  unfold c7
  have o1 := h1.one
  have o2 := h2.one
  have o3 := h3.one
  simp only [o1, o2, o3, go_sem, Hold.p, HoldK.k, HoldL.K, HoldL.body, Nat.reduceBEq, Nat.reduceAdd, List.getElem?_cons_zero, List.getElem?_cons_succ, Option.bind_some, List.map_cons, List.map_nil, Nat.zero_add, if_true, List.getD_cons_zero, List.getD_cons_succ, List.contains_cons, List.contains_nil, Nat.reduceBEq, Bool.or_true, Bool.true_or, Bool.or_false, Bool.false_or, Bool.not_true, Bool.not_false, true_and, and_true, rowA_whole, push_n, set_n, push_obj, set_obj, set_push, set_push_ne, set_set, Nat.add_assoc, Nat.left_eq_add, Nat.add_eq_left, Nat.add_left_cancel_iff, Nat.reduceEqDiff, stO_1s, stO_ws, boxA_s, one_bool, one_int, one_str, one_ptr, one_nilptr, one_slice, one_eslice, one_nilslice, one_func, one_iface, one_niliface, List.all_cons, List.all_nil, List.length_cons, List.length_nil, Nat.reduceLT, Nat.reduceEqDiff, Nat.reduceLeDiff, Bool.and_true, Nat.one_ne_zero, Nat.succ_ne_zero, reduceIte, if_false, List.getElem?_cons_zero, List.set_cons_zero, List.set_cons_succ]
  generalize hq_g0 : IH.push h (IObj.rows [[v1, v2, v3, IV.bool c.fl, IV.bool c.fw, IV.int .i64 c.se]] 33 6 false) = g0
  have e_g0 : Ext h g0 := by rw [← hq_g0]; exact (Ext.refl _).push _
  have l_g0 : g0.n = h.n + 1 := by rw [← hq_g0]; rfl
  have bb : At g0 h.n (IObj.rows [[v1, v2, v3, IV.bool c.fl, IV.bool c.fw, IV.int .i64 c.se]] 33 6 false) := by rw [← hq_g0]; exact At.new _ _
  clear hq_g0
  have h1 := h1.ext e_g0
  have h2 := h2.ext e_g0
  have h3 := h3.ext e_g0
  have hl1 := h1.lenF
  have hl2 := h2.lenF
  have hl3 := h3.lenF
  rw [Lnk.rows_len] at hl1
  rw [Rte.rows_len] at hl2
  rw [Rul.rows_len] at hl3
  by_cases c1 : (c.ls.length : Int) < 1
  · have d1 : decide ((c.ls.length : Int) < 1) = true := decide_eq_true c1
    simp only [bb.eq, hl1, d1, go_sem, Hold.p, HoldK.k, HoldL.K, HoldL.body, Nat.reduceBEq, Nat.reduceAdd, List.getElem?_cons_zero, List.getElem?_cons_succ, Option.bind_some, List.map_cons, List.map_nil, Nat.zero_add, if_true, List.getD_cons_zero, List.getD_cons_succ, List.contains_cons, List.contains_nil, Nat.reduceBEq, Bool.or_true, Bool.true_or, Bool.or_false, Bool.false_or, Bool.not_true, Bool.not_false, true_and, and_true, rowA_whole, push_n, set_n, push_obj, set_obj, set_push, set_push_ne, set_set, Nat.add_assoc, Nat.left_eq_add, Nat.add_eq_left, Nat.add_left_cancel_iff, Nat.reduceEqDiff, stO_1s, stO_ws, boxA_s, one_bool, one_int, one_str, one_ptr, one_nilptr, one_slice, one_eslice, one_nilslice, one_func, one_iface, one_niliface, List.all_cons, List.all_nil, List.length_cons, List.length_nil, Nat.reduceLT, Nat.reduceEqDiff, Nat.reduceLeDiff, Bool.and_true, Nat.one_ne_zero, Nat.succ_ne_zero, reduceIte, if_false, List.getElem?_cons_zero, List.set_cons_zero, List.set_cons_succ]
    exact ⟨by unfold okHost; rw [show decide (1 ≤ (c.ls.length : Int)) = false from decide_eq_false (by omega)]; simp only [Bool.false_and], e_g0⟩
  have d1 : decide ((c.ls.length : Int) < 1) = false := decide_eq_false c1
  have d1' : decide (1 ≤ (c.ls.length : Int)) = true := decide_eq_true (by omega)
  by_cases c2 : 8 < (c.ls.length : Int)
  · have d2 : decide (8 < (c.ls.length : Int)) = true := decide_eq_true c2
    simp only [bb.eq, hl1, d1, d2, go_sem, Hold.p, HoldK.k, HoldL.K, HoldL.body, Nat.reduceBEq, Nat.reduceAdd, List.getElem?_cons_zero, List.getElem?_cons_succ, Option.bind_some, List.map_cons, List.map_nil, Nat.zero_add, if_true, List.getD_cons_zero, List.getD_cons_succ, List.contains_cons, List.contains_nil, Nat.reduceBEq, Bool.or_true, Bool.true_or, Bool.or_false, Bool.false_or, Bool.not_true, Bool.not_false, true_and, and_true, rowA_whole, push_n, set_n, push_obj, set_obj, set_push, set_push_ne, set_set, Nat.add_assoc, Nat.left_eq_add, Nat.add_eq_left, Nat.add_left_cancel_iff, Nat.reduceEqDiff, stO_1s, stO_ws, boxA_s, one_bool, one_int, one_str, one_ptr, one_nilptr, one_slice, one_eslice, one_nilslice, one_func, one_iface, one_niliface, List.all_cons, List.all_nil, List.length_cons, List.length_nil, Nat.reduceLT, Nat.reduceEqDiff, Nat.reduceLeDiff, Bool.and_true, Nat.one_ne_zero, Nat.succ_ne_zero, reduceIte, if_false, List.getElem?_cons_zero, List.set_cons_zero, List.set_cons_succ]
    exact ⟨by unfold okHost; rw [show decide ((c.ls.length : Int) ≤ 8) = false from decide_eq_false (by omega)]; simp only [Bool.false_and, Bool.and_false], e_g0⟩
  have d2 : decide (8 < (c.ls.length : Int)) = false := decide_eq_false c2
  have d2' : decide ((c.ls.length : Int) ≤ 8) = true := decide_eq_true (by omega)
  by_cases c3 : 64 < (c.rs.length : Int)
  · have d3 : decide (64 < (c.rs.length : Int)) = true := decide_eq_true c3
    simp only [bb.eq, hl1, hl2, d1, d2, d3, go_sem, Hold.p, HoldK.k, HoldL.K, HoldL.body, Nat.reduceBEq, Nat.reduceAdd, List.getElem?_cons_zero, List.getElem?_cons_succ, Option.bind_some, List.map_cons, List.map_nil, Nat.zero_add, if_true, List.getD_cons_zero, List.getD_cons_succ, List.contains_cons, List.contains_nil, Nat.reduceBEq, Bool.or_true, Bool.true_or, Bool.or_false, Bool.false_or, Bool.not_true, Bool.not_false, true_and, and_true, rowA_whole, push_n, set_n, push_obj, set_obj, set_push, set_push_ne, set_set, Nat.add_assoc, Nat.left_eq_add, Nat.add_eq_left, Nat.add_left_cancel_iff, Nat.reduceEqDiff, stO_1s, stO_ws, boxA_s, one_bool, one_int, one_str, one_ptr, one_nilptr, one_slice, one_eslice, one_nilslice, one_func, one_iface, one_niliface, List.all_cons, List.all_nil, List.length_cons, List.length_nil, Nat.reduceLT, Nat.reduceEqDiff, Nat.reduceLeDiff, Bool.and_true, Nat.one_ne_zero, Nat.succ_ne_zero, reduceIte, if_false, List.getElem?_cons_zero, List.set_cons_zero, List.set_cons_succ]
    exact ⟨by unfold okHost; rw [show decide ((c.rs.length : Int) ≤ 64) = false from decide_eq_false (by omega)]; simp only [Bool.false_and, Bool.and_false], e_g0⟩
  have d3 : decide (64 < (c.rs.length : Int)) = false := decide_eq_false c3
  have d3' : decide ((c.rs.length : Int) ≤ 64) = true := decide_eq_true (by omega)
  by_cases c4 : 64 < (c.us.length : Int)
  · have d4 : decide (64 < (c.us.length : Int)) = true := decide_eq_true c4
    simp only [bb.eq, hl1, hl2, hl3, d1, d2, d3, d4, go_sem, Hold.p, HoldK.k, HoldL.K, HoldL.body, Nat.reduceBEq, Nat.reduceAdd, List.getElem?_cons_zero, List.getElem?_cons_succ, Option.bind_some, List.map_cons, List.map_nil, Nat.zero_add, if_true, List.getD_cons_zero, List.getD_cons_succ, List.contains_cons, List.contains_nil, Nat.reduceBEq, Bool.or_true, Bool.true_or, Bool.or_false, Bool.false_or, Bool.not_true, Bool.not_false, true_and, and_true, rowA_whole, push_n, set_n, push_obj, set_obj, set_push, set_push_ne, set_set, Nat.add_assoc, Nat.left_eq_add, Nat.add_eq_left, Nat.add_left_cancel_iff, Nat.reduceEqDiff, stO_1s, stO_ws, boxA_s, one_bool, one_int, one_str, one_ptr, one_nilptr, one_slice, one_eslice, one_nilslice, one_func, one_iface, one_niliface, List.all_cons, List.all_nil, List.length_cons, List.length_nil, Nat.reduceLT, Nat.reduceEqDiff, Nat.reduceLeDiff, Bool.and_true, Nat.one_ne_zero, Nat.succ_ne_zero, reduceIte, if_false, List.getElem?_cons_zero, List.set_cons_zero, List.set_cons_succ]
    exact ⟨by unfold okHost; rw [show decide ((c.us.length : Int) ≤ 64) = false from decide_eq_false (by omega)]; simp only [Bool.false_and, Bool.and_false], e_g0⟩
  have d4 : decide (64 < (c.us.length : Int)) = false := decide_eq_false c4
  have d4' : decide ((c.us.length : Int) ≤ 64) = true := decide_eq_true (by omega)
  simp only [bb.eq, hl1, hl2, hl3, d1, d2, d3, d4, go_sem, Hold.p, HoldK.k, HoldL.K, HoldL.body, Nat.reduceBEq, Nat.reduceAdd, List.getElem?_cons_zero, List.getElem?_cons_succ, Option.bind_some, List.map_cons, List.map_nil, Nat.zero_add, if_true, List.getD_cons_zero, List.getD_cons_succ, List.contains_cons, List.contains_nil, Nat.reduceBEq, Bool.or_true, Bool.true_or, Bool.or_false, Bool.false_or, Bool.not_true, Bool.not_false, true_and, and_true, rowA_whole, push_n, set_n, push_obj, set_obj, set_push, set_push_ne, set_set, Nat.add_assoc, Nat.left_eq_add, Nat.add_eq_left, Nat.add_left_cancel_iff, Nat.reduceEqDiff, stO_1s, stO_ws, boxA_s, one_bool, one_int, one_str, one_ptr, one_nilptr, one_slice, one_eslice, one_nilslice, one_func, one_iface, one_niliface, List.all_cons, List.all_nil, List.length_cons, List.length_nil, Nat.reduceLT, Nat.reduceEqDiff, Nat.reduceLeDiff, Bool.and_true, Nat.one_ne_zero, Nat.succ_ne_zero, reduceIte, if_false, List.getElem?_cons_zero, List.set_cons_zero, List.set_cons_succ]
  refine callA_of (l02AddrOK_c _ c.se) ?_
  rintro r g1 ⟨rfl, rfl⟩
  have hdef : okHost c = (okA c.se && linksG c.ls c.ls.length && c.rs.all (rteOk c.ls) && c.us.all rulOk) := by
    unfold okHost; rw [d1', d2', d3', d4']; rfl
  rw [hdef]
  cases d5 : okA c.se
  · simp only [d5, Bool.false_and, go_sem, Hold.p, HoldK.k, HoldL.K, HoldL.body, Nat.reduceBEq, Nat.reduceAdd, List.getElem?_cons_zero, List.getElem?_cons_succ, Option.bind_some, List.map_cons, List.map_nil, Nat.zero_add, if_true, List.getD_cons_zero, List.getD_cons_succ, List.contains_cons, List.contains_nil, Nat.reduceBEq, Bool.or_true, Bool.true_or, Bool.or_false, Bool.false_or, Bool.not_true, Bool.not_false, true_and, and_true, rowA_whole, push_n, set_n, push_obj, set_obj, set_push, set_push_ne, set_set, Nat.add_assoc, Nat.left_eq_add, Nat.add_eq_left, Nat.add_left_cancel_iff, Nat.reduceEqDiff, stO_1s, stO_ws, boxA_s, one_bool, one_int, one_str, one_ptr, one_nilptr, one_slice, one_eslice, one_nilslice, one_func, one_iface, one_niliface, List.all_cons, List.all_nil, List.length_cons, List.length_nil, Nat.reduceLT, Nat.reduceEqDiff, Nat.reduceLeDiff, Bool.and_true, Nat.one_ne_zero, Nat.succ_ne_zero, reduceIte, if_false, List.getElem?_cons_zero, List.set_cons_zero, List.set_cons_succ]
    exact e_g0
  simp only [d5, Bool.true_and, go_sem, Hold.p, HoldK.k, HoldL.K, HoldL.body, Nat.reduceBEq, Nat.reduceAdd, List.getElem?_cons_zero, List.getElem?_cons_succ, Option.bind_some, List.map_cons, List.map_nil, Nat.zero_add, if_true, List.getD_cons_zero, List.getD_cons_succ, List.contains_cons, List.contains_nil, Nat.reduceBEq, Bool.or_true, Bool.true_or, Bool.or_false, Bool.false_or, Bool.not_true, Bool.not_false, true_and, and_true, rowA_whole, push_n, set_n, push_obj, set_obj, set_push, set_push_ne, set_set, Nat.add_assoc, Nat.left_eq_add, Nat.add_eq_left, Nat.add_left_cancel_iff, Nat.reduceEqDiff, stO_1s, stO_ws, boxA_s, one_bool, one_int, one_str, one_ptr, one_nilptr, one_slice, one_eslice, one_nilslice, one_func, one_iface, one_niliface, List.all_cons, List.all_nil, List.length_cons, List.length_nil, Nat.reduceLT, Nat.reduceEqDiff, Nat.reduceLeDiff, Bool.and_true, Nat.one_ne_zero, Nat.succ_ne_zero, reduceIte, if_false, List.getElem?_cons_zero, List.set_cons_zero, List.set_cons_succ]
  refine loop_at (fun n e h' => ∃ k : Nat, n = c.ls.length - k ∧ k ≤ c.ls.length ∧ e 1 = .ptr h.n 0 0 ∧ e 3 = .int .i64 (k : Nat) ∧ linksG c.ls k = true ∧ Ext g1 h') c.ls.length ?_ ?_
  · refine ⟨0, by omega, by omega, ?_⟩
    simp only [go_sem, Hold.p, HoldK.k, HoldL.K, HoldL.body, Nat.reduceBEq, Nat.reduceAdd, List.getElem?_cons_zero, List.getElem?_cons_succ, Option.bind_some, List.map_cons, List.map_nil, Nat.zero_add, if_true, List.getD_cons_zero, List.getD_cons_succ, List.contains_cons, List.contains_nil, Nat.reduceBEq, Bool.or_true, Bool.true_or, Bool.or_false, Bool.false_or, Bool.not_true, Bool.not_false, true_and, and_true, rowA_whole, push_n, set_n, push_obj, set_obj, set_push, set_push_ne, set_set, Nat.add_assoc, Nat.left_eq_add, Nat.add_eq_left, Nat.add_left_cancel_iff, Nat.reduceEqDiff, stO_1s, stO_ws, boxA_s, one_bool, one_int, one_str, one_ptr, one_nilptr, one_slice, one_eslice, one_nilslice, one_func, one_iface, one_niliface, List.all_cons, List.all_nil, List.length_cons, List.length_nil, Nat.reduceLT, Nat.reduceEqDiff, Nat.reduceLeDiff, Bool.and_true, Nat.one_ne_zero, Nat.succ_ne_zero, reduceIte, if_false, List.getElem?_cons_zero, List.set_cons_zero, List.set_cons_succ]
    exact ⟨rfl, rfl, Ext.refl _⟩
  · rintro n e h' ⟨k, rfl, hk, e1, e3, hG, E⟩
    have bb2 := bb.ext E
    have h12 := h1.ext E
    simp only [e1, e3, bb2.eq, hl1, go_sem, Hold.p, HoldK.k, HoldL.K, HoldL.body, Nat.reduceBEq, Nat.reduceAdd, List.getElem?_cons_zero, List.getElem?_cons_succ, Option.bind_some, List.map_cons, List.map_nil, Nat.zero_add, if_true, List.getD_cons_zero, List.getD_cons_succ, List.contains_cons, List.contains_nil, Nat.reduceBEq, Bool.or_true, Bool.true_or, Bool.or_false, Bool.false_or, Bool.not_true, Bool.not_false, true_and, and_true, rowA_whole, push_n, set_n, push_obj, set_obj, set_push, set_push_ne, set_set, Nat.add_assoc, Nat.left_eq_add, Nat.add_eq_left, Nat.add_left_cancel_iff, Nat.reduceEqDiff, stO_1s, stO_ws, boxA_s, one_bool, one_int, one_str, one_ptr, one_nilptr, one_slice, one_eslice, one_nilslice, one_func, one_iface, one_niliface, List.all_cons, List.all_nil, List.length_cons, List.length_nil, Nat.reduceLT, Nat.reduceEqDiff, Nat.reduceLeDiff, Bool.and_true, Nat.one_ne_zero, Nat.succ_ne_zero, reduceIte, if_false, List.getElem?_cons_zero, List.set_cons_zero, List.set_cons_succ]
    refine test_dec (fun hb => ?_) (fun hb => ?_)
    · have hlt : k < c.ls.length := by omega
      have hkp : c.ls[k]? = some c.ls[k] := List.getElem?_eq_getElem hlt
      generalize c.ls[k] = p at hkp
      have hst := stepL_at hkp
      obtain ⟨l, j, hia, hll, hrow⟩ := h12.at (m := k) (Lnk.rows_at hkp) .i64
      have hrw := rowA_whole p.row 5 rfl
      simp only [e1, e3, bb2.eq, hia, hrow, hrw, go_sem, Hold.p, HoldK.k, HoldL.K, HoldL.body, Nat.reduceBEq, Nat.reduceAdd, List.getElem?_cons_zero, List.getElem?_cons_succ, Option.bind_some, List.map_cons, List.map_nil, Nat.zero_add, if_true, List.getD_cons_zero, List.getD_cons_succ, List.contains_cons, List.contains_nil, Nat.reduceBEq, Bool.or_true, Bool.true_or, Bool.or_false, Bool.false_or, Bool.not_true, Bool.not_false, true_and, and_true, rowA_whole, push_n, set_n, push_obj, set_obj, set_push, set_push_ne, set_set, Nat.add_assoc, Nat.left_eq_add, Nat.add_eq_left, Nat.add_left_cancel_iff, Nat.reduceEqDiff, stO_1s, stO_ws, boxA_s, one_bool, one_int, one_str, one_ptr, one_nilptr, one_slice, one_eslice, one_nilslice, one_func, one_iface, one_niliface, List.all_cons, List.all_nil, List.length_cons, List.length_nil, Nat.reduceLT, Nat.reduceEqDiff, Nat.reduceLeDiff, Bool.and_true, Nat.one_ne_zero, Nat.succ_ne_zero, reduceIte, if_false, List.getElem?_cons_zero, List.set_cons_zero, List.set_cons_succ]
      refine callA_of (l18LinkOK_c _ p.mac p.addr p.a p.b p.mtu) ?_
      rintro r h2' ⟨rfl, E2⟩
      have E3 := E.trans E2
      have bb3 := bb.ext E3
      have h13 := h1.ext E3
      have hok : okLink p.mac p.addr p.a p.b p.mtu = linkOk p := rfl
      rw [hok]
      cases d6 : linkOk p
      · simp only [d6, go_sem, Hold.p, HoldK.k, HoldL.K, HoldL.body, Nat.reduceBEq, Nat.reduceAdd, List.getElem?_cons_zero, List.getElem?_cons_succ, Option.bind_some, List.map_cons, List.map_nil, Nat.zero_add, if_true, List.getD_cons_zero, List.getD_cons_succ, List.contains_cons, List.contains_nil, Nat.reduceBEq, Bool.or_true, Bool.true_or, Bool.or_false, Bool.false_or, Bool.not_true, Bool.not_false, true_and, and_true, rowA_whole, push_n, set_n, push_obj, set_obj, set_push, set_push_ne, set_set, Nat.add_assoc, Nat.left_eq_add, Nat.add_eq_left, Nat.add_left_cancel_iff, Nat.reduceEqDiff, stO_1s, stO_ws, boxA_s, one_bool, one_int, one_str, one_ptr, one_nilptr, one_slice, one_eslice, one_nilslice, one_func, one_iface, one_niliface, List.all_cons, List.all_nil, List.length_cons, List.length_nil, Nat.reduceLT, Nat.reduceEqDiff, Nat.reduceLeDiff, Bool.and_true, Nat.one_ne_zero, Nat.succ_ne_zero, reduceIte, if_false, List.getElem?_cons_zero, List.set_cons_zero, List.set_cons_succ]
        refine ⟨?_, e_g0.trans E3⟩
        rw [linksG_no hlt (by rw [hst, d6]; rfl)]; rfl
      simp only [e1, e3, go_sem, Hold.p, HoldK.k, HoldL.K, HoldL.body, Nat.reduceBEq, Nat.reduceAdd, List.getElem?_cons_zero, List.getElem?_cons_succ, Option.bind_some, List.map_cons, List.map_nil, Nat.zero_add, if_true, List.getD_cons_zero, List.getD_cons_succ, List.contains_cons, List.contains_nil, Nat.reduceBEq, Bool.or_true, Bool.true_or, Bool.or_false, Bool.false_or, Bool.not_true, Bool.not_false, true_and, and_true, rowA_whole, push_n, set_n, push_obj, set_obj, set_push, set_push_ne, set_set, Nat.add_assoc, Nat.left_eq_add, Nat.add_eq_left, Nat.add_left_cancel_iff, Nat.reduceEqDiff, stO_1s, stO_ws, boxA_s, one_bool, one_int, one_str, one_ptr, one_nilptr, one_slice, one_eslice, one_nilslice, one_func, one_iface, one_niliface, List.all_cons, List.all_nil, List.length_cons, List.length_nil, Nat.reduceLT, Nat.reduceEqDiff, Nat.reduceLeDiff, Bool.and_true, Nat.one_ne_zero, Nat.succ_ne_zero, reduceIte, if_false, List.getElem?_cons_zero, List.set_cons_zero, List.set_cons_succ]
      obtain ⟨l1, j1, hia1, hll1, hrow1⟩ := h13.at (m := k) (Lnk.rows_at hkp) .i64
      have hc1 := cellO_row hrow1
      unfold Lnk.row at hc1
      refine loop_at (fun n' e' h'' => ∃ i : Nat, n' = k - i ∧ i ≤ k ∧ e' 1 = .ptr h.n 0 0 ∧ e' 3 = .int .i64 (k : Nat) ∧ e' 4 = .int .i64 (i : Nat) ∧ ((c.ls.take k).take i).any (clash p) = false ∧ h'' = h2') k ?_ ?_
      · refine ⟨0, by omega, by omega, ?_⟩
        simp only [e1, e3, go_sem, Hold.p, HoldK.k, HoldL.K, HoldL.body, Nat.reduceBEq, Nat.reduceAdd, List.getElem?_cons_zero, List.getElem?_cons_succ, Option.bind_some, List.map_cons, List.map_nil, Nat.zero_add, if_true, List.getD_cons_zero, List.getD_cons_succ, List.contains_cons, List.contains_nil, Nat.reduceBEq, Bool.or_true, Bool.true_or, Bool.or_false, Bool.false_or, Bool.not_true, Bool.not_false, true_and, and_true, rowA_whole, push_n, set_n, push_obj, set_obj, set_push, set_push_ne, set_set, Nat.add_assoc, Nat.left_eq_add, Nat.add_eq_left, Nat.add_left_cancel_iff, Nat.reduceEqDiff, stO_1s, stO_ws, boxA_s, one_bool, one_int, one_str, one_ptr, one_nilptr, one_slice, one_eslice, one_nilslice, one_func, one_iface, one_niliface, List.all_cons, List.all_nil, List.length_cons, List.length_nil, Nat.reduceLT, Nat.reduceEqDiff, Nat.reduceLeDiff, Bool.and_true, Nat.one_ne_zero, Nat.succ_ne_zero, reduceIte, if_false, List.getElem?_cons_zero, List.set_cons_zero, List.set_cons_succ]
        exact ⟨rfl, rfl⟩
      · clear e1 e3
        rintro n' e' h'' ⟨i, rfl, hi, e1, e3, e4, hno, rfl⟩
        simp only [e1, e3, e4, go_sem, Hold.p, HoldK.k, HoldL.K, HoldL.body, Nat.reduceBEq, Nat.reduceAdd, List.getElem?_cons_zero, List.getElem?_cons_succ, Option.bind_some, List.map_cons, List.map_nil, Nat.zero_add, if_true, List.getD_cons_zero, List.getD_cons_succ, List.contains_cons, List.contains_nil, Nat.reduceBEq, Bool.or_true, Bool.true_or, Bool.or_false, Bool.false_or, Bool.not_true, Bool.not_false, true_and, and_true, rowA_whole, push_n, set_n, push_obj, set_obj, set_push, set_push_ne, set_set, Nat.add_assoc, Nat.left_eq_add, Nat.add_eq_left, Nat.add_left_cancel_iff, Nat.reduceEqDiff, stO_1s, stO_ws, boxA_s, one_bool, one_int, one_str, one_ptr, one_nilptr, one_slice, one_eslice, one_nilslice, one_func, one_iface, one_niliface, List.all_cons, List.all_nil, List.length_cons, List.length_nil, Nat.reduceLT, Nat.reduceEqDiff, Nat.reduceLeDiff, Bool.and_true, Nat.one_ne_zero, Nat.succ_ne_zero, reduceIte, if_false, List.getElem?_cons_zero, List.set_cons_zero, List.set_cons_succ]
        refine test_dec (fun hb2 => ?_) (fun hb2 => ?_)
        · have hlt2 : i < k := by omega
          have hkp2 : c.ls[i]? = some c.ls[i] := List.getElem?_eq_getElem (by omega)
          generalize c.ls[i] = q at hkp2
          have hkt : (c.ls.take k)[i]? = some q := by rw [List.getElem?_take, if_pos hlt2]; exact hkp2
          obtain ⟨l2, j2, hia2, hll2, hrow2⟩ := h13.at (m := i) (Lnk.rows_at hkp2) .i64
          have hc2 := cellO_row hrow2
          unfold Lnk.row at hc2
          have hfail : clash p q = true → (IV.bool false = .bool (linksG c.ls c.ls.length && c.rs.all (rteOk c.ls) && c.us.all rulOk) ∧ Ext h h'') := fun hcl => by
            refine ⟨?_, e_g0.trans E3⟩
            rw [linksG_no hlt (by rw [hst, any_yes hkt hcl]; simp)]; rfl
          by_cases c7 : q.mac = p.mac
          · have d7 : decide (q.mac = p.mac) = true := decide_eq_true c7
            simp only [e1, e3, e4, bb3.eq, hia1, hc1, hia2, hc2, d7, go_sem, Hold.p, HoldK.k, HoldL.K, HoldL.body, Nat.reduceBEq, Nat.reduceAdd, List.getElem?_cons_zero, List.getElem?_cons_succ, Option.bind_some, List.map_cons, List.map_nil, Nat.zero_add, if_true, List.getD_cons_zero, List.getD_cons_succ, List.contains_cons, List.contains_nil, Nat.reduceBEq, Bool.or_true, Bool.true_or, Bool.or_false, Bool.false_or, Bool.not_true, Bool.not_false, true_and, and_true, rowA_whole, push_n, set_n, push_obj, set_obj, set_push, set_push_ne, set_set, Nat.add_assoc, Nat.left_eq_add, Nat.add_eq_left, Nat.add_left_cancel_iff, Nat.reduceEqDiff, stO_1s, stO_ws, boxA_s, one_bool, one_int, one_str, one_ptr, one_nilptr, one_slice, one_eslice, one_nilslice, one_func, one_iface, one_niliface, List.all_cons, List.all_nil, List.length_cons, List.length_nil, Nat.reduceLT, Nat.reduceEqDiff, Nat.reduceLeDiff, Bool.and_true, Nat.one_ne_zero, Nat.succ_ne_zero, reduceIte, if_false, List.getElem?_cons_zero, List.set_cons_zero, List.set_cons_succ]
            exact hfail (by unfold clash; rw [d7]; rfl)
          have d7 : decide (q.mac = p.mac) = false := decide_eq_false c7
          by_cases c8 : q.addr = p.addr
          · have d8 : decide (q.addr = p.addr) = true := decide_eq_true c8
            simp only [e1, e3, e4, bb3.eq, hia1, hc1, hia2, hc2, d7, d8, go_sem, Hold.p, HoldK.k, HoldL.K, HoldL.body, Nat.reduceBEq, Nat.reduceAdd, List.getElem?_cons_zero, List.getElem?_cons_succ, Option.bind_some, List.map_cons, List.map_nil, Nat.zero_add, if_true, List.getD_cons_zero, List.getD_cons_succ, List.contains_cons, List.contains_nil, Nat.reduceBEq, Bool.or_true, Bool.true_or, Bool.or_false, Bool.false_or, Bool.not_true, Bool.not_false, true_and, and_true, rowA_whole, push_n, set_n, push_obj, set_obj, set_push, set_push_ne, set_set, Nat.add_assoc, Nat.left_eq_add, Nat.add_eq_left, Nat.add_left_cancel_iff, Nat.reduceEqDiff, stO_1s, stO_ws, boxA_s, one_bool, one_int, one_str, one_ptr, one_nilptr, one_slice, one_eslice, one_nilslice, one_func, one_iface, one_niliface, List.all_cons, List.all_nil, List.length_cons, List.length_nil, Nat.reduceLT, Nat.reduceEqDiff, Nat.reduceLeDiff, Bool.and_true, Nat.one_ne_zero, Nat.succ_ne_zero, reduceIte, if_false, List.getElem?_cons_zero, List.set_cons_zero, List.set_cons_succ]
            exact hfail (by unfold clash; rw [d8]; simp)
          have d8 : decide (q.addr = p.addr) = false := decide_eq_false c8
          simp only [e1, e3, e4, bb3.eq, hia1, hc1, hia2, hc2, d7, d8, go_sem, Hold.p, HoldK.k, HoldL.K, HoldL.body, Nat.reduceBEq, Nat.reduceAdd, List.getElem?_cons_zero, List.getElem?_cons_succ, Option.bind_some, List.map_cons, List.map_nil, Nat.zero_add, if_true, List.getD_cons_zero, List.getD_cons_succ, List.contains_cons, List.contains_nil, Nat.reduceBEq, Bool.or_true, Bool.true_or, Bool.or_false, Bool.false_or, Bool.not_true, Bool.not_false, true_and, and_true, rowA_whole, push_n, set_n, push_obj, set_obj, set_push, set_push_ne, set_set, Nat.add_assoc, Nat.left_eq_add, Nat.add_eq_left, Nat.add_left_cancel_iff, Nat.reduceEqDiff, stO_1s, stO_ws, boxA_s, one_bool, one_int, one_str, one_ptr, one_nilptr, one_slice, one_eslice, one_nilslice, one_func, one_iface, one_niliface, List.all_cons, List.all_nil, List.length_cons, List.length_nil, Nat.reduceLT, Nat.reduceEqDiff, Nat.reduceLeDiff, Bool.and_true, Nat.one_ne_zero, Nat.succ_ne_zero, reduceIte, if_false, List.getElem?_cons_zero, List.set_cons_zero, List.set_cons_succ]
          refine ⟨_, ?_, i + 1, rfl, by omega, wr64_succ i (by omega), any_go hkt hno (by unfold clash; rw [d7, d8]; rfl)⟩
          omega
        · obtain rfl : i = k := by omega
          rw [List.take_take, Nat.min_self] at hno
          simp only [e1, e3, go_sem, Hold.p, HoldK.k, HoldL.K, HoldL.body, Nat.reduceBEq, Nat.reduceAdd, List.getElem?_cons_zero, List.getElem?_cons_succ, Option.bind_some, List.map_cons, List.map_nil, Nat.zero_add, if_true, List.getD_cons_zero, List.getD_cons_succ, List.contains_cons, List.contains_nil, Nat.reduceBEq, Bool.or_true, Bool.true_or, Bool.or_false, Bool.false_or, Bool.not_true, Bool.not_false, true_and, and_true, rowA_whole, push_n, set_n, push_obj, set_obj, set_push, set_push_ne, set_set, Nat.add_assoc, Nat.left_eq_add, Nat.add_eq_left, Nat.add_left_cancel_iff, Nat.reduceEqDiff, stO_1s, stO_ws, boxA_s, one_bool, one_int, one_str, one_ptr, one_nilptr, one_slice, one_eslice, one_nilslice, one_func, one_iface, one_niliface, List.all_cons, List.all_nil, List.length_cons, List.length_nil, Nat.reduceLT, Nat.reduceEqDiff, Nat.reduceLeDiff, Bool.and_true, Nat.one_ne_zero, Nat.succ_ne_zero, reduceIte, if_false, List.getElem?_cons_zero, List.set_cons_zero, List.set_cons_succ]
          refine ⟨_, ?_, i + 1, rfl, by omega, wr64_succ i (by omega), linksG_go hG (by rw [hst, d6, hno]; rfl), E3⟩
          omega
    · obtain rfl : k = c.ls.length := by omega
      rw [hG, Bool.true_and]
      simp only [e1, go_sem, Hold.p, HoldK.k, HoldL.K, HoldL.body, Nat.reduceBEq, Nat.reduceAdd, List.getElem?_cons_zero, List.getElem?_cons_succ, Option.bind_some, List.map_cons, List.map_nil, Nat.zero_add, if_true, List.getD_cons_zero, List.getD_cons_succ, List.contains_cons, List.contains_nil, Nat.reduceBEq, Bool.or_true, Bool.true_or, Bool.or_false, Bool.false_or, Bool.not_true, Bool.not_false, true_and, and_true, rowA_whole, push_n, set_n, push_obj, set_obj, set_push, set_push_ne, set_set, Nat.add_assoc, Nat.left_eq_add, Nat.add_eq_left, Nat.add_left_cancel_iff, Nat.reduceEqDiff, stO_1s, stO_ws, boxA_s, one_bool, one_int, one_str, one_ptr, one_nilptr, one_slice, one_eslice, one_nilslice, one_func, one_iface, one_niliface, List.all_cons, List.all_nil, List.length_cons, List.length_nil, Nat.reduceLT, Nat.reduceEqDiff, Nat.reduceLeDiff, Bool.and_true, Nat.one_ne_zero, Nat.succ_ne_zero, reduceIte, if_false, List.getElem?_cons_zero, List.set_cons_zero, List.set_cons_succ]
      have E0 := E
      refine loop_at (fun n e g => ∃ k : Nat, n = c.rs.length - k ∧ k ≤ c.rs.length ∧ e 1 = .ptr h.n 0 0 ∧ e 5 = .int .i64 (k : Nat) ∧ (c.rs.take k).all (rteOk c.ls) = true ∧ Ext g1 g) c.rs.length ?_ ?_
      · refine ⟨0, by omega, by omega, ?_⟩
        simp only [e1, go_sem, Hold.p, HoldK.k, HoldL.K, HoldL.body, Nat.reduceBEq, Nat.reduceAdd, List.getElem?_cons_zero, List.getElem?_cons_succ, Option.bind_some, List.map_cons, List.map_nil, Nat.zero_add, if_true, List.getD_cons_zero, List.getD_cons_succ, List.contains_cons, List.contains_nil, Nat.reduceBEq, Bool.or_true, Bool.true_or, Bool.or_false, Bool.false_or, Bool.not_true, Bool.not_false, true_and, and_true, rowA_whole, push_n, set_n, push_obj, set_obj, set_push, set_push_ne, set_set, Nat.add_assoc, Nat.left_eq_add, Nat.add_eq_left, Nat.add_left_cancel_iff, Nat.reduceEqDiff, stO_1s, stO_ws, boxA_s, one_bool, one_int, one_str, one_ptr, one_nilptr, one_slice, one_eslice, one_nilslice, one_func, one_iface, one_niliface, List.all_cons, List.all_nil, List.length_cons, List.length_nil, Nat.reduceLT, Nat.reduceEqDiff, Nat.reduceLeDiff, Bool.and_true, Nat.one_ne_zero, Nat.succ_ne_zero, reduceIte, if_false, List.getElem?_cons_zero, List.set_cons_zero, List.set_cons_succ]
        exact ⟨rfl, rfl, E0⟩
      · clear e1 e3 bb2 h12 E E0 hb hk
        rintro n e g ⟨k, rfl, hk, e1, e5, hG2, E⟩
        have bb2 := bb.ext E
        have h22 := h2.ext E
        simp only [e1, e5, bb2.eq, hl2, go_sem, Hold.p, HoldK.k, HoldL.K, HoldL.body, Nat.reduceBEq, Nat.reduceAdd, List.getElem?_cons_zero, List.getElem?_cons_succ, Option.bind_some, List.map_cons, List.map_nil, Nat.zero_add, if_true, List.getD_cons_zero, List.getD_cons_succ, List.contains_cons, List.contains_nil, Nat.reduceBEq, Bool.or_true, Bool.true_or, Bool.or_false, Bool.false_or, Bool.not_true, Bool.not_false, true_and, and_true, rowA_whole, push_n, set_n, push_obj, set_obj, set_push, set_push_ne, set_set, Nat.add_assoc, Nat.left_eq_add, Nat.add_eq_left, Nat.add_left_cancel_iff, Nat.reduceEqDiff, stO_1s, stO_ws, boxA_s, one_bool, one_int, one_str, one_ptr, one_nilptr, one_slice, one_eslice, one_nilslice, one_func, one_iface, one_niliface, List.all_cons, List.all_nil, List.length_cons, List.length_nil, Nat.reduceLT, Nat.reduceEqDiff, Nat.reduceLeDiff, Bool.and_true, Nat.one_ne_zero, Nat.succ_ne_zero, reduceIte, if_false, List.getElem?_cons_zero, List.set_cons_zero, List.set_cons_succ]
        refine test_dec (fun hb => ?_) (fun hb => ?_)
        · have hlt : k < c.rs.length := by omega
          have hkp : c.rs[k]? = some c.rs[k] := List.getElem?_eq_getElem hlt
          generalize c.rs[k] = p at hkp
          obtain ⟨l, j, hia, hll, hrow⟩ := h22.at (m := k) (Rte.rows_at hkp) .i64
          unfold Rte.row at hrow
          have hrw := rowA_whole [.int .i64 p.a, .int .i64 p.b, .int .i64 p.via, .int .i64 p.link, .int .i64 p.metric] 5 rfl
          have hfail : ∀ g', Ext g1 g' → rteOk c.ls p = false → (IV.bool false = .bool (c.rs.all (rteOk c.ls) && c.us.all rulOk) ∧ Ext h g') := fun g' Eg hf => by
            refine ⟨?_, e_g0.trans Eg⟩
            rw [all_no hkp hf]; rfl
          have bbl := bb2.lt
          have nbb : (h.n = g.n) = False := by simp; omega
          simp only [e1, e5, bb2.eq, hia, hrow, hrw, go_sem, Hold.p, HoldK.k, HoldL.K, HoldL.body, Nat.reduceBEq, Nat.reduceAdd, List.getElem?_cons_zero, List.getElem?_cons_succ, Option.bind_some, List.map_cons, List.map_nil, Nat.zero_add, if_true, List.getD_cons_zero, List.getD_cons_succ, List.contains_cons, List.contains_nil, Nat.reduceBEq, Bool.or_true, Bool.true_or, Bool.or_false, Bool.false_or, Bool.not_true, Bool.not_false, true_and, and_true, rowA_whole, push_n, set_n, push_obj, set_obj, set_push, set_push_ne, set_set, Nat.add_assoc, Nat.left_eq_add, Nat.add_eq_left, Nat.add_left_cancel_iff, Nat.reduceEqDiff, stO_1s, stO_ws, boxA_s, one_bool, one_int, one_str, one_ptr, one_nilptr, one_slice, one_eslice, one_nilslice, one_func, one_iface, one_niliface, List.all_cons, List.all_nil, List.length_cons, List.length_nil, Nat.reduceLT, Nat.reduceEqDiff, Nat.reduceLeDiff, Bool.and_true, Nat.one_ne_zero, Nat.succ_ne_zero, reduceIte, if_false, List.getElem?_cons_zero, List.set_cons_zero, List.set_cons_succ]
          generalize hq_g2 : IH.push g (IObj.rows [[IV.int .i64 p.a, .int .i64 p.b, .int .i64 p.via, .int .i64 p.link, .int .i64 p.metric]] 75 5 false) = g2
          have e_g2 : Ext g g2 := by rw [← hq_g2]; exact (Ext.refl _).push _
          have l_g2 : g2.n = g.n + 1 := by rw [← hq_g2]; rfl
          have bp : At g2 g.n (IObj.rows [[IV.int .i64 p.a, .int .i64 p.b, .int .i64 p.via, .int .i64 p.link, .int .i64 p.metric]] 75 5 false) := by rw [← hq_g2]; exact At.new _ _
          clear hq_g2
          have E := E.ext e_g2
          have bb2 := bb2.ext e_g2
          refine callA_of (l08OK_c _ p.a p.b p.via p.link p.metric) ?_
          rintro r g3 ⟨rfl, E3⟩
          have E := E.ext E3
          have bb2 := bb2.ext E3
          have bp := bp.ext E3
          have le_E3 := E3.le
          have hrt : rteOk c.ls p = (okRoute p.a p.b p.via p.link p.metric && decide (p.link < (c.ls.length : Int)) && !ownA c.ls p.via) := rfl
          cases d6 : okRoute p.a p.b p.via p.link p.metric
          · simp only [d6, go_sem, Hold.p, HoldK.k, HoldL.K, HoldL.body, Nat.reduceBEq, Nat.reduceAdd, List.getElem?_cons_zero, List.getElem?_cons_succ, Option.bind_some, List.map_cons, List.map_nil, Nat.zero_add, if_true, List.getD_cons_zero, List.getD_cons_succ, List.contains_cons, List.contains_nil, Nat.reduceBEq, Bool.or_true, Bool.true_or, Bool.or_false, Bool.false_or, Bool.not_true, Bool.not_false, true_and, and_true, rowA_whole, push_n, set_n, push_obj, set_obj, set_push, set_push_ne, set_set, Nat.add_assoc, Nat.left_eq_add, Nat.add_eq_left, Nat.add_left_cancel_iff, Nat.reduceEqDiff, stO_1s, stO_ws, boxA_s, one_bool, one_int, one_str, one_ptr, one_nilptr, one_slice, one_eslice, one_nilslice, one_func, one_iface, one_niliface, List.all_cons, List.all_nil, List.length_cons, List.length_nil, Nat.reduceLT, Nat.reduceEqDiff, Nat.reduceLeDiff, Bool.and_true, Nat.one_ne_zero, Nat.succ_ne_zero, reduceIte, if_false, List.getElem?_cons_zero, List.set_cons_zero, List.set_cons_succ]
            exact hfail _ E (by rw [hrt, d6]; rfl)
          by_cases c7 : (c.ls.length : Int) ≤ p.link
          · have d7 : decide ((c.ls.length : Int) ≤ p.link) = true := decide_eq_true c7
            simp only [e1, d6, bb2.eq, bp.eq, hl1, d7, go_sem, Hold.p, HoldK.k, HoldL.K, HoldL.body, Nat.reduceBEq, Nat.reduceAdd, List.getElem?_cons_zero, List.getElem?_cons_succ, Option.bind_some, List.map_cons, List.map_nil, Nat.zero_add, if_true, List.getD_cons_zero, List.getD_cons_succ, List.contains_cons, List.contains_nil, Nat.reduceBEq, Bool.or_true, Bool.true_or, Bool.or_false, Bool.false_or, Bool.not_true, Bool.not_false, true_and, and_true, rowA_whole, push_n, set_n, push_obj, set_obj, set_push, set_push_ne, set_set, Nat.add_assoc, Nat.left_eq_add, Nat.add_eq_left, Nat.add_left_cancel_iff, Nat.reduceEqDiff, stO_1s, stO_ws, boxA_s, one_bool, one_int, one_str, one_ptr, one_nilptr, one_slice, one_eslice, one_nilslice, one_func, one_iface, one_niliface, List.all_cons, List.all_nil, List.length_cons, List.length_nil, Nat.reduceLT, Nat.reduceEqDiff, Nat.reduceLeDiff, Bool.and_true, Nat.one_ne_zero, Nat.succ_ne_zero, reduceIte, if_false, List.getElem?_cons_zero, List.set_cons_zero, List.set_cons_succ]
            exact hfail _ E (by rw [hrt, show decide (p.link < (c.ls.length : Int)) = false from decide_eq_false (by omega)]; simp)
          have d7 : decide ((c.ls.length : Int) ≤ p.link) = false := decide_eq_false c7
          simp only [e1, d6, bb2.eq, bp.eq, hl1, d7, go_sem, Hold.p, HoldK.k, HoldL.K, HoldL.body, Nat.reduceBEq, Nat.reduceAdd, List.getElem?_cons_zero, List.getElem?_cons_succ, Option.bind_some, List.map_cons, List.map_nil, Nat.zero_add, if_true, List.getD_cons_zero, List.getD_cons_succ, List.contains_cons, List.contains_nil, Nat.reduceBEq, Bool.or_true, Bool.true_or, Bool.or_false, Bool.false_or, Bool.not_true, Bool.not_false, true_and, and_true, rowA_whole, push_n, set_n, push_obj, set_obj, set_push, set_push_ne, set_set, Nat.add_assoc, Nat.left_eq_add, Nat.add_eq_left, Nat.add_left_cancel_iff, Nat.reduceEqDiff, stO_1s, stO_ws, boxA_s, one_bool, one_int, one_str, one_ptr, one_nilptr, one_slice, one_eslice, one_nilslice, one_func, one_iface, one_niliface, List.all_cons, List.all_nil, List.length_cons, List.length_nil, Nat.reduceLT, Nat.reduceEqDiff, Nat.reduceLeDiff, Bool.and_true, Nat.one_ne_zero, Nat.succ_ne_zero, reduceIte, if_false, List.getElem?_cons_zero, List.set_cons_zero, List.set_cons_succ]
          refine callA_of (l18Own_c _ v1 v2 v3 c.ls c.fl c.fw c.se p.via (h1.ext E) o2 o3 m1) ?_
          rintro r g4 ⟨rfl, E4⟩
          have E := E.ext E4
          have le_E4 := E4.le
          cases d8 : ownA c.ls p.via
          · simp only [e1, e5, go_sem, Hold.p, HoldK.k, HoldL.K, HoldL.body, Nat.reduceBEq, Nat.reduceAdd, List.getElem?_cons_zero, List.getElem?_cons_succ, Option.bind_some, List.map_cons, List.map_nil, Nat.zero_add, if_true, List.getD_cons_zero, List.getD_cons_succ, List.contains_cons, List.contains_nil, Nat.reduceBEq, Bool.or_true, Bool.true_or, Bool.or_false, Bool.false_or, Bool.not_true, Bool.not_false, true_and, and_true, rowA_whole, push_n, set_n, push_obj, set_obj, set_push, set_push_ne, set_set, Nat.add_assoc, Nat.left_eq_add, Nat.add_eq_left, Nat.add_left_cancel_iff, Nat.reduceEqDiff, stO_1s, stO_ws, boxA_s, one_bool, one_int, one_str, one_ptr, one_nilptr, one_slice, one_eslice, one_nilslice, one_func, one_iface, one_niliface, List.all_cons, List.all_nil, List.length_cons, List.length_nil, Nat.reduceLT, Nat.reduceEqDiff, Nat.reduceLeDiff, Bool.and_true, Nat.one_ne_zero, Nat.succ_ne_zero, reduceIte, if_false, List.getElem?_cons_zero, List.set_cons_zero, List.set_cons_succ]
            refine ⟨_, ?_, k + 1, rfl, by omega, wr64_succ k (by omega), all_go hkp hG2 (by rw [hrt, d6, d8, show decide (p.link < (c.ls.length : Int)) = true from decide_eq_true (by omega)]; rfl), E⟩
            omega
          · simp only [go_sem, Hold.p, HoldK.k, HoldL.K, HoldL.body, Nat.reduceBEq, Nat.reduceAdd, List.getElem?_cons_zero, List.getElem?_cons_succ, Option.bind_some, List.map_cons, List.map_nil, Nat.zero_add, if_true, List.getD_cons_zero, List.getD_cons_succ, List.contains_cons, List.contains_nil, Nat.reduceBEq, Bool.or_true, Bool.true_or, Bool.or_false, Bool.false_or, Bool.not_true, Bool.not_false, true_and, and_true, rowA_whole, push_n, set_n, push_obj, set_obj, set_push, set_push_ne, set_set, Nat.add_assoc, Nat.left_eq_add, Nat.add_eq_left, Nat.add_left_cancel_iff, Nat.reduceEqDiff, stO_1s, stO_ws, boxA_s, one_bool, one_int, one_str, one_ptr, one_nilptr, one_slice, one_eslice, one_nilslice, one_func, one_iface, one_niliface, List.all_cons, List.all_nil, List.length_cons, List.length_nil, Nat.reduceLT, Nat.reduceEqDiff, Nat.reduceLeDiff, Bool.and_true, Nat.one_ne_zero, Nat.succ_ne_zero, reduceIte, if_false, List.getElem?_cons_zero, List.set_cons_zero, List.set_cons_succ]
            exact hfail _ E (by rw [hrt, d8]; simp)
        · obtain rfl : k = c.rs.length := by omega
          rw [List.take_length] at hG2
          rw [hG2, Bool.true_and]
          simp only [e1, go_sem, Hold.p, HoldK.k, HoldL.K, HoldL.body, Nat.reduceBEq, Nat.reduceAdd, List.getElem?_cons_zero, List.getElem?_cons_succ, Option.bind_some, List.map_cons, List.map_nil, Nat.zero_add, if_true, List.getD_cons_zero, List.getD_cons_succ, List.contains_cons, List.contains_nil, Nat.reduceBEq, Bool.or_true, Bool.true_or, Bool.or_false, Bool.false_or, Bool.not_true, Bool.not_false, true_and, and_true, rowA_whole, push_n, set_n, push_obj, set_obj, set_push, set_push_ne, set_set, Nat.add_assoc, Nat.left_eq_add, Nat.add_eq_left, Nat.add_left_cancel_iff, Nat.reduceEqDiff, stO_1s, stO_ws, boxA_s, one_bool, one_int, one_str, one_ptr, one_nilptr, one_slice, one_eslice, one_nilslice, one_func, one_iface, one_niliface, List.all_cons, List.all_nil, List.length_cons, List.length_nil, Nat.reduceLT, Nat.reduceEqDiff, Nat.reduceLeDiff, Bool.and_true, Nat.one_ne_zero, Nat.succ_ne_zero, reduceIte, if_false, List.getElem?_cons_zero, List.set_cons_zero, List.set_cons_succ]
          have E0 := E
          refine loop_at (fun n e g => ∃ k : Nat, n = c.us.length - k ∧ k ≤ c.us.length ∧ e 1 = .ptr h.n 0 0 ∧ e 7 = .int .i64 (k : Nat) ∧ (c.us.take k).all rulOk = true ∧ Ext g1 g) c.us.length ?_ ?_
          · refine ⟨0, by omega, by omega, ?_⟩
            simp only [e1, go_sem, Hold.p, HoldK.k, HoldL.K, HoldL.body, Nat.reduceBEq, Nat.reduceAdd, List.getElem?_cons_zero, List.getElem?_cons_succ, Option.bind_some, List.map_cons, List.map_nil, Nat.zero_add, if_true, List.getD_cons_zero, List.getD_cons_succ, List.contains_cons, List.contains_nil, Nat.reduceBEq, Bool.or_true, Bool.true_or, Bool.or_false, Bool.false_or, Bool.not_true, Bool.not_false, true_and, and_true, rowA_whole, push_n, set_n, push_obj, set_obj, set_push, set_push_ne, set_set, Nat.add_assoc, Nat.left_eq_add, Nat.add_eq_left, Nat.add_left_cancel_iff, Nat.reduceEqDiff, stO_1s, stO_ws, boxA_s, one_bool, one_int, one_str, one_ptr, one_nilptr, one_slice, one_eslice, one_nilslice, one_func, one_iface, one_niliface, List.all_cons, List.all_nil, List.length_cons, List.length_nil, Nat.reduceLT, Nat.reduceEqDiff, Nat.reduceLeDiff, Bool.and_true, Nat.one_ne_zero, Nat.succ_ne_zero, reduceIte, if_false, List.getElem?_cons_zero, List.set_cons_zero, List.set_cons_succ]
            exact ⟨rfl, rfl, E0⟩
          · clear e1 e5 bb2 h22 E E0 hb hk
            rintro n e g ⟨k, rfl, hk, e1, e7, hG3, E⟩
            have bb2 := bb.ext E
            have h32 := h3.ext E
            simp only [e1, e7, bb2.eq, hl3, go_sem, Hold.p, HoldK.k, HoldL.K, HoldL.body, Nat.reduceBEq, Nat.reduceAdd, List.getElem?_cons_zero, List.getElem?_cons_succ, Option.bind_some, List.map_cons, List.map_nil, Nat.zero_add, if_true, List.getD_cons_zero, List.getD_cons_succ, List.contains_cons, List.contains_nil, Nat.reduceBEq, Bool.or_true, Bool.true_or, Bool.or_false, Bool.false_or, Bool.not_true, Bool.not_false, true_and, and_true, rowA_whole, push_n, set_n, push_obj, set_obj, set_push, set_push_ne, set_set, Nat.add_assoc, Nat.left_eq_add, Nat.add_eq_left, Nat.add_left_cancel_iff, Nat.reduceEqDiff, stO_1s, stO_ws, boxA_s, one_bool, one_int, one_str, one_ptr, one_nilptr, one_slice, one_eslice, one_nilslice, one_func, one_iface, one_niliface, List.all_cons, List.all_nil, List.length_cons, List.length_nil, Nat.reduceLT, Nat.reduceEqDiff, Nat.reduceLeDiff, Bool.and_true, Nat.one_ne_zero, Nat.succ_ne_zero, reduceIte, if_false, List.getElem?_cons_zero, List.set_cons_zero, List.set_cons_succ]
            refine test_dec (fun hb => ?_) (fun hb => ?_)
            · have hlt : k < c.us.length := by omega
              have hkp : c.us[k]? = some c.us[k] := List.getElem?_eq_getElem hlt
              generalize c.us[k] = p at hkp
              obtain ⟨l, j, hia, hll, hrow⟩ := h32.at (m := k) (Rul.rows_at hkp) .i64
              have hrw := rowA_whole p.row 12 rfl
              simp only [e1, e7, bb2.eq, hia, hrow, hrw, go_sem, Hold.p, HoldK.k, HoldL.K, HoldL.body, Nat.reduceBEq, Nat.reduceAdd, List.getElem?_cons_zero, List.getElem?_cons_succ, Option.bind_some, List.map_cons, List.map_nil, Nat.zero_add, if_true, List.getD_cons_zero, List.getD_cons_succ, List.contains_cons, List.contains_nil, Nat.reduceBEq, Bool.or_true, Bool.true_or, Bool.or_false, Bool.false_or, Bool.not_true, Bool.not_false, true_and, and_true, rowA_whole, push_n, set_n, push_obj, set_obj, set_push, set_push_ne, set_set, Nat.add_assoc, Nat.left_eq_add, Nat.add_eq_left, Nat.add_left_cancel_iff, Nat.reduceEqDiff, stO_1s, stO_ws, boxA_s, one_bool, one_int, one_str, one_ptr, one_nilptr, one_slice, one_eslice, one_nilslice, one_func, one_iface, one_niliface, List.all_cons, List.all_nil, List.length_cons, List.length_nil, Nat.reduceLT, Nat.reduceEqDiff, Nat.reduceLeDiff, Bool.and_true, Nat.one_ne_zero, Nat.succ_ne_zero, reduceIte, if_false, List.getElem?_cons_zero, List.set_cons_zero, List.set_cons_succ]
              refine callA_of (l09OK_c _ p.action p.dir p.proto p.sa p.sb p.sl p.sh p.da p.db p.dl p.dh p.state) ?_
              rintro r g3 ⟨rfl, E3⟩
              have E := E.ext E3
              have le_E3 := E3.le
              have hru : rulOk p = okRule p.action p.dir p.proto p.sa p.sb p.sl p.sh p.da p.db p.dl p.dh p.state := rfl
              rw [← hru]
              cases d6 : rulOk p
              · simp only [d6, go_sem, Hold.p, HoldK.k, HoldL.K, HoldL.body, Nat.reduceBEq, Nat.reduceAdd, List.getElem?_cons_zero, List.getElem?_cons_succ, Option.bind_some, List.map_cons, List.map_nil, Nat.zero_add, if_true, List.getD_cons_zero, List.getD_cons_succ, List.contains_cons, List.contains_nil, Nat.reduceBEq, Bool.or_true, Bool.true_or, Bool.or_false, Bool.false_or, Bool.not_true, Bool.not_false, true_and, and_true, rowA_whole, push_n, set_n, push_obj, set_obj, set_push, set_push_ne, set_set, Nat.add_assoc, Nat.left_eq_add, Nat.add_eq_left, Nat.add_left_cancel_iff, Nat.reduceEqDiff, stO_1s, stO_ws, boxA_s, one_bool, one_int, one_str, one_ptr, one_nilptr, one_slice, one_eslice, one_nilslice, one_func, one_iface, one_niliface, List.all_cons, List.all_nil, List.length_cons, List.length_nil, Nat.reduceLT, Nat.reduceEqDiff, Nat.reduceLeDiff, Bool.and_true, Nat.one_ne_zero, Nat.succ_ne_zero, reduceIte, if_false, List.getElem?_cons_zero, List.set_cons_zero, List.set_cons_succ]
                exact ⟨by rw [all_no hkp d6]; rfl, e_g0.trans E⟩
              · simp only [e1, e7, d6, go_sem, Hold.p, HoldK.k, HoldL.K, HoldL.body, Nat.reduceBEq, Nat.reduceAdd, List.getElem?_cons_zero, List.getElem?_cons_succ, Option.bind_some, List.map_cons, List.map_nil, Nat.zero_add, if_true, List.getD_cons_zero, List.getD_cons_succ, List.contains_cons, List.contains_nil, Nat.reduceBEq, Bool.or_true, Bool.true_or, Bool.or_false, Bool.false_or, Bool.not_true, Bool.not_false, true_and, and_true, rowA_whole, push_n, set_n, push_obj, set_obj, set_push, set_push_ne, set_set, Nat.add_assoc, Nat.left_eq_add, Nat.add_eq_left, Nat.add_left_cancel_iff, Nat.reduceEqDiff, stO_1s, stO_ws, boxA_s, one_bool, one_int, one_str, one_ptr, one_nilptr, one_slice, one_eslice, one_nilslice, one_func, one_iface, one_niliface, List.all_cons, List.all_nil, List.length_cons, List.length_nil, Nat.reduceLT, Nat.reduceEqDiff, Nat.reduceLeDiff, Bool.and_true, Nat.one_ne_zero, Nat.succ_ne_zero, reduceIte, if_false, List.getElem?_cons_zero, List.set_cons_zero, List.set_cons_succ]
                refine ⟨_, ?_, k + 1, rfl, by omega, wr64_succ k (by omega), all_go hkp hG3 d6, E⟩
                omega
            · obtain rfl : k = c.us.length := by omega
              rw [List.take_length] at hG3
              simp only [hG3, go_sem, Hold.p, HoldK.k, HoldL.K, HoldL.body, Nat.reduceBEq, Nat.reduceAdd, List.getElem?_cons_zero, List.getElem?_cons_succ, Option.bind_some, List.map_cons, List.map_nil, Nat.zero_add, if_true, List.getD_cons_zero, List.getD_cons_succ, List.contains_cons, List.contains_nil, Nat.reduceBEq, Bool.or_true, Bool.true_or, Bool.or_false, Bool.false_or, Bool.not_true, Bool.not_false, true_and, and_true, rowA_whole, push_n, set_n, push_obj, set_obj, set_push, set_push_ne, set_set, Nat.add_assoc, Nat.left_eq_add, Nat.add_eq_left, Nat.add_left_cancel_iff, Nat.reduceEqDiff, stO_1s, stO_ws, boxA_s, one_bool, one_int, one_str, one_ptr, one_nilptr, one_slice, one_eslice, one_nilslice, one_func, one_iface, one_niliface, List.all_cons, List.all_nil, List.length_cons, List.length_nil, Nat.reduceLT, Nat.reduceEqDiff, Nat.reduceLeDiff, Bool.and_true, Nat.one_ne_zero, Nat.succ_ne_zero, reduceIte, if_false, List.getElem?_cons_zero, List.set_cons_zero, List.set_cons_succ]
              exact e_g0.trans E
end Go.Proofs.Ytcmcfmgabafljaa

namespace Go.Proofs.Ytcmcfmgabafljaa
open Go Go.IW

set_option maxRecDepth 20000 in
theorem implHostOK_c (h : IH) (v1 v2 v3 : IV) (c : Cfg) (h1 : SlR h 5 v1 (Lnk.rows c.ls)) (h2 : SlR h 5 v2 (Rte.rows c.rs)) (h3 : SlR h 12 v3 (Rul.rows c.us)) (m1 : c.ls.length ≤ 1048576) (m2 : c.rs.length ≤ 1048576) (m3 : c.us.length ≤ 1048576) :
    ICalls Try.prog 9 [.agg [v1, v2, v3, .bool c.fl, .bool c.fw, .int .i64 c.se]] h fun r h' => r = .bool (okHost c) ∧ Ext h h' := by
  refine icalls (.of ok9) (Nat.le_of_ble_eq_true rfl) ?_
  unfold c9
  have o1 := h1.one
  have o2 := h2.one
  have o3 := h3.one
  simp only [o1, o2, o3, go_sem, Hold.p, HoldK.k, HoldL.K, HoldL.body, Nat.reduceBEq, Nat.reduceAdd, List.getElem?_cons_zero, List.getElem?_cons_succ, Option.bind_some, List.map_cons, List.map_nil, Nat.zero_add, if_true, List.getD_cons_zero, List.getD_cons_succ, List.contains_cons, List.contains_nil, Nat.reduceBEq, Bool.or_true, Bool.true_or, Bool.or_false, Bool.false_or, Bool.not_true, Bool.not_false, true_and, and_true, rowA_whole, push_n, set_n, push_obj, set_obj, set_push, set_push_ne, set_set, Nat.add_assoc, Nat.left_eq_add, Nat.add_eq_left, Nat.add_left_cancel_iff, Nat.reduceEqDiff, stO_1s, stO_ws, boxA_s, one_bool, one_int, one_str, one_ptr, one_nilptr, one_slice, one_eslice, one_nilslice, one_func, one_iface, one_niliface, List.all_cons, List.all_nil, List.length_cons, List.length_nil, Nat.reduceLT, Nat.reduceEqDiff, Nat.reduceLeDiff, Bool.and_true, Nat.one_ne_zero, Nat.succ_ne_zero, reduceIte, if_false, List.getElem?_cons_zero, List.set_cons_zero, List.set_cons_succ]
  generalize hq_g0 : IH.push h (IObj.rows [[v1, v2, v3, IV.bool c.fl, IV.bool c.fw, IV.int .i64 c.se]] 33 6 false) = g0
  have e_g0 : Ext h g0 := by rw [← hq_g0]; exact (Ext.refl _).push _
  have l_g0 : g0.n = h.n + 1 := by rw [← hq_g0]; rfl
  have bb : At g0 h.n (IObj.rows [[v1, v2, v3, IV.bool c.fl, IV.bool c.fw, IV.int .i64 c.se]] 33 6 false) := by rw [← hq_g0]; exact At.new _ _
  clear hq_g0
  have h1 := h1.ext e_g0
  have h2 := h2.ext e_g0
  have h3 := h3.ext e_g0
  have hl1 := h1.lenF
  have hl2 := h2.lenF
  have hl3 := h3.lenF
  rw [Lnk.rows_len] at hl1
  rw [Rte.rows_len] at hl2
  rw [Rul.rows_len] at hl3
  by_cases c1 : (c.ls.length : Int) < 1
  · have d1 : decide ((c.ls.length : Int) < 1) = true := decide_eq_true c1
    simp only [bb.eq, hl1, d1, go_sem, Hold.p, HoldK.k, HoldL.K, HoldL.body, Nat.reduceBEq, Nat.reduceAdd, List.getElem?_cons_zero, List.getElem?_cons_succ, Option.bind_some, List.map_cons, List.map_nil, Nat.zero_add, if_true, List.getD_cons_zero, List.getD_cons_succ, List.contains_cons, List.contains_nil, Nat.reduceBEq, Bool.or_true, Bool.true_or, Bool.or_false, Bool.false_or, Bool.not_true, Bool.not_false, true_and, and_true, rowA_whole, push_n, set_n, push_obj, set_obj, set_push, set_push_ne, set_set, Nat.add_assoc, Nat.left_eq_add, Nat.add_eq_left, Nat.add_left_cancel_iff, Nat.reduceEqDiff, stO_1s, stO_ws, boxA_s, one_bool, one_int, one_str, one_ptr, one_nilptr, one_slice, one_eslice, one_nilslice, one_func, one_iface, one_niliface, List.all_cons, List.all_nil, List.length_cons, List.length_nil, Nat.reduceLT, Nat.reduceEqDiff, Nat.reduceLeDiff, Bool.and_true, Nat.one_ne_zero, Nat.succ_ne_zero, reduceIte, if_false, List.getElem?_cons_zero, List.set_cons_zero, List.set_cons_succ]
    exact ⟨by unfold okHost; rw [show decide (1 ≤ (c.ls.length : Int)) = false from decide_eq_false (by omega)]; simp only [Bool.false_and], e_g0⟩
  have d1 : decide ((c.ls.length : Int) < 1) = false := decide_eq_false c1
  have d1' : decide (1 ≤ (c.ls.length : Int)) = true := decide_eq_true (by omega)
  by_cases c2 : 8 < (c.ls.length : Int)
  · have d2 : decide (8 < (c.ls.length : Int)) = true := decide_eq_true c2
    simp only [bb.eq, hl1, d1, d2, go_sem, Hold.p, HoldK.k, HoldL.K, HoldL.body, Nat.reduceBEq, Nat.reduceAdd, List.getElem?_cons_zero, List.getElem?_cons_succ, Option.bind_some, List.map_cons, List.map_nil, Nat.zero_add, if_true, List.getD_cons_zero, List.getD_cons_succ, List.contains_cons, List.contains_nil, Nat.reduceBEq, Bool.or_true, Bool.true_or, Bool.or_false, Bool.false_or, Bool.not_true, Bool.not_false, true_and, and_true, rowA_whole, push_n, set_n, push_obj, set_obj, set_push, set_push_ne, set_set, Nat.add_assoc, Nat.left_eq_add, Nat.add_eq_left, Nat.add_left_cancel_iff, Nat.reduceEqDiff, stO_1s, stO_ws, boxA_s, one_bool, one_int, one_str, one_ptr, one_nilptr, one_slice, one_eslice, one_nilslice, one_func, one_iface, one_niliface, List.all_cons, List.all_nil, List.length_cons, List.length_nil, Nat.reduceLT, Nat.reduceEqDiff, Nat.reduceLeDiff, Bool.and_true, Nat.one_ne_zero, Nat.succ_ne_zero, reduceIte, if_false, List.getElem?_cons_zero, List.set_cons_zero, List.set_cons_succ]
    exact ⟨by unfold okHost; rw [show decide ((c.ls.length : Int) ≤ 8) = false from decide_eq_false (by omega)]; simp only [Bool.false_and, Bool.and_false], e_g0⟩
  have d2 : decide (8 < (c.ls.length : Int)) = false := decide_eq_false c2
  have d2' : decide ((c.ls.length : Int) ≤ 8) = true := decide_eq_true (by omega)
  by_cases c3 : 64 < (c.rs.length : Int)
  · have d3 : decide (64 < (c.rs.length : Int)) = true := decide_eq_true c3
    simp only [bb.eq, hl1, hl2, d1, d2, d3, go_sem, Hold.p, HoldK.k, HoldL.K, HoldL.body, Nat.reduceBEq, Nat.reduceAdd, List.getElem?_cons_zero, List.getElem?_cons_succ, Option.bind_some, List.map_cons, List.map_nil, Nat.zero_add, if_true, List.getD_cons_zero, List.getD_cons_succ, List.contains_cons, List.contains_nil, Nat.reduceBEq, Bool.or_true, Bool.true_or, Bool.or_false, Bool.false_or, Bool.not_true, Bool.not_false, true_and, and_true, rowA_whole, push_n, set_n, push_obj, set_obj, set_push, set_push_ne, set_set, Nat.add_assoc, Nat.left_eq_add, Nat.add_eq_left, Nat.add_left_cancel_iff, Nat.reduceEqDiff, stO_1s, stO_ws, boxA_s, one_bool, one_int, one_str, one_ptr, one_nilptr, one_slice, one_eslice, one_nilslice, one_func, one_iface, one_niliface, List.all_cons, List.all_nil, List.length_cons, List.length_nil, Nat.reduceLT, Nat.reduceEqDiff, Nat.reduceLeDiff, Bool.and_true, Nat.one_ne_zero, Nat.succ_ne_zero, reduceIte, if_false, List.getElem?_cons_zero, List.set_cons_zero, List.set_cons_succ]
    exact ⟨by unfold okHost; rw [show decide ((c.rs.length : Int) ≤ 64) = false from decide_eq_false (by omega)]; simp only [Bool.false_and, Bool.and_false], e_g0⟩
  have d3 : decide (64 < (c.rs.length : Int)) = false := decide_eq_false c3
  have d3' : decide ((c.rs.length : Int) ≤ 64) = true := decide_eq_true (by omega)
  by_cases c4 : 64 < (c.us.length : Int)
  · have d4 : decide (64 < (c.us.length : Int)) = true := decide_eq_true c4
    simp only [bb.eq, hl1, hl2, hl3, d1, d2, d3, d4, go_sem, Hold.p, HoldK.k, HoldL.K, HoldL.body, Nat.reduceBEq, Nat.reduceAdd, List.getElem?_cons_zero, List.getElem?_cons_succ, Option.bind_some, List.map_cons, List.map_nil, Nat.zero_add, if_true, List.getD_cons_zero, List.getD_cons_succ, List.contains_cons, List.contains_nil, Nat.reduceBEq, Bool.or_true, Bool.true_or, Bool.or_false, Bool.false_or, Bool.not_true, Bool.not_false, true_and, and_true, rowA_whole, push_n, set_n, push_obj, set_obj, set_push, set_push_ne, set_set, Nat.add_assoc, Nat.left_eq_add, Nat.add_eq_left, Nat.add_left_cancel_iff, Nat.reduceEqDiff, stO_1s, stO_ws, boxA_s, one_bool, one_int, one_str, one_ptr, one_nilptr, one_slice, one_eslice, one_nilslice, one_func, one_iface, one_niliface, List.all_cons, List.all_nil, List.length_cons, List.length_nil, Nat.reduceLT, Nat.reduceEqDiff, Nat.reduceLeDiff, Bool.and_true, Nat.one_ne_zero, Nat.succ_ne_zero, reduceIte, if_false, List.getElem?_cons_zero, List.set_cons_zero, List.set_cons_succ]
    exact ⟨by unfold okHost; rw [show decide ((c.us.length : Int) ≤ 64) = false from decide_eq_false (by omega)]; simp only [Bool.false_and, Bool.and_false], e_g0⟩
  have d4 : decide (64 < (c.us.length : Int)) = false := decide_eq_false c4
  have d4' : decide ((c.us.length : Int) ≤ 64) = true := decide_eq_true (by omega)
  simp only [bb.eq, hl1, hl2, hl3, d1, d2, d3, d4, go_sem, Hold.p, HoldK.k, HoldL.K, HoldL.body, Nat.reduceBEq, Nat.reduceAdd, List.getElem?_cons_zero, List.getElem?_cons_succ, Option.bind_some, List.map_cons, List.map_nil, Nat.zero_add, if_true, List.getD_cons_zero, List.getD_cons_succ, List.contains_cons, List.contains_nil, Nat.reduceBEq, Bool.or_true, Bool.true_or, Bool.or_false, Bool.false_or, Bool.not_true, Bool.not_false, true_and, and_true, rowA_whole, push_n, set_n, push_obj, set_obj, set_push, set_push_ne, set_set, Nat.add_assoc, Nat.left_eq_add, Nat.add_eq_left, Nat.add_left_cancel_iff, Nat.reduceEqDiff, stO_1s, stO_ws, boxA_s, one_bool, one_int, one_str, one_ptr, one_nilptr, one_slice, one_eslice, one_nilslice, one_func, one_iface, one_niliface, List.all_cons, List.all_nil, List.length_cons, List.length_nil, Nat.reduceLT, Nat.reduceEqDiff, Nat.reduceLeDiff, Bool.and_true, Nat.one_ne_zero, Nat.succ_ne_zero, reduceIte, if_false, List.getElem?_cons_zero, List.set_cons_zero, List.set_cons_succ]
  refine callA_of (isAddr_c _ c.se) ?_
  rintro r g1 ⟨rfl, rfl⟩
  have hdef : okHost c = (okA c.se && linksG c.ls c.ls.length && c.rs.all (rteOk c.ls) && c.us.all rulOk) := by
    unfold okHost; rw [d1', d2', d3', d4']; rfl
  rw [hdef]
  cases d5 : okA c.se
  · simp only [d5, Bool.false_and, go_sem, Hold.p, HoldK.k, HoldL.K, HoldL.body, Nat.reduceBEq, Nat.reduceAdd, List.getElem?_cons_zero, List.getElem?_cons_succ, Option.bind_some, List.map_cons, List.map_nil, Nat.zero_add, if_true, List.getD_cons_zero, List.getD_cons_succ, List.contains_cons, List.contains_nil, Nat.reduceBEq, Bool.or_true, Bool.true_or, Bool.or_false, Bool.false_or, Bool.not_true, Bool.not_false, true_and, and_true, rowA_whole, push_n, set_n, push_obj, set_obj, set_push, set_push_ne, set_set, Nat.add_assoc, Nat.left_eq_add, Nat.add_eq_left, Nat.add_left_cancel_iff, Nat.reduceEqDiff, stO_1s, stO_ws, boxA_s, one_bool, one_int, one_str, one_ptr, one_nilptr, one_slice, one_eslice, one_nilslice, one_func, one_iface, one_niliface, List.all_cons, List.all_nil, List.length_cons, List.length_nil, Nat.reduceLT, Nat.reduceEqDiff, Nat.reduceLeDiff, Bool.and_true, Nat.one_ne_zero, Nat.succ_ne_zero, reduceIte, if_false, List.getElem?_cons_zero, List.set_cons_zero, List.set_cons_succ]
    exact e_g0
  simp only [d5, Bool.true_and, go_sem, Hold.p, HoldK.k, HoldL.K, HoldL.body, Nat.reduceBEq, Nat.reduceAdd, List.getElem?_cons_zero, List.getElem?_cons_succ, Option.bind_some, List.map_cons, List.map_nil, Nat.zero_add, if_true, List.getD_cons_zero, List.getD_cons_succ, List.contains_cons, List.contains_nil, Nat.reduceBEq, Bool.or_true, Bool.true_or, Bool.or_false, Bool.false_or, Bool.not_true, Bool.not_false, true_and, and_true, rowA_whole, push_n, set_n, push_obj, set_obj, set_push, set_push_ne, set_set, Nat.add_assoc, Nat.left_eq_add, Nat.add_eq_left, Nat.add_left_cancel_iff, Nat.reduceEqDiff, stO_1s, stO_ws, boxA_s, one_bool, one_int, one_str, one_ptr, one_nilptr, one_slice, one_eslice, one_nilslice, one_func, one_iface, one_niliface, List.all_cons, List.all_nil, List.length_cons, List.length_nil, Nat.reduceLT, Nat.reduceEqDiff, Nat.reduceLeDiff, Bool.and_true, Nat.one_ne_zero, Nat.succ_ne_zero, reduceIte, if_false, List.getElem?_cons_zero, List.set_cons_zero, List.set_cons_succ]
  simp only [bb.eq, hl1, go_sem, Hold.p, HoldK.k, HoldL.K, HoldL.body, Nat.reduceBEq, Nat.reduceAdd, List.getElem?_cons_zero, List.getElem?_cons_succ, Option.bind_some, List.map_cons, List.map_nil, Nat.zero_add, if_true, List.getD_cons_zero, List.getD_cons_succ, List.contains_cons, List.contains_nil, Nat.reduceBEq, Bool.or_true, Bool.true_or, Bool.or_false, Bool.false_or, Bool.not_true, Bool.not_false, true_and, and_true, rowA_whole, push_n, set_n, push_obj, set_obj, set_push, set_push_ne, set_set, Nat.add_assoc, Nat.left_eq_add, Nat.add_eq_left, Nat.add_left_cancel_iff, Nat.reduceEqDiff, stO_1s, stO_ws, boxA_s, one_bool, one_int, one_str, one_ptr, one_nilptr, one_slice, one_eslice, one_nilslice, one_func, one_iface, one_niliface, List.all_cons, List.all_nil, List.length_cons, List.length_nil, Nat.reduceLT, Nat.reduceEqDiff, Nat.reduceLeDiff, Bool.and_true, Nat.one_ne_zero, Nat.succ_ne_zero, reduceIte, if_false, List.getElem?_cons_zero, List.set_cons_zero, List.set_cons_succ]
  refine loop_at (fun n e h' => ∃ k : Nat, n = c.ls.length - k ∧ k ≤ c.ls.length ∧ e 1 = .ptr h.n 0 0 ∧ e 42 = v1 ∧ e 43 = .int .i64 (c.ls.length : Nat) ∧ e 44 = .int .i64 (k : Nat) ∧ linksG c.ls k = true ∧ Ext g1 h') c.ls.length ?_ ?_
  · refine ⟨0, by omega, by omega, ?_⟩
    simp only [go_sem, Hold.p, HoldK.k, HoldL.K, HoldL.body, Nat.reduceBEq, Nat.reduceAdd, List.getElem?_cons_zero, List.getElem?_cons_succ, Option.bind_some, List.map_cons, List.map_nil, Nat.zero_add, if_true, List.getD_cons_zero, List.getD_cons_succ, List.contains_cons, List.contains_nil, Nat.reduceBEq, Bool.or_true, Bool.true_or, Bool.or_false, Bool.false_or, Bool.not_true, Bool.not_false, true_and, and_true, rowA_whole, push_n, set_n, push_obj, set_obj, set_push, set_push_ne, set_set, Nat.add_assoc, Nat.left_eq_add, Nat.add_eq_left, Nat.add_left_cancel_iff, Nat.reduceEqDiff, stO_1s, stO_ws, boxA_s, one_bool, one_int, one_str, one_ptr, one_nilptr, one_slice, one_eslice, one_nilslice, one_func, one_iface, one_niliface, List.all_cons, List.all_nil, List.length_cons, List.length_nil, Nat.reduceLT, Nat.reduceEqDiff, Nat.reduceLeDiff, Bool.and_true, Nat.one_ne_zero, Nat.succ_ne_zero, reduceIte, if_false, List.getElem?_cons_zero, List.set_cons_zero, List.set_cons_succ]
    exact ⟨rfl, rfl, Ext.refl _⟩
  · rintro n e g ⟨k, rfl, hk, e1, e42, e43, e44, hG, E⟩
    have bb2 := bb.ext E
    have h12 := h1.ext E
    simp only [e1, e42, e43, e44, go_sem, Hold.p, HoldK.k, HoldL.K, HoldL.body, Nat.reduceBEq, Nat.reduceAdd, List.getElem?_cons_zero, List.getElem?_cons_succ, Option.bind_some, List.map_cons, List.map_nil, Nat.zero_add, if_true, List.getD_cons_zero, List.getD_cons_succ, List.contains_cons, List.contains_nil, Nat.reduceBEq, Bool.or_true, Bool.true_or, Bool.or_false, Bool.false_or, Bool.not_true, Bool.not_false, true_and, and_true, rowA_whole, push_n, set_n, push_obj, set_obj, set_push, set_push_ne, set_set, Nat.add_assoc, Nat.left_eq_add, Nat.add_eq_left, Nat.add_left_cancel_iff, Nat.reduceEqDiff, stO_1s, stO_ws, boxA_s, one_bool, one_int, one_str, one_ptr, one_nilptr, one_slice, one_eslice, one_nilslice, one_func, one_iface, one_niliface, List.all_cons, List.all_nil, List.length_cons, List.length_nil, Nat.reduceLT, Nat.reduceEqDiff, Nat.reduceLeDiff, Bool.and_true, Nat.one_ne_zero, Nat.succ_ne_zero, reduceIte, if_false, List.getElem?_cons_zero, List.set_cons_zero, List.set_cons_succ]
    refine test_dec (fun hb => ?_) (fun hb => ?_)
    · have hlt : k < c.ls.length := by omega
      have hkp : c.ls[k]? = some c.ls[k] := List.getElem?_eq_getElem hlt
      generalize c.ls[k] = p at hkp
      have hst := stepL_at hkp
      obtain ⟨l, j, hia, hll, hrow⟩ := h12.at (m := k) (Lnk.rows_at hkp) .i64
      unfold Lnk.row at hrow
      have hrw := rowA_whole [.int .i64 p.mac, .int .i64 p.addr, .int .i64 p.a, .int .i64 p.b, .int .i64 p.mtu] 5 rfl
      have hr2 : rowA (some [IV.int .i64 p.mac, IV.int .i64 p.addr, IV.int .i64 p.a, IV.int .i64 p.b, IV.int .i64 p.mtu]) 2 2 = some (.agg [.int .i64 p.a, .int .i64 p.b]) := rfl
      have hfail : ∀ g', Ext g1 g' → stepL c.ls k = false → (IV.bool false = .bool (linksG c.ls c.ls.length && c.rs.all (rteOk c.ls) && c.us.all rulOk) ∧ Ext h g') := fun g' Eg hf => by
        refine ⟨?_, e_g0.trans Eg⟩
        rw [linksG_no hlt hf]; rfl
      have hbad : linkOk p = false → stepL c.ls k = false := fun hf => by rw [hst, hf]; rfl
      have hlk : linkOk p = (inR p.mac 0 281474976710654 && okP p.a p.b && decide (kindA p.addr = 6) && hasP p.a p.b p.addr && !decide (p.addr = bcast p.a p.b) && inR p.mtu 128 1500) := rfl
      have bbl := bb2.lt
      have nbb : (h.n = g.n) = False := by simp; omega
      simp only [e1, e42, e43, e44, hia, hrow, hrw, go_sem, Hold.p, HoldK.k, HoldL.K, HoldL.body, Nat.reduceBEq, Nat.reduceAdd, List.getElem?_cons_zero, List.getElem?_cons_succ, Option.bind_some, List.map_cons, List.map_nil, Nat.zero_add, if_true, List.getD_cons_zero, List.getD_cons_succ, List.contains_cons, List.contains_nil, Nat.reduceBEq, Bool.or_true, Bool.true_or, Bool.or_false, Bool.false_or, Bool.not_true, Bool.not_false, true_and, and_true, rowA_whole, push_n, set_n, push_obj, set_obj, set_push, set_push_ne, set_set, Nat.add_assoc, Nat.left_eq_add, Nat.add_eq_left, Nat.add_left_cancel_iff, Nat.reduceEqDiff, stO_1s, stO_ws, boxA_s, one_bool, one_int, one_str, one_ptr, one_nilptr, one_slice, one_eslice, one_nilslice, one_func, one_iface, one_niliface, List.all_cons, List.all_nil, List.length_cons, List.length_nil, Nat.reduceLT, Nat.reduceEqDiff, Nat.reduceLeDiff, Bool.and_true, Nat.one_ne_zero, Nat.succ_ne_zero, reduceIte, if_false, List.getElem?_cons_zero, List.set_cons_zero, List.set_cons_succ]
      generalize hq_g2 : IH.push g (IObj.rows [[IV.int .i64 p.mac, IV.int .i64 p.addr, IV.int .i64 p.a, IV.int .i64 p.b, IV.int .i64 p.mtu]] 73 5 false) = g2
      have e_g2 : Ext g g2 := by rw [← hq_g2]; exact (Ext.refl _).push _
      have l_g2 : g2.n = g.n + 1 := by rw [← hq_g2]; rfl
      have bp : At g2 g.n (IObj.rows [[IV.int .i64 p.mac, IV.int .i64 p.addr, IV.int .i64 p.a, IV.int .i64 p.b, IV.int .i64 p.mtu]] 73 5 false) := by rw [← hq_g2]; exact At.new _ _
      clear hq_g2
      have E := E.ext e_g2
      have bb2 := bb2.ext e_g2
      generalize hq : g.n = q at bp l_g2 nbb ⊢
      try simp only [bp.eq, go_sem, Hold.p, HoldK.k, HoldL.K, HoldL.body, Nat.reduceBEq, Nat.reduceAdd, List.getElem?_cons_zero, List.getElem?_cons_succ, Option.bind_some, List.map_cons, List.map_nil, Nat.zero_add, if_true, List.getD_cons_zero, List.getD_cons_succ, List.contains_cons, List.contains_nil, Nat.reduceBEq, Bool.or_true, Bool.true_or, Bool.or_false, Bool.false_or, Bool.not_true, Bool.not_false, true_and, and_true, rowA_whole, push_n, set_n, push_obj, set_obj, set_push, set_push_ne, set_set, Nat.add_assoc, Nat.left_eq_add, Nat.add_eq_left, Nat.add_left_cancel_iff, Nat.reduceEqDiff, stO_1s, stO_ws, boxA_s, one_bool, one_int, one_str, one_ptr, one_nilptr, one_slice, one_eslice, one_nilslice, one_func, one_iface, one_niliface, List.all_cons, List.all_nil, List.length_cons, List.length_nil, Nat.reduceLT, Nat.reduceEqDiff, Nat.reduceLeDiff, Bool.and_true, Nat.one_ne_zero, Nat.succ_ne_zero, reduceIte, if_false, List.getElem?_cons_zero, List.set_cons_zero, List.set_cons_succ]
      refine callA_of (isMac_c _ p.mac) ?_
      rintro r g3 ⟨rfl, rfl⟩
      cases d6 : inR p.mac 0 281474976710655
      · simp only [d6, bp.eq, go_sem, Hold.p, HoldK.k, HoldL.K, HoldL.body, Nat.reduceBEq, Nat.reduceAdd, List.getElem?_cons_zero, List.getElem?_cons_succ, Option.bind_some, List.map_cons, List.map_nil, Nat.zero_add, if_true, List.getD_cons_zero, List.getD_cons_succ, List.contains_cons, List.contains_nil, Nat.reduceBEq, Bool.or_true, Bool.true_or, Bool.or_false, Bool.false_or, Bool.not_true, Bool.not_false, true_and, and_true, rowA_whole, push_n, set_n, push_obj, set_obj, set_push, set_push_ne, set_set, Nat.add_assoc, Nat.left_eq_add, Nat.add_eq_left, Nat.add_left_cancel_iff, Nat.reduceEqDiff, stO_1s, stO_ws, boxA_s, one_bool, one_int, one_str, one_ptr, one_nilptr, one_slice, one_eslice, one_nilslice, one_func, one_iface, one_niliface, List.all_cons, List.all_nil, List.length_cons, List.length_nil, Nat.reduceLT, Nat.reduceEqDiff, Nat.reduceLeDiff, Bool.and_true, Nat.one_ne_zero, Nat.succ_ne_zero, reduceIte, if_false, List.getElem?_cons_zero, List.set_cons_zero, List.set_cons_succ]
        exact hfail _ E (hbad (by rw [hlk, show inR p.mac 0 281474976710654 = false from by unfold inR at *; simp at *; omega]; simp only [Bool.false_and]))
      by_cases c7 : p.mac = 281474976710655
      · have d7 : decide (p.mac = 281474976710655) = true := decide_eq_true c7
        simp only [d6, bp.eq, d7, go_sem, Hold.p, HoldK.k, HoldL.K, HoldL.body, Nat.reduceBEq, Nat.reduceAdd, List.getElem?_cons_zero, List.getElem?_cons_succ, Option.bind_some, List.map_cons, List.map_nil, Nat.zero_add, if_true, List.getD_cons_zero, List.getD_cons_succ, List.contains_cons, List.contains_nil, Nat.reduceBEq, Bool.or_true, Bool.true_or, Bool.or_false, Bool.false_or, Bool.not_true, Bool.not_false, true_and, and_true, rowA_whole, push_n, set_n, push_obj, set_obj, set_push, set_push_ne, set_set, Nat.add_assoc, Nat.left_eq_add, Nat.add_eq_left, Nat.add_left_cancel_iff, Nat.reduceEqDiff, stO_1s, stO_ws, boxA_s, one_bool, one_int, one_str, one_ptr, one_nilptr, one_slice, one_eslice, one_nilslice, one_func, one_iface, one_niliface, List.all_cons, List.all_nil, List.length_cons, List.length_nil, Nat.reduceLT, Nat.reduceEqDiff, Nat.reduceLeDiff, Bool.and_true, Nat.one_ne_zero, Nat.succ_ne_zero, reduceIte, if_false, List.getElem?_cons_zero, List.set_cons_zero, List.set_cons_succ]
        exact hfail _ E (hbad (by rw [hlk, show inR p.mac 0 281474976710654 = false from by unfold inR; simp; omega]; simp only [Bool.false_and]))
      have d7 : decide (p.mac = 281474976710655) = false := decide_eq_false c7
      have d7' : inR p.mac 0 281474976710654 = true := by unfold inR at *; simp at *; omega
      simp only [d6, bp.eq, d7, hr2, go_sem, Hold.p, HoldK.k, HoldL.K, HoldL.body, Nat.reduceBEq, Nat.reduceAdd, List.getElem?_cons_zero, List.getElem?_cons_succ, Option.bind_some, List.map_cons, List.map_nil, Nat.zero_add, if_true, List.getD_cons_zero, List.getD_cons_succ, List.contains_cons, List.contains_nil, Nat.reduceBEq, Bool.or_true, Bool.true_or, Bool.or_false, Bool.false_or, Bool.not_true, Bool.not_false, true_and, and_true, rowA_whole, push_n, set_n, push_obj, set_obj, set_push, set_push_ne, set_set, Nat.add_assoc, Nat.left_eq_add, Nat.add_eq_left, Nat.add_left_cancel_iff, Nat.reduceEqDiff, stO_1s, stO_ws, boxA_s, one_bool, one_int, one_str, one_ptr, one_nilptr, one_slice, one_eslice, one_nilslice, one_func, one_iface, one_niliface, List.all_cons, List.all_nil, List.length_cons, List.length_nil, Nat.reduceLT, Nat.reduceEqDiff, Nat.reduceLeDiff, Bool.and_true, Nat.one_ne_zero, Nat.succ_ne_zero, reduceIte, if_false, List.getElem?_cons_zero, List.set_cons_zero, List.set_cons_succ]
      refine callA_of (okPrefix_c _ p.a p.b) ?_
      rintro r g4 ⟨rfl, E4⟩
      have E := E.ext E4
      have bb2 := bb2.ext E4
      have bp := bp.ext E4
      have le_E4 := E4.le
      cases d8 : okP p.a p.b
      · simp only [d6, bp.eq, d7, hr2, d8, go_sem, Hold.p, HoldK.k, HoldL.K, HoldL.body, Nat.reduceBEq, Nat.reduceAdd, List.getElem?_cons_zero, List.getElem?_cons_succ, Option.bind_some, List.map_cons, List.map_nil, Nat.zero_add, if_true, List.getD_cons_zero, List.getD_cons_succ, List.contains_cons, List.contains_nil, Nat.reduceBEq, Bool.or_true, Bool.true_or, Bool.or_false, Bool.false_or, Bool.not_true, Bool.not_false, true_and, and_true, rowA_whole, push_n, set_n, push_obj, set_obj, set_push, set_push_ne, set_set, Nat.add_assoc, Nat.left_eq_add, Nat.add_eq_left, Nat.add_left_cancel_iff, Nat.reduceEqDiff, stO_1s, stO_ws, boxA_s, one_bool, one_int, one_str, one_ptr, one_nilptr, one_slice, one_eslice, one_nilslice, one_func, one_iface, one_niliface, List.all_cons, List.all_nil, List.length_cons, List.length_nil, Nat.reduceLT, Nat.reduceEqDiff, Nat.reduceLeDiff, Bool.and_true, Nat.one_ne_zero, Nat.succ_ne_zero, reduceIte, if_false, List.getElem?_cons_zero, List.set_cons_zero, List.set_cons_succ]
        exact hfail _ E (hbad (by rw [hlk, d8]; simp only [Bool.false_and, Bool.and_false]))
      simp only [d6, bp.eq, d7, hr2, d8, go_sem, Hold.p, HoldK.k, HoldL.K, HoldL.body, Nat.reduceBEq, Nat.reduceAdd, List.getElem?_cons_zero, List.getElem?_cons_succ, Option.bind_some, List.map_cons, List.map_nil, Nat.zero_add, if_true, List.getD_cons_zero, List.getD_cons_succ, List.contains_cons, List.contains_nil, Nat.reduceBEq, Bool.or_true, Bool.true_or, Bool.or_false, Bool.false_or, Bool.not_true, Bool.not_false, true_and, and_true, rowA_whole, push_n, set_n, push_obj, set_obj, set_push, set_push_ne, set_set, Nat.add_assoc, Nat.left_eq_add, Nat.add_eq_left, Nat.add_left_cancel_iff, Nat.reduceEqDiff, stO_1s, stO_ws, boxA_s, one_bool, one_int, one_str, one_ptr, one_nilptr, one_slice, one_eslice, one_nilslice, one_func, one_iface, one_niliface, List.all_cons, List.all_nil, List.length_cons, List.length_nil, Nat.reduceLT, Nat.reduceEqDiff, Nat.reduceLeDiff, Bool.and_true, Nat.one_ne_zero, Nat.succ_ne_zero, reduceIte, if_false, List.getElem?_cons_zero, List.set_cons_zero, List.set_cons_succ]
      refine callA_of (implAddrKind_c _ p.addr) ?_
      rintro r g5 ⟨rfl, rfl⟩
      by_cases c9 : kindA p.addr = 6
      rotate_left
      · have d9 : decide (kindA p.addr = 6) = false := decide_eq_false c9
        simp only [d6, bp.eq, d7, hr2, d8, d9, go_sem, Hold.p, HoldK.k, HoldL.K, HoldL.body, Nat.reduceBEq, Nat.reduceAdd, List.getElem?_cons_zero, List.getElem?_cons_succ, Option.bind_some, List.map_cons, List.map_nil, Nat.zero_add, if_true, List.getD_cons_zero, List.getD_cons_succ, List.contains_cons, List.contains_nil, Nat.reduceBEq, Bool.or_true, Bool.true_or, Bool.or_false, Bool.false_or, Bool.not_true, Bool.not_false, true_and, and_true, rowA_whole, push_n, set_n, push_obj, set_obj, set_push, set_push_ne, set_set, Nat.add_assoc, Nat.left_eq_add, Nat.add_eq_left, Nat.add_left_cancel_iff, Nat.reduceEqDiff, stO_1s, stO_ws, boxA_s, one_bool, one_int, one_str, one_ptr, one_nilptr, one_slice, one_eslice, one_nilslice, one_func, one_iface, one_niliface, List.all_cons, List.all_nil, List.length_cons, List.length_nil, Nat.reduceLT, Nat.reduceEqDiff, Nat.reduceLeDiff, Bool.and_true, Nat.one_ne_zero, Nat.succ_ne_zero, reduceIte, if_false, List.getElem?_cons_zero, List.set_cons_zero, List.set_cons_succ]
        exact hfail _ E (hbad (by rw [hlk, d9]; simp only [Bool.false_and, Bool.and_false]))
      have d9 : decide (kindA p.addr = 6) = true := decide_eq_true c9
      simp only [d6, bp.eq, d7, hr2, d8, d9, go_sem, Hold.p, HoldK.k, HoldL.K, HoldL.body, Nat.reduceBEq, Nat.reduceAdd, List.getElem?_cons_zero, List.getElem?_cons_succ, Option.bind_some, List.map_cons, List.map_nil, Nat.zero_add, if_true, List.getD_cons_zero, List.getD_cons_succ, List.contains_cons, List.contains_nil, Nat.reduceBEq, Bool.or_true, Bool.true_or, Bool.or_false, Bool.false_or, Bool.not_true, Bool.not_false, true_and, and_true, rowA_whole, push_n, set_n, push_obj, set_obj, set_push, set_push_ne, set_set, Nat.add_assoc, Nat.left_eq_add, Nat.add_eq_left, Nat.add_left_cancel_iff, Nat.reduceEqDiff, stO_1s, stO_ws, boxA_s, one_bool, one_int, one_str, one_ptr, one_nilptr, one_slice, one_eslice, one_nilslice, one_func, one_iface, one_niliface, List.all_cons, List.all_nil, List.length_cons, List.length_nil, Nat.reduceLT, Nat.reduceEqDiff, Nat.reduceLeDiff, Bool.and_true, Nat.one_ne_zero, Nat.succ_ne_zero, reduceIte, if_false, List.getElem?_cons_zero, List.set_cons_zero, List.set_cons_succ]
      refine callA_of (implPrefixHas_c _ p.a p.b p.addr) ?_
      rintro r g6 ⟨rfl, E6⟩
      have E := E.ext E6
      have bb2 := bb2.ext E6
      have bp := bp.ext E6
      have le_E6 := E6.le
      cases d10 : hasP p.a p.b p.addr
      · simp only [d6, bp.eq, d7, hr2, d8, d9, d10, go_sem, Hold.p, HoldK.k, HoldL.K, HoldL.body, Nat.reduceBEq, Nat.reduceAdd, List.getElem?_cons_zero, List.getElem?_cons_succ, Option.bind_some, List.map_cons, List.map_nil, Nat.zero_add, if_true, List.getD_cons_zero, List.getD_cons_succ, List.contains_cons, List.contains_nil, Nat.reduceBEq, Bool.or_true, Bool.true_or, Bool.or_false, Bool.false_or, Bool.not_true, Bool.not_false, true_and, and_true, rowA_whole, push_n, set_n, push_obj, set_obj, set_push, set_push_ne, set_set, Nat.add_assoc, Nat.left_eq_add, Nat.add_eq_left, Nat.add_left_cancel_iff, Nat.reduceEqDiff, stO_1s, stO_ws, boxA_s, one_bool, one_int, one_str, one_ptr, one_nilptr, one_slice, one_eslice, one_nilslice, one_func, one_iface, one_niliface, List.all_cons, List.all_nil, List.length_cons, List.length_nil, Nat.reduceLT, Nat.reduceEqDiff, Nat.reduceLeDiff, Bool.and_true, Nat.one_ne_zero, Nat.succ_ne_zero, reduceIte, if_false, List.getElem?_cons_zero, List.set_cons_zero, List.set_cons_succ]
        exact hfail _ E (hbad (by rw [hlk, d10]; simp only [Bool.false_and, Bool.and_false]))
      simp only [d6, bp.eq, d7, hr2, d8, d9, d10, go_sem, Hold.p, HoldK.k, HoldL.K, HoldL.body, Nat.reduceBEq, Nat.reduceAdd, List.getElem?_cons_zero, List.getElem?_cons_succ, Option.bind_some, List.map_cons, List.map_nil, Nat.zero_add, if_true, List.getD_cons_zero, List.getD_cons_succ, List.contains_cons, List.contains_nil, Nat.reduceBEq, Bool.or_true, Bool.true_or, Bool.or_false, Bool.false_or, Bool.not_true, Bool.not_false, true_and, and_true, rowA_whole, push_n, set_n, push_obj, set_obj, set_push, set_push_ne, set_set, Nat.add_assoc, Nat.left_eq_add, Nat.add_eq_left, Nat.add_left_cancel_iff, Nat.reduceEqDiff, stO_1s, stO_ws, boxA_s, one_bool, one_int, one_str, one_ptr, one_nilptr, one_slice, one_eslice, one_nilslice, one_func, one_iface, one_niliface, List.all_cons, List.all_nil, List.length_cons, List.length_nil, Nat.reduceLT, Nat.reduceEqDiff, Nat.reduceLeDiff, Bool.and_true, Nat.one_ne_zero, Nat.succ_ne_zero, reduceIte, if_false, List.getElem?_cons_zero, List.set_cons_zero, List.set_cons_succ]
      refine callA_of (implBroadcast_c _ p.a p.b) ?_
      rintro r g7 ⟨rfl, E7⟩
      have E := E.ext E7
      have bb2 := bb2.ext E7
      have bp := bp.ext E7
      have le_E7 := E7.le
      by_cases c11 : p.addr = bcast p.a p.b
      · have d11 : decide (p.addr = bcast p.a p.b) = true := decide_eq_true c11
        simp only [d6, bp.eq, d7, hr2, d8, d9, d10, d11, go_sem, Hold.p, HoldK.k, HoldL.K, HoldL.body, Nat.reduceBEq, Nat.reduceAdd, List.getElem?_cons_zero, List.getElem?_cons_succ, Option.bind_some, List.map_cons, List.map_nil, Nat.zero_add, if_true, List.getD_cons_zero, List.getD_cons_succ, List.contains_cons, List.contains_nil, Nat.reduceBEq, Bool.or_true, Bool.true_or, Bool.or_false, Bool.false_or, Bool.not_true, Bool.not_false, true_and, and_true, rowA_whole, push_n, set_n, push_obj, set_obj, set_push, set_push_ne, set_set, Nat.add_assoc, Nat.left_eq_add, Nat.add_eq_left, Nat.add_left_cancel_iff, Nat.reduceEqDiff, stO_1s, stO_ws, boxA_s, one_bool, one_int, one_str, one_ptr, one_nilptr, one_slice, one_eslice, one_nilslice, one_func, one_iface, one_niliface, List.all_cons, List.all_nil, List.length_cons, List.length_nil, Nat.reduceLT, Nat.reduceEqDiff, Nat.reduceLeDiff, Bool.and_true, Nat.one_ne_zero, Nat.succ_ne_zero, reduceIte, if_false, List.getElem?_cons_zero, List.set_cons_zero, List.set_cons_succ]
        exact hfail _ E (hbad (by rw [hlk, d11]; simp only [Bool.not_true, Bool.false_and, Bool.and_false]))
      have d11 : decide (p.addr = bcast p.a p.b) = false := decide_eq_false c11
      by_cases c12 : p.mtu < 128
      · have d12 : decide (p.mtu < 128) = true := decide_eq_true c12
        simp only [d6, bp.eq, d7, hr2, d8, d9, d10, d11, d12, go_sem, Hold.p, HoldK.k, HoldL.K, HoldL.body, Nat.reduceBEq, Nat.reduceAdd, List.getElem?_cons_zero, List.getElem?_cons_succ, Option.bind_some, List.map_cons, List.map_nil, Nat.zero_add, if_true, List.getD_cons_zero, List.getD_cons_succ, List.contains_cons, List.contains_nil, Nat.reduceBEq, Bool.or_true, Bool.true_or, Bool.or_false, Bool.false_or, Bool.not_true, Bool.not_false, true_and, and_true, rowA_whole, push_n, set_n, push_obj, set_obj, set_push, set_push_ne, set_set, Nat.add_assoc, Nat.left_eq_add, Nat.add_eq_left, Nat.add_left_cancel_iff, Nat.reduceEqDiff, stO_1s, stO_ws, boxA_s, one_bool, one_int, one_str, one_ptr, one_nilptr, one_slice, one_eslice, one_nilslice, one_func, one_iface, one_niliface, List.all_cons, List.all_nil, List.length_cons, List.length_nil, Nat.reduceLT, Nat.reduceEqDiff, Nat.reduceLeDiff, Bool.and_true, Nat.one_ne_zero, Nat.succ_ne_zero, reduceIte, if_false, List.getElem?_cons_zero, List.set_cons_zero, List.set_cons_succ]
        exact hfail _ E (hbad (by rw [hlk, show inR p.mtu 128 1500 = false from by unfold inR; simp; omega]; simp only [Bool.and_false]))
      have d12 : decide (p.mtu < 128) = false := decide_eq_false c12
      by_cases c13 : 1500 < p.mtu
      · have d13 : decide (1500 < p.mtu) = true := decide_eq_true c13
        simp only [d6, bp.eq, d7, hr2, d8, d9, d10, d11, d12, d13, go_sem, Hold.p, HoldK.k, HoldL.K, HoldL.body, Nat.reduceBEq, Nat.reduceAdd, List.getElem?_cons_zero, List.getElem?_cons_succ, Option.bind_some, List.map_cons, List.map_nil, Nat.zero_add, if_true, List.getD_cons_zero, List.getD_cons_succ, List.contains_cons, List.contains_nil, Nat.reduceBEq, Bool.or_true, Bool.true_or, Bool.or_false, Bool.false_or, Bool.not_true, Bool.not_false, true_and, and_true, rowA_whole, push_n, set_n, push_obj, set_obj, set_push, set_push_ne, set_set, Nat.add_assoc, Nat.left_eq_add, Nat.add_eq_left, Nat.add_left_cancel_iff, Nat.reduceEqDiff, stO_1s, stO_ws, boxA_s, one_bool, one_int, one_str, one_ptr, one_nilptr, one_slice, one_eslice, one_nilslice, one_func, one_iface, one_niliface, List.all_cons, List.all_nil, List.length_cons, List.length_nil, Nat.reduceLT, Nat.reduceEqDiff, Nat.reduceLeDiff, Bool.and_true, Nat.one_ne_zero, Nat.succ_ne_zero, reduceIte, if_false, List.getElem?_cons_zero, List.set_cons_zero, List.set_cons_succ]
        exact hfail _ E (hbad (by rw [hlk, show inR p.mtu 128 1500 = false from by unfold inR; simp; omega]; simp only [Bool.and_false]))
      have d13 : decide (1500 < p.mtu) = false := decide_eq_false c13
      have d6k : linkOk p = true := by
        rw [hlk, d7', d8, d9, d10, d11, show inR p.mtu 128 1500 = true from by unfold inR; simp; omega]; rfl
      have h13 := h1.ext E
      obtain ⟨vs, hvs, hss⟩ := h13.hi (b := k) (q := .i64) (by rw [Lnk.rows_len]; omega)
      have hsl := hss.lenF
      rw [List.length_take, Lnk.rows_len, Nat.min_eq_left (by omega)] at hsl
      simp only [e1, e42, e43, e44, bb2.eq, d6, bp.eq, d7, hr2, d8, d9, d10, d11, d12, d13, hvs, hsl, Option.map_some, Option.map_none, go_sem, Hold.p, HoldK.k, HoldL.K, HoldL.body, Nat.reduceBEq, Nat.reduceAdd, List.getElem?_cons_zero, List.getElem?_cons_succ, Option.bind_some, List.map_cons, List.map_nil, Nat.zero_add, if_true, List.getD_cons_zero, List.getD_cons_succ, List.contains_cons, List.contains_nil, Nat.reduceBEq, Bool.or_true, Bool.true_or, Bool.or_false, Bool.false_or, Bool.not_true, Bool.not_false, true_and, and_true, rowA_whole, push_n, set_n, push_obj, set_obj, set_push, set_push_ne, set_set, Nat.add_assoc, Nat.left_eq_add, Nat.add_eq_left, Nat.add_left_cancel_iff, Nat.reduceEqDiff, stO_1s, stO_ws, boxA_s, one_bool, one_int, one_str, one_ptr, one_nilptr, one_slice, one_eslice, one_nilslice, one_func, one_iface, one_niliface, List.all_cons, List.all_nil, List.length_cons, List.length_nil, Nat.reduceLT, Nat.reduceEqDiff, Nat.reduceLeDiff, Bool.and_true, Nat.one_ne_zero, Nat.succ_ne_zero, reduceIte, if_false, List.getElem?_cons_zero, List.set_cons_zero, List.set_cons_succ]
      have E0 := E
      refine loop_at (fun n' e' g8 => ∃ i : Nat, n' = k - i ∧ i ≤ k ∧ e' 1 = .ptr h.n 0 0 ∧ e' 42 = v1 ∧ e' 43 = .int .i64 (c.ls.length : Nat) ∧ e' 44 = .int .i64 (k : Nat) ∧ e' 4 = .ptr q 0 0 ∧ e' 99 = vs ∧ e' 100 = .int .i64 (k : Nat) ∧ e' 101 = .int .i64 (i : Nat) ∧ ((c.ls.take k).take i).any (clash p) = false ∧ Ext g7 g8) k ?_ ?_
      · refine ⟨0, by omega, by omega, ?_⟩
        simp only [e1, e42, e43, e44, go_sem, Hold.p, HoldK.k, HoldL.K, HoldL.body, Nat.reduceBEq, Nat.reduceAdd, List.getElem?_cons_zero, List.getElem?_cons_succ, Option.bind_some, List.map_cons, List.map_nil, Nat.zero_add, if_true, List.getD_cons_zero, List.getD_cons_succ, List.contains_cons, List.contains_nil, Nat.reduceBEq, Bool.or_true, Bool.true_or, Bool.or_false, Bool.false_or, Bool.not_true, Bool.not_false, true_and, and_true, rowA_whole, push_n, set_n, push_obj, set_obj, set_push, set_push_ne, set_set, Nat.add_assoc, Nat.left_eq_add, Nat.add_eq_left, Nat.add_left_cancel_iff, Nat.reduceEqDiff, stO_1s, stO_ws, boxA_s, one_bool, one_int, one_str, one_ptr, one_nilptr, one_slice, one_eslice, one_nilslice, one_func, one_iface, one_niliface, List.all_cons, List.all_nil, List.length_cons, List.length_nil, Nat.reduceLT, Nat.reduceEqDiff, Nat.reduceLeDiff, Bool.and_true, Nat.one_ne_zero, Nat.succ_ne_zero, reduceIte, if_false, List.getElem?_cons_zero, List.set_cons_zero, List.set_cons_succ]
        exact ⟨rfl, rfl, Ext.refl _⟩
      · clear e1 e42 e43 e44
        rintro n' e' g8 ⟨i, rfl, hi, e1, e42, e43, e44, e4, e99, e100, e101, hno, E8⟩
        have E := E.ext E8
        have bb2 := bb2.ext E8
        have bp := bp.ext E8
        have le_E8 := E8.le
        have hs8 := hss.ext E8
        simp only [e1, e42, e43, e44, e4, e99, e100, e101, go_sem, Hold.p, HoldK.k, HoldL.K, HoldL.body, Nat.reduceBEq, Nat.reduceAdd, List.getElem?_cons_zero, List.getElem?_cons_succ, Option.bind_some, List.map_cons, List.map_nil, Nat.zero_add, if_true, List.getD_cons_zero, List.getD_cons_succ, List.contains_cons, List.contains_nil, Nat.reduceBEq, Bool.or_true, Bool.true_or, Bool.or_false, Bool.false_or, Bool.not_true, Bool.not_false, true_and, and_true, rowA_whole, push_n, set_n, push_obj, set_obj, set_push, set_push_ne, set_set, Nat.add_assoc, Nat.left_eq_add, Nat.add_eq_left, Nat.add_left_cancel_iff, Nat.reduceEqDiff, stO_1s, stO_ws, boxA_s, one_bool, one_int, one_str, one_ptr, one_nilptr, one_slice, one_eslice, one_nilslice, one_func, one_iface, one_niliface, List.all_cons, List.all_nil, List.length_cons, List.length_nil, Nat.reduceLT, Nat.reduceEqDiff, Nat.reduceLeDiff, Bool.and_true, Nat.one_ne_zero, Nat.succ_ne_zero, reduceIte, if_false, List.getElem?_cons_zero, List.set_cons_zero, List.set_cons_succ]
        refine test_dec (fun hb2 => ?_) (fun hb2 => ?_)
        · have hlt2 : i < k := by omega
          have hkp2 : c.ls[i]? = some c.ls[i] := List.getElem?_eq_getElem (by omega)
          generalize c.ls[i] = u at hkp2
          have hkt : (c.ls.take k)[i]? = some u := by rw [List.getElem?_take, if_pos hlt2]; exact hkp2
          have hkr : ((Lnk.rows c.ls).take k)[i]? = some u.row := by rw [List.getElem?_take, if_pos hlt2]; exact Lnk.rows_at hkp2
          obtain ⟨l2, j2, hia2, hll2, hrow2⟩ := hs8.at (m := i) hkr .i64
          unfold Lnk.row at hrow2
          have hrw2 := rowA_whole [.int .i64 u.mac, .int .i64 u.addr, .int .i64 u.a, .int .i64 u.b, .int .i64 u.mtu] 5 rfl
          have bpl := bp.lt
          have nq : (q = g8.n) = False := by simp; omega
          have hcl : clash p u = true → stepL c.ls k = false := fun hc => by rw [hst, any_yes hkt hc]; simp
          by_cases c14 : u.mac = p.mac
          · have d14 : decide (u.mac = p.mac) = true := decide_eq_true c14
            simp only [e1, e42, e43, e44, e4, e99, e100, e101, hia2, hrow2, hrw2, bp.eq, nq, d14, go_sem, Hold.p, HoldK.k, HoldL.K, HoldL.body, Nat.reduceBEq, Nat.reduceAdd, List.getElem?_cons_zero, List.getElem?_cons_succ, Option.bind_some, List.map_cons, List.map_nil, Nat.zero_add, if_true, List.getD_cons_zero, List.getD_cons_succ, List.contains_cons, List.contains_nil, Nat.reduceBEq, Bool.or_true, Bool.true_or, Bool.or_false, Bool.false_or, Bool.not_true, Bool.not_false, true_and, and_true, rowA_whole, push_n, set_n, push_obj, set_obj, set_push, set_push_ne, set_set, Nat.add_assoc, Nat.left_eq_add, Nat.add_eq_left, Nat.add_left_cancel_iff, Nat.reduceEqDiff, stO_1s, stO_ws, boxA_s, one_bool, one_int, one_str, one_ptr, one_nilptr, one_slice, one_eslice, one_nilslice, one_func, one_iface, one_niliface, List.all_cons, List.all_nil, List.length_cons, List.length_nil, Nat.reduceLT, Nat.reduceEqDiff, Nat.reduceLeDiff, Bool.and_true, Nat.one_ne_zero, Nat.succ_ne_zero, reduceIte, if_false, List.getElem?_cons_zero, List.set_cons_zero, List.set_cons_succ]
            exact hfail _ (E.push _) (hcl (by unfold clash; rw [d14]; rfl))
          have d14 : decide (u.mac = p.mac) = false := decide_eq_false c14
          by_cases c15 : u.addr = p.addr
          · have d15 : decide (u.addr = p.addr) = true := decide_eq_true c15
            simp only [e1, e42, e43, e44, e4, e99, e100, e101, hia2, hrow2, hrw2, bp.eq, nq, d14, d15, go_sem, Hold.p, HoldK.k, HoldL.K, HoldL.body, Nat.reduceBEq, Nat.reduceAdd, List.getElem?_cons_zero, List.getElem?_cons_succ, Option.bind_some, List.map_cons, List.map_nil, Nat.zero_add, if_true, List.getD_cons_zero, List.getD_cons_succ, List.contains_cons, List.contains_nil, Nat.reduceBEq, Bool.or_true, Bool.true_or, Bool.or_false, Bool.false_or, Bool.not_true, Bool.not_false, true_and, and_true, rowA_whole, push_n, set_n, push_obj, set_obj, set_push, set_push_ne, set_set, Nat.add_assoc, Nat.left_eq_add, Nat.add_eq_left, Nat.add_left_cancel_iff, Nat.reduceEqDiff, stO_1s, stO_ws, boxA_s, one_bool, one_int, one_str, one_ptr, one_nilptr, one_slice, one_eslice, one_nilslice, one_func, one_iface, one_niliface, List.all_cons, List.all_nil, List.length_cons, List.length_nil, Nat.reduceLT, Nat.reduceEqDiff, Nat.reduceLeDiff, Bool.and_true, Nat.one_ne_zero, Nat.succ_ne_zero, reduceIte, if_false, List.getElem?_cons_zero, List.set_cons_zero, List.set_cons_succ]
            exact hfail _ (E.push _) (hcl (by unfold clash; rw [d15]; simp))
          have d15 : decide (u.addr = p.addr) = false := decide_eq_false c15
          simp only [e1, e42, e43, e44, e4, e99, e100, e101, hia2, hrow2, hrw2, bp.eq, nq, d14, d15, go_sem, Hold.p, HoldK.k, HoldL.K, HoldL.body, Nat.reduceBEq, Nat.reduceAdd, List.getElem?_cons_zero, List.getElem?_cons_succ, Option.bind_some, List.map_cons, List.map_nil, Nat.zero_add, if_true, List.getD_cons_zero, List.getD_cons_succ, List.contains_cons, List.contains_nil, Nat.reduceBEq, Bool.or_true, Bool.true_or, Bool.or_false, Bool.false_or, Bool.not_true, Bool.not_false, true_and, and_true, rowA_whole, push_n, set_n, push_obj, set_obj, set_push, set_push_ne, set_set, Nat.add_assoc, Nat.left_eq_add, Nat.add_eq_left, Nat.add_left_cancel_iff, Nat.reduceEqDiff, stO_1s, stO_ws, boxA_s, one_bool, one_int, one_str, one_ptr, one_nilptr, one_slice, one_eslice, one_nilslice, one_func, one_iface, one_niliface, List.all_cons, List.all_nil, List.length_cons, List.length_nil, Nat.reduceLT, Nat.reduceEqDiff, Nat.reduceLeDiff, Bool.and_true, Nat.one_ne_zero, Nat.succ_ne_zero, reduceIte, if_false, List.getElem?_cons_zero, List.set_cons_zero, List.set_cons_succ]
          refine ⟨_, ?_, i + 1, rfl, by omega, wr64_succ i (by omega), any_go hkt hno (by unfold clash; rw [d14, d15]; rfl), E8.push _⟩
          omega
        · obtain rfl : i = k := by omega
          rw [List.take_take, Nat.min_self] at hno
          simp only [e1, e42, e43, e44, go_sem, Hold.p, HoldK.k, HoldL.K, HoldL.body, Nat.reduceBEq, Nat.reduceAdd, List.getElem?_cons_zero, List.getElem?_cons_succ, Option.bind_some, List.map_cons, List.map_nil, Nat.zero_add, if_true, List.getD_cons_zero, List.getD_cons_succ, List.contains_cons, List.contains_nil, Nat.reduceBEq, Bool.or_true, Bool.true_or, Bool.or_false, Bool.false_or, Bool.not_true, Bool.not_false, true_and, and_true, rowA_whole, push_n, set_n, push_obj, set_obj, set_push, set_push_ne, set_set, Nat.add_assoc, Nat.left_eq_add, Nat.add_eq_left, Nat.add_left_cancel_iff, Nat.reduceEqDiff, stO_1s, stO_ws, boxA_s, one_bool, one_int, one_str, one_ptr, one_nilptr, one_slice, one_eslice, one_nilslice, one_func, one_iface, one_niliface, List.all_cons, List.all_nil, List.length_cons, List.length_nil, Nat.reduceLT, Nat.reduceEqDiff, Nat.reduceLeDiff, Bool.and_true, Nat.one_ne_zero, Nat.succ_ne_zero, reduceIte, if_false, List.getElem?_cons_zero, List.set_cons_zero, List.set_cons_succ]
          refine ⟨_, ?_, i + 1, rfl, by omega, wr64_succ i (by omega), linksG_go hG (by rw [hst, d6k, hno]; rfl), E⟩
          omega
    · obtain rfl : k = c.ls.length := by omega
      rw [hG, Bool.true_and]
      simp only [e1, bb2.eq, hl2, go_sem, Hold.p, HoldK.k, HoldL.K, HoldL.body, Nat.reduceBEq, Nat.reduceAdd, List.getElem?_cons_zero, List.getElem?_cons_succ, Option.bind_some, List.map_cons, List.map_nil, Nat.zero_add, if_true, List.getD_cons_zero, List.getD_cons_succ, List.contains_cons, List.contains_nil, Nat.reduceBEq, Bool.or_true, Bool.true_or, Bool.or_false, Bool.false_or, Bool.not_true, Bool.not_false, true_and, and_true, rowA_whole, push_n, set_n, push_obj, set_obj, set_push, set_push_ne, set_set, Nat.add_assoc, Nat.left_eq_add, Nat.add_eq_left, Nat.add_left_cancel_iff, Nat.reduceEqDiff, stO_1s, stO_ws, boxA_s, one_bool, one_int, one_str, one_ptr, one_nilptr, one_slice, one_eslice, one_nilslice, one_func, one_iface, one_niliface, List.all_cons, List.all_nil, List.length_cons, List.length_nil, Nat.reduceLT, Nat.reduceEqDiff, Nat.reduceLeDiff, Bool.and_true, Nat.one_ne_zero, Nat.succ_ne_zero, reduceIte, if_false, List.getElem?_cons_zero, List.set_cons_zero, List.set_cons_succ]
      have E0 := E
      refine loop_at (fun n e g => ∃ k : Nat, n = c.rs.length - k ∧ k ≤ c.rs.length ∧ e 1 = .ptr h.n 0 0 ∧ e 120 = v2 ∧ e 121 = .int .i64 (c.rs.length : Nat) ∧ e 122 = .int .i64 (k : Nat) ∧ (c.rs.take k).all (rteOk c.ls) = true ∧ Ext g1 g) c.rs.length ?_ ?_
      · refine ⟨0, by omega, by omega, ?_⟩
        simp only [e1, go_sem, Hold.p, HoldK.k, HoldL.K, HoldL.body, Nat.reduceBEq, Nat.reduceAdd, List.getElem?_cons_zero, List.getElem?_cons_succ, Option.bind_some, List.map_cons, List.map_nil, Nat.zero_add, if_true, List.getD_cons_zero, List.getD_cons_succ, List.contains_cons, List.contains_nil, Nat.reduceBEq, Bool.or_true, Bool.true_or, Bool.or_false, Bool.false_or, Bool.not_true, Bool.not_false, true_and, and_true, rowA_whole, push_n, set_n, push_obj, set_obj, set_push, set_push_ne, set_set, Nat.add_assoc, Nat.left_eq_add, Nat.add_eq_left, Nat.add_left_cancel_iff, Nat.reduceEqDiff, stO_1s, stO_ws, boxA_s, one_bool, one_int, one_str, one_ptr, one_nilptr, one_slice, one_eslice, one_nilslice, one_func, one_iface, one_niliface, List.all_cons, List.all_nil, List.length_cons, List.length_nil, Nat.reduceLT, Nat.reduceEqDiff, Nat.reduceLeDiff, Bool.and_true, Nat.one_ne_zero, Nat.succ_ne_zero, reduceIte, if_false, List.getElem?_cons_zero, List.set_cons_zero, List.set_cons_succ]
        exact ⟨rfl, rfl, E0⟩
      · clear e1 e42 e43 e44 bb2 h12 E E0 hb hk
        rintro n e g ⟨k, rfl, hk, e1, e120, e121, e122, hG2, E⟩
        have bb2 := bb.ext E
        have h22 := h2.ext E
        simp only [e1, e120, e121, e122, go_sem, Hold.p, HoldK.k, HoldL.K, HoldL.body, Nat.reduceBEq, Nat.reduceAdd, List.getElem?_cons_zero, List.getElem?_cons_succ, Option.bind_some, List.map_cons, List.map_nil, Nat.zero_add, if_true, List.getD_cons_zero, List.getD_cons_succ, List.contains_cons, List.contains_nil, Nat.reduceBEq, Bool.or_true, Bool.true_or, Bool.or_false, Bool.false_or, Bool.not_true, Bool.not_false, true_and, and_true, rowA_whole, push_n, set_n, push_obj, set_obj, set_push, set_push_ne, set_set, Nat.add_assoc, Nat.left_eq_add, Nat.add_eq_left, Nat.add_left_cancel_iff, Nat.reduceEqDiff, stO_1s, stO_ws, boxA_s, one_bool, one_int, one_str, one_ptr, one_nilptr, one_slice, one_eslice, one_nilslice, one_func, one_iface, one_niliface, List.all_cons, List.all_nil, List.length_cons, List.length_nil, Nat.reduceLT, Nat.reduceEqDiff, Nat.reduceLeDiff, Bool.and_true, Nat.one_ne_zero, Nat.succ_ne_zero, reduceIte, if_false, List.getElem?_cons_zero, List.set_cons_zero, List.set_cons_succ]
        refine test_dec (fun hb => ?_) (fun hb => ?_)
        · have hlt : k < c.rs.length := by omega
          have hkp : c.rs[k]? = some c.rs[k] := List.getElem?_eq_getElem hlt
          generalize c.rs[k] = p at hkp
          obtain ⟨l, j, hia, hll, hrow⟩ := h22.at (m := k) (Rte.rows_at hkp) .i64
          unfold Rte.row at hrow
          have hrw := rowA_whole [.int .i64 p.a, .int .i64 p.b, .int .i64 p.via, .int .i64 p.link, .int .i64 p.metric] 5 rfl
          have hfail : ∀ g', Ext g1 g' → rteOk c.ls p = false → (IV.bool false = .bool (c.rs.all (rteOk c.ls) && c.us.all rulOk) ∧ Ext h g') := fun g' Eg hf => by
            refine ⟨?_, e_g0.trans Eg⟩
            rw [all_no hkp hf]; rfl
          have bbl := bb2.lt
          have nbb : (h.n = g.n) = False := by simp; omega
          simp only [e1, e120, e121, e122, hia, hrow, hrw, go_sem, Hold.p, HoldK.k, HoldL.K, HoldL.body, Nat.reduceBEq, Nat.reduceAdd, List.getElem?_cons_zero, List.getElem?_cons_succ, Option.bind_some, List.map_cons, List.map_nil, Nat.zero_add, if_true, List.getD_cons_zero, List.getD_cons_succ, List.contains_cons, List.contains_nil, Nat.reduceBEq, Bool.or_true, Bool.true_or, Bool.or_false, Bool.false_or, Bool.not_true, Bool.not_false, true_and, and_true, rowA_whole, push_n, set_n, push_obj, set_obj, set_push, set_push_ne, set_set, Nat.add_assoc, Nat.left_eq_add, Nat.add_eq_left, Nat.add_left_cancel_iff, Nat.reduceEqDiff, stO_1s, stO_ws, boxA_s, one_bool, one_int, one_str, one_ptr, one_nilptr, one_slice, one_eslice, one_nilslice, one_func, one_iface, one_niliface, List.all_cons, List.all_nil, List.length_cons, List.length_nil, Nat.reduceLT, Nat.reduceEqDiff, Nat.reduceLeDiff, Bool.and_true, Nat.one_ne_zero, Nat.succ_ne_zero, reduceIte, if_false, List.getElem?_cons_zero, List.set_cons_zero, List.set_cons_succ]
          generalize hq_g2 : IH.push g (IObj.rows [[IV.int .i64 p.a, .int .i64 p.b, .int .i64 p.via, .int .i64 p.link, .int .i64 p.metric]] 75 5 false) = g2
          have e_g2 : Ext g g2 := by rw [← hq_g2]; exact (Ext.refl _).push _
          have l_g2 : g2.n = g.n + 1 := by rw [← hq_g2]; rfl
          have bp : At g2 g.n (IObj.rows [[IV.int .i64 p.a, .int .i64 p.b, .int .i64 p.via, .int .i64 p.link, .int .i64 p.metric]] 75 5 false) := by rw [← hq_g2]; exact At.new _ _
          clear hq_g2
          have E := E.ext e_g2
          have bb2 := bb2.ext e_g2
          generalize hq : g.n = q at bp l_g2 nbb ⊢
          refine callA_of (okRoute_c _ p.a p.b p.via p.link p.metric) ?_
          rintro r g3 ⟨rfl, E3⟩
          have E := E.ext E3
          have bb2 := bb2.ext E3
          have bp := bp.ext E3
          have le_E3 := E3.le
          have hrt : rteOk c.ls p = (okRoute p.a p.b p.via p.link p.metric && decide (p.link < (c.ls.length : Int)) && !ownA c.ls p.via) := rfl
          cases d6 : okRoute p.a p.b p.via p.link p.metric
          · simp only [d6, go_sem, Hold.p, HoldK.k, HoldL.K, HoldL.body, Nat.reduceBEq, Nat.reduceAdd, List.getElem?_cons_zero, List.getElem?_cons_succ, Option.bind_some, List.map_cons, List.map_nil, Nat.zero_add, if_true, List.getD_cons_zero, List.getD_cons_succ, List.contains_cons, List.contains_nil, Nat.reduceBEq, Bool.or_true, Bool.true_or, Bool.or_false, Bool.false_or, Bool.not_true, Bool.not_false, true_and, and_true, rowA_whole, push_n, set_n, push_obj, set_obj, set_push, set_push_ne, set_set, Nat.add_assoc, Nat.left_eq_add, Nat.add_eq_left, Nat.add_left_cancel_iff, Nat.reduceEqDiff, stO_1s, stO_ws, boxA_s, one_bool, one_int, one_str, one_ptr, one_nilptr, one_slice, one_eslice, one_nilslice, one_func, one_iface, one_niliface, List.all_cons, List.all_nil, List.length_cons, List.length_nil, Nat.reduceLT, Nat.reduceEqDiff, Nat.reduceLeDiff, Bool.and_true, Nat.one_ne_zero, Nat.succ_ne_zero, reduceIte, if_false, List.getElem?_cons_zero, List.set_cons_zero, List.set_cons_succ]
            exact hfail _ E (by rw [hrt, d6]; rfl)
          by_cases c7 : (c.ls.length : Int) ≤ p.link
          · have d7 : decide ((c.ls.length : Int) ≤ p.link) = true := decide_eq_true c7
            simp only [e1, d6, bb2.eq, bp.eq, hl1, d7, go_sem, Hold.p, HoldK.k, HoldL.K, HoldL.body, Nat.reduceBEq, Nat.reduceAdd, List.getElem?_cons_zero, List.getElem?_cons_succ, Option.bind_some, List.map_cons, List.map_nil, Nat.zero_add, if_true, List.getD_cons_zero, List.getD_cons_succ, List.contains_cons, List.contains_nil, Nat.reduceBEq, Bool.or_true, Bool.true_or, Bool.or_false, Bool.false_or, Bool.not_true, Bool.not_false, true_and, and_true, rowA_whole, push_n, set_n, push_obj, set_obj, set_push, set_push_ne, set_set, Nat.add_assoc, Nat.left_eq_add, Nat.add_eq_left, Nat.add_left_cancel_iff, Nat.reduceEqDiff, stO_1s, stO_ws, boxA_s, one_bool, one_int, one_str, one_ptr, one_nilptr, one_slice, one_eslice, one_nilslice, one_func, one_iface, one_niliface, List.all_cons, List.all_nil, List.length_cons, List.length_nil, Nat.reduceLT, Nat.reduceEqDiff, Nat.reduceLeDiff, Bool.and_true, Nat.one_ne_zero, Nat.succ_ne_zero, reduceIte, if_false, List.getElem?_cons_zero, List.set_cons_zero, List.set_cons_succ]
            exact hfail _ E (by rw [hrt, show decide (p.link < (c.ls.length : Int)) = false from decide_eq_false (by omega)]; simp)
          have d7 : decide ((c.ls.length : Int) ≤ p.link) = false := decide_eq_false c7
          simp only [e1, d6, bb2.eq, bp.eq, hl1, d7, go_sem, Hold.p, HoldK.k, HoldL.K, HoldL.body, Nat.reduceBEq, Nat.reduceAdd, List.getElem?_cons_zero, List.getElem?_cons_succ, Option.bind_some, List.map_cons, List.map_nil, Nat.zero_add, if_true, List.getD_cons_zero, List.getD_cons_succ, List.contains_cons, List.contains_nil, Nat.reduceBEq, Bool.or_true, Bool.true_or, Bool.or_false, Bool.false_or, Bool.not_true, Bool.not_false, true_and, and_true, rowA_whole, push_n, set_n, push_obj, set_obj, set_push, set_push_ne, set_set, Nat.add_assoc, Nat.left_eq_add, Nat.add_eq_left, Nat.add_left_cancel_iff, Nat.reduceEqDiff, stO_1s, stO_ws, boxA_s, one_bool, one_int, one_str, one_ptr, one_nilptr, one_slice, one_eslice, one_nilslice, one_func, one_iface, one_niliface, List.all_cons, List.all_nil, List.length_cons, List.length_nil, Nat.reduceLT, Nat.reduceEqDiff, Nat.reduceLeDiff, Bool.and_true, Nat.one_ne_zero, Nat.succ_ne_zero, reduceIte, if_false, List.getElem?_cons_zero, List.set_cons_zero, List.set_cons_succ]
          have E0 := E
          have h14 := h1.ext E
          refine loop_at (fun n' e' g8 => ∃ i : Nat, n' = c.ls.length - i ∧ i ≤ c.ls.length ∧ e' 1 = .ptr h.n 0 0 ∧ e' 120 = v2 ∧ e' 121 = .int .i64 (c.rs.length : Nat) ∧ e' 122 = .int .i64 (k : Nat) ∧ e' 8 = .ptr q 0 0 ∧ e' 138 = v1 ∧ e' 139 = .int .i64 (c.ls.length : Nat) ∧ e' 140 = .int .i64 (i : Nat) ∧ (c.ls.take i).any (fun l => decide (l.addr = p.via)) = false ∧ Ext g3 g8) c.ls.length ?_ ?_
          · refine ⟨0, by omega, by omega, ?_⟩
            simp only [e1, e120, e121, e122, go_sem, Hold.p, HoldK.k, HoldL.K, HoldL.body, Nat.reduceBEq, Nat.reduceAdd, List.getElem?_cons_zero, List.getElem?_cons_succ, Option.bind_some, List.map_cons, List.map_nil, Nat.zero_add, if_true, List.getD_cons_zero, List.getD_cons_succ, List.contains_cons, List.contains_nil, Nat.reduceBEq, Bool.or_true, Bool.true_or, Bool.or_false, Bool.false_or, Bool.not_true, Bool.not_false, true_and, and_true, rowA_whole, push_n, set_n, push_obj, set_obj, set_push, set_push_ne, set_set, Nat.add_assoc, Nat.left_eq_add, Nat.add_eq_left, Nat.add_left_cancel_iff, Nat.reduceEqDiff, stO_1s, stO_ws, boxA_s, one_bool, one_int, one_str, one_ptr, one_nilptr, one_slice, one_eslice, one_nilslice, one_func, one_iface, one_niliface, List.all_cons, List.all_nil, List.length_cons, List.length_nil, Nat.reduceLT, Nat.reduceEqDiff, Nat.reduceLeDiff, Bool.and_true, Nat.one_ne_zero, Nat.succ_ne_zero, reduceIte, if_false, List.getElem?_cons_zero, List.set_cons_zero, List.set_cons_succ]
            exact ⟨rfl, rfl, Ext.refl _⟩
          · clear e1 e120 e121 e122
            rintro n' e' g8 ⟨i, rfl, hi, e1, e120, e121, e122, e8, e138, e139, e140, hno, E8⟩
            have E := E.ext E8
            have bb2 := bb2.ext E8
            have bp := bp.ext E8
            have le_E8 := E8.le
            have hs8 := h14.ext E8
            simp only [e1, e120, e121, e122, e8, e138, e139, e140, go_sem, Hold.p, HoldK.k, HoldL.K, HoldL.body, Nat.reduceBEq, Nat.reduceAdd, List.getElem?_cons_zero, List.getElem?_cons_succ, Option.bind_some, List.map_cons, List.map_nil, Nat.zero_add, if_true, List.getD_cons_zero, List.getD_cons_succ, List.contains_cons, List.contains_nil, Nat.reduceBEq, Bool.or_true, Bool.true_or, Bool.or_false, Bool.false_or, Bool.not_true, Bool.not_false, true_and, and_true, rowA_whole, push_n, set_n, push_obj, set_obj, set_push, set_push_ne, set_set, Nat.add_assoc, Nat.left_eq_add, Nat.add_eq_left, Nat.add_left_cancel_iff, Nat.reduceEqDiff, stO_1s, stO_ws, boxA_s, one_bool, one_int, one_str, one_ptr, one_nilptr, one_slice, one_eslice, one_nilslice, one_func, one_iface, one_niliface, List.all_cons, List.all_nil, List.length_cons, List.length_nil, Nat.reduceLT, Nat.reduceEqDiff, Nat.reduceLeDiff, Bool.and_true, Nat.one_ne_zero, Nat.succ_ne_zero, reduceIte, if_false, List.getElem?_cons_zero, List.set_cons_zero, List.set_cons_succ]
            refine test_dec (fun hb2 => ?_) (fun hb2 => ?_)
            · have hlt2 : i < c.ls.length := by omega
              have hkp2 : c.ls[i]? = some c.ls[i] := List.getElem?_eq_getElem (by omega)
              generalize c.ls[i] = u at hkp2
              obtain ⟨l2, j2, hia2, hll2, hrow2⟩ := hs8.at (m := i) (Lnk.rows_at hkp2) .i64
              unfold Lnk.row at hrow2
              have hrw2 := rowA_whole [.int .i64 u.mac, .int .i64 u.addr, .int .i64 u.a, .int .i64 u.b, .int .i64 u.mtu] 5 rfl
              have bpl := bp.lt
              have nq : (q = g8.n) = False := by simp; omega
              by_cases c14 : u.addr = p.via
              · have d14 : decide (u.addr = p.via) = true := decide_eq_true c14
                simp only [e1, e120, e121, e122, e8, e138, e139, e140, hia2, hrow2, hrw2, bp.eq, nq, d14, go_sem, Hold.p, HoldK.k, HoldL.K, HoldL.body, Nat.reduceBEq, Nat.reduceAdd, List.getElem?_cons_zero, List.getElem?_cons_succ, Option.bind_some, List.map_cons, List.map_nil, Nat.zero_add, if_true, List.getD_cons_zero, List.getD_cons_succ, List.contains_cons, List.contains_nil, Nat.reduceBEq, Bool.or_true, Bool.true_or, Bool.or_false, Bool.false_or, Bool.not_true, Bool.not_false, true_and, and_true, rowA_whole, push_n, set_n, push_obj, set_obj, set_push, set_push_ne, set_set, Nat.add_assoc, Nat.left_eq_add, Nat.add_eq_left, Nat.add_left_cancel_iff, Nat.reduceEqDiff, stO_1s, stO_ws, boxA_s, one_bool, one_int, one_str, one_ptr, one_nilptr, one_slice, one_eslice, one_nilslice, one_func, one_iface, one_niliface, List.all_cons, List.all_nil, List.length_cons, List.length_nil, Nat.reduceLT, Nat.reduceEqDiff, Nat.reduceLeDiff, Bool.and_true, Nat.one_ne_zero, Nat.succ_ne_zero, reduceIte, if_false, List.getElem?_cons_zero, List.set_cons_zero, List.set_cons_succ]
                exact hfail _ (E.push _) (by rw [hrt, show ownA c.ls p.via = true from any_yes hkp2 d14]; simp)
              have d14 : decide (u.addr = p.via) = false := decide_eq_false c14
              simp only [e1, e120, e121, e122, e8, e138, e139, e140, hia2, hrow2, hrw2, bp.eq, nq, d14, go_sem, Hold.p, HoldK.k, HoldL.K, HoldL.body, Nat.reduceBEq, Nat.reduceAdd, List.getElem?_cons_zero, List.getElem?_cons_succ, Option.bind_some, List.map_cons, List.map_nil, Nat.zero_add, if_true, List.getD_cons_zero, List.getD_cons_succ, List.contains_cons, List.contains_nil, Nat.reduceBEq, Bool.or_true, Bool.true_or, Bool.or_false, Bool.false_or, Bool.not_true, Bool.not_false, true_and, and_true, rowA_whole, push_n, set_n, push_obj, set_obj, set_push, set_push_ne, set_set, Nat.add_assoc, Nat.left_eq_add, Nat.add_eq_left, Nat.add_left_cancel_iff, Nat.reduceEqDiff, stO_1s, stO_ws, boxA_s, one_bool, one_int, one_str, one_ptr, one_nilptr, one_slice, one_eslice, one_nilslice, one_func, one_iface, one_niliface, List.all_cons, List.all_nil, List.length_cons, List.length_nil, Nat.reduceLT, Nat.reduceEqDiff, Nat.reduceLeDiff, Bool.and_true, Nat.one_ne_zero, Nat.succ_ne_zero, reduceIte, if_false, List.getElem?_cons_zero, List.set_cons_zero, List.set_cons_succ]
              refine ⟨_, ?_, i + 1, rfl, by omega, wr64_succ i (by omega), any_go hkp2 hno d14, E8.push _⟩
              omega
            · obtain rfl : i = c.ls.length := by omega
              rw [List.take_length] at hno
              simp only [e1, e120, e121, e122, go_sem, Hold.p, HoldK.k, HoldL.K, HoldL.body, Nat.reduceBEq, Nat.reduceAdd, List.getElem?_cons_zero, List.getElem?_cons_succ, Option.bind_some, List.map_cons, List.map_nil, Nat.zero_add, if_true, List.getD_cons_zero, List.getD_cons_succ, List.contains_cons, List.contains_nil, Nat.reduceBEq, Bool.or_true, Bool.true_or, Bool.or_false, Bool.false_or, Bool.not_true, Bool.not_false, true_and, and_true, rowA_whole, push_n, set_n, push_obj, set_obj, set_push, set_push_ne, set_set, Nat.add_assoc, Nat.left_eq_add, Nat.add_eq_left, Nat.add_left_cancel_iff, Nat.reduceEqDiff, stO_1s, stO_ws, boxA_s, one_bool, one_int, one_str, one_ptr, one_nilptr, one_slice, one_eslice, one_nilslice, one_func, one_iface, one_niliface, List.all_cons, List.all_nil, List.length_cons, List.length_nil, Nat.reduceLT, Nat.reduceEqDiff, Nat.reduceLeDiff, Bool.and_true, Nat.one_ne_zero, Nat.succ_ne_zero, reduceIte, if_false, List.getElem?_cons_zero, List.set_cons_zero, List.set_cons_succ]
              refine ⟨_, ?_, k + 1, rfl, by omega, wr64_succ k (by omega), all_go hkp hG2 (by rw [hrt, d6, show ownA c.ls p.via = false from hno, show decide (p.link < (c.ls.length : Int)) = true from decide_eq_true (by omega)]; rfl), E⟩
              omega
        · obtain rfl : k = c.rs.length := by omega
          rw [List.take_length] at hG2
          rw [hG2, Bool.true_and]
          simp only [e1, bb2.eq, hl3, go_sem, Hold.p, HoldK.k, HoldL.K, HoldL.body, Nat.reduceBEq, Nat.reduceAdd, List.getElem?_cons_zero, List.getElem?_cons_succ, Option.bind_some, List.map_cons, List.map_nil, Nat.zero_add, if_true, List.getD_cons_zero, List.getD_cons_succ, List.contains_cons, List.contains_nil, Nat.reduceBEq, Bool.or_true, Bool.true_or, Bool.or_false, Bool.false_or, Bool.not_true, Bool.not_false, true_and, and_true, rowA_whole, push_n, set_n, push_obj, set_obj, set_push, set_push_ne, set_set, Nat.add_assoc, Nat.left_eq_add, Nat.add_eq_left, Nat.add_left_cancel_iff, Nat.reduceEqDiff, stO_1s, stO_ws, boxA_s, one_bool, one_int, one_str, one_ptr, one_nilptr, one_slice, one_eslice, one_nilslice, one_func, one_iface, one_niliface, List.all_cons, List.all_nil, List.length_cons, List.length_nil, Nat.reduceLT, Nat.reduceEqDiff, Nat.reduceLeDiff, Bool.and_true, Nat.one_ne_zero, Nat.succ_ne_zero, reduceIte, if_false, List.getElem?_cons_zero, List.set_cons_zero, List.set_cons_succ]
          have E0 := E
          refine loop_at (fun n e g => ∃ k : Nat, n = c.us.length - k ∧ k ≤ c.us.length ∧ e 1 = .ptr h.n 0 0 ∧ e 152 = v3 ∧ e 153 = .int .i64 (c.us.length : Nat) ∧ e 154 = .int .i64 (k : Nat) ∧ (c.us.take k).all rulOk = true ∧ Ext g1 g) c.us.length ?_ ?_
          · refine ⟨0, by omega, by omega, ?_⟩
            simp only [e1, go_sem, Hold.p, HoldK.k, HoldL.K, HoldL.body, Nat.reduceBEq, Nat.reduceAdd, List.getElem?_cons_zero, List.getElem?_cons_succ, Option.bind_some, List.map_cons, List.map_nil, Nat.zero_add, if_true, List.getD_cons_zero, List.getD_cons_succ, List.contains_cons, List.contains_nil, Nat.reduceBEq, Bool.or_true, Bool.true_or, Bool.or_false, Bool.false_or, Bool.not_true, Bool.not_false, true_and, and_true, rowA_whole, push_n, set_n, push_obj, set_obj, set_push, set_push_ne, set_set, Nat.add_assoc, Nat.left_eq_add, Nat.add_eq_left, Nat.add_left_cancel_iff, Nat.reduceEqDiff, stO_1s, stO_ws, boxA_s, one_bool, one_int, one_str, one_ptr, one_nilptr, one_slice, one_eslice, one_nilslice, one_func, one_iface, one_niliface, List.all_cons, List.all_nil, List.length_cons, List.length_nil, Nat.reduceLT, Nat.reduceEqDiff, Nat.reduceLeDiff, Bool.and_true, Nat.one_ne_zero, Nat.succ_ne_zero, reduceIte, if_false, List.getElem?_cons_zero, List.set_cons_zero, List.set_cons_succ]
            exact ⟨rfl, rfl, E0⟩
          · clear e1 e120 e121 e122 bb2 h22 E E0 hb hk
            rintro n e g ⟨k, rfl, hk, e1, e152, e153, e154, hG3, E⟩
            have bb2 := bb.ext E
            have h32 := h3.ext E
            simp only [e1, e152, e153, e154, go_sem, Hold.p, HoldK.k, HoldL.K, HoldL.body, Nat.reduceBEq, Nat.reduceAdd, List.getElem?_cons_zero, List.getElem?_cons_succ, Option.bind_some, List.map_cons, List.map_nil, Nat.zero_add, if_true, List.getD_cons_zero, List.getD_cons_succ, List.contains_cons, List.contains_nil, Nat.reduceBEq, Bool.or_true, Bool.true_or, Bool.or_false, Bool.false_or, Bool.not_true, Bool.not_false, true_and, and_true, rowA_whole, push_n, set_n, push_obj, set_obj, set_push, set_push_ne, set_set, Nat.add_assoc, Nat.left_eq_add, Nat.add_eq_left, Nat.add_left_cancel_iff, Nat.reduceEqDiff, stO_1s, stO_ws, boxA_s, one_bool, one_int, one_str, one_ptr, one_nilptr, one_slice, one_eslice, one_nilslice, one_func, one_iface, one_niliface, List.all_cons, List.all_nil, List.length_cons, List.length_nil, Nat.reduceLT, Nat.reduceEqDiff, Nat.reduceLeDiff, Bool.and_true, Nat.one_ne_zero, Nat.succ_ne_zero, reduceIte, if_false, List.getElem?_cons_zero, List.set_cons_zero, List.set_cons_succ]
            refine test_dec (fun hb => ?_) (fun hb => ?_)
            · have hlt : k < c.us.length := by omega
              have hkp : c.us[k]? = some c.us[k] := List.getElem?_eq_getElem hlt
              generalize c.us[k] = p at hkp
              obtain ⟨l, j, hia, hll, hrow⟩ := h32.at (m := k) (Rul.rows_at hkp) .i64
              unfold Rul.row at hrow
              have hrw := rowA_whole [.int .i64 p.action, .int .i64 p.dir, .int .i64 p.proto, .int .i64 p.sa, .int .i64 p.sb, .int .i64 p.sl, .int .i64 p.sh, .int .i64 p.da, .int .i64 p.db, .int .i64 p.dl, .int .i64 p.dh, .int .i64 p.state] 12 rfl
              simp only [e1, e152, e153, e154, hia, hrow, hrw, go_sem, Hold.p, HoldK.k, HoldL.K, HoldL.body, Nat.reduceBEq, Nat.reduceAdd, List.getElem?_cons_zero, List.getElem?_cons_succ, Option.bind_some, List.map_cons, List.map_nil, Nat.zero_add, if_true, List.getD_cons_zero, List.getD_cons_succ, List.contains_cons, List.contains_nil, Nat.reduceBEq, Bool.or_true, Bool.true_or, Bool.or_false, Bool.false_or, Bool.not_true, Bool.not_false, true_and, and_true, rowA_whole, push_n, set_n, push_obj, set_obj, set_push, set_push_ne, set_set, Nat.add_assoc, Nat.left_eq_add, Nat.add_eq_left, Nat.add_left_cancel_iff, Nat.reduceEqDiff, stO_1s, stO_ws, boxA_s, one_bool, one_int, one_str, one_ptr, one_nilptr, one_slice, one_eslice, one_nilslice, one_func, one_iface, one_niliface, List.all_cons, List.all_nil, List.length_cons, List.length_nil, Nat.reduceLT, Nat.reduceEqDiff, Nat.reduceLeDiff, Bool.and_true, Nat.one_ne_zero, Nat.succ_ne_zero, reduceIte, if_false, List.getElem?_cons_zero, List.set_cons_zero, List.set_cons_succ]
              generalize hq_g2 : IH.push g (IObj.rows [[IV.int .i64 p.action, IV.int .i64 p.dir, IV.int .i64 p.proto, IV.int .i64 p.sa, IV.int .i64 p.sb, IV.int .i64 p.sl, IV.int .i64 p.sh, IV.int .i64 p.da, IV.int .i64 p.db, IV.int .i64 p.dl, IV.int .i64 p.dh, IV.int .i64 p.state]] 80 12 false) = g2
              have e_g2 : Ext g g2 := by rw [← hq_g2]; exact (Ext.refl _).push _
              have l_g2 : g2.n = g.n + 1 := by rw [← hq_g2]; rfl
              have bp : At g2 g.n (IObj.rows [[IV.int .i64 p.action, IV.int .i64 p.dir, IV.int .i64 p.proto, IV.int .i64 p.sa, IV.int .i64 p.sb, IV.int .i64 p.sl, IV.int .i64 p.sh, IV.int .i64 p.da, IV.int .i64 p.db, IV.int .i64 p.dl, IV.int .i64 p.dh, IV.int .i64 p.state]] 80 12 false) := by rw [← hq_g2]; exact At.new _ _
              clear hq_g2
              have E := E.ext e_g2
              try simp only [bp.eq, go_sem, Hold.p, HoldK.k, HoldL.K, HoldL.body, Nat.reduceBEq, Nat.reduceAdd, List.getElem?_cons_zero, List.getElem?_cons_succ, Option.bind_some, List.map_cons, List.map_nil, Nat.zero_add, if_true, List.getD_cons_zero, List.getD_cons_succ, List.contains_cons, List.contains_nil, Nat.reduceBEq, Bool.or_true, Bool.true_or, Bool.or_false, Bool.false_or, Bool.not_true, Bool.not_false, true_and, and_true, rowA_whole, push_n, set_n, push_obj, set_obj, set_push, set_push_ne, set_set, Nat.add_assoc, Nat.left_eq_add, Nat.add_eq_left, Nat.add_left_cancel_iff, Nat.reduceEqDiff, stO_1s, stO_ws, boxA_s, one_bool, one_int, one_str, one_ptr, one_nilptr, one_slice, one_eslice, one_nilslice, one_func, one_iface, one_niliface, List.all_cons, List.all_nil, List.length_cons, List.length_nil, Nat.reduceLT, Nat.reduceEqDiff, Nat.reduceLeDiff, Bool.and_true, Nat.one_ne_zero, Nat.succ_ne_zero, reduceIte, if_false, List.getElem?_cons_zero, List.set_cons_zero, List.set_cons_succ]
              refine callA_of (okRule_c _ p.action p.dir p.proto p.sa p.sb p.sl p.sh p.da p.db p.dl p.dh p.state) ?_
              rintro r g3 ⟨rfl, E3⟩
              have E := E.ext E3
              have le_E3 := E3.le
              have hru : rulOk p = okRule p.action p.dir p.proto p.sa p.sb p.sl p.sh p.da p.db p.dl p.dh p.state := rfl
              rw [← hru]
              cases d6 : rulOk p
              · simp only [d6, go_sem, Hold.p, HoldK.k, HoldL.K, HoldL.body, Nat.reduceBEq, Nat.reduceAdd, List.getElem?_cons_zero, List.getElem?_cons_succ, Option.bind_some, List.map_cons, List.map_nil, Nat.zero_add, if_true, List.getD_cons_zero, List.getD_cons_succ, List.contains_cons, List.contains_nil, Nat.reduceBEq, Bool.or_true, Bool.true_or, Bool.or_false, Bool.false_or, Bool.not_true, Bool.not_false, true_and, and_true, rowA_whole, push_n, set_n, push_obj, set_obj, set_push, set_push_ne, set_set, Nat.add_assoc, Nat.left_eq_add, Nat.add_eq_left, Nat.add_left_cancel_iff, Nat.reduceEqDiff, stO_1s, stO_ws, boxA_s, one_bool, one_int, one_str, one_ptr, one_nilptr, one_slice, one_eslice, one_nilslice, one_func, one_iface, one_niliface, List.all_cons, List.all_nil, List.length_cons, List.length_nil, Nat.reduceLT, Nat.reduceEqDiff, Nat.reduceLeDiff, Bool.and_true, Nat.one_ne_zero, Nat.succ_ne_zero, reduceIte, if_false, List.getElem?_cons_zero, List.set_cons_zero, List.set_cons_succ]
                exact ⟨by rw [all_no hkp d6]; rfl, e_g0.trans E⟩
              · simp only [e1, e152, e153, e154, d6, go_sem, Hold.p, HoldK.k, HoldL.K, HoldL.body, Nat.reduceBEq, Nat.reduceAdd, List.getElem?_cons_zero, List.getElem?_cons_succ, Option.bind_some, List.map_cons, List.map_nil, Nat.zero_add, if_true, List.getD_cons_zero, List.getD_cons_succ, List.contains_cons, List.contains_nil, Nat.reduceBEq, Bool.or_true, Bool.true_or, Bool.or_false, Bool.false_or, Bool.not_true, Bool.not_false, true_and, and_true, rowA_whole, push_n, set_n, push_obj, set_obj, set_push, set_push_ne, set_set, Nat.add_assoc, Nat.left_eq_add, Nat.add_eq_left, Nat.add_left_cancel_iff, Nat.reduceEqDiff, stO_1s, stO_ws, boxA_s, one_bool, one_int, one_str, one_ptr, one_nilptr, one_slice, one_eslice, one_nilslice, one_func, one_iface, one_niliface, List.all_cons, List.all_nil, List.length_cons, List.length_nil, Nat.reduceLT, Nat.reduceEqDiff, Nat.reduceLeDiff, Bool.and_true, Nat.one_ne_zero, Nat.succ_ne_zero, reduceIte, if_false, List.getElem?_cons_zero, List.set_cons_zero, List.set_cons_succ]
                refine ⟨_, ?_, k + 1, rfl, by omega, wr64_succ k (by omega), all_go hkp hG3 d6, E⟩
                omega
            · obtain rfl : k = c.us.length := by omega
              rw [List.take_length] at hG3
              simp only [hG3, go_sem, Hold.p, HoldK.k, HoldL.K, HoldL.body, Nat.reduceBEq, Nat.reduceAdd, List.getElem?_cons_zero, List.getElem?_cons_succ, Option.bind_some, List.map_cons, List.map_nil, Nat.zero_add, if_true, List.getD_cons_zero, List.getD_cons_succ, List.contains_cons, List.contains_nil, Nat.reduceBEq, Bool.or_true, Bool.true_or, Bool.or_false, Bool.false_or, Bool.not_true, Bool.not_false, true_and, and_true, rowA_whole, push_n, set_n, push_obj, set_obj, set_push, set_push_ne, set_set, Nat.add_assoc, Nat.left_eq_add, Nat.add_eq_left, Nat.add_left_cancel_iff, Nat.reduceEqDiff, stO_1s, stO_ws, boxA_s, one_bool, one_int, one_str, one_ptr, one_nilptr, one_slice, one_eslice, one_nilslice, one_func, one_iface, one_niliface, List.all_cons, List.all_nil, List.length_cons, List.length_nil, Nat.reduceLT, Nat.reduceEqDiff, Nat.reduceLeDiff, Bool.and_true, Nat.one_ne_zero, Nat.succ_ne_zero, reduceIte, if_false, List.getElem?_cons_zero, List.set_cons_zero, List.set_cons_succ]
              exact e_g0.trans E
end Go.Proofs.Ytcmcfmgabafljaa

namespace Go.Proofs.Ytcmcfmgabafljaa
open Go Go.IW

def shLnk : Sh := .cat (.int .i64) (.cat (.int .i64) (.cat (.cat (.int .i64) (.cat (.int .i64) .nil)) (.cat (.int .i64) .nil)))
def shRte : Sh := .cat (.cat (.int .i64) (.cat (.int .i64) .nil)) (.cat (.int .i64) (.cat (.int .i64) (.cat (.int .i64) .nil)))
def shRul : Sh := .cat (.int .i64) (.cat (.int .i64) (.cat (.int .i64) (.cat (.cat (.int .i64) (.cat (.int .i64) .nil)) (.cat (.int .i64) (.cat (.int .i64) (.cat (.cat (.int .i64) (.cat (.int .i64) .nil)) (.cat (.int .i64) (.cat (.int .i64) (.cat (.int .i64) .nil)))))))))
def shCfg : Sh := .cat (.slice shLnk) (.cat (.slice shRte) (.cat (.slice shRul) (.cat .bool (.cat .bool (.cat (.int .i64) .nil)))))
theorem prs_ok : parsOf Try.prog Try.f3.params.toList = some [(shCfg, true)] := by kernel_rfl

theorem fits_lnk {h : IH} : ∀ {rs : List (List IV)}, (∀ r ∈ rs, Fits h shLnk r) → ∃ xs, rs = Lnk.rows xs
  | [], _ => ⟨[], rfl⟩
  | r :: rs, hf => by
    obtain ⟨xs, e⟩ := fits_lnk fun x hx => hf x (List.mem_cons_of_mem _ hx)
    obtain ⟨_, _, rfl, ⟨a, rfl, _⟩, _, _, rfl, ⟨b, rfl, _⟩, _, _, rfl, ⟨_, _, rfl, ⟨c, rfl, _⟩, _, _, rfl, ⟨d, rfl, _⟩, rfl⟩, _, _, rfl, ⟨m, rfl, _⟩, rfl⟩ := hf r List.mem_cons_self
    exact ⟨⟨a, b, c, d, m⟩ :: xs, by rw [e]; rfl⟩
theorem fits_rte {h : IH} : ∀ {rs : List (List IV)}, (∀ r ∈ rs, Fits h shRte r) → ∃ xs, rs = Rte.rows xs
  | [], _ => ⟨[], rfl⟩
  | r :: rs, hf => by
    obtain ⟨xs, e⟩ := fits_rte fun x hx => hf x (List.mem_cons_of_mem _ hx)
    obtain ⟨_, _, rfl, ⟨_, _, rfl, ⟨a, rfl, _⟩, _, _, rfl, ⟨b, rfl, _⟩, rfl⟩, _, _, rfl, ⟨c, rfl, _⟩, _, _, rfl, ⟨d, rfl, _⟩, _, _, rfl, ⟨m, rfl, _⟩, rfl⟩ := hf r List.mem_cons_self
    exact ⟨⟨a, b, c, d, m⟩ :: xs, by rw [e]; rfl⟩
theorem fits_rul {h : IH} : ∀ {rs : List (List IV)}, (∀ r ∈ rs, Fits h shRul r) → ∃ xs, rs = Rul.rows xs
  | [], _ => ⟨[], rfl⟩
  | r :: rs, hf => by
    obtain ⟨xs, e⟩ := fits_rul fun x hx => hf x (List.mem_cons_of_mem _ hx)
    obtain ⟨_, _, rfl, ⟨a1, rfl, _⟩, _, _, rfl, ⟨a2, rfl, _⟩, _, _, rfl, ⟨a3, rfl, _⟩, _, _, rfl, ⟨_, _, rfl, ⟨a4, rfl, _⟩, _, _, rfl, ⟨a5, rfl, _⟩, rfl⟩, _, _, rfl, ⟨a6, rfl, _⟩, _, _, rfl, ⟨a7, rfl, _⟩,
      _, _, rfl, ⟨_, _, rfl, ⟨a8, rfl, _⟩, _, _, rfl, ⟨a9, rfl, _⟩, rfl⟩, _, _, rfl, ⟨a10, rfl, _⟩, _, _, rfl, ⟨a11, rfl, _⟩, _, _, rfl, ⟨a12, rfl, _⟩, rfl⟩ := hf r List.mem_cons_self
    exact ⟨⟨a1, a2, a3, a4, a5, a6, a7, a8, a9, a10, a11, a12⟩ :: xs, by rw [e]; rfl⟩
theorem fits_cfg {h : IH} {cs : List IV} (hf : Fits h shCfg cs) : ∃ (v1 v2 v3 : IV) (c : Cfg), cs = [v1, v2, v3, .bool c.fl, .bool c.fw, .int .i64 c.se] ∧ SlR h 5 v1 (Lnk.rows c.ls) ∧ SlR h 5 v2 (Rte.rows c.rs) ∧ SlR h 12 v3 (Rul.rows c.us) ∧ c.ls.length ≤ maxLen ∧ c.rs.length ≤ maxLen ∧ c.us.length ≤ maxLen := by
  obtain ⟨_, _, rfl, ⟨v1, r1, rfl, s1, l1, f1⟩, _, _, rfl, ⟨v2, r2, rfl, s2, l2, f2⟩, _, _, rfl, ⟨v3, r3, rfl, s3, l3, f3⟩, _, _, rfl, ⟨b1, rfl⟩, _, _, rfl, ⟨b2, rfl⟩, _, _, rfl, ⟨se, rfl, _⟩, rfl⟩ := hf
  obtain ⟨x1, rfl⟩ := fits_lnk f1
  obtain ⟨x2, rfl⟩ := fits_rte f2
  obtain ⟨x3, rfl⟩ := fits_rul f3
  rw [Lnk.rows_len] at l1
  rw [Rte.rows_len] at l2
  rw [Rul.rows_len] at l3
  exact ⟨v1, v2, v3, ⟨x1, x2, x3, b1, b2, se⟩, rfl, s1, s2, s3, l1, l2, l3⟩

set_option maxRecDepth 20000 in
theorem lawHostOK : LawTrue Try.prog 3 [(shCfg, true)] := by
  rintro h ivs ha ⟨iv, r, rfl, ⟨cs, rfl, hf⟩, rfl⟩
  obtain ⟨v1, v2, v3, c, rfl, h1, h2, h3, m1, m2, m3⟩ := fits_cfg hf
  refine icalls (.of ok3) (Nat.le_of_ble_eq_true rfl) ?_
  unfold c3
  have o1 := h1.one
  have o2 := h2.one
  have o3 := h3.one
  have p1 := h1.cells
  have p2 := h2.cells
  have p3 := h3.cells
  simp only [o1, o2, o3, go_sem, Hold.p, HoldK.k, HoldL.K, HoldL.body, Nat.reduceBEq, Nat.reduceAdd, List.getElem?_cons_zero, List.getElem?_cons_succ, Option.bind_some, List.map_cons, List.map_nil, Nat.zero_add, if_true, List.getD_cons_zero, List.getD_cons_succ, List.contains_cons, List.contains_nil, Nat.reduceBEq, Bool.or_true, Bool.true_or, Bool.or_false, Bool.false_or, Bool.not_true, Bool.not_false, true_and, and_true, rowA_whole, push_n, set_n, push_obj, set_obj, set_push, set_push_ne, set_set, Nat.add_assoc, Nat.left_eq_add, Nat.add_eq_left, Nat.add_left_cancel_iff, Nat.reduceEqDiff, stO_1s, stO_ws, boxA_s, one_bool, one_int, one_str, one_ptr, one_nilptr, one_slice, one_eslice, one_nilslice, one_func, one_iface, one_niliface, List.all_cons, List.all_nil, List.length_cons, List.length_nil, Nat.reduceLT, Nat.reduceEqDiff, Nat.reduceLeDiff, Bool.and_true, Nat.one_ne_zero, Nat.succ_ne_zero, reduceIte, if_false, List.getElem?_cons_zero, List.set_cons_zero, List.set_cons_succ]
  generalize hq_g0 : IH.push h (IObj.rows [[v1, v2, v3, IV.bool c.fl, IV.bool c.fw, IV.int .i64 c.se]] 26 6 false) = g0
  have e_g0 : Ext h g0 := by rw [← hq_g0]; exact (Ext.refl _).push _
  have l_g0 : g0.n = h.n + 1 := by rw [← hq_g0]; rfl
  have bA : At g0 h.n (IObj.rows [[v1, v2, v3, IV.bool c.fl, IV.bool c.fw, IV.int .i64 c.se]] 26 6 false) := by rw [← hq_g0]; exact At.new _ _
  clear hq_g0
  have h1 := h1.ext e_g0
  have h2 := h2.ext e_g0
  have h3 := h3.ext e_g0
  refine callA_of (szHostConfig_c _ v1 v2 v3 c h1 h2 h3 m1 m2 m3) ?_
  rintro r g1 ⟨⟨L, rfl, q1, q2⟩, E1⟩
  have bA := bA.ext E1
  have h1 := h1.ext E1
  have h2 := h2.ext E1
  have h3 := h3.ext E1
  have le_E1 := E1.le
  by_cases hbig : L < 0
  · have hn : decide (L < 0) = true := decide_eq_true hbig
    simp only [hn, go_sem, Hold.p, HoldK.k, HoldL.K, HoldL.body, Nat.reduceBEq, Nat.reduceAdd, List.getElem?_cons_zero, List.getElem?_cons_succ, Option.bind_some, List.map_cons, List.map_nil, Nat.zero_add, if_true, List.getD_cons_zero, List.getD_cons_succ, List.contains_cons, List.contains_nil, Nat.reduceBEq, Bool.or_true, Bool.true_or, Bool.or_false, Bool.false_or, Bool.not_true, Bool.not_false, true_and, and_true, rowA_whole, push_n, set_n, push_obj, set_obj, set_push, set_push_ne, set_set, Nat.add_assoc, Nat.left_eq_add, Nat.add_eq_left, Nat.add_left_cancel_iff, Nat.reduceEqDiff, stO_1s, stO_ws, boxA_s, one_bool, one_int, one_str, one_ptr, one_nilptr, one_slice, one_eslice, one_nilslice, one_func, one_iface, one_niliface, List.all_cons, List.all_nil, List.length_cons, List.length_nil, Nat.reduceLT, Nat.reduceEqDiff, Nat.reduceLeDiff, Bool.and_true, Nat.one_ne_zero, Nat.succ_ne_zero, reduceIte, if_false, List.getElem?_cons_zero, List.set_cons_zero, List.set_cons_succ]
  have hn : decide (L < 0) = false := decide_eq_false hbig
  obtain ⟨k1, k2, k3⟩ := q2 (by omega)
  simp only [hn, bA.eq, go_sem, Hold.p, HoldK.k, HoldL.K, HoldL.body, Nat.reduceBEq, Nat.reduceAdd, List.getElem?_cons_zero, List.getElem?_cons_succ, Option.bind_some, List.map_cons, List.map_nil, Nat.zero_add, if_true, List.getD_cons_zero, List.getD_cons_succ, List.contains_cons, List.contains_nil, Nat.reduceBEq, Bool.or_true, Bool.true_or, Bool.or_false, Bool.false_or, Bool.not_true, Bool.not_false, true_and, and_true, rowA_whole, push_n, set_n, push_obj, set_obj, set_push, set_push_ne, set_set, Nat.add_assoc, Nat.left_eq_add, Nat.add_eq_left, Nat.add_left_cancel_iff, Nat.reduceEqDiff, stO_1s, stO_ws, boxA_s, one_bool, one_int, one_str, one_ptr, one_nilptr, one_slice, one_eslice, one_nilslice, one_func, one_iface, one_niliface, List.all_cons, List.all_nil, List.length_cons, List.length_nil, Nat.reduceLT, Nat.reduceEqDiff, Nat.reduceLeDiff, Bool.and_true, Nat.one_ne_zero, Nat.succ_ne_zero, reduceIte, if_false, List.getElem?_cons_zero, List.set_cons_zero, List.set_cons_succ]
  refine callA_of (toHostConfig_c _ v1 v2 v3 c h1 h2 h3 k1 k2 k3) ?_
  rintro r g2 ⟨w1, w2, w3, rfl, ⟨x1, x2, x3⟩, E2⟩
  have bA := bA.ext E2
  have h1 := h1.ext E2
  have h2 := h2.ext E2
  have h3 := h3.ext E2
  have le_E2 := E2.le
  simp only [go_sem, Hold.p, HoldK.k, HoldL.K, HoldL.body, Nat.reduceBEq, Nat.reduceAdd, List.getElem?_cons_zero, List.getElem?_cons_succ, Option.bind_some, List.map_cons, List.map_nil, Nat.zero_add, if_true, List.getD_cons_zero, List.getD_cons_succ, List.contains_cons, List.contains_nil, Nat.reduceBEq, Bool.or_true, Bool.true_or, Bool.or_false, Bool.false_or, Bool.not_true, Bool.not_false, true_and, and_true, rowA_whole, push_n, set_n, push_obj, set_obj, set_push, set_push_ne, set_set, Nat.add_assoc, Nat.left_eq_add, Nat.add_eq_left, Nat.add_left_cancel_iff, Nat.reduceEqDiff, stO_1s, stO_ws, boxA_s, one_bool, one_int, one_str, one_ptr, one_nilptr, one_slice, one_eslice, one_nilslice, one_func, one_iface, one_niliface, List.all_cons, List.all_nil, List.length_cons, List.length_nil, Nat.reduceLT, Nat.reduceEqDiff, Nat.reduceLeDiff, Bool.and_true, Nat.one_ne_zero, Nat.succ_ne_zero, reduceIte, if_false, List.getElem?_cons_zero, List.set_cons_zero, List.set_cons_succ]
  refine callA_of (specHostOK_c _ w1 w2 w3 c x1.sl x2.sl x3.sl k1 k2 k3) ?_
  rintro r g3 ⟨rfl, E3⟩
  have bA := bA.ext E3
  have h1 := h1.ext E3
  have h2 := h2.ext E3
  have h3 := h3.ext E3
  have le_E3 := E3.le
  simp only [bA.eq, go_sem, Hold.p, HoldK.k, HoldL.K, HoldL.body, Nat.reduceBEq, Nat.reduceAdd, List.getElem?_cons_zero, List.getElem?_cons_succ, Option.bind_some, List.map_cons, List.map_nil, Nat.zero_add, if_true, List.getD_cons_zero, List.getD_cons_succ, List.contains_cons, List.contains_nil, Nat.reduceBEq, Bool.or_true, Bool.true_or, Bool.or_false, Bool.false_or, Bool.not_true, Bool.not_false, true_and, and_true, rowA_whole, push_n, set_n, push_obj, set_obj, set_push, set_push_ne, set_set, Nat.add_assoc, Nat.left_eq_add, Nat.add_eq_left, Nat.add_left_cancel_iff, Nat.reduceEqDiff, stO_1s, stO_ws, boxA_s, one_bool, one_int, one_str, one_ptr, one_nilptr, one_slice, one_eslice, one_nilslice, one_func, one_iface, one_niliface, List.all_cons, List.all_nil, List.length_cons, List.length_nil, Nat.reduceLT, Nat.reduceEqDiff, Nat.reduceLeDiff, Bool.and_true, Nat.one_ne_zero, Nat.succ_ne_zero, reduceIte, if_false, List.getElem?_cons_zero, List.set_cons_zero, List.set_cons_succ]
  refine callA_of (toHostConfig_c _ v1 v2 v3 c h1 h2 h3 k1 k2 k3) ?_
  rintro r g4 ⟨w4, w5, w6, rfl, ⟨x4, x5, x6⟩, E4⟩
  have bA := bA.ext E4
  have h1 := h1.ext E4
  have h2 := h2.ext E4
  have h3 := h3.ext E4
  have le_E4 := E4.le
  have o4 := x4.sl.one
  have o5 := x5.sl.one
  have o6 := x6.sl.one
  have p4 := x4.sl.cells
  have p5 := x5.sl.cells
  have p6 := x6.sl.cells
  simp only [o4, o5, o6, p4, p5, p6, go_sem, Hold.p, HoldK.k, HoldL.K, HoldL.body, Nat.reduceBEq, Nat.reduceAdd, List.getElem?_cons_zero, List.getElem?_cons_succ, Option.bind_some, List.map_cons, List.map_nil, Nat.zero_add, if_true, List.getD_cons_zero, List.getD_cons_succ, List.contains_cons, List.contains_nil, Nat.reduceBEq, Bool.or_true, Bool.true_or, Bool.or_false, Bool.false_or, Bool.not_true, Bool.not_false, true_and, and_true, rowA_whole, push_n, set_n, push_obj, set_obj, set_push, set_push_ne, set_set, Nat.add_assoc, Nat.left_eq_add, Nat.add_eq_left, Nat.add_left_cancel_iff, Nat.reduceEqDiff, stO_1s, stO_ws, boxA_s, one_bool, one_int, one_str, one_ptr, one_nilptr, one_slice, one_eslice, one_nilslice, one_func, one_iface, one_niliface, List.all_cons, List.all_nil, List.length_cons, List.length_nil, Nat.reduceLT, Nat.reduceEqDiff, Nat.reduceLeDiff, Bool.and_true, Nat.one_ne_zero, Nat.succ_ne_zero, reduceIte, if_false, List.getElem?_cons_zero, List.set_cons_zero, List.set_cons_succ]
  generalize hq_g5 : IH.push g4 (IObj.rows [[w4, w5, w6, IV.bool c.fl, IV.bool c.fw, IV.int .i64 c.se]] 33 6 false) = g5
  have e_g5 : Ext g4 g5 := by rw [← hq_g5]; exact (Ext.refl _).push _
  have l_g5 : g5.n = g4.n + 1 := by rw [← hq_g5]; rfl
  have bX : At g5 g4.n (IObj.rows [[w4, w5, w6, IV.bool c.fl, IV.bool c.fw, IV.int .i64 c.se]] 33 6 false) := by rw [← hq_g5]; exact At.new _ _
  clear hq_g5
  have bA := bA.ext e_g5
  have h1 := h1.ext e_g5
  have h2 := h2.ext e_g5
  have h3 := h3.ext e_g5
  have x4 := x4.ext e_g5
  have x5 := x5.ext e_g5
  have x6 := x6.ext e_g5
  try simp only [bX.eq, go_sem, Hold.p, HoldK.k, HoldL.K, HoldL.body, Nat.reduceBEq, Nat.reduceAdd, List.getElem?_cons_zero, List.getElem?_cons_succ, Option.bind_some, List.map_cons, List.map_nil, Nat.zero_add, if_true, List.getD_cons_zero, List.getD_cons_succ, List.contains_cons, List.contains_nil, Nat.reduceBEq, Bool.or_true, Bool.true_or, Bool.or_false, Bool.false_or, Bool.not_true, Bool.not_false, true_and, and_true, rowA_whole, push_n, set_n, push_obj, set_obj, set_push, set_push_ne, set_set, Nat.add_assoc, Nat.left_eq_add, Nat.add_eq_left, Nat.add_left_cancel_iff, Nat.reduceEqDiff, stO_1s, stO_ws, boxA_s, one_bool, one_int, one_str, one_ptr, one_nilptr, one_slice, one_eslice, one_nilslice, one_func, one_iface, one_niliface, List.all_cons, List.all_nil, List.length_cons, List.length_nil, Nat.reduceLT, Nat.reduceEqDiff, Nat.reduceLeDiff, Bool.and_true, Nat.one_ne_zero, Nat.succ_ne_zero, reduceIte, if_false, List.getElem?_cons_zero, List.set_cons_zero, List.set_cons_succ]
  refine callA_of (implHostOK_c _ w4 w5 w6 c x4.sl x5.sl x6.sl k1 k2 k3) ?_
  rintro r g6 ⟨rfl, E6⟩
  have bA := bA.ext E6
  have bX := bX.ext E6
  have h1 := h1.ext E6
  have h2 := h2.ext E6
  have h3 := h3.ext E6
  have x4 := x4.ext E6
  have x5 := x5.ext E6
  have x6 := x6.ext E6
  have le_E6 := E6.le
  have hB : ∀ a, ibinB true (.bool a) (.bool a) = some (.bool false) := by intro a; cases a <;> rfl
  simp only [bA.eq, bX.eq, hB, go_sem, Hold.p, HoldK.k, HoldL.K, HoldL.body, Nat.reduceBEq, Nat.reduceAdd, List.getElem?_cons_zero, List.getElem?_cons_succ, Option.bind_some, List.map_cons, List.map_nil, Nat.zero_add, if_true, List.getD_cons_zero, List.getD_cons_succ, List.contains_cons, List.contains_nil, Nat.reduceBEq, Bool.or_true, Bool.true_or, Bool.or_false, Bool.false_or, Bool.not_true, Bool.not_false, true_and, and_true, rowA_whole, push_n, set_n, push_obj, set_obj, set_push, set_push_ne, set_set, Nat.add_assoc, Nat.left_eq_add, Nat.add_eq_left, Nat.add_left_cancel_iff, Nat.reduceEqDiff, stO_1s, stO_ws, boxA_s, one_bool, one_int, one_str, one_ptr, one_nilptr, one_slice, one_eslice, one_nilslice, one_func, one_iface, one_niliface, List.all_cons, List.all_nil, List.length_cons, List.length_nil, Nat.reduceLT, Nat.reduceEqDiff, Nat.reduceLeDiff, Bool.and_true, Nat.one_ne_zero, Nat.succ_ne_zero, reduceIte, if_false, List.getElem?_cons_zero, List.set_cons_zero, List.set_cons_succ]
  refine callA_of (toHostConfig_c _ v1 v2 v3 c h1 h2 h3 k1 k2 k3) ?_
  rintro r g7 ⟨w7, w8, w9, rfl, ⟨x7, x8, x9⟩, E7⟩
  have bA := bA.ext E7
  have bX := bX.ext E7
  have x4 := x4.ext E7
  have x5 := x5.ext E7
  have x6 := x6.ext E7
  have le_E7 := E7.le
  simp only [bA.eq, bX.eq, go_sem, Hold.p, HoldK.k, HoldL.K, HoldL.body, Nat.reduceBEq, Nat.reduceAdd, List.getElem?_cons_zero, List.getElem?_cons_succ, Option.bind_some, List.map_cons, List.map_nil, Nat.zero_add, if_true, List.getD_cons_zero, List.getD_cons_succ, List.contains_cons, List.contains_nil, Nat.reduceBEq, Bool.or_true, Bool.true_or, Bool.or_false, Bool.false_or, Bool.not_true, Bool.not_false, true_and, and_true, rowA_whole, push_n, set_n, push_obj, set_obj, set_push, set_push_ne, set_set, Nat.add_assoc, Nat.left_eq_add, Nat.add_eq_left, Nat.add_left_cancel_iff, Nat.reduceEqDiff, stO_1s, stO_ws, boxA_s, one_bool, one_int, one_str, one_ptr, one_nilptr, one_slice, one_eslice, one_nilslice, one_func, one_iface, one_niliface, List.all_cons, List.all_nil, List.length_cons, List.length_nil, Nat.reduceLT, Nat.reduceEqDiff, Nat.reduceLeDiff, Bool.and_true, Nat.one_ne_zero, Nat.succ_ne_zero, reduceIte, if_false, List.getElem?_cons_zero, List.set_cons_zero, List.set_cons_succ]
  refine callA_of (eqHostConfig_c _ w4 w5 w6 w7 w8 w9 c x4.sl x5.sl x6.sl x7.sl x8.sl x9.sl k1 k2 k3) ?_
  rintro r g8 ⟨rfl, E8⟩
  have bA := bA.ext E8
  have bX := bX.ext E8
  have le_E8 := E8.le
  simp only [bA.eq, bX.eq, go_sem, Hold.p, HoldK.k, HoldL.K, HoldL.body, Nat.reduceBEq, Nat.reduceAdd, List.getElem?_cons_zero, List.getElem?_cons_succ, Option.bind_some, List.map_cons, List.map_nil, Nat.zero_add, if_true, List.getD_cons_zero, List.getD_cons_succ, List.contains_cons, List.contains_nil, Nat.reduceBEq, Bool.or_true, Bool.true_or, Bool.or_false, Bool.false_or, Bool.not_true, Bool.not_false, true_and, and_true, rowA_whole, push_n, set_n, push_obj, set_obj, set_push, set_push_ne, set_set, Nat.add_assoc, Nat.left_eq_add, Nat.add_eq_left, Nat.add_left_cancel_iff, Nat.reduceEqDiff, stO_1s, stO_ws, boxA_s, one_bool, one_int, one_str, one_ptr, one_nilptr, one_slice, one_eslice, one_nilslice, one_func, one_iface, one_niliface, List.all_cons, List.all_nil, List.length_cons, List.length_nil, Nat.reduceLT, Nat.reduceEqDiff, Nat.reduceLeDiff, Bool.and_true, Nat.one_ne_zero, Nat.succ_ne_zero, reduceIte, if_false, List.getElem?_cons_zero, List.set_cons_zero, List.set_cons_succ]
end Go.Proofs.Ytcmcfmgabafljaa
