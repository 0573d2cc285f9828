import Derived.Test.YtecljenjlncfhaaCE
import Derived.Test.YtecljenjlncfhaaBFormsC
namespace Go.Proofs.Ytecljenjlncfhaa
open Go Go.IW
set_option linter.unusedSimpArgs false
set_option linter.unusedVariables false

/-- All but an object and what v names is as before. -/
structure But (b : Nat) (v : IV) (h h' : IH) : Prop where
  le : h.n ≤ h'.n
  obj : ∀ m, m < h.n → m ≠ b → ¬ v.at_ m → h'.obj m = h.obj m
theorem But.refl (b : Nat) (v : IV) (h : IH) : But b v h h := ⟨Nat.le_refl _, fun _ _ _ _ => rfl⟩
theorem But.ext {a b c : IH} {p lo hi el sz : Nat} {w : IV} {rs : List (List IV)} (t : But p w b c) (e : Ext a b) (hw : Own lo hi b el sz w rs) (hlo : a.n ≤ lo) (hp : a.n ≤ p) : Ext a c :=
  ⟨Nat.le_trans e.le t.le, fun l hl => (t.obj l (Nat.lt_of_lt_of_le hl e.le) (by omega) (fun hv => by have := hw.at_ hv; omega)).trans (e.obj l hl)⟩
theorem But.at_ {b c : IH} {p q lo hi el sz : Nat} {w : IV} {rs : List (List IV)} {o : IObj} (t : But p w b c) (a : At b q o) (hw : Own lo hi b el sz w rs) (hq : q < lo ∨ hi ≤ q) (hp : q ≠ p) : At c q o :=
  ⟨Nat.lt_of_lt_of_le a.lt t.le, (t.obj q a.lt hp (fun hv => by have := hw.at_ hv; omega)).trans a.eq⟩

def newP (nxt n at_ : Int) : Piece := ⟨nxt, nxt + n, at_, 1, false, false⟩

set_option maxRecDepth 20000 in
theorem send_c {lo hi : Nat} (h : IH) (b e0 : Nat) (v : IV) (una nxt n at_ : Int) (ps : List Piece) (hb : At h b (.rows [[.int .i64 una, .int .i64 nxt, v]] e0 3 false)) (hd : b < lo ∨ hi ≤ b)
    (ho : Own lo hi h 113 6 v (ps.map Piece.row)) (hm : ps.length ≤ 4096) (hx : 0 ≤ nxt ∧ nxt ≤ 1099511627776) (hn : 1 ≤ n ∧ n ≤ 65535) :
    ICalls Try.prog 78 [.ptr b 0 0, .int .i64 n, .int .i64 at_] h fun r h' => if 4096 ≤ ps.length ∨ 1099511627776 < nxt + n then r = .bool false ∧ h' = h else
      r = .bool true ∧ ∃ v', At h' b (.rows [[.int .i64 una, .int .i64 (nxt + n), v']] e0 3 false) ∧ Own h.n h'.n h' 113 6 v' ((ps ++ [newP nxt n at_]).map Piece.row) ∧ But b v h h' := by
  refine icalls (.of ok78) (Nat.le_of_ble_eq_true rfl) ?_
  unfold c78
  have hlen := ho.lenF
  rw [List.length_map] at hlen
  have hbe := hb.eq
  have hw1 : wr .i64 (nxt + n) = nxt + n := wr64 _ (by omega)
  have hnb : (b = h.n) = False := by have := hb.lt; simp; omega
  by_cases c1 : (4096 : Int) ≤ ps.length
  · have d1 : decide ((4096 : Int) ≤ ps.length) = true := by simpa using c1
    simp only [hbe, hlen, d1, go_sem, Hold.p, HoldK.k, HoldL.K, HoldL.body, Nat.reduceBEq, Nat.reduceAdd, List.getElem?_cons_zero, List.getElem?_cons_succ, Option.bind_some, List.map_cons, List.map_nil, Nat.zero_add, if_true, List.getD_cons_zero, List.getD_cons_succ, List.contains_cons, List.contains_nil, Nat.reduceBEq, Bool.or_true, Bool.true_or, Bool.or_false, Bool.false_or, Bool.not_true, Bool.not_false, true_and, and_true, rowA_whole, push_n, set_n, push_obj, set_obj, set_push, set_push_ne, set_set, Nat.add_assoc, Nat.left_eq_add, Nat.add_eq_left, Nat.add_left_cancel_iff, Nat.reduceEqDiff, stO_1s, stO_ws, boxA_s, one_bool, one_int, one_str, one_ptr, one_nilptr, one_slice, one_eslice, one_nilslice, one_func, one_iface, one_niliface, List.all_cons, List.all_nil, List.length_cons, List.length_nil, Nat.reduceLT, Nat.reduceEqDiff, Nat.reduceLeDiff, Bool.and_true, Nat.one_ne_zero, Nat.succ_ne_zero, reduceIte, if_false, List.getElem?_cons_zero, List.set_cons_zero, List.set_cons_succ]
    rw [if_pos (.inl (by omega))]
    trivial
  · have d1 : decide ((4096 : Int) ≤ ps.length) = false := by simpa using c1
    by_cases c2 : 1099511627776 < nxt + n
    · have d2 : decide (1099511627776 < nxt + n) = true := by simpa using c2
      simp only [hbe, hlen, d1, hw1, d2, go_sem, Hold.p, HoldK.k, HoldL.K, HoldL.body, Nat.reduceBEq, Nat.reduceAdd, List.getElem?_cons_zero, List.getElem?_cons_succ, Option.bind_some, List.map_cons, List.map_nil, Nat.zero_add, if_true, List.getD_cons_zero, List.getD_cons_succ, List.contains_cons, List.contains_nil, Nat.reduceBEq, Bool.or_true, Bool.true_or, Bool.or_false, Bool.false_or, Bool.not_true, Bool.not_false, true_and, and_true, rowA_whole, push_n, set_n, push_obj, set_obj, set_push, set_push_ne, set_set, Nat.add_assoc, Nat.left_eq_add, Nat.add_eq_left, Nat.add_left_cancel_iff, Nat.reduceEqDiff, stO_1s, stO_ws, boxA_s, one_bool, one_int, one_str, one_ptr, one_nilptr, one_slice, one_eslice, one_nilslice, one_func, one_iface, one_niliface, List.all_cons, List.all_nil, List.length_cons, List.length_nil, Nat.reduceLT, Nat.reduceEqDiff, Nat.reduceLeDiff, Bool.and_true, Nat.one_ne_zero, Nat.succ_ne_zero, reduceIte, if_false, List.getElem?_cons_zero, List.set_cons_zero, List.set_cons_succ]
      rw [if_pos (.inr c2)]
      trivial
    · have d2 : decide (1099511627776 < nxt + n) = false := by simpa using c2
      simp only [hbe, hlen, d1, hw1, d2, hnb, go_sem, Hold.p, HoldK.k, HoldL.K, HoldL.body, Nat.reduceBEq, Nat.reduceAdd, List.getElem?_cons_zero, List.getElem?_cons_succ, Option.bind_some, List.map_cons, List.map_nil, Nat.zero_add, if_true, List.getD_cons_zero, List.getD_cons_succ, List.contains_cons, List.contains_nil, Nat.reduceBEq, Bool.or_true, Bool.true_or, Bool.or_false, Bool.false_or, Bool.not_true, Bool.not_false, true_and, and_true, rowA_whole, push_n, set_n, push_obj, set_obj, set_push, set_push_ne, set_set, Nat.add_assoc, Nat.left_eq_add, Nat.add_eq_left, Nat.add_left_cancel_iff, Nat.reduceEqDiff, stO_1s, stO_ws, boxA_s, one_bool, one_int, one_str, one_ptr, one_nilptr, one_slice, one_eslice, one_nilslice, one_func, one_iface, one_niliface, List.all_cons, List.all_nil, List.length_cons, List.length_nil, Nat.reduceLT, Nat.reduceEqDiff, Nat.reduceLeDiff, Bool.and_true, Nat.one_ne_zero, Nat.succ_ne_zero, reduceIte, if_false, List.getElem?_cons_zero, List.set_cons_zero, List.set_cons_succ]
      refine got_of (v := .agg (newP nxt n at_).row) rfl ?_
      simp only [hbe, hlen, d1, hw1, d2, hnb, newP, Piece.row, go_sem, Hold.p, HoldK.k, HoldL.K, HoldL.body, Nat.reduceBEq, Nat.reduceAdd, List.getElem?_cons_zero, List.getElem?_cons_succ, Option.bind_some, List.map_cons, List.map_nil, Nat.zero_add, if_true, List.getD_cons_zero, List.getD_cons_succ, List.contains_cons, List.contains_nil, Nat.reduceBEq, Bool.or_true, Bool.true_or, Bool.or_false, Bool.false_or, Bool.not_true, Bool.not_false, true_and, and_true, rowA_whole, push_n, set_n, push_obj, set_obj, set_push, set_push_ne, set_set, Nat.add_assoc, Nat.left_eq_add, Nat.add_eq_left, Nat.add_left_cancel_iff, Nat.reduceEqDiff, stO_1s, stO_ws, boxA_s, one_bool, one_int, one_str, one_ptr, one_nilptr, one_slice, one_eslice, one_nilslice, one_func, one_iface, one_niliface, List.all_cons, List.all_nil, List.length_cons, List.length_nil, Nat.reduceLT, Nat.reduceEqDiff, Nat.reduceLeDiff, Bool.and_true, Nat.one_ne_zero, Nat.succ_ne_zero, reduceIte, if_false, List.getElem?_cons_zero, List.set_cons_zero, List.set_cons_succ]
      generalize hq_g0 : IH.push h (IObj.rows [[.int .i64 nxt, .int .i64 (nxt + n), .int .i64 at_, .int .i64 1, .bool false, .bool false]] 113 6 false) = g0
      have e_g0 : Ext h g0 := by rw [← hq_g0]; exact (Ext.refl _).push _
      have l_g0 : g0.n = h.n + 1 := by rw [← hq_g0]; rfl
      have bN : At g0 h.n (IObj.rows [[.int .i64 nxt, .int .i64 (nxt + n), .int .i64 at_, .int .i64 1, .bool false, .bool false]] 113 6 false) := by rw [← hq_g0]; exact At.new _ _
      clear hq_g0
      have hb := hb.ext e_g0
      have ho := ho.ext e_g0
      have hle := e_g0.le
      refine ho.app (by simp) (by simp; omega) ?_
      intro v' h2 o2 t2 n2 v1 vc
      have b2 := hb.turn ho (by omega) t2
      have b2e := b2.eq
      have b2l := b2.lt
      simp only [b2e, vc, v1, hw1, go_sem, Hold.p, HoldK.k, HoldL.K, HoldL.body, Nat.reduceBEq, Nat.reduceAdd, List.getElem?_cons_zero, List.getElem?_cons_succ, Option.bind_some, List.map_cons, List.map_nil, Nat.zero_add, if_true, List.getD_cons_zero, List.getD_cons_succ, List.contains_cons, List.contains_nil, Nat.reduceBEq, Bool.or_true, Bool.true_or, Bool.or_false, Bool.false_or, Bool.not_true, Bool.not_false, true_and, and_true, rowA_whole, push_n, set_n, push_obj, set_obj, set_push, set_push_ne, set_set, Nat.add_assoc, Nat.left_eq_add, Nat.add_eq_left, Nat.add_left_cancel_iff, Nat.reduceEqDiff, stO_1s, stO_ws, boxA_s, one_bool, one_int, one_str, one_ptr, one_nilptr, one_slice, one_eslice, one_nilslice, one_func, one_iface, one_niliface, List.all_cons, List.all_nil, List.length_cons, List.length_nil, Nat.reduceLT, Nat.reduceEqDiff, Nat.reduceLeDiff, Bool.and_true, Nat.one_ne_zero, Nat.succ_ne_zero, reduceIte, if_false, List.getElem?_cons_zero, List.set_cons_zero, List.set_cons_succ]
      rw [if_neg (by omega)]
      refine ⟨v', ⟨(by first | omega | (simp only [set_n, push_n, put_n] at *; omega)), set_here _ _ _⟩, ?_, ?_⟩
      · have : (ps ++ [newP nxt n at_]).map Piece.row = ps.map Piece.row ++ [[.int .i64 nxt, .int .i64 (nxt + n), .int .i64 at_, .int .i64 1, .bool false, .bool false]] := by simp [newP, Piece.row]
        simp only [newP, Piece.row] at this ⊢
        rw [this]
        have hbl := hb.lt
        exact (o2.set (m := b) (.inl (by omega)) _).wide (by omega) (by omega) (Nat.le_refl _)
      · refine ⟨(by first | omega | (simp only [set_n, push_n, put_n] at *; omega)), fun m hm hmb hv => ?_⟩
        rw [set_there _ _ _ _ hmb, t2.obj m (by omega) hv, e_g0.obj m hm]

/-- What BoardSend answers: una, nxt, pieces, code. -/
def sendB (una nxt : Int) (ps : List Piece) (n at_ : Int) : Int × Int × List Piece × Int :=
  if okB una nxt ps ∧ (1 ≤ n ∧ n ≤ 65535) ∧ 0 ≤ at_ ∧ at_ ≤ 1000000000 then
    if 4096 ≤ ps.length ∨ 1099511627776 < nxt + n then (0, 0, [], 18) else (una, nxt + n, ps ++ [newP nxt n at_], 0)
  else (0, 0, [], 1)
/-- A board, and a code. -/
def BRes (h h' : IH) (r : IV) (x : Int × Int × List Piece × Int) : Prop :=
  ∃ v', r = .tuple [.agg [.int .i64 x.1, .int .i64 x.2.1, v'], .int .i64 x.2.2.2] ∧ Own h.n h'.n h' 113 6 v' (x.2.2.1.map Piece.row) ∧ Ext h h'

set_option maxRecDepth 20000 in
theorem implBoardSend_c (h : IH) (v : IV) (una nxt n at_ : Int) (ps : List Piece) (hs : SlR h 6 v (ps.map Piece.row)) :
    ICalls Try.prog 34 [.agg [.int .i64 una, .int .i64 nxt, v], .int .i64 n, .int .i64 at_] h fun r h' => BRes h h' r (sendB una nxt ps n at_) := by
  refine icalls (.of ok34) (Nat.le_of_ble_eq_true rfl) ?_
  unfold c34
  have hv1 := hs.one
  have hE : ∀ a b, Ext h ((h.push a).push b) := fun a b => (Ext.refl _).push _ |>.push _
  simp only [hv1, go_sem, Hold.p, HoldK.k, HoldL.K, HoldL.body, Nat.reduceBEq, Nat.reduceAdd, List.getElem?_cons_zero, List.getElem?_cons_succ, Option.bind_some, List.map_cons, List.map_nil, Nat.zero_add, if_true, List.getD_cons_zero, List.getD_cons_succ, List.contains_cons, List.contains_nil, Nat.reduceBEq, Bool.or_true, Bool.true_or, Bool.or_false, Bool.false_or, Bool.not_true, Bool.not_false, true_and, and_true, rowA_whole, push_n, set_n, push_obj, set_obj, set_push, set_push_ne, set_set, Nat.add_assoc, Nat.left_eq_add, Nat.add_eq_left, Nat.add_left_cancel_iff, Nat.reduceEqDiff, stO_1s, stO_ws, boxA_s, one_bool, one_int, one_str, one_ptr, one_nilptr, one_slice, one_eslice, one_nilslice, one_func, one_iface, one_niliface, List.all_cons, List.all_nil, List.length_cons, List.length_nil, Nat.reduceLT, Nat.reduceEqDiff, Nat.reduceLeDiff, Bool.and_true, Nat.one_ne_zero, Nat.succ_ne_zero, reduceIte, if_false, List.getElem?_cons_zero, List.set_cons_zero, List.set_cons_succ]
  refine callA_of (okBoard_c _ una nxt v ps (hs.ext (hE _ _))) ?_
  rintro r h1 ⟨rfl, hE1⟩
  have b0 := hE1.obj h.n (by simp only [push_n]; omega)
  have b1 := hE1.obj (h.n + 1) (by simp only [push_n]; omega)
  simp [push_obj, push_n] at b0 b1
  have hl1 := hE1.le
  simp only [push_n] at hl1
  have bad : ∀ (o : IObj) c, (sendB una nxt ps n at_) = (0, 0, [], c) → BRes h (h1.set (h.n + 1) o) (.tuple [.agg [.int .i64 0, .int .i64 0, .nilslice], .int .i64 c]) (sendB una nxt ps n at_) := by
    intro o c e
    rw [e]
    exact ⟨.nilslice, rfl, Own.nil, ((hE _ _).trans hE1).set _ (by omega) _⟩
  by_cases hc : okB una nxt ps = true ∧ (1 ≤ n ∧ n ≤ 65535) ∧ 0 ≤ at_ ∧ at_ ≤ 1000000000
  · obtain ⟨hok, ⟨n1, n2⟩, a1, a2⟩ := hc
    have hdef : sendB una nxt ps n at_ = if 4096 ≤ ps.length ∨ 1099511627776 < nxt + n then (0, 0, [], 18) else (una, nxt + n, ps ++ [newP nxt n at_], 0) := if_pos ⟨hok, ⟨n1, n2⟩, a1, a2⟩
    have q1 : decide (n < 1) = false := by simp; omega
    have q2 : decide (65535 < n) = false := by simp; omega
    have q3 : decide (at_ < 0) = false := by simp; omega
    have q4 : decide (1000000000 < at_) = false := by simp; omega
    have hm : (ps.map Piece.row).length ≤ 1048576 := by have := (okB_un hok).2.2.2.1; simp; omega
    simp only [hok, hv1, b0, q1, q2, q3, q4, go_sem, Hold.p, HoldK.k, HoldL.K, HoldL.body, Nat.reduceBEq, Nat.reduceAdd, List.getElem?_cons_zero, List.getElem?_cons_succ, Option.bind_some, List.map_cons, List.map_nil, Nat.zero_add, if_true, List.getD_cons_zero, List.getD_cons_succ, List.contains_cons, List.contains_nil, Nat.reduceBEq, Bool.or_true, Bool.true_or, Bool.or_false, Bool.false_or, Bool.not_true, Bool.not_false, true_and, and_true, rowA_whole, push_n, set_n, push_obj, set_obj, set_push, set_push_ne, set_set, Nat.add_assoc, Nat.left_eq_add, Nat.add_eq_left, Nat.add_left_cancel_iff, Nat.reduceEqDiff, stO_1s, stO_ws, boxA_s, one_bool, one_int, one_str, one_ptr, one_nilptr, one_slice, one_eslice, one_nilslice, one_func, one_iface, one_niliface, List.all_cons, List.all_nil, List.length_cons, List.length_nil, Nat.reduceLT, Nat.reduceEqDiff, Nat.reduceLeDiff, Bool.and_true, Nat.one_ne_zero, Nat.succ_ne_zero, reduceIte, if_false, List.getElem?_cons_zero, List.set_cons_zero, List.set_cons_succ]
    refine callA_of (ownBoard_c _ v una nxt _ (hs.ext ((hE _ _).trans hE1)) hm) ?_
    rintro r h2 ⟨v2, rfl, ho2, hE2⟩
    have hl2 := hE2.le
    have hv2 := ho2.one
    have y1 : At h2 (h.n + 1) (.rows [[.int .i64 0, .int .i64 0, .nilslice]] 40 3 false) := ⟨by omega, (hE2.obj _ (by omega)).trans b1⟩
    simp only [hv2, go_sem, Hold.p, HoldK.k, HoldL.K, HoldL.body, Nat.reduceBEq, Nat.reduceAdd, List.getElem?_cons_zero, List.getElem?_cons_succ, Option.bind_some, List.map_cons, List.map_nil, Nat.zero_add, if_true, List.getD_cons_zero, List.getD_cons_succ, List.contains_cons, List.contains_nil, Nat.reduceBEq, Bool.or_true, Bool.true_or, Bool.or_false, Bool.false_or, Bool.not_true, Bool.not_false, true_and, and_true, rowA_whole, push_n, set_n, push_obj, set_obj, set_push, set_push_ne, set_set, Nat.add_assoc, Nat.left_eq_add, Nat.add_eq_left, Nat.add_left_cancel_iff, Nat.reduceEqDiff, stO_1s, stO_ws, boxA_s, one_bool, one_int, one_str, one_ptr, one_nilptr, one_slice, one_eslice, one_nilslice, one_func, one_iface, one_niliface, List.all_cons, List.all_nil, List.length_cons, List.length_nil, Nat.reduceLT, Nat.reduceEqDiff, Nat.reduceLeDiff, Bool.and_true, Nat.one_ne_zero, Nat.succ_ne_zero, reduceIte, if_false, List.getElem?_cons_zero, List.set_cons_zero, List.set_cons_succ]
    refine got_of (v := .agg [.int .i64 una, .int .i64 nxt, v2]) rfl ?_
    simp only [hv2, go_sem, Hold.p, HoldK.k, HoldL.K, HoldL.body, Nat.reduceBEq, Nat.reduceAdd, List.getElem?_cons_zero, List.getElem?_cons_succ, Option.bind_some, List.map_cons, List.map_nil, Nat.zero_add, if_true, List.getD_cons_zero, List.getD_cons_succ, List.contains_cons, List.contains_nil, Nat.reduceBEq, Bool.or_true, Bool.true_or, Bool.or_false, Bool.false_or, Bool.not_true, Bool.not_false, true_and, and_true, rowA_whole, push_n, set_n, push_obj, set_obj, set_push, set_push_ne, set_set, Nat.add_assoc, Nat.left_eq_add, Nat.add_eq_left, Nat.add_left_cancel_iff, Nat.reduceEqDiff, stO_1s, stO_ws, boxA_s, one_bool, one_int, one_str, one_ptr, one_nilptr, one_slice, one_eslice, one_nilslice, one_func, one_iface, one_niliface, List.all_cons, List.all_nil, List.length_cons, List.length_nil, Nat.reduceLT, Nat.reduceEqDiff, Nat.reduceLeDiff, Bool.and_true, Nat.one_ne_zero, Nat.succ_ne_zero, reduceIte, if_false, List.getElem?_cons_zero, List.set_cons_zero, List.set_cons_succ]
    have E2 := ((hE _ _).trans hE1).trans hE2
    generalize hq_g2 : IH.push h2 (IObj.rows [[.int .i64 una, .int .i64 nxt, v2]] 116 3 false) = g2
    have e_g2 : Ext h2 g2 := by rw [← hq_g2]; exact (Ext.refl _).push _
    have l_g2 : g2.n = h2.n + 1 := by rw [← hq_g2]; rfl
    have x2 : At g2 h2.n (IObj.rows [[.int .i64 una, .int .i64 nxt, v2]] 116 3 false) := by rw [← hq_g2]; exact At.new _ _
    clear hq_g2
    have y1 := y1.ext e_g2
    have ho2 := ho2.ext e_g2
    obtain ⟨o1, o2, o3, o4, o5⟩ := okB_un hok
    refine callA_of (send_c _ h2.n 116 v2 una nxt n at_ ps x2 (by omega) ho2 o4 (by omega) ⟨n1, n2⟩) ?_
    intro r h4 hr
    split at hr
    · rename_i hfull
      obtain ⟨rfl, rfl⟩ := hr
      simp only [go_sem, Hold.p, HoldK.k, HoldL.K, HoldL.body, Nat.reduceBEq, Nat.reduceAdd, List.getElem?_cons_zero, List.getElem?_cons_succ, Option.bind_some, List.map_cons, List.map_nil, Nat.zero_add, if_true, List.getD_cons_zero, List.getD_cons_succ, List.contains_cons, List.contains_nil, Nat.reduceBEq, Bool.or_true, Bool.true_or, Bool.or_false, Bool.false_or, Bool.not_true, Bool.not_false, true_and, and_true, rowA_whole, push_n, set_n, push_obj, set_obj, set_push, set_push_ne, set_set, Nat.add_assoc, Nat.left_eq_add, Nat.add_eq_left, Nat.add_left_cancel_iff, Nat.reduceEqDiff, stO_1s, stO_ws, boxA_s, one_bool, one_int, one_str, one_ptr, one_nilptr, one_slice, one_eslice, one_nilslice, one_func, one_iface, one_niliface, List.all_cons, List.all_nil, List.length_cons, List.length_nil, Nat.reduceLT, Nat.reduceEqDiff, Nat.reduceLeDiff, Bool.and_true, Nat.one_ne_zero, Nat.succ_ne_zero, reduceIte, if_false, List.getElem?_cons_zero, List.set_cons_zero, List.set_cons_succ]
      refine got_of (v := .agg [.int .i64 0, .int .i64 0, .nilslice]) rfl ?_
      simp only [y1.eq, go_sem, Hold.p, HoldK.k, HoldL.K, HoldL.body, Nat.reduceBEq, Nat.reduceAdd, List.getElem?_cons_zero, List.getElem?_cons_succ, Option.bind_some, List.map_cons, List.map_nil, Nat.zero_add, if_true, List.getD_cons_zero, List.getD_cons_succ, List.contains_cons, List.contains_nil, Nat.reduceBEq, Bool.or_true, Bool.true_or, Bool.or_false, Bool.false_or, Bool.not_true, Bool.not_false, true_and, and_true, rowA_whole, push_n, set_n, push_obj, set_obj, set_push, set_push_ne, set_set, Nat.add_assoc, Nat.left_eq_add, Nat.add_eq_left, Nat.add_left_cancel_iff, Nat.reduceEqDiff, stO_1s, stO_ws, boxA_s, one_bool, one_int, one_str, one_ptr, one_nilptr, one_slice, one_eslice, one_nilslice, one_func, one_iface, one_niliface, List.all_cons, List.all_nil, List.length_cons, List.length_nil, Nat.reduceLT, Nat.reduceEqDiff, Nat.reduceLeDiff, Bool.and_true, Nat.one_ne_zero, Nat.succ_ne_zero, reduceIte, if_false, List.getElem?_cons_zero, List.set_cons_zero, List.set_cons_succ]
      rw [hdef, if_pos hfull]
      exact ⟨.nilslice, rfl, Own.nil, (E2.trans e_g2).set _ (by omega) _⟩
    · rename_i hfull
      obtain ⟨rfl, v4, z2, o4', ht4⟩ := hr
      have z1 := ht4.at_ y1 ho2 (by omega) (by omega)
      have z1e := z1.eq
      have z2e := z2.eq
      have v4o := o4'.one
      have hl4 := ht4.le
      simp only [z1e, z2e, v4o, go_sem, Hold.p, HoldK.k, HoldL.K, HoldL.body, Nat.reduceBEq, Nat.reduceAdd, List.getElem?_cons_zero, List.getElem?_cons_succ, Option.bind_some, List.map_cons, List.map_nil, Nat.zero_add, if_true, List.getD_cons_zero, List.getD_cons_succ, List.contains_cons, List.contains_nil, Nat.reduceBEq, Bool.or_true, Bool.true_or, Bool.or_false, Bool.false_or, Bool.not_true, Bool.not_false, true_and, and_true, rowA_whole, push_n, set_n, push_obj, set_obj, set_push, set_push_ne, set_set, Nat.add_assoc, Nat.left_eq_add, Nat.add_eq_left, Nat.add_left_cancel_iff, Nat.reduceEqDiff, stO_1s, stO_ws, boxA_s, one_bool, one_int, one_str, one_ptr, one_nilptr, one_slice, one_eslice, one_nilslice, one_func, one_iface, one_niliface, List.all_cons, List.all_nil, List.length_cons, List.length_nil, Nat.reduceLT, Nat.reduceEqDiff, Nat.reduceLeDiff, Bool.and_true, Nat.one_ne_zero, Nat.succ_ne_zero, reduceIte, if_false, List.getElem?_cons_zero, List.set_cons_zero, List.set_cons_succ]
      rw [hdef, if_neg hfull]
      refine ⟨v4, rfl, (o4'.set (m := h.n + 1) (.inl (by omega)) _).wide (by omega) (by rw [set_n]; omega) (Nat.le_refl _), ?_⟩
      exact (ht4.ext (E2.trans e_g2) ho2 (by omega) (by omega)).set _ (by omega) _
  · have hdef : sendB una nxt ps n at_ = (0, 0, [], 1) := if_neg hc
    cases hok : okB una nxt ps
    · simp only [hok, hv1, b1, lay_nil, lay_1, lay_w, Option.map_some, go_sem, Hold.p, HoldK.k, HoldL.K, HoldL.body, Nat.reduceBEq, Nat.reduceAdd, List.getElem?_cons_zero, List.getElem?_cons_succ, Option.bind_some, List.map_cons, List.map_nil, Nat.zero_add, if_true, List.getD_cons_zero, List.getD_cons_succ, List.contains_cons, List.contains_nil, Nat.reduceBEq, Bool.or_true, Bool.true_or, Bool.or_false, Bool.false_or, Bool.not_true, Bool.not_false, true_and, and_true, rowA_whole, push_n, set_n, push_obj, set_obj, set_push, set_push_ne, set_set, Nat.add_assoc, Nat.left_eq_add, Nat.add_eq_left, Nat.add_left_cancel_iff, Nat.reduceEqDiff, stO_1s, stO_ws, boxA_s, one_bool, one_int, one_str, one_ptr, one_nilptr, one_slice, one_eslice, one_nilslice, one_func, one_iface, one_niliface, List.all_cons, List.all_nil, List.length_cons, List.length_nil, Nat.reduceLT, Nat.reduceEqDiff, Nat.reduceLeDiff, Bool.and_true, Nat.one_ne_zero, Nat.succ_ne_zero, reduceIte, if_false, List.getElem?_cons_zero, List.set_cons_zero, List.set_cons_succ]
      exact bad _ _ hdef
    · by_cases c1 : n < 1
      · have d1 : decide (n < 1) = true := by simpa using c1
        simp only [hok, hv1, b1, d1, lay_nil, lay_1, lay_w, Option.map_some, go_sem, Hold.p, HoldK.k, HoldL.K, HoldL.body, Nat.reduceBEq, Nat.reduceAdd, List.getElem?_cons_zero, List.getElem?_cons_succ, Option.bind_some, List.map_cons, List.map_nil, Nat.zero_add, if_true, List.getD_cons_zero, List.getD_cons_succ, List.contains_cons, List.contains_nil, Nat.reduceBEq, Bool.or_true, Bool.true_or, Bool.or_false, Bool.false_or, Bool.not_true, Bool.not_false, true_and, and_true, rowA_whole, push_n, set_n, push_obj, set_obj, set_push, set_push_ne, set_set, Nat.add_assoc, Nat.left_eq_add, Nat.add_eq_left, Nat.add_left_cancel_iff, Nat.reduceEqDiff, stO_1s, stO_ws, boxA_s, one_bool, one_int, one_str, one_ptr, one_nilptr, one_slice, one_eslice, one_nilslice, one_func, one_iface, one_niliface, List.all_cons, List.all_nil, List.length_cons, List.length_nil, Nat.reduceLT, Nat.reduceEqDiff, Nat.reduceLeDiff, Bool.and_true, Nat.one_ne_zero, Nat.succ_ne_zero, reduceIte, if_false, List.getElem?_cons_zero, List.set_cons_zero, List.set_cons_succ]
        exact bad _ _ hdef
      · have d1 : decide (n < 1) = false := by simpa using c1
        by_cases c2 : 65535 < n
        · have d2 : decide (65535 < n) = true := by simpa using c2
          simp only [hok, hv1, b1, d1, d2, lay_nil, lay_1, lay_w, Option.map_some, go_sem, Hold.p, HoldK.k, HoldL.K, HoldL.body, Nat.reduceBEq, Nat.reduceAdd, List.getElem?_cons_zero, List.getElem?_cons_succ, Option.bind_some, List.map_cons, List.map_nil, Nat.zero_add, if_true, List.getD_cons_zero, List.getD_cons_succ, List.contains_cons, List.contains_nil, Nat.reduceBEq, Bool.or_true, Bool.true_or, Bool.or_false, Bool.false_or, Bool.not_true, Bool.not_false, true_and, and_true, rowA_whole, push_n, set_n, push_obj, set_obj, set_push, set_push_ne, set_set, Nat.add_assoc, Nat.left_eq_add, Nat.add_eq_left, Nat.add_left_cancel_iff, Nat.reduceEqDiff, stO_1s, stO_ws, boxA_s, one_bool, one_int, one_str, one_ptr, one_nilptr, one_slice, one_eslice, one_nilslice, one_func, one_iface, one_niliface, List.all_cons, List.all_nil, List.length_cons, List.length_nil, Nat.reduceLT, Nat.reduceEqDiff, Nat.reduceLeDiff, Bool.and_true, Nat.one_ne_zero, Nat.succ_ne_zero, reduceIte, if_false, List.getElem?_cons_zero, List.set_cons_zero, List.set_cons_succ]
          exact bad _ _ hdef
        · have d2 : decide (65535 < n) = false := by simpa using c2
          by_cases c3 : at_ < 0
          · have d3 : decide (at_ < 0) = true := by simpa using c3
            simp only [hok, hv1, b1, d1, d2, d3, lay_nil, lay_1, lay_w, Option.map_some, go_sem, Hold.p, HoldK.k, HoldL.K, HoldL.body, Nat.reduceBEq, Nat.reduceAdd, List.getElem?_cons_zero, List.getElem?_cons_succ, Option.bind_some, List.map_cons, List.map_nil, Nat.zero_add, if_true, List.getD_cons_zero, List.getD_cons_succ, List.contains_cons, List.contains_nil, Nat.reduceBEq, Bool.or_true, Bool.true_or, Bool.or_false, Bool.false_or, Bool.not_true, Bool.not_false, true_and, and_true, rowA_whole, push_n, set_n, push_obj, set_obj, set_push, set_push_ne, set_set, Nat.add_assoc, Nat.left_eq_add, Nat.add_eq_left, Nat.add_left_cancel_iff, Nat.reduceEqDiff, stO_1s, stO_ws, boxA_s, one_bool, one_int, one_str, one_ptr, one_nilptr, one_slice, one_eslice, one_nilslice, one_func, one_iface, one_niliface, List.all_cons, List.all_nil, List.length_cons, List.length_nil, Nat.reduceLT, Nat.reduceEqDiff, Nat.reduceLeDiff, Bool.and_true, Nat.one_ne_zero, Nat.succ_ne_zero, reduceIte, if_false, List.getElem?_cons_zero, List.set_cons_zero, List.set_cons_succ]
            exact bad _ _ hdef
          · have d3 : decide (at_ < 0) = false := by simpa using c3
            have d4 : decide (1000000000 < at_) = true := by simp; apply Classical.byContradiction; intro h; exact hc ⟨hok, by omega, by omega, by omega⟩
            simp only [hok, hv1, b1, d1, d2, d3, d4, lay_nil, lay_1, lay_w, Option.map_some, go_sem, Hold.p, HoldK.k, HoldL.K, HoldL.body, Nat.reduceBEq, Nat.reduceAdd, List.getElem?_cons_zero, List.getElem?_cons_succ, Option.bind_some, List.map_cons, List.map_nil, Nat.zero_add, if_true, List.getD_cons_zero, List.getD_cons_succ, List.contains_cons, List.contains_nil, Nat.reduceBEq, Bool.or_true, Bool.true_or, Bool.or_false, Bool.false_or, Bool.not_true, Bool.not_false, true_and, and_true, rowA_whole, push_n, set_n, push_obj, set_obj, set_push, set_push_ne, set_set, Nat.add_assoc, Nat.left_eq_add, Nat.add_eq_left, Nat.add_left_cancel_iff, Nat.reduceEqDiff, stO_1s, stO_ws, boxA_s, one_bool, one_int, one_str, one_ptr, one_nilptr, one_slice, one_eslice, one_nilslice, one_func, one_iface, one_niliface, List.all_cons, List.all_nil, List.length_cons, List.length_nil, Nat.reduceLT, Nat.reduceEqDiff, Nat.reduceLeDiff, Bool.and_true, Nat.one_ne_zero, Nat.succ_ne_zero, reduceIte, if_false, List.getElem?_cons_zero, List.set_cons_zero, List.set_cons_succ]
            exact bad _ _ hdef

set_option maxRecDepth 20000 in
theorem specBoardSend_c (h : IH) (v : IV) (una nxt n at_ : Int) (ps : List Piece) (hs : SlR h 6 v (ps.map Piece.row)) :
    ICalls Try.prog 33 [.agg [.int .i64 una, .int .i64 nxt, v], .int .i64 n, .int .i64 at_] h fun r h' => BRes h h' r (sendB una nxt ps n at_) := by
  refine icalls (.of ok33) (Nat.le_of_ble_eq_true rfl) ?_
  unfold c33
  have hv1 := hs.one
  have hlen := hs.lenF
  rw [List.length_map] at hlen
  have hE : ∀ a b, Ext h ((h.push a).push b) := fun a b => (Ext.refl _).push _ |>.push _
  simp only [hv1, go_sem, Hold.p, HoldK.k, HoldL.K, HoldL.body, Nat.reduceBEq, Nat.reduceAdd, List.getElem?_cons_zero, List.getElem?_cons_succ, Option.bind_some, List.map_cons, List.map_nil, Nat.zero_add, if_true, List.getD_cons_zero, List.getD_cons_succ, List.contains_cons, List.contains_nil, Nat.reduceBEq, Bool.or_true, Bool.true_or, Bool.or_false, Bool.false_or, Bool.not_true, Bool.not_false, true_and, and_true, rowA_whole, push_n, set_n, push_obj, set_obj, set_push, set_push_ne, set_set, Nat.add_assoc, Nat.left_eq_add, Nat.add_eq_left, Nat.add_left_cancel_iff, Nat.reduceEqDiff, stO_1s, stO_ws, boxA_s, one_bool, one_int, one_str, one_ptr, one_nilptr, one_slice, one_eslice, one_nilslice, one_func, one_iface, one_niliface, List.all_cons, List.all_nil, List.length_cons, List.length_nil, Nat.reduceLT, Nat.reduceEqDiff, Nat.reduceLeDiff, Bool.and_true, Nat.one_ne_zero, Nat.succ_ne_zero, reduceIte, if_false, List.getElem?_cons_zero, List.set_cons_zero, List.set_cons_succ]
  refine callA_of (l15OK_c _ una nxt v ps (hs.ext (hE _ _))) ?_
  rintro r h1 ⟨rfl, hE1⟩
  have b0 := hE1.obj h.n (by simp only [push_n]; omega)
  have b1 := hE1.obj (h.n + 1) (by simp only [push_n]; omega)
  simp [push_obj, push_n] at b0 b1
  have hl1 := hE1.le
  simp only [push_n] at hl1
  have bad : ∀ (o : IObj) c, (sendB una nxt ps n at_) = (0, 0, [], c) → BRes h (h1.set (h.n + 1) o) (.tuple [.agg [.int .i64 0, .int .i64 0, .nilslice], .int .i64 c]) (sendB una nxt ps n at_) := by
    intro o c e
    rw [e]
    exact ⟨.nilslice, rfl, Own.nil, ((hE _ _).trans hE1).set _ (by omega) _⟩
  by_cases hc : okB una nxt ps = true ∧ (1 ≤ n ∧ n ≤ 65535) ∧ 0 ≤ at_ ∧ at_ ≤ 1000000000
  · obtain ⟨hok, ⟨n1, n2⟩, a1, a2⟩ := hc
    have hdef : sendB una nxt ps n at_ = if 4096 ≤ ps.length ∨ 1099511627776 < nxt + n then (0, 0, [], 18) else (una, nxt + n, ps ++ [newP nxt n at_], 0) := if_pos ⟨hok, ⟨n1, n2⟩, a1, a2⟩
    obtain ⟨o1, o2, o3, o4, o5⟩ := okB_un hok
    have hm : (ps.map Piece.row).length ≤ 1048576 := by simp; omega
    have hw1 : wr .i64 (nxt + n) = nxt + n := wr64 _ (by omega)
    have q1 : (decide (1 ≤ n) && decide (n ≤ 65535)) = true := by simp; omega
    have q2 : (decide (0 ≤ at_) && decide (at_ ≤ 1000000000)) = true := by simp; omega
    simp only [hok, hv1, go_sem, Hold.p, HoldK.k, HoldL.K, HoldL.body, Nat.reduceBEq, Nat.reduceAdd, List.getElem?_cons_zero, List.getElem?_cons_succ, Option.bind_some, List.map_cons, List.map_nil, Nat.zero_add, if_true, List.getD_cons_zero, List.getD_cons_succ, List.contains_cons, List.contains_nil, Nat.reduceBEq, Bool.or_true, Bool.true_or, Bool.or_false, Bool.false_or, Bool.not_true, Bool.not_false, true_and, and_true, rowA_whole, push_n, set_n, push_obj, set_obj, set_push, set_push_ne, set_set, Nat.add_assoc, Nat.left_eq_add, Nat.add_eq_left, Nat.add_left_cancel_iff, Nat.reduceEqDiff, stO_1s, stO_ws, boxA_s, one_bool, one_int, one_str, one_ptr, one_nilptr, one_slice, one_eslice, one_nilslice, one_func, one_iface, one_niliface, List.all_cons, List.all_nil, List.length_cons, List.length_nil, Nat.reduceLT, Nat.reduceEqDiff, Nat.reduceLeDiff, Bool.and_true, Nat.one_ne_zero, Nat.succ_ne_zero, reduceIte, if_false, List.getElem?_cons_zero, List.set_cons_zero, List.set_cons_succ]
    refine callA_of (l01In_c _ _ _ _) ?_
    rintro r h2 ⟨rfl, rfl⟩
    simp only [q1, go_sem, Hold.p, HoldK.k, HoldL.K, HoldL.body, Nat.reduceBEq, Nat.reduceAdd, List.getElem?_cons_zero, List.getElem?_cons_succ, Option.bind_some, List.map_cons, List.map_nil, Nat.zero_add, if_true, List.getD_cons_zero, List.getD_cons_succ, List.contains_cons, List.contains_nil, Nat.reduceBEq, Bool.or_true, Bool.true_or, Bool.or_false, Bool.false_or, Bool.not_true, Bool.not_false, true_and, and_true, rowA_whole, push_n, set_n, push_obj, set_obj, set_push, set_push_ne, set_set, Nat.add_assoc, Nat.left_eq_add, Nat.add_eq_left, Nat.add_left_cancel_iff, Nat.reduceEqDiff, stO_1s, stO_ws, boxA_s, one_bool, one_int, one_str, one_ptr, one_nilptr, one_slice, one_eslice, one_nilslice, one_func, one_iface, one_niliface, List.all_cons, List.all_nil, List.length_cons, List.length_nil, Nat.reduceLT, Nat.reduceEqDiff, Nat.reduceLeDiff, Bool.and_true, Nat.one_ne_zero, Nat.succ_ne_zero, reduceIte, if_false, List.getElem?_cons_zero, List.set_cons_zero, List.set_cons_succ]
    refine callA_of (l01In_c _ _ _ _) ?_
    rintro r h3 ⟨rfl, rfl⟩
    by_cases c1 : (4096 : Int) ≤ ps.length
    · have d1 : decide ((4096 : Int) ≤ ps.length) = true := by simpa using c1
      simp only [q2, b0, b1, hlen, d1, lay_nil, lay_1, lay_w, Option.map_some, go_sem, Hold.p, HoldK.k, HoldL.K, HoldL.body, Nat.reduceBEq, Nat.reduceAdd, List.getElem?_cons_zero, List.getElem?_cons_succ, Option.bind_some, List.map_cons, List.map_nil, Nat.zero_add, if_true, List.getD_cons_zero, List.getD_cons_succ, List.contains_cons, List.contains_nil, Nat.reduceBEq, Bool.or_true, Bool.true_or, Bool.or_false, Bool.false_or, Bool.not_true, Bool.not_false, true_and, and_true, rowA_whole, push_n, set_n, push_obj, set_obj, set_push, set_push_ne, set_set, Nat.add_assoc, Nat.left_eq_add, Nat.add_eq_left, Nat.add_left_cancel_iff, Nat.reduceEqDiff, stO_1s, stO_ws, boxA_s, one_bool, one_int, one_str, one_ptr, one_nilptr, one_slice, one_eslice, one_nilslice, one_func, one_iface, one_niliface, List.all_cons, List.all_nil, List.length_cons, List.length_nil, Nat.reduceLT, Nat.reduceEqDiff, Nat.reduceLeDiff, Bool.and_true, Nat.one_ne_zero, Nat.succ_ne_zero, reduceIte, if_false, List.getElem?_cons_zero, List.set_cons_zero, List.set_cons_succ]
      exact bad _ _ (hdef.trans (if_pos (.inl (by omega))))
    · have d1 : decide ((4096 : Int) ≤ ps.length) = false := by simpa using c1
      by_cases c2 : 1099511627776 < nxt + n
      · have d2 : decide (1099511627776 < nxt + n) = true := by simpa using c2
        simp only [q2, b0, b1, hlen, d1, hw1, d2, lay_nil, lay_1, lay_w, Option.map_some, go_sem, Hold.p, HoldK.k, HoldL.K, HoldL.body, Nat.reduceBEq, Nat.reduceAdd, List.getElem?_cons_zero, List.getElem?_cons_succ, Option.bind_some, List.map_cons, List.map_nil, Nat.zero_add, if_true, List.getD_cons_zero, List.getD_cons_succ, List.contains_cons, List.contains_nil, Nat.reduceBEq, Bool.or_true, Bool.true_or, Bool.or_false, Bool.false_or, Bool.not_true, Bool.not_false, true_and, and_true, rowA_whole, push_n, set_n, push_obj, set_obj, set_push, set_push_ne, set_set, Nat.add_assoc, Nat.left_eq_add, Nat.add_eq_left, Nat.add_left_cancel_iff, Nat.reduceEqDiff, stO_1s, stO_ws, boxA_s, one_bool, one_int, one_str, one_ptr, one_nilptr, one_slice, one_eslice, one_nilslice, one_func, one_iface, one_niliface, List.all_cons, List.all_nil, List.length_cons, List.length_nil, Nat.reduceLT, Nat.reduceEqDiff, Nat.reduceLeDiff, Bool.and_true, Nat.one_ne_zero, Nat.succ_ne_zero, reduceIte, if_false, List.getElem?_cons_zero, List.set_cons_zero, List.set_cons_succ]
        exact bad _ _ (hdef.trans (if_pos (.inr c2)))
      · have d2 : decide (1099511627776 < nxt + n) = false := by simpa using c2
        simp only [q2, b0, hlen, d1, hw1, d2, hv1, lay_nil, lay_1, lay_w, Option.map_some, go_sem, Hold.p, HoldK.k, HoldL.K, HoldL.body, Nat.reduceBEq, Nat.reduceAdd, List.getElem?_cons_zero, List.getElem?_cons_succ, Option.bind_some, List.map_cons, List.map_nil, Nat.zero_add, if_true, List.getD_cons_zero, List.getD_cons_succ, List.contains_cons, List.contains_nil, Nat.reduceBEq, Bool.or_true, Bool.true_or, Bool.or_false, Bool.false_or, Bool.not_true, Bool.not_false, true_and, and_true, rowA_whole, push_n, set_n, push_obj, set_obj, set_push, set_push_ne, set_set, Nat.add_assoc, Nat.left_eq_add, Nat.add_eq_left, Nat.add_left_cancel_iff, Nat.reduceEqDiff, stO_1s, stO_ws, boxA_s, one_bool, one_int, one_str, one_ptr, one_nilptr, one_slice, one_eslice, one_nilslice, one_func, one_iface, one_niliface, List.all_cons, List.all_nil, List.length_cons, List.length_nil, Nat.reduceLT, Nat.reduceEqDiff, Nat.reduceLeDiff, Bool.and_true, Nat.one_ne_zero, Nat.succ_ne_zero, reduceIte, if_false, List.getElem?_cons_zero, List.set_cons_zero, List.set_cons_succ]
        refine callA_of (l15Copy_c _ v una nxt _ (hs.ext ((hE _ _).trans hE1)) hm) ?_
        rintro r h4 ⟨v4, rfl, o4, hE4⟩
        have l4 := hE4.le
        have v4o := o4.one
        have y0 : At h4 h.n (.rows [[.int .i64 una, .int .i64 nxt, v]] 40 3 false) := ⟨by omega, (hE4.obj _ (by omega)).trans b0⟩
        have y1 : At h4 (h.n + 1) (.rows [[.int .i64 0, .int .i64 0, .nilslice]] 40 3 false) := ⟨by omega, (hE4.obj _ (by omega)).trans b1⟩
        have E4 := ((hE _ _).trans hE1).trans hE4
        have hne : (h.n = h4.n) = False := by simp; omega
        simp only [v4o, y0.eq, hw1, hne, lay_nil, lay_1, lay_w, Option.map_some, go_sem, Hold.p, HoldK.k, HoldL.K, HoldL.body, Nat.reduceBEq, Nat.reduceAdd, List.getElem?_cons_zero, List.getElem?_cons_succ, Option.bind_some, List.map_cons, List.map_nil, Nat.zero_add, if_true, List.getD_cons_zero, List.getD_cons_succ, List.contains_cons, List.contains_nil, Nat.reduceBEq, Bool.or_true, Bool.true_or, Bool.or_false, Bool.false_or, Bool.not_true, Bool.not_false, true_and, and_true, rowA_whole, push_n, set_n, push_obj, set_obj, set_push, set_push_ne, set_set, Nat.add_assoc, Nat.left_eq_add, Nat.add_eq_left, Nat.add_left_cancel_iff, Nat.reduceEqDiff, stO_1s, stO_ws, boxA_s, one_bool, one_int, one_str, one_ptr, one_nilptr, one_slice, one_eslice, one_nilslice, one_func, one_iface, one_niliface, List.all_cons, List.all_nil, List.length_cons, List.length_nil, Nat.reduceLT, Nat.reduceEqDiff, Nat.reduceLeDiff, Bool.and_true, Nat.one_ne_zero, Nat.succ_ne_zero, reduceIte, if_false, List.getElem?_cons_zero, List.set_cons_zero, List.set_cons_succ]
        generalize hq_g4 : IH.set h4 (h.n) (IObj.rows [[IV.int .i64 una, IV.int .i64 nxt, v4]] 40 3 false) = g4
        have l_g4 : g4.n = h4.n := by rw [← hq_g4]; rfl
        have y0 : At g4 (h.n) (IObj.rows [[IV.int .i64 una, IV.int .i64 nxt, v4]] 40 3 false) := by rw [← hq_g4]; exact y0.here
        have o4 := o4.set (m := h.n) (by omega) (IObj.rows [[IV.int .i64 una, IV.int .i64 nxt, v4]] 40 3 false)
        rw [hq_g4] at o4
        have y1 := y1.set (p := h.n) (o' := IObj.rows [[IV.int .i64 una, IV.int .i64 nxt, v4]] 40 3 false) (by omega)
        rw [hq_g4] at y1
        have E4 := E4.set (h.n) (by omega) (IObj.rows [[IV.int .i64 una, IV.int .i64 nxt, v4]] 40 3 false)
        rw [hq_g4] at E4
        clear hq_g4
        generalize hq_g5 : IH.push g4 (IObj.rows [[.int .i64 nxt, .int .i64 (nxt + n), .int .i64 at_, .int .i64 1, .bool false, .bool false]] 113 6 false) = g5
        have e_g5 : Ext g4 g5 := by rw [← hq_g5]; exact (Ext.refl _).push _
        have l_g5 : g5.n = g4.n + 1 := by rw [← hq_g5]; rfl
        have yN : At g5 g4.n (IObj.rows [[.int .i64 nxt, .int .i64 (nxt + n), .int .i64 at_, .int .i64 1, .bool false, .bool false]] 113 6 false) := by rw [← hq_g5]; exact At.new _ _
        clear hq_g5
        have y0 := y0.ext e_g5
        have y1 := y1.ext e_g5
        have o4 := o4.ext e_g5
        refine o4.app (by simp) (by simp; omega) ?_
        intro v6 h6 o6 t6 n6 v6o v6c
        have y0 := y0.turn o4 (by omega) t6
        have y1 := y1.turn o4 (by omega) t6
        have le_t6 := t6.le
        have E6 := (E4.trans e_g5).turn o4 (by omega) t6
        have hne1 : (h.n + 1 = h.n) = False := by simp
        simp only [v6o, v6c, y0.eq, y1.eq, hw1, hne1, lay_nil, lay_1, lay_w, Option.map_some, go_sem, Hold.p, HoldK.k, HoldL.K, HoldL.body, Nat.reduceBEq, Nat.reduceAdd, List.getElem?_cons_zero, List.getElem?_cons_succ, Option.bind_some, List.map_cons, List.map_nil, Nat.zero_add, if_true, List.getD_cons_zero, List.getD_cons_succ, List.contains_cons, List.contains_nil, Nat.reduceBEq, Bool.or_true, Bool.true_or, Bool.or_false, Bool.false_or, Bool.not_true, Bool.not_false, true_and, and_true, rowA_whole, push_n, set_n, push_obj, set_obj, set_push, set_push_ne, set_set, Nat.add_assoc, Nat.left_eq_add, Nat.add_eq_left, Nat.add_left_cancel_iff, Nat.reduceEqDiff, stO_1s, stO_ws, boxA_s, one_bool, one_int, one_str, one_ptr, one_nilptr, one_slice, one_eslice, one_nilslice, one_func, one_iface, one_niliface, List.all_cons, List.all_nil, List.length_cons, List.length_nil, Nat.reduceLT, Nat.reduceEqDiff, Nat.reduceLeDiff, Bool.and_true, Nat.one_ne_zero, Nat.succ_ne_zero, reduceIte, if_false, List.getElem?_cons_zero, List.set_cons_zero, List.set_cons_succ]
        rw [hdef, if_neg (by omega)]
        refine ⟨v6, rfl, ?_, (E6.set _ (by omega) _).set _ (by omega) _⟩
        have : (ps ++ [newP nxt n at_]).map Piece.row = ps.map Piece.row ++ [[.int .i64 nxt, .int .i64 (nxt + n), .int .i64 at_, .int .i64 1, .bool false, .bool false]] := by simp [newP, Piece.row]
        simp only [this]
        exact ((o6.set (m := h.n) (by omega) _).set (m := h.n + 1) (by omega) _).wide (by omega) (by simp only [set_n]; omega) (Nat.le_refl _)
  · have hdef : sendB una nxt ps n at_ = (0, 0, [], 1) := if_neg hc
    cases hok : okB una nxt ps
    · simp only [hok, hv1, b1, lay_nil, lay_1, lay_w, Option.map_some, go_sem, Hold.p, HoldK.k, HoldL.K, HoldL.body, Nat.reduceBEq, Nat.reduceAdd, List.getElem?_cons_zero, List.getElem?_cons_succ, Option.bind_some, List.map_cons, List.map_nil, Nat.zero_add, if_true, List.getD_cons_zero, List.getD_cons_succ, List.contains_cons, List.contains_nil, Nat.reduceBEq, Bool.or_true, Bool.true_or, Bool.or_false, Bool.false_or, Bool.not_true, Bool.not_false, true_and, and_true, rowA_whole, push_n, set_n, push_obj, set_obj, set_push, set_push_ne, set_set, Nat.add_assoc, Nat.left_eq_add, Nat.add_eq_left, Nat.add_left_cancel_iff, Nat.reduceEqDiff, stO_1s, stO_ws, boxA_s, one_bool, one_int, one_str, one_ptr, one_nilptr, one_slice, one_eslice, one_nilslice, one_func, one_iface, one_niliface, List.all_cons, List.all_nil, List.length_cons, List.length_nil, Nat.reduceLT, Nat.reduceEqDiff, Nat.reduceLeDiff, Bool.and_true, Nat.one_ne_zero, Nat.succ_ne_zero, reduceIte, if_false, List.getElem?_cons_zero, List.set_cons_zero, List.set_cons_succ]
      exact bad _ _ hdef
    · simp only [hok, hv1, b1, lay_nil, lay_1, lay_w, Option.map_some, go_sem, Hold.p, HoldK.k, HoldL.K, HoldL.body, Nat.reduceBEq, Nat.reduceAdd, List.getElem?_cons_zero, List.getElem?_cons_succ, Option.bind_some, List.map_cons, List.map_nil, Nat.zero_add, if_true, List.getD_cons_zero, List.getD_cons_succ, List.contains_cons, List.contains_nil, Nat.reduceBEq, Bool.or_true, Bool.true_or, Bool.or_false, Bool.false_or, Bool.not_true, Bool.not_false, true_and, and_true, rowA_whole, push_n, set_n, push_obj, set_obj, set_push, set_push_ne, set_set, Nat.add_assoc, Nat.left_eq_add, Nat.add_eq_left, Nat.add_left_cancel_iff, Nat.reduceEqDiff, stO_1s, stO_ws, boxA_s, one_bool, one_int, one_str, one_ptr, one_nilptr, one_slice, one_eslice, one_nilslice, one_func, one_iface, one_niliface, List.all_cons, List.all_nil, List.length_cons, List.length_nil, Nat.reduceLT, Nat.reduceEqDiff, Nat.reduceLeDiff, Bool.and_true, Nat.one_ne_zero, Nat.succ_ne_zero, reduceIte, if_false, List.getElem?_cons_zero, List.set_cons_zero, List.set_cons_succ]
      refine callA_of (l01In_c _ _ _ _) ?_
      rintro r h2 ⟨rfl, rfl⟩
      cases q1 : (decide (1 ≤ n) && decide (n ≤ 65535))
      · simp only [q1, b1, lay_nil, lay_1, lay_w, Option.map_some, go_sem, Hold.p, HoldK.k, HoldL.K, HoldL.body, Nat.reduceBEq, Nat.reduceAdd, List.getElem?_cons_zero, List.getElem?_cons_succ, Option.bind_some, List.map_cons, List.map_nil, Nat.zero_add, if_true, List.getD_cons_zero, List.getD_cons_succ, List.contains_cons, List.contains_nil, Nat.reduceBEq, Bool.or_true, Bool.true_or, Bool.or_false, Bool.false_or, Bool.not_true, Bool.not_false, true_and, and_true, rowA_whole, push_n, set_n, push_obj, set_obj, set_push, set_push_ne, set_set, Nat.add_assoc, Nat.left_eq_add, Nat.add_eq_left, Nat.add_left_cancel_iff, Nat.reduceEqDiff, stO_1s, stO_ws, boxA_s, one_bool, one_int, one_str, one_ptr, one_nilptr, one_slice, one_eslice, one_nilslice, one_func, one_iface, one_niliface, List.all_cons, List.all_nil, List.length_cons, List.length_nil, Nat.reduceLT, Nat.reduceEqDiff, Nat.reduceLeDiff, Bool.and_true, Nat.one_ne_zero, Nat.succ_ne_zero, reduceIte, if_false, List.getElem?_cons_zero, List.set_cons_zero, List.set_cons_succ]
        exact bad _ _ hdef
      · simp only [q1, b1, lay_nil, lay_1, lay_w, Option.map_some, go_sem, Hold.p, HoldK.k, HoldL.K, HoldL.body, Nat.reduceBEq, Nat.reduceAdd, List.getElem?_cons_zero, List.getElem?_cons_succ, Option.bind_some, List.map_cons, List.map_nil, Nat.zero_add, if_true, List.getD_cons_zero, List.getD_cons_succ, List.contains_cons, List.contains_nil, Nat.reduceBEq, Bool.or_true, Bool.true_or, Bool.or_false, Bool.false_or, Bool.not_true, Bool.not_false, true_and, and_true, rowA_whole, push_n, set_n, push_obj, set_obj, set_push, set_push_ne, set_set, Nat.add_assoc, Nat.left_eq_add, Nat.add_eq_left, Nat.add_left_cancel_iff, Nat.reduceEqDiff, stO_1s, stO_ws, boxA_s, one_bool, one_int, one_str, one_ptr, one_nilptr, one_slice, one_eslice, one_nilslice, one_func, one_iface, one_niliface, List.all_cons, List.all_nil, List.length_cons, List.length_nil, Nat.reduceLT, Nat.reduceEqDiff, Nat.reduceLeDiff, Bool.and_true, Nat.one_ne_zero, Nat.succ_ne_zero, reduceIte, if_false, List.getElem?_cons_zero, List.set_cons_zero, List.set_cons_succ]
        refine callA_of (l01In_c _ _ _ _) ?_
        rintro r h3 ⟨rfl, rfl⟩
        have q2 : (decide (0 ≤ at_) && decide (at_ ≤ 1000000000)) = false := by
          apply Bool.eq_false_iff.2
          intro hx
          simp at q1 hx
          exact hc ⟨hok, q1, hx⟩
        simp only [q2, b1, lay_nil, lay_1, lay_w, Option.map_some, go_sem, Hold.p, HoldK.k, HoldL.K, HoldL.body, Nat.reduceBEq, Nat.reduceAdd, List.getElem?_cons_zero, List.getElem?_cons_succ, Option.bind_some, List.map_cons, List.map_nil, Nat.zero_add, if_true, List.getD_cons_zero, List.getD_cons_succ, List.contains_cons, List.contains_nil, Nat.reduceBEq, Bool.or_true, Bool.true_or, Bool.or_false, Bool.false_or, Bool.not_true, Bool.not_false, true_and, and_true, rowA_whole, push_n, set_n, push_obj, set_obj, set_push, set_push_ne, set_set, Nat.add_assoc, Nat.left_eq_add, Nat.add_eq_left, Nat.add_left_cancel_iff, Nat.reduceEqDiff, stO_1s, stO_ws, boxA_s, one_bool, one_int, one_str, one_ptr, one_nilptr, one_slice, one_eslice, one_nilslice, one_func, one_iface, one_niliface, List.all_cons, List.all_nil, List.length_cons, List.length_nil, Nat.reduceLT, Nat.reduceEqDiff, Nat.reduceLeDiff, Bool.and_true, Nat.one_ne_zero, Nat.succ_ne_zero, reduceIte, if_false, List.getElem?_cons_zero, List.set_cons_zero, List.set_cons_succ]
        exact bad _ _ hdef
end Go.Proofs.Ytecljenjlncfhaa
