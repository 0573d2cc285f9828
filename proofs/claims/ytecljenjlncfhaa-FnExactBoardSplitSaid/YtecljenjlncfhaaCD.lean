import Derived.Test.YtecljenjlncfhaaCC
namespace Go.Proofs.Ytecljenjlncfhaa
open Go Go.IW
set_option linter.unusedSimpArgs false
set_option linter.unusedVariables false

def firstP : List Piece → List Piece × Int
  | [] => ([], 0)
  | p :: r => if p.sacked || p.lost then (p :: r, 0) else ({ p with lost := true } :: r, p.to - p.fr)

theorem iadr0 {h : IH} {sz l n : Nat} (h0 : n ≠ 0) (hz : sizeO (h.obj l) = some sz) : iadrF h sz (.slice l 0 n) (.int .i64 0) = some (.ptr l 0 0) := by
  have := iadrF_nat (h := h) (sz := sz) (l := l) (i := 0) (n := n) (k := 0) (q := .i64) (by omega) hz
  simpa using this

set_option maxRecDepth 20000 in
theorem first_c {lo hi : Nat} (h : IH) (b e0 : Nat) (v : IV) (una nxt : Int) (ps : List Piece) (hb : At h b (.rows [[.int .i64 una, .int .i64 nxt, v]] e0 3 false)) (hd : b < lo ∨ hi ≤ b)
    (ho : Own lo hi h 113 6 v (ps.map Piece.row)) (hw : ∀ p ∈ ps, 0 ≤ p.fr ∧ p.fr < p.to ∧ p.to ≤ 1099511627776) :
    ICalls Try.prog 74 [.ptr b 0 0] h fun r h' => r = .int .i64 (firstP ps).2 ∧ Own lo hi h' 113 6 v ((firstP ps).1.map Piece.row) ∧ Turn v h h' := by
  refine icalls (.of ok74) (Nat.le_of_ble_eq_true rfl) ?_
  unfold c74
  have hlen := ho.lenF
  have hbe := hb.eq
  cases ps with
  | nil =>
    have hlen : lenF v = some (.int .i64 0) := hlen
    simp only [hbe, hlen, decide_true, go_sem, Hold.p, HoldK.k, HoldL.K, HoldL.body, Nat.reduceBEq, Nat.reduceAdd, List.getElem?_cons_zero, List.getElem?_cons_succ, Option.bind_some, List.map_cons, List.map_nil, Nat.zero_add, if_true, List.getD_cons_zero, List.getD_cons_succ, List.contains_cons, List.contains_nil, Nat.reduceBEq, Bool.or_true, Bool.true_or, Bool.or_false, Bool.false_or, Bool.not_true, Bool.not_false, true_and, and_true, rowA_whole, push_n, set_n, push_obj, set_obj, set_push, set_push_ne, set_set, Nat.add_assoc, Nat.left_eq_add, Nat.add_eq_left, Nat.add_left_cancel_iff, Nat.reduceEqDiff, stO_1s, stO_ws, boxA_s, one_bool, one_int, one_str, one_ptr, one_nilptr, one_slice, one_eslice, one_nilslice, one_func, one_iface, one_niliface, List.all_cons, List.all_nil, List.length_cons, List.length_nil, Nat.reduceLT, Nat.reduceEqDiff, Nat.reduceLeDiff, Bool.and_true, Nat.one_ne_zero, Nat.succ_ne_zero, reduceIte, if_false, List.getElem?_cons_zero, List.set_cons_zero, List.set_cons_succ]
    exact ⟨rfl, ho, Turn.refl _ _⟩
  | cons p r =>
    have hp := hw p (by simp)
    have hrs : ∃ rs, rs = (p :: r).map Piece.row := ⟨_, rfl⟩
    obtain ⟨rs, hrs⟩ := hrs
    rw [← hrs] at ho hlen
    have hho := ho
    rcases ho with ⟨hx, _⟩ | ⟨l, h0, rfl, h1, h2, h3, h4⟩
    · rw [hrs] at hx; simp at hx
    · have hN : rs.length ≠ 0 := by rw [hrs]; simp
      have hn : decide ((rs.length : Int) = 0) = false := by simpa using hN
      have hz : sizeO (h.obj l) = some 6 := by rw [h4]; rfl
      have hia : iadrF h 6 (.slice l 0 rs.length) (.int .i64 0) = some (.ptr l 0 0) := iadr0 hN hz
      have hr : rowO (h.obj l) 0 = some p.row := by rw [h4, hrs]; rfl
      have hc := cellO_row hr
      unfold Piece.row at hc
      simp only [hbe, hn, hia, hc, go_sem, Hold.p, HoldK.k, HoldL.K, HoldL.body, Nat.reduceBEq, Nat.reduceAdd, List.getElem?_cons_zero, List.getElem?_cons_succ, Option.bind_some, List.map_cons, List.map_nil, Nat.zero_add, if_true, List.getD_cons_zero, List.getD_cons_succ, List.contains_cons, List.contains_nil, Nat.reduceBEq, Bool.or_true, Bool.true_or, Bool.or_false, Bool.false_or, Bool.not_true, Bool.not_false, true_and, and_true, rowA_whole, push_n, set_n, push_obj, set_obj, set_push, set_push_ne, set_set, Nat.add_assoc, Nat.left_eq_add, Nat.add_eq_left, Nat.add_left_cancel_iff, Nat.reduceEqDiff, stO_1s, stO_ws, boxA_s, one_bool, one_int, one_str, one_ptr, one_nilptr, one_slice, one_eslice, one_nilslice, one_func, one_iface, one_niliface, List.all_cons, List.all_nil, List.length_cons, List.length_nil, Nat.reduceLT, Nat.reduceEqDiff, Nat.reduceLeDiff, Bool.and_true, Nat.one_ne_zero, Nat.succ_ne_zero, reduceIte, if_false, List.getElem?_cons_zero, List.set_cons_zero, List.set_cons_succ]
      cases c1 : p.sacked
      · cases c2 : p.lost
        · simp only [hbe, hlen, hn, hia, hc, c1, c2, go_sem, Hold.p, HoldK.k, HoldL.K, HoldL.body, Nat.reduceBEq, Nat.reduceAdd, List.getElem?_cons_zero, List.getElem?_cons_succ, Option.bind_some, List.map_cons, List.map_nil, Nat.zero_add, if_true, List.getD_cons_zero, List.getD_cons_succ, List.contains_cons, List.contains_nil, Nat.reduceBEq, Bool.or_true, Bool.true_or, Bool.or_false, Bool.false_or, Bool.not_true, Bool.not_false, true_and, and_true, rowA_whole, push_n, set_n, push_obj, set_obj, set_push, set_push_ne, set_set, Nat.add_assoc, Nat.left_eq_add, Nat.add_eq_left, Nat.add_left_cancel_iff, Nat.reduceEqDiff, stO_1s, stO_ws, boxA_s, one_bool, one_int, one_str, one_ptr, one_nilptr, one_slice, one_eslice, one_nilslice, one_func, one_iface, one_niliface, List.all_cons, List.all_nil, List.length_cons, List.length_nil, Nat.reduceLT, Nat.reduceEqDiff, Nat.reduceLeDiff, Bool.and_true, Nat.one_ne_zero, Nat.succ_ne_zero, reduceIte, if_false, List.getElem?_cons_zero, List.set_cons_zero, List.set_cons_succ]
          have hr1 : (rowO (h.obj l) 0).isSome = true := by rw [hr]; rfl
          have ho1 : (h.obj l).own = true := by rw [h4]; rfl
          have hbl : (b = l) = False := by simp; omega
          have hw1 : wr .i64 (p.to - p.fr) = p.to - p.fr := wr64 _ (by omega)
          rw [← put_self hr]
          simp only [stA_put1 hr1 ho1, put_obj_ne hbl, hbe, iadrF_put, hia, cell_put hr, Piece.row, hw1, go_sem, Hold.p, HoldK.k, HoldL.K, HoldL.body, Nat.reduceBEq, Nat.reduceAdd, List.getElem?_cons_zero, List.getElem?_cons_succ, Option.bind_some, List.map_cons, List.map_nil, Nat.zero_add, if_true, List.getD_cons_zero, List.getD_cons_succ, List.contains_cons, List.contains_nil, Nat.reduceBEq, Bool.or_true, Bool.true_or, Bool.or_false, Bool.false_or, Bool.not_true, Bool.not_false, true_and, and_true, rowA_whole, push_n, set_n, push_obj, set_obj, set_push, set_push_ne, set_set, Nat.add_assoc, Nat.left_eq_add, Nat.add_eq_left, Nat.add_left_cancel_iff, Nat.reduceEqDiff, stO_1s, stO_ws, boxA_s, one_bool, one_int, one_str, one_ptr, one_nilptr, one_slice, one_eslice, one_nilslice, one_func, one_iface, one_niliface, List.all_cons, List.all_nil, List.length_cons, List.length_nil, Nat.reduceLT, Nat.reduceEqDiff, Nat.reduceLeDiff, Bool.and_true, Nat.one_ne_zero, Nat.succ_ne_zero, reduceIte, if_false, List.getElem?_cons_zero, List.set_cons_zero, List.set_cons_succ]
          refine ⟨by simp [firstP, c1, c2], ?_, ?_⟩
          · have e1 : h.put l 0 [IV.int .i64 p.fr, IV.int .i64 p.to, IV.int .i64 p.at_, IV.int .i64 p.times, IV.bool p.sacked, IV.bool true] = h.set l (.rows ((firstP (p :: r)).1.map Piece.row) 113 6 false) := by
              unfold IH.put
              rw [h4, hrs]
              simp [putO, firstP, c1, c2, Piece.row]
            rw [e1]
            exact Own.over (by rw [hrs]; simp [firstP, c1, c2]) hN h1 h2 h3
          · have hrr := hr
            unfold Piece.row at hrr
            rw [put_self hrr]
            exact Turn.set _
        · simp only [hbe, hlen, hn, hia, hc, c1, c2, go_sem, Hold.p, HoldK.k, HoldL.K, HoldL.body, Nat.reduceBEq, Nat.reduceAdd, List.getElem?_cons_zero, List.getElem?_cons_succ, Option.bind_some, List.map_cons, List.map_nil, Nat.zero_add, if_true, List.getD_cons_zero, List.getD_cons_succ, List.contains_cons, List.contains_nil, Nat.reduceBEq, Bool.or_true, Bool.true_or, Bool.or_false, Bool.false_or, Bool.not_true, Bool.not_false, true_and, and_true, rowA_whole, push_n, set_n, push_obj, set_obj, set_push, set_push_ne, set_set, Nat.add_assoc, Nat.left_eq_add, Nat.add_eq_left, Nat.add_left_cancel_iff, Nat.reduceEqDiff, stO_1s, stO_ws, boxA_s, one_bool, one_int, one_str, one_ptr, one_nilptr, one_slice, one_eslice, one_nilslice, one_func, one_iface, one_niliface, List.all_cons, List.all_nil, List.length_cons, List.length_nil, Nat.reduceLT, Nat.reduceEqDiff, Nat.reduceLeDiff, Bool.and_true, Nat.one_ne_zero, Nat.succ_ne_zero, reduceIte, if_false, List.getElem?_cons_zero, List.set_cons_zero, List.set_cons_succ]
          exact ⟨by simp [firstP, c2], by simpa [firstP, c2, hrs] using hho, Turn.refl _ _⟩
      · simp only [hbe, hlen, hn, hia, hc, c1, go_sem, Hold.p, HoldK.k, HoldL.K, HoldL.body, Nat.reduceBEq, Nat.reduceAdd, List.getElem?_cons_zero, List.getElem?_cons_succ, Option.bind_some, List.map_cons, List.map_nil, Nat.zero_add, if_true, List.getD_cons_zero, List.getD_cons_succ, List.contains_cons, List.contains_nil, Nat.reduceBEq, Bool.or_true, Bool.true_or, Bool.or_false, Bool.false_or, Bool.not_true, Bool.not_false, true_and, and_true, rowA_whole, push_n, set_n, push_obj, set_obj, set_push, set_push_ne, set_set, Nat.add_assoc, Nat.left_eq_add, Nat.add_eq_left, Nat.add_left_cancel_iff, Nat.reduceEqDiff, stO_1s, stO_ws, boxA_s, one_bool, one_int, one_str, one_ptr, one_nilptr, one_slice, one_eslice, one_nilslice, one_func, one_iface, one_niliface, List.all_cons, List.all_nil, List.length_cons, List.length_nil, Nat.reduceLT, Nat.reduceEqDiff, Nat.reduceLeDiff, Bool.and_true, Nat.one_ne_zero, Nat.succ_ne_zero, reduceIte, if_false, List.getElem?_cons_zero, List.set_cons_zero, List.set_cons_succ]
        exact ⟨by simp [firstP, c1], by simpa [firstP, c1, hrs] using hho, Turn.refl _ _⟩

/-- What BoardFirst answers: una, nxt, pieces, number, code. -/
def firstB (una nxt : Int) (ps : List Piece) : Int × Int × List Piece × Int × Int :=
  if okB una nxt ps then (una, nxt, (firstP ps).1, (firstP ps).2, 0) else (0, 0, [], 0, 1)

theorem okB_each {una nxt : Int} {ps : List Piece} (h : okB una nxt ps = true) : ∀ p ∈ ps, 0 ≤ p.fr ∧ p.fr < p.to ∧ p.to ≤ 1099511627776 := by
  obtain ⟨o1, o2, o3, o4, o5⟩ := okB_un h
  intro p hp
  have := (okPs_bound o5).2.1 p hp
  omega

set_option maxRecDepth 20000 in
theorem implBoardFirst_c (h : IH) (v : IV) (una nxt : Int) (ps : List Piece) (hs : SlR h 6 v (ps.map Piece.row)) :
    ICalls Try.prog 30 [.agg [.int .i64 una, .int .i64 nxt, v]] h fun r h' => ∃ v', r = .tuple [.agg [.int .i64 (firstB una nxt ps).1, .int .i64 (firstB una nxt ps).2.1, v'], .int .i64 (firstB una nxt ps).2.2.2.1, .int .i64 (firstB una nxt ps).2.2.2.2] ∧
      Own h.n h'.n h' 113 6 v' ((firstB una nxt ps).2.2.1.map Piece.row) ∧ Ext h h' := by
  refine icalls (.of ok30) (Nat.le_of_ble_eq_true rfl) ?_
  unfold c30
  have hv1 := hs.one
  have hE : ∀ a b, Ext h ((h.push a).push b) := fun a b => (Ext.refl _).push _ |>.push _
  simp only [hv1, go_sem, Hold.p, HoldK.k, HoldL.K, HoldL.body, Nat.reduceBEq, Nat.reduceAdd, List.getElem?_cons_zero, List.getElem?_cons_succ, Option.bind_some, List.map_cons, List.map_nil, Nat.zero_add, if_true, List.getD_cons_zero, List.getD_cons_succ, List.contains_cons, List.contains_nil, Nat.reduceBEq, Bool.or_true, Bool.true_or, Bool.or_false, Bool.false_or, Bool.not_true, Bool.not_false, true_and, and_true, rowA_whole, push_n, set_n, push_obj, set_obj, set_push, set_push_ne, set_set, Nat.add_assoc, Nat.left_eq_add, Nat.add_eq_left, Nat.add_left_cancel_iff, Nat.reduceEqDiff, stO_1s, stO_ws, boxA_s, one_bool, one_int, one_str, one_ptr, one_nilptr, one_slice, one_eslice, one_nilslice, one_func, one_iface, one_niliface, List.all_cons, List.all_nil, List.length_cons, List.length_nil, Nat.reduceLT, Nat.reduceEqDiff, Nat.reduceLeDiff, Bool.and_true, Nat.one_ne_zero, Nat.succ_ne_zero, reduceIte, if_false, List.getElem?_cons_zero, List.set_cons_zero, List.set_cons_succ]
  refine callA_of (okBoard_c _ una nxt v ps (hs.ext (hE _ _))) ?_
  rintro r h1 ⟨rfl, hE1⟩
  have b0 := hE1.obj h.n (by simp only [push_n]; omega)
  have b1 := hE1.obj (h.n + 1) (by simp only [push_n]; omega)
  simp [push_obj, push_n] at b0 b1
  have hl1 := hE1.le
  simp only [push_n] at hl1
  cases hok : okB una nxt ps
  · simp only [hok, hv1, go_sem, Hold.p, HoldK.k, HoldL.K, HoldL.body, Nat.reduceBEq, Nat.reduceAdd, List.getElem?_cons_zero, List.getElem?_cons_succ, Option.bind_some, List.map_cons, List.map_nil, Nat.zero_add, if_true, List.getD_cons_zero, List.getD_cons_succ, List.contains_cons, List.contains_nil, Nat.reduceBEq, Bool.or_true, Bool.true_or, Bool.or_false, Bool.false_or, Bool.not_true, Bool.not_false, true_and, and_true, rowA_whole, push_n, set_n, push_obj, set_obj, set_push, set_push_ne, set_set, Nat.add_assoc, Nat.left_eq_add, Nat.add_eq_left, Nat.add_left_cancel_iff, Nat.reduceEqDiff, stO_1s, stO_ws, boxA_s, one_bool, one_int, one_str, one_ptr, one_nilptr, one_slice, one_eslice, one_nilslice, one_func, one_iface, one_niliface, List.all_cons, List.all_nil, List.length_cons, List.length_nil, Nat.reduceLT, Nat.reduceEqDiff, Nat.reduceLeDiff, Bool.and_true, Nat.one_ne_zero, Nat.succ_ne_zero, reduceIte, if_false, List.getElem?_cons_zero, List.set_cons_zero, List.set_cons_succ]
    refine got_of (v := .agg [.int .i64 0, .int .i64 0, .nilslice]) rfl ?_
    simp only [b0, b1, go_sem, Hold.p, HoldK.k, HoldL.K, HoldL.body, Nat.reduceBEq, Nat.reduceAdd, List.getElem?_cons_zero, List.getElem?_cons_succ, Option.bind_some, List.map_cons, List.map_nil, Nat.zero_add, if_true, List.getD_cons_zero, List.getD_cons_succ, List.contains_cons, List.contains_nil, Nat.reduceBEq, Bool.or_true, Bool.true_or, Bool.or_false, Bool.false_or, Bool.not_true, Bool.not_false, true_and, and_true, rowA_whole, push_n, set_n, push_obj, set_obj, set_push, set_push_ne, set_set, Nat.add_assoc, Nat.left_eq_add, Nat.add_eq_left, Nat.add_left_cancel_iff, Nat.reduceEqDiff, stO_1s, stO_ws, boxA_s, one_bool, one_int, one_str, one_ptr, one_nilptr, one_slice, one_eslice, one_nilslice, one_func, one_iface, one_niliface, List.all_cons, List.all_nil, List.length_cons, List.length_nil, Nat.reduceLT, Nat.reduceEqDiff, Nat.reduceLeDiff, Bool.and_true, Nat.one_ne_zero, Nat.succ_ne_zero, reduceIte, if_false, List.getElem?_cons_zero, List.set_cons_zero, List.set_cons_succ]
    exact ⟨_, by simp [firstB, hok]; rfl, by simpa [firstB, hok] using Own.nil, ((hE _ _).trans hE1).set _ (by omega) _⟩
  · simp only [hok, hv1, b0, go_sem, Hold.p, HoldK.k, HoldL.K, HoldL.body, Nat.reduceBEq, Nat.reduceAdd, List.getElem?_cons_zero, List.getElem?_cons_succ, Option.bind_some, List.map_cons, List.map_nil, Nat.zero_add, if_true, List.getD_cons_zero, List.getD_cons_succ, List.contains_cons, List.contains_nil, Nat.reduceBEq, Bool.or_true, Bool.true_or, Bool.or_false, Bool.false_or, Bool.not_true, Bool.not_false, true_and, and_true, rowA_whole, push_n, set_n, push_obj, set_obj, set_push, set_push_ne, set_set, Nat.add_assoc, Nat.left_eq_add, Nat.add_eq_left, Nat.add_left_cancel_iff, Nat.reduceEqDiff, stO_1s, stO_ws, boxA_s, one_bool, one_int, one_str, one_ptr, one_nilptr, one_slice, one_eslice, one_nilslice, one_func, one_iface, one_niliface, List.all_cons, List.all_nil, List.length_cons, List.length_nil, Nat.reduceLT, Nat.reduceEqDiff, Nat.reduceLeDiff, Bool.and_true, Nat.one_ne_zero, Nat.succ_ne_zero, reduceIte, if_false, List.getElem?_cons_zero, List.set_cons_zero, List.set_cons_succ]
    have hm : (ps.map Piece.row).length ≤ 1048576 := by have := (okB_un hok).2.2.2.1; simp; omega
    refine callA_of (ownBoard_c _ v una nxt _ (hs.ext ((hE _ _).trans hE1)) hm) ?_
    rintro r h2 ⟨v2, rfl, ho2, hE2⟩
    have hl2 := hE2.le
    have hv2 := ho2.one
    simp only [hv2, go_sem, Hold.p, HoldK.k, HoldL.K, HoldL.body, Nat.reduceBEq, Nat.reduceAdd, List.getElem?_cons_zero, List.getElem?_cons_succ, Option.bind_some, List.map_cons, List.map_nil, Nat.zero_add, if_true, List.getD_cons_zero, List.getD_cons_succ, List.contains_cons, List.contains_nil, Nat.reduceBEq, Bool.or_true, Bool.true_or, Bool.or_false, Bool.false_or, Bool.not_true, Bool.not_false, true_and, and_true, rowA_whole, push_n, set_n, push_obj, set_obj, set_push, set_push_ne, set_set, Nat.add_assoc, Nat.left_eq_add, Nat.add_eq_left, Nat.add_left_cancel_iff, Nat.reduceEqDiff, stO_1s, stO_ws, boxA_s, one_bool, one_int, one_str, one_ptr, one_nilptr, one_slice, one_eslice, one_nilslice, one_func, one_iface, one_niliface, List.all_cons, List.all_nil, List.length_cons, List.length_nil, Nat.reduceLT, Nat.reduceEqDiff, Nat.reduceLeDiff, Bool.and_true, Nat.one_ne_zero, Nat.succ_ne_zero, reduceIte, if_false, List.getElem?_cons_zero, List.set_cons_zero, List.set_cons_succ]
    refine got_of (v := .agg [.int .i64 una, .int .i64 nxt, v2]) rfl ?_
    simp only [hv2, go_sem, Hold.p, HoldK.k, HoldL.K, HoldL.body, Nat.reduceBEq, Nat.reduceAdd, List.getElem?_cons_zero, List.getElem?_cons_succ, Option.bind_some, List.map_cons, List.map_nil, Nat.zero_add, if_true, List.getD_cons_zero, List.getD_cons_succ, List.contains_cons, List.contains_nil, Nat.reduceBEq, Bool.or_true, Bool.true_or, Bool.or_false, Bool.false_or, Bool.not_true, Bool.not_false, true_and, and_true, rowA_whole, push_n, set_n, push_obj, set_obj, set_push, set_push_ne, set_set, Nat.add_assoc, Nat.left_eq_add, Nat.add_eq_left, Nat.add_left_cancel_iff, Nat.reduceEqDiff, stO_1s, stO_ws, boxA_s, one_bool, one_int, one_str, one_ptr, one_nilptr, one_slice, one_eslice, one_nilslice, one_func, one_iface, one_niliface, List.all_cons, List.all_nil, List.length_cons, List.length_nil, Nat.reduceLT, Nat.reduceEqDiff, Nat.reduceLeDiff, Bool.and_true, Nat.one_ne_zero, Nat.succ_ne_zero, reduceIte, if_false, List.getElem?_cons_zero, List.set_cons_zero, List.set_cons_succ]
    have x2 : At (h2.push (.rows [[.int .i64 una, .int .i64 nxt, v2]] 116 3 false)) h2.n (.rows [[.int .i64 una, .int .i64 nxt, v2]] 116 3 false) := At.new _ _
    have hE3 : Ext h2 (h2.push (.rows [[.int .i64 una, .int .i64 nxt, v2]] 116 3 false)) := (Ext.refl _).push _
    refine callA_of (first_c _ h2.n 116 v2 una nxt ps x2 (.inr (Nat.le_refl _)) (ho2.ext hE3) (okB_each hok)) ?_
    rintro r h4 ⟨rfl, ho4, ht4⟩
    have b1' := (hE2.obj (h.n + 1) (by omega)).trans b1
    have y1 : At (h2.push (.rows [[.int .i64 una, .int .i64 nxt, v2]] 116 3 false)) (h.n + 1) _ := ⟨by simp only [push_n]; omega, (hE3.obj _ (by omega)).trans b1'⟩
    have z1 := (y1.turn (ho2.ext hE3) (.inl (by omega)) ht4).eq
    have z2 := (x2.turn (ho2.ext hE3) (.inr (Nat.le_refl _)) ht4).eq
    simp only [z1, z2, hv2, go_sem, Hold.p, HoldK.k, HoldL.K, HoldL.body, Nat.reduceBEq, Nat.reduceAdd, List.getElem?_cons_zero, List.getElem?_cons_succ, Option.bind_some, List.map_cons, List.map_nil, Nat.zero_add, if_true, List.getD_cons_zero, List.getD_cons_succ, List.contains_cons, List.contains_nil, Nat.reduceBEq, Bool.or_true, Bool.true_or, Bool.or_false, Bool.false_or, Bool.not_true, Bool.not_false, true_and, and_true, rowA_whole, push_n, set_n, push_obj, set_obj, set_push, set_push_ne, set_set, Nat.add_assoc, Nat.left_eq_add, Nat.add_eq_left, Nat.add_left_cancel_iff, Nat.reduceEqDiff, stO_1s, stO_ws, boxA_s, one_bool, one_int, one_str, one_ptr, one_nilptr, one_slice, one_eslice, one_nilslice, one_func, one_iface, one_niliface, List.all_cons, List.all_nil, List.length_cons, List.length_nil, Nat.reduceLT, Nat.reduceEqDiff, Nat.reduceLeDiff, Bool.and_true, Nat.one_ne_zero, Nat.succ_ne_zero, reduceIte, if_false, List.getElem?_cons_zero, List.set_cons_zero, List.set_cons_succ]
    have hl4 := ht4.le
    simp only [push_n] at hl4
    refine ⟨v2, by simp [firstB, hok], ?_, ?_⟩
    · simpa [firstB, hok] using (ho4.set (m := h.n + 1) (.inl (by first | omega | (simp only [set_n, push_n, put_n] at *; omega))) _).wide (lo' := h.n) (hi' := h4.n) (by first | omega | (simp only [set_n, push_n, put_n] at *; omega)) (by first | omega | (simp only [set_n, push_n, put_n] at *; omega)) (Nat.le_refl _)
    · exact (((((hE _ _).trans hE1).trans hE2).trans hE3).turn (ho2.ext hE3) (by omega) ht4).set _ (by omega) _

set_option maxRecDepth 20000 in
theorem specBoardFirst_c (h : IH) (v : IV) (una nxt : Int) (ps : List Piece) (hs : SlR h 6 v (ps.map Piece.row)) :
    ICalls Try.prog 29 [.agg [.int .i64 una, .int .i64 nxt, v]] h fun r h' => ∃ v', r = .tuple [.agg [.int .i64 (firstB una nxt ps).1, .int .i64 (firstB una nxt ps).2.1, v'], .int .i64 (firstB una nxt ps).2.2.2.1, .int .i64 (firstB una nxt ps).2.2.2.2] ∧
      Own h.n h'.n h' 113 6 v' ((firstB una nxt ps).2.2.1.map Piece.row) ∧ Ext h h' := by
  refine icalls (.of ok29) (Nat.le_of_ble_eq_true rfl) ?_
  unfold c29
  have hv1 := hs.one
  have hE : ∀ a b, Ext h ((h.push a).push b) := fun a b => (Ext.refl _).push _ |>.push _
  simp only [hv1, go_sem, Hold.p, HoldK.k, HoldL.K, HoldL.body, Nat.reduceBEq, Nat.reduceAdd, List.getElem?_cons_zero, List.getElem?_cons_succ, Option.bind_some, List.map_cons, List.map_nil, Nat.zero_add, if_true, List.getD_cons_zero, List.getD_cons_succ, List.contains_cons, List.contains_nil, Nat.reduceBEq, Bool.or_true, Bool.true_or, Bool.or_false, Bool.false_or, Bool.not_true, Bool.not_false, true_and, and_true, rowA_whole, push_n, set_n, push_obj, set_obj, set_push, set_push_ne, set_set, Nat.add_assoc, Nat.left_eq_add, Nat.add_eq_left, Nat.add_left_cancel_iff, Nat.reduceEqDiff, stO_1s, stO_ws, boxA_s, one_bool, one_int, one_str, one_ptr, one_nilptr, one_slice, one_eslice, one_nilslice, one_func, one_iface, one_niliface, List.all_cons, List.all_nil, List.length_cons, List.length_nil, Nat.reduceLT, Nat.reduceEqDiff, Nat.reduceLeDiff, Bool.and_true, Nat.one_ne_zero, Nat.succ_ne_zero, reduceIte, if_false, List.getElem?_cons_zero, List.set_cons_zero, List.set_cons_succ]
  refine callA_of (l15OK_c _ una nxt v ps (hs.ext (hE _ _))) ?_
  rintro r h1 ⟨rfl, hE1⟩
  have b0 := hE1.obj h.n (by simp only [push_n]; omega)
  have b1 := hE1.obj (h.n + 1) (by simp only [push_n]; omega)
  simp [push_obj, push_n] at b0 b1
  have hl1 := hE1.le
  simp only [push_n] at hl1
  cases hok : okB una nxt ps
  · simp only [hok, hv1, go_sem, Hold.p, HoldK.k, HoldL.K, HoldL.body, Nat.reduceBEq, Nat.reduceAdd, List.getElem?_cons_zero, List.getElem?_cons_succ, Option.bind_some, List.map_cons, List.map_nil, Nat.zero_add, if_true, List.getD_cons_zero, List.getD_cons_succ, List.contains_cons, List.contains_nil, Nat.reduceBEq, Bool.or_true, Bool.true_or, Bool.or_false, Bool.false_or, Bool.not_true, Bool.not_false, true_and, and_true, rowA_whole, push_n, set_n, push_obj, set_obj, set_push, set_push_ne, set_set, Nat.add_assoc, Nat.left_eq_add, Nat.add_eq_left, Nat.add_left_cancel_iff, Nat.reduceEqDiff, stO_1s, stO_ws, boxA_s, one_bool, one_int, one_str, one_ptr, one_nilptr, one_slice, one_eslice, one_nilslice, one_func, one_iface, one_niliface, List.all_cons, List.all_nil, List.length_cons, List.length_nil, Nat.reduceLT, Nat.reduceEqDiff, Nat.reduceLeDiff, Bool.and_true, Nat.one_ne_zero, Nat.succ_ne_zero, reduceIte, if_false, List.getElem?_cons_zero, List.set_cons_zero, List.set_cons_succ]
    refine got_of (v := .agg [.int .i64 0, .int .i64 0, .nilslice]) rfl ?_
    simp only [b0, b1, go_sem, Hold.p, HoldK.k, HoldL.K, HoldL.body, Nat.reduceBEq, Nat.reduceAdd, List.getElem?_cons_zero, List.getElem?_cons_succ, Option.bind_some, List.map_cons, List.map_nil, Nat.zero_add, if_true, List.getD_cons_zero, List.getD_cons_succ, List.contains_cons, List.contains_nil, Nat.reduceBEq, Bool.or_true, Bool.true_or, Bool.or_false, Bool.false_or, Bool.not_true, Bool.not_false, true_and, and_true, rowA_whole, push_n, set_n, push_obj, set_obj, set_push, set_push_ne, set_set, Nat.add_assoc, Nat.left_eq_add, Nat.add_eq_left, Nat.add_left_cancel_iff, Nat.reduceEqDiff, stO_1s, stO_ws, boxA_s, one_bool, one_int, one_str, one_ptr, one_nilptr, one_slice, one_eslice, one_nilslice, one_func, one_iface, one_niliface, List.all_cons, List.all_nil, List.length_cons, List.length_nil, Nat.reduceLT, Nat.reduceEqDiff, Nat.reduceLeDiff, Bool.and_true, Nat.one_ne_zero, Nat.succ_ne_zero, reduceIte, if_false, List.getElem?_cons_zero, List.set_cons_zero, List.set_cons_succ]
    exact ⟨_, by simp [firstB, hok]; rfl, by simpa [firstB, hok] using Own.nil, ((hE _ _).trans hE1).set _ (by omega) _⟩
  · simp only [hok, hv1, b0, go_sem, Hold.p, HoldK.k, HoldL.K, HoldL.body, Nat.reduceBEq, Nat.reduceAdd, List.getElem?_cons_zero, List.getElem?_cons_succ, Option.bind_some, List.map_cons, List.map_nil, Nat.zero_add, if_true, List.getD_cons_zero, List.getD_cons_succ, List.contains_cons, List.contains_nil, Nat.reduceBEq, Bool.or_true, Bool.true_or, Bool.or_false, Bool.false_or, Bool.not_true, Bool.not_false, true_and, and_true, rowA_whole, push_n, set_n, push_obj, set_obj, set_push, set_push_ne, set_set, Nat.add_assoc, Nat.left_eq_add, Nat.add_eq_left, Nat.add_left_cancel_iff, Nat.reduceEqDiff, stO_1s, stO_ws, boxA_s, one_bool, one_int, one_str, one_ptr, one_nilptr, one_slice, one_eslice, one_nilslice, one_func, one_iface, one_niliface, List.all_cons, List.all_nil, List.length_cons, List.length_nil, Nat.reduceLT, Nat.reduceEqDiff, Nat.reduceLeDiff, Bool.and_true, Nat.one_ne_zero, Nat.succ_ne_zero, reduceIte, if_false, List.getElem?_cons_zero, List.set_cons_zero, List.set_cons_succ]
    have hm : (ps.map Piece.row).length ≤ 1048576 := by have := (okB_un hok).2.2.2.1; simp; omega
    refine callA_of (l15Copy_c _ v una nxt _ (hs.ext ((hE _ _).trans hE1)) hm) ?_
    rintro r h2 ⟨v2, rfl, ho2, hE2⟩
    have hl2 := hE2.le
    have hv2 := ho2.one
    have hlen2 := ho2.lenF
    have b02 := (hE2.obj h.n (by omega)).trans b0
    have b12 := (hE2.obj (h.n + 1) (by omega)).trans b1
    have hne : (h.n + 1 = h.n) = False := by simp
    have hfst : (firstB una nxt ps) = (una, nxt, (firstP ps).1, (firstP ps).2, 0) := by simp [firstB, hok]
    rw [hfst]
    cases ps with
    | nil =>
      have hlen2 : lenF v2 = some (.int .i64 0) := hlen2
      simp only [hv2, b02, hlen2, decide_true, b12, go_sem, Hold.p, HoldK.k, HoldL.K, HoldL.body, Nat.reduceBEq, Nat.reduceAdd, List.getElem?_cons_zero, List.getElem?_cons_succ, Option.bind_some, List.map_cons, List.map_nil, Nat.zero_add, if_true, List.getD_cons_zero, List.getD_cons_succ, List.contains_cons, List.contains_nil, Nat.reduceBEq, Bool.or_true, Bool.true_or, Bool.or_false, Bool.false_or, Bool.not_true, Bool.not_false, true_and, and_true, rowA_whole, push_n, set_n, push_obj, set_obj, set_push, set_push_ne, set_set, Nat.add_assoc, Nat.left_eq_add, Nat.add_eq_left, Nat.add_left_cancel_iff, Nat.reduceEqDiff, stO_1s, stO_ws, boxA_s, one_bool, one_int, one_str, one_ptr, one_nilptr, one_slice, one_eslice, one_nilslice, one_func, one_iface, one_niliface, List.all_cons, List.all_nil, List.length_cons, List.length_nil, Nat.reduceLT, Nat.reduceEqDiff, Nat.reduceLeDiff, Bool.and_true, Nat.one_ne_zero, Nat.succ_ne_zero, reduceIte, if_false, List.getElem?_cons_zero, List.set_cons_zero, List.set_cons_succ]
      exact ⟨v2, rfl, ((ho2.set (m := h.n) (.inl (by first | omega | (simp only [set_n, push_n, put_n] at *; omega))) _).set (m := h.n + 1) (.inl (by first | omega | (simp only [set_n, push_n, put_n] at *; omega))) _).wide (lo' := h.n) (hi' := h2.n) (by first | omega | (simp only [set_n, push_n, put_n] at *; omega)) (by first | omega | (simp only [set_n, push_n, put_n] at *; omega)) (Nat.le_refl _), ((((hE _ _).trans hE1).trans hE2).set _ (by first | omega | (simp only [set_n, push_n, put_n] at *; omega)) _).set _ (by first | omega | (simp only [set_n, push_n, put_n] at *; omega)) _⟩
    | cons p r =>
      obtain ⟨rs, hrs⟩ : ∃ rs, rs = (p :: r).map Piece.row := ⟨_, rfl⟩
      rw [← hrs] at ho2 hlen2
      have hp := okB_each hok p (by simp)
      have hos := ho2
      rcases ho2 with ⟨hx, _⟩ | ⟨l, h0, rfl, g1, g2, g3, g4⟩
      · rw [hrs] at hx; simp at hx
      · have hN : rs.length ≠ 0 := by rw [hrs]; simp
        have hn : decide ((rs.length : Int) = 0) = false := by simpa using hN
        have hln : (l = h.n) = False := by simp; omega
        have hln1 : (l = h.n + 1) = False := by simp; omega
        have hr0 : rs[0]? = some p.row := by rw [hrs]; rfl
        unfold Piece.row at hr0
        simp only [hv2, b02, b12, hn, hln, hln1, iadrF_sl, g4, iadrO_0 hN, hr0, go_sem, Hold.p, HoldK.k, HoldL.K, HoldL.body, Nat.reduceBEq, Nat.reduceAdd, List.getElem?_cons_zero, List.getElem?_cons_succ, Option.bind_some, List.map_cons, List.map_nil, Nat.zero_add, if_true, List.getD_cons_zero, List.getD_cons_succ, List.contains_cons, List.contains_nil, Nat.reduceBEq, Bool.or_true, Bool.true_or, Bool.or_false, Bool.false_or, Bool.not_true, Bool.not_false, true_and, and_true, rowA_whole, push_n, set_n, push_obj, set_obj, set_push, set_push_ne, set_set, Nat.add_assoc, Nat.left_eq_add, Nat.add_eq_left, Nat.add_left_cancel_iff, Nat.reduceEqDiff, stO_1s, stO_ws, boxA_s, one_bool, one_int, one_str, one_ptr, one_nilptr, one_slice, one_eslice, one_nilslice, one_func, one_iface, one_niliface, List.all_cons, List.all_nil, List.length_cons, List.length_nil, Nat.reduceLT, Nat.reduceEqDiff, Nat.reduceLeDiff, Bool.and_true, Nat.one_ne_zero, Nat.succ_ne_zero, reduceIte, if_false, List.getElem?_cons_zero, List.set_cons_zero, List.set_cons_succ]
        have hw1 : wr .i64 (p.to - p.fr) = p.to - p.fr := wr64 _ (by omega)
        have hE3 := ((hE (IObj.rows [[IV.int IntKind.i64 una, IV.int IntKind.i64 nxt, v]] 40 3 false) (IObj.rows [[IV.int IntKind.i64 0, IV.int IntKind.i64 0, IV.nilslice]] 40 3 false)).trans hE1).trans hE2
        have hnl : (h.n = l) = False := by simp; omega
        have hnl1 : (h.n + 1 = l) = False := by simp; omega
        have hnd : ∀ a b, ∃ v', IV.tuple [IV.agg [IV.int .i64 una, IV.int .i64 nxt, IV.slice l 0 rs.length], IV.int .i64 0, IV.int .i64 0] = IV.tuple [IV.agg [IV.int .i64 una, IV.int .i64 nxt, v'], IV.int .i64 0, IV.int .i64 0] ∧
            Own h.n h2.n ((h2.set h.n a).set (h.n + 1) b) 113 6 v' ((p :: r).map Piece.row) ∧ Ext h ((h2.set h.n a).set (h.n + 1) b) := fun a b =>
          ⟨_, rfl, by rw [← hrs]; exact ((hos.set (m := h.n) (.inl (by first | omega | (simp only [set_n, push_n, put_n] at *; omega))) _).set (m := h.n + 1) (.inl (by first | omega | (simp only [set_n, push_n, put_n] at *; omega))) _).wide (lo' := h.n) (hi' := h2.n) (by first | omega | (simp only [set_n, push_n, put_n] at *; omega)) (by first | omega | (simp only [set_n, push_n, put_n] at *; omega)) (Nat.le_refl _), (hE3.set _ (by first | omega | (simp only [set_n, push_n, put_n] at *; omega)) _).set _ (by first | omega | (simp only [set_n, push_n, put_n] at *; omega)) _⟩
        cases c1 : p.sacked
        · cases c2 : p.lost
          · simp only [c1, c2, hv2, b02, b12, hn, hln, hln1, iadrF_sl, g4, iadrO_0 hN, hr0, go_sem, Hold.p, HoldK.k, HoldL.K, HoldL.body, Nat.reduceBEq, Nat.reduceAdd, List.getElem?_cons_zero, List.getElem?_cons_succ, Option.bind_some, List.map_cons, List.map_nil, Nat.zero_add, if_true, List.getD_cons_zero, List.getD_cons_succ, List.contains_cons, List.contains_nil, Nat.reduceBEq, Bool.or_true, Bool.true_or, Bool.or_false, Bool.false_or, Bool.not_true, Bool.not_false, true_and, and_true, rowA_whole, push_n, set_n, push_obj, set_obj, set_push, set_push_ne, set_set, Nat.add_assoc, Nat.left_eq_add, Nat.add_eq_left, Nat.add_left_cancel_iff, Nat.reduceEqDiff, stO_1s, stO_ws, boxA_s, one_bool, one_int, one_str, one_ptr, one_nilptr, one_slice, one_eslice, one_nilslice, one_func, one_iface, one_niliface, List.all_cons, List.all_nil, List.length_cons, List.length_nil, Nat.reduceLT, Nat.reduceEqDiff, Nat.reduceLeDiff, Bool.and_true, Nat.one_ne_zero, Nat.succ_ne_zero, reduceIte, if_false, List.getElem?_cons_zero, List.set_cons_zero, List.set_cons_succ]
            refine stO_of hr0 rfl (by simp) (by simp [IV.one]) ?_
            have hr1 : ∀ R : List IV, (rs.set 0 R)[0]? = some R := fun R => List.getElem?_set_self (by omega)
            simp only [c1, c2, hv2, b02, b12, hn, hln, hln1, hnl, hnl1, iadrF_sl, g4, iadrO_0 hN, hr1, wrt, hw1, go_sem, Hold.p, HoldK.k, HoldL.K, HoldL.body, Nat.reduceBEq, Nat.reduceAdd, List.getElem?_cons_zero, List.getElem?_cons_succ, Option.bind_some, List.map_cons, List.map_nil, Nat.zero_add, if_true, List.getD_cons_zero, List.getD_cons_succ, List.contains_cons, List.contains_nil, Nat.reduceBEq, Bool.or_true, Bool.true_or, Bool.or_false, Bool.false_or, Bool.not_true, Bool.not_false, true_and, and_true, rowA_whole, push_n, set_n, push_obj, set_obj, set_push, set_push_ne, set_set, Nat.add_assoc, Nat.left_eq_add, Nat.add_eq_left, Nat.add_left_cancel_iff, Nat.reduceEqDiff, stO_1s, stO_ws, boxA_s, one_bool, one_int, one_str, one_ptr, one_nilptr, one_slice, one_eslice, one_nilslice, one_func, one_iface, one_niliface, List.all_cons, List.all_nil, List.length_cons, List.length_nil, Nat.reduceLT, Nat.reduceEqDiff, Nat.reduceLeDiff, Bool.and_true, Nat.one_ne_zero, Nat.succ_ne_zero, reduceIte, if_false, List.getElem?_cons_zero, List.set_cons_zero, List.set_cons_succ]
            refine ⟨.slice l 0 rs.length, by simp [firstP, c1, c2], ?_, ((hE3.set h.n (by first | omega | (simp only [set_n, push_n, put_n] at *; omega)) _).set l (by first | omega | (simp only [set_n, push_n, put_n] at *; omega)) _).set (h.n + 1) (by first | omega | (simp only [set_n, push_n, put_n] at *; omega)) _⟩
            have e1 : rs.set 0 [IV.int .i64 p.fr, IV.int .i64 p.to, IV.int .i64 p.at_, IV.int .i64 p.times, IV.bool false, IV.bool true] = (firstP (p :: r)).1.map Piece.row := by
              rw [hrs]; simp [firstP, c1, c2, Piece.row]
            rw [e1]
            refine .inr ⟨l, by simp [firstP, c1, c2], by rw [hrs]; simp [firstP, c1, c2], (by first | omega | (simp only [set_n, push_n, put_n] at *; omega)), (by first | omega | (simp only [set_n, push_n, put_n] at *; omega)), (by first | omega | (simp only [set_n, push_n, put_n] at *; omega)), ?_⟩
            simp [set_obj, hln, hln1]
          · simp only [c1, c2, hv2, b02, b12, hn, hln, hln1, iadrF_sl, g4, iadrO_0 hN, hr0, go_sem, Hold.p, HoldK.k, HoldL.K, HoldL.body, Nat.reduceBEq, Nat.reduceAdd, List.getElem?_cons_zero, List.getElem?_cons_succ, Option.bind_some, List.map_cons, List.map_nil, Nat.zero_add, if_true, List.getD_cons_zero, List.getD_cons_succ, List.contains_cons, List.contains_nil, Nat.reduceBEq, Bool.or_true, Bool.true_or, Bool.or_false, Bool.false_or, Bool.not_true, Bool.not_false, true_and, and_true, rowA_whole, push_n, set_n, push_obj, set_obj, set_push, set_push_ne, set_set, Nat.add_assoc, Nat.left_eq_add, Nat.add_eq_left, Nat.add_left_cancel_iff, Nat.reduceEqDiff, stO_1s, stO_ws, boxA_s, one_bool, one_int, one_str, one_ptr, one_nilptr, one_slice, one_eslice, one_nilslice, one_func, one_iface, one_niliface, List.all_cons, List.all_nil, List.length_cons, List.length_nil, Nat.reduceLT, Nat.reduceEqDiff, Nat.reduceLeDiff, Bool.and_true, Nat.one_ne_zero, Nat.succ_ne_zero, reduceIte, if_false, List.getElem?_cons_zero, List.set_cons_zero, List.set_cons_succ]
            have hq : firstP (p :: r) = (p :: r, 0) := by simp [firstP, c2]
            rw [hq]
            exact hnd _ _
        · simp only [c1, hv2, b02, b12, hn, hln, hln1, iadrF_sl, g4, iadrO_0 hN, hr0, go_sem, Hold.p, HoldK.k, HoldL.K, HoldL.body, Nat.reduceBEq, Nat.reduceAdd, List.getElem?_cons_zero, List.getElem?_cons_succ, Option.bind_some, List.map_cons, List.map_nil, Nat.zero_add, if_true, List.getD_cons_zero, List.getD_cons_succ, List.contains_cons, List.contains_nil, Nat.reduceBEq, Bool.or_true, Bool.true_or, Bool.or_false, Bool.false_or, Bool.not_true, Bool.not_false, true_and, and_true, rowA_whole, push_n, set_n, push_obj, set_obj, set_push, set_push_ne, set_set, Nat.add_assoc, Nat.left_eq_add, Nat.add_eq_left, Nat.add_left_cancel_iff, Nat.reduceEqDiff, stO_1s, stO_ws, boxA_s, one_bool, one_int, one_str, one_ptr, one_nilptr, one_slice, one_eslice, one_nilslice, one_func, one_iface, one_niliface, List.all_cons, List.all_nil, List.length_cons, List.length_nil, Nat.reduceLT, Nat.reduceEqDiff, Nat.reduceLeDiff, Bool.and_true, Nat.one_ne_zero, Nat.succ_ne_zero, reduceIte, if_false, List.getElem?_cons_zero, List.set_cons_zero, List.set_cons_succ]
          have hq : firstP (p :: r) = (p :: r, 0) := by simp [firstP, c1]
          rw [hq]
          exact hnd _ _
end Go.Proofs.Ytecljenjlncfhaa
