import Derived.Test.YtecljenjlncfhaaL1
import Derived.Test.YtecljenjlncfhaaK2
import Derived.Test.YtecljenjlncfhaaProg
import Derived.KernelRfl
set_option linter.unusedSimpArgs false
set_option linter.unusedVariables false
namespace Go.Proofs.Ytecljenjlncfhaa
open Go Go.IW

def firstP : List Piece → List Piece × Int
  | [] => ([], 0)
  | p :: r => if p.sacked || p.lost then (p :: r, 0) else ({ p with lost := true } :: r, p.to - p.fr)

theorem iadr0 {h : IH} {sz l n : Nat} (h0 : n ≠ 0) (hz : sizeO (h.obj l) = some sz) : iadrF h sz (.slice l 0 n) (.int .i64 0) = some (.ptr l 0 0) := by
  have := iadrF_nat (h := h) (sz := sz) (l := l) (i := 0) (n := n) (k := 0) (q := .i64) (by omega) hz
  simpa using this

set_option maxRecDepth 20000 in
theorem first_c {lo hi : Nat} (h : IH) (b e0 : Nat) (v : IV) (una nxt : Int) (ps : List Piece) (hb : At h b (.rows [[.int .i64 una, .int .i64 nxt, v]] e0 3 false)) (hd : b < lo ∨ hi ≤ b)
    (ho : Own lo hi h 113 6 v (ps.map Piece.row)) (hw : ∀ p ∈ ps, 0 ≤ p.fr ∧ p.fr < p.to ∧ p.to ≤ 1099511627776) :
    ICalls Try.prog 74 [.ptr b 0 0] h fun r h' => r = .int .i64 (firstP ps).2 ∧ Own lo hi h' 113 6 v ((firstP ps).1.map Piece.row) ∧ Turn v h h' := by
  refine icalls (.of ok74) (Nat.le_of_ble_eq_true rfl) ?_
  unfold c74
  have hlen := ho.lenF
  have hbe := hb.eq
  cases ps with
  | nil =>
    have hlen : lenF v = some (.int .i64 0) := hlen
    simp only [hbe, hlen, decide_true, go_sem, Hold.p, HoldK.k, HoldL.K, HoldL.body, Nat.reduceBEq, Nat.reduceAdd, List.getElem?_cons_zero, List.getElem?_cons_succ, Option.bind_some, List.map_cons, List.map_nil, Nat.zero_add, if_true, List.getD_cons_zero, List.getD_cons_succ, List.contains_cons, List.contains_nil, Nat.reduceBEq, Bool.or_true, Bool.true_or, Bool.or_false, Bool.false_or, Bool.not_true, Bool.not_false, true_and, and_true, rowA_whole, push_n, set_n, push_obj, set_obj, set_push, set_push_ne, set_set, Nat.add_assoc, Nat.left_eq_add, Nat.add_eq_left, Nat.add_left_cancel_iff, Nat.reduceEqDiff, stO_1s, stO_ws, boxA_s, one_bool, one_int, one_str, one_ptr, one_nilptr, one_slice, one_eslice, one_nilslice, one_func, one_iface, one_niliface, List.all_cons, List.all_nil, List.length_cons, List.length_nil, Nat.reduceLT, Nat.reduceEqDiff, Nat.reduceLeDiff, Bool.and_true, Nat.one_ne_zero, Nat.succ_ne_zero, reduceIte, if_false, List.getElem?_cons_zero, List.set_cons_zero, List.set_cons_succ]
    exact ⟨rfl, ho, Turn.refl _ _⟩
  | cons p r =>
    have hp := hw p (by simp)
    have hrs : ∃ rs, rs = (p :: r).map Piece.row := ⟨_, rfl⟩
    obtain ⟨rs, hrs⟩ := hrs
    rw [← hrs] at ho hlen
    have hho := ho
    rcases ho with ⟨hx, _⟩ | ⟨l, h0, rfl, h1, h2, h3, h4⟩
    · rw [hrs] at hx; simp at hx
    · have hN : rs.length ≠ 0 := by rw [hrs]; simp
      have hn : decide ((rs.length : Int) = 0) = false := by simpa using hN
      have hz : sizeO (h.obj l) = some 6 := by rw [h4]; rfl
      have hia : iadrF h 6 (.slice l 0 rs.length) (.int .i64 0) = some (.ptr l 0 0) := iadr0 hN hz
      have hr : rowO (h.obj l) 0 = some p.row := by rw [h4, hrs]; rfl
      have hc := cellO_row hr
      unfold Piece.row at hc
      simp only [hbe, hn, hia, hc, go_sem, Hold.p, HoldK.k, HoldL.K, HoldL.body, Nat.reduceBEq, Nat.reduceAdd, List.getElem?_cons_zero, List.getElem?_cons_succ, Option.bind_some, List.map_cons, List.map_nil, Nat.zero_add, if_true, List.getD_cons_zero, List.getD_cons_succ, List.contains_cons, List.contains_nil, Nat.reduceBEq, Bool.or_true, Bool.true_or, Bool.or_false, Bool.false_or, Bool.not_true, Bool.not_false, true_and, and_true, rowA_whole, push_n, set_n, push_obj, set_obj, set_push, set_push_ne, set_set, Nat.add_assoc, Nat.left_eq_add, Nat.add_eq_left, Nat.add_left_cancel_iff, Nat.reduceEqDiff, stO_1s, stO_ws, boxA_s, one_bool, one_int, one_str, one_ptr, one_nilptr, one_slice, one_eslice, one_nilslice, one_func, one_iface, one_niliface, List.all_cons, List.all_nil, List.length_cons, List.length_nil, Nat.reduceLT, Nat.reduceEqDiff, Nat.reduceLeDiff, Bool.and_true, Nat.one_ne_zero, Nat.succ_ne_zero, reduceIte, if_false, List.getElem?_cons_zero, List.set_cons_zero, List.set_cons_succ]
      cases c1 : p.sacked
      · cases c2 : p.lost
        · simp only [hbe, hlen, hn, hia, hc, c1, c2, go_sem, Hold.p, HoldK.k, HoldL.K, HoldL.body, Nat.reduceBEq, Nat.reduceAdd, List.getElem?_cons_zero, List.getElem?_cons_succ, Option.bind_some, List.map_cons, List.map_nil, Nat.zero_add, if_true, List.getD_cons_zero, List.getD_cons_succ, List.contains_cons, List.contains_nil, Nat.reduceBEq, Bool.or_true, Bool.true_or, Bool.or_false, Bool.false_or, Bool.not_true, Bool.not_false, true_and, and_true, rowA_whole, push_n, set_n, push_obj, set_obj, set_push, set_push_ne, set_set, Nat.add_assoc, Nat.left_eq_add, Nat.add_eq_left, Nat.add_left_cancel_iff, Nat.reduceEqDiff, stO_1s, stO_ws, boxA_s, one_bool, one_int, one_str, one_ptr, one_nilptr, one_slice, one_eslice, one_nilslice, one_func, one_iface, one_niliface, List.all_cons, List.all_nil, List.length_cons, List.length_nil, Nat.reduceLT, Nat.reduceEqDiff, Nat.reduceLeDiff, Bool.and_true, Nat.one_ne_zero, Nat.succ_ne_zero, reduceIte, if_false, List.getElem?_cons_zero, List.set_cons_zero, List.set_cons_succ]
          have hr1 : (rowO (h.obj l) 0).isSome = true := by rw [hr]; rfl
          have ho1 : (h.obj l).own = true := by rw [h4]; rfl
          have hbl : (b = l) = False := by simp; omega
          have hw1 : wr .i64 (p.to - p.fr) = p.to - p.fr := wr64 _ (by omega)
          rw [← put_self hr]
          simp only [stA_put1 hr1 ho1, put_obj_ne hbl, hbe, iadrF_put, hia, cell_put hr, Piece.row, hw1, go_sem, Hold.p, HoldK.k, HoldL.K, HoldL.body, Nat.reduceBEq, Nat.reduceAdd, List.getElem?_cons_zero, List.getElem?_cons_succ, Option.bind_some, List.map_cons, List.map_nil, Nat.zero_add, if_true, List.getD_cons_zero, List.getD_cons_succ, List.contains_cons, List.contains_nil, Nat.reduceBEq, Bool.or_true, Bool.true_or, Bool.or_false, Bool.false_or, Bool.not_true, Bool.not_false, true_and, and_true, rowA_whole, push_n, set_n, push_obj, set_obj, set_push, set_push_ne, set_set, Nat.add_assoc, Nat.left_eq_add, Nat.add_eq_left, Nat.add_left_cancel_iff, Nat.reduceEqDiff, stO_1s, stO_ws, boxA_s, one_bool, one_int, one_str, one_ptr, one_nilptr, one_slice, one_eslice, one_nilslice, one_func, one_iface, one_niliface, List.all_cons, List.all_nil, List.length_cons, List.length_nil, Nat.reduceLT, Nat.reduceEqDiff, Nat.reduceLeDiff, Bool.and_true, Nat.one_ne_zero, Nat.succ_ne_zero, reduceIte, if_false, List.getElem?_cons_zero, List.set_cons_zero, List.set_cons_succ]
          refine ⟨by simp [firstP, c1, c2], ?_, ?_⟩
          · have e1 : h.put l 0 [IV.int .i64 p.fr, IV.int .i64 p.to, IV.int .i64 p.at_, IV.int .i64 p.times, IV.bool p.sacked, IV.bool true] = h.set l (.rows ((firstP (p :: r)).1.map Piece.row) 113 6 false) := by
              unfold IH.put
              rw [h4, hrs]
              simp [putO, firstP, c1, c2, Piece.row]
            rw [e1]
            exact Own.over (by rw [hrs]; simp [firstP, c1, c2]) hN h1 h2 h3
          · have hrr := hr
            unfold Piece.row at hrr
            rw [put_self hrr]
            exact Turn.set _
        · simp only [hbe, hlen, hn, hia, hc, c1, c2, go_sem, Hold.p, HoldK.k, HoldL.K, HoldL.body, Nat.reduceBEq, Nat.reduceAdd, List.getElem?_cons_zero, List.getElem?_cons_succ, Option.bind_some, List.map_cons, List.map_nil, Nat.zero_add, if_true, List.getD_cons_zero, List.getD_cons_succ, List.contains_cons, List.contains_nil, Nat.reduceBEq, Bool.or_true, Bool.true_or, Bool.or_false, Bool.false_or, Bool.not_true, Bool.not_false, true_and, and_true, rowA_whole, push_n, set_n, push_obj, set_obj, set_push, set_push_ne, set_set, Nat.add_assoc, Nat.left_eq_add, Nat.add_eq_left, Nat.add_left_cancel_iff, Nat.reduceEqDiff, stO_1s, stO_ws, boxA_s, one_bool, one_int, one_str, one_ptr, one_nilptr, one_slice, one_eslice, one_nilslice, one_func, one_iface, one_niliface, List.all_cons, List.all_nil, List.length_cons, List.length_nil, Nat.reduceLT, Nat.reduceEqDiff, Nat.reduceLeDiff, Bool.and_true, Nat.one_ne_zero, Nat.succ_ne_zero, reduceIte, if_false, List.getElem?_cons_zero, List.set_cons_zero, List.set_cons_succ]
          exact ⟨by simp [firstP, c2], by simpa [firstP, c2, hrs] using hho, Turn.refl _ _⟩
      · simp only [hbe, hlen, hn, hia, hc, c1, go_sem, Hold.p, HoldK.k, HoldL.K, HoldL.body, Nat.reduceBEq, Nat.reduceAdd, List.getElem?_cons_zero, List.getElem?_cons_succ, Option.bind_some, List.map_cons, List.map_nil, Nat.zero_add, if_true, List.getD_cons_zero, List.getD_cons_succ, List.contains_cons, List.contains_nil, Nat.reduceBEq, Bool.or_true, Bool.true_or, Bool.or_false, Bool.false_or, Bool.not_true, Bool.not_false, true_and, and_true, rowA_whole, push_n, set_n, push_obj, set_obj, set_push, set_push_ne, set_set, Nat.add_assoc, Nat.left_eq_add, Nat.add_eq_left, Nat.add_left_cancel_iff, Nat.reduceEqDiff, stO_1s, stO_ws, boxA_s, one_bool, one_int, one_str, one_ptr, one_nilptr, one_slice, one_eslice, one_nilslice, one_func, one_iface, one_niliface, List.all_cons, List.all_nil, List.length_cons, List.length_nil, Nat.reduceLT, Nat.reduceEqDiff, Nat.reduceLeDiff, Bool.and_true, Nat.one_ne_zero, Nat.succ_ne_zero, reduceIte, if_false, List.getElem?_cons_zero, List.set_cons_zero, List.set_cons_succ]
        exact ⟨by simp [firstP, c1], by simpa [firstP, c1, hrs] using hho, Turn.refl _ _⟩

/-- What BoardFirst answers: una, nxt, pieces, number, code. -/
def firstB (una nxt : Int) (ps : List Piece) : Int × Int × List Piece × Int × Int :=
  if okB una nxt ps then (una, nxt, (firstP ps).1, (firstP ps).2, 0) else (0, 0, [], 0, 1)

theorem okB_each {una nxt : Int} {ps : List Piece} (h : okB una nxt ps = true) : ∀ p ∈ ps, 0 ≤ p.fr ∧ p.fr < p.to ∧ p.to ≤ 1099511627776 := by
  obtain ⟨o1, o2, o3, o4, o5⟩ := okB_un h
  intro p hp
  have := (okPs_bound o5).2.1 p hp
  omega

set_option maxRecDepth 20000 in
theorem implBoardFirst_c (h : IH) (v : IV) (una nxt : Int) (ps : List Piece) (hs : SlR h 6 v (ps.map Piece.row)) :
    ICalls Try.prog 30 [.agg [.int .i64 una, .int .i64 nxt, v]] h fun r h' => ∃ v', r = .tuple [.agg [.int .i64 (firstB una nxt ps).1, .int .i64 (firstB una nxt ps).2.1, v'], .int .i64 (firstB una nxt ps).2.2.2.1, .int .i64 (firstB una nxt ps).2.2.2.2] ∧
      Own h.n h'.n h' 113 6 v' ((firstB una nxt ps).2.2.1.map Piece.row) ∧ Ext h h' := by
  refine icalls (.of ok30) (Nat.le_of_ble_eq_true rfl) ?_
  unfold c30
  have hv1 := hs.one
  have hE : ∀ a b, Ext h ((h.push a).push b) := fun a b => (Ext.refl _).push _ |>.push _
  simp only [hv1, go_sem, Hold.p, HoldK.k, HoldL.K, HoldL.body, Nat.reduceBEq, Nat.reduceAdd, List.getElem?_cons_zero, List.getElem?_cons_succ, Option.bind_some, List.map_cons, List.map_nil, Nat.zero_add, if_true, List.getD_cons_zero, List.getD_cons_succ, List.contains_cons, List.contains_nil, Nat.reduceBEq, Bool.or_true, Bool.true_or, Bool.or_false, Bool.false_or, Bool.not_true, Bool.not_false, true_and, and_true, rowA_whole, push_n, set_n, push_obj, set_obj, set_push, set_push_ne, set_set, Nat.add_assoc, Nat.left_eq_add, Nat.add_eq_left, Nat.add_left_cancel_iff, Nat.reduceEqDiff, stO_1s, stO_ws, boxA_s, one_bool, one_int, one_str, one_ptr, one_nilptr, one_slice, one_eslice, one_nilslice, one_func, one_iface, one_niliface, List.all_cons, List.all_nil, List.length_cons, List.length_nil, Nat.reduceLT, Nat.reduceEqDiff, Nat.reduceLeDiff, Bool.and_true, Nat.one_ne_zero, Nat.succ_ne_zero, reduceIte, if_false, List.getElem?_cons_zero, List.set_cons_zero, List.set_cons_succ]
  refine callA_of (okBoard_c _ una nxt v ps (hs.ext (hE _ _))) ?_
  rintro r h1 ⟨rfl, hE1⟩
  have b0 := hE1.obj h.n (by simp only [push_n]; omega)
  have b1 := hE1.obj (h.n + 1) (by simp only [push_n]; omega)
  simp [push_obj, push_n] at b0 b1
  have hl1 := hE1.le
  simp only [push_n] at hl1
  cases hok : okB una nxt ps
  · simp only [hok, hv1, go_sem, Hold.p, HoldK.k, HoldL.K, HoldL.body, Nat.reduceBEq, Nat.reduceAdd, List.getElem?_cons_zero, List.getElem?_cons_succ, Option.bind_some, List.map_cons, List.map_nil, Nat.zero_add, if_true, List.getD_cons_zero, List.getD_cons_succ, List.contains_cons, List.contains_nil, Nat.reduceBEq, Bool.or_true, Bool.true_or, Bool.or_false, Bool.false_or, Bool.not_true, Bool.not_false, true_and, and_true, rowA_whole, push_n, set_n, push_obj, set_obj, set_push, set_push_ne, set_set, Nat.add_assoc, Nat.left_eq_add, Nat.add_eq_left, Nat.add_left_cancel_iff, Nat.reduceEqDiff, stO_1s, stO_ws, boxA_s, one_bool, one_int, one_str, one_ptr, one_nilptr, one_slice, one_eslice, one_nilslice, one_func, one_iface, one_niliface, List.all_cons, List.all_nil, List.length_cons, List.length_nil, Nat.reduceLT, Nat.reduceEqDiff, Nat.reduceLeDiff, Bool.and_true, Nat.one_ne_zero, Nat.succ_ne_zero, reduceIte, if_false, List.getElem?_cons_zero, List.set_cons_zero, List.set_cons_succ]
    refine got_of (v := .agg [.int .i64 0, .int .i64 0, .nilslice]) rfl ?_
    simp only [b0, b1, go_sem, Hold.p, HoldK.k, HoldL.K, HoldL.body, Nat.reduceBEq, Nat.reduceAdd, List.getElem?_cons_zero, List.getElem?_cons_succ, Option.bind_some, List.map_cons, List.map_nil, Nat.zero_add, if_true, List.getD_cons_zero, List.getD_cons_succ, List.contains_cons, List.contains_nil, Nat.reduceBEq, Bool.or_true, Bool.true_or, Bool.or_false, Bool.false_or, Bool.not_true, Bool.not_false, true_and, and_true, rowA_whole, push_n, set_n, push_obj, set_obj, set_push, set_push_ne, set_set, Nat.add_assoc, Nat.left_eq_add, Nat.add_eq_left, Nat.add_left_cancel_iff, Nat.reduceEqDiff, stO_1s, stO_ws, boxA_s, one_bool, one_int, one_str, one_ptr, one_nilptr, one_slice, one_eslice, one_nilslice, one_func, one_iface, one_niliface, List.all_cons, List.all_nil, List.length_cons, List.length_nil, Nat.reduceLT, Nat.reduceEqDiff, Nat.reduceLeDiff, Bool.and_true, Nat.one_ne_zero, Nat.succ_ne_zero, reduceIte, if_false, List.getElem?_cons_zero, List.set_cons_zero, List.set_cons_succ]
    exact ⟨_, by simp [firstB, hok]; rfl, by simpa [firstB, hok] using Own.nil, ((hE _ _).trans hE1).set _ (by omega) _⟩
  · simp only [hok, hv1, b0, go_sem, Hold.p, HoldK.k, HoldL.K, HoldL.body, Nat.reduceBEq, Nat.reduceAdd, List.getElem?_cons_zero, List.getElem?_cons_succ, Option.bind_some, List.map_cons, List.map_nil, Nat.zero_add, if_true, List.getD_cons_zero, List.getD_cons_succ, List.contains_cons, List.contains_nil, Nat.reduceBEq, Bool.or_true, Bool.true_or, Bool.or_false, Bool.false_or, Bool.not_true, Bool.not_false, true_and, and_true, rowA_whole, push_n, set_n, push_obj, set_obj, set_push, set_push_ne, set_set, Nat.add_assoc, Nat.left_eq_add, Nat.add_eq_left, Nat.add_left_cancel_iff, Nat.reduceEqDiff, stO_1s, stO_ws, boxA_s, one_bool, one_int, one_str, one_ptr, one_nilptr, one_slice, one_eslice, one_nilslice, one_func, one_iface, one_niliface, List.all_cons, List.all_nil, List.length_cons, List.length_nil, Nat.reduceLT, Nat.reduceEqDiff, Nat.reduceLeDiff, Bool.and_true, Nat.one_ne_zero, Nat.succ_ne_zero, reduceIte, if_false, List.getElem?_cons_zero, List.set_cons_zero, List.set_cons_succ]
    have hm : (ps.map Piece.row).length ≤ 1048576 := by have := (okB_un hok).2.2.2.1; simp; omega
    refine callA_of (ownBoard_c _ v una nxt _ (hs.ext ((hE _ _).trans hE1)) hm) ?_
    rintro r h2 ⟨v2, rfl, ho2, hE2⟩
    have hl2 := hE2.le
    have hv2 := ho2.one
    simp only [hv2, go_sem, Hold.p, HoldK.k, HoldL.K, HoldL.body, Nat.reduceBEq, Nat.reduceAdd, List.getElem?_cons_zero, List.getElem?_cons_succ, Option.bind_some, List.map_cons, List.map_nil, Nat.zero_add, if_true, List.getD_cons_zero, List.getD_cons_succ, List.contains_cons, List.contains_nil, Nat.reduceBEq, Bool.or_true, Bool.true_or, Bool.or_false, Bool.false_or, Bool.not_true, Bool.not_false, true_and, and_true, rowA_whole, push_n, set_n, push_obj, set_obj, set_push, set_push_ne, set_set, Nat.add_assoc, Nat.left_eq_add, Nat.add_eq_left, Nat.add_left_cancel_iff, Nat.reduceEqDiff, stO_1s, stO_ws, boxA_s, one_bool, one_int, one_str, one_ptr, one_nilptr, one_slice, one_eslice, one_nilslice, one_func, one_iface, one_niliface, List.all_cons, List.all_nil, List.length_cons, List.length_nil, Nat.reduceLT, Nat.reduceEqDiff, Nat.reduceLeDiff, Bool.and_true, Nat.one_ne_zero, Nat.succ_ne_zero, reduceIte, if_false, List.getElem?_cons_zero, List.set_cons_zero, List.set_cons_succ]
    refine got_of (v := .agg [.int .i64 una, .int .i64 nxt, v2]) rfl ?_
    simp only [hv2, go_sem, Hold.p, HoldK.k, HoldL.K, HoldL.body, Nat.reduceBEq, Nat.reduceAdd, List.getElem?_cons_zero, List.getElem?_cons_succ, Option.bind_some, List.map_cons, List.map_nil, Nat.zero_add, if_true, List.getD_cons_zero, List.getD_cons_succ, List.contains_cons, List.contains_nil, Nat.reduceBEq, Bool.or_true, Bool.true_or, Bool.or_false, Bool.false_or, Bool.not_true, Bool.not_false, true_and, and_true, rowA_whole, push_n, set_n, push_obj, set_obj, set_push, set_push_ne, set_set, Nat.add_assoc, Nat.left_eq_add, Nat.add_eq_left, Nat.add_left_cancel_iff, Nat.reduceEqDiff, stO_1s, stO_ws, boxA_s, one_bool, one_int, one_str, one_ptr, one_nilptr, one_slice, one_eslice, one_nilslice, one_func, one_iface, one_niliface, List.all_cons, List.all_nil, List.length_cons, List.length_nil, Nat.reduceLT, Nat.reduceEqDiff, Nat.reduceLeDiff, Bool.and_true, Nat.one_ne_zero, Nat.succ_ne_zero, reduceIte, if_false, List.getElem?_cons_zero, List.set_cons_zero, List.set_cons_succ]
    have x2 : At (h2.push (.rows [[.int .i64 una, .int .i64 nxt, v2]] 116 3 false)) h2.n (.rows [[.int .i64 una, .int .i64 nxt, v2]] 116 3 false) := At.new _ _
    have hE3 : Ext h2 (h2.push (.rows [[.int .i64 una, .int .i64 nxt, v2]] 116 3 false)) := (Ext.refl _).push _
    refine callA_of (first_c _ h2.n 116 v2 una nxt ps x2 (.inr (Nat.le_refl _)) (ho2.ext hE3) (okB_each hok)) ?_
    rintro r h4 ⟨rfl, ho4, ht4⟩
    have b1' := (hE2.obj (h.n + 1) (by omega)).trans b1
    have y1 : At (h2.push (.rows [[.int .i64 una, .int .i64 nxt, v2]] 116 3 false)) (h.n + 1) _ := ⟨by simp only [push_n]; omega, (hE3.obj _ (by omega)).trans b1'⟩
    have z1 := (y1.turn (ho2.ext hE3) (.inl (by omega)) ht4).eq
    have z2 := (x2.turn (ho2.ext hE3) (.inr (Nat.le_refl _)) ht4).eq
    simp only [z1, z2, hv2, go_sem, Hold.p, HoldK.k, HoldL.K, HoldL.body, Nat.reduceBEq, Nat.reduceAdd, List.getElem?_cons_zero, List.getElem?_cons_succ, Option.bind_some, List.map_cons, List.map_nil, Nat.zero_add, if_true, List.getD_cons_zero, List.getD_cons_succ, List.contains_cons, List.contains_nil, Nat.reduceBEq, Bool.or_true, Bool.true_or, Bool.or_false, Bool.false_or, Bool.not_true, Bool.not_false, true_and, and_true, rowA_whole, push_n, set_n, push_obj, set_obj, set_push, set_push_ne, set_set, Nat.add_assoc, Nat.left_eq_add, Nat.add_eq_left, Nat.add_left_cancel_iff, Nat.reduceEqDiff, stO_1s, stO_ws, boxA_s, one_bool, one_int, one_str, one_ptr, one_nilptr, one_slice, one_eslice, one_nilslice, one_func, one_iface, one_niliface, List.all_cons, List.all_nil, List.length_cons, List.length_nil, Nat.reduceLT, Nat.reduceEqDiff, Nat.reduceLeDiff, Bool.and_true, Nat.one_ne_zero, Nat.succ_ne_zero, reduceIte, if_false, List.getElem?_cons_zero, List.set_cons_zero, List.set_cons_succ]
    have hl4 := ht4.le
    simp only [push_n] at hl4
    refine ⟨v2, by simp [firstB, hok], ?_, ?_⟩
    · simpa [firstB, hok] using (ho4.set (m := h.n + 1) (.inl (by first | omega | (simp only [set_n, push_n, put_n] at *; omega))) _).wide (lo' := h.n) (hi' := h4.n) (by first | omega | (simp only [set_n, push_n, put_n] at *; omega)) (by first | omega | (simp only [set_n, push_n, put_n] at *; omega)) (Nat.le_refl _)
    · exact (((((hE _ _).trans hE1).trans hE2).trans hE3).turn (ho2.ext hE3) (by omega) ht4).set _ (by omega) _

set_option maxRecDepth 20000 in
theorem specBoardFirst_c (h : IH) (v : IV) (una nxt : Int) (ps : List Piece) (hs : SlR h 6 v (ps.map Piece.row)) :
    ICalls Try.prog 29 [.agg [.int .i64 una, .int .i64 nxt, v]] h fun r h' => ∃ v', r = .tuple [.agg [.int .i64 (firstB una nxt ps).1, .int .i64 (firstB una nxt ps).2.1, v'], .int .i64 (firstB una nxt ps).2.2.2.1, .int .i64 (firstB una nxt ps).2.2.2.2] ∧
      Own h.n h'.n h' 113 6 v' ((firstB una nxt ps).2.2.1.map Piece.row) ∧ Ext h h' := by
  refine icalls (.of ok29) (Nat.le_of_ble_eq_true rfl) ?_
  unfold c29
  have hv1 := hs.one
  have hE : ∀ a b, Ext h ((h.push a).push b) := fun a b => (Ext.refl _).push _ |>.push _
  simp only [hv1, go_sem, Hold.p, HoldK.k, HoldL.K, HoldL.body, Nat.reduceBEq, Nat.reduceAdd, List.getElem?_cons_zero, List.getElem?_cons_succ, Option.bind_some, List.map_cons, List.map_nil, Nat.zero_add, if_true, List.getD_cons_zero, List.getD_cons_succ, List.contains_cons, List.contains_nil, Nat.reduceBEq, Bool.or_true, Bool.true_or, Bool.or_false, Bool.false_or, Bool.not_true, Bool.not_false, true_and, and_true, rowA_whole, push_n, set_n, push_obj, set_obj, set_push, set_push_ne, set_set, Nat.add_assoc, Nat.left_eq_add, Nat.add_eq_left, Nat.add_left_cancel_iff, Nat.reduceEqDiff, stO_1s, stO_ws, boxA_s, one_bool, one_int, one_str, one_ptr, one_nilptr, one_slice, one_eslice, one_nilslice, one_func, one_iface, one_niliface, List.all_cons, List.all_nil, List.length_cons, List.length_nil, Nat.reduceLT, Nat.reduceEqDiff, Nat.reduceLeDiff, Bool.and_true, Nat.one_ne_zero, Nat.succ_ne_zero, reduceIte, if_false, List.getElem?_cons_zero, List.set_cons_zero, List.set_cons_succ]
  refine callA_of (l15OK_c _ una nxt v ps (hs.ext (hE _ _))) ?_
  rintro r h1 ⟨rfl, hE1⟩
  have b0 := hE1.obj h.n (by simp only [push_n]; omega)
  have b1 := hE1.obj (h.n + 1) (by simp only [push_n]; omega)
  simp [push_obj, push_n] at b0 b1
  have hl1 := hE1.le
  simp only [push_n] at hl1
  cases hok : okB una nxt ps
  · simp only [hok, hv1, go_sem, Hold.p, HoldK.k, HoldL.K, HoldL.body, Nat.reduceBEq, Nat.reduceAdd, List.getElem?_cons_zero, List.getElem?_cons_succ, Option.bind_some, List.map_cons, List.map_nil, Nat.zero_add, if_true, List.getD_cons_zero, List.getD_cons_succ, List.contains_cons, List.contains_nil, Nat.reduceBEq, Bool.or_true, Bool.true_or, Bool.or_false, Bool.false_or, Bool.not_true, Bool.not_false, true_and, and_true, rowA_whole, push_n, set_n, push_obj, set_obj, set_push, set_push_ne, set_set, Nat.add_assoc, Nat.left_eq_add, Nat.add_eq_left, Nat.add_left_cancel_iff, Nat.reduceEqDiff, stO_1s, stO_ws, boxA_s, one_bool, one_int, one_str, one_ptr, one_nilptr, one_slice, one_eslice, one_nilslice, one_func, one_iface, one_niliface, List.all_cons, List.all_nil, List.length_cons, List.length_nil, Nat.reduceLT, Nat.reduceEqDiff, Nat.reduceLeDiff, Bool.and_true, Nat.one_ne_zero, Nat.succ_ne_zero, reduceIte, if_false, List.getElem?_cons_zero, List.set_cons_zero, List.set_cons_succ]
    refine got_of (v := .agg [.int .i64 0, .int .i64 0, .nilslice]) rfl ?_
    simp only [b0, b1, go_sem, Hold.p, HoldK.k, HoldL.K, HoldL.body, Nat.reduceBEq, Nat.reduceAdd, List.getElem?_cons_zero, List.getElem?_cons_succ, Option.bind_some, List.map_cons, List.map_nil, Nat.zero_add, if_true, List.getD_cons_zero, List.getD_cons_succ, List.contains_cons, List.contains_nil, Nat.reduceBEq, Bool.or_true, Bool.true_or, Bool.or_false, Bool.false_or, Bool.not_true, Bool.not_false, true_and, and_true, rowA_whole, push_n, set_n, push_obj, set_obj, set_push, set_push_ne, set_set, Nat.add_assoc, Nat.left_eq_add, Nat.add_eq_left, Nat.add_left_cancel_iff, Nat.reduceEqDiff, stO_1s, stO_ws, boxA_s, one_bool, one_int, one_str, one_ptr, one_nilptr, one_slice, one_eslice, one_nilslice, one_func, one_iface, one_niliface, List.all_cons, List.all_nil, List.length_cons, List.length_nil, Nat.reduceLT, Nat.reduceEqDiff, Nat.reduceLeDiff, Bool.and_true, Nat.one_ne_zero, Nat.succ_ne_zero, reduceIte, if_false, List.getElem?_cons_zero, List.set_cons_zero, List.set_cons_succ]
    exact ⟨_, by simp [firstB, hok]; rfl, by simpa [firstB, hok] using Own.nil, ((hE _ _).trans hE1).set _ (by omega) _⟩
  · simp only [hok, hv1, b0, go_sem, Hold.p, HoldK.k, HoldL.K, HoldL.body, Nat.reduceBEq, Nat.reduceAdd, List.getElem?_cons_zero, List.getElem?_cons_succ, Option.bind_some, List.map_cons, List.map_nil, Nat.zero_add, if_true, List.getD_cons_zero, List.getD_cons_succ, List.contains_cons, List.contains_nil, Nat.reduceBEq, Bool.or_true, Bool.true_or, Bool.or_false, Bool.false_or, Bool.not_true, Bool.not_false, true_and, and_true, rowA_whole, push_n, set_n, push_obj, set_obj, set_push, set_push_ne, set_set, Nat.add_assoc, Nat.left_eq_add, Nat.add_eq_left, Nat.add_left_cancel_iff, Nat.reduceEqDiff, stO_1s, stO_ws, boxA_s, one_bool, one_int, one_str, one_ptr, one_nilptr, one_slice, one_eslice, one_nilslice, one_func, one_iface, one_niliface, List.all_cons, List.all_nil, List.length_cons, List.length_nil, Nat.reduceLT, Nat.reduceEqDiff, Nat.reduceLeDiff, Bool.and_true, Nat.one_ne_zero, Nat.succ_ne_zero, reduceIte, if_false, List.getElem?_cons_zero, List.set_cons_zero, List.set_cons_succ]
    have hm : (ps.map Piece.row).length ≤ 1048576 := by have := (okB_un hok).2.2.2.1; simp; omega
    refine callA_of (l15Copy_c _ v una nxt _ (hs.ext ((hE _ _).trans hE1)) hm) ?_
    rintro r h2 ⟨v2, rfl, ho2, hE2⟩
    have hl2 := hE2.le
    have hv2 := ho2.one
    have hlen2 := ho2.lenF
    have b02 := (hE2.obj h.n (by omega)).trans b0
    have b12 := (hE2.obj (h.n + 1) (by omega)).trans b1
    have hne : (h.n + 1 = h.n) = False := by simp
    have hfst : (firstB una nxt ps) = (una, nxt, (firstP ps).1, (firstP ps).2, 0) := by simp [firstB, hok]
    rw [hfst]
    cases ps with
    | nil =>
      have hlen2 : lenF v2 = some (.int .i64 0) := hlen2
      simp only [hv2, b02, hlen2, decide_true, b12, go_sem, Hold.p, HoldK.k, HoldL.K, HoldL.body, Nat.reduceBEq, Nat.reduceAdd, List.getElem?_cons_zero, List.getElem?_cons_succ, Option.bind_some, List.map_cons, List.map_nil, Nat.zero_add, if_true, List.getD_cons_zero, List.getD_cons_succ, List.contains_cons, List.contains_nil, Nat.reduceBEq, Bool.or_true, Bool.true_or, Bool.or_false, Bool.false_or, Bool.not_true, Bool.not_false, true_and, and_true, rowA_whole, push_n, set_n, push_obj, set_obj, set_push, set_push_ne, set_set, Nat.add_assoc, Nat.left_eq_add, Nat.add_eq_left, Nat.add_left_cancel_iff, Nat.reduceEqDiff, stO_1s, stO_ws, boxA_s, one_bool, one_int, one_str, one_ptr, one_nilptr, one_slice, one_eslice, one_nilslice, one_func, one_iface, one_niliface, List.all_cons, List.all_nil, List.length_cons, List.length_nil, Nat.reduceLT, Nat.reduceEqDiff, Nat.reduceLeDiff, Bool.and_true, Nat.one_ne_zero, Nat.succ_ne_zero, reduceIte, if_false, List.getElem?_cons_zero, List.set_cons_zero, List.set_cons_succ]
      exact ⟨v2, rfl, ((ho2.set (m := h.n) (.inl (by first | omega | (simp only [set_n, push_n, put_n] at *; omega))) _).set (m := h.n + 1) (.inl (by first | omega | (simp only [set_n, push_n, put_n] at *; omega))) _).wide (lo' := h.n) (hi' := h2.n) (by first | omega | (simp only [set_n, push_n, put_n] at *; omega)) (by first | omega | (simp only [set_n, push_n, put_n] at *; omega)) (Nat.le_refl _), ((((hE _ _).trans hE1).trans hE2).set _ (by first | omega | (simp only [set_n, push_n, put_n] at *; omega)) _).set _ (by first | omega | (simp only [set_n, push_n, put_n] at *; omega)) _⟩
    | cons p r =>
      obtain ⟨rs, hrs⟩ : ∃ rs, rs = (p :: r).map Piece.row := ⟨_, rfl⟩
      rw [← hrs] at ho2 hlen2
      have hp := okB_each hok p (by simp)
      have hos := ho2
      rcases ho2 with ⟨hx, _⟩ | ⟨l, h0, rfl, g1, g2, g3, g4⟩
      · rw [hrs] at hx; simp at hx
      · have hN : rs.length ≠ 0 := by rw [hrs]; simp
        have hn : decide ((rs.length : Int) = 0) = false := by simpa using hN
        have hln : (l = h.n) = False := by simp; omega
        have hln1 : (l = h.n + 1) = False := by simp; omega
        have hr0 : rs[0]? = some p.row := by rw [hrs]; rfl
        unfold Piece.row at hr0
        simp only [hv2, b02, b12, hn, hln, hln1, iadrF_sl, g4, iadrO_0 hN, hr0, go_sem, Hold.p, HoldK.k, HoldL.K, HoldL.body, Nat.reduceBEq, Nat.reduceAdd, List.getElem?_cons_zero, List.getElem?_cons_succ, Option.bind_some, List.map_cons, List.map_nil, Nat.zero_add, if_true, List.getD_cons_zero, List.getD_cons_succ, List.contains_cons, List.contains_nil, Nat.reduceBEq, Bool.or_true, Bool.true_or, Bool.or_false, Bool.false_or, Bool.not_true, Bool.not_false, true_and, and_true, rowA_whole, push_n, set_n, push_obj, set_obj, set_push, set_push_ne, set_set, Nat.add_assoc, Nat.left_eq_add, Nat.add_eq_left, Nat.add_left_cancel_iff, Nat.reduceEqDiff, stO_1s, stO_ws, boxA_s, one_bool, one_int, one_str, one_ptr, one_nilptr, one_slice, one_eslice, one_nilslice, one_func, one_iface, one_niliface, List.all_cons, List.all_nil, List.length_cons, List.length_nil, Nat.reduceLT, Nat.reduceEqDiff, Nat.reduceLeDiff, Bool.and_true, Nat.one_ne_zero, Nat.succ_ne_zero, reduceIte, if_false, List.getElem?_cons_zero, List.set_cons_zero, List.set_cons_succ]
        have hw1 : wr .i64 (p.to - p.fr) = p.to - p.fr := wr64 _ (by omega)
        have hE3 := ((hE (IObj.rows [[IV.int IntKind.i64 una, IV.int IntKind.i64 nxt, v]] 40 3 false) (IObj.rows [[IV.int IntKind.i64 0, IV.int IntKind.i64 0, IV.nilslice]] 40 3 false)).trans hE1).trans hE2
        have hnl : (h.n = l) = False := by simp; omega
        have hnl1 : (h.n + 1 = l) = False := by simp; omega
        have hnd : ∀ a b, ∃ v', IV.tuple [IV.agg [IV.int .i64 una, IV.int .i64 nxt, IV.slice l 0 rs.length], IV.int .i64 0, IV.int .i64 0] = IV.tuple [IV.agg [IV.int .i64 una, IV.int .i64 nxt, v'], IV.int .i64 0, IV.int .i64 0] ∧
            Own h.n h2.n ((h2.set h.n a).set (h.n + 1) b) 113 6 v' ((p :: r).map Piece.row) ∧ Ext h ((h2.set h.n a).set (h.n + 1) b) := fun a b =>
          ⟨_, rfl, by rw [← hrs]; exact ((hos.set (m := h.n) (.inl (by first | omega | (simp only [set_n, push_n, put_n] at *; omega))) _).set (m := h.n + 1) (.inl (by first | omega | (simp only [set_n, push_n, put_n] at *; omega))) _).wide (lo' := h.n) (hi' := h2.n) (by first | omega | (simp only [set_n, push_n, put_n] at *; omega)) (by first | omega | (simp only [set_n, push_n, put_n] at *; omega)) (Nat.le_refl _), (hE3.set _ (by first | omega | (simp only [set_n, push_n, put_n] at *; omega)) _).set _ (by first | omega | (simp only [set_n, push_n, put_n] at *; omega)) _⟩
        cases c1 : p.sacked
        · cases c2 : p.lost
          · simp only [c1, c2, hv2, b02, b12, hn, hln, hln1, iadrF_sl, g4, iadrO_0 hN, hr0, go_sem, Hold.p, HoldK.k, HoldL.K, HoldL.body, Nat.reduceBEq, Nat.reduceAdd, List.getElem?_cons_zero, List.getElem?_cons_succ, Option.bind_some, List.map_cons, List.map_nil, Nat.zero_add, if_true, List.getD_cons_zero, List.getD_cons_succ, List.contains_cons, List.contains_nil, Nat.reduceBEq, Bool.or_true, Bool.true_or, Bool.or_false, Bool.false_or, Bool.not_true, Bool.not_false, true_and, and_true, rowA_whole, push_n, set_n, push_obj, set_obj, set_push, set_push_ne, set_set, Nat.add_assoc, Nat.left_eq_add, Nat.add_eq_left, Nat.add_left_cancel_iff, Nat.reduceEqDiff, stO_1s, stO_ws, boxA_s, one_bool, one_int, one_str, one_ptr, one_nilptr, one_slice, one_eslice, one_nilslice, one_func, one_iface, one_niliface, List.all_cons, List.all_nil, List.length_cons, List.length_nil, Nat.reduceLT, Nat.reduceEqDiff, Nat.reduceLeDiff, Bool.and_true, Nat.one_ne_zero, Nat.succ_ne_zero, reduceIte, if_false, List.getElem?_cons_zero, List.set_cons_zero, List.set_cons_succ]
            refine stO_of hr0 rfl (by simp) (by simp [IV.one]) ?_
            have hr1 : ∀ R : List IV, (rs.set 0 R)[0]? = some R := fun R => List.getElem?_set_self (by omega)
            simp only [c1, c2, hv2, b02, b12, hn, hln, hln1, hnl, hnl1, iadrF_sl, g4, iadrO_0 hN, hr1, wrt, hw1, go_sem, Hold.p, HoldK.k, HoldL.K, HoldL.body, Nat.reduceBEq, Nat.reduceAdd, List.getElem?_cons_zero, List.getElem?_cons_succ, Option.bind_some, List.map_cons, List.map_nil, Nat.zero_add, if_true, List.getD_cons_zero, List.getD_cons_succ, List.contains_cons, List.contains_nil, Nat.reduceBEq, Bool.or_true, Bool.true_or, Bool.or_false, Bool.false_or, Bool.not_true, Bool.not_false, true_and, and_true, rowA_whole, push_n, set_n, push_obj, set_obj, set_push, set_push_ne, set_set, Nat.add_assoc, Nat.left_eq_add, Nat.add_eq_left, Nat.add_left_cancel_iff, Nat.reduceEqDiff, stO_1s, stO_ws, boxA_s, one_bool, one_int, one_str, one_ptr, one_nilptr, one_slice, one_eslice, one_nilslice, one_func, one_iface, one_niliface, List.all_cons, List.all_nil, List.length_cons, List.length_nil, Nat.reduceLT, Nat.reduceEqDiff, Nat.reduceLeDiff, Bool.and_true, Nat.one_ne_zero, Nat.succ_ne_zero, reduceIte, if_false, List.getElem?_cons_zero, List.set_cons_zero, List.set_cons_succ]
            refine ⟨.slice l 0 rs.length, by simp [firstP, c1, c2], ?_, ((hE3.set h.n (by first | omega | (simp only [set_n, push_n, put_n] at *; omega)) _).set l (by first | omega | (simp only [set_n, push_n, put_n] at *; omega)) _).set (h.n + 1) (by first | omega | (simp only [set_n, push_n, put_n] at *; omega)) _⟩
            have e1 : rs.set 0 [IV.int .i64 p.fr, IV.int .i64 p.to, IV.int .i64 p.at_, IV.int .i64 p.times, IV.bool false, IV.bool true] = (firstP (p :: r)).1.map Piece.row := by
              rw [hrs]; simp [firstP, c1, c2, Piece.row]
            rw [e1]
            refine .inr ⟨l, by simp [firstP, c1, c2], by rw [hrs]; simp [firstP, c1, c2], (by first | omega | (simp only [set_n, push_n, put_n] at *; omega)), (by first | omega | (simp only [set_n, push_n, put_n] at *; omega)), (by first | omega | (simp only [set_n, push_n, put_n] at *; omega)), ?_⟩
            simp [set_obj, hln, hln1]
          · simp only [c1, c2, hv2, b02, b12, hn, hln, hln1, iadrF_sl, g4, iadrO_0 hN, hr0, go_sem, Hold.p, HoldK.k, HoldL.K, HoldL.body, Nat.reduceBEq, Nat.reduceAdd, List.getElem?_cons_zero, List.getElem?_cons_succ, Option.bind_some, List.map_cons, List.map_nil, Nat.zero_add, if_true, List.getD_cons_zero, List.getD_cons_succ, List.contains_cons, List.contains_nil, Nat.reduceBEq, Bool.or_true, Bool.true_or, Bool.or_false, Bool.false_or, Bool.not_true, Bool.not_false, true_and, and_true, rowA_whole, push_n, set_n, push_obj, set_obj, set_push, set_push_ne, set_set, Nat.add_assoc, Nat.left_eq_add, Nat.add_eq_left, Nat.add_left_cancel_iff, Nat.reduceEqDiff, stO_1s, stO_ws, boxA_s, one_bool, one_int, one_str, one_ptr, one_nilptr, one_slice, one_eslice, one_nilslice, one_func, one_iface, one_niliface, List.all_cons, List.all_nil, List.length_cons, List.length_nil, Nat.reduceLT, Nat.reduceEqDiff, Nat.reduceLeDiff, Bool.and_true, Nat.one_ne_zero, Nat.succ_ne_zero, reduceIte, if_false, List.getElem?_cons_zero, List.set_cons_zero, List.set_cons_succ]
            have hq : firstP (p :: r) = (p :: r, 0) := by simp [firstP, c2]
            rw [hq]
            exact hnd _ _
        · simp only [c1, hv2, b02, b12, hn, hln, hln1, iadrF_sl, g4, iadrO_0 hN, hr0, go_sem, Hold.p, HoldK.k, HoldL.K, HoldL.body, Nat.reduceBEq, Nat.reduceAdd, List.getElem?_cons_zero, List.getElem?_cons_succ, Option.bind_some, List.map_cons, List.map_nil, Nat.zero_add, if_true, List.getD_cons_zero, List.getD_cons_succ, List.contains_cons, List.contains_nil, Nat.reduceBEq, Bool.or_true, Bool.true_or, Bool.or_false, Bool.false_or, Bool.not_true, Bool.not_false, true_and, and_true, rowA_whole, push_n, set_n, push_obj, set_obj, set_push, set_push_ne, set_set, Nat.add_assoc, Nat.left_eq_add, Nat.add_eq_left, Nat.add_left_cancel_iff, Nat.reduceEqDiff, stO_1s, stO_ws, boxA_s, one_bool, one_int, one_str, one_ptr, one_nilptr, one_slice, one_eslice, one_nilslice, one_func, one_iface, one_niliface, List.all_cons, List.all_nil, List.length_cons, List.length_nil, Nat.reduceLT, Nat.reduceEqDiff, Nat.reduceLeDiff, Bool.and_true, Nat.one_ne_zero, Nat.succ_ne_zero, reduceIte, if_false, List.getElem?_cons_zero, List.set_cons_zero, List.set_cons_succ]
          have hq : firstP (p :: r) = (p :: r, 0) := by simp [firstP, c1]
          rw [hq]
          exact hnd _ _
end Go.Proofs.Ytecljenjlncfhaa

namespace Go.Proofs.Ytecljenjlncfhaa
open Go Go.IW

theorem marksP_len (n k : Nat) : (marksP n k).length = n := by simp [marksP]
theorem rows6 {ps : List Piece} : ∀ r ∈ ps.map Piece.row, r.length = 6 := by
  intro r hr
  obtain ⟨p, _, rfl⟩ := List.mem_map.1 hr
  rfl
theorem firstB_len {una nxt : Int} {ps : List Piece} : (firstB una nxt ps).2.2.1.length ≤ ps.length := by
  unfold firstB
  split
  · cases ps with
    | nil => simp [firstP]
    | cons p r => simp only [firstP]; split <;> simp
  · simp

set_option maxRecDepth 20000 in
theorem lawBoardFirst : LawTrue Try.prog 7 [(shBoard, true)] := by
  rintro h ivs ha ⟨iv, r, rfl, ⟨cs, rfl, hf⟩, rfl⟩
  obtain ⟨una, nxt, v, ps, rfl, hs, hm⟩ := fits_board hf
  refine icalls (.of ok7) (Nat.le_of_ble_eq_true rfl) ?_
  unfold c7
  have aA := Arg.of hs
  have hv1 := hs.one
  simp only [hv1, go_sem, Hold.p, HoldK.k, HoldL.K, HoldL.body, Nat.reduceBEq, Nat.reduceAdd, List.getElem?_cons_zero, List.getElem?_cons_succ, Option.bind_some, List.map_cons, List.map_nil, Nat.zero_add, if_true, List.getD_cons_zero, List.getD_cons_succ, List.contains_cons, List.contains_nil, Nat.reduceBEq, Bool.or_true, Bool.true_or, Bool.or_false, Bool.false_or, Bool.not_true, Bool.not_false, true_and, and_true, rowA_whole, push_n, set_n, push_obj, set_obj, set_push, set_push_ne, set_set, Nat.add_assoc, Nat.left_eq_add, Nat.add_eq_left, Nat.add_left_cancel_iff, Nat.reduceEqDiff, stO_1s, stO_ws, boxA_s, one_bool, one_int, one_str, one_ptr, one_nilptr, one_slice, one_eslice, one_nilslice, one_func, one_iface, one_niliface, List.all_cons, List.all_nil, List.length_cons, List.length_nil, Nat.reduceLT, Nat.reduceEqDiff, Nat.reduceLeDiff, Bool.and_true, Nat.one_ne_zero, Nat.succ_ne_zero, reduceIte, if_false, List.getElem?_cons_zero, List.set_cons_zero, List.set_cons_succ]
  generalize hq_g0 : IH.push h (IObj.rows [[IV.int .i64 una, IV.int .i64 nxt, v]] 35 3 false) = g0
  have e_g0 : Ext h g0 := by rw [← hq_g0]; exact (Ext.refl _).push _
  have l_g0 : g0.n = h.n + 1 := by rw [← hq_g0]; rfl
  have bA : At g0 h.n (IObj.rows [[IV.int .i64 una, IV.int .i64 nxt, v]] 35 3 false) := by rw [← hq_g0]; exact At.new _ _
  clear hq_g0
  have aA := aA.ext e_g0
  refine callA_of (szBoard_c _ v una nxt _ 1048576 aA.sl (by omega) (by simpa using hm)) ?_
  rintro r h1 ⟨rfl, hE1⟩
  rw [List.length_map]
  have bA := bA.ext hE1
  have aA := aA.ext hE1
  have le_hE1 := hE1.le
  by_cases hbig : (1048576 : Int) < ps.length
  · rw [if_pos hbig]
    have hn : decide ((-1 : Int) < 0) = true := rfl
    simp only [hn, go_sem, Hold.p, HoldK.k, HoldL.K, HoldL.body, Nat.reduceBEq, Nat.reduceAdd, List.getElem?_cons_zero, List.getElem?_cons_succ, Option.bind_some, List.map_cons, List.map_nil, Nat.zero_add, if_true, List.getD_cons_zero, List.getD_cons_succ, List.contains_cons, List.contains_nil, Nat.reduceBEq, Bool.or_true, Bool.true_or, Bool.or_false, Bool.false_or, Bool.not_true, Bool.not_false, true_and, and_true, rowA_whole, push_n, set_n, push_obj, set_obj, set_push, set_push_ne, set_set, Nat.add_assoc, Nat.left_eq_add, Nat.add_eq_left, Nat.add_left_cancel_iff, Nat.reduceEqDiff, stO_1s, stO_ws, boxA_s, one_bool, one_int, one_str, one_ptr, one_nilptr, one_slice, one_eslice, one_nilslice, one_func, one_iface, one_niliface, List.all_cons, List.all_nil, List.length_cons, List.length_nil, Nat.reduceLT, Nat.reduceEqDiff, Nat.reduceLeDiff, Bool.and_true, Nat.one_ne_zero, Nat.succ_ne_zero, reduceIte, if_false, List.getElem?_cons_zero, List.set_cons_zero, List.set_cons_succ]
  · rw [if_neg hbig]
    have hn : decide ((1048576 : Int) - (ps.length : Int) < 0) = false := by simp; omega
    have hlen : ps.length ≤ 1048576 := by omega
    simp only [hn, bA.eq, go_sem, Hold.p, HoldK.k, HoldL.K, HoldL.body, Nat.reduceBEq, Nat.reduceAdd, List.getElem?_cons_zero, List.getElem?_cons_succ, Option.bind_some, List.map_cons, List.map_nil, Nat.zero_add, if_true, List.getD_cons_zero, List.getD_cons_succ, List.contains_cons, List.contains_nil, Nat.reduceBEq, Bool.or_true, Bool.true_or, Bool.or_false, Bool.false_or, Bool.not_true, Bool.not_false, true_and, and_true, rowA_whole, push_n, set_n, push_obj, set_obj, set_push, set_push_ne, set_set, Nat.add_assoc, Nat.left_eq_add, Nat.add_eq_left, Nat.add_left_cancel_iff, Nat.reduceEqDiff, stO_1s, stO_ws, boxA_s, one_bool, one_int, one_str, one_ptr, one_nilptr, one_slice, one_eslice, one_nilslice, one_func, one_iface, one_niliface, List.all_cons, List.all_nil, List.length_cons, List.length_nil, Nat.reduceLT, Nat.reduceEqDiff, Nat.reduceLeDiff, Bool.and_true, Nat.one_ne_zero, Nat.succ_ne_zero, reduceIte, if_false, List.getElem?_cons_zero, List.set_cons_zero, List.set_cons_succ]
    refine callA_of (toBoard_c _ v una nxt ps aA.sl hlen) ?_
    rintro r h2 ⟨v2, rfl, o2, hE2⟩
    have bA := bA.ext hE2
    have aA := aA.ext hE2
    have le_hE2 := hE2.le
    simp only [hn, go_sem, Hold.p, HoldK.k, HoldL.K, HoldL.body, Nat.reduceBEq, Nat.reduceAdd, List.getElem?_cons_zero, List.getElem?_cons_succ, Option.bind_some, List.map_cons, List.map_nil, Nat.zero_add, if_true, List.getD_cons_zero, List.getD_cons_succ, List.contains_cons, List.contains_nil, Nat.reduceBEq, Bool.or_true, Bool.true_or, Bool.or_false, Bool.false_or, Bool.not_true, Bool.not_false, true_and, and_true, rowA_whole, push_n, set_n, push_obj, set_obj, set_push, set_push_ne, set_set, Nat.add_assoc, Nat.left_eq_add, Nat.add_eq_left, Nat.add_left_cancel_iff, Nat.reduceEqDiff, stO_1s, stO_ws, boxA_s, one_bool, one_int, one_str, one_ptr, one_nilptr, one_slice, one_eslice, one_nilslice, one_func, one_iface, one_niliface, List.all_cons, List.all_nil, List.length_cons, List.length_nil, Nat.reduceLT, Nat.reduceEqDiff, Nat.reduceLeDiff, Bool.and_true, Nat.one_ne_zero, Nat.succ_ne_zero, reduceIte, if_false, List.getElem?_cons_zero, List.set_cons_zero, List.set_cons_succ]
    refine callA_of (specBoardFirst_c _ v2 una nxt ps o2.sl) ?_
    rintro r h3 ⟨vW, rfl, oW, hE3⟩
    have bA := bA.ext hE3
    have aA := aA.ext hE3
    have le_hE3 := hE3.le
    have hfl : (firstB una nxt ps).2.2.1.length ≤ 1048576 := Nat.le_trans firstB_len hlen
    generalize hfb : firstB una nxt ps = fb at oW hfl
    obtain ⟨fu, fn, fp, fk, fc⟩ := fb
    simp only at oW hfl
    have wv := oW.one
    simp only [hn, wv, bA.eq, Nat.ne_of_lt bA.lt, go_sem, Hold.p, HoldK.k, HoldL.K, HoldL.body, Nat.reduceBEq, Nat.reduceAdd, List.getElem?_cons_zero, List.getElem?_cons_succ, Option.bind_some, List.map_cons, List.map_nil, Nat.zero_add, if_true, List.getD_cons_zero, List.getD_cons_succ, List.contains_cons, List.contains_nil, Nat.reduceBEq, Bool.or_true, Bool.true_or, Bool.or_false, Bool.false_or, Bool.not_true, Bool.not_false, true_and, and_true, rowA_whole, push_n, set_n, push_obj, set_obj, set_push, set_push_ne, set_set, Nat.add_assoc, Nat.left_eq_add, Nat.add_eq_left, Nat.add_left_cancel_iff, Nat.reduceEqDiff, stO_1s, stO_ws, boxA_s, one_bool, one_int, one_str, one_ptr, one_nilptr, one_slice, one_eslice, one_nilslice, one_func, one_iface, one_niliface, List.all_cons, List.all_nil, List.length_cons, List.length_nil, Nat.reduceLT, Nat.reduceEqDiff, Nat.reduceLeDiff, Bool.and_true, Nat.one_ne_zero, Nat.succ_ne_zero, reduceIte, if_false, List.getElem?_cons_zero, List.set_cons_zero, List.set_cons_succ]
    generalize hq_g3 : IH.push h3 (IObj.rows [[IV.int .i64 fu, IV.int .i64 fn, vW]] 40 3 false) = g3
    have e_g3 : Ext h3 g3 := by rw [← hq_g3]; exact (Ext.refl _).push _
    have l_g3 : g3.n = h3.n + 1 := by rw [← hq_g3]; rfl
    have bW : At g3 h3.n (IObj.rows [[IV.int .i64 fu, IV.int .i64 fn, vW]] 40 3 false) := by rw [← hq_g3]; exact At.new _ _
    clear hq_g3
    have bA := bA.ext e_g3
    have aA := aA.ext e_g3
    have oW := oW.ext e_g3
    refine callA_of (toBoard_c _ v una nxt ps aA.sl hlen) ?_
    rintro r h4 ⟨vX, rfl, oX, hE4⟩
    have bA := bA.ext hE4
    have aA := aA.ext hE4
    have bW := bW.ext hE4
    have oW := oW.ext hE4
    have le_hE4 := hE4.le
    have xv := oX.one
    simp only [xv, go_sem, Hold.p, HoldK.k, HoldL.K, HoldL.body, Nat.reduceBEq, Nat.reduceAdd, List.getElem?_cons_zero, List.getElem?_cons_succ, Option.bind_some, List.map_cons, List.map_nil, Nat.zero_add, if_true, List.getD_cons_zero, List.getD_cons_succ, List.contains_cons, List.contains_nil, Nat.reduceBEq, Bool.or_true, Bool.true_or, Bool.or_false, Bool.false_or, Bool.not_true, Bool.not_false, true_and, and_true, rowA_whole, push_n, set_n, push_obj, set_obj, set_push, set_push_ne, set_set, Nat.add_assoc, Nat.left_eq_add, Nat.add_eq_left, Nat.add_left_cancel_iff, Nat.reduceEqDiff, stO_1s, stO_ws, boxA_s, one_bool, one_int, one_str, one_ptr, one_nilptr, one_slice, one_eslice, one_nilslice, one_func, one_iface, one_niliface, List.all_cons, List.all_nil, List.length_cons, List.length_nil, Nat.reduceLT, Nat.reduceEqDiff, Nat.reduceLeDiff, Bool.and_true, Nat.one_ne_zero, Nat.succ_ne_zero, reduceIte, if_false, List.getElem?_cons_zero, List.set_cons_zero, List.set_cons_succ]
    generalize hq_g4 : IH.push h4 (IObj.rows [[IV.int .i64 una, IV.int .i64 nxt, vX]] 40 3 false) = g4
    have e_g4 : Ext h4 g4 := by rw [← hq_g4]; exact (Ext.refl _).push _
    have l_g4 : g4.n = h4.n + 1 := by rw [← hq_g4]; rfl
    have bX : At g4 h4.n (IObj.rows [[IV.int .i64 una, IV.int .i64 nxt, vX]] 40 3 false) := by rw [← hq_g4]; exact At.new _ _
    clear hq_g4
    have bA := bA.ext e_g4
    have aA := aA.ext e_g4
    have bW := bW.ext e_g4
    have oW := oW.ext e_g4
    have oX := oX.ext e_g4
    refine callA_of (implBoardFirst_c _ vX una nxt ps oX.sl) ?_
    rintro r h5 ⟨vG, rfl, oG, hE5⟩
    rw [hfb] at oG
    simp only [hfb] at oG ⊢
    have bA := bA.ext hE5
    have aA := aA.ext hE5
    have bW := bW.ext hE5
    have oW := oW.ext hE5
    have bX := bX.ext hE5
    have oX := oX.ext hE5
    have le_hE5 := hE5.le
    have gv := oG.one
    simp only [gv, bA.eq, bW.eq, bX.eq, Nat.ne_of_lt bA.lt, Nat.ne_of_lt bW.lt, Nat.ne_of_lt bX.lt, go_sem, Hold.p, HoldK.k, HoldL.K, HoldL.body, Nat.reduceBEq, Nat.reduceAdd, List.getElem?_cons_zero, List.getElem?_cons_succ, Option.bind_some, List.map_cons, List.map_nil, Nat.zero_add, if_true, List.getD_cons_zero, List.getD_cons_succ, List.contains_cons, List.contains_nil, Nat.reduceBEq, Bool.or_true, Bool.true_or, Bool.or_false, Bool.false_or, Bool.not_true, Bool.not_false, true_and, and_true, rowA_whole, push_n, set_n, push_obj, set_obj, set_push, set_push_ne, set_set, Nat.add_assoc, Nat.left_eq_add, Nat.add_eq_left, Nat.add_left_cancel_iff, Nat.reduceEqDiff, stO_1s, stO_ws, boxA_s, one_bool, one_int, one_str, one_ptr, one_nilptr, one_slice, one_eslice, one_nilslice, one_func, one_iface, one_niliface, List.all_cons, List.all_nil, List.length_cons, List.length_nil, Nat.reduceLT, Nat.reduceEqDiff, Nat.reduceLeDiff, Bool.and_true, Nat.one_ne_zero, Nat.succ_ne_zero, reduceIte, if_false, List.getElem?_cons_zero, List.set_cons_zero, List.set_cons_succ]
    generalize hq_g5 : IH.push h5 (IObj.rows [[IV.int .i64 fu, IV.int .i64 fn, vG]] 40 3 false) = g5
    have e_g5 : Ext h5 g5 := by rw [← hq_g5]; exact (Ext.refl _).push _
    have l_g5 : g5.n = h5.n + 1 := by rw [← hq_g5]; rfl
    have bG : At g5 h5.n (IObj.rows [[IV.int .i64 fu, IV.int .i64 fn, vG]] 40 3 false) := by rw [← hq_g5]; exact At.new _ _
    clear hq_g5
    have bA := bA.ext e_g5
    have aA := aA.ext e_g5
    have bW := bW.ext e_g5
    have oW := oW.ext e_g5
    have bX := bX.ext e_g5
    have oX := oX.ext e_g5
    have oG := oG.ext e_g5
    refine callA_of (eqBoard_c _ vG vW fu fn fp oG.sl oW.sl hfl) ?_
    rintro r h6 ⟨rfl, hE6⟩
    have bA := bA.ext hE6
    have aA := aA.ext hE6
    have bW := bW.ext hE6
    have oW := oW.ext hE6
    have bX := bX.ext hE6
    have oX := oX.ext hE6
    have bG := bG.ext hE6
    have oG := oG.ext hE6
    have le_hE6 := hE6.le
    simp only [bA.eq, bX.eq, decide_true, go_sem, Hold.p, HoldK.k, HoldL.K, HoldL.body, Nat.reduceBEq, Nat.reduceAdd, List.getElem?_cons_zero, List.getElem?_cons_succ, Option.bind_some, List.map_cons, List.map_nil, Nat.zero_add, if_true, List.getD_cons_zero, List.getD_cons_succ, List.contains_cons, List.contains_nil, Nat.reduceBEq, Bool.or_true, Bool.true_or, Bool.or_false, Bool.false_or, Bool.not_true, Bool.not_false, true_and, and_true, rowA_whole, push_n, set_n, push_obj, set_obj, set_push, set_push_ne, set_set, Nat.add_assoc, Nat.left_eq_add, Nat.add_eq_left, Nat.add_left_cancel_iff, Nat.reduceEqDiff, stO_1s, stO_ws, boxA_s, one_bool, one_int, one_str, one_ptr, one_nilptr, one_slice, one_eslice, one_nilslice, one_func, one_iface, one_niliface, List.all_cons, List.all_nil, List.length_cons, List.length_nil, Nat.reduceLT, Nat.reduceEqDiff, Nat.reduceLeDiff, Bool.and_true, Nat.one_ne_zero, Nat.succ_ne_zero, reduceIte, if_false, List.getElem?_cons_zero, List.set_cons_zero, List.set_cons_succ]
    refine callA_of (toBoard_c _ v una nxt ps aA.sl hlen) ?_
    rintro r h7 ⟨vY, rfl, oY, hE7⟩
    have bA := bA.ext hE7
    have aA := aA.ext hE7
    have bW := bW.ext hE7
    have oW := oW.ext hE7
    have bX := bX.ext hE7
    have oX := oX.ext hE7
    have bG := bG.ext hE7
    have oG := oG.ext hE7
    have le_hE7 := hE7.le
    simp only [bX.eq, go_sem, Hold.p, HoldK.k, HoldL.K, HoldL.body, Nat.reduceBEq, Nat.reduceAdd, List.getElem?_cons_zero, List.getElem?_cons_succ, Option.bind_some, List.map_cons, List.map_nil, Nat.zero_add, if_true, List.getD_cons_zero, List.getD_cons_succ, List.contains_cons, List.contains_nil, Nat.reduceBEq, Bool.or_true, Bool.true_or, Bool.or_false, Bool.false_or, Bool.not_true, Bool.not_false, true_and, and_true, rowA_whole, push_n, set_n, push_obj, set_obj, set_push, set_push_ne, set_set, Nat.add_assoc, Nat.left_eq_add, Nat.add_eq_left, Nat.add_left_cancel_iff, Nat.reduceEqDiff, stO_1s, stO_ws, boxA_s, one_bool, one_int, one_str, one_ptr, one_nilptr, one_slice, one_eslice, one_nilslice, one_func, one_iface, one_niliface, List.all_cons, List.all_nil, List.length_cons, List.length_nil, Nat.reduceLT, Nat.reduceEqDiff, Nat.reduceLeDiff, Bool.and_true, Nat.one_ne_zero, Nat.succ_ne_zero, reduceIte, if_false, List.getElem?_cons_zero, List.set_cons_zero, List.set_cons_succ]
    refine callA_of (eqBoard_c _ vX vY una nxt ps oX.sl oY.sl hlen) ?_
    rintro r h8 ⟨rfl, hE8⟩
    have bA := bA.ext hE8
    have aA := aA.ext hE8
    have bW := bW.ext hE8
    have oW := oW.ext hE8
    have bX := bX.ext hE8
    have oX := oX.ext hE8
    have bG := bG.ext hE8
    have oG := oG.ext hE8
    have le_hE8 := hE8.le
    simp only [bX.eq, decide_true, go_sem, Hold.p, HoldK.k, HoldL.K, HoldL.body, Nat.reduceBEq, Nat.reduceAdd, List.getElem?_cons_zero, List.getElem?_cons_succ, Option.bind_some, List.map_cons, List.map_nil, Nat.zero_add, if_true, List.getD_cons_zero, List.getD_cons_succ, List.contains_cons, List.contains_nil, Nat.reduceBEq, Bool.or_true, Bool.true_or, Bool.or_false, Bool.false_or, Bool.not_true, Bool.not_false, true_and, and_true, rowA_whole, push_n, set_n, push_obj, set_obj, set_push, set_push_ne, set_set, Nat.add_assoc, Nat.left_eq_add, Nat.add_eq_left, Nat.add_left_cancel_iff, Nat.reduceEqDiff, stO_1s, stO_ws, boxA_s, one_bool, one_int, one_str, one_ptr, one_nilptr, one_slice, one_eslice, one_nilslice, one_func, one_iface, one_niliface, List.all_cons, List.all_nil, List.length_cons, List.length_nil, Nat.reduceLT, Nat.reduceEqDiff, Nat.reduceLeDiff, Bool.and_true, Nat.one_ne_zero, Nat.succ_ne_zero, reduceIte, if_false, List.getElem?_cons_zero, List.set_cons_zero, List.set_cons_succ]
    refine callA_of (markBoard_c _ vX una nxt 1 _ oX rows6 (by simp; omega)) ?_
    rintro r h9 ⟨rfl, oX9, ht9⟩
    have bA := bA.turn oX (by omega) ht9
    have aA := aA.turn oX (by omega) ht9
    have bW := bW.turn oX (by omega) ht9
    have oW := oW.turn oX (by omega) ht9
    have bX := bX.turn oX (by omega) ht9
    have bG := bG.turn oX (by omega) ht9
    have oG := oG.turn oX (by omega) ht9
    have le_ht9 := ht9.le
    have hk : decide (((1 + 6 * (ps.map Piece.row).length : Nat) : Int) < 0) = false := by simp; omega
    simp only [bG.eq, bW.eq, hk, go_sem, Hold.p, HoldK.k, HoldL.K, HoldL.body, Nat.reduceBEq, Nat.reduceAdd, List.getElem?_cons_zero, List.getElem?_cons_succ, Option.bind_some, List.map_cons, List.map_nil, Nat.zero_add, if_true, List.getD_cons_zero, List.getD_cons_succ, List.contains_cons, List.contains_nil, Nat.reduceBEq, Bool.or_true, Bool.true_or, Bool.or_false, Bool.false_or, Bool.not_true, Bool.not_false, true_and, and_true, rowA_whole, push_n, set_n, push_obj, set_obj, set_push, set_push_ne, set_set, Nat.add_assoc, Nat.left_eq_add, Nat.add_eq_left, Nat.add_left_cancel_iff, Nat.reduceEqDiff, stO_1s, stO_ws, boxA_s, one_bool, one_int, one_str, one_ptr, one_nilptr, one_slice, one_eslice, one_nilslice, one_func, one_iface, one_niliface, List.all_cons, List.all_nil, List.length_cons, List.length_nil, Nat.reduceLT, Nat.reduceEqDiff, Nat.reduceLeDiff, Bool.and_true, Nat.one_ne_zero, Nat.succ_ne_zero, reduceIte, if_false, List.getElem?_cons_zero, List.set_cons_zero, List.set_cons_succ]
    refine callA_of (eqBoard_c _ vG vW fu fn fp oG.sl oW.sl hfl) ?_
    rintro r h10 ⟨rfl, hE10⟩
    have bA := bA.ext hE10
    have aA := aA.ext hE10
    have bW := bW.ext hE10
    have oW := oW.ext hE10
    have bG := bG.ext hE10
    have oG := oG.ext hE10
    have le_hE10 := hE10.le
    simp only [bG.eq, decide_true, go_sem, Hold.p, HoldK.k, HoldL.K, HoldL.body, Nat.reduceBEq, Nat.reduceAdd, List.getElem?_cons_zero, List.getElem?_cons_succ, Option.bind_some, List.map_cons, List.map_nil, Nat.zero_add, if_true, List.getD_cons_zero, List.getD_cons_succ, List.contains_cons, List.contains_nil, Nat.reduceBEq, Bool.or_true, Bool.true_or, Bool.or_false, Bool.false_or, Bool.not_true, Bool.not_false, true_and, and_true, rowA_whole, push_n, set_n, push_obj, set_obj, set_push, set_push_ne, set_set, Nat.add_assoc, Nat.left_eq_add, Nat.add_eq_left, Nat.add_left_cancel_iff, Nat.reduceEqDiff, stO_1s, stO_ws, boxA_s, one_bool, one_int, one_str, one_ptr, one_nilptr, one_slice, one_eslice, one_nilslice, one_func, one_iface, one_niliface, List.all_cons, List.all_nil, List.length_cons, List.length_nil, Nat.reduceLT, Nat.reduceEqDiff, Nat.reduceLeDiff, Bool.and_true, Nat.one_ne_zero, Nat.succ_ne_zero, reduceIte, if_false, List.getElem?_cons_zero, List.set_cons_zero, List.set_cons_succ]
    refine callA_of (markBoard_c _ vG fu fn 1 _ oG rows6 (by simp; omega)) ?_
    rintro r h11 ⟨rfl, oM, ht11⟩
    have bA := bA.turn oG (by omega) ht11
    have aA := aA.turn oG (by omega) ht11
    have bW := bW.turn oG (by omega) ht11
    have oW := oW.turn oG (by omega) ht11
    have bG := bG.turn oG (by omega) ht11
    have le_ht11 := ht11.le
    rw [List.length_map] at oM
    simp only [bG.eq, go_sem, Hold.p, HoldK.k, HoldL.K, HoldL.body, Nat.reduceBEq, Nat.reduceAdd, List.getElem?_cons_zero, List.getElem?_cons_succ, Option.bind_some, List.map_cons, List.map_nil, Nat.zero_add, if_true, List.getD_cons_zero, List.getD_cons_succ, List.contains_cons, List.contains_nil, Nat.reduceBEq, Bool.or_true, Bool.true_or, Bool.or_false, Bool.false_or, Bool.not_true, Bool.not_false, true_and, and_true, rowA_whole, push_n, set_n, push_obj, set_obj, set_push, set_push_ne, set_set, Nat.add_assoc, Nat.left_eq_add, Nat.add_eq_left, Nat.add_left_cancel_iff, Nat.reduceEqDiff, stO_1s, stO_ws, boxA_s, one_bool, one_int, one_str, one_ptr, one_nilptr, one_slice, one_eslice, one_nilslice, one_func, one_iface, one_niliface, List.all_cons, List.all_nil, List.length_cons, List.length_nil, Nat.reduceLT, Nat.reduceEqDiff, Nat.reduceLeDiff, Bool.and_true, Nat.one_ne_zero, Nat.succ_ne_zero, reduceIte, if_false, List.getElem?_cons_zero, List.set_cons_zero, List.set_cons_succ]
    refine callA_of (heldBoard_c _ vG fu fn fp.length 1 oM.sl (by omega)) ?_
    rintro r h12 ⟨rfl, hE12⟩
    have bA := bA.ext hE12
    have aA := aA.ext hE12
    have bW := bW.ext hE12
    have oW := oW.ext hE12
    have bG := bG.ext hE12
    have oM := oM.ext hE12
    have le_hE12 := hE12.le
    have hq : decide (((1 + 6 * fp.length : Nat) : Int) < 0) = false := by simp; omega
    simp only [hq, bA.eq, decide_true, List.length_map, go_sem, Hold.p, HoldK.k, HoldL.K, HoldL.body, Nat.reduceBEq, Nat.reduceAdd, List.getElem?_cons_zero, List.getElem?_cons_succ, Option.bind_some, List.map_cons, List.map_nil, Nat.zero_add, if_true, List.getD_cons_zero, List.getD_cons_succ, List.contains_cons, List.contains_nil, Nat.reduceBEq, Bool.or_true, Bool.true_or, Bool.or_false, Bool.false_or, Bool.not_true, Bool.not_false, true_and, and_true, rowA_whole, push_n, set_n, push_obj, set_obj, set_push, set_push_ne, set_set, Nat.add_assoc, Nat.left_eq_add, Nat.add_eq_left, Nat.add_left_cancel_iff, Nat.reduceEqDiff, stO_1s, stO_ws, boxA_s, one_bool, one_int, one_str, one_ptr, one_nilptr, one_slice, one_eslice, one_nilslice, one_func, one_iface, one_niliface, List.all_cons, List.all_nil, List.length_cons, List.length_nil, Nat.reduceLT, Nat.reduceEqDiff, Nat.reduceLeDiff, Bool.and_true, Nat.one_ne_zero, Nat.succ_ne_zero, reduceIte, if_false, List.getElem?_cons_zero, List.set_cons_zero, List.set_cons_succ]
    refine callA_of (toBoard_c _ v una nxt ps aA.sl hlen) ?_
    rintro r h13 ⟨vZ, rfl, oZ, hE13⟩
    have bA := bA.ext hE13
    have aA := aA.ext hE13
    have bW := bW.ext hE13
    have oW := oW.ext hE13
    have bG := bG.ext hE13
    have oM := oM.ext hE13
    have le_hE13 := hE13.le
    simp only [go_sem, Hold.p, HoldK.k, HoldL.K, HoldL.body, Nat.reduceBEq, Nat.reduceAdd, List.getElem?_cons_zero, List.getElem?_cons_succ, Option.bind_some, List.map_cons, List.map_nil, Nat.zero_add, if_true, List.getD_cons_zero, List.getD_cons_succ, List.contains_cons, List.contains_nil, Nat.reduceBEq, Bool.or_true, Bool.true_or, Bool.or_false, Bool.false_or, Bool.not_true, Bool.not_false, true_and, and_true, rowA_whole, push_n, set_n, push_obj, set_obj, set_push, set_push_ne, set_set, Nat.add_assoc, Nat.left_eq_add, Nat.add_eq_left, Nat.add_left_cancel_iff, Nat.reduceEqDiff, stO_1s, stO_ws, boxA_s, one_bool, one_int, one_str, one_ptr, one_nilptr, one_slice, one_eslice, one_nilslice, one_func, one_iface, one_niliface, List.all_cons, List.all_nil, List.length_cons, List.length_nil, Nat.reduceLT, Nat.reduceEqDiff, Nat.reduceLeDiff, Bool.and_true, Nat.one_ne_zero, Nat.succ_ne_zero, reduceIte, if_false, List.getElem?_cons_zero, List.set_cons_zero, List.set_cons_succ]
    refine callA_of (implBoardFirst_c _ vZ una nxt ps oZ.sl) ?_
    rintro r h14 ⟨vH, rfl, oH, hE14⟩
    rw [hfb] at oH
    simp only [hfb] at oH ⊢
    have bA := bA.ext hE14
    have aA := aA.ext hE14
    have bW := bW.ext hE14
    have oW := oW.ext hE14
    have bG := bG.ext hE14
    have oM := oM.ext hE14
    have le_hE14 := hE14.le
    have hv := oH.one
    simp only [hv, bA.eq, bW.eq, bG.eq, Nat.ne_of_lt bA.lt, Nat.ne_of_lt bW.lt, Nat.ne_of_lt bG.lt, go_sem, Hold.p, HoldK.k, HoldL.K, HoldL.body, Nat.reduceBEq, Nat.reduceAdd, List.getElem?_cons_zero, List.getElem?_cons_succ, Option.bind_some, List.map_cons, List.map_nil, Nat.zero_add, if_true, List.getD_cons_zero, List.getD_cons_succ, List.contains_cons, List.contains_nil, Nat.reduceBEq, Bool.or_true, Bool.true_or, Bool.or_false, Bool.false_or, Bool.not_true, Bool.not_false, true_and, and_true, rowA_whole, push_n, set_n, push_obj, set_obj, set_push, set_push_ne, set_set, Nat.add_assoc, Nat.left_eq_add, Nat.add_eq_left, Nat.add_left_cancel_iff, Nat.reduceEqDiff, stO_1s, stO_ws, boxA_s, one_bool, one_int, one_str, one_ptr, one_nilptr, one_slice, one_eslice, one_nilslice, one_func, one_iface, one_niliface, List.all_cons, List.all_nil, List.length_cons, List.length_nil, Nat.reduceLT, Nat.reduceEqDiff, Nat.reduceLeDiff, Bool.and_true, Nat.one_ne_zero, Nat.succ_ne_zero, reduceIte, if_false, List.getElem?_cons_zero, List.set_cons_zero, List.set_cons_succ]
    generalize hq_g14 : IH.push h14 (IObj.rows [[IV.int .i64 fu, IV.int .i64 fn, vH]] 40 3 false) = g14
    have e_g14 : Ext h14 g14 := by rw [← hq_g14]; exact (Ext.refl _).push _
    have l_g14 : g14.n = h14.n + 1 := by rw [← hq_g14]; rfl
    have bH : At g14 h14.n (IObj.rows [[IV.int .i64 fu, IV.int .i64 fn, vH]] 40 3 false) := by rw [← hq_g14]; exact At.new _ _
    clear hq_g14
    have bA := bA.ext e_g14
    have aA := aA.ext e_g14
    have bW := bW.ext e_g14
    have oW := oW.ext e_g14
    have bG := bG.ext e_g14
    have oM := oM.ext e_g14
    have oH := oH.ext e_g14
    refine callA_of (eqBoard_c _ vH vW fu fn fp oH.sl oW.sl hfl) ?_
    rintro r h15 ⟨rfl, hE15⟩
    have bG := bG.ext hE15
    have oM := oM.ext hE15
    have le_hE15 := hE15.le
    simp only [bG.eq, decide_true, go_sem, Hold.p, HoldK.k, HoldL.K, HoldL.body, Nat.reduceBEq, Nat.reduceAdd, List.getElem?_cons_zero, List.getElem?_cons_succ, Option.bind_some, List.map_cons, List.map_nil, Nat.zero_add, if_true, List.getD_cons_zero, List.getD_cons_succ, List.contains_cons, List.contains_nil, Nat.reduceBEq, Bool.or_true, Bool.true_or, Bool.or_false, Bool.false_or, Bool.not_true, Bool.not_false, true_and, and_true, rowA_whole, push_n, set_n, push_obj, set_obj, set_push, set_push_ne, set_set, Nat.add_assoc, Nat.left_eq_add, Nat.add_eq_left, Nat.add_left_cancel_iff, Nat.reduceEqDiff, stO_1s, stO_ws, boxA_s, one_bool, one_int, one_str, one_ptr, one_nilptr, one_slice, one_eslice, one_nilslice, one_func, one_iface, one_niliface, List.all_cons, List.all_nil, List.length_cons, List.length_nil, Nat.reduceLT, Nat.reduceEqDiff, Nat.reduceLeDiff, Bool.and_true, Nat.one_ne_zero, Nat.succ_ne_zero, reduceIte, if_false, List.getElem?_cons_zero, List.set_cons_zero, List.set_cons_succ]
    refine callA_of (heldBoard_c _ vG fu fn fp.length 1 oM.sl (by omega)) ?_
    rintro r h16 ⟨rfl, hE16⟩
    simp only [hq, decide_true, List.length_map, go_sem, Hold.p, HoldK.k, HoldL.K, HoldL.body, Nat.reduceBEq, Nat.reduceAdd, List.getElem?_cons_zero, List.getElem?_cons_succ, Option.bind_some, List.map_cons, List.map_nil, Nat.zero_add, if_true, List.getD_cons_zero, List.getD_cons_succ, List.contains_cons, List.contains_nil, Nat.reduceBEq, Bool.or_true, Bool.true_or, Bool.or_false, Bool.false_or, Bool.not_true, Bool.not_false, true_and, and_true, rowA_whole, push_n, set_n, push_obj, set_obj, set_push, set_push_ne, set_set, Nat.add_assoc, Nat.left_eq_add, Nat.add_eq_left, Nat.add_left_cancel_iff, Nat.reduceEqDiff, stO_1s, stO_ws, boxA_s, one_bool, one_int, one_str, one_ptr, one_nilptr, one_slice, one_eslice, one_nilslice, one_func, one_iface, one_niliface, List.all_cons, List.all_nil, List.length_cons, List.length_nil, Nat.reduceLT, Nat.reduceEqDiff, Nat.reduceLeDiff, Bool.and_true, Nat.one_ne_zero, Nat.succ_ne_zero, reduceIte, if_false, List.getElem?_cons_zero, List.set_cons_zero, List.set_cons_succ]
end Go.Proofs.Ytecljenjlncfhaa

namespace Go.Proofs.Ytecljenjlncfhaa
open Go Go.IW
/-- loop.example/g00003/laws.FnExactBoardSend -/
def c8 : CC :=
 (.seq (.reg [
   ⟨(some 3), none, .x (.box 35 3 (.t 0))⟩,
   ⟨(some 6), none, .f (.mv (.c (.bool false)))⟩])
 (.seq (.reg [
   ⟨(some 7), none, .f (.mv (.c (.int .i64 1048576)))⟩])
 (.seq (.reg [
   ⟨(some 18), none, .f (.ldA 3 (.t 3))⟩,
   ⟨(some 19), none, .f (.mv (.t 7))⟩,
   ⟨(some 20), none, .x (.call 24 [(.t 18), (.t 19)])⟩,
   ⟨(some 7), none, .f (.mv (.t 20))⟩])
 (.seq (.seq (.reg [
   ⟨(some 21), none, .f (.mv (.t 7))⟩,
   ⟨(some 22), none, .f (.bin .lss (.t 21) (.c (.int .i64 0)))⟩])
 (.cond (.t 22)
  (.seq (.reg [
    ⟨(some 6), none, .f (.mv (.c (.bool true)))⟩])
  .ret)
  .skip))
 (.seq (.reg [
   ⟨(some 24), none, .f (.ldA 3 (.t 3))⟩,
   ⟨(some 25), none, .x (.call 26 [(.t 24)])⟩,
   ⟨(some 26), none, .f (.mv (.t 1))⟩,
   ⟨(some 27), none, .f (.mv (.t 2))⟩,
   ⟨(some 28), none, .x (.call 33 [(.t 25), (.t 26), (.t 27)])⟩,
   ⟨(some 23), none, .f (.mv (.t 28))⟩,
   ⟨(some 29), none, .f (.ext 0 (.t 23))⟩,
   ⟨(some 30), none, .f (.ext 1 (.t 23))⟩,
   ⟨(some 8), none, .x (.zero 40 3 [(.int .i64 0), (.int .i64 0), .nilslice])⟩,
   ⟨none, none, .x (.st 3 (.t 8) (.t 29))⟩,
   ⟨(some 9), none, .f (.mv (.t 30))⟩])
 (.seq (.reg [
   ⟨(some 31), none, .f (.ldA 3 (.t 3))⟩,
   ⟨(some 32), none, .x (.call 26 [(.t 31)])⟩,
   ⟨(some 10), none, .x (.zero 40 3 [(.int .i64 0), (.int .i64 0), .nilslice])⟩,
   ⟨none, none, .x (.st 3 (.t 10) (.t 32))⟩])
 (.seq (.reg [
   ⟨(some 34), none, .f (.ldA 3 (.t 10))⟩,
   ⟨(some 35), none, .f (.mv (.t 1))⟩,
   ⟨(some 36), none, .f (.mv (.t 2))⟩,
   ⟨(some 37), none, .x (.call 34 [(.t 34), (.t 35), (.t 36)])⟩,
   ⟨(some 33), none, .f (.mv (.t 37))⟩,
   ⟨(some 38), none, .f (.ext 0 (.t 33))⟩,
   ⟨(some 39), none, .f (.ext 1 (.t 33))⟩,
   ⟨(some 11), none, .x (.zero 40 3 [(.int .i64 0), (.int .i64 0), .nilslice])⟩,
   ⟨none, none, .x (.st 3 (.t 11) (.t 38))⟩,
   ⟨(some 12), none, .f (.mv (.t 39))⟩])
 (.seq (.seq (.reg [
   ⟨(some 40), none, .f (.ldA 3 (.t 11))⟩,
   ⟨(some 41), none, .f (.ldA 3 (.t 8))⟩,
   ⟨(some 42), none, .x (.call 28 [(.t 40), (.t 41)])⟩,
   ⟨(some 43), none, .f (.un .not (.t 42))⟩,
   ⟨(some 44), none, .f (.mv (.t 43))⟩,
   ⟨(some 45), (some (44, false)), .f (.mv (.t 12))⟩,
   ⟨(some 46), (some (44, false)), .f (.mv (.t 9))⟩,
   ⟨(some 47), (some (44, false)), .f (.bin .neq (.t 45) (.t 46))⟩,
   ⟨(some 48), none, .f (.pick (.t 44) (.c (.bool true)) (.t 47))⟩])
 (.cond (.t 48)
  (.seq (.reg [
    ⟨(some 6), none, .f (.mv (.c (.bool false)))⟩])
  .ret)
  .skip))
 (.seq (.seq (.dreg [
   ⟨(some 49), none, .f (.ldA 3 (.t 10))⟩,
   ⟨(some 50), none, .f (.ldA 3 (.t 3))⟩,
   ⟨(some 51), none, .x (.call 26 [(.t 50)])⟩,
   ⟨(some 52), none, .x (.call 28 [(.t 49), (.t 51)])⟩,
   ⟨(some 53), none, .f (.un .not (.t 52))⟩]
   [false, false, true, true, false] [[], [], [1], [0, 2, 1], [3, 0, 2, 1]] [0, 1, 2, 3, 4])
 (.cond (.t 53)
  (.seq (.reg [
    ⟨(some 6), none, .f (.mv (.c (.bool false)))⟩])
  .ret)
  .skip))
 (.seq (.reg [
   ⟨(some 13), none, .f (.mv (.c (.int .i64 1)))⟩])
 (.seq (.reg [
   ⟨(some 54), none, .f (.ldA 3 (.t 10))⟩,
   ⟨(some 55), none, .f (.mv (.t 13))⟩,
   ⟨(some 56), none, .x (.call 31 [(.t 54), (.t 55)])⟩,
   ⟨(some 13), none, .f (.mv (.t 56))⟩])
 (.seq (.seq (.reg [
   ⟨(some 57), none, .f (.mv (.t 13))⟩,
   ⟨(some 58), none, .f (.bin .lss (.t 57) (.c (.int .i64 0)))⟩,
   ⟨(some 59), none, .f (.mv (.t 58))⟩,
   ⟨(some 60), (some (59, false)), .f (.ldA 3 (.t 11))⟩,
   ⟨(some 61), (some (59, false)), .f (.ldA 3 (.t 8))⟩,
   ⟨(some 62), (some (59, false)), .x (.call 28 [(.t 60), (.t 61)])⟩,
   ⟨(some 63), (some (59, false)), .f (.un .not (.t 62))⟩,
   ⟨(some 64), none, .f (.pick (.t 59) (.c (.bool true)) (.t 63))⟩,
   ⟨(some 65), none, .f (.mv (.t 64))⟩,
   ⟨(some 66), (some (65, false)), .f (.mv (.t 12))⟩,
   ⟨(some 67), (some (65, false)), .f (.mv (.t 9))⟩,
   ⟨(some 68), (some (65, false)), .f (.bin .neq (.t 66) (.t 67))⟩,
   ⟨(some 69), none, .f (.pick (.t 65) (.c (.bool true)) (.t 68))⟩])
 (.cond (.t 69)
  (.seq (.reg [
    ⟨(some 6), none, .f (.mv (.c (.bool false)))⟩])
  .ret)
  .skip))
 (.seq (.reg [
   ⟨(some 14), none, .f (.mv (.c (.int .i64 1)))⟩])
 (.seq (.reg [
   ⟨(some 70), none, .f (.ldA 3 (.t 11))⟩,
   ⟨(some 71), none, .f (.mv (.t 14))⟩,
   ⟨(some 72), none, .x (.call 31 [(.t 70), (.t 71)])⟩,
   ⟨(some 14), none, .f (.mv (.t 72))⟩])
 (.seq (.reg [
   ⟨(some 15), none, .f (.mv (.c (.int .i64 1)))⟩])
 (.seq (.reg [
   ⟨(some 73), none, .f (.ldA 3 (.t 11))⟩,
   ⟨(some 74), none, .f (.mv (.t 15))⟩,
   ⟨(some 75), none, .x (.call 32 [(.t 73), (.t 74)])⟩,
   ⟨(some 15), none, .f (.mv (.t 75))⟩])
 (.seq (.seq (.reg [
   ⟨(some 76), none, .f (.mv (.t 15))⟩,
   ⟨(some 77), none, .f (.bin .lss (.t 76) (.c (.int .i64 0)))⟩])
 (.cond (.t 77)
  (.seq (.reg [
    ⟨(some 6), none, .f (.mv (.c (.bool false)))⟩])
  .ret)
  .skip))
 (.seq (.seq (.reg [
   ⟨(some 78), none, .f (.mv (.t 15))⟩,
   ⟨(some 79), none, .f (.mv (.t 14))⟩,
   ⟨(some 80), none, .f (.bin .neq (.t 78) (.t 79))⟩])
 (.cond (.t 80)
  (.seq (.reg [
    ⟨(some 6), none, .f (.mv (.c (.bool false)))⟩])
  .ret)
  .skip))
 (.seq (.reg [
   ⟨(some 82), none, .f (.ldA 3 (.t 3))⟩,
   ⟨(some 83), none, .x (.call 26 [(.t 82)])⟩,
   ⟨(some 84), none, .f (.mv (.t 1))⟩,
   ⟨(some 85), none, .f (.mv (.t 2))⟩,
   ⟨(some 86), none, .x (.call 34 [(.t 83), (.t 84), (.t 85)])⟩,
   ⟨(some 81), none, .f (.mv (.t 86))⟩,
   ⟨(some 87), none, .f (.ext 0 (.t 81))⟩,
   ⟨(some 88), none, .f (.ext 1 (.t 81))⟩,
   ⟨(some 16), none, .x (.zero 40 3 [(.int .i64 0), (.int .i64 0), .nilslice])⟩,
   ⟨none, none, .x (.st 3 (.t 16) (.t 87))⟩,
   ⟨(some 17), none, .f (.mv (.t 88))⟩])
 (.seq (.seq (.reg [
   ⟨(some 89), none, .f (.ldA 3 (.t 16))⟩,
   ⟨(some 90), none, .f (.ldA 3 (.t 8))⟩,
   ⟨(some 91), none, .x (.call 28 [(.t 89), (.t 90)])⟩,
   ⟨(some 92), none, .f (.un .not (.t 91))⟩,
   ⟨(some 93), none, .f (.mv (.t 92))⟩,
   ⟨(some 94), (some (93, false)), .f (.mv (.t 17))⟩,
   ⟨(some 95), (some (93, false)), .f (.mv (.t 9))⟩,
   ⟨(some 96), (some (93, false)), .f (.bin .neq (.t 94) (.t 95))⟩,
   ⟨(some 97), none, .f (.pick (.t 93) (.c (.bool true)) (.t 96))⟩])
 (.cond (.t 97)
  (.seq (.reg [
    ⟨(some 6), none, .f (.mv (.c (.bool false)))⟩])
  .ret)
  .skip))
 (.seq (.reg [
   ⟨(some 15), none, .f (.mv (.c (.int .i64 1)))⟩])
 (.seq (.reg [
   ⟨(some 98), none, .f (.ldA 3 (.t 11))⟩,
   ⟨(some 99), none, .f (.mv (.t 15))⟩,
   ⟨(some 100), none, .x (.call 32 [(.t 98), (.t 99)])⟩,
   ⟨(some 15), none, .f (.mv (.t 100))⟩])
 (.seq (.seq (.reg [
   ⟨(some 101), none, .f (.mv (.t 15))⟩,
   ⟨(some 102), none, .f (.bin .lss (.t 101) (.c (.int .i64 0)))⟩])
 (.cond (.t 102)
  (.seq (.reg [
    ⟨(some 6), none, .f (.mv (.c (.bool false)))⟩])
  .ret)
  .skip))
 (.seq (.seq (.reg [
   ⟨(some 103), none, .f (.mv (.t 15))⟩,
   ⟨(some 104), none, .f (.mv (.t 14))⟩,
   ⟨(some 105), none, .f (.bin .neq (.t 103) (.t 104))⟩])
 (.cond (.t 105)
  (.seq (.reg [
    ⟨(some 6), none, .f (.mv (.c (.bool false)))⟩])
  .ret)
  .skip))
 (.seq (.reg [
   ⟨(some 6), none, .f (.mv (.c (.bool true)))⟩])
 .ret)))))))))))))))))))))))))
theorem ok8 : fnComp Try.prog 8 = some (106, c8, [(.mv (.t 6))]) := by kernel_rfl

/-- loop.example/g00003/spec.BoardSend -/
def c33 : CC :=
 (.seq (.reg [
   ⟨(some 3), none, .x (.box 40 3 (.t 0))⟩,
   ⟨(some 6), none, .x (.zero 40 3 [(.int .i64 0), (.int .i64 0), .nilslice])⟩,
   ⟨(some 7), none, .f (.mv (.c (.int .i64 0)))⟩])
 (.seq (.seq (.reg [
   ⟨(some 8), none, .f (.ldA 3 (.t 3))⟩,
   ⟨(some 9), none, .x (.call 67 [(.t 8)])⟩,
   ⟨(some 10), none, .f (.un .not (.t 9))⟩,
   ⟨(some 11), none, .f (.mv (.t 10))⟩,
   ⟨(some 12), (some (11, false)), .f (.mv (.t 1))⟩,
   ⟨(some 13), (some (11, false)), .x (.call 77 [(.t 12), (.c (.int .i64 1)), (.c (.int .i64 65535))])⟩,
   ⟨(some 14), (some (11, false)), .f (.un .not (.t 13))⟩,
   ⟨(some 15), none, .f (.pick (.t 11) (.c (.bool true)) (.t 14))⟩,
   ⟨(some 16), none, .f (.mv (.t 15))⟩,
   ⟨(some 17), (some (16, false)), .f (.mv (.t 2))⟩,
   ⟨(some 18), (some (16, false)), .x (.call 77 [(.t 17), (.c (.int .i64 0)), (.c (.int .i64 1000000000))])⟩,
   ⟨(some 19), (some (16, false)), .f (.un .not (.t 18))⟩,
   ⟨(some 20), none, .f (.pick (.t 16) (.c (.bool true)) (.t 19))⟩])
 (.cond (.t 20)
  (.seq (.reg [
    ⟨(some 21), none, .f (.build [(.int .i64 0), (.int .i64 0), .nilslice] [])⟩,
    ⟨none, none, .x (.st 3 (.t 6) (.t 21))⟩,
    ⟨(some 7), none, .f (.mv (.c (.int .i64 1)))⟩])
  .ret)
  .skip))
 (.seq (.seq (.reg [
   ⟨(some 22), none, .f (.fadr 2 (.t 3))⟩,
   ⟨(some 23), none, .f (.ld (.t 22))⟩,
   ⟨(some 24), none, .f (.len (.t 23))⟩,
   ⟨(some 25), none, .f (.bin .geq (.t 24) (.c (.int .i64 4096)))⟩,
   ⟨(some 26), none, .f (.mv (.t 25))⟩,
   ⟨(some 27), (some (26, false)), .f (.fadr 1 (.t 3))⟩,
   ⟨(some 28), (some (26, false)), .f (.ld (.t 27))⟩,
   ⟨(some 29), (some (26, false)), .f (.mv (.t 1))⟩,
   ⟨(some 30), (some (26, false)), .f (.bin .add (.t 28) (.t 29))⟩,
   ⟨(some 31), (some (26, false)), .f (.bin .gtr (.t 30) (.c (.int .i64 1099511627776)))⟩,
   ⟨(some 32), none, .f (.pick (.t 26) (.c (.bool true)) (.t 31))⟩])
 (.cond (.t 32)
  (.seq (.reg [
    ⟨(some 33), none, .f (.build [(.int .i64 0), (.int .i64 0), .nilslice] [])⟩,
    ⟨none, none, .x (.st 3 (.t 6) (.t 33))⟩,
    ⟨(some 7), none, .f (.mv (.c (.int .i64 18)))⟩])
  .ret)
  .skip))
 (.seq (.reg [
   ⟨(some 34), none, .f (.ldA 3 (.t 3))⟩,
   ⟨(some 35), none, .x (.call 72 [(.t 34)])⟩,
   ⟨none, none, .x (.st 3 (.t 3) (.t 35))⟩])
 (.seq (.reg [
   ⟨(some 36), none, .f (.fadr 2 (.t 3))⟩,
   ⟨(some 37), none, .f (.ld (.t 36))⟩,
   ⟨(some 38), none, .f (.fadr 1 (.t 3))⟩,
   ⟨(some 39), none, .f (.ld (.t 38))⟩,
   ⟨(some 40), none, .f (.fadr 1 (.t 3))⟩,
   ⟨(some 41), none, .f (.ld (.t 40))⟩,
   ⟨(some 42), none, .f (.mv (.t 1))⟩,
   ⟨(some 43), none, .f (.bin .add (.t 41) (.t 42))⟩,
   ⟨(some 44), none, .f (.mv (.t 2))⟩,
   ⟨(some 45), none, .f (.build [(.int .i64 0), (.int .i64 0), (.int .i64 0), (.int .i64 0), (.bool false), (.bool false)] [(0, 1, (.t 39)), (1, 1, (.t 43)), (2, 1, (.t 44)), (3, 1, (.c (.int .i64 1)))])⟩,
   ⟨(some 46), none, .x (.bslice 113 6 [(.int .i64 0), (.int .i64 0), (.int .i64 0), (.int .i64 0), (.bool false), (.bool false)] 1 [(0, (.t 45))])⟩,
   ⟨(some 47), none, .x (.app 113 6 40 (.t 37) (.t 46))⟩,
   ⟨(some 48), none, .f (.fadr 2 (.t 3))⟩,
   ⟨none, none, .x (.st 1 (.t 48) (.t 47))⟩])
 (.seq (.reg [
   ⟨(some 49), none, .f (.fadr 1 (.t 3))⟩,
   ⟨(some 50), none, .f (.ld (.t 49))⟩,
   ⟨(some 51), none, .f (.mv (.t 1))⟩,
   ⟨(some 52), none, .f (.bin .add (.t 50) (.t 51))⟩,
   ⟨(some 53), none, .f (.fadr 1 (.t 3))⟩,
   ⟨none, none, .x (.st 1 (.t 53) (.t 52))⟩])
 (.seq (.reg [
   ⟨(some 54), none, .f (.ldA 3 (.t 3))⟩,
   ⟨none, none, .x (.st 3 (.t 6) (.t 54))⟩,
   ⟨(some 7), none, .f (.mv (.c (.int .i64 0)))⟩])
 .ret)))))))
theorem ok33 : fnComp Try.prog 33 = some (55, c33, [(.ldA 3 (.t 6)), (.mv (.t 7))]) := by kernel_rfl

/-- loop.example/g00003/impl.BoardSend -/
def c34 : CC :=
 (.seq (.reg [
   ⟨(some 3), none, .x (.box 40 3 (.t 0))⟩,
   ⟨(some 6), none, .x (.zero 40 3 [(.int .i64 0), (.int .i64 0), .nilslice])⟩,
   ⟨(some 7), none, .f (.mv (.c (.int .i64 0)))⟩])
 (.seq (.seq (.reg [
   ⟨(some 9), none, .f (.ldA 3 (.t 3))⟩,
   ⟨(some 10), none, .x (.call 69 [(.t 9)])⟩,
   ⟨(some 11), none, .f (.un .not (.t 10))⟩,
   ⟨(some 12), none, .f (.mv (.t 11))⟩,
   ⟨(some 13), (some (12, false)), .f (.mv (.t 1))⟩,
   ⟨(some 14), (some (12, false)), .f (.bin .lss (.t 13) (.c (.int .i64 1)))⟩,
   ⟨(some 15), none, .f (.pick (.t 12) (.c (.bool true)) (.t 14))⟩,
   ⟨(some 16), none, .f (.mv (.t 15))⟩,
   ⟨(some 17), (some (16, false)), .f (.mv (.t 1))⟩,
   ⟨(some 18), (some (16, false)), .f (.bin .gtr (.t 17) (.c (.int .i64 65535)))⟩,
   ⟨(some 19), none, .f (.pick (.t 16) (.c (.bool true)) (.t 18))⟩,
   ⟨(some 20), none, .f (.mv (.t 19))⟩,
   ⟨(some 21), (some (20, false)), .f (.mv (.t 2))⟩,
   ⟨(some 22), (some (20, false)), .f (.bin .lss (.t 21) (.c (.int .i64 0)))⟩,
   ⟨(some 23), none, .f (.pick (.t 20) (.c (.bool true)) (.t 22))⟩,
   ⟨(some 24), none, .f (.mv (.t 23))⟩,
   ⟨(some 25), (some (24, false)), .f (.mv (.t 2))⟩,
   ⟨(some 26), (some (24, false)), .f (.bin .gtr (.t 25) (.c (.int .i64 1000000000)))⟩,
   ⟨(some 27), none, .f (.pick (.t 24) (.c (.bool true)) (.t 26))⟩])
 (.cond (.t 27)
  (.seq (.reg [
    ⟨(some 28), none, .f (.build [(.int .i64 0), (.int .i64 0), .nilslice] [])⟩,
    ⟨none, none, .x (.st 3 (.t 6) (.t 28))⟩,
    ⟨(some 7), none, .f (.mv (.c (.int .i64 1)))⟩])
  .ret)
  .skip))
 (.seq (.reg [
   ⟨(some 29), none, .f (.ldA 3 (.t 3))⟩,
   ⟨(some 30), none, .x (.call 73 [(.t 29)])⟩,
   ⟨(some 31), none, .f (.build [(.int .i64 0), (.int .i64 0), .nilslice] [(0, 3, (.t 30))])⟩,
   ⟨(some 8), none, .x (.zero 116 3 [(.int .i64 0), (.int .i64 0), .nilslice])⟩,
   ⟨none, none, .x (.st 3 (.t 8) (.t 31))⟩])
 (.seq (.seq (.reg [
   ⟨(some 32), none, .f (.mv (.t 1))⟩,
   ⟨(some 33), none, .f (.mv (.t 2))⟩,
   ⟨(some 34), none, .x (.call 78 [(.t 8), (.t 32), (.t 33)])⟩,
   ⟨(some 35), none, .f (.un .not (.t 34))⟩])
 (.cond (.t 35)
  (.seq (.reg [
    ⟨(some 36), none, .f (.build [(.int .i64 0), (.int .i64 0), .nilslice] [])⟩,
    ⟨none, none, .x (.st 3 (.t 6) (.t 36))⟩,
    ⟨(some 7), none, .f (.mv (.c (.int .i64 18)))⟩])
  .ret)
  .skip))
 (.seq (.reg [
   ⟨(some 37), none, .f (.fadr 0 (.t 8))⟩,
   ⟨(some 38), none, .f (.ldA 3 (.t 37))⟩,
   ⟨none, none, .x (.st 3 (.t 6) (.t 38))⟩,
   ⟨(some 7), none, .f (.mv (.c (.int .i64 0)))⟩])
 .ret)))))
theorem ok34 : fnComp Try.prog 34 = some (39, c34, [(.ldA 3 (.t 6)), (.mv (.t 7))]) := by kernel_rfl

/-- (*loop.example/g00003/impl.board).send -/
def c78 : CC :=
 (.seq (.reg [
   ⟨(some 6), none, .f (.mv (.c (.bool false)))⟩])
 (.seq (.seq (.reg [
   ⟨(some 7), none, .f (.mv (.t 0))⟩,
   ⟨(some 8), none, .f (.nck (.t 7))⟩,
   ⟨(some 9), none, .f (.fadr 0 (.t 8))⟩,
   ⟨(some 10), none, .f (.fadr 2 (.t 9))⟩,
   ⟨(some 11), none, .f (.ld (.t 10))⟩,
   ⟨(some 12), none, .f (.len (.t 11))⟩,
   ⟨(some 13), none, .f (.bin .geq (.t 12) (.c (.int .i64 4096)))⟩,
   ⟨(some 14), none, .f (.mv (.t 13))⟩,
   ⟨(some 15), (some (14, false)), .f (.mv (.t 0))⟩,
   ⟨(some 16), (some (14, false)), .f (.nck (.t 15))⟩,
   ⟨(some 17), (some (14, false)), .f (.fadr 0 (.t 16))⟩,
   ⟨(some 18), (some (14, false)), .f (.fadr 1 (.t 17))⟩,
   ⟨(some 19), (some (14, false)), .f (.ld (.t 18))⟩,
   ⟨(some 20), (some (14, false)), .f (.mv (.t 1))⟩,
   ⟨(some 21), (some (14, false)), .f (.bin .add (.t 19) (.t 20))⟩,
   ⟨(some 22), (some (14, false)), .f (.bin .gtr (.t 21) (.c (.int .i64 1099511627776)))⟩,
   ⟨(some 23), none, .f (.pick (.t 14) (.c (.bool true)) (.t 22))⟩])
 (.cond (.t 23)
  (.seq (.reg [
    ⟨(some 6), none, .f (.mv (.c (.bool false)))⟩])
  .ret)
  .skip))
 (.seq (.dreg [
   ⟨(some 24), none, .f (.mv (.t 0))⟩,
   ⟨(some 25), none, .f (.mv (.t 0))⟩,
   ⟨(some 26), none, .f (.nck (.t 25))⟩,
   ⟨(some 27), none, .f (.fadr 0 (.t 26))⟩,
   ⟨(some 28), none, .f (.fadr 2 (.t 27))⟩,
   ⟨(some 29), none, .f (.ld (.t 28))⟩,
   ⟨(some 30), none, .f (.mv (.t 0))⟩,
   ⟨(some 31), none, .f (.nck (.t 30))⟩,
   ⟨(some 32), none, .f (.fadr 0 (.t 31))⟩,
   ⟨(some 33), none, .f (.fadr 1 (.t 32))⟩,
   ⟨(some 34), none, .f (.ld (.t 33))⟩,
   ⟨(some 35), none, .f (.mv (.t 0))⟩,
   ⟨(some 36), none, .f (.nck (.t 35))⟩,
   ⟨(some 37), none, .f (.fadr 0 (.t 36))⟩,
   ⟨(some 38), none, .f (.fadr 1 (.t 37))⟩,
   ⟨(some 39), none, .f (.ld (.t 38))⟩,
   ⟨(some 40), none, .f (.mv (.t 1))⟩,
   ⟨(some 41), none, .f (.bin .add (.t 39) (.t 40))⟩,
   ⟨(some 42), none, .f (.mv (.t 2))⟩,
   ⟨(some 43), none, .f (.build [(.int .i64 0), (.int .i64 0), (.int .i64 0), (.int .i64 0), (.bool false), (.bool false)] [(0, 1, (.t 34)), (1, 1, (.t 41)), (2, 1, (.t 42)), (3, 1, (.c (.int .i64 1)))])⟩,
   ⟨(some 44), none, .x (.bslice 113 6 [(.int .i64 0), (.int .i64 0), (.int .i64 0), (.int .i64 0), (.bool false), (.bool false)] 1 [(0, (.t 43))])⟩,
   ⟨(some 45), none, .x (.app 113 6 40 (.t 29) (.t 44))⟩,
   ⟨(some 46), none, .f (.nck (.t 24))⟩,
   ⟨(some 47), none, .f (.fadr 0 (.t 46))⟩,
   ⟨(some 48), none, .f (.fadr 2 (.t 47))⟩,
   ⟨none, none, .x (.st 1 (.t 48) (.t 45))⟩]
   [false, false, false, false, false, false, false, false, false, false, false, false, false, false, false, false, false, false, false, false, true, true, false, false, false, true] [[], [], [1], [2, 1], [3, 2, 1], [4, 3, 2, 1], [], [6], [7, 6], [8, 7, 6], [9, 8, 7, 6], [], [11], [12, 11], [13, 12, 11], [14, 13, 12, 11], [], [15, 14, 13, 12, 11, 16], [], [10, 9, 8, 7, 6, 17, 15, 14, 13, 12, 11, 16, 18], [19, 10, 9, 8, 7, 6, 17, 15, 14, 13, 12, 11, 16, 18], [5, 4, 3, 2, 1, 20, 19, 10, 9, 8, 7, 6, 17, 15, 14, 13, 12, 11, 16, 18], [0, 1, 2, 3, 4, 5, 6, 7, 8, 9, 10, 11, 12, 13, 14, 15, 16, 17, 18, 19, 20, 21], [22, 0, 1, 2, 3, 4, 5, 6, 7, 8, 9, 10, 11, 12, 13, 14, 15, 16, 17, 18, 19, 20, 21], [23, 22, 0, 1, 2, 3, 4, 5, 6, 7, 8, 9, 10, 11, 12, 13, 14, 15, 16, 17, 18, 19, 20, 21], [24, 23, 22, 0, 1, 2, 3, 4, 5, 6, 7, 8, 9, 10, 11, 12, 13, 14, 15, 16, 17, 18, 19, 20, 21]] [0, 1, 2, 3, 4, 5, 6, 7, 8, 9, 10, 11, 12, 13, 14, 15, 16, 17, 18, 19, 20, 21, 22, 23, 24, 25])
 (.seq (.reg [
   ⟨(some 49), none, .f (.mv (.t 0))⟩,
   ⟨(some 50), none, .f (.nck (.t 49))⟩,
   ⟨(some 51), none, .f (.fadr 0 (.t 50))⟩,
   ⟨(some 52), none, .f (.fadr 1 (.t 51))⟩,
   ⟨(some 53), none, .f (.ld (.t 52))⟩,
   ⟨(some 54), none, .f (.mv (.t 1))⟩,
   ⟨(some 55), none, .f (.bin .add (.t 53) (.t 54))⟩,
   ⟨(some 56), none, .f (.nck (.t 49))⟩,
   ⟨(some 57), none, .f (.fadr 0 (.t 56))⟩,
   ⟨(some 58), none, .f (.fadr 1 (.t 57))⟩,
   ⟨none, none, .x (.st 1 (.t 58) (.t 55))⟩])
 (.seq (.reg [
   ⟨(some 6), none, .f (.mv (.c (.bool true)))⟩])
 .ret)))))
theorem ok78 : fnComp Try.prog 78 = some (59, c78, [(.mv (.t 6))]) := by kernel_rfl

/-- loop.example/g00003/laws.FnExactBoardSplit -/
def c9 : CC :=
 (.seq (.reg [
   ⟨(some 2), none, .x (.box 35 3 (.t 0))⟩,
   ⟨(some 4), none, .f (.mv (.c (.bool false)))⟩])
 (.seq (.reg [
   ⟨(some 5), none, .f (.mv (.c (.int .i64 1048576)))⟩])
 (.seq (.reg [
   ⟨(some 16), none, .f (.ldA 3 (.t 2))⟩,
   ⟨(some 17), none, .f (.mv (.t 5))⟩,
   ⟨(some 18), none, .x (.call 24 [(.t 16), (.t 17)])⟩,
   ⟨(some 5), none, .f (.mv (.t 18))⟩])
 (.seq (.seq (.reg [
   ⟨(some 19), none, .f (.mv (.t 5))⟩,
   ⟨(some 20), none, .f (.bin .lss (.t 19) (.c (.int .i64 0)))⟩])
 (.cond (.t 20)
  (.seq (.reg [
    ⟨(some 4), none, .f (.mv (.c (.bool true)))⟩])
  .ret)
  .skip))
 (.seq (.reg [
   ⟨(some 22), none, .f (.ldA 3 (.t 2))⟩,
   ⟨(some 23), none, .x (.call 26 [(.t 22)])⟩,
   ⟨(some 24), none, .f (.mv (.t 1))⟩,
   ⟨(some 25), none, .x (.call 35 [(.t 23), (.t 24)])⟩,
   ⟨(some 21), none, .f (.mv (.t 25))⟩,
   ⟨(some 26), none, .f (.ext 0 (.t 21))⟩,
   ⟨(some 27), none, .f (.ext 1 (.t 21))⟩,
   ⟨(some 6), none, .x (.zero 40 3 [(.int .i64 0), (.int .i64 0), .nilslice])⟩,
   ⟨none, none, .x (.st 3 (.t 6) (.t 26))⟩,
   ⟨(some 7), none, .f (.mv (.t 27))⟩])
 (.seq (.reg [
   ⟨(some 28), none, .f (.ldA 3 (.t 2))⟩,
   ⟨(some 29), none, .x (.call 26 [(.t 28)])⟩,
   ⟨(some 8), none, .x (.zero 40 3 [(.int .i64 0), (.int .i64 0), .nilslice])⟩,
   ⟨none, none, .x (.st 3 (.t 8) (.t 29))⟩])
 (.seq (.reg [
   ⟨(some 31), none, .f (.ldA 3 (.t 8))⟩,
   ⟨(some 32), none, .f (.mv (.t 1))⟩,
   ⟨(some 33), none, .x (.call 36 [(.t 31), (.t 32)])⟩,
   ⟨(some 30), none, .f (.mv (.t 33))⟩,
   ⟨(some 34), none, .f (.ext 0 (.t 30))⟩,
   ⟨(some 35), none, .f (.ext 1 (.t 30))⟩,
   ⟨(some 9), none, .x (.zero 40 3 [(.int .i64 0), (.int .i64 0), .nilslice])⟩,
   ⟨none, none, .x (.st 3 (.t 9) (.t 34))⟩,
   ⟨(some 10), none, .f (.mv (.t 35))⟩])
 (.seq (.seq (.reg [
   ⟨(some 36), none, .f (.ldA 3 (.t 9))⟩,
   ⟨(some 37), none, .f (.ldA 3 (.t 6))⟩,
   ⟨(some 38), none, .x (.call 28 [(.t 36), (.t 37)])⟩,
   ⟨(some 39), none, .f (.un .not (.t 38))⟩,
   ⟨(some 40), none, .f (.mv (.t 39))⟩,
   ⟨(some 41), (some (40, false)), .f (.mv (.t 10))⟩,
   ⟨(some 42), (some (40, false)), .f (.mv (.t 7))⟩,
   ⟨(some 43), (some (40, false)), .f (.bin .neq (.t 41) (.t 42))⟩,
   ⟨(some 44), none, .f (.pick (.t 40) (.c (.bool true)) (.t 43))⟩])
 (.cond (.t 44)
  (.seq (.reg [
    ⟨(some 4), none, .f (.mv (.c (.bool false)))⟩])
  .ret)
  .skip))
 (.seq (.seq (.dreg [
   ⟨(some 45), none, .f (.ldA 3 (.t 8))⟩,
   ⟨(some 46), none, .f (.ldA 3 (.t 2))⟩,
   ⟨(some 47), none, .x (.call 26 [(.t 46)])⟩,
   ⟨(some 48), none, .x (.call 28 [(.t 45), (.t 47)])⟩,
   ⟨(some 49), none, .f (.un .not (.t 48))⟩]
   [false, false, true, true, false] [[], [], [1], [0, 2, 1], [3, 0, 2, 1]] [0, 1, 2, 3, 4])
 (.cond (.t 49)
  (.seq (.reg [
    ⟨(some 4), none, .f (.mv (.c (.bool false)))⟩])
  .ret)
  .skip))
 (.seq (.reg [
   ⟨(some 11), none, .f (.mv (.c (.int .i64 1)))⟩])
 (.seq (.reg [
   ⟨(some 50), none, .f (.ldA 3 (.t 8))⟩,
   ⟨(some 51), none, .f (.mv (.t 11))⟩,
   ⟨(some 52), none, .x (.call 31 [(.t 50), (.t 51)])⟩,
   ⟨(some 11), none, .f (.mv (.t 52))⟩])
 (.seq (.seq (.reg [
   ⟨(some 53), none, .f (.mv (.t 11))⟩,
   ⟨(some 54), none, .f (.bin .lss (.t 53) (.c (.int .i64 0)))⟩,
   ⟨(some 55), none, .f (.mv (.t 54))⟩,
   ⟨(some 56), (some (55, false)), .f (.ldA 3 (.t 9))⟩,
   ⟨(some 57), (some (55, false)), .f (.ldA 3 (.t 6))⟩,
   ⟨(some 58), (some (55, false)), .x (.call 28 [(.t 56), (.t 57)])⟩,
   ⟨(some 59), (some (55, false)), .f (.un .not (.t 58))⟩,
   ⟨(some 60), none, .f (.pick (.t 55) (.c (.bool true)) (.t 59))⟩,
   ⟨(some 61), none, .f (.mv (.t 60))⟩,
   ⟨(some 62), (some (61, false)), .f (.mv (.t 10))⟩,
   ⟨(some 63), (some (61, false)), .f (.mv (.t 7))⟩,
   ⟨(some 64), (some (61, false)), .f (.bin .neq (.t 62) (.t 63))⟩,
   ⟨(some 65), none, .f (.pick (.t 61) (.c (.bool true)) (.t 64))⟩])
 (.cond (.t 65)
  (.seq (.reg [
    ⟨(some 4), none, .f (.mv (.c (.bool false)))⟩])
  .ret)
  .skip))
 (.seq (.reg [
   ⟨(some 12), none, .f (.mv (.c (.int .i64 1)))⟩])
 (.seq (.reg [
   ⟨(some 66), none, .f (.ldA 3 (.t 9))⟩,
   ⟨(some 67), none, .f (.mv (.t 12))⟩,
   ⟨(some 68), none, .x (.call 31 [(.t 66), (.t 67)])⟩,
   ⟨(some 12), none, .f (.mv (.t 68))⟩])
 (.seq (.reg [
   ⟨(some 13), none, .f (.mv (.c (.int .i64 1)))⟩])
 (.seq (.reg [
   ⟨(some 69), none, .f (.ldA 3 (.t 9))⟩,
   ⟨(some 70), none, .f (.mv (.t 13))⟩,
   ⟨(some 71), none, .x (.call 32 [(.t 69), (.t 70)])⟩,
   ⟨(some 13), none, .f (.mv (.t 71))⟩])
 (.seq (.seq (.reg [
   ⟨(some 72), none, .f (.mv (.t 13))⟩,
   ⟨(some 73), none, .f (.bin .lss (.t 72) (.c (.int .i64 0)))⟩])
 (.cond (.t 73)
  (.seq (.reg [
    ⟨(some 4), none, .f (.mv (.c (.bool false)))⟩])
  .ret)
  .skip))
 (.seq (.seq (.reg [
   ⟨(some 74), none, .f (.mv (.t 13))⟩,
   ⟨(some 75), none, .f (.mv (.t 12))⟩,
   ⟨(some 76), none, .f (.bin .neq (.t 74) (.t 75))⟩])
 (.cond (.t 76)
  (.seq (.reg [
    ⟨(some 4), none, .f (.mv (.c (.bool false)))⟩])
  .ret)
  .skip))
 (.seq (.reg [
   ⟨(some 78), none, .f (.ldA 3 (.t 2))⟩,
   ⟨(some 79), none, .x (.call 26 [(.t 78)])⟩,
   ⟨(some 80), none, .f (.mv (.t 1))⟩,
   ⟨(some 81), none, .x (.call 36 [(.t 79), (.t 80)])⟩,
   ⟨(some 77), none, .f (.mv (.t 81))⟩,
   ⟨(some 82), none, .f (.ext 0 (.t 77))⟩,
   ⟨(some 83), none, .f (.ext 1 (.t 77))⟩,
   ⟨(some 14), none, .x (.zero 40 3 [(.int .i64 0), (.int .i64 0), .nilslice])⟩,
   ⟨none, none, .x (.st 3 (.t 14) (.t 82))⟩,
   ⟨(some 15), none, .f (.mv (.t 83))⟩])
 (.seq (.seq (.reg [
   ⟨(some 84), none, .f (.ldA 3 (.t 14))⟩,
   ⟨(some 85), none, .f (.ldA 3 (.t 6))⟩,
   ⟨(some 86), none, .x (.call 28 [(.t 84), (.t 85)])⟩,
   ⟨(some 87), none, .f (.un .not (.t 86))⟩,
   ⟨(some 88), none, .f (.mv (.t 87))⟩,
   ⟨(some 89), (some (88, false)), .f (.mv (.t 15))⟩,
   ⟨(some 90), (some (88, false)), .f (.mv (.t 7))⟩,
   ⟨(some 91), (some (88, false)), .f (.bin .neq (.t 89) (.t 90))⟩,
   ⟨(some 92), none, .f (.pick (.t 88) (.c (.bool true)) (.t 91))⟩])
 (.cond (.t 92)
  (.seq (.reg [
    ⟨(some 4), none, .f (.mv (.c (.bool false)))⟩])
  .ret)
  .skip))
 (.seq (.reg [
   ⟨(some 13), none, .f (.mv (.c (.int .i64 1)))⟩])
 (.seq (.reg [
   ⟨(some 93), none, .f (.ldA 3 (.t 9))⟩,
   ⟨(some 94), none, .f (.mv (.t 13))⟩,
   ⟨(some 95), none, .x (.call 32 [(.t 93), (.t 94)])⟩,
   ⟨(some 13), none, .f (.mv (.t 95))⟩])
 (.seq (.seq (.reg [
   ⟨(some 96), none, .f (.mv (.t 13))⟩,
   ⟨(some 97), none, .f (.bin .lss (.t 96) (.c (.int .i64 0)))⟩])
 (.cond (.t 97)
  (.seq (.reg [
    ⟨(some 4), none, .f (.mv (.c (.bool false)))⟩])
  .ret)
  .skip))
 (.seq (.seq (.reg [
   ⟨(some 98), none, .f (.mv (.t 13))⟩,
   ⟨(some 99), none, .f (.mv (.t 12))⟩,
   ⟨(some 100), none, .f (.bin .neq (.t 98) (.t 99))⟩])
 (.cond (.t 100)
  (.seq (.reg [
    ⟨(some 4), none, .f (.mv (.c (.bool false)))⟩])
  .ret)
  .skip))
 (.seq (.reg [
   ⟨(some 4), none, .f (.mv (.c (.bool true)))⟩])
 .ret)))))))))))))))))))))))))
theorem ok9 : fnComp Try.prog 9 = some (101, c9, [(.mv (.t 4))]) := by kernel_rfl

/-- loop.example/g00003/spec.BoardSplit -/
def c35 : CC :=
 (.seq (.reg [
   ⟨(some 2), none, .x (.box 40 3 (.t 0))⟩,
   ⟨(some 4), none, .x (.zero 40 3 [(.int .i64 0), (.int .i64 0), .nilslice])⟩,
   ⟨(some 5), none, .f (.mv (.c (.int .i64 0)))⟩])
 (.seq (.seq (.reg [
   ⟨(some 13), none, .f (.ldA 3 (.t 2))⟩,
   ⟨(some 14), none, .x (.call 67 [(.t 13)])⟩,
   ⟨(some 15), none, .f (.un .not (.t 14))⟩,
   ⟨(some 16), none, .f (.mv (.t 15))⟩,
   ⟨(some 17), (some (16, false)), .f (.mv (.t 1))⟩,
   ⟨(some 18), (some (16, false)), .x (.call 77 [(.t 17), (.c (.int .i64 1)), (.c (.int .i64 65535))])⟩,
   ⟨(some 19), (some (16, false)), .f (.un .not (.t 18))⟩,
   ⟨(some 20), none, .f (.pick (.t 16) (.c (.bool true)) (.t 19))⟩])
 (.cond (.t 20)
  (.seq (.reg [
    ⟨(some 21), none, .f (.build [(.int .i64 0), (.int .i64 0), .nilslice] [])⟩,
    ⟨none, none, .x (.st 3 (.t 4) (.t 21))⟩,
    ⟨(some 5), none, .f (.mv (.c (.int .i64 1)))⟩])
  .ret)
  .skip))
 (.seq (.reg [
   ⟨(some 22), none, .f (.fadr 0 (.t 2))⟩,
   ⟨(some 23), none, .f (.ld (.t 22))⟩,
   ⟨(some 24), none, .f (.fadr 1 (.t 2))⟩,
   ⟨(some 25), none, .f (.ld (.t 24))⟩,
   ⟨(some 26), none, .f (.build [(.int .i64 0), (.int .i64 0), .nilslice] [(0, 1, (.t 23)), (1, 1, (.t 25))])⟩,
   ⟨(some 6), none, .x (.zero 40 3 [(.int .i64 0), (.int .i64 0), .nilslice])⟩,
   ⟨none, none, .x (.st 3 (.t 6) (.t 26))⟩])
 (.seq (.reg [
   ⟨(some 7), none, .f (.mv (.c (.int .i64 0)))⟩])
 (.seq (.seq (.reg [
   ⟨(some 8), none, .f (.mv (.c (.int .i64 0)))⟩])
 (.block 0 (.loop (.seq (.seq (.reg [
     ⟨(some 27), none, .f (.mv (.t 8))⟩,
     ⟨(some 28), none, .f (.fadr 2 (.t 2))⟩,
     ⟨(some 29), none, .f (.ld (.t 28))⟩,
     ⟨(some 30), none, .f (.len (.t 29))⟩,
     ⟨(some 31), none, .f (.bin .lss (.t 27) (.t 30))⟩])
   (.cond (.t 31)
    .skip
    (.exit 0)))
   (.seq (.block 1 (.dreg [
      ⟨(some 34), none, .f (.mv (.t 7))⟩,
      ⟨(some 35), none, .f (.fadr 2 (.t 2))⟩,
      ⟨(some 36), none, .f (.ld (.t 35))⟩,
      ⟨(some 37), none, .f (.mv (.t 8))⟩,
      ⟨(some 38), none, .f (.iadr 6 (.t 36) (.t 37))⟩,
      ⟨(some 39), none, .f (.fadr 1 (.t 38))⟩,
      ⟨(some 40), none, .f (.ld (.t 39))⟩,
      ⟨(some 41), none, .f (.fadr 2 (.t 2))⟩,
      ⟨(some 42), none, .f (.ld (.t 41))⟩,
      ⟨(some 43), none, .f (.mv (.t 8))⟩,
      ⟨(some 44), none, .f (.iadr 6 (.t 42) (.t 43))⟩,
      ⟨(some 45), none, .f (.fadr 0 (.t 44))⟩,
      ⟨(some 46), none, .f (.ld (.t 45))⟩,
      ⟨(some 47), none, .f (.bin .sub (.t 40) (.t 46))⟩,
      ⟨(some 48), none, .f (.mv (.t 1))⟩,
      ⟨(some 49), none, .f (.bin .add (.t 47) (.t 48))⟩,
      ⟨(some 50), none, .f (.bin .sub (.t 49) (.c (.int .i64 1)))⟩,
      ⟨(some 51), none, .f (.mv (.t 1))⟩,
      ⟨(some 52), none, .f (.bin .quo (.t 50) (.t 51))⟩,
      ⟨(some 53), none, .f (.bin .add (.t 34) (.t 52))⟩,
      ⟨(some 7), none, .f (.mv (.t 53))⟩]
      [false, false, false, false, false, false, false, false, false, false, false, false, false, false, false, false, false, false, false, false, true] [[], [], [1], [], [2, 1, 3], [4, 2, 1, 3], [5, 4, 2, 1, 3], [], [7], [], [8, 7, 9], [10, 8, 7, 9], [11, 10, 8, 7, 9], [6, 5, 4, 2, 1, 3, 12, 11, 10, 8, 7, 9], [], [13, 6, 5, 4, 2, 1, 3, 12, 11, 10, 8, 7, 9, 14], [15, 13, 6, 5, 4, 2, 1, 3, 12, 11, 10, 8, 7, 9, 14], [], [16, 15, 13, 6, 5, 4, 2, 1, 3, 12, 11, 10, 8, 7, 9, 14, 17], [0, 18, 16, 15, 13, 6, 5, 4, 2, 1, 3, 12, 11, 10, 8, 7, 9, 14, 17], [19, 0, 18, 16, 15, 13, 6, 5, 4, 2, 1, 3, 12, 11, 10, 8, 7, 9, 14, 17]] [0, 1, 2, 3, 4, 5, 6, 7, 8, 9, 10, 11, 12, 13, 14, 15, 16, 17, 18, 19, 20]))
   (.reg [
     ⟨(some 32), none, .f (.mv (.t 8))⟩,
     ⟨(some 33), none, .f (.bin .add (.t 32) (.c (.int .i64 1)))⟩,
     ⟨(some 8), none, .f (.mv (.t 33))⟩]))))))
 (.seq (.seq (.reg [
   ⟨(some 54), none, .f (.mv (.t 7))⟩,
   ⟨(some 55), none, .f (.bin .gtr (.t 54) (.c (.int .i64 4096)))⟩])
 (.cond (.t 55)
  (.seq (.reg [
    ⟨(some 56), none, .f (.build [(.int .i64 0), (.int .i64 0), .nilslice] [])⟩,
    ⟨none, none, .x (.st 3 (.t 4) (.t 56))⟩,
    ⟨(some 5), none, .f (.mv (.c (.int .i64 18)))⟩])
  .ret)
  .skip))
 (.seq (.seq (.reg [
   ⟨(some 9), none, .f (.mv (.c (.int .i64 0)))⟩])
 (.block 2 (.loop (.seq (.seq (.reg [
     ⟨(some 57), none, .f (.mv (.t 9))⟩,
     ⟨(some 58), none, .f (.fadr 2 (.t 2))⟩,
     ⟨(some 59), none, .f (.ld (.t 58))⟩,
     ⟨(some 60), none, .f (.len (.t 59))⟩,
     ⟨(some 61), none, .f (.bin .lss (.t 57) (.t 60))⟩])
   (.cond (.t 61)
    .skip
    (.exit 2)))
   (.seq (.block 3 (.seq (.reg [
      ⟨(some 64), none, .f (.fadr 2 (.t 2))⟩,
      ⟨(some 65), none, .f (.ld (.t 64))⟩,
      ⟨(some 66), none, .f (.mv (.t 9))⟩,
      ⟨(some 67), none, .f (.iadr 6 (.t 65) (.t 66))⟩,
      ⟨(some 68), none, .f (.ldA 6 (.t 67))⟩,
      ⟨(some 10), none, .x (.zero 113 6 [(.int .i64 0), (.int .i64 0), (.int .i64 0), (.int .i64 0), (.bool false), (.bool false)])⟩,
      ⟨none, none, .x (.st 6 (.t 10) (.t 68))⟩])
    (.seq (.reg [
      ⟨(some 69), none, .f (.fadr 0 (.t 10))⟩,
      ⟨(some 70), none, .f (.ld (.t 69))⟩,
      ⟨(some 11), none, .f (.mv (.t 70))⟩])
    (.block 4 (.loop (.seq (.seq (.reg [
        ⟨(some 71), none, .f (.mv (.t 11))⟩,
        ⟨(some 72), none, .f (.fadr 1 (.t 10))⟩,
        ⟨(some 73), none, .f (.ld (.t 72))⟩,
        ⟨(some 74), none, .f (.bin .lss (.t 71) (.t 73))⟩])
      (.cond (.t 74)
       .skip
       (.exit 4)))
      (.seq (.block 5 (.seq (.reg [
         ⟨(some 78), none, .f (.ldA 6 (.t 10))⟩,
         ⟨(some 12), none, .x (.zero 113 6 [(.int .i64 0), (.int .i64 0), (.int .i64 0), (.int .i64 0), (.bool false), (.bool false)])⟩,
         ⟨none, none, .x (.st 6 (.t 12) (.t 78))⟩])
       (.seq (.reg [
         ⟨(some 79), none, .f (.mv (.t 11))⟩,
         ⟨(some 80), none, .f (.fadr 0 (.t 12))⟩,
         ⟨none, none, .x (.st 1 (.t 80) (.t 79))⟩])
       (.seq (.reg [
         ⟨(some 81), none, .f (.mv (.t 11))⟩,
         ⟨(some 82), none, .f (.mv (.t 1))⟩,
         ⟨(some 83), none, .f (.bin .add (.t 81) (.t 82))⟩,
         ⟨(some 84), none, .f (.fadr 1 (.t 10))⟩,
         ⟨(some 85), none, .f (.ld (.t 84))⟩,
         ⟨(some 86), none, .x (.call 79 [(.t 83), (.t 85)])⟩,
         ⟨(some 87), none, .f (.fadr 1 (.t 12))⟩,
         ⟨none, none, .x (.st 1 (.t 87) (.t 86))⟩])
       (.reg [
         ⟨(some 88), none, .f (.fadr 2 (.t 6))⟩,
         ⟨(some 89), none, .f (.ld (.t 88))⟩,
         ⟨(some 90), none, .f (.ldA 6 (.t 12))⟩,
         ⟨(some 91), none, .x (.bslice 113 6 [(.int .i64 0), (.int .i64 0), (.int .i64 0), (.int .i64 0), (.bool false), (.bool false)] 1 [(0, (.t 90))])⟩,
         ⟨(some 92), none, .x (.app 113 6 40 (.t 89) (.t 91))⟩,
         ⟨(some 93), none, .f (.fadr 2 (.t 6))⟩,
         ⟨none, none, .x (.st 1 (.t 93) (.t 92))⟩])))))
      (.reg [
        ⟨(some 75), none, .f (.mv (.t 11))⟩,
        ⟨(some 76), none, .f (.mv (.t 1))⟩,
        ⟨(some 77), none, .f (.bin .add (.t 75) (.t 76))⟩,
        ⟨(some 11), none, .f (.mv (.t 77))⟩]))))))))
   (.reg [
     ⟨(some 62), none, .f (.mv (.t 9))⟩,
     ⟨(some 63), none, .f (.bin .add (.t 62) (.c (.int .i64 1)))⟩,
     ⟨(some 9), none, .f (.mv (.t 63))⟩]))))))
 (.seq (.reg [
   ⟨(some 94), none, .f (.ldA 3 (.t 6))⟩,
   ⟨none, none, .x (.st 3 (.t 4) (.t 94))⟩,
   ⟨(some 5), none, .f (.mv (.c (.int .i64 0)))⟩])
 .ret))))))))
theorem ok35 : fnComp Try.prog 35 = some (95, c35, [(.ldA 3 (.t 4)), (.mv (.t 5))]) := by kernel_rfl

/-- loop.example/g00003/impl.BoardSplit -/
def c36 : CC :=
 (.seq (.reg [
   ⟨(some 2), none, .x (.box 40 3 (.t 0))⟩,
   ⟨(some 4), none, .x (.zero 40 3 [(.int .i64 0), (.int .i64 0), .nilslice])⟩,
   ⟨(some 5), none, .f (.mv (.c (.int .i64 0)))⟩])
 (.seq (.seq (.reg [
   ⟨(some 7), none, .f (.ldA 3 (.t 2))⟩,
   ⟨(some 8), none, .x (.call 69 [(.t 7)])⟩,
   ⟨(some 9), none, .f (.un .not (.t 8))⟩,
   ⟨(some 10), none, .f (.mv (.t 9))⟩,
   ⟨(some 11), (some (10, false)), .f (.mv (.t 1))⟩,
   ⟨(some 12), (some (10, false)), .f (.bin .lss (.t 11) (.c (.int .i64 1)))⟩,
   ⟨(some 13), none, .f (.pick (.t 10) (.c (.bool true)) (.t 12))⟩,
   ⟨(some 14), none, .f (.mv (.t 13))⟩,
   ⟨(some 15), (some (14, false)), .f (.mv (.t 1))⟩,
   ⟨(some 16), (some (14, false)), .f (.bin .gtr (.t 15) (.c (.int .i64 65535)))⟩,
   ⟨(some 17), none, .f (.pick (.t 14) (.c (.bool true)) (.t 16))⟩])
 (.cond (.t 17)
  (.seq (.reg [
    ⟨(some 18), none, .f (.build [(.int .i64 0), (.int .i64 0), .nilslice] [])⟩,
    ⟨none, none, .x (.st 3 (.t 4) (.t 18))⟩,
    ⟨(some 5), none, .f (.mv (.c (.int .i64 1)))⟩])
  .ret)
  .skip))
 (.seq (.reg [
   ⟨(some 19), none, .f (.ldA 3 (.t 2))⟩,
   ⟨(some 20), none, .x (.call 73 [(.t 19)])⟩,
   ⟨(some 21), none, .f (.build [(.int .i64 0), (.int .i64 0), .nilslice] [(0, 3, (.t 20))])⟩,
   ⟨(some 6), none, .x (.zero 116 3 [(.int .i64 0), (.int .i64 0), .nilslice])⟩,
   ⟨none, none, .x (.st 3 (.t 6) (.t 21))⟩])
 (.seq (.seq (.reg [
   ⟨(some 22), none, .f (.mv (.t 1))⟩,
   ⟨(some 23), none, .x (.call 80 [(.t 6), (.t 22)])⟩,
   ⟨(some 24), none, .f (.un .not (.t 23))⟩])
 (.cond (.t 24)
  (.seq (.reg [
    ⟨(some 25), none, .f (.build [(.int .i64 0), (.int .i64 0), .nilslice] [])⟩,
    ⟨none, none, .x (.st 3 (.t 4) (.t 25))⟩,
    ⟨(some 5), none, .f (.mv (.c (.int .i64 18)))⟩])
  .ret)
  .skip))
 (.seq (.reg [
   ⟨(some 26), none, .f (.fadr 0 (.t 6))⟩,
   ⟨(some 27), none, .f (.ldA 3 (.t 26))⟩,
   ⟨none, none, .x (.st 3 (.t 4) (.t 27))⟩,
   ⟨(some 5), none, .f (.mv (.c (.int .i64 0)))⟩])
 .ret)))))
theorem ok36 : fnComp Try.prog 36 = some (28, c36, [(.ldA 3 (.t 4)), (.mv (.t 5))]) := by kernel_rfl

/-- loop.example/g00003/spec.l14Min -/
def c79 : CC :=
 (.seq (.reg [
   ⟨(some 4), none, .f (.mv (.c (.int .i64 0)))⟩])
 (.seq (.seq (.reg [
   ⟨(some 5), none, .f (.mv (.t 0))⟩,
   ⟨(some 6), none, .f (.mv (.t 1))⟩,
   ⟨(some 7), none, .f (.bin .lss (.t 5) (.t 6))⟩])
 (.cond (.t 7)
  (.seq (.reg [
    ⟨(some 8), none, .f (.mv (.t 0))⟩,
    ⟨(some 4), none, .f (.mv (.t 8))⟩])
  .ret)
  .skip))
 (.seq (.reg [
   ⟨(some 9), none, .f (.mv (.t 1))⟩,
   ⟨(some 4), none, .f (.mv (.t 9))⟩])
 .ret)))
theorem ok79 : fnComp Try.prog 79 = some (10, c79, [(.mv (.t 4))]) := by kernel_rfl

/-- (*loop.example/g00003/impl.board).split -/
def c80 : CC :=
 (.seq (.reg [
   ⟨(some 4), none, .f (.mv (.c (.bool false)))⟩])
 (.seq (.reg [
   ⟨(some 5), none, .f (.mv (.c .nilslice))⟩])
 (.seq (.seq (.reg [
   ⟨(some 9), none, .f (.mv (.t 0))⟩,
   ⟨(some 10), none, .f (.nck (.t 9))⟩,
   ⟨(some 11), none, .f (.fadr 0 (.t 10))⟩,
   ⟨(some 12), none, .f (.fadr 2 (.t 11))⟩,
   ⟨(some 13), none, .f (.ld (.t 12))⟩,
   ⟨(some 14), none, .f (.len (.t 13))⟩,
   ⟨(some 15), none, .f (.mv (.c (.int .i64 0)))⟩])
 (.block 0 (.loop (.seq (.reg [
     ⟨(some 16), none, .f (.bin .lss (.t 15) (.t 14))⟩])
   (.seq (.cond (.t 16)
    .skip
    (.exit 0))
   (.seq (.block 1 (.seq (.reg [
      ⟨(some 17), none, .f (.iadr 6 (.t 13) (.t 15))⟩,
      ⟨(some 18), none, .f (.ldA 6 (.t 17))⟩,
      ⟨(some 7), none, .x (.zero 113 6 [(.int .i64 0), (.int .i64 0), (.int .i64 0), (.int .i64 0), (.bool false), (.bool false)])⟩,
      ⟨none, none, .x (.st 6 (.t 7) (.t 18))⟩])
    (.seq (.block 2 (.loop (.seq (.seq (.reg [
        ⟨(some 19), none, .f (.fadr 1 (.t 7))⟩,
        ⟨(some 20), none, .f (.ld (.t 19))⟩,
        ⟨(some 21), none, .f (.fadr 0 (.t 7))⟩,
        ⟨(some 22), none, .f (.ld (.t 21))⟩,
        ⟨(some 23), none, .f (.bin .sub (.t 20) (.t 22))⟩,
        ⟨(some 24), none, .f (.mv (.t 1))⟩,
        ⟨(some 25), none, .f (.bin .gtr (.t 23) (.t 24))⟩])
      (.cond (.t 25)
       .skip
       (.exit 2)))
      (.block 3 (.seq (.reg [
         ⟨(some 26), none, .f (.ldA 6 (.t 7))⟩,
         ⟨(some 8), none, .x (.zero 113 6 [(.int .i64 0), (.int .i64 0), (.int .i64 0), (.int .i64 0), (.bool false), (.bool false)])⟩,
         ⟨none, none, .x (.st 6 (.t 8) (.t 26))⟩])
       (.seq (.reg [
         ⟨(some 27), none, .f (.fadr 0 (.t 7))⟩,
         ⟨(some 28), none, .f (.ld (.t 27))⟩,
         ⟨(some 29), none, .f (.mv (.t 1))⟩,
         ⟨(some 30), none, .f (.bin .add (.t 28) (.t 29))⟩,
         ⟨(some 31), none, .f (.fadr 1 (.t 8))⟩,
         ⟨none, none, .x (.st 1 (.t 31) (.t 30))⟩])
       (.seq (.reg [
         ⟨(some 32), none, .f (.fadr 1 (.t 8))⟩,
         ⟨(some 33), none, .f (.ld (.t 32))⟩,
         ⟨(some 34), none, .f (.fadr 0 (.t 7))⟩,
         ⟨none, none, .x (.st 1 (.t 34) (.t 33))⟩])
       (.seq (.reg [
         ⟨(some 35), none, .f (.mv (.t 5))⟩,
         ⟨(some 36), none, .f (.ldA 6 (.t 8))⟩,
         ⟨(some 37), none, .x (.bslice 113 6 [(.int .i64 0), (.int .i64 0), (.int .i64 0), (.int .i64 0), (.bool false), (.bool false)] 1 [(0, (.t 36))])⟩,
         ⟨(some 38), none, .x (.app 113 6 40 (.t 35) (.t 37))⟩,
         ⟨(some 5), none, .f (.mv (.t 38))⟩])
       (.seq (.reg [
         ⟨(some 39), none, .f (.mv (.t 5))⟩,
         ⟨(some 40), none, .f (.len (.t 39))⟩,
         ⟨(some 41), none, .f (.bin .gtr (.t 40) (.c (.int .i64 4096)))⟩])
       (.cond (.t 41)
        (.seq (.reg [
          ⟨(some 4), none, .f (.mv (.c (.bool false)))⟩])
        .ret)
        .skip))))))))))
    (.reg [
      ⟨(some 42), none, .f (.mv (.t 5))⟩,
      ⟨(some 43), none, .f (.ldA 6 (.t 7))⟩,
      ⟨(some 44), none, .x (.bslice 113 6 [(.int .i64 0), (.int .i64 0), (.int .i64 0), (.int .i64 0), (.bool false), (.bool false)] 1 [(0, (.t 43))])⟩,
      ⟨(some 45), none, .x (.app 113 6 40 (.t 42) (.t 44))⟩,
      ⟨(some 5), none, .f (.mv (.t 45))⟩]))))
   (.reg [
     ⟨(some 46), none, .f (.bin .add (.t 15) (.c (.int .i64 1)))⟩,
     ⟨(some 15), none, .f (.mv (.t 46))⟩])))))))
 (.seq (.seq (.reg [
   ⟨(some 47), none, .f (.mv (.t 5))⟩,
   ⟨(some 48), none, .f (.len (.t 47))⟩,
   ⟨(some 49), none, .f (.bin .gtr (.t 48) (.c (.int .i64 4096)))⟩])
 (.cond (.t 49)
  (.seq (.reg [
    ⟨(some 4), none, .f (.mv (.c (.bool false)))⟩])
  .ret)
  .skip))
 (.seq (.reg [
   ⟨(some 50), none, .f (.mv (.t 0))⟩,
   ⟨(some 51), none, .f (.mv (.t 5))⟩,
   ⟨(some 52), none, .f (.nck (.t 50))⟩,
   ⟨(some 53), none, .f (.fadr 0 (.t 52))⟩,
   ⟨(some 54), none, .f (.fadr 2 (.t 53))⟩,
   ⟨none, none, .x (.st 1 (.t 54) (.t 51))⟩])
 (.seq (.reg [
   ⟨(some 4), none, .f (.mv (.c (.bool true)))⟩])
 .ret))))))
theorem ok80 : fnComp Try.prog 80 = some (55, c80, [(.mv (.t 4))]) := by kernel_rfl

/-- loop.example/g00003/spec.l14Max -/
def c81 : CC :=
 (.seq (.reg [
   ⟨(some 4), none, .f (.mv (.c (.int .i64 0)))⟩])
 (.seq (.seq (.reg [
   ⟨(some 5), none, .f (.mv (.t 0))⟩,
   ⟨(some 6), none, .f (.mv (.t 1))⟩,
   ⟨(some 7), none, .f (.bin .gtr (.t 5) (.t 6))⟩])
 (.cond (.t 7)
  (.seq (.reg [
    ⟨(some 8), none, .f (.mv (.t 0))⟩,
    ⟨(some 4), none, .f (.mv (.t 8))⟩])
  .ret)
  .skip))
 (.seq (.reg [
   ⟨(some 9), none, .f (.mv (.t 1))⟩,
   ⟨(some 4), none, .f (.mv (.t 9))⟩])
 .ret)))
theorem ok81 : fnComp Try.prog 81 = some (10, c81, [(.mv (.t 4))]) := by kernel_rfl

end Go.Proofs.Ytecljenjlncfhaa

namespace Go.Proofs.Ytecljenjlncfhaa
open Go Go.IW

/-- All but an object and what v names is as before. -/
structure But (b : Nat) (v : IV) (h h' : IH) : Prop where
  le : h.n ≤ h'.n
  obj : ∀ m, m < h.n → m ≠ b → ¬ v.at_ m → h'.obj m = h.obj m
theorem But.refl (b : Nat) (v : IV) (h : IH) : But b v h h := ⟨Nat.le_refl _, fun _ _ _ _ => rfl⟩
theorem But.ext {a b c : IH} {p lo hi el sz : Nat} {w : IV} {rs : List (List IV)} (t : But p w b c) (e : Ext a b) (hw : Own lo hi b el sz w rs) (hlo : a.n ≤ lo) (hp : a.n ≤ p) : Ext a c :=
  ⟨Nat.le_trans e.le t.le, fun l hl => (t.obj l (Nat.lt_of_lt_of_le hl e.le) (by omega) (fun hv => by have := hw.at_ hv; omega)).trans (e.obj l hl)⟩
theorem But.at_ {b c : IH} {p q lo hi el sz : Nat} {w : IV} {rs : List (List IV)} {o : IObj} (t : But p w b c) (a : At b q o) (hw : Own lo hi b el sz w rs) (hq : q < lo ∨ hi ≤ q) (hp : q ≠ p) : At c q o :=
  ⟨Nat.lt_of_lt_of_le a.lt t.le, (t.obj q a.lt hp (fun hv => by have := hw.at_ hv; omega)).trans a.eq⟩

def newP (nxt n at_ : Int) : Piece := ⟨nxt, nxt + n, at_, 1, false, false⟩

set_option maxRecDepth 20000 in
theorem send_c {lo hi : Nat} (h : IH) (b e0 : Nat) (v : IV) (una nxt n at_ : Int) (ps : List Piece) (hb : At h b (.rows [[.int .i64 una, .int .i64 nxt, v]] e0 3 false)) (hd : b < lo ∨ hi ≤ b)
    (ho : Own lo hi h 113 6 v (ps.map Piece.row)) (hm : ps.length ≤ 4096) (hx : 0 ≤ nxt ∧ nxt ≤ 1099511627776) (hn : 1 ≤ n ∧ n ≤ 65535) :
    ICalls Try.prog 78 [.ptr b 0 0, .int .i64 n, .int .i64 at_] h fun r h' => if 4096 ≤ ps.length ∨ 1099511627776 < nxt + n then r = .bool false ∧ h' = h else
      r = .bool true ∧ ∃ v', At h' b (.rows [[.int .i64 una, .int .i64 (nxt + n), v']] e0 3 false) ∧ Own h.n h'.n h' 113 6 v' ((ps ++ [newP nxt n at_]).map Piece.row) ∧ But b v h h' := by
  refine icalls (.of ok78) (Nat.le_of_ble_eq_true rfl) ?_
  unfold c78
  have hlen := ho.lenF
  rw [List.length_map] at hlen
  have hbe := hb.eq
  have hw1 : wr .i64 (nxt + n) = nxt + n := wr64 _ (by omega)
  have hnb : (b = h.n) = False := by have := hb.lt; simp; omega
  by_cases c1 : (4096 : Int) ≤ ps.length
  · have d1 : decide ((4096 : Int) ≤ ps.length) = true := by simpa using c1
    simp only [hbe, hlen, d1, go_sem, Hold.p, HoldK.k, HoldL.K, HoldL.body, Nat.reduceBEq, Nat.reduceAdd, List.getElem?_cons_zero, List.getElem?_cons_succ, Option.bind_some, List.map_cons, List.map_nil, Nat.zero_add, if_true, List.getD_cons_zero, List.getD_cons_succ, List.contains_cons, List.contains_nil, Nat.reduceBEq, Bool.or_true, Bool.true_or, Bool.or_false, Bool.false_or, Bool.not_true, Bool.not_false, true_and, and_true, rowA_whole, push_n, set_n, push_obj, set_obj, set_push, set_push_ne, set_set, Nat.add_assoc, Nat.left_eq_add, Nat.add_eq_left, Nat.add_left_cancel_iff, Nat.reduceEqDiff, stO_1s, stO_ws, boxA_s, one_bool, one_int, one_str, one_ptr, one_nilptr, one_slice, one_eslice, one_nilslice, one_func, one_iface, one_niliface, List.all_cons, List.all_nil, List.length_cons, List.length_nil, Nat.reduceLT, Nat.reduceEqDiff, Nat.reduceLeDiff, Bool.and_true, Nat.one_ne_zero, Nat.succ_ne_zero, reduceIte, if_false, List.getElem?_cons_zero, List.set_cons_zero, List.set_cons_succ]
    rw [if_pos (.inl (by omega))]
    trivial
  · have d1 : decide ((4096 : Int) ≤ ps.length) = false := by simpa using c1
    by_cases c2 : 1099511627776 < nxt + n
    · have d2 : decide (1099511627776 < nxt + n) = true := by simpa using c2
      simp only [hbe, hlen, d1, hw1, d2, go_sem, Hold.p, HoldK.k, HoldL.K, HoldL.body, Nat.reduceBEq, Nat.reduceAdd, List.getElem?_cons_zero, List.getElem?_cons_succ, Option.bind_some, List.map_cons, List.map_nil, Nat.zero_add, if_true, List.getD_cons_zero, List.getD_cons_succ, List.contains_cons, List.contains_nil, Nat.reduceBEq, Bool.or_true, Bool.true_or, Bool.or_false, Bool.false_or, Bool.not_true, Bool.not_false, true_and, and_true, rowA_whole, push_n, set_n, push_obj, set_obj, set_push, set_push_ne, set_set, Nat.add_assoc, Nat.left_eq_add, Nat.add_eq_left, Nat.add_left_cancel_iff, Nat.reduceEqDiff, stO_1s, stO_ws, boxA_s, one_bool, one_int, one_str, one_ptr, one_nilptr, one_slice, one_eslice, one_nilslice, one_func, one_iface, one_niliface, List.all_cons, List.all_nil, List.length_cons, List.length_nil, Nat.reduceLT, Nat.reduceEqDiff, Nat.reduceLeDiff, Bool.and_true, Nat.one_ne_zero, Nat.succ_ne_zero, reduceIte, if_false, List.getElem?_cons_zero, List.set_cons_zero, List.set_cons_succ]
      rw [if_pos (.inr c2)]
      trivial
    · have d2 : decide (1099511627776 < nxt + n) = false := by simpa using c2
      simp only [hbe, hlen, d1, hw1, d2, hnb, go_sem, Hold.p, HoldK.k, HoldL.K, HoldL.body, Nat.reduceBEq, Nat.reduceAdd, List.getElem?_cons_zero, List.getElem?_cons_succ, Option.bind_some, List.map_cons, List.map_nil, Nat.zero_add, if_true, List.getD_cons_zero, List.getD_cons_succ, List.contains_cons, List.contains_nil, Nat.reduceBEq, Bool.or_true, Bool.true_or, Bool.or_false, Bool.false_or, Bool.not_true, Bool.not_false, true_and, and_true, rowA_whole, push_n, set_n, push_obj, set_obj, set_push, set_push_ne, set_set, Nat.add_assoc, Nat.left_eq_add, Nat.add_eq_left, Nat.add_left_cancel_iff, Nat.reduceEqDiff, stO_1s, stO_ws, boxA_s, one_bool, one_int, one_str, one_ptr, one_nilptr, one_slice, one_eslice, one_nilslice, one_func, one_iface, one_niliface, List.all_cons, List.all_nil, List.length_cons, List.length_nil, Nat.reduceLT, Nat.reduceEqDiff, Nat.reduceLeDiff, Bool.and_true, Nat.one_ne_zero, Nat.succ_ne_zero, reduceIte, if_false, List.getElem?_cons_zero, List.set_cons_zero, List.set_cons_succ]
      refine got_of (v := .agg (newP nxt n at_).row) rfl ?_
      simp only [hbe, hlen, d1, hw1, d2, hnb, newP, Piece.row, go_sem, Hold.p, HoldK.k, HoldL.K, HoldL.body, Nat.reduceBEq, Nat.reduceAdd, List.getElem?_cons_zero, List.getElem?_cons_succ, Option.bind_some, List.map_cons, List.map_nil, Nat.zero_add, if_true, List.getD_cons_zero, List.getD_cons_succ, List.contains_cons, List.contains_nil, Nat.reduceBEq, Bool.or_true, Bool.true_or, Bool.or_false, Bool.false_or, Bool.not_true, Bool.not_false, true_and, and_true, rowA_whole, push_n, set_n, push_obj, set_obj, set_push, set_push_ne, set_set, Nat.add_assoc, Nat.left_eq_add, Nat.add_eq_left, Nat.add_left_cancel_iff, Nat.reduceEqDiff, stO_1s, stO_ws, boxA_s, one_bool, one_int, one_str, one_ptr, one_nilptr, one_slice, one_eslice, one_nilslice, one_func, one_iface, one_niliface, List.all_cons, List.all_nil, List.length_cons, List.length_nil, Nat.reduceLT, Nat.reduceEqDiff, Nat.reduceLeDiff, Bool.and_true, Nat.one_ne_zero, Nat.succ_ne_zero, reduceIte, if_false, List.getElem?_cons_zero, List.set_cons_zero, List.set_cons_succ]
      generalize hq_g0 : IH.push h (IObj.rows [[.int .i64 nxt, .int .i64 (nxt + n), .int .i64 at_, .int .i64 1, .bool false, .bool false]] 113 6 false) = g0
      have e_g0 : Ext h g0 := by rw [← hq_g0]; exact (Ext.refl _).push _
      have l_g0 : g0.n = h.n + 1 := by rw [← hq_g0]; rfl
      have bN : At g0 h.n (IObj.rows [[.int .i64 nxt, .int .i64 (nxt + n), .int .i64 at_, .int .i64 1, .bool false, .bool false]] 113 6 false) := by rw [← hq_g0]; exact At.new _ _
      clear hq_g0
      have hb := hb.ext e_g0
      have ho := ho.ext e_g0
      have hle := e_g0.le
      refine ho.app (by simp) (by simp; omega) ?_
      intro v' h2 o2 t2 n2 v1 vc
      have b2 := hb.turn ho (by omega) t2
      have b2e := b2.eq
      have b2l := b2.lt
      simp only [b2e, vc, v1, hw1, go_sem, Hold.p, HoldK.k, HoldL.K, HoldL.body, Nat.reduceBEq, Nat.reduceAdd, List.getElem?_cons_zero, List.getElem?_cons_succ, Option.bind_some, List.map_cons, List.map_nil, Nat.zero_add, if_true, List.getD_cons_zero, List.getD_cons_succ, List.contains_cons, List.contains_nil, Nat.reduceBEq, Bool.or_true, Bool.true_or, Bool.or_false, Bool.false_or, Bool.not_true, Bool.not_false, true_and, and_true, rowA_whole, push_n, set_n, push_obj, set_obj, set_push, set_push_ne, set_set, Nat.add_assoc, Nat.left_eq_add, Nat.add_eq_left, Nat.add_left_cancel_iff, Nat.reduceEqDiff, stO_1s, stO_ws, boxA_s, one_bool, one_int, one_str, one_ptr, one_nilptr, one_slice, one_eslice, one_nilslice, one_func, one_iface, one_niliface, List.all_cons, List.all_nil, List.length_cons, List.length_nil, Nat.reduceLT, Nat.reduceEqDiff, Nat.reduceLeDiff, Bool.and_true, Nat.one_ne_zero, Nat.succ_ne_zero, reduceIte, if_false, List.getElem?_cons_zero, List.set_cons_zero, List.set_cons_succ]
      rw [if_neg (by omega)]
      refine ⟨v', ⟨(by first | omega | (simp only [set_n, push_n, put_n] at *; omega)), set_here _ _ _⟩, ?_, ?_⟩
      · have : (ps ++ [newP nxt n at_]).map Piece.row = ps.map Piece.row ++ [[.int .i64 nxt, .int .i64 (nxt + n), .int .i64 at_, .int .i64 1, .bool false, .bool false]] := by simp [newP, Piece.row]
        simp only [newP, Piece.row] at this ⊢
        rw [this]
        have hbl := hb.lt
        exact (o2.set (m := b) (.inl (by omega)) _).wide (by omega) (by omega) (Nat.le_refl _)
      · refine ⟨(by first | omega | (simp only [set_n, push_n, put_n] at *; omega)), fun m hm hmb hv => ?_⟩
        rw [set_there _ _ _ _ hmb, t2.obj m (by omega) hv, e_g0.obj m hm]

/-- What BoardSend answers: una, nxt, pieces, code. -/
def sendB (una nxt : Int) (ps : List Piece) (n at_ : Int) : Int × Int × List Piece × Int :=
  if okB una nxt ps ∧ (1 ≤ n ∧ n ≤ 65535) ∧ 0 ≤ at_ ∧ at_ ≤ 1000000000 then
    if 4096 ≤ ps.length ∨ 1099511627776 < nxt + n then (0, 0, [], 18) else (una, nxt + n, ps ++ [newP nxt n at_], 0)
  else (0, 0, [], 1)
/-- A board, and a code. -/
def BRes (h h' : IH) (r : IV) (x : Int × Int × List Piece × Int) : Prop :=
  ∃ v', r = .tuple [.agg [.int .i64 x.1, .int .i64 x.2.1, v'], .int .i64 x.2.2.2] ∧ Own h.n h'.n h' 113 6 v' (x.2.2.1.map Piece.row) ∧ Ext h h'

set_option maxRecDepth 20000 in
theorem implBoardSend_c (h : IH) (v : IV) (una nxt n at_ : Int) (ps : List Piece) (hs : SlR h 6 v (ps.map Piece.row)) :
    ICalls Try.prog 34 [.agg [.int .i64 una, .int .i64 nxt, v], .int .i64 n, .int .i64 at_] h fun r h' => BRes h h' r (sendB una nxt ps n at_) := by
  refine icalls (.of ok34) (Nat.le_of_ble_eq_true rfl) ?_
  unfold c34
  have hv1 := hs.one
  have hE : ∀ a b, Ext h ((h.push a).push b) := fun a b => (Ext.refl _).push _ |>.push _
  simp only [hv1, go_sem, Hold.p, HoldK.k, HoldL.K, HoldL.body, Nat.reduceBEq, Nat.reduceAdd, List.getElem?_cons_zero, List.getElem?_cons_succ, Option.bind_some, List.map_cons, List.map_nil, Nat.zero_add, if_true, List.getD_cons_zero, List.getD_cons_succ, List.contains_cons, List.contains_nil, Nat.reduceBEq, Bool.or_true, Bool.true_or, Bool.or_false, Bool.false_or, Bool.not_true, Bool.not_false, true_and, and_true, rowA_whole, push_n, set_n, push_obj, set_obj, set_push, set_push_ne, set_set, Nat.add_assoc, Nat.left_eq_add, Nat.add_eq_left, Nat.add_left_cancel_iff, Nat.reduceEqDiff, stO_1s, stO_ws, boxA_s, one_bool, one_int, one_str, one_ptr, one_nilptr, one_slice, one_eslice, one_nilslice, one_func, one_iface, one_niliface, List.all_cons, List.all_nil, List.length_cons, List.length_nil, Nat.reduceLT, Nat.reduceEqDiff, Nat.reduceLeDiff, Bool.and_true, Nat.one_ne_zero, Nat.succ_ne_zero, reduceIte, if_false, List.getElem?_cons_zero, List.set_cons_zero, List.set_cons_succ]
  refine callA_of (okBoard_c _ una nxt v ps (hs.ext (hE _ _))) ?_
  rintro r h1 ⟨rfl, hE1⟩
  have b0 := hE1.obj h.n (by simp only [push_n]; omega)
  have b1 := hE1.obj (h.n + 1) (by simp only [push_n]; omega)
  simp [push_obj, push_n] at b0 b1
  have hl1 := hE1.le
  simp only [push_n] at hl1
  have bad : ∀ (o : IObj) c, (sendB una nxt ps n at_) = (0, 0, [], c) → BRes h (h1.set (h.n + 1) o) (.tuple [.agg [.int .i64 0, .int .i64 0, .nilslice], .int .i64 c]) (sendB una nxt ps n at_) := by
    intro o c e
    rw [e]
    exact ⟨.nilslice, rfl, Own.nil, ((hE _ _).trans hE1).set _ (by omega) _⟩
  by_cases hc : okB una nxt ps = true ∧ (1 ≤ n ∧ n ≤ 65535) ∧ 0 ≤ at_ ∧ at_ ≤ 1000000000
  · obtain ⟨hok, ⟨n1, n2⟩, a1, a2⟩ := hc
    have hdef : sendB una nxt ps n at_ = if 4096 ≤ ps.length ∨ 1099511627776 < nxt + n then (0, 0, [], 18) else (una, nxt + n, ps ++ [newP nxt n at_], 0) := if_pos ⟨hok, ⟨n1, n2⟩, a1, a2⟩
    have q1 : decide (n < 1) = false := by simp; omega
    have q2 : decide (65535 < n) = false := by simp; omega
    have q3 : decide (at_ < 0) = false := by simp; omega
    have q4 : decide (1000000000 < at_) = false := by simp; omega
    have hm : (ps.map Piece.row).length ≤ 1048576 := by have := (okB_un hok).2.2.2.1; simp; omega
    simp only [hok, hv1, b0, q1, q2, q3, q4, go_sem, Hold.p, HoldK.k, HoldL.K, HoldL.body, Nat.reduceBEq, Nat.reduceAdd, List.getElem?_cons_zero, List.getElem?_cons_succ, Option.bind_some, List.map_cons, List.map_nil, Nat.zero_add, if_true, List.getD_cons_zero, List.getD_cons_succ, List.contains_cons, List.contains_nil, Nat.reduceBEq, Bool.or_true, Bool.true_or, Bool.or_false, Bool.false_or, Bool.not_true, Bool.not_false, true_and, and_true, rowA_whole, push_n, set_n, push_obj, set_obj, set_push, set_push_ne, set_set, Nat.add_assoc, Nat.left_eq_add, Nat.add_eq_left, Nat.add_left_cancel_iff, Nat.reduceEqDiff, stO_1s, stO_ws, boxA_s, one_bool, one_int, one_str, one_ptr, one_nilptr, one_slice, one_eslice, one_nilslice, one_func, one_iface, one_niliface, List.all_cons, List.all_nil, List.length_cons, List.length_nil, Nat.reduceLT, Nat.reduceEqDiff, Nat.reduceLeDiff, Bool.and_true, Nat.one_ne_zero, Nat.succ_ne_zero, reduceIte, if_false, List.getElem?_cons_zero, List.set_cons_zero, List.set_cons_succ]
    refine callA_of (ownBoard_c _ v una nxt _ (hs.ext ((hE _ _).trans hE1)) hm) ?_
    rintro r h2 ⟨v2, rfl, ho2, hE2⟩
    have hl2 := hE2.le
    have hv2 := ho2.one
    have y1 : At h2 (h.n + 1) (.rows [[.int .i64 0, .int .i64 0, .nilslice]] 40 3 false) := ⟨by omega, (hE2.obj _ (by omega)).trans b1⟩
    simp only [hv2, go_sem, Hold.p, HoldK.k, HoldL.K, HoldL.body, Nat.reduceBEq, Nat.reduceAdd, List.getElem?_cons_zero, List.getElem?_cons_succ, Option.bind_some, List.map_cons, List.map_nil, Nat.zero_add, if_true, List.getD_cons_zero, List.getD_cons_succ, List.contains_cons, List.contains_nil, Nat.reduceBEq, Bool.or_true, Bool.true_or, Bool.or_false, Bool.false_or, Bool.not_true, Bool.not_false, true_and, and_true, rowA_whole, push_n, set_n, push_obj, set_obj, set_push, set_push_ne, set_set, Nat.add_assoc, Nat.left_eq_add, Nat.add_eq_left, Nat.add_left_cancel_iff, Nat.reduceEqDiff, stO_1s, stO_ws, boxA_s, one_bool, one_int, one_str, one_ptr, one_nilptr, one_slice, one_eslice, one_nilslice, one_func, one_iface, one_niliface, List.all_cons, List.all_nil, List.length_cons, List.length_nil, Nat.reduceLT, Nat.reduceEqDiff, Nat.reduceLeDiff, Bool.and_true, Nat.one_ne_zero, Nat.succ_ne_zero, reduceIte, if_false, List.getElem?_cons_zero, List.set_cons_zero, List.set_cons_succ]
    refine got_of (v := .agg [.int .i64 una, .int .i64 nxt, v2]) rfl ?_
    simp only [hv2, go_sem, Hold.p, HoldK.k, HoldL.K, HoldL.body, Nat.reduceBEq, Nat.reduceAdd, List.getElem?_cons_zero, List.getElem?_cons_succ, Option.bind_some, List.map_cons, List.map_nil, Nat.zero_add, if_true, List.getD_cons_zero, List.getD_cons_succ, List.contains_cons, List.contains_nil, Nat.reduceBEq, Bool.or_true, Bool.true_or, Bool.or_false, Bool.false_or, Bool.not_true, Bool.not_false, true_and, and_true, rowA_whole, push_n, set_n, push_obj, set_obj, set_push, set_push_ne, set_set, Nat.add_assoc, Nat.left_eq_add, Nat.add_eq_left, Nat.add_left_cancel_iff, Nat.reduceEqDiff, stO_1s, stO_ws, boxA_s, one_bool, one_int, one_str, one_ptr, one_nilptr, one_slice, one_eslice, one_nilslice, one_func, one_iface, one_niliface, List.all_cons, List.all_nil, List.length_cons, List.length_nil, Nat.reduceLT, Nat.reduceEqDiff, Nat.reduceLeDiff, Bool.and_true, Nat.one_ne_zero, Nat.succ_ne_zero, reduceIte, if_false, List.getElem?_cons_zero, List.set_cons_zero, List.set_cons_succ]
    have E2 := ((hE _ _).trans hE1).trans hE2
    generalize hq_g2 : IH.push h2 (IObj.rows [[.int .i64 una, .int .i64 nxt, v2]] 116 3 false) = g2
    have e_g2 : Ext h2 g2 := by rw [← hq_g2]; exact (Ext.refl _).push _
    have l_g2 : g2.n = h2.n + 1 := by rw [← hq_g2]; rfl
    have x2 : At g2 h2.n (IObj.rows [[.int .i64 una, .int .i64 nxt, v2]] 116 3 false) := by rw [← hq_g2]; exact At.new _ _
    clear hq_g2
    have y1 := y1.ext e_g2
    have ho2 := ho2.ext e_g2
    obtain ⟨o1, o2, o3, o4, o5⟩ := okB_un hok
    refine callA_of (send_c _ h2.n 116 v2 una nxt n at_ ps x2 (by omega) ho2 o4 (by omega) ⟨n1, n2⟩) ?_
    intro r h4 hr
    split at hr
    · rename_i hfull
      obtain ⟨rfl, rfl⟩ := hr
      simp only [go_sem, Hold.p, HoldK.k, HoldL.K, HoldL.body, Nat.reduceBEq, Nat.reduceAdd, List.getElem?_cons_zero, List.getElem?_cons_succ, Option.bind_some, List.map_cons, List.map_nil, Nat.zero_add, if_true, List.getD_cons_zero, List.getD_cons_succ, List.contains_cons, List.contains_nil, Nat.reduceBEq, Bool.or_true, Bool.true_or, Bool.or_false, Bool.false_or, Bool.not_true, Bool.not_false, true_and, and_true, rowA_whole, push_n, set_n, push_obj, set_obj, set_push, set_push_ne, set_set, Nat.add_assoc, Nat.left_eq_add, Nat.add_eq_left, Nat.add_left_cancel_iff, Nat.reduceEqDiff, stO_1s, stO_ws, boxA_s, one_bool, one_int, one_str, one_ptr, one_nilptr, one_slice, one_eslice, one_nilslice, one_func, one_iface, one_niliface, List.all_cons, List.all_nil, List.length_cons, List.length_nil, Nat.reduceLT, Nat.reduceEqDiff, Nat.reduceLeDiff, Bool.and_true, Nat.one_ne_zero, Nat.succ_ne_zero, reduceIte, if_false, List.getElem?_cons_zero, List.set_cons_zero, List.set_cons_succ]
      refine got_of (v := .agg [.int .i64 0, .int .i64 0, .nilslice]) rfl ?_
      simp only [y1.eq, go_sem, Hold.p, HoldK.k, HoldL.K, HoldL.body, Nat.reduceBEq, Nat.reduceAdd, List.getElem?_cons_zero, List.getElem?_cons_succ, Option.bind_some, List.map_cons, List.map_nil, Nat.zero_add, if_true, List.getD_cons_zero, List.getD_cons_succ, List.contains_cons, List.contains_nil, Nat.reduceBEq, Bool.or_true, Bool.true_or, Bool.or_false, Bool.false_or, Bool.not_true, Bool.not_false, true_and, and_true, rowA_whole, push_n, set_n, push_obj, set_obj, set_push, set_push_ne, set_set, Nat.add_assoc, Nat.left_eq_add, Nat.add_eq_left, Nat.add_left_cancel_iff, Nat.reduceEqDiff, stO_1s, stO_ws, boxA_s, one_bool, one_int, one_str, one_ptr, one_nilptr, one_slice, one_eslice, one_nilslice, one_func, one_iface, one_niliface, List.all_cons, List.all_nil, List.length_cons, List.length_nil, Nat.reduceLT, Nat.reduceEqDiff, Nat.reduceLeDiff, Bool.and_true, Nat.one_ne_zero, Nat.succ_ne_zero, reduceIte, if_false, List.getElem?_cons_zero, List.set_cons_zero, List.set_cons_succ]
      rw [hdef, if_pos hfull]
      exact ⟨.nilslice, rfl, Own.nil, (E2.trans e_g2).set _ (by omega) _⟩
    · rename_i hfull
      obtain ⟨rfl, v4, z2, o4', ht4⟩ := hr
      have z1 := ht4.at_ y1 ho2 (by omega) (by omega)
      have z1e := z1.eq
      have z2e := z2.eq
      have v4o := o4'.one
      have hl4 := ht4.le
      simp only [z1e, z2e, v4o, go_sem, Hold.p, HoldK.k, HoldL.K, HoldL.body, Nat.reduceBEq, Nat.reduceAdd, List.getElem?_cons_zero, List.getElem?_cons_succ, Option.bind_some, List.map_cons, List.map_nil, Nat.zero_add, if_true, List.getD_cons_zero, List.getD_cons_succ, List.contains_cons, List.contains_nil, Nat.reduceBEq, Bool.or_true, Bool.true_or, Bool.or_false, Bool.false_or, Bool.not_true, Bool.not_false, true_and, and_true, rowA_whole, push_n, set_n, push_obj, set_obj, set_push, set_push_ne, set_set, Nat.add_assoc, Nat.left_eq_add, Nat.add_eq_left, Nat.add_left_cancel_iff, Nat.reduceEqDiff, stO_1s, stO_ws, boxA_s, one_bool, one_int, one_str, one_ptr, one_nilptr, one_slice, one_eslice, one_nilslice, one_func, one_iface, one_niliface, List.all_cons, List.all_nil, List.length_cons, List.length_nil, Nat.reduceLT, Nat.reduceEqDiff, Nat.reduceLeDiff, Bool.and_true, Nat.one_ne_zero, Nat.succ_ne_zero, reduceIte, if_false, List.getElem?_cons_zero, List.set_cons_zero, List.set_cons_succ]
      rw [hdef, if_neg hfull]
      refine ⟨v4, rfl, (o4'.set (m := h.n + 1) (.inl (by omega)) _).wide (by omega) (by rw [set_n]; omega) (Nat.le_refl _), ?_⟩
      exact (ht4.ext (E2.trans e_g2) ho2 (by omega) (by omega)).set _ (by omega) _
  · have hdef : sendB una nxt ps n at_ = (0, 0, [], 1) := if_neg hc
    cases hok : okB una nxt ps
    · simp only [hok, hv1, b1, lay_nil, lay_1, lay_w, Option.map_some, go_sem, Hold.p, HoldK.k, HoldL.K, HoldL.body, Nat.reduceBEq, Nat.reduceAdd, List.getElem?_cons_zero, List.getElem?_cons_succ, Option.bind_some, List.map_cons, List.map_nil, Nat.zero_add, if_true, List.getD_cons_zero, List.getD_cons_succ, List.contains_cons, List.contains_nil, Nat.reduceBEq, Bool.or_true, Bool.true_or, Bool.or_false, Bool.false_or, Bool.not_true, Bool.not_false, true_and, and_true, rowA_whole, push_n, set_n, push_obj, set_obj, set_push, set_push_ne, set_set, Nat.add_assoc, Nat.left_eq_add, Nat.add_eq_left, Nat.add_left_cancel_iff, Nat.reduceEqDiff, stO_1s, stO_ws, boxA_s, one_bool, one_int, one_str, one_ptr, one_nilptr, one_slice, one_eslice, one_nilslice, one_func, one_iface, one_niliface, List.all_cons, List.all_nil, List.length_cons, List.length_nil, Nat.reduceLT, Nat.reduceEqDiff, Nat.reduceLeDiff, Bool.and_true, Nat.one_ne_zero, Nat.succ_ne_zero, reduceIte, if_false, List.getElem?_cons_zero, List.set_cons_zero, List.set_cons_succ]
      exact bad _ _ hdef
    · by_cases c1 : n < 1
      · have d1 : decide (n < 1) = true := by simpa using c1
        simp only [hok, hv1, b1, d1, lay_nil, lay_1, lay_w, Option.map_some, go_sem, Hold.p, HoldK.k, HoldL.K, HoldL.body, Nat.reduceBEq, Nat.reduceAdd, List.getElem?_cons_zero, List.getElem?_cons_succ, Option.bind_some, List.map_cons, List.map_nil, Nat.zero_add, if_true, List.getD_cons_zero, List.getD_cons_succ, List.contains_cons, List.contains_nil, Nat.reduceBEq, Bool.or_true, Bool.true_or, Bool.or_false, Bool.false_or, Bool.not_true, Bool.not_false, true_and, and_true, rowA_whole, push_n, set_n, push_obj, set_obj, set_push, set_push_ne, set_set, Nat.add_assoc, Nat.left_eq_add, Nat.add_eq_left, Nat.add_left_cancel_iff, Nat.reduceEqDiff, stO_1s, stO_ws, boxA_s, one_bool, one_int, one_str, one_ptr, one_nilptr, one_slice, one_eslice, one_nilslice, one_func, one_iface, one_niliface, List.all_cons, List.all_nil, List.length_cons, List.length_nil, Nat.reduceLT, Nat.reduceEqDiff, Nat.reduceLeDiff, Bool.and_true, Nat.one_ne_zero, Nat.succ_ne_zero, reduceIte, if_false, List.getElem?_cons_zero, List.set_cons_zero, List.set_cons_succ]
        exact bad _ _ hdef
      · have d1 : decide (n < 1) = false := by simpa using c1
        by_cases c2 : 65535 < n
        · have d2 : decide (65535 < n) = true := by simpa using c2
          simp only [hok, hv1, b1, d1, d2, lay_nil, lay_1, lay_w, Option.map_some, go_sem, Hold.p, HoldK.k, HoldL.K, HoldL.body, Nat.reduceBEq, Nat.reduceAdd, List.getElem?_cons_zero, List.getElem?_cons_succ, Option.bind_some, List.map_cons, List.map_nil, Nat.zero_add, if_true, List.getD_cons_zero, List.getD_cons_succ, List.contains_cons, List.contains_nil, Nat.reduceBEq, Bool.or_true, Bool.true_or, Bool.or_false, Bool.false_or, Bool.not_true, Bool.not_false, true_and, and_true, rowA_whole, push_n, set_n, push_obj, set_obj, set_push, set_push_ne, set_set, Nat.add_assoc, Nat.left_eq_add, Nat.add_eq_left, Nat.add_left_cancel_iff, Nat.reduceEqDiff, stO_1s, stO_ws, boxA_s, one_bool, one_int, one_str, one_ptr, one_nilptr, one_slice, one_eslice, one_nilslice, one_func, one_iface, one_niliface, List.all_cons, List.all_nil, List.length_cons, List.length_nil, Nat.reduceLT, Nat.reduceEqDiff, Nat.reduceLeDiff, Bool.and_true, Nat.one_ne_zero, Nat.succ_ne_zero, reduceIte, if_false, List.getElem?_cons_zero, List.set_cons_zero, List.set_cons_succ]
          exact bad _ _ hdef
        · have d2 : decide (65535 < n) = false := by simpa using c2
          by_cases c3 : at_ < 0
          · have d3 : decide (at_ < 0) = true := by simpa using c3
            simp only [hok, hv1, b1, d1, d2, d3, lay_nil, lay_1, lay_w, Option.map_some, go_sem, Hold.p, HoldK.k, HoldL.K, HoldL.body, Nat.reduceBEq, Nat.reduceAdd, List.getElem?_cons_zero, List.getElem?_cons_succ, Option.bind_some, List.map_cons, List.map_nil, Nat.zero_add, if_true, List.getD_cons_zero, List.getD_cons_succ, List.contains_cons, List.contains_nil, Nat.reduceBEq, Bool.or_true, Bool.true_or, Bool.or_false, Bool.false_or, Bool.not_true, Bool.not_false, true_and, and_true, rowA_whole, push_n, set_n, push_obj, set_obj, set_push, set_push_ne, set_set, Nat.add_assoc, Nat.left_eq_add, Nat.add_eq_left, Nat.add_left_cancel_iff, Nat.reduceEqDiff, stO_1s, stO_ws, boxA_s, one_bool, one_int, one_str, one_ptr, one_nilptr, one_slice, one_eslice, one_nilslice, one_func, one_iface, one_niliface, List.all_cons, List.all_nil, List.length_cons, List.length_nil, Nat.reduceLT, Nat.reduceEqDiff, Nat.reduceLeDiff, Bool.and_true, Nat.one_ne_zero, Nat.succ_ne_zero, reduceIte, if_false, List.getElem?_cons_zero, List.set_cons_zero, List.set_cons_succ]
            exact bad _ _ hdef
          · have d3 : decide (at_ < 0) = false := by simpa using c3
            have d4 : decide (1000000000 < at_) = true := by simp; apply Classical.byContradiction; intro h; exact hc ⟨hok, by omega, by omega, by omega⟩
            simp only [hok, hv1, b1, d1, d2, d3, d4, lay_nil, lay_1, lay_w, Option.map_some, go_sem, Hold.p, HoldK.k, HoldL.K, HoldL.body, Nat.reduceBEq, Nat.reduceAdd, List.getElem?_cons_zero, List.getElem?_cons_succ, Option.bind_some, List.map_cons, List.map_nil, Nat.zero_add, if_true, List.getD_cons_zero, List.getD_cons_succ, List.contains_cons, List.contains_nil, Nat.reduceBEq, Bool.or_true, Bool.true_or, Bool.or_false, Bool.false_or, Bool.not_true, Bool.not_false, true_and, and_true, rowA_whole, push_n, set_n, push_obj, set_obj, set_push, set_push_ne, set_set, Nat.add_assoc, Nat.left_eq_add, Nat.add_eq_left, Nat.add_left_cancel_iff, Nat.reduceEqDiff, stO_1s, stO_ws, boxA_s, one_bool, one_int, one_str, one_ptr, one_nilptr, one_slice, one_eslice, one_nilslice, one_func, one_iface, one_niliface, List.all_cons, List.all_nil, List.length_cons, List.length_nil, Nat.reduceLT, Nat.reduceEqDiff, Nat.reduceLeDiff, Bool.and_true, Nat.one_ne_zero, Nat.succ_ne_zero, reduceIte, if_false, List.getElem?_cons_zero, List.set_cons_zero, List.set_cons_succ]
            exact bad _ _ hdef

set_option maxRecDepth 20000 in
theorem specBoardSend_c (h : IH) (v : IV) (una nxt n at_ : Int) (ps : List Piece) (hs : SlR h 6 v (ps.map Piece.row)) :
    ICalls Try.prog 33 [.agg [.int .i64 una, .int .i64 nxt, v], .int .i64 n, .int .i64 at_] h fun r h' => BRes h h' r (sendB una nxt ps n at_) := by
  refine icalls (.of ok33) (Nat.le_of_ble_eq_true rfl) ?_
  unfold c33
  have hv1 := hs.one
  have hlen := hs.lenF
  rw [List.length_map] at hlen
  have hE : ∀ a b, Ext h ((h.push a).push b) := fun a b => (Ext.refl _).push _ |>.push _
  simp only [hv1, go_sem, Hold.p, HoldK.k, HoldL.K, HoldL.body, Nat.reduceBEq, Nat.reduceAdd, List.getElem?_cons_zero, List.getElem?_cons_succ, Option.bind_some, List.map_cons, List.map_nil, Nat.zero_add, if_true, List.getD_cons_zero, List.getD_cons_succ, List.contains_cons, List.contains_nil, Nat.reduceBEq, Bool.or_true, Bool.true_or, Bool.or_false, Bool.false_or, Bool.not_true, Bool.not_false, true_and, and_true, rowA_whole, push_n, set_n, push_obj, set_obj, set_push, set_push_ne, set_set, Nat.add_assoc, Nat.left_eq_add, Nat.add_eq_left, Nat.add_left_cancel_iff, Nat.reduceEqDiff, stO_1s, stO_ws, boxA_s, one_bool, one_int, one_str, one_ptr, one_nilptr, one_slice, one_eslice, one_nilslice, one_func, one_iface, one_niliface, List.all_cons, List.all_nil, List.length_cons, List.length_nil, Nat.reduceLT, Nat.reduceEqDiff, Nat.reduceLeDiff, Bool.and_true, Nat.one_ne_zero, Nat.succ_ne_zero, reduceIte, if_false, List.getElem?_cons_zero, List.set_cons_zero, List.set_cons_succ]
  refine callA_of (l15OK_c _ una nxt v ps (hs.ext (hE _ _))) ?_
  rintro r h1 ⟨rfl, hE1⟩
  have b0 := hE1.obj h.n (by simp only [push_n]; omega)
  have b1 := hE1.obj (h.n + 1) (by simp only [push_n]; omega)
  simp [push_obj, push_n] at b0 b1
  have hl1 := hE1.le
  simp only [push_n] at hl1
  have bad : ∀ (o : IObj) c, (sendB una nxt ps n at_) = (0, 0, [], c) → BRes h (h1.set (h.n + 1) o) (.tuple [.agg [.int .i64 0, .int .i64 0, .nilslice], .int .i64 c]) (sendB una nxt ps n at_) := by
    intro o c e
    rw [e]
    exact ⟨.nilslice, rfl, Own.nil, ((hE _ _).trans hE1).set _ (by omega) _⟩
  by_cases hc : okB una nxt ps = true ∧ (1 ≤ n ∧ n ≤ 65535) ∧ 0 ≤ at_ ∧ at_ ≤ 1000000000
  · obtain ⟨hok, ⟨n1, n2⟩, a1, a2⟩ := hc
    have hdef : sendB una nxt ps n at_ = if 4096 ≤ ps.length ∨ 1099511627776 < nxt + n then (0, 0, [], 18) else (una, nxt + n, ps ++ [newP nxt n at_], 0) := if_pos ⟨hok, ⟨n1, n2⟩, a1, a2⟩
    obtain ⟨o1, o2, o3, o4, o5⟩ := okB_un hok
    have hm : (ps.map Piece.row).length ≤ 1048576 := by simp; omega
    have hw1 : wr .i64 (nxt + n) = nxt + n := wr64 _ (by omega)
    have q1 : (decide (1 ≤ n) && decide (n ≤ 65535)) = true := by simp; omega
    have q2 : (decide (0 ≤ at_) && decide (at_ ≤ 1000000000)) = true := by simp; omega
    simp only [hok, hv1, go_sem, Hold.p, HoldK.k, HoldL.K, HoldL.body, Nat.reduceBEq, Nat.reduceAdd, List.getElem?_cons_zero, List.getElem?_cons_succ, Option.bind_some, List.map_cons, List.map_nil, Nat.zero_add, if_true, List.getD_cons_zero, List.getD_cons_succ, List.contains_cons, List.contains_nil, Nat.reduceBEq, Bool.or_true, Bool.true_or, Bool.or_false, Bool.false_or, Bool.not_true, Bool.not_false, true_and, and_true, rowA_whole, push_n, set_n, push_obj, set_obj, set_push, set_push_ne, set_set, Nat.add_assoc, Nat.left_eq_add, Nat.add_eq_left, Nat.add_left_cancel_iff, Nat.reduceEqDiff, stO_1s, stO_ws, boxA_s, one_bool, one_int, one_str, one_ptr, one_nilptr, one_slice, one_eslice, one_nilslice, one_func, one_iface, one_niliface, List.all_cons, List.all_nil, List.length_cons, List.length_nil, Nat.reduceLT, Nat.reduceEqDiff, Nat.reduceLeDiff, Bool.and_true, Nat.one_ne_zero, Nat.succ_ne_zero, reduceIte, if_false, List.getElem?_cons_zero, List.set_cons_zero, List.set_cons_succ]
    refine callA_of (l01In_c _ _ _ _) ?_
    rintro r h2 ⟨rfl, rfl⟩
    simp only [q1, go_sem, Hold.p, HoldK.k, HoldL.K, HoldL.body, Nat.reduceBEq, Nat.reduceAdd, List.getElem?_cons_zero, List.getElem?_cons_succ, Option.bind_some, List.map_cons, List.map_nil, Nat.zero_add, if_true, List.getD_cons_zero, List.getD_cons_succ, List.contains_cons, List.contains_nil, Nat.reduceBEq, Bool.or_true, Bool.true_or, Bool.or_false, Bool.false_or, Bool.not_true, Bool.not_false, true_and, and_true, rowA_whole, push_n, set_n, push_obj, set_obj, set_push, set_push_ne, set_set, Nat.add_assoc, Nat.left_eq_add, Nat.add_eq_left, Nat.add_left_cancel_iff, Nat.reduceEqDiff, stO_1s, stO_ws, boxA_s, one_bool, one_int, one_str, one_ptr, one_nilptr, one_slice, one_eslice, one_nilslice, one_func, one_iface, one_niliface, List.all_cons, List.all_nil, List.length_cons, List.length_nil, Nat.reduceLT, Nat.reduceEqDiff, Nat.reduceLeDiff, Bool.and_true, Nat.one_ne_zero, Nat.succ_ne_zero, reduceIte, if_false, List.getElem?_cons_zero, List.set_cons_zero, List.set_cons_succ]
    refine callA_of (l01In_c _ _ _ _) ?_
    rintro r h3 ⟨rfl, rfl⟩
    by_cases c1 : (4096 : Int) ≤ ps.length
    · have d1 : decide ((4096 : Int) ≤ ps.length) = true := by simpa using c1
      simp only [q2, b0, b1, hlen, d1, lay_nil, lay_1, lay_w, Option.map_some, go_sem, Hold.p, HoldK.k, HoldL.K, HoldL.body, Nat.reduceBEq, Nat.reduceAdd, List.getElem?_cons_zero, List.getElem?_cons_succ, Option.bind_some, List.map_cons, List.map_nil, Nat.zero_add, if_true, List.getD_cons_zero, List.getD_cons_succ, List.contains_cons, List.contains_nil, Nat.reduceBEq, Bool.or_true, Bool.true_or, Bool.or_false, Bool.false_or, Bool.not_true, Bool.not_false, true_and, and_true, rowA_whole, push_n, set_n, push_obj, set_obj, set_push, set_push_ne, set_set, Nat.add_assoc, Nat.left_eq_add, Nat.add_eq_left, Nat.add_left_cancel_iff, Nat.reduceEqDiff, stO_1s, stO_ws, boxA_s, one_bool, one_int, one_str, one_ptr, one_nilptr, one_slice, one_eslice, one_nilslice, one_func, one_iface, one_niliface, List.all_cons, List.all_nil, List.length_cons, List.length_nil, Nat.reduceLT, Nat.reduceEqDiff, Nat.reduceLeDiff, Bool.and_true, Nat.one_ne_zero, Nat.succ_ne_zero, reduceIte, if_false, List.getElem?_cons_zero, List.set_cons_zero, List.set_cons_succ]
      exact bad _ _ (hdef.trans (if_pos (.inl (by omega))))
    · have d1 : decide ((4096 : Int) ≤ ps.length) = false := by simpa using c1
      by_cases c2 : 1099511627776 < nxt + n
      · have d2 : decide (1099511627776 < nxt + n) = true := by simpa using c2
        simp only [q2, b0, b1, hlen, d1, hw1, d2, lay_nil, lay_1, lay_w, Option.map_some, go_sem, Hold.p, HoldK.k, HoldL.K, HoldL.body, Nat.reduceBEq, Nat.reduceAdd, List.getElem?_cons_zero, List.getElem?_cons_succ, Option.bind_some, List.map_cons, List.map_nil, Nat.zero_add, if_true, List.getD_cons_zero, List.getD_cons_succ, List.contains_cons, List.contains_nil, Nat.reduceBEq, Bool.or_true, Bool.true_or, Bool.or_false, Bool.false_or, Bool.not_true, Bool.not_false, true_and, and_true, rowA_whole, push_n, set_n, push_obj, set_obj, set_push, set_push_ne, set_set, Nat.add_assoc, Nat.left_eq_add, Nat.add_eq_left, Nat.add_left_cancel_iff, Nat.reduceEqDiff, stO_1s, stO_ws, boxA_s, one_bool, one_int, one_str, one_ptr, one_nilptr, one_slice, one_eslice, one_nilslice, one_func, one_iface, one_niliface, List.all_cons, List.all_nil, List.length_cons, List.length_nil, Nat.reduceLT, Nat.reduceEqDiff, Nat.reduceLeDiff, Bool.and_true, Nat.one_ne_zero, Nat.succ_ne_zero, reduceIte, if_false, List.getElem?_cons_zero, List.set_cons_zero, List.set_cons_succ]
        exact bad _ _ (hdef.trans (if_pos (.inr c2)))
      · have d2 : decide (1099511627776 < nxt + n) = false := by simpa using c2
        simp only [q2, b0, hlen, d1, hw1, d2, hv1, lay_nil, lay_1, lay_w, Option.map_some, go_sem, Hold.p, HoldK.k, HoldL.K, HoldL.body, Nat.reduceBEq, Nat.reduceAdd, List.getElem?_cons_zero, List.getElem?_cons_succ, Option.bind_some, List.map_cons, List.map_nil, Nat.zero_add, if_true, List.getD_cons_zero, List.getD_cons_succ, List.contains_cons, List.contains_nil, Nat.reduceBEq, Bool.or_true, Bool.true_or, Bool.or_false, Bool.false_or, Bool.not_true, Bool.not_false, true_and, and_true, rowA_whole, push_n, set_n, push_obj, set_obj, set_push, set_push_ne, set_set, Nat.add_assoc, Nat.left_eq_add, Nat.add_eq_left, Nat.add_left_cancel_iff, Nat.reduceEqDiff, stO_1s, stO_ws, boxA_s, one_bool, one_int, one_str, one_ptr, one_nilptr, one_slice, one_eslice, one_nilslice, one_func, one_iface, one_niliface, List.all_cons, List.all_nil, List.length_cons, List.length_nil, Nat.reduceLT, Nat.reduceEqDiff, Nat.reduceLeDiff, Bool.and_true, Nat.one_ne_zero, Nat.succ_ne_zero, reduceIte, if_false, List.getElem?_cons_zero, List.set_cons_zero, List.set_cons_succ]
        refine callA_of (l15Copy_c _ v una nxt _ (hs.ext ((hE _ _).trans hE1)) hm) ?_
        rintro r h4 ⟨v4, rfl, o4, hE4⟩
        have l4 := hE4.le
        have v4o := o4.one
        have y0 : At h4 h.n (.rows [[.int .i64 una, .int .i64 nxt, v]] 40 3 false) := ⟨by omega, (hE4.obj _ (by omega)).trans b0⟩
        have y1 : At h4 (h.n + 1) (.rows [[.int .i64 0, .int .i64 0, .nilslice]] 40 3 false) := ⟨by omega, (hE4.obj _ (by omega)).trans b1⟩
        have E4 := ((hE _ _).trans hE1).trans hE4
        have hne : (h.n = h4.n) = False := by simp; omega
        simp only [v4o, y0.eq, hw1, hne, lay_nil, lay_1, lay_w, Option.map_some, go_sem, Hold.p, HoldK.k, HoldL.K, HoldL.body, Nat.reduceBEq, Nat.reduceAdd, List.getElem?_cons_zero, List.getElem?_cons_succ, Option.bind_some, List.map_cons, List.map_nil, Nat.zero_add, if_true, List.getD_cons_zero, List.getD_cons_succ, List.contains_cons, List.contains_nil, Nat.reduceBEq, Bool.or_true, Bool.true_or, Bool.or_false, Bool.false_or, Bool.not_true, Bool.not_false, true_and, and_true, rowA_whole, push_n, set_n, push_obj, set_obj, set_push, set_push_ne, set_set, Nat.add_assoc, Nat.left_eq_add, Nat.add_eq_left, Nat.add_left_cancel_iff, Nat.reduceEqDiff, stO_1s, stO_ws, boxA_s, one_bool, one_int, one_str, one_ptr, one_nilptr, one_slice, one_eslice, one_nilslice, one_func, one_iface, one_niliface, List.all_cons, List.all_nil, List.length_cons, List.length_nil, Nat.reduceLT, Nat.reduceEqDiff, Nat.reduceLeDiff, Bool.and_true, Nat.one_ne_zero, Nat.succ_ne_zero, reduceIte, if_false, List.getElem?_cons_zero, List.set_cons_zero, List.set_cons_succ]
        generalize hq_g4 : IH.set h4 (h.n) (IObj.rows [[IV.int .i64 una, IV.int .i64 nxt, v4]] 40 3 false) = g4
        have l_g4 : g4.n = h4.n := by rw [← hq_g4]; rfl
        have y0 : At g4 (h.n) (IObj.rows [[IV.int .i64 una, IV.int .i64 nxt, v4]] 40 3 false) := by rw [← hq_g4]; exact y0.here
        have o4 := o4.set (m := h.n) (by omega) (IObj.rows [[IV.int .i64 una, IV.int .i64 nxt, v4]] 40 3 false)
        rw [hq_g4] at o4
        have y1 := y1.set (p := h.n) (o' := IObj.rows [[IV.int .i64 una, IV.int .i64 nxt, v4]] 40 3 false) (by omega)
        rw [hq_g4] at y1
        have E4 := E4.set (h.n) (by omega) (IObj.rows [[IV.int .i64 una, IV.int .i64 nxt, v4]] 40 3 false)
        rw [hq_g4] at E4
        clear hq_g4
        generalize hq_g5 : IH.push g4 (IObj.rows [[.int .i64 nxt, .int .i64 (nxt + n), .int .i64 at_, .int .i64 1, .bool false, .bool false]] 113 6 false) = g5
        have e_g5 : Ext g4 g5 := by rw [← hq_g5]; exact (Ext.refl _).push _
        have l_g5 : g5.n = g4.n + 1 := by rw [← hq_g5]; rfl
        have yN : At g5 g4.n (IObj.rows [[.int .i64 nxt, .int .i64 (nxt + n), .int .i64 at_, .int .i64 1, .bool false, .bool false]] 113 6 false) := by rw [← hq_g5]; exact At.new _ _
        clear hq_g5
        have y0 := y0.ext e_g5
        have y1 := y1.ext e_g5
        have o4 := o4.ext e_g5
        refine o4.app (by simp) (by simp; omega) ?_
        intro v6 h6 o6 t6 n6 v6o v6c
        have y0 := y0.turn o4 (by omega) t6
        have y1 := y1.turn o4 (by omega) t6
        have le_t6 := t6.le
        have E6 := (E4.trans e_g5).turn o4 (by omega) t6
        have hne1 : (h.n + 1 = h.n) = False := by simp
        simp only [v6o, v6c, y0.eq, y1.eq, hw1, hne1, lay_nil, lay_1, lay_w, Option.map_some, go_sem, Hold.p, HoldK.k, HoldL.K, HoldL.body, Nat.reduceBEq, Nat.reduceAdd, List.getElem?_cons_zero, List.getElem?_cons_succ, Option.bind_some, List.map_cons, List.map_nil, Nat.zero_add, if_true, List.getD_cons_zero, List.getD_cons_succ, List.contains_cons, List.contains_nil, Nat.reduceBEq, Bool.or_true, Bool.true_or, Bool.or_false, Bool.false_or, Bool.not_true, Bool.not_false, true_and, and_true, rowA_whole, push_n, set_n, push_obj, set_obj, set_push, set_push_ne, set_set, Nat.add_assoc, Nat.left_eq_add, Nat.add_eq_left, Nat.add_left_cancel_iff, Nat.reduceEqDiff, stO_1s, stO_ws, boxA_s, one_bool, one_int, one_str, one_ptr, one_nilptr, one_slice, one_eslice, one_nilslice, one_func, one_iface, one_niliface, List.all_cons, List.all_nil, List.length_cons, List.length_nil, Nat.reduceLT, Nat.reduceEqDiff, Nat.reduceLeDiff, Bool.and_true, Nat.one_ne_zero, Nat.succ_ne_zero, reduceIte, if_false, List.getElem?_cons_zero, List.set_cons_zero, List.set_cons_succ]
        rw [hdef, if_neg (by omega)]
        refine ⟨v6, rfl, ?_, (E6.set _ (by omega) _).set _ (by omega) _⟩
        have : (ps ++ [newP nxt n at_]).map Piece.row = ps.map Piece.row ++ [[.int .i64 nxt, .int .i64 (nxt + n), .int .i64 at_, .int .i64 1, .bool false, .bool false]] := by simp [newP, Piece.row]
        simp only [this]
        exact ((o6.set (m := h.n) (by omega) _).set (m := h.n + 1) (by omega) _).wide (by omega) (by simp only [set_n]; omega) (Nat.le_refl _)
  · have hdef : sendB una nxt ps n at_ = (0, 0, [], 1) := if_neg hc
    cases hok : okB una nxt ps
    · simp only [hok, hv1, b1, lay_nil, lay_1, lay_w, Option.map_some, go_sem, Hold.p, HoldK.k, HoldL.K, HoldL.body, Nat.reduceBEq, Nat.reduceAdd, List.getElem?_cons_zero, List.getElem?_cons_succ, Option.bind_some, List.map_cons, List.map_nil, Nat.zero_add, if_true, List.getD_cons_zero, List.getD_cons_succ, List.contains_cons, List.contains_nil, Nat.reduceBEq, Bool.or_true, Bool.true_or, Bool.or_false, Bool.false_or, Bool.not_true, Bool.not_false, true_and, and_true, rowA_whole, push_n, set_n, push_obj, set_obj, set_push, set_push_ne, set_set, Nat.add_assoc, Nat.left_eq_add, Nat.add_eq_left, Nat.add_left_cancel_iff, Nat.reduceEqDiff, stO_1s, stO_ws, boxA_s, one_bool, one_int, one_str, one_ptr, one_nilptr, one_slice, one_eslice, one_nilslice, one_func, one_iface, one_niliface, List.all_cons, List.all_nil, List.length_cons, List.length_nil, Nat.reduceLT, Nat.reduceEqDiff, Nat.reduceLeDiff, Bool.and_true, Nat.one_ne_zero, Nat.succ_ne_zero, reduceIte, if_false, List.getElem?_cons_zero, List.set_cons_zero, List.set_cons_succ]
      exact bad _ _ hdef
    · simp only [hok, hv1, b1, lay_nil, lay_1, lay_w, Option.map_some, go_sem, Hold.p, HoldK.k, HoldL.K, HoldL.body, Nat.reduceBEq, Nat.reduceAdd, List.getElem?_cons_zero, List.getElem?_cons_succ, Option.bind_some, List.map_cons, List.map_nil, Nat.zero_add, if_true, List.getD_cons_zero, List.getD_cons_succ, List.contains_cons, List.contains_nil, Nat.reduceBEq, Bool.or_true, Bool.true_or, Bool.or_false, Bool.false_or, Bool.not_true, Bool.not_false, true_and, and_true, rowA_whole, push_n, set_n, push_obj, set_obj, set_push, set_push_ne, set_set, Nat.add_assoc, Nat.left_eq_add, Nat.add_eq_left, Nat.add_left_cancel_iff, Nat.reduceEqDiff, stO_1s, stO_ws, boxA_s, one_bool, one_int, one_str, one_ptr, one_nilptr, one_slice, one_eslice, one_nilslice, one_func, one_iface, one_niliface, List.all_cons, List.all_nil, List.length_cons, List.length_nil, Nat.reduceLT, Nat.reduceEqDiff, Nat.reduceLeDiff, Bool.and_true, Nat.one_ne_zero, Nat.succ_ne_zero, reduceIte, if_false, List.getElem?_cons_zero, List.set_cons_zero, List.set_cons_succ]
      refine callA_of (l01In_c _ _ _ _) ?_
      rintro r h2 ⟨rfl, rfl⟩
      cases q1 : (decide (1 ≤ n) && decide (n ≤ 65535))
      · simp only [q1, b1, lay_nil, lay_1, lay_w, Option.map_some, go_sem, Hold.p, HoldK.k, HoldL.K, HoldL.body, Nat.reduceBEq, Nat.reduceAdd, List.getElem?_cons_zero, List.getElem?_cons_succ, Option.bind_some, List.map_cons, List.map_nil, Nat.zero_add, if_true, List.getD_cons_zero, List.getD_cons_succ, List.contains_cons, List.contains_nil, Nat.reduceBEq, Bool.or_true, Bool.true_or, Bool.or_false, Bool.false_or, Bool.not_true, Bool.not_false, true_and, and_true, rowA_whole, push_n, set_n, push_obj, set_obj, set_push, set_push_ne, set_set, Nat.add_assoc, Nat.left_eq_add, Nat.add_eq_left, Nat.add_left_cancel_iff, Nat.reduceEqDiff, stO_1s, stO_ws, boxA_s, one_bool, one_int, one_str, one_ptr, one_nilptr, one_slice, one_eslice, one_nilslice, one_func, one_iface, one_niliface, List.all_cons, List.all_nil, List.length_cons, List.length_nil, Nat.reduceLT, Nat.reduceEqDiff, Nat.reduceLeDiff, Bool.and_true, Nat.one_ne_zero, Nat.succ_ne_zero, reduceIte, if_false, List.getElem?_cons_zero, List.set_cons_zero, List.set_cons_succ]
        exact bad _ _ hdef
      · simp only [q1, b1, lay_nil, lay_1, lay_w, Option.map_some, go_sem, Hold.p, HoldK.k, HoldL.K, HoldL.body, Nat.reduceBEq, Nat.reduceAdd, List.getElem?_cons_zero, List.getElem?_cons_succ, Option.bind_some, List.map_cons, List.map_nil, Nat.zero_add, if_true, List.getD_cons_zero, List.getD_cons_succ, List.contains_cons, List.contains_nil, Nat.reduceBEq, Bool.or_true, Bool.true_or, Bool.or_false, Bool.false_or, Bool.not_true, Bool.not_false, true_and, and_true, rowA_whole, push_n, set_n, push_obj, set_obj, set_push, set_push_ne, set_set, Nat.add_assoc, Nat.left_eq_add, Nat.add_eq_left, Nat.add_left_cancel_iff, Nat.reduceEqDiff, stO_1s, stO_ws, boxA_s, one_bool, one_int, one_str, one_ptr, one_nilptr, one_slice, one_eslice, one_nilslice, one_func, one_iface, one_niliface, List.all_cons, List.all_nil, List.length_cons, List.length_nil, Nat.reduceLT, Nat.reduceEqDiff, Nat.reduceLeDiff, Bool.and_true, Nat.one_ne_zero, Nat.succ_ne_zero, reduceIte, if_false, List.getElem?_cons_zero, List.set_cons_zero, List.set_cons_succ]
        refine callA_of (l01In_c _ _ _ _) ?_
        rintro r h3 ⟨rfl, rfl⟩
        have q2 : (decide (0 ≤ at_) && decide (at_ ≤ 1000000000)) = false := by
          apply Bool.eq_false_iff.2
          intro hx
          simp at q1 hx
          exact hc ⟨hok, q1, hx⟩
        simp only [q2, b1, lay_nil, lay_1, lay_w, Option.map_some, go_sem, Hold.p, HoldK.k, HoldL.K, HoldL.body, Nat.reduceBEq, Nat.reduceAdd, List.getElem?_cons_zero, List.getElem?_cons_succ, Option.bind_some, List.map_cons, List.map_nil, Nat.zero_add, if_true, List.getD_cons_zero, List.getD_cons_succ, List.contains_cons, List.contains_nil, Nat.reduceBEq, Bool.or_true, Bool.true_or, Bool.or_false, Bool.false_or, Bool.not_true, Bool.not_false, true_and, and_true, rowA_whole, push_n, set_n, push_obj, set_obj, set_push, set_push_ne, set_set, Nat.add_assoc, Nat.left_eq_add, Nat.add_eq_left, Nat.add_left_cancel_iff, Nat.reduceEqDiff, stO_1s, stO_ws, boxA_s, one_bool, one_int, one_str, one_ptr, one_nilptr, one_slice, one_eslice, one_nilslice, one_func, one_iface, one_niliface, List.all_cons, List.all_nil, List.length_cons, List.length_nil, Nat.reduceLT, Nat.reduceEqDiff, Nat.reduceLeDiff, Bool.and_true, Nat.one_ne_zero, Nat.succ_ne_zero, reduceIte, if_false, List.getElem?_cons_zero, List.set_cons_zero, List.set_cons_succ]
        exact bad _ _ hdef
end Go.Proofs.Ytecljenjlncfhaa

namespace Go.Proofs.Ytecljenjlncfhaa
open Go Go.IW
theorem sendB_len (una nxt n at_ : Int) (ps : List Piece) : (sendB una nxt ps n at_).2.2.1.length ≤ 1048576 := by
  unfold sendB
  split
  · split
    · simp
    · simp; omega
  · simp

set_option maxRecDepth 20000 in
theorem lawBoardSend : LawTrue Try.prog 8 [(shBoard, true), (.int .i64, false), (.int .i64, false)] := by
  rintro h ivs ha ⟨iv, r, rfl, ⟨cs, rfl, hf⟩, ⟨_, _, rfl, ⟨a0, hx0, _⟩, ⟨_, _, rfl, ⟨a1, hx1, _⟩, rfl⟩⟩⟩
  obtain rfl := List.cons.inj hx0 |>.1
  obtain rfl := List.cons.inj hx1 |>.1
  obtain ⟨una, nxt, v, ps, rfl, hs, hm⟩ := fits_board hf
  refine icalls (.of ok8) (Nat.le_of_ble_eq_true rfl) ?_
  unfold c8
  have aA := Arg.of hs
  have hv1 := hs.one
  simp only [hv1, go_sem, Hold.p, HoldK.k, HoldL.K, HoldL.body, Nat.reduceBEq, Nat.reduceAdd, List.getElem?_cons_zero, List.getElem?_cons_succ, Option.bind_some, List.map_cons, List.map_nil, Nat.zero_add, if_true, List.getD_cons_zero, List.getD_cons_succ, List.contains_cons, List.contains_nil, Nat.reduceBEq, Bool.or_true, Bool.true_or, Bool.or_false, Bool.false_or, Bool.not_true, Bool.not_false, true_and, and_true, rowA_whole, push_n, set_n, push_obj, set_obj, set_push, set_push_ne, set_set, Nat.add_assoc, Nat.left_eq_add, Nat.add_eq_left, Nat.add_left_cancel_iff, Nat.reduceEqDiff, stO_1s, stO_ws, boxA_s, one_bool, one_int, one_str, one_ptr, one_nilptr, one_slice, one_eslice, one_nilslice, one_func, one_iface, one_niliface, List.all_cons, List.all_nil, List.length_cons, List.length_nil, Nat.reduceLT, Nat.reduceEqDiff, Nat.reduceLeDiff, Bool.and_true, Nat.one_ne_zero, Nat.succ_ne_zero, reduceIte, if_false, List.getElem?_cons_zero, List.set_cons_zero, List.set_cons_succ]
  generalize hq_g0 : IH.push h (IObj.rows [[IV.int .i64 una, IV.int .i64 nxt, v]] 35 3 false) = g0
  have e_g0 : Ext h g0 := by rw [← hq_g0]; exact (Ext.refl _).push _
  have l_g0 : g0.n = h.n + 1 := by rw [← hq_g0]; rfl
  have bA : At g0 h.n (IObj.rows [[IV.int .i64 una, IV.int .i64 nxt, v]] 35 3 false) := by rw [← hq_g0]; exact At.new _ _
  clear hq_g0
  have aA := aA.ext e_g0
  refine callA_of (szBoard_c _ v una nxt _ 1048576 aA.sl (by omega) (by simpa using hm)) ?_
  rintro r h1 ⟨rfl, hE1⟩
  rw [List.length_map]
  have bA := bA.ext hE1
  have aA := aA.ext hE1
  have le_hE1 := hE1.le
  by_cases hbig : (1048576 : Int) < ps.length
  · rw [if_pos hbig]
    have hn : decide ((-1 : Int) < 0) = true := rfl
    simp only [hn, go_sem, Hold.p, HoldK.k, HoldL.K, HoldL.body, Nat.reduceBEq, Nat.reduceAdd, List.getElem?_cons_zero, List.getElem?_cons_succ, Option.bind_some, List.map_cons, List.map_nil, Nat.zero_add, if_true, List.getD_cons_zero, List.getD_cons_succ, List.contains_cons, List.contains_nil, Nat.reduceBEq, Bool.or_true, Bool.true_or, Bool.or_false, Bool.false_or, Bool.not_true, Bool.not_false, true_and, and_true, rowA_whole, push_n, set_n, push_obj, set_obj, set_push, set_push_ne, set_set, Nat.add_assoc, Nat.left_eq_add, Nat.add_eq_left, Nat.add_left_cancel_iff, Nat.reduceEqDiff, stO_1s, stO_ws, boxA_s, one_bool, one_int, one_str, one_ptr, one_nilptr, one_slice, one_eslice, one_nilslice, one_func, one_iface, one_niliface, List.all_cons, List.all_nil, List.length_cons, List.length_nil, Nat.reduceLT, Nat.reduceEqDiff, Nat.reduceLeDiff, Bool.and_true, Nat.one_ne_zero, Nat.succ_ne_zero, reduceIte, if_false, List.getElem?_cons_zero, List.set_cons_zero, List.set_cons_succ]
  · rw [if_neg hbig]
    have hn : decide ((1048576 : Int) - (ps.length : Int) < 0) = false := by simp; omega
    have hlen : ps.length ≤ 1048576 := by omega
    simp only [hn, bA.eq, go_sem, Hold.p, HoldK.k, HoldL.K, HoldL.body, Nat.reduceBEq, Nat.reduceAdd, List.getElem?_cons_zero, List.getElem?_cons_succ, Option.bind_some, List.map_cons, List.map_nil, Nat.zero_add, if_true, List.getD_cons_zero, List.getD_cons_succ, List.contains_cons, List.contains_nil, Nat.reduceBEq, Bool.or_true, Bool.true_or, Bool.or_false, Bool.false_or, Bool.not_true, Bool.not_false, true_and, and_true, rowA_whole, push_n, set_n, push_obj, set_obj, set_push, set_push_ne, set_set, Nat.add_assoc, Nat.left_eq_add, Nat.add_eq_left, Nat.add_left_cancel_iff, Nat.reduceEqDiff, stO_1s, stO_ws, boxA_s, one_bool, one_int, one_str, one_ptr, one_nilptr, one_slice, one_eslice, one_nilslice, one_func, one_iface, one_niliface, List.all_cons, List.all_nil, List.length_cons, List.length_nil, Nat.reduceLT, Nat.reduceEqDiff, Nat.reduceLeDiff, Bool.and_true, Nat.one_ne_zero, Nat.succ_ne_zero, reduceIte, if_false, List.getElem?_cons_zero, List.set_cons_zero, List.set_cons_succ]
    refine callA_of (toBoard_c _ v una nxt ps aA.sl hlen) ?_
    rintro r h2 ⟨v2, rfl, o2, hE2⟩
    have bA := bA.ext hE2
    have aA := aA.ext hE2
    have le_hE2 := hE2.le
    simp only [hn, go_sem, Hold.p, HoldK.k, HoldL.K, HoldL.body, Nat.reduceBEq, Nat.reduceAdd, List.getElem?_cons_zero, List.getElem?_cons_succ, Option.bind_some, List.map_cons, List.map_nil, Nat.zero_add, if_true, List.getD_cons_zero, List.getD_cons_succ, List.contains_cons, List.contains_nil, Nat.reduceBEq, Bool.or_true, Bool.true_or, Bool.or_false, Bool.false_or, Bool.not_true, Bool.not_false, true_and, and_true, rowA_whole, push_n, set_n, push_obj, set_obj, set_push, set_push_ne, set_set, Nat.add_assoc, Nat.left_eq_add, Nat.add_eq_left, Nat.add_left_cancel_iff, Nat.reduceEqDiff, stO_1s, stO_ws, boxA_s, one_bool, one_int, one_str, one_ptr, one_nilptr, one_slice, one_eslice, one_nilslice, one_func, one_iface, one_niliface, List.all_cons, List.all_nil, List.length_cons, List.length_nil, Nat.reduceLT, Nat.reduceEqDiff, Nat.reduceLeDiff, Bool.and_true, Nat.one_ne_zero, Nat.succ_ne_zero, reduceIte, if_false, List.getElem?_cons_zero, List.set_cons_zero, List.set_cons_succ]
    refine callA_of (specBoardSend_c _ v2 una nxt a0 a1 ps o2.sl) ?_
    rintro r h3 ⟨vW, rfl, oW, hE3⟩
    have bA := bA.ext hE3
    have aA := aA.ext hE3
    have le_hE3 := hE3.le
    have hfl : (sendB una nxt ps a0 a1).2.2.1.length ≤ 1048576 := sendB_len una nxt a0 a1 ps
    generalize hfb : sendB una nxt ps a0 a1 = fb at oW hfl
    obtain ⟨fu, fn, fp, fc⟩ := fb
    simp only at oW hfl
    have wv := oW.one
    simp only [hn, wv, bA.eq, Nat.ne_of_lt bA.lt, go_sem, Hold.p, HoldK.k, HoldL.K, HoldL.body, Nat.reduceBEq, Nat.reduceAdd, List.getElem?_cons_zero, List.getElem?_cons_succ, Option.bind_some, List.map_cons, List.map_nil, Nat.zero_add, if_true, List.getD_cons_zero, List.getD_cons_succ, List.contains_cons, List.contains_nil, Nat.reduceBEq, Bool.or_true, Bool.true_or, Bool.or_false, Bool.false_or, Bool.not_true, Bool.not_false, true_and, and_true, rowA_whole, push_n, set_n, push_obj, set_obj, set_push, set_push_ne, set_set, Nat.add_assoc, Nat.left_eq_add, Nat.add_eq_left, Nat.add_left_cancel_iff, Nat.reduceEqDiff, stO_1s, stO_ws, boxA_s, one_bool, one_int, one_str, one_ptr, one_nilptr, one_slice, one_eslice, one_nilslice, one_func, one_iface, one_niliface, List.all_cons, List.all_nil, List.length_cons, List.length_nil, Nat.reduceLT, Nat.reduceEqDiff, Nat.reduceLeDiff, Bool.and_true, Nat.one_ne_zero, Nat.succ_ne_zero, reduceIte, if_false, List.getElem?_cons_zero, List.set_cons_zero, List.set_cons_succ]
    generalize hq_g3 : IH.push h3 (IObj.rows [[IV.int .i64 fu, IV.int .i64 fn, vW]] 40 3 false) = g3
    have e_g3 : Ext h3 g3 := by rw [← hq_g3]; exact (Ext.refl _).push _
    have l_g3 : g3.n = h3.n + 1 := by rw [← hq_g3]; rfl
    have bW : At g3 h3.n (IObj.rows [[IV.int .i64 fu, IV.int .i64 fn, vW]] 40 3 false) := by rw [← hq_g3]; exact At.new _ _
    clear hq_g3
    have bA := bA.ext e_g3
    have aA := aA.ext e_g3
    have oW := oW.ext e_g3
    refine callA_of (toBoard_c _ v una nxt ps aA.sl hlen) ?_
    rintro r h4 ⟨vX, rfl, oX, hE4⟩
    have bA := bA.ext hE4
    have aA := aA.ext hE4
    have bW := bW.ext hE4
    have oW := oW.ext hE4
    have le_hE4 := hE4.le
    have xv := oX.one
    simp only [xv, go_sem, Hold.p, HoldK.k, HoldL.K, HoldL.body, Nat.reduceBEq, Nat.reduceAdd, List.getElem?_cons_zero, List.getElem?_cons_succ, Option.bind_some, List.map_cons, List.map_nil, Nat.zero_add, if_true, List.getD_cons_zero, List.getD_cons_succ, List.contains_cons, List.contains_nil, Nat.reduceBEq, Bool.or_true, Bool.true_or, Bool.or_false, Bool.false_or, Bool.not_true, Bool.not_false, true_and, and_true, rowA_whole, push_n, set_n, push_obj, set_obj, set_push, set_push_ne, set_set, Nat.add_assoc, Nat.left_eq_add, Nat.add_eq_left, Nat.add_left_cancel_iff, Nat.reduceEqDiff, stO_1s, stO_ws, boxA_s, one_bool, one_int, one_str, one_ptr, one_nilptr, one_slice, one_eslice, one_nilslice, one_func, one_iface, one_niliface, List.all_cons, List.all_nil, List.length_cons, List.length_nil, Nat.reduceLT, Nat.reduceEqDiff, Nat.reduceLeDiff, Bool.and_true, Nat.one_ne_zero, Nat.succ_ne_zero, reduceIte, if_false, List.getElem?_cons_zero, List.set_cons_zero, List.set_cons_succ]
    generalize hq_g4 : IH.push h4 (IObj.rows [[IV.int .i64 una, IV.int .i64 nxt, vX]] 40 3 false) = g4
    have e_g4 : Ext h4 g4 := by rw [← hq_g4]; exact (Ext.refl _).push _
    have l_g4 : g4.n = h4.n + 1 := by rw [← hq_g4]; rfl
    have bX : At g4 h4.n (IObj.rows [[IV.int .i64 una, IV.int .i64 nxt, vX]] 40 3 false) := by rw [← hq_g4]; exact At.new _ _
    clear hq_g4
    have bA := bA.ext e_g4
    have aA := aA.ext e_g4
    have bW := bW.ext e_g4
    have oW := oW.ext e_g4
    have oX := oX.ext e_g4
    refine callA_of (implBoardSend_c _ vX una nxt a0 a1 ps oX.sl) ?_
    rintro r h5 ⟨vG, rfl, oG, hE5⟩
    rw [hfb] at oG
    simp only [hfb] at oG ⊢
    have bA := bA.ext hE5
    have aA := aA.ext hE5
    have bW := bW.ext hE5
    have oW := oW.ext hE5
    have bX := bX.ext hE5
    have oX := oX.ext hE5
    have le_hE5 := hE5.le
    have gv := oG.one
    simp only [gv, bA.eq, bW.eq, bX.eq, Nat.ne_of_lt bA.lt, Nat.ne_of_lt bW.lt, Nat.ne_of_lt bX.lt, go_sem, Hold.p, HoldK.k, HoldL.K, HoldL.body, Nat.reduceBEq, Nat.reduceAdd, List.getElem?_cons_zero, List.getElem?_cons_succ, Option.bind_some, List.map_cons, List.map_nil, Nat.zero_add, if_true, List.getD_cons_zero, List.getD_cons_succ, List.contains_cons, List.contains_nil, Nat.reduceBEq, Bool.or_true, Bool.true_or, Bool.or_false, Bool.false_or, Bool.not_true, Bool.not_false, true_and, and_true, rowA_whole, push_n, set_n, push_obj, set_obj, set_push, set_push_ne, set_set, Nat.add_assoc, Nat.left_eq_add, Nat.add_eq_left, Nat.add_left_cancel_iff, Nat.reduceEqDiff, stO_1s, stO_ws, boxA_s, one_bool, one_int, one_str, one_ptr, one_nilptr, one_slice, one_eslice, one_nilslice, one_func, one_iface, one_niliface, List.all_cons, List.all_nil, List.length_cons, List.length_nil, Nat.reduceLT, Nat.reduceEqDiff, Nat.reduceLeDiff, Bool.and_true, Nat.one_ne_zero, Nat.succ_ne_zero, reduceIte, if_false, List.getElem?_cons_zero, List.set_cons_zero, List.set_cons_succ]
    generalize hq_g5 : IH.push h5 (IObj.rows [[IV.int .i64 fu, IV.int .i64 fn, vG]] 40 3 false) = g5
    have e_g5 : Ext h5 g5 := by rw [← hq_g5]; exact (Ext.refl _).push _
    have l_g5 : g5.n = h5.n + 1 := by rw [← hq_g5]; rfl
    have bG : At g5 h5.n (IObj.rows [[IV.int .i64 fu, IV.int .i64 fn, vG]] 40 3 false) := by rw [← hq_g5]; exact At.new _ _
    clear hq_g5
    have bA := bA.ext e_g5
    have aA := aA.ext e_g5
    have bW := bW.ext e_g5
    have oW := oW.ext e_g5
    have bX := bX.ext e_g5
    have oX := oX.ext e_g5
    have oG := oG.ext e_g5
    refine callA_of (eqBoard_c _ vG vW fu fn fp oG.sl oW.sl hfl) ?_
    rintro r h6 ⟨rfl, hE6⟩
    have bA := bA.ext hE6
    have aA := aA.ext hE6
    have bW := bW.ext hE6
    have oW := oW.ext hE6
    have bX := bX.ext hE6
    have oX := oX.ext hE6
    have bG := bG.ext hE6
    have oG := oG.ext hE6
    have le_hE6 := hE6.le
    simp only [bA.eq, bX.eq, decide_true, go_sem, Hold.p, HoldK.k, HoldL.K, HoldL.body, Nat.reduceBEq, Nat.reduceAdd, List.getElem?_cons_zero, List.getElem?_cons_succ, Option.bind_some, List.map_cons, List.map_nil, Nat.zero_add, if_true, List.getD_cons_zero, List.getD_cons_succ, List.contains_cons, List.contains_nil, Nat.reduceBEq, Bool.or_true, Bool.true_or, Bool.or_false, Bool.false_or, Bool.not_true, Bool.not_false, true_and, and_true, rowA_whole, push_n, set_n, push_obj, set_obj, set_push, set_push_ne, set_set, Nat.add_assoc, Nat.left_eq_add, Nat.add_eq_left, Nat.add_left_cancel_iff, Nat.reduceEqDiff, stO_1s, stO_ws, boxA_s, one_bool, one_int, one_str, one_ptr, one_nilptr, one_slice, one_eslice, one_nilslice, one_func, one_iface, one_niliface, List.all_cons, List.all_nil, List.length_cons, List.length_nil, Nat.reduceLT, Nat.reduceEqDiff, Nat.reduceLeDiff, Bool.and_true, Nat.one_ne_zero, Nat.succ_ne_zero, reduceIte, if_false, List.getElem?_cons_zero, List.set_cons_zero, List.set_cons_succ]
    refine callA_of (toBoard_c _ v una nxt ps aA.sl hlen) ?_
    rintro r h7 ⟨vY, rfl, oY, hE7⟩
    have bA := bA.ext hE7
    have aA := aA.ext hE7
    have bW := bW.ext hE7
    have oW := oW.ext hE7
    have bX := bX.ext hE7
    have oX := oX.ext hE7
    have bG := bG.ext hE7
    have oG := oG.ext hE7
    have le_hE7 := hE7.le
    simp only [bX.eq, go_sem, Hold.p, HoldK.k, HoldL.K, HoldL.body, Nat.reduceBEq, Nat.reduceAdd, List.getElem?_cons_zero, List.getElem?_cons_succ, Option.bind_some, List.map_cons, List.map_nil, Nat.zero_add, if_true, List.getD_cons_zero, List.getD_cons_succ, List.contains_cons, List.contains_nil, Nat.reduceBEq, Bool.or_true, Bool.true_or, Bool.or_false, Bool.false_or, Bool.not_true, Bool.not_false, true_and, and_true, rowA_whole, push_n, set_n, push_obj, set_obj, set_push, set_push_ne, set_set, Nat.add_assoc, Nat.left_eq_add, Nat.add_eq_left, Nat.add_left_cancel_iff, Nat.reduceEqDiff, stO_1s, stO_ws, boxA_s, one_bool, one_int, one_str, one_ptr, one_nilptr, one_slice, one_eslice, one_nilslice, one_func, one_iface, one_niliface, List.all_cons, List.all_nil, List.length_cons, List.length_nil, Nat.reduceLT, Nat.reduceEqDiff, Nat.reduceLeDiff, Bool.and_true, Nat.one_ne_zero, Nat.succ_ne_zero, reduceIte, if_false, List.getElem?_cons_zero, List.set_cons_zero, List.set_cons_succ]
    refine callA_of (eqBoard_c _ vX vY una nxt ps oX.sl oY.sl hlen) ?_
    rintro r h8 ⟨rfl, hE8⟩
    have bA := bA.ext hE8
    have aA := aA.ext hE8
    have bW := bW.ext hE8
    have oW := oW.ext hE8
    have bX := bX.ext hE8
    have oX := oX.ext hE8
    have bG := bG.ext hE8
    have oG := oG.ext hE8
    have le_hE8 := hE8.le
    simp only [bX.eq, decide_true, go_sem, Hold.p, HoldK.k, HoldL.K, HoldL.body, Nat.reduceBEq, Nat.reduceAdd, List.getElem?_cons_zero, List.getElem?_cons_succ, Option.bind_some, List.map_cons, List.map_nil, Nat.zero_add, if_true, List.getD_cons_zero, List.getD_cons_succ, List.contains_cons, List.contains_nil, Nat.reduceBEq, Bool.or_true, Bool.true_or, Bool.or_false, Bool.false_or, Bool.not_true, Bool.not_false, true_and, and_true, rowA_whole, push_n, set_n, push_obj, set_obj, set_push, set_push_ne, set_set, Nat.add_assoc, Nat.left_eq_add, Nat.add_eq_left, Nat.add_left_cancel_iff, Nat.reduceEqDiff, stO_1s, stO_ws, boxA_s, one_bool, one_int, one_str, one_ptr, one_nilptr, one_slice, one_eslice, one_nilslice, one_func, one_iface, one_niliface, List.all_cons, List.all_nil, List.length_cons, List.length_nil, Nat.reduceLT, Nat.reduceEqDiff, Nat.reduceLeDiff, Bool.and_true, Nat.one_ne_zero, Nat.succ_ne_zero, reduceIte, if_false, List.getElem?_cons_zero, List.set_cons_zero, List.set_cons_succ]
    refine callA_of (markBoard_c _ vX una nxt 1 _ oX rows6 (by simp; omega)) ?_
    rintro r h9 ⟨rfl, oX9, ht9⟩
    have bA := bA.turn oX (by omega) ht9
    have aA := aA.turn oX (by omega) ht9
    have bW := bW.turn oX (by omega) ht9
    have oW := oW.turn oX (by omega) ht9
    have bX := bX.turn oX (by omega) ht9
    have bG := bG.turn oX (by omega) ht9
    have oG := oG.turn oX (by omega) ht9
    have le_ht9 := ht9.le
    have hk : decide (((1 + 6 * (ps.map Piece.row).length : Nat) : Int) < 0) = false := by simp; omega
    simp only [bG.eq, bW.eq, hk, go_sem, Hold.p, HoldK.k, HoldL.K, HoldL.body, Nat.reduceBEq, Nat.reduceAdd, List.getElem?_cons_zero, List.getElem?_cons_succ, Option.bind_some, List.map_cons, List.map_nil, Nat.zero_add, if_true, List.getD_cons_zero, List.getD_cons_succ, List.contains_cons, List.contains_nil, Nat.reduceBEq, Bool.or_true, Bool.true_or, Bool.or_false, Bool.false_or, Bool.not_true, Bool.not_false, true_and, and_true, rowA_whole, push_n, set_n, push_obj, set_obj, set_push, set_push_ne, set_set, Nat.add_assoc, Nat.left_eq_add, Nat.add_eq_left, Nat.add_left_cancel_iff, Nat.reduceEqDiff, stO_1s, stO_ws, boxA_s, one_bool, one_int, one_str, one_ptr, one_nilptr, one_slice, one_eslice, one_nilslice, one_func, one_iface, one_niliface, List.all_cons, List.all_nil, List.length_cons, List.length_nil, Nat.reduceLT, Nat.reduceEqDiff, Nat.reduceLeDiff, Bool.and_true, Nat.one_ne_zero, Nat.succ_ne_zero, reduceIte, if_false, List.getElem?_cons_zero, List.set_cons_zero, List.set_cons_succ]
    refine callA_of (eqBoard_c _ vG vW fu fn fp oG.sl oW.sl hfl) ?_
    rintro r h10 ⟨rfl, hE10⟩
    have bA := bA.ext hE10
    have aA := aA.ext hE10
    have bW := bW.ext hE10
    have oW := oW.ext hE10
    have bG := bG.ext hE10
    have oG := oG.ext hE10
    have le_hE10 := hE10.le
    simp only [bG.eq, decide_true, go_sem, Hold.p, HoldK.k, HoldL.K, HoldL.body, Nat.reduceBEq, Nat.reduceAdd, List.getElem?_cons_zero, List.getElem?_cons_succ, Option.bind_some, List.map_cons, List.map_nil, Nat.zero_add, if_true, List.getD_cons_zero, List.getD_cons_succ, List.contains_cons, List.contains_nil, Nat.reduceBEq, Bool.or_true, Bool.true_or, Bool.or_false, Bool.false_or, Bool.not_true, Bool.not_false, true_and, and_true, rowA_whole, push_n, set_n, push_obj, set_obj, set_push, set_push_ne, set_set, Nat.add_assoc, Nat.left_eq_add, Nat.add_eq_left, Nat.add_left_cancel_iff, Nat.reduceEqDiff, stO_1s, stO_ws, boxA_s, one_bool, one_int, one_str, one_ptr, one_nilptr, one_slice, one_eslice, one_nilslice, one_func, one_iface, one_niliface, List.all_cons, List.all_nil, List.length_cons, List.length_nil, Nat.reduceLT, Nat.reduceEqDiff, Nat.reduceLeDiff, Bool.and_true, Nat.one_ne_zero, Nat.succ_ne_zero, reduceIte, if_false, List.getElem?_cons_zero, List.set_cons_zero, List.set_cons_succ]
    refine callA_of (markBoard_c _ vG fu fn 1 _ oG rows6 (by simp; omega)) ?_
    rintro r h11 ⟨rfl, oM, ht11⟩
    have bA := bA.turn oG (by omega) ht11
    have aA := aA.turn oG (by omega) ht11
    have bW := bW.turn oG (by omega) ht11
    have oW := oW.turn oG (by omega) ht11
    have bG := bG.turn oG (by omega) ht11
    have le_ht11 := ht11.le
    rw [List.length_map] at oM
    simp only [bG.eq, go_sem, Hold.p, HoldK.k, HoldL.K, HoldL.body, Nat.reduceBEq, Nat.reduceAdd, List.getElem?_cons_zero, List.getElem?_cons_succ, Option.bind_some, List.map_cons, List.map_nil, Nat.zero_add, if_true, List.getD_cons_zero, List.getD_cons_succ, List.contains_cons, List.contains_nil, Nat.reduceBEq, Bool.or_true, Bool.true_or, Bool.or_false, Bool.false_or, Bool.not_true, Bool.not_false, true_and, and_true, rowA_whole, push_n, set_n, push_obj, set_obj, set_push, set_push_ne, set_set, Nat.add_assoc, Nat.left_eq_add, Nat.add_eq_left, Nat.add_left_cancel_iff, Nat.reduceEqDiff, stO_1s, stO_ws, boxA_s, one_bool, one_int, one_str, one_ptr, one_nilptr, one_slice, one_eslice, one_nilslice, one_func, one_iface, one_niliface, List.all_cons, List.all_nil, List.length_cons, List.length_nil, Nat.reduceLT, Nat.reduceEqDiff, Nat.reduceLeDiff, Bool.and_true, Nat.one_ne_zero, Nat.succ_ne_zero, reduceIte, if_false, List.getElem?_cons_zero, List.set_cons_zero, List.set_cons_succ]
    refine callA_of (heldBoard_c _ vG fu fn fp.length 1 oM.sl (by omega)) ?_
    rintro r h12 ⟨rfl, hE12⟩
    have bA := bA.ext hE12
    have aA := aA.ext hE12
    have bW := bW.ext hE12
    have oW := oW.ext hE12
    have bG := bG.ext hE12
    have oM := oM.ext hE12
    have le_hE12 := hE12.le
    have hq : decide (((1 + 6 * fp.length : Nat) : Int) < 0) = false := by simp; omega
    simp only [hq, bA.eq, decide_true, List.length_map, go_sem, Hold.p, HoldK.k, HoldL.K, HoldL.body, Nat.reduceBEq, Nat.reduceAdd, List.getElem?_cons_zero, List.getElem?_cons_succ, Option.bind_some, List.map_cons, List.map_nil, Nat.zero_add, if_true, List.getD_cons_zero, List.getD_cons_succ, List.contains_cons, List.contains_nil, Nat.reduceBEq, Bool.or_true, Bool.true_or, Bool.or_false, Bool.false_or, Bool.not_true, Bool.not_false, true_and, and_true, rowA_whole, push_n, set_n, push_obj, set_obj, set_push, set_push_ne, set_set, Nat.add_assoc, Nat.left_eq_add, Nat.add_eq_left, Nat.add_left_cancel_iff, Nat.reduceEqDiff, stO_1s, stO_ws, boxA_s, one_bool, one_int, one_str, one_ptr, one_nilptr, one_slice, one_eslice, one_nilslice, one_func, one_iface, one_niliface, List.all_cons, List.all_nil, List.length_cons, List.length_nil, Nat.reduceLT, Nat.reduceEqDiff, Nat.reduceLeDiff, Bool.and_true, Nat.one_ne_zero, Nat.succ_ne_zero, reduceIte, if_false, List.getElem?_cons_zero, List.set_cons_zero, List.set_cons_succ]
    refine callA_of (toBoard_c _ v una nxt ps aA.sl hlen) ?_
    rintro r h13 ⟨vZ, rfl, oZ, hE13⟩
    have bA := bA.ext hE13
    have aA := aA.ext hE13
    have bW := bW.ext hE13
    have oW := oW.ext hE13
    have bG := bG.ext hE13
    have oM := oM.ext hE13
    have le_hE13 := hE13.le
    simp only [go_sem, Hold.p, HoldK.k, HoldL.K, HoldL.body, Nat.reduceBEq, Nat.reduceAdd, List.getElem?_cons_zero, List.getElem?_cons_succ, Option.bind_some, List.map_cons, List.map_nil, Nat.zero_add, if_true, List.getD_cons_zero, List.getD_cons_succ, List.contains_cons, List.contains_nil, Nat.reduceBEq, Bool.or_true, Bool.true_or, Bool.or_false, Bool.false_or, Bool.not_true, Bool.not_false, true_and, and_true, rowA_whole, push_n, set_n, push_obj, set_obj, set_push, set_push_ne, set_set, Nat.add_assoc, Nat.left_eq_add, Nat.add_eq_left, Nat.add_left_cancel_iff, Nat.reduceEqDiff, stO_1s, stO_ws, boxA_s, one_bool, one_int, one_str, one_ptr, one_nilptr, one_slice, one_eslice, one_nilslice, one_func, one_iface, one_niliface, List.all_cons, List.all_nil, List.length_cons, List.length_nil, Nat.reduceLT, Nat.reduceEqDiff, Nat.reduceLeDiff, Bool.and_true, Nat.one_ne_zero, Nat.succ_ne_zero, reduceIte, if_false, List.getElem?_cons_zero, List.set_cons_zero, List.set_cons_succ]
    refine callA_of (implBoardSend_c _ vZ una nxt a0 a1 ps oZ.sl) ?_
    rintro r h14 ⟨vH, rfl, oH, hE14⟩
    rw [hfb] at oH
    simp only [hfb] at oH ⊢
    have bA := bA.ext hE14
    have aA := aA.ext hE14
    have bW := bW.ext hE14
    have oW := oW.ext hE14
    have bG := bG.ext hE14
    have oM := oM.ext hE14
    have le_hE14 := hE14.le
    have hv := oH.one
    simp only [hv, bA.eq, bW.eq, bG.eq, Nat.ne_of_lt bA.lt, Nat.ne_of_lt bW.lt, Nat.ne_of_lt bG.lt, go_sem, Hold.p, HoldK.k, HoldL.K, HoldL.body, Nat.reduceBEq, Nat.reduceAdd, List.getElem?_cons_zero, List.getElem?_cons_succ, Option.bind_some, List.map_cons, List.map_nil, Nat.zero_add, if_true, List.getD_cons_zero, List.getD_cons_succ, List.contains_cons, List.contains_nil, Nat.reduceBEq, Bool.or_true, Bool.true_or, Bool.or_false, Bool.false_or, Bool.not_true, Bool.not_false, true_and, and_true, rowA_whole, push_n, set_n, push_obj, set_obj, set_push, set_push_ne, set_set, Nat.add_assoc, Nat.left_eq_add, Nat.add_eq_left, Nat.add_left_cancel_iff, Nat.reduceEqDiff, stO_1s, stO_ws, boxA_s, one_bool, one_int, one_str, one_ptr, one_nilptr, one_slice, one_eslice, one_nilslice, one_func, one_iface, one_niliface, List.all_cons, List.all_nil, List.length_cons, List.length_nil, Nat.reduceLT, Nat.reduceEqDiff, Nat.reduceLeDiff, Bool.and_true, Nat.one_ne_zero, Nat.succ_ne_zero, reduceIte, if_false, List.getElem?_cons_zero, List.set_cons_zero, List.set_cons_succ]
    generalize hq_g14 : IH.push h14 (IObj.rows [[IV.int .i64 fu, IV.int .i64 fn, vH]] 40 3 false) = g14
    have e_g14 : Ext h14 g14 := by rw [← hq_g14]; exact (Ext.refl _).push _
    have l_g14 : g14.n = h14.n + 1 := by rw [← hq_g14]; rfl
    have bH : At g14 h14.n (IObj.rows [[IV.int .i64 fu, IV.int .i64 fn, vH]] 40 3 false) := by rw [← hq_g14]; exact At.new _ _
    clear hq_g14
    have bA := bA.ext e_g14
    have aA := aA.ext e_g14
    have bW := bW.ext e_g14
    have oW := oW.ext e_g14
    have bG := bG.ext e_g14
    have oM := oM.ext e_g14
    have oH := oH.ext e_g14
    refine callA_of (eqBoard_c _ vH vW fu fn fp oH.sl oW.sl hfl) ?_
    rintro r h15 ⟨rfl, hE15⟩
    have bG := bG.ext hE15
    have oM := oM.ext hE15
    have le_hE15 := hE15.le
    simp only [bG.eq, decide_true, go_sem, Hold.p, HoldK.k, HoldL.K, HoldL.body, Nat.reduceBEq, Nat.reduceAdd, List.getElem?_cons_zero, List.getElem?_cons_succ, Option.bind_some, List.map_cons, List.map_nil, Nat.zero_add, if_true, List.getD_cons_zero, List.getD_cons_succ, List.contains_cons, List.contains_nil, Nat.reduceBEq, Bool.or_true, Bool.true_or, Bool.or_false, Bool.false_or, Bool.not_true, Bool.not_false, true_and, and_true, rowA_whole, push_n, set_n, push_obj, set_obj, set_push, set_push_ne, set_set, Nat.add_assoc, Nat.left_eq_add, Nat.add_eq_left, Nat.add_left_cancel_iff, Nat.reduceEqDiff, stO_1s, stO_ws, boxA_s, one_bool, one_int, one_str, one_ptr, one_nilptr, one_slice, one_eslice, one_nilslice, one_func, one_iface, one_niliface, List.all_cons, List.all_nil, List.length_cons, List.length_nil, Nat.reduceLT, Nat.reduceEqDiff, Nat.reduceLeDiff, Bool.and_true, Nat.one_ne_zero, Nat.succ_ne_zero, reduceIte, if_false, List.getElem?_cons_zero, List.set_cons_zero, List.set_cons_succ]
    refine callA_of (heldBoard_c _ vG fu fn fp.length 1 oM.sl (by omega)) ?_
    rintro r h16 ⟨rfl, hE16⟩
    simp only [hq, decide_true, List.length_map, go_sem, Hold.p, HoldK.k, HoldL.K, HoldL.body, Nat.reduceBEq, Nat.reduceAdd, List.getElem?_cons_zero, List.getElem?_cons_succ, Option.bind_some, List.map_cons, List.map_nil, Nat.zero_add, if_true, List.getD_cons_zero, List.getD_cons_succ, List.contains_cons, List.contains_nil, Nat.reduceBEq, Bool.or_true, Bool.true_or, Bool.or_false, Bool.false_or, Bool.not_true, Bool.not_false, true_and, and_true, rowA_whole, push_n, set_n, push_obj, set_obj, set_push, set_push_ne, set_set, Nat.add_assoc, Nat.left_eq_add, Nat.add_eq_left, Nat.add_left_cancel_iff, Nat.reduceEqDiff, stO_1s, stO_ws, boxA_s, one_bool, one_int, one_str, one_ptr, one_nilptr, one_slice, one_eslice, one_nilslice, one_func, one_iface, one_niliface, List.all_cons, List.all_nil, List.length_cons, List.length_nil, Nat.reduceLT, Nat.reduceEqDiff, Nat.reduceLeDiff, Bool.and_true, Nat.one_ne_zero, Nat.succ_ne_zero, reduceIte, if_false, List.getElem?_cons_zero, List.set_cons_zero, List.set_cons_succ]
end Go.Proofs.Ytecljenjlncfhaa

namespace Go.Proofs.Ytecljenjlncfhaa
open Go Go.IW

/-! Pieces that are cut. -/
def cutF (most : Int) : Nat → Piece → List Piece
  | 0, p => [p]
  | n + 1, p => if most < p.to - p.fr then { p with to := p.fr + most } :: cutF most n { p with fr := p.fr + most } else [p]
def cut (most : Int) (p : Piece) : List Piece := cutF most (p.to - p.fr).toNat p
def splitP (most : Int) (ps : List Piece) : List Piece := ps.flatMap (cut most)

theorem cutF_fuel {most : Int} (h1 : 1 ≤ most) : ∀ (n m : Nat) (p : Piece), (p.to - p.fr).toNat ≤ n → (p.to - p.fr).toNat ≤ m → cutF most n p = cutF most m p
  | 0, 0, p, _, _ => rfl
  | 0, m + 1, p, hn, _ => by simp only [cutF]; rw [if_neg (by omega)]
  | n + 1, 0, p, _, hm => by simp only [cutF]; rw [if_neg (by omega)]
  | n + 1, m + 1, p, hn, hm => by
    simp only [cutF]
    split
    · rw [cutF_fuel h1 n m _ (by simp only; omega) (by simp only; omega)]
    · rfl
theorem cut_eq {most : Int} (h1 : 1 ≤ most) (p : Piece) : cut most p = if most < p.to - p.fr then { p with to := p.fr + most } :: cut most { p with fr := p.fr + most } else [p] := by
  unfold cut
  rw [cutF_fuel h1 _ ((p.to - p.fr).toNat + 1) p (Nat.le_refl _) (Nat.le_succ _)]
  simp only [cutF]
  split
  · rw [cutF_fuel h1 (p.to - p.fr).toNat _ _ (by simp only; omega) (Nat.le_refl _)]
  · rfl
theorem cut_len {most : Int} (h1 : 1 ≤ most) : ∀ (n : Nat) (p : Piece), (p.to - p.fr).toNat ≤ n → p.fr < p.to → ((cut most p).length : Int) = (p.to - p.fr + most - 1) / most
  | 0, p, hn, hp => by omega
  | n + 1, p, hn, hp => by
    rw [cut_eq h1]
    split
    · rename_i h
      rw [List.length_cons, Int.natCast_add, cut_len h1 n _ (by simp only; omega) (by simp only; omega)]
      simp only
      have : p.to - p.fr + most - 1 = (p.to - (p.fr + most) + most - 1) + 1 * most := by omega
      rw [this, Int.add_mul_ediv_right _ _ (by omega)]
      rfl
    · rename_i h
      have : p.to - p.fr + most - 1 = (p.to - p.fr - 1) + 1 * most := by omega
      rw [this, Int.add_mul_ediv_right _ _ (by omega), Int.ediv_eq_zero_of_lt (by omega) (by omega)]
      rfl
theorem splitP_succ {most : Int} {ps : List Piece} {k : Nat} {p : Piece} (h : ps[k]? = some p) : splitP most (ps.take (k + 1)) = splitP most (ps.take k) ++ cut most p := by
  rw [List.take_add_one, h]; simp [splitP]
theorem splitP_le {most : Int} {ps : List Piece} (k : Nat) : (splitP most (ps.take k)).length ≤ (splitP most ps).length := by
  have : splitP most ps = splitP most (ps.take k) ++ splitP most (ps.drop k) := by
    unfold splitP
    rw [← List.flatMap_append, List.take_append_drop]
  rw [this, List.length_append]
  omega
theorem cut_pos (most : Int) (p : Piece) : 1 ≤ (cut most p).length := by
  unfold cut
  cases (p.to - p.fr).toNat with
  | zero => simp [cutF]
  | succ n => simp only [cutF]; split <;> simp

/-- What BoardSplit answers. -/
def splitB (una nxt : Int) (ps : List Piece) (most : Int) : Int × Int × List Piece × Int :=
  if okB una nxt ps ∧ (1 ≤ most ∧ most ≤ 65535) then
    if 4096 < (splitP most ps).length then (0, 0, [], 18) else (una, nxt, splitP most ps, 0)
  else (0, 0, [], 1)
theorem splitB_len (una nxt most : Int) (ps : List Piece) : (splitB una nxt ps most).2.2.1.length ≤ 1048576 := by
  unfold splitB
  split
  · split
    · simp
    · simp; omega
  · simp
theorem cut_row (p : Piece) : p.row.length = 6 := rfl

set_option maxRecDepth 20000 in
theorem l14Min_c (h : IH) (a b : Int) : ICalls Try.prog 79 [.int .i64 a, .int .i64 b] h fun r h' => r = .int .i64 (min a b) ∧ h' = h := by
  refine icalls (.of ok79) (Nat.le_of_ble_eq_true rfl) ?_
  unfold c79
  simp only [go_sem, Hold.p, HoldK.k, HoldL.K, HoldL.body, Nat.reduceBEq, Nat.reduceAdd, List.getElem?_cons_zero, List.getElem?_cons_succ, Option.bind_some, List.map_cons, List.map_nil, Nat.zero_add, if_true, List.getD_cons_zero, List.getD_cons_succ, List.contains_cons, List.contains_nil, Nat.reduceBEq, Bool.or_true, Bool.true_or, Bool.or_false, Bool.false_or, Bool.not_true, Bool.not_false, true_and, and_true]
  refine test_dec (fun hb => ?_) (fun hb => ?_)
  · simp only [go_sem, Hold.p, HoldK.k, HoldL.K, HoldL.body, Nat.reduceBEq, Nat.reduceAdd, List.getElem?_cons_zero, List.getElem?_cons_succ, Option.bind_some, List.map_cons, List.map_nil, Nat.zero_add, if_true, List.getD_cons_zero, List.getD_cons_succ, List.contains_cons, List.contains_nil, Nat.reduceBEq, Bool.or_true, Bool.true_or, Bool.or_false, Bool.false_or, Bool.not_true, Bool.not_false, true_and, and_true]; congr 1; omega
  · simp only [go_sem, Hold.p, HoldK.k, HoldL.K, HoldL.body, Nat.reduceBEq, Nat.reduceAdd, List.getElem?_cons_zero, List.getElem?_cons_succ, Option.bind_some, List.map_cons, List.map_nil, Nat.zero_add, if_true, List.getD_cons_zero, List.getD_cons_succ, List.contains_cons, List.contains_nil, Nat.reduceBEq, Bool.or_true, Bool.true_or, Bool.or_false, Bool.false_or, Bool.not_true, Bool.not_false, true_and, and_true]; congr 1; omega

set_option maxRecDepth 20000 in
theorem split_c (h : IH) (b e0 : Nat) (v : IV) (una nxt most : Int) (ps : List Piece) (hb : At h b (.rows [[.int .i64 una, .int .i64 nxt, v]] e0 3 false)) (hs : SlR h 6 v (ps.map Piece.row))
    (hw : ∀ p ∈ ps, 0 ≤ p.fr ∧ p.fr < p.to ∧ p.to ≤ 1099511627776) (hm : ps.length ≤ 4096) (h1 : 1 ≤ most) (h2 : most ≤ 65535) :
    ICalls Try.prog 80 [.ptr b 0 0, .int .i64 most] h fun r h' => if 4096 < (splitP most ps).length then r = .bool false ∧ Ext h h' else
      r = .bool true ∧ ∃ v', At h' b (.rows [[.int .i64 una, .int .i64 nxt, v']] e0 3 false) ∧ Own h.n h'.n h' 113 6 v' ((splitP most ps).map Piece.row) ∧ But b .nilslice h h' := by
  refine icalls (.of ok80) (Nat.le_of_ble_eq_true rfl) ?_
  unfold c80
  have hlen := hs.lenF
  rw [List.length_map] at hlen
  have hbe := hb.eq
  simp only [hbe, hlen, go_sem, Hold.p, HoldK.k, HoldL.K, HoldL.body, Nat.reduceBEq, Nat.reduceAdd, List.getElem?_cons_zero, List.getElem?_cons_succ, Option.bind_some, List.map_cons, List.map_nil, Nat.zero_add, if_true, List.getD_cons_zero, List.getD_cons_succ, List.contains_cons, List.contains_nil, Nat.reduceBEq, Bool.or_true, Bool.true_or, Bool.or_false, Bool.false_or, Bool.not_true, Bool.not_false, true_and, and_true, rowA_whole, push_n, set_n, push_obj, set_obj, set_push, set_push_ne, set_set, Nat.add_assoc, Nat.left_eq_add, Nat.add_eq_left, Nat.add_left_cancel_iff, Nat.reduceEqDiff, stO_1s, stO_ws, boxA_s, one_bool, one_int, one_str, one_ptr, one_nilptr, one_slice, one_eslice, one_nilslice, one_func, one_iface, one_niliface, List.all_cons, List.all_nil, List.length_cons, List.length_nil, Nat.reduceLT, Nat.reduceEqDiff, Nat.reduceLeDiff, Bool.and_true, Nat.one_ne_zero, Nat.succ_ne_zero, reduceIte, if_false, List.getElem?_cons_zero, List.set_cons_zero, List.set_cons_succ]
  refine loop_at (fun m e h' => ∃ k vl lo hi, m = ps.length - k ∧ k ≤ ps.length ∧ e 0 = .ptr b 0 0 ∧ e 1 = .int .i64 most ∧ e 13 = v ∧ e 14 = .int .i64 ps.length ∧ e 15 = .int .i64 k ∧ e 5 = vl ∧
    Ext h h' ∧ h.n ≤ lo ∧ Own lo hi h' 113 6 vl ((splitP most (ps.take k)).map Piece.row) ∧ hi ≤ h'.n ∧ (splitP most (ps.take k)).length ≤ 4096 + k) ps.length ?_ ?_
  · refine ⟨0, .nilslice, h.n, h.n, by omega, by omega, ?_⟩
    simp only [go_sem, Hold.p, HoldK.k, HoldL.K, HoldL.body, Nat.reduceBEq, Nat.reduceAdd, List.getElem?_cons_zero, List.getElem?_cons_succ, Option.bind_some, List.map_cons, List.map_nil, Nat.zero_add, if_true, List.getD_cons_zero, List.getD_cons_succ, List.contains_cons, List.contains_nil, Nat.reduceBEq, Bool.or_true, Bool.true_or, Bool.or_false, Bool.false_or, Bool.not_true, Bool.not_false, true_and, and_true, rowA_whole, push_n, set_n, push_obj, set_obj, set_push, set_push_ne, set_set, Nat.add_assoc, Nat.left_eq_add, Nat.add_eq_left, Nat.add_left_cancel_iff, Nat.reduceEqDiff, stO_1s, stO_ws, boxA_s, one_bool, one_int, one_str, one_ptr, one_nilptr, one_slice, one_eslice, one_nilslice, one_func, one_iface, one_niliface, List.all_cons, List.all_nil, List.length_cons, List.length_nil, Nat.reduceLT, Nat.reduceEqDiff, Nat.reduceLeDiff, Bool.and_true, Nat.one_ne_zero, Nat.succ_ne_zero, reduceIte, if_false, List.getElem?_cons_zero, List.set_cons_zero, List.set_cons_succ]
    exact ⟨rfl, Ext.refl _, Nat.le_refl _, Own.nil, Nat.le_refl _, by simp [splitP]⟩
  · rintro m e h' ⟨k, vl, lo, hi, rfl, hk, i0, i1, i13, i14, i15, i5, hE, hlo, ol, hhi, hll⟩
    simp only [i0, i1, i13, i14, i15, i5, go_sem, Hold.p, HoldK.k, HoldL.K, HoldL.body, Nat.reduceBEq, Nat.reduceAdd, List.getElem?_cons_zero, List.getElem?_cons_succ, Option.bind_some, List.map_cons, List.map_nil, Nat.zero_add, if_true, List.getD_cons_zero, List.getD_cons_succ, List.contains_cons, List.contains_nil, Nat.reduceBEq, Bool.or_true, Bool.true_or, Bool.or_false, Bool.false_or, Bool.not_true, Bool.not_false, true_and, and_true, rowA_whole, push_n, set_n, push_obj, set_obj, set_push, set_push_ne, set_set, Nat.add_assoc, Nat.left_eq_add, Nat.add_eq_left, Nat.add_left_cancel_iff, Nat.reduceEqDiff, stO_1s, stO_ws, boxA_s, one_bool, one_int, one_str, one_ptr, one_nilptr, one_slice, one_eslice, one_nilslice, one_func, one_iface, one_niliface, List.all_cons, List.all_nil, List.length_cons, List.length_nil, Nat.reduceLT, Nat.reduceEqDiff, Nat.reduceLeDiff, Bool.and_true, Nat.one_ne_zero, Nat.succ_ne_zero, reduceIte, if_false, List.getElem?_cons_zero, List.set_cons_zero, List.set_cons_succ]
    refine test_dec (fun hlt => ?_) (fun hlt => ?_)
    · have hlt' : k < ps.length := by omega
      have hkp : ps[k]? = some ps[k] := List.getElem?_eq_getElem hlt'
      have hpb := hw ps[k] (List.getElem_mem _)
      generalize ps[k] = p at hkp hpb
      have hsu := splitP_succ (most := most) hkp
      obtain ⟨l, j, hia, hlj, hrow⟩ := (hs.ext hE).at (m := k) (row := p.row) (by rw [List.getElem?_map, hkp]; rfl) .i64
      simp only [i0, i1, i13, i14, i15, i5, go_sem, Hold.p, HoldK.k, HoldL.K, HoldL.body, Nat.reduceBEq, Nat.reduceAdd, List.getElem?_cons_zero, List.getElem?_cons_succ, Option.bind_some, List.map_cons, List.map_nil, Nat.zero_add, if_true, List.getD_cons_zero, List.getD_cons_succ, List.contains_cons, List.contains_nil, Nat.reduceBEq, Bool.or_true, Bool.true_or, Bool.or_false, Bool.false_or, Bool.not_true, Bool.not_false, true_and, and_true, rowA_whole, push_n, set_n, push_obj, set_obj, set_push, set_push_ne, set_set, Nat.add_assoc, Nat.left_eq_add, Nat.add_eq_left, Nat.add_left_cancel_iff, Nat.reduceEqDiff, stO_1s, stO_ws, boxA_s, one_bool, one_int, one_str, one_ptr, one_nilptr, one_slice, one_eslice, one_nilslice, one_func, one_iface, one_niliface, List.all_cons, List.all_nil, List.length_cons, List.length_nil, Nat.reduceLT, Nat.reduceEqDiff, Nat.reduceLeDiff, Bool.and_true, Nat.one_ne_zero, Nat.succ_ne_zero, reduceIte, if_false, List.getElem?_cons_zero, List.set_cons_zero, List.set_cons_succ]
      refine got_of hia ?_
      unfold Piece.row at hrow
      simp only [hrow, i0, i1, i13, i14, i15, i5, go_sem, Hold.p, HoldK.k, HoldL.K, HoldL.body, Nat.reduceBEq, Nat.reduceAdd, List.getElem?_cons_zero, List.getElem?_cons_succ, Option.bind_some, List.map_cons, List.map_nil, Nat.zero_add, if_true, List.getD_cons_zero, List.getD_cons_succ, List.contains_cons, List.contains_nil, Nat.reduceBEq, Bool.or_true, Bool.true_or, Bool.or_false, Bool.false_or, Bool.not_true, Bool.not_false, true_and, and_true, rowA_whole, push_n, set_n, push_obj, set_obj, set_push, set_push_ne, set_set, Nat.add_assoc, Nat.left_eq_add, Nat.add_eq_left, Nat.add_left_cancel_iff, Nat.reduceEqDiff, stO_1s, stO_ws, boxA_s, one_bool, one_int, one_str, one_ptr, one_nilptr, one_slice, one_eslice, one_nilslice, one_func, one_iface, one_niliface, List.all_cons, List.all_nil, List.length_cons, List.length_nil, Nat.reduceLT, Nat.reduceEqDiff, Nat.reduceLeDiff, Bool.and_true, Nat.one_ne_zero, Nat.succ_ne_zero, reduceIte, if_false, List.getElem?_cons_zero, List.set_cons_zero, List.set_cons_succ]
      generalize hq_g0 : IH.push h' (IObj.rows [[IV.int .i64 p.fr, IV.int .i64 p.to, IV.int .i64 p.at_, IV.int .i64 p.times, IV.bool p.sacked, IV.bool p.lost]] 113 6 false) = g0
      have e_g0 : Ext h' g0 := by rw [← hq_g0]; exact (Ext.refl _).push _
      have l_g0 : g0.n = h'.n + 1 := by rw [← hq_g0]; rfl
      have bp : At g0 h'.n (IObj.rows [[IV.int .i64 p.fr, IV.int .i64 p.to, IV.int .i64 p.at_, IV.int .i64 p.times, IV.bool p.sacked, IV.bool p.lost]] 113 6 false) := by rw [← hq_g0]; exact At.new _ _
      clear hq_g0
      have ol := ol.ext e_g0
      refine loop_at (fun m e g => ∃ (p' : Piece) (vl : IV) (lo hi : Nat) (l : List Piece), m = (p'.to - p'.fr).toNat ∧ e 0 = .ptr b 0 0 ∧ e 1 = .int .i64 most ∧ e 13 = v ∧ e 14 = .int .i64 ps.length ∧ e 15 = .int .i64 k ∧ e 5 = vl ∧ e 7 = .ptr h'.n 0 0 ∧
        Ext h g ∧ h.n ≤ lo ∧ (h'.n < lo ∨ hi ≤ h'.n) ∧ hi ≤ g.n ∧ Own lo hi g 113 6 vl (l.map Piece.row) ∧ l.length ≤ 4096 + k ∧ l ++ cut most p' = splitP most (ps.take k) ++ cut most p ∧ At g h'.n (.rows [p'.row] 113 6 false) ∧
        (0 ≤ p'.fr ∧ p'.fr < p'.to ∧ p'.to ≤ 1099511627776)) (p.to - p.fr).toNat ?_ ?_
      · refine ⟨p, vl, lo, hi, splitP most (ps.take k), rfl, ?_⟩
        simp only [i0, i1, i13, i14, i15, i5, go_sem, Hold.p, HoldK.k, HoldL.K, HoldL.body, Nat.reduceBEq, Nat.reduceAdd, List.getElem?_cons_zero, List.getElem?_cons_succ, Option.bind_some, List.map_cons, List.map_nil, Nat.zero_add, if_true, List.getD_cons_zero, List.getD_cons_succ, List.contains_cons, List.contains_nil, Nat.reduceBEq, Bool.or_true, Bool.true_or, Bool.or_false, Bool.false_or, Bool.not_true, Bool.not_false, true_and, and_true, rowA_whole, push_n, set_n, push_obj, set_obj, set_push, set_push_ne, set_set, Nat.add_assoc, Nat.left_eq_add, Nat.add_eq_left, Nat.add_left_cancel_iff, Nat.reduceEqDiff, stO_1s, stO_ws, boxA_s, one_bool, one_int, one_str, one_ptr, one_nilptr, one_slice, one_eslice, one_nilslice, one_func, one_iface, one_niliface, List.all_cons, List.all_nil, List.length_cons, List.length_nil, Nat.reduceLT, Nat.reduceEqDiff, Nat.reduceLeDiff, Bool.and_true, Nat.one_ne_zero, Nat.succ_ne_zero, reduceIte, if_false, List.getElem?_cons_zero, List.set_cons_zero, List.set_cons_succ]
        exact ⟨hE.trans e_g0, hlo, by omega, by omega, ol, hll, bp, hpb⟩
      · rintro m e g ⟨p', vl, lo, hi, l, rfl, j0, j1, j13, j14, j15, j5, j7, gE, glo, gd, ghi, go, gl, gc, gb, gw⟩
        have gbe := gb.eq
        unfold Piece.row at gbe
        have hw0 : wr .i64 (p'.to - p'.fr) = p'.to - p'.fr := wr64 _ (by omega)
        have hw1 : wr .i64 (p'.fr + most) = p'.fr + most := wr64 _ (by omega)
        have hle := hE.le
        have gble := gb.lt
        have hne : (h'.n = g.n) = False := by simp; omega
        have hce := cut_eq h1 p'
        simp only [j0, j1, j13, j14, j15, j5, j7, gbe, hw0, go_sem, Hold.p, HoldK.k, HoldL.K, HoldL.body, Nat.reduceBEq, Nat.reduceAdd, List.getElem?_cons_zero, List.getElem?_cons_succ, Option.bind_some, List.map_cons, List.map_nil, Nat.zero_add, if_true, List.getD_cons_zero, List.getD_cons_succ, List.contains_cons, List.contains_nil, Nat.reduceBEq, Bool.or_true, Bool.true_or, Bool.or_false, Bool.false_or, Bool.not_true, Bool.not_false, true_and, and_true, rowA_whole, push_n, set_n, push_obj, set_obj, set_push, set_push_ne, set_set, Nat.add_assoc, Nat.left_eq_add, Nat.add_eq_left, Nat.add_left_cancel_iff, Nat.reduceEqDiff, stO_1s, stO_ws, boxA_s, one_bool, one_int, one_str, one_ptr, one_nilptr, one_slice, one_eslice, one_nilslice, one_func, one_iface, one_niliface, List.all_cons, List.all_nil, List.length_cons, List.length_nil, Nat.reduceLT, Nat.reduceEqDiff, Nat.reduceLeDiff, Bool.and_true, Nat.one_ne_zero, Nat.succ_ne_zero, reduceIte, if_false, List.getElem?_cons_zero, List.set_cons_zero, List.set_cons_succ]
        refine test_dec (fun c1 => ?_) (fun c1 => ?_)
        · rw [if_pos c1] at hce
          simp only [j0, j1, j13, j14, j15, j5, j7, gbe, hw0, hw1, hne, lay_nil, lay_1, lay_w, Option.map_some, go_sem, Hold.p, HoldK.k, HoldL.K, HoldL.body, Nat.reduceBEq, Nat.reduceAdd, List.getElem?_cons_zero, List.getElem?_cons_succ, Option.bind_some, List.map_cons, List.map_nil, Nat.zero_add, if_true, List.getD_cons_zero, List.getD_cons_succ, List.contains_cons, List.contains_nil, Nat.reduceBEq, Bool.or_true, Bool.true_or, Bool.or_false, Bool.false_or, Bool.not_true, Bool.not_false, true_and, and_true, rowA_whole, push_n, set_n, push_obj, set_obj, set_push, set_push_ne, set_set, Nat.add_assoc, Nat.left_eq_add, Nat.add_eq_left, Nat.add_left_cancel_iff, Nat.reduceEqDiff, stO_1s, stO_ws, boxA_s, one_bool, one_int, one_str, one_ptr, one_nilptr, one_slice, one_eslice, one_nilslice, one_func, one_iface, one_niliface, List.all_cons, List.all_nil, List.length_cons, List.length_nil, Nat.reduceLT, Nat.reduceEqDiff, Nat.reduceLeDiff, Bool.and_true, Nat.one_ne_zero, Nat.succ_ne_zero, reduceIte, if_false, List.getElem?_cons_zero, List.set_cons_zero, List.set_cons_succ]
          generalize hq_g1 : IH.set g (h'.n) (IObj.rows [[IV.int .i64 (p'.fr + most), IV.int .i64 p'.to, IV.int .i64 p'.at_, IV.int .i64 p'.times, IV.bool p'.sacked, IV.bool p'.lost]] 113 6 false) = g1
          have l_g1 : g1.n = g.n := by rw [← hq_g1]; rfl
          have gb : At g1 (h'.n) (IObj.rows [[IV.int .i64 (p'.fr + most), IV.int .i64 p'.to, IV.int .i64 p'.at_, IV.int .i64 p'.times, IV.bool p'.sacked, IV.bool p'.lost]] 113 6 false) := by rw [← hq_g1]; exact gb.here
          have go := go.set (m := h'.n) (by omega) (IObj.rows [[IV.int .i64 (p'.fr + most), IV.int .i64 p'.to, IV.int .i64 p'.at_, IV.int .i64 p'.times, IV.bool p'.sacked, IV.bool p'.lost]] 113 6 false)
          rw [hq_g1] at go
          have gE := gE.set (h'.n) (by omega) (IObj.rows [[IV.int .i64 (p'.fr + most), IV.int .i64 p'.to, IV.int .i64 p'.at_, IV.int .i64 p'.times, IV.bool p'.sacked, IV.bool p'.lost]] 113 6 false)
          rw [hq_g1] at gE
          clear hq_g1
          generalize hq_g2 : IH.push g1 (IObj.rows [[IV.int .i64 p'.fr, IV.int .i64 (p'.fr + most), IV.int .i64 p'.at_, IV.int .i64 p'.times, IV.bool p'.sacked, IV.bool p'.lost]] 113 6 false) = g2
          have e_g2 : Ext g1 g2 := by rw [← hq_g2]; exact (Ext.refl _).push _
          have l_g2 : g2.n = g1.n + 1 := by rw [← hq_g2]; rfl
          have bq : At g2 g1.n (IObj.rows [[IV.int .i64 p'.fr, IV.int .i64 (p'.fr + most), IV.int .i64 p'.at_, IV.int .i64 p'.times, IV.bool p'.sacked, IV.bool p'.lost]] 113 6 false) := by rw [← hq_g2]; exact At.new _ _
          clear hq_g2
          have gb := gb.ext e_g2
          have go := go.ext e_g2
          have gE := gE.ext e_g2
          generalize hq_g3 : IH.push g2 (IObj.rows [[IV.int .i64 p'.fr, IV.int .i64 (p'.fr + most), IV.int .i64 p'.at_, IV.int .i64 p'.times, IV.bool p'.sacked, IV.bool p'.lost]] 113 6 false) = g3
          have e_g3 : Ext g2 g3 := by rw [← hq_g3]; exact (Ext.refl _).push _
          have l_g3 : g3.n = g2.n + 1 := by rw [← hq_g3]; rfl
          have ba : At g3 g2.n (IObj.rows [[IV.int .i64 p'.fr, IV.int .i64 (p'.fr + most), IV.int .i64 p'.at_, IV.int .i64 p'.times, IV.bool p'.sacked, IV.bool p'.lost]] 113 6 false) := by rw [← hq_g3]; exact At.new _ _
          clear hq_g3
          have gb := gb.ext e_g3
          have go := go.ext e_g3
          have gE := gE.ext e_g3
          refine go.app (by simp) (by simp; omega) ?_
          intro v6 h6 o6 t6 n6 v6o v6c
          have gb := gb.turn go (by omega) t6
          have gE := gE.turn go (by omega) t6
          have le_t6 := t6.le
          have hl6 : lenF v6 = some (.int .i64 ((l.length + 1 : Nat) : Int)) := by simpa using o6.lenF
          have o7 : Own g3.n (g3.n + 1) h6 113 6 v6 ((l ++ [{ p' with to := p'.fr + most }]).map Piece.row) := by
            have : (l ++ [{ p' with to := p'.fr + most }]).map Piece.row = l.map Piece.row ++ [[IV.int .i64 p'.fr, IV.int .i64 (p'.fr + most), IV.int .i64 p'.at_, IV.int .i64 p'.times, IV.bool p'.sacked, IV.bool p'.lost]] := by simp [Piece.row]
            rw [this]; exact o6
          have gc2 : (l ++ [{ p' with to := p'.fr + most }]) ++ cut most { p' with fr := p'.fr + most } = splitP most (ps.take k) ++ cut most p := by rw [← gc, hce]; simp
          simp only [hl6, j0, j1, j13, j14, j15, j5, j7, go_sem, Hold.p, HoldK.k, HoldL.K, HoldL.body, Nat.reduceBEq, Nat.reduceAdd, List.getElem?_cons_zero, List.getElem?_cons_succ, Option.bind_some, List.map_cons, List.map_nil, Nat.zero_add, if_true, List.getD_cons_zero, List.getD_cons_succ, List.contains_cons, List.contains_nil, Nat.reduceBEq, Bool.or_true, Bool.true_or, Bool.or_false, Bool.false_or, Bool.not_true, Bool.not_false, true_and, and_true, rowA_whole, push_n, set_n, push_obj, set_obj, set_push, set_push_ne, set_set, Nat.add_assoc, Nat.left_eq_add, Nat.add_eq_left, Nat.add_left_cancel_iff, Nat.reduceEqDiff, stO_1s, stO_ws, boxA_s, one_bool, one_int, one_str, one_ptr, one_nilptr, one_slice, one_eslice, one_nilslice, one_func, one_iface, one_niliface, List.all_cons, List.all_nil, List.length_cons, List.length_nil, Nat.reduceLT, Nat.reduceEqDiff, Nat.reduceLeDiff, Bool.and_true, Nat.one_ne_zero, Nat.succ_ne_zero, reduceIte, if_false, List.getElem?_cons_zero, List.set_cons_zero, List.set_cons_succ]
          refine test_dec (fun c2 => ?_) (fun c2 => ?_)
          · simp only [j0, go_sem, Hold.p, HoldK.k, HoldL.K, HoldL.body, Nat.reduceBEq, Nat.reduceAdd, List.getElem?_cons_zero, List.getElem?_cons_succ, Option.bind_some, List.map_cons, List.map_nil, Nat.zero_add, if_true, List.getD_cons_zero, List.getD_cons_succ, List.contains_cons, List.contains_nil, Nat.reduceBEq, Bool.or_true, Bool.true_or, Bool.or_false, Bool.false_or, Bool.not_true, Bool.not_false, true_and, and_true, rowA_whole, push_n, set_n, push_obj, set_obj, set_push, set_push_ne, set_set, Nat.add_assoc, Nat.left_eq_add, Nat.add_eq_left, Nat.add_left_cancel_iff, Nat.reduceEqDiff, stO_1s, stO_ws, boxA_s, one_bool, one_int, one_str, one_ptr, one_nilptr, one_slice, one_eslice, one_nilslice, one_func, one_iface, one_niliface, List.all_cons, List.all_nil, List.length_cons, List.length_nil, Nat.reduceLT, Nat.reduceEqDiff, Nat.reduceLeDiff, Bool.and_true, Nat.one_ne_zero, Nat.succ_ne_zero, reduceIte, if_false, List.getElem?_cons_zero, List.set_cons_zero, List.set_cons_succ]
            have := splitP_le (most := most) (ps := ps) (k + 1)
            rw [hsu, ← gc2] at this
            simp only [List.length_append, List.length_cons, List.length_nil] at this
            rw [if_pos (by omega)]
            exact gE
          · simp only [j0, j1, j13, j14, j15, j5, j7, go_sem, Hold.p, HoldK.k, HoldL.K, HoldL.body, Nat.reduceBEq, Nat.reduceAdd, List.getElem?_cons_zero, List.getElem?_cons_succ, Option.bind_some, List.map_cons, List.map_nil, Nat.zero_add, if_true, List.getD_cons_zero, List.getD_cons_succ, List.contains_cons, List.contains_nil, Nat.reduceBEq, Bool.or_true, Bool.true_or, Bool.or_false, Bool.false_or, Bool.not_true, Bool.not_false, true_and, and_true, rowA_whole, push_n, set_n, push_obj, set_obj, set_push, set_push_ne, set_set, Nat.add_assoc, Nat.left_eq_add, Nat.add_eq_left, Nat.add_left_cancel_iff, Nat.reduceEqDiff, stO_1s, stO_ws, boxA_s, one_bool, one_int, one_str, one_ptr, one_nilptr, one_slice, one_eslice, one_nilslice, one_func, one_iface, one_niliface, List.all_cons, List.all_nil, List.length_cons, List.length_nil, Nat.reduceLT, Nat.reduceEqDiff, Nat.reduceLeDiff, Bool.and_true, Nat.one_ne_zero, Nat.succ_ne_zero, reduceIte, if_false, List.getElem?_cons_zero, List.set_cons_zero, List.set_cons_succ]
            refine ⟨_, ?_, { p' with fr := p'.fr + most }, v6, g3.n, g3.n + 1, _, rfl, rfl, gE, by omega, by omega, by omega, o7, by simp; omega, gc2, gb, ?_⟩
            · simp only; omega
            · simp only; omega
        · rw [if_neg c1] at hce
          simp only [j0, j1, j13, j14, j15, j5, j7, gbe, hw0, hw1, go_sem, Hold.p, HoldK.k, HoldL.K, HoldL.body, Nat.reduceBEq, Nat.reduceAdd, List.getElem?_cons_zero, List.getElem?_cons_succ, Option.bind_some, List.map_cons, List.map_nil, Nat.zero_add, if_true, List.getD_cons_zero, List.getD_cons_succ, List.contains_cons, List.contains_nil, Nat.reduceBEq, Bool.or_true, Bool.true_or, Bool.or_false, Bool.false_or, Bool.not_true, Bool.not_false, true_and, and_true, rowA_whole, push_n, set_n, push_obj, set_obj, set_push, set_push_ne, set_set, Nat.add_assoc, Nat.left_eq_add, Nat.add_eq_left, Nat.add_left_cancel_iff, Nat.reduceEqDiff, stO_1s, stO_ws, boxA_s, one_bool, one_int, one_str, one_ptr, one_nilptr, one_slice, one_eslice, one_nilslice, one_func, one_iface, one_niliface, List.all_cons, List.all_nil, List.length_cons, List.length_nil, Nat.reduceLT, Nat.reduceEqDiff, Nat.reduceLeDiff, Bool.and_true, Nat.one_ne_zero, Nat.succ_ne_zero, reduceIte, if_false, List.getElem?_cons_zero, List.set_cons_zero, List.set_cons_succ]
          generalize hq_g3 : IH.push g (IObj.rows [[IV.int .i64 p'.fr, IV.int .i64 p'.to, IV.int .i64 p'.at_, IV.int .i64 p'.times, IV.bool p'.sacked, IV.bool p'.lost]] 113 6 false) = g3
          have e_g3 : Ext g g3 := by rw [← hq_g3]; exact (Ext.refl _).push _
          have l_g3 : g3.n = g.n + 1 := by rw [← hq_g3]; rfl
          have ba : At g3 g.n (IObj.rows [[IV.int .i64 p'.fr, IV.int .i64 p'.to, IV.int .i64 p'.at_, IV.int .i64 p'.times, IV.bool p'.sacked, IV.bool p'.lost]] 113 6 false) := by rw [← hq_g3]; exact At.new _ _
          clear hq_g3
          have go := go.ext e_g3
          have gE := gE.ext e_g3
          refine go.app (by simp) (by simp; omega) ?_
          intro v6 h6 o6 t6 n6 v6o v6c
          have gE := gE.turn go (by omega) t6
          have le_t6 := t6.le
          have o7 : Own g3.n (g3.n + 1) h6 113 6 v6 ((l ++ [p']).map Piece.row) := by
            have : (l ++ [p']).map Piece.row = l.map Piece.row ++ [[IV.int .i64 p'.fr, IV.int .i64 p'.to, IV.int .i64 p'.at_, IV.int .i64 p'.times, IV.bool p'.sacked, IV.bool p'.lost]] := by simp [Piece.row]
            rw [this]; exact o6
          rw [hce, ← hsu] at gc
          rw [gc] at o7
          simp only [j0, j1, j13, j14, j15, j5, j7, go_sem, Hold.p, HoldK.k, HoldL.K, HoldL.body, Nat.reduceBEq, Nat.reduceAdd, List.getElem?_cons_zero, List.getElem?_cons_succ, Option.bind_some, List.map_cons, List.map_nil, Nat.zero_add, if_true, List.getD_cons_zero, List.getD_cons_succ, List.contains_cons, List.contains_nil, Nat.reduceBEq, Bool.or_true, Bool.true_or, Bool.or_false, Bool.false_or, Bool.not_true, Bool.not_false, true_and, and_true, rowA_whole, push_n, set_n, push_obj, set_obj, set_push, set_push_ne, set_set, Nat.add_assoc, Nat.left_eq_add, Nat.add_eq_left, Nat.add_left_cancel_iff, Nat.reduceEqDiff, stO_1s, stO_ws, boxA_s, one_bool, one_int, one_str, one_ptr, one_nilptr, one_slice, one_eslice, one_nilslice, one_func, one_iface, one_niliface, List.all_cons, List.all_nil, List.length_cons, List.length_nil, Nat.reduceLT, Nat.reduceEqDiff, Nat.reduceLeDiff, Bool.and_true, Nat.one_ne_zero, Nat.succ_ne_zero, reduceIte, if_false, List.getElem?_cons_zero, List.set_cons_zero, List.set_cons_succ]
          refine ⟨_, ?_, k + 1, v6, g3.n, g3.n + 1, rfl, by omega, wr64_succ k (by omega), rfl, gE, by omega, o7, by omega, ?_⟩
          · omega
          · rw [← gc]; simp; omega
    · obtain rfl : k = ps.length := by omega
      rw [List.take_length] at ol hll
      have hl6 : lenF vl = some (.int .i64 ((splitP most ps).length : Int)) := by simpa using ol.lenF
      have vlo := ol.one
      have vlc := ol.cells
      have bx := hb.ext hE
      simp only [i0, i1, i13, i14, i15, i5, hl6, vlo, vlc, bx.eq, go_sem, Hold.p, HoldK.k, HoldL.K, HoldL.body, Nat.reduceBEq, Nat.reduceAdd, List.getElem?_cons_zero, List.getElem?_cons_succ, Option.bind_some, List.map_cons, List.map_nil, Nat.zero_add, if_true, List.getD_cons_zero, List.getD_cons_succ, List.contains_cons, List.contains_nil, Nat.reduceBEq, Bool.or_true, Bool.true_or, Bool.or_false, Bool.false_or, Bool.not_true, Bool.not_false, true_and, and_true, rowA_whole, push_n, set_n, push_obj, set_obj, set_push, set_push_ne, set_set, Nat.add_assoc, Nat.left_eq_add, Nat.add_eq_left, Nat.add_left_cancel_iff, Nat.reduceEqDiff, stO_1s, stO_ws, boxA_s, one_bool, one_int, one_str, one_ptr, one_nilptr, one_slice, one_eslice, one_nilslice, one_func, one_iface, one_niliface, List.all_cons, List.all_nil, List.length_cons, List.length_nil, Nat.reduceLT, Nat.reduceEqDiff, Nat.reduceLeDiff, Bool.and_true, Nat.one_ne_zero, Nat.succ_ne_zero, reduceIte, if_false, List.getElem?_cons_zero, List.set_cons_zero, List.set_cons_succ]
      refine test_dec (fun c2 => ?_) (fun c2 => ?_)
      · simp only [i0, go_sem, Hold.p, HoldK.k, HoldL.K, HoldL.body, Nat.reduceBEq, Nat.reduceAdd, List.getElem?_cons_zero, List.getElem?_cons_succ, Option.bind_some, List.map_cons, List.map_nil, Nat.zero_add, if_true, List.getD_cons_zero, List.getD_cons_succ, List.contains_cons, List.contains_nil, Nat.reduceBEq, Bool.or_true, Bool.true_or, Bool.or_false, Bool.false_or, Bool.not_true, Bool.not_false, true_and, and_true, rowA_whole, push_n, set_n, push_obj, set_obj, set_push, set_push_ne, set_set, Nat.add_assoc, Nat.left_eq_add, Nat.add_eq_left, Nat.add_left_cancel_iff, Nat.reduceEqDiff, stO_1s, stO_ws, boxA_s, one_bool, one_int, one_str, one_ptr, one_nilptr, one_slice, one_eslice, one_nilslice, one_func, one_iface, one_niliface, List.all_cons, List.all_nil, List.length_cons, List.length_nil, Nat.reduceLT, Nat.reduceEqDiff, Nat.reduceLeDiff, Bool.and_true, Nat.one_ne_zero, Nat.succ_ne_zero, reduceIte, if_false, List.getElem?_cons_zero, List.set_cons_zero, List.set_cons_succ]
        rw [if_pos (by omega)]
        exact hE
      · simp only [i0, i1, i13, i14, i15, i5, hl6, vlo, vlc, bx.eq, go_sem, Hold.p, HoldK.k, HoldL.K, HoldL.body, Nat.reduceBEq, Nat.reduceAdd, List.getElem?_cons_zero, List.getElem?_cons_succ, Option.bind_some, List.map_cons, List.map_nil, Nat.zero_add, if_true, List.getD_cons_zero, List.getD_cons_succ, List.contains_cons, List.contains_nil, Nat.reduceBEq, Bool.or_true, Bool.true_or, Bool.or_false, Bool.false_or, Bool.not_true, Bool.not_false, true_and, and_true, rowA_whole, push_n, set_n, push_obj, set_obj, set_push, set_push_ne, set_set, Nat.add_assoc, Nat.left_eq_add, Nat.add_eq_left, Nat.add_left_cancel_iff, Nat.reduceEqDiff, stO_1s, stO_ws, boxA_s, one_bool, one_int, one_str, one_ptr, one_nilptr, one_slice, one_eslice, one_nilslice, one_func, one_iface, one_niliface, List.all_cons, List.all_nil, List.length_cons, List.length_nil, Nat.reduceLT, Nat.reduceEqDiff, Nat.reduceLeDiff, Bool.and_true, Nat.one_ne_zero, Nat.succ_ne_zero, reduceIte, if_false, List.getElem?_cons_zero, List.set_cons_zero, List.set_cons_succ]
        rw [if_neg (by omega)]
        have hbl := hb.lt
        refine ⟨vl, bx.here, (ol.set (m := b) (by omega) _).wide (by omega) (by omega) (Nat.le_refl _), hE.le, fun m hm hmb _ => ?_⟩
        rw [set_there _ _ _ _ hmb, hE.obj m hm]

set_option maxRecDepth 20000 in
theorem implBoardSplit_c (h : IH) (v : IV) (una nxt most : Int) (ps : List Piece) (hs : SlR h 6 v (ps.map Piece.row)) :
    ICalls Try.prog 36 [.agg [.int .i64 una, .int .i64 nxt, v], .int .i64 most] h fun r h' => BRes h h' r (splitB una nxt ps most) := by
  refine icalls (.of ok36) (Nat.le_of_ble_eq_true rfl) ?_
  unfold c36
  have hv1 := hs.one
  have hE : ∀ a b, Ext h ((h.push a).push b) := fun a b => (Ext.refl _).push _ |>.push _
  simp only [hv1, go_sem, Hold.p, HoldK.k, HoldL.K, HoldL.body, Nat.reduceBEq, Nat.reduceAdd, List.getElem?_cons_zero, List.getElem?_cons_succ, Option.bind_some, List.map_cons, List.map_nil, Nat.zero_add, if_true, List.getD_cons_zero, List.getD_cons_succ, List.contains_cons, List.contains_nil, Nat.reduceBEq, Bool.or_true, Bool.true_or, Bool.or_false, Bool.false_or, Bool.not_true, Bool.not_false, true_and, and_true, rowA_whole, push_n, set_n, push_obj, set_obj, set_push, set_push_ne, set_set, Nat.add_assoc, Nat.left_eq_add, Nat.add_eq_left, Nat.add_left_cancel_iff, Nat.reduceEqDiff, stO_1s, stO_ws, boxA_s, one_bool, one_int, one_str, one_ptr, one_nilptr, one_slice, one_eslice, one_nilslice, one_func, one_iface, one_niliface, List.all_cons, List.all_nil, List.length_cons, List.length_nil, Nat.reduceLT, Nat.reduceEqDiff, Nat.reduceLeDiff, Bool.and_true, Nat.one_ne_zero, Nat.succ_ne_zero, reduceIte, if_false, List.getElem?_cons_zero, List.set_cons_zero, List.set_cons_succ]
  refine callA_of (okBoard_c _ una nxt v ps (hs.ext (hE _ _))) ?_
  rintro r h1 ⟨rfl, hE1⟩
  have b0 := hE1.obj h.n (by simp only [push_n]; omega)
  have b1 := hE1.obj (h.n + 1) (by simp only [push_n]; omega)
  simp [push_obj, push_n] at b0 b1
  have hl1 := hE1.le
  simp only [push_n] at hl1
  have bad : ∀ (o : IObj) c, (splitB una nxt ps most) = (0, 0, [], c) → BRes h (h1.set (h.n + 1) o) (.tuple [.agg [.int .i64 0, .int .i64 0, .nilslice], .int .i64 c]) (splitB una nxt ps most) := by
    intro o c e
    rw [e]
    exact ⟨.nilslice, rfl, Own.nil, ((hE _ _).trans hE1).set _ (by omega) _⟩
  by_cases hc : okB una nxt ps = true ∧ (1 ≤ most ∧ most ≤ 65535)
  · obtain ⟨hok, n1, n2⟩ := hc
    have hdef : splitB una nxt ps most = if 4096 < (splitP most ps).length then (0, 0, [], 18) else (una, nxt, splitP most ps, 0) := if_pos ⟨hok, ⟨n1, n2⟩⟩
    have q1 : decide (most < 1) = false := by simp; omega
    have q2 : decide (65535 < most) = false := by simp; omega
    have hm : (ps.map Piece.row).length ≤ 1048576 := by have := (okB_un hok).2.2.2.1; simp; omega
    simp only [hok, hv1, b0, q1, q2, go_sem, Hold.p, HoldK.k, HoldL.K, HoldL.body, Nat.reduceBEq, Nat.reduceAdd, List.getElem?_cons_zero, List.getElem?_cons_succ, Option.bind_some, List.map_cons, List.map_nil, Nat.zero_add, if_true, List.getD_cons_zero, List.getD_cons_succ, List.contains_cons, List.contains_nil, Nat.reduceBEq, Bool.or_true, Bool.true_or, Bool.or_false, Bool.false_or, Bool.not_true, Bool.not_false, true_and, and_true, rowA_whole, push_n, set_n, push_obj, set_obj, set_push, set_push_ne, set_set, Nat.add_assoc, Nat.left_eq_add, Nat.add_eq_left, Nat.add_left_cancel_iff, Nat.reduceEqDiff, stO_1s, stO_ws, boxA_s, one_bool, one_int, one_str, one_ptr, one_nilptr, one_slice, one_eslice, one_nilslice, one_func, one_iface, one_niliface, List.all_cons, List.all_nil, List.length_cons, List.length_nil, Nat.reduceLT, Nat.reduceEqDiff, Nat.reduceLeDiff, Bool.and_true, Nat.one_ne_zero, Nat.succ_ne_zero, reduceIte, if_false, List.getElem?_cons_zero, List.set_cons_zero, List.set_cons_succ]
    refine callA_of (ownBoard_c _ v una nxt _ (hs.ext ((hE _ _).trans hE1)) hm) ?_
    rintro r h2 ⟨v2, rfl, ho2, hE2⟩
    have hl2 := hE2.le
    have hv2 := ho2.one
    have y1 : At h2 (h.n + 1) (.rows [[.int .i64 0, .int .i64 0, .nilslice]] 40 3 false) := ⟨by omega, (hE2.obj _ (by omega)).trans b1⟩
    simp only [hv2, lay_nil, lay_1, lay_w, Option.map_some, go_sem, Hold.p, HoldK.k, HoldL.K, HoldL.body, Nat.reduceBEq, Nat.reduceAdd, List.getElem?_cons_zero, List.getElem?_cons_succ, Option.bind_some, List.map_cons, List.map_nil, Nat.zero_add, if_true, List.getD_cons_zero, List.getD_cons_succ, List.contains_cons, List.contains_nil, Nat.reduceBEq, Bool.or_true, Bool.true_or, Bool.or_false, Bool.false_or, Bool.not_true, Bool.not_false, true_and, and_true, rowA_whole, push_n, set_n, push_obj, set_obj, set_push, set_push_ne, set_set, Nat.add_assoc, Nat.left_eq_add, Nat.add_eq_left, Nat.add_left_cancel_iff, Nat.reduceEqDiff, stO_1s, stO_ws, boxA_s, one_bool, one_int, one_str, one_ptr, one_nilptr, one_slice, one_eslice, one_nilslice, one_func, one_iface, one_niliface, List.all_cons, List.all_nil, List.length_cons, List.length_nil, Nat.reduceLT, Nat.reduceEqDiff, Nat.reduceLeDiff, Bool.and_true, Nat.one_ne_zero, Nat.succ_ne_zero, reduceIte, if_false, List.getElem?_cons_zero, List.set_cons_zero, List.set_cons_succ]
    have E2 := ((hE _ _).trans hE1).trans hE2
    generalize hq_g2 : IH.push h2 (IObj.rows [[.int .i64 una, .int .i64 nxt, v2]] 116 3 false) = g2
    have e_g2 : Ext h2 g2 := by rw [← hq_g2]; exact (Ext.refl _).push _
    have l_g2 : g2.n = h2.n + 1 := by rw [← hq_g2]; rfl
    have x2 : At g2 h2.n (IObj.rows [[.int .i64 una, .int .i64 nxt, v2]] 116 3 false) := by rw [← hq_g2]; exact At.new _ _
    clear hq_g2
    have y1 := y1.ext e_g2
    have ho2 := ho2.ext e_g2
    have E2 := E2.ext e_g2
    obtain ⟨o1, o2, o3, o4, o5⟩ := okB_un hok
    refine callA_of (split_c _ h2.n 116 v2 una nxt most ps x2 ho2.sl (okB_each hok) o4 n1 n2) ?_
    intro r h4 hr
    split at hr
    · rename_i hfull
      obtain ⟨rfl, hE4⟩ := hr
      have z1 := (y1.ext hE4).eq
      simp only [z1, lay_nil, lay_1, lay_w, Option.map_some, go_sem, Hold.p, HoldK.k, HoldL.K, HoldL.body, Nat.reduceBEq, Nat.reduceAdd, List.getElem?_cons_zero, List.getElem?_cons_succ, Option.bind_some, List.map_cons, List.map_nil, Nat.zero_add, if_true, List.getD_cons_zero, List.getD_cons_succ, List.contains_cons, List.contains_nil, Nat.reduceBEq, Bool.or_true, Bool.true_or, Bool.or_false, Bool.false_or, Bool.not_true, Bool.not_false, true_and, and_true, rowA_whole, push_n, set_n, push_obj, set_obj, set_push, set_push_ne, set_set, Nat.add_assoc, Nat.left_eq_add, Nat.add_eq_left, Nat.add_left_cancel_iff, Nat.reduceEqDiff, stO_1s, stO_ws, boxA_s, one_bool, one_int, one_str, one_ptr, one_nilptr, one_slice, one_eslice, one_nilslice, one_func, one_iface, one_niliface, List.all_cons, List.all_nil, List.length_cons, List.length_nil, Nat.reduceLT, Nat.reduceEqDiff, Nat.reduceLeDiff, Bool.and_true, Nat.one_ne_zero, Nat.succ_ne_zero, reduceIte, if_false, List.getElem?_cons_zero, List.set_cons_zero, List.set_cons_succ]
      rw [hdef, if_pos hfull]
      exact ⟨.nilslice, rfl, Own.nil, (E2.trans hE4).set _ (by omega) _⟩
    · rename_i hfull
      obtain ⟨rfl, v4, z2, o4', ht4⟩ := hr
      have z1 : h4.obj (h.n + 1) = _ := (ht4.obj _ y1.lt (by omega) (by rintro ⟨i, n, e⟩; cases e)).trans y1.eq
      have z2e := z2.eq
      have v4o := o4'.one
      have hl4 := ht4.le
      simp only [z1, z2e, v4o, lay_nil, lay_1, lay_w, Option.map_some, go_sem, Hold.p, HoldK.k, HoldL.K, HoldL.body, Nat.reduceBEq, Nat.reduceAdd, List.getElem?_cons_zero, List.getElem?_cons_succ, Option.bind_some, List.map_cons, List.map_nil, Nat.zero_add, if_true, List.getD_cons_zero, List.getD_cons_succ, List.contains_cons, List.contains_nil, Nat.reduceBEq, Bool.or_true, Bool.true_or, Bool.or_false, Bool.false_or, Bool.not_true, Bool.not_false, true_and, and_true, rowA_whole, push_n, set_n, push_obj, set_obj, set_push, set_push_ne, set_set, Nat.add_assoc, Nat.left_eq_add, Nat.add_eq_left, Nat.add_left_cancel_iff, Nat.reduceEqDiff, stO_1s, stO_ws, boxA_s, one_bool, one_int, one_str, one_ptr, one_nilptr, one_slice, one_eslice, one_nilslice, one_func, one_iface, one_niliface, List.all_cons, List.all_nil, List.length_cons, List.length_nil, Nat.reduceLT, Nat.reduceEqDiff, Nat.reduceLeDiff, Bool.and_true, Nat.one_ne_zero, Nat.succ_ne_zero, reduceIte, if_false, List.getElem?_cons_zero, List.set_cons_zero, List.set_cons_succ]
      rw [hdef, if_neg hfull]
      refine ⟨v4, rfl, (o4'.set (m := h.n + 1) (.inl (by omega)) _).wide (by omega) (by rw [set_n]; omega) (Nat.le_refl _), ?_⟩
      have E4 : Ext h h4 := ⟨by omega, fun m hm => (ht4.obj m (by omega) (by omega) (by rintro ⟨i, n, e⟩; cases e)).trans (E2.obj m hm)⟩
      exact E4.set _ (by omega) _
  · have hdef : splitB una nxt ps most = (0, 0, [], 1) := if_neg hc
    cases hok : okB una nxt ps
    · simp only [hok, hv1, b1, lay_nil, lay_1, lay_w, Option.map_some, go_sem, Hold.p, HoldK.k, HoldL.K, HoldL.body, Nat.reduceBEq, Nat.reduceAdd, List.getElem?_cons_zero, List.getElem?_cons_succ, Option.bind_some, List.map_cons, List.map_nil, Nat.zero_add, if_true, List.getD_cons_zero, List.getD_cons_succ, List.contains_cons, List.contains_nil, Nat.reduceBEq, Bool.or_true, Bool.true_or, Bool.or_false, Bool.false_or, Bool.not_true, Bool.not_false, true_and, and_true, rowA_whole, push_n, set_n, push_obj, set_obj, set_push, set_push_ne, set_set, Nat.add_assoc, Nat.left_eq_add, Nat.add_eq_left, Nat.add_left_cancel_iff, Nat.reduceEqDiff, stO_1s, stO_ws, boxA_s, one_bool, one_int, one_str, one_ptr, one_nilptr, one_slice, one_eslice, one_nilslice, one_func, one_iface, one_niliface, List.all_cons, List.all_nil, List.length_cons, List.length_nil, Nat.reduceLT, Nat.reduceEqDiff, Nat.reduceLeDiff, Bool.and_true, Nat.one_ne_zero, Nat.succ_ne_zero, reduceIte, if_false, List.getElem?_cons_zero, List.set_cons_zero, List.set_cons_succ]
      exact bad _ _ hdef
    · by_cases c1 : most < 1
      · have d1 : decide (most < 1) = true := by simpa using c1
        simp only [hok, hv1, b1, d1, lay_nil, lay_1, lay_w, Option.map_some, go_sem, Hold.p, HoldK.k, HoldL.K, HoldL.body, Nat.reduceBEq, Nat.reduceAdd, List.getElem?_cons_zero, List.getElem?_cons_succ, Option.bind_some, List.map_cons, List.map_nil, Nat.zero_add, if_true, List.getD_cons_zero, List.getD_cons_succ, List.contains_cons, List.contains_nil, Nat.reduceBEq, Bool.or_true, Bool.true_or, Bool.or_false, Bool.false_or, Bool.not_true, Bool.not_false, true_and, and_true, rowA_whole, push_n, set_n, push_obj, set_obj, set_push, set_push_ne, set_set, Nat.add_assoc, Nat.left_eq_add, Nat.add_eq_left, Nat.add_left_cancel_iff, Nat.reduceEqDiff, stO_1s, stO_ws, boxA_s, one_bool, one_int, one_str, one_ptr, one_nilptr, one_slice, one_eslice, one_nilslice, one_func, one_iface, one_niliface, List.all_cons, List.all_nil, List.length_cons, List.length_nil, Nat.reduceLT, Nat.reduceEqDiff, Nat.reduceLeDiff, Bool.and_true, Nat.one_ne_zero, Nat.succ_ne_zero, reduceIte, if_false, List.getElem?_cons_zero, List.set_cons_zero, List.set_cons_succ]
        exact bad _ _ hdef
      · have d1 : decide (most < 1) = false := by simpa using c1
        have d2 : decide (65535 < most) = true := by simp; apply Classical.byContradiction; intro h; exact hc ⟨hok, by omega, by omega⟩
        simp only [hok, hv1, b1, d1, d2, lay_nil, lay_1, lay_w, Option.map_some, go_sem, Hold.p, HoldK.k, HoldL.K, HoldL.body, Nat.reduceBEq, Nat.reduceAdd, List.getElem?_cons_zero, List.getElem?_cons_succ, Option.bind_some, List.map_cons, List.map_nil, Nat.zero_add, if_true, List.getD_cons_zero, List.getD_cons_succ, List.contains_cons, List.contains_nil, Nat.reduceBEq, Bool.or_true, Bool.true_or, Bool.or_false, Bool.false_or, Bool.not_true, Bool.not_false, true_and, and_true, rowA_whole, push_n, set_n, push_obj, set_obj, set_push, set_push_ne, set_set, Nat.add_assoc, Nat.left_eq_add, Nat.add_eq_left, Nat.add_left_cancel_iff, Nat.reduceEqDiff, stO_1s, stO_ws, boxA_s, one_bool, one_int, one_str, one_ptr, one_nilptr, one_slice, one_eslice, one_nilslice, one_func, one_iface, one_niliface, List.all_cons, List.all_nil, List.length_cons, List.length_nil, Nat.reduceLT, Nat.reduceEqDiff, Nat.reduceLeDiff, Bool.and_true, Nat.one_ne_zero, Nat.succ_ne_zero, reduceIte, if_false, List.getElem?_cons_zero, List.set_cons_zero, List.set_cons_succ]
        exact bad _ _ hdef
end Go.Proofs.Ytecljenjlncfhaa
