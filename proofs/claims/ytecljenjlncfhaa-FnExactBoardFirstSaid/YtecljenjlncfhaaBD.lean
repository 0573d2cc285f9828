import Derived.Test.YtecljenjlncfhaaBC
set_option linter.unusedSimpArgs false
set_option linter.unusedVariables false
namespace Go.Proofs.Ytecljenjlncfhaa
open Go Go.IW

def Piece.eq (p q : Piece) : Bool := decide (p.fr = q.fr) && decide (p.to = q.to) && decide (p.at_ = q.at_) && decide (p.times = q.times) && (p.sacked == q.sacked) && (p.lost == q.lost)

set_option maxRecDepth 20000 in
theorem eqPiece_c (h : IH) (p : Piece) : ICalls Try.prog 97 [.agg p.row, .agg p.row] h fun r h' => r = .bool true ∧ Ext h h' := by
  refine icalls (.of ok97) (Nat.le_of_ble_eq_true rfl) ?_
  unfold c97
  unfold Piece.row
  simp only [decide_true, bne_self_eq_false, beq_self_eq_true, go_sem, Hold.p, HoldK.k, HoldL.K, HoldL.body, Nat.reduceBEq, Nat.reduceAdd, List.getElem?_cons_zero, List.getElem?_cons_succ, Option.bind_some, List.map_cons, List.map_nil, Nat.zero_add, if_true, List.getD_cons_zero, List.getD_cons_succ, List.contains_cons, List.contains_nil, Nat.reduceBEq, Bool.or_true, Bool.true_or, Bool.or_false, Bool.false_or, Bool.not_true, Bool.not_false, true_and, and_true, rowA_whole, push_n, set_n, push_obj, set_obj, set_push, set_push_ne, set_set, Nat.add_assoc, Nat.left_eq_add, Nat.add_eq_left, Nat.add_left_cancel_iff, Nat.reduceEqDiff, stO_1s, stO_ws, boxA_s, one_bool, one_int, one_str, one_ptr, one_nilptr, one_slice, one_eslice, one_nilslice, one_func, one_iface, one_niliface, List.all_cons, List.all_nil, List.length_cons, List.length_nil, Nat.reduceLT, Nat.reduceEqDiff, Nat.reduceLeDiff, Bool.and_true, Nat.one_ne_zero, Nat.succ_ne_zero, reduceIte, if_false, List.getElem?_cons_zero, List.set_cons_zero, List.set_cons_succ]
  exact ((Ext.refl _).push _ |>.push _)

set_option maxRecDepth 20000 in
theorem eqPieceS_c (h : IH) (v w : IV) (ps : List Piece) (hv : SlR h 6 v (ps.map Piece.row)) (hw : SlR h 6 w (ps.map Piece.row)) (hm : ps.length ≤ 1048576) :
    ICalls Try.prog 71 [v, w] h fun r h' => r = .bool true ∧ Ext h h' := by
  refine icalls (.of ok71) (Nat.le_of_ble_eq_true rfl) ?_
  unfold c71
  have hlv := hv.lenF
  have hlw := hw.lenF
  rw [List.length_map] at hlv hlw
  simp only [hlv, hlw, decide_true, go_sem, Hold.p, HoldK.k, HoldL.K, HoldL.body, Nat.reduceBEq, Nat.reduceAdd, List.getElem?_cons_zero, List.getElem?_cons_succ, Option.bind_some, List.map_cons, List.map_nil, Nat.zero_add, if_true, List.getD_cons_zero, List.getD_cons_succ, List.contains_cons, List.contains_nil, Nat.reduceBEq, Bool.or_true, Bool.true_or, Bool.or_false, Bool.false_or, Bool.not_true, Bool.not_false, true_and, and_true]
  refine loop_at (fun n e h' => ∃ k, n = ps.length - k ∧ k ≤ ps.length ∧ e 0 = v ∧ e 1 = w ∧ e 5 = .int .i64 k ∧ Ext h h') ps.length ?_ ?_
  · refine ⟨0, by omega, by omega, ?_⟩
    simp only [go_sem, Hold.p, HoldK.k, HoldL.K, HoldL.body, Nat.reduceBEq, Nat.reduceAdd, List.getElem?_cons_zero, List.getElem?_cons_succ, Option.bind_some, List.map_cons, List.map_nil, Nat.zero_add, if_true, List.getD_cons_zero, List.getD_cons_succ, List.contains_cons, List.contains_nil, Nat.reduceBEq, Bool.or_true, Bool.true_or, Bool.or_false, Bool.false_or, Bool.not_true, Bool.not_false, true_and, and_true]
    exact ⟨rfl, Ext.refl _⟩
  · rintro n e h' ⟨k, rfl, hk, e0, e1, e5, hE⟩
    simp only [e0, e1, e5, hlv, go_sem, Hold.p, HoldK.k, HoldL.K, HoldL.body, Nat.reduceBEq, Nat.reduceAdd, List.getElem?_cons_zero, List.getElem?_cons_succ, Option.bind_some, List.map_cons, List.map_nil, Nat.zero_add, if_true, List.getD_cons_zero, List.getD_cons_succ, List.contains_cons, List.contains_nil, Nat.reduceBEq, Bool.or_true, Bool.true_or, Bool.or_false, Bool.false_or, Bool.not_true, Bool.not_false, true_and, and_true]
    refine test_dec (fun hb => ?_) (fun hb => ?_)
    · simp only [e0, e1, e5, hlv, go_sem, Hold.p, HoldK.k, HoldL.K, HoldL.body, Nat.reduceBEq, Nat.reduceAdd, List.getElem?_cons_zero, List.getElem?_cons_succ, Option.bind_some, List.map_cons, List.map_nil, Nat.zero_add, if_true, List.getD_cons_zero, List.getD_cons_succ, List.contains_cons, List.contains_nil, Nat.reduceBEq, Bool.or_true, Bool.true_or, Bool.or_false, Bool.false_or, Bool.not_true, Bool.not_false, true_and, and_true]
      have hlt' : k < ps.length := by omega
      have hkp : ps[k]? = some ps[k] := List.getElem?_eq_getElem hlt'
      generalize ps[k] = p at hkp
      have hkr : (ps.map Piece.row)[k]? = some p.row := by rw [List.getElem?_map, hkp]; rfl
      have hrl : p.row.length = 6 := rfl
      obtain ⟨l, j, hia, hll, hrow⟩ := (hv.ext hE).at (m := k) (row := p.row) hkr .i64
      obtain ⟨l2, j2, hia2, hll2, hrow2⟩ := (hw.ext hE).at (m := k) (row := p.row) hkr .i64
      refine got_of hia ?_
      simp only [hrow, rowA_whole _ _ hrl, e0, e1, e5, go_sem, Hold.p, HoldK.k, HoldL.K, HoldL.body, Nat.reduceBEq, Nat.reduceAdd, List.getElem?_cons_zero, List.getElem?_cons_succ, Option.bind_some, List.map_cons, List.map_nil, Nat.zero_add, if_true, List.getD_cons_zero, List.getD_cons_succ, List.contains_cons, List.contains_nil, Nat.reduceBEq, Bool.or_true, Bool.true_or, Bool.or_false, Bool.false_or, Bool.not_true, Bool.not_false, true_and, and_true]
      refine got_of hia2 ?_
      simp only [hrow2, rowA_whole _ _ hrl, e0, e1, e5, go_sem, Hold.p, HoldK.k, HoldL.K, HoldL.body, Nat.reduceBEq, Nat.reduceAdd, List.getElem?_cons_zero, List.getElem?_cons_succ, Option.bind_some, List.map_cons, List.map_nil, Nat.zero_add, if_true, List.getD_cons_zero, List.getD_cons_succ, List.contains_cons, List.contains_nil, Nat.reduceBEq, Bool.or_true, Bool.true_or, Bool.or_false, Bool.false_or, Bool.not_true, Bool.not_false, true_and, and_true]
      refine callA_of (eqPiece_c _ p) ?_
      rintro r h2 ⟨rfl, hE2⟩
      simp only [e0, e1, e5, go_sem, Hold.p, HoldK.k, HoldL.K, HoldL.body, Nat.reduceBEq, Nat.reduceAdd, List.getElem?_cons_zero, List.getElem?_cons_succ, Option.bind_some, List.map_cons, List.map_nil, Nat.zero_add, if_true, List.getD_cons_zero, List.getD_cons_succ, List.contains_cons, List.contains_nil, Nat.reduceBEq, Bool.or_true, Bool.true_or, Bool.or_false, Bool.false_or, Bool.not_true, Bool.not_false, true_and, and_true]
      refine ⟨_, ?_, k + 1, rfl, by omega, wr64_succ k (by omega), hE.trans hE2⟩
      omega
    · simp only [e0, e1, e5, go_sem, Hold.p, HoldK.k, HoldL.K, HoldL.body, Nat.reduceBEq, Nat.reduceAdd, List.getElem?_cons_zero, List.getElem?_cons_succ, Option.bind_some, List.map_cons, List.map_nil, Nat.zero_add, if_true, List.getD_cons_zero, List.getD_cons_succ, List.contains_cons, List.contains_nil, Nat.reduceBEq, Bool.or_true, Bool.true_or, Bool.or_false, Bool.false_or, Bool.not_true, Bool.not_false, true_and, and_true]
      exact hE

set_option maxRecDepth 20000 in
theorem eqBoard_c (h : IH) (v w : IV) (una nxt : Int) (ps : List Piece) (hv : SlR h 6 v (ps.map Piece.row)) (hw : SlR h 6 w (ps.map Piece.row)) (hm : ps.length ≤ 1048576) :
    ICalls Try.prog 28 [.agg [.int .i64 una, .int .i64 nxt, v], .agg [.int .i64 una, .int .i64 nxt, w]] h fun r h' => r = .bool true ∧ Ext h h' := by
  refine icalls (.of ok28) (Nat.le_of_ble_eq_true rfl) ?_
  unfold c28
  have hv1 := hv.one
  have hw1 := hw.one
  simp only [hv1, hw1, decide_true, go_sem, Hold.p, HoldK.k, HoldL.K, HoldL.body, Nat.reduceBEq, Nat.reduceAdd, List.getElem?_cons_zero, List.getElem?_cons_succ, Option.bind_some, List.map_cons, List.map_nil, Nat.zero_add, if_true, List.getD_cons_zero, List.getD_cons_succ, List.contains_cons, List.contains_nil, Nat.reduceBEq, Bool.or_true, Bool.true_or, Bool.or_false, Bool.false_or, Bool.not_true, Bool.not_false, true_and, and_true, rowA_whole, push_n, set_n, push_obj, set_obj, set_push, set_push_ne, set_set, Nat.add_assoc, Nat.left_eq_add, Nat.add_eq_left, Nat.add_left_cancel_iff, Nat.reduceEqDiff, stO_1s, stO_ws, boxA_s, one_bool, one_int, one_str, one_ptr, one_nilptr, one_slice, one_eslice, one_nilslice, one_func, one_iface, one_niliface, List.all_cons, List.all_nil, List.length_cons, List.length_nil, Nat.reduceLT, Nat.reduceEqDiff, Nat.reduceLeDiff, Bool.and_true, Nat.one_ne_zero, Nat.succ_ne_zero, reduceIte, if_false, List.getElem?_cons_zero, List.set_cons_zero, List.set_cons_succ]
  have hE : ∀ a b, Ext h ((h.push a).push b) := fun a b => (Ext.refl _).push _ |>.push _
  refine callA_of (eqPieceS_c _ v w ps (hv.ext (hE _ _)) (hw.ext (hE _ _)) hm) ?_
  rintro r h' ⟨rfl, hE2⟩
  simp only [go_sem, Hold.p, HoldK.k, HoldL.K, HoldL.body, Nat.reduceBEq, Nat.reduceAdd, List.getElem?_cons_zero, List.getElem?_cons_succ, Option.bind_some, List.map_cons, List.map_nil, Nat.zero_add, if_true, List.getD_cons_zero, List.getD_cons_succ, List.contains_cons, List.contains_nil, Nat.reduceBEq, Bool.or_true, Bool.true_or, Bool.or_false, Bool.false_or, Bool.not_true, Bool.not_false, true_and, and_true, rowA_whole, push_n, set_n, push_obj, set_obj, set_push, set_push_ne, set_set, Nat.add_assoc, Nat.left_eq_add, Nat.add_eq_left, Nat.add_left_cancel_iff, Nat.reduceEqDiff, stO_1s, stO_ws, boxA_s, one_bool, one_int, one_str, one_ptr, one_nilptr, one_slice, one_eslice, one_nilslice, one_func, one_iface, one_niliface, List.all_cons, List.all_nil, List.length_cons, List.length_nil, Nat.reduceLT, Nat.reduceEqDiff, Nat.reduceLeDiff, Bool.and_true, Nat.one_ne_zero, Nat.succ_ne_zero, reduceIte, if_false, List.getElem?_cons_zero, List.set_cons_zero, List.set_cons_succ]
  exact (hE _ _).trans hE2

/-- The bytes on the way. -/
def pipeOf : List Piece → Int
  | [] => 0
  | p :: r => (if !p.sacked && !p.lost then p.to - p.fr else 0) + pipeOf r
theorem pipeOf_append (a b : List Piece) : pipeOf (a ++ b) = pipeOf a + pipeOf b := by
  induction a with
  | nil => simp [pipeOf]
  | cons p r ih => simp [pipeOf, ih]; omega

/-- A board that is right: its pieces lie in order between una and nxt. -/
theorem okPs_bound {nxt : Int} : ∀ {at_ : Int} {ps : List Piece}, okPs nxt at_ ps = true → at_ ≤ nxt ∧ (∀ p ∈ ps, at_ ≤ p.fr ∧ p.fr < p.to ∧ p.to ≤ nxt) ∧ 0 ≤ pipeOf ps ∧ pipeOf ps ≤ nxt - at_
  | at_, [], h => by simp [okPs] at h; subst h; simp [pipeOf]
  | at_, p :: r, h => by
    simp [okPs] at h
    obtain ⟨h1, h2⟩ := h
    obtain ⟨i1, i2, i3, i4⟩ := okPs_bound h2
    refine ⟨by omega, ?_, ?_, ?_⟩
    · intro q hq
      rcases List.mem_cons.1 hq with rfl | hq
      · omega
      · have := i2 q hq; omega
    · simp only [pipeOf]; split <;> omega
    · simp only [pipeOf]; split <;> omega

end Go.Proofs.Ytecljenjlncfhaa
