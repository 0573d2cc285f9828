import Derived.Test.YtecljenjlncfhaaCA
namespace Go.Proofs.Ytecljenjlncfhaa
open Go Go.IW
set_option linter.unusedSimpArgs false
set_option linter.unusedVariables false

set_option maxRecDepth 20000 in
theorem heldPieceS_c (h : IH) (v : IV) (n k0 : Nat) (hs : SlR h 6 v ((List.range n).map fun j => (markP (k0 + 6 * j)).row)) (hk : k0 + 6 * n < 4611686018427387904) :
    ICalls Try.prog 76 [v, .int .i64 k0] h fun r h' => r = .int .i64 ((k0 + 6 * n : Nat) : Int) ∧ h' = h := by
  refine icalls (.of ok76) (Nat.le_of_ble_eq_true rfl) ?_
  unfold c76
  have hlen := hs.lenF
  rw [List.length_map, List.length_range] at hlen
  simp only [go_sem, Hold.p, HoldK.k, HoldL.K, HoldL.body, Nat.reduceBEq, Nat.reduceAdd, List.getElem?_cons_zero, List.getElem?_cons_succ, Option.bind_some, List.map_cons, List.map_nil, Nat.zero_add, if_true, List.getD_cons_zero, List.getD_cons_succ, List.contains_cons, List.contains_nil, Nat.reduceBEq, Bool.or_true, Bool.true_or, Bool.or_false, Bool.false_or, Bool.not_true, Bool.not_false, true_and, and_true]
  refine loop_at (fun m e h' => ∃ k, m = n - k ∧ k ≤ n ∧ e 0 = v ∧ e 1 = .int .i64 ((k0 + 6 * k : Nat) : Int) ∧ e 5 = .int .i64 k ∧ h' = h) n ?_ ?_
  · refine ⟨0, by omega, by omega, ?_⟩
    simp only [go_sem, Hold.p, HoldK.k, HoldL.K, HoldL.body, Nat.reduceBEq, Nat.reduceAdd, List.getElem?_cons_zero, List.getElem?_cons_succ, Option.bind_some, List.map_cons, List.map_nil, Nat.zero_add, if_true, List.getD_cons_zero, List.getD_cons_succ, List.contains_cons, List.contains_nil, Nat.reduceBEq, Bool.or_true, Bool.true_or, Bool.or_false, Bool.false_or, Bool.not_true, Bool.not_false, true_and, and_true]
    exact ⟨by simp, rfl⟩
  · rintro m e h' ⟨k, rfl, hkn, e0', e1, e5, rfl⟩
    simp only [e0', e1, e5, hlen, go_sem, Hold.p, HoldK.k, HoldL.K, HoldL.body, Nat.reduceBEq, Nat.reduceAdd, List.getElem?_cons_zero, List.getElem?_cons_succ, Option.bind_some, List.map_cons, List.map_nil, Nat.zero_add, if_true, List.getD_cons_zero, List.getD_cons_succ, List.contains_cons, List.contains_nil, Nat.reduceBEq, Bool.or_true, Bool.true_or, Bool.or_false, Bool.false_or, Bool.not_true, Bool.not_false, true_and, and_true]
    refine test_dec (fun hb => ?_) (fun hb => ?_)
    · have hkn' : k < n := by omega
      obtain ⟨l, j, hia, hll, hrow⟩ := hs.at (m := k) (row := (markP (k0 + 6 * k)).row) (by simp [hkn']) .i64
      have hc := cellO_row hrow
      unfold Piece.row markP at hc
      generalize hq : k0 + 6 * k = q at e1 hc
      have hq' : q + 6 < 4611686018427387904 := by omega
      have w0 : wr .i64 (((q : Nat) : Int) + 1) = ((q + 1 : Nat) : Int) := by rw [wr64 _ (by omega)]; rfl
      have w1 : wr .i64 (((q + 1 : Nat) : Int) + 1) = ((q + 2 : Nat) : Int) := by rw [wr64 _ (by omega)]; rfl
      have w2 : wr .i64 (((q + 2 : Nat) : Int) + 1) = ((q + 3 : Nat) : Int) := by rw [wr64 _ (by omega)]; rfl
      have w3 : wr .i64 (((q + 3 : Nat) : Int) + 1) = ((q + 4 : Nat) : Int) := by rw [wr64 _ (by omega)]; rfl
      have w4 : wr .i64 (((q + 4 : Nat) : Int) + 1) = ((q + 5 : Nat) : Int) := by rw [wr64 _ (by omega)]; rfl
      have w5 : wr .i64 (((q + 5 : Nat) : Int) + 1) = ((q + 6 : Nat) : Int) := by rw [wr64 _ (by omega)]; rfl
      simp only [e0', e1, e5, hia, hc, decide_true, w0, w1, w2, w3, w4, w5, beq_self_eq_true, bne_self_eq_false, ib_rem _ _ _ (by decide : (3 : Int) ≠ 0), go_sem, Hold.p, HoldK.k, HoldL.K, HoldL.body, Nat.reduceBEq, Nat.reduceAdd, List.getElem?_cons_zero, List.getElem?_cons_succ, Option.bind_some, List.map_cons, List.map_nil, Nat.zero_add, if_true, List.getD_cons_zero, List.getD_cons_succ, List.contains_cons, List.contains_nil, Nat.reduceBEq, Bool.or_true, Bool.true_or, Bool.or_false, Bool.false_or, Bool.not_true, Bool.not_false, true_and, and_true]
      subst hq
      refine ⟨_, ?_, k + 1, rfl, by omega, by congr 2, wr64_succ k (by omega)⟩
      omega
    · simp only [e0', e1, e5, hlen, go_sem, Hold.p, HoldK.k, HoldL.K, HoldL.body, Nat.reduceBEq, Nat.reduceAdd, List.getElem?_cons_zero, List.getElem?_cons_succ, Option.bind_some, List.map_cons, List.map_nil, Nat.zero_add, if_true, List.getD_cons_zero, List.getD_cons_succ, List.contains_cons, List.contains_nil, Nat.reduceBEq, Bool.or_true, Bool.true_or, Bool.or_false, Bool.false_or, Bool.not_true, Bool.not_false, true_and, and_true]
      obtain rfl : k = n := by omega
      trivial
end Go.Proofs.Ytecljenjlncfhaa
