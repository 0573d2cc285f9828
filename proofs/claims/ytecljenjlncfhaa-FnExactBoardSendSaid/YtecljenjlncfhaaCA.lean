import Derived.Test.YtecljenjlncfhaaBFormsB
import Derived.Test.YtecljenjlncfhaaBG
import Derived.Test.YtecljenjlncfhaaIwT
namespace Go.Proofs.Ytecljenjlncfhaa
open Go Go.IW
set_option linter.unusedSimpArgs false
set_option linter.unusedVariables false

abbrev PSl : IH → IV → List Piece → FP → Prop := Sl (Flat Piece.row) 6
theorem piece_loc : Locl 6 (Flat Piece.row) := Flat.loc (fun _ => rfl) (fun p => by simp [Piece.row, IV.one])

def markP (k : Nat) : Piece := ⟨(k : Nat), (k + 1 : Nat), (k + 2 : Nat), (k + 3 : Nat), decide (((k + 4 : Nat) : Int).tmod 3 = 0), decide (((k + 5 : Nat) : Int).tmod 3 = 0)⟩

/-- Places of a list: the whole of one object. -/
def Mine (h : IH) (fs : FP) : Prop := ∀ p ∈ fs, (h.obj p.1).own = true

set_option maxRecDepth 20000 in
theorem markPieceS_c (h : IH) (l n k0 e0 : Nat) (rs : List (List IV)) (hn : rs.length = n) (h0 : n ≠ 0) (hob : h.obj l = .rows rs e0 6 false) (hl : l < h.n)
    (hrs : ∀ r ∈ rs, r.length = 6) (hk : k0 + 6 * n < 4611686018427387904) :
    ICalls Try.prog 75 [.slice l 0 n, .int .i64 k0] h fun r h' => r = .int .i64 ((k0 + 6 * n : Nat) : Int) ∧ h' = h.set l (.rows ((List.range n).map fun j => (markP (k0 + 6 * j)).row) e0 6 false) := by
  refine icalls (.of ok75) (Nat.le_of_ble_eq_true rfl) ?_
  unfold c75
  simp only [go_sem, Hold.p, HoldK.k, HoldL.K, HoldL.body, Nat.reduceBEq, Nat.reduceAdd, List.getElem?_cons_zero, List.getElem?_cons_succ, Option.bind_some, List.map_cons, List.map_nil, Nat.zero_add, if_true, List.getD_cons_zero, List.getD_cons_succ, List.contains_cons, List.contains_nil, Nat.reduceBEq, Bool.or_true, Bool.true_or, Bool.or_false, Bool.false_or, Bool.not_true, Bool.not_false, true_and, and_true]
  refine loop_at (fun m e h' => ∃ k, m = n - k ∧ k ≤ n ∧ e 0 = .slice l 0 n ∧ e 1 = .int .i64 ((k0 + 6 * k : Nat) : Int) ∧ e 5 = .int .i64 k ∧
    h' = h.set l (.rows (((List.range n).map fun j => (markP (k0 + 6 * j)).row).take k ++ rs.drop k) e0 6 false)) n ?_ ?_
  · refine ⟨0, by omega, by omega, ?_⟩
    simp only [go_sem, Hold.p, HoldK.k, HoldL.K, HoldL.body, Nat.reduceBEq, Nat.reduceAdd, List.getElem?_cons_zero, List.getElem?_cons_succ, Option.bind_some, List.map_cons, List.map_nil, Nat.zero_add, if_true, List.getD_cons_zero, List.getD_cons_succ, List.contains_cons, List.contains_nil, Nat.reduceBEq, Bool.or_true, Bool.true_or, Bool.or_false, Bool.false_or, Bool.not_true, Bool.not_false, true_and, and_true]
    exact ⟨by simp, rfl, (set_self (by simpa using hob)).symm⟩
  · rintro m e h' ⟨k, rfl, hkn, e0', e1, e5, rfl⟩
    simp only [e0', e1, e5, go_sem, Hold.p, HoldK.k, HoldL.K, HoldL.body, Nat.reduceBEq, Nat.reduceAdd, List.getElem?_cons_zero, List.getElem?_cons_succ, Option.bind_some, List.map_cons, List.map_nil, Nat.zero_add, if_true, List.getD_cons_zero, List.getD_cons_succ, List.contains_cons, List.contains_nil, Nat.reduceBEq, Bool.or_true, Bool.true_or, Bool.or_false, Bool.false_or, Bool.not_true, Bool.not_false, true_and, and_true]
    refine test_dec (fun hb => ?_) (fun hb => ?_)
    · have hkn' : k < n := by omega
      obtain ⟨row, hrow⟩ : ∃ row, rs[k]? = some row := ⟨rs[k], List.getElem?_eq_getElem (by omega)⟩
      have hrl : row.length = 6 := hrs row (List.mem_of_getElem? hrow)
      match row, hrl with
      | [a0, a1, a2, a3, a4, a5], _ =>
      generalize hh : h.set l (.rows (((List.range n).map fun j => (markP (k0 + 6 * j)).row).take k ++ rs.drop k) e0 6 false) = h1
      have hob1 : h1.obj l = .rows (((List.range n).map fun j => (markP (k0 + 6 * j)).row).take k ++ rs.drop k) e0 6 false := by rw [← hh, set_here]
      have hr1 : rowO (h1.obj l) k = some [a0, a1, a2, a3, a4, a5] := by
        rw [hob1]
        show (_ ++ _)[k]? = _
        rw [List.getElem?_append_right (by simp; omega)]
        simp [hkn, hrow]
      have hia : iadrF h1 6 (.slice l 0 n) (.int .i64 k) = some (.ptr l k 0) := by
        rw [iadrF_nat hkn' (by rw [hob1]; rfl), Nat.zero_add]
      rw [← put_self hr1]
      have hr2 : (rowO (h1.obj l) k).isSome = true := by rw [hr1]; rfl
      have ho1 : (h1.obj l).own = true := by rw [hob1]; rfl
      generalize hq : k0 + 6 * k = q at e1
      have hq' : q + 6 < 4611686018427387904 := by omega
      have w0 : wr .i64 (((q : Nat) : Int) + 1) = ((q + 1 : Nat) : Int) := by rw [wr64 _ (by omega)]; rfl
      have w1 : wr .i64 (((q + 1 : Nat) : Int) + 1) = ((q + 2 : Nat) : Int) := by rw [wr64 _ (by omega)]; rfl
      have w2 : wr .i64 (((q + 2 : Nat) : Int) + 1) = ((q + 3 : Nat) : Int) := by rw [wr64 _ (by omega)]; rfl
      have w3 : wr .i64 (((q + 3 : Nat) : Int) + 1) = ((q + 4 : Nat) : Int) := by rw [wr64 _ (by omega)]; rfl
      have w4 : wr .i64 (((q + 4 : Nat) : Int) + 1) = ((q + 5 : Nat) : Int) := by rw [wr64 _ (by omega)]; rfl
      have w5 : wr .i64 (((q + 5 : Nat) : Int) + 1) = ((q + 6 : Nat) : Int) := by rw [wr64 _ (by omega)]; rfl
      simp only [e0', e1, e5, hia, iadrF_put, stA_put1 hr2 ho1, put_put, w0, w1, w2, w3, w4, w5, ib_rem _ _ _ (by decide : (3 : Int) ≠ 0), go_sem, Hold.p, HoldK.k, HoldL.K, HoldL.body, Nat.reduceBEq, Nat.reduceAdd, List.getElem?_cons_zero, List.getElem?_cons_succ, Option.bind_some, List.map_cons, List.map_nil, Nat.zero_add, if_true, List.getD_cons_zero, List.getD_cons_succ, List.contains_cons, List.contains_nil, Nat.reduceBEq, Bool.or_true, Bool.true_or, Bool.or_false, Bool.false_or, Bool.not_true, Bool.not_false, true_and, and_true, rowA_whole, push_n, set_n, push_obj, set_obj, set_push, set_push_ne, set_set, Nat.add_assoc, Nat.left_eq_add, Nat.add_eq_left, Nat.add_left_cancel_iff, Nat.reduceEqDiff, stO_1s, stO_ws, boxA_s, one_bool, one_int, one_str, one_ptr, one_nilptr, one_slice, one_eslice, one_nilslice, one_func, one_iface, one_niliface, List.all_cons, List.all_nil, List.length_cons, List.length_nil, Nat.reduceLT, Nat.reduceEqDiff, Nat.reduceLeDiff, Bool.and_true, Nat.one_ne_zero, Nat.succ_ne_zero, reduceIte, if_false, List.getElem?_cons_zero, List.set_cons_zero, List.set_cons_succ]
      subst hq
      refine ⟨_, ?_, k + 1, rfl, by omega, by congr 2, wr64_succ k (by omega), ?_⟩
      · omega
      · unfold IH.put
        rw [hob1, ← hh, set_set]
        unfold putO
        have := over_set (xs := (List.range n).map fun j => (markP (k0 + 6 * j)).row) (ys := rs) (k := k) (x := (markP (k0 + 6 * k)).row) (by simp [hn]) (by simp [hkn'])
        rw [← this]
        rfl
    · simp only [e0', e1, e5, go_sem, Hold.p, HoldK.k, HoldL.K, HoldL.body, Nat.reduceBEq, Nat.reduceAdd, List.getElem?_cons_zero, List.getElem?_cons_succ, Option.bind_some, List.map_cons, List.map_nil, Nat.zero_add, if_true, List.getD_cons_zero, List.getD_cons_succ, List.contains_cons, List.contains_nil, Nat.reduceBEq, Bool.or_true, Bool.true_or, Bool.or_false, Bool.false_or, Bool.not_true, Bool.not_false, true_and, and_true]
      obtain rfl : k = n := by omega
      exact ⟨rfl, by congr 2; simp [← hn, List.take_of_length_le]⟩
end Go.Proofs.Ytecljenjlncfhaa
