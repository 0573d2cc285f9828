import Derived.Test.YtecljenjlncfhaaBFormsA
import Derived.Test.YtecljenjlncfhaaIwR
set_option linter.unusedSimpArgs false
set_option linter.unusedVariables false
namespace Go.Proofs.Ytecljenjlncfhaa
open Go Go.IW

structure Piece where
  fr : Int
  to : Int
  at_ : Int
  times : Int
  sacked : Bool
  lost : Bool
def Piece.row (p : Piece) : List IV := [.int .i64 p.fr, .int .i64 p.to, .int .i64 p.at_, .int .i64 p.times, .bool p.sacked, .bool p.lost]

def okPs (nxt : Int) : Int → List Piece → Bool
  | at_, [] => decide (at_ = nxt)
  | at_, p :: r => decide (p.fr = at_) && decide (p.fr < p.to) && decide (0 ≤ p.at_) && decide (p.at_ ≤ 1000000000) && decide (1 ≤ p.times) && decide (p.times ≤ 1000000) && !(p.sacked && p.lost) && okPs nxt p.to r
def okB (una nxt : Int) (ps : List Piece) : Bool := decide (0 ≤ una) && decide (una ≤ nxt) && decide (nxt ≤ 1099511627776) && decide (ps.length ≤ 4096) && okPs nxt una ps

set_option maxRecDepth 20000 in
theorem okBoard_c (h : IH) (una nxt : Int) (v : IV) (ps : List Piece) (hs : SlR h 6 v (ps.map Piece.row)) :
    ICalls Try.prog 69 [.agg [.int .i64 una, .int .i64 nxt, v]] h fun r h' => r = .bool (okB una nxt ps) ∧ Ext h h' := by
  refine icalls (.of ok69) (Nat.le_of_ble_eq_true rfl) ?_
  unfold c69
  have hv1 := hs.one
  have hlen := hs.lenF
  rw [List.length_map] at hlen
  have hE0 : Ext h (h.push (IObj.rows [[IV.int IntKind.i64 una, IV.int IntKind.i64 nxt, v]] 40 3 false)) := (Ext.refl h).push _
  simp only [hv1, go_sem, Hold.p, HoldK.k, HoldL.K, HoldL.body, Nat.reduceBEq, Nat.reduceAdd, List.getElem?_cons_zero, List.getElem?_cons_succ, Option.bind_some, List.map_cons, List.map_nil, Nat.zero_add, if_true, List.getD_cons_zero, List.getD_cons_succ, List.contains_cons, List.contains_nil, Nat.reduceBEq, Bool.or_true, Bool.true_or, Bool.or_false, Bool.false_or, Bool.not_true, Bool.not_false, true_and, and_true]
  refine guard_of (fun hb => ?_) (fun hb => ?_)
  case refine_2 => simp only [hb, hv1, hlen, go_sem, Hold.p, HoldK.k, HoldL.K, HoldL.body, Nat.reduceBEq, Nat.reduceAdd, List.getElem?_cons_zero, List.getElem?_cons_succ, Option.bind_some, List.map_cons, List.map_nil, Nat.zero_add, if_true, List.getD_cons_zero, List.getD_cons_succ, List.contains_cons, List.contains_nil, Nat.reduceBEq, Bool.or_true, Bool.true_or, Bool.or_false, Bool.false_or, Bool.not_true, Bool.not_false, true_and, and_true]; exact ⟨by simp at hb; simp [okB]; omega, hE0⟩
  simp only [hb, hv1, hlen, go_sem, Hold.p, HoldK.k, HoldL.K, HoldL.body, Nat.reduceBEq, Nat.reduceAdd, List.getElem?_cons_zero, List.getElem?_cons_succ, Option.bind_some, List.map_cons, List.map_nil, Nat.zero_add, if_true, List.getD_cons_zero, List.getD_cons_succ, List.contains_cons, List.contains_nil, Nat.reduceBEq, Bool.or_true, Bool.true_or, Bool.or_false, Bool.false_or, Bool.not_true, Bool.not_false, true_and, and_true]
  refine guard_of (fun hb2 => ?_) (fun hb2 => ?_)
  case refine_2 => simp only [hb2, hv1, hlen, go_sem, Hold.p, HoldK.k, HoldL.K, HoldL.body, Nat.reduceBEq, Nat.reduceAdd, List.getElem?_cons_zero, List.getElem?_cons_succ, Option.bind_some, List.map_cons, List.map_nil, Nat.zero_add, if_true, List.getD_cons_zero, List.getD_cons_succ, List.contains_cons, List.contains_nil, Nat.reduceBEq, Bool.or_true, Bool.true_or, Bool.or_false, Bool.false_or, Bool.not_true, Bool.not_false, true_and, and_true]; exact ⟨by simp at hb2; simp [okB]; omega, hE0⟩
  simp only [hb2, hv1, hlen, go_sem, Hold.p, HoldK.k, HoldL.K, HoldL.body, Nat.reduceBEq, Nat.reduceAdd, List.getElem?_cons_zero, List.getElem?_cons_succ, Option.bind_some, List.map_cons, List.map_nil, Nat.zero_add, if_true, List.getD_cons_zero, List.getD_cons_succ, List.contains_cons, List.contains_nil, Nat.reduceBEq, Bool.or_true, Bool.true_or, Bool.or_false, Bool.false_or, Bool.not_true, Bool.not_false, true_and, and_true]
  refine guard_of (fun hb3 => ?_) (fun hb3 => ?_)
  case refine_2 => simp only [hb3, hv1, hlen, go_sem, Hold.p, HoldK.k, HoldL.K, HoldL.body, Nat.reduceBEq, Nat.reduceAdd, List.getElem?_cons_zero, List.getElem?_cons_succ, Option.bind_some, List.map_cons, List.map_nil, Nat.zero_add, if_true, List.getD_cons_zero, List.getD_cons_succ, List.contains_cons, List.contains_nil, Nat.reduceBEq, Bool.or_true, Bool.true_or, Bool.or_false, Bool.false_or, Bool.not_true, Bool.not_false, true_and, and_true]; exact ⟨by simp at hb3; simp [okB]; omega, hE0⟩
  simp only [hb3, hv1, hlen, go_sem, Hold.p, HoldK.k, HoldL.K, HoldL.body, Nat.reduceBEq, Nat.reduceAdd, List.getElem?_cons_zero, List.getElem?_cons_succ, Option.bind_some, List.map_cons, List.map_nil, Nat.zero_add, if_true, List.getD_cons_zero, List.getD_cons_succ, List.contains_cons, List.contains_nil, Nat.reduceBEq, Bool.or_true, Bool.true_or, Bool.or_false, Bool.false_or, Bool.not_true, Bool.not_false, true_and, and_true]
  refine test_dec (fun hb4 => ?_) (fun hb4 => ?_)
  case refine_1 => simp only [hv1, hlen, go_sem, Hold.p, HoldK.k, HoldL.K, HoldL.body, Nat.reduceBEq, Nat.reduceAdd, List.getElem?_cons_zero, List.getElem?_cons_succ, Option.bind_some, List.map_cons, List.map_nil, Nat.zero_add, if_true, List.getD_cons_zero, List.getD_cons_succ, List.contains_cons, List.contains_nil, Nat.reduceBEq, Bool.or_true, Bool.true_or, Bool.or_false, Bool.false_or, Bool.not_true, Bool.not_false, true_and, and_true]; exact ⟨by simp [okB]; omega, hE0⟩
  simp only [hv1, hlen, go_sem, Hold.p, HoldK.k, HoldL.K, HoldL.body, Nat.reduceBEq, Nat.reduceAdd, List.getElem?_cons_zero, List.getElem?_cons_succ, Option.bind_some, List.map_cons, List.map_nil, Nat.zero_add, if_true, List.getD_cons_zero, List.getD_cons_succ, List.contains_cons, List.contains_nil, Nat.reduceBEq, Bool.or_true, Bool.true_or, Bool.or_false, Bool.false_or, Bool.not_true, Bool.not_false, true_and, and_true]
  simp at hb hb2 hb3
  have hok : okB una nxt ps = okPs nxt una ps := by
    have e4 : ps.length ≤ 4096 := by omega
    simp [okB, hb, hb2, hb3, e4]
  rw [hok]
  refine loop_at (fun n e h' => ∃ k at_, n = ps.length - k ∧ k ≤ ps.length ∧ e 1 = .ptr h.n 0 0 ∧ e 30 = v ∧ e 31 = .int .i64 ps.length ∧ e 32 = .int .i64 k ∧ e 3 = .int .i64 at_ ∧ okPs nxt una ps = okPs nxt at_ (ps.drop k) ∧
    Ext (h.push (IObj.rows [[IV.int IntKind.i64 una, IV.int IntKind.i64 nxt, v]] 40 3 false)) h') ps.length ?_ ?_
  · refine ⟨0, una, by omega, by omega, ?_⟩
    simp only [go_sem, Hold.p, HoldK.k, HoldL.K, HoldL.body, Nat.reduceBEq, Nat.reduceAdd, List.getElem?_cons_zero, List.getElem?_cons_succ, Option.bind_some, List.map_cons, List.map_nil, Nat.zero_add, if_true, List.getD_cons_zero, List.getD_cons_succ, List.contains_cons, List.contains_nil, Nat.reduceBEq, Bool.or_true, Bool.true_or, Bool.or_false, Bool.false_or, Bool.not_true, Bool.not_false, true_and, and_true]
    exact ⟨rfl, rfl, Ext.refl _⟩
  · rintro n e h' ⟨k, at_, rfl, hk, e1, e30, e31, e32, e3, hrel, hE⟩
    have hbox : h'.obj h.n = .rows [[.int .i64 una, .int .i64 nxt, v]] 40 3 false := (hE.obj h.n (by simp only [push_n]; omega)).trans (push_new _ _)
    simp only [e1, e30, e31, e32, e3, go_sem, Hold.p, HoldK.k, HoldL.K, HoldL.body, Nat.reduceBEq, Nat.reduceAdd, List.getElem?_cons_zero, List.getElem?_cons_succ, Option.bind_some, List.map_cons, List.map_nil, Nat.zero_add, if_true, List.getD_cons_zero, List.getD_cons_succ, List.contains_cons, List.contains_nil, Nat.reduceBEq, Bool.or_true, Bool.true_or, Bool.or_false, Bool.false_or, Bool.not_true, Bool.not_false, true_and, and_true]
    refine test_dec (fun hlt => ?_) (fun hlt => ?_)
    · simp only [e1, e30, e31, e32, e3, go_sem, Hold.p, HoldK.k, HoldL.K, HoldL.body, Nat.reduceBEq, Nat.reduceAdd, List.getElem?_cons_zero, List.getElem?_cons_succ, Option.bind_some, List.map_cons, List.map_nil, Nat.zero_add, if_true, List.getD_cons_zero, List.getD_cons_succ, List.contains_cons, List.contains_nil, Nat.reduceBEq, Bool.or_true, Bool.true_or, Bool.or_false, Bool.false_or, Bool.not_true, Bool.not_false, true_and, and_true]
      have hlt' : k < ps.length := by omega
      have hkp : ps[k]? = some ps[k] := List.getElem?_eq_getElem hlt'
      have hdrop : ps.drop k = ps[k] :: ps.drop (k + 1) := List.drop_eq_getElem_cons hlt'
      generalize ps[k] = p at hkp hdrop
      obtain ⟨l, j, hia, hll, hrow⟩ := ((hs.ext hE0).ext hE).at (m := k) (row := p.row) (by rw [List.getElem?_map, hkp]; rfl) .i64
      rw [hrel, hdrop]
      have hrl : p.row.length = 6 := rfl
      refine got_of hia ?_
      simp only [hrow, rowA_whole _ _ hrl, go_sem, Hold.p, HoldK.k, HoldL.K, HoldL.body, Nat.reduceBEq, Nat.reduceAdd, List.getElem?_cons_zero, List.getElem?_cons_succ, Option.bind_some, List.map_cons, List.map_nil, Nat.zero_add, if_true, List.getD_cons_zero, List.getD_cons_succ, List.contains_cons, List.contains_nil, Nat.reduceBEq, Bool.or_true, Bool.true_or, Bool.or_false, Bool.false_or, Bool.not_true, Bool.not_false, true_and, and_true]
      refine stO_of (row := [.int .i64 0, .int .i64 0, .int .i64 0, .int .i64 0, .bool false, .bool false]) rfl rfl (by simp) (by simp [Piece.row, IV.one]) ?_
      have hwrt : wrt [IV.int .i64 0, .int .i64 0, .int .i64 0, .int .i64 0, .bool false, .bool false] 0 p.row = p.row := rfl
      rw [hwrt]
      simp only [e1, e30, e31, e32, e3, List.set_cons_zero, Piece.row, go_sem, Hold.p, HoldK.k, HoldL.K, HoldL.body, Nat.reduceBEq, Nat.reduceAdd, List.getElem?_cons_zero, List.getElem?_cons_succ, Option.bind_some, List.map_cons, List.map_nil, Nat.zero_add, if_true, List.getD_cons_zero, List.getD_cons_succ, List.contains_cons, List.contains_nil, Nat.reduceBEq, Bool.or_true, Bool.true_or, Bool.or_false, Bool.false_or, Bool.not_true, Bool.not_false, true_and, and_true]
      have hEx : Ext h ((h'.push (IObj.rows [[IV.int .i64 p.fr, .int .i64 p.to, .int .i64 p.at_, .int .i64 p.times, .bool p.sacked, .bool p.lost]] 40 6 false))) := hE0.trans (hE.trans ((Ext.refl _).push _))
      have hno : okPs nxt at_ (p :: ps.drop (k + 1)) = (decide (p.fr = at_) && decide (p.fr < p.to) && decide (0 ≤ p.at_) && decide (p.at_ ≤ 1000000000) && decide (1 ≤ p.times) && decide (p.times ≤ 1000000) && !(p.sacked && p.lost) && okPs nxt p.to (ps.drop (k + 1))) := rfl
      have hX : ∀ o1 o2, Ext h ((h'.push o1).set h'.n o2) := fun o1 o2 => hE0.trans (hE.trans (((Ext.refl _).push _).set _ (Nat.le_refl _) _))
      refine guard_of (fun c1 => ?_) (fun c1 => ?_)
      case refine_2 => (try simp only [Bool.not_false, Bool.not_true] at c1); simp only [c1, e1, e30, e31, e32, e3, go_sem, Hold.p, HoldK.k, HoldL.K, HoldL.body, Nat.reduceBEq, Nat.reduceAdd, List.getElem?_cons_zero, List.getElem?_cons_succ, Option.bind_some, List.map_cons, List.map_nil, Nat.zero_add, if_true, List.getD_cons_zero, List.getD_cons_succ, List.contains_cons, List.contains_nil, Nat.reduceBEq, Bool.or_true, Bool.true_or, Bool.or_false, Bool.false_or, Bool.not_true, Bool.not_false, true_and, and_true]; exact ⟨by simp at c1; simp [hno, c1] <;> omega, hX _ _⟩
      simp only [c1, e1, e30, e31, e32, e3, go_sem, Hold.p, HoldK.k, HoldL.K, HoldL.body, Nat.reduceBEq, Nat.reduceAdd, List.getElem?_cons_zero, List.getElem?_cons_succ, Option.bind_some, List.map_cons, List.map_nil, Nat.zero_add, if_true, List.getD_cons_zero, List.getD_cons_succ, List.contains_cons, List.contains_nil, Nat.reduceBEq, Bool.or_true, Bool.true_or, Bool.or_false, Bool.false_or, Bool.not_true, Bool.not_false, true_and, and_true]
      refine guard_of (fun c2 => ?_) (fun c2 => ?_)
      case refine_2 => (try simp only [Bool.not_false, Bool.not_true] at c2); simp only [c2, e1, e30, e31, e32, e3, go_sem, Hold.p, HoldK.k, HoldL.K, HoldL.body, Nat.reduceBEq, Nat.reduceAdd, List.getElem?_cons_zero, List.getElem?_cons_succ, Option.bind_some, List.map_cons, List.map_nil, Nat.zero_add, if_true, List.getD_cons_zero, List.getD_cons_succ, List.contains_cons, List.contains_nil, Nat.reduceBEq, Bool.or_true, Bool.true_or, Bool.or_false, Bool.false_or, Bool.not_true, Bool.not_false, true_and, and_true]; exact ⟨by simp at c2; simp [hno, c2] <;> omega, hX _ _⟩
      simp only [c2, e1, e30, e31, e32, e3, go_sem, Hold.p, HoldK.k, HoldL.K, HoldL.body, Nat.reduceBEq, Nat.reduceAdd, List.getElem?_cons_zero, List.getElem?_cons_succ, Option.bind_some, List.map_cons, List.map_nil, Nat.zero_add, if_true, List.getD_cons_zero, List.getD_cons_succ, List.contains_cons, List.contains_nil, Nat.reduceBEq, Bool.or_true, Bool.true_or, Bool.or_false, Bool.false_or, Bool.not_true, Bool.not_false, true_and, and_true]
      refine guard_of (fun c3 => ?_) (fun c3 => ?_)
      case refine_2 => (try simp only [Bool.not_false, Bool.not_true] at c3); simp only [c3, e1, e30, e31, e32, e3, go_sem, Hold.p, HoldK.k, HoldL.K, HoldL.body, Nat.reduceBEq, Nat.reduceAdd, List.getElem?_cons_zero, List.getElem?_cons_succ, Option.bind_some, List.map_cons, List.map_nil, Nat.zero_add, if_true, List.getD_cons_zero, List.getD_cons_succ, List.contains_cons, List.contains_nil, Nat.reduceBEq, Bool.or_true, Bool.true_or, Bool.or_false, Bool.false_or, Bool.not_true, Bool.not_false, true_and, and_true]; exact ⟨by simp at c3; simp [hno, c3] <;> omega, hX _ _⟩
      simp only [c3, e1, e30, e31, e32, e3, go_sem, Hold.p, HoldK.k, HoldL.K, HoldL.body, Nat.reduceBEq, Nat.reduceAdd, List.getElem?_cons_zero, List.getElem?_cons_succ, Option.bind_some, List.map_cons, List.map_nil, Nat.zero_add, if_true, List.getD_cons_zero, List.getD_cons_succ, List.contains_cons, List.contains_nil, Nat.reduceBEq, Bool.or_true, Bool.true_or, Bool.or_false, Bool.false_or, Bool.not_true, Bool.not_false, true_and, and_true]
      refine guard_of (fun c4 => ?_) (fun c4 => ?_)
      case refine_2 => (try simp only [Bool.not_false, Bool.not_true] at c4); simp only [c4, e1, e30, e31, e32, e3, go_sem, Hold.p, HoldK.k, HoldL.K, HoldL.body, Nat.reduceBEq, Nat.reduceAdd, List.getElem?_cons_zero, List.getElem?_cons_succ, Option.bind_some, List.map_cons, List.map_nil, Nat.zero_add, if_true, List.getD_cons_zero, List.getD_cons_succ, List.contains_cons, List.contains_nil, Nat.reduceBEq, Bool.or_true, Bool.true_or, Bool.or_false, Bool.false_or, Bool.not_true, Bool.not_false, true_and, and_true]; exact ⟨by simp at c4; simp [hno, c4] <;> omega, hX _ _⟩
      simp only [c4, e1, e30, e31, e32, e3, go_sem, Hold.p, HoldK.k, HoldL.K, HoldL.body, Nat.reduceBEq, Nat.reduceAdd, List.getElem?_cons_zero, List.getElem?_cons_succ, Option.bind_some, List.map_cons, List.map_nil, Nat.zero_add, if_true, List.getD_cons_zero, List.getD_cons_succ, List.contains_cons, List.contains_nil, Nat.reduceBEq, Bool.or_true, Bool.true_or, Bool.or_false, Bool.false_or, Bool.not_true, Bool.not_false, true_and, and_true]
      refine guard_of (fun c5 => ?_) (fun c5 => ?_)
      case refine_2 => (try simp only [Bool.not_false, Bool.not_true] at c5); simp only [c5, e1, e30, e31, e32, e3, go_sem, Hold.p, HoldK.k, HoldL.K, HoldL.body, Nat.reduceBEq, Nat.reduceAdd, List.getElem?_cons_zero, List.getElem?_cons_succ, Option.bind_some, List.map_cons, List.map_nil, Nat.zero_add, if_true, List.getD_cons_zero, List.getD_cons_succ, List.contains_cons, List.contains_nil, Nat.reduceBEq, Bool.or_true, Bool.true_or, Bool.or_false, Bool.false_or, Bool.not_true, Bool.not_false, true_and, and_true]; exact ⟨by simp at c5; simp [hno, c5] <;> omega, hX _ _⟩
      simp only [c5, e1, e30, e31, e32, e3, go_sem, Hold.p, HoldK.k, HoldL.K, HoldL.body, Nat.reduceBEq, Nat.reduceAdd, List.getElem?_cons_zero, List.getElem?_cons_succ, Option.bind_some, List.map_cons, List.map_nil, Nat.zero_add, if_true, List.getD_cons_zero, List.getD_cons_succ, List.contains_cons, List.contains_nil, Nat.reduceBEq, Bool.or_true, Bool.true_or, Bool.or_false, Bool.false_or, Bool.not_true, Bool.not_false, true_and, and_true]
      refine guard_of (fun c6 => ?_) (fun c6 => ?_)
      case refine_2 => (try simp only [Bool.not_false, Bool.not_true] at c6); simp only [c6, e1, e30, e31, e32, e3, go_sem, Hold.p, HoldK.k, HoldL.K, HoldL.body, Nat.reduceBEq, Nat.reduceAdd, List.getElem?_cons_zero, List.getElem?_cons_succ, Option.bind_some, List.map_cons, List.map_nil, Nat.zero_add, if_true, List.getD_cons_zero, List.getD_cons_succ, List.contains_cons, List.contains_nil, Nat.reduceBEq, Bool.or_true, Bool.true_or, Bool.or_false, Bool.false_or, Bool.not_true, Bool.not_false, true_and, and_true]; exact ⟨by simp at c6; simp [hno, c6] <;> omega, hX _ _⟩
      simp only [c6, e1, e30, e31, e32, e3, go_sem, Hold.p, HoldK.k, HoldL.K, HoldL.body, Nat.reduceBEq, Nat.reduceAdd, List.getElem?_cons_zero, List.getElem?_cons_succ, Option.bind_some, List.map_cons, List.map_nil, Nat.zero_add, if_true, List.getD_cons_zero, List.getD_cons_succ, List.contains_cons, List.contains_nil, Nat.reduceBEq, Bool.or_true, Bool.true_or, Bool.or_false, Bool.false_or, Bool.not_true, Bool.not_false, true_and, and_true]
      refine guard_of (fun c7 => ?_) (fun c7 => ?_)
      case' refine_1 => simp only [c6, c7, e1, e30, e31, e32, e3, go_sem, Hold.p, HoldK.k, HoldL.K, HoldL.body, Nat.reduceBEq, Nat.reduceAdd, List.getElem?_cons_zero, List.getElem?_cons_succ, Option.bind_some, List.map_cons, List.map_nil, Nat.zero_add, if_true, List.getD_cons_zero, List.getD_cons_succ, List.contains_cons, List.contains_nil, Nat.reduceBEq, Bool.or_true, Bool.true_or, Bool.or_false, Bool.false_or, Bool.not_true, Bool.not_false, true_and, and_true]; cases hl : p.lost
      case' refine_1.true => simp only [go_sem, Hold.p, HoldK.k, HoldL.K, HoldL.body, Nat.reduceBEq, Nat.reduceAdd, List.getElem?_cons_zero, List.getElem?_cons_succ, Option.bind_some, List.map_cons, List.map_nil, Nat.zero_add, if_true, List.getD_cons_zero, List.getD_cons_succ, List.contains_cons, List.contains_nil, Nat.reduceBEq, Bool.or_true, Bool.true_or, Bool.or_false, Bool.false_or, Bool.not_true, Bool.not_false, true_and, and_true]; exact ⟨by simp [hno, c7, hl], hX _ _⟩
      case' refine_1.false => simp only [e1, e30, e31, e32, e3, go_sem, Hold.p, HoldK.k, HoldL.K, HoldL.body, Nat.reduceBEq, Nat.reduceAdd, List.getElem?_cons_zero, List.getElem?_cons_succ, Option.bind_some, List.map_cons, List.map_nil, Nat.zero_add, if_true, List.getD_cons_zero, List.getD_cons_succ, List.contains_cons, List.contains_nil, Nat.reduceBEq, Bool.or_true, Bool.true_or, Bool.or_false, Bool.false_or, Bool.not_true, Bool.not_false, true_and, and_true]
      case' refine_2 => simp only [Bool.not_true] at c7; simp only [c6, c7, e1, e30, e31, e32, e3, go_sem, Hold.p, HoldK.k, HoldL.K, HoldL.body, Nat.reduceBEq, Nat.reduceAdd, List.getElem?_cons_zero, List.getElem?_cons_succ, Option.bind_some, List.map_cons, List.map_nil, Nat.zero_add, if_true, List.getD_cons_zero, List.getD_cons_succ, List.contains_cons, List.contains_nil, Nat.reduceBEq, Bool.or_true, Bool.true_or, Bool.or_false, Bool.false_or, Bool.not_true, Bool.not_false, true_and, and_true]
      all_goals
        simp at c1 c2 c3 c4 c5 c6
        refine ⟨_, ?_, k + 1, p.to, rfl, by omega, ?_, rfl, ?_, hE.trans (((Ext.refl _).push _).set _ (Nat.le_refl _) _)⟩
        · omega
        · exact wr64_succ k (by omega)
        · rw [hno]; simp [c1, c2, c3, c4, c5, c6, c7, *] <;> (intro; omega)
    · simp only [e1, e30, e31, e32, e3, hbox, go_sem, Hold.p, HoldK.k, HoldL.K, HoldL.body, Nat.reduceBEq, Nat.reduceAdd, List.getElem?_cons_zero, List.getElem?_cons_succ, Option.bind_some, List.map_cons, List.map_nil, Nat.zero_add, if_true, List.getD_cons_zero, List.getD_cons_succ, List.contains_cons, List.contains_nil, Nat.reduceBEq, Bool.or_true, Bool.true_or, Bool.or_false, Bool.false_or, Bool.not_true, Bool.not_false, true_and, and_true]
      have hkn : k = ps.length := by omega
      subst hkn
      refine ⟨?_, hE0.trans hE⟩
      rw [hrel, List.drop_length, okPs]
end Go.Proofs.Ytecljenjlncfhaa
