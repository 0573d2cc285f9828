import Derived.Test.YtcmcfmgabafljaaDoorEQ
set_option linter.unusedSimpArgs false
set_option linter.unusedVariables false
namespace Go.Proofs.YtcmcfmgabafljaaDoor
open Go Go.IW

/-- The numbers of four bytes each from a place on. -/
def wordsAt (bs : List UInt8) (s k : Nat) : List Int := (List.range k).map fun j => numB ((bs.take (s + 4 * j + 4)).drop (s + 4 * j))
theorem wordsAt_succ (bs : List UInt8) (s k : Nat) : wordsAt bs s (k + 1) = wordsAt bs s k ++ [numB ((bs.take (s + 4 * k + 4)).drop (s + 4 * k))] := by
  unfold wordsAt; rw [List.range_succ, List.map_append]; rfl
theorem wordsAt_len (bs : List UInt8) (s k : Nat) : (wordsAt bs s k).length = k := by unfold wordsAt; simp
structure RepV where
  id : Int
  code : Int
  ttl : Int
  nm : List UInt8
  zs : List Int
def RepV.zero : RepV := ⟨0, 0, 0, [], []⟩
def repM (bs : List UInt8) : Nat := (bs.getD 8 0).toNat
def repC (bs : List UInt8) : Nat := (bs.getD (9 + repM bs) 0).toNat
def repAt (bs : List UInt8) : RepV := ⟨numB (bs.take 2), ((bs.getD 3 0).toNat : Int), numB ((bs.take 8).drop 4), (bs.take (9 + repM bs)).drop 9, wordsAt bs (10 + repM bs) (repC bs)⟩
def RepV.ok (x : RepV) : Bool := okRep x.id x.code x.ttl x.nm x.zs
/-- What DecodeReply answers. -/
def decR (bs : List UInt8) : RepV × Int :=
  if bs.length < 10 + repM bs ∨ bs.length < 10 + repM bs + 4 * repC bs then (.zero, 2)
  else if 10 + repM bs + 4 * repC bs < bs.length then (.zero, 5)
  else if bs.getD 2 0 ≠ 1 then (.zero, 9)
  else if okName (repAt bs).nm = false then (.zero, 6)
  else if (repAt bs).ok = true then (repAt bs, 0) else (.zero, 1)
def ReplyRes (h h' : IH) (r : IV) (x : RepV × Int) : Prop := ∃ v, r = .tuple [.agg [.int .i64 x.1.id, .int .i64 x.1.code, .int .i64 x.1.ttl, .str x.1.nm, v], .int .i64 x.2] ∧ Own h.n h'.n h' 2 1 v (intRows x.1.zs) ∧ Ext h h'
theorem getD_big {bs : List UInt8} {k : Nat} (h : bs.length ≤ k) : bs.getD k 0 = 0 := by
  rw [List.getD_eq_getElem?_getD, List.getElem?_eq_none h]; rfl
theorem byte_ne {a b : UInt8} (h : a ≠ b) : (a.toNat : Int) ≠ (b.toNat : Int) := fun e => h (UInt8.toNat_inj.1 (by omega))

set_option maxRecDepth 20000 in
theorem specDecodeReply_c (h : IH) (v : IV) (bs : List UInt8) (hs : SlR h 1 v (strRows bs)) (hl : bs.length ≤ 1048576) : ICalls Tryd.prog 31 [v] h fun r h' => ReplyRes h h' r (decR bs) := by
  refine icalls (.of ok31) (Nat.le_of_ble_eq_true rfl) ?_
  unfold c31
  have hlen := hs.lenF
  rw [strRows_len] at hlen
  have hm := (bs.getD 8 0).toNat_lt
  have hc := (bs.getD (9 + repM bs) 0).toNat_lt
  have hm' : repM bs < 256 := hm
  have hc' : repC bs < 256 := hc
  by_cases c0 : bs.length < 10 + repM bs
  · have hdef : decR bs = (.zero, 2) := if_pos (.inl c0)
    simp only [go_sem, Hold.p, HoldK.k, HoldL.K, HoldL.body, Nat.reduceBEq, Nat.reduceAdd, List.getElem?_cons_zero, List.getElem?_cons_succ, Option.bind_some, List.map_cons, List.map_nil, Nat.zero_add, if_true, List.getD_cons_zero, List.getD_cons_succ, List.contains_cons, List.contains_nil, Nat.reduceBEq, Bool.or_true, Bool.true_or, Bool.or_false, Bool.false_or, Bool.not_true, Bool.not_false, true_and, and_true, rowA_whole, push_n, set_n, push_obj, set_obj, set_push, set_push_ne, set_set, Nat.add_assoc, Nat.left_eq_add, Nat.add_eq_left, Nat.add_left_cancel_iff, Nat.reduceEqDiff, stO_1s, stO_ws, boxA_s, one_bool, one_int, one_str, one_ptr, one_nilptr, one_slice, one_eslice, one_nilslice, one_func, one_iface, one_niliface, List.all_cons, List.all_nil, List.length_cons, List.length_nil, Nat.reduceLT, Nat.reduceEqDiff, Nat.reduceLeDiff, Bool.and_true, Nat.one_ne_zero, Nat.succ_ne_zero, reduceIte, if_false, List.getElem?_cons_zero, List.set_cons_zero, List.set_cons_succ]
    generalize hq_g0 : IH.push h (IObj.rows [[IV.int .i64 0, IV.int .i64 0, IV.int .i64 0, IV.str [], IV.nilslice]] 44 5 false) = g0
    have e_g0 : Ext h g0 := by rw [← hq_g0]; exact (Ext.refl _).push _
    have l_g0 : g0.n = h.n + 1 := by rw [← hq_g0]; rfl
    have bb : At g0 h.n (IObj.rows [[IV.int .i64 0, IV.int .i64 0, IV.int .i64 0, IV.str [], IV.nilslice]] 44 5 false) := by rw [← hq_g0]; exact At.new _ _
    clear hq_g0
    have hs := hs.ext e_g0
    refine callA_of (l19Text_c g0 v bs 8 hs hl (by omega)) ?_
    rintro r g ⟨rfl, rfl⟩
    by_cases c1 : bs.length ≤ 8 ∨ bs.length < 8 + 1 + (bs.getD 8 0).toNat
    · have e1 : textAt bs 8 = ([], -1) := if_pos c1
      have d1 : decide ((-1 : Int) < 0) = true := rfl
      rw [e1]
      simp only [d1, bb.eq, lay_nil, lay_1, lay_w, Option.map_some, go_sem, Hold.p, HoldK.k, HoldL.K, HoldL.body, Nat.reduceBEq, Nat.reduceAdd, List.getElem?_cons_zero, List.getElem?_cons_succ, Option.bind_some, List.map_cons, List.map_nil, Nat.zero_add, if_true, List.getD_cons_zero, List.getD_cons_succ, List.contains_cons, List.contains_nil, Nat.reduceBEq, Bool.or_true, Bool.true_or, Bool.or_false, Bool.false_or, Bool.not_true, Bool.not_false, true_and, and_true, rowA_whole, push_n, set_n, push_obj, set_obj, set_push, set_push_ne, set_set, Nat.add_assoc, Nat.left_eq_add, Nat.add_eq_left, Nat.add_left_cancel_iff, Nat.reduceEqDiff, stO_1s, stO_ws, boxA_s, one_bool, one_int, one_str, one_ptr, one_nilptr, one_slice, one_eslice, one_nilslice, one_func, one_iface, one_niliface, List.all_cons, List.all_nil, List.length_cons, List.length_nil, Nat.reduceLT, Nat.reduceEqDiff, Nat.reduceLeDiff, Bool.and_true, Nat.one_ne_zero, Nat.succ_ne_zero, reduceIte, if_false, List.getElem?_cons_zero, List.set_cons_zero, List.set_cons_succ]
      rw [hdef]
      exact ⟨_, rfl, Own.nil, e_g0.set _ (Nat.le_refl _) _⟩
    · have e1 : textAt bs 8 = ((bs.take (8 + 1 + (bs.getD 8 0).toNat)).drop (8 + 1), ((8 + 1 + (bs.getD 8 0).toNat : Nat) : Int)) := if_neg c1
      rw [e1]
      have d1 : decide (((8 + 1 + (bs.getD 8 0).toNat : Nat) : Int) < 0) = false := decide_eq_false (by omega)
      have d2 : decide ((bs.length : Int) ≤ ((8 + 1 + (bs.getD 8 0).toNat : Nat) : Int)) = true := decide_eq_true (by unfold repM at c0; omega)
      simp only [d1, hlen, d2, bb.eq, lay_nil, lay_1, lay_w, Option.map_some, go_sem, Hold.p, HoldK.k, HoldL.K, HoldL.body, Nat.reduceBEq, Nat.reduceAdd, List.getElem?_cons_zero, List.getElem?_cons_succ, Option.bind_some, List.map_cons, List.map_nil, Nat.zero_add, if_true, List.getD_cons_zero, List.getD_cons_succ, List.contains_cons, List.contains_nil, Nat.reduceBEq, Bool.or_true, Bool.true_or, Bool.or_false, Bool.false_or, Bool.not_true, Bool.not_false, true_and, and_true, rowA_whole, push_n, set_n, push_obj, set_obj, set_push, set_push_ne, set_set, Nat.add_assoc, Nat.left_eq_add, Nat.add_eq_left, Nat.add_left_cancel_iff, Nat.reduceEqDiff, stO_1s, stO_ws, boxA_s, one_bool, one_int, one_str, one_ptr, one_nilptr, one_slice, one_eslice, one_nilslice, one_func, one_iface, one_niliface, List.all_cons, List.all_nil, List.length_cons, List.length_nil, Nat.reduceLT, Nat.reduceEqDiff, Nat.reduceLeDiff, Bool.and_true, Nat.one_ne_zero, Nat.succ_ne_zero, reduceIte, if_false, List.getElem?_cons_zero, List.set_cons_zero, List.set_cons_succ]
      rw [hdef]
      exact ⟨_, rfl, Own.nil, e_g0.set _ (Nat.le_refl _) _⟩
  have e1 : textAt bs 8 = ((bs.take (9 + repM bs)).drop 9, ((9 + repM bs : Nat) : Int)) := by
    refine (if_neg (by unfold repM at c0; omega)).trans ?_
    show (_, (((9 + repM bs : Nat) : Int))) = _
    rfl
  have hkp := getD_at (bs := bs) (k := 9 + repM bs) (by omega)
  have hcd : (bs.getD (9 + repM bs) 0).toNat = repC bs := rfl
  have hnm : (repAt bs).nm = (bs.take (9 + repM bs)).drop 9 := rfl
  have d1 : decide (((9 + repM bs : Nat) : Int) < 0) = false := decide_eq_false (by omega)
  have d2 : decide ((bs.length : Int) ≤ ((9 + repM bs : Nat) : Int)) = false := decide_eq_false (by omega)
  obtain ⟨tot, ht⟩ : ∃ t, t = 10 + repM bs + 4 * repC bs := ⟨_, rfl⟩
  have w1 : wr .i64 (((9 + repM bs : Nat) : Int) + 1) = ((10 + repM bs : Nat) : Int) := by rw [wr64 _ (by omega)]; omega
  have w2 : wr .i64 ((repC bs : Nat) : Int) = ((repC bs : Nat) : Int) := wr64 _ (by omega)
  have w3 : wr .i64 (4 * ((repC bs : Nat) : Int)) = ((4 * repC bs : Nat) : Int) := by rw [wr64 _ (by omega)]; omega
  have w4 : wr .i64 (((10 + repM bs : Nat) : Int) + ((4 * repC bs : Nat) : Int)) = (tot : Int) := by rw [wr64 _ (by omega)]; omega
  by_cases c1 : bs.length < 10 + repM bs + 4 * repC bs
  · have hdef : decR bs = (.zero, 2) := if_pos (.inr c1)
    have d3 : decide ((bs.length : Int) < (tot : Int)) = true := decide_eq_true (by omega)
    simp only [go_sem, Hold.p, HoldK.k, HoldL.K, HoldL.body, Nat.reduceBEq, Nat.reduceAdd, List.getElem?_cons_zero, List.getElem?_cons_succ, Option.bind_some, List.map_cons, List.map_nil, Nat.zero_add, if_true, List.getD_cons_zero, List.getD_cons_succ, List.contains_cons, List.contains_nil, Nat.reduceBEq, Bool.or_true, Bool.true_or, Bool.or_false, Bool.false_or, Bool.not_true, Bool.not_false, true_and, and_true, rowA_whole, push_n, set_n, push_obj, set_obj, set_push, set_push_ne, set_set, Nat.add_assoc, Nat.left_eq_add, Nat.add_eq_left, Nat.add_left_cancel_iff, Nat.reduceEqDiff, stO_1s, stO_ws, boxA_s, one_bool, one_int, one_str, one_ptr, one_nilptr, one_slice, one_eslice, one_nilslice, one_func, one_iface, one_niliface, List.all_cons, List.all_nil, List.length_cons, List.length_nil, Nat.reduceLT, Nat.reduceEqDiff, Nat.reduceLeDiff, Bool.and_true, Nat.one_ne_zero, Nat.succ_ne_zero, reduceIte, if_false, List.getElem?_cons_zero, List.set_cons_zero, List.set_cons_succ]
    generalize hq_g0 : IH.push h (IObj.rows [[IV.int .i64 0, IV.int .i64 0, IV.int .i64 0, IV.str [], IV.nilslice]] 44 5 false) = g0
    have e_g0 : Ext h g0 := by rw [← hq_g0]; exact (Ext.refl _).push _
    have l_g0 : g0.n = h.n + 1 := by rw [← hq_g0]; rfl
    have bb : At g0 h.n (IObj.rows [[IV.int .i64 0, IV.int .i64 0, IV.int .i64 0, IV.str [], IV.nilslice]] 44 5 false) := by rw [← hq_g0]; exact At.new _ _
    clear hq_g0
    have hs := hs.ext e_g0
    refine callA_of (l19Text_c g0 v bs 8 hs hl (by omega)) ?_
    rintro r g ⟨rfl, rfl⟩
    rw [e1]
    obtain ⟨l, j, hia, hll, hrow⟩ := hs.at (m := 9 + repM bs) (strRows_at hkp) .i64
    have hc := cellO_row hrow
    rw [hcd] at hc
    simp only [d1, d2, hlen, w1, hia, hc, w2, w3, w4, d3, bb.eq, lay_nil, lay_1, lay_w, Option.map_some, go_sem, Hold.p, HoldK.k, HoldL.K, HoldL.body, Nat.reduceBEq, Nat.reduceAdd, List.getElem?_cons_zero, List.getElem?_cons_succ, Option.bind_some, List.map_cons, List.map_nil, Nat.zero_add, if_true, List.getD_cons_zero, List.getD_cons_succ, List.contains_cons, List.contains_nil, Nat.reduceBEq, Bool.or_true, Bool.true_or, Bool.or_false, Bool.false_or, Bool.not_true, Bool.not_false, true_and, and_true, rowA_whole, push_n, set_n, push_obj, set_obj, set_push, set_push_ne, set_set, Nat.add_assoc, Nat.left_eq_add, Nat.add_eq_left, Nat.add_left_cancel_iff, Nat.reduceEqDiff, stO_1s, stO_ws, boxA_s, one_bool, one_int, one_str, one_ptr, one_nilptr, one_slice, one_eslice, one_nilslice, one_func, one_iface, one_niliface, List.all_cons, List.all_nil, List.length_cons, List.length_nil, Nat.reduceLT, Nat.reduceEqDiff, Nat.reduceLeDiff, Bool.and_true, Nat.one_ne_zero, Nat.succ_ne_zero, reduceIte, if_false, List.getElem?_cons_zero, List.set_cons_zero, List.set_cons_succ]
    rw [hdef]
    exact ⟨_, rfl, Own.nil, e_g0.set _ (Nat.le_refl _) _⟩
  have d3 : decide ((bs.length : Int) < (tot : Int)) = false := decide_eq_false (by omega)
  by_cases c2 : 10 + repM bs + 4 * repC bs < bs.length
  · have hdef : decR bs = (.zero, 5) := (if_neg (by omega)).trans (if_pos c2)
    have d4 : decide ((tot : Int) < (bs.length : Int)) = true := decide_eq_true (by omega)
    simp only [go_sem, Hold.p, HoldK.k, HoldL.K, HoldL.body, Nat.reduceBEq, Nat.reduceAdd, List.getElem?_cons_zero, List.getElem?_cons_succ, Option.bind_some, List.map_cons, List.map_nil, Nat.zero_add, if_true, List.getD_cons_zero, List.getD_cons_succ, List.contains_cons, List.contains_nil, Nat.reduceBEq, Bool.or_true, Bool.true_or, Bool.or_false, Bool.false_or, Bool.not_true, Bool.not_false, true_and, and_true, rowA_whole, push_n, set_n, push_obj, set_obj, set_push, set_push_ne, set_set, Nat.add_assoc, Nat.left_eq_add, Nat.add_eq_left, Nat.add_left_cancel_iff, Nat.reduceEqDiff, stO_1s, stO_ws, boxA_s, one_bool, one_int, one_str, one_ptr, one_nilptr, one_slice, one_eslice, one_nilslice, one_func, one_iface, one_niliface, List.all_cons, List.all_nil, List.length_cons, List.length_nil, Nat.reduceLT, Nat.reduceEqDiff, Nat.reduceLeDiff, Bool.and_true, Nat.one_ne_zero, Nat.succ_ne_zero, reduceIte, if_false, List.getElem?_cons_zero, List.set_cons_zero, List.set_cons_succ]
    generalize hq_g0 : IH.push h (IObj.rows [[IV.int .i64 0, IV.int .i64 0, IV.int .i64 0, IV.str [], IV.nilslice]] 44 5 false) = g0
    have e_g0 : Ext h g0 := by rw [← hq_g0]; exact (Ext.refl _).push _
    have l_g0 : g0.n = h.n + 1 := by rw [← hq_g0]; rfl
    have bb : At g0 h.n (IObj.rows [[IV.int .i64 0, IV.int .i64 0, IV.int .i64 0, IV.str [], IV.nilslice]] 44 5 false) := by rw [← hq_g0]; exact At.new _ _
    clear hq_g0
    have hs := hs.ext e_g0
    refine callA_of (l19Text_c g0 v bs 8 hs hl (by omega)) ?_
    rintro r g ⟨rfl, rfl⟩
    rw [e1]
    obtain ⟨l, j, hia, hll, hrow⟩ := hs.at (m := 9 + repM bs) (strRows_at hkp) .i64
    have hc := cellO_row hrow
    rw [hcd] at hc
    simp only [d1, d2, hlen, w1, hia, hc, w2, w3, w4, d3, d4, bb.eq, lay_nil, lay_1, lay_w, Option.map_some, go_sem, Hold.p, HoldK.k, HoldL.K, HoldL.body, Nat.reduceBEq, Nat.reduceAdd, List.getElem?_cons_zero, List.getElem?_cons_succ, Option.bind_some, List.map_cons, List.map_nil, Nat.zero_add, if_true, List.getD_cons_zero, List.getD_cons_succ, List.contains_cons, List.contains_nil, Nat.reduceBEq, Bool.or_true, Bool.true_or, Bool.or_false, Bool.false_or, Bool.not_true, Bool.not_false, true_and, and_true, rowA_whole, push_n, set_n, push_obj, set_obj, set_push, set_push_ne, set_set, Nat.add_assoc, Nat.left_eq_add, Nat.add_eq_left, Nat.add_left_cancel_iff, Nat.reduceEqDiff, stO_1s, stO_ws, boxA_s, one_bool, one_int, one_str, one_ptr, one_nilptr, one_slice, one_eslice, one_nilslice, one_func, one_iface, one_niliface, List.all_cons, List.all_nil, List.length_cons, List.length_nil, Nat.reduceLT, Nat.reduceEqDiff, Nat.reduceLeDiff, Bool.and_true, Nat.one_ne_zero, Nat.succ_ne_zero, reduceIte, if_false, List.getElem?_cons_zero, List.set_cons_zero, List.set_cons_succ]
    rw [hdef]
    exact ⟨_, rfl, Own.nil, e_g0.set _ (Nat.le_refl _) _⟩
  have d4 : decide ((tot : Int) < (bs.length : Int)) = false := decide_eq_false (by omega)
  have hdef : decR bs = if bs.getD 2 0 ≠ 1 then (.zero, 9) else if okName (repAt bs).nm = false then (.zero, 6) else if (repAt bs).ok = true then (repAt bs, 0) else (.zero, 1) := (if_neg (by omega)).trans (if_neg c2)
  have hk2 := getD_at (bs := bs) (k := 2) (by omega)
  by_cases c3 : bs.getD 2 0 ≠ 1
  · rw [if_pos c3] at hdef
    have d5 : decide (((bs.getD 2 0).toNat : Int) = 1) = false := decide_eq_false (byte_ne (b := 1) c3)
    simp only [go_sem, Hold.p, HoldK.k, HoldL.K, HoldL.body, Nat.reduceBEq, Nat.reduceAdd, List.getElem?_cons_zero, List.getElem?_cons_succ, Option.bind_some, List.map_cons, List.map_nil, Nat.zero_add, if_true, List.getD_cons_zero, List.getD_cons_succ, List.contains_cons, List.contains_nil, Nat.reduceBEq, Bool.or_true, Bool.true_or, Bool.or_false, Bool.false_or, Bool.not_true, Bool.not_false, true_and, and_true, rowA_whole, push_n, set_n, push_obj, set_obj, set_push, set_push_ne, set_set, Nat.add_assoc, Nat.left_eq_add, Nat.add_eq_left, Nat.add_left_cancel_iff, Nat.reduceEqDiff, stO_1s, stO_ws, boxA_s, one_bool, one_int, one_str, one_ptr, one_nilptr, one_slice, one_eslice, one_nilslice, one_func, one_iface, one_niliface, List.all_cons, List.all_nil, List.length_cons, List.length_nil, Nat.reduceLT, Nat.reduceEqDiff, Nat.reduceLeDiff, Bool.and_true, Nat.one_ne_zero, Nat.succ_ne_zero, reduceIte, if_false, List.getElem?_cons_zero, List.set_cons_zero, List.set_cons_succ]
    generalize hq_g0 : IH.push h (IObj.rows [[IV.int .i64 0, IV.int .i64 0, IV.int .i64 0, IV.str [], IV.nilslice]] 44 5 false) = g0
    have e_g0 : Ext h g0 := by rw [← hq_g0]; exact (Ext.refl _).push _
    have l_g0 : g0.n = h.n + 1 := by rw [← hq_g0]; rfl
    have bb : At g0 h.n (IObj.rows [[IV.int .i64 0, IV.int .i64 0, IV.int .i64 0, IV.str [], IV.nilslice]] 44 5 false) := by rw [← hq_g0]; exact At.new _ _
    clear hq_g0
    have hs := hs.ext e_g0
    refine callA_of (l19Text_c g0 v bs 8 hs hl (by omega)) ?_
    rintro r g ⟨rfl, rfl⟩
    rw [e1]
    obtain ⟨l, j, hia, hll, hrow⟩ := hs.at (m := 9 + repM bs) (strRows_at hkp) .i64
    have hc := cellO_row hrow
    rw [hcd] at hc
    obtain ⟨l2, j2, hia2, hll2, hrow2⟩ := hs.at (m := 2) (strRows_at hk2) .i64
    have hc2 := cellO_row hrow2
    have hia2 : iadrF g 1 v (.int .i64 2) = some (.ptr l2 j2 0) := hia2
    simp only [d1, d2, hlen, w1, hia, hc, w2, w3, w4, d3, d4, hia2, hc2, d5, bb.eq, lay_nil, lay_1, lay_w, Option.map_some, go_sem, Hold.p, HoldK.k, HoldL.K, HoldL.body, Nat.reduceBEq, Nat.reduceAdd, List.getElem?_cons_zero, List.getElem?_cons_succ, Option.bind_some, List.map_cons, List.map_nil, Nat.zero_add, if_true, List.getD_cons_zero, List.getD_cons_succ, List.contains_cons, List.contains_nil, Nat.reduceBEq, Bool.or_true, Bool.true_or, Bool.or_false, Bool.false_or, Bool.not_true, Bool.not_false, true_and, and_true, rowA_whole, push_n, set_n, push_obj, set_obj, set_push, set_push_ne, set_set, Nat.add_assoc, Nat.left_eq_add, Nat.add_eq_left, Nat.add_left_cancel_iff, Nat.reduceEqDiff, stO_1s, stO_ws, boxA_s, one_bool, one_int, one_str, one_ptr, one_nilptr, one_slice, one_eslice, one_nilslice, one_func, one_iface, one_niliface, List.all_cons, List.all_nil, List.length_cons, List.length_nil, Nat.reduceLT, Nat.reduceEqDiff, Nat.reduceLeDiff, Bool.and_true, Nat.one_ne_zero, Nat.succ_ne_zero, reduceIte, if_false, List.getElem?_cons_zero, List.set_cons_zero, List.set_cons_succ]
    rw [hdef]
    exact ⟨_, rfl, Own.nil, e_g0.set _ (Nat.le_refl _) _⟩
  rw [if_neg c3] at hdef
  have c3' : bs.getD 2 0 = 1 := by simpa using c3
  have d5 : decide (((bs.getD 2 0).toNat : Int) = 1) = true := decide_eq_true (by rw [c3']; rfl)
  have hnl : (repAt bs).nm.length ≤ 1048576 := by rw [hnm, List.length_drop, List.length_take]; omega
  refine vc_split 6 (fun e g => okName (repAt bs).nm = true ∧ e 0 = v ∧ e 2 = .ptr h.n 0 0 ∧ e 4 = .str (repAt bs).nm ∧ e 5 = .int .i64 ((9 + repM bs : Nat) : Int) ∧ At g h.n (IObj.rows [[IV.int .i64 0, IV.int .i64 0, IV.int .i64 0, IV.str [], IV.nilslice]] 44 5 false) ∧ SlR g 1 v (strRows bs) ∧ Ext h g) ?_ ?_
  · simp only [CC.split]
    simp only [go_sem, Hold.p, HoldK.k, HoldL.K, HoldL.body, Nat.reduceBEq, Nat.reduceAdd, List.getElem?_cons_zero, List.getElem?_cons_succ, Option.bind_some, List.map_cons, List.map_nil, Nat.zero_add, if_true, List.getD_cons_zero, List.getD_cons_succ, List.contains_cons, List.contains_nil, Nat.reduceBEq, Bool.or_true, Bool.true_or, Bool.or_false, Bool.false_or, Bool.not_true, Bool.not_false, true_and, and_true, rowA_whole, push_n, set_n, push_obj, set_obj, set_push, set_push_ne, set_set, Nat.add_assoc, Nat.left_eq_add, Nat.add_eq_left, Nat.add_left_cancel_iff, Nat.reduceEqDiff, stO_1s, stO_ws, boxA_s, one_bool, one_int, one_str, one_ptr, one_nilptr, one_slice, one_eslice, one_nilslice, one_func, one_iface, one_niliface, List.all_cons, List.all_nil, List.length_cons, List.length_nil, Nat.reduceLT, Nat.reduceEqDiff, Nat.reduceLeDiff, Bool.and_true, Nat.one_ne_zero, Nat.succ_ne_zero, reduceIte, if_false, List.getElem?_cons_zero, List.set_cons_zero, List.set_cons_succ]
    generalize hq_g0 : IH.push h (IObj.rows [[IV.int .i64 0, IV.int .i64 0, IV.int .i64 0, IV.str [], IV.nilslice]] 44 5 false) = g0
    have e_g0 : Ext h g0 := by rw [← hq_g0]; exact (Ext.refl _).push _
    have l_g0 : g0.n = h.n + 1 := by rw [← hq_g0]; rfl
    have bb : At g0 h.n (IObj.rows [[IV.int .i64 0, IV.int .i64 0, IV.int .i64 0, IV.str [], IV.nilslice]] 44 5 false) := by rw [← hq_g0]; exact At.new _ _
    clear hq_g0
    have hs := hs.ext e_g0
    refine callA_of (l19Text_c g0 v bs 8 hs hl (by omega)) ?_
    rintro r g ⟨rfl, rfl⟩
    rw [e1]
    obtain ⟨l, j, hia, hll, hrow⟩ := hs.at (m := 9 + repM bs) (strRows_at hkp) .i64
    have hc := cellO_row hrow
    rw [hcd] at hc
    obtain ⟨l2, j2, hia2, hll2, hrow2⟩ := hs.at (m := 2) (strRows_at hk2) .i64
    have hc2 := cellO_row hrow2
    have hia2 : iadrF g 1 v (.int .i64 2) = some (.ptr l2 j2 0) := hia2
    simp only [d1, d2, hlen, w1, hia, hc, w2, w3, w4, d3, d4, hia2, hc2, d5, bb.eq, lay_nil, lay_1, lay_w, Option.map_some, go_sem, Hold.p, HoldK.k, HoldL.K, HoldL.body, Nat.reduceBEq, Nat.reduceAdd, List.getElem?_cons_zero, List.getElem?_cons_succ, Option.bind_some, List.map_cons, List.map_nil, Nat.zero_add, if_true, List.getD_cons_zero, List.getD_cons_succ, List.contains_cons, List.contains_nil, Nat.reduceBEq, Bool.or_true, Bool.true_or, Bool.or_false, Bool.false_or, Bool.not_true, Bool.not_false, true_and, and_true, rowA_whole, push_n, set_n, push_obj, set_obj, set_push, set_push_ne, set_set, Nat.add_assoc, Nat.left_eq_add, Nat.add_eq_left, Nat.add_left_cancel_iff, Nat.reduceEqDiff, stO_1s, stO_ws, boxA_s, one_bool, one_int, one_str, one_ptr, one_nilptr, one_slice, one_eslice, one_nilslice, one_func, one_iface, one_niliface, List.all_cons, List.all_nil, List.length_cons, List.length_nil, Nat.reduceLT, Nat.reduceEqDiff, Nat.reduceLeDiff, Bool.and_true, Nat.one_ne_zero, Nat.succ_ne_zero, reduceIte, if_false, List.getElem?_cons_zero, List.set_cons_zero, List.set_cons_succ]
    rw [← hnm]
    refine callA_of (specNameOK_c g _ hnl) ?_
    rintro r h1 ⟨rfl, E1⟩
    have bb := bb.ext E1
    have hs := hs.ext E1
    have le_E1 := E1.le
    have E := e_g0.trans E1
    cases c4 : okName (repAt bs).nm
    · rw [c4, if_pos rfl] at hdef
      simp only [c4, bb.eq, lay_nil, lay_1, lay_w, Option.map_some, go_sem, Hold.p, HoldK.k, HoldL.K, HoldL.body, Nat.reduceBEq, Nat.reduceAdd, List.getElem?_cons_zero, List.getElem?_cons_succ, Option.bind_some, List.map_cons, List.map_nil, Nat.zero_add, if_true, List.getD_cons_zero, List.getD_cons_succ, List.contains_cons, List.contains_nil, Nat.reduceBEq, Bool.or_true, Bool.true_or, Bool.or_false, Bool.false_or, Bool.not_true, Bool.not_false, true_and, and_true, rowA_whole, push_n, set_n, push_obj, set_obj, set_push, set_push_ne, set_set, Nat.add_assoc, Nat.left_eq_add, Nat.add_eq_left, Nat.add_left_cancel_iff, Nat.reduceEqDiff, stO_1s, stO_ws, boxA_s, one_bool, one_int, one_str, one_ptr, one_nilptr, one_slice, one_eslice, one_nilslice, one_func, one_iface, one_niliface, List.all_cons, List.all_nil, List.length_cons, List.length_nil, Nat.reduceLT, Nat.reduceEqDiff, Nat.reduceLeDiff, Bool.and_true, Nat.one_ne_zero, Nat.succ_ne_zero, reduceIte, if_false, List.getElem?_cons_zero, List.set_cons_zero, List.set_cons_succ]
      rw [hdef]
      exact ⟨_, rfl, Own.nil, E.set _ (Nat.le_refl _) _⟩
    · simp only [c4, bb.eq, lay_nil, lay_1, lay_w, Option.map_some, go_sem, Hold.p, HoldK.k, HoldL.K, HoldL.body, Nat.reduceBEq, Nat.reduceAdd, List.getElem?_cons_zero, List.getElem?_cons_succ, Option.bind_some, List.map_cons, List.map_nil, Nat.zero_add, if_true, List.getD_cons_zero, List.getD_cons_succ, List.contains_cons, List.contains_nil, Nat.reduceBEq, Bool.or_true, Bool.true_or, Bool.or_false, Bool.false_or, Bool.not_true, Bool.not_false, true_and, and_true, rowA_whole, push_n, set_n, push_obj, set_obj, set_push, set_push_ne, set_set, Nat.add_assoc, Nat.left_eq_add, Nat.add_eq_left, Nat.add_left_cancel_iff, Nat.reduceEqDiff, stO_1s, stO_ws, boxA_s, one_bool, one_int, one_str, one_ptr, one_nilptr, one_slice, one_eslice, one_nilslice, one_func, one_iface, one_niliface, List.all_cons, List.all_nil, List.length_cons, List.length_nil, Nat.reduceLT, Nat.reduceEqDiff, Nat.reduceLeDiff, Bool.and_true, Nat.one_ne_zero, Nat.succ_ne_zero, reduceIte, if_false, List.getElem?_cons_zero, List.set_cons_zero, List.set_cons_succ]
      exact ⟨bb, hs, E⟩
  simp only [CC.split]
  rintro e g ⟨c4, i0, i2, i4, i5, bb, hs, E⟩
  have lb := bb.lt
  rw [c4, if_neg (by decide)] at hdef
  refine vc_cut (fun e g' => ∃ q, g.n = q ∧ e 0 = v ∧ e 2 = .ptr h.n 0 0 ∧ e 5 = .int .i64 ((9 + repM bs : Nat) : Int) ∧ e 6 = .ptr q 0 0 ∧ At g' q (IObj.rows [[IV.int .i64 (repAt bs).id, IV.int .i64 (repAt bs).code, IV.int .i64 (repAt bs).ttl, IV.str (repAt bs).nm, IV.nilslice]] 44 5 false) ∧ g'.n = q + 1 ∧ Ext g g') ?_ ?_
  · obtain ⟨v1, hv1, hs1⟩ := hs.hi (b := 2) (q := .i64) (by rw [strRows_len]; omega)
    rw [strRows_take] at hs1
    have hv1 : slcF g 1 v none (some (.int .i64 2)) = some v1 := hv1
    obtain ⟨v2, hv2, hs2⟩ := hs.lohi (a := 4) (b := 8) (q := .i64) (q' := .i64) (by omega) (by rw [strRows_len]; omega)
    rw [strRows_take, strRows_drop] at hs2
    have hv2 : slcF g 1 v (some (.int .i64 4)) (some (.int .i64 8)) = some v2 := hv2
    have hk3 := getD_at (bs := bs) (k := 3) (by omega)
    obtain ⟨l3, j3, hia3, hll3, hrow3⟩ := hs.at (m := 3) (strRows_at hk3) .i64
    have hc3 := cellO_row hrow3
    have hia3 : iadrF g 1 v (.int .i64 3) = some (.ptr l3 j3 0) := hia3
    have hb3 := (bs.getD 3 0).toNat_lt
    have w5 : wr .i64 (((bs.getD 3 0).toNat : Nat) : Int) = (((bs.getD 3 0).toNat : Nat) : Int) := wr64 _ (by omega)
    simp only [i0, i2, i4, i5, hv1, hv2, hia3, hc3, w5, Option.map_some, Option.map_none, lay_nil, lay_1, lay_w, Option.map_some, go_sem, Hold.p, HoldK.k, HoldL.K, HoldL.body, Nat.reduceBEq, Nat.reduceAdd, List.getElem?_cons_zero, List.getElem?_cons_succ, Option.bind_some, List.map_cons, List.map_nil, Nat.zero_add, if_true, List.getD_cons_zero, List.getD_cons_succ, List.contains_cons, List.contains_nil, Nat.reduceBEq, Bool.or_true, Bool.true_or, Bool.or_false, Bool.false_or, Bool.not_true, Bool.not_false, true_and, and_true, rowA_whole, push_n, set_n, push_obj, set_obj, set_push, set_push_ne, set_set, Nat.add_assoc, Nat.left_eq_add, Nat.add_eq_left, Nat.add_left_cancel_iff, Nat.reduceEqDiff, stO_1s, stO_ws, boxA_s, one_bool, one_int, one_str, one_ptr, one_nilptr, one_slice, one_eslice, one_nilslice, one_func, one_iface, one_niliface, List.all_cons, List.all_nil, List.length_cons, List.length_nil, Nat.reduceLT, Nat.reduceEqDiff, Nat.reduceLeDiff, Bool.and_true, Nat.one_ne_zero, Nat.succ_ne_zero, reduceIte, if_false, List.getElem?_cons_zero, List.set_cons_zero, List.set_cons_succ]
    have e0 : Ext g (g.push (IObj.rows [[IV.int .i64 0, IV.int .i64 0, IV.int .i64 0, IV.str [], IV.nilslice]] 44 5 false)) := (Ext.refl _).push _
    have hv1g := (slcF_ext hs e0 none (some (.int .i64 2))).trans hv1
    have hv2g := (slcF_ext hs e0 (some (.int .i64 4)) (some (.int .i64 8))).trans hv2
    have hia3g := (iadrF_ext hs e0 (.int .i64 3)).trans hia3
    have n3 : (l3 = g.n) = False := by simp; omega
    refine either_of ?_ ?_
    · try simp only [i0, i2, i4, i5, hv1, hv2, hia3, hc3, w5, Option.map_some, Option.map_none, lay_nil, lay_1, lay_w, Option.map_some, go_sem, Hold.p, HoldK.k, HoldL.K, HoldL.body, Nat.reduceBEq, Nat.reduceAdd, List.getElem?_cons_zero, List.getElem?_cons_succ, Option.bind_some, List.map_cons, List.map_nil, Nat.zero_add, if_true, List.getD_cons_zero, List.getD_cons_succ, List.contains_cons, List.contains_nil, Nat.reduceBEq, Bool.or_true, Bool.true_or, Bool.or_false, Bool.false_or, Bool.not_true, Bool.not_false, true_and, and_true, rowA_whole, push_n, set_n, push_obj, set_obj, set_push, set_push_ne, set_set, Nat.add_assoc, Nat.left_eq_add, Nat.add_eq_left, Nat.add_left_cancel_iff, Nat.reduceEqDiff, stO_1s, stO_ws, boxA_s, one_bool, one_int, one_str, one_ptr, one_nilptr, one_slice, one_eslice, one_nilslice, one_func, one_iface, one_niliface, List.all_cons, List.all_nil, List.length_cons, List.length_nil, Nat.reduceLT, Nat.reduceEqDiff, Nat.reduceLeDiff, Bool.and_true, Nat.one_ne_zero, Nat.succ_ne_zero, reduceIte, if_false, List.getElem?_cons_zero, List.set_cons_zero, List.set_cons_succ]
      refine callA_of (l03Num_c g v1 _ hs1 (by simp; omega)) ?_
      rintro r g2 ⟨rfl, rfl⟩
      simp only [i0, i2, i4, i5, hv1, hv2, hia3, hc3, w5, Option.map_some, Option.map_none, lay_nil, lay_1, lay_w, Option.map_some, go_sem, Hold.p, HoldK.k, HoldL.K, HoldL.body, Nat.reduceBEq, Nat.reduceAdd, List.getElem?_cons_zero, List.getElem?_cons_succ, Option.bind_some, List.map_cons, List.map_nil, Nat.zero_add, if_true, List.getD_cons_zero, List.getD_cons_succ, List.contains_cons, List.contains_nil, Nat.reduceBEq, Bool.or_true, Bool.true_or, Bool.or_false, Bool.false_or, Bool.not_true, Bool.not_false, true_and, and_true, rowA_whole, push_n, set_n, push_obj, set_obj, set_push, set_push_ne, set_set, Nat.add_assoc, Nat.left_eq_add, Nat.add_eq_left, Nat.add_left_cancel_iff, Nat.reduceEqDiff, stO_1s, stO_ws, boxA_s, one_bool, one_int, one_str, one_ptr, one_nilptr, one_slice, one_eslice, one_nilslice, one_func, one_iface, one_niliface, List.all_cons, List.all_nil, List.length_cons, List.length_nil, Nat.reduceLT, Nat.reduceEqDiff, Nat.reduceLeDiff, Bool.and_true, Nat.one_ne_zero, Nat.succ_ne_zero, reduceIte, if_false, List.getElem?_cons_zero, List.set_cons_zero, List.set_cons_succ]
      refine either_of ?_ ?_
      · simp only [i0, i2, i4, i5, hv1, hv2, hia3, hc3, w5, Option.map_some, Option.map_none, lay_nil, lay_1, lay_w, Option.map_some, go_sem, Hold.p, HoldK.k, HoldL.K, HoldL.body, Nat.reduceBEq, Nat.reduceAdd, List.getElem?_cons_zero, List.getElem?_cons_succ, Option.bind_some, List.map_cons, List.map_nil, Nat.zero_add, if_true, List.getD_cons_zero, List.getD_cons_succ, List.contains_cons, List.contains_nil, Nat.reduceBEq, Bool.or_true, Bool.true_or, Bool.or_false, Bool.false_or, Bool.not_true, Bool.not_false, true_and, and_true, rowA_whole, push_n, set_n, push_obj, set_obj, set_push, set_push_ne, set_set, Nat.add_assoc, Nat.left_eq_add, Nat.add_eq_left, Nat.add_left_cancel_iff, Nat.reduceEqDiff, stO_1s, stO_ws, boxA_s, one_bool, one_int, one_str, one_ptr, one_nilptr, one_slice, one_eslice, one_nilslice, one_func, one_iface, one_niliface, List.all_cons, List.all_nil, List.length_cons, List.length_nil, Nat.reduceLT, Nat.reduceEqDiff, Nat.reduceLeDiff, Bool.and_true, Nat.one_ne_zero, Nat.succ_ne_zero, reduceIte, if_false, List.getElem?_cons_zero, List.set_cons_zero, List.set_cons_succ]
        refine callA_of (l03Num_c _ v2 _ hs2 (by simp; omega)) ?_
        rintro r g2 ⟨rfl, rfl⟩
        simp only [i0, i2, i4, i5, hv1, hv2, hv1g, hv2g, hia3g, n3, hia3, hc3, w5, Option.map_some, Option.map_none, lay_nil, lay_1, lay_w, Option.map_some, go_sem, Hold.p, HoldK.k, HoldL.K, HoldL.body, Nat.reduceBEq, Nat.reduceAdd, List.getElem?_cons_zero, List.getElem?_cons_succ, Option.bind_some, List.map_cons, List.map_nil, Nat.zero_add, if_true, List.getD_cons_zero, List.getD_cons_succ, List.contains_cons, List.contains_nil, Nat.reduceBEq, Bool.or_true, Bool.true_or, Bool.or_false, Bool.false_or, Bool.not_true, Bool.not_false, true_and, and_true, rowA_whole, push_n, set_n, push_obj, set_obj, set_push, set_push_ne, set_set, Nat.add_assoc, Nat.left_eq_add, Nat.add_eq_left, Nat.add_left_cancel_iff, Nat.reduceEqDiff, stO_1s, stO_ws, boxA_s, one_bool, one_int, one_str, one_ptr, one_nilptr, one_slice, one_eslice, one_nilslice, one_func, one_iface, one_niliface, List.all_cons, List.all_nil, List.length_cons, List.length_nil, Nat.reduceLT, Nat.reduceEqDiff, Nat.reduceLeDiff, Bool.and_true, Nat.one_ne_zero, Nat.succ_ne_zero, reduceIte, if_false, List.getElem?_cons_zero, List.set_cons_zero, List.set_cons_succ]
        exact ⟨_, rfl, rfl, At.new _ _, rfl, (Ext.refl _).push _⟩
      · simp only [i0, i2, i4, i5, hv1, hv2, hv1g, hv2g, hia3g, n3, hia3, hc3, w5, Option.map_some, Option.map_none, lay_nil, lay_1, lay_w, Option.map_some, go_sem, Hold.p, HoldK.k, HoldL.K, HoldL.body, Nat.reduceBEq, Nat.reduceAdd, List.getElem?_cons_zero, List.getElem?_cons_succ, Option.bind_some, List.map_cons, List.map_nil, Nat.zero_add, if_true, List.getD_cons_zero, List.getD_cons_succ, List.contains_cons, List.contains_nil, Nat.reduceBEq, Bool.or_true, Bool.true_or, Bool.or_false, Bool.false_or, Bool.not_true, Bool.not_false, true_and, and_true, rowA_whole, push_n, set_n, push_obj, set_obj, set_push, set_push_ne, set_set, Nat.add_assoc, Nat.left_eq_add, Nat.add_eq_left, Nat.add_left_cancel_iff, Nat.reduceEqDiff, stO_1s, stO_ws, boxA_s, one_bool, one_int, one_str, one_ptr, one_nilptr, one_slice, one_eslice, one_nilslice, one_func, one_iface, one_niliface, List.all_cons, List.all_nil, List.length_cons, List.length_nil, Nat.reduceLT, Nat.reduceEqDiff, Nat.reduceLeDiff, Bool.and_true, Nat.one_ne_zero, Nat.succ_ne_zero, reduceIte, if_false, List.getElem?_cons_zero, List.set_cons_zero, List.set_cons_succ]
        refine callA_of (l03Num_c _ v2 _ (hs2.ext e0) (by simp; omega)) ?_
        rintro r g3 ⟨rfl, rfl⟩
        simp only [i0, i2, i4, i5, hv1, hv2, hv1g, hv2g, hia3g, n3, hia3, hc3, w5, Option.map_some, Option.map_none, lay_nil, lay_1, lay_w, Option.map_some, go_sem, Hold.p, HoldK.k, HoldL.K, HoldL.body, Nat.reduceBEq, Nat.reduceAdd, List.getElem?_cons_zero, List.getElem?_cons_succ, Option.bind_some, List.map_cons, List.map_nil, Nat.zero_add, if_true, List.getD_cons_zero, List.getD_cons_succ, List.contains_cons, List.contains_nil, Nat.reduceBEq, Bool.or_true, Bool.true_or, Bool.or_false, Bool.false_or, Bool.not_true, Bool.not_false, true_and, and_true, rowA_whole, push_n, set_n, push_obj, set_obj, set_push, set_push_ne, set_set, Nat.add_assoc, Nat.left_eq_add, Nat.add_eq_left, Nat.add_left_cancel_iff, Nat.reduceEqDiff, stO_1s, stO_ws, boxA_s, one_bool, one_int, one_str, one_ptr, one_nilptr, one_slice, one_eslice, one_nilslice, one_func, one_iface, one_niliface, List.all_cons, List.all_nil, List.length_cons, List.length_nil, Nat.reduceLT, Nat.reduceEqDiff, Nat.reduceLeDiff, Bool.and_true, Nat.one_ne_zero, Nat.succ_ne_zero, reduceIte, if_false, List.getElem?_cons_zero, List.set_cons_zero, List.set_cons_succ]
        exact ⟨_, rfl, rfl, At.new _ _, rfl, (Ext.refl _).push _⟩
    · simp only [i0, i2, i4, i5, hv1, hv2, hv1g, hv2g, hia3g, n3, hia3, hc3, w5, Option.map_some, Option.map_none, lay_nil, lay_1, lay_w, Option.map_some, go_sem, Hold.p, HoldK.k, HoldL.K, HoldL.body, Nat.reduceBEq, Nat.reduceAdd, List.getElem?_cons_zero, List.getElem?_cons_succ, Option.bind_some, List.map_cons, List.map_nil, Nat.zero_add, if_true, List.getD_cons_zero, List.getD_cons_succ, List.contains_cons, List.contains_nil, Nat.reduceBEq, Bool.or_true, Bool.true_or, Bool.or_false, Bool.false_or, Bool.not_true, Bool.not_false, true_and, and_true, rowA_whole, push_n, set_n, push_obj, set_obj, set_push, set_push_ne, set_set, Nat.add_assoc, Nat.left_eq_add, Nat.add_eq_left, Nat.add_left_cancel_iff, Nat.reduceEqDiff, stO_1s, stO_ws, boxA_s, one_bool, one_int, one_str, one_ptr, one_nilptr, one_slice, one_eslice, one_nilslice, one_func, one_iface, one_niliface, List.all_cons, List.all_nil, List.length_cons, List.length_nil, Nat.reduceLT, Nat.reduceEqDiff, Nat.reduceLeDiff, Bool.and_true, Nat.one_ne_zero, Nat.succ_ne_zero, reduceIte, if_false, List.getElem?_cons_zero, List.set_cons_zero, List.set_cons_succ]
      refine callA_of (l03Num_c _ v1 _ (hs1.ext e0) (by simp; omega)) ?_
      rintro r g2 ⟨rfl, rfl⟩
      simp only [i0, i2, i4, i5, hv1, hv2, hv1g, hv2g, hia3g, n3, hia3, hc3, w5, Option.map_some, Option.map_none, lay_nil, lay_1, lay_w, Option.map_some, go_sem, Hold.p, HoldK.k, HoldL.K, HoldL.body, Nat.reduceBEq, Nat.reduceAdd, List.getElem?_cons_zero, List.getElem?_cons_succ, Option.bind_some, List.map_cons, List.map_nil, Nat.zero_add, if_true, List.getD_cons_zero, List.getD_cons_succ, List.contains_cons, List.contains_nil, Nat.reduceBEq, Bool.or_true, Bool.true_or, Bool.or_false, Bool.false_or, Bool.not_true, Bool.not_false, true_and, and_true, rowA_whole, push_n, set_n, push_obj, set_obj, set_push, set_push_ne, set_set, Nat.add_assoc, Nat.left_eq_add, Nat.add_eq_left, Nat.add_left_cancel_iff, Nat.reduceEqDiff, stO_1s, stO_ws, boxA_s, one_bool, one_int, one_str, one_ptr, one_nilptr, one_slice, one_eslice, one_nilslice, one_func, one_iface, one_niliface, List.all_cons, List.all_nil, List.length_cons, List.length_nil, Nat.reduceLT, Nat.reduceEqDiff, Nat.reduceLeDiff, Bool.and_true, Nat.one_ne_zero, Nat.succ_ne_zero, reduceIte, if_false, List.getElem?_cons_zero, List.set_cons_zero, List.set_cons_succ]
      refine callA_of (l03Num_c _ v2 _ (hs2.ext e0) (by simp; omega)) ?_
      rintro r g3 ⟨rfl, rfl⟩
      simp only [i0, i2, i4, i5, hv1, hv2, hv1g, hv2g, hia3g, n3, hia3, hc3, w5, Option.map_some, Option.map_none, lay_nil, lay_1, lay_w, Option.map_some, go_sem, Hold.p, HoldK.k, HoldL.K, HoldL.body, Nat.reduceBEq, Nat.reduceAdd, List.getElem?_cons_zero, List.getElem?_cons_succ, Option.bind_some, List.map_cons, List.map_nil, Nat.zero_add, if_true, List.getD_cons_zero, List.getD_cons_succ, List.contains_cons, List.contains_nil, Nat.reduceBEq, Bool.or_true, Bool.true_or, Bool.or_false, Bool.false_or, Bool.not_true, Bool.not_false, true_and, and_true, rowA_whole, push_n, set_n, push_obj, set_obj, set_push, set_push_ne, set_set, Nat.add_assoc, Nat.left_eq_add, Nat.add_eq_left, Nat.add_left_cancel_iff, Nat.reduceEqDiff, stO_1s, stO_ws, boxA_s, one_bool, one_int, one_str, one_ptr, one_nilptr, one_slice, one_eslice, one_nilslice, one_func, one_iface, one_niliface, List.all_cons, List.all_nil, List.length_cons, List.length_nil, Nat.reduceLT, Nat.reduceEqDiff, Nat.reduceLeDiff, Bool.and_true, Nat.one_ne_zero, Nat.succ_ne_zero, reduceIte, if_false, List.getElem?_cons_zero, List.set_cons_zero, List.set_cons_succ]
      exact ⟨_, rfl, rfl, At.new _ _, rfl, (Ext.refl _).push _⟩
  clear i0 i2 i4 i5
  rintro e g1 ⟨q, hgq, i0, i2, i5, i6, bq, l1, E1⟩
  have RD : decR bs = if (repAt bs).ok = true then (repAt bs, 0) else (.zero, 1) := hdef
  have hzz : (repAt bs).zs = wordsAt bs (10 + repM bs) (repC bs) := rfl
  have hsB := hs
  have bbB := bb
  have hs1 := hsB.ext E1
  obtain ⟨st, hst⟩ : ∃ st, st = 10 + repM bs := ⟨_, rfl⟩
  rw [← hst] at w1 hzz
  rw [← hst] at ht c0
  have loopI : True := trivial
  simp only [i5, w1, go_sem, Hold.p, HoldK.k, HoldL.K, HoldL.body, Nat.reduceBEq, Nat.reduceAdd, List.getElem?_cons_zero, List.getElem?_cons_succ, Option.bind_some, List.map_cons, List.map_nil, Nat.zero_add, if_true, List.getD_cons_zero, List.getD_cons_succ, List.contains_cons, List.contains_nil, Nat.reduceBEq, Bool.or_true, Bool.true_or, Bool.or_false, Bool.false_or, Bool.not_true, Bool.not_false, true_and, and_true, rowA_whole, push_n, set_n, push_obj, set_obj, set_push, set_push_ne, set_set, Nat.add_assoc, Nat.left_eq_add, Nat.add_eq_left, Nat.add_left_cancel_iff, Nat.reduceEqDiff, stO_1s, stO_ws, boxA_s, one_bool, one_int, one_str, one_ptr, one_nilptr, one_slice, one_eslice, one_nilslice, one_func, one_iface, one_niliface, List.all_cons, List.all_nil, List.length_cons, List.length_nil, Nat.reduceLT, Nat.reduceEqDiff, Nat.reduceLeDiff, Bool.and_true, Nat.one_ne_zero, Nat.succ_ne_zero, reduceIte, if_false, List.getElem?_cons_zero, List.set_cons_zero, List.set_cons_succ]
  refine loop_at (fun n e g' => ∃ (k : Nat) (vz : IV) (lo hi : Nat), n = repC bs - k ∧ k ≤ repC bs ∧ e 0 = v ∧ e 2 = .ptr h.n 0 0 ∧ e 6 = .ptr q 0 0 ∧ e 7 = .int .i64 ((st + 4 * k : Nat) : Int) ∧ At g' q (IObj.rows [[IV.int .i64 (repAt bs).id, IV.int .i64 (repAt bs).code, IV.int .i64 (repAt bs).ttl, IV.str (repAt bs).nm, vz]] 44 5 false) ∧ Own lo hi g' 2 1 vz (intRows (wordsAt bs st k)) ∧ q < lo ∧ hi ≤ g'.n ∧ Ext g g') (repC bs) ?_ ?_
  · refine ⟨0, .nilslice, q + 1, q + 1, by omega, by omega, ?_⟩
    simp only [i0, i2, i6, go_sem, Hold.p, HoldK.k, HoldL.K, HoldL.body, Nat.reduceBEq, Nat.reduceAdd, List.getElem?_cons_zero, List.getElem?_cons_succ, Option.bind_some, List.map_cons, List.map_nil, Nat.zero_add, if_true, List.getD_cons_zero, List.getD_cons_succ, List.contains_cons, List.contains_nil, Nat.reduceBEq, Bool.or_true, Bool.true_or, Bool.or_false, Bool.false_or, Bool.not_true, Bool.not_false, true_and, and_true, rowA_whole, push_n, set_n, push_obj, set_obj, set_push, set_push_ne, set_set, Nat.add_assoc, Nat.left_eq_add, Nat.add_eq_left, Nat.add_left_cancel_iff, Nat.reduceEqDiff, stO_1s, stO_ws, boxA_s, one_bool, one_int, one_str, one_ptr, one_nilptr, one_slice, one_eslice, one_nilslice, one_func, one_iface, one_niliface, List.all_cons, List.all_nil, List.length_cons, List.length_nil, Nat.reduceLT, Nat.reduceEqDiff, Nat.reduceLeDiff, Bool.and_true, Nat.one_ne_zero, Nat.succ_ne_zero, reduceIte, if_false, List.getElem?_cons_zero, List.set_cons_zero, List.set_cons_succ]
    exact ⟨rfl, bq, Own.nil, Nat.lt_succ_self _, by omega, E1⟩
  · clear i0 i2 i5 i6 bq l1 E1 hs1
    rintro n e g' ⟨k, vz, lo, hi, rfl, hk, i0, i2, i6, i7, bq, oz, hlo, hhi, E1⟩
    have hs1 := hsB.ext E1
    have bb := bbB.ext E1
    have lg := E1.le
    have lq := bq.lt
    simp only [i0, i2, i6, i7, hlen, bb.eq, bq.eq, go_sem, Hold.p, HoldK.k, HoldL.K, HoldL.body, Nat.reduceBEq, Nat.reduceAdd, List.getElem?_cons_zero, List.getElem?_cons_succ, Option.bind_some, List.map_cons, List.map_nil, Nat.zero_add, if_true, List.getD_cons_zero, List.getD_cons_succ, List.contains_cons, List.contains_nil, Nat.reduceBEq, Bool.or_true, Bool.true_or, Bool.or_false, Bool.false_or, Bool.not_true, Bool.not_false, true_and, and_true, rowA_whole, push_n, set_n, push_obj, set_obj, set_push, set_push_ne, set_set, Nat.add_assoc, Nat.left_eq_add, Nat.add_eq_left, Nat.add_left_cancel_iff, Nat.reduceEqDiff, stO_1s, stO_ws, boxA_s, one_bool, one_int, one_str, one_ptr, one_nilptr, one_slice, one_eslice, one_nilslice, one_func, one_iface, one_niliface, List.all_cons, List.all_nil, List.length_cons, List.length_nil, Nat.reduceLT, Nat.reduceEqDiff, Nat.reduceLeDiff, Bool.and_true, Nat.one_ne_zero, Nat.succ_ne_zero, reduceIte, if_false, List.getElem?_cons_zero, List.set_cons_zero, List.set_cons_succ]
    refine test_dec (fun hb => ?_) (fun hb => ?_)
    · have hlt : k < repC bs := by omega
      have w6 : wr .i64 (((st + 4 * k : Nat) : Int) + 4) = ((st + 4 * k + 4 : Nat) : Int) := by rw [wr64 _ (by omega)]; omega
      obtain ⟨a0, ha0⟩ : ∃ a, a = st + 4 * k := ⟨_, rfl⟩
      obtain ⟨a4, ha4⟩ : ∃ a, a = st + 4 * k + 4 := ⟨_, rfl⟩
      rw [← ha4, ← ha0] at w6
      rw [← ha0] at i7
      obtain ⟨v1, hv1, hs2⟩ := hs1.lohi (a := a0) (b := a4) (q := .i64) (q' := .i64) (by omega) (by rw [strRows_len]; omega)
      rw [strRows_take, strRows_drop] at hs2
      have hvg := (slcF_ext hsB E1 (some (.int .i64 a0)) (some (.int .i64 a4))).symm.trans hv1
      simp only [i0, i2, i6, i7, hlen, bb.eq, bq.eq, w6, hv1, Option.map_some, Option.map_none, go_sem, Hold.p, HoldK.k, HoldL.K, HoldL.body, Nat.reduceBEq, Nat.reduceAdd, List.getElem?_cons_zero, List.getElem?_cons_succ, Option.bind_some, List.map_cons, List.map_nil, Nat.zero_add, if_true, List.getD_cons_zero, List.getD_cons_succ, List.contains_cons, List.contains_nil, Nat.reduceBEq, Bool.or_true, Bool.true_or, Bool.or_false, Bool.false_or, Bool.not_true, Bool.not_false, true_and, and_true, rowA_whole, push_n, set_n, push_obj, set_obj, set_push, set_push_ne, set_set, Nat.add_assoc, Nat.left_eq_add, Nat.add_eq_left, Nat.add_left_cancel_iff, Nat.reduceEqDiff, stO_1s, stO_ws, boxA_s, one_bool, one_int, one_str, one_ptr, one_nilptr, one_slice, one_eslice, one_nilslice, one_func, one_iface, one_niliface, List.all_cons, List.all_nil, List.length_cons, List.length_nil, Nat.reduceLT, Nat.reduceEqDiff, Nat.reduceLeDiff, Bool.and_true, Nat.one_ne_zero, Nat.succ_ne_zero, reduceIte, if_false, List.getElem?_cons_zero, List.set_cons_zero, List.set_cons_succ]
      refine callA_of (l03Num_c _ v1 _ hs2 (by simp; omega)) ?_
      rintro r g2 ⟨rfl, rfl⟩
      generalize hnum : numB ((bs.take a4).drop a0) = num
      have nq : (q = g2.n) = False := by simp; omega
      have hvp := (slcF_ext hs1 ((Ext.refl g2).push (IObj.rows [[IV.int .i64 num]] 2 1 false)) (some (.int .i64 a0)) (some (.int .i64 a4))).trans hv1
      simp only [i0, i2, i6, i7, hlen, bb.eq, bq.eq, w6, hv1, hvp, nq, bslA_1, Option.map_some, Option.map_none, go_sem, Hold.p, HoldK.k, HoldL.K, HoldL.body, Nat.reduceBEq, Nat.reduceAdd, List.getElem?_cons_zero, List.getElem?_cons_succ, Option.bind_some, List.map_cons, List.map_nil, Nat.zero_add, if_true, List.getD_cons_zero, List.getD_cons_succ, List.contains_cons, List.contains_nil, Nat.reduceBEq, Bool.or_true, Bool.true_or, Bool.or_false, Bool.false_or, Bool.not_true, Bool.not_false, true_and, and_true, rowA_whole, push_n, set_n, push_obj, set_obj, set_push, set_push_ne, set_set, Nat.add_assoc, Nat.left_eq_add, Nat.add_eq_left, Nat.add_left_cancel_iff, Nat.reduceEqDiff, stO_1s, stO_ws, boxA_s, one_bool, one_int, one_str, one_ptr, one_nilptr, one_slice, one_eslice, one_nilslice, one_func, one_iface, one_niliface, List.all_cons, List.all_nil, List.length_cons, List.length_nil, Nat.reduceLT, Nat.reduceEqDiff, Nat.reduceLeDiff, Bool.and_true, Nat.one_ne_zero, Nat.succ_ne_zero, reduceIte, if_false, List.getElem?_cons_zero, List.set_cons_zero, List.set_cons_succ]
      generalize hq_g3 : IH.push g2 (IObj.rows [[IV.int .i64 num]] 2 1 false) = g3
      have e_g3 : Ext g2 g3 := by rw [← hq_g3]; exact (Ext.refl _).push _
      have l_g3 : g3.n = g2.n + 1 := by rw [← hq_g3]; rfl
      have bw : At g3 g2.n (IObj.rows [[IV.int .i64 num]] 2 1 false) := by rw [← hq_g3]; exact At.new _ _
      clear hq_g3
      have bq := bq.ext e_g3
      have oz := oz.ext e_g3
      have E1 := E1.ext e_g3
      refine oz.app (by simp) (by rw [intRows_len, wordsAt_len]; simp; omega) ?_
      intro v6 h6 o6 t6 n6 v6o v6c
      have bq := bq.turn oz (by omega) t6
      have E1 := E1.turn oz (by omega) t6
      have le_t6 := t6.le
      have hv6 := (slcF_ext hsB E1 (some (.int .i64 a0)) (some (.int .i64 a4))).trans hvg
      have o7 : Own g3.n (g3.n + 1) h6 2 1 v6 (intRows (wordsAt bs st (k + 1))) := by
        rw [wordsAt_succ, intRows_append, ← ha4, ← ha0, hnum]; exact o6
      simp only [i0, i2, i6, i7, bq.eq, w6, hv6, v6o, v6c, Option.map_some, Option.map_none, go_sem, Hold.p, HoldK.k, HoldL.K, HoldL.body, Nat.reduceBEq, Nat.reduceAdd, List.getElem?_cons_zero, List.getElem?_cons_succ, Option.bind_some, List.map_cons, List.map_nil, Nat.zero_add, if_true, List.getD_cons_zero, List.getD_cons_succ, List.contains_cons, List.contains_nil, Nat.reduceBEq, Bool.or_true, Bool.true_or, Bool.or_false, Bool.false_or, Bool.not_true, Bool.not_false, true_and, and_true, rowA_whole, push_n, set_n, push_obj, set_obj, set_push, set_push_ne, set_set, Nat.add_assoc, Nat.left_eq_add, Nat.add_eq_left, Nat.add_left_cancel_iff, Nat.reduceEqDiff, stO_1s, stO_ws, boxA_s, one_bool, one_int, one_str, one_ptr, one_nilptr, one_slice, one_eslice, one_nilslice, one_func, one_iface, one_niliface, List.all_cons, List.all_nil, List.length_cons, List.length_nil, Nat.reduceLT, Nat.reduceEqDiff, Nat.reduceLeDiff, Bool.and_true, Nat.one_ne_zero, Nat.succ_ne_zero, reduceIte, if_false, List.getElem?_cons_zero, List.set_cons_zero, List.set_cons_succ]
      generalize hq_g9 : IH.set h6 (q) (IObj.rows [[IV.int .i64 (repAt bs).id, IV.int .i64 (repAt bs).code, IV.int .i64 (repAt bs).ttl, IV.str (repAt bs).nm, v6]] 44 5 false) = g9
      have l_g9 : g9.n = h6.n := by rw [← hq_g9]; rfl
      have bq : At g9 (q) (IObj.rows [[IV.int .i64 (repAt bs).id, IV.int .i64 (repAt bs).code, IV.int .i64 (repAt bs).ttl, IV.str (repAt bs).nm, v6]] 44 5 false) := by rw [← hq_g9]; exact bq.here
      have o7 := o7.set (m := q) (by omega) (IObj.rows [[IV.int .i64 (repAt bs).id, IV.int .i64 (repAt bs).code, IV.int .i64 (repAt bs).ttl, IV.str (repAt bs).nm, v6]] 44 5 false)
      rw [hq_g9] at o7
      have E1 := E1.set (q) (by omega) (IObj.rows [[IV.int .i64 (repAt bs).id, IV.int .i64 (repAt bs).code, IV.int .i64 (repAt bs).ttl, IV.str (repAt bs).nm, v6]] 44 5 false)
      rw [hq_g9] at E1
      clear hq_g9
      refine ⟨_, ?_, k + 1, v6, g3.n, g3.n + 1, rfl, by omega, ?_, bq, o7, by omega, by omega, E1⟩
      · omega
      · rw [ha4]; rfl
    · obtain rfl : k = repC bs := by omega
      rw [← hzz] at oz
      simp only [i0, i2, i6, bq.eq, bb.eq, go_sem, Hold.p, HoldK.k, HoldL.K, HoldL.body, Nat.reduceBEq, Nat.reduceAdd, List.getElem?_cons_zero, List.getElem?_cons_succ, Option.bind_some, List.map_cons, List.map_nil, Nat.zero_add, if_true, List.getD_cons_zero, List.getD_cons_succ, List.contains_cons, List.contains_nil, Nat.reduceBEq, Bool.or_true, Bool.true_or, Bool.or_false, Bool.false_or, Bool.not_true, Bool.not_false, true_and, and_true, rowA_whole, push_n, set_n, push_obj, set_obj, set_push, set_push_ne, set_set, Nat.add_assoc, Nat.left_eq_add, Nat.add_eq_left, Nat.add_left_cancel_iff, Nat.reduceEqDiff, stO_1s, stO_ws, boxA_s, one_bool, one_int, one_str, one_ptr, one_nilptr, one_slice, one_eslice, one_nilslice, one_func, one_iface, one_niliface, List.all_cons, List.all_nil, List.length_cons, List.length_nil, Nat.reduceLT, Nat.reduceEqDiff, Nat.reduceLeDiff, Bool.and_true, Nat.one_ne_zero, Nat.succ_ne_zero, reduceIte, if_false, List.getElem?_cons_zero, List.set_cons_zero, List.set_cons_succ]
      refine callA_of (l19ReplyOK_c g' (repAt bs).id (repAt bs).code (repAt bs).ttl (repAt bs).nm vz (repAt bs).zs oz.sl hnl (by rw [hzz, wordsAt_len]; omega)) ?_
      rintro r h7 ⟨rfl, E7⟩
      have bb := bb.ext E7
      have bq := bq.ext E7
      have oz := oz.ext E7
      have E1 := E1.ext E7
      have le_E7 := E7.le
      have lE := E.le
      have hok : okRep (repAt bs).id (repAt bs).code (repAt bs).ttl (repAt bs).nm (repAt bs).zs = (repAt bs).ok := rfl
      rw [hok]
      cases c5 : (repAt bs).ok
      · rw [c5, if_neg (by decide)] at RD
        simp only [i2, bb.eq, lay_nil, lay_1, lay_w, Option.map_some, go_sem, Hold.p, HoldK.k, HoldL.K, HoldL.body, Nat.reduceBEq, Nat.reduceAdd, List.getElem?_cons_zero, List.getElem?_cons_succ, Option.bind_some, List.map_cons, List.map_nil, Nat.zero_add, if_true, List.getD_cons_zero, List.getD_cons_succ, List.contains_cons, List.contains_nil, Nat.reduceBEq, Bool.or_true, Bool.true_or, Bool.or_false, Bool.false_or, Bool.not_true, Bool.not_false, true_and, and_true, rowA_whole, push_n, set_n, push_obj, set_obj, set_push, set_push_ne, set_set, Nat.add_assoc, Nat.left_eq_add, Nat.add_eq_left, Nat.add_left_cancel_iff, Nat.reduceEqDiff, stO_1s, stO_ws, boxA_s, one_bool, one_int, one_str, one_ptr, one_nilptr, one_slice, one_eslice, one_nilslice, one_func, one_iface, one_niliface, List.all_cons, List.all_nil, List.length_cons, List.length_nil, Nat.reduceLT, Nat.reduceEqDiff, Nat.reduceLeDiff, Bool.and_true, Nat.one_ne_zero, Nat.succ_ne_zero, reduceIte, if_false, List.getElem?_cons_zero, List.set_cons_zero, List.set_cons_succ]
        rw [RD]
        exact ⟨_, rfl, Own.nil, (E.trans E1).set _ (Nat.le_refl _) _⟩
      · rw [c5, if_pos rfl] at RD
        have vo := oz.sl.one
        have vc := oz.sl.cells
        simp only [i2, i6, bb.eq, bq.eq, vo, vc, lay_nil, lay_1, lay_w, Option.map_some, go_sem, Hold.p, HoldK.k, HoldL.K, HoldL.body, Nat.reduceBEq, Nat.reduceAdd, List.getElem?_cons_zero, List.getElem?_cons_succ, Option.bind_some, List.map_cons, List.map_nil, Nat.zero_add, if_true, List.getD_cons_zero, List.getD_cons_succ, List.contains_cons, List.contains_nil, Nat.reduceBEq, Bool.or_true, Bool.true_or, Bool.or_false, Bool.false_or, Bool.not_true, Bool.not_false, true_and, and_true, rowA_whole, push_n, set_n, push_obj, set_obj, set_push, set_push_ne, set_set, Nat.add_assoc, Nat.left_eq_add, Nat.add_eq_left, Nat.add_left_cancel_iff, Nat.reduceEqDiff, stO_1s, stO_ws, boxA_s, one_bool, one_int, one_str, one_ptr, one_nilptr, one_slice, one_eslice, one_nilslice, one_func, one_iface, one_niliface, List.all_cons, List.all_nil, List.length_cons, List.length_nil, Nat.reduceLT, Nat.reduceEqDiff, Nat.reduceLeDiff, Bool.and_true, Nat.one_ne_zero, Nat.succ_ne_zero, reduceIte, if_false, List.getElem?_cons_zero, List.set_cons_zero, List.set_cons_succ]
        rw [RD]
        exact ⟨vz, rfl, (Own.set oz (m := h.n) (by omega) _).wide (by omega) (by rw [set_n]; omega) (Nat.le_refl _), (E.trans E1).set _ (Nat.le_refl _) _⟩
end Go.Proofs.YtcmcfmgabafljaaDoor
