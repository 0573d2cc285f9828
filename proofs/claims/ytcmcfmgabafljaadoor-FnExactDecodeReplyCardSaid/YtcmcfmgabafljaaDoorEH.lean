import Derived.Test.YtcmcfmgabafljaaDoorEG
set_option linter.unusedSimpArgs false
set_option linter.unusedVariables false
namespace Go.Proofs.YtcmcfmgabafljaaDoor
open Go Go.IW

theorem getD_at {bs : List UInt8} {k : Nat} (hk : k < bs.length) : bs[k]? = some (bs.getD k 0) := by
  rw [List.getD_eq_getElem?_getD, List.getElem?_eq_getElem hk]; rfl

/-- A text that begins with its length. -/
def textAt (bs : List UInt8) (at_ : Nat) : List UInt8 × Int :=
  if bs.length ≤ at_ ∨ bs.length < at_ + 1 + (bs.getD at_ 0).toNat then ([], -1) else ((bs.take (at_ + 1 + (bs.getD at_ 0).toNat)).drop (at_ + 1), ((at_ + 1 + (bs.getD at_ 0).toNat : Nat) : Int))

set_option maxRecDepth 20000 in
theorem l19Text_c (h : IH) (v : IV) (bs : List UInt8) (a : Nat) (hs : SlR h 1 v (strRows bs)) (hl : bs.length ≤ 1048576) (hal : a ≤ 1048576) : ICalls Tryd.prog 64 [v, .int .i64 a] h fun r h' => r = .tuple [.str (textAt bs a).1, .int .i64 (textAt bs a).2] ∧ h' = h := by
  refine icalls (.of ok64) (Nat.le_of_ble_eq_true rfl) ?_
  unfold c64
  have hlen := hs.lenF
  rw [strRows_len] at hlen
  have d0 : decide ((a : Int) < 0) = false := decide_eq_false (by omega)
  by_cases c1 : bs.length ≤ a
  · have d1 : decide ((bs.length : Int) ≤ (a : Int)) = true := decide_eq_true (by omega)
    simp only [d0, hlen, d1, go_sem, Hold.p, HoldK.k, HoldL.K, HoldL.body, Nat.reduceBEq, Nat.reduceAdd, List.getElem?_cons_zero, List.getElem?_cons_succ, Option.bind_some, List.map_cons, List.map_nil, Nat.zero_add, if_true, List.getD_cons_zero, List.getD_cons_succ, List.contains_cons, List.contains_nil, Nat.reduceBEq, Bool.or_true, Bool.true_or, Bool.or_false, Bool.false_or, Bool.not_true, Bool.not_false, true_and, and_true, rowA_whole, push_n, set_n, push_obj, set_obj, set_push, set_push_ne, set_set, Nat.add_assoc, Nat.left_eq_add, Nat.add_eq_left, Nat.add_left_cancel_iff, Nat.reduceEqDiff, stO_1s, stO_ws, boxA_s, one_bool, one_int, one_str, one_ptr, one_nilptr, one_slice, one_eslice, one_nilslice, one_func, one_iface, one_niliface, List.all_cons, List.all_nil, List.length_cons, List.length_nil, Nat.reduceLT, Nat.reduceEqDiff, Nat.reduceLeDiff, Bool.and_true, Nat.one_ne_zero, Nat.succ_ne_zero, reduceIte, if_false, List.getElem?_cons_zero, List.set_cons_zero, List.set_cons_succ]
    unfold textAt
    rw [if_pos (.inl c1)]
  · have d1 : decide ((bs.length : Int) ≤ (a : Int)) = false := decide_eq_false (by omega)
    have hkp := getD_at (bs := bs) (k := a) (by omega)
    generalize hb : bs.getD a 0 = b at hkp
    have hb256 := b.toNat_lt
    obtain ⟨l, j, hia, hll, hrow⟩ := hs.at (m := a) (strRows_at hkp) .i64
    have hc := cellO_row hrow
    have w2 : wr .i64 ((b.toNat : Nat) : Int) = ((b.toNat : Nat) : Int) := wr64 _ (by omega)
    obtain ⟨en, hen⟩ : ∃ en, en = a + 1 + b.toNat := ⟨_, rfl⟩
    have w1' : wr .i64 ((a : Int) + 1) = ((a + 1 : Nat) : Int) := by rw [wr64 _ (by omega)]; omega
    have w3' : wr .i64 (((a + 1 : Nat) : Int) + (b.toNat : Int)) = (en : Int) := by rw [wr64 _ (by omega)]; omega
    unfold textAt
    rw [hb, ← hen]
    by_cases c2 : bs.length < en
    · have d2 : decide ((bs.length : Int) < (en : Int)) = true := decide_eq_true (by omega)
      simp only [d0, hlen, d1, hia, hc, w1', w2, w3', d2, go_sem, Hold.p, HoldK.k, HoldL.K, HoldL.body, Nat.reduceBEq, Nat.reduceAdd, List.getElem?_cons_zero, List.getElem?_cons_succ, Option.bind_some, List.map_cons, List.map_nil, Nat.zero_add, if_true, List.getD_cons_zero, List.getD_cons_succ, List.contains_cons, List.contains_nil, Nat.reduceBEq, Bool.or_true, Bool.true_or, Bool.or_false, Bool.false_or, Bool.not_true, Bool.not_false, true_and, and_true, rowA_whole, push_n, set_n, push_obj, set_obj, set_push, set_push_ne, set_set, Nat.add_assoc, Nat.left_eq_add, Nat.add_eq_left, Nat.add_left_cancel_iff, Nat.reduceEqDiff, stO_1s, stO_ws, boxA_s, one_bool, one_int, one_str, one_ptr, one_nilptr, one_slice, one_eslice, one_nilslice, one_func, one_iface, one_niliface, List.all_cons, List.all_nil, List.length_cons, List.length_nil, Nat.reduceLT, Nat.reduceEqDiff, Nat.reduceLeDiff, Bool.and_true, Nat.one_ne_zero, Nat.succ_ne_zero, reduceIte, if_false, List.getElem?_cons_zero, List.set_cons_zero, List.set_cons_succ]
      rw [if_pos (.inr c2)]
    · have d2 : decide ((bs.length : Int) < (en : Int)) = false := decide_eq_false (by omega)
      obtain ⟨v1, hv1, hs1⟩ := hs.lohi (a := a + 1) (b := en) (q := .i64) (q' := .i64) (by omega) (by rw [strRows_len]; omega)
      rw [strRows_take, strRows_drop] at hs1
      have hb2 := hs1.b2s
      simp only [d0, hlen, d1, hia, hc, w1', w2, w3', d2, hv1, hb2, Option.map_some, go_sem, Hold.p, HoldK.k, HoldL.K, HoldL.body, Nat.reduceBEq, Nat.reduceAdd, List.getElem?_cons_zero, List.getElem?_cons_succ, Option.bind_some, List.map_cons, List.map_nil, Nat.zero_add, if_true, List.getD_cons_zero, List.getD_cons_succ, List.contains_cons, List.contains_nil, Nat.reduceBEq, Bool.or_true, Bool.true_or, Bool.or_false, Bool.false_or, Bool.not_true, Bool.not_false, true_and, and_true, rowA_whole, push_n, set_n, push_obj, set_obj, set_push, set_push_ne, set_set, Nat.add_assoc, Nat.left_eq_add, Nat.add_eq_left, Nat.add_left_cancel_iff, Nat.reduceEqDiff, stO_1s, stO_ws, boxA_s, one_bool, one_int, one_str, one_ptr, one_nilptr, one_slice, one_eslice, one_nilslice, one_func, one_iface, one_niliface, List.all_cons, List.all_nil, List.length_cons, List.length_nil, Nat.reduceLT, Nat.reduceEqDiff, Nat.reduceLeDiff, Bool.and_true, Nat.one_ne_zero, Nat.succ_ne_zero, reduceIte, if_false, List.getElem?_cons_zero, List.set_cons_zero, List.set_cons_succ]
      rw [if_neg (by omega)]

/-- What DecodeQuery answers: number, name, code. -/
def decQ (bs : List UInt8) : Int × List UInt8 × Int :=
  if bs.length < 4 ∨ bs.length < 4 + (bs.getD 3 0).toNat then (0, [], 2)
  else if 4 + (bs.getD 3 0).toNat < bs.length then (0, [], 5)
  else if bs.getD 2 0 ≠ 0 then (0, [], 9)
  else if okName ((bs.take (4 + (bs.getD 3 0).toNat)).drop 4) = true then (numB (bs.take 2), (bs.take (4 + (bs.getD 3 0).toNat)).drop 4, 0) else (0, [], 6)
def QueryRes (h h' : IH) (r : IV) (x : Int × List UInt8 × Int) : Prop := r = .tuple [.agg [.int .i64 x.1, .str x.2.1], .int .i64 x.2.2] ∧ Ext h h'

set_option maxRecDepth 20000 in
theorem specDecodeQuery_c (h : IH) (v : IV) (bs : List UInt8) (hs : SlR h 1 v (strRows bs)) (hl : bs.length ≤ 1048576) : ICalls Tryd.prog 21 [v] h fun r h' => QueryRes h h' r (decQ bs) := by
  refine icalls (.of ok21) (Nat.le_of_ble_eq_true rfl) ?_
  unfold c21
  have hlen := hs.lenF
  rw [strRows_len] at hlen
  simp only [go_sem, Hold.p, HoldK.k, HoldL.K, HoldL.body, Nat.reduceBEq, Nat.reduceAdd, List.getElem?_cons_zero, List.getElem?_cons_succ, Option.bind_some, List.map_cons, List.map_nil, Nat.zero_add, if_true, List.getD_cons_zero, List.getD_cons_succ, List.contains_cons, List.contains_nil, Nat.reduceBEq, Bool.or_true, Bool.true_or, Bool.or_false, Bool.false_or, Bool.not_true, Bool.not_false, true_and, and_true, rowA_whole, push_n, set_n, push_obj, set_obj, set_push, set_push_ne, set_set, Nat.add_assoc, Nat.left_eq_add, Nat.add_eq_left, Nat.add_left_cancel_iff, Nat.reduceEqDiff, stO_1s, stO_ws, boxA_s, one_bool, one_int, one_str, one_ptr, one_nilptr, one_slice, one_eslice, one_nilslice, one_func, one_iface, one_niliface, List.all_cons, List.all_nil, List.length_cons, List.length_nil, Nat.reduceLT, Nat.reduceEqDiff, Nat.reduceLeDiff, Bool.and_true, Nat.one_ne_zero, Nat.succ_ne_zero, reduceIte, if_false, List.getElem?_cons_zero, List.set_cons_zero, List.set_cons_succ]
  generalize hq_g0 : IH.push h (IObj.rows [[IV.int .i64 0, IV.str []]] 29 2 false) = g0
  have e_g0 : Ext h g0 := by rw [← hq_g0]; exact (Ext.refl _).push _
  have l_g0 : g0.n = h.n + 1 := by rw [← hq_g0]; rfl
  have bb : At g0 h.n (IObj.rows [[IV.int .i64 0, IV.str []]] 29 2 false) := by rw [← hq_g0]; exact At.new _ _
  clear hq_g0
  have hs := hs.ext e_g0
  refine callA_of (l19Text_c g0 v bs 3 hs hl (by omega)) ?_
  rintro r g ⟨rfl, rfl⟩
  have fin : ∀ (o : IObj) (c : Int), decQ bs = (0, [], c) → QueryRes h (g.set h.n o) (.tuple [.agg [.int .i64 0, .str []], .int .i64 c]) (decQ bs) := by
    intro o c e
    rw [e]
    exact ⟨rfl, e_g0.set _ (Nat.le_refl _) _⟩
  by_cases c1 : bs.length ≤ 3 ∨ bs.length < 3 + 1 + (bs.getD 3 0).toNat
  · have e1 : textAt bs 3 = ([], -1) := if_pos c1
    have d1 : decide ((-1 : Int) < 0) = true := rfl
    rw [e1]
    simp only [d1, bb.eq, lay_nil, lay_1, lay_w, Option.map_some, go_sem, Hold.p, HoldK.k, HoldL.K, HoldL.body, Nat.reduceBEq, Nat.reduceAdd, List.getElem?_cons_zero, List.getElem?_cons_succ, Option.bind_some, List.map_cons, List.map_nil, Nat.zero_add, if_true, List.getD_cons_zero, List.getD_cons_succ, List.contains_cons, List.contains_nil, Nat.reduceBEq, Bool.or_true, Bool.true_or, Bool.or_false, Bool.false_or, Bool.not_true, Bool.not_false, true_and, and_true, rowA_whole, push_n, set_n, push_obj, set_obj, set_push, set_push_ne, set_set, Nat.add_assoc, Nat.left_eq_add, Nat.add_eq_left, Nat.add_left_cancel_iff, Nat.reduceEqDiff, stO_1s, stO_ws, boxA_s, one_bool, one_int, one_str, one_ptr, one_nilptr, one_slice, one_eslice, one_nilslice, one_func, one_iface, one_niliface, List.all_cons, List.all_nil, List.length_cons, List.length_nil, Nat.reduceLT, Nat.reduceEqDiff, Nat.reduceLeDiff, Bool.and_true, Nat.one_ne_zero, Nat.succ_ne_zero, reduceIte, if_false, List.getElem?_cons_zero, List.set_cons_zero, List.set_cons_succ]
    exact fin _ _ (if_pos (by omega))
  · have e1 : textAt bs 3 = ((bs.take (3 + 1 + (bs.getD 3 0).toNat)).drop (3 + 1), ((3 + 1 + (bs.getD 3 0).toNat : Nat) : Int)) := if_neg c1
    have hdef : decQ bs = if 4 + (bs.getD 3 0).toNat < bs.length then (0, [], 5)
      else if bs.getD 2 0 ≠ 0 then (0, [], 9)
      else if okName ((bs.take (4 + (bs.getD 3 0).toNat)).drop 4) = true then (numB (bs.take 2), (bs.take (4 + (bs.getD 3 0).toNat)).drop 4, 0) else (0, [], 6) := if_neg (by omega)
    rw [e1]
    generalize bs.getD 3 0 = b3 at *
    have d1 : decide (((3 + 1 + b3.toNat : Nat) : Int) < 0) = false := decide_eq_false (by omega)
    by_cases c2 : 4 + b3.toNat < bs.length
    · have d2 : decide (((3 + 1 + b3.toNat : Nat) : Int) < (bs.length : Int)) = true := decide_eq_true (by omega)
      simp only [d1, d2, hlen, bb.eq, lay_nil, lay_1, lay_w, Option.map_some, go_sem, Hold.p, HoldK.k, HoldL.K, HoldL.body, Nat.reduceBEq, Nat.reduceAdd, List.getElem?_cons_zero, List.getElem?_cons_succ, Option.bind_some, List.map_cons, List.map_nil, Nat.zero_add, if_true, List.getD_cons_zero, List.getD_cons_succ, List.contains_cons, List.contains_nil, Nat.reduceBEq, Bool.or_true, Bool.true_or, Bool.or_false, Bool.false_or, Bool.not_true, Bool.not_false, true_and, and_true, rowA_whole, push_n, set_n, push_obj, set_obj, set_push, set_push_ne, set_set, Nat.add_assoc, Nat.left_eq_add, Nat.add_eq_left, Nat.add_left_cancel_iff, Nat.reduceEqDiff, stO_1s, stO_ws, boxA_s, one_bool, one_int, one_str, one_ptr, one_nilptr, one_slice, one_eslice, one_nilslice, one_func, one_iface, one_niliface, List.all_cons, List.all_nil, List.length_cons, List.length_nil, Nat.reduceLT, Nat.reduceEqDiff, Nat.reduceLeDiff, Bool.and_true, Nat.one_ne_zero, Nat.succ_ne_zero, reduceIte, if_false, List.getElem?_cons_zero, List.set_cons_zero, List.set_cons_succ]
      exact fin _ _ (hdef.trans (if_pos c2))
    · have d2 : decide (((3 + 1 + b3.toNat : Nat) : Int) < (bs.length : Int)) = false := decide_eq_false (by omega)
      rw [if_neg c2] at hdef
      have hkp := getD_at (bs := bs) (k := 2) (by omega)
      generalize hb2 : bs.getD 2 0 = b2 at *
      obtain ⟨l, j, hia, hll, hrow⟩ := hs.at (m := 2) (strRows_at hkp) .i64
      have hc := cellO_row hrow
      have hia : iadrF g 1 v (.int .i64 2) = some (.ptr l j 0) := hia
      by_cases c3 : b2 = 0
      · have d3 : decide ((b2.toNat : Int) = 0) = true := decide_eq_true (by rw [c3]; rfl)
        rw [if_neg (by simpa using c3)] at hdef
        simp only [d1, d2, hlen, hia, hc, d3, lay_nil, lay_1, lay_w, Option.map_some, go_sem, Hold.p, HoldK.k, HoldL.K, HoldL.body, Nat.reduceBEq, Nat.reduceAdd, List.getElem?_cons_zero, List.getElem?_cons_succ, Option.bind_some, List.map_cons, List.map_nil, Nat.zero_add, if_true, List.getD_cons_zero, List.getD_cons_succ, List.contains_cons, List.contains_nil, Nat.reduceBEq, Bool.or_true, Bool.true_or, Bool.or_false, Bool.false_or, Bool.not_true, Bool.not_false, true_and, and_true, rowA_whole, push_n, set_n, push_obj, set_obj, set_push, set_push_ne, set_set, Nat.add_assoc, Nat.left_eq_add, Nat.add_eq_left, Nat.add_left_cancel_iff, Nat.reduceEqDiff, stO_1s, stO_ws, boxA_s, one_bool, one_int, one_str, one_ptr, one_nilptr, one_slice, one_eslice, one_nilslice, one_func, one_iface, one_niliface, List.all_cons, List.all_nil, List.length_cons, List.length_nil, Nat.reduceLT, Nat.reduceEqDiff, Nat.reduceLeDiff, Bool.and_true, Nat.one_ne_zero, Nat.succ_ne_zero, reduceIte, if_false, List.getElem?_cons_zero, List.set_cons_zero, List.set_cons_succ]
        generalize hnm : (bs.take (3 + 1 + b3.toNat)).drop (3 + 1) = nm
        have hnm' : (bs.take (4 + b3.toNat)).drop 4 = nm := hnm
        rw [hnm'] at hdef
        have hnl : nm.length ≤ 1048576 := by rw [← hnm]; simp; omega
        refine callA_of (specNameOK_c g nm hnl) ?_
        rintro r h1 ⟨rfl, E1⟩
        have bb := bb.ext E1
        have hs := hs.ext E1
        have le_E1 := E1.le
        have E := e_g0.trans E1
        cases c4 : okName nm
        · rw [if_neg (by rw [c4]; decide)] at hdef
          simp only [c4, bb.eq, lay_nil, lay_1, lay_w, Option.map_some, go_sem, Hold.p, HoldK.k, HoldL.K, HoldL.body, Nat.reduceBEq, Nat.reduceAdd, List.getElem?_cons_zero, List.getElem?_cons_succ, Option.bind_some, List.map_cons, List.map_nil, Nat.zero_add, if_true, List.getD_cons_zero, List.getD_cons_succ, List.contains_cons, List.contains_nil, Nat.reduceBEq, Bool.or_true, Bool.true_or, Bool.or_false, Bool.false_or, Bool.not_true, Bool.not_false, true_and, and_true, rowA_whole, push_n, set_n, push_obj, set_obj, set_push, set_push_ne, set_set, Nat.add_assoc, Nat.left_eq_add, Nat.add_eq_left, Nat.add_left_cancel_iff, Nat.reduceEqDiff, stO_1s, stO_ws, boxA_s, one_bool, one_int, one_str, one_ptr, one_nilptr, one_slice, one_eslice, one_nilslice, one_func, one_iface, one_niliface, List.all_cons, List.all_nil, List.length_cons, List.length_nil, Nat.reduceLT, Nat.reduceEqDiff, Nat.reduceLeDiff, Bool.and_true, Nat.one_ne_zero, Nat.succ_ne_zero, reduceIte, if_false, List.getElem?_cons_zero, List.set_cons_zero, List.set_cons_succ]
          rw [hdef]
          exact ⟨rfl, E.set _ (Nat.le_refl _) _⟩
        · rw [if_pos c4] at hdef
          obtain ⟨v1, hv1, hs1⟩ := hs.hi (b := 2) (q := .i64) (by rw [strRows_len]; omega)
          rw [strRows_take] at hs1
          have hv1 : slcF h1 1 v none (some (.int .i64 2)) = some v1 := hv1
          simp only [c4, bb.eq, hv1, Option.map_some, Option.map_none, lay_nil, lay_1, lay_w, Option.map_some, go_sem, Hold.p, HoldK.k, HoldL.K, HoldL.body, Nat.reduceBEq, Nat.reduceAdd, List.getElem?_cons_zero, List.getElem?_cons_succ, Option.bind_some, List.map_cons, List.map_nil, Nat.zero_add, if_true, List.getD_cons_zero, List.getD_cons_succ, List.contains_cons, List.contains_nil, Nat.reduceBEq, Bool.or_true, Bool.true_or, Bool.or_false, Bool.false_or, Bool.not_true, Bool.not_false, true_and, and_true, rowA_whole, push_n, set_n, push_obj, set_obj, set_push, set_push_ne, set_set, Nat.add_assoc, Nat.left_eq_add, Nat.add_eq_left, Nat.add_left_cancel_iff, Nat.reduceEqDiff, stO_1s, stO_ws, boxA_s, one_bool, one_int, one_str, one_ptr, one_nilptr, one_slice, one_eslice, one_nilslice, one_func, one_iface, one_niliface, List.all_cons, List.all_nil, List.length_cons, List.length_nil, Nat.reduceLT, Nat.reduceEqDiff, Nat.reduceLeDiff, Bool.and_true, Nat.one_ne_zero, Nat.succ_ne_zero, reduceIte, if_false, List.getElem?_cons_zero, List.set_cons_zero, List.set_cons_succ]
          refine callA_of (l03Num_c h1 v1 _ hs1 (by simp; omega)) ?_
          rintro r h2 ⟨rfl, rfl⟩
          simp only [c4, bb.eq, lay_nil, lay_1, lay_w, Option.map_some, go_sem, Hold.p, HoldK.k, HoldL.K, HoldL.body, Nat.reduceBEq, Nat.reduceAdd, List.getElem?_cons_zero, List.getElem?_cons_succ, Option.bind_some, List.map_cons, List.map_nil, Nat.zero_add, if_true, List.getD_cons_zero, List.getD_cons_succ, List.contains_cons, List.contains_nil, Nat.reduceBEq, Bool.or_true, Bool.true_or, Bool.or_false, Bool.false_or, Bool.not_true, Bool.not_false, true_and, and_true, rowA_whole, push_n, set_n, push_obj, set_obj, set_push, set_push_ne, set_set, Nat.add_assoc, Nat.left_eq_add, Nat.add_eq_left, Nat.add_left_cancel_iff, Nat.reduceEqDiff, stO_1s, stO_ws, boxA_s, one_bool, one_int, one_str, one_ptr, one_nilptr, one_slice, one_eslice, one_nilslice, one_func, one_iface, one_niliface, List.all_cons, List.all_nil, List.length_cons, List.length_nil, Nat.reduceLT, Nat.reduceEqDiff, Nat.reduceLeDiff, Bool.and_true, Nat.one_ne_zero, Nat.succ_ne_zero, reduceIte, if_false, List.getElem?_cons_zero, List.set_cons_zero, List.set_cons_succ]
          rw [hdef]
          exact ⟨rfl, E.set _ (Nat.le_refl _) _⟩
      · have d3 : decide ((b2.toNat : Int) = 0) = false := decide_eq_false (fun h0 => c3 (UInt8.toNat_inj.1 (by simpa using h0)))
        rw [if_pos (by simpa using c3)] at hdef
        simp only [d1, d2, hlen, hia, hc, d3, bb.eq, lay_nil, lay_1, lay_w, Option.map_some, go_sem, Hold.p, HoldK.k, HoldL.K, HoldL.body, Nat.reduceBEq, Nat.reduceAdd, List.getElem?_cons_zero, List.getElem?_cons_succ, Option.bind_some, List.map_cons, List.map_nil, Nat.zero_add, if_true, List.getD_cons_zero, List.getD_cons_succ, List.contains_cons, List.contains_nil, Nat.reduceBEq, Bool.or_true, Bool.true_or, Bool.or_false, Bool.false_or, Bool.not_true, Bool.not_false, true_and, and_true, rowA_whole, push_n, set_n, push_obj, set_obj, set_push, set_push_ne, set_set, Nat.add_assoc, Nat.left_eq_add, Nat.add_eq_left, Nat.add_left_cancel_iff, Nat.reduceEqDiff, stO_1s, stO_ws, boxA_s, one_bool, one_int, one_str, one_ptr, one_nilptr, one_slice, one_eslice, one_nilslice, one_func, one_iface, one_niliface, List.all_cons, List.all_nil, List.length_cons, List.length_nil, Nat.reduceLT, Nat.reduceEqDiff, Nat.reduceLeDiff, Bool.and_true, Nat.one_ne_zero, Nat.succ_ne_zero, reduceIte, if_false, List.getElem?_cons_zero, List.set_cons_zero, List.set_cons_succ]
        exact fin _ _ hdef
end Go.Proofs.YtcmcfmgabafljaaDoor
