import Derived.Test.YtdpaehdolhdjdaaGreatDoorL2
set_option linter.unusedSimpArgs false
set_option linter.unusedVariables false

set_option maxRecDepth 20000
namespace Go.Proofs.YtdpaehdolhdjdaaGreatDoor
open Go Go.IW
section
attribute [local go_sem] List.getElem?_cons_zero List.getElem?_cons_succ Option.bind_some List.map_cons List.map_nil Nat.zero_add if_true List.getD_cons_zero List.getD_cons_succ List.contains_cons List.contains_nil Bool.or_true Bool.true_or Bool.or_false Bool.false_or Bool.not_true Bool.not_false true_and and_true rowA_whole mid_get stO_mid rowO_rows cellO_rows push_n set_n push_at push_old set_here set_there set_pushT set_pushN set_set upd_ne Nat.add_assoc Nat.add_zero stO_1s stO_ws boxA_s List.all_cons List.all_nil one_bool one_int one_str one_ptr one_nilptr one_slice one_eslice one_nilslice one_func one_iface one_niliface Bool.and_true Bool.and_self List.length_cons List.length_nil Nat.one_ne_zero Nat.succ_ne_zero if_false List.set_cons_zero List.set_cons_succ lay_nil lay_1 lay_w Option.map_some

def BytesR (h h' : IH) (r : IV) (x : List UInt8 × Int) : Prop := ∃ v, r = .tuple [v, .int .i64 x.2] ∧ Own h.n h'.n h' 5 1 v (strRows x.1) ∧ Ext h h'

/-! Replies. -/
def replyW : List UInt8 := [114, 101, 112, 108, 121, 32]
def replyB (st : Int) (fs : List Fld) (b : Nat) : Bool := (decide (100 ≤ st) && decide (st ≤ 999)) && restB fs b
def showReply (st : Int) (fs : List Fld) (body : List UInt8) : List UInt8 × Int := if replyB st fs body.length = true then (message (replyW ++ numI st) fs body, 0) else ([], 1)
abbrev repObj (st : Int) (v w : IV) : IObj := .rows [[.int .i64 st, v, w]] 48 3 false
theorem specReplyOK_c (h : IH) (st : Int) (v w : IV) (fs : List Fld) (body : List UInt8) (hs : SlR h 2 v (fldRows fs)) (hw : SlR h 1 w (strRows body)) (hm : fs.length ≤ 1048576) (hF : FldS fs) :
    ICalls Tryz.prog 52 [.agg [.int .i64 st, v, w]] h fun r h' => r = .bool (replyB st fs body.length) ∧ Ext h h' := by
  refine icalls (.of ok52) (Nat.le_of_ble_eq_true rfl) ?_
  unfold c52
  have v1 := hs.one
  have v2 := hw.one
  simp (disch := (first | omega | assumption | (simp only [push_n, set_n, put_n, List.length_cons, List.length_nil, List.length_append, Nat.reduceAdd]; done) | (simp only [push_n, set_n, put_n, List.length_cons, List.length_nil, List.length_append]; omega) | (simp only [List.all_cons, List.all_nil, one_bool, one_int, one_str, one_ptr, one_nilptr, one_slice, one_eslice, one_nilslice, one_func, one_iface, one_niliface, Bool.and_true, Bool.true_and, List.getD_cons_zero, List.getD_cons_succ, List.contains_cons, List.contains_nil, Bool.or_true, Bool.true_or, Bool.or_false, Bool.false_or, Nat.reduceBEq, *]; done) | fail)) only [v1, v2, go_sem, Hold.p, HoldK.k, HoldL.K, HoldL.body, Nat.reduceBEq, Nat.reduceAdd, reduceIte]
  generalize hq_g : IH.push h (repObj st v w) = g
  have e_g : Ext h g := by rw [← hq_g]; exact (Ext.refl _).push _
  have l_g : g.n = h.n + 1 := by rw [← hq_g]; rfl
  have b : At g h.n (repObj st v w) := by rw [← hq_g]; exact At.new _ _
  clear hq_g
  have hs := hs.ext e_g
  have hw := hw.ext e_g
  have q := b.eq
  try simp (disch := (first | omega | assumption | (simp only [push_n, set_n, put_n, List.length_cons, List.length_nil, List.length_append, Nat.reduceAdd]; done) | (simp only [push_n, set_n, put_n, List.length_cons, List.length_nil, List.length_append]; omega) | (simp only [List.all_cons, List.all_nil, one_bool, one_int, one_str, one_ptr, one_nilptr, one_slice, one_eslice, one_nilslice, one_func, one_iface, one_niliface, Bool.and_true, Bool.true_and, List.getD_cons_zero, List.getD_cons_succ, List.contains_cons, List.contains_nil, Bool.or_true, Bool.true_or, Bool.or_false, Bool.false_or, Nat.reduceBEq, *]; done) | fail)) only [q, go_sem, Hold.p, HoldK.k, HoldL.K, HoldL.body, Nat.reduceBEq, Nat.reduceAdd, reduceIte]
  refine callA_of (l01In_c g st 100 999) ?_
  rintro r g1 ⟨rfl, rfl⟩
  simp (disch := (first | omega | assumption | (simp only [push_n, set_n, put_n, List.length_cons, List.length_nil, List.length_append, Nat.reduceAdd]; done) | (simp only [push_n, set_n, put_n, List.length_cons, List.length_nil, List.length_append]; omega) | (simp only [List.all_cons, List.all_nil, one_bool, one_int, one_str, one_ptr, one_nilptr, one_slice, one_eslice, one_nilslice, one_func, one_iface, one_niliface, Bool.and_true, Bool.true_and, List.getD_cons_zero, List.getD_cons_succ, List.contains_cons, List.contains_nil, Bool.or_true, Bool.true_or, Bool.or_false, Bool.false_or, Nat.reduceBEq, *]; done) | fail)) only [q, go_sem, Hold.p, HoldK.k, HoldL.K, HoldL.body, Nat.reduceBEq, Nat.reduceAdd, reduceIte]
  refine guard_extT (v := .bool (restB fs body.length)) (fun hb => ?_) (fun g2 E => ?_)
  · simp (disch := (first | omega | assumption | (simp only [push_n, set_n, put_n, List.length_cons, List.length_nil, List.length_append, Nat.reduceAdd]; done) | (simp only [push_n, set_n, put_n, List.length_cons, List.length_nil, List.length_append]; omega) | (simp only [List.all_cons, List.all_nil, one_bool, one_int, one_str, one_ptr, one_nilptr, one_slice, one_eslice, one_nilslice, one_func, one_iface, one_niliface, Bool.and_true, Bool.true_and, List.getD_cons_zero, List.getD_cons_succ, List.contains_cons, List.contains_nil, Bool.or_true, Bool.true_or, Bool.or_false, Bool.false_or, Nat.reduceBEq, *]; done) | fail)) only [hb, go_sem, Hold.p, HoldK.k, HoldL.K, HoldL.body, Nat.reduceBEq, Nat.reduceAdd, reduceIte]
    exact specRest_c _ v w fs body hs hw hm hF
  simp (disch := (first | omega | assumption | (simp only [push_n, set_n, put_n, List.length_cons, List.length_nil, List.length_append, Nat.reduceAdd]; done) | (simp only [push_n, set_n, put_n, List.length_cons, List.length_nil, List.length_append]; omega) | (simp only [List.all_cons, List.all_nil, one_bool, one_int, one_str, one_ptr, one_nilptr, one_slice, one_eslice, one_nilslice, one_func, one_iface, one_niliface, Bool.and_true, Bool.true_and, List.getD_cons_zero, List.getD_cons_succ, List.contains_cons, List.contains_nil, Bool.or_true, Bool.true_or, Bool.or_false, Bool.false_or, Nat.reduceBEq, *]; done) | fail)) only [go_sem, Hold.p, HoldK.k, HoldL.K, HoldL.body, Nat.reduceBEq, Nat.reduceAdd, reduceIte]
  exact ⟨rfl, e_g.trans E⟩
theorem implReplyOK_c (h : IH) (st : Int) (v w : IV) (fs : List Fld) (body : List UInt8) (hs : SlR h 2 v (fldRows fs)) (hw : SlR h 1 w (strRows body)) (hm : fs.length ≤ 1048576) (hF : FldS fs) :
    ICalls Tryz.prog 53 [.agg [.int .i64 st, v, w]] h fun r h' => r = .bool (replyB st fs body.length) ∧ Ext h h' := by
  refine icalls (.of ok53) (Nat.le_of_ble_eq_true rfl) ?_
  unfold c53
  have v1 := hs.one
  have v2 := hw.one
  simp (disch := (first | omega | assumption | (simp only [push_n, set_n, put_n, List.length_cons, List.length_nil, List.length_append, Nat.reduceAdd]; done) | (simp only [push_n, set_n, put_n, List.length_cons, List.length_nil, List.length_append]; omega) | (simp only [List.all_cons, List.all_nil, one_bool, one_int, one_str, one_ptr, one_nilptr, one_slice, one_eslice, one_nilslice, one_func, one_iface, one_niliface, Bool.and_true, Bool.true_and, List.getD_cons_zero, List.getD_cons_succ, List.contains_cons, List.contains_nil, Bool.or_true, Bool.true_or, Bool.or_false, Bool.false_or, Nat.reduceBEq, *]; done) | fail)) only [v1, v2, go_sem, Hold.p, HoldK.k, HoldL.K, HoldL.body, Nat.reduceBEq, Nat.reduceAdd, reduceIte]
  generalize hq_g : IH.push h (repObj st v w) = g
  have e_g : Ext h g := by rw [← hq_g]; exact (Ext.refl _).push _
  have l_g : g.n = h.n + 1 := by rw [← hq_g]; rfl
  have b : At g h.n (repObj st v w) := by rw [← hq_g]; exact At.new _ _
  clear hq_g
  have hs := hs.ext e_g
  have hw := hw.ext e_g
  have q := b.eq
  try simp (disch := (first | omega | assumption | (simp only [push_n, set_n, put_n, List.length_cons, List.length_nil, List.length_append, Nat.reduceAdd]; done) | (simp only [push_n, set_n, put_n, List.length_cons, List.length_nil, List.length_append]; omega) | (simp only [List.all_cons, List.all_nil, one_bool, one_int, one_str, one_ptr, one_nilptr, one_slice, one_eslice, one_nilslice, one_func, one_iface, one_niliface, Bool.and_true, Bool.true_and, List.getD_cons_zero, List.getD_cons_succ, List.contains_cons, List.contains_nil, Bool.or_true, Bool.true_or, Bool.or_false, Bool.false_or, Nat.reduceBEq, *]; done) | fail)) only [q, go_sem, Hold.p, HoldK.k, HoldL.K, HoldL.body, Nat.reduceBEq, Nat.reduceAdd, reduceIte]
  refine guard_extT (v := .bool (restB fs body.length)) (fun hb => ?_) (fun g2 E => ?_)
  · simp (disch := (first | omega | assumption | (simp only [push_n, set_n, put_n, List.length_cons, List.length_nil, List.length_append, Nat.reduceAdd]; done) | (simp only [push_n, set_n, put_n, List.length_cons, List.length_nil, List.length_append]; omega) | (simp only [List.all_cons, List.all_nil, one_bool, one_int, one_str, one_ptr, one_nilptr, one_slice, one_eslice, one_nilslice, one_func, one_iface, one_niliface, Bool.and_true, Bool.true_and, List.getD_cons_zero, List.getD_cons_succ, List.contains_cons, List.contains_nil, Bool.or_true, Bool.true_or, Bool.or_false, Bool.false_or, Nat.reduceBEq, *]; done) | fail)) only [hb, go_sem, Hold.p, HoldK.k, HoldL.K, HoldL.body, Nat.reduceBEq, Nat.reduceAdd, reduceIte]
    exact implRest_c _ v w fs body hs hw hm hF
  simp (disch := (first | omega | assumption | (simp only [push_n, set_n, put_n, List.length_cons, List.length_nil, List.length_append, Nat.reduceAdd]; done) | (simp only [push_n, set_n, put_n, List.length_cons, List.length_nil, List.length_append]; omega) | (simp only [List.all_cons, List.all_nil, one_bool, one_int, one_str, one_ptr, one_nilptr, one_slice, one_eslice, one_nilslice, one_func, one_iface, one_niliface, Bool.and_true, Bool.true_and, List.getD_cons_zero, List.getD_cons_succ, List.contains_cons, List.contains_nil, Bool.or_true, Bool.true_or, Bool.or_false, Bool.false_or, Nat.reduceBEq, *]; done) | fail)) only [go_sem, Hold.p, HoldK.k, HoldL.K, HoldL.body, Nat.reduceBEq, Nat.reduceAdd, reduceIte]
  exact ⟨rfl, e_g.trans E⟩
theorem replyB_un {st : Int} {fs : List Fld} {b : Nat} (h : replyB st fs b = true) : 100 ≤ st ∧ st ≤ 999 ∧ restB fs b = true := by
  unfold replyB at h
  simp only [Bool.and_eq_true, decide_eq_true_eq] at h
  exact ⟨h.1.1, h.1.2, h.2⟩
theorem specShowReply_c (h : IH) (st : Int) (v w : IV) (fs : List Fld) (body : List UInt8) (hs : SlR h 2 v (fldRows fs)) (hw : SlR h 1 w (strRows body)) (hm : fs.length ≤ 1048576) (hF : FldS fs) :
    ICalls Tryz.prog 17 [.agg [.int .i64 st, v, w]] h fun r h' => BytesR h h' r (showReply st fs body) := by
  refine icalls (.of ok17) (Nat.le_of_ble_eq_true rfl) ?_
  unfold c17
  have v1 := hs.one
  have v2 := hw.one
  simp (disch := (first | omega | assumption | (simp only [push_n, set_n, put_n, List.length_cons, List.length_nil, List.length_append, Nat.reduceAdd]; done) | (simp only [push_n, set_n, put_n, List.length_cons, List.length_nil, List.length_append]; omega) | (simp only [List.all_cons, List.all_nil, one_bool, one_int, one_str, one_ptr, one_nilptr, one_slice, one_eslice, one_nilslice, one_func, one_iface, one_niliface, Bool.and_true, Bool.true_and, List.getD_cons_zero, List.getD_cons_succ, List.contains_cons, List.contains_nil, Bool.or_true, Bool.true_or, Bool.or_false, Bool.false_or, Nat.reduceBEq, *]; done) | fail)) only [v1, v2, go_sem, Hold.p, HoldK.k, HoldL.K, HoldL.body, Nat.reduceBEq, Nat.reduceAdd, reduceIte]
  generalize hq_g : IH.push h (repObj st v w) = g
  have e_g : Ext h g := by rw [← hq_g]; exact (Ext.refl _).push _
  have l_g : g.n = h.n + 1 := by rw [← hq_g]; rfl
  have b : At g h.n (repObj st v w) := by rw [← hq_g]; exact At.new _ _
  clear hq_g
  have hs := hs.ext e_g
  have hw := hw.ext e_g
  have q := b.eq
  try simp (disch := (first | omega | assumption | (simp only [push_n, set_n, put_n, List.length_cons, List.length_nil, List.length_append, Nat.reduceAdd]; done) | (simp only [push_n, set_n, put_n, List.length_cons, List.length_nil, List.length_append]; omega) | (simp only [List.all_cons, List.all_nil, one_bool, one_int, one_str, one_ptr, one_nilptr, one_slice, one_eslice, one_nilslice, one_func, one_iface, one_niliface, Bool.and_true, Bool.true_and, List.getD_cons_zero, List.getD_cons_succ, List.contains_cons, List.contains_nil, Bool.or_true, Bool.true_or, Bool.or_false, Bool.false_or, Nat.reduceBEq, *]; done) | fail)) only [q, go_sem, Hold.p, HoldK.k, HoldL.K, HoldL.body, Nat.reduceBEq, Nat.reduceAdd, reduceIte]
  refine callA_of (specReplyOK_c g st v w fs body hs hw hm hF) ?_
  rintro r g1 ⟨rfl, E1⟩
  have b := b.ext E1
  have hs := hs.ext E1
  have hw := hw.ext E1
  have le_E1 := E1.le
  simp (disch := (first | omega | assumption | (simp only [push_n, set_n, put_n, List.length_cons, List.length_nil, List.length_append, Nat.reduceAdd]; done) | (simp only [push_n, set_n, put_n, List.length_cons, List.length_nil, List.length_append]; omega) | (simp only [List.all_cons, List.all_nil, one_bool, one_int, one_str, one_ptr, one_nilptr, one_slice, one_eslice, one_nilslice, one_func, one_iface, one_niliface, Bool.and_true, Bool.true_and, List.getD_cons_zero, List.getD_cons_succ, List.contains_cons, List.contains_nil, Bool.or_true, Bool.true_or, Bool.or_false, Bool.false_or, Nat.reduceBEq, *]; done) | fail)) only [go_sem, Hold.p, HoldK.k, HoldL.K, HoldL.body, Nat.reduceBEq, Nat.reduceAdd, reduceIte]
  unfold showReply
  refine test_of (fun hc => ?_) (fun hc => ?_)
  · have hc' : replyB st fs body.length = false := by rwa [Bool.not_eq_true'] at hc
    simp (disch := (first | omega | assumption | (simp only [push_n, set_n, put_n, List.length_cons, List.length_nil, List.length_append, Nat.reduceAdd]; done) | (simp only [push_n, set_n, put_n, List.length_cons, List.length_nil, List.length_append]; omega) | (simp only [List.all_cons, List.all_nil, one_bool, one_int, one_str, one_ptr, one_nilptr, one_slice, one_eslice, one_nilslice, one_func, one_iface, one_niliface, Bool.and_true, Bool.true_and, List.getD_cons_zero, List.getD_cons_succ, List.contains_cons, List.contains_nil, Bool.or_true, Bool.true_or, Bool.or_false, Bool.false_or, Nat.reduceBEq, *]; done) | fail)) only [go_sem, Hold.p, HoldK.k, HoldL.K, HoldL.body, Nat.reduceBEq, Nat.reduceAdd, reduceIte]
    rw [hc', if_neg (by simp)]
    exact ⟨_, rfl, Own.nil, e_g.trans E1⟩
  · have hc' : replyB st fs body.length = true := by rwa [Bool.not_eq_false'] at hc
    rw [hc', if_pos rfl]
    obtain ⟨s1, s2, hR⟩ := replyB_un hc'
    have n1 := numI_len (n := st) (by omega)
    have q1 := b.eq
    simp (disch := (first | omega | assumption | (simp only [push_n, set_n, put_n, List.length_cons, List.length_nil, List.length_append, Nat.reduceAdd]; done) | (simp only [push_n, set_n, put_n, List.length_cons, List.length_nil, List.length_append]; omega) | (simp only [List.all_cons, List.all_nil, one_bool, one_int, one_str, one_ptr, one_nilptr, one_slice, one_eslice, one_nilslice, one_func, one_iface, one_niliface, Bool.and_true, Bool.true_and, List.getD_cons_zero, List.getD_cons_succ, List.contains_cons, List.contains_nil, Bool.or_true, Bool.true_or, Bool.or_false, Bool.false_or, Nat.reduceBEq, *]; done) | fail)) only [q1, go_sem, Hold.p, HoldK.k, HoldL.K, HoldL.body, Nat.reduceBEq, Nat.reduceAdd, reduceIte]
    refine callA_of (numI_c g1 (n := st) (by omega) (by omega)) ?_
    rintro r g2 ⟨rfl, E2⟩
    have b := b.ext E2
    have hs := hs.ext E2
    have hw := hw.ext E2
    have le_E2 := E2.le
    have q2 := b.eq
    simp (disch := (first | omega | assumption | (simp only [push_n, set_n, put_n, List.length_cons, List.length_nil, List.length_append, Nat.reduceAdd]; done) | (simp only [push_n, set_n, put_n, List.length_cons, List.length_nil, List.length_append]; omega) | (simp only [List.all_cons, List.all_nil, one_bool, one_int, one_str, one_ptr, one_nilptr, one_slice, one_eslice, one_nilslice, one_func, one_iface, one_niliface, Bool.and_true, Bool.true_and, List.getD_cons_zero, List.getD_cons_succ, List.contains_cons, List.contains_nil, Bool.or_true, Bool.true_or, Bool.or_false, Bool.false_or, Nat.reduceBEq, *]; done) | fail)) only [q2, cat3, go_sem, Hold.p, HoldK.k, HoldL.K, HoldL.body, Nat.reduceBEq, Nat.reduceAdd, reduceIte]
    refine callA_of (specMessage_c g2 _ v w fs body hs hw hR (by simp; omega)) ?_
    rintro r g3 ⟨o, E3⟩
    simp (disch := (first | omega | assumption | (simp only [push_n, set_n, put_n, List.length_cons, List.length_nil, List.length_append, Nat.reduceAdd]; done) | (simp only [push_n, set_n, put_n, List.length_cons, List.length_nil, List.length_append]; omega) | (simp only [List.all_cons, List.all_nil, one_bool, one_int, one_str, one_ptr, one_nilptr, one_slice, one_eslice, one_nilslice, one_func, one_iface, one_niliface, Bool.and_true, Bool.true_and, List.getD_cons_zero, List.getD_cons_succ, List.contains_cons, List.contains_nil, Bool.or_true, Bool.true_or, Bool.or_false, Bool.false_or, Nat.reduceBEq, *]; done) | fail)) only [go_sem, Hold.p, HoldK.k, HoldL.K, HoldL.body, Nat.reduceBEq, Nat.reduceAdd, reduceIte]
    refine ⟨r, rfl, o.wide ?_ (Nat.le_refl _) (Nat.le_refl _), ((e_g.trans E1).trans E2).trans E3⟩
    have := ((e_g.trans E1).trans E2).le
    omega
theorem implShowReply_c (h : IH) (st : Int) (v w : IV) (fs : List Fld) (body : List UInt8) (hs : SlR h 2 v (fldRows fs)) (hw : SlR h 1 w (strRows body)) (hm : fs.length ≤ 1048576) (hF : FldS fs) :
    ICalls Tryz.prog 18 [.agg [.int .i64 st, v, w]] h fun r h' => BytesR h h' r (showReply st fs body) := by
  refine icalls (.of ok18) (Nat.le_of_ble_eq_true rfl) ?_
  unfold c18
  have v1 := hs.one
  have v2 := hw.one
  simp (disch := (first | omega | assumption | (simp only [push_n, set_n, put_n, List.length_cons, List.length_nil, List.length_append, Nat.reduceAdd]; done) | (simp only [push_n, set_n, put_n, List.length_cons, List.length_nil, List.length_append]; omega) | (simp only [List.all_cons, List.all_nil, one_bool, one_int, one_str, one_ptr, one_nilptr, one_slice, one_eslice, one_nilslice, one_func, one_iface, one_niliface, Bool.and_true, Bool.true_and, List.getD_cons_zero, List.getD_cons_succ, List.contains_cons, List.contains_nil, Bool.or_true, Bool.true_or, Bool.or_false, Bool.false_or, Nat.reduceBEq, *]; done) | fail)) only [v1, v2, go_sem, Hold.p, HoldK.k, HoldL.K, HoldL.body, Nat.reduceBEq, Nat.reduceAdd, reduceIte]
  generalize hq_g : IH.push h (repObj st v w) = g
  have e_g : Ext h g := by rw [← hq_g]; exact (Ext.refl _).push _
  have l_g : g.n = h.n + 1 := by rw [← hq_g]; rfl
  have b : At g h.n (repObj st v w) := by rw [← hq_g]; exact At.new _ _
  clear hq_g
  have hs := hs.ext e_g
  have hw := hw.ext e_g
  have q := b.eq
  try simp (disch := (first | omega | assumption | (simp only [push_n, set_n, put_n, List.length_cons, List.length_nil, List.length_append, Nat.reduceAdd]; done) | (simp only [push_n, set_n, put_n, List.length_cons, List.length_nil, List.length_append]; omega) | (simp only [List.all_cons, List.all_nil, one_bool, one_int, one_str, one_ptr, one_nilptr, one_slice, one_eslice, one_nilslice, one_func, one_iface, one_niliface, Bool.and_true, Bool.true_and, List.getD_cons_zero, List.getD_cons_succ, List.contains_cons, List.contains_nil, Bool.or_true, Bool.true_or, Bool.or_false, Bool.false_or, Nat.reduceBEq, *]; done) | fail)) only [q, go_sem, Hold.p, HoldK.k, HoldL.K, HoldL.body, Nat.reduceBEq, Nat.reduceAdd, reduceIte]
  refine callA_of (implReplyOK_c g st v w fs body hs hw hm hF) ?_
  rintro r g1 ⟨rfl, E1⟩
  have b := b.ext E1
  have hs := hs.ext E1
  have hw := hw.ext E1
  have le_E1 := E1.le
  simp (disch := (first | omega | assumption | (simp only [push_n, set_n, put_n, List.length_cons, List.length_nil, List.length_append, Nat.reduceAdd]; done) | (simp only [push_n, set_n, put_n, List.length_cons, List.length_nil, List.length_append]; omega) | (simp only [List.all_cons, List.all_nil, one_bool, one_int, one_str, one_ptr, one_nilptr, one_slice, one_eslice, one_nilslice, one_func, one_iface, one_niliface, Bool.and_true, Bool.true_and, List.getD_cons_zero, List.getD_cons_succ, List.contains_cons, List.contains_nil, Bool.or_true, Bool.true_or, Bool.or_false, Bool.false_or, Nat.reduceBEq, *]; done) | fail)) only [go_sem, Hold.p, HoldK.k, HoldL.K, HoldL.body, Nat.reduceBEq, Nat.reduceAdd, reduceIte]
  unfold showReply
  refine test_of (fun hc => ?_) (fun hc => ?_)
  · have hc' : replyB st fs body.length = false := by rwa [Bool.not_eq_true'] at hc
    simp (disch := (first | omega | assumption | (simp only [push_n, set_n, put_n, List.length_cons, List.length_nil, List.length_append, Nat.reduceAdd]; done) | (simp only [push_n, set_n, put_n, List.length_cons, List.length_nil, List.length_append]; omega) | (simp only [List.all_cons, List.all_nil, one_bool, one_int, one_str, one_ptr, one_nilptr, one_slice, one_eslice, one_nilslice, one_func, one_iface, one_niliface, Bool.and_true, Bool.true_and, List.getD_cons_zero, List.getD_cons_succ, List.contains_cons, List.contains_nil, Bool.or_true, Bool.true_or, Bool.or_false, Bool.false_or, Nat.reduceBEq, *]; done) | fail)) only [go_sem, Hold.p, HoldK.k, HoldL.K, HoldL.body, Nat.reduceBEq, Nat.reduceAdd, reduceIte]
    rw [hc', if_neg (by simp)]
    exact ⟨_, rfl, Own.nil, e_g.trans E1⟩
  · have hc' : replyB st fs body.length = true := by rwa [Bool.not_eq_false'] at hc
    rw [hc', if_pos rfl]
    obtain ⟨s1, s2, hR⟩ := replyB_un hc'
    have n1 := numI_len (n := st) (by omega)
    have q1 := b.eq
    simp (disch := (first | omega | assumption | (simp only [push_n, set_n, put_n, List.length_cons, List.length_nil, List.length_append, Nat.reduceAdd]; done) | (simp only [push_n, set_n, put_n, List.length_cons, List.length_nil, List.length_append]; omega) | (simp only [List.all_cons, List.all_nil, one_bool, one_int, one_str, one_ptr, one_nilptr, one_slice, one_eslice, one_nilslice, one_func, one_iface, one_niliface, Bool.and_true, Bool.true_and, List.getD_cons_zero, List.getD_cons_succ, List.contains_cons, List.contains_nil, Bool.or_true, Bool.true_or, Bool.or_false, Bool.false_or, Nat.reduceBEq, *]; done) | fail)) only [q1, go_sem, Hold.p, HoldK.k, HoldL.K, HoldL.body, Nat.reduceBEq, Nat.reduceAdd, reduceIte]
    refine callA_of (implNum_c g1 (n := st) (by omega) (by omega)) ?_
    rintro r g2 ⟨rfl, rfl⟩
    simp (disch := (first | omega | assumption | (simp only [push_n, set_n, put_n, List.length_cons, List.length_nil, List.length_append, Nat.reduceAdd]; done) | (simp only [push_n, set_n, put_n, List.length_cons, List.length_nil, List.length_append]; omega) | (simp only [List.all_cons, List.all_nil, one_bool, one_int, one_str, one_ptr, one_nilptr, one_slice, one_eslice, one_nilslice, one_func, one_iface, one_niliface, Bool.and_true, Bool.true_and, List.getD_cons_zero, List.getD_cons_succ, List.contains_cons, List.contains_nil, Bool.or_true, Bool.true_or, Bool.or_false, Bool.false_or, Nat.reduceBEq, *]; done) | fail)) only [q1, cat3, go_sem, Hold.p, HoldK.k, HoldL.K, HoldL.body, Nat.reduceBEq, Nat.reduceAdd, reduceIte]
    refine callA_of (implMessage_c _ _ v w fs body hs hw hR (by simp; omega)) ?_
    rintro r g3 ⟨o, E3⟩
    simp (disch := (first | omega | assumption | (simp only [push_n, set_n, put_n, List.length_cons, List.length_nil, List.length_append, Nat.reduceAdd]; done) | (simp only [push_n, set_n, put_n, List.length_cons, List.length_nil, List.length_append]; omega) | (simp only [List.all_cons, List.all_nil, one_bool, one_int, one_str, one_ptr, one_nilptr, one_slice, one_eslice, one_nilslice, one_func, one_iface, one_niliface, Bool.and_true, Bool.true_and, List.getD_cons_zero, List.getD_cons_succ, List.contains_cons, List.contains_nil, Bool.or_true, Bool.true_or, Bool.or_false, Bool.false_or, Nat.reduceBEq, *]; done) | fail)) only [go_sem, Hold.p, HoldK.k, HoldL.K, HoldL.body, Nat.reduceBEq, Nat.reduceAdd, reduceIte]
    refine ⟨r, rfl, o.wide ?_ (Nat.le_refl _) (Nat.le_refl _), (e_g.trans E1).trans E3⟩
    have := (e_g.trans E1).le
    omega

/-! Requests. -/
def reqB (vb p : List UInt8) (fs : List Fld) (b : Nat) : Bool := (verbB vb && pathOK p) && restB fs b
def showReq (vb p : List UInt8) (fs : List Fld) (body : List UInt8) : List UInt8 × Int := if reqB vb p fs body.length = true then (message (vb ++ [32] ++ p) fs body, 0) else ([], 1)
abbrev reqObj (vb p : List UInt8) (v w : IV) : IObj := .rows [[.str vb, .str p, v, w]] 38 4 false
theorem specReqOK_c (h : IH) (vb p : List UInt8) (v w : IV) (fs : List Fld) (body : List UInt8) (hs : SlR h 2 v (fldRows fs)) (hw : SlR h 1 w (strRows body)) (hp : p.length ≤ 1048576) (hm : fs.length ≤ 1048576) (hF : FldS fs) :
    ICalls Tryz.prog 44 [.agg [.str vb, .str p, v, w]] h fun r h' => r = .bool (reqB vb p fs body.length) ∧ Ext h h' := by
  refine icalls (.of ok44) (Nat.le_of_ble_eq_true rfl) ?_
  unfold c44
  have v1 := hs.one
  have v2 := hw.one
  simp (disch := (first | omega | assumption | (simp only [push_n, set_n, put_n, List.length_cons, List.length_nil, List.length_append, Nat.reduceAdd]; done) | (simp only [push_n, set_n, put_n, List.length_cons, List.length_nil, List.length_append]; omega) | (simp only [List.all_cons, List.all_nil, one_bool, one_int, one_str, one_ptr, one_nilptr, one_slice, one_eslice, one_nilslice, one_func, one_iface, one_niliface, Bool.and_true, Bool.true_and, List.getD_cons_zero, List.getD_cons_succ, List.contains_cons, List.contains_nil, Bool.or_true, Bool.true_or, Bool.or_false, Bool.false_or, Nat.reduceBEq, *]; done) | fail)) only [v1, v2, go_sem, Hold.p, HoldK.k, HoldL.K, HoldL.body, Nat.reduceBEq, Nat.reduceAdd, reduceIte]
  generalize hq_g : IH.push h (reqObj vb p v w) = g
  have e_g : Ext h g := by rw [← hq_g]; exact (Ext.refl _).push _
  have l_g : g.n = h.n + 1 := by rw [← hq_g]; rfl
  have b : At g h.n (reqObj vb p v w) := by rw [← hq_g]; exact At.new _ _
  clear hq_g
  have hs := hs.ext e_g
  have hw := hw.ext e_g
  have q := b.eq
  try simp (disch := (first | omega | assumption | (simp only [push_n, set_n, put_n, List.length_cons, List.length_nil, List.length_append, Nat.reduceAdd]; done) | (simp only [push_n, set_n, put_n, List.length_cons, List.length_nil, List.length_append]; omega) | (simp only [List.all_cons, List.all_nil, one_bool, one_int, one_str, one_ptr, one_nilptr, one_slice, one_eslice, one_nilslice, one_func, one_iface, one_niliface, Bool.and_true, Bool.true_and, List.getD_cons_zero, List.getD_cons_succ, List.contains_cons, List.contains_nil, Bool.or_true, Bool.true_or, Bool.or_false, Bool.false_or, Nat.reduceBEq, *]; done) | fail)) only [q, go_sem, Hold.p, HoldK.k, HoldL.K, HoldL.body, Nat.reduceBEq, Nat.reduceAdd, reduceIte]
  refine callA_of (verbOK_c g vb) ?_
  rintro r g1 ⟨rfl, rfl⟩
  simp (disch := (first | omega | assumption | (simp only [push_n, set_n, put_n, List.length_cons, List.length_nil, List.length_append, Nat.reduceAdd]; done) | (simp only [push_n, set_n, put_n, List.length_cons, List.length_nil, List.length_append]; omega) | (simp only [List.all_cons, List.all_nil, one_bool, one_int, one_str, one_ptr, one_nilptr, one_slice, one_eslice, one_nilslice, one_func, one_iface, one_niliface, Bool.and_true, Bool.true_and, List.getD_cons_zero, List.getD_cons_succ, List.contains_cons, List.contains_nil, Bool.or_true, Bool.true_or, Bool.or_false, Bool.false_or, Nat.reduceBEq, *]; done) | fail)) only [q, go_sem, Hold.p, HoldK.k, HoldL.K, HoldL.body, Nat.reduceBEq, Nat.reduceAdd, reduceIte]
  refine guard_pureT (v := .bool (pathOK p)) (fun hb => ?_) ?_
  · simp (disch := (first | omega | assumption | (simp only [push_n, set_n, put_n, List.length_cons, List.length_nil, List.length_append, Nat.reduceAdd]; done) | (simp only [push_n, set_n, put_n, List.length_cons, List.length_nil, List.length_append]; omega) | (simp only [List.all_cons, List.all_nil, one_bool, one_int, one_str, one_ptr, one_nilptr, one_slice, one_eslice, one_nilslice, one_func, one_iface, one_niliface, Bool.and_true, Bool.true_and, List.getD_cons_zero, List.getD_cons_succ, List.contains_cons, List.contains_nil, Bool.or_true, Bool.true_or, Bool.or_false, Bool.false_or, Nat.reduceBEq, *]; done) | fail)) only [hb, go_sem, Hold.p, HoldK.k, HoldL.K, HoldL.body, Nat.reduceBEq, Nat.reduceAdd, reduceIte]
    exact specPathOK_c _ p hp
  simp (disch := (first | omega | assumption | (simp only [push_n, set_n, put_n, List.length_cons, List.length_nil, List.length_append, Nat.reduceAdd]; done) | (simp only [push_n, set_n, put_n, List.length_cons, List.length_nil, List.length_append]; omega) | (simp only [List.all_cons, List.all_nil, one_bool, one_int, one_str, one_ptr, one_nilptr, one_slice, one_eslice, one_nilslice, one_func, one_iface, one_niliface, Bool.and_true, Bool.true_and, List.getD_cons_zero, List.getD_cons_succ, List.contains_cons, List.contains_nil, Bool.or_true, Bool.true_or, Bool.or_false, Bool.false_or, Nat.reduceBEq, *]; done) | fail)) only [q, go_sem, Hold.p, HoldK.k, HoldL.K, HoldL.body, Nat.reduceBEq, Nat.reduceAdd, reduceIte]
  refine guard_extT (v := .bool (restB fs body.length)) (fun hb => ?_) (fun g2 E => ?_)
  · simp (disch := (first | omega | assumption | (simp only [push_n, set_n, put_n, List.length_cons, List.length_nil, List.length_append, Nat.reduceAdd]; done) | (simp only [push_n, set_n, put_n, List.length_cons, List.length_nil, List.length_append]; omega) | (simp only [List.all_cons, List.all_nil, one_bool, one_int, one_str, one_ptr, one_nilptr, one_slice, one_eslice, one_nilslice, one_func, one_iface, one_niliface, Bool.and_true, Bool.true_and, List.getD_cons_zero, List.getD_cons_succ, List.contains_cons, List.contains_nil, Bool.or_true, Bool.true_or, Bool.or_false, Bool.false_or, Nat.reduceBEq, *]; done) | fail)) only [hb, go_sem, Hold.p, HoldK.k, HoldL.K, HoldL.body, Nat.reduceBEq, Nat.reduceAdd, reduceIte]
    exact specRest_c _ v w fs body hs hw hm hF
  simp (disch := (first | omega | assumption | (simp only [push_n, set_n, put_n, List.length_cons, List.length_nil, List.length_append, Nat.reduceAdd]; done) | (simp only [push_n, set_n, put_n, List.length_cons, List.length_nil, List.length_append]; omega) | (simp only [List.all_cons, List.all_nil, one_bool, one_int, one_str, one_ptr, one_nilptr, one_slice, one_eslice, one_nilslice, one_func, one_iface, one_niliface, Bool.and_true, Bool.true_and, List.getD_cons_zero, List.getD_cons_succ, List.contains_cons, List.contains_nil, Bool.or_true, Bool.true_or, Bool.or_false, Bool.false_or, Nat.reduceBEq, *]; done) | fail)) only [go_sem, Hold.p, HoldK.k, HoldL.K, HoldL.body, Nat.reduceBEq, Nat.reduceAdd, reduceIte]
  exact ⟨rfl, e_g.trans E⟩
theorem implReqOK_c (h : IH) (vb p : List UInt8) (v w : IV) (fs : List Fld) (body : List UInt8) (hs : SlR h 2 v (fldRows fs)) (hw : SlR h 1 w (strRows body)) (hp : p.length ≤ 1048576) (hm : fs.length ≤ 1048576) (hF : FldS fs) :
    ICalls Tryz.prog 46 [.agg [.str vb, .str p, v, w]] h fun r h' => r = .bool (reqB vb p fs body.length) ∧ Ext h h' := by
  refine icalls (.of ok46) (Nat.le_of_ble_eq_true rfl) ?_
  unfold c46
  have v1 := hs.one
  have v2 := hw.one
  simp (disch := (first | omega | assumption | (simp only [push_n, set_n, put_n, List.length_cons, List.length_nil, List.length_append, Nat.reduceAdd]; done) | (simp only [push_n, set_n, put_n, List.length_cons, List.length_nil, List.length_append]; omega) | (simp only [List.all_cons, List.all_nil, one_bool, one_int, one_str, one_ptr, one_nilptr, one_slice, one_eslice, one_nilslice, one_func, one_iface, one_niliface, Bool.and_true, Bool.true_and, List.getD_cons_zero, List.getD_cons_succ, List.contains_cons, List.contains_nil, Bool.or_true, Bool.true_or, Bool.or_false, Bool.false_or, Nat.reduceBEq, *]; done) | fail)) only [v1, v2, go_sem, Hold.p, HoldK.k, HoldL.K, HoldL.body, Nat.reduceBEq, Nat.reduceAdd, reduceIte]
  generalize hq_g : IH.push h (reqObj vb p v w) = g
  have e_g : Ext h g := by rw [← hq_g]; exact (Ext.refl _).push _
  have l_g : g.n = h.n + 1 := by rw [← hq_g]; rfl
  have b : At g h.n (reqObj vb p v w) := by rw [← hq_g]; exact At.new _ _
  clear hq_g
  have hs := hs.ext e_g
  have hw := hw.ext e_g
  have q := b.eq
  try simp (disch := (first | omega | assumption | (simp only [push_n, set_n, put_n, List.length_cons, List.length_nil, List.length_append, Nat.reduceAdd]; done) | (simp only [push_n, set_n, put_n, List.length_cons, List.length_nil, List.length_append]; omega) | (simp only [List.all_cons, List.all_nil, one_bool, one_int, one_str, one_ptr, one_nilptr, one_slice, one_eslice, one_nilslice, one_func, one_iface, one_niliface, Bool.and_true, Bool.true_and, List.getD_cons_zero, List.getD_cons_succ, List.contains_cons, List.contains_nil, Bool.or_true, Bool.true_or, Bool.or_false, Bool.false_or, Nat.reduceBEq, *]; done) | fail)) only [q, go_sem, Hold.p, HoldK.k, HoldL.K, HoldL.body, Nat.reduceBEq, Nat.reduceAdd, reduceIte]
  have hvb : (((decide (vb = [103, 101, 116]) || decide (vb = [112, 117, 116])) || decide (vb = [100, 101, 108, 101, 116, 101])) || decide (vb = [108, 105, 115, 116])) = verbB vb := rfl
  rw [hvb]
  refine guard_extT (v := .bool (pathOK p)) (fun hb => ?_) (fun g1 E1 => ?_)
  · simp (disch := (first | omega | assumption | (simp only [push_n, set_n, put_n, List.length_cons, List.length_nil, List.length_append, Nat.reduceAdd]; done) | (simp only [push_n, set_n, put_n, List.length_cons, List.length_nil, List.length_append]; omega) | (simp only [List.all_cons, List.all_nil, one_bool, one_int, one_str, one_ptr, one_nilptr, one_slice, one_eslice, one_nilslice, one_func, one_iface, one_niliface, Bool.and_true, Bool.true_and, List.getD_cons_zero, List.getD_cons_succ, List.contains_cons, List.contains_nil, Bool.or_true, Bool.true_or, Bool.or_false, Bool.false_or, Nat.reduceBEq, *]; done) | fail)) only [hb, go_sem, Hold.p, HoldK.k, HoldL.K, HoldL.body, Nat.reduceBEq, Nat.reduceAdd, reduceIte]
    exact implPathOK_c _ p hp
  have b := b.ext E1
  have hs := hs.ext E1
  have hw := hw.ext E1
  have le_E1 := E1.le
  have q := b.eq
  simp (disch := (first | omega | assumption | (simp only [push_n, set_n, put_n, List.length_cons, List.length_nil, List.length_append, Nat.reduceAdd]; done) | (simp only [push_n, set_n, put_n, List.length_cons, List.length_nil, List.length_append]; omega) | (simp only [List.all_cons, List.all_nil, one_bool, one_int, one_str, one_ptr, one_nilptr, one_slice, one_eslice, one_nilslice, one_func, one_iface, one_niliface, Bool.and_true, Bool.true_and, List.getD_cons_zero, List.getD_cons_succ, List.contains_cons, List.contains_nil, Bool.or_true, Bool.true_or, Bool.or_false, Bool.false_or, Nat.reduceBEq, *]; done) | fail)) only [q, go_sem, Hold.p, HoldK.k, HoldL.K, HoldL.body, Nat.reduceBEq, Nat.reduceAdd, reduceIte]
  refine guard_extT (v := .bool (restB fs body.length)) (fun hb => ?_) (fun g2 E => ?_)
  · simp (disch := (first | omega | assumption | (simp only [push_n, set_n, put_n, List.length_cons, List.length_nil, List.length_append, Nat.reduceAdd]; done) | (simp only [push_n, set_n, put_n, List.length_cons, List.length_nil, List.length_append]; omega) | (simp only [List.all_cons, List.all_nil, one_bool, one_int, one_str, one_ptr, one_nilptr, one_slice, one_eslice, one_nilslice, one_func, one_iface, one_niliface, Bool.and_true, Bool.true_and, List.getD_cons_zero, List.getD_cons_succ, List.contains_cons, List.contains_nil, Bool.or_true, Bool.true_or, Bool.or_false, Bool.false_or, Nat.reduceBEq, *]; done) | fail)) only [hb, go_sem, Hold.p, HoldK.k, HoldL.K, HoldL.body, Nat.reduceBEq, Nat.reduceAdd, reduceIte]
    exact implRest_c _ v w fs body hs hw hm hF
  simp (disch := (first | omega | assumption | (simp only [push_n, set_n, put_n, List.length_cons, List.length_nil, List.length_append, Nat.reduceAdd]; done) | (simp only [push_n, set_n, put_n, List.length_cons, List.length_nil, List.length_append]; omega) | (simp only [List.all_cons, List.all_nil, one_bool, one_int, one_str, one_ptr, one_nilptr, one_slice, one_eslice, one_nilslice, one_func, one_iface, one_niliface, Bool.and_true, Bool.true_and, List.getD_cons_zero, List.getD_cons_succ, List.contains_cons, List.contains_nil, Bool.or_true, Bool.true_or, Bool.or_false, Bool.false_or, Nat.reduceBEq, *]; done) | fail)) only [go_sem, Hold.p, HoldK.k, HoldL.K, HoldL.body, Nat.reduceBEq, Nat.reduceAdd, reduceIte]
  exact ⟨rfl, (e_g.trans E1).trans E⟩
theorem reqB_un {vb p : List UInt8} {fs : List Fld} {b : Nat} (h : reqB vb p fs b = true) : vb.length ≤ 6 ∧ p.length ≤ 200 ∧ restB fs b = true := by
  unfold reqB verbB at h
  simp only [Bool.and_eq_true, Bool.or_eq_true, decide_eq_true_eq] at h
  refine ⟨?_, ?_, h.2⟩
  · rcases h.1.1 with ((h1 | h1) | h1) | h1 <;> subst h1 <;> simp
  · have := h.1.2
    unfold pathOK at this
    simp only [Bool.and_eq_true, decide_eq_true_eq] at this
    exact this.1.1.2
theorem specShowReq_c (h : IH) (vb p : List UInt8) (v w : IV) (fs : List Fld) (body : List UInt8) (hs : SlR h 2 v (fldRows fs)) (hw : SlR h 1 w (strRows body)) (hp : p.length ≤ 1048576) (hm : fs.length ≤ 1048576) (hF : FldS fs) :
    ICalls Tryz.prog 11 [.agg [.str vb, .str p, v, w]] h fun r h' => BytesR h h' r (showReq vb p fs body) := by
  refine icalls (.of ok11) (Nat.le_of_ble_eq_true rfl) ?_
  unfold c11
  have v1 := hs.one
  have v2 := hw.one
  simp (disch := (first | omega | assumption | (simp only [push_n, set_n, put_n, List.length_cons, List.length_nil, List.length_append, Nat.reduceAdd]; done) | (simp only [push_n, set_n, put_n, List.length_cons, List.length_nil, List.length_append]; omega) | (simp only [List.all_cons, List.all_nil, one_bool, one_int, one_str, one_ptr, one_nilptr, one_slice, one_eslice, one_nilslice, one_func, one_iface, one_niliface, Bool.and_true, Bool.true_and, List.getD_cons_zero, List.getD_cons_succ, List.contains_cons, List.contains_nil, Bool.or_true, Bool.true_or, Bool.or_false, Bool.false_or, Nat.reduceBEq, *]; done) | fail)) only [v1, v2, go_sem, Hold.p, HoldK.k, HoldL.K, HoldL.body, Nat.reduceBEq, Nat.reduceAdd, reduceIte]
  generalize hq_g : IH.push h (reqObj vb p v w) = g
  have e_g : Ext h g := by rw [← hq_g]; exact (Ext.refl _).push _
  have l_g : g.n = h.n + 1 := by rw [← hq_g]; rfl
  have b : At g h.n (reqObj vb p v w) := by rw [← hq_g]; exact At.new _ _
  clear hq_g
  have hs := hs.ext e_g
  have hw := hw.ext e_g
  have q := b.eq
  try simp (disch := (first | omega | assumption | (simp only [push_n, set_n, put_n, List.length_cons, List.length_nil, List.length_append, Nat.reduceAdd]; done) | (simp only [push_n, set_n, put_n, List.length_cons, List.length_nil, List.length_append]; omega) | (simp only [List.all_cons, List.all_nil, one_bool, one_int, one_str, one_ptr, one_nilptr, one_slice, one_eslice, one_nilslice, one_func, one_iface, one_niliface, Bool.and_true, Bool.true_and, List.getD_cons_zero, List.getD_cons_succ, List.contains_cons, List.contains_nil, Bool.or_true, Bool.true_or, Bool.or_false, Bool.false_or, Nat.reduceBEq, *]; done) | fail)) only [q, go_sem, Hold.p, HoldK.k, HoldL.K, HoldL.body, Nat.reduceBEq, Nat.reduceAdd, reduceIte]
  refine callA_of (specReqOK_c g vb p v w fs body hs hw hp hm hF) ?_
  rintro r g1 ⟨rfl, E1⟩
  have b := b.ext E1
  have hs := hs.ext E1
  have hw := hw.ext E1
  have le_E1 := E1.le
  simp (disch := (first | omega | assumption | (simp only [push_n, set_n, put_n, List.length_cons, List.length_nil, List.length_append, Nat.reduceAdd]; done) | (simp only [push_n, set_n, put_n, List.length_cons, List.length_nil, List.length_append]; omega) | (simp only [List.all_cons, List.all_nil, one_bool, one_int, one_str, one_ptr, one_nilptr, one_slice, one_eslice, one_nilslice, one_func, one_iface, one_niliface, Bool.and_true, Bool.true_and, List.getD_cons_zero, List.getD_cons_succ, List.contains_cons, List.contains_nil, Bool.or_true, Bool.true_or, Bool.or_false, Bool.false_or, Nat.reduceBEq, *]; done) | fail)) only [go_sem, Hold.p, HoldK.k, HoldL.K, HoldL.body, Nat.reduceBEq, Nat.reduceAdd, reduceIte]
  unfold showReq
  refine test_of (fun hc => ?_) (fun hc => ?_)
  · have hc' : reqB vb p fs body.length = false := by rwa [Bool.not_eq_true'] at hc
    simp (disch := (first | omega | assumption | (simp only [push_n, set_n, put_n, List.length_cons, List.length_nil, List.length_append, Nat.reduceAdd]; done) | (simp only [push_n, set_n, put_n, List.length_cons, List.length_nil, List.length_append]; omega) | (simp only [List.all_cons, List.all_nil, one_bool, one_int, one_str, one_ptr, one_nilptr, one_slice, one_eslice, one_nilslice, one_func, one_iface, one_niliface, Bool.and_true, Bool.true_and, List.getD_cons_zero, List.getD_cons_succ, List.contains_cons, List.contains_nil, Bool.or_true, Bool.true_or, Bool.or_false, Bool.false_or, Nat.reduceBEq, *]; done) | fail)) only [go_sem, Hold.p, HoldK.k, HoldL.K, HoldL.body, Nat.reduceBEq, Nat.reduceAdd, reduceIte]
    rw [hc', if_neg (by simp)]
    exact ⟨_, rfl, Own.nil, e_g.trans E1⟩
  · have hc' : reqB vb p fs body.length = true := by rwa [Bool.not_eq_false'] at hc
    rw [hc', if_pos rfl]
    obtain ⟨s1, s2, hR⟩ := reqB_un hc'
    have q1 := b.eq
    simp (disch := (first | omega | assumption | (simp only [push_n, set_n, put_n, List.length_cons, List.length_nil, List.length_append, Nat.reduceAdd]; done) | (simp only [push_n, set_n, put_n, List.length_cons, List.length_nil, List.length_append]; omega) | (simp only [List.all_cons, List.all_nil, one_bool, one_int, one_str, one_ptr, one_nilptr, one_slice, one_eslice, one_nilslice, one_func, one_iface, one_niliface, Bool.and_true, Bool.true_and, List.getD_cons_zero, List.getD_cons_succ, List.contains_cons, List.contains_nil, Bool.or_true, Bool.true_or, Bool.or_false, Bool.false_or, Nat.reduceBEq, *]; done) | fail)) only [q1, cat3, go_sem, Hold.p, HoldK.k, HoldL.K, HoldL.body, Nat.reduceBEq, Nat.reduceAdd, reduceIte]
    refine callA_of (specMessage_c _ _ v w fs body hs hw hR (by simp; omega)) ?_
    rintro r g3 ⟨o, E3⟩
    simp (disch := (first | omega | assumption | (simp only [push_n, set_n, put_n, List.length_cons, List.length_nil, List.length_append, Nat.reduceAdd]; done) | (simp only [push_n, set_n, put_n, List.length_cons, List.length_nil, List.length_append]; omega) | (simp only [List.all_cons, List.all_nil, one_bool, one_int, one_str, one_ptr, one_nilptr, one_slice, one_eslice, one_nilslice, one_func, one_iface, one_niliface, Bool.and_true, Bool.true_and, List.getD_cons_zero, List.getD_cons_succ, List.contains_cons, List.contains_nil, Bool.or_true, Bool.true_or, Bool.or_false, Bool.false_or, Nat.reduceBEq, *]; done) | fail)) only [go_sem, Hold.p, HoldK.k, HoldL.K, HoldL.body, Nat.reduceBEq, Nat.reduceAdd, reduceIte]
    refine ⟨r, rfl, o.wide ?_ (Nat.le_refl _) (Nat.le_refl _), (e_g.trans E1).trans E3⟩
    have := (e_g.trans E1).le
    omega
theorem implShowReq_c (h : IH) (vb p : List UInt8) (v w : IV) (fs : List Fld) (body : List UInt8) (hs : SlR h 2 v (fldRows fs)) (hw : SlR h 1 w (strRows body)) (hp : p.length ≤ 1048576) (hm : fs.length ≤ 1048576) (hF : FldS fs) :
    ICalls Tryz.prog 12 [.agg [.str vb, .str p, v, w]] h fun r h' => BytesR h h' r (showReq vb p fs body) := by
  refine icalls (.of ok12) (Nat.le_of_ble_eq_true rfl) ?_
  unfold c12
  have v1 := hs.one
  have v2 := hw.one
  simp (disch := (first | omega | assumption | (simp only [push_n, set_n, put_n, List.length_cons, List.length_nil, List.length_append, Nat.reduceAdd]; done) | (simp only [push_n, set_n, put_n, List.length_cons, List.length_nil, List.length_append]; omega) | (simp only [List.all_cons, List.all_nil, one_bool, one_int, one_str, one_ptr, one_nilptr, one_slice, one_eslice, one_nilslice, one_func, one_iface, one_niliface, Bool.and_true, Bool.true_and, List.getD_cons_zero, List.getD_cons_succ, List.contains_cons, List.contains_nil, Bool.or_true, Bool.true_or, Bool.or_false, Bool.false_or, Nat.reduceBEq, *]; done) | fail)) only [v1, v2, go_sem, Hold.p, HoldK.k, HoldL.K, HoldL.body, Nat.reduceBEq, Nat.reduceAdd, reduceIte]
  generalize hq_g : IH.push h (reqObj vb p v w) = g
  have e_g : Ext h g := by rw [← hq_g]; exact (Ext.refl _).push _
  have l_g : g.n = h.n + 1 := by rw [← hq_g]; rfl
  have b : At g h.n (reqObj vb p v w) := by rw [← hq_g]; exact At.new _ _
  clear hq_g
  have hs := hs.ext e_g
  have hw := hw.ext e_g
  have q := b.eq
  try simp (disch := (first | omega | assumption | (simp only [push_n, set_n, put_n, List.length_cons, List.length_nil, List.length_append, Nat.reduceAdd]; done) | (simp only [push_n, set_n, put_n, List.length_cons, List.length_nil, List.length_append]; omega) | (simp only [List.all_cons, List.all_nil, one_bool, one_int, one_str, one_ptr, one_nilptr, one_slice, one_eslice, one_nilslice, one_func, one_iface, one_niliface, Bool.and_true, Bool.true_and, List.getD_cons_zero, List.getD_cons_succ, List.contains_cons, List.contains_nil, Bool.or_true, Bool.true_or, Bool.or_false, Bool.false_or, Nat.reduceBEq, *]; done) | fail)) only [q, go_sem, Hold.p, HoldK.k, HoldL.K, HoldL.body, Nat.reduceBEq, Nat.reduceAdd, reduceIte]
  refine callA_of (implReqOK_c g vb p v w fs body hs hw hp hm hF) ?_
  rintro r g1 ⟨rfl, E1⟩
  have b := b.ext E1
  have hs := hs.ext E1
  have hw := hw.ext E1
  have le_E1 := E1.le
  simp (disch := (first | omega | assumption | (simp only [push_n, set_n, put_n, List.length_cons, List.length_nil, List.length_append, Nat.reduceAdd]; done) | (simp only [push_n, set_n, put_n, List.length_cons, List.length_nil, List.length_append]; omega) | (simp only [List.all_cons, List.all_nil, one_bool, one_int, one_str, one_ptr, one_nilptr, one_slice, one_eslice, one_nilslice, one_func, one_iface, one_niliface, Bool.and_true, Bool.true_and, List.getD_cons_zero, List.getD_cons_succ, List.contains_cons, List.contains_nil, Bool.or_true, Bool.true_or, Bool.or_false, Bool.false_or, Nat.reduceBEq, *]; done) | fail)) only [go_sem, Hold.p, HoldK.k, HoldL.K, HoldL.body, Nat.reduceBEq, Nat.reduceAdd, reduceIte]
  unfold showReq
  refine test_of (fun hc => ?_) (fun hc => ?_)
  · have hc' : reqB vb p fs body.length = false := by rwa [Bool.not_eq_true'] at hc
    simp (disch := (first | omega | assumption | (simp only [push_n, set_n, put_n, List.length_cons, List.length_nil, List.length_append, Nat.reduceAdd]; done) | (simp only [push_n, set_n, put_n, List.length_cons, List.length_nil, List.length_append]; omega) | (simp only [List.all_cons, List.all_nil, one_bool, one_int, one_str, one_ptr, one_nilptr, one_slice, one_eslice, one_nilslice, one_func, one_iface, one_niliface, Bool.and_true, Bool.true_and, List.getD_cons_zero, List.getD_cons_succ, List.contains_cons, List.contains_nil, Bool.or_true, Bool.true_or, Bool.or_false, Bool.false_or, Nat.reduceBEq, *]; done) | fail)) only [go_sem, Hold.p, HoldK.k, HoldL.K, HoldL.body, Nat.reduceBEq, Nat.reduceAdd, reduceIte]
    rw [hc', if_neg (by simp)]
    exact ⟨_, rfl, Own.nil, e_g.trans E1⟩
  · have hc' : reqB vb p fs body.length = true := by rwa [Bool.not_eq_false'] at hc
    rw [hc', if_pos rfl]
    obtain ⟨s1, s2, hR⟩ := reqB_un hc'
    have q1 := b.eq
    simp (disch := (first | omega | assumption | (simp only [push_n, set_n, put_n, List.length_cons, List.length_nil, List.length_append, Nat.reduceAdd]; done) | (simp only [push_n, set_n, put_n, List.length_cons, List.length_nil, List.length_append]; omega) | (simp only [List.all_cons, List.all_nil, one_bool, one_int, one_str, one_ptr, one_nilptr, one_slice, one_eslice, one_nilslice, one_func, one_iface, one_niliface, Bool.and_true, Bool.true_and, List.getD_cons_zero, List.getD_cons_succ, List.contains_cons, List.contains_nil, Bool.or_true, Bool.true_or, Bool.or_false, Bool.false_or, Nat.reduceBEq, *]; done) | fail)) only [q1, cat3, go_sem, Hold.p, HoldK.k, HoldL.K, HoldL.body, Nat.reduceBEq, Nat.reduceAdd, reduceIte]
    refine callA_of (implMessage_c _ _ v w fs body hs hw hR (by simp; omega)) ?_
    rintro r g3 ⟨o, E3⟩
    simp (disch := (first | omega | assumption | (simp only [push_n, set_n, put_n, List.length_cons, List.length_nil, List.length_append, Nat.reduceAdd]; done) | (simp only [push_n, set_n, put_n, List.length_cons, List.length_nil, List.length_append]; omega) | (simp only [List.all_cons, List.all_nil, one_bool, one_int, one_str, one_ptr, one_nilptr, one_slice, one_eslice, one_nilslice, one_func, one_iface, one_niliface, Bool.and_true, Bool.true_and, List.getD_cons_zero, List.getD_cons_succ, List.contains_cons, List.contains_nil, Bool.or_true, Bool.true_or, Bool.or_false, Bool.false_or, Nat.reduceBEq, *]; done) | fail)) only [go_sem, Hold.p, HoldK.k, HoldL.K, HoldL.body, Nat.reduceBEq, Nat.reduceAdd, reduceIte]
    refine ⟨r, rfl, o.wide ?_ (Nat.le_refl _) (Nat.le_refl _), (e_g.trans E1).trans E3⟩
    have := (e_g.trans E1).le
    omega
end
end Go.Proofs.YtdpaehdolhdjdaaGreatDoor



set_option maxRecDepth 20000
namespace Go.Proofs.YtdpaehdolhdjdaaGreatDoor
open Go Go.IW
section
attribute [local go_sem] List.getElem?_cons_zero List.getElem?_cons_succ Option.bind_some List.map_cons List.map_nil Nat.zero_add if_true List.getD_cons_zero List.getD_cons_succ List.contains_cons List.contains_nil Bool.or_true Bool.true_or Bool.or_false Bool.false_or Bool.not_true Bool.not_false true_and and_true rowA_whole mid_get stO_mid rowO_rows cellO_rows push_n set_n push_at push_old set_here set_there set_pushT set_pushN set_set upd_ne Nat.add_assoc Nat.add_zero stO_1s stO_ws boxA_s List.all_cons List.all_nil one_bool one_int one_str one_ptr one_nilptr one_slice one_eslice one_nilslice one_func one_iface one_niliface Bool.and_true Bool.and_self List.length_cons List.length_nil Nat.one_ne_zero Nat.succ_ne_zero if_false List.set_cons_zero List.set_cons_succ lay_nil lay_1 lay_w Option.map_some

/-! Numbers out of texts. -/
def digB (c : UInt8) : Bool := decide (48 ≤ (c.toNat : Int)) && decide ((c.toNat : Int) ≤ 57)
def valD (s : List UInt8) : Nat := s.foldl (fun a c => a * 10 + (c.toNat - 48)) 0
/-- No needless nought. -/
def canon (s : List UInt8) : Bool := decide (s.length = 1) || (s[0]? != some 48)
def decOk (s : List UInt8) (most : Nat) : Bool := decide (1 ≤ s.length) && decide (s.length ≤ most) && s.all digB && canon s
theorem valD_snoc (t : List UInt8) (c : UInt8) : valD (t ++ [c]) = valD t * 10 + (c.toNat - 48) := by simp [valD]
theorem dig_un {c : UInt8} (h : digB c = true) : 48 ≤ c.toNat ∧ c.toNat ≤ 57 := by
  unfold digB at h
  simp only [Bool.and_eq_true, decide_eq_true_eq] at h
  omega
theorem dec_head : ∀ (n : Nat), (Lib.decDigits n)[0]? = some 48 → n = 0 := by
  intro n
  induction n using Nat.strongRecOn with
  | ind n ih =>
    intro h
    by_cases h1 : n < 10
    · rw [dec_small h1] at h
      simp only [List.getElem?_cons_zero, Option.some.injEq] at h
      have := congrArg UInt8.toNat h
      rw [UInt8.toNat_ofNat'] at this
      have h2 : ((48 : UInt8).toNat) = 48 := rfl
      rw [h2] at this
      omega
    · rw [dec_big h1] at h
      have hp := dec_pos (n / 10)
      rw [List.getElem?_append_left (by omega)] at h
      have := ih (n / 10) (by omega) h
      omega
theorem snoc_ind {p : List UInt8 → Prop} (h0 : p []) (h1 : ∀ t c, p t → p (t ++ [c])) (s : List UInt8) : p s := by
  have key : ∀ r : List UInt8, p r.reverse := by
    intro r
    induction r with
    | nil => exact h0
    | cons c r ih => rw [List.reverse_cons]; exact h1 _ _ ih
  have := key s.reverse
  rwa [List.reverse_reverse] at this
theorem valD_lt : ∀ (s : List UInt8), s.all digB = true → valD s < 10 ^ s.length := by
  intro s
  induction s using snoc_ind with
  | h0 => intro _; decide
  | h1 t c ih =>
    intro hd
    rw [List.all_append, Bool.and_eq_true] at hd
    have hc : digB c = true := by simpa using hd.2
    have hu := dig_un hc
    have := ih hd.1
    rw [valD_snoc, List.length_append, List.length_singleton, Nat.pow_succ]
    omega
theorem valD_step {s : List UInt8} {k : Nat} {c : UInt8} (h : s[k]? = some c) : valD (s.take (k + 1)) = valD (s.take k) * 10 + (c.toNat - 48) := by
  rw [List.take_add_one, h]; exact valD_snoc _ _
theorem digC (c : UInt8) : (decide ((c.toNat : Int) < 48) || decide (57 < (c.toNat : Int))) = !digB c := by
  unfold digB
  rw [lt_not, lt_not]
  simp only [Bool.not_and]
theorem val_bound {s : List UInt8} {k : Nat} (hall : (s.take k).all digB = true) (hl : s.length ≤ 9) : valD (s.take k) < 1000000000 := by
  have h1 := valD_lt _ hall
  have h2 : (s.take k).length ≤ 9 := by rw [List.length_take]; omega
  exact Nat.lt_of_lt_of_le h1 (Nat.pow_le_pow_right (n := 10) (by omega) h2)
theorem mul10 {n : Nat} (h : n < 1000000000) : ibin .mul (.int .i64 (n : Int)) (.int .i64 10) = some (.int .i64 ((n * 10 : Nat) : Int)) := by
  unfold ibin; simp only [if_true]; rw [wr64 _ (by omega)]; simp
theorem sub48 {c : UInt8} (h : digB c = true) : ibin .sub (.int .u8 (c.toNat : Int)) (.int .u8 48) = some (.int .u8 ((c.toNat - 48 : Nat) : Int)) := by
  have := dig_un h
  unfold ibin; simp only [if_true]
  have e : wr .u8 ((c.toNat : Int) - 48) = ((c.toNat - 48 : Nat) : Int) := by unfold wr; rw [IntKind.wrap_u8]; omega
  rw [e]
theorem cv48 {c : UInt8} (h : digB c = true) : wr .i64 ((c.toNat - 48 : Nat) : Int) = ((c.toNat - 48 : Nat) : Int) := by
  have := dig_un h
  exact wr64 _ (by omega)
theorem addD {a b : Nat} (h : a + b < 1000000000000) : ibin .add (.int .i64 (a : Int)) (.int .i64 (b : Int)) = some (.int .i64 ((a + b : Nat) : Int)) := by
  unfold ibin; simp only [if_true]; rw [wr64 _ (by omega)]; simp
/-- What is read: the number, if it is one. -/
def NumRes (r : IV) (s : List UInt8) (most : Nat) : Prop := ∃ n : Int, r = .tuple [.int .i64 n, .bool (decOk s most)] ∧ (decOk s most = true → n = (valD s : Nat))
theorem decHead (s : List UInt8) (most : Nat) (hne : s ≠ []) {c : UInt8} (hc : s[0]? = some c) :
    ((decide ((s.length : Int) = 0) || decide ((most : Int) < (s.length : Int))) || (decide (1 < (s.length : Int)) && decide ((c.toNat : Int) = 48))) = !((decide (1 ≤ s.length) && decide (s.length ≤ most)) && canon s) := by
  have hl : 0 < s.length := List.length_pos_iff.2 hne
  have e1 : decide ((s.length : Int) = 0) = false := decide_eq_false (by omega)
  have e0 : decide (1 ≤ s.length) = true := decide_eq_true (by omega)
  have e2 : decide ((most : Int) < (s.length : Int)) = !decide (s.length ≤ most) := by
    by_cases h : s.length ≤ most
    · rw [decide_eq_true h, decide_eq_false (by omega)]; rfl
    · rw [decide_eq_false h, decide_eq_true (by omega)]; rfl
  have e3 : (decide (1 < (s.length : Int)) && decide ((c.toNat : Int) = 48)) = !canon s := by
    unfold canon
    rw [hc]
    have h48 := u8_dec c 48
    rw [show ((48 : UInt8).toNat : Int) = 48 from rfl] at h48
    rw [h48]
    by_cases h1 : s.length = 1
    · rw [decide_eq_true h1, decide_eq_false (by omega)]; rfl
    · rw [decide_eq_false h1, decide_eq_true (by omega)]
      by_cases hq : c = 48
      · subst hq; rfl
      · simp [hq]
  rw [e1, e0, e2, e3]
  simp only [Bool.false_or, Bool.true_and, Bool.not_and]
theorem decimal_c (h : IH) (s : List UInt8) (most : Nat) (hm : most ≤ 9) (hs : s.length ≤ 1048576) : ICalls Tryz.prog 90 [.str s, .int .i64 most] h fun r h' => NumRes r s most ∧ Ext h h' := by
  refine icalls (.of ok90) (Nat.le_of_ble_eq_true rfl) ?_
  unfold c90
  by_cases hne : s = []
  · subst hne
    have d1 : decide (((0 : Nat) : Int) = 0) = true := rfl
    have hk : decOk [] most = false := by simp [decOk]
    simp (disch := (first | omega | assumption | (simp only [push_n, set_n, put_n, List.length_cons, List.length_nil, List.length_append, Nat.reduceAdd]; done) | (simp only [push_n, set_n, put_n, List.length_cons, List.length_nil, List.length_append]; omega) | (simp only [List.all_cons, List.all_nil, one_bool, one_int, one_str, one_ptr, one_nilptr, one_slice, one_eslice, one_nilslice, one_func, one_iface, one_niliface, Bool.and_true, Bool.true_and, List.getD_cons_zero, List.getD_cons_succ, List.contains_cons, List.contains_nil, Bool.or_true, Bool.true_or, Bool.or_false, Bool.false_or, Nat.reduceBEq, *]; done) | fail)) only [d1, Bool.true_or, go_sem, Hold.p, HoldK.k, HoldL.K, HoldL.body, Nat.reduceBEq, Nat.reduceAdd, reduceIte]
    exact ⟨⟨0, by rw [hk], fun e => by rw [hk] at e; cases e⟩, Ext.refl _⟩
  have hpos : 0 < s.length := List.length_pos_iff.2 hne
  obtain ⟨c0, hc0⟩ : ∃ b, s[0]? = some b := ⟨_, List.getElem?_eq_getElem hpos⟩
  have hx0 : idxSF (.str s) (.int .i64 0) = some (.int .u8 c0.toNat) := idxS_at (q := .i64) hc0
  have hH := decHead s most hne hc0
  simp (disch := (first | omega | assumption | (simp only [push_n, set_n, put_n, List.length_cons, List.length_nil, List.length_append, Nat.reduceAdd]; done) | (simp only [push_n, set_n, put_n, List.length_cons, List.length_nil, List.length_append]; omega) | (simp only [List.all_cons, List.all_nil, one_bool, one_int, one_str, one_ptr, one_nilptr, one_slice, one_eslice, one_nilslice, one_func, one_iface, one_niliface, Bool.and_true, Bool.true_and, List.getD_cons_zero, List.getD_cons_succ, List.contains_cons, List.contains_nil, Bool.or_true, Bool.true_or, Bool.or_false, Bool.false_or, Nat.reduceBEq, *]; done) | fail)) only [hx0, go_sem, Hold.p, HoldK.k, HoldL.K, HoldL.body, Nat.reduceBEq, Nat.reduceAdd, reduceIte]
  rw [hH]
  refine test_of (fun hc => ?_) (fun hc => ?_)
  · have hc' : ((decide (1 ≤ s.length) && decide (s.length ≤ most)) && canon s) = false := by rwa [Bool.not_eq_true'] at hc
    have hk : decOk s most = false := by
      unfold decOk
      revert hc'
      cases (decide (1 ≤ s.length) && decide (s.length ≤ most)) <;> cases canon s <;> cases s.all digB <;> simp
    simp (disch := (first | omega | assumption | (simp only [push_n, set_n, put_n, List.length_cons, List.length_nil, List.length_append, Nat.reduceAdd]; done) | (simp only [push_n, set_n, put_n, List.length_cons, List.length_nil, List.length_append]; omega) | (simp only [List.all_cons, List.all_nil, one_bool, one_int, one_str, one_ptr, one_nilptr, one_slice, one_eslice, one_nilslice, one_func, one_iface, one_niliface, Bool.and_true, Bool.true_and, List.getD_cons_zero, List.getD_cons_succ, List.contains_cons, List.contains_nil, Bool.or_true, Bool.true_or, Bool.or_false, Bool.false_or, Nat.reduceBEq, *]; done) | fail)) only [go_sem, Hold.p, HoldK.k, HoldL.K, HoldL.body, Nat.reduceBEq, Nat.reduceAdd, reduceIte]
    exact ⟨⟨0, by rw [hk], fun e => by rw [hk] at e; cases e⟩, Ext.refl _⟩
  · have hc' : ((decide (1 ≤ s.length) && decide (s.length ≤ most)) && canon s) = true := by rwa [Bool.not_eq_false'] at hc
    have hl : (1 ≤ s.length ∧ s.length ≤ most) ∧ canon s = true := by simpa using hc'
    have hk : decOk s most = s.all digB := by unfold decOk; rw [hl.2, decide_eq_true hl.1.1, decide_eq_true hl.1.2]; simp
    simp (disch := (first | omega | assumption | (simp only [push_n, set_n, put_n, List.length_cons, List.length_nil, List.length_append, Nat.reduceAdd]; done) | (simp only [push_n, set_n, put_n, List.length_cons, List.length_nil, List.length_append]; omega) | (simp only [List.all_cons, List.all_nil, one_bool, one_int, one_str, one_ptr, one_nilptr, one_slice, one_eslice, one_nilslice, one_func, one_iface, one_niliface, Bool.and_true, Bool.true_and, List.getD_cons_zero, List.getD_cons_succ, List.contains_cons, List.contains_nil, Bool.or_true, Bool.true_or, Bool.or_false, Bool.false_or, Nat.reduceBEq, *]; done) | fail)) only [go_sem, Hold.p, HoldK.k, HoldL.K, HoldL.body, Nat.reduceBEq, Nat.reduceAdd, reduceIte]
    rw [s2bA_some hne (by omega)]
    generalize hq_g : IH.push h (IObj.rows (strRows s) 5 1 false) = g
    have e_g : Ext h g := by rw [← hq_g]; exact (Ext.refl _).push _
    have l_g : g.n = h.n + 1 := by rw [← hq_g]; rfl
    have b : At g h.n (IObj.rows (strRows s) 5 1 false) := by rw [← hq_g]; exact At.new _ _
    clear hq_g
    have sl : SlR g 1 (.slice h.n 0 s.length) (strRows s) := SlR.whole b.eq (strRows_len _) b.lt
    try simp (disch := (first | omega | assumption | (simp only [push_n, set_n, put_n, List.length_cons, List.length_nil, List.length_append, Nat.reduceAdd]; done) | (simp only [push_n, set_n, put_n, List.length_cons, List.length_nil, List.length_append]; omega) | (simp only [List.all_cons, List.all_nil, one_bool, one_int, one_str, one_ptr, one_nilptr, one_slice, one_eslice, one_nilslice, one_func, one_iface, one_niliface, Bool.and_true, Bool.true_and, List.getD_cons_zero, List.getD_cons_succ, List.contains_cons, List.contains_nil, Bool.or_true, Bool.true_or, Bool.or_false, Bool.false_or, Nat.reduceBEq, *]; done) | fail)) only [go_sem, Hold.p, HoldK.k, HoldL.K, HoldL.body, Nat.reduceBEq, Nat.reduceAdd, reduceIte]
    refine loop_at (fun m e g' => ∃ k : Nat, m = s.length - k ∧ k ≤ s.length ∧ e 6 = .int .i64 (valD (s.take k) : Nat) ∧ e 29 = .slice h.n 0 s.length ∧ e 30 = .int .i64 (s.length : Nat) ∧ e 31 = .int .i64 (k : Nat) ∧ (s.take k).all digB = true ∧ g' = g) s.length ?_ ?_
    · refine ⟨0, by omega, by omega, ?_⟩
      simp (disch := (first | omega | assumption | (simp only [push_n, set_n, put_n, List.length_cons, List.length_nil, List.length_append, Nat.reduceAdd]; done) | (simp only [push_n, set_n, put_n, List.length_cons, List.length_nil, List.length_append]; omega) | (simp only [List.all_cons, List.all_nil, one_bool, one_int, one_str, one_ptr, one_nilptr, one_slice, one_eslice, one_nilslice, one_func, one_iface, one_niliface, Bool.and_true, Bool.true_and, List.getD_cons_zero, List.getD_cons_succ, List.contains_cons, List.contains_nil, Bool.or_true, Bool.true_or, Bool.or_false, Bool.false_or, Nat.reduceBEq, *]; done) | fail)) only [go_sem, Hold.p, HoldK.k, HoldL.K, HoldL.body, Nat.reduceBEq, Nat.reduceAdd, reduceIte]
      first | exact ⟨rfl, rfl, rfl⟩ | exact ⟨rfl, rfl, rfl, rfl⟩ | exact ⟨rfl, rfl⟩
    · rintro m e g' ⟨k, rfl, hk', i6, i29, i30, i31, hall, rfl⟩
      simp (disch := (first | omega | assumption | (simp only [push_n, set_n, put_n, List.length_cons, List.length_nil, List.length_append, Nat.reduceAdd]; done) | (simp only [push_n, set_n, put_n, List.length_cons, List.length_nil, List.length_append]; omega) | (simp only [List.all_cons, List.all_nil, one_bool, one_int, one_str, one_ptr, one_nilptr, one_slice, one_eslice, one_nilslice, one_func, one_iface, one_niliface, Bool.and_true, Bool.true_and, List.getD_cons_zero, List.getD_cons_succ, List.contains_cons, List.contains_nil, Bool.or_true, Bool.true_or, Bool.or_false, Bool.false_or, Nat.reduceBEq, *]; done) | fail)) only [i30, i31, go_sem, Hold.p, HoldK.k, HoldL.K, HoldL.body, Nat.reduceBEq, Nat.reduceAdd, reduceIte]
      refine test_dec (fun hb => ?_) (fun hb => ?_)
      · have hlt : k < s.length := by omega
        obtain ⟨c, hc2⟩ : ∃ b, s[k]? = some b := ⟨_, List.getElem?_eq_getElem hlt⟩
        obtain ⟨l, j, hia, hll, hrow⟩ := sl.at (m := k) (strRows_at hc2) .i64
        have hcl := cellO_row hrow
        have w1 : wr .i64 ((k : Int) + 1) = ((k + 1 : Nat) : Int) := by rw [wr64 _ (by omega)]; rfl
        simp (disch := (first | omega | assumption | (simp only [push_n, set_n, put_n, List.length_cons, List.length_nil, List.length_append, Nat.reduceAdd]; done) | (simp only [push_n, set_n, put_n, List.length_cons, List.length_nil, List.length_append]; omega) | (simp only [List.all_cons, List.all_nil, one_bool, one_int, one_str, one_ptr, one_nilptr, one_slice, one_eslice, one_nilslice, one_func, one_iface, one_niliface, Bool.and_true, Bool.true_and, List.getD_cons_zero, List.getD_cons_succ, List.contains_cons, List.contains_nil, Bool.or_true, Bool.true_or, Bool.or_false, Bool.false_or, Nat.reduceBEq, *]; done) | fail)) only [i29, i31, hia, hcl, go_sem, Hold.p, HoldK.k, HoldL.K, HoldL.body, Nat.reduceBEq, Nat.reduceAdd, reduceIte]
        rw [digC]
        refine test_of (fun hc3 => ?_) (fun hc3 => ?_)
        · have hd : digB c = false := by rwa [Bool.not_eq_true'] at hc3
          have hk2 : decOk s most = false := by rw [hk, all_bad hc2 hd]
          simp (disch := (first | omega | assumption | (simp only [push_n, set_n, put_n, List.length_cons, List.length_nil, List.length_append, Nat.reduceAdd]; done) | (simp only [push_n, set_n, put_n, List.length_cons, List.length_nil, List.length_append]; omega) | (simp only [List.all_cons, List.all_nil, one_bool, one_int, one_str, one_ptr, one_nilptr, one_slice, one_eslice, one_nilslice, one_func, one_iface, one_niliface, Bool.and_true, Bool.true_and, List.getD_cons_zero, List.getD_cons_succ, List.contains_cons, List.contains_nil, Bool.or_true, Bool.true_or, Bool.or_false, Bool.false_or, Nat.reduceBEq, *]; done) | fail)) only [go_sem, Hold.p, HoldK.k, HoldL.K, HoldL.body, Nat.reduceBEq, Nat.reduceAdd, reduceIte]
          exact ⟨⟨0, by rw [hk2], fun e => by rw [hk2] at e; cases e⟩, e_g⟩
        · have hd : digB c = true := by rwa [Bool.not_eq_false'] at hc3
          have hvb := val_bound hall (by omega)
          have hu := dig_un hd
          have hm10 := mul10 hvb
          have hs48 := sub48 hd
          have hcv := cv48 hd
          have hadd := addD (a := valD (s.take k) * 10) (b := c.toNat - 48) (by omega)
          simp (disch := (first | omega | assumption | (simp only [push_n, set_n, put_n, List.length_cons, List.length_nil, List.length_append, Nat.reduceAdd]; done) | (simp only [push_n, set_n, put_n, List.length_cons, List.length_nil, List.length_append]; omega) | (simp only [List.all_cons, List.all_nil, one_bool, one_int, one_str, one_ptr, one_nilptr, one_slice, one_eslice, one_nilslice, one_func, one_iface, one_niliface, Bool.and_true, Bool.true_and, List.getD_cons_zero, List.getD_cons_succ, List.contains_cons, List.contains_nil, Bool.or_true, Bool.true_or, Bool.or_false, Bool.false_or, Nat.reduceBEq, *]; done) | fail)) only [i6, i29, i30, i31, hm10, hs48, hcv, hadd, w1, go_sem, Hold.p, HoldK.k, HoldL.K, HoldL.body, Nat.reduceBEq, Nat.reduceAdd, reduceIte]
          refine ⟨_, ?_, k + 1, rfl, by omega, ?_, rfl, ?_⟩
          · omega
          · rw [valD_step hc2]
          · rw [all_step hc2, hall, hd]; rfl
      · have hk2 : k = s.length := by omega
        subst hk2
        rw [List.take_length] at i6 hall
        simp (disch := (first | omega | assumption | (simp only [push_n, set_n, put_n, List.length_cons, List.length_nil, List.length_append, Nat.reduceAdd]; done) | (simp only [push_n, set_n, put_n, List.length_cons, List.length_nil, List.length_append]; omega) | (simp only [List.all_cons, List.all_nil, one_bool, one_int, one_str, one_ptr, one_nilptr, one_slice, one_eslice, one_nilslice, one_func, one_iface, one_niliface, Bool.and_true, Bool.true_and, List.getD_cons_zero, List.getD_cons_succ, List.contains_cons, List.contains_nil, Bool.or_true, Bool.true_or, Bool.or_false, Bool.false_or, Nat.reduceBEq, *]; done) | fail)) only [i6, go_sem, Hold.p, HoldK.k, HoldL.K, HoldL.body, Nat.reduceBEq, Nat.reduceAdd, reduceIte]
        refine ⟨⟨(valD s : Nat), ?_, fun _ => rfl⟩, e_g⟩
        rw [hk, hall]
end
end Go.Proofs.YtdpaehdolhdjdaaGreatDoor



set_option maxRecDepth 20000
namespace Go.Proofs.YtdpaehdolhdjdaaGreatDoor
open Go Go.IW

/-! What a message is: plain laws. -/
abbrev Txt := List UInt8
def linesF : List Txt → Option (List Fld × Nat)
  | [] => some ([], 0)
  | s :: r =>
    if (Lib.cut s [58, 32]).2.2 = true then
      if (Lib.cut s [58, 32]).1 = lengthS ∧ r = [] then
        if decOk (Lib.cut s [58, 32]).2.1 5 = true ∧ 1 ≤ valD (Lib.cut s [58, 32]).2.1 ∧ valD (Lib.cut s [58, 32]).2.1 ≤ 60000 then some ([], valD (Lib.cut s [58, 32]).2.1) else none
      else match linesF r with
        | none => none
        | some (fs, n) => some (((Lib.cut s [58, 32]).1, (Lib.cut s [58, 32]).2.1) :: fs, n)
    else none
def preF (acc : List Fld) : Option (List Fld × Nat) → Option (List Fld × Nat)
  | none => none
  | some (fs, n) => some (acc ++ fs, n)
theorem preF_nil (o : Option (List Fld × Nat)) : preF [] o = o := by cases o <;> rfl
theorem drop_one {α : Type} {L : List α} {k : Nat} {s : α} (h : L[k]? = some s) : L.drop k = s :: L.drop (k + 1) := by
  have hk : k < L.length := by
    rcases Nat.lt_or_ge k L.length with h' | h'
    · exact h'
    · rw [List.getElem?_eq_none h'] at h; cases h
  rw [List.drop_eq_getElem_cons hk]
  rw [List.getElem?_eq_getElem hk] at h
  rw [Option.some.inj h]
section
variable {L : List Txt} {acc : List Fld} {k : Nat} {s : Txt}
theorem linesF_bad (hI : linesF L = preF acc (linesF (L.drop k))) (hs : L[k]? = some s) (hc : (Lib.cut s [58, 32]).2.2 = false) : linesF L = none := by
  rw [hI, drop_one hs, linesF, hc]; rfl
theorem last_iff (hs : L[k]? = some s) : L.drop (k + 1) = [] ↔ k + 1 = L.length := by
  have hk : k < L.length := by
    rcases Nat.lt_or_ge k L.length with h' | h'
    · exact h'
    · rw [List.getElem?_eq_none h'] at hs; cases hs
  rw [List.drop_eq_nil_iff]
  omega
theorem linesF_len (hI : linesF L = preF acc (linesF (L.drop k))) (hs : L[k]? = some s) (hc : (Lib.cut s [58, 32]).2.2 = true) (hn : (Lib.cut s [58, 32]).1 = lengthS) (hl : k + 1 = L.length) :
    linesF L = if decOk (Lib.cut s [58, 32]).2.1 5 = true ∧ 1 ≤ valD (Lib.cut s [58, 32]).2.1 ∧ valD (Lib.cut s [58, 32]).2.1 ≤ 60000 then some (acc, valD (Lib.cut s [58, 32]).2.1) else none := by
  rw [hI, drop_one hs, linesF, if_pos hc, if_pos ⟨hn, (last_iff hs).2 hl⟩]
  split
  · simp [preF]
  · rfl
theorem linesF_step (hI : linesF L = preF acc (linesF (L.drop k))) (hs : L[k]? = some s) (hc : (Lib.cut s [58, 32]).2.2 = true) (hn : ¬ ((Lib.cut s [58, 32]).1 = lengthS ∧ k + 1 = L.length)) :
    linesF L = preF (acc ++ [((Lib.cut s [58, 32]).1, (Lib.cut s [58, 32]).2.1)]) (linesF (L.drop (k + 1))) := by
  rw [hI, drop_one hs, linesF, if_pos hc, if_neg (fun e => hn ⟨e.1, (last_iff hs).1 e.2⟩)]
  cases linesF (L.drop (k + 1)) with
  | none => rfl
  | some p => simp [preF]
theorem linesF_end (hI : linesF L = preF acc (linesF (L.drop L.length))) : linesF L = some (acc, 0) := by
  rw [hI, List.drop_length]; simp [linesF, preF]
end
def hdOk (L : List Txt) : Option (List Fld × Nat) := match linesF L with
  | none => none
  | some (fs, n) => if restB fs 0 = true then some (fs, n) else none
theorem hdOk_none {L : List Txt} (h : linesF L = none) : hdOk L = none := by unfold hdOk; rw [h]
theorem hdOk_some {L : List Txt} {fs : List Fld} {n : Nat} (h : linesF L = some (fs, n)) : hdOk L = if restB fs 0 = true then some (fs, n) else none := by unfold hdOk; rw [h]
/-! The first separator. -/
theorem occ2 {s : Txt} {a b : UInt8} {j : Nat} : Lib.occAt s [a, b] j = true ↔ s[j]? = some a ∧ s[j + 1]? = some b := by
  unfold Lib.occAt
  rw [show s[j]? = (s.drop j)[0]? by simp, show s[j + 1]? = (s.drop j)[1]? by simp]
  cases s.drop j with
  | nil => simp
  | cons x t =>
    cases t with
    | nil => simp
    | cons y u =>
      simp only [List.isPrefixOf, Bool.and_true, Bool.and_eq_true, beq_iff_eq, List.getElem?_cons_zero, List.getElem?_cons_succ, Option.some.injEq]
      constructor
      · rintro ⟨rfl, rfl⟩; exact ⟨rfl, rfl⟩
      · rintro ⟨rfl, rfl⟩; exact ⟨rfl, rfl⟩
theorem occ2_f {s : Txt} {a b : UInt8} {j : Nat} (h : ¬ (s[j]? = some a ∧ s[j + 1]? = some b)) : Lib.occAt s [a, b] j = false := Bool.eq_false_iff.2 fun e => h (occ2.1 e)
theorem occ1 {s : Txt} {a : UInt8} {j : Nat} : Lib.occAt s [a] j = true ↔ s[j]? = some a := by
  unfold Lib.occAt
  rw [show s[j]? = (s.drop j)[0]? by simp]
  cases s.drop j with
  | nil => simp
  | cons x t =>
    simp only [List.isPrefixOf, Bool.and_true, beq_iff_eq, List.getElem?_cons_zero, Option.some.injEq]
    exact ⟨fun h => h.symm, fun h => h.symm⟩
theorem occ1_f {s : Txt} {a : UInt8} {j : Nat} (h : s[j]? ≠ some a) : Lib.occAt s [a] j = false := Bool.eq_false_iff.2 fun e => h (occ1.1 e)
/-- The first colon, and what stands behind it. -/
theorem cut_colon {s : Txt} {k : Nat} (h0 : ∀ j, j < k → s[j]? ≠ some 58) (h1 : s[k]? = some 58) (h2 : s[k + 1]? = some 32) : Lib.cut s [58, 32] = (s.take k, s.drop (k + 2), true) := by
  have hk : k < s.length := by
    rcases Nat.lt_or_ge k s.length with h' | h'
    · exact h'
    · rw [List.getElem?_eq_none h'] at h1; cases h1
  have hi : Lib.index s [58, 32] = k := Lib.index_first (Nat.le_of_lt hk) (occ2.2 ⟨h1, h2⟩) fun j hj => occ2_f fun e => h0 j hj e.1
  unfold Lib.cut
  rw [hi, if_pos (by omega)]
  rfl
def replyQ : Txt := [114, 101, 112, 108, 121, 32]
def statB (s : Txt) : Bool := decOk s 3 && decide (100 ≤ valD s)
def firstB (req : Bool) (s : Txt) : Bool := if req = true then verbB (Lib.cut s [32]).1 && pathOK (Lib.cut s [32]).2.1 else replyQ.isPrefixOf s && statB (s.drop 6)
theorem cut1_some {a t : Txt} {c : UInt8} (h : c ∉ a) : Lib.cut (a ++ c :: t) [c] = (a, t, true) := by
  have hi : Lib.index (a ++ c :: t) [c] = a.length := Lib.index_first (by simp) (occ1.2 (by simp)) fun j hj => occ1_f fun e => by
    rw [List.getElem?_append_left hj] at e
    exact h (List.mem_of_getElem? e)
  unfold Lib.cut
  rw [hi, if_pos (by omega)]
  simp
theorem cutAt_no {c : UInt8} : ∀ {s : Txt}, c ∉ s → cutAt c s = [s]
  | [], _ => rfl
  | b :: r, h => by
    have h1 : c ∉ r := fun e => h (List.mem_cons_of_mem _ e)
    have h2 : (b == c) = false := by
      rw [beq_eq_false_iff_ne]; rintro rfl; exact h List.mem_cons_self
    simp only [cutAt, h2, cutAt_no h1]; rfl
theorem cutAt_sep {c : UInt8} : ∀ {a : Txt} (t : Txt), c ∉ a → cutAt c (a ++ c :: t) = a :: cutAt c t
  | [], t, _ => by simp [cutAt]
  | b :: r, t, h => by
    have h1 : c ∉ r := fun e => h (List.mem_cons_of_mem _ e)
    have h2 : (b == c) = false := by
      rw [beq_eq_false_iff_ne]; rintro rfl; exact h List.mem_cons_self
    rw [List.cons_append]
    simp only [cutAt, h2, cutAt_sep t h1]; rfl
end Go.Proofs.YtdpaehdolhdjdaaGreatDoor



set_option maxRecDepth 20000
namespace Go.Proofs.YtdpaehdolhdjdaaGreatDoor
open Go Go.IW

def atI (b : Txt) : Int := Lib.index (b.take 8000) [10, 10]
theorem occ_take {b : Txt} {j : Nat} : Lib.occAt (b.take 8000) [10, 10] j = true ↔ j + 1 < 8000 ∧ b[j]? = some 10 ∧ b[j + 1]? = some 10 := by
  rw [occ2]
  constructor
  · rintro ⟨h1, h2⟩
    have hj : j + 1 < 8000 := by
      rcases Nat.lt_or_ge (j + 1) 8000 with h | h
      · exact h
      · rw [List.getElem?_eq_none (by rw [List.length_take]; omega)] at h2; cases h2
    rw [List.getElem?_take_of_lt (by omega)] at h1
    rw [List.getElem?_take_of_lt hj] at h2
    exact ⟨hj, h1, h2⟩
  · rintro ⟨hj, h1, h2⟩
    rw [List.getElem?_take_of_lt (by omega), List.getElem?_take_of_lt hj]
    exact ⟨h1, h2⟩
theorem some_lt {α : Type} {b : List α} {i : Nat} {x : α} (h : b[i]? = some x) : i < b.length := by
  rcases Nat.lt_or_ge i b.length with h' | h'
  · exact h'
  · rw [List.getElem?_eq_none h'] at h; cases h
theorem atI_cases (b : Txt) : atI b = -1 ∨ ∃ i : Nat, atI b = i ∧ i + 2 ≤ b.length ∧ i + 2 ≤ 8000 ∧ b[i]? = some 10 ∧ b[i + 1]? = some 10 := by
  rcases Lib.index_spec (b.take 8000) [10, 10] with ⟨e, _⟩ | ⟨i, e, hi, ho, _⟩
  · exact .inl e
  · obtain ⟨e1, e2, e3⟩ := occ_take.1 ho
    have := some_lt e3
    exact .inr ⟨i, e, by omega, by omega, e2, e3⟩
theorem piece_len (c : UInt8) : ∀ (s : Txt), ∀ p ∈ cutAt c s, p.length ≤ s.length
  | [], p, h => by simp [cutAt] at h; subst h; simp
  | b :: r, p, h => by
    have ih := piece_len c r
    simp only [cutAt] at h
    split at h
    · rcases List.mem_cons.1 h with rfl | h
      · simp
      · have := ih p h; simp; omega
    · cases hq : cutAt c r with
      | nil => exact absurd hq (cutAt_ne c r)
      | cons x l =>
        rw [hq] at h ih
        simp only at h
        rcases List.mem_cons.1 h with rfl | h
        · have := ih x List.mem_cons_self; simp; omega
        · have := ih p (List.mem_cons_of_mem _ h); simp; omega

/-! One message. -/
inductive One where
  | stop (c : Int)
  | msg (first : Txt) (fs : List Fld) (body : Txt) (size : Nat)
def bodyO (req : Bool) (b first : Txt) (i : Nat) (o : Option (List Fld × Nat)) : One := match o with
  | none => .stop 19
  | some (fs, n) => if firstB req first = true then (if i + 2 + n ≤ b.length then .msg first fs ((b.take (i + 2 + n)).drop (i + 2)) (i + 2 + n) else .stop 0) else .stop 19
def oneB (req : Bool) (b : Txt) : One :=
  if b[0]? = some 10 then .stop 19 else if atI b < 0 then (if 8000 ≤ b.length then .stop 7 else .stop 0) else
  bodyO req b ((cutAt 10 (b.take (atI b).toNat)).headD []) (atI b).toNat (hdOk (cutAt 10 (b.take (atI b).toNat)).tail)
theorem one_nl {req : Bool} {b : Txt} (h : b[0]? = some 10) : oneB req b = .stop 19 := if_pos h
theorem one_big {req : Bool} {b : Txt} (h : b[0]? ≠ some 10) (h1 : atI b < 0) (h2 : 8000 ≤ b.length) : oneB req b = .stop 7 := by unfold oneB; rw [if_neg h, if_pos h1, if_pos h2]
theorem one_wait {req : Bool} {b : Txt} (h : b[0]? ≠ some 10) (h1 : atI b < 0) (h2 : ¬ 8000 ≤ b.length) : oneB req b = .stop 0 := by unfold oneB; rw [if_neg h, if_pos h1, if_neg h2]
theorem one_body {req : Bool} {b first : Txt} {L : List Txt} {i : Nat} (h : b[0]? ≠ some 10) (h1 : atI b = i) (h2 : cutAt 10 (b.take i) = first :: L) : oneB req b = bodyO req b first i (hdOk L) := by
  unfold oneB
  rw [if_neg h, if_neg (by omega), h1, Int.toNat_natCast, h2]; rfl
theorem linesF_le : ∀ {L : List Txt} {fs : List Fld} {n : Nat}, linesF L = some (fs, n) → n ≤ 60000 ∧ fs.length ≤ L.length
  | [], fs, n, h => by simp [linesF] at h; obtain ⟨rfl, rfl⟩ := h; simp
  | s :: r, fs, n, h => by
    rw [linesF] at h
    split at h
    · split at h
      · split at h
        · rename_i hh
          simp at h
          obtain ⟨rfl, rfl⟩ := h
          exact ⟨hh.2.2, by simp⟩
        · cases h
      · split at h
        · cases h
        · rename_i hq
          have := linesF_le hq
          simp at h
          obtain ⟨rfl, rfl⟩ := h
          simp; omega
    · cases h
theorem hdOk_un {L : List Txt} {fs : List Fld} {n : Nat} (h : hdOk L = some (fs, n)) : linesF L = some (fs, n) ∧ restB fs 0 = true ∧ n ≤ 60000 := by
  unfold hdOk at h
  cases hq : linesF L with
  | none => rw [hq] at h; cases h
  | some p =>
    obtain ⟨gs, m⟩ := p
    rw [hq] at h
    simp only at h
    split at h
    · rename_i hr
      simp at h
      obtain ⟨rfl, rfl⟩ := h
      exact ⟨rfl, hr, (linesF_le hq).1⟩
    · cases h
structure MsgOk (req : Bool) (b first : Txt) (fs : List Fld) (body : Txt) (size : Nat) : Prop where
  hf : firstB req first = true
  hr : restB fs 0 = true
  hb : body.length ≤ 60000
  hs : 2 ≤ size ∧ size ≤ b.length
  hl : first.length ≤ b.length
theorem one_ok {req : Bool} {b first : Txt} {fs : List Fld} {body : Txt} {size : Nat} (h : oneB req b = .msg first fs body size) : MsgOk req b first fs body size := by
  unfold oneB at h
  split at h
  · cases h
  split at h
  · split at h <;> cases h
  rename_i h0 h1
  rcases atI_cases b with e | ⟨i, e, e1, e2, e3, e4⟩
  · omega
  rw [e, Int.toNat_natCast] at h
  unfold bodyO at h
  split at h
  · cases h
  · rename_i gs n hq
    obtain ⟨q1, q2, q3⟩ := hdOk_un hq
    split at h
    · split at h
      · rename_i f1 f2
        simp only [One.msg.injEq] at h
        obtain ⟨rfl, rfl, rfl, rfl⟩ := h
        refine ⟨f1, q2, by rw [List.length_drop, List.length_take]; omega, ⟨by omega, f2⟩, ?_⟩
        cases hc : cutAt 10 (b.take i) with
        | nil => simp
        | cons x l =>
          have := piece_len 10 (b.take i) x (by rw [hc]; exact List.mem_cons_self)
          rw [List.length_take] at this
          simp only [List.headD_cons]; omega
      · cases h
    · cases h
theorem rest_body {fs : List Fld} {n : Nat} (h : n ≤ 60000) : restB fs n = restB fs 0 := by
  unfold restB
  rw [decide_eq_true (p := (n : Int) ≤ 60000) (by omega), decide_eq_true (p := ((0 : Nat) : Int) ≤ 60000) (by omega)]

/-! All messages. -/
abbrev Msg := Txt × List Fld × Txt
def readB (req : Bool) (b : Txt) : List Msg × Nat × Int := match oneB req b with
  | .stop c => ([], 0, c)
  | .msg first fs body size => if h : 0 < size ∧ 0 < b.length then ((first, fs, body) :: (readB req (b.drop size)).1, size + (readB req (b.drop size)).2.1, (readB req (b.drop size)).2.2) else ([], 0, 0)
termination_by b.length
decreasing_by all_goals (rw [List.length_drop]; omega)
theorem read_stop {req : Bool} {b : Txt} {c : Int} (h : oneB req b = .stop c) : readB req b = ([], 0, c) := by rw [readB, h]
theorem read_msg {req : Bool} {b first : Txt} {fs : List Fld} {body : Txt} {size : Nat} (h : oneB req b = .msg first fs body size) :
    readB req b = ((first, fs, body) :: (readB req (b.drop size)).1, size + (readB req (b.drop size)).2.1, (readB req (b.drop size)).2.2) := by
  have ho := one_ok h
  rw [readB, h]
  simp only
  rw [dif_pos ⟨by have := ho.hs; omega, by have := ho.hs; omega⟩]
def preR (acc : List Msg) (at_ : Nat) (r : List Msg × Nat × Int) : List Msg × Nat × Int := (acc ++ r.1, at_ + r.2.1, r.2.2)
theorem preR_nil (r : List Msg × Nat × Int) : preR [] 0 r = r := by simp [preR]
theorem readI_stop {req : Bool} {B : Txt} {acc : List Msg} {at_ : Nat} {c : Int} (hI : readB req B = preR acc at_ (readB req (B.drop at_))) (h : oneB req (B.drop at_) = .stop c) : readB req B = (acc, at_, c) := by
  rw [hI, read_stop h]; simp [preR]
theorem readI_msg {req : Bool} {B first : Txt} {fs : List Fld} {body : Txt} {size : Nat} {acc : List Msg} {at_ : Nat} (hI : readB req B = preR acc at_ (readB req (B.drop at_))) (h : oneB req (B.drop at_) = .msg first fs body size) :
    readB req B = preR (acc ++ [(first, fs, body)]) (at_ + size) (readB req (B.drop (at_ + size))) := by
  rw [hI, read_msg h, List.drop_drop]
  simp [preR, Nat.add_assoc]
end Go.Proofs.YtdpaehdolhdjdaaGreatDoor



set_option maxRecDepth 20000
namespace Go.Proofs.YtdpaehdolhdjdaaGreatDoor
open Go Go.IW

/-! What is shown is read. -/
def joinN : List Txt → Txt
  | [] => []
  | [l] => l
  | l :: m :: r => l ++ 10 :: joinN (m :: r)
theorem joinN_cons (l : Txt) {r : List Txt} (h : r ≠ []) : joinN (l :: r) = l ++ 10 :: joinN r := by
  cases r with
  | nil => exact absurd rfl h
  | cons m r => rfl
theorem joinN_flat : ∀ {ls : List Txt}, ls ≠ [] → joinN ls ++ [10] = ls.flatMap fun l => l ++ [10]
  | [], h => absurd rfl h
  | [l], _ => by simp [joinN]
  | l :: m :: r, _ => by
    have ih := joinN_flat (ls := m :: r) (by simp)
    rw [joinN_cons l (by simp), List.flatMap_cons, ← ih]; simp
theorem cutAt_joinN : ∀ {ls : List Txt}, ls ≠ [] → (∀ l ∈ ls, 10 ∉ l) → cutAt 10 (joinN ls) = ls
  | [], h, _ => absurd rfl h
  | [l], _, hn => cutAt_no (hn l (by simp))
  | l :: m :: r, _, hn => by
    rw [joinN_cons l (by simp), cutAt_sep _ (hn l (by simp)), cutAt_joinN (ls := m :: r) (by simp) (fun x hx => hn x (List.mem_cons_of_mem _ hx))]
theorem index_joinN : ∀ {ls : List Txt} (t : Txt), ls ≠ [] → (∀ l ∈ ls, 10 ∉ l) → (∀ l ∈ ls, l ≠ []) → Lib.index (joinN ls ++ 10 :: 10 :: t) [10, 10] = (joinN ls).length
  | [], _, h, _, _ => absurd rfl h
  | [l], t, _, hn, _ => by
    refine Lib.index_first (by simp [joinN]) (occ2.2 ⟨by simp [joinN], by simp [joinN]⟩) fun j hj => occ2_f fun e => ?_
    have hj : j < l.length := hj
    have h1 := e.1
    rw [show joinN [l] = l from rfl, List.getElem?_append_left hj] at h1
    exact hn l (by simp) (List.mem_of_getElem? h1)
  | l :: m :: r, t, _, hn, he => by
    have ih := index_joinN (ls := m :: r) t (by simp) (fun x hx => hn x (List.mem_cons_of_mem _ hx)) (fun x hx => he x (List.mem_cons_of_mem _ hx))
    have hm : m ≠ [] := he m (by simp)
    obtain ⟨x, m', rfl⟩ := List.exists_cons_of_ne_nil hm
    have hx : x ≠ 10 := fun e => hn (x :: m') (by simp) (by rw [e]; simp)
    have e1 : joinN (l :: (x :: m') :: r) ++ 10 :: 10 :: t = l ++ 10 :: (joinN ((x :: m') :: r) ++ 10 :: 10 :: t) := by rw [joinN_cons l (by simp)]; simp
    have e2 : (joinN ((x :: m') :: r) ++ 10 :: 10 :: t)[0]? = some x := by
      cases r with
      | nil => simp [joinN]
      | cons y r => rw [joinN_cons _ (by simp)]; simp
    rw [e1]
    have hno : Lib.NoOcc (l ++ 10 :: (joinN ((x :: m') :: r) ++ 10 :: 10 :: t)) [10, 10] (l.length + 1) := fun j hj => occ2_f fun e => by
      obtain ⟨a, b⟩ := e
      rcases Nat.lt_or_ge j l.length with h' | h'
      · rw [List.getElem?_append_left h'] at a
        exact hn l (by simp) (List.mem_of_getElem? a)
      · have : j = l.length := by omega
        subst this
        rw [List.getElem?_append_right (by omega), show l.length + 1 - l.length = 1 by omega, List.getElem?_cons_succ, e2] at b
        exact hx (Option.some.inj b)
    have hd : (l ++ 10 :: (joinN ((x :: m') :: r) ++ 10 :: 10 :: t)).drop (l.length + 1) = joinN ((x :: m') :: r) ++ 10 :: 10 :: t := by simp
    rw [Lib.index_drop hno (by simp), hd, ih, if_neg (by simp), joinN_cons l (by simp)]
    simp only [List.length_append, List.length_cons]
    omega

/-! Numbers. -/
theorem dec_dig : ∀ n : Nat, (Lib.decDigits n).all digB = true ∧ valD (Lib.decDigits n) = n := by
  intro n
  induction n using Nat.strongRecOn with
  | ind n ih =>
    have hd : ∀ k, k < 10 → digB (UInt8.ofNat (48 + k)) = true ∧ (UInt8.ofNat (48 + k)).toNat - 48 = k := by decide
    by_cases h1 : n < 10
    · rw [dec_small h1]
      obtain ⟨a, b⟩ := hd n h1
      refine ⟨by simpa using a, ?_⟩
      simp only [valD, List.foldl_cons, List.foldl_nil]
      omega
    · rw [dec_big h1]
      obtain ⟨i1, i2⟩ := ih (n / 10) (by omega)
      obtain ⟨a, b⟩ := hd (n % 10) (by omega)
      refine ⟨?_, ?_⟩
      · rw [List.all_append, i1]; simpa using a
      · rw [valD_snoc, i2, b]; omega
theorem dec_lo : ∀ (s : Txt), s.all digB = true → s ≠ [] → s[0]? ≠ some 48 → 10 ^ (s.length - 1) ≤ valD s := by
  intro s
  induction s using snoc_ind with
  | h0 => intro _ h; exact absurd rfl h
  | h1 t c ih =>
    intro hd _ h0
    rw [List.all_append, Bool.and_eq_true] at hd
    have hc : digB c = true := by simpa using hd.2
    have hu := dig_un hc
    rw [valD_snoc]
    by_cases ht : t = []
    · subst ht
      have h48 : c ≠ 48 := fun e => h0 (by subst e; rfl)
      have hne : c.toNat ≠ 48 := fun e => h48 (UInt8.toNat_inj.1 e)
      have e0 : valD ([] : List UInt8) = 0 := rfl
      rw [e0]
      show 10 ^ 0 ≤ _
      omega
    · have hl : 0 < t.length := List.length_pos_iff.2 ht
      have h0' : t[0]? ≠ some 48 := by rwa [List.getElem?_append_left hl] at h0
      have i1 := ih hd.1 ht h0'
      rw [List.length_append, List.length_singleton, show t.length + 1 - 1 = (t.length - 1) + 1 by omega, Nat.pow_succ]
      omega
theorem dec_ok {n m : Nat} (h0 : 0 < n) (hn : n < 10 ^ m) (hm : m ≤ 19) : decOk (Lib.decDigits n) m = true := by
  have h1 := dec_pos n
  obtain ⟨h2, h3⟩ := dec_dig n
  have hl : (Lib.decDigits n).length ≤ m := by
    rcases Nat.lt_or_ge m (Lib.decDigits n).length with h | h
    · exfalso
      have hne : Lib.decDigits n ≠ [] := fun e => by rw [e] at h1; simp at h1
      have h0' : (Lib.decDigits n)[0]? ≠ some 48 := fun e => by have := dec_head n e; omega
      have := dec_lo (Lib.decDigits n) h2 hne h0'
      rw [h3] at this
      have h5 : 10 ^ m ≤ 10 ^ ((Lib.decDigits n).length - 1) := Nat.pow_le_pow_right (by omega) (by omega)
      omega
    · exact h
  unfold decOk
  rw [decide_eq_true h1, decide_eq_true hl, h2]
  simp only [Bool.true_and]
  unfold canon
  have : (Lib.decDigits n)[0]? ≠ some 48 := fun e => by have := dec_head n e; omega
  simp [this]

/-! A message. -/
def fldTxt (f : Fld) : Txt := f.1 ++ [58, 32] ++ f.2
def lenTxt (body : Txt) : List Txt := if 0 < body.length then [lengthS ++ [58, 32] ++ Lib.decDigits body.length] else []
theorem name_un {f : Fld} (h : fldB f = true) : (∀ b ∈ f.1, nameB b = true) ∧ (∀ b ∈ f.2, valB b = true) ∧ f.1 ≠ lengthS := by
  unfold fldB at h
  rw [fieldOK_eq] at h
  simp only [Bool.and_eq_true, List.all_eq_true] at h
  refine ⟨h.1.1.2, h.1.2, ?_⟩
  have := h.1.1.1
  unfold headOK at this
  simp only [Bool.and_eq_true, Bool.not_eq_true', decide_eq_false_iff_not] at this
  exact this.1.2
theorem cut_fld {n v : Txt} (h : 58 ∉ n) : Lib.cut (n ++ [58, 32] ++ v) [58, 32] = (n, v, true) := by
  have := cut_colon (s := n ++ [58, 32] ++ v) (k := n.length) (fun j hj e => by
    rw [List.append_assoc, List.getElem?_append_left hj] at e
    exact h (List.mem_of_getElem? e)) (by simp) (by simp)
  rw [this]
  simp
theorem linesF_msg : ∀ {fs : List Fld} (body : Txt), (∀ f ∈ fs, fldB f = true) → body.length ≤ 60000 → linesF (fs.map fldTxt ++ lenTxt body) = some (fs, body.length)
  | [], body, _, hb => by
    unfold lenTxt
    by_cases h0 : 0 < body.length
    · rw [if_pos h0]
      have hc : Lib.cut (lengthS ++ [58, 32] ++ Lib.decDigits body.length) [58, 32] = (lengthS, Lib.decDigits body.length, true) := cut_fld (by decide)
      have hd := dec_ok (n := body.length) (m := 5) h0 (by omega) (by omega)
      have hv := (dec_dig body.length).2
      simp only [List.map_nil, List.nil_append, linesF, hc, hd, hv, and_self, if_true]
      rw [if_pos ⟨trivial, by omega, hb⟩]
    · rw [if_neg h0]
      have : body.length = 0 := by omega
      rw [this]; rfl
  | f :: fs, body, h, hb => by
    obtain ⟨h1, h2, h3⟩ := name_un (h f List.mem_cons_self)
    have hc : Lib.cut (fldTxt f) [58, 32] = (f.1, f.2, true) := cut_fld fun e => by have := h1 58 e; revert this; decide
    rw [List.map_cons, List.cons_append, linesF, hc]
    simp only [if_true, h3, false_and, if_false, linesF_msg body (fun g hg => h g (List.mem_cons_of_mem _ hg)) hb]
def msgLines (first : Txt) (fs : List Fld) (body : Txt) : List Txt := first :: (fs.map fldTxt ++ lenTxt body)
theorem message_join (first : Txt) (fs : List Fld) (body : Txt) : message first fs body = joinN (msgLines first fs body) ++ 10 :: 10 :: body := by
  have h := joinN_flat (ls := msgLines first fs body) (by simp [msgLines])
  have : joinN (msgLines first fs body) ++ 10 :: 10 :: body = (joinN (msgLines first fs body) ++ [10]) ++ [10] ++ body := by simp
  rw [this, h]
  unfold message msgLines
  rw [List.flatMap_cons, List.flatMap_append]
  have e1 : (fs.map fldTxt).flatMap (fun l => l ++ [10]) = fs.flatMap fldLine := by
    rw [List.flatMap_map]
    rfl
  have e2 : (lenTxt body).flatMap (fun l => l ++ [10]) = lenLine body := by
    unfold lenTxt lenLine
    split
    · simp
    · rfl
  rw [e1, e2]
  simp
theorem no10 {f : Fld} (h : fldB f = true) : 10 ∉ fldTxt f := by
  obtain ⟨h1, h2, _⟩ := name_un h
  intro e
  simp only [fldTxt, List.mem_append, List.mem_cons, List.not_mem_nil, or_false] at e
  rcases e with (e | e | e) | e
  · have := h1 _ e; revert this; decide
  · cases e
  · cases e
  · have := h2 _ e; revert this; decide
theorem fldB_le {f : Fld} (h : fldB f = true) : f.1.length ≤ 40 ∧ f.2.length ≤ 200 := by
  unfold fldB at h
  rw [fieldOK_eq] at h
  simp only [Bool.and_eq_true] at h
  have := headOK_len h.1.1.1
  omega
theorem lines_le : ∀ {fs : List Fld}, (∀ f ∈ fs, fldB f = true) → (fs.flatMap fldLine).length ≤ 250 * fs.length
  | [], _ => by simp
  | f :: fs, h => by
    have ih := lines_le (fs := fs) (fun g hg => h g (List.mem_cons_of_mem _ hg))
    have := fldB_le (h f List.mem_cons_self)
    rw [List.flatMap_cons]
    simp only [List.length_append, fldLine, List.length_cons, List.length_nil]
    omega
theorem one_message {req : Bool} {first : Txt} {fs : List Fld} {body rest : Txt} (hf : firstB req first = true) (h10 : 10 ∉ first) (hne : first ≠ []) (hfl : first.length ≤ 1000) (hR : restB fs body.length = true) :
    oneB req (message first fs body ++ rest) = .msg first fs body (message first fs body).length := by
  have hR' := hR
  unfold restB at hR'
  simp only [Bool.and_eq_true, decide_eq_true_eq, List.all_eq_true] at hR'
  obtain ⟨⟨r1, r2⟩, r3⟩ := hR'
  have hb : body.length ≤ 60000 := by omega
  have hln : ∀ l ∈ msgLines first fs body, 10 ∉ l ∧ l ≠ [] := by
    intro l hl
    unfold msgLines at hl
    rcases List.mem_cons.1 hl with rfl | hl
    · exact ⟨h10, hne⟩
    · rcases List.mem_append.1 hl with hl | hl
      · obtain ⟨f, hf2, rfl⟩ := List.mem_map.1 hl
        exact ⟨no10 (r3 f hf2), by simp [fldTxt]⟩
      · unfold lenTxt at hl
        split at hl
        · have : l = lengthS ++ [58, 32] ++ Lib.decDigits body.length := by simpa using hl
          subst this
          refine ⟨fun e => ?_, by simp⟩
          simp only [List.mem_append, List.mem_cons, List.not_mem_nil, or_false] at e
          rcases e with (e | e | e) | e
          · revert e; decide
          · cases e
          · cases e
          · have := List.all_eq_true.1 (dec_dig body.length).1 _ e
            revert this; decide
        · simp at hl
  have hjl : (joinN (msgLines first fs body)).length + 2 ≤ 8000 := by
    have hm1 : (message first fs body).length = (joinN (msgLines first fs body)).length + 2 + body.length := by rw [message_join]; simp; omega
    have hl1 := lines_le r3
    have hd : (Lib.decDigits body.length).length ≤ 20 := dec_le _ (by omega)
    have hL : (lenLine body).length ≤ 40 := by
      unfold lenLine; split
      · simp [lengthS]; omega
      · simp
    have hm2 : (message first fs body).length = first.length + 1 + (fs.flatMap fldLine).length + (lenLine body).length + 1 + body.length := by
      unfold message; simp only [List.length_append, List.length_cons, List.length_nil]
    omega
  have hc : message first fs body ++ rest = joinN (msgLines first fs body) ++ 10 :: 10 :: (body ++ rest) := by rw [message_join]; simp
  have hmn : msgLines first fs body ≠ [] := by simp [msgLines]
  generalize hK : joinN (msgLines first fs body) = K at hc hjl
  have hat : atI (message first fs body ++ rest) = (K.length : Int) := by
    unfold atI
    rw [hc]
    have : (K ++ 10 :: 10 :: (body ++ rest)).take 8000 = K ++ 10 :: 10 :: (body ++ rest).take (8000 - K.length - 2) := by
      rw [List.take_append, List.take_of_length_le (by omega)]
      congr 1
      rw [show 8000 - K.length = (8000 - K.length - 2) + 1 + 1 by omega]
      rfl
    rw [this, ← hK]
    exact index_joinN _ hmn (fun l hl => (hln l hl).1) (fun l hl => (hln l hl).2)
  have h0 : (message first fs body ++ rest)[0]? ≠ some 10 := by
    obtain ⟨x, t, rfl⟩ := List.exists_cons_of_ne_nil hne
    unfold message
    simp only [List.cons_append, List.getElem?_cons_zero, ne_eq, Option.some.injEq]
    rintro rfl
    exact h10 List.mem_cons_self
  have hcut : cutAt 10 ((message first fs body ++ rest).take K.length) = first :: (fs.map fldTxt ++ lenTxt body) := by
    rw [hc, List.take_left, ← hK]
    exact cutAt_joinN hmn fun l hl => (hln l hl).1
  have hml : (message first fs body).length = K.length + 2 + body.length := by
    rw [message_join, hK]; simp; omega
  rw [one_body h0 hat hcut, hdOk_some (linesF_msg body r3 hb)]
  have hr0 : restB fs 0 = true := by rw [← rest_body hb]; exact hR
  rw [hr0, if_pos rfl]
  unfold bodyO
  simp only [hf, if_true]
  rw [if_pos (by rw [List.length_append]; omega), hml]
  congr 1
  rw [← hml, List.take_left' rfl, message_join, hK]
  rw [show K ++ 10 :: 10 :: body = (K ++ [10, 10]) ++ body by simp]
  exact List.drop_left' (by simp)

/-! Streams of messages. -/
def putF : Txt := [112, 117, 116, 32, 47, 120]
def putB : Txt := [97, 10, 10, 98]
theorem put_ok : firstB true putF = true ∧ restB [] putB.length = true ∧ 10 ∉ putF := by decide +kernel
theorem put_eq : message putF [] putB = [112, 117, 116, 32, 47, 120, 10, 108, 101, 110, 103, 116, 104, 58, 32, 52, 10, 10, 97, 10, 10, 98] := by
  unfold message lenLine
  rw [if_pos (by decide), show putB.length = 4 from rfl, dec_small (by omega)]
  rfl
theorem put_part : oneB true ((message putF [] putB).take ((message putF [] putB).length - 1)) = .stop 0 := by
  rw [put_eq]; rfl
theorem read_two {req : Bool} {f1 f2 : Txt} {fs1 fs2 : List Fld} {b1 b2 t : Txt} (h1 : ∀ rest, oneB req (message f1 fs1 b1 ++ rest) = .msg f1 fs1 b1 (message f1 fs1 b1).length) (h2 : ∀ rest, oneB req (message f2 fs2 b2 ++ rest) = .msg f2 fs2 b2 (message f2 fs2 b2).length)
    (h3 : oneB req t = .stop 0) : readB req (message f1 fs1 b1 ++ (message f2 fs2 b2 ++ t)) = ([(f1, fs1, b1), (f2, fs2, b2)], (message f1 fs1 b1).length + (message f2 fs2 b2).length, 0) := by
  rw [read_msg (h1 _), List.drop_left, read_msg (h2 _), List.drop_left, read_stop h3]
  simp
theorem one_nil (req : Bool) : oneB req [] = .stop 0 := one_wait (by simp) (by decide) (by simp)
theorem req_first {vb p : Txt} (hv : verbB vb = true) (hp : pathOK p = true) : firstB true (vb ++ [32] ++ p) = true ∧ 10 ∉ vb ++ [32] ++ p ∧ vb ++ [32] ++ p ≠ [] ∧ (Lib.cut (vb ++ [32] ++ p) [32]).1 = vb ∧ (Lib.cut (vb ++ [32] ++ p) [32]).2.1 = p := by
  have hvb : 32 ∉ vb ∧ 10 ∉ vb := by
    unfold verbB at hv
    simp only [Bool.or_eq_true, decide_eq_true_eq] at hv
    rcases hv with ((rfl | rfl) | rfl) | rfl <;> decide
  have hc : Lib.cut (vb ++ [32] ++ p) [32] = (vb, p, true) := by
    rw [List.append_assoc]; exact cut1_some hvb.1
  have hp10 : 10 ∉ p := by
    intro e
    unfold pathOK at hp
    simp only [Bool.and_eq_true, List.all_eq_true] at hp
    have := hp.2 _ e
    revert this; decide
  refine ⟨?_, ?_, by simp, by rw [hc], by rw [hc]⟩
  · unfold firstB
    rw [hc]; simp [hv, hp]
  · intro e
    simp only [List.mem_append, List.mem_cons, List.not_mem_nil, or_false] at e
    rcases e with (e | e) | e
    · exact hvb.2 e
    · cases e
    · exact hp10 e
theorem rep_first {st : Nat} (h1 : 100 ≤ st) (h2 : st ≤ 999) : firstB false (replyQ ++ Lib.decDigits st) = true ∧ 10 ∉ replyQ ++ Lib.decDigits st ∧ replyQ ++ Lib.decDigits st ≠ [] ∧ valD ((replyQ ++ Lib.decDigits st).drop 6) = st := by
  have hd := dec_dig st
  have hdr : (replyQ ++ Lib.decDigits st).drop 6 = Lib.decDigits st := List.drop_left' rfl
  refine ⟨?_, ?_, by simp [replyQ], by rw [hdr]; exact hd.2⟩
  · unfold firstB statB
    rw [hdr, hd.2, dec_ok (m := 3) (by omega) (by omega) (by omega), decide_eq_true h1]
    simp [replyQ]
  · intro e
    rcases List.mem_append.1 e with e | e
    · revert e; decide
    · have := List.all_eq_true.1 hd.1 _ e
      revert this; decide
end Go.Proofs.YtdpaehdolhdjdaaGreatDoor



set_option maxRecDepth 20000
namespace Go.Proofs.YtdpaehdolhdjdaaGreatDoor
open Go Go.IW
section
attribute [local go_sem] List.getElem?_cons_zero List.getElem?_cons_succ Option.bind_some List.map_cons List.map_nil Nat.zero_add if_true List.getD_cons_zero List.getD_cons_succ List.contains_cons List.contains_nil Bool.or_true Bool.true_or Bool.or_false Bool.false_or Bool.not_true Bool.not_false true_and and_true rowA_whole mid_get stO_mid rowO_rows cellO_rows push_n set_n push_at push_old set_here set_there set_pushT set_pushN set_set upd_ne Nat.add_assoc Nat.add_zero stO_1s stO_ws boxA_s List.all_cons List.all_nil one_bool one_int one_str one_ptr one_nilptr one_slice one_eslice one_nilslice one_func one_iface one_niliface Bool.and_true Bool.and_self List.length_cons List.length_nil Nat.one_ne_zero Nat.succ_ne_zero if_false List.set_cons_zero List.set_cons_succ lay_nil lay_1 lay_w Option.map_some

/-! The library's part. -/
theorem gMax : Tryz.prog.globalNamed "internal/bytealg.MaxLen" = some 5 := by kernel_rfl
theorem cut_c (h : IH) (s sep : Txt) (hs : s.length ≤ 1048576) (hm : mxOn = true) : ICalls Tryz.prog 85 [.str s, .str sep] h fun r h' => r = .tuple [.str (Lib.cut s sep).1, .str (Lib.cut s sep).2.1, .bool (Lib.cut s sep).2.2] ∧ h' = h :=
  cut_calls (Go.Proofs.enters_of Tryz.func85 (by kernel_rfl) rfl) (fun s sep m w h1 h2 => Go.Proofs.Tryz.strings_Cut s sep m w h1 h2) gMax hm (by omega)
theorem bIndex_c (h : IH) (v w : IV) (a b : Txt) (ha : SlR h 1 v (strRows a)) (hb : SlR h 1 w (strRows b)) (hl : a.length ≤ 1048576) (hb2 : 2 ≤ b.length) (hb3 : b.length ≤ 1000) (hm : mxOn = true) : ICalls Tryz.prog 120 [v, w] h fun r h' => r = .int .i64 (Lib.index a b) ∧ h' = h :=
  bindex_calls (Go.Proofs.enters_of Tryz.func120 (by kernel_rfl) rfl) (fun a1 a2 n c1 k c2 xs ys m w x1 x2 x3 x4 x5 x6 x7 x8 x9 x10 => Go.Proofs.Tryz.bytes_Index_at a1 a2 n c1 k c2 xs ys m w x1 x2 x3 x4 x5 x6 x7 x8 x9 x10)
    (fun p2 k c2 w x1 x2 => Go.Proofs.Tryz.bytes_Index_nil p2 k c2 w x1 x2) gMax hm ha hb (by omega) hb2 hb3
theorem hasPrefix_c (h : IH) (s p : Txt) (hp : p.length ≤ 100) : ICalls Tryz.prog 158 [.str s, .str p] h fun r h' => r = .bool (p.isPrefixOf s) ∧ h' = h := by
  refine icalls (.of ok158) (Nat.le_of_ble_eq_true rfl) ?_
  unfold c158
  by_cases hl : p.length ≤ s.length
  · have d1 : decide ((p.length : Int) ≤ (s.length : Int)) = true := decide_eq_true (by omega)
    have hx := slcS_hi (q := .i64) hl
    simp (disch := (first | omega | assumption | (simp only [push_n, set_n, put_n, List.length_cons, List.length_nil, List.length_append, Nat.reduceAdd]; done) | (simp only [push_n, set_n, put_n, List.length_cons, List.length_nil, List.length_append]; omega) | (simp only [List.all_cons, List.all_nil, one_bool, one_int, one_str, one_ptr, one_nilptr, one_slice, one_eslice, one_nilslice, one_func, one_iface, one_niliface, Bool.and_true, Bool.true_and, List.getD_cons_zero, List.getD_cons_succ, List.contains_cons, List.contains_nil, Bool.or_true, Bool.true_or, Bool.or_false, Bool.false_or, Nat.reduceBEq, *]; done) | fail)) only [d1, Option.map_none, hx, go_sem, Hold.p, HoldK.k, HoldL.K, HoldL.body, Nat.reduceBEq, Nat.reduceAdd, reduceIte]
    congr 1
    rw [Bool.eq_iff_iff, decide_eq_true_eq, List.isPrefixOf_iff_prefix, List.prefix_iff_eq_take]
    exact eq_comm
  · have d1 : decide ((p.length : Int) ≤ (s.length : Int)) = false := decide_eq_false (by omega)
    simp (disch := (first | omega | assumption | (simp only [push_n, set_n, put_n, List.length_cons, List.length_nil, List.length_append, Nat.reduceAdd]; done) | (simp only [push_n, set_n, put_n, List.length_cons, List.length_nil, List.length_append]; omega) | (simp only [List.all_cons, List.all_nil, one_bool, one_int, one_str, one_ptr, one_nilptr, one_slice, one_eslice, one_nilslice, one_func, one_iface, one_niliface, Bool.and_true, Bool.true_and, List.getD_cons_zero, List.getD_cons_succ, List.contains_cons, List.contains_nil, Bool.or_true, Bool.true_or, Bool.or_false, Bool.false_or, Nat.reduceBEq, *]; done) | fail)) only [d1, go_sem, Hold.p, HoldK.k, HoldL.K, HoldL.body, Nat.reduceBEq, Nat.reduceAdd, reduceIte]
    congr 1
    rw [eq_comm, Bool.eq_false_iff]
    intro e
    exact hl (List.isPrefixOf_iff_prefix.1 e).length_le
theorem cutPrefix2_c (h : IH) (s p : Txt) (hp : p.length ≤ 100) : ICalls Tryz.prog 125 [.str s, .str p] h fun r h' => r = .tuple [.str (if p.isPrefixOf s = true then s.drop p.length else s), .bool (p.isPrefixOf s)] ∧ h' = h := by
  refine icalls (.of ok125) (Nat.le_of_ble_eq_true rfl) ?_
  unfold c125
  simp (disch := (first | omega | assumption | (simp only [push_n, set_n, put_n, List.length_cons, List.length_nil, List.length_append, Nat.reduceAdd]; done) | (simp only [push_n, set_n, put_n, List.length_cons, List.length_nil, List.length_append]; omega) | (simp only [List.all_cons, List.all_nil, one_bool, one_int, one_str, one_ptr, one_nilptr, one_slice, one_eslice, one_nilslice, one_func, one_iface, one_niliface, Bool.and_true, Bool.true_and, List.getD_cons_zero, List.getD_cons_succ, List.contains_cons, List.contains_nil, Bool.or_true, Bool.true_or, Bool.or_false, Bool.false_or, Nat.reduceBEq, *]; done) | fail)) only [go_sem, Hold.p, HoldK.k, HoldL.K, HoldL.body, Nat.reduceBEq, Nat.reduceAdd, reduceIte]
  refine callA_of (hasPrefix_c h s p hp) ?_
  rintro r h' ⟨rfl, rfl⟩
  simp (disch := (first | omega | assumption | (simp only [push_n, set_n, put_n, List.length_cons, List.length_nil, List.length_append, Nat.reduceAdd]; done) | (simp only [push_n, set_n, put_n, List.length_cons, List.length_nil, List.length_append]; omega) | (simp only [List.all_cons, List.all_nil, one_bool, one_int, one_str, one_ptr, one_nilptr, one_slice, one_eslice, one_nilslice, one_func, one_iface, one_niliface, Bool.and_true, Bool.true_and, List.getD_cons_zero, List.getD_cons_succ, List.contains_cons, List.contains_nil, Bool.or_true, Bool.true_or, Bool.or_false, Bool.false_or, Nat.reduceBEq, *]; done) | fail)) only [go_sem, Hold.p, HoldK.k, HoldL.K, HoldL.body, Nat.reduceBEq, Nat.reduceAdd, reduceIte]
  refine test_of (fun hc => ?_) (fun hc => ?_)
  · have hc' : p.isPrefixOf s = false := by rwa [Bool.not_eq_true'] at hc
    simp (disch := (first | omega | assumption | (simp only [push_n, set_n, put_n, List.length_cons, List.length_nil, List.length_append, Nat.reduceAdd]; done) | (simp only [push_n, set_n, put_n, List.length_cons, List.length_nil, List.length_append]; omega) | (simp only [List.all_cons, List.all_nil, one_bool, one_int, one_str, one_ptr, one_nilptr, one_slice, one_eslice, one_nilslice, one_func, one_iface, one_niliface, Bool.and_true, Bool.true_and, List.getD_cons_zero, List.getD_cons_succ, List.contains_cons, List.contains_nil, Bool.or_true, Bool.true_or, Bool.or_false, Bool.false_or, Nat.reduceBEq, *]; done) | fail)) only [go_sem, Hold.p, HoldK.k, HoldL.K, HoldL.body, Nat.reduceBEq, Nat.reduceAdd, reduceIte]
    rw [hc']; simp
  · have hc' : p.isPrefixOf s = true := by rwa [Bool.not_eq_false'] at hc
    have hl := (List.isPrefixOf_iff_prefix.1 hc').length_le
    have hx := slcS_lo (q := .i64) hl
    simp (disch := (first | omega | assumption | (simp only [push_n, set_n, put_n, List.length_cons, List.length_nil, List.length_append, Nat.reduceAdd]; done) | (simp only [push_n, set_n, put_n, List.length_cons, List.length_nil, List.length_append]; omega) | (simp only [List.all_cons, List.all_nil, one_bool, one_int, one_str, one_ptr, one_nilptr, one_slice, one_eslice, one_nilslice, one_func, one_iface, one_niliface, Bool.and_true, Bool.true_and, List.getD_cons_zero, List.getD_cons_succ, List.contains_cons, List.contains_nil, Bool.or_true, Bool.true_or, Bool.or_false, Bool.false_or, Nat.reduceBEq, *]; done) | fail)) only [Option.map_none, hx, go_sem, Hold.p, HoldK.k, HoldL.K, HoldL.body, Nat.reduceBEq, Nat.reduceAdd, reduceIte]
    rw [hc']; simp
theorem cutPrefix_c (h : IH) (s p : Txt) (hp : p.length ≤ 100) : ICalls Tryz.prog 89 [.str s, .str p] h fun r h' => r = .tuple [.str (if p.isPrefixOf s = true then s.drop p.length else s), .bool (p.isPrefixOf s)] ∧ h' = h := by
  refine icalls (.of ok89) (Nat.le_of_ble_eq_true rfl) ?_
  unfold c89
  simp (disch := (first | omega | assumption | (simp only [push_n, set_n, put_n, List.length_cons, List.length_nil, List.length_append, Nat.reduceAdd]; done) | (simp only [push_n, set_n, put_n, List.length_cons, List.length_nil, List.length_append]; omega) | (simp only [List.all_cons, List.all_nil, one_bool, one_int, one_str, one_ptr, one_nilptr, one_slice, one_eslice, one_nilslice, one_func, one_iface, one_niliface, Bool.and_true, Bool.true_and, List.getD_cons_zero, List.getD_cons_succ, List.contains_cons, List.contains_nil, Bool.or_true, Bool.true_or, Bool.or_false, Bool.false_or, Nat.reduceBEq, *]; done) | fail)) only [go_sem, Hold.p, HoldK.k, HoldL.K, HoldL.body, Nat.reduceBEq, Nat.reduceAdd, reduceIte]
  refine callA_of (cutPrefix2_c h s p hp) ?_
  rintro r h' ⟨rfl, rfl⟩
  simp (disch := (first | omega | assumption | (simp only [push_n, set_n, put_n, List.length_cons, List.length_nil, List.length_append, Nat.reduceAdd]; done) | (simp only [push_n, set_n, put_n, List.length_cons, List.length_nil, List.length_append]; omega) | (simp only [List.all_cons, List.all_nil, one_bool, one_int, one_str, one_ptr, one_nilptr, one_slice, one_eslice, one_nilslice, one_func, one_iface, one_niliface, Bool.and_true, Bool.true_and, List.getD_cons_zero, List.getD_cons_succ, List.contains_cons, List.contains_nil, Bool.or_true, Bool.true_or, Bool.or_false, Bool.false_or, Nat.reduceBEq, *]; done) | fail)) only [go_sem, Hold.p, HoldK.k, HoldL.K, HoldL.body, Nat.reduceBEq, Nat.reduceAdd, reduceIte]

abbrev rawObj (first : Txt) (v w : IV) (n : Int) : IObj := .rows [[.str first, v, w, .int .i64 n]] 144 4 false
theorem cut_le (s sep : Txt) : (Lib.cut s sep).1.length ≤ s.length ∧ (Lib.cut s sep).2.1.length ≤ s.length := by
  unfold Lib.cut
  split
  · simp only [List.length_take, List.length_drop]; omega
  · simp
theorem toRequest_c (h : IH) (first : Txt) (v w : IV) (n : Int) (fs : List Fld) (body : Txt) (hs : SlR h 2 v (fldRows fs)) (hw : SlR h 1 w (strRows body)) (hl : first.length ≤ 1048576) (hm : fs.length ≤ 1048576) (hF : FldS fs) (mx : mxOn = true) :
    ICalls Tryz.prog 49 [.agg [.str first, v, w, .int .i64 n]] h fun r h' => r = .tuple [.agg [.str (Lib.cut first [32]).1, .str (Lib.cut first [32]).2.1, v, w], .bool (firstB true first && restB fs body.length)] ∧ Ext h h' := by
  refine icalls (.of ok49) (Nat.le_of_ble_eq_true rfl) ?_
  unfold c49
  have v1 := hs.one
  have v2 := hw.one
  have cl := cut_le first [32]
  simp (disch := (first | omega | assumption | (simp only [push_n, set_n, put_n, List.length_cons, List.length_nil, List.length_append, Nat.reduceAdd]; done) | (simp only [push_n, set_n, put_n, List.length_cons, List.length_nil, List.length_append]; omega) | (simp only [List.all_cons, List.all_nil, one_bool, one_int, one_str, one_ptr, one_nilptr, one_slice, one_eslice, one_nilslice, one_func, one_iface, one_niliface, Bool.and_true, Bool.true_and, List.getD_cons_zero, List.getD_cons_succ, List.contains_cons, List.contains_nil, Bool.or_true, Bool.true_or, Bool.or_false, Bool.false_or, Nat.reduceBEq, *]; done) | fail)) only [v1, v2, go_sem, Hold.p, HoldK.k, HoldL.K, HoldL.body, Nat.reduceBEq, Nat.reduceAdd, reduceIte]
  generalize hq_g0 : IH.push h (rawObj first v w n) = g0
  have e_g0 : Ext h g0 := by rw [← hq_g0]; exact (Ext.refl _).push _
  have l_g0 : g0.n = h.n + 1 := by rw [← hq_g0]; rfl
  have b : At g0 h.n (rawObj first v w n) := by rw [← hq_g0]; exact At.new _ _
  clear hq_g0
  have hs := hs.ext e_g0
  have hw := hw.ext e_g0
  have q := b.eq
  try simp (disch := (first | omega | assumption | (simp only [push_n, set_n, put_n, List.length_cons, List.length_nil, List.length_append, Nat.reduceAdd]; done) | (simp only [push_n, set_n, put_n, List.length_cons, List.length_nil, List.length_append]; omega) | (simp only [List.all_cons, List.all_nil, one_bool, one_int, one_str, one_ptr, one_nilptr, one_slice, one_eslice, one_nilslice, one_func, one_iface, one_niliface, Bool.and_true, Bool.true_and, List.getD_cons_zero, List.getD_cons_succ, List.contains_cons, List.contains_nil, Bool.or_true, Bool.true_or, Bool.or_false, Bool.false_or, Nat.reduceBEq, *]; done) | fail)) only [q, go_sem, Hold.p, HoldK.k, HoldL.K, HoldL.body, Nat.reduceBEq, Nat.reduceAdd, reduceIte]
  generalize hq_g : IH.push g0 (reqObj [] [] .nilslice .nilslice) = g
  have e_g : Ext g0 g := by rw [← hq_g]; exact (Ext.refl _).push _
  have l_g : g.n = g0.n + 1 := by rw [← hq_g]; rfl
  have bz : At g g0.n (reqObj [] [] .nilslice .nilslice) := by rw [← hq_g]; exact At.new _ _
  clear hq_g
  have b := b.ext e_g
  have hs := hs.ext e_g
  have hw := hw.ext e_g
  have q := b.eq
  have qz := bz.eq
  try simp (disch := (first | omega | assumption | (simp only [push_n, set_n, put_n, List.length_cons, List.length_nil, List.length_append, Nat.reduceAdd]; done) | (simp only [push_n, set_n, put_n, List.length_cons, List.length_nil, List.length_append]; omega) | (simp only [List.all_cons, List.all_nil, one_bool, one_int, one_str, one_ptr, one_nilptr, one_slice, one_eslice, one_nilslice, one_func, one_iface, one_niliface, Bool.and_true, Bool.true_and, List.getD_cons_zero, List.getD_cons_succ, List.contains_cons, List.contains_nil, Bool.or_true, Bool.true_or, Bool.or_false, Bool.false_or, Nat.reduceBEq, *]; done) | fail)) only [q, go_sem, Hold.p, HoldK.k, HoldL.K, HoldL.body, Nat.reduceBEq, Nat.reduceAdd, reduceIte]
  refine callA_of (cut_c g first [32] hl mx) ?_
  rintro r g1 ⟨rfl, rfl⟩
  simp (disch := (first | omega | assumption | (simp only [push_n, set_n, put_n, List.length_cons, List.length_nil, List.length_append, Nat.reduceAdd]; done) | (simp only [push_n, set_n, put_n, List.length_cons, List.length_nil, List.length_append]; omega) | (simp only [List.all_cons, List.all_nil, one_bool, one_int, one_str, one_ptr, one_nilptr, one_slice, one_eslice, one_nilslice, one_func, one_iface, one_niliface, Bool.and_true, Bool.true_and, List.getD_cons_zero, List.getD_cons_succ, List.contains_cons, List.contains_nil, Bool.or_true, Bool.true_or, Bool.or_false, Bool.false_or, Nat.reduceBEq, *]; done) | fail)) only [q, v1, v2, go_sem, Hold.p, HoldK.k, HoldL.K, HoldL.body, Nat.reduceBEq, Nat.reduceAdd, reduceIte]
  generalize hq_g2 : IH.push g1 (reqObj (Lib.cut first [32]).1 (Lib.cut first [32]).2.1 v w) = g2
  have e_g2 : Ext g1 g2 := by rw [← hq_g2]; exact (Ext.refl _).push _
  have l_g2 : g2.n = g1.n + 1 := by rw [← hq_g2]; rfl
  have b2 : At g2 g1.n (reqObj (Lib.cut first [32]).1 (Lib.cut first [32]).2.1 v w) := by rw [← hq_g2]; exact At.new _ _
  clear hq_g2
  have b := b.ext e_g2
  have bz := bz.ext e_g2
  have hs := hs.ext e_g2
  have hw := hw.ext e_g2
  have q2 := b2.eq
  try simp (disch := (first | omega | assumption | (simp only [push_n, set_n, put_n, List.length_cons, List.length_nil, List.length_append, Nat.reduceAdd]; done) | (simp only [push_n, set_n, put_n, List.length_cons, List.length_nil, List.length_append]; omega) | (simp only [List.all_cons, List.all_nil, one_bool, one_int, one_str, one_ptr, one_nilptr, one_slice, one_eslice, one_nilslice, one_func, one_iface, one_niliface, Bool.and_true, Bool.true_and, List.getD_cons_zero, List.getD_cons_succ, List.contains_cons, List.contains_nil, Bool.or_true, Bool.true_or, Bool.or_false, Bool.false_or, Nat.reduceBEq, *]; done) | fail)) only [q2, v1, v2, go_sem, Hold.p, HoldK.k, HoldL.K, HoldL.body, Nat.reduceBEq, Nat.reduceAdd, reduceIte]
  refine callA_of (implReqOK_c g2 _ _ v w fs body hs hw (by omega) hm hF) ?_
  rintro r g3 ⟨rfl, E3⟩
  have b := b.ext E3
  have bz := bz.ext E3
  have b2 := b2.ext E3
  have le_E3 := E3.le
  have q2 := b2.eq
  have qz := bz.eq
  simp (disch := (first | omega | assumption | (simp only [push_n, set_n, put_n, List.length_cons, List.length_nil, List.length_append, Nat.reduceAdd]; done) | (simp only [push_n, set_n, put_n, List.length_cons, List.length_nil, List.length_append]; omega) | (simp only [List.all_cons, List.all_nil, one_bool, one_int, one_str, one_ptr, one_nilptr, one_slice, one_eslice, one_nilslice, one_func, one_iface, one_niliface, Bool.and_true, Bool.true_and, List.getD_cons_zero, List.getD_cons_succ, List.contains_cons, List.contains_nil, Bool.or_true, Bool.true_or, Bool.or_false, Bool.false_or, Nat.reduceBEq, *]; done) | fail)) only [v1, v2, q2, qz, go_sem, Hold.p, HoldK.k, HoldL.K, HoldL.body, Nat.reduceBEq, Nat.reduceAdd, reduceIte]
  refine ⟨?_, Ext.trn (((e_g0.trans e_g).trans e_g2).trans E3) (Trn.set (lo := g0.n) (hi := g0.n + 1) _ ⟨Nat.le_refl _, Nat.lt_succ_self _⟩) (by omega)⟩
  unfold reqB firstB
  simp only [if_true]
theorem toReply_c (h : IH) (first : Txt) (v w : IV) (n : Int) (fs : List Fld) (body : Txt) (hs : SlR h 2 v (fldRows fs)) (hw : SlR h 1 w (strRows body)) (hl : first.length ≤ 1048576) (hm : fs.length ≤ 1048576) (hF : FldS fs) :
    ICalls Tryz.prog 55 [.agg [.str first, v, w, .int .i64 n]] h fun r h' => (∃ st : Int, r = .tuple [.agg [.int .i64 st, v, w], .bool (firstB false first && restB fs body.length)] ∧ (firstB false first = true → st = (valD (first.drop 6) : Nat))) ∧ Ext h h' := by
  refine icalls (.of ok55) (Nat.le_of_ble_eq_true rfl) ?_
  unfold c55
  have v1 := hs.one
  have v2 := hw.one
  simp (disch := (first | omega | assumption | (simp only [push_n, set_n, put_n, List.length_cons, List.length_nil, List.length_append, Nat.reduceAdd]; done) | (simp only [push_n, set_n, put_n, List.length_cons, List.length_nil, List.length_append]; omega) | (simp only [List.all_cons, List.all_nil, one_bool, one_int, one_str, one_ptr, one_nilptr, one_slice, one_eslice, one_nilslice, one_func, one_iface, one_niliface, Bool.and_true, Bool.true_and, List.getD_cons_zero, List.getD_cons_succ, List.contains_cons, List.contains_nil, Bool.or_true, Bool.true_or, Bool.or_false, Bool.false_or, Nat.reduceBEq, *]; done) | fail)) only [v1, v2, go_sem, Hold.p, HoldK.k, HoldL.K, HoldL.body, Nat.reduceBEq, Nat.reduceAdd, reduceIte]
  generalize hq_g0 : IH.push h (rawObj first v w n) = g0
  have e_g0 : Ext h g0 := by rw [← hq_g0]; exact (Ext.refl _).push _
  have l_g0 : g0.n = h.n + 1 := by rw [← hq_g0]; rfl
  have b : At g0 h.n (rawObj first v w n) := by rw [← hq_g0]; exact At.new _ _
  clear hq_g0
  have hs := hs.ext e_g0
  have hw := hw.ext e_g0
  have q := b.eq
  try simp (disch := (first | omega | assumption | (simp only [push_n, set_n, put_n, List.length_cons, List.length_nil, List.length_append, Nat.reduceAdd]; done) | (simp only [push_n, set_n, put_n, List.length_cons, List.length_nil, List.length_append]; omega) | (simp only [List.all_cons, List.all_nil, one_bool, one_int, one_str, one_ptr, one_nilptr, one_slice, one_eslice, one_nilslice, one_func, one_iface, one_niliface, Bool.and_true, Bool.true_and, List.getD_cons_zero, List.getD_cons_succ, List.contains_cons, List.contains_nil, Bool.or_true, Bool.true_or, Bool.or_false, Bool.false_or, Nat.reduceBEq, *]; done) | fail)) only [q, go_sem, Hold.p, HoldK.k, HoldL.K, HoldL.body, Nat.reduceBEq, Nat.reduceAdd, reduceIte]
  generalize hq_g : IH.push g0 (repObj 0 .nilslice .nilslice) = g
  have e_g : Ext g0 g := by rw [← hq_g]; exact (Ext.refl _).push _
  have l_g : g.n = g0.n + 1 := by rw [← hq_g]; rfl
  have bz : At g g0.n (repObj 0 .nilslice .nilslice) := by rw [← hq_g]; exact At.new _ _
  clear hq_g
  have b := b.ext e_g
  have hs := hs.ext e_g
  have hw := hw.ext e_g
  have q := b.eq
  have qz := bz.eq
  try simp (disch := (first | omega | assumption | (simp only [push_n, set_n, put_n, List.length_cons, List.length_nil, List.length_append, Nat.reduceAdd]; done) | (simp only [push_n, set_n, put_n, List.length_cons, List.length_nil, List.length_append]; omega) | (simp only [List.all_cons, List.all_nil, one_bool, one_int, one_str, one_ptr, one_nilptr, one_slice, one_eslice, one_nilslice, one_func, one_iface, one_niliface, Bool.and_true, Bool.true_and, List.getD_cons_zero, List.getD_cons_succ, List.contains_cons, List.contains_nil, Bool.or_true, Bool.true_or, Bool.or_false, Bool.false_or, Nat.reduceBEq, *]; done) | fail)) only [q, go_sem, Hold.p, HoldK.k, HoldL.K, HoldL.body, Nat.reduceBEq, Nat.reduceAdd, reduceIte]
  refine callA_of (cutPrefix_c g first replyQ (by simp [replyQ])) ?_
  rintro r g1 ⟨rfl, rfl⟩
  simp (disch := (first | omega | assumption | (simp only [push_n, set_n, put_n, List.length_cons, List.length_nil, List.length_append, Nat.reduceAdd]; done) | (simp only [push_n, set_n, put_n, List.length_cons, List.length_nil, List.length_append]; omega) | (simp only [List.all_cons, List.all_nil, one_bool, one_int, one_str, one_ptr, one_nilptr, one_slice, one_eslice, one_nilslice, one_func, one_iface, one_niliface, Bool.and_true, Bool.true_and, List.getD_cons_zero, List.getD_cons_succ, List.contains_cons, List.contains_nil, Bool.or_true, Bool.true_or, Bool.or_false, Bool.false_or, Nat.reduceBEq, *]; done) | fail)) only [q, go_sem, Hold.p, HoldK.k, HoldL.K, HoldL.body, Nat.reduceBEq, Nat.reduceAdd, reduceIte]
  generalize hS : (if replyQ.isPrefixOf first = true then first.drop replyQ.length else first) = S
  have hSl : S.length ≤ 1048576 := by rw [← hS]; split <;> (first | (rw [List.length_drop]; omega) | exact hl)
  refine callA_of (decimal_c g1 S 3 (by omega) hSl) ?_
  rintro r g2 ⟨⟨st, rfl, hst⟩, E2⟩
  have b := b.ext E2
  have bz := bz.ext E2
  have hs := hs.ext E2
  have hw := hw.ext E2
  have le_E2 := E2.le
  have q := b.eq
  simp (disch := (first | omega | assumption | (simp only [push_n, set_n, put_n, List.length_cons, List.length_nil, List.length_append, Nat.reduceAdd]; done) | (simp only [push_n, set_n, put_n, List.length_cons, List.length_nil, List.length_append]; omega) | (simp only [List.all_cons, List.all_nil, one_bool, one_int, one_str, one_ptr, one_nilptr, one_slice, one_eslice, one_nilslice, one_func, one_iface, one_niliface, Bool.and_true, Bool.true_and, List.getD_cons_zero, List.getD_cons_succ, List.contains_cons, List.contains_nil, Bool.or_true, Bool.true_or, Bool.or_false, Bool.false_or, Nat.reduceBEq, *]; done) | fail)) only [q, v1, v2, go_sem, Hold.p, HoldK.k, HoldL.K, HoldL.body, Nat.reduceBEq, Nat.reduceAdd, reduceIte]
  generalize hq_g3 : IH.push g2 (repObj st v w) = g3
  have e_g3 : Ext g2 g3 := by rw [← hq_g3]; exact (Ext.refl _).push _
  have l_g3 : g3.n = g2.n + 1 := by rw [← hq_g3]; rfl
  have b3 : At g3 g2.n (repObj st v w) := by rw [← hq_g3]; exact At.new _ _
  clear hq_g3
  have b := b.ext e_g3
  have bz := bz.ext e_g3
  have hs := hs.ext e_g3
  have hw := hw.ext e_g3
  have q3 := b3.eq
  try simp (disch := (first | omega | assumption | (simp only [push_n, set_n, put_n, List.length_cons, List.length_nil, List.length_append, Nat.reduceAdd]; done) | (simp only [push_n, set_n, put_n, List.length_cons, List.length_nil, List.length_append]; omega) | (simp only [List.all_cons, List.all_nil, one_bool, one_int, one_str, one_ptr, one_nilptr, one_slice, one_eslice, one_nilslice, one_func, one_iface, one_niliface, Bool.and_true, Bool.true_and, List.getD_cons_zero, List.getD_cons_succ, List.contains_cons, List.contains_nil, Bool.or_true, Bool.true_or, Bool.or_false, Bool.false_or, Nat.reduceBEq, *]; done) | fail)) only [q3, v1, v2, go_sem, Hold.p, HoldK.k, HoldL.K, HoldL.body, Nat.reduceBEq, Nat.reduceAdd, reduceIte]
  have hP : ∀ b1 : Bool, firstB false first = (replyQ.isPrefixOf first && (decOk S 3 && decide (100 ≤ valD S))) := by
    intro _
    unfold firstB
    simp only [Bool.false_eq_true, if_false]
    cases hq : replyQ.isPrefixOf first with
    | false => rfl
    | true =>
      rw [hq, if_pos rfl] at hS
      have : first.drop 6 = S := hS
      rw [this]; rfl
  have hP := hP true
  refine guard_of (fun hb => ?_) (fun hb => ?_)
  · simp (disch := (first | omega | assumption | (simp only [push_n, set_n, put_n, List.length_cons, List.length_nil, List.length_append, Nat.reduceAdd]; done) | (simp only [push_n, set_n, put_n, List.length_cons, List.length_nil, List.length_append]; omega) | (simp only [List.all_cons, List.all_nil, one_bool, one_int, one_str, one_ptr, one_nilptr, one_slice, one_eslice, one_nilslice, one_func, one_iface, one_niliface, Bool.and_true, Bool.true_and, List.getD_cons_zero, List.getD_cons_succ, List.contains_cons, List.contains_nil, Bool.or_true, Bool.true_or, Bool.or_false, Bool.false_or, Nat.reduceBEq, *]; done) | fail)) only [q3, v1, v2, hb, go_sem, Hold.p, HoldK.k, HoldL.K, HoldL.body, Nat.reduceBEq, Nat.reduceAdd, reduceIte]
    refine callA_of (implReplyOK_c _ st v w fs body hs hw hm hF) ?_
    rintro r g4 ⟨rfl, E4⟩
    have b := b.ext E4
    have bz := bz.ext E4
    have b3 := b3.ext E4
    have le_E4 := E4.le
    have q3 := b3.eq
    have qz := bz.eq
    simp (disch := (first | omega | assumption | (simp only [push_n, set_n, put_n, List.length_cons, List.length_nil, List.length_append, Nat.reduceAdd]; done) | (simp only [push_n, set_n, put_n, List.length_cons, List.length_nil, List.length_append]; omega) | (simp only [List.all_cons, List.all_nil, one_bool, one_int, one_str, one_ptr, one_nilptr, one_slice, one_eslice, one_nilslice, one_func, one_iface, one_niliface, Bool.and_true, Bool.true_and, List.getD_cons_zero, List.getD_cons_succ, List.contains_cons, List.contains_nil, Bool.or_true, Bool.true_or, Bool.or_false, Bool.false_or, Nat.reduceBEq, *]; done) | fail)) only [v1, v2, q3, qz, hb, go_sem, Hold.p, HoldK.k, HoldL.K, HoldL.body, Nat.reduceBEq, Nat.reduceAdd, reduceIte]
    have hX := (((e_g0.trans e_g).trans E2).trans e_g3).trans E4
    have hb' : replyQ.isPrefixOf first = true ∧ decOk S 3 = true := by simpa using hb
    have hv := hst hb'.2
    have hlt : valD S < 1000 := by
      have h2 := hb'.2
      unfold decOk at h2
      simp only [Bool.and_eq_true, decide_eq_true_eq] at h2
      have h3 := valD_lt S h2.1.2
      have h4 : 10 ^ S.length ≤ 10 ^ 3 := Nat.pow_le_pow_right (by omega) h2.1.1.2
      omega
    have hd6 : first.drop 6 = S := by rw [← hS, if_pos hb'.1]; rfl
    refine ⟨⟨st, ?_, fun _ => by rw [hd6, hv]⟩, hX.trn (Trn.set (lo := g0.n) (hi := g0.n + 1) _ ⟨Nat.le_refl _, Nat.lt_succ_self _⟩) (by omega)⟩
    rw [hP, hb'.1, hb'.2, hv]
    unfold replyB
    have e1 : decide ((valD S : Int) ≤ 999) = true := decide_eq_true (by omega)
    have e2 : decide ((100 : Int) ≤ (valD S : Int)) = decide (100 ≤ valD S) := by
      by_cases h : 100 ≤ valD S
      · rw [decide_eq_true h, decide_eq_true (by omega)]
      · rw [decide_eq_false h, decide_eq_false (by omega)]
    rw [e1, e2]
    simp
  · have qz := bz.eq
    simp (disch := (first | omega | assumption | (simp only [push_n, set_n, put_n, List.length_cons, List.length_nil, List.length_append, Nat.reduceAdd]; done) | (simp only [push_n, set_n, put_n, List.length_cons, List.length_nil, List.length_append]; omega) | (simp only [List.all_cons, List.all_nil, one_bool, one_int, one_str, one_ptr, one_nilptr, one_slice, one_eslice, one_nilslice, one_func, one_iface, one_niliface, Bool.and_true, Bool.true_and, List.getD_cons_zero, List.getD_cons_succ, List.contains_cons, List.contains_nil, Bool.or_true, Bool.true_or, Bool.or_false, Bool.false_or, Nat.reduceBEq, *]; done) | fail)) only [q3, qz, v1, v2, hb, go_sem, Hold.p, HoldK.k, HoldL.K, HoldL.body, Nat.reduceBEq, Nat.reduceAdd, reduceIte]
    have hF0 : firstB false first = false := by
      rw [hP]
      revert hb
      cases replyQ.isPrefixOf first <;> cases decOk S 3 <;> simp
    refine ⟨⟨st, by rw [hF0]; rfl, fun e => by rw [hF0] at e; cases e⟩, Ext.trn (((e_g0.trans e_g).trans E2).trans e_g3) (Trn.set (lo := g0.n) (hi := g0.n + 1) _ ⟨Nat.le_refl _, Nat.lt_succ_self _⟩) (by omega)⟩
end
end Go.Proofs.YtdpaehdolhdjdaaGreatDoor



set_option maxRecDepth 20000
namespace Go.Proofs.YtdpaehdolhdjdaaGreatDoor
open Go Go.IW
section
attribute [local go_sem] List.getElem?_cons_zero List.getElem?_cons_succ Option.bind_some List.map_cons List.map_nil Nat.zero_add if_true List.getD_cons_zero List.getD_cons_succ List.contains_cons List.contains_nil Bool.or_true Bool.true_or Bool.or_false Bool.false_or Bool.not_true Bool.not_false true_and and_true rowA_whole mid_get stO_mid rowO_rows cellO_rows push_n set_n push_at push_old set_here set_there set_pushT set_pushN set_set upd_ne Nat.add_assoc Nat.add_zero stO_1s stO_ws boxA_s List.all_cons List.all_nil one_bool one_int one_str one_ptr one_nilptr one_slice one_eslice one_nilslice one_func one_iface one_niliface Bool.and_true Bool.and_self List.length_cons List.length_nil Nat.one_ne_zero Nat.succ_ne_zero if_false List.set_cons_zero List.set_cons_succ lay_nil lay_1 lay_w Option.map_some

/-- What a closure answers, wherever its box stands. -/
def GoodF (req : Bool) (c p : Nat) (o : IObj) : Prop := ∀ (h : IH) (first : Txt) (v : IV) (fs : List Fld), At h p o → SlR h 2 v (fldRows fs) → first.length ≤ 1048576 → fs.length ≤ 1048576 → FldS fs →
  ICalls Tryz.prog c [.str first, v, .ptr p 0 0] h fun r h' => r = .bool (firstB req first && restB fs 0) ∧ Ext h h'
abbrev boxReq : IObj := .rows [[.func 49 [] []]] 104 1 false
abbrev boxRep : IObj := .rows [[.func 55 [] []]] 111 1 false
theorem goodReq (p : Nat) (mx : mxOn = true) : GoodF true 84 p boxReq := by
  intro h first v fs hb hs hl hm hF
  refine icalls (.of ok84) (Nat.le_of_ble_eq_true rfl) ?_
  unfold c84
  have v1 := hs.one
  have q := hb.eq
  simp (disch := (first | omega | assumption | (simp only [push_n, set_n, put_n, List.length_cons, List.length_nil, List.length_append, Nat.reduceAdd]; done) | (simp only [push_n, set_n, put_n, List.length_cons, List.length_nil, List.length_append]; omega) | (simp only [List.all_cons, List.all_nil, one_bool, one_int, one_str, one_ptr, one_nilptr, one_slice, one_eslice, one_nilslice, one_func, one_iface, one_niliface, Bool.and_true, Bool.true_and, List.getD_cons_zero, List.getD_cons_succ, List.contains_cons, List.contains_nil, Bool.or_true, Bool.true_or, Bool.or_false, Bool.false_or, Nat.reduceBEq, *]; done) | fail)) only [q, v1, List.nil_append, List.append_nil, go_sem, Hold.p, HoldK.k, HoldL.K, HoldL.body, Nat.reduceBEq, Nat.reduceAdd, reduceIte]
  refine callA_of (toRequest_c h first v .nilslice 0 fs [] hs (SlR.nil _ _) hl hm hF mx) ?_
  rintro r g1 ⟨rfl, E1⟩
  simp (disch := (first | omega | assumption | (simp only [push_n, set_n, put_n, List.length_cons, List.length_nil, List.length_append, Nat.reduceAdd]; done) | (simp only [push_n, set_n, put_n, List.length_cons, List.length_nil, List.length_append]; omega) | (simp only [List.all_cons, List.all_nil, one_bool, one_int, one_str, one_ptr, one_nilptr, one_slice, one_eslice, one_nilslice, one_func, one_iface, one_niliface, Bool.and_true, Bool.true_and, List.getD_cons_zero, List.getD_cons_succ, List.contains_cons, List.contains_nil, Bool.or_true, Bool.true_or, Bool.or_false, Bool.false_or, Nat.reduceBEq, *]; done) | fail)) only [v1, go_sem, Hold.p, HoldK.k, HoldL.K, HoldL.body, Nat.reduceBEq, Nat.reduceAdd, reduceIte]
  exact E1.trans ((Ext.refl _).push _)
theorem goodRep (p : Nat) : GoodF false 88 p boxRep := by
  intro h first v fs hb hs hl hm hF
  refine icalls (.of ok88) (Nat.le_of_ble_eq_true rfl) ?_
  unfold c88
  have v1 := hs.one
  have q := hb.eq
  simp (disch := (first | omega | assumption | (simp only [push_n, set_n, put_n, List.length_cons, List.length_nil, List.length_append, Nat.reduceAdd]; done) | (simp only [push_n, set_n, put_n, List.length_cons, List.length_nil, List.length_append]; omega) | (simp only [List.all_cons, List.all_nil, one_bool, one_int, one_str, one_ptr, one_nilptr, one_slice, one_eslice, one_nilslice, one_func, one_iface, one_niliface, Bool.and_true, Bool.true_and, List.getD_cons_zero, List.getD_cons_succ, List.contains_cons, List.contains_nil, Bool.or_true, Bool.true_or, Bool.or_false, Bool.false_or, Nat.reduceBEq, *]; done) | fail)) only [q, v1, List.nil_append, List.append_nil, go_sem, Hold.p, HoldK.k, HoldL.K, HoldL.body, Nat.reduceBEq, Nat.reduceAdd, reduceIte]
  refine callA_of (toReply_c h first v .nilslice 0 fs [] hs (SlR.nil _ _) hl hm hF) ?_
  rintro r g1 ⟨⟨st, rfl, _⟩, E1⟩
  simp (disch := (first | omega | assumption | (simp only [push_n, set_n, put_n, List.length_cons, List.length_nil, List.length_append, Nat.reduceAdd]; done) | (simp only [push_n, set_n, put_n, List.length_cons, List.length_nil, List.length_append]; omega) | (simp only [List.all_cons, List.all_nil, one_bool, one_int, one_str, one_ptr, one_nilptr, one_slice, one_eslice, one_nilslice, one_func, one_iface, one_niliface, Bool.and_true, Bool.true_and, List.getD_cons_zero, List.getD_cons_succ, List.contains_cons, List.contains_nil, Bool.or_true, Bool.true_or, Bool.or_false, Bool.false_or, Nat.reduceBEq, *]; done) | fail)) only [v1, go_sem, Hold.p, HoldK.k, HoldL.K, HoldL.body, Nat.reduceBEq, Nat.reduceAdd, reduceIte]
  exact E1.trans ((Ext.refl _).push _)
theorem dup_c (h : IH) (v : IV) (bs : Txt) (hs : SlR h 1 v (strRows bs)) (hl : bs.length ≤ 1048576) : ICalls Tryz.prog 122 [v] h fun r h' => Own h.n h'.n h' 5 1 r (strRows bs) ∧ Ext h h' := by
  refine icalls (.of ok122) (Nat.le_of_ble_eq_true rfl) ?_
  unfold c122
  have v1 := hs.one
  have hsrc := hs.src
  simp (disch := (first | omega | assumption | (simp only [push_n, set_n, put_n, List.length_cons, List.length_nil, List.length_append, Nat.reduceAdd]; done) | (simp only [push_n, set_n, put_n, List.length_cons, List.length_nil, List.length_append]; omega) | (simp only [List.all_cons, List.all_nil, one_bool, one_int, one_str, one_ptr, one_nilptr, one_slice, one_eslice, one_nilslice, one_func, one_iface, one_niliface, Bool.and_true, Bool.true_and, List.getD_cons_zero, List.getD_cons_succ, List.contains_cons, List.contains_nil, Bool.or_true, Bool.true_or, Bool.or_false, Bool.false_or, Nat.reduceBEq, *]; done) | fail)) only [v1, hsrc, go_sem, Hold.p, HoldK.k, HoldL.K, HoldL.body, Nat.reduceBEq, Nat.reduceAdd, reduceIte]
  by_cases hb : bs = []
  · subst hb
    refine appA_none rfl ?_
    simp (disch := (first | omega | assumption | (simp only [push_n, set_n, put_n, List.length_cons, List.length_nil, List.length_append, Nat.reduceAdd]; done) | (simp only [push_n, set_n, put_n, List.length_cons, List.length_nil, List.length_append]; omega) | (simp only [List.all_cons, List.all_nil, one_bool, one_int, one_str, one_ptr, one_nilptr, one_slice, one_eslice, one_nilslice, one_func, one_iface, one_niliface, Bool.and_true, Bool.true_and, List.getD_cons_zero, List.getD_cons_succ, List.contains_cons, List.contains_nil, Bool.or_true, Bool.true_or, Bool.or_false, Bool.false_or, Nat.reduceBEq, *]; done) | fail)) only [go_sem, Hold.p, HoldK.k, HoldL.K, HoldL.body, Nat.reduceBEq, Nat.reduceAdd, reduceIte]
    exact ⟨Own.nil, Ext.refl _⟩
  · refine (Own.nil (lo := h.n) (hi := h.n) (h := h) (el := 5) (sz := 1)).app (by simpa [strRows] using hb) (by simp only [strRows_len, List.length_nil]; omega) ?_
    intro v6 h6 o6 t6 n6 v6o v6c
    simp (disch := (first | omega | assumption | (simp only [push_n, set_n, put_n, List.length_cons, List.length_nil, List.length_append, Nat.reduceAdd]; done) | (simp only [push_n, set_n, put_n, List.length_cons, List.length_nil, List.length_append]; omega) | (simp only [List.all_cons, List.all_nil, one_bool, one_int, one_str, one_ptr, one_nilptr, one_slice, one_eslice, one_nilslice, one_func, one_iface, one_niliface, Bool.and_true, Bool.true_and, List.getD_cons_zero, List.getD_cons_succ, List.contains_cons, List.contains_nil, Bool.or_true, Bool.true_or, Bool.or_false, Bool.false_or, Nat.reduceBEq, *]; done) | fail)) only [go_sem, Hold.p, HoldK.k, HoldL.K, HoldL.body, Nat.reduceBEq, Nat.reduceAdd, reduceIte]
    exact ⟨o6.wide (Nat.le_refl _) (by omega) (Nat.le_refl _), (Ext.refl h).turn (Own.nil (lo := h.n) (hi := h.n) (h := h) (el := 5) (sz := 1)) (Nat.le_refl _) t6⟩
end
end Go.Proofs.YtdpaehdolhdjdaaGreatDoor



set_option maxRecDepth 20000
namespace Go.Proofs.YtdpaehdolhdjdaaGreatDoor
open Go Go.IW
section
attribute [local go_sem] List.getElem?_cons_zero List.getElem?_cons_succ Option.bind_some List.map_cons List.map_nil Nat.zero_add if_true List.getD_cons_zero List.getD_cons_succ List.contains_cons List.contains_nil Bool.or_true Bool.true_or Bool.or_false Bool.false_or Bool.not_true Bool.not_false true_and and_true rowA_whole mid_get stO_mid rowO_rows cellO_rows push_n set_n push_at push_old set_here set_there set_pushT set_pushN set_set upd_ne Nat.add_assoc Nat.add_zero stO_1s stO_ws boxA_s List.all_cons List.all_nil one_bool one_int one_str one_ptr one_nilptr one_slice one_eslice one_nilslice one_func one_iface one_niliface Bool.and_true Bool.and_self List.length_cons List.length_nil Nat.one_ne_zero Nat.succ_ne_zero if_false List.set_cons_zero List.set_cons_succ lay_nil lay_1 lay_w Option.map_some

abbrev raw0 : IObj := rawObj [] .nilslice .nilslice 0
/-- What oneMessage answers. -/
def OneRes (h h' : IH) (r : IV) : One → Prop
  | .stop c => ∃ c0 c1 c2 c3, r = .tuple [.agg [c0, c1, c2, c3], .bool false, .int .i64 c] ∧ c0.one = true ∧ c1.one = true ∧ c2.one = true ∧ c3.one = true
  | .msg first fs body size => ∃ v w m, r = .tuple [.agg [.str first, v, w, .int .i64 (size : Nat)], .bool true, .int .i64 0] ∧ h.n ≤ m ∧ m ≤ h'.n ∧ Own h.n m h' 106 2 v (fldRows fs) ∧ Own m h'.n h' 5 1 w (strRows body)
theorem _root_.Go.IW.Ext.set1 {h g : IH} (E : Ext h g) {l : Nat} (o : IObj) (hl : h.n ≤ l) : Ext h (g.set l o) := Ext.trn E (Trn.set (lo := l) (hi := l + 1) o ⟨Nat.le_refl _, Nat.lt_succ_self _⟩) hl
/-- A slice of other cells stands elsewhere. -/
theorem _root_.Go.IW.SlR.setp {h : IH} {p sz sz' e' : Nat} {v : IV} {rs rs' : List (List IV)} {ro' : Bool} (hs : SlR h sz v rs) (a : At h p (.rows rs' e' sz' ro')) (hz : sz ≠ sz') (o : IObj) : SlR (h.set p o) sz v rs := by
  refine hs.same (Nat.le_refl _) fun l i n hv => set_there _ _ _ _ fun e => ?_
  subst hv; subst e
  obtain ⟨rs0, e0, ro, ho, _⟩ := srcRows_live hs.src
  have := ho.symm.trans a.eq
  simp only [IObj.rows.injEq] at this
  exact hz this.2.2.1
theorem _root_.Go.IW.Arg.setp {lo : Nat} {h : IH} {p sz sz' e' : Nat} {v : IV} {rs rs' : List (List IV)} {ro' : Bool} (hs : Arg lo h sz v rs) (a : At h p (.rows rs' e' sz' ro')) (hz : sz ≠ sz') (o : IObj) : Arg lo (h.set p o) sz v rs := ⟨hs.sl.setp a hz o, hs.lt⟩
theorem slcF_at1 {h : IH} {sz : Nat} {v v' : IV} {lo hi : Option IV} {B : Nat} (e : slcF h sz v lo hi = some v') (hB : ∀ l i n, v = .slice l i n → l < B) : ∀ l i n, v' = .slice l i n → l < B := by
  intro l i n hv
  subst hv
  obtain ⟨i0, m0, e0⟩ := slcF_at e
  exact hB _ _ _ e0
set_option maxHeartbeats 1000000 in
theorem oneMessage_c (req : Bool) (c p : Nat) (o : IObj) (hG : GoodF req c p o) (mx : mxOn = true) (h : IH) (v : IV) (bs : Txt) (ha : At h p o) (hs : SlR h 1 v (strRows bs)) (hl : bs.length ≤ 1048576) :
    ICalls Tryz.prog 83 [v, .func c [] [.ptr p 0 0]] h fun r h' => OneRes h h' r (oneB req bs) ∧ Ext h h' := by
  refine icalls (.of ok83) (Nat.le_of_ble_eq_true rfl) ?_
  unfold c83
  have hlen := hs.lenF
  rw [strRows_len] at hlen
  refine vc_split 6 (fun e g => ∃ i : Nat, e 0 = v ∧ e 1 = .func c [] [.ptr p 0 0] ∧ e 4 = .ptr h.n 0 0 ∧ e 7 = .ptr (h.n + 1) 0 0 ∧ e 9 = .int .i64 (i : Nat) ∧ bs[0]? ≠ some 10 ∧ atI bs = i ∧ At g h.n raw0 ∧ At g (h.n + 1) raw0 ∧ Ext h g) ?_ ?_
  · simp only [CC.split]
    simp (disch := (first | omega | assumption | (simp only [push_n, set_n, put_n, List.length_cons, List.length_nil, List.length_append, Nat.reduceAdd]; done) | (simp only [push_n, set_n, put_n, List.length_cons, List.length_nil, List.length_append]; omega) | (simp only [List.all_cons, List.all_nil, one_bool, one_int, one_str, one_ptr, one_nilptr, one_slice, one_eslice, one_nilslice, one_func, one_iface, one_niliface, Bool.and_true, Bool.true_and, List.getD_cons_zero, List.getD_cons_succ, List.contains_cons, List.contains_nil, Bool.or_true, Bool.true_or, Bool.or_false, Bool.false_or, Nat.reduceBEq, *]; done) | fail)) only [go_sem, Hold.p, HoldK.k, HoldL.K, HoldL.body, Nat.reduceBEq, Nat.reduceAdd, reduceIte]
    generalize hq_g0 : IH.push h (raw0) = g0
    have e_g0 : Ext h g0 := by rw [← hq_g0]; exact (Ext.refl _).push _
    have l_g0 : g0.n = h.n + 1 := by rw [← hq_g0]; rfl
    have b0 : At g0 h.n (raw0) := by rw [← hq_g0]; exact At.new _ _
    clear hq_g0
    have hs := hs.ext e_g0
    try simp (disch := (first | omega | assumption | (simp only [push_n, set_n, put_n, List.length_cons, List.length_nil, List.length_append, Nat.reduceAdd]; done) | (simp only [push_n, set_n, put_n, List.length_cons, List.length_nil, List.length_append]; omega) | (simp only [List.all_cons, List.all_nil, one_bool, one_int, one_str, one_ptr, one_nilptr, one_slice, one_eslice, one_nilslice, one_func, one_iface, one_niliface, Bool.and_true, Bool.true_and, List.getD_cons_zero, List.getD_cons_succ, List.contains_cons, List.contains_nil, Bool.or_true, Bool.true_or, Bool.or_false, Bool.false_or, Nat.reduceBEq, *]; done) | fail)) only [go_sem, Hold.p, HoldK.k, HoldL.K, HoldL.body, Nat.reduceBEq, Nat.reduceAdd, reduceIte]
    generalize hq_g1 : IH.push g0 (raw0) = g1
    have e_g1 : Ext g0 g1 := by rw [← hq_g1]; exact (Ext.refl _).push _
    have l_g1 : g1.n = g0.n + 1 := by rw [← hq_g1]; rfl
    have b1 : At g1 g0.n (raw0) := by rw [← hq_g1]; exact At.new _ _
    clear hq_g1
    have b0 := b0.ext e_g1
    have hs := hs.ext e_g1
    have hmin : min (bs.length : Int) 8000 = ((min bs.length 8000 : Nat) : Int) := by omega
    obtain ⟨v8, hv8, hs8⟩ := hs.hi (b := min bs.length 8000) (q := .i64) (by rw [strRows_len]; omega)
    rw [strRows_take, List.take_eq_take_iff.2 (show min (min bs.length 8000) bs.length = min 8000 bs.length by omega)] at hs8
    try simp (disch := (first | omega | assumption | (simp only [push_n, set_n, put_n, List.length_cons, List.length_nil, List.length_append, Nat.reduceAdd]; done) | (simp only [push_n, set_n, put_n, List.length_cons, List.length_nil, List.length_append]; omega) | (simp only [List.all_cons, List.all_nil, one_bool, one_int, one_str, one_ptr, one_nilptr, one_slice, one_eslice, one_nilslice, one_func, one_iface, one_niliface, Bool.and_true, Bool.true_and, List.getD_cons_zero, List.getD_cons_succ, List.contains_cons, List.contains_nil, Bool.or_true, Bool.true_or, Bool.or_false, Bool.false_or, Nat.reduceBEq, *]; done) | fail)) only [hlen, hmin, Option.map_none, hv8, bslA_2, go_sem, Hold.p, HoldK.k, HoldL.K, HoldL.body, Nat.reduceBEq, Nat.reduceAdd, reduceIte]
    generalize hq_g2 : IH.push g1 (IObj.rows [[.int .u8 10], [.int .u8 10]] 5 1 false) = g2
    have e_g2 : Ext g1 g2 := by rw [← hq_g2]; exact (Ext.refl _).push _
    have l_g2 : g2.n = g1.n + 1 := by rw [← hq_g2]; rfl
    have b2 : At g2 g1.n (IObj.rows [[.int .u8 10], [.int .u8 10]] 5 1 false) := by rw [← hq_g2]; exact At.new _ _
    clear hq_g2
    have b0 := b0.ext e_g2
    have b1 := b1.ext e_g2
    have hs := hs.ext e_g2
    have hs8 := hs8.ext e_g2
    have q2 := b2.eq
    try simp (disch := (first | omega | assumption | (simp only [push_n, set_n, put_n, List.length_cons, List.length_nil, List.length_append, Nat.reduceAdd]; done) | (simp only [push_n, set_n, put_n, List.length_cons, List.length_nil, List.length_append]; omega) | (simp only [List.all_cons, List.all_nil, one_bool, one_int, one_str, one_ptr, one_nilptr, one_slice, one_eslice, one_nilslice, one_func, one_iface, one_niliface, Bool.and_true, Bool.true_and, List.getD_cons_zero, List.getD_cons_succ, List.contains_cons, List.contains_nil, Bool.or_true, Bool.true_or, Bool.or_false, Bool.false_or, Nat.reduceBEq, *]; done) | fail)) only [q2, go_sem, Hold.p, HoldK.k, HoldL.K, HoldL.body, Nat.reduceBEq, Nat.reduceAdd, reduceIte]
    have s2 : SlR g2 1 (.slice g1.n 0 2) (strRows [10, 10]) := SlR.whole (rs := strRows [10, 10]) q2 rfl b2.lt
    refine callA_of (bIndex_c g2 v8 (.slice g1.n 0 2) (bs.take 8000) [10, 10] hs8 s2 (by rw [List.length_take]; omega) (by simp) (by simp) mx) ?_
    rintro r g3 ⟨rfl, rfl⟩
    have hEx : Ext h g3 := (e_g0.trans e_g1).trans e_g2
    have hat : Lib.index (bs.take 8000) [10, 10] = atI bs := rfl
    rw [hat]
    have q0 := b0.eq
    have q1 := b1.eq
    have n1 : g0.n = h.n + 1 := l_g0
    rw [n1] at q1 b1
    have hcase : bs[0]? = some 10 ∨ bs[0]? ≠ some 10 := Classical.em _
    simp (disch := (first | omega | assumption | (simp only [push_n, set_n, put_n, List.length_cons, List.length_nil, List.length_append, Nat.reduceAdd]; done) | (simp only [push_n, set_n, put_n, List.length_cons, List.length_nil, List.length_append]; omega) | (simp only [List.all_cons, List.all_nil, one_bool, one_int, one_str, one_ptr, one_nilptr, one_slice, one_eslice, one_nilslice, one_func, one_iface, one_niliface, Bool.and_true, Bool.true_and, List.getD_cons_zero, List.getD_cons_succ, List.contains_cons, List.contains_nil, Bool.or_true, Bool.true_or, Bool.or_false, Bool.false_or, Nat.reduceBEq, *]; done) | fail)) only [hlen, go_sem, Hold.p, HoldK.k, HoldL.K, HoldL.body, Nat.reduceBEq, Nat.reduceAdd, reduceIte]
    rcases Classical.em (bs = []) with hbe | hbe
    · have d1 : decide ((0 : Int) < (bs.length : Int)) = false := by rw [hbe]; rfl
      have hat1 : atI bs = -1 := by rw [hbe]; rfl
      have hne : bs[0]? ≠ some 10 := by rw [hbe]; simp
      have h8 : ¬ 8000 ≤ bs.length := by rw [hbe]; simp
      have d2 : decide ((8000 : Int) ≤ (bs.length : Int)) = false := by rw [hbe]; rfl
      rw [one_wait hne (by omega) h8]
      have d3 : decide ((-1 : Int) < 0) = true := rfl
      simp (disch := (first | omega | assumption | (simp only [push_n, set_n, put_n, List.length_cons, List.length_nil, List.length_append, Nat.reduceAdd]; done) | (simp only [push_n, set_n, put_n, List.length_cons, List.length_nil, List.length_append]; omega) | (simp only [List.all_cons, List.all_nil, one_bool, one_int, one_str, one_ptr, one_nilptr, one_slice, one_eslice, one_nilslice, one_func, one_iface, one_niliface, Bool.and_true, Bool.true_and, List.getD_cons_zero, List.getD_cons_succ, List.contains_cons, List.contains_nil, Bool.or_true, Bool.true_or, Bool.or_false, Bool.false_or, Nat.reduceBEq, *]; done) | fail)) only [d1, hat1, d3, hlen, d2, q0, q1, n1, go_sem, Hold.p, HoldK.k, HoldL.K, HoldL.body, Nat.reduceBEq, Nat.reduceAdd, reduceIte]
      exact ⟨⟨_, _, _, _, rfl, rfl, rfl, rfl, rfl⟩, hEx.set1 _ (Nat.le_refl _)⟩
    have hpos := List.length_pos_iff.2 hbe
    have d1 : decide ((0 : Int) < (bs.length : Int)) = true := decide_eq_true (by omega)
    obtain ⟨x, hx⟩ : ∃ b, bs[0]? = some b := ⟨_, List.getElem?_eq_getElem hpos⟩
    obtain ⟨l, j, hia, hll, hrow⟩ := hs.at (m := 0) (strRows_at hx) .i64
    have hia : iadrF g3 1 v (.int .i64 0) = some (.ptr l j 0) := hia
    have hcl := cellO_row hrow
    simp (disch := (first | omega | assumption | (simp only [push_n, set_n, put_n, List.length_cons, List.length_nil, List.length_append, Nat.reduceAdd]; done) | (simp only [push_n, set_n, put_n, List.length_cons, List.length_nil, List.length_append]; omega) | (simp only [List.all_cons, List.all_nil, one_bool, one_int, one_str, one_ptr, one_nilptr, one_slice, one_eslice, one_nilslice, one_func, one_iface, one_niliface, Bool.and_true, Bool.true_and, List.getD_cons_zero, List.getD_cons_succ, List.contains_cons, List.contains_nil, Bool.or_true, Bool.true_or, Bool.or_false, Bool.false_or, Nat.reduceBEq, *]; done) | fail)) only [d1, hia, hcl, go_sem, Hold.p, HoldK.k, HoldL.K, HoldL.body, Nat.reduceBEq, Nat.reduceAdd, reduceIte]
    refine test_dec (fun hc => ?_) (fun hc => ?_)
    · have hx10 : x = 10 := UInt8.toNat_inj.1 (by show x.toNat = 10; omega)
      rw [one_nl (by rw [hx, hx10])]
      simp (disch := (first | omega | assumption | (simp only [push_n, set_n, put_n, List.length_cons, List.length_nil, List.length_append, Nat.reduceAdd]; done) | (simp only [push_n, set_n, put_n, List.length_cons, List.length_nil, List.length_append]; omega) | (simp only [List.all_cons, List.all_nil, one_bool, one_int, one_str, one_ptr, one_nilptr, one_slice, one_eslice, one_nilslice, one_func, one_iface, one_niliface, Bool.and_true, Bool.true_and, List.getD_cons_zero, List.getD_cons_succ, List.contains_cons, List.contains_nil, Bool.or_true, Bool.true_or, Bool.or_false, Bool.false_or, Nat.reduceBEq, *]; done) | fail)) only [q0, q1, n1, go_sem, Hold.p, HoldK.k, HoldL.K, HoldL.body, Nat.reduceBEq, Nat.reduceAdd, reduceIte]
      exact ⟨⟨_, _, _, _, rfl, rfl, rfl, rfl, rfl⟩, hEx.set1 _ (Nat.le_refl _)⟩
    have hne : bs[0]? ≠ some 10 := by rw [hx]; intro e; cases e; exact hc rfl
    rcases atI_cases bs with hm1 | ⟨i, hi, hi1, hi2, hi3, hi4⟩
    · have d3 : decide ((-1 : Int) < 0) = true := rfl
      simp (disch := (first | omega | assumption | (simp only [push_n, set_n, put_n, List.length_cons, List.length_nil, List.length_append, Nat.reduceAdd]; done) | (simp only [push_n, set_n, put_n, List.length_cons, List.length_nil, List.length_append]; omega) | (simp only [List.all_cons, List.all_nil, one_bool, one_int, one_str, one_ptr, one_nilptr, one_slice, one_eslice, one_nilslice, one_func, one_iface, one_niliface, Bool.and_true, Bool.true_and, List.getD_cons_zero, List.getD_cons_succ, List.contains_cons, List.contains_nil, Bool.or_true, Bool.true_or, Bool.or_false, Bool.false_or, Nat.reduceBEq, *]; done) | fail)) only [hm1, d3, hlen, go_sem, Hold.p, HoldK.k, HoldL.K, HoldL.body, Nat.reduceBEq, Nat.reduceAdd, reduceIte]
      refine test_dec (fun hc2 => ?_) (fun hc2 => ?_)
      · rw [one_big hne (by omega) (by omega)]
        simp (disch := (first | omega | assumption | (simp only [push_n, set_n, put_n, List.length_cons, List.length_nil, List.length_append, Nat.reduceAdd]; done) | (simp only [push_n, set_n, put_n, List.length_cons, List.length_nil, List.length_append]; omega) | (simp only [List.all_cons, List.all_nil, one_bool, one_int, one_str, one_ptr, one_nilptr, one_slice, one_eslice, one_nilslice, one_func, one_iface, one_niliface, Bool.and_true, Bool.true_and, List.getD_cons_zero, List.getD_cons_succ, List.contains_cons, List.contains_nil, Bool.or_true, Bool.true_or, Bool.or_false, Bool.false_or, Nat.reduceBEq, *]; done) | fail)) only [q0, q1, n1, go_sem, Hold.p, HoldK.k, HoldL.K, HoldL.body, Nat.reduceBEq, Nat.reduceAdd, reduceIte]
        exact ⟨⟨_, _, _, _, rfl, rfl, rfl, rfl, rfl⟩, hEx.set1 _ (Nat.le_refl _)⟩
      · rw [one_wait hne (by omega) (by omega)]
        simp (disch := (first | omega | assumption | (simp only [push_n, set_n, put_n, List.length_cons, List.length_nil, List.length_append, Nat.reduceAdd]; done) | (simp only [push_n, set_n, put_n, List.length_cons, List.length_nil, List.length_append]; omega) | (simp only [List.all_cons, List.all_nil, one_bool, one_int, one_str, one_ptr, one_nilptr, one_slice, one_eslice, one_nilslice, one_func, one_iface, one_niliface, Bool.and_true, Bool.true_and, List.getD_cons_zero, List.getD_cons_succ, List.contains_cons, List.contains_nil, Bool.or_true, Bool.true_or, Bool.or_false, Bool.false_or, Nat.reduceBEq, *]; done) | fail)) only [q0, q1, n1, go_sem, Hold.p, HoldK.k, HoldL.K, HoldL.body, Nat.reduceBEq, Nat.reduceAdd, reduceIte]
        exact ⟨⟨_, _, _, _, rfl, rfl, rfl, rfl, rfl⟩, hEx.set1 _ (Nat.le_refl _)⟩
    · have d3 : decide ((i : Int) < 0) = false := decide_eq_false (by omega)
      simp (disch := (first | omega | assumption | (simp only [push_n, set_n, put_n, List.length_cons, List.length_nil, List.length_append, Nat.reduceAdd]; done) | (simp only [push_n, set_n, put_n, List.length_cons, List.length_nil, List.length_append]; omega) | (simp only [List.all_cons, List.all_nil, one_bool, one_int, one_str, one_ptr, one_nilptr, one_slice, one_eslice, one_nilslice, one_func, one_iface, one_niliface, Bool.and_true, Bool.true_and, List.getD_cons_zero, List.getD_cons_succ, List.contains_cons, List.contains_nil, Bool.or_true, Bool.true_or, Bool.or_false, Bool.false_or, Nat.reduceBEq, *]; done) | fail)) only [hi, d3, n1, go_sem, Hold.p, HoldK.k, HoldL.K, HoldL.body, Nat.reduceBEq, Nat.reduceAdd, reduceIte]
      exact ⟨i, rfl, hne, rfl, b0, b1, hEx⟩
  rintro e g ⟨i, i0, i1, i4, i7, i9, hne, hat, b0, b1, E⟩
  have hi : i + 2 ≤ bs.length ∧ bs[i]? = some 10 ∧ bs[i + 1]? = some 10 := by
    rcases atI_cases bs with hm1 | ⟨k, hk, k1, k2, k3, k4⟩
    · omega
    · have : i = k := by omega
      subst this; exact ⟨k1, k3, k4⟩
  simp only [CC.split]
  refine vc_split 2 (fun e g => ∃ v10 first L B, cutAt 10 (bs.take i) = first :: L ∧ e 0 = v ∧ e 1 = .func c [] [.ptr p 0 0] ∧ e 4 = .ptr h.n 0 0 ∧ e 7 = .ptr (h.n + 1) 0 0 ∧ e 9 = .int .i64 (i : Nat) ∧ e 10 = v10 ∧ Arg B g 1 v10 ((first :: L).map sRow) ∧ h.n + 2 ≤ B ∧ B ≤ g.n ∧ At g h.n raw0 ∧ At g (h.n + 1) (rawObj first .nilslice .nilslice 0) ∧ Ext h g) ?_ ?_
  · simp only [CC.split]
    have hsg := hs.ext E
    obtain ⟨v8, hv8, hs8⟩ := hsg.hi (b := i) (q := .i64) (by rw [strRows_len]; omega)
    rw [strRows_take] at hs8
    have hb2 := hs8.b2s
    simp (disch := (first | omega | assumption | (simp only [push_n, set_n, put_n, List.length_cons, List.length_nil, List.length_append, Nat.reduceAdd]; done) | (simp only [push_n, set_n, put_n, List.length_cons, List.length_nil, List.length_append]; omega) | (simp only [List.all_cons, List.all_nil, one_bool, one_int, one_str, one_ptr, one_nilptr, one_slice, one_eslice, one_nilslice, one_func, one_iface, one_niliface, Bool.and_true, Bool.true_and, List.getD_cons_zero, List.getD_cons_succ, List.contains_cons, List.contains_nil, Bool.or_true, Bool.true_or, Bool.or_false, Bool.false_or, Nat.reduceBEq, *]; done) | fail)) only [i0, i9, Option.map_none, hv8, hb2, go_sem, Hold.p, HoldK.k, HoldL.K, HoldL.body, Nat.reduceBEq, Nat.reduceAdd, reduceIte]
    refine callA_of (split_c g (bs.take i) 10 (by rw [List.length_take]; omega)) ?_
    rintro r g1 ⟨hr, E1⟩
    have b0 := b0.ext E1
    have b1 := b1.ext E1
    have le_E1 := E1.le
    have q1 := b1.eq
    cases hcut : cutAt 10 (bs.take i) with
    | nil => exact absurd hcut (cutAt_ne 10 _)
    | cons first L =>
      rw [hcut] at hr
      obtain ⟨l, j, hia, hll, hrow⟩ := hr.at (m := 0) (row := sRow first) rfl .i64
      have hia : iadrF g1 1 r (.int .i64 0) = some (.ptr l j 0) := hia
      have hcl := cellO_row hrow
      have hcl0 : cellO (g1.obj l) j 0 = some (.str first) := by rw [hcl]; rfl
      simp (disch := (first | omega | assumption | (simp only [push_n, set_n, put_n, List.length_cons, List.length_nil, List.length_append, Nat.reduceAdd]; done) | (simp only [push_n, set_n, put_n, List.length_cons, List.length_nil, List.length_append]; omega) | (simp only [List.all_cons, List.all_nil, one_bool, one_int, one_str, one_ptr, one_nilptr, one_slice, one_eslice, one_nilslice, one_func, one_iface, one_niliface, Bool.and_true, Bool.true_and, List.getD_cons_zero, List.getD_cons_succ, List.contains_cons, List.contains_nil, Bool.or_true, Bool.true_or, Bool.or_false, Bool.false_or, Nat.reduceBEq, *]; done) | fail)) only [i7, hia, hcl0, q1, go_sem, Hold.p, HoldK.k, HoldL.K, HoldL.body, Nat.reduceBEq, Nat.reduceAdd, reduceIte]
      refine ⟨r, first, L, g1.n, rfl, i0, i1, i4, i9, rfl, ⟨hr.setp b1 (by decide) _, hr.lt⟩, ?_, Nat.le_refl _, b0.set (by omega), b1.here, (E.trans E1).set1 _ (by omega)⟩
      have := b1.lt; omega
  clear i0 i1 i4 i7 i9 b0 b1 E g e
  rintro e g ⟨v10, first, L, B, hcut, i0, i1, i4, i7, i9, i10, a10, hB, hBg, b0, b1, E⟩
  have hone : oneB req bs = bodyO req bs first i (hdOk L) := one_body hne hat hcut
  have hbad : hdOk L = none → oneB req bs = .stop 19 := fun e => by rw [hone, e]; rfl
  have hLl : L.length ≤ i := by
    have := cutAt_len 10 (bs.take i)
    rw [hcut, List.length_cons] at this
    have h2 : (bs.take i).count 10 ≤ (bs.take i).length := List.count_le_length
    rw [List.length_take] at h2
    omega
  have hpl : ∀ q ∈ first :: L, q.length ≤ 1048576 := fun q hq => by
    rw [← hcut] at hq
    have := piece_len 10 _ q hq
    rw [List.length_take] at this
    omega
  have hL10 : lenF v10 = some (.int .i64 ((L.length + 1 : Nat) : Int)) := by
    have := a10.sl.lenF
    rwa [List.length_map, List.length_cons] at this
  simp only [CC.split]
  refine vc_split 2 (fun e g => ∃ fs n vf lo hi, linesF L = some (fs, n) ∧ FldS fs ∧ fs.length ≤ L.length ∧ e 0 = v ∧ e 1 = .func c [] [.ptr p 0 0] ∧ e 4 = .ptr h.n 0 0 ∧ e 7 = .ptr (h.n + 1) 0 0 ∧ e 9 = .int .i64 (i : Nat) ∧ e 11 = .int .i64 (n : Nat) ∧
    Own lo hi g 106 2 vf (fldRows fs) ∧ h.n + 2 ≤ lo ∧ hi ≤ g.n ∧ At g h.n raw0 ∧ At g (h.n + 1) (rawObj first vf .nilslice 0) ∧ Ext h g) ?_ ?_
  · simp only [CC.split]
    obtain ⟨v53, hx53, hs53⟩ := a10.sl.lo (a := 1) (q := .i64) (by simp)
    have hv53 : slcF g 1 v10 (some (.int .i64 1)) none = some v53 := hx53
    clear hx53
    have a53 : Arg B g 1 v53 (L.map sRow) := ⟨by simpa using hs53, slcF_at1 hv53 a10.lt⟩
    clear hs53 a10
    have hL53 : lenF v53 = some (.int .i64 ((L.length : Nat) : Int)) := by
      have := a53.sl.lenF
      rwa [List.length_map] at this
    simp (disch := (first | omega | assumption | (simp only [push_n, set_n, put_n, List.length_cons, List.length_nil, List.length_append, Nat.reduceAdd]; done) | (simp only [push_n, set_n, put_n, List.length_cons, List.length_nil, List.length_append]; omega) | (simp only [List.all_cons, List.all_nil, one_bool, one_int, one_str, one_ptr, one_nilptr, one_slice, one_eslice, one_nilslice, one_func, one_iface, one_niliface, Bool.and_true, Bool.true_and, List.getD_cons_zero, List.getD_cons_succ, List.contains_cons, List.contains_nil, Bool.or_true, Bool.true_or, Bool.or_false, Bool.false_or, Nat.reduceBEq, *]; done) | fail)) only [i10, Option.map_none, hv53, hL53, go_sem, Hold.p, HoldK.k, HoldL.K, HoldL.body, Nat.reduceBEq, Nat.reduceAdd, reduceIte]
    refine loop_at (fun m e g => ∃ (k : Nat) (acc : List Fld) (vf : IV) (lo hi : Nat), m = L.length - k ∧ k ≤ L.length ∧ e 0 = v ∧ e 1 = .func c [] [.ptr p 0 0] ∧ e 4 = .ptr h.n 0 0 ∧ e 7 = .ptr (h.n + 1) 0 0 ∧ e 9 = .int .i64 (i : Nat) ∧ e 10 = v10 ∧ e 11 = .int .i64 0 ∧ e 53 = v53 ∧ e 54 = .int .i64 (L.length : Nat) ∧ e 55 = .int .i64 (k : Nat) ∧
      linesF L = preF acc (linesF (L.drop k)) ∧ FldS acc ∧ acc.length ≤ k ∧ Arg B g 1 v53 (L.map sRow) ∧ Own lo hi g 106 2 vf (fldRows acc) ∧ B ≤ lo ∧ lo ≤ g.n ∧ hi ≤ g.n ∧ At g h.n raw0 ∧ At g (h.n + 1) (rawObj first vf .nilslice 0) ∧ Ext h g) L.length ?_ ?_
    · refine ⟨0, [], .nilslice, g.n, g.n, by omega, by omega, ?_⟩
      simp (disch := (first | omega | assumption | (simp only [push_n, set_n, put_n, List.length_cons, List.length_nil, List.length_append, Nat.reduceAdd]; done) | (simp only [push_n, set_n, put_n, List.length_cons, List.length_nil, List.length_append]; omega) | (simp only [List.all_cons, List.all_nil, one_bool, one_int, one_str, one_ptr, one_nilptr, one_slice, one_eslice, one_nilslice, one_func, one_iface, one_niliface, Bool.and_true, Bool.true_and, List.getD_cons_zero, List.getD_cons_succ, List.contains_cons, List.contains_nil, Bool.or_true, Bool.true_or, Bool.or_false, Bool.false_or, Nat.reduceBEq, *]; done) | fail)) only [i0, i1, i4, i7, i9, i10, go_sem, Hold.p, HoldK.k, HoldL.K, HoldL.body, Nat.reduceBEq, Nat.reduceAdd, reduceIte]
      exact ⟨rfl, (preF_nil _).symm, fun _ h => by simp at h, Nat.le_refl _, a53, Own.nil, hBg, Nat.le_refl _, Nat.le_refl _, b0, b1, E⟩
    · clear i0 i1 i4 i7 i9 i10 b0 b1 E a53 hv53 hBg g e
      rintro m e g ⟨k, acc, vf, lo, hi, rfl, hk, i0, i1, i4, i7, i9, i10, i11, i53, i54, i55, hI, hF, hal, a53, o, hlo, hlg, hhi, b0, b1, E⟩
      have q0 := b0.eq
      have q1 := b1.eq
      simp (disch := (first | omega | assumption | (simp only [push_n, set_n, put_n, List.length_cons, List.length_nil, List.length_append, Nat.reduceAdd]; done) | (simp only [push_n, set_n, put_n, List.length_cons, List.length_nil, List.length_append]; omega) | (simp only [List.all_cons, List.all_nil, one_bool, one_int, one_str, one_ptr, one_nilptr, one_slice, one_eslice, one_nilslice, one_func, one_iface, one_niliface, Bool.and_true, Bool.true_and, List.getD_cons_zero, List.getD_cons_succ, List.contains_cons, List.contains_nil, Bool.or_true, Bool.true_or, Bool.or_false, Bool.false_or, Nat.reduceBEq, *]; done) | fail)) only [i54, i55, go_sem, Hold.p, HoldK.k, HoldL.K, HoldL.body, Nat.reduceBEq, Nat.reduceAdd, reduceIte]
      refine test_dec (fun hb => ?_) (fun hb => ?_)
      · have hk' : k < L.length := by omega
        obtain ⟨t, ht⟩ : ∃ t, L[k]? = some t := ⟨_, List.getElem?_eq_getElem hk'⟩
        have htm := List.mem_of_getElem? ht
        have htl := hpl t (List.mem_cons_of_mem _ htm)
        obtain ⟨l, j, hia, hll, hrow⟩ := a53.sl.at (m := k) (row := sRow t) (by rw [List.getElem?_map, ht]; rfl) .i64
        have hcl0 : cellO (g.obj l) j 0 = some (.str t) := by rw [cellO_row hrow]; rfl
        have w1 : wr .i64 ((k : Int) + 1) = ((k + 1 : Nat) : Int) := by rw [wr64 _ (by omega)]; rfl
        have w2 : wr .i64 (((L.length + 1 : Nat) : Int) - 2) = ((L.length - 1 : Nat) : Int) := by rw [wr64 _ (by omega)]; omega
        simp (disch := (first | omega | assumption | (simp only [push_n, set_n, put_n, List.length_cons, List.length_nil, List.length_append, Nat.reduceAdd]; done) | (simp only [push_n, set_n, put_n, List.length_cons, List.length_nil, List.length_append]; omega) | (simp only [List.all_cons, List.all_nil, one_bool, one_int, one_str, one_ptr, one_nilptr, one_slice, one_eslice, one_nilslice, one_func, one_iface, one_niliface, Bool.and_true, Bool.true_and, List.getD_cons_zero, List.getD_cons_succ, List.contains_cons, List.contains_nil, Bool.or_true, Bool.true_or, Bool.or_false, Bool.false_or, Nat.reduceBEq, *]; done) | fail)) only [i53, i55, hia, hcl0, go_sem, Hold.p, HoldK.k, HoldL.K, HoldL.body, Nat.reduceBEq, Nat.reduceAdd, reduceIte]
        refine callA_of (cut_c g t [58, 32] htl mx) ?_
        rintro r g1 ⟨rfl, rfl⟩
        have hcle := cut_le t [58, 32]
        simp (disch := (first | omega | assumption | (simp only [push_n, set_n, put_n, List.length_cons, List.length_nil, List.length_append, Nat.reduceAdd]; done) | (simp only [push_n, set_n, put_n, List.length_cons, List.length_nil, List.length_append]; omega) | (simp only [List.all_cons, List.all_nil, one_bool, one_int, one_str, one_ptr, one_nilptr, one_slice, one_eslice, one_nilslice, one_func, one_iface, one_niliface, Bool.and_true, Bool.true_and, List.getD_cons_zero, List.getD_cons_succ, List.contains_cons, List.contains_nil, Bool.or_true, Bool.true_or, Bool.or_false, Bool.false_or, Nat.reduceBEq, *]; done) | fail)) only [go_sem, Hold.p, HoldK.k, HoldL.K, HoldL.body, Nat.reduceBEq, Nat.reduceAdd, reduceIte]
        generalize hcut2 : Lib.cut t [58, 32] = ct at hcle
        obtain ⟨nm, vl, okc⟩ := ct
        simp only at hcle ⊢
        have e1 : (Lib.cut t [58, 32]).1 = nm := by rw [hcut2]
        have e2 : (Lib.cut t [58, 32]).2.1 = vl := by rw [hcut2]
        have e3 : (Lib.cut t [58, 32]).2.2 = okc := by rw [hcut2]
        refine test_of (fun hc => ?_) (fun hc => ?_)
        · have hc' : okc = false := by rwa [Bool.not_eq_true'] at hc
          rw [hbad (hdOk_none (linesF_bad hI ht (e3.trans hc')))]
          have vo := o.one
          simp (disch := (first | omega | assumption | (simp only [push_n, set_n, put_n, List.length_cons, List.length_nil, List.length_append, Nat.reduceAdd]; done) | (simp only [push_n, set_n, put_n, List.length_cons, List.length_nil, List.length_append]; omega) | (simp only [List.all_cons, List.all_nil, one_bool, one_int, one_str, one_ptr, one_nilptr, one_slice, one_eslice, one_nilslice, one_func, one_iface, one_niliface, Bool.and_true, Bool.true_and, List.getD_cons_zero, List.getD_cons_succ, List.contains_cons, List.contains_nil, Bool.or_true, Bool.true_or, Bool.or_false, Bool.false_or, Nat.reduceBEq, *]; done) | fail)) only [i7, q1, i4, q0, vo, go_sem, Hold.p, HoldK.k, HoldL.K, HoldL.body, Nat.reduceBEq, Nat.reduceAdd, reduceIte]
          exact ⟨⟨_, _, _, _, rfl, rfl, o.one, rfl, rfl⟩, E.set1 _ (Nat.le_refl _)⟩
        have hc' : okc = true := by rwa [Bool.not_eq_false'] at hc
        simp (disch := (first | omega | assumption | (simp only [push_n, set_n, put_n, List.length_cons, List.length_nil, List.length_append, Nat.reduceAdd]; done) | (simp only [push_n, set_n, put_n, List.length_cons, List.length_nil, List.length_append]; omega) | (simp only [List.all_cons, List.all_nil, one_bool, one_int, one_str, one_ptr, one_nilptr, one_slice, one_eslice, one_nilslice, one_func, one_iface, one_niliface, Bool.and_true, Bool.true_and, List.getD_cons_zero, List.getD_cons_succ, List.contains_cons, List.contains_nil, Bool.or_true, Bool.true_or, Bool.or_false, Bool.false_or, Nat.reduceBEq, *]; done) | fail)) only [i10, i55, hL10, w2, go_sem, Hold.p, HoldK.k, HoldL.K, HoldL.body, Nat.reduceBEq, Nat.reduceAdd, reduceIte]
        refine test_of (fun hc2 => ?_) (fun hc2 => ?_)
        · have hc3 : nm = lengthS ∧ k + 1 = L.length := by
            simp only [Bool.and_eq_true, decide_eq_true_eq] at hc2
            exact ⟨hc2.1, by omega⟩
          have hlen2 := linesF_len hI ht (e3.trans hc') (e1.trans hc3.1) hc3.2
          rw [e2] at hlen2
          simp (disch := (first | omega | assumption | (simp only [push_n, set_n, put_n, List.length_cons, List.length_nil, List.length_append, Nat.reduceAdd]; done) | (simp only [push_n, set_n, put_n, List.length_cons, List.length_nil, List.length_append]; omega) | (simp only [List.all_cons, List.all_nil, one_bool, one_int, one_str, one_ptr, one_nilptr, one_slice, one_eslice, one_nilslice, one_func, one_iface, one_niliface, Bool.and_true, Bool.true_and, List.getD_cons_zero, List.getD_cons_succ, List.contains_cons, List.contains_nil, Bool.or_true, Bool.true_or, Bool.or_false, Bool.false_or, Nat.reduceBEq, *]; done) | fail)) only [go_sem, Hold.p, HoldK.k, HoldL.K, HoldL.body, Nat.reduceBEq, Nat.reduceAdd, reduceIte]
          refine callA_of (decimal_c g1 vl 5 (by omega) (by omega)) ?_
          rintro r g2 ⟨⟨n, rfl, hn⟩, E2⟩
          have b0 := b0.ext E2
          have b1 := b1.ext E2
          have o := o.ext E2
          have le_E2 := E2.le
          have q0 := b0.eq
          have q1 := b1.eq
          simp (disch := (first | omega | assumption | (simp only [push_n, set_n, put_n, List.length_cons, List.length_nil, List.length_append, Nat.reduceAdd]; done) | (simp only [push_n, set_n, put_n, List.length_cons, List.length_nil, List.length_append]; omega) | (simp only [List.all_cons, List.all_nil, one_bool, one_int, one_str, one_ptr, one_nilptr, one_slice, one_eslice, one_nilslice, one_func, one_iface, one_niliface, Bool.and_true, Bool.true_and, List.getD_cons_zero, List.getD_cons_succ, List.contains_cons, List.contains_nil, Bool.or_true, Bool.true_or, Bool.or_false, Bool.false_or, Nat.reduceBEq, *]; done) | fail)) only [go_sem, Hold.p, HoldK.k, HoldL.K, HoldL.body, Nat.reduceBEq, Nat.reduceAdd, reduceIte]
          have hch : (!decOk vl 5 || decide (n < 1) || decide (60000 < n)) = !decide (decOk vl 5 = true ∧ 1 ≤ valD vl ∧ valD vl ≤ 60000) := by
            cases hd : decOk vl 5 with
            | false => simp
            | true =>
              have hv := hn hd
              rw [hv]
              simp only [Bool.not_true, Bool.false_or, true_and]
              rw [lt_not, lt_not, ← Bool.not_and]
              congr 1
              rw [Bool.eq_iff_iff]
              simp only [Bool.and_eq_true, decide_eq_true_eq]
              omega
          rw [hch]
          refine test_of (fun hc4 => ?_) (fun hc4 => ?_)
          · have hc5 : ¬ (decOk vl 5 = true ∧ 1 ≤ valD vl ∧ valD vl ≤ 60000) := of_decide_eq_false (by rwa [Bool.not_eq_true'] at hc4)
            rw [if_neg hc5] at hlen2
            rw [hbad (hdOk_none hlen2)]
            have vo := o.one
            simp (disch := (first | omega | assumption | (simp only [push_n, set_n, put_n, List.length_cons, List.length_nil, List.length_append, Nat.reduceAdd]; done) | (simp only [push_n, set_n, put_n, List.length_cons, List.length_nil, List.length_append]; omega) | (simp only [List.all_cons, List.all_nil, one_bool, one_int, one_str, one_ptr, one_nilptr, one_slice, one_eslice, one_nilslice, one_func, one_iface, one_niliface, Bool.and_true, Bool.true_and, List.getD_cons_zero, List.getD_cons_succ, List.contains_cons, List.contains_nil, Bool.or_true, Bool.true_or, Bool.or_false, Bool.false_or, Nat.reduceBEq, *]; done) | fail)) only [i7, q1, i4, q0, vo, go_sem, Hold.p, HoldK.k, HoldL.K, HoldL.body, Nat.reduceBEq, Nat.reduceAdd, reduceIte]
            exact ⟨⟨_, _, _, _, rfl, rfl, o.one, rfl, rfl⟩, (E.trans E2).set1 _ (Nat.le_refl _)⟩
          · have hc5 : decOk vl 5 = true ∧ 1 ≤ valD vl ∧ valD vl ≤ 60000 := by simpa using hc4
            rw [if_pos hc5] at hlen2
            simp (disch := (first | omega | assumption | (simp only [push_n, set_n, put_n, List.length_cons, List.length_nil, List.length_append, Nat.reduceAdd]; done) | (simp only [push_n, set_n, put_n, List.length_cons, List.length_nil, List.length_append]; omega) | (simp only [List.all_cons, List.all_nil, one_bool, one_int, one_str, one_ptr, one_nilptr, one_slice, one_eslice, one_nilslice, one_func, one_iface, one_niliface, Bool.and_true, Bool.true_and, List.getD_cons_zero, List.getD_cons_succ, List.contains_cons, List.contains_nil, Bool.or_true, Bool.true_or, Bool.or_false, Bool.false_or, Nat.reduceBEq, *]; done) | fail)) only [i0, i1, i4, i7, i9, go_sem, Hold.p, HoldK.k, HoldL.K, HoldL.body, Nat.reduceBEq, Nat.reduceAdd, reduceIte]
            exact ⟨acc, valD vl, vf, lo, hi, hlen2, hF, by omega, by rw [hn hc5.1], o, by omega, by omega, b0, b1, E.trans E2⟩
        · have hc3 : ¬ (nm = lengthS ∧ k + 1 = L.length) := by
            rintro ⟨r1, r2⟩
            rw [Bool.and_eq_false_iff] at hc2
            rcases hc2 with h2 | h2
            · exact of_decide_eq_false h2 r1
            · exact of_decide_eq_false h2 (by omega)
          have hst := linesF_step hI ht (e3.trans hc') (by rw [e1]; exact hc3)
          rw [e1, e2] at hst
          simp (disch := (first | omega | assumption | (simp only [push_n, set_n, put_n, List.length_cons, List.length_nil, List.length_append, Nat.reduceAdd]; done) | (simp only [push_n, set_n, put_n, List.length_cons, List.length_nil, List.length_append]; omega) | (simp only [List.all_cons, List.all_nil, one_bool, one_int, one_str, one_ptr, one_nilptr, one_slice, one_eslice, one_nilslice, one_func, one_iface, one_niliface, Bool.and_true, Bool.true_and, List.getD_cons_zero, List.getD_cons_succ, List.contains_cons, List.contains_nil, Bool.or_true, Bool.true_or, Bool.or_false, Bool.false_or, Nat.reduceBEq, *]; done) | fail)) only [i7, q1, go_sem, Hold.p, HoldK.k, HoldL.K, HoldL.body, Nat.reduceBEq, Nat.reduceAdd, reduceIte]
          generalize hq_g2 : IH.push g1 (IObj.rows [[.str nm, .str vl]] 106 2 false) = g2
          have e_g2 : Ext g1 g2 := by rw [← hq_g2]; exact (Ext.refl _).push _
          have l_g2 : g2.n = g1.n + 1 := by rw [← hq_g2]; rfl
          have b2 : At g2 g1.n (IObj.rows [[.str nm, .str vl]] 106 2 false) := by rw [← hq_g2]; exact At.new _ _
          clear hq_g2
          have o := o.ext e_g2
          have a53 := a53.ext e_g2
          have b0 := b0.ext e_g2
          have b1 := b1.ext e_g2
          have q2 := b2.eq
          try simp (disch := (first | omega | assumption | (simp only [push_n, set_n, put_n, List.length_cons, List.length_nil, List.length_append, Nat.reduceAdd]; done) | (simp only [push_n, set_n, put_n, List.length_cons, List.length_nil, List.length_append]; omega) | (simp only [List.all_cons, List.all_nil, one_bool, one_int, one_str, one_ptr, one_nilptr, one_slice, one_eslice, one_nilslice, one_func, one_iface, one_niliface, Bool.and_true, Bool.true_and, List.getD_cons_zero, List.getD_cons_succ, List.contains_cons, List.contains_nil, Bool.or_true, Bool.true_or, Bool.or_false, Bool.false_or, Nat.reduceBEq, *]; done) | fail)) only [q2, go_sem, Hold.p, HoldK.k, HoldL.K, HoldL.body, Nat.reduceBEq, Nat.reduceAdd, reduceIte]
          refine o.app (by simp) (by simp only [fldRows_len, List.length_singleton]; omega) ?_
          intro v6 h6 o6 t6 n6 v6o v6c
          have E6 := (E.trans e_g2).turn o (by omega) t6
          have o6 : Own g2.n (g2.n + 1) h6 106 2 v6 (fldRows (acc ++ [(nm, vl)])) := by simpa [fldRows] using o6
          have b0 := b0.turn o (by omega) t6
          have b1 := b1.turn o (by omega) t6
          have a53 := a53.turn o hlo t6
          have q1 := b1.eq
          simp (disch := (first | omega | assumption | (simp only [push_n, set_n, put_n, List.length_cons, List.length_nil, List.length_append, Nat.reduceAdd]; done) | (simp only [push_n, set_n, put_n, List.length_cons, List.length_nil, List.length_append]; omega) | (simp only [List.all_cons, List.all_nil, one_bool, one_int, one_str, one_ptr, one_nilptr, one_slice, one_eslice, one_nilslice, one_func, one_iface, one_niliface, Bool.and_true, Bool.true_and, List.getD_cons_zero, List.getD_cons_succ, List.contains_cons, List.contains_nil, Bool.or_true, Bool.true_or, Bool.or_false, Bool.false_or, Nat.reduceBEq, *]; done) | fail)) only [i0, i1, i4, i7, i9, i10, i11, i53, i54, i55, q1, w1, v6o, v6c, go_sem, Hold.p, HoldK.k, HoldL.K, HoldL.body, Nat.reduceBEq, Nat.reduceAdd, reduceIte]
          refine ⟨_, ?_, k + 1, acc ++ [(nm, vl)], v6, g2.n, g2.n + 1, rfl, by omega, rfl, hst, ?_, by simp; omega, a53.setp b1 (by decide) _, o6.set (.inl (by omega)) _, by omega, ?_, ?_, b0.set (by omega), b1.here, E6.set1 _ (by omega)⟩
          · omega
          · intro f hf
            rcases List.mem_append.1 hf with hf | hf
            · exact hF f hf
            · have : f = (nm, vl) := by simpa using hf
              subst this
              exact ⟨by show nm.length ≤ _; omega, by show vl.length ≤ _; omega⟩
          · show g2.n ≤ h6.n
            omega
          · show g2.n + 1 ≤ h6.n
            omega
      · have hk2 : k = L.length := by omega
        subst hk2
        simp (disch := (first | omega | assumption | (simp only [push_n, set_n, put_n, List.length_cons, List.length_nil, List.length_append, Nat.reduceAdd]; done) | (simp only [push_n, set_n, put_n, List.length_cons, List.length_nil, List.length_append]; omega) | (simp only [List.all_cons, List.all_nil, one_bool, one_int, one_str, one_ptr, one_nilptr, one_slice, one_eslice, one_nilslice, one_func, one_iface, one_niliface, Bool.and_true, Bool.true_and, List.getD_cons_zero, List.getD_cons_succ, List.contains_cons, List.contains_nil, Bool.or_true, Bool.true_or, Bool.or_false, Bool.false_or, Nat.reduceBEq, *]; done) | fail)) only [i0, i1, i4, i7, i9, i11, go_sem, Hold.p, HoldK.k, HoldL.K, HoldL.body, Nat.reduceBEq, Nat.reduceAdd, reduceIte]
        exact ⟨acc, 0, vf, lo, hi, linesF_end hI, hF, hal, rfl, o, by omega, hhi, b0, b1, E⟩
  clear i0 i1 i4 i7 i9 i10 b0 b1 E a10 hL10 hBg g e
  rintro e g ⟨fs, n, vf, lo, hi', hlin, hF, hfl, i0, i1, i4, i7, i9, i11, o, hlo, hhi, b0, b1, E⟩
  have hsome := hdOk_some hlin
  have hn6 : n ≤ 60000 := (linesF_le hlin).1
  have hfst := hpl first List.mem_cons_self
  simp only [CC.split]
  refine vc_split 1 (fun e g => hdOk L = some (fs, n) ∧ firstB req first = true ∧ e 0 = v ∧ e 4 = .ptr h.n 0 0 ∧ e 7 = .ptr (h.n + 1) 0 0 ∧ e 9 = .int .i64 (i : Nat) ∧ e 11 = .int .i64 (n : Nat) ∧
    Own lo hi' g 106 2 vf (fldRows fs) ∧ hi' ≤ g.n ∧ At g h.n raw0 ∧ At g (h.n + 1) (rawObj first vf .nilslice 0) ∧ Ext h g) ?_ ?_
  · simp only [CC.split]
    have q1 := b1.eq
    simp (disch := (first | omega | assumption | (simp only [push_n, set_n, put_n, List.length_cons, List.length_nil, List.length_append, Nat.reduceAdd]; done) | (simp only [push_n, set_n, put_n, List.length_cons, List.length_nil, List.length_append]; omega) | (simp only [List.all_cons, List.all_nil, one_bool, one_int, one_str, one_ptr, one_nilptr, one_slice, one_eslice, one_nilslice, one_func, one_iface, one_niliface, Bool.and_true, Bool.true_and, List.getD_cons_zero, List.getD_cons_succ, List.contains_cons, List.contains_nil, Bool.or_true, Bool.true_or, Bool.or_false, Bool.false_or, Nat.reduceBEq, *]; done) | fail)) only [i7, q1, go_sem, Hold.p, HoldK.k, HoldL.K, HoldL.body, Nat.reduceBEq, Nat.reduceAdd, reduceIte]
    refine callA_of (implRest_c g vf .nilslice fs [] o.sl (SlR.nil _ _) (by omega) hF) ?_
    rintro r g1 ⟨rfl, E1⟩
    have b0 := b0.ext E1
    have b1 := b1.ext E1
    have o := o.ext E1
    have le_E1 := E1.le
    have E := E.trans E1
    have q0 := b0.eq
    have q1 := b1.eq
    have vo := o.one
    simp (disch := (first | omega | assumption | (simp only [push_n, set_n, put_n, List.length_cons, List.length_nil, List.length_append, Nat.reduceAdd]; done) | (simp only [push_n, set_n, put_n, List.length_cons, List.length_nil, List.length_append]; omega) | (simp only [List.all_cons, List.all_nil, one_bool, one_int, one_str, one_ptr, one_nilptr, one_slice, one_eslice, one_nilslice, one_func, one_iface, one_niliface, Bool.and_true, Bool.true_and, List.getD_cons_zero, List.getD_cons_succ, List.contains_cons, List.contains_nil, Bool.or_true, Bool.true_or, Bool.or_false, Bool.false_or, Nat.reduceBEq, *]; done) | fail)) only [i1, i7, q1, Bool.not_not, go_sem, Hold.p, HoldK.k, HoldL.K, HoldL.body, Nat.reduceBEq, Nat.reduceAdd, reduceIte]
    refine guard_of (fun hb => ?_) (fun hb => ?_)
    · have hb' : restB fs 0 = true := by simpa using hb
      rw [hb', if_pos rfl] at hsome
      simp (disch := (first | omega | assumption | (simp only [push_n, set_n, put_n, List.length_cons, List.length_nil, List.length_append, Nat.reduceAdd]; done) | (simp only [push_n, set_n, put_n, List.length_cons, List.length_nil, List.length_append]; omega) | (simp only [List.all_cons, List.all_nil, one_bool, one_int, one_str, one_ptr, one_nilptr, one_slice, one_eslice, one_nilslice, one_func, one_iface, one_niliface, Bool.and_true, Bool.true_and, List.getD_cons_zero, List.getD_cons_succ, List.contains_cons, List.contains_nil, Bool.or_true, Bool.true_or, Bool.or_false, Bool.false_or, Nat.reduceBEq, *]; done) | fail)) only [i1, i7, q1, hb, hb', List.nil_append, List.append_nil, List.cons_append, go_sem, Hold.p, HoldK.k, HoldL.K, HoldL.body, Nat.reduceBEq, Nat.reduceAdd, reduceIte]
      refine callA_of (hG g1 first vf fs (ha.ext E) o.sl hfst (by omega) hF) ?_
      rintro r g2 ⟨rfl, E2⟩
      have b0 := b0.ext E2
      have b1 := b1.ext E2
      have o := o.ext E2
      have le_E2 := E2.le
      have E := E.trans E2
      have q0 := b0.eq
      have q1 := b1.eq
      rw [hb', Bool.and_true]
      simp (disch := (first | omega | assumption | (simp only [push_n, set_n, put_n, List.length_cons, List.length_nil, List.length_append, Nat.reduceAdd]; done) | (simp only [push_n, set_n, put_n, List.length_cons, List.length_nil, List.length_append]; omega) | (simp only [List.all_cons, List.all_nil, one_bool, one_int, one_str, one_ptr, one_nilptr, one_slice, one_eslice, one_nilslice, one_func, one_iface, one_niliface, Bool.and_true, Bool.true_and, List.getD_cons_zero, List.getD_cons_succ, List.contains_cons, List.contains_nil, Bool.or_true, Bool.true_or, Bool.or_false, Bool.false_or, Nat.reduceBEq, *]; done) | fail)) only [hb, hb', go_sem, Hold.p, HoldK.k, HoldL.K, HoldL.body, Nat.reduceBEq, Nat.reduceAdd, reduceIte]
      cases hf : firstB req first with
      | false =>
        have : oneB req bs = .stop 19 := by rw [hone, hsome]; unfold bodyO; rw [hf]; rfl
        rw [this]
        simp (disch := (first | omega | assumption | (simp only [push_n, set_n, put_n, List.length_cons, List.length_nil, List.length_append, Nat.reduceAdd]; done) | (simp only [push_n, set_n, put_n, List.length_cons, List.length_nil, List.length_append]; omega) | (simp only [List.all_cons, List.all_nil, one_bool, one_int, one_str, one_ptr, one_nilptr, one_slice, one_eslice, one_nilslice, one_func, one_iface, one_niliface, Bool.and_true, Bool.true_and, List.getD_cons_zero, List.getD_cons_succ, List.contains_cons, List.contains_nil, Bool.or_true, Bool.true_or, Bool.or_false, Bool.false_or, Nat.reduceBEq, *]; done) | fail)) only [i7, q1, i4, q0, vo, go_sem, Hold.p, HoldK.k, HoldL.K, HoldL.body, Nat.reduceBEq, Nat.reduceAdd, reduceIte]
        exact ⟨⟨_, _, _, _, rfl, rfl, vo, rfl, rfl⟩, E.set1 _ (Nat.le_refl _)⟩
      | true =>
        simp (disch := (first | omega | assumption | (simp only [push_n, set_n, put_n, List.length_cons, List.length_nil, List.length_append, Nat.reduceAdd]; done) | (simp only [push_n, set_n, put_n, List.length_cons, List.length_nil, List.length_append]; omega) | (simp only [List.all_cons, List.all_nil, one_bool, one_int, one_str, one_ptr, one_nilptr, one_slice, one_eslice, one_nilslice, one_func, one_iface, one_niliface, Bool.and_true, Bool.true_and, List.getD_cons_zero, List.getD_cons_succ, List.contains_cons, List.contains_nil, Bool.or_true, Bool.true_or, Bool.or_false, Bool.false_or, Nat.reduceBEq, *]; done) | fail)) only [i0, i4, i7, i9, i11, go_sem, Hold.p, HoldK.k, HoldL.K, HoldL.body, Nat.reduceBEq, Nat.reduceAdd, reduceIte]
        exact ⟨hsome, o, by omega, b0, b1, E⟩
    · have hb' : restB fs 0 = false := by simpa using hb
      rw [hb', if_neg (by simp)] at hsome
      rw [hbad hsome]
      simp (disch := (first | omega | assumption | (simp only [push_n, set_n, put_n, List.length_cons, List.length_nil, List.length_append, Nat.reduceAdd]; done) | (simp only [push_n, set_n, put_n, List.length_cons, List.length_nil, List.length_append]; omega) | (simp only [List.all_cons, List.all_nil, one_bool, one_int, one_str, one_ptr, one_nilptr, one_slice, one_eslice, one_nilslice, one_func, one_iface, one_niliface, Bool.and_true, Bool.true_and, List.getD_cons_zero, List.getD_cons_succ, List.contains_cons, List.contains_nil, Bool.or_true, Bool.true_or, Bool.or_false, Bool.false_or, Nat.reduceBEq, *]; done) | fail)) only [hb, hb', i7, q1, i4, q0, vo, go_sem, Hold.p, HoldK.k, HoldL.K, HoldL.body, Nat.reduceBEq, Nat.reduceAdd, reduceIte]
      exact ⟨⟨_, _, _, _, rfl, rfl, vo, rfl, rfl⟩, E.set1 _ (Nat.le_refl _)⟩
  clear i0 i1 i4 i7 i9 i11 b0 b1 E o hhi g e
  rintro e g ⟨hhd, hfb, i0, i4, i7, i9, i11, o, hhi, b0, b1, E⟩
  have wA : wr .i64 ((i : Int) + 2) = ((i + 2 : Nat) : Int) := by rw [wr64 _ (by omega)]; rfl
  have wB : wr .i64 (((i + 2 : Nat) : Int) + (n : Int)) = ((i + 2 + n : Nat) : Int) := by rw [wr64 _ (by omega)]; omega
  have hO : oneB req bs = if i + 2 + n ≤ bs.length then .msg first fs ((bs.take (i + 2 + n)).drop (i + 2)) (i + 2 + n) else .stop 0 := by
    rw [hone, hhd]; unfold bodyO; simp only [hfb, if_true]
  simp only [CC.split]
  refine vc_split 1 (fun e g => e 0 = v ∧ e 4 = .ptr h.n 0 0 ∧ e 7 = .ptr (h.n + 1) 0 0 ∧ e 9 = .int .i64 (i : Nat) ∧
    Own lo hi' g 106 2 vf (fldRows fs) ∧ hi' ≤ g.n ∧ At g h.n raw0 ∧ At g (h.n + 1) (rawObj first vf .nilslice ((i + 2 + n : Nat) : Int)) ∧ Ext h g) ?_ ?_
  · simp only [CC.split]
    have q1 := b1.eq
    simp (disch := (first | omega | assumption | (simp only [push_n, set_n, put_n, List.length_cons, List.length_nil, List.length_append, Nat.reduceAdd]; done) | (simp only [push_n, set_n, put_n, List.length_cons, List.length_nil, List.length_append]; omega) | (simp only [List.all_cons, List.all_nil, one_bool, one_int, one_str, one_ptr, one_nilptr, one_slice, one_eslice, one_nilslice, one_func, one_iface, one_niliface, Bool.and_true, Bool.true_and, List.getD_cons_zero, List.getD_cons_succ, List.contains_cons, List.contains_nil, Bool.or_true, Bool.true_or, Bool.or_false, Bool.false_or, Nat.reduceBEq, *]; done) | fail)) only [i7, i9, i11, q1, wA, wB, i0, i4, go_sem, Hold.p, HoldK.k, HoldL.K, HoldL.body, Nat.reduceBEq, Nat.reduceAdd, reduceIte]
    exact ⟨o.set (.inl (by omega)) _, hhi, b0.set (by omega), b1.here, E.set1 _ (by omega)⟩
  clear i0 i4 i7 i9 i11 b0 b1 E o hhi g e
  rintro e g ⟨i0, i4, i7, i9, o, hhi, b0, b1, E⟩
  have q0 := b0.eq
  have q1 := b1.eq
  have vo := o.one
  simp only [CC.split]
  simp (disch := (first | omega | assumption | (simp only [push_n, set_n, put_n, List.length_cons, List.length_nil, List.length_append, Nat.reduceAdd]; done) | (simp only [push_n, set_n, put_n, List.length_cons, List.length_nil, List.length_append]; omega) | (simp only [List.all_cons, List.all_nil, one_bool, one_int, one_str, one_ptr, one_nilptr, one_slice, one_eslice, one_nilslice, one_func, one_iface, one_niliface, Bool.and_true, Bool.true_and, List.getD_cons_zero, List.getD_cons_succ, List.contains_cons, List.contains_nil, Bool.or_true, Bool.true_or, Bool.or_false, Bool.false_or, Nat.reduceBEq, *]; done) | fail)) only [i0, i7, q1, hlen, go_sem, Hold.p, HoldK.k, HoldL.K, HoldL.body, Nat.reduceBEq, Nat.reduceAdd, reduceIte]
  refine test_dec (fun hb => ?_) (fun hb => ?_)
  · rw [hO, if_neg (by omega)]
    simp (disch := (first | omega | assumption | (simp only [push_n, set_n, put_n, List.length_cons, List.length_nil, List.length_append, Nat.reduceAdd]; done) | (simp only [push_n, set_n, put_n, List.length_cons, List.length_nil, List.length_append]; omega) | (simp only [List.all_cons, List.all_nil, one_bool, one_int, one_str, one_ptr, one_nilptr, one_slice, one_eslice, one_nilslice, one_func, one_iface, one_niliface, Bool.and_true, Bool.true_and, List.getD_cons_zero, List.getD_cons_succ, List.contains_cons, List.contains_nil, Bool.or_true, Bool.true_or, Bool.or_false, Bool.false_or, Nat.reduceBEq, *]; done) | fail)) only [i7, q1, i4, q0, vo, go_sem, Hold.p, HoldK.k, HoldL.K, HoldL.body, Nat.reduceBEq, Nat.reduceAdd, reduceIte]
    exact ⟨⟨_, _, _, _, rfl, rfl, vo, rfl, rfl⟩, E.set1 _ (Nat.le_refl _)⟩
  · have hle : i + 2 + n ≤ bs.length := by omega
    have hgn0 : h.n + 1 < g.n := b1.lt
    rw [hO, if_pos hle]
    obtain ⟨vb, hvb, hsb⟩ := (hs.ext E).lohi (a := i + 2) (b := i + 2 + n) (q := .i64) (q' := .i64) (by omega) (by rw [strRows_len]; omega)
    rw [strRows_take, strRows_drop] at hsb
    have hvb2 : slcF g 1 v (some (.int .i64 ((i + 2 : Nat) : Int))) (some (.int .i64 ((i + (2 + n) : Nat) : Int))) = some vb := by rw [← Nat.add_assoc]; exact hvb
    simp (disch := (first | omega | assumption | (simp only [push_n, set_n, put_n, List.length_cons, List.length_nil, List.length_append, Nat.reduceAdd]; done) | (simp only [push_n, set_n, put_n, List.length_cons, List.length_nil, List.length_append]; omega) | (simp only [List.all_cons, List.all_nil, one_bool, one_int, one_str, one_ptr, one_nilptr, one_slice, one_eslice, one_nilslice, one_func, one_iface, one_niliface, Bool.and_true, Bool.true_and, List.getD_cons_zero, List.getD_cons_succ, List.contains_cons, List.contains_nil, Bool.or_true, Bool.true_or, Bool.or_false, Bool.false_or, Nat.reduceBEq, *]; done) | fail)) only [i0, i7, i9, q1, wA, hvb2, go_sem, Hold.p, HoldK.k, HoldL.K, HoldL.body, Nat.reduceBEq, Nat.reduceAdd, reduceIte]
    refine callA_of (dup_c g vb _ hsb (by rw [List.length_drop, List.length_take]; omega)) ?_
    rintro r g1 ⟨ob, E1⟩
    rw [Nat.add_assoc i 2 n] at ob
    have b0 := b0.ext E1
    have b1 := b1.ext E1
    have o := o.ext E1
    have le_E1 := E1.le
    have q0 := b0.eq
    have q1 := b1.eq
    have vb1 := ob.one
    have vb2 := ob.cells
    simp (disch := (first | omega | assumption | (simp only [push_n, set_n, put_n, List.length_cons, List.length_nil, List.length_append, Nat.reduceAdd]; done) | (simp only [push_n, set_n, put_n, List.length_cons, List.length_nil, List.length_append]; omega) | (simp only [List.all_cons, List.all_nil, one_bool, one_int, one_str, one_ptr, one_nilptr, one_slice, one_eslice, one_nilslice, one_func, one_iface, one_niliface, Bool.and_true, Bool.true_and, List.getD_cons_zero, List.getD_cons_succ, List.contains_cons, List.contains_nil, Bool.or_true, Bool.true_or, Bool.or_false, Bool.false_or, Nat.reduceBEq, *]; done) | fail)) only [i4, i7, q0, q1, vo, vb1, vb2, go_sem, Hold.p, HoldK.k, HoldL.K, HoldL.body, Nat.reduceBEq, Nat.reduceAdd, reduceIte]
    have hgn := b1.lt
    refine ⟨⟨vf, r, g.n, rfl, ?_, ?_, ?_, ?_⟩, ((E.trans E1).set1 _ (by omega)).set1 _ (Nat.le_refl _)⟩
    · exact E.le
    · exact E1.le
    · exact ((o.set (m := h.n + 1) (.inl (by omega)) _).set (m := h.n) (.inl (by omega)) _).wide (by omega) (by omega) (by show g.n ≤ g1.n; omega)
    · exact (ob.set (m := h.n + 1) (.inl (by omega)) _).set (m := h.n) (.inl (by omega)) _
end
end Go.Proofs.YtdpaehdolhdjdaaGreatDoor



namespace Go.Proofs.YtdpaehdolhdjdaaGreatDoor
open Go Go.IW
/-! For ports alone: the types of fields, replies, requests (elsewhere fam.py prints them). -/
def t_Field : Ty := .cat .str (.cat .str (.nil))
def t_Reply : Ty := .cat (.int .i64) (.cat (.slice 106 t_Field) (.cat (.slice 5 (.int .u8)) (.nil)))
def t_Request : Ty := .cat .str (.cat .str (.cat (.slice 106 t_Field) (.cat (.slice 5 (.int .u8)) (.nil))))
end Go.Proofs.YtdpaehdolhdjdaaGreatDoor



set_option maxRecDepth 20000
namespace Go.Proofs.YtdpaehdolhdjdaaGreatDoor
open Go Go.IW

/-! Replies and requests as data. -/
def fldD (f : Fld) : Dat := .pair (.str f.1) (.pair (.str f.2) .unit)
theorem fld_vw {S : Nat → Prop} {h : IH} {cs : List IV} {d : Dat} (hv : Rp S h t_Field cs d) : ∃ x : Fld, cs = [.str x.1, .str x.2] ∧ d = fldD x := by
  obtain ⟨_, _, _, _, rfl, rfl, ⟨a1, rfl, rfl⟩, _, _, _, _, rfl, rfl, ⟨a2, rfl, rfl⟩, rfl, rfl⟩ := hv
  exact ⟨(a1, a2), rfl, rfl⟩
theorem fldD_inj {a b : List Fld} (h : a.map fldD = b.map fldD) : a = b := by
  refine (List.map_inj_right (fun x y e => ?_)).1 h
  obtain ⟨x1, x2⟩ := x
  obtain ⟨y1, y2⟩ := y
  simp [fldD] at e
  simp [e]
theorem bytes_ow {lo hi : Nat} {h : IH} {v : IV} {bs : List UInt8} (ho : Own lo hi h 5 1 v (strRows bs)) (hh : hi ≤ h.n) : Ow lo hi h (.slice 5 (.int .u8)) [v] (bytesD bs) :=
  Own.ow (t := .int .u8) (row := fun b : UInt8 => [.int .u8 (b.toNat : Int)]) (dat := fun b : UInt8 => .int (b.toNat : Int)) (fun x => ⟨_, rfl, rfl, rfl⟩) ho hh

def repD (st : Int) (fs : List Fld) (body : List UInt8) : Dat := .pair (.int st) (.pair (.list (fs.map fldD)) (.pair (bytesD body) .unit))
def reqD (vb p : List UInt8) (fs : List Fld) (body : List UInt8) : Dat := .pair (.str vb) (.pair (.str p) (.pair (.list (fs.map fldD)) (.pair (bytesD body) .unit)))
theorem flds_ow {lo hi : Nat} {h : IH} {v : IV} {fs : List Fld} (ho : Own lo hi h 106 2 v (fldRows fs)) (hh : hi ≤ h.n) : Ow lo hi h (.slice 106 t_Field) [v] (.list (fs.map fldD)) :=
  Own.ow (t := t_Field) (row := fun x : Fld => [.str x.1, .str x.2]) (dat := fldD) (fun x => ⟨[.str x.1], [.str x.2], .str x.1, .pair (.str x.2) .unit, [], [], rfl, rfl, rfl, ⟨x.1, rfl, rfl, rfl⟩, [.str x.2], [], .str x.2, .unit, [], [], rfl, rfl, rfl, ⟨x.2, rfl, rfl, rfl⟩, rfl, rfl, rfl⟩) ho hh
theorem str_ow (lo hi : Nat) (h : IH) (s : Txt) (hh : hi ≤ h.n) : Ow lo hi h .str [.str s] (.str s) := Ow.flat rfl ⟨s, rfl, rfl, rfl⟩ hh
theorem int_ow (lo hi : Nat) (h : IH) (n : Int) (hh : hi ≤ h.n) : Ow lo hi h (.int .i64) [.int .i64 n] (.int n) := Ow.flat rfl ⟨n, rfl, rfl, rfl⟩ hh
theorem nil_ow (lo hi : Nat) (h : IH) (hh : hi ≤ h.n) : Ow lo hi h .nil [] .unit := Ow.flat rfl ⟨rfl, rfl, rfl⟩ hh
theorem two_ow {lo m hi : Nat} {h : IH} {vf vb : IV} {fs : List Fld} {body : Txt} (hf : Own lo m h 106 2 vf (fldRows fs)) (hb : Own m hi h 5 1 vb (strRows body)) (h1 : lo ≤ m) (h2 : m ≤ hi) (hh : hi ≤ h.n) :
    Ow lo hi h (.cat (.slice 106 t_Field) (.cat (.slice 5 (.int .u8)) .nil)) [vf, vb] (.pair (.list (fs.map fldD)) (.pair (bytesD body) .unit)) :=
  Ow.cat (flds_ow hf (by omega)) (Ow.cat (lo := m) (hi := hi) (bytes_ow hb hh) (nil_ow hi hi h hh) (.inl (Nat.le_refl _)) (Nat.le_refl _) h2 (Nat.le_refl _) (Nat.le_refl _) hh) (.inl (Nat.le_refl _)) (Nat.le_refl _) h1 h2 (Nat.le_refl _) hh
theorem rep_ow {lo m hi : Nat} {h : IH} {vf vb : IV} {fs : List Fld} {body : Txt} (st : Int) (hf : Own lo m h 106 2 vf (fldRows fs)) (hb : Own m hi h 5 1 vb (strRows body)) (h1 : lo ≤ m) (h2 : m ≤ hi) (hh : hi ≤ h.n) : Ow lo hi h t_Reply [.int .i64 st, vf, vb] (repD st fs body) :=
  Ow.cat (lo := lo) (hi := hi) (int_ow lo lo h st (by omega)) (two_ow hf hb h1 h2 hh) (.inl (Nat.le_refl _)) (Nat.le_refl _) (Nat.le_refl _) (by omega) (Nat.le_refl _) hh
theorem req_ow {lo m hi : Nat} {h : IH} {vf vb : IV} {fs : List Fld} {body : Txt} (a b : Txt) (hf : Own lo m h 106 2 vf (fldRows fs)) (hb : Own m hi h 5 1 vb (strRows body)) (h1 : lo ≤ m) (h2 : m ≤ hi) (hh : hi ≤ h.n) : Ow lo hi h t_Request [.str a, .str b, vf, vb] (reqD a b fs body) :=
  Ow.cat (lo := lo) (hi := hi) (str_ow lo lo h a (by omega)) (Ow.cat (lo := lo) (hi := hi) (str_ow lo lo h b (by omega)) (two_ow hf hb h1 h2 hh) (.inl (Nat.le_refl _)) (Nat.le_refl _) (Nat.le_refl _) (by omega) (Nat.le_refl _) hh) (.inl (Nat.le_refl _)) (Nat.le_refl _) (Nat.le_refl _) (by omega) (Nat.le_refl _) hh
def reqOf (m : Msg) : Dat := reqD (Lib.cut m.1 [32]).1 (Lib.cut m.1 [32]).2.1 m.2.1 m.2.2
def repOf (m : Msg) : Dat := repD (valD (m.1.drop 6) : Nat) m.2.1 m.2.2
end Go.Proofs.YtdpaehdolhdjdaaGreatDoor



set_option maxRecDepth 20000
namespace Go.Proofs.YtdpaehdolhdjdaaGreatDoor
open Go Go.IW
section
attribute [local go_sem] List.getElem?_cons_zero List.getElem?_cons_succ Option.bind_some List.map_cons List.map_nil Nat.zero_add if_true List.getD_cons_zero List.getD_cons_succ List.contains_cons List.contains_nil Bool.or_true Bool.true_or Bool.or_false Bool.false_or Bool.not_true Bool.not_false true_and and_true rowA_whole mid_get stO_mid rowO_rows cellO_rows push_n set_n push_at push_old set_here set_there set_pushT set_pushN set_set upd_ne Nat.add_assoc Nat.add_zero stO_1s stO_ws boxA_s List.all_cons List.all_nil one_bool one_int one_str one_ptr one_nilptr one_slice one_eslice one_nilslice one_func one_iface one_niliface Bool.and_true Bool.and_self List.length_cons List.length_nil Nat.one_ne_zero Nat.succ_ne_zero if_false List.set_cons_zero List.set_cons_succ lay_nil lay_1 lay_w Option.map_some

/-- Lists that are read: each message owned. -/
def ReadRes (h h' : IH) (el : Nat) (t : Ty) (f : Msg → Dat) (r : IV) (R : List Msg × Nat × Int) : Prop := ∃ vl, r = .tuple [vl, .int .i64 (R.2.1 : Nat), .int .i64 R.2.2] ∧ Ow h.n h'.n h' (.slice el t) [vl] (.list (R.1.map f))

set_option maxHeartbeats 1000000 in
theorem readAllReq_c (mx : mxOn = true) (h : IH) (v : IV) (bs : Txt) (hs : SlR h 1 v (strRows bs)) (hl : bs.length ≤ 1048576) :
    ICalls Tryz.prog 48 [v, .func 49 [] []] h fun r h' => ReadRes h h' 38 t_Request reqOf r (readB true bs) ∧ Ext h h' := by
  refine icalls (.of ok48) (Nat.le_of_ble_eq_true rfl) ?_
  unfold c48
  have hs0 := hs
  have vv := hs.one
  simp (disch := (first | omega | assumption | (simp only [push_n, set_n, put_n, List.length_cons, List.length_nil, List.length_append, Nat.reduceAdd]; done) | (simp only [push_n, set_n, put_n, List.length_cons, List.length_nil, List.length_append]; omega) | (simp only [List.all_cons, List.all_nil, one_bool, one_int, one_str, one_ptr, one_nilptr, one_slice, one_eslice, one_nilslice, one_func, one_iface, one_niliface, Bool.and_true, Bool.true_and, List.getD_cons_zero, List.getD_cons_succ, List.contains_cons, List.contains_nil, Bool.or_true, Bool.true_or, Bool.or_false, Bool.false_or, Nat.reduceBEq, *]; done) | fail)) only [go_sem, Hold.p, HoldK.k, HoldL.K, HoldL.body, Nat.reduceBEq, Nat.reduceAdd, reduceIte]
  generalize hq_g : IH.push h (boxReq) = g
  have e_g : Ext h g := by rw [← hq_g]; exact (Ext.refl _).push _
  have l_g : g.n = h.n + 1 := by rw [← hq_g]; rfl
  have b : At g h.n (boxReq) := by rw [← hq_g]; exact At.new _ _
  clear hq_g
  have hs := hs.ext e_g
  try simp (disch := (first | omega | assumption | (simp only [push_n, set_n, put_n, List.length_cons, List.length_nil, List.length_append, Nat.reduceAdd]; done) | (simp only [push_n, set_n, put_n, List.length_cons, List.length_nil, List.length_append]; omega) | (simp only [List.all_cons, List.all_nil, one_bool, one_int, one_str, one_ptr, one_nilptr, one_slice, one_eslice, one_nilslice, one_func, one_iface, one_niliface, Bool.and_true, Bool.true_and, List.getD_cons_zero, List.getD_cons_succ, List.contains_cons, List.contains_nil, Bool.or_true, Bool.true_or, Bool.or_false, Bool.false_or, Nat.reduceBEq, *]; done) | fail)) only [go_sem, Hold.p, HoldK.k, HoldL.K, HoldL.body, Nat.reduceBEq, Nat.reduceAdd, reduceIte]
  refine loop_at (fun m e g => ∃ (at_ : Nat) (acc : List Msg) (vl : IV) (lo hi : Nat), m = bs.length - at_ ∧ at_ ≤ bs.length ∧ e 0 = v ∧ e 3 = .ptr h.n 0 0 ∧ e 7 = vl ∧ e 8 = .int .i64 (at_ : Nat) ∧ 2 * acc.length ≤ at_ ∧
    readB true bs = preR acc at_ (readB true (bs.drop at_)) ∧ At g h.n boxReq ∧ Ow lo hi g (.slice 38 t_Request) [vl] (.list (acc.map reqOf)) ∧ h.n + 1 ≤ lo ∧ lo ≤ g.n ∧ Ext h g) bs.length ?_ ?_
  · refine ⟨0, [], .nilslice, g.n, g.n, by omega, by omega, ?_⟩
    simp (disch := (first | omega | assumption | (simp only [push_n, set_n, put_n, List.length_cons, List.length_nil, List.length_append, Nat.reduceAdd]; done) | (simp only [push_n, set_n, put_n, List.length_cons, List.length_nil, List.length_append]; omega) | (simp only [List.all_cons, List.all_nil, one_bool, one_int, one_str, one_ptr, one_nilptr, one_slice, one_eslice, one_nilslice, one_func, one_iface, one_niliface, Bool.and_true, Bool.true_and, List.getD_cons_zero, List.getD_cons_succ, List.contains_cons, List.contains_nil, Bool.or_true, Bool.true_or, Bool.or_false, Bool.false_or, Nat.reduceBEq, *]; done) | fail)) only [go_sem, Hold.p, HoldK.k, HoldL.K, HoldL.body, Nat.reduceBEq, Nat.reduceAdd, reduceIte]
    refine ⟨rfl, by simp, (preR_nil _).symm, b, Ow.nil0 g, by omega, Nat.le_refl _, e_g⟩
  · clear b e_g l_g hs g
    rintro m e g ⟨at_, acc, vl, lo, hi, rfl, hat, i0, i3, i7, i8, hac, hI, b, o, hlo, hlg, E⟩
    have hsg := hs0.ext E
    have hig : hi ≤ g.n := o.le
    have q := b.eq
    obtain ⟨v17, hv17, hs17⟩ := hsg.lo (a := at_) (q := .i64) (by rw [strRows_len]; omega)
    rw [strRows_drop] at hs17
    simp (disch := (first | omega | assumption | (simp only [push_n, set_n, put_n, List.length_cons, List.length_nil, List.length_append, Nat.reduceAdd]; done) | (simp only [push_n, set_n, put_n, List.length_cons, List.length_nil, List.length_append]; omega) | (simp only [List.all_cons, List.all_nil, one_bool, one_int, one_str, one_ptr, one_nilptr, one_slice, one_eslice, one_nilslice, one_func, one_iface, one_niliface, Bool.and_true, Bool.true_and, List.getD_cons_zero, List.getD_cons_succ, List.contains_cons, List.contains_nil, Bool.or_true, Bool.true_or, Bool.or_false, Bool.false_or, Nat.reduceBEq, *]; done) | fail)) only [i0, i3, i8, Option.map_none, hv17, go_sem, Hold.p, HoldK.k, HoldL.K, HoldL.body, Nat.reduceBEq, Nat.reduceAdd, reduceIte]
    refine callA_of (oneMessage_c true 84 h.n boxReq (goodReq _ mx) mx g v17 (bs.drop at_) b hs17 (by rw [List.length_drop]; omega)) ?_
    rintro r g1 ⟨hr, E1⟩
    cases hone : oneB true (bs.drop at_) with
    | stop c =>
      rw [hone] at hr
      obtain ⟨c0, c1, c2, c3, rfl, o0, o1, o2, o3⟩ := hr
      have hres := readI_stop hI hone
      have b := b.ext E1
      have o := o.ext E1
      have le_E1 := E1.le
      simp (disch := (first | omega | assumption | (simp only [push_n, set_n, put_n, List.length_cons, List.length_nil, List.length_append, Nat.reduceAdd]; done) | (simp only [push_n, set_n, put_n, List.length_cons, List.length_nil, List.length_append]; omega) | (simp only [List.all_cons, List.all_nil, one_bool, one_int, one_str, one_ptr, one_nilptr, one_slice, one_eslice, one_nilslice, one_func, one_iface, one_niliface, Bool.and_true, Bool.true_and, List.getD_cons_zero, List.getD_cons_succ, List.contains_cons, List.contains_nil, Bool.or_true, Bool.true_or, Bool.or_false, Bool.false_or, Nat.reduceBEq, *]; done) | fail)) only [o0, o1, o2, o3, go_sem, Hold.p, HoldK.k, HoldL.K, HoldL.body, Nat.reduceBEq, Nat.reduceAdd, reduceIte]
      generalize hq_g2 : IH.push g1 (IObj.rows [[c0, c1, c2, c3]] 144 4 false) = g2
      have e_g2 : Ext g1 g2 := by rw [← hq_g2]; exact (Ext.refl _).push _
      have l_g2 : g2.n = g1.n + 1 := by rw [← hq_g2]; rfl
      have b2 : At g2 g1.n (IObj.rows [[c0, c1, c2, c3]] 144 4 false) := by rw [← hq_g2]; exact At.new _ _
      clear hq_g2
      have b := b.ext e_g2
      have o := o.ext e_g2
      try simp (disch := (first | omega | assumption | (simp only [push_n, set_n, put_n, List.length_cons, List.length_nil, List.length_append, Nat.reduceAdd]; done) | (simp only [push_n, set_n, put_n, List.length_cons, List.length_nil, List.length_append]; omega) | (simp only [List.all_cons, List.all_nil, one_bool, one_int, one_str, one_ptr, one_nilptr, one_slice, one_eslice, one_nilslice, one_func, one_iface, one_niliface, Bool.and_true, Bool.true_and, List.getD_cons_zero, List.getD_cons_succ, List.contains_cons, List.contains_nil, Bool.or_true, Bool.true_or, Bool.or_false, Bool.false_or, Nat.reduceBEq, *]; done) | fail)) only [i7, i8, go_sem, Hold.p, HoldK.k, HoldL.K, HoldL.body, Nat.reduceBEq, Nat.reduceAdd, reduceIte]
      rw [hres]
      refine ⟨⟨vl, rfl, o.wide (by omega) ?_ (Nat.le_refl _)⟩, (E.trans E1).trans e_g2⟩
      exact o.le
    | msg first fs body size =>
      rw [hone] at hr
      obtain ⟨vf, vb, md, rfl, m1, m2, of_, ob⟩ := hr
      have hok := one_ok hone
      have hsz := hok.hs
      rw [List.length_drop] at hsz
      have hfl : first.length ≤ 1048576 := by have := hok.hl; rw [List.length_drop] at this; omega
      have hrb := restB_un hok.hr
      have hF : FldS fs := fun f hf => by have := fldB_len (hrb.2.2 f hf); omega
      have hres := readI_msg hI hone
      have hob := hok.hb
      have vf1 := of_.one
      have vb1 := ob.one
      have b := b.ext E1
      have o := o.ext E1
      have le_E1 := E1.le
      simp (disch := (first | omega | assumption | (simp only [push_n, set_n, put_n, List.length_cons, List.length_nil, List.length_append, Nat.reduceAdd]; done) | (simp only [push_n, set_n, put_n, List.length_cons, List.length_nil, List.length_append]; omega) | (simp only [List.all_cons, List.all_nil, one_bool, one_int, one_str, one_ptr, one_nilptr, one_slice, one_eslice, one_nilslice, one_func, one_iface, one_niliface, Bool.and_true, Bool.true_and, List.getD_cons_zero, List.getD_cons_succ, List.contains_cons, List.contains_nil, Bool.or_true, Bool.true_or, Bool.or_false, Bool.false_or, Nat.reduceBEq, *]; done) | fail)) only [vf1, vb1, go_sem, Hold.p, HoldK.k, HoldL.K, HoldL.body, Nat.reduceBEq, Nat.reduceAdd, reduceIte]
      generalize hq_g2 : IH.push g1 (rawObj first vf vb (size : Nat)) = g2
      have e_g2 : Ext g1 g2 := by rw [← hq_g2]; exact (Ext.refl _).push _
      have l_g2 : g2.n = g1.n + 1 := by rw [← hq_g2]; rfl
      have b2 : At g2 g1.n (rawObj first vf vb (size : Nat)) := by rw [← hq_g2]; exact At.new _ _
      clear hq_g2
      have b := b.ext e_g2
      have o := o.ext e_g2
      have of_ := of_.ext e_g2
      have ob := ob.ext e_g2
      have q := b.eq
      have q2 := b2.eq
      try simp (disch := (first | omega | assumption | (simp only [push_n, set_n, put_n, List.length_cons, List.length_nil, List.length_append, Nat.reduceAdd]; done) | (simp only [push_n, set_n, put_n, List.length_cons, List.length_nil, List.length_append]; omega) | (simp only [List.all_cons, List.all_nil, one_bool, one_int, one_str, one_ptr, one_nilptr, one_slice, one_eslice, one_nilslice, one_func, one_iface, one_niliface, Bool.and_true, Bool.true_and, List.getD_cons_zero, List.getD_cons_succ, List.contains_cons, List.contains_nil, Bool.or_true, Bool.true_or, Bool.or_false, Bool.false_or, Nat.reduceBEq, *]; done) | fail)) only [i3, q, q2, List.nil_append, List.append_nil, go_sem, Hold.p, HoldK.k, HoldL.K, HoldL.body, Nat.reduceBEq, Nat.reduceAdd, reduceIte]
      refine callA_of (toRequest_c g2 first vf vb (size : Nat) fs body of_.sl ob.sl hfl (by omega) hF mx) ?_
      rintro r g3 ⟨rfl, E3⟩
      have b := b.ext E3
      have b2 := b2.ext E3
      have o := o.ext E3
      have of_ := of_.ext E3
      have ob := ob.ext E3
      have le_E3 := E3.le
      simp (disch := (first | omega | assumption | (simp only [push_n, set_n, put_n, List.length_cons, List.length_nil, List.length_append, Nat.reduceAdd]; done) | (simp only [push_n, set_n, put_n, List.length_cons, List.length_nil, List.length_append]; omega) | (simp only [List.all_cons, List.all_nil, one_bool, one_int, one_str, one_ptr, one_nilptr, one_slice, one_eslice, one_nilslice, one_func, one_iface, one_niliface, Bool.and_true, Bool.true_and, List.getD_cons_zero, List.getD_cons_succ, List.contains_cons, List.contains_nil, Bool.or_true, Bool.true_or, Bool.or_false, Bool.false_or, Nat.reduceBEq, *]; done) | fail)) only [vf1, vb1, go_sem, Hold.p, HoldK.k, HoldL.K, HoldL.body, Nat.reduceBEq, Nat.reduceAdd, reduceIte]
      generalize hq_g4 : IH.push g3 (IObj.rows [[.str (Lib.cut first [32]).1, .str (Lib.cut first [32]).2.1, vf, vb]] 38 4 false) = g4
      have e_g4 : Ext g3 g4 := by rw [← hq_g4]; exact (Ext.refl _).push _
      have l_g4 : g4.n = g3.n + 1 := by rw [← hq_g4]; rfl
      have b4 : At g4 g3.n (IObj.rows [[.str (Lib.cut first [32]).1, .str (Lib.cut first [32]).2.1, vf, vb]] 38 4 false) := by rw [← hq_g4]; exact At.new _ _
      clear hq_g4
      have b := b.ext e_g4
      have b2 := b2.ext e_g4
      have o := o.ext e_g4
      have of_ := of_.ext e_g4
      have ob := ob.ext e_g4
      have q2 := b2.eq
      have q4 := b4.eq
      have w1 : wr .i64 ((at_ : Int) + (size : Int)) = ((at_ + size : Nat) : Int) := by rw [wr64 _ (by omega)]; omega
      try simp (disch := (first | omega | assumption | (simp only [push_n, set_n, put_n, List.length_cons, List.length_nil, List.length_append, Nat.reduceAdd]; done) | (simp only [push_n, set_n, put_n, List.length_cons, List.length_nil, List.length_append]; omega) | (simp only [List.all_cons, List.all_nil, one_bool, one_int, one_str, one_ptr, one_nilptr, one_slice, one_eslice, one_nilslice, one_func, one_iface, one_niliface, Bool.and_true, Bool.true_and, List.getD_cons_zero, List.getD_cons_succ, List.contains_cons, List.contains_nil, Bool.or_true, Bool.true_or, Bool.or_false, Bool.false_or, Nat.reduceBEq, *]; done) | fail)) only [i7, q4, q2, vf1, vb1, go_sem, Hold.p, HoldK.k, HoldL.K, HoldL.body, Nat.reduceBEq, Nat.reduceAdd, reduceIte]
      generalize hq_g5 : IH.push g4 (IObj.rows [[.str (Lib.cut first [32]).1, .str (Lib.cut first [32]).2.1, vf, vb]] 38 4 false) = g5
      have e_g5 : Ext g4 g5 := by rw [← hq_g5]; exact (Ext.refl _).push _
      have l_g5 : g5.n = g4.n + 1 := by rw [← hq_g5]; rfl
      have b5 : At g5 g4.n (IObj.rows [[.str (Lib.cut first [32]).1, .str (Lib.cut first [32]).2.1, vf, vb]] 38 4 false) := by rw [← hq_g5]; exact At.new _ _
      clear hq_g5
      have b := b.ext e_g5
      have b2 := b2.ext e_g5
      have o := o.ext e_g5
      have of_ := of_.ext e_g5
      have ob := ob.ext e_g5
      have q2 := b2.eq
      have q5 := b5.eq
      try simp (disch := (first | omega | assumption | (simp only [push_n, set_n, put_n, List.length_cons, List.length_nil, List.length_append, Nat.reduceAdd]; done) | (simp only [push_n, set_n, put_n, List.length_cons, List.length_nil, List.length_append]; omega) | (simp only [List.all_cons, List.all_nil, one_bool, one_int, one_str, one_ptr, one_nilptr, one_slice, one_eslice, one_nilslice, one_func, one_iface, one_niliface, Bool.and_true, Bool.true_and, List.getD_cons_zero, List.getD_cons_succ, List.contains_cons, List.contains_nil, Bool.or_true, Bool.true_or, Bool.or_false, Bool.false_or, Nat.reduceBEq, *]; done) | fail)) only [i7, q5, q2, vf1, vb1, go_sem, Hold.p, HoldK.k, HoldL.K, HoldL.body, Nat.reduceBEq, Nat.reduceAdd, reduceIte]
      have hx := req_ow (Lib.cut first [32]).1 (Lib.cut first [32]).2.1 of_ ob m1 m2 (show g1.n ≤ g5.n by omega)
      refine Ow.app (lo' := h.n + 1) o hx (.inl hig) (by omega) (by omega) (by omega) (by rw [List.length_map]; omega) ?_
      intro v6 h6 o6 t6 n6 v6o v6c
      have b := b.trn t6 (.inl (by omega))
      have b2 := b2.trn t6 (.inr (by omega))
      have q2 := b2.eq
      have E6 := (((((E.trans E1).trans e_g2).trans E3).trans e_g4).trans e_g5).trn t6 (by omega)
      simp (disch := (first | omega | assumption | (simp only [push_n, set_n, put_n, List.length_cons, List.length_nil, List.length_append, Nat.reduceAdd]; done) | (simp only [push_n, set_n, put_n, List.length_cons, List.length_nil, List.length_append]; omega) | (simp only [List.all_cons, List.all_nil, one_bool, one_int, one_str, one_ptr, one_nilptr, one_slice, one_eslice, one_nilslice, one_func, one_iface, one_niliface, Bool.and_true, Bool.true_and, List.getD_cons_zero, List.getD_cons_succ, List.contains_cons, List.contains_nil, Bool.or_true, Bool.true_or, Bool.or_false, Bool.false_or, Nat.reduceBEq, *]; done) | fail)) only [i0, i3, i8, q2, w1, go_sem, Hold.p, HoldK.k, HoldL.K, HoldL.body, Nat.reduceBEq, Nat.reduceAdd, reduceIte]
      refine ⟨_, ?_, at_ + size, acc ++ [(first, fs, body)], v6, h.n + 1, h6.n, rfl, by omega, rfl, rfl, by simp; omega, hres, b, ?_, Nat.le_refl _, by omega, E6⟩
      · omega
      · rw [List.map_append]; exact o6

set_option maxHeartbeats 1000000 in
theorem readAllRep_c (mx : mxOn = true) (h : IH) (v : IV) (bs : Txt) (hs : SlR h 1 v (strRows bs)) (hl : bs.length ≤ 1048576) :
    ICalls Tryz.prog 54 [v, .func 55 [] []] h fun r h' => ReadRes h h' 48 t_Reply repOf r (readB false bs) ∧ Ext h h' := by
  refine icalls (.of ok54) (Nat.le_of_ble_eq_true rfl) ?_
  unfold c54
  have hs0 := hs
  have vv := hs.one
  simp (disch := (first | omega | assumption | (simp only [push_n, set_n, put_n, List.length_cons, List.length_nil, List.length_append, Nat.reduceAdd]; done) | (simp only [push_n, set_n, put_n, List.length_cons, List.length_nil, List.length_append]; omega) | (simp only [List.all_cons, List.all_nil, one_bool, one_int, one_str, one_ptr, one_nilptr, one_slice, one_eslice, one_nilslice, one_func, one_iface, one_niliface, Bool.and_true, Bool.true_and, List.getD_cons_zero, List.getD_cons_succ, List.contains_cons, List.contains_nil, Bool.or_true, Bool.true_or, Bool.or_false, Bool.false_or, Nat.reduceBEq, *]; done) | fail)) only [go_sem, Hold.p, HoldK.k, HoldL.K, HoldL.body, Nat.reduceBEq, Nat.reduceAdd, reduceIte]
  generalize hq_g : IH.push h (boxRep) = g
  have e_g : Ext h g := by rw [← hq_g]; exact (Ext.refl _).push _
  have l_g : g.n = h.n + 1 := by rw [← hq_g]; rfl
  have b : At g h.n (boxRep) := by rw [← hq_g]; exact At.new _ _
  clear hq_g
  have hs := hs.ext e_g
  try simp (disch := (first | omega | assumption | (simp only [push_n, set_n, put_n, List.length_cons, List.length_nil, List.length_append, Nat.reduceAdd]; done) | (simp only [push_n, set_n, put_n, List.length_cons, List.length_nil, List.length_append]; omega) | (simp only [List.all_cons, List.all_nil, one_bool, one_int, one_str, one_ptr, one_nilptr, one_slice, one_eslice, one_nilslice, one_func, one_iface, one_niliface, Bool.and_true, Bool.true_and, List.getD_cons_zero, List.getD_cons_succ, List.contains_cons, List.contains_nil, Bool.or_true, Bool.true_or, Bool.or_false, Bool.false_or, Nat.reduceBEq, *]; done) | fail)) only [go_sem, Hold.p, HoldK.k, HoldL.K, HoldL.body, Nat.reduceBEq, Nat.reduceAdd, reduceIte]
  refine loop_at (fun m e g => ∃ (at_ : Nat) (acc : List Msg) (vl : IV) (lo hi : Nat), m = bs.length - at_ ∧ at_ ≤ bs.length ∧ e 0 = v ∧ e 3 = .ptr h.n 0 0 ∧ e 7 = vl ∧ e 8 = .int .i64 (at_ : Nat) ∧ 2 * acc.length ≤ at_ ∧
    readB false bs = preR acc at_ (readB false (bs.drop at_)) ∧ At g h.n boxRep ∧ Ow lo hi g (.slice 48 t_Reply) [vl] (.list (acc.map repOf)) ∧ h.n + 1 ≤ lo ∧ lo ≤ g.n ∧ Ext h g) bs.length ?_ ?_
  · refine ⟨0, [], .nilslice, g.n, g.n, by omega, by omega, ?_⟩
    simp (disch := (first | omega | assumption | (simp only [push_n, set_n, put_n, List.length_cons, List.length_nil, List.length_append, Nat.reduceAdd]; done) | (simp only [push_n, set_n, put_n, List.length_cons, List.length_nil, List.length_append]; omega) | (simp only [List.all_cons, List.all_nil, one_bool, one_int, one_str, one_ptr, one_nilptr, one_slice, one_eslice, one_nilslice, one_func, one_iface, one_niliface, Bool.and_true, Bool.true_and, List.getD_cons_zero, List.getD_cons_succ, List.contains_cons, List.contains_nil, Bool.or_true, Bool.true_or, Bool.or_false, Bool.false_or, Nat.reduceBEq, *]; done) | fail)) only [go_sem, Hold.p, HoldK.k, HoldL.K, HoldL.body, Nat.reduceBEq, Nat.reduceAdd, reduceIte]
    refine ⟨rfl, by simp, (preR_nil _).symm, b, Ow.nil0 g, by omega, Nat.le_refl _, e_g⟩
  · clear b e_g l_g hs g
    rintro m e g ⟨at_, acc, vl, lo, hi, rfl, hat, i0, i3, i7, i8, hac, hI, b, o, hlo, hlg, E⟩
    have hsg := hs0.ext E
    have hig : hi ≤ g.n := o.le
    have q := b.eq
    obtain ⟨v17, hv17, hs17⟩ := hsg.lo (a := at_) (q := .i64) (by rw [strRows_len]; omega)
    rw [strRows_drop] at hs17
    simp (disch := (first | omega | assumption | (simp only [push_n, set_n, put_n, List.length_cons, List.length_nil, List.length_append, Nat.reduceAdd]; done) | (simp only [push_n, set_n, put_n, List.length_cons, List.length_nil, List.length_append]; omega) | (simp only [List.all_cons, List.all_nil, one_bool, one_int, one_str, one_ptr, one_nilptr, one_slice, one_eslice, one_nilslice, one_func, one_iface, one_niliface, Bool.and_true, Bool.true_and, List.getD_cons_zero, List.getD_cons_succ, List.contains_cons, List.contains_nil, Bool.or_true, Bool.true_or, Bool.or_false, Bool.false_or, Nat.reduceBEq, *]; done) | fail)) only [i0, i3, i8, Option.map_none, hv17, go_sem, Hold.p, HoldK.k, HoldL.K, HoldL.body, Nat.reduceBEq, Nat.reduceAdd, reduceIte]
    refine callA_of (oneMessage_c false 88 h.n boxRep (goodRep _) mx g v17 (bs.drop at_) b hs17 (by rw [List.length_drop]; omega)) ?_
    rintro r g1 ⟨hr, E1⟩
    cases hone : oneB false (bs.drop at_) with
    | stop c =>
      rw [hone] at hr
      obtain ⟨c0, c1, c2, c3, rfl, o0, o1, o2, o3⟩ := hr
      have hres := readI_stop hI hone
      have b := b.ext E1
      have o := o.ext E1
      have le_E1 := E1.le
      simp (disch := (first | omega | assumption | (simp only [push_n, set_n, put_n, List.length_cons, List.length_nil, List.length_append, Nat.reduceAdd]; done) | (simp only [push_n, set_n, put_n, List.length_cons, List.length_nil, List.length_append]; omega) | (simp only [List.all_cons, List.all_nil, one_bool, one_int, one_str, one_ptr, one_nilptr, one_slice, one_eslice, one_nilslice, one_func, one_iface, one_niliface, Bool.and_true, Bool.true_and, List.getD_cons_zero, List.getD_cons_succ, List.contains_cons, List.contains_nil, Bool.or_true, Bool.true_or, Bool.or_false, Bool.false_or, Nat.reduceBEq, *]; done) | fail)) only [o0, o1, o2, o3, go_sem, Hold.p, HoldK.k, HoldL.K, HoldL.body, Nat.reduceBEq, Nat.reduceAdd, reduceIte]
      generalize hq_g2 : IH.push g1 (IObj.rows [[c0, c1, c2, c3]] 144 4 false) = g2
      have e_g2 : Ext g1 g2 := by rw [← hq_g2]; exact (Ext.refl _).push _
      have l_g2 : g2.n = g1.n + 1 := by rw [← hq_g2]; rfl
      have b2 : At g2 g1.n (IObj.rows [[c0, c1, c2, c3]] 144 4 false) := by rw [← hq_g2]; exact At.new _ _
      clear hq_g2
      have b := b.ext e_g2
      have o := o.ext e_g2
      try simp (disch := (first | omega | assumption | (simp only [push_n, set_n, put_n, List.length_cons, List.length_nil, List.length_append, Nat.reduceAdd]; done) | (simp only [push_n, set_n, put_n, List.length_cons, List.length_nil, List.length_append]; omega) | (simp only [List.all_cons, List.all_nil, one_bool, one_int, one_str, one_ptr, one_nilptr, one_slice, one_eslice, one_nilslice, one_func, one_iface, one_niliface, Bool.and_true, Bool.true_and, List.getD_cons_zero, List.getD_cons_succ, List.contains_cons, List.contains_nil, Bool.or_true, Bool.true_or, Bool.or_false, Bool.false_or, Nat.reduceBEq, *]; done) | fail)) only [i7, i8, go_sem, Hold.p, HoldK.k, HoldL.K, HoldL.body, Nat.reduceBEq, Nat.reduceAdd, reduceIte]
      rw [hres]
      refine ⟨⟨vl, rfl, o.wide (by omega) ?_ (Nat.le_refl _)⟩, (E.trans E1).trans e_g2⟩
      exact o.le
    | msg first fs body size =>
      rw [hone] at hr
      obtain ⟨vf, vb, md, rfl, m1, m2, of_, ob⟩ := hr
      have hok := one_ok hone
      have hsz := hok.hs
      rw [List.length_drop] at hsz
      have hfl : first.length ≤ 1048576 := by have := hok.hl; rw [List.length_drop] at this; omega
      have hrb := restB_un hok.hr
      have hF : FldS fs := fun f hf => by have := fldB_len (hrb.2.2 f hf); omega
      have hres := readI_msg hI hone
      have hob := hok.hb
      have vf1 := of_.one
      have vb1 := ob.one
      have b := b.ext E1
      have o := o.ext E1
      have le_E1 := E1.le
      simp (disch := (first | omega | assumption | (simp only [push_n, set_n, put_n, List.length_cons, List.length_nil, List.length_append, Nat.reduceAdd]; done) | (simp only [push_n, set_n, put_n, List.length_cons, List.length_nil, List.length_append]; omega) | (simp only [List.all_cons, List.all_nil, one_bool, one_int, one_str, one_ptr, one_nilptr, one_slice, one_eslice, one_nilslice, one_func, one_iface, one_niliface, Bool.and_true, Bool.true_and, List.getD_cons_zero, List.getD_cons_succ, List.contains_cons, List.contains_nil, Bool.or_true, Bool.true_or, Bool.or_false, Bool.false_or, Nat.reduceBEq, *]; done) | fail)) only [vf1, vb1, go_sem, Hold.p, HoldK.k, HoldL.K, HoldL.body, Nat.reduceBEq, Nat.reduceAdd, reduceIte]
      generalize hq_g2 : IH.push g1 (rawObj first vf vb (size : Nat)) = g2
      have e_g2 : Ext g1 g2 := by rw [← hq_g2]; exact (Ext.refl _).push _
      have l_g2 : g2.n = g1.n + 1 := by rw [← hq_g2]; rfl
      have b2 : At g2 g1.n (rawObj first vf vb (size : Nat)) := by rw [← hq_g2]; exact At.new _ _
      clear hq_g2
      have b := b.ext e_g2
      have o := o.ext e_g2
      have of_ := of_.ext e_g2
      have ob := ob.ext e_g2
      have q := b.eq
      have q2 := b2.eq
      try simp (disch := (first | omega | assumption | (simp only [push_n, set_n, put_n, List.length_cons, List.length_nil, List.length_append, Nat.reduceAdd]; done) | (simp only [push_n, set_n, put_n, List.length_cons, List.length_nil, List.length_append]; omega) | (simp only [List.all_cons, List.all_nil, one_bool, one_int, one_str, one_ptr, one_nilptr, one_slice, one_eslice, one_nilslice, one_func, one_iface, one_niliface, Bool.and_true, Bool.true_and, List.getD_cons_zero, List.getD_cons_succ, List.contains_cons, List.contains_nil, Bool.or_true, Bool.true_or, Bool.or_false, Bool.false_or, Nat.reduceBEq, *]; done) | fail)) only [i3, q, q2, List.nil_append, List.append_nil, go_sem, Hold.p, HoldK.k, HoldL.K, HoldL.body, Nat.reduceBEq, Nat.reduceAdd, reduceIte]
      refine callA_of (toReply_c g2 first vf vb (size : Nat) fs body of_.sl ob.sl hfl (by omega) hF) ?_
      rintro r g3 ⟨⟨st, rfl, hst⟩, E3⟩
      have hst2 := hst hok.hf
      subst hst2
      have b := b.ext E3
      have b2 := b2.ext E3
      have o := o.ext E3
      have of_ := of_.ext E3
      have ob := ob.ext E3
      have le_E3 := E3.le
      simp (disch := (first | omega | assumption | (simp only [push_n, set_n, put_n, List.length_cons, List.length_nil, List.length_append, Nat.reduceAdd]; done) | (simp only [push_n, set_n, put_n, List.length_cons, List.length_nil, List.length_append]; omega) | (simp only [List.all_cons, List.all_nil, one_bool, one_int, one_str, one_ptr, one_nilptr, one_slice, one_eslice, one_nilslice, one_func, one_iface, one_niliface, Bool.and_true, Bool.true_and, List.getD_cons_zero, List.getD_cons_succ, List.contains_cons, List.contains_nil, Bool.or_true, Bool.true_or, Bool.or_false, Bool.false_or, Nat.reduceBEq, *]; done) | fail)) only [vf1, vb1, go_sem, Hold.p, HoldK.k, HoldL.K, HoldL.body, Nat.reduceBEq, Nat.reduceAdd, reduceIte]
      generalize hq_g4 : IH.push g3 (IObj.rows [[.int .i64 ((valD (first.drop 6) : Nat) : Int), vf, vb]] 48 3 false) = g4
      have e_g4 : Ext g3 g4 := by rw [← hq_g4]; exact (Ext.refl _).push _
      have l_g4 : g4.n = g3.n + 1 := by rw [← hq_g4]; rfl
      have b4 : At g4 g3.n (IObj.rows [[.int .i64 ((valD (first.drop 6) : Nat) : Int), vf, vb]] 48 3 false) := by rw [← hq_g4]; exact At.new _ _
      clear hq_g4
      have b := b.ext e_g4
      have b2 := b2.ext e_g4
      have o := o.ext e_g4
      have of_ := of_.ext e_g4
      have ob := ob.ext e_g4
      have q2 := b2.eq
      have q4 := b4.eq
      have w1 : wr .i64 ((at_ : Int) + (size : Int)) = ((at_ + size : Nat) : Int) := by rw [wr64 _ (by omega)]; omega
      try simp (disch := (first | omega | assumption | (simp only [push_n, set_n, put_n, List.length_cons, List.length_nil, List.length_append, Nat.reduceAdd]; done) | (simp only [push_n, set_n, put_n, List.length_cons, List.length_nil, List.length_append]; omega) | (simp only [List.all_cons, List.all_nil, one_bool, one_int, one_str, one_ptr, one_nilptr, one_slice, one_eslice, one_nilslice, one_func, one_iface, one_niliface, Bool.and_true, Bool.true_and, List.getD_cons_zero, List.getD_cons_succ, List.contains_cons, List.contains_nil, Bool.or_true, Bool.true_or, Bool.or_false, Bool.false_or, Nat.reduceBEq, *]; done) | fail)) only [i7, q4, q2, vf1, vb1, go_sem, Hold.p, HoldK.k, HoldL.K, HoldL.body, Nat.reduceBEq, Nat.reduceAdd, reduceIte]
      generalize hq_g5 : IH.push g4 (IObj.rows [[.int .i64 ((valD (first.drop 6) : Nat) : Int), vf, vb]] 48 3 false) = g5
      have e_g5 : Ext g4 g5 := by rw [← hq_g5]; exact (Ext.refl _).push _
      have l_g5 : g5.n = g4.n + 1 := by rw [← hq_g5]; rfl
      have b5 : At g5 g4.n (IObj.rows [[.int .i64 ((valD (first.drop 6) : Nat) : Int), vf, vb]] 48 3 false) := by rw [← hq_g5]; exact At.new _ _
      clear hq_g5
      have b := b.ext e_g5
      have b2 := b2.ext e_g5
      have o := o.ext e_g5
      have of_ := of_.ext e_g5
      have ob := ob.ext e_g5
      have q2 := b2.eq
      have q5 := b5.eq
      try simp (disch := (first | omega | assumption | (simp only [push_n, set_n, put_n, List.length_cons, List.length_nil, List.length_append, Nat.reduceAdd]; done) | (simp only [push_n, set_n, put_n, List.length_cons, List.length_nil, List.length_append]; omega) | (simp only [List.all_cons, List.all_nil, one_bool, one_int, one_str, one_ptr, one_nilptr, one_slice, one_eslice, one_nilslice, one_func, one_iface, one_niliface, Bool.and_true, Bool.true_and, List.getD_cons_zero, List.getD_cons_succ, List.contains_cons, List.contains_nil, Bool.or_true, Bool.true_or, Bool.or_false, Bool.false_or, Nat.reduceBEq, *]; done) | fail)) only [i7, q5, q2, vf1, vb1, go_sem, Hold.p, HoldK.k, HoldL.K, HoldL.body, Nat.reduceBEq, Nat.reduceAdd, reduceIte]
      have hx := rep_ow ((valD (first.drop 6) : Nat) : Int) of_ ob m1 m2 (show g1.n ≤ g5.n by omega)
      refine Ow.app (lo' := h.n + 1) o hx (.inl hig) (by omega) (by omega) (by omega) (by rw [List.length_map]; omega) ?_
      intro v6 h6 o6 t6 n6 v6o v6c
      have b := b.trn t6 (.inl (by omega))
      have b2 := b2.trn t6 (.inr (by omega))
      have q2 := b2.eq
      have E6 := (((((E.trans E1).trans e_g2).trans E3).trans e_g4).trans e_g5).trn t6 (by omega)
      simp (disch := (first | omega | assumption | (simp only [push_n, set_n, put_n, List.length_cons, List.length_nil, List.length_append, Nat.reduceAdd]; done) | (simp only [push_n, set_n, put_n, List.length_cons, List.length_nil, List.length_append]; omega) | (simp only [List.all_cons, List.all_nil, one_bool, one_int, one_str, one_ptr, one_nilptr, one_slice, one_eslice, one_nilslice, one_func, one_iface, one_niliface, Bool.and_true, Bool.true_and, List.getD_cons_zero, List.getD_cons_succ, List.contains_cons, List.contains_nil, Bool.or_true, Bool.true_or, Bool.or_false, Bool.false_or, Nat.reduceBEq, *]; done) | fail)) only [i0, i3, i8, q2, w1, go_sem, Hold.p, HoldK.k, HoldL.K, HoldL.body, Nat.reduceBEq, Nat.reduceAdd, reduceIte]
      refine ⟨_, ?_, at_ + size, acc ++ [(first, fs, body)], v6, h.n + 1, h6.n, rfl, by omega, rfl, rfl, by simp; omega, hres, b, ?_, Nat.le_refl _, by omega, E6⟩
      · omega
      · rw [List.map_append]; exact o6
end
end Go.Proofs.YtdpaehdolhdjdaaGreatDoor



set_option maxRecDepth 20000
namespace Go.Proofs.YtdpaehdolhdjdaaGreatDoor
open Go Go.IW
section
attribute [local go_sem] List.getElem?_cons_zero List.getElem?_cons_succ Option.bind_some List.map_cons List.map_nil Nat.zero_add if_true List.getD_cons_zero List.getD_cons_succ List.contains_cons List.contains_nil Bool.or_true Bool.true_or Bool.or_false Bool.false_or Bool.not_true Bool.not_false true_and and_true rowA_whole mid_get stO_mid rowO_rows cellO_rows push_n set_n push_at push_old set_here set_there set_pushT set_pushN set_set upd_ne Nat.add_assoc Nat.add_zero stO_1s stO_ws boxA_s List.all_cons List.all_nil one_bool one_int one_str one_ptr one_nilptr one_slice one_eslice one_nilslice one_func one_iface one_niliface Bool.and_true Bool.and_self List.length_cons List.length_nil Nat.one_ne_zero Nat.succ_ne_zero if_false List.set_cons_zero List.set_cons_succ lay_nil lay_1 lay_w Option.map_some

theorem implReadRequests_c (mx : mxOn = true) (h : IH) (v : IV) (bs : Txt) (hs : SlR h 1 v (strRows bs)) (hl : bs.length ≤ 1048576) :
    ICalls Tryz.prog 13 [v] h fun r h' => ReadRes h h' 38 t_Request reqOf r (readB true bs) ∧ Ext h h' := by
  refine icalls (.of ok13) (Nat.le_of_ble_eq_true rfl) ?_
  unfold c13
  simp (disch := (first | omega | assumption | (simp only [push_n, set_n, put_n, List.length_cons, List.length_nil, List.length_append, Nat.reduceAdd]; done) | (simp only [push_n, set_n, put_n, List.length_cons, List.length_nil, List.length_append]; omega) | (simp only [List.all_cons, List.all_nil, one_bool, one_int, one_str, one_ptr, one_nilptr, one_slice, one_eslice, one_nilslice, one_func, one_iface, one_niliface, Bool.and_true, Bool.true_and, List.getD_cons_zero, List.getD_cons_succ, List.contains_cons, List.contains_nil, Bool.or_true, Bool.true_or, Bool.or_false, Bool.false_or, Nat.reduceBEq, *]; done) | fail)) only [go_sem, Hold.p, HoldK.k, HoldL.K, HoldL.body, Nat.reduceBEq, Nat.reduceAdd, reduceIte]
  refine callA_of (readAllReq_c mx h v bs hs hl) ?_
  rintro r g ⟨⟨vl, rfl, o⟩, E⟩
  simp (disch := (first | omega | assumption | (simp only [push_n, set_n, put_n, List.length_cons, List.length_nil, List.length_append, Nat.reduceAdd]; done) | (simp only [push_n, set_n, put_n, List.length_cons, List.length_nil, List.length_append]; omega) | (simp only [List.all_cons, List.all_nil, one_bool, one_int, one_str, one_ptr, one_nilptr, one_slice, one_eslice, one_nilslice, one_func, one_iface, one_niliface, Bool.and_true, Bool.true_and, List.getD_cons_zero, List.getD_cons_succ, List.contains_cons, List.contains_nil, Bool.or_true, Bool.true_or, Bool.or_false, Bool.false_or, Nat.reduceBEq, *]; done) | fail)) only [go_sem, Hold.p, HoldK.k, HoldL.K, HoldL.body, Nat.reduceBEq, Nat.reduceAdd, reduceIte]
  exact ⟨⟨vl, rfl, o⟩, E⟩
theorem implReadReplies_c (mx : mxOn = true) (h : IH) (v : IV) (bs : Txt) (hs : SlR h 1 v (strRows bs)) (hl : bs.length ≤ 1048576) :
    ICalls Tryz.prog 19 [v] h fun r h' => ReadRes h h' 48 t_Reply repOf r (readB false bs) ∧ Ext h h' := by
  refine icalls (.of ok19) (Nat.le_of_ble_eq_true rfl) ?_
  unfold c19
  simp (disch := (first | omega | assumption | (simp only [push_n, set_n, put_n, List.length_cons, List.length_nil, List.length_append, Nat.reduceAdd]; done) | (simp only [push_n, set_n, put_n, List.length_cons, List.length_nil, List.length_append]; omega) | (simp only [List.all_cons, List.all_nil, one_bool, one_int, one_str, one_ptr, one_nilptr, one_slice, one_eslice, one_nilslice, one_func, one_iface, one_niliface, Bool.and_true, Bool.true_and, List.getD_cons_zero, List.getD_cons_succ, List.contains_cons, List.contains_nil, Bool.or_true, Bool.true_or, Bool.or_false, Bool.false_or, Nat.reduceBEq, *]; done) | fail)) only [go_sem, Hold.p, HoldK.k, HoldL.K, HoldL.body, Nat.reduceBEq, Nat.reduceAdd, reduceIte]
  refine callA_of (readAllRep_c mx h v bs hs hl) ?_
  rintro r g ⟨⟨vl, rfl, o⟩, E⟩
  simp (disch := (first | omega | assumption | (simp only [push_n, set_n, put_n, List.length_cons, List.length_nil, List.length_append, Nat.reduceAdd]; done) | (simp only [push_n, set_n, put_n, List.length_cons, List.length_nil, List.length_append]; omega) | (simp only [List.all_cons, List.all_nil, one_bool, one_int, one_str, one_ptr, one_nilptr, one_slice, one_eslice, one_nilslice, one_func, one_iface, one_niliface, Bool.and_true, Bool.true_and, List.getD_cons_zero, List.getD_cons_succ, List.contains_cons, List.contains_nil, Bool.or_true, Bool.true_or, Bool.or_false, Bool.false_or, Nat.reduceBEq, *]; done) | fail)) only [go_sem, Hold.p, HoldK.k, HoldL.K, HoldL.body, Nat.reduceBEq, Nat.reduceAdd, reduceIte]
  exact ⟨⟨vl, rfl, o⟩, E⟩

end
end Go.Proofs.YtdpaehdolhdjdaaGreatDoor

