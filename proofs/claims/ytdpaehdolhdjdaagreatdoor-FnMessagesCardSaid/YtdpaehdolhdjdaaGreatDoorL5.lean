import Derived.Test.YtdpaehdolhdjdaaGreatDoorL4
set_option linter.unusedSimpArgs false
set_option linter.unusedVariables false
set_option maxRecDepth 20000
namespace Go.Proofs.YtdpaehdolhdjdaaGreatDoor
open Go Go.IW
section
attribute [local go_sem] List.getElem?_cons_zero List.getElem?_cons_succ Option.bind_some List.map_cons List.map_nil Nat.zero_add if_true List.getD_cons_zero List.getD_cons_succ List.contains_cons List.contains_nil Bool.or_true Bool.true_or Bool.or_false Bool.false_or Bool.not_true Bool.not_false true_and and_true rowA_whole mid_get stO_mid rowO_rows cellO_rows push_n set_n push_at push_old set_here set_there set_pushT set_pushN set_set upd_ne Nat.add_assoc Nat.add_zero stO_1s stO_ws boxA_s List.all_cons List.all_nil one_bool one_int one_str one_ptr one_nilptr one_slice one_eslice one_nilslice one_func one_iface one_niliface Bool.and_true Bool.and_self List.length_cons List.length_nil Nat.one_ne_zero Nat.succ_ne_zero if_false List.set_cons_zero List.set_cons_succ lay_nil lay_1 lay_w Option.map_some

theorem putS_eq : showReq [112, 117, 116] [47, 120] [] putB = (message putF [] putB, 0) := by
  unfold showReq
  rw [if_pos (by decide +kernel)]
  rfl
theorem putL : (message putF [] putB).length = 22 := by rw [put_eq]; rfl
theorem msg_len {first : List UInt8} {fs : List Fld} {body : List UInt8} (hR : restB fs body.length = true) (hl : first.length ≤ 1000) : (message first fs body).length ≤ 100000 := by
  obtain ⟨r1, r2, r3⟩ := restB_un hR
  have ll := lines_len r3
  have hd : (Lib.decDigits body.length).length ≤ 20 := dec_le _ (by omega)
  have hL : (lenLine body).length ≤ 40 := by
    unfold lenLine; split
    · simp [lengthS]; omega
    · simp
  unfold message
  simp only [List.length_append, List.length_cons, List.length_nil]
  omega
theorem wsum {a b : Nat} (h : a + b ≤ 1000000) : wr .i64 ((a : Int) + (b : Int)) = ((a + b : Nat) : Int) := by rw [wr64 _ (by omega)]; omega
theorem src_own {lo hi el sz : Nat} {h0 h h' : IH} {v : IV} {rs : List (List IV)} (o : Own lo hi h el sz v rs) (t : Turn v h h') (E : Ext h0 h) (hl : h0.n ≤ lo) : Ext h0 h' := E.turn o hl t
set_option maxHeartbeats 4000000 in
theorem lawMessages (mx : mxOn = true) : LawTrue Tryz.prog 4 [(.slice (.int .u8), false)] := by
  rintro h ivs ha ⟨iv, r, rfl, hf, rfl⟩
  obtain ⟨dS, aS, okS', wS⟩ := fits_vw (.slice 5 (.int .u8)) hf
  obtain ⟨code, rfl, hs⟩ := bytes_any aS wS
  clear aS okS' wS
  refine icalls (.of ok4) (Nat.le_of_ble_eq_true rfl) ?_
  unfold c4
  have hlen := hs.lenF
  rw [strRows_len] at hlen
  by_cases hbig : (1048576 : Int) < code.length
  · have hn : decide ((1048576 : Int) < code.length) = true := decide_eq_true hbig
    simp (disch := (first | omega | assumption | (simp only [push_n, set_n, put_n, List.length_cons, List.length_nil, List.length_append, Nat.reduceAdd]; done) | (simp only [push_n, set_n, put_n, List.length_cons, List.length_nil, List.length_append]; omega) | (simp only [List.all_cons, List.all_nil, one_bool, one_int, one_str, one_ptr, one_nilptr, one_slice, one_eslice, one_nilslice, one_func, one_iface, one_niliface, Bool.and_true, Bool.true_and, List.getD_cons_zero, List.getD_cons_succ, List.contains_cons, List.contains_nil, Bool.or_true, Bool.true_or, Bool.or_false, Bool.false_or, Nat.reduceBEq, *]; done) | fail)) only [hlen, hn, go_sem, Hold.p, HoldK.k, HoldL.K, HoldL.body, Nat.reduceBEq, Nat.reduceAdd, reduceIte]
  have hn : decide ((1048576 : Int) < code.length) = false := decide_eq_false hbig
  have hl : code.length ≤ 1048576 := by omega
  refine vc_split 9 (fun e g => e 0 = iv ∧ SlR g 1 iv (strRows code)) ?_ ?_
  · simp only [CC.split]
    simp (disch := (first | omega | assumption | (simp only [push_n, set_n, put_n, List.length_cons, List.length_nil, List.length_append, Nat.reduceAdd]; done) | (simp only [push_n, set_n, put_n, List.length_cons, List.length_nil, List.length_append]; omega) | (simp only [List.all_cons, List.all_nil, one_bool, one_int, one_str, one_ptr, one_nilptr, one_slice, one_eslice, one_nilslice, one_func, one_iface, one_niliface, Bool.and_true, Bool.true_and, List.getD_cons_zero, List.getD_cons_succ, List.contains_cons, List.contains_nil, Bool.or_true, Bool.true_or, Bool.or_false, Bool.false_or, Nat.reduceBEq, *]; done) | fail)) only [hlen, hn, go_sem, Hold.p, HoldK.k, HoldL.K, HoldL.body, Nat.reduceBEq, Nat.reduceAdd, reduceIte]
    refine callA_of (drawReq_c h iv code hs hl) ?_
    rintro r g ⟨vb, pa, vf, w, fs, bs, rfl, l1, l2, hF, hfl, hT, hw, hbl, E⟩
    have hs := hs.ext E
    have le_E := E.le
    have vf1 := hF.one
    have wo := hw.one
    simp (disch := (first | omega | assumption | (simp only [push_n, set_n, put_n, List.length_cons, List.length_nil, List.length_append, Nat.reduceAdd]; done) | (simp only [push_n, set_n, put_n, List.length_cons, List.length_nil, List.length_append]; omega) | (simp only [List.all_cons, List.all_nil, one_bool, one_int, one_str, one_ptr, one_nilptr, one_slice, one_eslice, one_nilslice, one_func, one_iface, one_niliface, Bool.and_true, Bool.true_and, List.getD_cons_zero, List.getD_cons_succ, List.contains_cons, List.contains_nil, Bool.or_true, Bool.true_or, Bool.or_false, Bool.false_or, Nat.reduceBEq, *]; done) | fail)) only [vf1, wo, go_sem, Hold.p, HoldK.k, HoldL.K, HoldL.body, Nat.reduceBEq, Nat.reduceAdd, reduceIte]
    generalize hq_g1 : IH.push g (reqObj vb pa vf w) = g1
    have e_g1 : Ext g g1 := by rw [← hq_g1]; exact (Ext.refl _).push _
    have l_g1 : g1.n = g.n + 1 := by rw [← hq_g1]; rfl
    have b1 : At g1 g.n (reqObj vb pa vf w) := by rw [← hq_g1]; exact At.new _ _
    clear hq_g1
    have hs := hs.ext e_g1
    have hF := hF.ext e_g1
    have hw := hw.ext e_g1
    have q1a := b1.eq
    try simp (disch := (first | omega | assumption | (simp only [push_n, set_n, put_n, List.length_cons, List.length_nil, List.length_append, Nat.reduceAdd]; done) | (simp only [push_n, set_n, put_n, List.length_cons, List.length_nil, List.length_append]; omega) | (simp only [List.all_cons, List.all_nil, one_bool, one_int, one_str, one_ptr, one_nilptr, one_slice, one_eslice, one_nilslice, one_func, one_iface, one_niliface, Bool.and_true, Bool.true_and, List.getD_cons_zero, List.getD_cons_succ, List.contains_cons, List.contains_nil, Bool.or_true, Bool.true_or, Bool.or_false, Bool.false_or, Nat.reduceBEq, *]; done) | fail)) only [go_sem, Hold.p, HoldK.k, HoldL.K, HoldL.body, Nat.reduceBEq, Nat.reduceAdd, reduceIte]
    refine bslA_of (rows := strRows putB) (by decide) rfl (by decide) ?_
    try simp (disch := (first | omega | assumption | (simp only [push_n, set_n, put_n, List.length_cons, List.length_nil, List.length_append, Nat.reduceAdd]; done) | (simp only [push_n, set_n, put_n, List.length_cons, List.length_nil, List.length_append]; omega) | (simp only [List.all_cons, List.all_nil, one_bool, one_int, one_str, one_ptr, one_nilptr, one_slice, one_eslice, one_nilslice, one_func, one_iface, one_niliface, Bool.and_true, Bool.true_and, List.getD_cons_zero, List.getD_cons_succ, List.contains_cons, List.contains_nil, Bool.or_true, Bool.true_or, Bool.or_false, Bool.false_or, Nat.reduceBEq, *]; done) | fail)) only [go_sem, Hold.p, HoldK.k, HoldL.K, HoldL.body, Nat.reduceBEq, Nat.reduceAdd, reduceIte]
    generalize hq_g2 : IH.push g1 (IObj.rows (strRows putB) 5 1 false) = g2
    have e_g2 : Ext g1 g2 := by rw [← hq_g2]; exact (Ext.refl _).push _
    have l_g2 : g2.n = g1.n + 1 := by rw [← hq_g2]; rfl
    have b2 : At g2 g1.n (IObj.rows (strRows putB) 5 1 false) := by rw [← hq_g2]; exact At.new _ _
    clear hq_g2
    have hs := hs.ext e_g2
    have hF := hF.ext e_g2
    have hw := hw.ext e_g2
    have b1 := b1.ext e_g2
    have q2 := b2.eq
    try simp (disch := (first | omega | assumption | (simp only [push_n, set_n, put_n, List.length_cons, List.length_nil, List.length_append, Nat.reduceAdd]; done) | (simp only [push_n, set_n, put_n, List.length_cons, List.length_nil, List.length_append]; omega) | (simp only [List.all_cons, List.all_nil, one_bool, one_int, one_str, one_ptr, one_nilptr, one_slice, one_eslice, one_nilslice, one_func, one_iface, one_niliface, Bool.and_true, Bool.true_and, List.getD_cons_zero, List.getD_cons_succ, List.contains_cons, List.contains_nil, Bool.or_true, Bool.true_or, Bool.or_false, Bool.false_or, Nat.reduceBEq, *]; done) | fail)) only [q2, go_sem, Hold.p, HoldK.k, HoldL.K, HoldL.body, Nat.reduceBEq, Nat.reduceAdd, reduceIte]
    have sb : SlR g2 1 (.slice g1.n 0 4) (strRows putB) := SlR.whole (rs := strRows putB) q2 rfl b2.lt
    generalize hq_g3 : IH.push g2 (reqObj [112, 117, 116] [47, 120] .nilslice (.slice g1.n 0 4)) = g3
    have e_g3 : Ext g2 g3 := by rw [← hq_g3]; exact (Ext.refl _).push _
    have l_g3 : g3.n = g2.n + 1 := by rw [← hq_g3]; rfl
    have b3 : At g3 g2.n (reqObj [112, 117, 116] [47, 120] .nilslice (.slice g1.n 0 4)) := by rw [← hq_g3]; exact At.new _ _
    clear hq_g3
    have hs := hs.ext e_g3
    have hF := hF.ext e_g3
    have hw := hw.ext e_g3
    have b1 := b1.ext e_g3
    have sb := sb.ext e_g3
    have q1 := b1.eq
    have q3 := b3.eq
    try simp (disch := (first | omega | assumption | (simp only [push_n, set_n, put_n, List.length_cons, List.length_nil, List.length_append, Nat.reduceAdd]; done) | (simp only [push_n, set_n, put_n, List.length_cons, List.length_nil, List.length_append]; omega) | (simp only [List.all_cons, List.all_nil, one_bool, one_int, one_str, one_ptr, one_nilptr, one_slice, one_eslice, one_nilslice, one_func, one_iface, one_niliface, Bool.and_true, Bool.true_and, List.getD_cons_zero, List.getD_cons_succ, List.contains_cons, List.contains_nil, Bool.or_true, Bool.true_or, Bool.or_false, Bool.false_or, Nat.reduceBEq, *]; done) | fail)) only [q1, q1a, go_sem, Hold.p, HoldK.k, HoldL.K, HoldL.body, Nat.reduceBEq, Nat.reduceAdd, reduceIte]
    refine callA_of (specShowReq_c g3 vb pa vf w fs bs hF hw (by omega) (by omega) hT.S) ?_
    rintro r g4 ⟨v4, rfl, o4, E4⟩
    have hs := hs.ext E4
    have hF := hF.ext E4
    have hw := hw.ext E4
    have b1 := b1.ext E4
    have b3 := b3.ext E4
    have sb := sb.ext E4
    have le_E4 := E4.le
    have q1 := b1.eq
    have q3 := b3.eq
    simp (disch := (first | omega | assumption | (simp only [push_n, set_n, put_n, List.length_cons, List.length_nil, List.length_append, Nat.reduceAdd]; done) | (simp only [push_n, set_n, put_n, List.length_cons, List.length_nil, List.length_append]; omega) | (simp only [List.all_cons, List.all_nil, one_bool, one_int, one_str, one_ptr, one_nilptr, one_slice, one_eslice, one_nilslice, one_func, one_iface, one_niliface, Bool.and_true, Bool.true_and, List.getD_cons_zero, List.getD_cons_succ, List.contains_cons, List.contains_nil, Bool.or_true, Bool.true_or, Bool.or_false, Bool.false_or, Nat.reduceBEq, *]; done) | fail)) only [q1, go_sem, Hold.p, HoldK.k, HoldL.K, HoldL.body, Nat.reduceBEq, Nat.reduceAdd, reduceIte]
    refine callA_of (implShowReq_c g4 vb pa vf w fs bs hF hw (by omega) (by omega) hT.S) ?_
    rintro r g5 ⟨v5, rfl, o5, E5⟩
    have hs := hs.ext E5
    have hF := hF.ext E5
    have hw := hw.ext E5
    have b1 := b1.ext E5
    have b3 := b3.ext E5
    have sb := sb.ext E5
    have le_E5 := E5.le
    have q1 := b1.eq
    have q3 := b3.eq
    simp (disch := (first | omega | assumption | (simp only [push_n, set_n, put_n, List.length_cons, List.length_nil, List.length_append, Nat.reduceAdd]; done) | (simp only [push_n, set_n, put_n, List.length_cons, List.length_nil, List.length_append]; omega) | (simp only [List.all_cons, List.all_nil, one_bool, one_int, one_str, one_ptr, one_nilptr, one_slice, one_eslice, one_nilslice, one_func, one_iface, one_niliface, Bool.and_true, Bool.true_and, List.getD_cons_zero, List.getD_cons_succ, List.contains_cons, List.contains_nil, Bool.or_true, Bool.true_or, Bool.or_false, Bool.false_or, Nat.reduceBEq, *]; done) | fail)) only [q3, go_sem, Hold.p, HoldK.k, HoldL.K, HoldL.body, Nat.reduceBEq, Nat.reduceAdd, reduceIte]
    refine callA_of (implShowReq_c g5 [112, 117, 116] [47, 120] .nilslice (.slice g1.n 0 4) [] putB (SlR.nil _ _) sb (by simp) (by simp) (fun _ h => by simp at h)) ?_
    rintro r g6 ⟨v6, rfl, o6, E6⟩
    have hs := hs.ext E6
    have hF := hF.ext E6
    have hw := hw.ext E6
    have b1 := b1.ext E6
    have b3 := b3.ext E6
    have sb := sb.ext E6
    have o5 := o5.ext E6
    have le_E6 := E6.le
    have q1 := b1.eq
    have q3 := b3.eq
    rw [putS_eq] at o6
    rw [putS_eq]
    simp only at o6
    have o5x := o5
    unfold showReq at o5 ⊢
    by_cases hok : reqB vb pa fs bs.length = true
    · rw [if_pos hok] at o5
      rw [if_pos hok]
      simp only at o5
      obtain ⟨r1, r2, hR⟩ := reqB_un hok
      have hvp : verbB vb = true ∧ pathOK pa = true := by
        unfold reqB at hok
        simp only [Bool.and_eq_true] at hok
        exact hok.1
      obtain ⟨f1, f2, f3, f4, f5⟩ := req_first hvp.1 hvp.2
      have hfl2 : (vb ++ [32] ++ pa).length ≤ 1000 := by simp; omega
      have hm1 := msg_len hR hfl2
      have hone1 : ∀ rest, oneB true (message (vb ++ [32] ++ pa) fs bs ++ rest) = .msg (vb ++ [32] ++ pa) fs bs (message (vb ++ [32] ++ pa) fs bs).length := fun rest => one_message f1 f2 f3 hfl2 hR
      have hone2 : ∀ rest, oneB true (message putF [] putB ++ rest) = .msg putF [] putB (message putF [] putB).length := fun rest => one_message put_ok.1 put_ok.2.2 (by decide) (by decide) put_ok.2.1
      have hread := read_two hone1 hone2 put_part
      have hrq : reqOf (vb ++ [32] ++ pa, fs, bs) = reqD vb pa fs bs := by unfold reqOf; rw [f4, f5]
      have hrp : reqOf (putF, [], putB) = reqD [112, 117, 116] [47, 120] [] putB := by rfl
      have hne1 : message (vb ++ [32] ++ pa) fs bs ≠ [] := by unfold message; simp
      generalize message (vb ++ [32] ++ pa) fs bs = m1 at o5 hm1 hone1 hread hne1
      have hm2 := putL
      have hne2 : message putF [] putB ≠ [] := by unfold message; simp
      rw [hm2] at hread
      generalize message putF [] putB = m2 at o6 hone2 hread hm2 hne2
      have s5 := o5.sl.src
      have n6 := o6.lenF
      rw [strRows_len, hm2] at n6
      have n5 := o5.lenF
      rw [strRows_len] at n5
      have w22 : wr .i64 (((22 : Nat) : Int) - 1) = ((21 : Nat) : Int) := rfl
      obtain ⟨v60, hv60, hs60⟩ := o6.sl.hi (b := 21) (q := .i64) (by rw [strRows_len]; omega)
      rw [strRows_take] at hs60
      have hc0 : (IV.str vb).one = true := rfl
      simp (disch := (first | omega | assumption | (simp only [push_n, set_n, put_n, List.length_cons, List.length_nil, List.length_append, Nat.reduceAdd]; done) | (simp only [push_n, set_n, put_n, List.length_cons, List.length_nil, List.length_append]; omega) | (simp only [List.all_cons, List.all_nil, one_bool, one_int, one_str, one_ptr, one_nilptr, one_slice, one_eslice, one_nilslice, one_func, one_iface, one_niliface, Bool.and_true, Bool.true_and, List.getD_cons_zero, List.getD_cons_succ, List.contains_cons, List.contains_nil, Bool.or_true, Bool.true_or, Bool.or_false, Bool.false_or, Nat.reduceBEq, *]; done) | fail)) only [decide_true, n6, w22, hv60, bslA_0, s5, Option.map_none, go_sem, Hold.p, HoldK.k, HoldL.K, HoldL.body, Nat.reduceBEq, Nat.reduceAdd, reduceIte]
      refine (Own.empty (lo := g6.n) (hi := g6.n) (h := g6) (el := 5) (sz := 1)).app (by simpa [strRows] using hne1) (by simp only [strRows_len, List.length_nil]; omega) ?_
      intro v7 h7 o7 t7 n7 v7o v7c
      rw [List.nil_append] at o7
      have E7 := src_own (Own.empty (lo := g6.n) (hi := g6.n) (h := g6) (el := 5) (sz := 1)) t7 (Ext.refl g6) (Nat.le_refl _)
      have s6 := (o6.sl.ext E7).src
      have hv67 := (slcF_ext o6.sl E7 none (some (.int .i64 ((21 : Nat) : Int)))).trans hv60
      simp (disch := (first | omega | assumption | (simp only [push_n, set_n, put_n, List.length_cons, List.length_nil, List.length_append, Nat.reduceAdd]; done) | (simp only [push_n, set_n, put_n, List.length_cons, List.length_nil, List.length_append]; omega) | (simp only [List.all_cons, List.all_nil, one_bool, one_int, one_str, one_ptr, one_nilptr, one_slice, one_eslice, one_nilslice, one_func, one_iface, one_niliface, Bool.and_true, Bool.true_and, List.getD_cons_zero, List.getD_cons_succ, List.contains_cons, List.contains_nil, Bool.or_true, Bool.true_or, Bool.or_false, Bool.false_or, Nat.reduceBEq, *]; done) | fail)) only [s6, hv67, w22, n6, go_sem, Hold.p, HoldK.k, HoldL.K, HoldL.body, Nat.reduceBEq, Nat.reduceAdd, reduceIte]
      refine o7.app (by simpa [strRows] using hne2) (by simp only [strRows_len]; omega) ?_
      intro v8 h8 o8 t8 n8 v8o v8c
      have E8 := src_own o7 t8 E7 (Nat.le_refl _)
      rw [← strRows_append] at o8
      have s60 := (hs60.ext E8).src
      have hv68 := (slcF_ext o6.sl E8 none (some (.int .i64 ((21 : Nat) : Int)))).trans hv60
      simp (disch := (first | omega | assumption | (simp only [push_n, set_n, put_n, List.length_cons, List.length_nil, List.length_append, Nat.reduceAdd]; done) | (simp only [push_n, set_n, put_n, List.length_cons, List.length_nil, List.length_append]; omega) | (simp only [List.all_cons, List.all_nil, one_bool, one_int, one_str, one_ptr, one_nilptr, one_slice, one_eslice, one_nilslice, one_func, one_iface, one_niliface, Bool.and_true, Bool.true_and, List.getD_cons_zero, List.getD_cons_succ, List.contains_cons, List.contains_nil, Bool.or_true, Bool.true_or, Bool.or_false, Bool.false_or, Nat.reduceBEq, *]; done) | fail)) only [s60, hv68, w22, n6, go_sem, Hold.p, HoldK.k, HoldL.K, HoldL.body, Nat.reduceBEq, Nat.reduceAdd, reduceIte]
      have hne3 : m2.take 21 ≠ [] := fun e => by
        have := congrArg List.length e
        rw [List.length_take, hm2] at this
        simp at this
      refine o8.app (by simpa [strRows] using hne3) (by simp only [strRows_len, List.length_append, List.length_take]; omega) ?_
      intro v9 h9 o9 t9 n9 v9o v9c
      have E9 := src_own o8 t9 E8 (by omega)
      rw [← strRows_append, List.append_assoc] at o9
      have hv69 := (slcF_ext o6.sl E9 none (some (.int .i64 ((21 : Nat) : Int)))).trans hv60
      simp (disch := (first | omega | assumption | (simp only [push_n, set_n, put_n, List.length_cons, List.length_nil, List.length_append, Nat.reduceAdd]; done) | (simp only [push_n, set_n, put_n, List.length_cons, List.length_nil, List.length_append]; omega) | (simp only [List.all_cons, List.all_nil, one_bool, one_int, one_str, one_ptr, one_nilptr, one_slice, one_eslice, one_nilslice, one_func, one_iface, one_niliface, Bool.and_true, Bool.true_and, List.getD_cons_zero, List.getD_cons_succ, List.contains_cons, List.contains_nil, Bool.or_true, Bool.true_or, Bool.or_false, Bool.false_or, Nat.reduceBEq, *]; done) | fail)) only [hv69, w22, n6, go_sem, Hold.p, HoldK.k, HoldL.K, HoldL.body, Nat.reduceBEq, Nat.reduceAdd, reduceIte]
      refine callA_of (implReadRequests_c mx h9 v9 _ o9.sl (by simp only [List.length_append, List.length_take]; omega)) ?_
      rw [hread]
      rintro r h10 ⟨⟨vl, rfl, oG⟩, E10⟩
      have E11 := E9.trans E10
      have hs := hs.ext E11
      have hF := hF.ext E11
      have hw := hw.ext E11
      have b1 := b1.ext E11
      have b3 := b3.ext E11
      have sb := sb.ext E11
      have le_E11 := E11.le
      have q1 := b1.eq
      have q3 := b3.eq
      simp only [List.map_cons, List.map_nil, hrq, hrp] at oG
      obtain ⟨r0, rr1, hsl, hp0, hp1⟩ := two_rows oG.view
      obtain ⟨vf0, vb0, rfl, hF0, hb0⟩ := req_un hp0
      obtain ⟨vf9, vb9, rfl, hF9, hb9⟩ := req_un hp1
      have ln := hsl.lenF
      obtain ⟨l, j, hia, hll, hrow⟩ := hsl.at (m := 0) rfl .i64
      have hia : iadrF h10 4 vl (.int .i64 0) = some (.ptr l j 0) := hia
      have hcl := cellO_row hrow
      have c0 : cellO (h10.obj l) j 0 = some (.str vb) := by rw [hcl]; rfl
      have c1 : cellO (h10.obj l) j 1 = some (.str pa) := by rw [hcl]; rfl
      have c2 : cellO (h10.obj l) j 2 = some vf0 := by rw [hcl]; rfl
      have c3 : cellO (h10.obj l) j 3 = some vb0 := by rw [hcl]; rfl
      obtain ⟨l', j', hib, hll', hrow'⟩ := hsl.at (m := 1) rfl .i64
      have hib : iadrF h10 4 vl (.int .i64 1) = some (.ptr l' j' 0) := hib
      have hcl' := cellO_row hrow'
      have d0 : cellO (h10.obj l') j' 0 = some (.str [112, 117, 116]) := by rw [hcl']; rfl
      have d3 : cellO (h10.obj l') j' 3 = some vb9 := by rw [hcl']; rfl
      have ws := wsum (a := m1.length) (b := 22) (by omega)
      have ln : lenF vl = some (.int .i64 ((2 : Nat) : Int)) := ln
      have e2 : decide (((2 : Nat) : Int) = 2) = true := rfl
      simp (disch := (first | omega | assumption | (simp only [push_n, set_n, put_n, List.length_cons, List.length_nil, List.length_append, Nat.reduceAdd]; done) | (simp only [push_n, set_n, put_n, List.length_cons, List.length_nil, List.length_append]; omega) | (simp only [List.all_cons, List.all_nil, one_bool, one_int, one_str, one_ptr, one_nilptr, one_slice, one_eslice, one_nilslice, one_func, one_iface, one_niliface, Bool.and_true, Bool.true_and, List.getD_cons_zero, List.getD_cons_succ, List.contains_cons, List.contains_nil, Bool.or_true, Bool.true_or, Bool.or_false, Bool.false_or, Nat.reduceBEq, *]; done) | fail)) only [decide_true, n5, n6, ws, ln, e2, hia, c0, c1, c2, c3, q1, q3, hib, d0, d3, go_sem, Hold.p, HoldK.k, HoldL.K, HoldL.body, Nat.reduceBEq, Nat.reduceAdd, reduceIte]
      refine callA_of (lwFields_c h10 vf0 vf fs hF0 hF (by omega)) ?_
      rintro r h11 ⟨rfl, rfl⟩
      simp (disch := (first | omega | assumption | (simp only [push_n, set_n, put_n, List.length_cons, List.length_nil, List.length_append, Nat.reduceAdd]; done) | (simp only [push_n, set_n, put_n, List.length_cons, List.length_nil, List.length_append]; omega) | (simp only [List.all_cons, List.all_nil, one_bool, one_int, one_str, one_ptr, one_nilptr, one_slice, one_eslice, one_nilslice, one_func, one_iface, one_niliface, Bool.and_true, Bool.true_and, List.getD_cons_zero, List.getD_cons_succ, List.contains_cons, List.contains_nil, Bool.or_true, Bool.true_or, Bool.or_false, Bool.false_or, Nat.reduceBEq, *]; done) | fail)) only [decide_true, n5, n6, ws, ln, e2, hia, c0, c1, c2, c3, q1, q3, hib, d0, d3, go_sem, Hold.p, HoldK.k, HoldL.K, HoldL.body, Nat.reduceBEq, Nat.reduceAdd, reduceIte]
      refine callA_of (lwSame_c h11 vb0 w bs bs hb0 hw) ?_
      rintro r h12 ⟨rfl, rfl⟩
      simp (disch := (first | omega | assumption | (simp only [push_n, set_n, put_n, List.length_cons, List.length_nil, List.length_append, Nat.reduceAdd]; done) | (simp only [push_n, set_n, put_n, List.length_cons, List.length_nil, List.length_append]; omega) | (simp only [List.all_cons, List.all_nil, one_bool, one_int, one_str, one_ptr, one_nilptr, one_slice, one_eslice, one_nilslice, one_func, one_iface, one_niliface, Bool.and_true, Bool.true_and, List.getD_cons_zero, List.getD_cons_succ, List.contains_cons, List.contains_nil, Bool.or_true, Bool.true_or, Bool.or_false, Bool.false_or, Nat.reduceBEq, *]; done) | fail)) only [decide_true, n5, n6, ws, ln, e2, hia, c0, c1, c2, c3, q1, q3, hib, d0, d3, go_sem, Hold.p, HoldK.k, HoldL.K, HoldL.body, Nat.reduceBEq, Nat.reduceAdd, reduceIte]
      refine callA_of (lwSame_c h12 vb9 (.slice g1.n 0 4) putB putB hb9 sb) ?_
      rintro r h13 ⟨rfl, rfl⟩
      simp (disch := (first | omega | assumption | (simp only [push_n, set_n, put_n, List.length_cons, List.length_nil, List.length_append, Nat.reduceAdd]; done) | (simp only [push_n, set_n, put_n, List.length_cons, List.length_nil, List.length_append]; omega) | (simp only [List.all_cons, List.all_nil, one_bool, one_int, one_str, one_ptr, one_nilptr, one_slice, one_eslice, one_nilslice, one_func, one_iface, one_niliface, Bool.and_true, Bool.true_and, List.getD_cons_zero, List.getD_cons_succ, List.contains_cons, List.contains_nil, Bool.or_true, Bool.true_or, Bool.or_false, Bool.false_or, Nat.reduceBEq, *]; done) | fail)) only [decide_true, n5, n6, ws, ln, e2, hia, c0, c1, c2, c3, q1, q3, hib, d0, d3, go_sem, Hold.p, HoldK.k, HoldL.K, HoldL.body, Nat.reduceBEq, Nat.reduceAdd, reduceIte]
      first | exact hs | exact ⟨rfl, hs⟩ | (trace_state; sorry)
    · rw [if_neg hok]
      have d1 : decide ((1 : Int) = 0) = false := rfl
      simp (disch := (first | omega | assumption | (simp only [push_n, set_n, put_n, List.length_cons, List.length_nil, List.length_append, Nat.reduceAdd]; done) | (simp only [push_n, set_n, put_n, List.length_cons, List.length_nil, List.length_append]; omega) | (simp only [List.all_cons, List.all_nil, one_bool, one_int, one_str, one_ptr, one_nilptr, one_slice, one_eslice, one_nilslice, one_func, one_iface, one_niliface, Bool.and_true, Bool.true_and, List.getD_cons_zero, List.getD_cons_succ, List.contains_cons, List.contains_nil, Bool.or_true, Bool.true_or, Bool.or_false, Bool.false_or, Nat.reduceBEq, *]; done) | fail)) only [decide_true, d1, go_sem, Hold.p, HoldK.k, HoldL.K, HoldL.body, Nat.reduceBEq, Nat.reduceAdd, reduceIte]
      exact hs
  rintro e g ⟨i0, hs⟩
  simp only [CC.split]
  simp (disch := (first | omega | assumption | (simp only [push_n, set_n, put_n, List.length_cons, List.length_nil, List.length_append, Nat.reduceAdd]; done) | (simp only [push_n, set_n, put_n, List.length_cons, List.length_nil, List.length_append]; omega) | (simp only [List.all_cons, List.all_nil, one_bool, one_int, one_str, one_ptr, one_nilptr, one_slice, one_eslice, one_nilslice, one_func, one_iface, one_niliface, Bool.and_true, Bool.true_and, List.getD_cons_zero, List.getD_cons_succ, List.contains_cons, List.contains_nil, Bool.or_true, Bool.true_or, Bool.or_false, Bool.false_or, Nat.reduceBEq, *]; done) | fail)) only [i0, go_sem, Hold.p, HoldK.k, HoldL.K, HoldL.body, Nat.reduceBEq, Nat.reduceAdd, reduceIte]
  refine callA_of (drawRep_c g iv code hs hl) ?_
  rintro r g1 ⟨st, vf, w, fs, bs, rfl, hF, hfl, hT, hw, hbl, E⟩
  have vf1 := hF.one
  have wo := hw.one
  simp (disch := (first | omega | assumption | (simp only [push_n, set_n, put_n, List.length_cons, List.length_nil, List.length_append, Nat.reduceAdd]; done) | (simp only [push_n, set_n, put_n, List.length_cons, List.length_nil, List.length_append]; omega) | (simp only [List.all_cons, List.all_nil, one_bool, one_int, one_str, one_ptr, one_nilptr, one_slice, one_eslice, one_nilslice, one_func, one_iface, one_niliface, Bool.and_true, Bool.true_and, List.getD_cons_zero, List.getD_cons_succ, List.contains_cons, List.contains_nil, Bool.or_true, Bool.true_or, Bool.or_false, Bool.false_or, Nat.reduceBEq, *]; done) | fail)) only [vf1, wo, go_sem, Hold.p, HoldK.k, HoldL.K, HoldL.body, Nat.reduceBEq, Nat.reduceAdd, reduceIte]
  generalize hq_g2 : IH.push g1 (repObj st vf w) = g2
  have e_g2 : Ext g1 g2 := by rw [← hq_g2]; exact (Ext.refl _).push _
  have l_g2 : g2.n = g1.n + 1 := by rw [← hq_g2]; rfl
  have b2 : At g2 g1.n (repObj st vf w) := by rw [← hq_g2]; exact At.new _ _
  clear hq_g2
  have hF := hF.ext e_g2
  have hw := hw.ext e_g2
  have q2 := b2.eq
  try simp (disch := (first | omega | assumption | (simp only [push_n, set_n, put_n, List.length_cons, List.length_nil, List.length_append, Nat.reduceAdd]; done) | (simp only [push_n, set_n, put_n, List.length_cons, List.length_nil, List.length_append]; omega) | (simp only [List.all_cons, List.all_nil, one_bool, one_int, one_str, one_ptr, one_nilptr, one_slice, one_eslice, one_nilslice, one_func, one_iface, one_niliface, Bool.and_true, Bool.true_and, List.getD_cons_zero, List.getD_cons_succ, List.contains_cons, List.contains_nil, Bool.or_true, Bool.true_or, Bool.or_false, Bool.false_or, Nat.reduceBEq, *]; done) | fail)) only [q2, go_sem, Hold.p, HoldK.k, HoldL.K, HoldL.body, Nat.reduceBEq, Nat.reduceAdd, reduceIte]
  refine callA_of (specShowReply_c g2 st vf w fs bs hF hw (by omega) hT.S) ?_
  rintro r g3 ⟨v3, rfl, o3, E3⟩
  have hF := hF.ext E3
  have hw := hw.ext E3
  have b2 := b2.ext E3
  have le_E3 := E3.le
  have q2 := b2.eq
  simp (disch := (first | omega | assumption | (simp only [push_n, set_n, put_n, List.length_cons, List.length_nil, List.length_append, Nat.reduceAdd]; done) | (simp only [push_n, set_n, put_n, List.length_cons, List.length_nil, List.length_append]; omega) | (simp only [List.all_cons, List.all_nil, one_bool, one_int, one_str, one_ptr, one_nilptr, one_slice, one_eslice, one_nilslice, one_func, one_iface, one_niliface, Bool.and_true, Bool.true_and, List.getD_cons_zero, List.getD_cons_succ, List.contains_cons, List.contains_nil, Bool.or_true, Bool.true_or, Bool.or_false, Bool.false_or, Nat.reduceBEq, *]; done) | fail)) only [q2, go_sem, Hold.p, HoldK.k, HoldL.K, HoldL.body, Nat.reduceBEq, Nat.reduceAdd, reduceIte]
  refine callA_of (implShowReply_c g3 st vf w fs bs hF hw (by omega) hT.S) ?_
  rintro r g4 ⟨v4, rfl, o4, E4⟩
  have hF := hF.ext E4
  have hw := hw.ext E4
  have b2 := b2.ext E4
  have le_E4 := E4.le
  have q2 := b2.eq
  unfold showReply at o4 ⊢
  by_cases hok : replyB st fs bs.length = true
  · rw [if_pos hok] at o4
    rw [if_pos hok]
    simp only at o4
    obtain ⟨r1, r2, hR⟩ := replyB_un hok
    obtain ⟨n, rfl⟩ : ∃ n : Nat, st = (n : Int) := ⟨st.toNat, by omega⟩
    have hst : numI (n : Int) = Lib.decDigits n := by unfold numI; simp
    obtain ⟨f1, f2, f3, f4⟩ := rep_first (st := n) (by omega) (by omega)
    have hfl2 : (replyQ ++ Lib.decDigits n).length ≤ 1000 := by
      have := dec_le n (by omega)
      simp [replyQ]; omega
    have hm1 := msg_len hR hfl2
    have hone1 : ∀ rest, oneB false (message (replyQ ++ Lib.decDigits n) fs bs ++ rest) = .msg (replyQ ++ Lib.decDigits n) fs bs (message (replyQ ++ Lib.decDigits n) fs bs).length := fun rest => one_message f1 f2 f3 hfl2 hR
    have hread := read_two hone1 hone1 (one_nil false)
    have hrq : repOf (replyQ ++ Lib.decDigits n, fs, bs) = repD (n : Int) fs bs := by unfold repOf; rw [f4]
    have hne1 : message (replyQ ++ Lib.decDigits n) fs bs ≠ [] := by unfold message; simp
    rw [hst, show replyW = replyQ from rfl] at o4
    generalize message (replyQ ++ Lib.decDigits n) fs bs = m1 at o4 hm1 hone1 hread hne1
    have s4 := o4.sl.src
    have n4 := o4.lenF
    rw [strRows_len] at n4
    simp (disch := (first | omega | assumption | (simp only [push_n, set_n, put_n, List.length_cons, List.length_nil, List.length_append, Nat.reduceAdd]; done) | (simp only [push_n, set_n, put_n, List.length_cons, List.length_nil, List.length_append]; omega) | (simp only [List.all_cons, List.all_nil, one_bool, one_int, one_str, one_ptr, one_nilptr, one_slice, one_eslice, one_nilslice, one_func, one_iface, one_niliface, Bool.and_true, Bool.true_and, List.getD_cons_zero, List.getD_cons_succ, List.contains_cons, List.contains_nil, Bool.or_true, Bool.true_or, Bool.or_false, Bool.false_or, Nat.reduceBEq, *]; done) | fail)) only [decide_true, bslA_0, s4, go_sem, Hold.p, HoldK.k, HoldL.K, HoldL.body, Nat.reduceBEq, Nat.reduceAdd, reduceIte]
    refine (Own.empty (lo := g4.n) (hi := g4.n) (h := g4) (el := 5) (sz := 1)).app (by simpa [strRows] using hne1) (by simp only [strRows_len, List.length_nil]; omega) ?_
    intro v7 h7 o7 t7 n7 v7o v7c
    rw [List.nil_append] at o7
    have E7 := src_own (Own.empty (lo := g4.n) (hi := g4.n) (h := g4) (el := 5) (sz := 1)) t7 (Ext.refl g4) (Nat.le_refl _)
    have s7 := (o4.sl.ext E7).src
    simp (disch := (first | omega | assumption | (simp only [push_n, set_n, put_n, List.length_cons, List.length_nil, List.length_append, Nat.reduceAdd]; done) | (simp only [push_n, set_n, put_n, List.length_cons, List.length_nil, List.length_append]; omega) | (simp only [List.all_cons, List.all_nil, one_bool, one_int, one_str, one_ptr, one_nilptr, one_slice, one_eslice, one_nilslice, one_func, one_iface, one_niliface, Bool.and_true, Bool.true_and, List.getD_cons_zero, List.getD_cons_succ, List.contains_cons, List.contains_nil, Bool.or_true, Bool.true_or, Bool.or_false, Bool.false_or, Nat.reduceBEq, *]; done) | fail)) only [s7, go_sem, Hold.p, HoldK.k, HoldL.K, HoldL.body, Nat.reduceBEq, Nat.reduceAdd, reduceIte]
    refine o7.app (by simpa [strRows] using hne1) (by simp only [strRows_len]; omega) ?_
    intro v8 h8 o8 t8 n8 v8o v8c
    have E8 := src_own o7 t8 E7 (Nat.le_refl _)
    rw [← strRows_append] at o8
    simp (disch := (first | omega | assumption | (simp only [push_n, set_n, put_n, List.length_cons, List.length_nil, List.length_append, Nat.reduceAdd]; done) | (simp only [push_n, set_n, put_n, List.length_cons, List.length_nil, List.length_append]; omega) | (simp only [List.all_cons, List.all_nil, one_bool, one_int, one_str, one_ptr, one_nilptr, one_slice, one_eslice, one_nilslice, one_func, one_iface, one_niliface, Bool.and_true, Bool.true_and, List.getD_cons_zero, List.getD_cons_succ, List.contains_cons, List.contains_nil, Bool.or_true, Bool.true_or, Bool.or_false, Bool.false_or, Nat.reduceBEq, *]; done) | fail)) only [go_sem, Hold.p, HoldK.k, HoldL.K, HoldL.body, Nat.reduceBEq, Nat.reduceAdd, reduceIte]
    refine callA_of (implReadReplies_c mx h8 v8 _ o8.sl (by simp only [List.length_append]; omega)) ?_
    rw [show m1 ++ m1 = m1 ++ (m1 ++ []) by simp, hread]
    rintro r h9 ⟨⟨vl, rfl, oG⟩, E9⟩
    have E11 := E8.trans E9
    have hF := hF.ext E11
    have hw := hw.ext E11
    have b2 := b2.ext E11
    have le_E11 := E11.le
    have q2 := b2.eq
    simp only [List.map_cons, List.map_nil, hrq] at oG
    obtain ⟨r0, rr1, hsl, hp0, hp1⟩ := two_rows oG.view
    obtain ⟨vf0, vb0, rfl, hF0, hb0⟩ := rep_un hp0
    obtain ⟨vf9, vb9, rfl, hF9, hb9⟩ := rep_un hp1
    have ln : lenF vl = some (.int .i64 ((2 : Nat) : Int)) := hsl.lenF
    obtain ⟨l, j, hia, hll, hrow⟩ := hsl.at (m := 0) rfl .i64
    have hia : iadrF h9 3 vl (.int .i64 0) = some (.ptr l j 0) := hia
    have hcl := cellO_row hrow
    have c2 : cellO (h9.obj l) j 2 = some vb0 := by rw [hcl]; rfl
    obtain ⟨l', j', hib, hll', hrow'⟩ := hsl.at (m := 1) rfl .i64
    have hib : iadrF h9 3 vl (.int .i64 1) = some (.ptr l' j' 0) := hib
    have hcl' := cellO_row hrow'
    have d0 : cellO (h9.obj l') j' 0 = some (.int .i64 (n : Int)) := by rw [hcl']; rfl
    have d1 : cellO (h9.obj l') j' 1 = some vf9 := by rw [hcl']; rfl
    have ws : wr .i64 (2 * (m1.length : Int)) = ((m1.length + m1.length : Nat) : Int) := by rw [wr64 _ (by omega)]; omega
    have e2 : decide (((2 : Nat) : Int) = 2) = true := rfl
    simp (disch := (first | omega | assumption | (simp only [push_n, set_n, put_n, List.length_cons, List.length_nil, List.length_append, Nat.reduceAdd]; done) | (simp only [push_n, set_n, put_n, List.length_cons, List.length_nil, List.length_append]; omega) | (simp only [List.all_cons, List.all_nil, one_bool, one_int, one_str, one_ptr, one_nilptr, one_slice, one_eslice, one_nilslice, one_func, one_iface, one_niliface, Bool.and_true, Bool.true_and, List.getD_cons_zero, List.getD_cons_succ, List.contains_cons, List.contains_nil, Bool.or_true, Bool.true_or, Bool.or_false, Bool.false_or, Nat.reduceBEq, *]; done) | fail)) only [decide_true, n4, ws, ln, e2, hia, c2, q2, hib, d0, d1, go_sem, Hold.p, HoldK.k, HoldL.K, HoldL.body, Nat.reduceBEq, Nat.reduceAdd, reduceIte]
    refine callA_of (lwFields_c h9 vf9 vf fs hF9 hF (by omega)) ?_
    rintro r h11 ⟨rfl, rfl⟩
    simp (disch := (first | omega | assumption | (simp only [push_n, set_n, put_n, List.length_cons, List.length_nil, List.length_append, Nat.reduceAdd]; done) | (simp only [push_n, set_n, put_n, List.length_cons, List.length_nil, List.length_append]; omega) | (simp only [List.all_cons, List.all_nil, one_bool, one_int, one_str, one_ptr, one_nilptr, one_slice, one_eslice, one_nilslice, one_func, one_iface, one_niliface, Bool.and_true, Bool.true_and, List.getD_cons_zero, List.getD_cons_succ, List.contains_cons, List.contains_nil, Bool.or_true, Bool.true_or, Bool.or_false, Bool.false_or, Nat.reduceBEq, *]; done) | fail)) only [decide_true, n4, ws, ln, e2, hia, c2, q2, hib, d0, d1, go_sem, Hold.p, HoldK.k, HoldL.K, HoldL.body, Nat.reduceBEq, Nat.reduceAdd, reduceIte]
    refine callA_of (lwSame_c h11 vb0 w bs bs hb0 hw) ?_
    rintro r h12 ⟨rfl, rfl⟩
    simp (disch := (first | omega | assumption | (simp only [push_n, set_n, put_n, List.length_cons, List.length_nil, List.length_append, Nat.reduceAdd]; done) | (simp only [push_n, set_n, put_n, List.length_cons, List.length_nil, List.length_append]; omega) | (simp only [List.all_cons, List.all_nil, one_bool, one_int, one_str, one_ptr, one_nilptr, one_slice, one_eslice, one_nilslice, one_func, one_iface, one_niliface, Bool.and_true, Bool.true_and, List.getD_cons_zero, List.getD_cons_succ, List.contains_cons, List.contains_nil, Bool.or_true, Bool.true_or, Bool.or_false, Bool.false_or, Nat.reduceBEq, *]; done) | fail)) only [decide_true, n4, ws, ln, e2, hia, c2, q2, hib, d0, d1, go_sem, Hold.p, HoldK.k, HoldL.K, HoldL.body, Nat.reduceBEq, Nat.reduceAdd, reduceIte]
  · rw [if_neg hok]
    have d1 : decide ((1 : Int) = 0) = false := rfl
    simp (disch := (first | omega | assumption | (simp only [push_n, set_n, put_n, List.length_cons, List.length_nil, List.length_append, Nat.reduceAdd]; done) | (simp only [push_n, set_n, put_n, List.length_cons, List.length_nil, List.length_append]; omega) | (simp only [List.all_cons, List.all_nil, one_bool, one_int, one_str, one_ptr, one_nilptr, one_slice, one_eslice, one_nilslice, one_func, one_iface, one_niliface, Bool.and_true, Bool.true_and, List.getD_cons_zero, List.getD_cons_succ, List.contains_cons, List.contains_nil, Bool.or_true, Bool.true_or, Bool.or_false, Bool.false_or, Nat.reduceBEq, *]; done) | fail)) only [decide_true, d1, go_sem, Hold.p, HoldK.k, HoldL.K, HoldL.body, Nat.reduceBEq, Nat.reduceAdd, reduceIte]
end
end Go.Proofs.YtdpaehdolhdjdaaGreatDoor
