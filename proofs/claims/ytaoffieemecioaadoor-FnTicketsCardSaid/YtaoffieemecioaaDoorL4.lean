import Derived.Test.YtaoffieemecioaaDoorL3
import Derived.Test.YtaoffieemecioaaDoorK3
import Derived.Test.YtaoffieemecioaaDoorK2
import Derived.Test.YtaoffieemecioaaDoorProg
import Derived.KernelRfl
set_option linter.unusedSimpArgs false
set_option linter.unusedVariables false

namespace Go.Proofs.YtaoffieemecioaaDoor
open Go Go.IW

section
attribute [local go_sem] boxA_1 boxA_2 boxA_3 bslA_1 List.getElem?_cons_zero List.getElem?_cons_succ Option.bind_some List.map_cons List.map_nil Nat.zero_add if_true List.getD_cons_zero List.getD_cons_succ List.contains_cons List.contains_nil Bool.or_true Bool.true_or Bool.or_false Bool.false_or Bool.not_true Bool.not_false true_and and_true rowA_whole push_n set_n push_obj set_obj set_push set_push_ne set_set Nat.add_assoc Nat.left_eq_add Nat.add_eq_left Nat.add_left_cancel_iff stO_1s stO_ws boxA_s one_bool one_int one_str one_ptr one_nilptr one_slice one_eslice one_nilslice one_func one_iface one_niliface List.all_cons List.all_nil List.length_cons List.length_nil Bool.and_true Nat.one_ne_zero Nat.succ_ne_zero if_false List.set_cons_zero List.set_cons_succ
set_option maxRecDepth 20000 in
theorem specEncodeReply_c (h : IH) (id code ttl : Int) (nm : List UInt8) (v : IV) (zs : List Int) (hs : SlR h 1 v (intRows zs)) (hm : nm.length ≤ 1048576) (hz : zs.length ≤ 1048576) :
  ICalls Tryd.prog 11 [.agg [.int .i64 id, .int .i64 code, .int .i64 ttl, .str nm, v]] h fun r h' => BytesRes h h' r (encR id code ttl nm zs) := by
 refine icalls (.of ok11) (Nat.le_of_ble_eq_true rfl) ?_
 unfold c11
 have hv1 := hs.one
 have hvc := hs.cells
 by_cases hok : okRep id code ttl nm zs = true
 ·obtain ⟨hid, hnm, hcode, httl, hzl, hza⟩ := okRep_ok hok
  obtain ⟨hne, hl⟩ := okName_ne hnm
  have hdef : encR id code ttl nm zs = (repHead id code ttl nm zs ++ zs.flatMap (beB 4), 0) := if_pos hok
  rw [hdef]
  have w1 := u8_len (n := nm.length) (by omega)
  have w2 := u8_len (n := zs.length) (by omega)
  have w3 := wr_u8 code
  generalize hbc : UInt8.ofNat (code % 256).toNat = bc at w3
  refine vc_cut2 (fun e g => ∃ hB : IH, At hB h.n (IObj.rows [[IV.int .i64 id, IV.int .i64 code, IV.int .i64 ttl, IV.str nm, v]] 55 5 false) ∧ SlR hB 1 v (intRows zs) ∧ Ext h hB ∧ e 1 = .ptr h.n 0 0 ∧ g = hB) ?_ ?_
  ·simp only [hv1, go_sem, ↓act_zero, Nat.reduceBEq, Nat.reduceAdd, reduceIte, Nat.reduceEqDiff, Nat.reduceLT, Nat.reduceLeDiff]
   generalize hq_g0 : IH.push h (IObj.rows [[IV.int .i64 id, IV.int .i64 code, IV.int .i64 ttl, IV.str nm, v]] 55 5 false) = g0
   have e_g0 : Ext h g0 := by rw [← hq_g0]; exact (Ext.refl _).push _
   have l_g0 : g0.n = h.n + 1 := by rw [← hq_g0]; rfl
   have bb : At g0 h.n (IObj.rows [[IV.int .i64 id, IV.int .i64 code, IV.int .i64 ttl, IV.str nm, v]] 55 5 false) := by rw [← hq_g0]; exact At.new _ _
   clear hq_g0
   have hs := hs.ext e_g0
   refine callA_of (l19ReplyOK_c _ id code ttl nm v zs hs hm hz) ?_
   rintro r h1 ⟨rfl, E1⟩
   have E := e_g0.trans E1
   have bb := bb.ext E1
   have hs := hs.ext E1
   have le_E1 := E1.le
   simp only [hok, go_sem, ↓act_zero, Nat.reduceBEq, Nat.reduceAdd, reduceIte, Nat.reduceEqDiff, Nat.reduceLT, Nat.reduceLeDiff]
   exact ⟨h1, bb, hs, E, rfl⟩
  rintro e g ⟨hB, bb, hs, E, i1, rfl⟩
  have bbl := bb.lt
  refine vc_cut (Bet g h.n (beB 2 id ++ [1, bc])) ?_ ?_
  ·simp only [i1, bb.eq, w3, go_sem, ↓act_zero, Nat.reduceBEq, Nat.reduceAdd, reduceIte, Nat.reduceEqDiff, Nat.reduceLT, Nat.reduceLeDiff]
   refine either_of ?_ ?_
   ·simp only [i1, go_sem, ↓act_zero, Nat.reduceBEq, Nat.reduceAdd, reduceIte, Nat.reduceEqDiff, Nat.reduceLT, Nat.reduceLeDiff]
    refine callA_of (l03Put_c _ id 2 (by omega)) ?_
    rintro x h2 ⟨ox, E2⟩
    have bb2 := bb.ext E2
    have hn2 : (h.n = h2.n) = False := by have := E2.le; simp; omega
    simp only [i1, bb2.eq, w3, bslA_2, hn2, go_sem, ↓act_zero, Nat.reduceBEq, Nat.reduceAdd, reduceIte, Nat.reduceEqDiff, Nat.reduceLT, Nat.reduceLeDiff]
    generalize hq_g3 : IH.push h2 (IObj.rows [[IV.int .u8 1], [IV.int .u8 bc.toNat]] 5 1 false) = g3
    have e_g3 : Ext h2 g3 := by rw [← hq_g3]; exact (Ext.refl _).push _
    have l_g3 : g3.n = h2.n + 1 := by rw [← hq_g3]; rfl
    have ba : At g3 h2.n (IObj.rows [[IV.int .u8 1], [IV.int .u8 bc.toNat]] 5 1 false) := by rw [← hq_g3]; exact At.new _ _
    clear hq_g3
    have ox := ox.ext e_g3
    have bb2 := bb2.ext e_g3
    have hy : SlR g3 1 (.slice h2.n 0 2) (strRows [1, bc]) := SlR.whole ba.eq rfl ba.lt
    refine callA_of (l01Join_c _ _ _ _ _ ox.sl hy (by rw [beB_len]; omega) (by simp)) ?_
    rintro v3 h3 ⟨o3, E3⟩
    have E' := (E2.trans e_g3).trans E3
    have := E'.le
    unfold Bet
    simp only [i1, go_sem, ↓act_zero, Nat.reduceBEq, Nat.reduceAdd, reduceIte, Nat.reduceEqDiff, Nat.reduceLT, Nat.reduceLeDiff]
    exact ⟨v3, rfl, o3.wide (by have := (E2.trans e_g3).le; omega) (by omega) (Nat.le_refl _), E'⟩
   ·have hn2 : (h.n = g.n) = False := by simp; omega
    simp only [i1, bb.eq, w3, bslA_2, hn2, go_sem, ↓act_zero, Nat.reduceBEq, Nat.reduceAdd, reduceIte, Nat.reduceEqDiff, Nat.reduceLT, Nat.reduceLeDiff]
    generalize hq_g3 : IH.push g (IObj.rows [[IV.int .u8 1], [IV.int .u8 bc.toNat]] 5 1 false) = g3
    have e_g3 : Ext g g3 := by rw [← hq_g3]; exact (Ext.refl _).push _
    have l_g3 : g3.n = g.n + 1 := by rw [← hq_g3]; rfl
    have ba : At g3 g.n (IObj.rows [[IV.int .u8 1], [IV.int .u8 bc.toNat]] 5 1 false) := by rw [← hq_g3]; exact At.new _ _
    clear hq_g3
    have bb := bb.ext e_g3
    refine callA_of (l03Put_c _ id 2 (by omega)) ?_
    rintro x h2 ⟨ox, E2⟩
    have bb := bb.ext E2
    have ba := ba.ext E2
    have le_E2 := E2.le
    have hy : SlR h2 1 (.slice g.n 0 2) (strRows [1, bc]) := SlR.whole ba.eq rfl ba.lt
    simp only [i1, bb.eq, w3, go_sem, ↓act_zero, Nat.reduceBEq, Nat.reduceAdd, reduceIte, Nat.reduceEqDiff, Nat.reduceLT, Nat.reduceLeDiff]
    refine callA_of (l01Join_c _ _ _ _ _ ox.sl hy (by rw [beB_len]; omega) (by simp)) ?_
    rintro v3 h3 ⟨o3, E3⟩
    have E' := (e_g3.trans E2).trans E3
    have := E'.le
    unfold Bet
    simp only [i1, go_sem, ↓act_zero, Nat.reduceBEq, Nat.reduceAdd, reduceIte, Nat.reduceEqDiff, Nat.reduceLT, Nat.reduceLeDiff]
    exact ⟨v3, rfl, o3.wide (by have := (e_g3.trans E2).le; omega) (by omega) (Nat.le_refl _), E'⟩
  rintro e g2 ⟨x, i1, i4, ox, E2⟩
  refine vc_cut (Bet g h.n ((beB 2 id ++ [1, bc]) ++ beB 4 ttl ++ [UInt8.ofNat nm.length])) ?_ ?_
  ·have hlen := (hs.ext E2).lenF
   rw [intRows_len] at hlen
   have bb := bb.ext E2
   have l2 := E2.le
   have fin : ∀ (z : IV) (g' : IH) (lo : Nat), g.n ≤ lo → Ext g g' → Own lo g'.n g' 5 1 z (strRows ((beB 2 id ++ [1, bc]) ++ beB 4 ttl ++ [UInt8.ofNat nm.length])) → Own g.n g'.n g' 5 1 z (strRows ((beB 2 id ++ [1, bc]) ++ beB 4 ttl ++ [UInt8.ofNat nm.length])) ∧ Ext g g' := fun z g' lo h1 h2 h3 => ⟨h3.wide h1 (Nat.le_refl _) (Nat.le_refl _), h2⟩
   have hbl : (beB 2 id ++ [1, bc]).length = 4 := by simp [beB_len] <;> omega
   simp only [i1, i4, bb.eq, w1, w2, hlen, go_sem, ↓act_zero, Nat.reduceBEq, Nat.reduceAdd, reduceIte, Nat.reduceEqDiff, Nat.reduceLT, Nat.reduceLeDiff]
   refine either_of ?_ ?_
   ·skip
    try simp only [i1, i4, bb.eq, w1, w2, hlen, bslA_1, s2bA_some hne (Nat.le_trans hl (by omega)), go_sem, ↓act_zero, Nat.reduceBEq, Nat.reduceAdd, reduceIte, Nat.reduceEqDiff, Nat.reduceLT, Nat.reduceLeDiff]
    refine callA_of (l03Put_c _ ttl 4 (by omega)) ?_
    rintro y hA ⟨oy, EA⟩
    have hy := oy.sl
    have bb := bb.ext EA
    have ox := ox.ext EA
    have le_EA := EA.le
    try simp only [i1, i4, bb.eq, w1, w2, hlen, bslA_1, s2bA_some hne (Nat.le_trans hl (by omega)), go_sem, ↓act_zero, Nat.reduceBEq, Nat.reduceAdd, reduceIte, Nat.reduceEqDiff, Nat.reduceLT, Nat.reduceLeDiff]
    refine either_of ?_ ?_
    ·skip
     try simp only [i1, i4, bb.eq, w1, w2, hlen, bslA_1, s2bA_some hne (Nat.le_trans hl (by omega)), go_sem, ↓act_zero, Nat.reduceBEq, Nat.reduceAdd, reduceIte, Nat.reduceEqDiff, Nat.reduceLT, Nat.reduceLeDiff]
     refine callA_of (l01Join_c _ _ _ _ _ ox.sl hy (by rw [hbl]; omega) (by rw [beB_len]; omega)) ?_
     rintro z hB' ⟨oz, EB⟩
     have bb := bb.ext EB
     have le_EB := EB.le
     have hnq : (h.n = hB'.n) = False := by simp; omega
     try simp only [i1, i4, bb.eq, w1, w2, hlen, bslA_1, s2bA_some hne (Nat.le_trans hl (by omega)), hnq, go_sem, ↓act_zero, Nat.reduceBEq, Nat.reduceAdd, reduceIte, Nat.reduceEqDiff, Nat.reduceLT, Nat.reduceLeDiff]
     generalize hq_hC : IH.push hB' (IObj.rows [[IV.int .u8 (UInt8.ofNat nm.length).toNat]] 5 1 false) = hC
     have e_hC : Ext hB' hC := by rw [← hq_hC]; exact (Ext.refl _).push _
     have l_hC : hC.n = hB'.n + 1 := by rw [← hq_hC]; rfl
     have bw : At hC hB'.n (IObj.rows [[IV.int .u8 (UInt8.ofNat nm.length).toNat]] 5 1 false) := by rw [← hq_hC]; exact At.new _ _
     clear hq_hC
     have bb := bb.ext e_hC
     have oz := oz.ext e_hC
     have hw : SlR hC 1 (.slice hB'.n 0 1) (strRows [UInt8.ofNat nm.length]) := SlR.whole bw.eq rfl bw.lt
     clear bw
     try simp only [i1, i4, bb.eq, w1, w2, hlen, bslA_1, s2bA_some hne (Nat.le_trans hl (by omega)), go_sem, ↓act_zero, Nat.reduceBEq, Nat.reduceAdd, reduceIte, Nat.reduceEqDiff, Nat.reduceLT, Nat.reduceLeDiff]
     refine callA_of (l01Join_c _ _ _ _ _ oz.sl hw (by rw [la0, hbl]; have : (beB 4 ttl).length ≤ 1000 := (by rw [beB_len]; omega); omega) (by simp)) ?_
     rintro zz hD ⟨oD, ED⟩
     have EE := (((E2.trans EA).trans EB).trans e_hC).trans ED
     have lEE := EE.le
     unfold Bet
     simp only [i1, go_sem, ↓act_zero, Nat.reduceBEq, Nat.reduceAdd, reduceIte, Nat.reduceEqDiff, Nat.reduceLT, Nat.reduceLeDiff]
     exact ⟨zz, rfl, fin _ _ _ (by omega) EE oD⟩
    ·skip
     have hnq : (h.n = hA.n) = False := by simp; omega
     try simp only [i1, i4, bb.eq, w1, w2, hlen, bslA_1, s2bA_some hne (Nat.le_trans hl (by omega)), hnq, go_sem, ↓act_zero, Nat.reduceBEq, Nat.reduceAdd, reduceIte, Nat.reduceEqDiff, Nat.reduceLT, Nat.reduceLeDiff]
     generalize hq_hC : IH.push hA (IObj.rows [[IV.int .u8 (UInt8.ofNat nm.length).toNat]] 5 1 false) = hC
     have e_hC : Ext hA hC := by rw [← hq_hC]; exact (Ext.refl _).push _
     have l_hC : hC.n = hA.n + 1 := by rw [← hq_hC]; rfl
     have bw : At hC hA.n (IObj.rows [[IV.int .u8 (UInt8.ofNat nm.length).toNat]] 5 1 false) := by rw [← hq_hC]; exact At.new _ _
     clear hq_hC
     have bb := bb.ext e_hC
     have ox := ox.ext e_hC
     have hy := hy.ext e_hC
     have hw : SlR hC 1 (.slice hA.n 0 1) (strRows [UInt8.ofNat nm.length]) := SlR.whole bw.eq rfl bw.lt
     clear bw
     try simp only [i1, i4, bb.eq, w1, w2, hlen, bslA_1, s2bA_some hne (Nat.le_trans hl (by omega)), go_sem, ↓act_zero, Nat.reduceBEq, Nat.reduceAdd, reduceIte, Nat.reduceEqDiff, Nat.reduceLT, Nat.reduceLeDiff]
     refine callA_of (l01Join_c _ _ _ _ _ ox.sl hy (by rw [hbl]; omega) (by rw [beB_len]; omega)) ?_
     rintro z hB' ⟨oz, EB⟩
     have bb := bb.ext EB
     have hw := hw.ext EB
     have le_EB := EB.le
     try simp only [i1, i4, bb.eq, w1, w2, hlen, bslA_1, s2bA_some hne (Nat.le_trans hl (by omega)), go_sem, ↓act_zero, Nat.reduceBEq, Nat.reduceAdd, reduceIte, Nat.reduceEqDiff, Nat.reduceLT, Nat.reduceLeDiff]
     refine callA_of (l01Join_c _ _ _ _ _ oz.sl hw (by rw [la0, hbl]; have : (beB 4 ttl).length ≤ 1000 := (by rw [beB_len]; omega); omega) (by simp)) ?_
     rintro zz hD ⟨oD, ED⟩
     have EE := (((E2.trans EA).trans e_hC).trans EB).trans ED
     have lEE := EE.le
     unfold Bet
     simp only [i1, go_sem, ↓act_zero, Nat.reduceBEq, Nat.reduceAdd, reduceIte, Nat.reduceEqDiff, Nat.reduceLT, Nat.reduceLeDiff]
     exact ⟨zz, rfl, fin _ _ _ (by omega) EE oD⟩
   ·skip
    have hnr : (h.n = g2.n + 1) = False := by simp; omega
    have hnq : (h.n = g2.n) = False := by simp; omega
    try simp only [i1, i4, bb.eq, w1, w2, hlen, bslA_1, s2bA_some hne (Nat.le_trans hl (by omega)), hnr, hnq, go_sem, ↓act_zero, Nat.reduceBEq, Nat.reduceAdd, reduceIte, Nat.reduceEqDiff, Nat.reduceLT, Nat.reduceLeDiff]
    generalize hq_hC : IH.push g2 (IObj.rows [[IV.int .u8 (UInt8.ofNat nm.length).toNat]] 5 1 false) = hC
    have e_hC : Ext g2 hC := by rw [← hq_hC]; exact (Ext.refl _).push _
    have l_hC : hC.n = g2.n + 1 := by rw [← hq_hC]; rfl
    have bw : At hC g2.n (IObj.rows [[IV.int .u8 (UInt8.ofNat nm.length).toNat]] 5 1 false) := by rw [← hq_hC]; exact At.new _ _
    clear hq_hC
    have bb := bb.ext e_hC
    have ox := ox.ext e_hC
    have hw : SlR hC 1 (.slice g2.n 0 1) (strRows [UInt8.ofNat nm.length]) := SlR.whole bw.eq rfl bw.lt
    clear bw
    try simp only [i1, i4, bb.eq, w1, w2, hlen, bslA_1, s2bA_some hne (Nat.le_trans hl (by omega)), hnr, go_sem, ↓act_zero, Nat.reduceBEq, Nat.reduceAdd, reduceIte, Nat.reduceEqDiff, Nat.reduceLT, Nat.reduceLeDiff]
    refine callA_of (l03Put_c _ ttl 4 (by omega)) ?_
    rintro y hA ⟨oy, EA⟩
    have hy := oy.sl
    have bb := bb.ext EA
    have ox := ox.ext EA
    have hw := hw.ext EA
    have le_EA := EA.le
    try simp only [i1, i4, bb.eq, w1, w2, hlen, bslA_1, s2bA_some hne (Nat.le_trans hl (by omega)), hnr, go_sem, ↓act_zero, Nat.reduceBEq, Nat.reduceAdd, reduceIte, Nat.reduceEqDiff, Nat.reduceLT, Nat.reduceLeDiff]
    refine callA_of (l01Join_c _ _ _ _ _ ox.sl hy (by rw [hbl]; omega) (by rw [beB_len]; omega)) ?_
    rintro z hB' ⟨oz, EB⟩
    have bb := bb.ext EB
    have hw := hw.ext EB
    have le_EB := EB.le
    try simp only [i1, i4, bb.eq, w1, w2, hlen, bslA_1, s2bA_some hne (Nat.le_trans hl (by omega)), hnr, go_sem, ↓act_zero, Nat.reduceBEq, Nat.reduceAdd, reduceIte, Nat.reduceEqDiff, Nat.reduceLT, Nat.reduceLeDiff]
    refine callA_of (l01Join_c _ _ _ _ _ oz.sl hw (by rw [la0, hbl]; have : (beB 4 ttl).length ≤ 1000 := (by rw [beB_len]; omega); omega) (by simp)) ?_
    rintro zz hD ⟨oD, ED⟩
    have EE := (((E2.trans e_hC).trans EA).trans EB).trans ED
    have lEE := EE.le
    unfold Bet
    simp only [i1, go_sem, ↓act_zero, Nat.reduceBEq, Nat.reduceAdd, reduceIte, Nat.reduceEqDiff, Nat.reduceLT, Nat.reduceLeDiff]
    exact ⟨zz, rfl, fin _ _ _ (by omega) EE oD⟩
  clear E2 ox i1 i4
  rintro e g2 ⟨x, i1, i4, ox, E2⟩
  refine vc_cut (Bet g h.n ((((beB 2 id ++ [1, bc]) ++ beB 4 ttl ++ [UInt8.ofNat nm.length]) ++ nm) ++ [UInt8.ofNat zs.length])) ?_ ?_
  ·have hlen := (hs.ext E2).lenF
   rw [intRows_len] at hlen
   have bb := bb.ext E2
   have l2 := E2.le
   have fin : ∀ (z : IV) (g' : IH) (lo : Nat), g.n ≤ lo → Ext g g' → Own lo g'.n g' 5 1 z (strRows ((((beB 2 id ++ [1, bc]) ++ beB 4 ttl ++ [UInt8.ofNat nm.length]) ++ nm) ++ [UInt8.ofNat zs.length])) → Own g.n g'.n g' 5 1 z (strRows ((((beB 2 id ++ [1, bc]) ++ beB 4 ttl ++ [UInt8.ofNat nm.length]) ++ nm) ++ [UInt8.ofNat zs.length])) ∧ Ext g g' := fun z g' lo h1 h2 h3 => ⟨h3.wide h1 (Nat.le_refl _) (Nat.le_refl _), h2⟩
   have hbl : ((beB 2 id ++ [1, bc]) ++ beB 4 ttl ++ [UInt8.ofNat nm.length]).length = 9 := by simp [beB_len] <;> omega
   simp only [i1, i4, bb.eq, w1, w2, hlen, go_sem, ↓act_zero, Nat.reduceBEq, Nat.reduceAdd, reduceIte, Nat.reduceEqDiff, Nat.reduceLT, Nat.reduceLeDiff]
   refine either_of ?_ ?_
   ·skip
    have hnq : (h.n = g2.n) = False := by simp; omega
    try simp only [i1, i4, bb.eq, w1, w2, hlen, bslA_1, s2bA_some hne (Nat.le_trans hl (by omega)), hnq, go_sem, ↓act_zero, Nat.reduceBEq, Nat.reduceAdd, reduceIte, Nat.reduceEqDiff, Nat.reduceLT, Nat.reduceLeDiff]
    generalize hq_hA : IH.push g2 (IObj.rows (strRows nm) 5 1 false) = hA
    have e_hA : Ext g2 hA := by rw [← hq_hA]; exact (Ext.refl _).push _
    have l_hA : hA.n = g2.n + 1 := by rw [← hq_hA]; rfl
    have ba : At hA g2.n (IObj.rows (strRows nm) 5 1 false) := by rw [← hq_hA]; exact At.new _ _
    clear hq_hA
    have bb := bb.ext e_hA
    have hy : SlR hA 1 (.slice g2.n 0 nm.length) (strRows nm) := SlR.whole ba.eq (strRows_len nm) ba.lt
    have EA : Ext g2 hA := e_hA
    clear ba e_hA
    have ox := ox.ext EA
    have le_EA := EA.le
    try simp only [i1, i4, bb.eq, w1, w2, hlen, bslA_1, s2bA_some hne (Nat.le_trans hl (by omega)), go_sem, ↓act_zero, Nat.reduceBEq, Nat.reduceAdd, reduceIte, Nat.reduceEqDiff, Nat.reduceLT, Nat.reduceLeDiff]
    refine either_of ?_ ?_
    ·skip
     try simp only [i1, i4, bb.eq, w1, w2, hlen, bslA_1, s2bA_some hne (Nat.le_trans hl (by omega)), go_sem, ↓act_zero, Nat.reduceBEq, Nat.reduceAdd, reduceIte, Nat.reduceEqDiff, Nat.reduceLT, Nat.reduceLeDiff]
     refine callA_of (l01Join_c _ _ _ _ _ ox.sl hy (by rw [hbl]; omega) (by omega)) ?_
     rintro z hB' ⟨oz, EB⟩
     have bb := bb.ext EB
     have le_EB := EB.le
     have hnq : (h.n = hB'.n) = False := by simp; omega
     try simp only [i1, i4, bb.eq, w1, w2, hlen, bslA_1, s2bA_some hne (Nat.le_trans hl (by omega)), hnq, go_sem, ↓act_zero, Nat.reduceBEq, Nat.reduceAdd, reduceIte, Nat.reduceEqDiff, Nat.reduceLT, Nat.reduceLeDiff]
     generalize hq_hC : IH.push hB' (IObj.rows [[IV.int .u8 (UInt8.ofNat zs.length).toNat]] 5 1 false) = hC
     have e_hC : Ext hB' hC := by rw [← hq_hC]; exact (Ext.refl _).push _
     have l_hC : hC.n = hB'.n + 1 := by rw [← hq_hC]; rfl
     have bw : At hC hB'.n (IObj.rows [[IV.int .u8 (UInt8.ofNat zs.length).toNat]] 5 1 false) := by rw [← hq_hC]; exact At.new _ _
     clear hq_hC
     have bb := bb.ext e_hC
     have oz := oz.ext e_hC
     have hw : SlR hC 1 (.slice hB'.n 0 1) (strRows [UInt8.ofNat zs.length]) := SlR.whole bw.eq rfl bw.lt
     clear bw
     try simp only [i1, i4, bb.eq, w1, w2, hlen, bslA_1, s2bA_some hne (Nat.le_trans hl (by omega)), go_sem, ↓act_zero, Nat.reduceBEq, Nat.reduceAdd, reduceIte, Nat.reduceEqDiff, Nat.reduceLT, Nat.reduceLeDiff]
     refine callA_of (l01Join_c _ _ _ _ _ oz.sl hw (by rw [la0, hbl]; have : (nm).length ≤ 1000 := (by omega); omega) (by simp)) ?_
     rintro zz hD ⟨oD, ED⟩
     have EE := (((E2.trans EA).trans EB).trans e_hC).trans ED
     have lEE := EE.le
     unfold Bet
     simp only [i1, go_sem, ↓act_zero, Nat.reduceBEq, Nat.reduceAdd, reduceIte, Nat.reduceEqDiff, Nat.reduceLT, Nat.reduceLeDiff]
     exact ⟨zz, rfl, fin _ _ _ (by omega) EE oD⟩
    ·skip
     have hnq : (h.n = hA.n) = False := by simp; omega
     try simp only [i1, i4, bb.eq, w1, w2, hlen, bslA_1, s2bA_some hne (Nat.le_trans hl (by omega)), hnq, go_sem, ↓act_zero, Nat.reduceBEq, Nat.reduceAdd, reduceIte, Nat.reduceEqDiff, Nat.reduceLT, Nat.reduceLeDiff]
     generalize hq_hC : IH.push hA (IObj.rows [[IV.int .u8 (UInt8.ofNat zs.length).toNat]] 5 1 false) = hC
     have e_hC : Ext hA hC := by rw [← hq_hC]; exact (Ext.refl _).push _
     have l_hC : hC.n = hA.n + 1 := by rw [← hq_hC]; rfl
     have bw : At hC hA.n (IObj.rows [[IV.int .u8 (UInt8.ofNat zs.length).toNat]] 5 1 false) := by rw [← hq_hC]; exact At.new _ _
     clear hq_hC
     have bb := bb.ext e_hC
     have ox := ox.ext e_hC
     have hy := hy.ext e_hC
     have hw : SlR hC 1 (.slice hA.n 0 1) (strRows [UInt8.ofNat zs.length]) := SlR.whole bw.eq rfl bw.lt
     clear bw
     try simp only [i1, i4, bb.eq, w1, w2, hlen, bslA_1, s2bA_some hne (Nat.le_trans hl (by omega)), go_sem, ↓act_zero, Nat.reduceBEq, Nat.reduceAdd, reduceIte, Nat.reduceEqDiff, Nat.reduceLT, Nat.reduceLeDiff]
     refine callA_of (l01Join_c _ _ _ _ _ ox.sl hy (by rw [hbl]; omega) (by omega)) ?_
     rintro z hB' ⟨oz, EB⟩
     have bb := bb.ext EB
     have hw := hw.ext EB
     have le_EB := EB.le
     try simp only [i1, i4, bb.eq, w1, w2, hlen, bslA_1, s2bA_some hne (Nat.le_trans hl (by omega)), go_sem, ↓act_zero, Nat.reduceBEq, Nat.reduceAdd, reduceIte, Nat.reduceEqDiff, Nat.reduceLT, Nat.reduceLeDiff]
     refine callA_of (l01Join_c _ _ _ _ _ oz.sl hw (by rw [la0, hbl]; have : (nm).length ≤ 1000 := (by omega); omega) (by simp)) ?_
     rintro zz hD ⟨oD, ED⟩
     have EE := (((E2.trans EA).trans e_hC).trans EB).trans ED
     have lEE := EE.le
     unfold Bet
     simp only [i1, go_sem, ↓act_zero, Nat.reduceBEq, Nat.reduceAdd, reduceIte, Nat.reduceEqDiff, Nat.reduceLT, Nat.reduceLeDiff]
     exact ⟨zz, rfl, fin _ _ _ (by omega) EE oD⟩
   ·skip
    have hnr : (h.n = g2.n + 1) = False := by simp; omega
    have hnq : (h.n = g2.n) = False := by simp; omega
    try simp only [i1, i4, bb.eq, w1, w2, hlen, bslA_1, s2bA_some hne (Nat.le_trans hl (by omega)), hnr, hnq, go_sem, ↓act_zero, Nat.reduceBEq, Nat.reduceAdd, reduceIte, Nat.reduceEqDiff, Nat.reduceLT, Nat.reduceLeDiff]
    generalize hq_hC : IH.push g2 (IObj.rows [[IV.int .u8 (UInt8.ofNat zs.length).toNat]] 5 1 false) = hC
    have e_hC : Ext g2 hC := by rw [← hq_hC]; exact (Ext.refl _).push _
    have l_hC : hC.n = g2.n + 1 := by rw [← hq_hC]; rfl
    have bw : At hC g2.n (IObj.rows [[IV.int .u8 (UInt8.ofNat zs.length).toNat]] 5 1 false) := by rw [← hq_hC]; exact At.new _ _
    clear hq_hC
    have bb := bb.ext e_hC
    have ox := ox.ext e_hC
    have hw : SlR hC 1 (.slice g2.n 0 1) (strRows [UInt8.ofNat zs.length]) := SlR.whole bw.eq rfl bw.lt
    clear bw
    have hnq : (h.n = hC.n) = False := by simp; omega
    try simp only [i1, i4, bb.eq, w1, w2, hlen, bslA_1, s2bA_some hne (Nat.le_trans hl (by omega)), hnr, hnq, go_sem, ↓act_zero, Nat.reduceBEq, Nat.reduceAdd, reduceIte, Nat.reduceEqDiff, Nat.reduceLT, Nat.reduceLeDiff]
    generalize hq_hA : IH.push hC (IObj.rows (strRows nm) 5 1 false) = hA
    have e_hA : Ext hC hA := by rw [← hq_hA]; exact (Ext.refl _).push _
    have l_hA : hA.n = hC.n + 1 := by rw [← hq_hA]; rfl
    have ba : At hA hC.n (IObj.rows (strRows nm) 5 1 false) := by rw [← hq_hA]; exact At.new _ _
    clear hq_hA
    have bb := bb.ext e_hA
    have hy : SlR hA 1 (.slice hC.n 0 nm.length) (strRows nm) := SlR.whole ba.eq (strRows_len nm) ba.lt
    have EA : Ext hC hA := e_hA
    clear ba e_hA
    rw [l_hC] at hy
    have ox := ox.ext EA
    have hw := hw.ext EA
    have le_EA := EA.le
    try simp only [i1, i4, bb.eq, w1, w2, hlen, bslA_1, s2bA_some hne (Nat.le_trans hl (by omega)), hnr, go_sem, ↓act_zero, Nat.reduceBEq, Nat.reduceAdd, reduceIte, Nat.reduceEqDiff, Nat.reduceLT, Nat.reduceLeDiff]
    refine callA_of (l01Join_c _ _ _ _ _ ox.sl hy (by rw [hbl]; omega) (by omega)) ?_
    rintro z hB' ⟨oz, EB⟩
    have bb := bb.ext EB
    have hw := hw.ext EB
    have le_EB := EB.le
    try simp only [i1, i4, bb.eq, w1, w2, hlen, bslA_1, s2bA_some hne (Nat.le_trans hl (by omega)), hnr, go_sem, ↓act_zero, Nat.reduceBEq, Nat.reduceAdd, reduceIte, Nat.reduceEqDiff, Nat.reduceLT, Nat.reduceLeDiff]
    refine callA_of (l01Join_c _ _ _ _ _ oz.sl hw (by rw [la0, hbl]; have : (nm).length ≤ 1000 := (by omega); omega) (by simp)) ?_
    rintro zz hD ⟨oD, ED⟩
    have EE := (((E2.trans e_hC).trans EA).trans EB).trans ED
    have lEE := EE.le
    unfold Bet
    simp only [i1, go_sem, ↓act_zero, Nat.reduceBEq, Nat.reduceAdd, reduceIte, Nat.reduceEqDiff, Nat.reduceLT, Nat.reduceLeDiff]
    exact ⟨zz, rfl, fin _ _ _ (by omega) EE oD⟩
  clear E2 ox i1 i4
  rintro e g2 ⟨x, i1, i4, ox, E2⟩
  have hrh : repHead id code ttl nm zs = (((beB 2 id ++ [1, bc]) ++ beB 4 ttl ++ [UInt8.ofNat nm.length]) ++ nm) ++ [UInt8.ofNat zs.length] := by rw [← hbc]; rfl
  rw [hrh]
  have hbl : ((((beB 2 id ++ [1, bc]) ++ beB 4 ttl ++ [UInt8.ofNat nm.length]) ++ nm) ++ [UInt8.ofNat zs.length]).length = 10 + nm.length := by simp [beB_len]; omega
  generalize (((beB 2 id ++ [1, bc]) ++ beB 4 ttl ++ [UInt8.ofNat nm.length]) ++ nm) ++ [UInt8.ofNat zs.length] = hd at ox hbl ⊢
  have hlen := (hs.ext E2).lenF
  rw [intRows_len] at hlen
  simp only [i1, i4, go_sem, ↓act_zero, Nat.reduceBEq, Nat.reduceAdd, reduceIte, Nat.reduceEqDiff, Nat.reduceLT, Nat.reduceLeDiff]
  refine loop_at (fun n e g' => ∃ k, n = zs.length - k ∧ k ≤ zs.length ∧ Bet g h.n (hd ++ (zs.take k).flatMap (beB 4)) e g' ∧ e 5 = .int .i64 (k : Nat)) zs.length ?_ ?_
  ·refine ⟨0, by omega, by omega, ⟨x, ?_⟩, ?_⟩
   ·simp only [i1, i4, go_sem, ↓act_zero, Nat.reduceBEq, Nat.reduceAdd, reduceIte, Nat.reduceEqDiff, Nat.reduceLT, Nat.reduceLeDiff]
    exact ⟨by simpa using ox, E2⟩
   ·simp only [i1, i4, go_sem, ↓act_zero, Nat.reduceBEq, Nat.reduceAdd, reduceIte, Nat.reduceEqDiff, Nat.reduceLT, Nat.reduceLeDiff]
    rfl
  ·clear i1 i4 ox E2 hlen
   rintro n e g3 ⟨k, rfl, hk, ⟨x, i1, i4, ox, E3⟩, i5⟩
   have bb := bb.ext E3
   have hs := hs.ext E3
   have hlen := hs.lenF
   rw [intRows_len] at hlen
   have l3 := E3.le
   simp only [i1, i4, i5, bb.eq, hlen, go_sem, ↓act_zero, Nat.reduceBEq, Nat.reduceAdd, reduceIte, Nat.reduceEqDiff, Nat.reduceLT, Nat.reduceLeDiff]
   refine test_dec (fun hb => ?_) (fun hb => ?_)
   ·have hlt' : k < zs.length := by omega
    have hkp : zs[k]? = some zs[k] := List.getElem?_eq_getElem hlt'
    generalize zs[k] = p at hkp
    obtain ⟨l, j, hia, hll, hrow⟩ := hs.at (m := k) (intRows_at hkp) .i64
    have hc := cellO_row hrow
    simp only [i1, i4, i5, bb.eq, hia, hc, go_sem, ↓act_zero, Nat.reduceBEq, Nat.reduceAdd, reduceIte, Nat.reduceEqDiff, Nat.reduceLT, Nat.reduceLeDiff]
    refine callA_of (l03Put_c _ p 4 (by omega)) ?_
    rintro y h4 ⟨oy, E4⟩
    have bb := bb.ext E4
    have ox := ox.ext E4
    have le_E4 := E4.le
    simp only [i1, i4, i5, go_sem, ↓act_zero, Nat.reduceBEq, Nat.reduceAdd, reduceIte, Nat.reduceEqDiff, Nat.reduceLT, Nat.reduceLeDiff]
    refine callA_of (l01Join_c _ _ _ _ _ ox.sl oy.sl (by rw [la0, hbl, flat_len]; have := List.length_take_le k zs; omega) (by rw [beB_len]; omega)) ?_
    rintro z h5 ⟨oz, E5⟩
    have EE := (E3.trans E4).trans E5
    have lEE := EE.le
    unfold Bet
    simp only [i1, i5, go_sem, ↓act_zero, Nat.reduceBEq, Nat.reduceAdd, reduceIte, Nat.reduceEqDiff, Nat.reduceLT, Nat.reduceLeDiff]
    refine ⟨_, ?_, k + 1, rfl, by omega, ⟨z, rfl, ?_, EE⟩, wr64_succ k (by omega)⟩
    ·omega
    ·rw [flat_snoc hkp, ← List.append_assoc]
     exact oz.wide (by omega) (Nat.le_refl _) (Nat.le_refl _)
   ·obtain rfl : k = zs.length := by omega
    rw [List.take_length] at ox
    simp only [i1, i4, go_sem, ↓act_zero, Nat.reduceBEq, Nat.reduceAdd, reduceIte, Nat.reduceEqDiff, Nat.reduceLT, Nat.reduceLeDiff]
    exact ⟨x, rfl, ox.wide (by have := E.le; omega) (Nat.le_refl _) (Nat.le_refl _), E.trans E3⟩
 ·have hokf : okRep id code ttl nm zs = false := by simpa using hok
  have hdef : encR id code ttl nm zs = ([], 1) := if_neg hok
  rw [hdef]
  simp only [hv1, go_sem, ↓act_zero, Nat.reduceBEq, Nat.reduceAdd, reduceIte, Nat.reduceEqDiff, Nat.reduceLT, Nat.reduceLeDiff]
  generalize hq_g0 : IH.push h (IObj.rows [[IV.int .i64 id, IV.int .i64 code, IV.int .i64 ttl, IV.str nm, v]] 55 5 false) = g0
  have e_g0 : Ext h g0 := by rw [← hq_g0]; exact (Ext.refl _).push _
  have l_g0 : g0.n = h.n + 1 := by rw [← hq_g0]; rfl
  have bb : At g0 h.n (IObj.rows [[IV.int .i64 id, IV.int .i64 code, IV.int .i64 ttl, IV.str nm, v]] 55 5 false) := by rw [← hq_g0]; exact At.new _ _
  clear hq_g0
  have hs := hs.ext e_g0
  refine callA_of (l19ReplyOK_c _ id code ttl nm v zs hs hm hz) ?_
  rintro r h1 ⟨rfl, E1⟩
  have E := e_g0.trans E1
  simp only [hokf, go_sem, ↓act_zero, Nat.reduceBEq, Nat.reduceAdd, reduceIte, Nat.reduceEqDiff, Nat.reduceLT, Nat.reduceLeDiff]
  exact ⟨_, rfl, Own.nil, E⟩
end
end Go.Proofs.YtaoffieemecioaaDoor



namespace Go.Proofs.YtaoffieemecioaaDoor
open Go Go.IW

structure Ent where
 nm : List UInt8
 addr : Int
 ttl : Int
def Ent.row (e : Ent) : List IV := [.str e.nm, .int .i64 e.addr, .int .i64 e.ttl]
def entRows (es : List Ent) : List (List IV) := es.map Ent.row
theorem entRows_len (es : List Ent) : (entRows es).length = es.length := by simp [entRows]
theorem entRows_at {es : List Ent} {k : Nat} {e : Ent} (h : es[k]? = some e) : (entRows es)[k]? = some e.row := by simp [entRows, h]

end Go.Proofs.YtaoffieemecioaaDoor


namespace Go.Proofs.YtaoffieemecioaaDoor
open Go Go.IW

end Go.Proofs.YtaoffieemecioaaDoor


namespace Go.Proofs.YtaoffieemecioaaDoor
open Go Go.IW

def fitE (qn : List UInt8) (e : Ent) : Bool := decide (e.nm = qn) && okAddr e.addr && (decide (0 ≤ e.ttl) && decide (e.ttl ≤ 86400))
def ansStep (qn : List UInt8) (st : Int × Int × List Int) (e : Ent) : Int × Int × List Int :=
 if fitE qn e = true ∧ st.2.2.length < 8 then (0, if st.1 ≠ 0 ∨ e.ttl < st.2.1 then e.ttl else st.2.1, st.2.2 ++ [e.addr]) else st
def ansQ (es : List Ent) (qn : List UInt8) : Int × Int × List Int := es.foldl (ansStep qn) (20, 10, [])
theorem ansQ_snoc {es : List Ent} {qn : List UInt8} {k : Nat} {e : Ent} (h : es[k]? = some e) : ansQ (es.take (k + 1)) qn = ansStep qn (ansQ (es.take k) qn) e := by
 unfold ansQ
 rw [List.take_add_one, h]
 simp
theorem ansQ_inv (qn : List UInt8) : ∀ (es : List Ent), ((ansQ es qn).1 = 20 ∨ (ansQ es qn).1 = 0) ∧ (ansQ es qn).2.2.length ≤ 8 := by
 have key : ∀ (es : List Ent) (st : Int × Int × List Int), (st.1 = 20 ∨ st.1 = 0) ∧ st.2.2.length ≤ 8 → ((es.foldl (ansStep qn) st).1 = 20 ∨ (es.foldl (ansStep qn) st).1 = 0) ∧ (es.foldl (ansStep qn) st).2.2.length ≤ 8 := by
  intro es
  induction es with
  | nil => intro st h; exact h
  | cons e es ih =>
   intro st h
   refine ih _ ?_
   unfold ansStep
   split
   ·rename_i hc
    exact ⟨.inr rfl, by simp; omega⟩
   ·exact h
 exact fun es => key es _ ⟨.inl rfl, by simp⟩
def ansN (es : List Ent) (bs : List UInt8) : List UInt8 × Int :=
 if (decQ bs).2.2 ≠ 0 then ([], (decQ bs).2.2)
 else encR (decQ bs).1 (ansQ es (decQ bs).2.1).1 (ansQ es (decQ bs).2.1).2.1 (decQ bs).2.1 (ansQ es (decQ bs).2.1).2.2
theorem decQ_len (bs : List UInt8) : (decQ bs).2.1.length ≤ bs.length := by
 unfold decQ
 split
 ·simp
 ·split
  ·simp
  ·split
   ·simp
   ·split
    ·simp; omega
    ·simp

structure AnsAt (h g : IH) (pq pr : Nat) (id : Int) (qn : List UInt8) (st : Int × Int × List Int) : Prop where
 ext : Ext h g
 q : At g pq (.rows [[.int .i64 id, .str qn]] 116 2 false)
 r : ∃ v lo hi, At g pr (.rows [[.int .i64 id, .int .i64 st.1, .int .i64 st.2.1, .str qn, v]] 55 5 false) ∧ Own lo hi g 2 1 v (intRows st.2.2) ∧ pr < lo ∧ hi ≤ g.n

end Go.Proofs.YtaoffieemecioaaDoor


namespace Go.Proofs.YtaoffieemecioaaDoor
open Go Go.IW
section
attribute [local go_sem] boxA_1 boxA_2 boxA_3 bslA_1 List.getElem?_cons_zero List.getElem?_cons_succ Option.bind_some List.map_cons List.map_nil Nat.zero_add if_true List.getD_cons_zero List.getD_cons_succ List.contains_cons List.contains_nil Bool.or_true Bool.true_or Bool.or_false Bool.false_or Bool.not_true Bool.not_false true_and and_true rowA_whole mid_get stO_mid rowO_rows cellO_rows push_n set_n push_at push_old set_here set_there set_pushT set_pushN set_set upd_ne Nat.add_assoc Nat.add_zero stO_1s stO_ws boxA_s List.all_cons List.all_nil one_bool one_int one_str one_ptr one_nilptr one_slice one_eslice one_nilslice one_func one_iface one_niliface Bool.and_true Bool.and_self List.length_cons List.length_nil Nat.one_ne_zero Nat.succ_ne_zero if_false List.set_cons_zero List.set_cons_succ lay_nil lay_1 lay_w Option.map_some

structure Src (h : IH) (p : Nat) (v : IV) (code : List UInt8) : Prop where
 at_ : ∃ pos st : Int, At h p (.rows [[v, .int .i64 pos, .int .u64 st]] 58 3 false) ∧ 0 ≤ pos ∧ pos ≤ code.length
 sl : SlR h 1 v (strRows code)
 ne : ∀ l i n, v = .slice l i n → l ≠ p
theorem Src.ext {h g : IH} {p : Nat} {v : IV} {code : List UInt8} (s : Src h p v code) (e : Ext h g) : Src g p v code := by
 obtain ⟨pos, st, a, b, c⟩ := s.at_
 exact ⟨⟨pos, st, a.ext e, b, c⟩, s.sl.ext e, s.ne⟩
theorem wrU (x : Int) : wr .u64 x = x % 18446744073709551616 := by unfold wr; rw [IntKind.wrap_u64]
theorem wrU_nn (x : Int) : 0 ≤ wr .u64 x := by rw [wrU]; omega
set_option maxRecDepth 20000 in
theorem l01Next_c (h : IH) (p : Nat) (v : IV) (code : List UInt8) (n : Int) (S : Src h p v code) (h0 : 0 < n) (h1 : n ≤ 1099511627776) (hl : code.length ≤ 1048576) :
  ICalls Tryd.prog 14 [.ptr p 0 0, .int .i64 n] h fun r h' => ∃ x : Int, r = .int .i64 x ∧ 0 ≤ x ∧ x < n ∧ Src h' p v code ∧ Sav p h h' ∧ h'.n = h.n := by
 refine icalls (.of ok14) (Nat.le_of_ble_eq_true rfl) ?_
 unfold c14
 obtain ⟨pos, st, ha, hp0, hp1⟩ := S.at_
 have hs := S.sl
 have hv1 := hs.one
 have hlen := hs.lenF
 rw [strRows_len] at hlen
 have q0 := ha.eq
 have d0 : decide (n ≤ 0) = false := decide_eq_false (by omega)
 generalize hst : wr .u64 (wr .u64 (st * 6364136223846793005) + 1442695040888963407) = s2
 have hs2 : 0 ≤ s2 := by rw [← hst]; exact wrU_nn _
 have hshr : ibin .shr (.int .u64 s2) (.int .u64 33) = some (.int .u64 (s2 / 8589934592)) := by
  have := ib_shr (k := .u64) (a := s2) (b := 33) .u64 (by decide)
  have hm : min (33 : Int).toNat IntKind.u64.bits = 33 := rfl
  rw [hm, Int.fdiv_eq_ediv_of_nonneg _ (by decide)] at this
  exact this
 have hwn : wr .u64 n = n := by rw [wrU]; omega
 have hrem : ∀ x : Int, 0 ≤ x → ibin .rem (.int .u64 x) (.int .u64 n) = some (.int .u64 (x % n)) := by
  intro x hx
  simp only [ibin, if_true, if_neg (show ¬ n = 0 by omega), Int.tmod_eq_emod_of_nonneg hx]
 have hr0 : ∀ x : Int, 0 ≤ x % n ∧ x % n < n := fun x => ⟨Int.emod_nonneg _ (by omega), Int.emod_lt_of_pos _ h0⟩
 have hri : ∀ x : Int, wr .i64 (x % n) = x % n := fun x => wr64 _ (by have := hr0 x; omega)
 have fin : ∀ (pos' : Int), 0 ≤ pos' → pos' ≤ code.length → Src (h.set p (.rows [[v, .int .i64 pos', .int .u64 s2]] 58 3 false)) p v code ∧ Sav p h (h.set p (.rows [[v, .int .i64 pos', .int .u64 s2]] 58 3 false)) := by
  intro pos' a b
  have sv : Sav p h (h.set p (.rows [[v, .int .i64 pos', .int .u64 s2]] 58 3 false)) := (Sav.refl p h).set (.inr rfl) _
  exact ⟨⟨⟨pos', s2, ha.here, a, b⟩, sv.sl hs S.ne, S.ne⟩, sv⟩
 by_cases hlt : pos < code.length
 ·have d1 : decide (pos < (code.length : Int)) = true := decide_eq_true hlt
  obtain ⟨k, rfl⟩ : ∃ k : Nat, pos = k := ⟨pos.toNat, by omega⟩
  have hkl : k < code.length := by omega
  have hkp : code[k]? = some code[k] := List.getElem?_eq_getElem hkl
  generalize code[k] = c at hkp
  obtain ⟨l, j, hia, hll, hrow⟩ := hs.at (m := k) (strRows_at hkp) .i64
  obtain ⟨vi, vn, hve⟩ := iadr_sl hia
  have hlp : l ≠ p := S.ne _ _ _ hve
  have hia2 : ∀ o, iadrF (h.set p o) 1 v (.int .i64 (k : Nat)) = some (.ptr l j 0) := fun o => iadr_same hia (set_there _ _ _ _ hlp)
  have hcc := cellO_row hrow
  have w1 : wr .i64 ((k : Int) + 1) = ((k + 1 : Nat) : Int) := by rw [wr64 _ (by omega)]; rfl
  have hx : 0 ≤ IW.bits .xor .u64 (s2 / 8589934592) (wr .u64 (c.toNat : Int)) := by unfold IW.bits; exact wrU_nn _
  simp (disch := (first | exact dB | fail)) only [d0, q0, hst, hshr, hlen, d1, hia2, hcc, hwn, hrem _ hx, hri, w1, go_sem, ↓act_zero, Nat.reduceBEq, Nat.reduceAdd, reduceIte]
  exact ⟨_, rfl, (hr0 _).1, (hr0 _).2, (fin _ (by omega) (by omega)).1, (fin _ (by omega) (by omega)).2⟩
 ·have d1 : decide (pos < (code.length : Int)) = false := decide_eq_false hlt
  have hx : 0 ≤ s2 / 8589934592 := by omega
  simp (disch := (first | exact dB | fail)) only [d0, q0, hst, hshr, hlen, d1, hwn, hrem _ hx, hri, go_sem, ↓act_zero, Nat.reduceBEq, Nat.reduceAdd, reduceIte]
  exact ⟨_, rfl, (hr0 _).1, (hr0 _).2, (fin _ (by omega) (by omega)).1, (fin _ (by omega) (by omega)).2⟩
end
end Go.Proofs.YtaoffieemecioaaDoor


namespace Go.Proofs.YtaoffieemecioaaDoor
open Go Go.IW
section
attribute [local go_sem] boxA_1 boxA_2 boxA_3 bslA_1 List.getElem?_cons_zero List.getElem?_cons_succ Option.bind_some List.map_cons List.map_nil Nat.zero_add if_true List.getD_cons_zero List.getD_cons_succ List.contains_cons List.contains_nil Bool.or_true Bool.true_or Bool.or_false Bool.false_or Bool.not_true Bool.not_false true_and and_true rowA_whole mid_get stO_mid rowO_rows cellO_rows push_n set_n push_at push_old set_here set_there set_pushT set_pushN set_set upd_ne Nat.add_assoc Nat.add_zero stO_1s stO_ws boxA_s List.all_cons List.all_nil one_bool one_int one_str one_ptr one_nilptr one_slice one_eslice one_nilslice one_func one_iface one_niliface Bool.and_true Bool.and_self List.length_cons List.length_nil Nat.one_ne_zero Nat.succ_ne_zero if_false List.set_cons_zero List.set_cons_succ lay_nil lay_1 lay_w Option.map_some

set_option maxRecDepth 20000 in
theorem l01Begin_c (h : IH) (v : IV) (code : List UInt8) (hs : SlR h 1 v (strRows code)) (hl : code.length ≤ 1048576) :
  ICalls Tryd.prog 13 [v] h fun r h' => ∃ st : Int, r = .agg [v, .int .i64 0, .int .u64 st] ∧ Ext h h' := by
 refine icalls (.of ok13) (Nat.le_of_ble_eq_true rfl) ?_
 unfold c13
 have hv1 := hs.one
 have hlen := hs.lenF
 rw [strRows_len] at hlen
 simp (disch := (first | exact dB | fail)) only [go_sem, ↓act_zero, Nat.reduceBEq, Nat.reduceAdd, reduceIte]
 refine loop_at (fun n e g => ∃ (k : Nat) (st : Int), n = code.length - k ∧ k ≤ code.length ∧ e 0 = v ∧ e 2 = .ptr h.n 0 0 ∧ e 3 = .ptr (h.n + 1) 0 0 ∧ e 4 = .int .i64 (k : Nat) ∧ Ext h g ∧ h.n + 2 ≤ g.n ∧ At g h.n (.rows [[.nilslice, .int .i64 0, .int .u64 0]] 58 3 false) ∧
  At g (h.n + 1) (.rows [[v, .int .i64 0, .int .u64 st]] 58 3 false)) code.length ?_ ?_
 ·refine ⟨0, 1469598103934665603, by omega, by omega, ?_⟩
  simp (disch := (first | exact dB | fail)) only [go_sem, ↓act_zero, Nat.reduceBEq, Nat.reduceAdd, reduceIte]
  exact ⟨rfl, ⟨by (first | omega | (simp only [push_n, set_n]; omega)), fun l hl => by simp (disch := (first | exact dB | fail)) only [push_n, set_n, push_at, push_old, set_here, set_there, Nat.add_assoc, Nat.reduceAdd]⟩, Nat.le_refl _, ⟨by (first | omega | (simp only [push_n, set_n]; omega)), by (first | rfl | simp (disch := (first | exact dB | fail)) only [push_n, set_n, push_at, push_old, set_here, set_there, Nat.add_assoc, Nat.reduceAdd])⟩, ⟨by (first | omega | (simp only [push_n, set_n]; omega)), by (first | rfl | simp (disch := (first | exact dB | fail)) only [push_n, set_n, push_at, push_old, set_here, set_there, Nat.add_assoc, Nat.reduceAdd])⟩⟩
 ·rintro n e g ⟨k, st, rfl, hk, i0, i2, i3, i4, E, hgn, a0, a1⟩
  have q0 := a0.eq
  have q1 := a1.eq
  simp (disch := (first | exact dB | fail)) only [i0, i2, i3, i4, hlen, go_sem, ↓act_zero, Nat.reduceBEq, Nat.reduceAdd, reduceIte]
  refine test_dec (fun hb => ?_) (fun hb => ?_)
  ·have hlt : k < code.length := by omega
   have hkp : code[k]? = some code[k] := List.getElem?_eq_getElem hlt
   generalize code[k] = c at hkp
   obtain ⟨l, j, hia, hll, hrow⟩ := (hs.ext E).at (m := k) (strRows_at hkp) .i64
   have hcc := cellO_row hrow
   have w1 : wr .i64 ((k : Int) + 1) = ((k + 1 : Nat) : Int) := by rw [wr64 _ (by omega)]; rfl
   have hxor : ibin .xor (.int .u64 st) (.int .u64 (wr .u64 (c.toNat : Int))) = some (.int .u64 (IW.bits .xor .u64 st (wr .u64 (c.toNat : Int)))) := rfl
   simp (disch := (first | exact dB | fail)) only [i0, i2, i3, i4, q0, q1, hia, hcc, w1, hxor, go_sem, ↓act_zero, Nat.reduceBEq, Nat.reduceAdd, reduceIte]
   exact ⟨_, by omega, k + 1, _, rfl, by omega, rfl, E.set _ (by omega) _, hgn, ⟨by (first | omega | (simp only [push_n, set_n]; omega)), by (first | rfl | simp (disch := (first | exact dB | fail)) only [q0, push_n, set_n, push_at, push_old, set_here, set_there, Nat.add_assoc, Nat.reduceAdd])⟩, a1.here⟩
  ·simp (disch := (first | exact dB | fail)) only [i0, i2, i3, i4, q0, q1, go_sem, ↓act_zero, Nat.reduceBEq, Nat.reduceAdd, reduceIte]
   exact ⟨st, rfl, E.set _ (by omega) _⟩
set_option maxRecDepth 20000 in
theorem l01Bool_c (h : IH) (p : Nat) (v : IV) (code : List UInt8) (S : Src h p v code) (hl : code.length ≤ 1048576) :
  ICalls Tryd.prog 60 [.ptr p 0 0] h fun r h' => ∃ b, r = .bool b ∧ Src h' p v code ∧ Sav p h h' ∧ h'.n = h.n := by
 refine icalls (.of ok60) (Nat.le_of_ble_eq_true rfl) ?_
 unfold c60
 simp (disch := (first | exact dB | fail)) only [go_sem, ↓act_zero, Nat.reduceBEq, Nat.reduceAdd, reduceIte]
 refine callA_of (l01Next_c h p v code 2 S (by omega) (by omega) hl) ?_
 rintro r g ⟨x, rfl, _, _, S2, V, hn⟩
 simp (disch := (first | exact dB | fail)) only [go_sem, ↓act_zero, Nat.reduceBEq, Nat.reduceAdd, reduceIte]
 exact ⟨_, rfl, S2, V, hn⟩
end
end Go.Proofs.YtaoffieemecioaaDoor


namespace Go.Proofs.YtaoffieemecioaaDoor
open Go Go.IW

end Go.Proofs.YtaoffieemecioaaDoor


namespace Go.Proofs.YtaoffieemecioaaDoor
open Go Go.IW
section
attribute [local go_sem] boxA_1 boxA_2 boxA_3 bslA_1 List.getElem?_cons_zero List.getElem?_cons_succ Option.bind_some List.map_cons List.map_nil Nat.zero_add if_true List.getD_cons_zero List.getD_cons_succ List.contains_cons List.contains_nil Bool.or_true Bool.true_or Bool.or_false Bool.false_or Bool.not_true Bool.not_false true_and and_true rowA_whole mid_get stO_mid rowO_rows cellO_rows push_n set_n push_at push_old set_here set_there set_pushT set_pushN set_set upd_ne Nat.add_assoc Nat.add_zero stO_1s stO_ws boxA_s List.all_cons List.all_nil one_bool one_int one_str one_ptr one_nilptr one_slice one_eslice one_nilslice one_func one_iface one_niliface Bool.and_true Bool.and_self List.length_cons List.length_nil Nat.one_ne_zero Nat.succ_ne_zero if_false List.set_cons_zero List.set_cons_succ lay_nil lay_1 lay_w Option.map_some

theorem Src.back {h g g' : IH} {p : Nat} {v : IV} {code : List UInt8} (S0 : Src h p v code) (hp : p < h.n) (S : Src g p v code) (V : Sav p h g') (ho : g'.obj p = g.obj p) : Src g' p v code := by
 obtain ⟨pos, st, a, b, c⟩ := S.at_
 exact ⟨⟨pos, st, ⟨Nat.lt_of_lt_of_le hp V.le, ho.trans a.eq⟩, b, c⟩, V.sl S0.sl S0.ne, S0.ne⟩
set_option maxRecDepth 20000 in
theorem l02Host_c (h : IH) (p : Nat) (v : IV) (code : List UInt8) (S : Src h p v code) (hl : code.length ≤ 1048576) :
  ICalls Tryd.prog 59 [.ptr p 0 0] h fun r h' => ∃ x : Int, r = .int .i64 x ∧ Src h' p v code ∧ Sav p h h' ∧ h'.n = h.n := by
 refine icalls (.of ok59) (Nat.le_of_ble_eq_true rfl) ?_
 unfold c59
 simp (disch := (first | exact dB | fail)) only [go_sem, ↓act_zero, Nat.reduceBEq, Nat.reduceAdd, reduceIte]
 refine callA_of (l01Next_c h p v code 2 S (by omega) (by omega) hl) ?_
 rintro r g ⟨x, rfl, x0, x1, S1, V1, hn1⟩
 simp (disch := (first | exact dB | fail)) only [go_sem, ↓act_zero, Nat.reduceBEq, Nat.reduceAdd, reduceIte]
 refine callA_of (l01Next_c g p v code 6 S1 (by omega) (by omega) hl) ?_
 rintro r g2 ⟨y, rfl, y0, y1, S2, V2, hn2⟩
 simp (disch := (first | exact dB | fail)) only [go_sem, ↓act_zero, Nat.reduceBEq, Nat.reduceAdd, reduceIte]
 exact ⟨_, rfl, S2, V1.trans V2, by omega⟩
set_option maxRecDepth 20000 in
theorem l19Name_c (h : IH) (p : Nat) (v : IV) (code : List UInt8) (S : Src h p v code) (hl : code.length ≤ 1048576) (hpn : p < h.n) :
  ICalls Tryd.prog 16 [.ptr p 0 0] h fun r h' => ∃ s : List UInt8, r = .str s ∧ s.length ≤ 17 ∧ Src h' p v code ∧ Sav p h h' := by
 refine icalls (.of ok16) (Nat.le_of_ble_eq_true rfl) ?_
 unfold c16
 simp (disch := (first | exact dB | fail)) only [go_sem, ↓act_zero, Nat.reduceBEq, Nat.reduceAdd, reduceIte]
 refine bslA_of (rows := [[.str [97]], [.str [98, 46, 108, 97, 110]], [.str [102, 105, 108, 101, 115, 46, 108, 97, 110]], [.str [120, 45, 49, 46, 121, 46, 122]], [.str [119, 119, 119, 46, 101, 120, 97, 109, 112, 108, 101, 45, 55, 46, 110, 101, 116]], [.str [113]]]) (by decide) rfl (by decide) ?_
 simp (disch := (first | exact dB | fail)) only [go_sem, ↓act_zero, Nat.reduceBEq, Nat.reduceAdd, reduceIte]
 generalize hq_g5 : IH.push h (IObj.rows [[.str [97]], [.str [98, 46, 108, 97, 110]], [.str [102, 105, 108, 101, 115, 46, 108, 97, 110]], [.str [120, 45, 49, 46, 121, 46, 122]], [.str [119, 119, 119, 46, 101, 120, 97, 109, 112, 108, 101, 45, 55, 46, 110, 101, 116]], [.str [113]]] 9 1 false) = g5
 have e_g5 : Ext h g5 := by rw [← hq_g5]; exact (Ext.refl _).push _
 have l_g5 : g5.n = h.n + 1 := by rw [← hq_g5]; rfl
 have b5 : At g5 h.n (IObj.rows [[.str [97]], [.str [98, 46, 108, 97, 110]], [.str [102, 105, 108, 101, 115, 46, 108, 97, 110]], [.str [120, 45, 49, 46, 121, 46, 122]], [.str [119, 119, 119, 46, 101, 120, 97, 109, 112, 108, 101, 45, 55, 46, 110, 101, 116]], [.str [113]]] 9 1 false) := by rw [← hq_g5]; exact At.new _ _
 clear hq_g5
 have S := S.ext e_g5
 refine callA_of (l01Next_c g5 p v code 6 S (by omega) (by omega) hl) ?_
 rintro r g6 ⟨y, rfl, y0, y1, S6, V6, hn6⟩
 have b6 := b5.sav V6 (by omega)
 obtain ⟨y, rfl⟩ : ∃ m : Nat, y = (m : Int) := ⟨y.toNat, by omega⟩
 have hy : y < 6 := by omega
 obtain ⟨z, hz, hzl⟩ : ∃ z : List UInt8, ([[.str [97]], [.str [98, 46, 108, 97, 110]], [.str [102, 105, 108, 101, 115, 46, 108, 97, 110]], [.str [120, 45, 49, 46, 121, 46, 122]], [.str [119, 119, 119, 46, 101, 120, 97, 109, 112, 108, 101, 45, 55, 46, 110, 101, 116]], [.str [113]]] : List (List IV))[y]? = some [.str z] ∧ z.length ≤ 17 := by
  match y, hy with
  | 0, _ => exact ⟨_, rfl, by simp⟩
  | 1, _ => exact ⟨_, rfl, by simp⟩
  | 2, _ => exact ⟨_, rfl, by simp⟩
  | 3, _ => exact ⟨_, rfl, by simp⟩
  | 4, _ => exact ⟨_, rfl, by simp⟩
  | 5, _ => exact ⟨_, rfl, by simp⟩
 have hia : iadrF g6 1 (.slice h.n 0 6) (.int .i64 (y : Int)) = some (.ptr h.n y 0) := by
  rw [iadrF_nat hy (by rw [b6.eq]; rfl), Nat.zero_add]
 have hcc : cellO (g6.obj h.n) y 0 = some (.str z) := by
  rw [b6.eq]
  show (_ : Option (List IV)).bind _ = _
  rw [hz]; rfl
 simp (disch := (first | exact dB | fail)) only [hia, hcc, go_sem, ↓act_zero, Nat.reduceBEq, Nat.reduceAdd, reduceIte]
 exact ⟨_, rfl, hzl, S6, (Sav.refl p h).ext e_g5 |>.trans V6⟩
end
end Go.Proofs.YtaoffieemecioaaDoor


namespace Go.Proofs.YtaoffieemecioaaDoor
open Go Go.IW
section
attribute [local go_sem] boxA_1 boxA_2 boxA_3 bslA_1 List.getElem?_cons_zero List.getElem?_cons_succ Option.bind_some List.map_cons List.map_nil Nat.zero_add if_true List.getD_cons_zero List.getD_cons_succ List.contains_cons List.contains_nil Bool.or_true Bool.true_or Bool.or_false Bool.false_or Bool.not_true Bool.not_false true_and and_true rowA_whole mid_get stO_mid rowO_rows cellO_rows push_n set_n push_at push_old set_here set_there set_pushT set_pushN set_set upd_ne Nat.add_assoc Nat.add_zero stO_1s stO_ws boxA_s List.all_cons List.all_nil one_bool one_int one_str one_ptr one_nilptr one_slice one_eslice one_nilslice one_func one_iface one_niliface Bool.and_true Bool.and_self List.length_cons List.length_nil Nat.one_ne_zero Nat.succ_ne_zero if_false List.set_cons_zero List.set_cons_succ lay_nil lay_1 lay_w Option.map_some

theorem store1 {lo hi : Nat} {h : IH} {v : IV} {bs : List UInt8} {k : Nat} (o : Own lo hi h 5 1 v (strRows bs)) (hk : k < bs.length) :
  ∃ l, lo ≤ l ∧ l < hi ∧ hi ≤ h.n ∧ (∀ q : IntKind, iadrF h 1 v (.int q (k : Nat)) = some (.ptr l k 0)) ∧ (∃ c : UInt8, cellO (h.obj l) k 0 = some (.int .u8 c.toNat)) ∧
   ∀ b : UInt8, (∀ K : HoldK, @stO 1 k 0 [.int .u8 b.toNat] l (h.obj l) h K = K.k (.tuple []) (h.set l (.rows (strRows (bs.set k b)) 5 1 false))) ∧ Own lo hi (h.set l (.rows (strRows (bs.set k b)) 5 1 false)) 5 1 v (strRows (bs.set k b)) := by
 rcases o with ⟨hn, _⟩ | ⟨l, hne, rfl, h1, h2, h3, h4⟩
 ·have := congrArg List.length hn
  rw [strRows_len, ln0] at this
  omega
 ·have hkp : bs[k]? = some bs[k] := List.getElem?_eq_getElem hk
  generalize bs[k] = c at hkp
  have hr := strRows_at hkp
  have hset : ∀ b : UInt8, (strRows bs).set k [.int .u8 b.toNat] = strRows (bs.set k b) := fun b => by unfold strRows; rw [List.map_set]
  refine ⟨l, h1, h2, h3, fun q => ?_, ⟨c, ?_⟩, fun b => ⟨fun K => ?_, ?_⟩⟩
  ·rw [iadrF_nat (by rw [strRows_len]; exact hk) (by rw [h4]; rfl), Nat.zero_add]
  ·rw [h4]; show (_ : Option (List IV)).bind _ = _; rw [hr]; rfl
  ·rw [h4]
   unfold stO
   simp only [hr, List.length_singleton, List.all_cons, List.all_nil, IV.one, Bool.and_true, true_and, Nat.zero_add, Nat.le_refl, ← hset]
   rfl
  ·refine .inr ⟨l, ?_, by rw [strRows_len, strRows_len, List.length_set], h1, h2, h3, set_here _ _ _⟩
   intro hn
   have := congrArg List.length hn
   rw [strRows_len, List.length_set, ln0] at this
   omega
theorem xor_ex (x y : Int) : ∃ c : UInt8, IW.bits .xor .u8 x y = (c.toNat : Int) := ⟨_, by
 unfold IW.bits
 exact wr_u8 _⟩
noncomputable def xorB (x y : Int) : UInt8 := (xor_ex x y).choose
theorem xorB_eq (x y : Int) : IW.bits .xor .u8 x y = ((xorB x y).toNat : Int) := (xor_ex x y).choose_spec
theorem quo8 (k : Nat) (hk : k < 9223372036854775807) : ibin .quo (.int .i64 (k : Int)) (.int .i64 8) = some (.int .i64 ((k / 8 : Nat) : Int)) := by
 have : wr .i64 ((k / 8 : Nat) : Int) = ((k / 8 : Nat) : Int) := wr64 _ (by omega)
 simp [ibin, Int.tdiv_eq_ediv_of_nonneg, this]
 exact this
theorem rem8 (k : Nat) : ibin .rem (.int .i64 (k : Int)) (.int .i64 8) = some (.int .i64 ((k % 8 : Nat) : Int)) := by
 simp only [ibin, if_true, if_neg (show ¬ (8 : Int) = 0 by decide), Int.tmod_eq_emod_of_nonneg (show (0 : Int) ≤ k by omega)]
 rfl
set_option maxRecDepth 20000 in
theorem l03Flip_c (h : IH) (p : Nat) (v w : IV) (code bs : List UInt8) (most : Int) (S : Src h p v code) (hs : SlR h 1 w (strRows bs)) (hl : code.length ≤ 1048576) (hbl : bs.length ≤ 16777216) (m0 : 0 < most) (m1 : most ≤ 1048576) (hpn : p < h.n) :
  ICalls Tryd.prog 37 [.ptr p 0 0, w, .int .i64 most] h fun r h' => ∃ bs' : List UInt8, SlR h' 1 r (strRows bs') ∧ bs'.length = bs.length ∧ Src h' p v code ∧ Sav p h h' ∧ ∀ l i n, r = .slice l i n → h.n ≤ l := by
 refine icalls (.of ok37) (Nat.le_of_ble_eq_true rfl) ?_
 unfold c37
 have S0 := S
 simp (disch := (first | exact dB | fail)) only [go_sem, ↓act_zero, Nat.reduceBEq, Nat.reduceAdd, reduceIte]
 refine callA_of (l01Copy_c h w bs hs hbl) ?_
 rintro x g ⟨o, E⟩
 have S := S.ext E
 have hle := E.le
 have ol := o.lenF
 rw [strRows_len] at ol
 have V : Sav p h g := (Sav.refl p h).ext E
 simp (disch := (first | exact dB | fail)) only [ol, go_sem, ↓act_zero, Nat.reduceBEq, Nat.reduceAdd, reduceIte]
 refine test_dec (fun hb => ?_) (fun hb => ?_)
 ·simp (disch := (first | exact dB | fail)) only [go_sem, ↓act_zero, Nat.reduceBEq, Nat.reduceAdd, reduceIte]
  exact ⟨bs, o.sl, rfl, S, V, fun l i n hv => (o.at_ ⟨i, n, hv⟩).1⟩
 have w1 : wr .i64 (8 * (bs.length : Int)) = 8 * (bs.length : Int) := wr64 _ (by omega)
 simp (disch := (first | exact dB | fail)) only [ol, w1, go_sem, ↓act_zero, Nat.reduceBEq, Nat.reduceAdd, reduceIte]
 refine callA_of (l01Next_c g p v code (8 * (bs.length : Int)) S (by omega) (by omega) hl) ?_
 rintro r g1 ⟨a, rfl, a0, a1, S1, V1, hn1⟩
 simp (disch := (first | exact dB | fail)) only [go_sem, ↓act_zero, Nat.reduceBEq, Nat.reduceAdd, reduceIte]
 refine callA_of (l01Next_c g1 p v code most S1 (by omega) (by omega) hl) ?_
 rintro r g2 ⟨n, rfl, n0, n1, S2, V2, hn2⟩
 have o2 := (o.sav V1 (by omega)).sav V2 (by omega)
 have V := (V.trans V1).trans V2
 obtain ⟨a, rfl⟩ : ∃ m : Nat, a = (m : Int) := ⟨a.toNat, by omega⟩
 have w2 : wr .i64 (1 + n) = 1 + n := wr64 _ (by omega)
 simp (disch := (first | exact dB | fail)) only [w2, go_sem, ↓act_zero, Nat.reduceBEq, Nat.reduceAdd, reduceIte]
 refine loop_at (fun m e g => ∃ (k : Nat) (xs : List UInt8), m = 8 * bs.length - k ∧ k ≤ 8 * bs.length ∧ e 0 = .ptr p 0 0 ∧ e 7 = x ∧ e 8 = .int .i64 (a : Nat) ∧ e 9 = .int .i64 (1 + n) ∧ e 10 = .int .i64 (k : Nat) ∧ xs.length = bs.length ∧ Own h.n g2.n g 5 1 x (strRows xs) ∧ Src g p v code ∧ Sav p h g ∧ g.n = g2.n) (8 * bs.length - a) ?_ ?_
 ·refine ⟨a, bs, rfl, by omega, ?_⟩
  simp (disch := (first | exact dB | fail)) only [go_sem, ↓act_zero, Nat.reduceBEq, Nat.reduceAdd, reduceIte]
  exact ⟨o2.wide (Nat.le_refl _) (by omega) (Nat.le_refl _), S2, V⟩
 ·rintro m e g ⟨k, xs, rfl, hk, i0, i7, i8, i9, i10, hxl, o, S, V, hgn⟩
  have ol := o.lenF
  rw [strRows_len, hxl] at ol
  have w3 : wr .i64 ((a : Int) + (1 + n)) = (a : Int) + (1 + n) := wr64 _ (by omega)
  simp (disch := (first | exact dB | fail)) only [i0, i7, i8, i9, i10, ol, w1, w3, go_sem, ↓act_zero, Nat.reduceBEq, Nat.reduceAdd, reduceIte]
  refine test_of (fun hb => ?_) (fun hb => ?_)
  ·simp only [Bool.and_eq_true, decide_eq_true_eq] at hb
   have hk8 : k / 8 < xs.length := by omega
   have w4 : wr .i64 ((k : Int) + 1) = ((k + 1 : Nat) : Int) := by rw [wr64 _ (by omega)]; rfl
   have w5 : wr .u64 ((k % 8 : Nat) : Int) = ((k % 8 : Nat) : Int) := by rw [wrU]; omega
   have w6 := ib_shl (k := .u8) (a := 1) (b := ((k % 8 : Nat) : Int)) .u64 (by omega)
   by_cases ha : (k : Int) = (a : Int)
   ·have d1 : decide ((k : Int) = (a : Int)) = true := decide_eq_true ha
    obtain ⟨l, l1, l2, l3, hia, ⟨c, hcc⟩, hst⟩ := store1 o hk8
    have hst1 := fun b => (hst b).1
    simp (disch := (first | exact dB | fail)) only [i0, i7, i8, i9, i10, d1, quo8 k (by omega), rem8, w5, w6, hia, hcc, xorB_eq, hst1, w4, go_sem, ↓act_zero, Nat.reduceBEq, Nat.reduceAdd, reduceIte]
    exact ⟨_, by omega, k + 1, xs.set (k / 8) _, rfl, by omega, rfl, by rw [List.length_set, hxl], (hst _).2, S0.back hpn S (V.set (.inl (by omega)) _) (by simp (disch := omega) only [set_there]), V.set (.inl (by omega)) _, hgn⟩
   ·have d1 : decide ((k : Int) = (a : Int)) = false := decide_eq_false ha
    simp (disch := (first | exact dB | fail)) only [i0, i7, i8, i9, i10, d1, go_sem, ↓act_zero, Nat.reduceBEq, Nat.reduceAdd, reduceIte]
    refine callA_of (l01Bool_c g p v code S hl) ?_
    rintro r g3 ⟨t, rfl, S3, V3, hn3⟩
    have o3 := o.sav V3 (by omega)
    have V := V.trans V3
    simp (disch := (first | exact dB | fail)) only [go_sem, ↓act_zero, Nat.reduceBEq, Nat.reduceAdd, reduceIte]
    refine test_of (fun ht => ?_) (fun ht => ?_)
    ·obtain ⟨l, l1, l2, l3, hia, ⟨c, hcc⟩, hst⟩ := store1 o3 hk8
     have hst1 := fun b => (hst b).1
     simp (disch := (first | exact dB | fail)) only [i0, i7, i8, i9, i10, d1, quo8 k (by omega), rem8, w5, w6, hia, hcc, xorB_eq, hst1, w4, go_sem, ↓act_zero, Nat.reduceBEq, Nat.reduceAdd, reduceIte]
     exact ⟨_, by omega, k + 1, xs.set (k / 8) _, rfl, by omega, rfl, by rw [List.length_set, hxl], (hst _).2, S0.back hpn S3 (V.set (.inl (by omega)) _) (by simp (disch := omega) only [set_there]), V.set (.inl (by omega)) _, by first | omega | (simp only [set_n]; omega)⟩
    ·simp (disch := (first | exact dB | fail)) only [i0, i7, i8, i9, i10, w4, go_sem, ↓act_zero, Nat.reduceBEq, Nat.reduceAdd, reduceIte]
     exact ⟨_, by omega, k + 1, xs, rfl, by omega, rfl, hxl, o3, S3, V, by omega⟩
  ·simp (disch := (first | exact dB | fail)) only [i7, go_sem, ↓act_zero, Nat.reduceBEq, Nat.reduceAdd, reduceIte]
   exact ⟨xs, o.sl, hxl, S, V, fun l i n hv => (o.at_ ⟨i, n, hv⟩).1⟩
end
end Go.Proofs.YtaoffieemecioaaDoor


namespace Go.Proofs.YtaoffieemecioaaDoor
open Go Go.IW
section
attribute [local go_sem] boxA_1 boxA_2 boxA_3 bslA_1 List.getElem?_cons_zero List.getElem?_cons_succ Option.bind_some List.map_cons List.map_nil Nat.zero_add if_true List.getD_cons_zero List.getD_cons_succ List.contains_cons List.contains_nil Bool.or_true Bool.true_or Bool.or_false Bool.false_or Bool.not_true Bool.not_false true_and and_true rowA_whole mid_get stO_mid rowO_rows cellO_rows push_n set_n push_at push_old set_here set_there set_pushT set_pushN set_set upd_ne Nat.add_assoc Nat.add_zero stO_1s stO_ws boxA_s List.all_cons List.all_nil one_bool one_int one_str one_ptr one_nilptr one_slice one_eslice one_nilslice one_func one_iface one_niliface Bool.and_true Bool.and_self List.length_cons List.length_nil Nat.one_ne_zero Nat.succ_ne_zero if_false List.set_cons_zero List.set_cons_succ lay_nil lay_1 lay_w Option.map_some

theorem entRows_append (a b : List Ent) : entRows (a ++ b) = entRows a ++ entRows b := by simp [entRows]
set_option maxRecDepth 20000 in
set_option maxHeartbeats 1000000 in
theorem l19Zone_c (h : IH) (p : Nat) (v : IV) (code : List UInt8) (S : Src h p v code) (hl : code.length ≤ 1048576) (hpn : p < h.n) :
  ICalls Tryd.prog 36 [.ptr p 0 0] h fun r h' => ∃ es : List Ent, Own h.n h'.n h' 124 3 r (entRows es) ∧ es.length ≤ 14 ∧ Src h' p v code ∧ Sav p h h' := by
 refine icalls (.of ok36) (Nat.le_of_ble_eq_true rfl) ?_
 unfold c36
 have S0 := S
 simp (disch := (first | exact dB | fail)) only [bslA_0, go_sem, ↓act_zero, Nat.reduceBEq, Nat.reduceAdd, reduceIte]
 refine callA_of (l01Next_c h p v code 14 S (by omega) (by omega) hl) ?_
 rintro r g1 ⟨n, rfl, n0, n1, S1, V1, hn1⟩
 simp (disch := (first | exact dB | fail)) only [go_sem, ↓act_zero, Nat.reduceBEq, Nat.reduceAdd, reduceIte]
 refine loop_at (fun m e g => ∃ (k lo hi : Nat) (va : IV) (es : List Ent), m = n.toNat - k ∧ (k : Int) ≤ n ∧ e 0 = .ptr p 0 0 ∧ e 3 = va ∧ e 4 = .int .i64 n ∧ e 5 = .int .i64 (k : Nat) ∧ es.length ≤ k ∧ h.n ≤ lo ∧ hi ≤ g.n ∧ Own lo hi g 124 3 va (entRows es) ∧ Src g p v code ∧ Sav p h g) n.toNat ?_ ?_
 ·refine ⟨0, h.n, h.n, .eslice true, [], by omega, by omega, ?_⟩
  simp (disch := (first | exact dB | fail)) only [go_sem, ↓act_zero, Nat.reduceBEq, Nat.reduceAdd, reduceIte]
  exact ⟨rfl, by simp, Nat.le_refl _, by omega, Own.empty, S1, V1⟩
 ·rintro m e g ⟨k, lo, hi, va, es, rfl, hk, i0, i3, i4, i5, hel, hlo, hhi, o, S, V⟩
  have hle := V.le
  have w1 : wr .i64 ((k : Int) + 1) = ((k + 1 : Nat) : Int) := by rw [wr64 _ (by omega)]; rfl
  simp (disch := (first | exact dB | fail)) only [i0, i3, i4, i5, go_sem, ↓act_zero, Nat.reduceBEq, Nat.reduceAdd, reduceIte]
  refine test_dec (fun hb => ?_) (fun hb => ?_)
  ·simp (disch := (first | exact dB | fail)) only [i0, i3, i4, i5, go_sem, ↓act_zero, Nat.reduceBEq, Nat.reduceAdd, reduceIte]
   refine callA_of (l19Name_c g p v code S hl (by omega)) ?_
   rintro r g2 ⟨s, rfl, hsl, S, V2⟩
   have o := o.sav V2 (by omega)
   have V := V.trans V2
   have l2 := V2.le
   simp (disch := (first | exact dB | fail)) only [i0, i3, i4, i5, go_sem, ↓act_zero, Nat.reduceBEq, Nat.reduceAdd, reduceIte]
   refine callA_of (l02Host_c g2 p v code S hl) ?_
   rintro r g3 ⟨a, rfl, S, V3, hn3⟩
   have o := o.sav V3 (by omega)
   have V := V.trans V3
   simp (disch := (first | exact dB | fail)) only [i0, i3, i4, i5, go_sem, ↓act_zero, Nat.reduceBEq, Nat.reduceAdd, reduceIte]
   refine callA_of (l01Next_c g3 p v code 200 S (by omega) (by omega) hl) ?_
   rintro r g4 ⟨t, rfl, t0, t1, S, V4, hn4⟩
   have o := o.sav V4 (by omega)
   have V := V.trans V4
   simp (disch := (first | exact dB | fail)) only [i0, i3, i4, i5, go_sem, ↓act_zero, Nat.reduceBEq, Nat.reduceAdd, reduceIte]
   generalize hq_g5 : IH.push g4 (IObj.rows [[.str s, .int .i64 a, .int .i64 t]] 124 3 false) = g5
   have e_g5 : Ext g4 g5 := by rw [← hq_g5]; exact (Ext.refl _).push _
   have l_g5 : g5.n = g4.n + 1 := by rw [← hq_g5]; rfl
   have b : At g5 g4.n (IObj.rows [[.str s, .int .i64 a, .int .i64 t]] 124 3 false) := by rw [← hq_g5]; exact At.new _ _
   clear hq_g5
   have o := o.ext e_g5
   have S := S.ext e_g5
   have V := V.ext e_g5
   obtain ⟨q, hq⟩ : ∃ q, q = g4.n := ⟨_, rfl⟩
   rw [← hq] at b
   rw [← hq]
   refine callA_of (l01Next_c g5 p v code 4 S (by omega) (by omega) hl) ?_
   rintro r g6 ⟨y, rfl, y0, y1, S', V', hn_g6⟩
   have S := S'
   have o := o.sav V' (by omega)
   have b := b.sav V' (by omega)
   have V := V.trans V'
   clear V'
   simp (disch := (first | exact dB | fail)) only [i0, i3, i4, i5, go_sem, ↓act_zero, Nat.reduceBEq, Nat.reduceAdd, reduceIte]
   refine test_dec (fun hb => ?_) (fun hb => ?_)
   ·have qq := b.eq
    simp (disch := (first | exact dB | fail)) only [i0, i3, i4, i5, qq, go_sem, ↓act_zero, Nat.reduceBEq, Nat.reduceAdd, reduceIte]
    generalize hq : IH.set g6 (q) (.rows [[.str [102, 105, 108, 101, 115, 46, 108, 97, 110], .int .i64 a, .int .i64 t]] 124 3 false) = g7
    have l_g7 : g7.n = g6.n := by rw [← hq]; rfl
    have b : At g7 (q) (.rows [[.str [102, 105, 108, 101, 115, 46, 108, 97, 110], .int .i64 a, .int .i64 t]] 124 3 false) := by rw [← hq]; exact b.here
    have o := o.set (m := q) (by omega) (.rows [[.str [102, 105, 108, 101, 115, 46, 108, 97, 110], .int .i64 a, .int .i64 t]] 124 3 false)
    rw [hq] at o
    have V := V.set (l := q) (.inl (by omega)) (.rows [[.str [102, 105, 108, 101, 115, 46, 108, 97, 110], .int .i64 a, .int .i64 t]] 124 3 false)
    rw [hq] at V
    have S := S0.back hpn S V (by rw [← hq]; simp (disch := omega) only [set_there])
    clear hq
    refine callA_of (l01Next_c g7 p v code 12 S (by omega) (by omega) hl) ?_
    rintro r gy ⟨z, rfl, z0, z1, S', V', hn_gy⟩
    have S := S'
    have o := o.sav V' (by omega)
    have b := b.sav V' (by omega)
    have V := V.trans V'
    clear V'
    simp (disch := (first | exact dB | fail)) only [go_sem, ↓act_zero, Nat.reduceBEq, Nat.reduceAdd, reduceIte]
    refine test_dec (fun hc => ?_) (fun hc => ?_)
    ·have qq := b.eq
     simp (disch := (first | exact dB | fail)) only [i0, i3, i4, i5, qq, go_sem, ↓act_zero, Nat.reduceBEq, Nat.reduceAdd, reduceIte]
     generalize hq : IH.set gy (q) (.rows [[.str [102, 105, 108, 101, 115, 46, 108, 97, 110], .int .i64 (-1), .int .i64 t]] 124 3 false) = gx
     have l_gx : gx.n = gy.n := by rw [← hq]; rfl
     have b : At gx (q) (.rows [[.str [102, 105, 108, 101, 115, 46, 108, 97, 110], .int .i64 (-1), .int .i64 t]] 124 3 false) := by rw [← hq]; exact b.here
     have o := o.set (m := q) (by omega) (.rows [[.str [102, 105, 108, 101, 115, 46, 108, 97, 110], .int .i64 (-1), .int .i64 t]] 124 3 false)
     rw [hq] at o
     have V := V.set (l := q) (.inl (by omega)) (.rows [[.str [102, 105, 108, 101, 115, 46, 108, 97, 110], .int .i64 (-1), .int .i64 t]] 124 3 false)
     rw [hq] at V
     have S := S0.back hpn S V (by rw [← hq]; simp (disch := omega) only [set_there])
     clear hq
     have qq := b.eq
     try simp (disch := (first | exact dB | fail)) only [i0, i3, i4, i5, qq, go_sem, ↓act_zero, Nat.reduceBEq, Nat.reduceAdd, reduceIte]
     generalize hq_gZ : IH.push gx (IObj.rows [[.str [102, 105, 108, 101, 115, 46, 108, 97, 110], .int .i64 (-1), .int .i64 t]] 124 3 false) = gZ
     have e_gZ : Ext gx gZ := by rw [← hq_gZ]; exact (Ext.refl _).push _
     have l_gZ : gZ.n = gx.n + 1 := by rw [← hq_gZ]; rfl
     have bZ : At gZ gx.n (IObj.rows [[.str [102, 105, 108, 101, 115, 46, 108, 97, 110], .int .i64 (-1), .int .i64 t]] 124 3 false) := by rw [← hq_gZ]; exact At.new _ _
     clear hq_gZ
     have o := o.ext e_gZ
     have S := S.ext e_gZ
     have V := V.ext e_gZ
     try simp (disch := (first | exact dB | fail)) only [i0, i3, i4, i5, bZ.eq, go_sem, ↓act_zero, Nat.reduceBEq, Nat.reduceAdd, reduceIte]
     refine o.app (by simp) (by rw [entRows_len, List.length_singleton]; omega) ?_
     intro v6 h6 o6 t6 n6 v6o v6c
     have ht6 := t6.le
     have hVle := V.le
     have V6 : Sav p h h6 := ⟨by omega, fun m hm hp => (t6.obj m (by omega) (fun hv => by have := o.at_ hv; omega)).trans (V.obj m hm hp)⟩
     have S6 : Src h6 p v code := S0.back hpn S V6 (t6.obj p (by omega) (fun hv => by have := o.at_ hv; omega))
     simp (disch := (first | exact dB | fail)) only [i0, i3, i4, i5, w1, go_sem, ↓act_zero, Nat.reduceBEq, Nat.reduceAdd, reduceIte]
     refine ⟨_, ?_, k + 1, gZ.n, gZ.n + 1, v6, es ++ [⟨[102, 105, 108, 101, 115, 46, 108, 97, 110], (-1), t⟩], rfl, by omega, rfl, rfl, by simp; omega, by omega, by omega, ?_, S6, V6⟩
     ·omega
     ·rw [entRows_append]; exact o6
    simp (disch := (first | exact dB | fail)) only [go_sem, ↓act_zero, Nat.reduceBEq, Nat.reduceAdd, reduceIte]
    refine test_dec (fun hc => ?_) (fun hc => ?_)
    ·simp (disch := (first | exact dB | fail)) only [i0, i3, i4, i5, go_sem, ↓act_zero, Nat.reduceBEq, Nat.reduceAdd, reduceIte]
     refine callA_of (l01Next_c gy p v code 2 S (by omega) (by omega) hl) ?_
     rintro r gw ⟨u, rfl, u0, u1, S', V', hn_gw⟩
     have S := S'
     have o := o.sav V' (by omega)
     have b := b.sav V' (by omega)
     have V := V.trans V'
     clear V'
     have qq := b.eq
     have w2 : wr .i64 (86400 + u) = 86400 + u := wr64 _ (by omega)
     simp (disch := (first | exact dB | fail)) only [i0, i3, i4, i5, qq, w2, go_sem, ↓act_zero, Nat.reduceBEq, Nat.reduceAdd, reduceIte]
     generalize hq : IH.set gw (q) (.rows [[.str [102, 105, 108, 101, 115, 46, 108, 97, 110], .int .i64 a, .int .i64 (86400 + u)]] 124 3 false) = gx
     have l_gx : gx.n = gw.n := by rw [← hq]; rfl
     have b : At gx (q) (.rows [[.str [102, 105, 108, 101, 115, 46, 108, 97, 110], .int .i64 a, .int .i64 (86400 + u)]] 124 3 false) := by rw [← hq]; exact b.here
     have o := o.set (m := q) (by omega) (.rows [[.str [102, 105, 108, 101, 115, 46, 108, 97, 110], .int .i64 a, .int .i64 (86400 + u)]] 124 3 false)
     rw [hq] at o
     have V := V.set (l := q) (.inl (by omega)) (.rows [[.str [102, 105, 108, 101, 115, 46, 108, 97, 110], .int .i64 a, .int .i64 (86400 + u)]] 124 3 false)
     rw [hq] at V
     have S := S0.back hpn S V (by rw [← hq]; simp (disch := omega) only [set_there])
     clear hq
     have qq := b.eq
     try simp (disch := (first | exact dB | fail)) only [i0, i3, i4, i5, qq, go_sem, ↓act_zero, Nat.reduceBEq, Nat.reduceAdd, reduceIte]
     generalize hq_gZ : IH.push gx (IObj.rows [[.str [102, 105, 108, 101, 115, 46, 108, 97, 110], .int .i64 a, .int .i64 (86400 + u)]] 124 3 false) = gZ
     have e_gZ : Ext gx gZ := by rw [← hq_gZ]; exact (Ext.refl _).push _
     have l_gZ : gZ.n = gx.n + 1 := by rw [← hq_gZ]; rfl
     have bZ : At gZ gx.n (IObj.rows [[.str [102, 105, 108, 101, 115, 46, 108, 97, 110], .int .i64 a, .int .i64 (86400 + u)]] 124 3 false) := by rw [← hq_gZ]; exact At.new _ _
     clear hq_gZ
     have o := o.ext e_gZ
     have S := S.ext e_gZ
     have V := V.ext e_gZ
     try simp (disch := (first | exact dB | fail)) only [i0, i3, i4, i5, bZ.eq, go_sem, ↓act_zero, Nat.reduceBEq, Nat.reduceAdd, reduceIte]
     refine o.app (by simp) (by rw [entRows_len, List.length_singleton]; omega) ?_
     intro v6 h6 o6 t6 n6 v6o v6c
     have ht6 := t6.le
     have hVle := V.le
     have V6 : Sav p h h6 := ⟨by omega, fun m hm hp => (t6.obj m (by omega) (fun hv => by have := o.at_ hv; omega)).trans (V.obj m hm hp)⟩
     have S6 : Src h6 p v code := S0.back hpn S V6 (t6.obj p (by omega) (fun hv => by have := o.at_ hv; omega))
     simp (disch := (first | exact dB | fail)) only [i0, i3, i4, i5, w1, go_sem, ↓act_zero, Nat.reduceBEq, Nat.reduceAdd, reduceIte]
     refine ⟨_, ?_, k + 1, gZ.n, gZ.n + 1, v6, es ++ [⟨[102, 105, 108, 101, 115, 46, 108, 97, 110], a, (86400 + u)⟩], rfl, by omega, rfl, rfl, by simp; omega, by omega, by omega, ?_, S6, V6⟩
     ·omega
     ·rw [entRows_append]; exact o6
    simp (disch := (first | exact dB | fail)) only [go_sem, ↓act_zero, Nat.reduceBEq, Nat.reduceAdd, reduceIte]
    refine test_dec (fun hc => ?_) (fun hc => ?_)
    ·have qq := b.eq
     simp (disch := (first | exact dB | fail)) only [i0, i3, i4, i5, qq, go_sem, ↓act_zero, Nat.reduceBEq, Nat.reduceAdd, reduceIte]
     generalize hq : IH.set gy (q) (.rows [[.str [102, 105, 108, 101, 115, 46, 108, 97, 110], .int .i64 a, .int .i64 (-1)]] 124 3 false) = gx
     have l_gx : gx.n = gy.n := by rw [← hq]; rfl
     have b : At gx (q) (.rows [[.str [102, 105, 108, 101, 115, 46, 108, 97, 110], .int .i64 a, .int .i64 (-1)]] 124 3 false) := by rw [← hq]; exact b.here
     have o := o.set (m := q) (by omega) (.rows [[.str [102, 105, 108, 101, 115, 46, 108, 97, 110], .int .i64 a, .int .i64 (-1)]] 124 3 false)
     rw [hq] at o
     have V := V.set (l := q) (.inl (by omega)) (.rows [[.str [102, 105, 108, 101, 115, 46, 108, 97, 110], .int .i64 a, .int .i64 (-1)]] 124 3 false)
     rw [hq] at V
     have S := S0.back hpn S V (by rw [← hq]; simp (disch := omega) only [set_there])
     clear hq
     have qq := b.eq
     try simp (disch := (first | exact dB | fail)) only [i0, i3, i4, i5, qq, go_sem, ↓act_zero, Nat.reduceBEq, Nat.reduceAdd, reduceIte]
     generalize hq_gZ : IH.push gx (IObj.rows [[.str [102, 105, 108, 101, 115, 46, 108, 97, 110], .int .i64 a, .int .i64 (-1)]] 124 3 false) = gZ
     have e_gZ : Ext gx gZ := by rw [← hq_gZ]; exact (Ext.refl _).push _
     have l_gZ : gZ.n = gx.n + 1 := by rw [← hq_gZ]; rfl
     have bZ : At gZ gx.n (IObj.rows [[.str [102, 105, 108, 101, 115, 46, 108, 97, 110], .int .i64 a, .int .i64 (-1)]] 124 3 false) := by rw [← hq_gZ]; exact At.new _ _
     clear hq_gZ
     have o := o.ext e_gZ
     have S := S.ext e_gZ
     have V := V.ext e_gZ
     try simp (disch := (first | exact dB | fail)) only [i0, i3, i4, i5, bZ.eq, go_sem, ↓act_zero, Nat.reduceBEq, Nat.reduceAdd, reduceIte]
     refine o.app (by simp) (by rw [entRows_len, List.length_singleton]; omega) ?_
     intro v6 h6 o6 t6 n6 v6o v6c
     have ht6 := t6.le
     have hVle := V.le
     have V6 : Sav p h h6 := ⟨by omega, fun m hm hp => (t6.obj m (by omega) (fun hv => by have := o.at_ hv; omega)).trans (V.obj m hm hp)⟩
     have S6 : Src h6 p v code := S0.back hpn S V6 (t6.obj p (by omega) (fun hv => by have := o.at_ hv; omega))
     simp (disch := (first | exact dB | fail)) only [i0, i3, i4, i5, w1, go_sem, ↓act_zero, Nat.reduceBEq, Nat.reduceAdd, reduceIte]
     refine ⟨_, ?_, k + 1, gZ.n, gZ.n + 1, v6, es ++ [⟨[102, 105, 108, 101, 115, 46, 108, 97, 110], a, (-1)⟩], rfl, by omega, rfl, rfl, by simp; omega, by omega, by omega, ?_, S6, V6⟩
     ·omega
     ·rw [entRows_append]; exact o6
    ·skip
     have qq := b.eq
     try simp (disch := (first | exact dB | fail)) only [i0, i3, i4, i5, qq, go_sem, ↓act_zero, Nat.reduceBEq, Nat.reduceAdd, reduceIte]
     generalize hq_gZ : IH.push gy (IObj.rows [[.str [102, 105, 108, 101, 115, 46, 108, 97, 110], .int .i64 a, .int .i64 t]] 124 3 false) = gZ
     have e_gZ : Ext gy gZ := by rw [← hq_gZ]; exact (Ext.refl _).push _
     have l_gZ : gZ.n = gy.n + 1 := by rw [← hq_gZ]; rfl
     have bZ : At gZ gy.n (IObj.rows [[.str [102, 105, 108, 101, 115, 46, 108, 97, 110], .int .i64 a, .int .i64 t]] 124 3 false) := by rw [← hq_gZ]; exact At.new _ _
     clear hq_gZ
     have o := o.ext e_gZ
     have S := S.ext e_gZ
     have V := V.ext e_gZ
     try simp (disch := (first | exact dB | fail)) only [i0, i3, i4, i5, bZ.eq, go_sem, ↓act_zero, Nat.reduceBEq, Nat.reduceAdd, reduceIte]
     refine o.app (by simp) (by rw [entRows_len, List.length_singleton]; omega) ?_
     intro v6 h6 o6 t6 n6 v6o v6c
     have ht6 := t6.le
     have hVle := V.le
     have V6 : Sav p h h6 := ⟨by omega, fun m hm hp => (t6.obj m (by omega) (fun hv => by have := o.at_ hv; omega)).trans (V.obj m hm hp)⟩
     have S6 : Src h6 p v code := S0.back hpn S V6 (t6.obj p (by omega) (fun hv => by have := o.at_ hv; omega))
     simp (disch := (first | exact dB | fail)) only [i0, i3, i4, i5, w1, go_sem, ↓act_zero, Nat.reduceBEq, Nat.reduceAdd, reduceIte]
     refine ⟨_, ?_, k + 1, gZ.n, gZ.n + 1, v6, es ++ [⟨[102, 105, 108, 101, 115, 46, 108, 97, 110], a, t⟩], rfl, by omega, rfl, rfl, by simp; omega, by omega, by omega, ?_, S6, V6⟩
     ·omega
     ·rw [entRows_append]; exact o6
   ·simp (disch := (first | exact dB | fail)) only [i0, i3, i4, i5, go_sem, ↓act_zero, Nat.reduceBEq, Nat.reduceAdd, reduceIte]
    refine callA_of (l01Next_c g6 p v code 12 S (by omega) (by omega) hl) ?_
    rintro r gy ⟨z, rfl, z0, z1, S', V', hn_gy⟩
    have S := S'
    have o := o.sav V' (by omega)
    have b := b.sav V' (by omega)
    have V := V.trans V'
    clear V'
    simp (disch := (first | exact dB | fail)) only [go_sem, ↓act_zero, Nat.reduceBEq, Nat.reduceAdd, reduceIte]
    refine test_dec (fun hc => ?_) (fun hc => ?_)
    ·have qq := b.eq
     simp (disch := (first | exact dB | fail)) only [i0, i3, i4, i5, qq, go_sem, ↓act_zero, Nat.reduceBEq, Nat.reduceAdd, reduceIte]
     generalize hq : IH.set gy (q) (.rows [[.str s, .int .i64 (-1), .int .i64 t]] 124 3 false) = gx
     have l_gx : gx.n = gy.n := by rw [← hq]; rfl
     have b : At gx (q) (.rows [[.str s, .int .i64 (-1), .int .i64 t]] 124 3 false) := by rw [← hq]; exact b.here
     have o := o.set (m := q) (by omega) (.rows [[.str s, .int .i64 (-1), .int .i64 t]] 124 3 false)
     rw [hq] at o
     have V := V.set (l := q) (.inl (by omega)) (.rows [[.str s, .int .i64 (-1), .int .i64 t]] 124 3 false)
     rw [hq] at V
     have S := S0.back hpn S V (by rw [← hq]; simp (disch := omega) only [set_there])
     clear hq
     have qq := b.eq
     try simp (disch := (first | exact dB | fail)) only [i0, i3, i4, i5, qq, go_sem, ↓act_zero, Nat.reduceBEq, Nat.reduceAdd, reduceIte]
     generalize hq_gZ : IH.push gx (IObj.rows [[.str s, .int .i64 (-1), .int .i64 t]] 124 3 false) = gZ
     have e_gZ : Ext gx gZ := by rw [← hq_gZ]; exact (Ext.refl _).push _
     have l_gZ : gZ.n = gx.n + 1 := by rw [← hq_gZ]; rfl
     have bZ : At gZ gx.n (IObj.rows [[.str s, .int .i64 (-1), .int .i64 t]] 124 3 false) := by rw [← hq_gZ]; exact At.new _ _
     clear hq_gZ
     have o := o.ext e_gZ
     have S := S.ext e_gZ
     have V := V.ext e_gZ
     try simp (disch := (first | exact dB | fail)) only [i0, i3, i4, i5, bZ.eq, go_sem, ↓act_zero, Nat.reduceBEq, Nat.reduceAdd, reduceIte]
     refine o.app (by simp) (by rw [entRows_len, List.length_singleton]; omega) ?_
     intro v6 h6 o6 t6 n6 v6o v6c
     have ht6 := t6.le
     have hVle := V.le
     have V6 : Sav p h h6 := ⟨by omega, fun m hm hp => (t6.obj m (by omega) (fun hv => by have := o.at_ hv; omega)).trans (V.obj m hm hp)⟩
     have S6 : Src h6 p v code := S0.back hpn S V6 (t6.obj p (by omega) (fun hv => by have := o.at_ hv; omega))
     simp (disch := (first | exact dB | fail)) only [i0, i3, i4, i5, w1, go_sem, ↓act_zero, Nat.reduceBEq, Nat.reduceAdd, reduceIte]
     refine ⟨_, ?_, k + 1, gZ.n, gZ.n + 1, v6, es ++ [⟨s, (-1), t⟩], rfl, by omega, rfl, rfl, by simp; omega, by omega, by omega, ?_, S6, V6⟩
     ·omega
     ·rw [entRows_append]; exact o6
    simp (disch := (first | exact dB | fail)) only [go_sem, ↓act_zero, Nat.reduceBEq, Nat.reduceAdd, reduceIte]
    refine test_dec (fun hc => ?_) (fun hc => ?_)
    ·simp (disch := (first | exact dB | fail)) only [i0, i3, i4, i5, go_sem, ↓act_zero, Nat.reduceBEq, Nat.reduceAdd, reduceIte]
     refine callA_of (l01Next_c gy p v code 2 S (by omega) (by omega) hl) ?_
     rintro r gw ⟨u, rfl, u0, u1, S', V', hn_gw⟩
     have S := S'
     have o := o.sav V' (by omega)
     have b := b.sav V' (by omega)
     have V := V.trans V'
     clear V'
     have qq := b.eq
     have w2 : wr .i64 (86400 + u) = 86400 + u := wr64 _ (by omega)
     simp (disch := (first | exact dB | fail)) only [i0, i3, i4, i5, qq, w2, go_sem, ↓act_zero, Nat.reduceBEq, Nat.reduceAdd, reduceIte]
     generalize hq : IH.set gw (q) (.rows [[.str s, .int .i64 a, .int .i64 (86400 + u)]] 124 3 false) = gx
     have l_gx : gx.n = gw.n := by rw [← hq]; rfl
     have b : At gx (q) (.rows [[.str s, .int .i64 a, .int .i64 (86400 + u)]] 124 3 false) := by rw [← hq]; exact b.here
     have o := o.set (m := q) (by omega) (.rows [[.str s, .int .i64 a, .int .i64 (86400 + u)]] 124 3 false)
     rw [hq] at o
     have V := V.set (l := q) (.inl (by omega)) (.rows [[.str s, .int .i64 a, .int .i64 (86400 + u)]] 124 3 false)
     rw [hq] at V
     have S := S0.back hpn S V (by rw [← hq]; simp (disch := omega) only [set_there])
     clear hq
     have qq := b.eq
     try simp (disch := (first | exact dB | fail)) only [i0, i3, i4, i5, qq, go_sem, ↓act_zero, Nat.reduceBEq, Nat.reduceAdd, reduceIte]
     generalize hq_gZ : IH.push gx (IObj.rows [[.str s, .int .i64 a, .int .i64 (86400 + u)]] 124 3 false) = gZ
     have e_gZ : Ext gx gZ := by rw [← hq_gZ]; exact (Ext.refl _).push _
     have l_gZ : gZ.n = gx.n + 1 := by rw [← hq_gZ]; rfl
     have bZ : At gZ gx.n (IObj.rows [[.str s, .int .i64 a, .int .i64 (86400 + u)]] 124 3 false) := by rw [← hq_gZ]; exact At.new _ _
     clear hq_gZ
     have o := o.ext e_gZ
     have S := S.ext e_gZ
     have V := V.ext e_gZ
     try simp (disch := (first | exact dB | fail)) only [i0, i3, i4, i5, bZ.eq, go_sem, ↓act_zero, Nat.reduceBEq, Nat.reduceAdd, reduceIte]
     refine o.app (by simp) (by rw [entRows_len, List.length_singleton]; omega) ?_
     intro v6 h6 o6 t6 n6 v6o v6c
     have ht6 := t6.le
     have hVle := V.le
     have V6 : Sav p h h6 := ⟨by omega, fun m hm hp => (t6.obj m (by omega) (fun hv => by have := o.at_ hv; omega)).trans (V.obj m hm hp)⟩
     have S6 : Src h6 p v code := S0.back hpn S V6 (t6.obj p (by omega) (fun hv => by have := o.at_ hv; omega))
     simp (disch := (first | exact dB | fail)) only [i0, i3, i4, i5, w1, go_sem, ↓act_zero, Nat.reduceBEq, Nat.reduceAdd, reduceIte]
     refine ⟨_, ?_, k + 1, gZ.n, gZ.n + 1, v6, es ++ [⟨s, a, (86400 + u)⟩], rfl, by omega, rfl, rfl, by simp; omega, by omega, by omega, ?_, S6, V6⟩
     ·omega
     ·rw [entRows_append]; exact o6
    simp (disch := (first | exact dB | fail)) only [go_sem, ↓act_zero, Nat.reduceBEq, Nat.reduceAdd, reduceIte]
    refine test_dec (fun hc => ?_) (fun hc => ?_)
    ·have qq := b.eq
     simp (disch := (first | exact dB | fail)) only [i0, i3, i4, i5, qq, go_sem, ↓act_zero, Nat.reduceBEq, Nat.reduceAdd, reduceIte]
     generalize hq : IH.set gy (q) (.rows [[.str s, .int .i64 a, .int .i64 (-1)]] 124 3 false) = gx
     have l_gx : gx.n = gy.n := by rw [← hq]; rfl
     have b : At gx (q) (.rows [[.str s, .int .i64 a, .int .i64 (-1)]] 124 3 false) := by rw [← hq]; exact b.here
     have o := o.set (m := q) (by omega) (.rows [[.str s, .int .i64 a, .int .i64 (-1)]] 124 3 false)
     rw [hq] at o
     have V := V.set (l := q) (.inl (by omega)) (.rows [[.str s, .int .i64 a, .int .i64 (-1)]] 124 3 false)
     rw [hq] at V
     have S := S0.back hpn S V (by rw [← hq]; simp (disch := omega) only [set_there])
     clear hq
     have qq := b.eq
     try simp (disch := (first | exact dB | fail)) only [i0, i3, i4, i5, qq, go_sem, ↓act_zero, Nat.reduceBEq, Nat.reduceAdd, reduceIte]
     generalize hq_gZ : IH.push gx (IObj.rows [[.str s, .int .i64 a, .int .i64 (-1)]] 124 3 false) = gZ
     have e_gZ : Ext gx gZ := by rw [← hq_gZ]; exact (Ext.refl _).push _
     have l_gZ : gZ.n = gx.n + 1 := by rw [← hq_gZ]; rfl
     have bZ : At gZ gx.n (IObj.rows [[.str s, .int .i64 a, .int .i64 (-1)]] 124 3 false) := by rw [← hq_gZ]; exact At.new _ _
     clear hq_gZ
     have o := o.ext e_gZ
     have S := S.ext e_gZ
     have V := V.ext e_gZ
     try simp (disch := (first | exact dB | fail)) only [i0, i3, i4, i5, bZ.eq, go_sem, ↓act_zero, Nat.reduceBEq, Nat.reduceAdd, reduceIte]
     refine o.app (by simp) (by rw [entRows_len, List.length_singleton]; omega) ?_
     intro v6 h6 o6 t6 n6 v6o v6c
     have ht6 := t6.le
     have hVle := V.le
     have V6 : Sav p h h6 := ⟨by omega, fun m hm hp => (t6.obj m (by omega) (fun hv => by have := o.at_ hv; omega)).trans (V.obj m hm hp)⟩
     have S6 : Src h6 p v code := S0.back hpn S V6 (t6.obj p (by omega) (fun hv => by have := o.at_ hv; omega))
     simp (disch := (first | exact dB | fail)) only [i0, i3, i4, i5, w1, go_sem, ↓act_zero, Nat.reduceBEq, Nat.reduceAdd, reduceIte]
     refine ⟨_, ?_, k + 1, gZ.n, gZ.n + 1, v6, es ++ [⟨s, a, (-1)⟩], rfl, by omega, rfl, rfl, by simp; omega, by omega, by omega, ?_, S6, V6⟩
     ·omega
     ·rw [entRows_append]; exact o6
    ·skip
     have qq := b.eq
     try simp (disch := (first | exact dB | fail)) only [i0, i3, i4, i5, qq, go_sem, ↓act_zero, Nat.reduceBEq, Nat.reduceAdd, reduceIte]
     generalize hq_gZ : IH.push gy (IObj.rows [[.str s, .int .i64 a, .int .i64 t]] 124 3 false) = gZ
     have e_gZ : Ext gy gZ := by rw [← hq_gZ]; exact (Ext.refl _).push _
     have l_gZ : gZ.n = gy.n + 1 := by rw [← hq_gZ]; rfl
     have bZ : At gZ gy.n (IObj.rows [[.str s, .int .i64 a, .int .i64 t]] 124 3 false) := by rw [← hq_gZ]; exact At.new _ _
     clear hq_gZ
     have o := o.ext e_gZ
     have S := S.ext e_gZ
     have V := V.ext e_gZ
     try simp (disch := (first | exact dB | fail)) only [i0, i3, i4, i5, bZ.eq, go_sem, ↓act_zero, Nat.reduceBEq, Nat.reduceAdd, reduceIte]
     refine o.app (by simp) (by rw [entRows_len, List.length_singleton]; omega) ?_
     intro v6 h6 o6 t6 n6 v6o v6c
     have ht6 := t6.le
     have hVle := V.le
     have V6 : Sav p h h6 := ⟨by omega, fun m hm hp => (t6.obj m (by omega) (fun hv => by have := o.at_ hv; omega)).trans (V.obj m hm hp)⟩
     have S6 : Src h6 p v code := S0.back hpn S V6 (t6.obj p (by omega) (fun hv => by have := o.at_ hv; omega))
     simp (disch := (first | exact dB | fail)) only [i0, i3, i4, i5, w1, go_sem, ↓act_zero, Nat.reduceBEq, Nat.reduceAdd, reduceIte]
     refine ⟨_, ?_, k + 1, gZ.n, gZ.n + 1, v6, es ++ [⟨s, a, t⟩], rfl, by omega, rfl, rfl, by simp; omega, by omega, by omega, ?_, S6, V6⟩
     ·omega
     ·rw [entRows_append]; exact o6
  ·simp (disch := (first | exact dB | fail)) only [i0, i3, i4, i5, go_sem, ↓act_zero, Nat.reduceBEq, Nat.reduceAdd, reduceIte]
   exact ⟨es, o.wide hlo hhi (Nat.le_refl _), by omega, S, V⟩
end
end Go.Proofs.YtaoffieemecioaaDoor


namespace Go.Proofs.YtaoffieemecioaaDoor
open Go Go.IW
section
attribute [local go_sem] boxA_1 boxA_2 boxA_3 bslA_1 List.getElem?_cons_zero List.getElem?_cons_succ Option.bind_some List.map_cons List.map_nil Nat.zero_add if_true List.getD_cons_zero List.getD_cons_succ List.contains_cons List.contains_nil Bool.or_true Bool.true_or Bool.or_false Bool.false_or Bool.not_true Bool.not_false true_and and_true rowA_whole mid_get stO_mid rowO_rows cellO_rows push_n set_n push_at push_old set_here set_there set_pushT set_pushN set_set upd_ne Nat.add_assoc Nat.add_zero stO_1s stO_ws boxA_s List.all_cons List.all_nil one_bool one_int one_str one_ptr one_nilptr one_slice one_eslice one_nilslice one_func one_iface one_niliface Bool.and_true Bool.and_self List.length_cons List.length_nil Nat.one_ne_zero Nat.succ_ne_zero if_false List.set_cons_zero List.set_cons_succ lay_nil lay_1 lay_w Option.map_some

theorem dec_le (n : Nat) (h : n < 18446744073709551616) : (Lib.decDigits n).length ≤ 20 := by rw [Lib.decDigits_length]; exact Lib.nDigits_le20 n h
theorem dec_big {n : Nat} (h : ¬ n < 10) : Lib.decDigits n = Lib.decDigits (n / 10) ++ [UInt8.ofNat (48 + n % 10)] := by
 rw [Lib.decDigits, dif_neg h]
theorem dec_small {n : Nat} (h : n < 10) : Lib.decDigits n = [UInt8.ofNat (48 + n)] := by
 rw [Lib.decDigits, dif_pos h]
theorem digit_wr {n : Nat} (h : n < 10) : wr .u8 (wr .i64 (48 + (n : Int))) = ((UInt8.ofNat (48 + n)).toNat : Int) := by
 rw [wr64 _ (by omega)]
 unfold wr
 rw [IntKind.wrap_u8, UInt8.toNat_ofNat']
 omega
theorem b2s_one (b : UInt8) : bytesOf (List.take 1 (List.drop 0 [[IV.int .u8 (b.toNat : Int)]])) = some [b] := by
 simp [bytesOf]
theorem quo_nat (a b : Nat) (hb : b ≠ 0) (ha : a ≤ 9223372036854775807) (hb2 : b ≤ 9223372036854775807) : ibin .quo (.int .i64 (a : Int)) (.int .i64 (b : Int)) = some (.int .i64 ((a / b : Nat) : Int)) := by
 have h0 : (b : Int) ≠ 0 := by omega
 have hle : a / b ≤ a := Nat.div_le_self a b
 have e : Int.tdiv (a : Int) (b : Int) = ((a / b : Nat) : Int) := by rw [Int.tdiv_eq_ediv_of_nonneg (by omega)]; rfl
 have h2 : (0 : Int) ≤ ((a / b : Nat) : Int) := Int.natCast_nonneg _
 have h3 : ((a / b : Nat) : Int) ≤ (a : Int) := by exact_mod_cast hle
 unfold ibin
 simp only [if_true, if_neg h0]
 rw [e, wr64 _ ⟨by omega, by omega⟩]
theorem rem_nat (a b : Nat) (hb : b ≠ 0) : ibin .rem (.int .i64 (a : Int)) (.int .i64 (b : Int)) = some (.int .i64 ((a % b : Nat) : Int)) := by
 have h0 : (b : Int) ≠ 0 := by omega
 have e : Int.tmod (a : Int) (b : Int) = ((a % b : Nat) : Int) := by rw [Int.tmod_eq_emod_of_nonneg (by omega)]; rfl
 simp only [ibin, if_true, if_neg h0, e]

set_option maxRecDepth 20000 in
theorem l02Dec_c : ∀ (n : Nat) (h : IH), n ≤ 9223372036854775807 → ICalls Tryd.prog 17 [.int .i64 n] h fun r h' => r = .str (Lib.decDigits n) ∧ Ext h h' := by
 intro n
 induction n using Nat.strongRecOn with
 | ind n ih =>
  intro h hn
  refine icalls (.of ok17) (Nat.le_of_ble_eq_true rfl) ?_
  unfold c17
  by_cases h1 : n < 10
  ·have d1 : decide ((n : Int) < 10) = true := decide_eq_true (by omega)
   have hw := digit_wr h1
   simp (disch := (first | exact dB | fail)) only [d1, hw, b2s_one, Nat.le_refl, go_sem, ↓act_zero, Nat.reduceBEq, Nat.reduceAdd, reduceIte]
   rw [dec_small h1]
   exact ⟨rfl, (Ext.refl _).push _⟩
  ·have d1 : decide ((n : Int) < 10) = false := decide_eq_false (by omega)
   have hq : ibin .quo (.int .i64 (n : Int)) (.int .i64 10) = some (.int .i64 ((n / 10 : Nat) : Int)) := quo_nat n 10 (by omega) hn (by omega)
   have hr : ibin .rem (.int .i64 (n : Int)) (.int .i64 10) = some (.int .i64 ((n % 10 : Nat) : Int)) := rem_nat n 10 (by omega)
   have hm : n % 10 < 10 := Nat.mod_lt _ (by omega)
   have hw := digit_wr hm
   have hlen := dec_le (n / 10) (by omega)
   have hc := ibs_cat (s := Lib.decDigits (n / 10)) (t := [UInt8.ofNat (48 + n % 10)]) (by simp; omega)
   have hd : n / 10 < n := by omega
   simp (disch := (first | exact dB | fail)) only [d1, hq, hr, hw, b2s_one, Nat.le_refl, go_sem, ↓act_zero, Nat.reduceBEq, Nat.reduceAdd, reduceIte]
   refine either_of ?_ ?_
   ·simp (disch := (first | exact dB | fail)) only [go_sem, ↓act_zero, Nat.reduceBEq, Nat.reduceAdd, reduceIte]
    refine callA_of (ih (n / 10) hd h (by omega)) ?_
    rintro r h2 ⟨rfl, E⟩
    simp (disch := (first | exact dB | fail)) only [hq, hr, hw, b2s_one, Nat.le_refl, hc, go_sem, ↓act_zero, Nat.reduceBEq, Nat.reduceAdd, reduceIte]
    rw [dec_big h1]
    exact ⟨rfl, E.push _⟩
   ·simp (disch := (first | exact dB | fail)) only [hq, hr, hw, b2s_one, Nat.le_refl, go_sem, ↓act_zero, Nat.reduceBEq, Nat.reduceAdd, reduceIte]
    refine callA_of (ih (n / 10) hd _ (by omega)) ?_
    rintro r h2 ⟨rfl, E⟩
    simp (disch := (first | exact dB | fail)) only [hq, hr, hw, b2s_one, Nat.le_refl, hc, go_sem, ↓act_zero, Nat.reduceBEq, Nat.reduceAdd, reduceIte]
    have hb : h2.obj h.n = .rows [[IV.int .u8 ((UInt8.ofNat (48 + n % 10)).toNat : Int)]] 5 1 false := by
     rw [E.obj h.n (by rw [push_n]; omega)]
     exact push_new _ _
    refine ⟨?_, ?_⟩
    ·rw [hb, b2sO_rows, if_pos (by simp), b2s_one]; rfl
    ·rw [dec_big h1]
     exact ⟨rfl, ((Ext.refl _).push _).trans E⟩
end
end Go.Proofs.YtaoffieemecioaaDoor


namespace Go.Proofs.YtaoffieemecioaaDoor
open Go Go.IW

section
attribute [local go_sem] boxA_1 boxA_2 boxA_3 bslA_1 List.getElem?_cons_zero List.getElem?_cons_succ Option.bind_some List.map_cons List.map_nil Nat.zero_add if_true List.getD_cons_zero List.getD_cons_succ List.contains_cons List.contains_nil Bool.or_true Bool.true_or Bool.or_false Bool.false_or Bool.not_true Bool.not_false true_and and_true rowA_whole push_n set_n push_obj set_obj set_push set_push_ne set_set Nat.add_assoc Nat.left_eq_add Nat.add_eq_left Nat.add_left_cancel_iff stO_1s stO_ws boxA_s one_bool one_int one_str one_ptr one_nilptr one_slice one_eslice one_nilslice one_func one_iface one_niliface List.all_cons List.all_nil List.length_cons List.length_nil Bool.and_true Nat.one_ne_zero Nat.succ_ne_zero if_false List.set_cons_zero List.set_cons_succ
set_option maxRecDepth 20000 in
theorem specDecodeQuery_c (h : IH) (v : IV) (bs : List UInt8) (hs : SlR h 1 v (strRows bs)) (hl : bs.length ≤ 1048576) : ICalls Tryd.prog 58 [v] h fun r h' => QueryRes h h' r (decQ bs) := by
 refine icalls (.of ok58) (Nat.le_of_ble_eq_true rfl) ?_
 unfold c58
 have hlen := hs.lenF
 rw [strRows_len] at hlen
 simp only [go_sem, ↓act_zero, Nat.reduceBEq, Nat.reduceAdd, reduceIte, Nat.reduceEqDiff, Nat.reduceLT, Nat.reduceLeDiff]
 generalize hq_g0 : IH.push h (IObj.rows [[IV.int .i64 0, IV.str []]] 116 2 false) = g0
 have e_g0 : Ext h g0 := by rw [← hq_g0]; exact (Ext.refl _).push _
 have l_g0 : g0.n = h.n + 1 := by rw [← hq_g0]; rfl
 have bb : At g0 h.n (IObj.rows [[IV.int .i64 0, IV.str []]] 116 2 false) := by rw [← hq_g0]; exact At.new _ _
 clear hq_g0
 have hs := hs.ext e_g0
 refine callA_of (l19Text_c g0 v bs 3 hs hl (by omega)) ?_
 rintro r g ⟨rfl, rfl⟩
 have fin : ∀ (o : IObj) (c : Int), decQ bs = (0, [], c) → QueryRes h (g.set h.n o) (.tuple [.agg [.int .i64 0, .str []], .int .i64 c]) (decQ bs) := by
  intro o c e
  rw [e]
  exact ⟨rfl, e_g0.set _ (Nat.le_refl _) _⟩
 by_cases c1 : bs.length ≤ 3 ∨ bs.length < 3 + 1 + (bs.getD 3 0).toNat
 ·have e1 : textAt bs 3 = ([], -1) := if_pos c1
  have d1 : decide ((-1 : Int) < 0) = true := rfl
  rw [e1]
  simp only [d1, bb.eq, lay_nil, lay_1, lay_w, Option.map_some, go_sem, ↓act_zero, Nat.reduceBEq, Nat.reduceAdd, reduceIte, Nat.reduceEqDiff, Nat.reduceLT, Nat.reduceLeDiff]
  exact fin _ _ (if_pos (by omega))
 ·have e1 : textAt bs 3 = ((bs.take (3 + 1 + (bs.getD 3 0).toNat)).drop (3 + 1), ((3 + 1 + (bs.getD 3 0).toNat : Nat) : Int)) := if_neg c1
  have hdef : decQ bs = if 4 + (bs.getD 3 0).toNat < bs.length then (0, [], 5)
   else if bs.getD 2 0 ≠ 0 then (0, [], 9)
   else if okName ((bs.take (4 + (bs.getD 3 0).toNat)).drop 4) = true then (numB (bs.take 2), (bs.take (4 + (bs.getD 3 0).toNat)).drop 4, 0) else (0, [], 6) := if_neg (by omega)
  rw [e1]
  generalize bs.getD 3 0 = b3 at *
  have d1 : decide (((3 + 1 + b3.toNat : Nat) : Int) < 0) = false := decide_eq_false (by omega)
  by_cases c2 : 4 + b3.toNat < bs.length
  ·have d2 : decide (((3 + 1 + b3.toNat : Nat) : Int) < (bs.length : Int)) = true := decide_eq_true (by omega)
   simp only [d1, d2, hlen, bb.eq, lay_nil, lay_1, lay_w, Option.map_some, go_sem, ↓act_zero, Nat.reduceBEq, Nat.reduceAdd, reduceIte, Nat.reduceEqDiff, Nat.reduceLT, Nat.reduceLeDiff]
   exact fin _ _ (hdef.trans (if_pos c2))
  ·have d2 : decide (((3 + 1 + b3.toNat : Nat) : Int) < (bs.length : Int)) = false := decide_eq_false (by omega)
   rw [if_neg c2] at hdef
   have hkp := getD_at (bs := bs) (k := 2) (by omega)
   generalize hb2 : bs.getD 2 0 = b2 at *
   obtain ⟨l, j, hia, hll, hrow⟩ := hs.at (m := 2) (strRows_at hkp) .i64
   have hc := cellO_row hrow
   have hia : iadrF g 1 v (.int .i64 2) = some (.ptr l j 0) := hia
   by_cases c3 : b2 = 0
   ·have d3 : decide ((b2.toNat : Int) = 0) = true := decide_eq_true (by rw [c3]; rfl)
    rw [if_neg (by simpa using c3)] at hdef
    simp only [d1, d2, hlen, hia, hc, d3, lay_nil, lay_1, lay_w, Option.map_some, go_sem, ↓act_zero, Nat.reduceBEq, Nat.reduceAdd, reduceIte, Nat.reduceEqDiff, Nat.reduceLT, Nat.reduceLeDiff]
    generalize hnm : (bs.take (3 + 1 + b3.toNat)).drop (3 + 1) = nm
    have hnm' : (bs.take (4 + b3.toNat)).drop 4 = nm := hnm
    rw [hnm'] at hdef
    have hnl : nm.length ≤ 1048576 := by rw [← hnm]; simp; omega
    refine callA_of (specNameOK_c g nm hnl) ?_
    rintro r h1 ⟨rfl, E1⟩
    have bb := bb.ext E1
    have hs := hs.ext E1
    have le_E1 := E1.le
    have E := e_g0.trans E1
    cases c4 : okName nm
    ·rw [if_neg (by rw [c4]; decide)] at hdef
     simp only [c4, bb.eq, lay_nil, lay_1, lay_w, Option.map_some, go_sem, ↓act_zero, Nat.reduceBEq, Nat.reduceAdd, reduceIte, Nat.reduceEqDiff, Nat.reduceLT, Nat.reduceLeDiff]
     rw [hdef]
     exact ⟨rfl, E.set _ (Nat.le_refl _) _⟩
    ·rw [if_pos c4] at hdef
     obtain ⟨v1, hv1, hs1⟩ := hs.hi (b := 2) (q := .i64) (by rw [strRows_len]; omega)
     rw [strRows_take] at hs1
     have hv1 : slcF h1 1 v none (some (.int .i64 2)) = some v1 := hv1
     simp only [c4, bb.eq, hv1, Option.map_some, Option.map_none, lay_nil, lay_1, lay_w, Option.map_some, go_sem, ↓act_zero, Nat.reduceBEq, Nat.reduceAdd, reduceIte, Nat.reduceEqDiff, Nat.reduceLT, Nat.reduceLeDiff]
     refine callA_of (l03Num_c h1 v1 _ hs1 (by simp; omega)) ?_
     rintro r h2 ⟨rfl, rfl⟩
     simp only [c4, bb.eq, lay_nil, lay_1, lay_w, Option.map_some, go_sem, ↓act_zero, Nat.reduceBEq, Nat.reduceAdd, reduceIte, Nat.reduceEqDiff, Nat.reduceLT, Nat.reduceLeDiff]
     rw [hdef]
     exact ⟨rfl, E.set _ (Nat.le_refl _) _⟩
   ·have d3 : decide ((b2.toNat : Int) = 0) = false := decide_eq_false (fun h0 => c3 (UInt8.toNat_inj.1 (by simpa using h0)))
    rw [if_pos (by simpa using c3)] at hdef
    simp only [d1, d2, hlen, hia, hc, d3, bb.eq, lay_nil, lay_1, lay_w, Option.map_some, go_sem, ↓act_zero, Nat.reduceBEq, Nat.reduceAdd, reduceIte, Nat.reduceEqDiff, Nat.reduceLT, Nat.reduceLeDiff]
    exact fin _ _ hdef
end
end Go.Proofs.YtaoffieemecioaaDoor



namespace Go.Proofs.YtaoffieemecioaaDoor
open Go Go.IW

section
attribute [local go_sem] boxA_1 boxA_2 boxA_3 bslA_1 List.getElem?_cons_zero List.getElem?_cons_succ Option.bind_some List.map_cons List.map_nil Nat.zero_add if_true List.getD_cons_zero List.getD_cons_succ List.contains_cons List.contains_nil Bool.or_true Bool.true_or Bool.or_false Bool.false_or Bool.not_true Bool.not_false true_and and_true rowA_whole push_n set_n push_obj set_obj set_push set_push_ne set_set Nat.add_assoc Nat.left_eq_add Nat.add_eq_left Nat.add_left_cancel_iff stO_1s stO_ws boxA_s one_bool one_int one_str one_ptr one_nilptr one_slice one_eslice one_nilslice one_func one_iface one_niliface List.all_cons List.all_nil List.length_cons List.length_nil Bool.and_true Nat.one_ne_zero Nat.succ_ne_zero if_false List.set_cons_zero List.set_cons_succ
set_option maxRecDepth 20000 in
theorem specAnswerName_c (h : IH) (vz vb : IV) (es : List Ent) (bs : List UInt8) (hz : SlR h 3 vz (entRows es)) (hb : SlR h 1 vb (strRows bs)) (hzl : es.length ≤ 1048576) (hbl : bs.length ≤ 1048576) :
  ICalls Tryd.prog 35 [vz, vb] h fun r h' => BytesRes h h' r (ansN es bs) := by
 refine icalls (.of ok35) (Nat.le_of_ble_eq_true rfl) ?_
 unfold c35
 simp only [go_sem, ↓act_zero, Nat.reduceBEq, Nat.reduceAdd, reduceIte, Nat.reduceEqDiff, Nat.reduceLT, Nat.reduceLeDiff]
 refine callA_of (specDecodeQuery_c h vb bs hb hbl) ?_
 rintro r h1 ⟨rfl, E1⟩
 have hql := decQ_len bs
 have hdef : ansN es bs = if (decQ bs).2.2 ≠ 0 then ([], (decQ bs).2.2) else encR (decQ bs).1 (ansQ es (decQ bs).2.1).1 (ansQ es (decQ bs).2.1).2.1 (decQ bs).2.1 (ansQ es (decQ bs).2.1).2.2 := rfl
 generalize decQ bs = dq at hql hdef ⊢
 obtain ⟨id, qn, qc⟩ := dq
 simp only at hql hdef ⊢
 simp only [go_sem, ↓act_zero, Nat.reduceBEq, Nat.reduceAdd, reduceIte, Nat.reduceEqDiff, Nat.reduceLT, Nat.reduceLeDiff]
 generalize hq_g2 : IH.push h1 (IObj.rows [[IV.int .i64 id, IV.str qn]] 116 2 false) = g2
 have e_g2 : Ext h1 g2 := by rw [← hq_g2]; exact (Ext.refl _).push _
 have l_g2 : g2.n = h1.n + 1 := by rw [← hq_g2]; rfl
 have bq : At g2 h1.n (IObj.rows [[IV.int .i64 id, IV.str qn]] 116 2 false) := by rw [← hq_g2]; exact At.new _ _
 clear hq_g2
 have E1 := E1.ext e_g2
 have lE := E1.le
 by_cases c0 : qc = 0
 ·subst c0
  rw [if_neg (by decide)] at hdef
  simp only [bq.eq, decide_true, lay_nil, lay_1, lay_w, Option.map_some, go_sem, ↓act_zero, Nat.reduceBEq, Nat.reduceAdd, reduceIte, Nat.reduceEqDiff, Nat.reduceLT, Nat.reduceLeDiff]
  generalize hq_g3 : IH.push g2 (IObj.rows [[IV.int .i64 id, IV.int .i64 20, IV.int .i64 10, IV.str qn, IV.nilslice]] 55 5 false) = g3
  have e_g3 : Ext g2 g3 := by rw [← hq_g3]; exact (Ext.refl _).push _
  have l_g3 : g3.n = g2.n + 1 := by rw [← hq_g3]; rfl
  have br : At g3 g2.n (IObj.rows [[IV.int .i64 id, IV.int .i64 20, IV.int .i64 10, IV.str qn, IV.nilslice]] 55 5 false) := by rw [← hq_g3]; exact At.new _ _
  clear hq_g3
  have E1 := E1.ext e_g3
  have bq := bq.ext e_g3
  refine loop_at (fun n e g => ∃ k, n = es.length - k ∧ k ≤ es.length ∧ e 0 = vz ∧ e 6 = .ptr h1.n 0 0 ∧ e 8 = .ptr g2.n 0 0 ∧ e 9 = .int .i64 (k : Nat) ∧ AnsAt h g h1.n g2.n id qn (ansQ (es.take k) qn)) es.length ?_ ?_
  ·refine ⟨0, by omega, by omega, ?_⟩
   simp only [go_sem, ↓act_zero, Nat.reduceBEq, Nat.reduceAdd, reduceIte, Nat.reduceEqDiff, Nat.reduceLT, Nat.reduceLeDiff]
   exact ⟨rfl, E1, bq, .nilslice, g2.n + 1, g2.n + 1, br, Own.nil, Nat.lt_succ_self _, by omega⟩
  ·clear bq br E1
   rintro n e g ⟨k, rfl, hk, i0, i6, i8, i9, E, bq, v, lo, hi, br, ov, hlo, hhi⟩
   have hz := hz.ext E
   have hlz := hz.lenF
   rw [entRows_len] at hlz
   obtain ⟨inv1, inv2⟩ := ansQ_inv qn (es.take k)
   simp only [i0, i6, i8, i9, hlz, go_sem, ↓act_zero, Nat.reduceBEq, Nat.reduceAdd, reduceIte, Nat.reduceEqDiff, Nat.reduceLT, Nat.reduceLeDiff]
   refine test_dec (fun hb => ?_) (fun hb => ?_)
   ·have hlt' : k < es.length := by omega
    have hkp : es[k]? = some es[k] := List.getElem?_eq_getElem hlt'
    generalize es[k] = p at hkp
    have hst := ansQ_snoc (qn := qn) hkp
    generalize hs0 : ansQ (es.take k) qn = st at br ov hst inv1 inv2
    obtain ⟨sc, sttl, zs⟩ := st
    simp only at br ov inv1 inv2
    obtain ⟨l, j, hia, hll, hrow⟩ := hz.at (m := k) (entRows_at hkp) .i64
    have hvl := ov.sl.lenF
    rw [intRows_len] at hvl
    have bql := bq.lt
    have brl := br.lt
    have nq : (h1.n = g.n) = False := by simp; omega
    have nr : (g2.n = g.n) = False := by simp; omega
    unfold Ent.row at hrow
    have hrw := rowA_whole [IV.str p.nm, .int .i64 p.addr, .int .i64 p.ttl] 3 rfl
    have nrg : (g.n = g2.n) = False := by simp; omega
    simp only [i0, i6, i8, i9, hia, hrow, hrw, bq.eq, br.eq, nq, nr, go_sem, ↓act_zero, Nat.reduceBEq, Nat.reduceAdd, reduceIte, Nat.reduceEqDiff, Nat.reduceLT, Nat.reduceLeDiff]
    generalize hq_g4 : IH.push g (IObj.rows [[IV.str p.nm, IV.int .i64 p.addr, IV.int .i64 p.ttl]] 124 3 false) = g4
    have e_g4 : Ext g g4 := by rw [← hq_g4]; exact (Ext.refl _).push _
    have l_g4 : g4.n = g.n + 1 := by rw [← hq_g4]; rfl
    have bp : At g4 g.n (IObj.rows [[IV.str p.nm, IV.int .i64 p.addr, IV.int .i64 p.ttl]] 124 3 false) := by rw [← hq_g4]; exact At.new _ _
    clear hq_g4
    have E := E.ext e_g4
    have bq := bq.ext e_g4
    have br := br.ext e_g4
    have ov := ov.ext e_g4
    by_cases n1 : p.nm = qn
    ·have d1 : decide (p.nm = qn) = true := decide_eq_true n1
     simp only [i0, i6, i8, i9, d1, bq.eq, br.eq, bp.eq, go_sem, ↓act_zero, Nat.reduceBEq, Nat.reduceAdd, reduceIte, Nat.reduceEqDiff, Nat.reduceLT, Nat.reduceLeDiff]
     refine callA_of (l02AddrOK_c _ p.addr) ?_
     rintro r g4a ⟨rfl, rfl⟩
     cases n2 : okAddr p.addr
     ·simp only [i0, i6, i8, i9, d1, go_sem, ↓act_zero, Nat.reduceBEq, Nat.reduceAdd, reduceIte, Nat.reduceEqDiff, Nat.reduceLT, Nat.reduceLeDiff]
      have hskip : ansStep qn (sc, sttl, zs) p = (sc, sttl, zs) := if_neg (by unfold fitE; rw [n2, Bool.and_false, Bool.false_and]; simp)
      refine ⟨_, ?_, k + 1, rfl, by omega, wr64_succ k (by omega), ?_⟩
      ·omega
      ·rw [hst, hskip]; exact ⟨E, bq, v, lo, hi, br, ov, hlo, by omega⟩
     simp only [i0, i6, i8, i9, d1, bq.eq, br.eq, bp.eq, go_sem, ↓act_zero, Nat.reduceBEq, Nat.reduceAdd, reduceIte, Nat.reduceEqDiff, Nat.reduceLT, Nat.reduceLeDiff]
     refine callA_of (l01In_c _ p.ttl 0 86400) ?_
     rintro r g4b ⟨rfl, rfl⟩
     cases n3 : (decide (0 ≤ p.ttl) && decide (p.ttl ≤ 86400))
     ·simp only [i0, i6, i8, i9, d1, go_sem, ↓act_zero, Nat.reduceBEq, Nat.reduceAdd, reduceIte, Nat.reduceEqDiff, Nat.reduceLT, Nat.reduceLeDiff]
      have hskip : ansStep qn (sc, sttl, zs) p = (sc, sttl, zs) := if_neg (by unfold fitE; rw [n3, Bool.and_false]; simp)
      refine ⟨_, ?_, k + 1, rfl, by omega, wr64_succ k (by omega), ?_⟩
      ·omega
      ·rw [hst, hskip]; exact ⟨E, bq, v, lo, hi, br, ov, hlo, by omega⟩
     have hfit : fitE qn p = true := by unfold fitE; rw [n2, n3, d1]; rfl
     by_cases n4 : 8 ≤ zs.length
     ·have d4 : decide ((8 : Int) ≤ (zs.length : Int)) = true := decide_eq_true (by omega)
      simp only [i0, i6, i8, i9, d1, br.eq, hvl, d4, go_sem, ↓act_zero, Nat.reduceBEq, Nat.reduceAdd, reduceIte, Nat.reduceEqDiff, Nat.reduceLT, Nat.reduceLeDiff]
      have hskip : ansStep qn (sc, sttl, zs) p = (sc, sttl, zs) := if_neg (by exact fun hx => by have h2 : zs.length < 8 := hx.2; omega)
      refine ⟨_, ?_, k + 1, rfl, by omega, wr64_succ k (by omega), ?_⟩
      ·omega
      ·rw [hst, hskip]; exact ⟨E, bq, v, lo, hi, br, ov, hlo, by omega⟩
     have d4 : decide ((8 : Int) ≤ (zs.length : Int)) = false := decide_eq_false (by omega)
     rcases inv1 with rfl | rfl
     ·have d5 : decide ((20 : Int) = 0) = false := rfl
      have hgo : ansStep qn (20, sttl, zs) p = (0, p.ttl, zs ++ [p.addr]) := by
       unfold ansStep
       rw [if_pos ⟨hfit, by show zs.length < 8; omega⟩]
       rw [if_pos (.inl (by show (20 : Int) ≠ 0; decide))]
      simp only [i0, i6, i8, i9, d1, br.eq, bp.eq, hvl, d4, d5, nrg, go_sem, ↓act_zero, Nat.reduceBEq, Nat.reduceAdd, reduceIte, Nat.reduceEqDiff, Nat.reduceLT, Nat.reduceLeDiff]
      generalize hq_g5 : IH.set g4b (g2.n) (IObj.rows [[IV.int .i64 id, IV.int .i64 0, IV.int .i64 p.ttl, IV.str qn, v]] 55 5 false) = g5
      have l_g5 : g5.n = g4b.n := by rw [← hq_g5]; rfl
      have br : At g5 (g2.n) (IObj.rows [[IV.int .i64 id, IV.int .i64 0, IV.int .i64 p.ttl, IV.str qn, v]] 55 5 false) := by rw [← hq_g5]; exact br.here
      have ov := ov.set (m := g2.n) (by omega) (IObj.rows [[IV.int .i64 id, IV.int .i64 0, IV.int .i64 p.ttl, IV.str qn, v]] 55 5 false)
      rw [hq_g5] at ov
      have bq := bq.set (p := g2.n) (o' := IObj.rows [[IV.int .i64 id, IV.int .i64 0, IV.int .i64 p.ttl, IV.str qn, v]] 55 5 false) (by omega)
      rw [hq_g5] at bq
      have bp := bp.set (p := g2.n) (o' := IObj.rows [[IV.int .i64 id, IV.int .i64 0, IV.int .i64 p.ttl, IV.str qn, v]] 55 5 false) (by omega)
      rw [hq_g5] at bp
      have E := E.set (g2.n) (by omega) (IObj.rows [[IV.int .i64 id, IV.int .i64 0, IV.int .i64 p.ttl, IV.str qn, v]] 55 5 false)
      rw [hq_g5] at E
      clear hq_g5
      have n5 : (g2.n = g5.n) = False := by simp; omega
      try simp only [i0, i6, i8, i9, bq.eq, br.eq, bp.eq, n5, nrg, bslA_1, go_sem, ↓act_zero, Nat.reduceBEq, Nat.reduceAdd, reduceIte, Nat.reduceEqDiff, Nat.reduceLT, Nat.reduceLeDiff]
      generalize hq_g6 : IH.push g5 (IObj.rows [[IV.int .i64 p.addr]] 2 1 false) = g6
      have e_g6 : Ext g5 g6 := by rw [← hq_g6]; exact (Ext.refl _).push _
      have l_g6 : g6.n = g5.n + 1 := by rw [← hq_g6]; rfl
      have bw : At g6 g5.n (IObj.rows [[IV.int .i64 p.addr]] 2 1 false) := by rw [← hq_g6]; exact At.new _ _
      clear hq_g6
      have br := br.ext e_g6
      have ov := ov.ext e_g6
      have bq := bq.ext e_g6
      have bp := bp.ext e_g6
      have E := E.ext e_g6
      refine ov.app (by simp) (by rw [intRows_len]; simp; omega) ?_
      intro v6 h7 o6 t6 n6 v6o v6c
      have br := br.turn ov (by omega) t6
      have bq := bq.turn ov (by omega) t6
      have E := E.turn ov (by omega) t6
      have le_t6 := t6.le
      simp only [i0, i6, i8, i9, br.eq, v6o, v6c, go_sem, ↓act_zero, Nat.reduceBEq, Nat.reduceAdd, reduceIte, Nat.reduceEqDiff, Nat.reduceLT, Nat.reduceLeDiff]
      have o7 : Own g6.n (g6.n + 1) h7 2 1 v6 (intRows (zs ++ [p.addr])) := by rw [intRows_append]; exact o6
      generalize hq_g8 : IH.set h7 (g2.n) (IObj.rows [[IV.int .i64 id, IV.int .i64 0, IV.int .i64 p.ttl, IV.str qn, v6]] 55 5 false) = g8
      have l_g8 : g8.n = h7.n := by rw [← hq_g8]; rfl
      have br : At g8 (g2.n) (IObj.rows [[IV.int .i64 id, IV.int .i64 0, IV.int .i64 p.ttl, IV.str qn, v6]] 55 5 false) := by rw [← hq_g8]; exact br.here
      have o7 := o7.set (m := g2.n) (by omega) (IObj.rows [[IV.int .i64 id, IV.int .i64 0, IV.int .i64 p.ttl, IV.str qn, v6]] 55 5 false)
      rw [hq_g8] at o7
      have bq := bq.set (p := g2.n) (o' := IObj.rows [[IV.int .i64 id, IV.int .i64 0, IV.int .i64 p.ttl, IV.str qn, v6]] 55 5 false) (by omega)
      rw [hq_g8] at bq
      have E := E.set (g2.n) (by omega) (IObj.rows [[IV.int .i64 id, IV.int .i64 0, IV.int .i64 p.ttl, IV.str qn, v6]] 55 5 false)
      rw [hq_g8] at E
      clear hq_g8
      refine ⟨_, ?_, k + 1, rfl, by omega, wr64_succ k (by omega), ?_⟩
      ·omega
      ·rw [hst, hgo]; exact ⟨E, bq, v6, g6.n, g6.n + 1, br, o7, by omega, by omega⟩
     have d5 : decide ((0 : Int) = 0) = true := rfl
     by_cases n6 : p.ttl < sttl
     ·have d6 : decide (p.ttl < sttl) = true := decide_eq_true n6
      have hgo : ansStep qn (0, sttl, zs) p = (0, p.ttl, zs ++ [p.addr]) := by
       unfold ansStep
       rw [if_pos ⟨hfit, by show zs.length < 8; omega⟩]
       rw [if_pos (.inr n6)]
      simp only [i0, i6, i8, i9, d1, br.eq, bp.eq, hvl, d4, d5, d6, decide_true, eq_self, nrg, go_sem, ↓act_zero, Nat.reduceBEq, Nat.reduceAdd, reduceIte, Nat.reduceEqDiff, Nat.reduceLT, Nat.reduceLeDiff]
      generalize hq_g5 : IH.set g4b (g2.n) (IObj.rows [[IV.int .i64 id, IV.int .i64 0, IV.int .i64 p.ttl, IV.str qn, v]] 55 5 false) = g5
      have l_g5 : g5.n = g4b.n := by rw [← hq_g5]; rfl
      have br : At g5 (g2.n) (IObj.rows [[IV.int .i64 id, IV.int .i64 0, IV.int .i64 p.ttl, IV.str qn, v]] 55 5 false) := by rw [← hq_g5]; exact br.here
      have ov := ov.set (m := g2.n) (by omega) (IObj.rows [[IV.int .i64 id, IV.int .i64 0, IV.int .i64 p.ttl, IV.str qn, v]] 55 5 false)
      rw [hq_g5] at ov
      have bq := bq.set (p := g2.n) (o' := IObj.rows [[IV.int .i64 id, IV.int .i64 0, IV.int .i64 p.ttl, IV.str qn, v]] 55 5 false) (by omega)
      rw [hq_g5] at bq
      have bp := bp.set (p := g2.n) (o' := IObj.rows [[IV.int .i64 id, IV.int .i64 0, IV.int .i64 p.ttl, IV.str qn, v]] 55 5 false) (by omega)
      rw [hq_g5] at bp
      have E := E.set (g2.n) (by omega) (IObj.rows [[IV.int .i64 id, IV.int .i64 0, IV.int .i64 p.ttl, IV.str qn, v]] 55 5 false)
      rw [hq_g5] at E
      clear hq_g5
      have n5 : (g2.n = g5.n) = False := by simp; omega
      try simp only [i0, i6, i8, i9, bq.eq, br.eq, bp.eq, n5, nrg, bslA_1, go_sem, ↓act_zero, Nat.reduceBEq, Nat.reduceAdd, reduceIte, Nat.reduceEqDiff, Nat.reduceLT, Nat.reduceLeDiff]
      generalize hq_g6 : IH.push g5 (IObj.rows [[IV.int .i64 p.addr]] 2 1 false) = g6
      have e_g6 : Ext g5 g6 := by rw [← hq_g6]; exact (Ext.refl _).push _
      have l_g6 : g6.n = g5.n + 1 := by rw [← hq_g6]; rfl
      have bw : At g6 g5.n (IObj.rows [[IV.int .i64 p.addr]] 2 1 false) := by rw [← hq_g6]; exact At.new _ _
      clear hq_g6
      have br := br.ext e_g6
      have ov := ov.ext e_g6
      have bq := bq.ext e_g6
      have bp := bp.ext e_g6
      have E := E.ext e_g6
      refine ov.app (by simp) (by rw [intRows_len]; simp; omega) ?_
      intro v6 h7 o6 t6 n6 v6o v6c
      have br := br.turn ov (by omega) t6
      have bq := bq.turn ov (by omega) t6
      have E := E.turn ov (by omega) t6
      have le_t6 := t6.le
      simp only [i0, i6, i8, i9, br.eq, v6o, v6c, go_sem, ↓act_zero, Nat.reduceBEq, Nat.reduceAdd, reduceIte, Nat.reduceEqDiff, Nat.reduceLT, Nat.reduceLeDiff]
      have o7 : Own g6.n (g6.n + 1) h7 2 1 v6 (intRows (zs ++ [p.addr])) := by rw [intRows_append]; exact o6
      generalize hq_g8 : IH.set h7 (g2.n) (IObj.rows [[IV.int .i64 id, IV.int .i64 0, IV.int .i64 p.ttl, IV.str qn, v6]] 55 5 false) = g8
      have l_g8 : g8.n = h7.n := by rw [← hq_g8]; rfl
      have br : At g8 (g2.n) (IObj.rows [[IV.int .i64 id, IV.int .i64 0, IV.int .i64 p.ttl, IV.str qn, v6]] 55 5 false) := by rw [← hq_g8]; exact br.here
      have o7 := o7.set (m := g2.n) (by omega) (IObj.rows [[IV.int .i64 id, IV.int .i64 0, IV.int .i64 p.ttl, IV.str qn, v6]] 55 5 false)
      rw [hq_g8] at o7
      have bq := bq.set (p := g2.n) (o' := IObj.rows [[IV.int .i64 id, IV.int .i64 0, IV.int .i64 p.ttl, IV.str qn, v6]] 55 5 false) (by omega)
      rw [hq_g8] at bq
      have E := E.set (g2.n) (by omega) (IObj.rows [[IV.int .i64 id, IV.int .i64 0, IV.int .i64 p.ttl, IV.str qn, v6]] 55 5 false)
      rw [hq_g8] at E
      clear hq_g8
      refine ⟨_, ?_, k + 1, rfl, by omega, wr64_succ k (by omega), ?_⟩
      ·omega
      ·rw [hst, hgo]; exact ⟨E, bq, v6, g6.n, g6.n + 1, br, o7, by omega, by omega⟩
     ·have d6 : decide (p.ttl < sttl) = false := decide_eq_false n6
      have hgo : ansStep qn (0, sttl, zs) p = (0, sttl, zs ++ [p.addr]) := by
       unfold ansStep
       rw [if_pos ⟨hfit, by show zs.length < 8; omega⟩]
       rw [if_neg (by show ¬ ((0 : Int) ≠ 0 ∨ p.ttl < sttl); omega)]
      simp only [i0, i6, i8, i9, d1, br.eq, bp.eq, hvl, d4, d5, d6, decide_true, eq_self, nrg, go_sem, ↓act_zero, Nat.reduceBEq, Nat.reduceAdd, reduceIte, Nat.reduceEqDiff, Nat.reduceLT, Nat.reduceLeDiff]
      generalize hq_g5 : IH.set g4b (g2.n) (IObj.rows [[IV.int .i64 id, IV.int .i64 0, IV.int .i64 sttl, IV.str qn, v]] 55 5 false) = g5
      have l_g5 : g5.n = g4b.n := by rw [← hq_g5]; rfl
      have br : At g5 (g2.n) (IObj.rows [[IV.int .i64 id, IV.int .i64 0, IV.int .i64 sttl, IV.str qn, v]] 55 5 false) := by rw [← hq_g5]; exact br.here
      have ov := ov.set (m := g2.n) (by omega) (IObj.rows [[IV.int .i64 id, IV.int .i64 0, IV.int .i64 sttl, IV.str qn, v]] 55 5 false)
      rw [hq_g5] at ov
      have bq := bq.set (p := g2.n) (o' := IObj.rows [[IV.int .i64 id, IV.int .i64 0, IV.int .i64 sttl, IV.str qn, v]] 55 5 false) (by omega)
      rw [hq_g5] at bq
      have bp := bp.set (p := g2.n) (o' := IObj.rows [[IV.int .i64 id, IV.int .i64 0, IV.int .i64 sttl, IV.str qn, v]] 55 5 false) (by omega)
      rw [hq_g5] at bp
      have E := E.set (g2.n) (by omega) (IObj.rows [[IV.int .i64 id, IV.int .i64 0, IV.int .i64 sttl, IV.str qn, v]] 55 5 false)
      rw [hq_g5] at E
      clear hq_g5
      have n5 : (g2.n = g5.n) = False := by simp; omega
      try simp only [i0, i6, i8, i9, bq.eq, br.eq, bp.eq, n5, nrg, bslA_1, go_sem, ↓act_zero, Nat.reduceBEq, Nat.reduceAdd, reduceIte, Nat.reduceEqDiff, Nat.reduceLT, Nat.reduceLeDiff]
      generalize hq_g6 : IH.push g5 (IObj.rows [[IV.int .i64 p.addr]] 2 1 false) = g6
      have e_g6 : Ext g5 g6 := by rw [← hq_g6]; exact (Ext.refl _).push _
      have l_g6 : g6.n = g5.n + 1 := by rw [← hq_g6]; rfl
      have bw : At g6 g5.n (IObj.rows [[IV.int .i64 p.addr]] 2 1 false) := by rw [← hq_g6]; exact At.new _ _
      clear hq_g6
      have br := br.ext e_g6
      have ov := ov.ext e_g6
      have bq := bq.ext e_g6
      have bp := bp.ext e_g6
      have E := E.ext e_g6
      refine ov.app (by simp) (by rw [intRows_len]; simp; omega) ?_
      intro v6 h7 o6 t6 n6 v6o v6c
      have br := br.turn ov (by omega) t6
      have bq := bq.turn ov (by omega) t6
      have E := E.turn ov (by omega) t6
      have le_t6 := t6.le
      simp only [i0, i6, i8, i9, br.eq, v6o, v6c, go_sem, ↓act_zero, Nat.reduceBEq, Nat.reduceAdd, reduceIte, Nat.reduceEqDiff, Nat.reduceLT, Nat.reduceLeDiff]
      have o7 : Own g6.n (g6.n + 1) h7 2 1 v6 (intRows (zs ++ [p.addr])) := by rw [intRows_append]; exact o6
      generalize hq_g8 : IH.set h7 (g2.n) (IObj.rows [[IV.int .i64 id, IV.int .i64 0, IV.int .i64 sttl, IV.str qn, v6]] 55 5 false) = g8
      have l_g8 : g8.n = h7.n := by rw [← hq_g8]; rfl
      have br : At g8 (g2.n) (IObj.rows [[IV.int .i64 id, IV.int .i64 0, IV.int .i64 sttl, IV.str qn, v6]] 55 5 false) := by rw [← hq_g8]; exact br.here
      have o7 := o7.set (m := g2.n) (by omega) (IObj.rows [[IV.int .i64 id, IV.int .i64 0, IV.int .i64 sttl, IV.str qn, v6]] 55 5 false)
      rw [hq_g8] at o7
      have bq := bq.set (p := g2.n) (o' := IObj.rows [[IV.int .i64 id, IV.int .i64 0, IV.int .i64 sttl, IV.str qn, v6]] 55 5 false) (by omega)
      rw [hq_g8] at bq
      have E := E.set (g2.n) (by omega) (IObj.rows [[IV.int .i64 id, IV.int .i64 0, IV.int .i64 sttl, IV.str qn, v6]] 55 5 false)
      rw [hq_g8] at E
      clear hq_g8
      refine ⟨_, ?_, k + 1, rfl, by omega, wr64_succ k (by omega), ?_⟩
      ·omega
      ·rw [hst, hgo]; exact ⟨E, bq, v6, g6.n, g6.n + 1, br, o7, by omega, by omega⟩
    ·have d1 : decide (p.nm = qn) = false := decide_eq_false n1
     simp only [i0, i6, i8, i9, d1, go_sem, ↓act_zero, Nat.reduceBEq, Nat.reduceAdd, reduceIte, Nat.reduceEqDiff, Nat.reduceLT, Nat.reduceLeDiff]
     have hskip : ansStep qn (sc, sttl, zs) p = (sc, sttl, zs) := if_neg (by unfold fitE; rw [d1, Bool.false_and, Bool.false_and]; simp)
     refine ⟨_, ?_, k + 1, rfl, by omega, wr64_succ k (by omega), ?_⟩
     ·omega
     ·rw [hst, hskip]; exact ⟨E, bq, v, lo, hi, br, ov, hlo, by omega⟩
   ·obtain rfl : k = es.length := by omega
    rw [List.take_length] at br ov inv2
    generalize ansQ es qn = st at br ov hdef inv2
    obtain ⟨sc, sttl, zs⟩ := st
    simp only at br ov hdef inv2
    simp only [i8, br.eq, go_sem, ↓act_zero, Nat.reduceBEq, Nat.reduceAdd, reduceIte, Nat.reduceEqDiff, Nat.reduceLT, Nat.reduceLeDiff]
    refine callA_of (specEncodeReply_c g id sc sttl qn v zs ov.sl (by omega) (by omega)) ?_
    rintro r h7 ⟨vr, rfl, o7, E7⟩
    rw [← hdef] at o7 ⊢
    simp only [go_sem, ↓act_zero, Nat.reduceBEq, Nat.reduceAdd, reduceIte, Nat.reduceEqDiff, Nat.reduceLT, Nat.reduceLeDiff]
    exact ⟨vr, rfl, o7.wide E.le (Nat.le_refl _) (Nat.le_refl _), E.trans E7⟩
 ·have d0 : decide (qc = 0) = false := decide_eq_false c0
  rw [if_pos c0] at hdef
  simp only [d0, go_sem, ↓act_zero, Nat.reduceBEq, Nat.reduceAdd, reduceIte, Nat.reduceEqDiff, Nat.reduceLT, Nat.reduceLeDiff]
  rw [hdef]
  exact ⟨_, rfl, Own.nil, E1⟩
end
end Go.Proofs.YtaoffieemecioaaDoor


set_option maxRecDepth 20000
namespace Go.Proofs.YtaoffieemecioaaDoor
open Go Go.IW

structure Mid (J : Int → Tx → Prop) (A : Tx → Int → List Int → Prop) (st : Rs) : Prop where
 p : ∀ q ∈ st.l, ∀ t ∈ q.tickets, J t q.name
 c : ∀ k ∈ st.cache, A k.name k.code k.addrs
 d : ∀ d ∈ st.done, ∃ nm, J d.ticket nm ∧ A nm d.code d.addrs
section
variable {J : Int → Tx → Prop} {A : Tx → Int → List Int → Prop} {first : Int} {servers : List Int} {st : Rs} {i : Nat}
theorem again_mid (h : Mid J A st) (hA : ∀ nm, A nm 15 []) : Mid J A (againS first servers st i) := by
 unfold againS
 cases hq : st.l[i]? with
 | none => exact h
 | some q =>
  simp only
  have hqm := List.mem_of_getElem? hq
  split
  ·refine ⟨fun x hx => h.p x (List.mem_of_mem_eraseIdx hx), h.c, fun d hd => ?_⟩
   rcases List.mem_append.1 hd with hd | hd
   ·exact h.d d hd
   ·simp only [endD, List.mem_map] at hd
    obtain ⟨t, ht, rfl⟩ := hd
    exact ⟨q.name, h.p q hqm t ht, hA _⟩
  ·refine ⟨fun x hx t ht => ?_, h.c, h.d⟩
   rcases List.mem_or_eq_of_mem_set hx with hx | hx
   ·exact h.p x hx t ht
   ·rw [hx] at ht ⊢
    exact h.p q hqm t ht
theorem mid_now (h : Mid J A st) (t : Int) : Mid J A { st with now := t } := ⟨h.p, h.c, h.d⟩
theorem pass_mid (hA : ∀ nm, A nm 15 []) {e : Int} : ∀ (f : Nat) {st : Rs}, Mid J A st → Mid J A (passR first servers e f st)
 | 0, st, h => mid_now h e
 | f + 1, st, h => by
  cases hd : dueN e st.l st.l.length with
  | none => rw [passR_none hd]; exact mid_now h e
  | some b => rw [passR_some hd]; exact pass_mid hA f (again_mid (mid_now h _) hA)
theorem fresh_mid (h : Mid J A st) : Mid J A (freshS st) := ⟨h.p, fun k hk => h.c k (List.mem_filter.1 hk).1, h.d⟩
theorem want_mid {t : Int} {name : Tx} (h : Mid J A st) (hA : ∀ nm, A nm 15 []) (hJ : J t name) : Mid J A (wantR first servers t name st).1 := by
 have hf := fresh_mid h
 unfold wantR
 cases hk : (freshK st.now st.cache).find? (fun k => decide (k.name = name)) with
 | some k =>
  simp only
  refine ⟨h.p, hf.c, fun d hd => ?_⟩
  rcases List.mem_append.1 hd with hd | hd
  ·exact h.d d hd
  ·rw [List.mem_singleton.1 hd]
   have hn : k.name = name := by simpa using List.find?_some hk
   have := hf.c k (List.mem_of_find?_eq_some hk)
   rw [hn] at this
   exact ⟨name, hJ, this⟩
 | none =>
  simp only
  cases hi : st.l.findIdx? (fun q => decide (q.name = name)) with
  | some i =>
   simp only
   rw [List.findIdx?_eq_some_iff_getElem] at hi
   obtain ⟨hil, hin, _⟩ := hi
   rw [List.getElem?_eq_getElem hil]
   simp only
   refine ⟨fun x hx u hu => ?_, hf.c, h.d⟩
   rcases List.mem_or_eq_of_mem_set hx with hx | hx
   ·exact h.p x hx u hu
   ·rw [hx] at hu ⊢
    rcases List.mem_append.1 hu with hu | hu
    ·exact h.p _ (List.getElem_mem hil) u hu
    ·rw [List.mem_singleton.1 hu]
     have hn : (st.l[i]).name = name := by simpa using hin
     show J t (st.l[i]).name
     rw [hn]; exact hJ
  | none =>
   simp only
   split
   ·exact hf
   ·refine again_mid ⟨fun x hx u hu => ?_, hf.c, h.d⟩ hA
    rcases List.mem_append.1 hx with hx | hx
    ·exact h.p x hx u hu
    ·rw [List.mem_singleton.1 hx] at hu ⊢
     rw [List.mem_singleton.1 hu]
     exact hJ
theorem hear_mid {from_ port : Int} {bs : Tx} (h : Mid J A st) (hA : ∀ nm, A nm 15 []) (hR : (decR bs).2 = 0 → goodR (decR bs).1 = true → A (decR bs).1.nm (decR bs).1.code (decR bs).1.zs) : Mid J A (hearR first servers from_ port bs st) := by
 have hf := fresh_mid h
 unfold hearR
 split
 ·exact h
 ·rename_i hc
  simp only [not_or, Classical.not_not] at hc
  cases hi : st.l.findIdx? (hearQ (decR bs).1 from_) with
  | none => exact h
  | some i =>
   simp only
   rw [List.findIdx?_eq_some_iff_getElem] at hi
   obtain ⟨hil, hin, _⟩ := hi
   split
   ·rename_i hg
    have hA2 := hR hc.1 hg
    rw [List.getElem?_eq_getElem hil]
    simp only
    refine ⟨fun x hx => h.p x (List.mem_of_mem_eraseIdx hx), fun k hk => ?_, fun d hd => ?_⟩
    ·unfold keepK at hk
     split at hk
     ·rcases List.mem_append.1 hk with hk | hk
      ·split at hk
       ·exact hf.c k (List.mem_of_mem_drop hk)
       ·exact hf.c k hk
      ·rw [List.mem_singleton.1 hk]; exact hA2
     ·exact hf.c k hk
    ·rcases List.mem_append.1 hd with hd | hd
     ·exact h.d d hd
     ·simp only [endD, List.mem_map] at hd
      obtain ⟨t, ht, rfl⟩ := hd
      have hn : (st.l[i]).name = (decR bs).1.nm := by
       unfold hearQ at hin
       simp only [Bool.and_eq_true, decide_eq_true_eq] at hin
       exact hin.2
      exact ⟨_, h.p _ (List.getElem_mem hil) t ht, by rw [hn]; exact hA2⟩
   ·exact again_mid h hA
end
def cP (l : List Qn) (t : Int) : Nat := (l.map fun q => q.tickets.count t).sum
def cD (ds : List Dn) (t : Int) : Nat := (ds.map Dn.ticket).count t
theorem cD_app (a b : List Dn) (t : Int) : cD (a ++ b) t = cD a t + cD b t := by simp [cD]
theorem cD_end (c : Int) (zs ts : List Int) (t : Int) : cD (endD c zs ts) t = ts.count t := by
 unfold cD endD
 rw [List.map_map]
 have : (Dn.ticket ∘ fun t => (⟨t, c, zs⟩ : Dn)) = id := rfl
 rw [this, List.map_id]
section
variable {first : Int} {servers : List Int} {st : Rs} {i : Nat} (t : Int)
theorem again_cnt : cD (againS first servers st i).done t + cP (againS first servers st i).l t = cD st.done t + cP st.l t := by
 unfold againS
 cases hq : st.l[i]? with
 | none => rfl
 | some q =>
  simp only
  split
  ·have := sum_erase (fun q : Qn => q.tickets.count t) hq
   simp only [cD_app, cD_end, cP] at this ⊢
   omega
  ·have := sum_set (fun q : Qn => q.tickets.count t) (q' := askQ first servers st.now st.n q) hq
   have e : (askQ first servers st.now st.n q).tickets = q.tickets := rfl
   rw [e] at this
   simp only [cP] at this ⊢
   omega
theorem pass_cnt {e : Int} : ∀ (f : Nat) {st : Rs}, cD (passR first servers e f st).done t + cP (passR first servers e f st).l t = cD st.done t + cP st.l t
 | 0, st => rfl
 | f + 1, st => by
  cases hd : dueN e st.l st.l.length with
  | none => rw [passR_none hd]
  | some b =>
   rw [passR_some hd, pass_cnt f]
   exact again_cnt t
theorem hear_cnt {from_ port : Int} {bs : Tx} : cD (hearR first servers from_ port bs st).done t + cP (hearR first servers from_ port bs st).l t = cD st.done t + cP st.l t := by
 unfold hearR
 split
 ·rfl
 ·cases hi : st.l.findIdx? (hearQ (decR bs).1 from_) with
  | none => rfl
  | some i =>
   simp only
   split
   ·rw [List.findIdx?_eq_some_iff_getElem] at hi
    have hq := List.getElem?_eq_getElem hi.1
    rw [hq]
    have := sum_erase (fun q : Qn => q.tickets.count t) hq
    simp only [cD_app, cD_end, cP] at this ⊢
    omega
   ·exact again_cnt t
theorem want_cnt {k : Int} {name : Tx} : cD (wantR first servers k name st).1.done t + cP (wantR first servers k name st).1.l t = cD st.done t + cP st.l t + if (wantR first servers k name st).2 = 0 ∧ k = t then 1 else 0 := by
 unfold wantR
 cases hk : (freshK st.now st.cache).find? (fun k => decide (k.name = name)) with
 | some x =>
  simp only [cD_app, true_and]
  have : cD [⟨k, x.code, x.addrs⟩] t = if k = t then 1 else 0 := by
   simp [cD, List.count_singleton]
  omega
 | none =>
  simp only
  cases hi : st.l.findIdx? (fun q => decide (q.name = name)) with
  | some i =>
   simp only [true_and]
   rw [List.findIdx?_eq_some_iff_getElem] at hi
   have hq := List.getElem?_eq_getElem hi.1
   rw [hq]
   have := sum_set (fun q : Qn => q.tickets.count t) (q' := addT k (st.l[i]'hi.1)) hq
   have e : (addT k (st.l[i]'hi.1)).tickets.count t = (st.l[i]'hi.1).tickets.count t + if k = t then 1 else 0 := by
    simp [addT, List.count_singleton]
   simp only [cP] at this ⊢
   omega
  | none =>
   simp only
   split
   ·simp
   ·rw [again_cnt t]
    simp only [cP, true_and, List.map_append, mc0, mn0, List.sum_append, List.sum_cons, List.sum_nil, List.count_singleton, Nat.add_zero, beq_iff_eq]
    omega
end
def Ph (B : Int) (st : Rs) : Prop := ∀ q ∈ st.l, q.due + 2000 * (4 - q.asks) ≤ B
section
variable {first : Int} {servers : List Int} {st : Rs} {i : Nat}
theorem again_ph {B : Int} {q : Qn} (h : Ph B st) (hq : st.l[i]? = some q) (hB : st.now + 2000 + 2000 * (4 - (q.asks + 1)) ≤ B) : Ph B (againS first servers st i) := by
 unfold againS
 rw [hq]
 simp only
 split
 ·exact fun x hx => h x (List.mem_of_mem_eraseIdx hx)
 ·intro x hx
  rcases List.mem_or_eq_of_mem_set hx with hx | hx
  ·exact h x hx
  ·rw [hx]; exact hB
theorem pass_ph {B e : Int} (e1 : e ≤ 1000000000) : ∀ (f : Nat) {st : Rs}, Rg st → Ph B st → Ph B (passR first servers e f st)
 | 0, st, _, h => h
 | f + 1, st, hg, h => by
  cases hd : dueN e st.l st.l.length with
  | none => rw [passR_none hd]; exact h
  | some b =>
   rw [passR_some hd]
   obtain ⟨q, hq, hqe⟩ := dueN_due hd
   have hqm := hg.q q (List.mem_of_getElem? hq)
   have hdo : dueOf st.l b = q.due := by unfold dueOf; rw [hq]
   have h1 := rg_now hg (t := dueOf st.l b) (by rw [hdo]; exact hqm.2.2.2) (by rw [hdo]; omega)
   have h2 : Ph B { st with now := dueOf st.l b } := h
   refine pass_ph e1 f (again_rg (first := first) (servers := servers) (st := { st with now := dueOf st.l b }) h1 hq).1 (again_ph (st := { st with now := dueOf st.l b }) h2 hq ?_)
   have := h q (List.mem_of_getElem? hq)
   show dueOf st.l b + 2000 + 2000 * (4 - (q.asks + 1)) ≤ B
   rw [hdo]; omega
theorem dueN_all {e : Int} {qs : List Qn} (h : ∀ q ∈ qs, q.due ≤ e) : ∀ k, k ≤ qs.length → dueN e qs k = none → k = 0
 | 0, _, _ => rfl
 | k + 1, hk, hd => by
  unfold dueN at hd
  have hx := List.getElem?_eq_getElem (l := qs) (i := k) (by omega)
  rw [hx] at hd
  simp only at hd
  have := h _ (List.getElem_mem (l := qs) (n := k) (by omega))
  cases hb : dueN e qs k with
  | none => rw [hb] at hd; simp only at hd; rw [if_pos this] at hd; cases hd
  | some b => rw [hb] at hd; simp only at hd; split at hd <;> cases hd
theorem pass_end {B e : Int} (hBe : B ≤ e) (e1 : e ≤ 1000000000) : ∀ (f : Nat) {st : Rs}, Rg st → Ph B st → mu st.l ≤ f → (passR first servers e f st).l = []
 | 0, st, hg, h, hf => by
  show st.l = []
  exact mu_zero hg (by omega)
 | f + 1, st, hg, h, hf => by
  cases hd : dueN e st.l st.l.length with
  | none =>
   rw [passR_none hd]
   refine List.length_eq_zero_iff.1 (dueN_all (e := e) (fun q hq => ?_) _ (Nat.le_refl _) hd)
   have h1 := h q hq
   have h2 := hg.q q hq
   omega
  | some b =>
   rw [passR_some hd]
   obtain ⟨q, hq, hqe⟩ := dueN_due hd
   have hqm := hg.q q (List.mem_of_getElem? hq)
   have hdo : dueOf st.l b = q.due := by unfold dueOf; rw [hq]
   have h1 := rg_now hg (t := dueOf st.l b) (by rw [hdo]; exact hqm.2.2.2) (by rw [hdo]; omega)
   have h2 : Ph B { st with now := dueOf st.l b } := h
   obtain ⟨h3, h4, h5⟩ := again_rg (first := first) (servers := servers) (st := { st with now := dueOf st.l b }) h1 hq
   refine pass_end hBe e1 f h3 (again_ph (st := { st with now := dueOf st.l b }) h2 hq ?_) ?_
   ·have := h q (List.mem_of_getElem? hq)
    show dueOf st.l b + 2000 + 2000 * (4 - (q.asks + 1)) ≤ B
    rw [hdo]; omega
   ·have h4 : mu (againS first servers { st with now := dueOf st.l b } b).l < mu st.l := h4
    omega
theorem pass_now {e : Int} : ∀ (f : Nat) {st : Rs}, (passR first servers e f st).now = e
 | 0, st => rfl
 | f + 1, st => by
  cases hd : dueN e st.l st.l.length with
  | none => rw [passR_none hd]
  | some b => rw [passR_some hd]; exact pass_now f
end
end Go.Proofs.YtaoffieemecioaaDoor

set_option maxRecDepth 20000
namespace Go.Proofs.YtaoffieemecioaaDoor
open Go Go.IW

def heardO (name : Tx) (addrs : List Int) (o : Ro) : Bool := decide (o.kind = 2) && (decide ((decR o.bytes).2 = 0) && (decide ((decR o.bytes).1.nm = name) && decide ((decR o.bytes).1.zs = addrs)))
def heardB (ops : List Ro) (name : Tx) (addrs : List Int) : Bool := ops.any (heardO name addrs)
def AnsOK (ops : List Ro) (nm : Tx) (code : Int) (addrs : List Int) : Prop := (code = 0 ∧ addrs ≠ [] ∧ heardB ops nm addrs = true) ∨ (code ≠ 0 ∧ addrs = [])
def AskedN (ops : List Ro) (outs : List Oo) (k : Nat) (t : Int) (nm : Tx) : Prop := ∃ (j : Nat) (o : Ro) (x : Oo), t = j ∧ j < k ∧ ops[j]? = some o ∧ outs[j]? = some x ∧ o.kind = 1 ∧ x.code = 0 ∧ o.name = nm
theorem AnsOK.mono {a b : List Ro} {nm : Tx} {c : Int} {zs : List Int} (h : AnsOK a nm c zs) : AnsOK (a ++ b) nm c zs := by
 rcases h with ⟨h1, h2, h3⟩ | h
 ·refine .inl ⟨h1, h2, ?_⟩
  unfold heardB at h3 ⊢
  rw [List.any_append, h3, Bool.true_or]
 ·exact .inr h
theorem AskedN.mono {ops : List Ro} {outs ys : List Oo} {k m : Nat} {t : Int} {nm : Tx} (h : AskedN ops outs k t nm) (hk : k ≤ m) (hl : k ≤ outs.length) : AskedN ops (outs ++ ys) m t nm := by
 obtain ⟨j, o, x, h1, h2, h3, h4, h5⟩ := h
 exact ⟨j, o, x, h1, by omega, h3, by rw [List.getElem?_append_left (by omega)]; exact h4, h5⟩
def askedB (o : Ro) (x : Oo) : Bool := decide (o.kind = 1) && decide (x.code = 0)
def cAll (outs : List Oo) (t : Int) : Nat := (outs.map fun x => cD x.done t).sum
structure Ti (ops : List Ro) (outs : List Oo) (k : Nat) (st : Rs) : Prop where
 len : outs.length = k
 p : ∀ q ∈ st.l, ∀ t ∈ q.tickets, AskedN ops outs k t q.name
 c : ∀ kn ∈ st.cache, AnsOK (ops.take k) kn.name kn.code kn.addrs
 n : ∀ (j : Nat) (o : Ro) (x : Oo), ops[j]? = some o → outs[j]? = some x → cAll outs j + cP st.l j = if askedB o x = true then 1 else 0
 z : ∀ j : Nat, k ≤ j → cAll outs j + cP st.l j = 0
 ph : Ph (st.now + 8000) st
def DoneOK (ops : List Ro) (outs : List Oo) (i : Nat) (d : Dn) : Prop := ∃ nm, AskedN ops outs (i + 1) d.ticket nm ∧ AnsOK (ops.take (i + 1)) nm d.code d.addrs
theorem cAll_snoc (outs : List Oo) (x : Oo) (t : Int) : cAll (outs ++ [x]) t = cAll outs t + cD x.done t := by simp [cAll]
theorem step_ti {first : Int} {servers : List Int} {ops : List Ro} {outs : List Oo} {k : Nat} {st : Rs} {o : Ro} (h : Ti ops outs k st) (hR : Ri k st) (ho : ops[k]? = some o) (hw : o.wait ≤ 60000) :
  Ti ops (outs ++ [outOf (stepR first servers k o st)]) (k + 1) (stepR first servers k o st).1 ∧ (∀ d ∈ (stepR first servers k o st).1.done, DoneOK ops (outs ++ [outOf (stepR first servers k o st)]) k d) ∧ (stepR first servers k o st).1.now ≤ st.now + 60000 := by
 obtain ⟨X, hX⟩ : ∃ X, X = stepR first servers k o st := ⟨_, rfl⟩
 rw [← hX]
 have hl := h.len
 have hg : Rg (rst st) := hR.g
 have htk : ops.take (k + 1) = ops.take k ++ [o] := take_snoc ho
 have hnew : (outs ++ [outOf X])[k]? = some (outOf X) := by rw [List.getElem?_append_right (by omega), hl, Nat.sub_self]; rfl
 have hA : ∀ nm, AnsOK (ops.take (k + 1)) nm 15 [] := fun nm => .inr ⟨by decide, rfl⟩
 -- what held ahead of it
 have hm0 : Mid (AskedN ops (outs ++ [outOf X]) (k + 1)) (AnsOK (ops.take (k + 1))) (rst st) :=
  ⟨fun q hq t ht => (h.p q hq t ht).mono (by omega) (by omega), fun kn hk => by rw [htk]; exact (h.c kn hk).mono, fun d hd => nomatch hd⟩
 have hph0 : Ph ((rst st).now + 8000) (rst st) := h.ph
 have hXe : X = (freshS (stepP first servers k o (rst st)).1, (stepP first servers k o (rst st)).2) := hX
 have hX2 : X.2 = (stepP first servers k o (rst st)).2 := by rw [hXe]
 have key : Mid (AskedN ops (outs ++ [outOf X]) (k + 1)) (AnsOK (ops.take (k + 1))) (stepP first servers k o (rst st)).1 ∧
   (∀ t : Int, cD (stepP first servers k o (rst st)).1.done t + cP (stepP first servers k o (rst st)).1.l t = cP st.l t + if askedB o (outOf X) = true ∧ (k : Int) = t then 1 else 0) ∧
   Ph ((stepP first servers k o (rst st)).1.now + 8000) (stepP first servers k o (rst st)).1 ∧ (stepP first servers k o (rst st)).1.now ≤ st.now + 60000 := by
  have hcode : (outOf X).code = (stepP first servers k o (rst st)).2 := hX2
  unfold stepP at hcode ⊢
  have hc0 : ∀ t, cD (rst st).done t + cP (rst st).l t = cP st.l t := fun t => by
   show cD [] t + cP st.l t = _
   simp [cD]
  by_cases h1 : o.kind = 1 ∧ okName o.name = true
  ·rw [if_pos h1] at hcode ⊢
   have hnow : (wantR first servers k o.name (rst st)).1.now = st.now ∧ Ph (st.now + 8000) (wantR first servers k o.name (rst st)).1 := by
    unfold wantR
    split
    ·exact ⟨rfl, hph0⟩
    ·split
     ·rename_i i hi
      refine ⟨rfl, ?_⟩
      rw [List.findIdx?_eq_some_iff_getElem] at hi
      rw [List.getElem?_eq_getElem hi.1]
      intro x hx
      rcases List.mem_or_eq_of_mem_set hx with hx | hx
      ·exact hph0 x hx
      ·rw [hx]
       show ((rst st).l[i]'hi.1).due + 2000 * (4 - ((rst st).l[i]'hi.1).asks) ≤ st.now + 8000
       exact hph0 _ (List.getElem_mem hi.1)
     ·split
      ·exact ⟨rfl, hph0⟩
      ·refine ⟨(again_now _ _ _ _).1, again_ph (B := st.now + 8000) (q := ⟨o.name, 0, 0, 0, 0, [(k : Int)]⟩) ?_ (by simp) ?_⟩
       ·intro x hx
        rcases List.mem_append.1 hx with hx | hx
        ·exact hph0 x hx
        ·rw [List.mem_singleton.1 hx]
         have : 0 ≤ st.now := hg.t0
         show (0 : Int) + 2000 * (4 - 0) ≤ st.now + 8000
         omega
       ·show st.now + 2000 + 2000 * (4 - (0 + 1)) ≤ st.now + 8000
        omega
   refine ⟨?_, ?_, ?_, ?_⟩
   ·by_cases hcz : (wantR first servers k o.name (rst st)).2 = 0
    ·exact want_mid hm0 hA ⟨k, o, outOf X, rfl, by omega, ho, hnew, h1.1, by rw [hcode]; exact hcz, rfl⟩
    ·-- the table of questions is full
     have hfull : (wantR first servers k o.name (rst st)).1 = freshS (rst st) := by
      unfold wantR at hcz ⊢
      split
      ·rename_i hf; rw [hf] at hcz; exact absurd rfl hcz
      ·rename_i hf
       rw [hf] at hcz
       simp only at hcz
       split
       ·rename_i hi; rw [hi] at hcz; exact absurd rfl hcz
       ·rename_i hi
        rw [hi] at hcz
        simp only at hcz
        split
        ·rfl
        ·rename_i h16; rw [if_neg h16] at hcz; exact absurd rfl hcz
     rw [hfull]
     exact fresh_mid hm0
   ·intro t
    rw [want_cnt t, hc0 t]
    have : askedB o (outOf X) = decide ((wantR first servers k o.name (rst st)).2 = 0) := by
     unfold askedB
     rw [decide_eq_true h1.1, Bool.true_and, hcode]
    rw [this]
    simp only [decide_eq_true_eq]
   ·rw [hnow.1]; exact hnow.2
   ·rw [hnow.1]; omega
  ·rw [if_neg h1] at hcode ⊢
   by_cases h2 : o.kind = 2
   ·rw [if_pos h2] at hcode ⊢
    have hna : askedB o (outOf X) = false := by unfold askedB; rw [decide_eq_false (by omega)]; rfl
    have hnow : (hearR first servers o.from_ o.port o.bytes (rst st)).now = st.now ∧ Ph (st.now + 8000) (hearR first servers o.from_ o.port o.bytes (rst st)) := by
     unfold hearR
     split
     ·exact ⟨rfl, hph0⟩
     ·split
      ·exact ⟨rfl, hph0⟩
      ·rename_i i hi
       rw [List.findIdx?_eq_some_iff_getElem] at hi
       obtain ⟨q, hq⟩ : ∃ q, (rst st).l[i]? = some q := ⟨_, List.getElem?_eq_getElem hi.1⟩
       split
       ·exact ⟨rfl, fun x hx => hph0 x (List.mem_of_mem_eraseIdx hx)⟩
       ·refine ⟨(again_now _ _ _ _).1, again_ph hph0 hq ?_⟩
        have hq2 := hg.q q (List.mem_of_getElem? hq)
        show st.now + 2000 + 2000 * (4 - (q.asks + 1)) ≤ st.now + 8000
        omega
    refine ⟨hear_mid hm0 hA ?_, ?_, ?_, ?_⟩
    ·intro hd hgd
     unfold goodR at hgd
     simp only [Bool.or_eq_true, Bool.and_eq_true, decide_eq_true_eq] at hgd
     rcases hgd with ⟨g1, g2⟩ | ⟨g1, g2⟩
     ·refine .inl ⟨g1, by intro e; rw [e] at g2; simp at g2, ?_⟩
      unfold heardB
      rw [htk, List.any_append]
      have : heardO (decR o.bytes).1.nm (decR o.bytes).1.zs o = true := by
       unfold heardO
       rw [decide_eq_true h2, decide_eq_true hd]
       simp
      simp [this]
     ·exact .inr ⟨by rw [g1]; decide, List.length_eq_zero_iff.1 (by omega)⟩
    ·intro t
     rw [hear_cnt t, hc0 t, hna]
     simp
    ·rw [hnow.1]; exact hnow.2
    ·rw [hnow.1]; omega
   ·rw [if_neg h2] at hcode ⊢
    have hna : askedB o (outOf X) = false := by
     unfold askedB
     by_cases hk1 : o.kind = 1
     ·have : (outOf X).code ≠ 0 := by
       rw [hcode]
       rw [if_neg (by omega)]
       show (1 : Int) ≠ 0
       decide
      rw [decide_eq_false this, Bool.and_false]
     ·rw [decide_eq_false hk1]; rfl
    by_cases h3 : o.kind = 3 ∧ 0 ≤ o.wait ∧ o.wait ≤ 1000000000 - (rst st).now
    ·rw [if_pos h3]
     have ht0 : 0 ≤ (rst st).now := hg.t0
     have hnow := pass_now (first := first) (servers := servers) (e := (rst st).now + o.wait) (mu (rst st).l) (st := rst st)
     have e0 : (rst st).now = st.now := rfl
     refine ⟨pass_mid hA _ hm0, ?_, ?_, ?_⟩
     ·intro t
      rw [pass_cnt t, hc0 t, hna]
      simp
     ·simp only [hnow]
      intro x hx
      have := pass_ph (B := (rst st).now + 8000) (e := (rst st).now + o.wait) (by omega) (mu (rst st).l) hg hph0 x hx
      omega
     ·simp only [hnow]; omega
    ·rw [if_neg h3]
     refine ⟨hm0, ?_, hph0, by show st.now ≤ _; omega⟩
     intro t
     rw [hc0 t, hna]
     simp
 obtain ⟨k1, k2, k3, k4⟩ := key
 have hfm := fresh_mid k1
 have hX1 : X.1 = freshS (stepP first servers k o (rst st)).1 := by rw [hXe]
 have hdone : (outOf X).done = (stepP first servers k o (rst st)).1.done := by unfold outOf; rw [hX1]; rfl
 have hll : X.1.l = (stepP first servers k o (rst st)).1.l := by rw [hX1]; rfl
 refine ⟨⟨by simp [hl], ?_, ?_, ?_, ?_, ?_⟩, ?_, ?_⟩
 ·rw [hX1]; exact hfm.p
 ·rw [hX1]; exact hfm.c
 ·intro j o' x hj hx
  rw [cAll_snoc, hdone, hll]
  have h2 := k2 j
  by_cases hjk : j = k
  ·subst hjk
   rw [ho] at hj
   obtain rfl := Option.some.inj hj
   rw [hnew] at hx
   obtain rfl := Option.some.inj hx
   have h3 := h.z j (Nat.le_refl _)
   simp only [and_true] at h2
   omega
  ·have hjl : j < outs.length := by
    have := (List.getElem?_eq_some_iff.1 hx).1
    simp at this; omega
   rw [List.getElem?_append_left hjl] at hx
   have h3 := h.n j o' x hj hx
   rw [if_neg (by rintro ⟨_, h⟩; omega)] at h2
   omega
 ·intro j hj
  rw [cAll_snoc, hdone, hll]
  have h2 := k2 j
  have h3 := h.z j (by omega)
  rw [if_neg (by rintro ⟨_, h⟩; omega)] at h2
  omega
 ·rw [hX1]; exact k3
 ·rw [hX1]
  intro d hd
  obtain ⟨nm, a, b⟩ := k1.d d hd
  exact ⟨nm, a, b⟩
 ·rw [hX1]; exact k4
theorem Ti.init (ops : List Ro) : Ti ops [] 0 st0R := ⟨rfl, by simp [st0R], by simp [st0R], by intro j o x _ hx; simp at hx, by simp [cAll, cP, st0R], by simp [Ph, st0R]⟩
theorem DoneOK.mono {ops : List Ro} {outs ys : List Oo} {i : Nat} {d : Dn} (h : DoneOK ops outs i d) (hi : i + 1 ≤ outs.length) : DoneOK ops (outs ++ ys) i d := by
 obtain ⟨nm, a, b⟩ := h
 exact ⟨nm, a.mono (Nat.le_refl _) hi, b⟩
def DAll (ops : List Ro) (outs : List Oo) : Prop := ∀ (i : Nat) (x : Oo) (d : Dn), outs[i]? = some x → d ∈ x.done → DoneOK ops outs i d
def runEnd (first : Int) (servers : List Int) : Nat → Rs → List Ro → Rs
 | _, st, [] => st
 | k, st, o :: ops => runEnd first servers (k + 1) (stepR first servers k o st).1 ops
def LastOp (first : Int) (servers : List Int) (ops : List Ro) (outs : List Oo) (st' : Rs) : Prop :=
 ∃ (st2 : Rs) (ys : List Oo) (o : Ro) (k : Nat), k + 1 = ops.length ∧ outs = ys ++ [outOf (stepR first servers k o st2)] ∧ ys.length = k ∧ st' = (stepR first servers k o st2).1 ∧ ops[k]? = some o ∧ Ri k st2 ∧ Ph (st2.now + 8000) st2 ∧ st2.now ≤ 60000 * (k : Int)
theorem run_ti {first : Int} {servers : List Int} {ops : List Ro} (hw : ∀ o ∈ ops, o.wait ≤ 60000) (hN : ops.length ≤ 2000) : ∀ {rest : List Ro} {outs : List Oo} {k : Nat} {st : Rs}, ops.drop k = rest → k ≤ ops.length → Ti ops outs k st → Ri k st → st.now ≤ 60000 * k → DAll ops outs →
  Ti ops (outs ++ runSt first servers k st rest) ops.length (runEnd first servers k st rest) ∧ DAll ops (outs ++ runSt first servers k st rest) ∧ (rest ≠ [] → LastOp first servers ops (outs ++ runSt first servers k st rest) (runEnd first servers k st rest))
 | [], outs, k, st, hd, hk, hT, hR, hn, hD => by
  have hk : k = ops.length := by
   have := congrArg List.length hd
   simp at this
   omega
  subst hk
  refine ⟨?_, ?_, fun h => absurd rfl h⟩
  ·simpa [runSt, runEnd] using hT
  ·simpa [runSt] using hD
 | o :: rest, outs, k, st, hd, hk, hT, hR, hn, hD => by
  have ho : ops[k]? = some o := by
   have := congrArg (fun l => l[0]?) hd
   simpa using this
  have hkl := (List.getElem?_eq_some_iff.1 ho).1
  have hd2 : ops.drop (k + 1) = rest := by
   rw [← List.drop_drop, hd]; rfl
  have how := hw o (List.mem_of_getElem? ho)
  obtain ⟨s1, s2, s3⟩ := step_ti (first := first) (servers := servers) hT hR ho how
  obtain ⟨hR', _⟩ := stepR_ok (first := first) (servers := servers) (ticket := k) (o := o) hR (by omega)
  have hl := hT.len
  have hD' : DAll ops (outs ++ [outOf (stepR first servers k o st)]) := by
   intro i x d hx hdx
   by_cases hi : i < outs.length
   ·rw [List.getElem?_append_left hi] at hx
    exact (hD i x d hx hdx).mono (by omega)
   ·have hil := (List.getElem?_eq_some_iff.1 hx).1
    simp at hil
    have hik : i = k := by omega
    subst hik
    rw [List.getElem?_append_right (by omega), hl, Nat.sub_self] at hx
    have hx2 : outOf (stepR first servers i o st) = x := by simpa using hx
    rw [← hx2] at hdx
    exact s2 d hdx
  obtain ⟨a, b, c⟩ := run_ti hw hN hd2 (by omega) s1 hR' (by omega) hD'
  have e : outs ++ runSt first servers k st (o :: rest) = (outs ++ [outOf (stepR first servers k o st)]) ++ runSt first servers (k + 1) (stepR first servers k o st).1 rest := by
   rw [runSt]; simp
  rw [e]
  refine ⟨a, b, fun _ => ?_⟩
  by_cases hr : rest = []
  ·subst hr
   have hlen : k + 1 = ops.length := by
    have := congrArg List.length hd
    simp at this
    omega
   rw [runSt, List.append_nil]
   exact ⟨st, outs, o, k, hlen, rfl, hl, rfl, ho, hR, hT.ph, hn⟩
  ·exact c hr
theorem runSt_bnd {first : Int} {servers : List Int} : ∀ {ops : List Ro} {k : Nat} {st : Rs}, Ri k st → k + ops.length ≤ 2000 → ∀ x ∈ runSt first servers k st ops, x.ask ≤ 16 ∧ x.ent ≤ 32 ∧ x.done.length ≤ 2001 ∧ (∀ d ∈ x.done, d.addrs.length ≤ 8) ∧ x.sent.length ≤ 85 ∧ ∀ s ∈ x.sent, s.bytes.length ≤ 1000
 | [], _, _, _, _, x, hx => by simp [runSt] at hx
 | o :: ops, k, st, hR, hk, x, hx => by
  rw [lc0] at hk
  obtain ⟨hR', hB⟩ := stepR_ok (first := first) (servers := servers) (ticket := k) (o := o) hR (by omega)
  rw [runSt] at hx
  rcases List.mem_cons.1 hx with rfl | hx
  ·have h1 := hB.s
   have h2 := hB.d
   have h3 : (stepR first servers k o st).1.l.length ≤ 16 := hR'.g.l
   have h4 := hR'.c
   exact ⟨by show ((stepR first servers k o st).1.l.length : Int) ≤ 16; omega, by show ((stepR first servers k o st).1.cache.length : Int) ≤ 32; omega, by show (stepR first servers k o st).1.done.length ≤ 2001; omega, hB.da, by show (stepR first servers k o st).1.sent.length ≤ 85; omega, hB.sb⟩
  ·exact runSt_bnd hR' (by omega) x hx
theorem cD_le (ds : List Dn) (t : Int) : cD ds t ≤ ds.length := by
 unfold cD
 have := List.count_le_length (a := t) (l := ds.map Dn.ticket)
 simpa using this
theorem cAll_le {outs : List Oo} (h : ∀ x ∈ outs, x.done.length ≤ 2001) (t : Int) : cAll outs t ≤ outs.length * 2001 := by
 induction outs with
 | nil => simp [cAll]
 | cons x outs ih =>
  have h1 := h x List.mem_cons_self
  have h2 := ih fun y hy => h y (List.mem_cons_of_mem _ hy)
  have h3 := cD_le x.done t
  simp only [cAll, mc0, List.sum_cons, lc0] at h2 ⊢
  omega
def passO : Ro := ⟨3, 0, 0, 10000, [], []⟩
theorem passO_end {first : Int} {servers : List Int} {k : Nat} {st : Rs} (hR : Ri k st) (hp : Ph (st.now + 8000) st) (hn : st.now ≤ 900000000) : (stepR first servers k passO st).1.l = [] := by
 have ht0 : 0 ≤ st.now := hR.g.t0
 have e : stepP first servers k passO (rst st) = (passR first servers ((rst st).now + 10000) (mu (rst st).l) (rst st), 0) := by
  unfold stepP passO
  rw [if_neg (by rintro ⟨h, _⟩; revert h; decide), if_neg (by decide), if_pos ⟨rfl, by decide, by show (10000 : Int) ≤ 1000000000 - st.now; omega⟩]
 unfold stepR freshS
 rw [e]
 exact pass_end (B := st.now + 8000) (e := st.now + 10000) (by omega) (by omega) (mu (rst st).l) hR.g hp (Nat.le_refl _)
theorem tickets_run {first : Int} {servers : List Int} {ops0 : List Ro} (hw : ∀ o ∈ ops0, o.wait ≤ 60000) (hN : ops0.length ≤ 1000) :
  DAll (ops0 ++ [passO]) (runSt first servers 0 st0R (ops0 ++ [passO])) ∧ (runSt first servers 0 st0R (ops0 ++ [passO])).length = ops0.length + 1 ∧
  (∀ (j : Nat) (o : Ro) (x : Oo), (ops0 ++ [passO])[j]? = some o → (runSt first servers 0 st0R (ops0 ++ [passO]))[j]? = some x → cAll (runSt first servers 0 st0R (ops0 ++ [passO])) j = if askedB o x = true then 1 else 0) ∧
  (∃ ys y, runSt first servers 0 st0R (ops0 ++ [passO]) = ys ++ [y] ∧ y.ask = 0) := by
 have hlen : (ops0 ++ [passO]).length = ops0.length + 1 := by simp
 have hw' : ∀ o ∈ ops0 ++ [passO], o.wait ≤ 60000 := by
  intro o ho
  rcases List.mem_append.1 ho with ho | ho
  ·exact hw o ho
  ·rw [List.mem_singleton.1 ho]; decide
 obtain ⟨a, b, c⟩ := run_ti (first := first) (servers := servers) hw' (by omega) (rest := ops0 ++ [passO]) (outs := []) (k := 0) (st := st0R) rfl (Nat.zero_le _) (Ti.init _) Ri.init (by decide) (by intro i x d hx; simp at hx)
 rw [na0] at a b c
 obtain ⟨st2, ys, o, k, c1, c2, c3, c4, c5, c6, c7, c8⟩ := c (by simp)
 have hk : k = ops0.length := by omega
 subst hk
 have hop : o = passO := by
  rw [List.getElem?_append_right (Nat.le_refl _), Nat.sub_self] at c5
  simpa using c5.symm
 subst hop
 have hl0 := passO_end (first := first) (servers := servers) c6 c7 (by omega)
 rw [← c4] at hl0
 refine ⟨b, by rw [a.len, hlen], ?_, ys, _, c2, ?_⟩
 ·intro j o x hj hx
  have h1 := a.n j o x hj hx
  rw [hl0] at h1
  simpa [cP] using h1
 ·show ((stepR first servers ops0.length passO st2).1.l.length : Int) = 0
  rw [← c4, hl0]; rfl
end Go.Proofs.YtaoffieemecioaaDoor

set_option maxRecDepth 20000
namespace Go.Proofs.YtaoffieemecioaaDoor
open Go Go.IW
section
attribute [local go_sem] List.getElem?_cons_zero List.getElem?_cons_succ Option.bind_some List.map_cons List.map_nil Nat.zero_add if_true List.getD_cons_zero List.getD_cons_succ List.contains_cons List.contains_nil Bool.or_true Bool.true_or Bool.or_false Bool.false_or Bool.not_true Bool.not_false true_and and_true rowA_whole mid_get rowO_rows cellO_rows upd_ne Nat.add_assoc Nat.add_zero List.all_cons List.all_nil one_bool one_int one_str one_ptr one_nilptr one_slice one_eslice one_nilslice one_func one_iface one_niliface Bool.and_true Bool.and_self List.length_cons List.length_nil Nat.one_ne_zero Nat.succ_ne_zero if_false List.set_cons_zero List.set_cons_succ lay_nil lay_1 lay_w Option.map_some cells_one rowA_some List.drop_succ_cons List.drop_zero List.take_succ_cons List.take_zero

abbrev srcO (v : IV) (pos st : Int) : IObj := .rows [[v, .int .i64 pos, .int .u64 st]] 58 3 false
def srcA (p : Nat) (v : IV) (code : Tx) : As := exA fun x : Int × Int => stars (fact (0 ≤ x.1 ∧ x.1 ≤ code.length)) (box p (srcO v x.1 x.2))
section
variable {h h' : IH} {L : List As} {p : Nat} {v : IV} {code : Tx}
theorem src_new {pos st : Int} (S : Sp h (box p (srcO v pos st) :: L)) (h0 : 0 ≤ pos) (h1 : pos ≤ code.length) : Sp h (srcA p v code :: L) :=
 Sp.unex (F := fun x : Int × Int => stars (fact (0 ≤ x.1 ∧ x.1 ≤ code.length)) (box p (srcO v x.1 x.2))) (pos, st) (S.unfact (p := 0 ≤ pos ∧ pos ≤ code.length) ⟨h0, h1⟩).unstar
theorem src_open (S : Sp h (srcA p v code :: L)) : ∃ pos st : Int, 0 ≤ pos ∧ pos ≤ code.length ∧ Sp h (box p (srcO v pos st) :: L) := by
 obtain ⟨⟨pos, st⟩, S⟩ := S.ex
 obtain ⟨⟨h0, h1⟩, S⟩ := S.star.fact
 exact ⟨pos, st, h0, h1, S⟩
theorem src_use (S : Sp h (srcA p v code :: L)) (hv : SlR h 1 v (strRows code)) (hne : ∀ l i n, v = .slice l i n → l ≠ p) : Src h p v code ∧ p < h.n := by
 obtain ⟨pos, st, h0, h1, S⟩ := src_open S
 have a := S.bx 0 rfl
 exact ⟨⟨⟨pos, st, a, h0, h1⟩, hv, hne⟩, a.lt⟩
theorem src_back (S : Sp h (srcA p v code :: L)) (C : Src h' p v code) (V : Sav p h h') : Sp h' (srcA p v code :: L) := by
 refine S.turn V.le ?_
 rintro f ⟨⟨pos, st⟩, f1, f2, rfl, ⟨rfl, _⟩, ⟨rfl, h1, h2⟩⟩ _
 obtain ⟨pos', st', a, b, c⟩ := C.at_
 exact ⟨⟨[p], ⟨(pos', st'), [], [p], rfl, ⟨rfl, b, c⟩, rfl, a.lt, a.eq⟩, by simp, fun l hl => .inl hl⟩, fun l hl hf => V.obj l hl (by simpa using hf)⟩
theorem src_back_own {el sz : Nat} {w : IV} {rs : List (List IV)} (S : Sp h (srcA p v code :: L)) (C : Src h' p v code) (V : Sav p h h') (o : Own h.n h'.n h' el sz w rs) : Sp h' (srcA p v code :: sl false el sz w rs :: L) := by
 refine Sp.star (S.turn V.le ?_)
 rintro f ⟨⟨pos, st⟩, f1, f2, rfl, ⟨rfl, _⟩, ⟨rfl, h1, h2⟩⟩ _
 obtain ⟨pos', st', a, b, c⟩ := C.at_
 have hob : ∀ l, l < h.n → l ∉ ([] ++ [p] : List Nat) → h'.obj l = h.obj l := fun l hl hf => V.obj l hl (by simpa using hf)
 rcases o with ⟨e1, e2⟩ | ⟨l, e0, e1, e2, e3, _, e4⟩
 ·exact ⟨⟨[p], ⟨[p], [], rfl, ⟨(pos', st'), [], [p], rfl, ⟨rfl, b, c⟩, rfl, a.lt, a.eq⟩, .inl ⟨e1, rfl, e2⟩⟩, by simp, fun l hl => .inl hl⟩, hob⟩
 ·refine ⟨⟨[p, l], ⟨[p], [l], rfl, ⟨(pos', st'), [], [p], rfl, ⟨rfl, b, c⟩, rfl, a.lt, a.eq⟩, .inr ⟨l, .inr e0, e1, rfl, by omega, e4⟩⟩, ?_, ?_⟩, hob⟩
  ·simp; omega
  ·intro m hm
   simp at hm
   rcases hm with rfl | rfl
   ·exact .inl (by simp)
   ·exact .inr e2
end
def rdA (v : IV) (bs : Tx) : As where
 P h fs := SlR h 1 v (strRows bs) ∧ ((∃ l i n, v = .slice l i n ∧ fs = [l]) ∨ ((∀ l i n, v ≠ .slice l i n) ∧ fs = []))
 same := by
  rintro h h' fs ⟨h1, h2⟩ hn ho
  refine ⟨h1.same hn fun l i n e => ?_, h2⟩
  rcases h2 with ⟨l', i', n', e', rfl⟩ | ⟨h2, _⟩
  ·rw [e'] at e; cases e
   exact ho _ (by simp)
  ·exact absurd e (h2 l i n)
 lt := by
  rintro h fs ⟨h1, h2⟩ l hl
  rcases h2 with ⟨l', i', n', e', rfl⟩ | ⟨h2, rfl⟩
  ·obtain rfl : l = l' := by simpa using hl
   exact h1.lt _ _ _ e'
  ·cases hl
theorem rd_of {h : IH} {L : List As} {v : IV} {bs : Tx} (S : Sp h (byts v bs :: L)) : Sp h (rdA v bs :: L) := by
 refine S.imp fun f hf => ⟨f, ?_, List.Sublist.refl _⟩
 show SlR h 1 v (strRows bs) ∧ ((∃ l i n, v = .slice l i n ∧ f = [l]) ∨ ((∀ l i n, v ≠ .slice l i n) ∧ f = []))
 rcases hf with ⟨h1, h2, h3 | h3⟩ | ⟨l, h0, h1, h2, h3, h4⟩
 ·rw [h1, h3]; exact ⟨SlR.nil _ _, .inr ⟨(by simp), h2⟩⟩
 ·rw [h1, h3]; exact ⟨SlR.empty _ _ _, .inr ⟨(by simp), h2⟩⟩
 ·rw [h1]; exact ⟨SlR.whole h4 rfl h3, .inl ⟨_, _, _, rfl, h2⟩⟩
theorem src_back_rd {h h' : IH} {L : List As} {p : Nat} {v w : IV} {code bs : Tx} (S : Sp h (srcA p v code :: L)) (C : Src h' p v code) (V : Sav p h h') (o : SlR h' 1 w (strRows bs)) (hw : ∀ l i n, w = .slice l i n → h.n ≤ l) : Sp h' (srcA p v code :: rdA w bs :: L) := by
 refine Sp.star (S.turn V.le ?_)
 rintro f ⟨⟨pos, st⟩, f1, f2, rfl, ⟨rfl, _⟩, ⟨rfl, h1, h2⟩⟩ _
 obtain ⟨pos', st', a, b, c⟩ := C.at_
 have hob : ∀ l, l < h.n → l ∉ ([] ++ [p] : List Nat) → h'.obj l = h.obj l := fun l hl hf => V.obj l hl (by simpa using hf)
 by_cases hs : ∃ l i n, w = .slice l i n
 ·obtain ⟨l, i, n, e⟩ := hs
  have hl := hw l i n e
  refine ⟨⟨[p, l], ⟨[p], [l], rfl, ⟨(pos', st'), [], [p], rfl, ⟨rfl, b, c⟩, rfl, a.lt, a.eq⟩, o, .inl ⟨l, i, n, e, rfl⟩⟩, ?_, ?_⟩, hob⟩
  ·simp; omega
  ·intro m hm
   simp at hm
   rcases hm with rfl | rfl
   ·exact .inl (by simp)
   ·exact .inr hl
 ·exact ⟨⟨[p], ⟨[p], [], rfl, ⟨(pos', st'), [], [p], rfl, ⟨rfl, b, c⟩, rfl, a.lt, a.eq⟩, o, .inr ⟨fun l i n e => hs ⟨l, i, n, e⟩, rfl⟩⟩, by simp, fun l hl => .inl hl⟩, hob⟩
theorem l14Min_c (h : IH) (a b : Int) : ICalls Tryd.prog 15 [.int .i64 a, .int .i64 b] h fun r h' => r = .int .i64 (min a b) ∧ h' = h := by
 refine icalls (.of ok15) (Nat.le_of_ble_eq_true rfl) ?_
 unfold c15
 try simp (disch := (first | exact dA | fail)) only [go_sem, Nat.reduceBEq, Nat.reduceAdd, reduceIte]
 refine test_dec (fun hb => ?_) (fun hb => ?_)
 ·skip
  try simp (disch := (first | exact dA | fail)) only [go_sem, Nat.reduceBEq, Nat.reduceAdd, reduceIte]
  rw [Int.min_eq_left (by omega)]
 ·skip
  try simp (disch := (first | exact dA | fail)) only [go_sem, Nat.reduceBEq, Nat.reduceAdd, reduceIte]
  rw [Int.min_eq_right (by omega)]
theorem ansN_len {es : List Ent} {bs : List UInt8} : (ansN es bs).1.length ≤ 1000 := by
 unfold ansN
 split
 ·simp
 ·exact encR_len
end
end Go.Proofs.YtaoffieemecioaaDoor

set_option maxRecDepth 20000
namespace Go.Proofs.YtaoffieemecioaaDoor
open Go Go.IW
section
attribute [local go_sem] List.getElem?_cons_zero List.getElem?_cons_succ Option.bind_some List.map_cons List.map_nil Nat.zero_add if_true List.getD_cons_zero List.getD_cons_succ List.contains_cons List.contains_nil Bool.or_true Bool.true_or Bool.or_false Bool.false_or Bool.not_true Bool.not_false true_and and_true rowA_whole mid_get rowO_rows cellO_rows upd_ne Nat.add_assoc Nat.add_zero List.all_cons List.all_nil one_bool one_int one_str one_ptr one_nilptr one_slice one_eslice one_nilslice one_func one_iface one_niliface Bool.and_true Bool.and_self List.length_cons List.length_nil Nat.one_ne_zero Nat.succ_ne_zero if_false List.set_cons_zero List.set_cons_succ lay_nil lay_1 lay_w Option.map_some cells_one rowA_some List.drop_succ_cons List.drop_zero List.take_succ_cons List.take_zero

structure BackOK (o : Ro) : Prop where
 k : o.kind = 2
 w : o.wait = 0
 n : o.name = []
 b : o.bytes.length ≤ 1000
theorem decR_small (bs : Tx) : (decR bs).1.nm.length ≤ 63 ∧ (decR bs).1.zs.length ≤ 8 := by
 unfold decR
 split
 ·simp [RepV.zero]
 ·split
  ·simp [RepV.zero]
  ·split
   ·simp [RepV.zero]
   ·split
    ·simp [RepV.zero]
    ·split
     ·rename_i h
      obtain ⟨_, h2, _, _, h5, _⟩ := okRep_ok (show okRep _ _ _ _ _ = true from h)
      exact ⟨(okName_ne h2).2, h5⟩
     ·simp [RepV.zero]
abbrev roZ : IObj := .rows [[.int .i64 0, .int .i64 0, .int .i64 0, .int .i64 0, .str [], .nilslice]] 30 6 false
set_option maxHeartbeats 4000000 in
theorem l19Back_c {h : IH} {L : List As} {p : Nat} {v vb : IV} {code xb : Tx} {server : Int} (S : Sp h (srcA p v code :: L)) (hv : ∀ g, Sp g L → SlR g 1 v (strRows code)) (hne : ∀ l i n, v = .slice l i n → l ≠ p) (hx : ∀ g, Sp g L → SlR g 1 vb (strRows xb)) (hl : code.length ≤ 1048576) (hxl : xb.length ≤ 1000000) :
  ICalls Tryd.prog 18 [.ptr p 0 0, .agg [.int .i64 server, vb]] h fun r h' => ∃ o w, r = .agg (roRow o w) ∧ w.one = true ∧ BackOK o ∧ Sp h' (srcA p v code :: rdA w o.bytes :: L) := by
 refine icalls (.of ok18) (Nat.le_of_ble_eq_true rfl) ?_
 unfold c18
 have y1 := (hx h S.drop).one
 refine vc_split 4 (fun e g => ∃ p4 p7 o w, e 4 = .ptr p4 0 0 ∧ e 7 = .ptr p7 0 0 ∧ BackOK o ∧ w.one = true ∧ Sp g (box p7 (roO o w) :: box p4 roZ :: srcA p v code :: rdA w o.bytes :: L)) ?_ ?_
 rotate_left
 ·clear S
  rintro e g ⟨p4, p7, o, w, e4, e7, ho, w1, S⟩
  simp only [CC.split]
  have q0 := (S.bx 0 rfl).eq
  have q1 := (S.bx 1 rfl).eq
  try simp (disch := (first | exact dA | fail)) only [q0, q1, e4, e7, w1, go_sem, Nat.reduceBEq, Nat.reduceAdd, reduceIte]
  refine stw_of rfl rfl (by first | rfl | simp (disch := assumption) only [go_sem, cells_one, one_as]) fun g2 hg => ?_
  have l_g2 := n_set hg
  have S := S.set1 hg
  clear hg
  have q1 := (S.bx 1 rfl).eq
  try simp (disch := (first | exact dA | fail)) only [q1, e4, w1, go_sem, Nat.reduceBEq, Nat.reduceAdd, reduceIte]
  refine ⟨o, w, rfl, w1, ho, ?_⟩
  exact S.drop.drop
 simp only [CC.split]
 try simp (disch := (first | exact dA | fail)) only [y1, go_sem, Nat.reduceBEq, Nat.reduceAdd, reduceIte]
 refine Sp.bxA S (by first | rfl | (rw [cells_one (by assumption)]; rfl)) (by first | rfl | simp (disch := assumption) only [go_sem, cells_one, one_as]) fun p3 g1 S E_g1 l_g1 => ?_
 try simp (disch := (first | exact dA | fail)) only [y1, go_sem, Nat.reduceBEq, Nat.reduceAdd, reduceIte]
 refine Sp.zero S fun p4 g2 S E_g2 l_g2 => ?_
 have q1 := (S.bx 1 rfl).eq
 try simp (disch := (first | exact dA | fail)) only [q1, y1, go_sem, Nat.reduceBEq, Nat.reduceAdd, reduceIte]
 have S := by simpa only [mc0, mn0, List.getD_cons_zero, List.getD_cons_succ, ds0, dz0, ca0, na0] using Sp.sel S 3 [2, 0, 1] (by simp only [lc0]; omega) (by decide) (by decide)
 obtain ⟨C, hp⟩ := src_use S (hv g2 (S.dn 3)) hne
 refine callA_of (l19Zone_c g2 p v code C hl hp) ?_
 rintro r3 g3 ⟨es, o3, hes, C3, V3⟩
 have S := src_back_own S C3 V3 o3
 have z3 := o3.sl.one
 have q3 := (S.bx 3 rfl).eq
 try simp (disch := (first | exact dA | fail)) only [q3, y1, z3, go_sem, Nat.reduceBEq, Nat.reduceAdd, reduceIte]
 refine callA_of (specAnswerName_c g3 r3 vb es xb (S.slA 1 rfl) (hx g3 (S.dn 4)) (by omega) (by omega)) ?_
 have han := ansN_len (es := es) (bs := xb)
 generalize ansN es xb = an at han ⊢
 obtain ⟨ab, ac⟩ := an
 rintro r4 g4 ⟨v4, rfl, o4, E4⟩
 have S := S.ofOwn E4 o4
 have z4 := o4.sl.one
 simp only at S han
 have S := by simpa only [mc0, mn0, List.getD_cons_zero, List.getD_cons_succ, ds0, dz0, ca0, na0] using Sp.sel S 5 [0, 1, 3, 4] (by simp only [lc0]; omega) (by decide) (by decide)
 have q2 := (S.bx 2 rfl).eq
 have q3 := (S.bx 3 rfl).eq
 try simp (disch := (first | exact dA | fail)) only [q2, q3, z4, ca0, na0, lay_p, go_sem, Nat.reduceBEq, Nat.reduceAdd, reduceIte]
 refine Sp.zero S fun p7 g5 S E_g5 l_g5 => ?_
 have q0 := (S.bx 0 rfl).eq
 have q4 := (S.bx 4 rfl).eq
 try simp (disch := (first | exact dA | fail)) only [q0, q4, z4, go_sem, Nat.reduceBEq, Nat.reduceAdd, reduceIte]
 refine stw_of rfl rfl (by first | rfl | simp (disch := assumption) only [go_sem, cells_one, one_as]) fun g6 hg => ?_
 have l_g6 := n_set hg
 have S := S.set0 hg
 clear hg
 try simp (disch := (first | exact dA | fail)) only [z4, go_sem, Nat.reduceBEq, Nat.reduceAdd, reduceIte]
 have S := by simpa only [mc0, mn0, List.getD_cons_zero, List.getD_cons_succ, ds0, dz0, ca0, na0] using Sp.sel S 5 [2, 0, 3, 4, 1] (by simp only [lc0]; omega) (by decide) (by decide)
 obtain ⟨C, hp⟩ := src_use S (hv g6 (S.dn 5)) hne
 refine callA_of (l01Next_c g6 p v code 16 C (by omega) (by omega) hl) ?_
 rintro r7 g7 ⟨k, rfl, k0, k1, C7, V7, _⟩
 have S := src_back S C7 V7
 clear C C3 C7
 have mk : ∀ {g : IH} {o : Ro} {w : IV}, Sp g (srcA p v code :: box p7 (roO o w) :: box p4 roZ :: box p3 (.rows [[.int .i64 server, vb]] 49 2 false) :: byts w o.bytes :: L) → Sp g (box p7 (roO o w) :: box p4 roZ :: srcA p v code :: rdA w o.bytes :: L) := by
  intro g o w S
  have S := by simpa only [mc0, mn0, List.getD_cons_zero, List.getD_cons_succ, ds0, dz0, ca0, na0] using Sp.sel S 5 [4, 0, 1, 2] (by simp only [lc0]; omega) (by decide) (by decide)
  have S := rd_of S
  have S := by simpa only [mc0, mn0, List.getD_cons_zero, List.getD_cons_succ, ds0, dz0, ca0, na0] using Sp.sel S 4 [2, 3, 1, 0] (by simp only [lc0]; omega) (by decide) (by decide)
  exact S
 try simp (disch := (first | exact dA | fail)) only [go_sem, Nat.reduceBEq, Nat.reduceAdd, reduceIte]
 refine test_dec (fun hk => ?_) (fun hk => ?_)
 ·skip
  have q1 := (S.bx 1 rfl).eq
  try simp (disch := (first | exact dA | fail)) only [q1, go_sem, Nat.reduceBEq, Nat.reduceAdd, reduceIte]
  refine st1_of (Nat.le_of_ble_eq_true rfl) (by first | rfl | assumption) fun g8 hg => ?_
  have l_g8 := n_set hg
  have S := S.set1 hg
  clear hg
  simp only [sz0, ss0, ts0, tz0, ds0, dz0, ca0, na0, Nat.reduceAdd] at S
  try simp (disch := (first | exact dA | fail)) only [go_sem, Nat.reduceBEq, Nat.reduceAdd, reduceIte]
  exact ⟨p4, p7, ⟨2, wr .i64 (server + 1), 53, 0, [], ab⟩, v4, rfl, rfl, ⟨rfl, rfl, rfl, han⟩, z4, mk S⟩
 try simp (disch := (first | exact dA | fail)) only [go_sem, Nat.reduceBEq, Nat.reduceAdd, reduceIte]
 refine test_dec (fun hk => ?_) (fun hk => ?_)
 ·skip
  have q1 := (S.bx 1 rfl).eq
  try simp (disch := (first | exact dA | fail)) only [q1, go_sem, Nat.reduceBEq, Nat.reduceAdd, reduceIte]
  refine st1_of (Nat.le_of_ble_eq_true rfl) (by first | rfl | assumption) fun g8 hg => ?_
  have l_g8 := n_set hg
  have S := S.set1 hg
  clear hg
  simp only [sz0, ss0, ts0, tz0, ds0, dz0, ca0, na0, Nat.reduceAdd] at S
  try simp (disch := (first | exact dA | fail)) only [go_sem, Nat.reduceBEq, Nat.reduceAdd, reduceIte]
  exact ⟨p4, p7, ⟨2, server, 54, 0, [], ab⟩, v4, rfl, rfl, ⟨rfl, rfl, rfl, han⟩, z4, mk S⟩
 try simp (disch := (first | exact dA | fail)) only [go_sem, Nat.reduceBEq, Nat.reduceAdd, reduceIte]
 refine test_dec (fun hk => ?_) (fun hk => ?_)
 ·skip
  try simp (disch := (first | exact dA | fail)) only [z4, go_sem, Nat.reduceBEq, Nat.reduceAdd, reduceIte]
  obtain ⟨C, hp⟩ := src_use S (hv g7 (S.dn 5)) hne
  refine callA_of (l03Flip_c g7 p v v4 code ab 4 C (S.slA 4 rfl) hl (by omega) (by decide) (by decide) hp) ?_
  rintro r8 g8 ⟨bs', s8, l8, C8, V8, n8⟩
  have S := src_back_rd S C8 V8 s8 n8
  have z8 := s8.one
  have q2 := (S.bx 2 rfl).eq
  try simp (disch := (first | exact dA | fail)) only [q2, z8, go_sem, Nat.reduceBEq, Nat.reduceAdd, reduceIte]
  refine st1_of (Nat.le_of_ble_eq_true rfl) (by first | rfl | assumption) fun g9 hg => ?_
  have l_g9 := n_set hg
  have S := S.set2 hg
  clear hg
  simp only [sz0, ss0, ts0, tz0, ds0, dz0, ca0, na0, Nat.reduceAdd] at S
  try simp (disch := (first | exact dA | fail)) only [go_sem, Nat.reduceBEq, Nat.reduceAdd, reduceIte]
  have S := by simpa only [mc0, mn0, List.getD_cons_zero, List.getD_cons_succ, ds0, dz0, ca0, na0] using Sp.sel S 6 [2, 3, 0, 1] (by simp only [lc0]; omega) (by decide) (by decide)
  exact ⟨p4, p7, ⟨2, server, 53, 0, [], bs'⟩, r8, rfl, rfl, ⟨rfl, rfl, rfl, by show bs'.length ≤ 1000; omega⟩, z8, S⟩
 try simp (disch := (first | exact dA | fail)) only [go_sem, Nat.reduceBEq, Nat.reduceAdd, reduceIte]
 refine test_dec (fun hk => ?_) (fun hk => ?_)
 ·have fct := fun x : Int => ib_rem .i64 (wr .i64 (x + 1)) 65536 (by decide)
  try simp (disch := (first | exact dA | fail)) only [z4, go_sem, Nat.reduceBEq, Nat.reduceAdd, reduceIte]
  refine callA_of (specDecodeReply_c g7 v4 ab (S.slA 4 rfl) (by omega)) ?_
  obtain ⟨hn1, hn2⟩ := decR_small ab
  generalize decR ab = R at hn1 hn2 ⊢
  obtain ⟨R, rc⟩ := R
  rintro r8 g8 ⟨v8, rfl, o8, E8⟩
  have S := S.ofOwn E8 o8
  have z8 := o8.sl.one
  simp only at S hn1 hn2
  try simp (disch := (first | exact dA | fail)) only [z8, go_sem, Nat.reduceBEq, Nat.reduceAdd, reduceIte]
  refine Sp.zero S fun p8 g9 S E_g9 l_g9 => ?_
  have q0 := (S.bx 0 rfl).eq
  try simp (disch := (first | exact dA | fail)) only [q0, z8, go_sem, Nat.reduceBEq, Nat.reduceAdd, reduceIte]
  refine stw_of rfl rfl (by first | rfl | simp (disch := assumption) only [go_sem, cells_one, one_as]) fun g10 hg => ?_
  have l_g10 := n_set hg
  have S := S.set0 hg
  clear hg
  have q0 := (S.bx 0 rfl).eq
  try simp (disch := (first | exact dA | fail)) only [q0, z8, fct, go_sem, Nat.reduceBEq, Nat.reduceAdd, reduceIte]
  refine st1_of (Nat.le_of_ble_eq_true rfl) (by first | rfl | assumption) fun g11 hg => ?_
  have l_g11 := n_set hg
  have S := S.set0 hg
  clear hg
  simp only [sz0, ss0, ts0, tz0, ds0, dz0, ca0, na0, Nat.reduceAdd] at S
  have q0 := (S.bx 0 rfl).eq
  try simp (disch := (first | exact dA | fail)) only [q0, z8, go_sem, Nat.reduceBEq, Nat.reduceAdd, reduceIte]
  refine callA_of (specEncodeReply_c g11 _ _ _ _ v8 R.zs (S.slA 1 rfl) (by first | omega | (simp only [lc0, ln0]; omega)) (by omega)) ?_
  generalize hen : encR _ _ _ _ _ = en
  have henl : en.1.length ≤ 1000 := by rw [← hen]; exact encR_len
  rintro r12 g12 ⟨v12, rfl, o12, E12⟩
  have S := S.ofOwn E12 o12
  have z12 := o12.sl.one
  have q4 := (S.bx 4 rfl).eq
  try simp (disch := (first | exact dA | fail)) only [q4, z12, go_sem, Nat.reduceBEq, Nat.reduceAdd, reduceIte]
  refine st1_of (Nat.le_of_ble_eq_true rfl) (by first | rfl | assumption) fun g13 hg => ?_
  have l_g13 := n_set hg
  have S := S.set4 hg
  clear hg
  simp only [sz0, ss0, ts0, tz0, ds0, dz0, ca0, na0, Nat.reduceAdd] at S
  try simp (disch := (first | exact dA | fail)) only [go_sem, Nat.reduceBEq, Nat.reduceAdd, reduceIte]
  have S := by simpa only [mc0, mn0, List.getD_cons_zero, List.getD_cons_succ, ds0, dz0, ca0, na0] using Sp.sel S 8 [3, 4, 5, 6, 0] (by simp only [lc0]; omega) (by decide) (by decide)
  exact ⟨p4, p7, ⟨2, server, 53, 0, [], en.1⟩, v12, rfl, rfl, ⟨rfl, rfl, rfl, henl⟩, z12, mk S⟩
 try simp (disch := (first | exact dA | fail)) only [go_sem, Nat.reduceBEq, Nat.reduceAdd, reduceIte]
 have fin4 : ∀ e : Env, True := fun _ => trivial
 refine test_dec (fun hk4 => ?_) (fun hk4 => ?_)
 ·have d4 : decide (k = 4) = true := decide_eq_true hk4
  try simp (disch := (first | exact dA | fail)) only [z4, d4, go_sem, Nat.reduceBEq, Nat.reduceAdd, reduceIte]
  refine callA_of (specDecodeReply_c g7 v4 ab (S.slA 4 rfl) (by omega)) ?_
  obtain ⟨hn1, hn2⟩ := decR_small ab
  generalize decR ab = R at hn1 hn2 ⊢
  obtain ⟨R, rc⟩ := R
  rintro r8 g8 ⟨v8, rfl, o8, E8⟩
  have S := S.ofOwn E8 o8
  have z8 := o8.sl.one
  simp only at S hn1 hn2
  try simp (disch := (first | exact dA | fail)) only [z8, go_sem, Nat.reduceBEq, Nat.reduceAdd, reduceIte]
  refine Sp.zero S fun p8 g9 S E_g9 l_g9 => ?_
  have q0 := (S.bx 0 rfl).eq
  try simp (disch := (first | exact dA | fail)) only [q0, z8, go_sem, Nat.reduceBEq, Nat.reduceAdd, reduceIte]
  refine stw_of rfl rfl (by first | rfl | simp (disch := assumption) only [go_sem, cells_one, one_as]) fun g10 hg => ?_
  have l_g10 := n_set hg
  have S := S.set0 hg
  clear hg
  have q0 := (S.bx 0 rfl).eq
  try simp (disch := (first | exact dA | fail)) only [q0, z8, go_sem, Nat.reduceBEq, Nat.reduceAdd, reduceIte]
  refine st1_of (Nat.le_of_ble_eq_true rfl) (by first | rfl | assumption) fun g11 hg => ?_
  have l_g11 := n_set hg
  have S := S.set0 hg
  clear hg
  simp only [sz0, ss0, ts0, tz0, ds0, dz0, ca0, na0, Nat.reduceAdd] at S
  have q0 := (S.bx 0 rfl).eq
  try simp (disch := (first | exact dA | fail)) only [q0, z8, go_sem, Nat.reduceBEq, Nat.reduceAdd, reduceIte]
  refine callA_of (specEncodeReply_c g11 _ _ _ _ v8 R.zs (S.slA 1 rfl) (by first | omega | (simp only [lc0, ln0]; omega)) (by omega)) ?_
  generalize hen : encR _ _ _ _ _ = en
  have henl : en.1.length ≤ 1000 := by rw [← hen]; exact encR_len
  rintro r12 g12 ⟨v12, rfl, o12, E12⟩
  have S := S.ofOwn E12 o12
  have z12 := o12.sl.one
  have q4 := (S.bx 4 rfl).eq
  try simp (disch := (first | exact dA | fail)) only [q4, z12, go_sem, Nat.reduceBEq, Nat.reduceAdd, reduceIte]
  refine st1_of (Nat.le_of_ble_eq_true rfl) (by first | rfl | assumption) fun g13 hg => ?_
  have l_g13 := n_set hg
  have S := S.set4 hg
  clear hg
  simp only [sz0, ss0, ts0, tz0, ds0, dz0, ca0, na0, Nat.reduceAdd] at S
  try simp (disch := (first | exact dA | fail)) only [go_sem, Nat.reduceBEq, Nat.reduceAdd, reduceIte]
  have S := by simpa only [mc0, mn0, List.getD_cons_zero, List.getD_cons_succ, ds0, dz0, ca0, na0] using Sp.sel S 8 [3, 4, 5, 6, 0] (by simp only [lc0]; omega) (by decide) (by decide)
  exact ⟨p4, p7, ⟨2, server, 53, 0, [], en.1⟩, v12, rfl, rfl, ⟨rfl, rfl, rfl, henl⟩, z12, mk S⟩
 try simp (disch := (first | exact dA | fail)) only [go_sem, Nat.reduceBEq, Nat.reduceAdd, reduceIte]
 refine test_dec (fun hk5 => ?_) (fun hk5 => ?_)
 ·skip
  try simp (disch := (first | exact dA | fail)) only [z4, go_sem, Nat.reduceBEq, Nat.reduceAdd, reduceIte]
  refine callA_of (specDecodeReply_c g7 v4 ab (S.slA 4 rfl) (by omega)) ?_
  obtain ⟨hn1, hn2⟩ := decR_small ab
  generalize decR ab = R at hn1 hn2 ⊢
  obtain ⟨R, rc⟩ := R
  rintro r8 g8 ⟨v8, rfl, o8, E8⟩
  have S := S.ofOwn E8 o8
  have z8 := o8.sl.one
  simp only at S hn1 hn2
  try simp (disch := (first | exact dA | fail)) only [z8, go_sem, Nat.reduceBEq, Nat.reduceAdd, reduceIte]
  refine Sp.zero S fun p8 g9 S E_g9 l_g9 => ?_
  have q0 := (S.bx 0 rfl).eq
  try simp (disch := (first | exact dA | fail)) only [q0, z8, go_sem, Nat.reduceBEq, Nat.reduceAdd, reduceIte]
  refine stw_of rfl rfl (by first | rfl | simp (disch := assumption) only [go_sem, cells_one, one_as]) fun g10 hg => ?_
  have l_g10 := n_set hg
  have S := S.set0 hg
  clear hg
  have q0 := (S.bx 0 rfl).eq
  try simp (disch := (first | exact dA | fail)) only [q0, z8, go_sem, Nat.reduceBEq, Nat.reduceAdd, reduceIte]
  refine st1_of (Nat.le_of_ble_eq_true rfl) (by first | rfl | assumption) fun g11 hg => ?_
  have l_g11 := n_set hg
  have S := S.set0 hg
  clear hg
  simp only [sz0, ss0, ts0, tz0, ds0, dz0, ca0, na0, Nat.reduceAdd] at S
  have q0 := (S.bx 0 rfl).eq
  try simp (disch := (first | exact dA | fail)) only [q0, z8, go_sem, Nat.reduceBEq, Nat.reduceAdd, reduceIte]
  refine callA_of (specEncodeReply_c g11 _ _ _ _ v8 R.zs (S.slA 1 rfl) (by first | omega | (simp only [lc0, ln0]; omega)) (by omega)) ?_
  generalize hen : encR _ _ _ _ _ = en
  have henl : en.1.length ≤ 1000 := by rw [← hen]; exact encR_len
  rintro r12 g12 ⟨v12, rfl, o12, E12⟩
  have S := S.ofOwn E12 o12
  have z12 := o12.sl.one
  have q4 := (S.bx 4 rfl).eq
  try simp (disch := (first | exact dA | fail)) only [q4, z12, go_sem, Nat.reduceBEq, Nat.reduceAdd, reduceIte]
  refine st1_of (Nat.le_of_ble_eq_true rfl) (by first | rfl | assumption) fun g13 hg => ?_
  have l_g13 := n_set hg
  have S := S.set4 hg
  clear hg
  simp only [sz0, ss0, ts0, tz0, ds0, dz0, ca0, na0, Nat.reduceAdd] at S
  try simp (disch := (first | exact dA | fail)) only [go_sem, Nat.reduceBEq, Nat.reduceAdd, reduceIte]
  have S := by simpa only [mc0, mn0, List.getD_cons_zero, List.getD_cons_succ, ds0, dz0, ca0, na0] using Sp.sel S 8 [3, 4, 5, 6, 0] (by simp only [lc0]; omega) (by decide) (by decide)
  exact ⟨p4, p7, ⟨2, server, 53, 0, [], en.1⟩, v12, rfl, rfl, ⟨rfl, rfl, rfl, henl⟩, z12, mk S⟩
 try simp (disch := (first | exact dA | fail)) only [go_sem, Nat.reduceBEq, Nat.reduceAdd, reduceIte]
 refine test_dec (fun hk6 => ?_) (fun hk6 => ?_)
 ·skip
  try simp (disch := (first | exact dA | fail)) only [z4, go_sem, Nat.reduceBEq, Nat.reduceAdd, reduceIte]
  refine callA_of (specDecodeReply_c g7 v4 ab (S.slA 4 rfl) (by omega)) ?_
  obtain ⟨hn1, hn2⟩ := decR_small ab
  generalize decR ab = R at hn1 hn2 ⊢
  obtain ⟨R, rc⟩ := R
  rintro r8 g8 ⟨v8, rfl, o8, E8⟩
  have S := S.ofOwn E8 o8
  have z8 := o8.sl.one
  simp only at S hn1 hn2
  try simp (disch := (first | exact dA | fail)) only [z8, go_sem, Nat.reduceBEq, Nat.reduceAdd, reduceIte]
  refine Sp.zero S fun p8 g9 S E_g9 l_g9 => ?_
  have q0 := (S.bx 0 rfl).eq
  try simp (disch := (first | exact dA | fail)) only [q0, z8, go_sem, Nat.reduceBEq, Nat.reduceAdd, reduceIte]
  refine stw_of rfl rfl (by first | rfl | simp (disch := assumption) only [go_sem, cells_one, one_as]) fun g10 hg => ?_
  have l_g10 := n_set hg
  have S := S.set0 hg
  clear hg
  have q0 := (S.bx 0 rfl).eq
  try simp (disch := (first | exact dA | fail)) only [q0, z8, go_sem, Nat.reduceBEq, Nat.reduceAdd, reduceIte]
  refine st1_of (Nat.le_of_ble_eq_true rfl) (by first | rfl | assumption) fun g11 hg => ?_
  have l_g11 := n_set hg
  have S := S.set0 hg
  clear hg
  simp only [sz0, ss0, ts0, tz0, ds0, dz0, ca0, na0, Nat.reduceAdd] at S
  have q0 := (S.bx 0 rfl).eq
  try simp (disch := (first | exact dA | fail)) only [q0, z8, go_sem, Nat.reduceBEq, Nat.reduceAdd, reduceIte]
  refine callA_of (specEncodeReply_c g11 _ _ _ _ v8 R.zs (S.slA 1 rfl) (by first | omega | (simp only [lc0, ln0]; omega)) (by omega)) ?_
  generalize hen : encR _ _ _ _ _ = en
  have henl : en.1.length ≤ 1000 := by rw [← hen]; exact encR_len
  rintro r12 g12 ⟨v12, rfl, o12, E12⟩
  have S := S.ofOwn E12 o12
  have z12 := o12.sl.one
  have q4 := (S.bx 4 rfl).eq
  try simp (disch := (first | exact dA | fail)) only [q4, z12, go_sem, Nat.reduceBEq, Nat.reduceAdd, reduceIte]
  refine st1_of (Nat.le_of_ble_eq_true rfl) (by first | rfl | assumption) fun g13 hg => ?_
  have l_g13 := n_set hg
  have S := S.set4 hg
  clear hg
  simp only [sz0, ss0, ts0, tz0, ds0, dz0, ca0, na0, Nat.reduceAdd] at S
  try simp (disch := (first | exact dA | fail)) only [go_sem, Nat.reduceBEq, Nat.reduceAdd, reduceIte]
  have S := by simpa only [mc0, mn0, List.getD_cons_zero, List.getD_cons_succ, ds0, dz0, ca0, na0] using Sp.sel S 8 [3, 4, 5, 6, 0] (by simp only [lc0]; omega) (by decide) (by decide)
  exact ⟨p4, p7, ⟨2, server, 53, 0, [], en.1⟩, v12, rfl, rfl, ⟨rfl, rfl, rfl, henl⟩, z12, mk S⟩
 try simp (disch := (first | exact dA | fail)) only [go_sem, Nat.reduceBEq, Nat.reduceAdd, reduceIte]
 exact ⟨p4, p7, ⟨2, server, 53, 0, [], ab⟩, v4, rfl, rfl, ⟨rfl, rfl, rfl, han⟩, z4, mk S⟩
end
end Go.Proofs.YtaoffieemecioaaDoor

namespace Go.Proofs.YtaoffieemecioaaDoor
open Go Go.IW
def c3 : CC :=
 (.seq (.reg [
 p0 2 (.mv (.c (.bool false)))])
 (.seq (.seq (.reg [
 p0 15 (.mv (.t 0)),
 p0 16 (.len (.t 15)),
 p0 17 (.bin .gtr (.t 16) (.c (.int .i64 1048576)))])
 (.cond (.t 17)
 (.seq (.reg [
 p0 2 (.mv (.c (.bool true)))])
 .ret)
 .skip))
 (.seq (.reg [
 p0 19 (.mv (.t 0)),
 x0 20 (.call 5 [(.t 19)]),
 p0 18 (.mv (.t 20)),
 p0 21 (.ext 0 (.t 18)),
 p0 22 (.ext 1 (.t 18)),
 x0 3 (.zero 25 2 [.nilslice, (.int .i64 0)]),
 s0 (.st 2 (.t 3) (.t 21)),
 p0 4 (.mv (.t 22))])
 (.seq (.reg [
 p0 23 (.mv (.t 4)),
 p0 24 (.build [(.int .i64 0), (.int .i64 0), (.int .i64 0), (.int .i64 0), (.str []), .nilslice] [(0, 1, (.c (.int .i64 3))), (3, 1, (.c (.int .i64 10000)))]),
 x0 25 (.bslice 30 6 [(.int .i64 0), (.int .i64 0), (.int .i64 0), (.int .i64 0), (.str []), .nilslice] 1 [(0, (.t 24))]),
 x0 26 (.app 30 6 72 (.t 23) (.t 25)),
 p0 4 (.mv (.t 26))])
 (.seq (.reg [
 p0 28 (.ldA 2 (.t 3)),
 p0 29 (.mv (.t 4)),
 x0 30 (.call 6 [(.t 28), (.t 29)]),
 p0 27 (.mv (.t 30)),
 p0 31 (.ext 0 (.t 27)),
 p0 32 (.ext 1 (.t 27)),
 p0 5 (.mv (.t 31)),
 p0 6 (.mv (.t 32))])
 (.seq (.reg [
 p0 34 (.ldA 2 (.t 3)),
 p0 35 (.mv (.t 4)),
 x0 36 (.call 7 [(.t 34), (.t 35)]),
 p0 33 (.mv (.t 36)),
 p0 37 (.ext 0 (.t 33)),
 p0 38 (.ext 1 (.t 33)),
 p0 7 (.mv (.t 37)),
 p0 8 (.mv (.t 38))])
 (.seq (.seq (.reg [
 p0 39 (.mv (.t 8)),
 p0 40 (.mv (.t 6)),
 p0 41 (.bin .neq (.t 39) (.t 40)),
 p0 42 (.mv (.t 41)),
 g0 43 42 false (.mv (.t 7)),
 g0 44 42 false (.len (.t 43)),
 g0 45 42 false (.mv (.t 5)),
 g0 46 42 false (.len (.t 45)),
 g0 47 42 false (.bin .neq (.t 44) (.t 46)),
 p0 48 (.pick (.t 42) (.c (.bool true)) (.t 47))])
 (.cond (.t 48)
 (.seq (.reg [
 p0 2 (.mv (.c (.bool false)))])
 .ret)
 .skip))
 (.seq (.seq (.reg [
 p0 49 (.mv (.t 8)),
 p0 50 (.bin .neq (.t 49) (.c (.int .i64 0)))])
 (.cond (.t 50)
 (.seq (.reg [
 p0 2 (.mv (.c (.bool true)))])
 .ret)
 .skip))
 (.seq (.reg [
 p0 51 (.mv (.t 4)),
 p0 52 (.len (.t 51)),
 x0 53 (.mks 3 1 8 [(.int .i64 0)] (.t 52) (.t 52)),
 p0 9 (.mv (.t 53))])
 (.seq (.seq (.reg [
 p0 10 (.mv (.c (.int .i64 0)))])
 (.block 0 (.loop (.seq (.seq (.reg [
 p0 54 (.mv (.t 10)),
 p0 55 (.mv (.t 7)),
 p0 56 (.len (.t 55)),
 p0 57 (.bin .lss (.t 54) (.t 56))])
 (.cond (.t 57)
 .skip
 (.exit 0)))
 (.seq (.block 1 (.seq (.seq (.reg [
 p0 60 (.mv (.t 7)),
 p0 61 (.mv (.t 10)),
 p0 62 (.iadr 5 (.t 60) (.t 61)),
 p0 63 (.fadr 0 (.t 62)),
 p0 64 (.ld (.t 63)),
 p0 65 (.mv (.t 5)),
 p0 66 (.mv (.t 10)),
 p0 67 (.iadr 5 (.t 65) (.t 66)),
 p0 68 (.fadr 0 (.t 67)),
 p0 69 (.ld (.t 68)),
 p0 70 (.bin .neq (.t 64) (.t 69)),
 p0 71 (.mv (.t 70)),
 g0 72 71 false (.mv (.t 7)),
 g0 73 71 false (.mv (.t 10)),
 g0 74 71 false (.iadr 5 (.t 72) (.t 73)),
 g0 75 71 false (.fadr 4 (.t 74)),
 g0 76 71 false (.ld (.t 75)),
 g0 77 71 false (.bin .gtr (.t 76) (.c (.int .i64 16))),
 p0 78 (.pick (.t 71) (.c (.bool true)) (.t 77)),
 p0 79 (.mv (.t 78)),
 g0 80 79 false (.mv (.t 7)),
 g0 81 79 false (.mv (.t 10)),
 g0 82 79 false (.iadr 5 (.t 80) (.t 81)),
 g0 83 79 false (.fadr 3 (.t 82)),
 g0 84 79 false (.ld (.t 83)),
 g0 85 79 false (.bin .gtr (.t 84) (.c (.int .i64 32))),
 p0 86 (.pick (.t 79) (.c (.bool true)) (.t 85))])
 (.cond (.t 86)
 (.seq (.reg [
 p0 2 (.mv (.c (.bool false)))])
 .ret)
 .skip))
 (.seq (.reg [
 p0 11 (.mv (.c (.int .i64 0)))])
 (.block 2 (.loop (.seq (.seq (.reg [
 p0 87 (.mv (.t 11)),
 p0 88 (.mv (.t 7)),
 p0 89 (.mv (.t 10)),
 p0 90 (.iadr 5 (.t 88) (.t 89)),
 p0 91 (.fadr 2 (.t 90)),
 p0 92 (.ld (.t 91)),
 p0 93 (.len (.t 92)),
 p0 94 (.bin .lss (.t 87) (.t 93))])
 (.cond (.t 94)
 .skip
 (.exit 2)))
 (.seq (.block 3 (.seq (.reg [
 p0 97 (.mv (.t 7)),
 p0 98 (.mv (.t 10)),
 p0 99 (.iadr 5 (.t 97) (.t 98)),
 p0 100 (.fadr 2 (.t 99)),
 p0 101 (.ld (.t 100)),
 p0 102 (.mv (.t 11)),
 p0 103 (.iadr 3 (.t 101) (.t 102)),
 p0 104 (.ldA 3 (.t 103)),
 x0 12 (.zero 40 3 [(.int .i64 0), (.int .i64 0), .nilslice]),
 s0 (.st 3 (.t 12) (.t 104))])
 (.seq (.seq (.reg [
 p0 105 (.fadr 0 (.t 12)),
 p0 106 (.ld (.t 105)),
 p0 107 (.bin .lss (.t 106) (.c (.int .i64 0))),
 p0 108 (.mv (.t 107)),
 g0 109 108 false (.fadr 0 (.t 12)),
 g0 110 108 false (.ld (.t 109)),
 g0 111 108 false (.mv (.t 10)),
 g0 112 108 false (.bin .gtr (.t 110) (.t 111)),
 p0 113 (.pick (.t 108) (.c (.bool true)) (.t 112)),
 p0 114 (.mv (.t 113)),
 g0 115 114 false (.mv (.t 4)),
 g0 116 114 false (.fadr 0 (.t 12)),
 g0 117 114 false (.ld (.t 116)),
 g0 118 114 false (.iadr 6 (.t 115) (.t 117)),
 g0 119 114 false (.fadr 0 (.t 118)),
 g0 120 114 false (.ld (.t 119)),
 g0 121 114 false (.bin .neq (.t 120) (.c (.int .i64 1))),
 p0 122 (.pick (.t 114) (.c (.bool true)) (.t 121)),
 p0 123 (.mv (.t 122)),
 g0 124 123 false (.mv (.t 5)),
 g0 125 123 false (.fadr 0 (.t 12)),
 g0 126 123 false (.ld (.t 125)),
 g0 127 123 false (.iadr 5 (.t 124) (.t 126)),
 g0 128 123 false (.fadr 0 (.t 127)),
 g0 129 123 false (.ld (.t 128)),
 g0 130 123 false (.bin .neq (.t 129) (.c (.int .i64 0))),
 p0 131 (.pick (.t 123) (.c (.bool true)) (.t 130))])
 (.cond (.t 131)
 (.seq (.reg [
 p0 2 (.mv (.c (.bool false)))])
 .ret)
 .skip))
 (.seq (.reg [
 p0 132 (.mv (.t 9)),
 p0 133 (.fadr 0 (.t 12)),
 p0 134 (.ld (.t 133)),
 p0 135 (.iadr 1 (.t 132) (.t 134)),
 p0 136 (.ld (.t 135)),
 p0 137 (.bin .add (.t 136) (.c (.int .i64 1))),
 p0 138 (.iadr 1 (.t 132) (.t 134)),
 s0 (.st 1 (.t 138) (.t 137))])
 (.seq (.reg [
 p0 139 (.fadr 1 (.t 12)),
 p0 140 (.ld (.t 139)),
 p0 141 (.bin .eql (.t 140) (.c (.int .i64 0))),
 p0 142 (.mv (.t 141)),
 g0 143 142 true (.fadr 2 (.t 12)),
 g0 144 142 true (.ld (.t 143)),
 g0 145 142 true (.len (.t 144)),
 g0 146 142 true (.bin .eql (.t 145) (.c (.int .i64 0))),
 g0 147 142 true (.mv (.t 146)),
 g0 148 147 false (.mv (.t 4)),
 g0 149 147 false (.mv (.t 10)),
 g0 150 147 false (.bin .add (.t 149) (.c (.int .i64 1))),
 g0 151 147 false (.slc 6 (.t 148) none (some (.t 150)) none),
 g0 152 147 false (.mv (.t 4)),
 g0 153 147 false (.fadr 0 (.t 12)),
 g0 154 147 false (.ld (.t 153)),
 g0 155 147 false (.iadr 6 (.t 152) (.t 154)),
 g0 156 147 false (.fadr 4 (.t 155)),
 g0 157 147 false (.ld (.t 156)),
 g0 158 147 false (.fadr 2 (.t 12)),
 g0 159 147 false (.ld (.t 158)),
 ⟨(some 160), (some (147, false)), .x (.call 8 [(.t 151), (.t 157), (.t 159)])⟩,
 g0 161 147 false (.un .not (.t 160)),
 g0 162 142 true (.pick (.t 147) (.c (.bool true)) (.t 161)),
 p0 163 (.pick (.t 142) (.t 162) (.c (.bool false))),
 p0 164 (.mv (.t 163)),
 g0 165 164 false (.fadr 1 (.t 12)),
 g0 166 164 false (.ld (.t 165)),
 g0 167 164 false (.bin .neq (.t 166) (.c (.int .i64 0))),
 g0 168 164 false (.mv (.t 167)),
 g0 169 168 true (.fadr 2 (.t 12)),
 g0 170 168 true (.ld (.t 169)),
 g0 171 168 true (.len (.t 170)),
 g0 172 168 true (.bin .gtr (.t 171) (.c (.int .i64 0))),
 g0 173 164 false (.pick (.t 168) (.t 172) (.c (.bool false))),
 p0 174 (.pick (.t 164) (.c (.bool true)) (.t 173))])
 (.cond (.t 174)
 (.seq (.reg [
 p0 2 (.mv (.c (.bool false)))])
 .ret)
 .skip))))))
 (.reg [
 p0 95 (.mv (.t 11)),
 p0 96 (.bin .add (.t 95) (.c (.int .i64 1))),
 p0 11 (.mv (.t 96))]))))))))
 (.reg [
 p0 58 (.mv (.t 10)),
 p0 59 (.bin .add (.t 58) (.c (.int .i64 1))),
 p0 10 (.mv (.t 59))]))))))
 (.seq (.seq (.reg [
 p0 13 (.mv (.c (.int .i64 0)))])
 (.block 4 (.loop (.seq (.seq (.reg [
 p0 175 (.mv (.t 13)),
 p0 176 (.mv (.t 4)),
 p0 177 (.len (.t 176)),
 p0 178 (.bin .lss (.t 175) (.t 177))])
 (.cond (.t 178)
 .skip
 (.exit 4)))
 (.seq (.block 5 (.seq (.reg [
 p0 181 (.mv (.t 4)),
 p0 182 (.mv (.t 13)),
 p0 183 (.iadr 6 (.t 181) (.t 182)),
 p0 184 (.fadr 0 (.t 183)),
 p0 185 (.ld (.t 184)),
 p0 186 (.bin .eql (.t 185) (.c (.int .i64 1))),
 p0 187 (.mv (.t 186)),
 g0 188 187 true (.mv (.t 5)),
 g0 189 187 true (.mv (.t 13)),
 g0 190 187 true (.iadr 5 (.t 188) (.t 189)),
 g0 191 187 true (.fadr 0 (.t 190)),
 g0 192 187 true (.ld (.t 191)),
 g0 193 187 true (.bin .eql (.t 192) (.c (.int .i64 0))),
 p0 194 (.pick (.t 187) (.t 193) (.c (.bool false))),
 p0 14 (.mv (.t 194))])
 (.seq (.reg [
 p0 195 (.mv (.t 14)),
 p0 196 (.mv (.t 195)),
 g0 197 196 true (.mv (.t 9)),
 g0 198 196 true (.mv (.t 13)),
 g0 199 196 true (.iadr 1 (.t 197) (.t 198)),
 g0 200 196 true (.ld (.t 199)),
 g0 201 196 true (.bin .neq (.t 200) (.c (.int .i64 1))),
 p0 202 (.pick (.t 196) (.t 201) (.c (.bool false))),
 p0 203 (.mv (.t 202)),
 g0 204 203 false (.mv (.t 14)),
 g0 205 203 false (.un .not (.t 204)),
 g0 206 203 false (.mv (.t 205)),
 g0 207 206 true (.mv (.t 9)),
 g0 208 206 true (.mv (.t 13)),
 g0 209 206 true (.iadr 1 (.t 207) (.t 208)),
 g0 210 206 true (.ld (.t 209)),
 g0 211 206 true (.bin .neq (.t 210) (.c (.int .i64 0))),
 g0 212 203 false (.pick (.t 206) (.t 211) (.c (.bool false))),
 p0 213 (.pick (.t 203) (.c (.bool true)) (.t 212))])
 (.cond (.t 213)
 (.seq (.reg [
 p0 2 (.mv (.c (.bool false)))])
 .ret)
 .skip))))
 (.reg [
 p0 179 (.mv (.t 13)),
 p0 180 (.bin .add (.t 179) (.c (.int .i64 1))),
 p0 13 (.mv (.t 180))]))))))
 (.seq (.reg [
 p0 214 (.mv (.t 7)),
 p0 215 (.mv (.t 7)),
 p0 216 (.len (.t 215)),
 p0 217 (.bin .sub (.t 216) (.c (.int .i64 1))),
 p0 218 (.iadr 5 (.t 214) (.t 217)),
 p0 219 (.fadr 4 (.t 218)),
 p0 220 (.ld (.t 219)),
 p0 221 (.bin .eql (.t 220) (.c (.int .i64 0))),
 p0 2 (.mv (.t 221))])
 .ret))))))))))))
theorem ok3 : fnCalm Tryd.prog 3 = some (222, c3, [(.mv (.t 2))]) := by kernel_rfl

def c4 : CC :=
 (.seq (.reg [
 p0 4 (.mv (.c (.bool false)))])
 (.seq (.seq (.reg [
 p0 27 (.mv (.t 0)),
 p0 28 (.len (.t 27)),
 p0 29 (.bin .gtr (.t 28) (.c (.int .i64 1048576))),
 p0 30 (.mv (.t 29)),
 g0 31 30 false (.mv (.t 1)),
 g0 32 30 false (.len (.t 31)),
 g0 33 30 false (.bin .gtr (.t 32) (.c (.int .i64 1048576))),
 p0 34 (.pick (.t 30) (.c (.bool true)) (.t 33))])
 (.cond (.t 34)
 (.seq (.reg [
 p0 4 (.mv (.c (.bool true)))])
 .ret)
 .skip))
 (.seq (.reg [
 p0 36 (.mv (.t 0)),
 x0 37 (.call 5 [(.t 36)]),
 p0 35 (.mv (.t 37)),
 p0 38 (.ext 0 (.t 35)),
 p0 39 (.ext 1 (.t 35)),
 x0 5 (.zero 25 2 [.nilslice, (.int .i64 0)]),
 s0 (.st 2 (.t 5) (.t 38)),
 p0 6 (.mv (.t 39))])
 (.seq (.reg [
 p0 41 (.ldA 2 (.t 5)),
 p0 42 (.mv (.t 6)),
 x0 43 (.call 6 [(.t 41), (.t 42)]),
 p0 40 (.mv (.t 43)),
 p0 44 (.ext 0 (.t 40)),
 p0 45 (.ext 1 (.t 40)),
 p0 7 (.mv (.t 44)),
 p0 8 (.mv (.t 45))])
 (.seq (.seq (.reg [
 p0 46 (.mv (.t 8)),
 p0 47 (.bin .neq (.t 46) (.c (.int .i64 0)))])
 (.cond (.t 47)
 (.seq (.reg [
 p0 49 (.ldA 2 (.t 5)),
 p0 50 (.mv (.t 6)),
 x0 51 (.call 7 [(.t 49), (.t 50)]),
 p0 48 (.mv (.t 51)),
 p0 52 (.ext 0 (.t 48)),
 p0 53 (.ext 1 (.t 48)),
 p0 9 (.mv (.t 52)),
 p0 10 (.mv (.t 53))])
 (.seq (.reg [
 p0 54 (.mv (.t 10)),
 p0 55 (.mv (.t 8)),
 p0 56 (.bin .eql (.t 54) (.t 55)),
 p0 4 (.mv (.t 56))])
 .ret))
 .skip))
 (.seq (.reg [
 p0 57 (.mv (.t 1)),
 x0 58 (.call 9 [(.t 57), (.c (.int .u64 18))]),
 x0 11 (.zero 45 3 [.nilslice, (.int .i64 0), (.int .u64 0)]),
 s0 (.st 3 (.t 11) (.t 58))])
 (.seq (.reg [
 x0 59 (.bslice 30 6 [(.int .i64 0), (.int .i64 0), (.int .i64 0), (.int .i64 0), (.str []), .nilslice] 0 []),
 p0 12 (.mv (.t 59))])
 (.seq (.reg [
 x0 60 (.bslice 4 1 [(.bool false)] 0 []),
 p0 13 (.mv (.t 60))])
 (.seq (.reg [
 p0 14 (.mv (.c (.int .i64 0)))])
 (.seq (.seq (.reg [
 p0 15 (.mv (.c (.int .i64 0)))])
 (.block 0 (.loop (.seq (.seq (.reg [
 p0 61 (.mv (.t 15)),
 p0 62 (.mv (.t 6)),
 p0 63 (.len (.t 62)),
 p0 64 (.bin .lss (.t 61) (.t 63))])
 (.cond (.t 64)
 .skip
 (.exit 0)))
 (.seq (.block 1 (.seq (.reg [
 p0 67 (.mv (.t 12)),
 p0 68 (.mv (.t 6)),
 p0 69 (.mv (.t 15)),
 p0 70 (.iadr 6 (.t 68) (.t 69)),
 p0 71 (.ldA 6 (.t 70)),
 x0 72 (.bslice 30 6 [(.int .i64 0), (.int .i64 0), (.int .i64 0), (.int .i64 0), (.str []), .nilslice] 1 [(0, (.t 71))]),
 x0 73 (.app 30 6 72 (.t 67) (.t 72)),
 p0 12 (.mv (.t 73))])
 (.seq (.reg [
 p0 74 (.mv (.t 13)),
 x0 75 (.bslice 4 1 [(.bool false)] 1 [(0, (.c (.bool true)))]),
 x0 76 (.app 4 1 1 (.t 74) (.t 75)),
 p0 13 (.mv (.t 76))])
 (.seq (.seq (.reg [
 p0 16 (.mv (.c (.int .i64 0)))])
 (.block 2 (.loop (.seq (.seq (.reg [
 p0 77 (.mv (.t 16)),
 p0 78 (.mv (.t 7)),
 p0 79 (.mv (.t 15)),
 p0 80 (.iadr 5 (.t 78) (.t 79)),
 p0 81 (.fadr 1 (.t 80)),
 p0 82 (.ld (.t 81)),
 p0 83 (.len (.t 82)),
 p0 84 (.bin .lss (.t 77) (.t 83))])
 (.cond (.t 84)
 .skip
 (.exit 2)))
 (.seq (.block 3 (.reg [
 p0 87 (.mv (.t 7)),
 p0 88 (.mv (.t 15)),
 p0 89 (.iadr 5 (.t 87) (.t 88)),
 p0 90 (.fadr 1 (.t 89)),
 p0 91 (.ld (.t 90)),
 p0 92 (.mv (.t 16)),
 p0 93 (.iadr 2 (.t 91) (.t 92)),
 p0 94 (.fadr 1 (.t 93)),
 p0 95 (.ld (.t 94)),
 p0 96 (.iadr 1 (.t 95) (.c (.int .i64 0))),
 p0 97 (.ld (.t 96)),
 p0 98 (.cvI .i64 (.t 97)),
 p0 99 (.bin .mul (.t 98) (.c (.int .i64 256))),
 p0 100 (.mv (.t 7)),
 p0 101 (.mv (.t 15)),
 p0 102 (.iadr 5 (.t 100) (.t 101)),
 p0 103 (.fadr 1 (.t 102)),
 p0 104 (.ld (.t 103)),
 p0 105 (.mv (.t 16)),
 p0 106 (.iadr 2 (.t 104) (.t 105)),
 p0 107 (.fadr 1 (.t 106)),
 p0 108 (.ld (.t 107)),
 p0 109 (.iadr 1 (.t 108) (.c (.int .i64 1))),
 p0 110 (.ld (.t 109)),
 p0 111 (.cvI .i64 (.t 110)),
 p0 112 (.bin .add (.t 99) (.t 111)),
 p0 14 (.mv (.t 112))]))
 (.reg [
 p0 85 (.mv (.t 16)),
 p0 86 (.bin .add (.t 85) (.c (.int .i64 1))),
 p0 16 (.mv (.t 86))]))))))
 (.seq (.seq (.reg [
 x0 113 (.call 10 [(.t 11), (.c (.int .i64 3))]),
 p0 114 (.bin .gtr (.t 113) (.c (.int .i64 0)))])
 (.cond (.t 114)
 (.exit 1)
 .skip))
 (.seq (.reg [
 p0 116 (.mv (.t 14)),
 x0 117 (.bslice 2 1 [(.int .i64 0)] 1 [(0, (.c (.int .i64 5)))]),
 p0 118 (.build [(.int .i64 0), (.int .i64 0), (.int .i64 0), (.str []), .nilslice] [(0, 1, (.t 116)), (3, 1, (.c (.str [102,105,108,101,115,46,108,97,110]))), (2, 1, (.c (.int .i64 9))), (4, 1, (.t 117))]),
 x0 119 (.call 11 [(.t 118)]),
 p0 115 (.mv (.t 119)),
 p0 120 (.ext 0 (.t 115)),
 p0 121 (.ext 1 (.t 115)),
 p0 17 (.mv (.t 120)),
 p0 18 (.mv (.t 121))])
 (.seq (.reg [
 p0 122 (.mv (.t 17)),
 p0 123 (.build [(.int .i64 0), (.int .i64 0), (.int .i64 0), (.int .i64 0), (.str []), .nilslice] [(0, 1, (.c (.int .i64 2))), (1, 1, (.c (.int .i64 9))), (2, 1, (.c (.int .i64 53))), (5, 1, (.t 122))]),
 x0 19 (.zero 30 6 [(.int .i64 0), (.int .i64 0), (.int .i64 0), (.int .i64 0), (.str []), .nilslice]),
 s0 (.st 6 (.t 19) (.t 123))])
 (.seq (.seq (.reg [
 x0 124 (.call 10 [(.t 11), (.c (.int .i64 3))])])
 (.block 4 (.seq (.reg [
 p0 126 (.bin .eql (.t 124) (.c (.int .i64 0))),
 p0 125 (.mv (.t 126))])
 (.cond (.t 125)
 (.seq (.reg [
 p0 127 (.fadr 0 (.t 5)),
 p0 128 (.ld (.t 127)),
 p0 129 (.iadr 1 (.t 128) (.c (.int .i64 0))),
 p0 130 (.ld (.t 129)),
 p0 131 (.fadr 1 (.t 19)),
 s0 (.st 1 (.t 131) (.t 130))])
 (.reg [
 p0 132 (.fadr 2 (.t 19)),
 s0 (.st 1 (.t 132) (.c (.int .i64 5353)))]))
 (.seq (.reg [
 p0 134 (.bin .eql (.t 124) (.c (.int .i64 1))),
 p0 133 (.mv (.t 134))])
 (.cond (.t 133)
 (.seq (.reg [
 p0 135 (.fadr 0 (.t 5)),
 p0 136 (.ld (.t 135)),
 p0 137 (.iadr 1 (.t 136) (.c (.int .i64 0))),
 p0 138 (.ld (.t 137)),
 p0 139 (.fadr 1 (.t 19)),
 s0 (.st 1 (.t 139) (.t 138))])
 (.reg [
 p0 140 (.mv (.t 17)),
 p0 141 (.mv (.t 17)),
 p0 142 (.len (.t 141)),
 x0 143 (.call 10 [(.t 11), (.t 142)]),
 p0 144 (.slc 1 (.t 140) none (some (.t 143)) none),
 p0 145 (.fadr 5 (.t 19)),
 s0 (.st 1 (.t 145) (.t 144))]))
 .skip))))))
 (.seq (.reg [
 p0 146 (.mv (.t 12)),
 p0 147 (.ldA 6 (.t 19)),
 x0 148 (.bslice 30 6 [(.int .i64 0), (.int .i64 0), (.int .i64 0), (.int .i64 0), (.str []), .nilslice] 1 [(0, (.t 147))]),
 x0 149 (.app 30 6 72 (.t 146) (.t 148)),
 p0 12 (.mv (.t 149))])
 (.reg [
 p0 150 (.mv (.t 13)),
 x0 151 (.bslice 4 1 [(.bool false)] 1 [(0, (.c (.bool false)))]),
 x0 152 (.app 4 1 1 (.t 150) (.t 151)),
 p0 13 (.mv (.t 152))]))))))))))
 (.reg [
 p0 65 (.mv (.t 15)),
 p0 66 (.bin .add (.t 65) (.c (.int .i64 1))),
 p0 15 (.mv (.t 66))]))))))
 (.seq (.reg [
 p0 154 (.ldA 2 (.t 5)),
 p0 155 (.mv (.t 12)),
 x0 156 (.call 7 [(.t 154), (.t 155)]),
 p0 153 (.mv (.t 156)),
 p0 157 (.ext 0 (.t 153)),
 p0 158 (.ext 1 (.t 153)),
 p0 20 (.mv (.t 157)),
 p0 21 (.mv (.t 158))])
 (.seq (.seq (.reg [
 p0 159 (.mv (.t 21)),
 p0 160 (.bin .neq (.t 159) (.c (.int .i64 0))),
 p0 161 (.mv (.t 160)),
 g0 162 161 false (.mv (.t 20)),
 g0 163 161 false (.len (.t 162)),
 g0 164 161 false (.mv (.t 12)),
 g0 165 161 false (.len (.t 164)),
 g0 166 161 false (.bin .neq (.t 163) (.t 165)),
 p0 167 (.pick (.t 161) (.c (.bool true)) (.t 166))])
 (.cond (.t 167)
 (.seq (.reg [
 p0 4 (.mv (.c (.bool false)))])
 .ret)
 .skip))
 (.seq (.reg [
 p0 22 (.mv (.c (.int .i64 0)))])
 (.seq (.seq (.reg [
 p0 23 (.mv (.c (.int .i64 0)))])
 (.block 5 (.loop (.seq (.seq (.reg [
 p0 168 (.mv (.t 23)),
 p0 169 (.mv (.t 20)),
 p0 170 (.len (.t 169)),
 p0 171 (.bin .lss (.t 168) (.t 170))])
 (.cond (.t 171)
 .skip
 (.exit 5)))
 (.seq (.block 6 (.seq (.seq (.reg [
 p0 174 (.mv (.t 13)),
 p0 175 (.mv (.t 23)),
 p0 176 (.iadr 1 (.t 174) (.t 175)),
 p0 177 (.ld (.t 176)),
 p0 178 (.un .not (.t 177))])
 (.cond (.t 178)
 (.seq (.seq (.reg [
 p0 179 (.mv (.t 20)),
 p0 180 (.mv (.t 23)),
 p0 181 (.iadr 5 (.t 179) (.t 180)),
 p0 182 (.fadr 0 (.t 181)),
 p0 183 (.ld (.t 182)),
 p0 184 (.bin .neq (.t 183) (.c (.int .i64 0))),
 p0 185 (.mv (.t 184)),
 g0 186 185 false (.mv (.t 20)),
 g0 187 185 false (.mv (.t 23)),
 g0 188 185 false (.iadr 5 (.t 186) (.t 187)),
 g0 189 185 false (.fadr 1 (.t 188)),
 g0 190 185 false (.ld (.t 189)),
 g0 191 185 false (.len (.t 190)),
 g0 192 185 false (.bin .gtr (.t 191) (.c (.int .i64 0))),
 p0 193 (.pick (.t 185) (.c (.bool true)) (.t 192)),
 p0 194 (.mv (.t 193)),
 g0 195 194 false (.mv (.t 20)),
 g0 196 194 false (.mv (.t 23)),
 g0 197 194 false (.iadr 5 (.t 195) (.t 196)),
 g0 198 194 false (.fadr 2 (.t 197)),
 g0 199 194 false (.ld (.t 198)),
 g0 200 194 false (.len (.t 199)),
 g0 201 194 false (.bin .gtr (.t 200) (.c (.int .i64 0))),
 p0 202 (.pick (.t 194) (.c (.bool true)) (.t 201))])
 (.cond (.t 202)
 (.seq (.reg [
 p0 4 (.mv (.c (.bool false)))])
 .ret)
 .skip))
 (.exit 6))
 .skip))
 (.seq (.reg [
 p0 203 (.mv (.t 7)),
 p0 204 (.mv (.t 22)),
 p0 205 (.iadr 5 (.t 203) (.t 204)),
 p0 206 (.ldA 5 (.t 205)),
 x0 24 (.zero 38 5 [(.int .i64 0), .nilslice, .nilslice, (.int .i64 0), (.int .i64 0)]),
 s0 (.st 5 (.t 24) (.t 206))])
 (.seq (.reg [
 p0 207 (.mv (.t 22)),
 p0 208 (.bin .add (.t 207) (.c (.int .i64 1))),
 p0 22 (.mv (.t 208))])
 (.seq (.seq (.reg [
 p0 209 (.mv (.t 20)),
 p0 210 (.mv (.t 23)),
 p0 211 (.iadr 5 (.t 209) (.t 210)),
 p0 212 (.fadr 0 (.t 211)),
 p0 213 (.ld (.t 212)),
 p0 214 (.fadr 0 (.t 24)),
 p0 215 (.ld (.t 214)),
 p0 216 (.bin .neq (.t 213) (.t 215)),
 p0 217 (.mv (.t 216)),
 g0 218 217 false (.mv (.t 20)),
 g0 219 217 false (.mv (.t 23)),
 g0 220 217 false (.iadr 5 (.t 218) (.t 219)),
 g0 221 217 false (.fadr 3 (.t 220)),
 g0 222 217 false (.ld (.t 221)),
 g0 223 217 false (.fadr 3 (.t 24)),
 g0 224 217 false (.ld (.t 223)),
 g0 225 217 false (.bin .neq (.t 222) (.t 224)),
 p0 226 (.pick (.t 217) (.c (.bool true)) (.t 225)),
 p0 227 (.mv (.t 226)),
 g0 228 227 false (.mv (.t 20)),
 g0 229 227 false (.mv (.t 23)),
 g0 230 227 false (.iadr 5 (.t 228) (.t 229)),
 g0 231 227 false (.fadr 4 (.t 230)),
 g0 232 227 false (.ld (.t 231)),
 g0 233 227 false (.fadr 4 (.t 24)),
 g0 234 227 false (.ld (.t 233)),
 g0 235 227 false (.bin .neq (.t 232) (.t 234)),
 p0 236 (.pick (.t 227) (.c (.bool true)) (.t 235)),
 p0 237 (.mv (.t 236)),
 g0 238 237 false (.mv (.t 20)),
 g0 239 237 false (.mv (.t 23)),
 g0 240 237 false (.iadr 5 (.t 238) (.t 239)),
 g0 241 237 false (.fadr 1 (.t 240)),
 g0 242 237 false (.ld (.t 241)),
 g0 243 237 false (.len (.t 242)),
 g0 244 237 false (.fadr 1 (.t 24)),
 g0 245 237 false (.ld (.t 244)),
 g0 246 237 false (.len (.t 245)),
 g0 247 237 false (.bin .neq (.t 243) (.t 246)),
 p0 248 (.pick (.t 237) (.c (.bool true)) (.t 247)),
 p0 249 (.mv (.t 248)),
 g0 250 249 false (.mv (.t 20)),
 g0 251 249 false (.mv (.t 23)),
 g0 252 249 false (.iadr 5 (.t 250) (.t 251)),
 g0 253 249 false (.fadr 2 (.t 252)),
 g0 254 249 false (.ld (.t 253)),
 g0 255 249 false (.len (.t 254)),
 g0 256 249 false (.fadr 2 (.t 24)),
 g0 257 249 false (.ld (.t 256)),
 g0 258 249 false (.len (.t 257)),
 g0 259 249 false (.bin .neq (.t 255) (.t 258)),
 p0 260 (.pick (.t 249) (.c (.bool true)) (.t 259))])
 (.cond (.t 260)
 (.seq (.reg [
 p0 4 (.mv (.c (.bool false)))])
 .ret)
 .skip))
 (.seq (.seq (.reg [
 p0 25 (.mv (.c (.int .i64 0)))])
 (.block 7 (.loop (.seq (.seq (.reg [
 p0 261 (.mv (.t 25)),
 p0 262 (.fadr 1 (.t 24)),
 p0 263 (.ld (.t 262)),
 p0 264 (.len (.t 263)),
 p0 265 (.bin .lss (.t 261) (.t 264))])
 (.cond (.t 265)
 .skip
 (.exit 7)))
 (.seq (.block 8 (.seq (.reg [
 p0 268 (.mv (.t 20)),
 p0 269 (.mv (.t 23)),
 p0 270 (.iadr 5 (.t 268) (.t 269)),
 p0 271 (.fadr 1 (.t 270)),
 p0 272 (.ld (.t 271)),
 p0 273 (.mv (.t 25)),
 p0 274 (.iadr 2 (.t 272) (.t 273)),
 p0 275 (.fadr 0 (.t 274)),
 p0 276 (.ld (.t 275)),
 p0 277 (.fadr 1 (.t 24)),
 p0 278 (.ld (.t 277)),
 p0 279 (.mv (.t 25)),
 p0 280 (.iadr 2 (.t 278) (.t 279)),
 p0 281 (.fadr 0 (.t 280)),
 p0 282 (.ld (.t 281)),
 p0 283 (.bin .neq (.t 276) (.t 282)),
 p0 284 (.mv (.t 283)),
 g0 285 284 false (.mv (.t 20)),
 g0 286 284 false (.mv (.t 23)),
 g0 287 284 false (.iadr 5 (.t 285) (.t 286)),
 g0 288 284 false (.fadr 1 (.t 287)),
 g0 289 284 false (.ld (.t 288)),
 g0 290 284 false (.mv (.t 25)),
 g0 291 284 false (.iadr 2 (.t 289) (.t 290)),
 g0 292 284 false (.fadr 1 (.t 291)),
 g0 293 284 false (.ld (.t 292)),
 g0 294 284 false (.fadr 1 (.t 24)),
 g0 295 284 false (.ld (.t 294)),
 g0 296 284 false (.mv (.t 25)),
 g0 297 284 false (.iadr 2 (.t 295) (.t 296)),
 g0 298 284 false (.fadr 1 (.t 297)),
 g0 299 284 false (.ld (.t 298)),
 ⟨(some 300), (some (284, false)), .x (.call 12 [(.t 293), (.t 299)])⟩,
 g0 301 284 false (.un .not (.t 300)),
 p0 302 (.pick (.t 284) (.c (.bool true)) (.t 301))])
 (.cond (.t 302)
 (.seq (.reg [
 p0 4 (.mv (.c (.bool false)))])
 .ret)
 .skip)))
 (.reg [
 p0 266 (.mv (.t 25)),
 p0 267 (.bin .add (.t 266) (.c (.int .i64 1))),
 p0 25 (.mv (.t 267))]))))))
 (.seq (.reg [
 p0 26 (.mv (.c (.int .i64 0)))])
 (.block 9 (.loop (.seq (.seq (.reg [
 p0 303 (.mv (.t 26)),
 p0 304 (.fadr 2 (.t 24)),
 p0 305 (.ld (.t 304)),
 p0 306 (.len (.t 305)),
 p0 307 (.bin .lss (.t 303) (.t 306))])
 (.cond (.t 307)
 .skip
 (.exit 9)))
 (.seq (.block 10 (.seq (.reg [
 p0 310 (.mv (.t 20)),
 p0 311 (.mv (.t 23)),
 p0 312 (.iadr 5 (.t 310) (.t 311)),
 p0 313 (.fadr 2 (.t 312)),
 p0 314 (.ld (.t 313)),
 p0 315 (.mv (.t 26)),
 p0 316 (.iadr 3 (.t 314) (.t 315)),
 p0 317 (.fadr 1 (.t 316)),
 p0 318 (.ld (.t 317)),
 p0 319 (.fadr 2 (.t 24)),
 p0 320 (.ld (.t 319)),
 p0 321 (.mv (.t 26)),
 p0 322 (.iadr 3 (.t 320) (.t 321)),
 p0 323 (.fadr 1 (.t 322)),
 p0 324 (.ld (.t 323)),
 p0 325 (.bin .neq (.t 318) (.t 324)),
 p0 326 (.mv (.t 325)),
 g0 327 326 false (.mv (.t 20)),
 g0 328 326 false (.mv (.t 23)),
 g0 329 326 false (.iadr 5 (.t 327) (.t 328)),
 g0 330 326 false (.fadr 2 (.t 329)),
 g0 331 326 false (.ld (.t 330)),
 g0 332 326 false (.mv (.t 26)),
 g0 333 326 false (.iadr 3 (.t 331) (.t 332)),
 g0 334 326 false (.fadr 2 (.t 333)),
 g0 335 326 false (.ld (.t 334)),
 g0 336 326 false (.len (.t 335)),
 g0 337 326 false (.fadr 2 (.t 24)),
 g0 338 326 false (.ld (.t 337)),
 g0 339 326 false (.mv (.t 26)),
 g0 340 326 false (.iadr 3 (.t 338) (.t 339)),
 g0 341 326 false (.fadr 2 (.t 340)),
 g0 342 326 false (.ld (.t 341)),
 g0 343 326 false (.len (.t 342)),
 g0 344 326 false (.bin .neq (.t 336) (.t 343)),
 p0 345 (.pick (.t 326) (.c (.bool true)) (.t 344))])
 (.cond (.t 345)
 (.seq (.reg [
 p0 4 (.mv (.c (.bool false)))])
 .ret)
 .skip)))
 (.reg [
 p0 308 (.mv (.t 26)),
 p0 309 (.bin .add (.t 308) (.c (.int .i64 1))),
 p0 26 (.mv (.t 309))]))))))))))))
 (.reg [
 p0 172 (.mv (.t 23)),
 p0 173 (.bin .add (.t 172) (.c (.int .i64 1))),
 p0 23 (.mv (.t 173))]))))))
 (.seq (.reg [
 p0 4 (.mv (.c (.bool true)))])
 .ret)))))))))))))))
def c5 : CC :=
 (.seq (.reg [
 x0 2 (.zero 25 2 [.nilslice, (.int .i64 0)]),
 p0 3 (.mv (.c .nilslice))])
 (.seq (.reg [
 p0 17 (.mv (.t 0)),
 x0 18 (.call 13 [(.t 17)]),
 x0 4 (.zero 58 3 [.nilslice, (.int .i64 0), (.int .u64 0)]),
 s0 (.st 3 (.t 4) (.t 18))])
 (.seq (.reg [
 x0 19 (.call 14 [(.t 4), (.c (.int .i64 65536))]),
 p0 20 (.build [.nilslice, (.int .i64 0)] [(1, 1, (.t 19))]),
 x0 5 (.zero 25 2 [.nilslice, (.int .i64 0)]),
 s0 (.st 2 (.t 5) (.t 20))])
 (.seq (.reg [
 x0 21 (.call 14 [(.t 4), (.c (.int .i64 3))]),
 p0 22 (.bin .add (.c (.int .i64 1)) (.t 21)),
 p0 6 (.mv (.t 22))])
 (.seq (.seq (.reg [
 p0 7 (.mv (.c (.int .i64 0)))])
 (.block 0 (.loop (.seq (.seq (.reg [
 p0 23 (.mv (.t 7)),
 p0 24 (.mv (.t 6)),
 p0 25 (.bin .lss (.t 23) (.t 24))])
 (.cond (.t 25)
 .skip
 (.exit 0)))
 (.seq (.block 1 (.reg [
 p0 28 (.fadr 0 (.t 5)),
 p0 29 (.ld (.t 28)),
 p0 30 (.mv (.t 7)),
 p0 31 (.bin .add (.c (.int .i64 167772210)) (.t 30)),
 x0 32 (.bslice 2 1 [(.int .i64 0)] 1 [(0, (.t 31))]),
 x0 33 (.app 2 1 8 (.t 29) (.t 32)),
 p0 34 (.fadr 0 (.t 5)),
 s0 (.st 1 (.t 34) (.t 33))]))
 (.reg [
 p0 26 (.mv (.t 7)),
 p0 27 (.bin .add (.t 26) (.c (.int .i64 1))),
 p0 7 (.mv (.t 27))]))))))
 (.seq (.reg [
 p0 35 (.ldA 2 (.t 5)),
 p0 36 (.build [.nilslice, (.int .i64 0), (.int .i64 0), (.int .i64 0), .nilslice, .nilslice, (.int .i64 0), .nilslice, .nilslice, (.int .i64 0), (.int .i64 0)] [(0, 2, (.t 35))]),
 x0 8 (.zero 65 11 [.nilslice, (.int .i64 0), (.int .i64 0), (.int .i64 0), .nilslice, .nilslice, (.int .i64 0), .nilslice, .nilslice, (.int .i64 0), (.int .i64 0)]),
 s0 (.st 11 (.t 8) (.t 36))])
 (.seq (.reg [
 x0 37 (.bslice 30 6 [(.int .i64 0), (.int .i64 0), (.int .i64 0), (.int .i64 0), (.str []), .nilslice] 0 []),
 p0 9 (.mv (.t 37))])
 (.seq (.reg [
 x0 38 (.bslice 49 2 [(.int .i64 0), .nilslice] 0 []),
 p0 10 (.mv (.t 38))])
 (.seq (.reg [
 x0 39 (.call 14 [(.t 4), (.c (.int .i64 30))]),
 p0 40 (.bin .add (.c (.int .i64 6)) (.t 39)),
 p0 41 (.mv (.t 0)),
 p0 42 (.len (.t 41)),
 p0 43 (.bin .quo (.t 42) (.c (.int .i64 8))),
 x0 44 (.call 15 [(.t 43), (.c (.int .i64 100))]),
 p0 45 (.bin .add (.t 40) (.t 44)),
 p0 11 (.mv (.t 45))])
 (.seq (.reg [
 x0 46 (.call 14 [(.t 4), (.c (.int .i64 5))]),
 p0 47 (.bin .eql (.t 46) (.c (.int .i64 0))),
 p0 12 (.mv (.t 47))])
 (.seq (.seq (.reg [
 p0 13 (.mv (.c (.int .i64 0)))])
 (.block 2 (.loop (.seq (.seq (.reg [
 p0 48 (.mv (.t 13)),
 p0 49 (.mv (.t 11)),
 p0 50 (.bin .lss (.t 48) (.t 49))])
 (.cond (.t 50)
 .skip
 (.exit 2)))
 (.seq (.block 3 (.seq (.reg [
 x0 53 (.call 16 [(.t 4)]),
 p0 54 (.build [(.int .i64 0), (.int .i64 0), (.int .i64 0), (.int .i64 0), (.str []), .nilslice] [(0, 1, (.c (.int .i64 1))), (4, 1, (.t 53))]),
 x0 14 (.zero 30 6 [(.int .i64 0), (.int .i64 0), (.int .i64 0), (.int .i64 0), (.str []), .nilslice]),
 s0 (.st 6 (.t 14) (.t 54))])
 (.seq (.seq (.reg [
 p0 55 (.mv (.t 12))])
 (.cond (.t 55)
 (.reg [
 p0 56 (.mv (.t 13)),
 x0 57 (.call 17 [(.t 56)]),
 p0 58 (.bin .add (.c (.str [110])) (.t 57)),
 p0 59 (.fadr 4 (.t 14)),
 s0 (.st 1 (.t 59) (.t 58))])
 .skip))
 (.seq (.seq (.reg [
 x0 60 (.call 14 [(.t 4), (.c (.int .i64 8))])])
 (.block 4 (.seq (.seq (.reg [
 p0 62 (.bin .eql (.t 60) (.c (.int .i64 0))),
 p0 61 (.mv (.t 62))])
 (.cond (.t 61)
 .skip
 (.reg [
 p0 63 (.bin .eql (.t 60) (.c (.int .i64 1))),
 p0 61 (.mv (.t 63))])))
 (.cond (.t 61)
 (.reg [
 x0 64 (.bslice 2 1 [(.int .i64 0)] 6 [(0, (.c (.int .i64 1))), (1, (.c (.int .i64 500))), (2, (.c (.int .i64 1999))), (3, (.c (.int .i64 2000))), (4, (.c (.int .i64 8000))), (5, (.c (.int .i64 60000)))]),
 x0 65 (.call 14 [(.t 4), (.c (.int .i64 6))]),
 p0 66 (.iadr 1 (.t 64) (.t 65)),
 p0 67 (.ld (.t 66)),
 p0 68 (.build [(.int .i64 0), (.int .i64 0), (.int .i64 0), (.int .i64 0), (.str []), .nilslice] [(0, 1, (.c (.int .i64 3))), (3, 1, (.t 67))]),
 s0 (.st 6 (.t 14) (.t 68))])
 (.seq (.seq (.reg [
 p0 70 (.bin .eql (.t 60) (.c (.int .i64 2))),
 p0 69 (.mv (.t 70))])
 (.cond (.t 69)
 .skip
 (.seq (.reg [
 p0 71 (.bin .eql (.t 60) (.c (.int .i64 3))),
 p0 69 (.mv (.t 71))])
 (.cond (.t 69)
 .skip
 (.reg [
 p0 72 (.bin .eql (.t 60) (.c (.int .i64 4))),
 p0 69 (.mv (.t 72))])))))
 (.cond (.t 69)
 (.seq (.reg [
 p0 73 (.mv (.t 10)),
 p0 74 (.len (.t 73)),
 p0 75 (.bin .gtr (.t 74) (.c (.int .i64 0)))])
 (.cond (.t 75)
 (.seq (.reg [
 p0 76 (.mv (.t 10)),
 p0 77 (.len (.t 76)),
 p0 78 (.bin .sub (.t 77) (.c (.int .i64 1))),
 p0 79 (.mv (.t 10)),
 p0 80 (.len (.t 79)),
 x0 81 (.call 15 [(.t 80), (.c (.int .i64 4))]),
 x0 82 (.call 14 [(.t 4), (.t 81)]),
 p0 83 (.bin .sub (.t 78) (.t 82)),
 p0 15 (.mv (.t 83))])
 (.reg [
 p0 84 (.mv (.t 10)),
 p0 85 (.mv (.t 15)),
 p0 86 (.iadr 2 (.t 84) (.t 85)),
 p0 87 (.ldA 2 (.t 86)),
 x0 88 (.call 18 [(.t 4), (.t 87)]),
 s0 (.st 6 (.t 14) (.t 88))]))
 .skip))
 (.seq (.reg [
 p0 90 (.bin .eql (.t 60) (.c (.int .i64 5))),
 p0 89 (.mv (.t 90))])
 (.cond (.t 89)
 (.seq (.reg [
 x0 91 (.call 14 [(.t 4), (.c (.int .i64 6))]),
 p0 92 (.bin .eql (.t 91) (.c (.int .i64 0)))])
 (.cond (.t 92)
 (.reg [
 x0 93 (.call 14 [(.t 4), (.c (.int .i64 5))]),
 p0 94 (.build [(.int .i64 0), (.int .i64 0), (.int .i64 0), (.int .i64 0), (.str []), .nilslice] [(0, 1, (.t 93)), (4, 1, (.c (.str [45]))), (3, 1, (.c (.int .i64 (-1))))]),
 s0 (.st 6 (.t 14) (.t 94))])
 .skip))
 .skip))))))))
 (.seq (.reg [
 p0 95 (.mv (.t 9)),
 p0 96 (.ldA 6 (.t 14)),
 x0 97 (.bslice 30 6 [(.int .i64 0), (.int .i64 0), (.int .i64 0), (.int .i64 0), (.str []), .nilslice] 1 [(0, (.t 96))]),
 x0 98 (.app 30 6 72 (.t 95) (.t 97)),
 p0 9 (.mv (.t 98))])
 (.seq (.reg [
 p0 99 (.mv (.t 13)),
 p0 100 (.ldA 6 (.t 14)),
 x0 101 (.call 19 [(.t 8), (.t 99), (.t 100)]),
 x0 16 (.zero 38 5 [(.int .i64 0), .nilslice, .nilslice, (.int .i64 0), (.int .i64 0)]),
 s0 (.st 5 (.t 16) (.t 101))])
 (.reg [
 p0 102 (.mv (.t 10)),
 p0 103 (.fadr 1 (.t 16)),
 p0 104 (.ld (.t 103)),
 x0 105 (.app 49 2 32 (.t 102) (.t 104)),
 p0 10 (.mv (.t 105))])))))))
 (.reg [
 p0 51 (.mv (.t 13)),
 p0 52 (.bin .add (.t 51) (.c (.int .i64 1))),
 p0 13 (.mv (.t 52))]))))))
 (.seq (.seq (.reg [
 x0 106 (.call 14 [(.t 4), (.c (.int .i64 30))])])
 (.block 5 (.seq (.reg [
 p0 108 (.bin .eql (.t 106) (.c (.int .i64 0))),
 p0 107 (.mv (.t 108))])
 (.cond (.t 107)
 (.reg [
 p0 109 (.fadr 0 (.t 5)),
 s0 (.st 1 (.t 109) (.c .nilslice))])
 (.seq (.reg [
 p0 111 (.bin .eql (.t 106) (.c (.int .i64 1))),
 p0 110 (.mv (.t 111))])
 (.cond (.t 110)
 (.reg [
 p0 112 (.fadr 0 (.t 5)),
 p0 113 (.ld (.t 112)),
 p0 114 (.iadr 1 (.t 113) (.c (.int .i64 0))),
 s0 (.st 1 (.t 114) (.c (.int .i64 4294967295)))])
 (.seq (.reg [
 p0 116 (.bin .eql (.t 106) (.c (.int .i64 2))),
 p0 115 (.mv (.t 116))])
 (.cond (.t 115)
 (.reg [
 p0 117 (.fadr 1 (.t 5)),
 s0 (.st 1 (.t 117) (.c (.int .i64 65536)))])
 (.seq (.reg [
 p0 119 (.bin .eql (.t 106) (.c (.int .i64 3))),
 p0 118 (.mv (.t 119))])
 (.cond (.t 118)
 (.reg [
 x0 120 (.mks 2 1 8 [(.int .i64 0)] (.c (.int .i64 5)) (.c (.int .i64 5))),
 p0 121 (.fadr 0 (.t 5)),
 s0 (.st 1 (.t 121) (.t 120))])
 .skip))))))))))
 (.seq (.reg [
 p0 122 (.ldA 2 (.t 5)),
 p0 123 (.mv (.t 9)),
 s0 (.st 2 (.t 2) (.t 122)),
 p0 3 (.mv (.t 123))])
 .ret)))))))))))))
theorem ok5 : fnComp Tryd.prog 5 = some (124, c5, [(.ldA 2 (.t 2)), (.mv (.t 3))]) := by kernel_rfl

end Go.Proofs.YtaoffieemecioaaDoor
