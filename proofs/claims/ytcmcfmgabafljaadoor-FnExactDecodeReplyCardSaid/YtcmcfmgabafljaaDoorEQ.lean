import Derived.Test.YtcmcfmgabafljaaDoorEP
set_option linter.unusedSimpArgs false
set_option linter.unusedVariables false
namespace Go.Proofs.YtcmcfmgabafljaaDoor
open Go Go.IW

theorem fits_ints {h : IH} : ∀ {rs : List (List IV)}, (∀ r ∈ rs, Fits h (.int .i64) r) → ∃ zs : List Int, rs = intRows zs
  | [], _ => ⟨[], rfl⟩
  | r :: rs, hf => by
    obtain ⟨zs, e⟩ := fits_ints fun x hx => hf x (List.mem_cons_of_mem _ hx)
    obtain ⟨a, ha, hb⟩ := hf r List.mem_cons_self
    exact ⟨a :: zs, by rw [ha, e]; rfl⟩
def shReply : Sh := .cat (.int .i64) (.cat (.int .i64) (.cat (.int .i64) (.cat .str (.cat (.slice (.int .i64)) .nil))))
theorem fits_reply {h : IH} {cs : List IV} (hf : Fits h shReply cs) : ∃ (id code ttl : Int) (nm : List UInt8) (v : IV) (zs : List Int), cs = [.int .i64 id, .int .i64 code, .int .i64 ttl, .str nm, v] ∧ nm.length ≤ maxLen ∧ SlR h 1 v (intRows zs) ∧ zs.length ≤ maxLen := by
  obtain ⟨_, _, rfl, ⟨a, rfl, _⟩, _, _, rfl, ⟨b, rfl, _⟩, _, _, rfl, ⟨c, rfl, _⟩, _, _, rfl, ⟨s, rfl, hs⟩, _, _, rfl, ⟨v, rs, rfl, hv, hl, he⟩, rfl⟩ := hf
  obtain ⟨zs, rfl⟩ := fits_ints he
  exact ⟨a, b, c, s, v, zs, rfl, hs, hv, by rw [intRows_len] at hl; exact hl⟩
theorem encR_len {id code ttl : Int} {nm : List UInt8} {zs : List Int} : (encR id code ttl nm zs).1.length ≤ 1000 := by
  unfold encR
  split
  · rename_i h
    obtain ⟨_, hn, _, _, hz, _⟩ := okRep_ok h
    have := (okName_ne hn).2
    rw [List.length_append, flat_len]
    simp [repHead, beB_len]; omega
  · simp

set_option maxRecDepth 20000 in
theorem lawEncodeReply : LawTrue Tryd.prog 6 [(shReply, true)] := by
  rintro h ivs ha ⟨iv, r, rfl, ⟨cs, rfl, hf⟩, rfl⟩
  obtain ⟨id, code, ttl, nm, v, zs, rfl, hm, hs, hz⟩ := fits_reply hf
  refine icalls (.of ok6) (Nat.le_of_ble_eq_true rfl) ?_
  unfold c6
  have aA := Arg.of hs
  have hv1 := hs.one
  simp only [hv1, go_sem, Hold.p, HoldK.k, HoldL.K, HoldL.body, Nat.reduceBEq, Nat.reduceAdd, List.getElem?_cons_zero, List.getElem?_cons_succ, Option.bind_some, List.map_cons, List.map_nil, Nat.zero_add, if_true, List.getD_cons_zero, List.getD_cons_succ, List.contains_cons, List.contains_nil, Nat.reduceBEq, Bool.or_true, Bool.true_or, Bool.or_false, Bool.false_or, Bool.not_true, Bool.not_false, true_and, and_true, rowA_whole, push_n, set_n, push_obj, set_obj, set_push, set_push_ne, set_set, Nat.add_assoc, Nat.left_eq_add, Nat.add_eq_left, Nat.add_left_cancel_iff, Nat.reduceEqDiff, stO_1s, stO_ws, boxA_s, one_bool, one_int, one_str, one_ptr, one_nilptr, one_slice, one_eslice, one_nilslice, one_func, one_iface, one_niliface, List.all_cons, List.all_nil, List.length_cons, List.length_nil, Nat.reduceLT, Nat.reduceEqDiff, Nat.reduceLeDiff, Bool.and_true, Nat.one_ne_zero, Nat.succ_ne_zero, reduceIte, if_false, List.getElem?_cons_zero, List.set_cons_zero, List.set_cons_succ]
  generalize hq_g0 : IH.push h (IObj.rows [[IV.int .i64 id, IV.int .i64 code, IV.int .i64 ttl, IV.str nm, v]] 41 5 false) = g0
  have e_g0 : Ext h g0 := by rw [← hq_g0]; exact (Ext.refl _).push _
  have l_g0 : g0.n = h.n + 1 := by rw [← hq_g0]; rfl
  have bA : At g0 h.n (IObj.rows [[IV.int .i64 id, IV.int .i64 code, IV.int .i64 ttl, IV.str nm, v]] 41 5 false) := by rw [← hq_g0]; exact At.new _ _
  clear hq_g0
  have aA := aA.ext e_g0
  refine callA_of (szNameReply_c _ id code ttl 1048576 nm v zs aA.sl (by omega) hm hz) ?_
  rintro r h1 ⟨rfl, hE1⟩
  have bA := bA.ext hE1
  have aA := aA.ext hE1
  have le_hE1 := hE1.le
  by_cases hbig : (1048576 : Int) < nm.length + zs.length
  · rw [if_pos hbig]
    have hn : decide ((-1 : Int) < 0) = true := rfl
    simp only [hn, go_sem, Hold.p, HoldK.k, HoldL.K, HoldL.body, Nat.reduceBEq, Nat.reduceAdd, List.getElem?_cons_zero, List.getElem?_cons_succ, Option.bind_some, List.map_cons, List.map_nil, Nat.zero_add, if_true, List.getD_cons_zero, List.getD_cons_succ, List.contains_cons, List.contains_nil, Nat.reduceBEq, Bool.or_true, Bool.true_or, Bool.or_false, Bool.false_or, Bool.not_true, Bool.not_false, true_and, and_true, rowA_whole, push_n, set_n, push_obj, set_obj, set_push, set_push_ne, set_set, Nat.add_assoc, Nat.left_eq_add, Nat.add_eq_left, Nat.add_left_cancel_iff, Nat.reduceEqDiff, stO_1s, stO_ws, boxA_s, one_bool, one_int, one_str, one_ptr, one_nilptr, one_slice, one_eslice, one_nilslice, one_func, one_iface, one_niliface, List.all_cons, List.all_nil, List.length_cons, List.length_nil, Nat.reduceLT, Nat.reduceEqDiff, Nat.reduceLeDiff, Bool.and_true, Nat.one_ne_zero, Nat.succ_ne_zero, reduceIte, if_false, List.getElem?_cons_zero, List.set_cons_zero, List.set_cons_succ]
  · rw [if_neg hbig]
    have hn : decide ((1048576 : Int) - (nm.length : Int) - (zs.length : Int) < 0) = false := decide_eq_false (by omega)
    have hlen : nm.length ≤ 1048576 := by omega
    have hzl : zs.length ≤ 1048576 := by omega
    simp only [hn, bA.eq, go_sem, Hold.p, HoldK.k, HoldL.K, HoldL.body, Nat.reduceBEq, Nat.reduceAdd, List.getElem?_cons_zero, List.getElem?_cons_succ, Option.bind_some, List.map_cons, List.map_nil, Nat.zero_add, if_true, List.getD_cons_zero, List.getD_cons_succ, List.contains_cons, List.contains_nil, Nat.reduceBEq, Bool.or_true, Bool.true_or, Bool.or_false, Bool.false_or, Bool.not_true, Bool.not_false, true_and, and_true, rowA_whole, push_n, set_n, push_obj, set_obj, set_push, set_push_ne, set_set, Nat.add_assoc, Nat.left_eq_add, Nat.add_eq_left, Nat.add_left_cancel_iff, Nat.reduceEqDiff, stO_1s, stO_ws, boxA_s, one_bool, one_int, one_str, one_ptr, one_nilptr, one_slice, one_eslice, one_nilslice, one_func, one_iface, one_niliface, List.all_cons, List.all_nil, List.length_cons, List.length_nil, Nat.reduceLT, Nat.reduceEqDiff, Nat.reduceLeDiff, Bool.and_true, Nat.one_ne_zero, Nat.succ_ne_zero, reduceIte, if_false, List.getElem?_cons_zero, List.set_cons_zero, List.set_cons_succ]
    refine callA_of (toNameReply_c _ id code ttl nm v zs aA.sl hzl) ?_
    rintro r h2 ⟨v2, rfl, o2, hE2⟩
    have bA := bA.ext hE2
    have aA := aA.ext hE2
    have le_hE2 := hE2.le
    simp only [hn, go_sem, Hold.p, HoldK.k, HoldL.K, HoldL.body, Nat.reduceBEq, Nat.reduceAdd, List.getElem?_cons_zero, List.getElem?_cons_succ, Option.bind_some, List.map_cons, List.map_nil, Nat.zero_add, if_true, List.getD_cons_zero, List.getD_cons_succ, List.contains_cons, List.contains_nil, Nat.reduceBEq, Bool.or_true, Bool.true_or, Bool.or_false, Bool.false_or, Bool.not_true, Bool.not_false, true_and, and_true, rowA_whole, push_n, set_n, push_obj, set_obj, set_push, set_push_ne, set_set, Nat.add_assoc, Nat.left_eq_add, Nat.add_eq_left, Nat.add_left_cancel_iff, Nat.reduceEqDiff, stO_1s, stO_ws, boxA_s, one_bool, one_int, one_str, one_ptr, one_nilptr, one_slice, one_eslice, one_nilslice, one_func, one_iface, one_niliface, List.all_cons, List.all_nil, List.length_cons, List.length_nil, Nat.reduceLT, Nat.reduceEqDiff, Nat.reduceLeDiff, Bool.and_true, Nat.one_ne_zero, Nat.succ_ne_zero, reduceIte, if_false, List.getElem?_cons_zero, List.set_cons_zero, List.set_cons_succ]
    refine callA_of (specEncodeReply_c _ id code ttl nm v2 zs o2.sl hlen hzl) ?_
    rintro r h3 ⟨vW, rfl, oW, hE3⟩
    have bA := bA.ext hE3
    have aA := aA.ext hE3
    have le_hE3 := hE3.le
    have hfl : (encR id code ttl nm zs).1.length ≤ 1000 := encR_len
    generalize hfb : encR id code ttl nm zs = fb at oW hfl
    obtain ⟨bs, fc⟩ := fb
    simp only at oW hfl
    simp only [hn, bA.eq, go_sem, Hold.p, HoldK.k, HoldL.K, HoldL.body, Nat.reduceBEq, Nat.reduceAdd, List.getElem?_cons_zero, List.getElem?_cons_succ, Option.bind_some, List.map_cons, List.map_nil, Nat.zero_add, if_true, List.getD_cons_zero, List.getD_cons_succ, List.contains_cons, List.contains_nil, Nat.reduceBEq, Bool.or_true, Bool.true_or, Bool.or_false, Bool.false_or, Bool.not_true, Bool.not_false, true_and, and_true, rowA_whole, push_n, set_n, push_obj, set_obj, set_push, set_push_ne, set_set, Nat.add_assoc, Nat.left_eq_add, Nat.add_eq_left, Nat.add_left_cancel_iff, Nat.reduceEqDiff, stO_1s, stO_ws, boxA_s, one_bool, one_int, one_str, one_ptr, one_nilptr, one_slice, one_eslice, one_nilslice, one_func, one_iface, one_niliface, List.all_cons, List.all_nil, List.length_cons, List.length_nil, Nat.reduceLT, Nat.reduceEqDiff, Nat.reduceLeDiff, Bool.and_true, Nat.one_ne_zero, Nat.succ_ne_zero, reduceIte, if_false, List.getElem?_cons_zero, List.set_cons_zero, List.set_cons_succ]
    refine callA_of (toNameReply_c _ id code ttl nm v zs aA.sl hzl) ?_
    rintro r h4 ⟨v4, rfl, o4, hE4⟩
    have bA := bA.ext hE4
    have aA := aA.ext hE4
    have oW := oW.ext hE4
    have le_hE4 := hE4.le
    have v4o := o4.sl.one
    have v4c := o4.sl.cells
    simp only [v4o, v4c, go_sem, Hold.p, HoldK.k, HoldL.K, HoldL.body, Nat.reduceBEq, Nat.reduceAdd, List.getElem?_cons_zero, List.getElem?_cons_succ, Option.bind_some, List.map_cons, List.map_nil, Nat.zero_add, if_true, List.getD_cons_zero, List.getD_cons_succ, List.contains_cons, List.contains_nil, Nat.reduceBEq, Bool.or_true, Bool.true_or, Bool.or_false, Bool.false_or, Bool.not_true, Bool.not_false, true_and, and_true, rowA_whole, push_n, set_n, push_obj, set_obj, set_push, set_push_ne, set_set, Nat.add_assoc, Nat.left_eq_add, Nat.add_eq_left, Nat.add_left_cancel_iff, Nat.reduceEqDiff, stO_1s, stO_ws, boxA_s, one_bool, one_int, one_str, one_ptr, one_nilptr, one_slice, one_eslice, one_nilslice, one_func, one_iface, one_niliface, List.all_cons, List.all_nil, List.length_cons, List.length_nil, Nat.reduceLT, Nat.reduceEqDiff, Nat.reduceLeDiff, Bool.and_true, Nat.one_ne_zero, Nat.succ_ne_zero, reduceIte, if_false, List.getElem?_cons_zero, List.set_cons_zero, List.set_cons_succ]
    generalize hq_g4 : IH.push h4 (IObj.rows [[IV.int .i64 id, IV.int .i64 code, IV.int .i64 ttl, IV.str nm, v4]] 44 5 false) = g4
    have e_g4 : Ext h4 g4 := by rw [← hq_g4]; exact (Ext.refl _).push _
    have l_g4 : g4.n = h4.n + 1 := by rw [← hq_g4]; rfl
    have bX : At g4 h4.n (IObj.rows [[IV.int .i64 id, IV.int .i64 code, IV.int .i64 ttl, IV.str nm, v4]] 44 5 false) := by rw [← hq_g4]; exact At.new _ _
    clear hq_g4
    have bA := bA.ext e_g4
    have aA := aA.ext e_g4
    have oW := oW.ext e_g4
    have o4 := o4.ext e_g4
    refine callA_of (implEncodeReply_c _ id code ttl nm v4 zs o4.sl hlen hzl) ?_
    rintro r h5 ⟨vG, rfl, oG, hE5⟩
    rw [hfb] at oG
    simp only [hfb] at oG ⊢
    have bA := bA.ext hE5
    have aA := aA.ext hE5
    have oW := oW.ext hE5
    have o4 := o4.ext hE5
    have bX := bX.ext hE5
    have le_hE5 := hE5.le
    simp only [go_sem, Hold.p, HoldK.k, HoldL.K, HoldL.body, Nat.reduceBEq, Nat.reduceAdd, List.getElem?_cons_zero, List.getElem?_cons_succ, Option.bind_some, List.map_cons, List.map_nil, Nat.zero_add, if_true, List.getD_cons_zero, List.getD_cons_succ, List.contains_cons, List.contains_nil, Nat.reduceBEq, Bool.or_true, Bool.true_or, Bool.or_false, Bool.false_or, Bool.not_true, Bool.not_false, true_and, and_true, rowA_whole, push_n, set_n, push_obj, set_obj, set_push, set_push_ne, set_set, Nat.add_assoc, Nat.left_eq_add, Nat.add_eq_left, Nat.add_left_cancel_iff, Nat.reduceEqDiff, stO_1s, stO_ws, boxA_s, one_bool, one_int, one_str, one_ptr, one_nilptr, one_slice, one_eslice, one_nilslice, one_func, one_iface, one_niliface, List.all_cons, List.all_nil, List.length_cons, List.length_nil, Nat.reduceLT, Nat.reduceEqDiff, Nat.reduceLeDiff, Bool.and_true, Nat.one_ne_zero, Nat.succ_ne_zero, reduceIte, if_false, List.getElem?_cons_zero, List.set_cons_zero, List.set_cons_succ]
    refine callA_of (eqByteS_c _ vG vW bs oG.sl oW.sl (by omega)) ?_
    rintro r h6 ⟨rfl, rfl⟩
    simp only [decide_true, bX.eq, bA.eq, go_sem, Hold.p, HoldK.k, HoldL.K, HoldL.body, Nat.reduceBEq, Nat.reduceAdd, List.getElem?_cons_zero, List.getElem?_cons_succ, Option.bind_some, List.map_cons, List.map_nil, Nat.zero_add, if_true, List.getD_cons_zero, List.getD_cons_succ, List.contains_cons, List.contains_nil, Nat.reduceBEq, Bool.or_true, Bool.true_or, Bool.or_false, Bool.false_or, Bool.not_true, Bool.not_false, true_and, and_true, rowA_whole, push_n, set_n, push_obj, set_obj, set_push, set_push_ne, set_set, Nat.add_assoc, Nat.left_eq_add, Nat.add_eq_left, Nat.add_left_cancel_iff, Nat.reduceEqDiff, stO_1s, stO_ws, boxA_s, one_bool, one_int, one_str, one_ptr, one_nilptr, one_slice, one_eslice, one_nilslice, one_func, one_iface, one_niliface, List.all_cons, List.all_nil, List.length_cons, List.length_nil, Nat.reduceLT, Nat.reduceEqDiff, Nat.reduceLeDiff, Bool.and_true, Nat.one_ne_zero, Nat.succ_ne_zero, reduceIte, if_false, List.getElem?_cons_zero, List.set_cons_zero, List.set_cons_succ]
    refine callA_of (toNameReply_c _ id code ttl nm v zs aA.sl hzl) ?_
    rintro r h7 ⟨v7, rfl, o7, hE7⟩
    have bA := bA.ext hE7
    have aA := aA.ext hE7
    have oW := oW.ext hE7
    have o4 := o4.ext hE7
    have bX := bX.ext hE7
    have oG := oG.ext hE7
    have le_hE7 := hE7.le
    simp only [decide_true, bX.eq, bA.eq, go_sem, Hold.p, HoldK.k, HoldL.K, HoldL.body, Nat.reduceBEq, Nat.reduceAdd, List.getElem?_cons_zero, List.getElem?_cons_succ, Option.bind_some, List.map_cons, List.map_nil, Nat.zero_add, if_true, List.getD_cons_zero, List.getD_cons_succ, List.contains_cons, List.contains_nil, Nat.reduceBEq, Bool.or_true, Bool.true_or, Bool.or_false, Bool.false_or, Bool.not_true, Bool.not_false, true_and, and_true, rowA_whole, push_n, set_n, push_obj, set_obj, set_push, set_push_ne, set_set, Nat.add_assoc, Nat.left_eq_add, Nat.add_eq_left, Nat.add_left_cancel_iff, Nat.reduceEqDiff, stO_1s, stO_ws, boxA_s, one_bool, one_int, one_str, one_ptr, one_nilptr, one_slice, one_eslice, one_nilslice, one_func, one_iface, one_niliface, List.all_cons, List.all_nil, List.length_cons, List.length_nil, Nat.reduceLT, Nat.reduceEqDiff, Nat.reduceLeDiff, Bool.and_true, Nat.one_ne_zero, Nat.succ_ne_zero, reduceIte, if_false, List.getElem?_cons_zero, List.set_cons_zero, List.set_cons_succ]
    refine callA_of (eqNameReply_c _ id code ttl nm v4 v7 zs o4.sl o7.sl (by omega)) ?_
    rintro r h8 ⟨rfl, hE8⟩
    have bA := bA.ext hE8
    have aA := aA.ext hE8
    have oW := oW.ext hE8
    have o4 := o4.ext hE8
    have bX := bX.ext hE8
    have oG := oG.ext hE8
    have le_hE8 := hE8.le
    simp only [decide_true, bX.eq, bA.eq, go_sem, Hold.p, HoldK.k, HoldL.K, HoldL.body, Nat.reduceBEq, Nat.reduceAdd, List.getElem?_cons_zero, List.getElem?_cons_succ, Option.bind_some, List.map_cons, List.map_nil, Nat.zero_add, if_true, List.getD_cons_zero, List.getD_cons_succ, List.contains_cons, List.contains_nil, Nat.reduceBEq, Bool.or_true, Bool.true_or, Bool.or_false, Bool.false_or, Bool.not_true, Bool.not_false, true_and, and_true, rowA_whole, push_n, set_n, push_obj, set_obj, set_push, set_push_ne, set_set, Nat.add_assoc, Nat.left_eq_add, Nat.add_eq_left, Nat.add_left_cancel_iff, Nat.reduceEqDiff, stO_1s, stO_ws, boxA_s, one_bool, one_int, one_str, one_ptr, one_nilptr, one_slice, one_eslice, one_nilslice, one_func, one_iface, one_niliface, List.all_cons, List.all_nil, List.length_cons, List.length_nil, Nat.reduceLT, Nat.reduceEqDiff, Nat.reduceLeDiff, Bool.and_true, Nat.one_ne_zero, Nat.succ_ne_zero, reduceIte, if_false, List.getElem?_cons_zero, List.set_cons_zero, List.set_cons_succ]
    refine callA_of (markNameReply_c _ id code ttl nm v4 zs 1 o4 (by omega) (by omega)) ?_
    rintro r h9 ⟨rfl, oX, ht9⟩
    have bA := bA.turn o4 (by omega) ht9
    have aA := aA.turn o4 (by omega) ht9
    have oW := oW.turn o4 (by omega) ht9
    have oG := oG.turn o4 (by omega) ht9
    have le_ht9 := ht9.le
    have hq0 : decide (((1 + zs.length : Nat) : Int) < 0) = false := decide_eq_false (by omega)
    simp only [hq0, go_sem, Hold.p, HoldK.k, HoldL.K, HoldL.body, Nat.reduceBEq, Nat.reduceAdd, List.getElem?_cons_zero, List.getElem?_cons_succ, Option.bind_some, List.map_cons, List.map_nil, Nat.zero_add, if_true, List.getD_cons_zero, List.getD_cons_succ, List.contains_cons, List.contains_nil, Nat.reduceBEq, Bool.or_true, Bool.true_or, Bool.or_false, Bool.false_or, Bool.not_true, Bool.not_false, true_and, and_true, rowA_whole, push_n, set_n, push_obj, set_obj, set_push, set_push_ne, set_set, Nat.add_assoc, Nat.left_eq_add, Nat.add_eq_left, Nat.add_left_cancel_iff, Nat.reduceEqDiff, stO_1s, stO_ws, boxA_s, one_bool, one_int, one_str, one_ptr, one_nilptr, one_slice, one_eslice, one_nilslice, one_func, one_iface, one_niliface, List.all_cons, List.all_nil, List.length_cons, List.length_nil, Nat.reduceLT, Nat.reduceEqDiff, Nat.reduceLeDiff, Bool.and_true, Nat.one_ne_zero, Nat.succ_ne_zero, reduceIte, if_false, List.getElem?_cons_zero, List.set_cons_zero, List.set_cons_succ]
    refine callA_of (eqByteS_c _ vG vW bs oG.sl oW.sl (by omega)) ?_
    rintro r h10 ⟨rfl, rfl⟩
    simp only [decide_true, go_sem, Hold.p, HoldK.k, HoldL.K, HoldL.body, Nat.reduceBEq, Nat.reduceAdd, List.getElem?_cons_zero, List.getElem?_cons_succ, Option.bind_some, List.map_cons, List.map_nil, Nat.zero_add, if_true, List.getD_cons_zero, List.getD_cons_succ, List.contains_cons, List.contains_nil, Nat.reduceBEq, Bool.or_true, Bool.true_or, Bool.or_false, Bool.false_or, Bool.not_true, Bool.not_false, true_and, and_true, rowA_whole, push_n, set_n, push_obj, set_obj, set_push, set_push_ne, set_set, Nat.add_assoc, Nat.left_eq_add, Nat.add_eq_left, Nat.add_left_cancel_iff, Nat.reduceEqDiff, stO_1s, stO_ws, boxA_s, one_bool, one_int, one_str, one_ptr, one_nilptr, one_slice, one_eslice, one_nilslice, one_func, one_iface, one_niliface, List.all_cons, List.all_nil, List.length_cons, List.length_nil, Nat.reduceLT, Nat.reduceEqDiff, Nat.reduceLeDiff, Bool.and_true, Nat.one_ne_zero, Nat.succ_ne_zero, reduceIte, if_false, List.getElem?_cons_zero, List.set_cons_zero, List.set_cons_succ]
    refine callA_of (markByteS_c _ vG 1 _ oG rows1 (by rw [strRows_len]; omega)) ?_
    rintro r h11 ⟨rfl, oM, ht11⟩
    have bA := bA.turn oG (by omega) ht11
    have aA := aA.turn oG (by omega) ht11
    have oW := oW.turn oG (by omega) ht11
    have le_ht11 := ht11.le
    rw [strRows_len] at oM
    simp only [go_sem, Hold.p, HoldK.k, HoldL.K, HoldL.body, Nat.reduceBEq, Nat.reduceAdd, List.getElem?_cons_zero, List.getElem?_cons_succ, Option.bind_some, List.map_cons, List.map_nil, Nat.zero_add, if_true, List.getD_cons_zero, List.getD_cons_succ, List.contains_cons, List.contains_nil, Nat.reduceBEq, Bool.or_true, Bool.true_or, Bool.or_false, Bool.false_or, Bool.not_true, Bool.not_false, true_and, and_true, rowA_whole, push_n, set_n, push_obj, set_obj, set_push, set_push_ne, set_set, Nat.add_assoc, Nat.left_eq_add, Nat.add_eq_left, Nat.add_left_cancel_iff, Nat.reduceEqDiff, stO_1s, stO_ws, boxA_s, one_bool, one_int, one_str, one_ptr, one_nilptr, one_slice, one_eslice, one_nilslice, one_func, one_iface, one_niliface, List.all_cons, List.all_nil, List.length_cons, List.length_nil, Nat.reduceLT, Nat.reduceEqDiff, Nat.reduceLeDiff, Bool.and_true, Nat.one_ne_zero, Nat.succ_ne_zero, reduceIte, if_false, List.getElem?_cons_zero, List.set_cons_zero, List.set_cons_succ]
    refine callA_of (heldByteS_c _ vG bs.length 1 oM.sl (by omega)) ?_
    rintro r h12 ⟨rfl, rfl⟩
    have hq : decide (((1 + bs.length : Nat) : Int) < 0) = false := decide_eq_false (by omega)
    simp only [hq, bA.eq, decide_true, strRows_len, go_sem, Hold.p, HoldK.k, HoldL.K, HoldL.body, Nat.reduceBEq, Nat.reduceAdd, List.getElem?_cons_zero, List.getElem?_cons_succ, Option.bind_some, List.map_cons, List.map_nil, Nat.zero_add, if_true, List.getD_cons_zero, List.getD_cons_succ, List.contains_cons, List.contains_nil, Nat.reduceBEq, Bool.or_true, Bool.true_or, Bool.or_false, Bool.false_or, Bool.not_true, Bool.not_false, true_and, and_true, rowA_whole, push_n, set_n, push_obj, set_obj, set_push, set_push_ne, set_set, Nat.add_assoc, Nat.left_eq_add, Nat.add_eq_left, Nat.add_left_cancel_iff, Nat.reduceEqDiff, stO_1s, stO_ws, boxA_s, one_bool, one_int, one_str, one_ptr, one_nilptr, one_slice, one_eslice, one_nilslice, one_func, one_iface, one_niliface, List.all_cons, List.all_nil, List.length_cons, List.length_nil, Nat.reduceLT, Nat.reduceEqDiff, Nat.reduceLeDiff, Bool.and_true, Nat.one_ne_zero, Nat.succ_ne_zero, reduceIte, if_false, List.getElem?_cons_zero, List.set_cons_zero, List.set_cons_succ]
    refine callA_of (toNameReply_c _ id code ttl nm v zs aA.sl hzl) ?_
    rintro r h13 ⟨v13, rfl, o13, hE13⟩
    have bA := bA.ext hE13
    have aA := aA.ext hE13
    have oW := oW.ext hE13
    have oM := oM.ext hE13
    have le_hE13 := hE13.le
    simp only [go_sem, Hold.p, HoldK.k, HoldL.K, HoldL.body, Nat.reduceBEq, Nat.reduceAdd, List.getElem?_cons_zero, List.getElem?_cons_succ, Option.bind_some, List.map_cons, List.map_nil, Nat.zero_add, if_true, List.getD_cons_zero, List.getD_cons_succ, List.contains_cons, List.contains_nil, Nat.reduceBEq, Bool.or_true, Bool.true_or, Bool.or_false, Bool.false_or, Bool.not_true, Bool.not_false, true_and, and_true, rowA_whole, push_n, set_n, push_obj, set_obj, set_push, set_push_ne, set_set, Nat.add_assoc, Nat.left_eq_add, Nat.add_eq_left, Nat.add_left_cancel_iff, Nat.reduceEqDiff, stO_1s, stO_ws, boxA_s, one_bool, one_int, one_str, one_ptr, one_nilptr, one_slice, one_eslice, one_nilslice, one_func, one_iface, one_niliface, List.all_cons, List.all_nil, List.length_cons, List.length_nil, Nat.reduceLT, Nat.reduceEqDiff, Nat.reduceLeDiff, Bool.and_true, Nat.one_ne_zero, Nat.succ_ne_zero, reduceIte, if_false, List.getElem?_cons_zero, List.set_cons_zero, List.set_cons_succ]
    refine callA_of (implEncodeReply_c _ id code ttl nm v13 zs o13.sl hlen hzl) ?_
    rintro r h14 ⟨vH, rfl, oH, hE14⟩
    rw [hfb] at oH
    simp only [hfb] at oH ⊢
    have bA := bA.ext hE14
    have oW := oW.ext hE14
    have oM := oM.ext hE14
    have le_hE14 := hE14.le
    simp only [go_sem, Hold.p, HoldK.k, HoldL.K, HoldL.body, Nat.reduceBEq, Nat.reduceAdd, List.getElem?_cons_zero, List.getElem?_cons_succ, Option.bind_some, List.map_cons, List.map_nil, Nat.zero_add, if_true, List.getD_cons_zero, List.getD_cons_succ, List.contains_cons, List.contains_nil, Nat.reduceBEq, Bool.or_true, Bool.true_or, Bool.or_false, Bool.false_or, Bool.not_true, Bool.not_false, true_and, and_true, rowA_whole, push_n, set_n, push_obj, set_obj, set_push, set_push_ne, set_set, Nat.add_assoc, Nat.left_eq_add, Nat.add_eq_left, Nat.add_left_cancel_iff, Nat.reduceEqDiff, stO_1s, stO_ws, boxA_s, one_bool, one_int, one_str, one_ptr, one_nilptr, one_slice, one_eslice, one_nilslice, one_func, one_iface, one_niliface, List.all_cons, List.all_nil, List.length_cons, List.length_nil, Nat.reduceLT, Nat.reduceEqDiff, Nat.reduceLeDiff, Bool.and_true, Nat.one_ne_zero, Nat.succ_ne_zero, reduceIte, if_false, List.getElem?_cons_zero, List.set_cons_zero, List.set_cons_succ]
    refine callA_of (eqByteS_c _ vH vW bs oH.sl oW.sl (by omega)) ?_
    rintro r h15 ⟨rfl, rfl⟩
    simp only [decide_true, go_sem, Hold.p, HoldK.k, HoldL.K, HoldL.body, Nat.reduceBEq, Nat.reduceAdd, List.getElem?_cons_zero, List.getElem?_cons_succ, Option.bind_some, List.map_cons, List.map_nil, Nat.zero_add, if_true, List.getD_cons_zero, List.getD_cons_succ, List.contains_cons, List.contains_nil, Nat.reduceBEq, Bool.or_true, Bool.true_or, Bool.or_false, Bool.false_or, Bool.not_true, Bool.not_false, true_and, and_true, rowA_whole, push_n, set_n, push_obj, set_obj, set_push, set_push_ne, set_set, Nat.add_assoc, Nat.left_eq_add, Nat.add_eq_left, Nat.add_left_cancel_iff, Nat.reduceEqDiff, stO_1s, stO_ws, boxA_s, one_bool, one_int, one_str, one_ptr, one_nilptr, one_slice, one_eslice, one_nilslice, one_func, one_iface, one_niliface, List.all_cons, List.all_nil, List.length_cons, List.length_nil, Nat.reduceLT, Nat.reduceEqDiff, Nat.reduceLeDiff, Bool.and_true, Nat.one_ne_zero, Nat.succ_ne_zero, reduceIte, if_false, List.getElem?_cons_zero, List.set_cons_zero, List.set_cons_succ]
    refine callA_of (heldByteS_c _ vG bs.length 1 oM.sl (by omega)) ?_
    rintro r h16 ⟨rfl, rfl⟩
    simp only [hq, decide_true, strRows_len, go_sem, Hold.p, HoldK.k, HoldL.K, HoldL.body, Nat.reduceBEq, Nat.reduceAdd, List.getElem?_cons_zero, List.getElem?_cons_succ, Option.bind_some, List.map_cons, List.map_nil, Nat.zero_add, if_true, List.getD_cons_zero, List.getD_cons_succ, List.contains_cons, List.contains_nil, Nat.reduceBEq, Bool.or_true, Bool.true_or, Bool.or_false, Bool.false_or, Bool.not_true, Bool.not_false, true_and, and_true, rowA_whole, push_n, set_n, push_obj, set_obj, set_push, set_push_ne, set_set, Nat.add_assoc, Nat.left_eq_add, Nat.add_eq_left, Nat.add_left_cancel_iff, Nat.reduceEqDiff, stO_1s, stO_ws, boxA_s, one_bool, one_int, one_str, one_ptr, one_nilptr, one_slice, one_eslice, one_nilslice, one_func, one_iface, one_niliface, List.all_cons, List.all_nil, List.length_cons, List.length_nil, Nat.reduceLT, Nat.reduceEqDiff, Nat.reduceLeDiff, Bool.and_true, Nat.one_ne_zero, Nat.succ_ne_zero, reduceIte, if_false, List.getElem?_cons_zero, List.set_cons_zero, List.set_cons_succ]
end Go.Proofs.YtcmcfmgabafljaaDoor
