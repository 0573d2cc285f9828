import Derived.Test.YtcmcfmgabafljaaDoorL3
import Derived.Test.YtcmcfmgabafljaaDoorK2
import Derived.Test.YtcmcfmgabafljaaDoorL1
set_option linter.unusedSimpArgs false
set_option linter.unusedVariables false
namespace Go.Proofs.YtcmcfmgabafljaaDoor
open Go Go.IW

theorem fits_ints {h : IH} : ∀ {rs : List (List IV)}, (∀ r ∈ rs, Fits h (.int .i64) r) → ∃ zs : List Int, rs = intRows zs
  | [], _ => ⟨[], rfl⟩
  | r :: rs, hf => by
    obtain ⟨zs, e⟩ := fits_ints fun x hx => hf x (List.mem_cons_of_mem _ hx)
    obtain ⟨a, ha, hb⟩ := hf r List.mem_cons_self
    exact ⟨a :: zs, by rw [ha, e]; rfl⟩
def shReply : Sh := .cat (.int .i64) (.cat (.int .i64) (.cat (.int .i64) (.cat .str (.cat (.slice (.int .i64)) .nil))))
theorem fits_reply {h : IH} {cs : List IV} (hf : Fits h shReply cs) : ∃ (id code ttl : Int) (nm : List UInt8) (v : IV) (zs : List Int), cs = [.int .i64 id, .int .i64 code, .int .i64 ttl, .str nm, v] ∧ nm.length ≤ maxLen ∧ SlR h 1 v (intRows zs) ∧ zs.length ≤ maxLen := by
  obtain ⟨_, _, rfl, ⟨a, rfl, _⟩, _, _, rfl, ⟨b, rfl, _⟩, _, _, rfl, ⟨c, rfl, _⟩, _, _, rfl, ⟨s, rfl, hs⟩, _, _, rfl, ⟨v, rs, rfl, hv, hl, he⟩, rfl⟩ := hf
  obtain ⟨zs, rfl⟩ := fits_ints he
  exact ⟨a, b, c, s, v, zs, rfl, hs, hv, by rw [intRows_len] at hl; exact hl⟩
theorem encR_len {id code ttl : Int} {nm : List UInt8} {zs : List Int} : (encR id code ttl nm zs).1.length ≤ 1000 := by
  unfold encR
  split
  · rename_i h
    obtain ⟨_, hn, _, _, hz, _⟩ := okRep_ok h
    have := (okName_ne hn).2
    rw [List.length_append, flat_len]
    simp [repHead, beB_len]; omega
  · simp

set_option maxRecDepth 20000 in
theorem lawEncodeReply : LawTrue Tryd.prog 6 [(shReply, true)] := by
  rintro h ivs ha ⟨iv, r, rfl, ⟨cs, rfl, hf⟩, rfl⟩
  obtain ⟨id, code, ttl, nm, v, zs, rfl, hm, hs, hz⟩ := fits_reply hf
  refine icalls (.of ok6) (Nat.le_of_ble_eq_true rfl) ?_
  unfold c6
  have aA := Arg.of hs
  have hv1 := hs.one
  simp only [hv1, go_sem, Hold.p, HoldK.k, HoldL.K, HoldL.body, Nat.reduceBEq, Nat.reduceAdd, List.getElem?_cons_zero, List.getElem?_cons_succ, Option.bind_some, List.map_cons, List.map_nil, Nat.zero_add, if_true, List.getD_cons_zero, List.getD_cons_succ, List.contains_cons, List.contains_nil, Nat.reduceBEq, Bool.or_true, Bool.true_or, Bool.or_false, Bool.false_or, Bool.not_true, Bool.not_false, true_and, and_true, rowA_whole, push_n, set_n, push_obj, set_obj, set_push, set_push_ne, set_set, Nat.add_assoc, Nat.left_eq_add, Nat.add_eq_left, Nat.add_left_cancel_iff, Nat.reduceEqDiff, stO_1s, stO_ws, boxA_s, one_bool, one_int, one_str, one_ptr, one_nilptr, one_slice, one_eslice, one_nilslice, one_func, one_iface, one_niliface, List.all_cons, List.all_nil, List.length_cons, List.length_nil, Nat.reduceLT, Nat.reduceEqDiff, Nat.reduceLeDiff, Bool.and_true, Nat.one_ne_zero, Nat.succ_ne_zero, reduceIte, if_false, List.getElem?_cons_zero, List.set_cons_zero, List.set_cons_succ]
  generalize hq_g0 : IH.push h (IObj.rows [[IV.int .i64 id, IV.int .i64 code, IV.int .i64 ttl, IV.str nm, v]] 41 5 false) = g0
  have e_g0 : Ext h g0 := by rw [← hq_g0]; exact (Ext.refl _).push _
  have l_g0 : g0.n = h.n + 1 := by rw [← hq_g0]; rfl
  have bA : At g0 h.n (IObj.rows [[IV.int .i64 id, IV.int .i64 code, IV.int .i64 ttl, IV.str nm, v]] 41 5 false) := by rw [← hq_g0]; exact At.new _ _
  clear hq_g0
  have aA := aA.ext e_g0
  refine callA_of (szNameReply_c _ id code ttl 1048576 nm v zs aA.sl (by omega) hm hz) ?_
  rintro r h1 ⟨rfl, hE1⟩
  have bA := bA.ext hE1
  have aA := aA.ext hE1
  have le_hE1 := hE1.le
  by_cases hbig : (1048576 : Int) < nm.length + zs.length
  · rw [if_pos hbig]
    have hn : decide ((-1 : Int) < 0) = true := rfl
    simp only [hn, go_sem, Hold.p, HoldK.k, HoldL.K, HoldL.body, Nat.reduceBEq, Nat.reduceAdd, List.getElem?_cons_zero, List.getElem?_cons_succ, Option.bind_some, List.map_cons, List.map_nil, Nat.zero_add, if_true, List.getD_cons_zero, List.getD_cons_succ, List.contains_cons, List.contains_nil, Nat.reduceBEq, Bool.or_true, Bool.true_or, Bool.or_false, Bool.false_or, Bool.not_true, Bool.not_false, true_and, and_true, rowA_whole, push_n, set_n, push_obj, set_obj, set_push, set_push_ne, set_set, Nat.add_assoc, Nat.left_eq_add, Nat.add_eq_left, Nat.add_left_cancel_iff, Nat.reduceEqDiff, stO_1s, stO_ws, boxA_s, one_bool, one_int, one_str, one_ptr, one_nilptr, one_slice, one_eslice, one_nilslice, one_func, one_iface, one_niliface, List.all_cons, List.all_nil, List.length_cons, List.length_nil, Nat.reduceLT, Nat.reduceEqDiff, Nat.reduceLeDiff, Bool.and_true, Nat.one_ne_zero, Nat.succ_ne_zero, reduceIte, if_false, List.getElem?_cons_zero, List.set_cons_zero, List.set_cons_succ]
  · rw [if_neg hbig]
    have hn : decide ((1048576 : Int) - (nm.length : Int) - (zs.length : Int) < 0) = false := decide_eq_false (by omega)
    have hlen : nm.length ≤ 1048576 := by omega
    have hzl : zs.length ≤ 1048576 := by omega
    simp only [hn, bA.eq, go_sem, Hold.p, HoldK.k, HoldL.K, HoldL.body, Nat.reduceBEq, Nat.reduceAdd, List.getElem?_cons_zero, List.getElem?_cons_succ, Option.bind_some, List.map_cons, List.map_nil, Nat.zero_add, if_true, List.getD_cons_zero, List.getD_cons_succ, List.contains_cons, List.contains_nil, Nat.reduceBEq, Bool.or_true, Bool.true_or, Bool.or_false, Bool.false_or, Bool.not_true, Bool.not_false, true_and, and_true, rowA_whole, push_n, set_n, push_obj, set_obj, set_push, set_push_ne, set_set, Nat.add_assoc, Nat.left_eq_add, Nat.add_eq_left, Nat.add_left_cancel_iff, Nat.reduceEqDiff, stO_1s, stO_ws, boxA_s, one_bool, one_int, one_str, one_ptr, one_nilptr, one_slice, one_eslice, one_nilslice, one_func, one_iface, one_niliface, List.all_cons, List.all_nil, List.length_cons, List.length_nil, Nat.reduceLT, Nat.reduceEqDiff, Nat.reduceLeDiff, Bool.and_true, Nat.one_ne_zero, Nat.succ_ne_zero, reduceIte, if_false, List.getElem?_cons_zero, List.set_cons_zero, List.set_cons_succ]
    refine callA_of (toNameReply_c _ id code ttl nm v zs aA.sl hzl) ?_
    rintro r h2 ⟨v2, rfl, o2, hE2⟩
    have bA := bA.ext hE2
    have aA := aA.ext hE2
    have le_hE2 := hE2.le
    simp only [hn, go_sem, Hold.p, HoldK.k, HoldL.K, HoldL.body, Nat.reduceBEq, Nat.reduceAdd, List.getElem?_cons_zero, List.getElem?_cons_succ, Option.bind_some, List.map_cons, List.map_nil, Nat.zero_add, if_true, List.getD_cons_zero, List.getD_cons_succ, List.contains_cons, List.contains_nil, Nat.reduceBEq, Bool.or_true, Bool.true_or, Bool.or_false, Bool.false_or, Bool.not_true, Bool.not_false, true_and, and_true, rowA_whole, push_n, set_n, push_obj, set_obj, set_push, set_push_ne, set_set, Nat.add_assoc, Nat.left_eq_add, Nat.add_eq_left, Nat.add_left_cancel_iff, Nat.reduceEqDiff, stO_1s, stO_ws, boxA_s, one_bool, one_int, one_str, one_ptr, one_nilptr, one_slice, one_eslice, one_nilslice, one_func, one_iface, one_niliface, List.all_cons, List.all_nil, List.length_cons, List.length_nil, Nat.reduceLT, Nat.reduceEqDiff, Nat.reduceLeDiff, Bool.and_true, Nat.one_ne_zero, Nat.succ_ne_zero, reduceIte, if_false, List.getElem?_cons_zero, List.set_cons_zero, List.set_cons_succ]
    refine callA_of (specEncodeReply_c _ id code ttl nm v2 zs o2.sl hlen hzl) ?_
    rintro r h3 ⟨vW, rfl, oW, hE3⟩
    have bA := bA.ext hE3
    have aA := aA.ext hE3
    have le_hE3 := hE3.le
    have hfl : (encR id code ttl nm zs).1.length ≤ 1000 := encR_len
    generalize hfb : encR id code ttl nm zs = fb at oW hfl
    obtain ⟨bs, fc⟩ := fb
    simp only at oW hfl
    simp only [hn, bA.eq, go_sem, Hold.p, HoldK.k, HoldL.K, HoldL.body, Nat.reduceBEq, Nat.reduceAdd, List.getElem?_cons_zero, List.getElem?_cons_succ, Option.bind_some, List.map_cons, List.map_nil, Nat.zero_add, if_true, List.getD_cons_zero, List.getD_cons_succ, List.contains_cons, List.contains_nil, Nat.reduceBEq, Bool.or_true, Bool.true_or, Bool.or_false, Bool.false_or, Bool.not_true, Bool.not_false, true_and, and_true, rowA_whole, push_n, set_n, push_obj, set_obj, set_push, set_push_ne, set_set, Nat.add_assoc, Nat.left_eq_add, Nat.add_eq_left, Nat.add_left_cancel_iff, Nat.reduceEqDiff, stO_1s, stO_ws, boxA_s, one_bool, one_int, one_str, one_ptr, one_nilptr, one_slice, one_eslice, one_nilslice, one_func, one_iface, one_niliface, List.all_cons, List.all_nil, List.length_cons, List.length_nil, Nat.reduceLT, Nat.reduceEqDiff, Nat.reduceLeDiff, Bool.and_true, Nat.one_ne_zero, Nat.succ_ne_zero, reduceIte, if_false, List.getElem?_cons_zero, List.set_cons_zero, List.set_cons_succ]
    refine callA_of (toNameReply_c _ id code ttl nm v zs aA.sl hzl) ?_
    rintro r h4 ⟨v4, rfl, o4, hE4⟩
    have bA := bA.ext hE4
    have aA := aA.ext hE4
    have oW := oW.ext hE4
    have le_hE4 := hE4.le
    have v4o := o4.sl.one
    have v4c := o4.sl.cells
    simp only [v4o, v4c, go_sem, Hold.p, HoldK.k, HoldL.K, HoldL.body, Nat.reduceBEq, Nat.reduceAdd, List.getElem?_cons_zero, List.getElem?_cons_succ, Option.bind_some, List.map_cons, List.map_nil, Nat.zero_add, if_true, List.getD_cons_zero, List.getD_cons_succ, List.contains_cons, List.contains_nil, Nat.reduceBEq, Bool.or_true, Bool.true_or, Bool.or_false, Bool.false_or, Bool.not_true, Bool.not_false, true_and, and_true, rowA_whole, push_n, set_n, push_obj, set_obj, set_push, set_push_ne, set_set, Nat.add_assoc, Nat.left_eq_add, Nat.add_eq_left, Nat.add_left_cancel_iff, Nat.reduceEqDiff, stO_1s, stO_ws, boxA_s, one_bool, one_int, one_str, one_ptr, one_nilptr, one_slice, one_eslice, one_nilslice, one_func, one_iface, one_niliface, List.all_cons, List.all_nil, List.length_cons, List.length_nil, Nat.reduceLT, Nat.reduceEqDiff, Nat.reduceLeDiff, Bool.and_true, Nat.one_ne_zero, Nat.succ_ne_zero, reduceIte, if_false, List.getElem?_cons_zero, List.set_cons_zero, List.set_cons_succ]
    generalize hq_g4 : IH.push h4 (IObj.rows [[IV.int .i64 id, IV.int .i64 code, IV.int .i64 ttl, IV.str nm, v4]] 44 5 false) = g4
    have e_g4 : Ext h4 g4 := by rw [← hq_g4]; exact (Ext.refl _).push _
    have l_g4 : g4.n = h4.n + 1 := by rw [← hq_g4]; rfl
    have bX : At g4 h4.n (IObj.rows [[IV.int .i64 id, IV.int .i64 code, IV.int .i64 ttl, IV.str nm, v4]] 44 5 false) := by rw [← hq_g4]; exact At.new _ _
    clear hq_g4
    have bA := bA.ext e_g4
    have aA := aA.ext e_g4
    have oW := oW.ext e_g4
    have o4 := o4.ext e_g4
    refine callA_of (implEncodeReply_c _ id code ttl nm v4 zs o4.sl hlen hzl) ?_
    rintro r h5 ⟨vG, rfl, oG, hE5⟩
    rw [hfb] at oG
    simp only [hfb] at oG ⊢
    have bA := bA.ext hE5
    have aA := aA.ext hE5
    have oW := oW.ext hE5
    have o4 := o4.ext hE5
    have bX := bX.ext hE5
    have le_hE5 := hE5.le
    simp only [go_sem, Hold.p, HoldK.k, HoldL.K, HoldL.body, Nat.reduceBEq, Nat.reduceAdd, List.getElem?_cons_zero, List.getElem?_cons_succ, Option.bind_some, List.map_cons, List.map_nil, Nat.zero_add, if_true, List.getD_cons_zero, List.getD_cons_succ, List.contains_cons, List.contains_nil, Nat.reduceBEq, Bool.or_true, Bool.true_or, Bool.or_false, Bool.false_or, Bool.not_true, Bool.not_false, true_and, and_true, rowA_whole, push_n, set_n, push_obj, set_obj, set_push, set_push_ne, set_set, Nat.add_assoc, Nat.left_eq_add, Nat.add_eq_left, Nat.add_left_cancel_iff, Nat.reduceEqDiff, stO_1s, stO_ws, boxA_s, one_bool, one_int, one_str, one_ptr, one_nilptr, one_slice, one_eslice, one_nilslice, one_func, one_iface, one_niliface, List.all_cons, List.all_nil, List.length_cons, List.length_nil, Nat.reduceLT, Nat.reduceEqDiff, Nat.reduceLeDiff, Bool.and_true, Nat.one_ne_zero, Nat.succ_ne_zero, reduceIte, if_false, List.getElem?_cons_zero, List.set_cons_zero, List.set_cons_succ]
    refine callA_of (eqByteS_c _ vG vW bs oG.sl oW.sl (by omega)) ?_
    rintro r h6 ⟨rfl, rfl⟩
    simp only [decide_true, bX.eq, bA.eq, go_sem, Hold.p, HoldK.k, HoldL.K, HoldL.body, Nat.reduceBEq, Nat.reduceAdd, List.getElem?_cons_zero, List.getElem?_cons_succ, Option.bind_some, List.map_cons, List.map_nil, Nat.zero_add, if_true, List.getD_cons_zero, List.getD_cons_succ, List.contains_cons, List.contains_nil, Nat.reduceBEq, Bool.or_true, Bool.true_or, Bool.or_false, Bool.false_or, Bool.not_true, Bool.not_false, true_and, and_true, rowA_whole, push_n, set_n, push_obj, set_obj, set_push, set_push_ne, set_set, Nat.add_assoc, Nat.left_eq_add, Nat.add_eq_left, Nat.add_left_cancel_iff, Nat.reduceEqDiff, stO_1s, stO_ws, boxA_s, one_bool, one_int, one_str, one_ptr, one_nilptr, one_slice, one_eslice, one_nilslice, one_func, one_iface, one_niliface, List.all_cons, List.all_nil, List.length_cons, List.length_nil, Nat.reduceLT, Nat.reduceEqDiff, Nat.reduceLeDiff, Bool.and_true, Nat.one_ne_zero, Nat.succ_ne_zero, reduceIte, if_false, List.getElem?_cons_zero, List.set_cons_zero, List.set_cons_succ]
    refine callA_of (toNameReply_c _ id code ttl nm v zs aA.sl hzl) ?_
    rintro r h7 ⟨v7, rfl, o7, hE7⟩
    have bA := bA.ext hE7
    have aA := aA.ext hE7
    have oW := oW.ext hE7
    have o4 := o4.ext hE7
    have bX := bX.ext hE7
    have oG := oG.ext hE7
    have le_hE7 := hE7.le
    simp only [decide_true, bX.eq, bA.eq, go_sem, Hold.p, HoldK.k, HoldL.K, HoldL.body, Nat.reduceBEq, Nat.reduceAdd, List.getElem?_cons_zero, List.getElem?_cons_succ, Option.bind_some, List.map_cons, List.map_nil, Nat.zero_add, if_true, List.getD_cons_zero, List.getD_cons_succ, List.contains_cons, List.contains_nil, Nat.reduceBEq, Bool.or_true, Bool.true_or, Bool.or_false, Bool.false_or, Bool.not_true, Bool.not_false, true_and, and_true, rowA_whole, push_n, set_n, push_obj, set_obj, set_push, set_push_ne, set_set, Nat.add_assoc, Nat.left_eq_add, Nat.add_eq_left, Nat.add_left_cancel_iff, Nat.reduceEqDiff, stO_1s, stO_ws, boxA_s, one_bool, one_int, one_str, one_ptr, one_nilptr, one_slice, one_eslice, one_nilslice, one_func, one_iface, one_niliface, List.all_cons, List.all_nil, List.length_cons, List.length_nil, Nat.reduceLT, Nat.reduceEqDiff, Nat.reduceLeDiff, Bool.and_true, Nat.one_ne_zero, Nat.succ_ne_zero, reduceIte, if_false, List.getElem?_cons_zero, List.set_cons_zero, List.set_cons_succ]
    refine callA_of (eqNameReply_c _ id code ttl nm v4 v7 zs o4.sl o7.sl (by omega)) ?_
    rintro r h8 ⟨rfl, hE8⟩
    have bA := bA.ext hE8
    have aA := aA.ext hE8
    have oW := oW.ext hE8
    have o4 := o4.ext hE8
    have bX := bX.ext hE8
    have oG := oG.ext hE8
    have le_hE8 := hE8.le
    simp only [decide_true, bX.eq, bA.eq, go_sem, Hold.p, HoldK.k, HoldL.K, HoldL.body, Nat.reduceBEq, Nat.reduceAdd, List.getElem?_cons_zero, List.getElem?_cons_succ, Option.bind_some, List.map_cons, List.map_nil, Nat.zero_add, if_true, List.getD_cons_zero, List.getD_cons_succ, List.contains_cons, List.contains_nil, Nat.reduceBEq, Bool.or_true, Bool.true_or, Bool.or_false, Bool.false_or, Bool.not_true, Bool.not_false, true_and, and_true, rowA_whole, push_n, set_n, push_obj, set_obj, set_push, set_push_ne, set_set, Nat.add_assoc, Nat.left_eq_add, Nat.add_eq_left, Nat.add_left_cancel_iff, Nat.reduceEqDiff, stO_1s, stO_ws, boxA_s, one_bool, one_int, one_str, one_ptr, one_nilptr, one_slice, one_eslice, one_nilslice, one_func, one_iface, one_niliface, List.all_cons, List.all_nil, List.length_cons, List.length_nil, Nat.reduceLT, Nat.reduceEqDiff, Nat.reduceLeDiff, Bool.and_true, Nat.one_ne_zero, Nat.succ_ne_zero, reduceIte, if_false, List.getElem?_cons_zero, List.set_cons_zero, List.set_cons_succ]
    refine callA_of (markNameReply_c _ id code ttl nm v4 zs 1 o4 (by omega) (by omega)) ?_
    rintro r h9 ⟨rfl, oX, ht9⟩
    have bA := bA.turn o4 (by omega) ht9
    have aA := aA.turn o4 (by omega) ht9
    have oW := oW.turn o4 (by omega) ht9
    have oG := oG.turn o4 (by omega) ht9
    have le_ht9 := ht9.le
    have hq0 : decide (((1 + zs.length : Nat) : Int) < 0) = false := decide_eq_false (by omega)
    simp only [hq0, go_sem, Hold.p, HoldK.k, HoldL.K, HoldL.body, Nat.reduceBEq, Nat.reduceAdd, List.getElem?_cons_zero, List.getElem?_cons_succ, Option.bind_some, List.map_cons, List.map_nil, Nat.zero_add, if_true, List.getD_cons_zero, List.getD_cons_succ, List.contains_cons, List.contains_nil, Nat.reduceBEq, Bool.or_true, Bool.true_or, Bool.or_false, Bool.false_or, Bool.not_true, Bool.not_false, true_and, and_true, rowA_whole, push_n, set_n, push_obj, set_obj, set_push, set_push_ne, set_set, Nat.add_assoc, Nat.left_eq_add, Nat.add_eq_left, Nat.add_left_cancel_iff, Nat.reduceEqDiff, stO_1s, stO_ws, boxA_s, one_bool, one_int, one_str, one_ptr, one_nilptr, one_slice, one_eslice, one_nilslice, one_func, one_iface, one_niliface, List.all_cons, List.all_nil, List.length_cons, List.length_nil, Nat.reduceLT, Nat.reduceEqDiff, Nat.reduceLeDiff, Bool.and_true, Nat.one_ne_zero, Nat.succ_ne_zero, reduceIte, if_false, List.getElem?_cons_zero, List.set_cons_zero, List.set_cons_succ]
    refine callA_of (eqByteS_c _ vG vW bs oG.sl oW.sl (by omega)) ?_
    rintro r h10 ⟨rfl, rfl⟩
    simp only [decide_true, go_sem, Hold.p, HoldK.k, HoldL.K, HoldL.body, Nat.reduceBEq, Nat.reduceAdd, List.getElem?_cons_zero, List.getElem?_cons_succ, Option.bind_some, List.map_cons, List.map_nil, Nat.zero_add, if_true, List.getD_cons_zero, List.getD_cons_succ, List.contains_cons, List.contains_nil, Nat.reduceBEq, Bool.or_true, Bool.true_or, Bool.or_false, Bool.false_or, Bool.not_true, Bool.not_false, true_and, and_true, rowA_whole, push_n, set_n, push_obj, set_obj, set_push, set_push_ne, set_set, Nat.add_assoc, Nat.left_eq_add, Nat.add_eq_left, Nat.add_left_cancel_iff, Nat.reduceEqDiff, stO_1s, stO_ws, boxA_s, one_bool, one_int, one_str, one_ptr, one_nilptr, one_slice, one_eslice, one_nilslice, one_func, one_iface, one_niliface, List.all_cons, List.all_nil, List.length_cons, List.length_nil, Nat.reduceLT, Nat.reduceEqDiff, Nat.reduceLeDiff, Bool.and_true, Nat.one_ne_zero, Nat.succ_ne_zero, reduceIte, if_false, List.getElem?_cons_zero, List.set_cons_zero, List.set_cons_succ]
    refine callA_of (markByteS_c _ vG 1 _ oG rows1 (by rw [strRows_len]; omega)) ?_
    rintro r h11 ⟨rfl, oM, ht11⟩
    have bA := bA.turn oG (by omega) ht11
    have aA := aA.turn oG (by omega) ht11
    have oW := oW.turn oG (by omega) ht11
    have le_ht11 := ht11.le
    rw [strRows_len] at oM
    simp only [go_sem, Hold.p, HoldK.k, HoldL.K, HoldL.body, Nat.reduceBEq, Nat.reduceAdd, List.getElem?_cons_zero, List.getElem?_cons_succ, Option.bind_some, List.map_cons, List.map_nil, Nat.zero_add, if_true, List.getD_cons_zero, List.getD_cons_succ, List.contains_cons, List.contains_nil, Nat.reduceBEq, Bool.or_true, Bool.true_or, Bool.or_false, Bool.false_or, Bool.not_true, Bool.not_false, true_and, and_true, rowA_whole, push_n, set_n, push_obj, set_obj, set_push, set_push_ne, set_set, Nat.add_assoc, Nat.left_eq_add, Nat.add_eq_left, Nat.add_left_cancel_iff, Nat.reduceEqDiff, stO_1s, stO_ws, boxA_s, one_bool, one_int, one_str, one_ptr, one_nilptr, one_slice, one_eslice, one_nilslice, one_func, one_iface, one_niliface, List.all_cons, List.all_nil, List.length_cons, List.length_nil, Nat.reduceLT, Nat.reduceEqDiff, Nat.reduceLeDiff, Bool.and_true, Nat.one_ne_zero, Nat.succ_ne_zero, reduceIte, if_false, List.getElem?_cons_zero, List.set_cons_zero, List.set_cons_succ]
    refine callA_of (heldByteS_c _ vG bs.length 1 oM.sl (by omega)) ?_
    rintro r h12 ⟨rfl, rfl⟩
    have hq : decide (((1 + bs.length : Nat) : Int) < 0) = false := decide_eq_false (by omega)
    simp only [hq, bA.eq, decide_true, strRows_len, go_sem, Hold.p, HoldK.k, HoldL.K, HoldL.body, Nat.reduceBEq, Nat.reduceAdd, List.getElem?_cons_zero, List.getElem?_cons_succ, Option.bind_some, List.map_cons, List.map_nil, Nat.zero_add, if_true, List.getD_cons_zero, List.getD_cons_succ, List.contains_cons, List.contains_nil, Nat.reduceBEq, Bool.or_true, Bool.true_or, Bool.or_false, Bool.false_or, Bool.not_true, Bool.not_false, true_and, and_true, rowA_whole, push_n, set_n, push_obj, set_obj, set_push, set_push_ne, set_set, Nat.add_assoc, Nat.left_eq_add, Nat.add_eq_left, Nat.add_left_cancel_iff, Nat.reduceEqDiff, stO_1s, stO_ws, boxA_s, one_bool, one_int, one_str, one_ptr, one_nilptr, one_slice, one_eslice, one_nilslice, one_func, one_iface, one_niliface, List.all_cons, List.all_nil, List.length_cons, List.length_nil, Nat.reduceLT, Nat.reduceEqDiff, Nat.reduceLeDiff, Bool.and_true, Nat.one_ne_zero, Nat.succ_ne_zero, reduceIte, if_false, List.getElem?_cons_zero, List.set_cons_zero, List.set_cons_succ]
    refine callA_of (toNameReply_c _ id code ttl nm v zs aA.sl hzl) ?_
    rintro r h13 ⟨v13, rfl, o13, hE13⟩
    have bA := bA.ext hE13
    have aA := aA.ext hE13
    have oW := oW.ext hE13
    have oM := oM.ext hE13
    have le_hE13 := hE13.le
    simp only [go_sem, Hold.p, HoldK.k, HoldL.K, HoldL.body, Nat.reduceBEq, Nat.reduceAdd, List.getElem?_cons_zero, List.getElem?_cons_succ, Option.bind_some, List.map_cons, List.map_nil, Nat.zero_add, if_true, List.getD_cons_zero, List.getD_cons_succ, List.contains_cons, List.contains_nil, Nat.reduceBEq, Bool.or_true, Bool.true_or, Bool.or_false, Bool.false_or, Bool.not_true, Bool.not_false, true_and, and_true, rowA_whole, push_n, set_n, push_obj, set_obj, set_push, set_push_ne, set_set, Nat.add_assoc, Nat.left_eq_add, Nat.add_eq_left, Nat.add_left_cancel_iff, Nat.reduceEqDiff, stO_1s, stO_ws, boxA_s, one_bool, one_int, one_str, one_ptr, one_nilptr, one_slice, one_eslice, one_nilslice, one_func, one_iface, one_niliface, List.all_cons, List.all_nil, List.length_cons, List.length_nil, Nat.reduceLT, Nat.reduceEqDiff, Nat.reduceLeDiff, Bool.and_true, Nat.one_ne_zero, Nat.succ_ne_zero, reduceIte, if_false, List.getElem?_cons_zero, List.set_cons_zero, List.set_cons_succ]
    refine callA_of (implEncodeReply_c _ id code ttl nm v13 zs o13.sl hlen hzl) ?_
    rintro r h14 ⟨vH, rfl, oH, hE14⟩
    rw [hfb] at oH
    simp only [hfb] at oH ⊢
    have bA := bA.ext hE14
    have oW := oW.ext hE14
    have oM := oM.ext hE14
    have le_hE14 := hE14.le
    simp only [go_sem, Hold.p, HoldK.k, HoldL.K, HoldL.body, Nat.reduceBEq, Nat.reduceAdd, List.getElem?_cons_zero, List.getElem?_cons_succ, Option.bind_some, List.map_cons, List.map_nil, Nat.zero_add, if_true, List.getD_cons_zero, List.getD_cons_succ, List.contains_cons, List.contains_nil, Nat.reduceBEq, Bool.or_true, Bool.true_or, Bool.or_false, Bool.false_or, Bool.not_true, Bool.not_false, true_and, and_true, rowA_whole, push_n, set_n, push_obj, set_obj, set_push, set_push_ne, set_set, Nat.add_assoc, Nat.left_eq_add, Nat.add_eq_left, Nat.add_left_cancel_iff, Nat.reduceEqDiff, stO_1s, stO_ws, boxA_s, one_bool, one_int, one_str, one_ptr, one_nilptr, one_slice, one_eslice, one_nilslice, one_func, one_iface, one_niliface, List.all_cons, List.all_nil, List.length_cons, List.length_nil, Nat.reduceLT, Nat.reduceEqDiff, Nat.reduceLeDiff, Bool.and_true, Nat.one_ne_zero, Nat.succ_ne_zero, reduceIte, if_false, List.getElem?_cons_zero, List.set_cons_zero, List.set_cons_succ]
    refine callA_of (eqByteS_c _ vH vW bs oH.sl oW.sl (by omega)) ?_
    rintro r h15 ⟨rfl, rfl⟩
    simp only [decide_true, go_sem, Hold.p, HoldK.k, HoldL.K, HoldL.body, Nat.reduceBEq, Nat.reduceAdd, List.getElem?_cons_zero, List.getElem?_cons_succ, Option.bind_some, List.map_cons, List.map_nil, Nat.zero_add, if_true, List.getD_cons_zero, List.getD_cons_succ, List.contains_cons, List.contains_nil, Nat.reduceBEq, Bool.or_true, Bool.true_or, Bool.or_false, Bool.false_or, Bool.not_true, Bool.not_false, true_and, and_true, rowA_whole, push_n, set_n, push_obj, set_obj, set_push, set_push_ne, set_set, Nat.add_assoc, Nat.left_eq_add, Nat.add_eq_left, Nat.add_left_cancel_iff, Nat.reduceEqDiff, stO_1s, stO_ws, boxA_s, one_bool, one_int, one_str, one_ptr, one_nilptr, one_slice, one_eslice, one_nilslice, one_func, one_iface, one_niliface, List.all_cons, List.all_nil, List.length_cons, List.length_nil, Nat.reduceLT, Nat.reduceEqDiff, Nat.reduceLeDiff, Bool.and_true, Nat.one_ne_zero, Nat.succ_ne_zero, reduceIte, if_false, List.getElem?_cons_zero, List.set_cons_zero, List.set_cons_succ]
    refine callA_of (heldByteS_c _ vG bs.length 1 oM.sl (by omega)) ?_
    rintro r h16 ⟨rfl, rfl⟩
    simp only [hq, decide_true, strRows_len, go_sem, Hold.p, HoldK.k, HoldL.K, HoldL.body, Nat.reduceBEq, Nat.reduceAdd, List.getElem?_cons_zero, List.getElem?_cons_succ, Option.bind_some, List.map_cons, List.map_nil, Nat.zero_add, if_true, List.getD_cons_zero, List.getD_cons_succ, List.contains_cons, List.contains_nil, Nat.reduceBEq, Bool.or_true, Bool.true_or, Bool.or_false, Bool.false_or, Bool.not_true, Bool.not_false, true_and, and_true, rowA_whole, push_n, set_n, push_obj, set_obj, set_push, set_push_ne, set_set, Nat.add_assoc, Nat.left_eq_add, Nat.add_eq_left, Nat.add_left_cancel_iff, Nat.reduceEqDiff, stO_1s, stO_ws, boxA_s, one_bool, one_int, one_str, one_ptr, one_nilptr, one_slice, one_eslice, one_nilslice, one_func, one_iface, one_niliface, List.all_cons, List.all_nil, List.length_cons, List.length_nil, Nat.reduceLT, Nat.reduceEqDiff, Nat.reduceLeDiff, Bool.and_true, Nat.one_ne_zero, Nat.succ_ne_zero, reduceIte, if_false, List.getElem?_cons_zero, List.set_cons_zero, List.set_cons_succ]
end Go.Proofs.YtcmcfmgabafljaaDoor

namespace Go.Proofs.YtcmcfmgabafljaaDoor
open Go Go.IW

/-- The numbers of four bytes each from a place on. -/
def wordsAt (bs : List UInt8) (s k : Nat) : List Int := (List.range k).map fun j => numB ((bs.take (s + 4 * j + 4)).drop (s + 4 * j))
theorem wordsAt_succ (bs : List UInt8) (s k : Nat) : wordsAt bs s (k + 1) = wordsAt bs s k ++ [numB ((bs.take (s + 4 * k + 4)).drop (s + 4 * k))] := by
  unfold wordsAt; rw [List.range_succ, List.map_append]; rfl
theorem wordsAt_len (bs : List UInt8) (s k : Nat) : (wordsAt bs s k).length = k := by unfold wordsAt; simp
structure RepV where
  id : Int
  code : Int
  ttl : Int
  nm : List UInt8
  zs : List Int
def RepV.zero : RepV := ⟨0, 0, 0, [], []⟩
def repM (bs : List UInt8) : Nat := (bs.getD 8 0).toNat
def repC (bs : List UInt8) : Nat := (bs.getD (9 + repM bs) 0).toNat
def repAt (bs : List UInt8) : RepV := ⟨numB (bs.take 2), ((bs.getD 3 0).toNat : Int), numB ((bs.take 8).drop 4), (bs.take (9 + repM bs)).drop 9, wordsAt bs (10 + repM bs) (repC bs)⟩
def RepV.ok (x : RepV) : Bool := okRep x.id x.code x.ttl x.nm x.zs
/-- What DecodeReply answers. -/
def decR (bs : List UInt8) : RepV × Int :=
  if bs.length < 10 + repM bs ∨ bs.length < 10 + repM bs + 4 * repC bs then (.zero, 2)
  else if 10 + repM bs + 4 * repC bs < bs.length then (.zero, 5)
  else if bs.getD 2 0 ≠ 1 then (.zero, 9)
  else if okName (repAt bs).nm = false then (.zero, 6)
  else if (repAt bs).ok = true then (repAt bs, 0) else (.zero, 1)
def ReplyRes (h h' : IH) (r : IV) (x : RepV × Int) : Prop := ∃ v, r = .tuple [.agg [.int .i64 x.1.id, .int .i64 x.1.code, .int .i64 x.1.ttl, .str x.1.nm, v], .int .i64 x.2] ∧ Own h.n h'.n h' 2 1 v (intRows x.1.zs) ∧ Ext h h'
theorem getD_big {bs : List UInt8} {k : Nat} (h : bs.length ≤ k) : bs.getD k 0 = 0 := by
  rw [List.getD_eq_getElem?_getD, List.getElem?_eq_none h]; rfl
theorem byte_ne {a b : UInt8} (h : a ≠ b) : (a.toNat : Int) ≠ (b.toNat : Int) := fun e => h (UInt8.toNat_inj.1 (by omega))

set_option maxRecDepth 20000 in
theorem specDecodeReply_c (h : IH) (v : IV) (bs : List UInt8) (hs : SlR h 1 v (strRows bs)) (hl : bs.length ≤ 1048576) : ICalls Tryd.prog 31 [v] h fun r h' => ReplyRes h h' r (decR bs) := by
  refine icalls (.of ok31) (Nat.le_of_ble_eq_true rfl) ?_
  unfold c31
  have hlen := hs.lenF
  rw [strRows_len] at hlen
  have hm := (bs.getD 8 0).toNat_lt
  have hc := (bs.getD (9 + repM bs) 0).toNat_lt
  have hm' : repM bs < 256 := hm
  have hc' : repC bs < 256 := hc
  by_cases c0 : bs.length < 10 + repM bs
  · have hdef : decR bs = (.zero, 2) := if_pos (.inl c0)
    simp only [go_sem, Hold.p, HoldK.k, HoldL.K, HoldL.body, Nat.reduceBEq, Nat.reduceAdd, List.getElem?_cons_zero, List.getElem?_cons_succ, Option.bind_some, List.map_cons, List.map_nil, Nat.zero_add, if_true, List.getD_cons_zero, List.getD_cons_succ, List.contains_cons, List.contains_nil, Nat.reduceBEq, Bool.or_true, Bool.true_or, Bool.or_false, Bool.false_or, Bool.not_true, Bool.not_false, true_and, and_true, rowA_whole, push_n, set_n, push_obj, set_obj, set_push, set_push_ne, set_set, Nat.add_assoc, Nat.left_eq_add, Nat.add_eq_left, Nat.add_left_cancel_iff, Nat.reduceEqDiff, stO_1s, stO_ws, boxA_s, one_bool, one_int, one_str, one_ptr, one_nilptr, one_slice, one_eslice, one_nilslice, one_func, one_iface, one_niliface, List.all_cons, List.all_nil, List.length_cons, List.length_nil, Nat.reduceLT, Nat.reduceEqDiff, Nat.reduceLeDiff, Bool.and_true, Nat.one_ne_zero, Nat.succ_ne_zero, reduceIte, if_false, List.getElem?_cons_zero, List.set_cons_zero, List.set_cons_succ]
    generalize hq_g0 : IH.push h (IObj.rows [[IV.int .i64 0, IV.int .i64 0, IV.int .i64 0, IV.str [], IV.nilslice]] 44 5 false) = g0
    have e_g0 : Ext h g0 := by rw [← hq_g0]; exact (Ext.refl _).push _
    have l_g0 : g0.n = h.n + 1 := by rw [← hq_g0]; rfl
    have bb : At g0 h.n (IObj.rows [[IV.int .i64 0, IV.int .i64 0, IV.int .i64 0, IV.str [], IV.nilslice]] 44 5 false) := by rw [← hq_g0]; exact At.new _ _
    clear hq_g0
    have hs := hs.ext e_g0
    refine callA_of (l19Text_c g0 v bs 8 hs hl (by omega)) ?_
    rintro r g ⟨rfl, rfl⟩
    by_cases c1 : bs.length ≤ 8 ∨ bs.length < 8 + 1 + (bs.getD 8 0).toNat
    · have e1 : textAt bs 8 = ([], -1) := if_pos c1
      have d1 : decide ((-1 : Int) < 0) = true := rfl
      rw [e1]
      simp only [d1, bb.eq, lay_nil, lay_1, lay_w, Option.map_some, go_sem, Hold.p, HoldK.k, HoldL.K, HoldL.body, Nat.reduceBEq, Nat.reduceAdd, List.getElem?_cons_zero, List.getElem?_cons_succ, Option.bind_some, List.map_cons, List.map_nil, Nat.zero_add, if_true, List.getD_cons_zero, List.getD_cons_succ, List.contains_cons, List.contains_nil, Nat.reduceBEq, Bool.or_true, Bool.true_or, Bool.or_false, Bool.false_or, Bool.not_true, Bool.not_false, true_and, and_true, rowA_whole, push_n, set_n, push_obj, set_obj, set_push, set_push_ne, set_set, Nat.add_assoc, Nat.left_eq_add, Nat.add_eq_left, Nat.add_left_cancel_iff, Nat.reduceEqDiff, stO_1s, stO_ws, boxA_s, one_bool, one_int, one_str, one_ptr, one_nilptr, one_slice, one_eslice, one_nilslice, one_func, one_iface, one_niliface, List.all_cons, List.all_nil, List.length_cons, List.length_nil, Nat.reduceLT, Nat.reduceEqDiff, Nat.reduceLeDiff, Bool.and_true, Nat.one_ne_zero, Nat.succ_ne_zero, reduceIte, if_false, List.getElem?_cons_zero, List.set_cons_zero, List.set_cons_succ]
      rw [hdef]
      exact ⟨_, rfl, Own.nil, e_g0.set _ (Nat.le_refl _) _⟩
    · have e1 : textAt bs 8 = ((bs.take (8 + 1 + (bs.getD 8 0).toNat)).drop (8 + 1), ((8 + 1 + (bs.getD 8 0).toNat : Nat) : Int)) := if_neg c1
      rw [e1]
      have d1 : decide (((8 + 1 + (bs.getD 8 0).toNat : Nat) : Int) < 0) = false := decide_eq_false (by omega)
      have d2 : decide ((bs.length : Int) ≤ ((8 + 1 + (bs.getD 8 0).toNat : Nat) : Int)) = true := decide_eq_true (by unfold repM at c0; omega)
      simp only [d1, hlen, d2, bb.eq, lay_nil, lay_1, lay_w, Option.map_some, go_sem, Hold.p, HoldK.k, HoldL.K, HoldL.body, Nat.reduceBEq, Nat.reduceAdd, List.getElem?_cons_zero, List.getElem?_cons_succ, Option.bind_some, List.map_cons, List.map_nil, Nat.zero_add, if_true, List.getD_cons_zero, List.getD_cons_succ, List.contains_cons, List.contains_nil, Nat.reduceBEq, Bool.or_true, Bool.true_or, Bool.or_false, Bool.false_or, Bool.not_true, Bool.not_false, true_and, and_true, rowA_whole, push_n, set_n, push_obj, set_obj, set_push, set_push_ne, set_set, Nat.add_assoc, Nat.left_eq_add, Nat.add_eq_left, Nat.add_left_cancel_iff, Nat.reduceEqDiff, stO_1s, stO_ws, boxA_s, one_bool, one_int, one_str, one_ptr, one_nilptr, one_slice, one_eslice, one_nilslice, one_func, one_iface, one_niliface, List.all_cons, List.all_nil, List.length_cons, List.length_nil, Nat.reduceLT, Nat.reduceEqDiff, Nat.reduceLeDiff, Bool.and_true, Nat.one_ne_zero, Nat.succ_ne_zero, reduceIte, if_false, List.getElem?_cons_zero, List.set_cons_zero, List.set_cons_succ]
      rw [hdef]
      exact ⟨_, rfl, Own.nil, e_g0.set _ (Nat.le_refl _) _⟩
  have e1 : textAt bs 8 = ((bs.take (9 + repM bs)).drop 9, ((9 + repM bs : Nat) : Int)) := by
    refine (if_neg (by unfold repM at c0; omega)).trans ?_
    show (_, (((9 + repM bs : Nat) : Int))) = _
    rfl
  have hkp := getD_at (bs := bs) (k := 9 + repM bs) (by omega)
  have hcd : (bs.getD (9 + repM bs) 0).toNat = repC bs := rfl
  have hnm : (repAt bs).nm = (bs.take (9 + repM bs)).drop 9 := rfl
  have d1 : decide (((9 + repM bs : Nat) : Int) < 0) = false := decide_eq_false (by omega)
  have d2 : decide ((bs.length : Int) ≤ ((9 + repM bs : Nat) : Int)) = false := decide_eq_false (by omega)
  obtain ⟨tot, ht⟩ : ∃ t, t = 10 + repM bs + 4 * repC bs := ⟨_, rfl⟩
  have w1 : wr .i64 (((9 + repM bs : Nat) : Int) + 1) = ((10 + repM bs : Nat) : Int) := by rw [wr64 _ (by omega)]; omega
  have w2 : wr .i64 ((repC bs : Nat) : Int) = ((repC bs : Nat) : Int) := wr64 _ (by omega)
  have w3 : wr .i64 (4 * ((repC bs : Nat) : Int)) = ((4 * repC bs : Nat) : Int) := by rw [wr64 _ (by omega)]; omega
  have w4 : wr .i64 (((10 + repM bs : Nat) : Int) + ((4 * repC bs : Nat) : Int)) = (tot : Int) := by rw [wr64 _ (by omega)]; omega
  by_cases c1 : bs.length < 10 + repM bs + 4 * repC bs
  · have hdef : decR bs = (.zero, 2) := if_pos (.inr c1)
    have d3 : decide ((bs.length : Int) < (tot : Int)) = true := decide_eq_true (by omega)
    simp only [go_sem, Hold.p, HoldK.k, HoldL.K, HoldL.body, Nat.reduceBEq, Nat.reduceAdd, List.getElem?_cons_zero, List.getElem?_cons_succ, Option.bind_some, List.map_cons, List.map_nil, Nat.zero_add, if_true, List.getD_cons_zero, List.getD_cons_succ, List.contains_cons, List.contains_nil, Nat.reduceBEq, Bool.or_true, Bool.true_or, Bool.or_false, Bool.false_or, Bool.not_true, Bool.not_false, true_and, and_true, rowA_whole, push_n, set_n, push_obj, set_obj, set_push, set_push_ne, set_set, Nat.add_assoc, Nat.left_eq_add, Nat.add_eq_left, Nat.add_left_cancel_iff, Nat.reduceEqDiff, stO_1s, stO_ws, boxA_s, one_bool, one_int, one_str, one_ptr, one_nilptr, one_slice, one_eslice, one_nilslice, one_func, one_iface, one_niliface, List.all_cons, List.all_nil, List.length_cons, List.length_nil, Nat.reduceLT, Nat.reduceEqDiff, Nat.reduceLeDiff, Bool.and_true, Nat.one_ne_zero, Nat.succ_ne_zero, reduceIte, if_false, List.getElem?_cons_zero, List.set_cons_zero, List.set_cons_succ]
    generalize hq_g0 : IH.push h (IObj.rows [[IV.int .i64 0, IV.int .i64 0, IV.int .i64 0, IV.str [], IV.nilslice]] 44 5 false) = g0
    have e_g0 : Ext h g0 := by rw [← hq_g0]; exact (Ext.refl _).push _
    have l_g0 : g0.n = h.n + 1 := by rw [← hq_g0]; rfl
    have bb : At g0 h.n (IObj.rows [[IV.int .i64 0, IV.int .i64 0, IV.int .i64 0, IV.str [], IV.nilslice]] 44 5 false) := by rw [← hq_g0]; exact At.new _ _
    clear hq_g0
    have hs := hs.ext e_g0
    refine callA_of (l19Text_c g0 v bs 8 hs hl (by omega)) ?_
    rintro r g ⟨rfl, rfl⟩
    rw [e1]
    obtain ⟨l, j, hia, hll, hrow⟩ := hs.at (m := 9 + repM bs) (strRows_at hkp) .i64
    have hc := cellO_row hrow
    rw [hcd] at hc
    simp only [d1, d2, hlen, w1, hia, hc, w2, w3, w4, d3, bb.eq, lay_nil, lay_1, lay_w, Option.map_some, go_sem, Hold.p, HoldK.k, HoldL.K, HoldL.body, Nat.reduceBEq, Nat.reduceAdd, List.getElem?_cons_zero, List.getElem?_cons_succ, Option.bind_some, List.map_cons, List.map_nil, Nat.zero_add, if_true, List.getD_cons_zero, List.getD_cons_succ, List.contains_cons, List.contains_nil, Nat.reduceBEq, Bool.or_true, Bool.true_or, Bool.or_false, Bool.false_or, Bool.not_true, Bool.not_false, true_and, and_true, rowA_whole, push_n, set_n, push_obj, set_obj, set_push, set_push_ne, set_set, Nat.add_assoc, Nat.left_eq_add, Nat.add_eq_left, Nat.add_left_cancel_iff, Nat.reduceEqDiff, stO_1s, stO_ws, boxA_s, one_bool, one_int, one_str, one_ptr, one_nilptr, one_slice, one_eslice, one_nilslice, one_func, one_iface, one_niliface, List.all_cons, List.all_nil, List.length_cons, List.length_nil, Nat.reduceLT, Nat.reduceEqDiff, Nat.reduceLeDiff, Bool.and_true, Nat.one_ne_zero, Nat.succ_ne_zero, reduceIte, if_false, List.getElem?_cons_zero, List.set_cons_zero, List.set_cons_succ]
    rw [hdef]
    exact ⟨_, rfl, Own.nil, e_g0.set _ (Nat.le_refl _) _⟩
  have d3 : decide ((bs.length : Int) < (tot : Int)) = false := decide_eq_false (by omega)
  by_cases c2 : 10 + repM bs + 4 * repC bs < bs.length
  · have hdef : decR bs = (.zero, 5) := (if_neg (by omega)).trans (if_pos c2)
    have d4 : decide ((tot : Int) < (bs.length : Int)) = true := decide_eq_true (by omega)
    simp only [go_sem, Hold.p, HoldK.k, HoldL.K, HoldL.body, Nat.reduceBEq, Nat.reduceAdd, List.getElem?_cons_zero, List.getElem?_cons_succ, Option.bind_some, List.map_cons, List.map_nil, Nat.zero_add, if_true, List.getD_cons_zero, List.getD_cons_succ, List.contains_cons, List.contains_nil, Nat.reduceBEq, Bool.or_true, Bool.true_or, Bool.or_false, Bool.false_or, Bool.not_true, Bool.not_false, true_and, and_true, rowA_whole, push_n, set_n, push_obj, set_obj, set_push, set_push_ne, set_set, Nat.add_assoc, Nat.left_eq_add, Nat.add_eq_left, Nat.add_left_cancel_iff, Nat.reduceEqDiff, stO_1s, stO_ws, boxA_s, one_bool, one_int, one_str, one_ptr, one_nilptr, one_slice, one_eslice, one_nilslice, one_func, one_iface, one_niliface, List.all_cons, List.all_nil, List.length_cons, List.length_nil, Nat.reduceLT, Nat.reduceEqDiff, Nat.reduceLeDiff, Bool.and_true, Nat.one_ne_zero, Nat.succ_ne_zero, reduceIte, if_false, List.getElem?_cons_zero, List.set_cons_zero, List.set_cons_succ]
    generalize hq_g0 : IH.push h (IObj.rows [[IV.int .i64 0, IV.int .i64 0, IV.int .i64 0, IV.str [], IV.nilslice]] 44 5 false) = g0
    have e_g0 : Ext h g0 := by rw [← hq_g0]; exact (Ext.refl _).push _
    have l_g0 : g0.n = h.n + 1 := by rw [← hq_g0]; rfl
    have bb : At g0 h.n (IObj.rows [[IV.int .i64 0, IV.int .i64 0, IV.int .i64 0, IV.str [], IV.nilslice]] 44 5 false) := by rw [← hq_g0]; exact At.new _ _
    clear hq_g0
    have hs := hs.ext e_g0
    refine callA_of (l19Text_c g0 v bs 8 hs hl (by omega)) ?_
    rintro r g ⟨rfl, rfl⟩
    rw [e1]
    obtain ⟨l, j, hia, hll, hrow⟩ := hs.at (m := 9 + repM bs) (strRows_at hkp) .i64
    have hc := cellO_row hrow
    rw [hcd] at hc
    simp only [d1, d2, hlen, w1, hia, hc, w2, w3, w4, d3, d4, bb.eq, lay_nil, lay_1, lay_w, Option.map_some, go_sem, Hold.p, HoldK.k, HoldL.K, HoldL.body, Nat.reduceBEq, Nat.reduceAdd, List.getElem?_cons_zero, List.getElem?_cons_succ, Option.bind_some, List.map_cons, List.map_nil, Nat.zero_add, if_true, List.getD_cons_zero, List.getD_cons_succ, List.contains_cons, List.contains_nil, Nat.reduceBEq, Bool.or_true, Bool.true_or, Bool.or_false, Bool.false_or, Bool.not_true, Bool.not_false, true_and, and_true, rowA_whole, push_n, set_n, push_obj, set_obj, set_push, set_push_ne, set_set, Nat.add_assoc, Nat.left_eq_add, Nat.add_eq_left, Nat.add_left_cancel_iff, Nat.reduceEqDiff, stO_1s, stO_ws, boxA_s, one_bool, one_int, one_str, one_ptr, one_nilptr, one_slice, one_eslice, one_nilslice, one_func, one_iface, one_niliface, List.all_cons, List.all_nil, List.length_cons, List.length_nil, Nat.reduceLT, Nat.reduceEqDiff, Nat.reduceLeDiff, Bool.and_true, Nat.one_ne_zero, Nat.succ_ne_zero, reduceIte, if_false, List.getElem?_cons_zero, List.set_cons_zero, List.set_cons_succ]
    rw [hdef]
    exact ⟨_, rfl, Own.nil, e_g0.set _ (Nat.le_refl _) _⟩
  have d4 : decide ((tot : Int) < (bs.length : Int)) = false := decide_eq_false (by omega)
  have hdef : decR bs = if bs.getD 2 0 ≠ 1 then (.zero, 9) else if okName (repAt bs).nm = false then (.zero, 6) else if (repAt bs).ok = true then (repAt bs, 0) else (.zero, 1) := (if_neg (by omega)).trans (if_neg c2)
  have hk2 := getD_at (bs := bs) (k := 2) (by omega)
  by_cases c3 : bs.getD 2 0 ≠ 1
  · rw [if_pos c3] at hdef
    have d5 : decide (((bs.getD 2 0).toNat : Int) = 1) = false := decide_eq_false (byte_ne (b := 1) c3)
    simp only [go_sem, Hold.p, HoldK.k, HoldL.K, HoldL.body, Nat.reduceBEq, Nat.reduceAdd, List.getElem?_cons_zero, List.getElem?_cons_succ, Option.bind_some, List.map_cons, List.map_nil, Nat.zero_add, if_true, List.getD_cons_zero, List.getD_cons_succ, List.contains_cons, List.contains_nil, Nat.reduceBEq, Bool.or_true, Bool.true_or, Bool.or_false, Bool.false_or, Bool.not_true, Bool.not_false, true_and, and_true, rowA_whole, push_n, set_n, push_obj, set_obj, set_push, set_push_ne, set_set, Nat.add_assoc, Nat.left_eq_add, Nat.add_eq_left, Nat.add_left_cancel_iff, Nat.reduceEqDiff, stO_1s, stO_ws, boxA_s, one_bool, one_int, one_str, one_ptr, one_nilptr, one_slice, one_eslice, one_nilslice, one_func, one_iface, one_niliface, List.all_cons, List.all_nil, List.length_cons, List.length_nil, Nat.reduceLT, Nat.reduceEqDiff, Nat.reduceLeDiff, Bool.and_true, Nat.one_ne_zero, Nat.succ_ne_zero, reduceIte, if_false, List.getElem?_cons_zero, List.set_cons_zero, List.set_cons_succ]
    generalize hq_g0 : IH.push h (IObj.rows [[IV.int .i64 0, IV.int .i64 0, IV.int .i64 0, IV.str [], IV.nilslice]] 44 5 false) = g0
    have e_g0 : Ext h g0 := by rw [← hq_g0]; exact (Ext.refl _).push _
    have l_g0 : g0.n = h.n + 1 := by rw [← hq_g0]; rfl
    have bb : At g0 h.n (IObj.rows [[IV.int .i64 0, IV.int .i64 0, IV.int .i64 0, IV.str [], IV.nilslice]] 44 5 false) := by rw [← hq_g0]; exact At.new _ _
    clear hq_g0
    have hs := hs.ext e_g0
    refine callA_of (l19Text_c g0 v bs 8 hs hl (by omega)) ?_
    rintro r g ⟨rfl, rfl⟩
    rw [e1]
    obtain ⟨l, j, hia, hll, hrow⟩ := hs.at (m := 9 + repM bs) (strRows_at hkp) .i64
    have hc := cellO_row hrow
    rw [hcd] at hc
    obtain ⟨l2, j2, hia2, hll2, hrow2⟩ := hs.at (m := 2) (strRows_at hk2) .i64
    have hc2 := cellO_row hrow2
    have hia2 : iadrF g 1 v (.int .i64 2) = some (.ptr l2 j2 0) := hia2
    simp only [d1, d2, hlen, w1, hia, hc, w2, w3, w4, d3, d4, hia2, hc2, d5, bb.eq, lay_nil, lay_1, lay_w, Option.map_some, go_sem, Hold.p, HoldK.k, HoldL.K, HoldL.body, Nat.reduceBEq, Nat.reduceAdd, List.getElem?_cons_zero, List.getElem?_cons_succ, Option.bind_some, List.map_cons, List.map_nil, Nat.zero_add, if_true, List.getD_cons_zero, List.getD_cons_succ, List.contains_cons, List.contains_nil, Nat.reduceBEq, Bool.or_true, Bool.true_or, Bool.or_false, Bool.false_or, Bool.not_true, Bool.not_false, true_and, and_true, rowA_whole, push_n, set_n, push_obj, set_obj, set_push, set_push_ne, set_set, Nat.add_assoc, Nat.left_eq_add, Nat.add_eq_left, Nat.add_left_cancel_iff, Nat.reduceEqDiff, stO_1s, stO_ws, boxA_s, one_bool, one_int, one_str, one_ptr, one_nilptr, one_slice, one_eslice, one_nilslice, one_func, one_iface, one_niliface, List.all_cons, List.all_nil, List.length_cons, List.length_nil, Nat.reduceLT, Nat.reduceEqDiff, Nat.reduceLeDiff, Bool.and_true, Nat.one_ne_zero, Nat.succ_ne_zero, reduceIte, if_false, List.getElem?_cons_zero, List.set_cons_zero, List.set_cons_succ]
    rw [hdef]
    exact ⟨_, rfl, Own.nil, e_g0.set _ (Nat.le_refl _) _⟩
  rw [if_neg c3] at hdef
  have c3' : bs.getD 2 0 = 1 := by simpa using c3
  have d5 : decide (((bs.getD 2 0).toNat : Int) = 1) = true := decide_eq_true (by rw [c3']; rfl)
  have hnl : (repAt bs).nm.length ≤ 1048576 := by rw [hnm, List.length_drop, List.length_take]; omega
  refine vc_split 6 (fun e g => okName (repAt bs).nm = true ∧ e 0 = v ∧ e 2 = .ptr h.n 0 0 ∧ e 4 = .str (repAt bs).nm ∧ e 5 = .int .i64 ((9 + repM bs : Nat) : Int) ∧ At g h.n (IObj.rows [[IV.int .i64 0, IV.int .i64 0, IV.int .i64 0, IV.str [], IV.nilslice]] 44 5 false) ∧ SlR g 1 v (strRows bs) ∧ Ext h g) ?_ ?_
  · simp only [CC.split]
    simp only [go_sem, Hold.p, HoldK.k, HoldL.K, HoldL.body, Nat.reduceBEq, Nat.reduceAdd, List.getElem?_cons_zero, List.getElem?_cons_succ, Option.bind_some, List.map_cons, List.map_nil, Nat.zero_add, if_true, List.getD_cons_zero, List.getD_cons_succ, List.contains_cons, List.contains_nil, Nat.reduceBEq, Bool.or_true, Bool.true_or, Bool.or_false, Bool.false_or, Bool.not_true, Bool.not_false, true_and, and_true, rowA_whole, push_n, set_n, push_obj, set_obj, set_push, set_push_ne, set_set, Nat.add_assoc, Nat.left_eq_add, Nat.add_eq_left, Nat.add_left_cancel_iff, Nat.reduceEqDiff, stO_1s, stO_ws, boxA_s, one_bool, one_int, one_str, one_ptr, one_nilptr, one_slice, one_eslice, one_nilslice, one_func, one_iface, one_niliface, List.all_cons, List.all_nil, List.length_cons, List.length_nil, Nat.reduceLT, Nat.reduceEqDiff, Nat.reduceLeDiff, Bool.and_true, Nat.one_ne_zero, Nat.succ_ne_zero, reduceIte, if_false, List.getElem?_cons_zero, List.set_cons_zero, List.set_cons_succ]
    generalize hq_g0 : IH.push h (IObj.rows [[IV.int .i64 0, IV.int .i64 0, IV.int .i64 0, IV.str [], IV.nilslice]] 44 5 false) = g0
    have e_g0 : Ext h g0 := by rw [← hq_g0]; exact (Ext.refl _).push _
    have l_g0 : g0.n = h.n + 1 := by rw [← hq_g0]; rfl
    have bb : At g0 h.n (IObj.rows [[IV.int .i64 0, IV.int .i64 0, IV.int .i64 0, IV.str [], IV.nilslice]] 44 5 false) := by rw [← hq_g0]; exact At.new _ _
    clear hq_g0
    have hs := hs.ext e_g0
    refine callA_of (l19Text_c g0 v bs 8 hs hl (by omega)) ?_
    rintro r g ⟨rfl, rfl⟩
    rw [e1]
    obtain ⟨l, j, hia, hll, hrow⟩ := hs.at (m := 9 + repM bs) (strRows_at hkp) .i64
    have hc := cellO_row hrow
    rw [hcd] at hc
    obtain ⟨l2, j2, hia2, hll2, hrow2⟩ := hs.at (m := 2) (strRows_at hk2) .i64
    have hc2 := cellO_row hrow2
    have hia2 : iadrF g 1 v (.int .i64 2) = some (.ptr l2 j2 0) := hia2
    simp only [d1, d2, hlen, w1, hia, hc, w2, w3, w4, d3, d4, hia2, hc2, d5, bb.eq, lay_nil, lay_1, lay_w, Option.map_some, go_sem, Hold.p, HoldK.k, HoldL.K, HoldL.body, Nat.reduceBEq, Nat.reduceAdd, List.getElem?_cons_zero, List.getElem?_cons_succ, Option.bind_some, List.map_cons, List.map_nil, Nat.zero_add, if_true, List.getD_cons_zero, List.getD_cons_succ, List.contains_cons, List.contains_nil, Nat.reduceBEq, Bool.or_true, Bool.true_or, Bool.or_false, Bool.false_or, Bool.not_true, Bool.not_false, true_and, and_true, rowA_whole, push_n, set_n, push_obj, set_obj, set_push, set_push_ne, set_set, Nat.add_assoc, Nat.left_eq_add, Nat.add_eq_left, Nat.add_left_cancel_iff, Nat.reduceEqDiff, stO_1s, stO_ws, boxA_s, one_bool, one_int, one_str, one_ptr, one_nilptr, one_slice, one_eslice, one_nilslice, one_func, one_iface, one_niliface, List.all_cons, List.all_nil, List.length_cons, List.length_nil, Nat.reduceLT, Nat.reduceEqDiff, Nat.reduceLeDiff, Bool.and_true, Nat.one_ne_zero, Nat.succ_ne_zero, reduceIte, if_false, List.getElem?_cons_zero, List.set_cons_zero, List.set_cons_succ]
    rw [← hnm]
    refine callA_of (specNameOK_c g _ hnl) ?_
    rintro r h1 ⟨rfl, E1⟩
    have bb := bb.ext E1
    have hs := hs.ext E1
    have le_E1 := E1.le
    have E := e_g0.trans E1
    cases c4 : okName (repAt bs).nm
    · rw [c4, if_pos rfl] at hdef
      simp only [c4, bb.eq, lay_nil, lay_1, lay_w, Option.map_some, go_sem, Hold.p, HoldK.k, HoldL.K, HoldL.body, Nat.reduceBEq, Nat.reduceAdd, List.getElem?_cons_zero, List.getElem?_cons_succ, Option.bind_some, List.map_cons, List.map_nil, Nat.zero_add, if_true, List.getD_cons_zero, List.getD_cons_succ, List.contains_cons, List.contains_nil, Nat.reduceBEq, Bool.or_true, Bool.true_or, Bool.or_false, Bool.false_or, Bool.not_true, Bool.not_false, true_and, and_true, rowA_whole, push_n, set_n, push_obj, set_obj, set_push, set_push_ne, set_set, Nat.add_assoc, Nat.left_eq_add, Nat.add_eq_left, Nat.add_left_cancel_iff, Nat.reduceEqDiff, stO_1s, stO_ws, boxA_s, one_bool, one_int, one_str, one_ptr, one_nilptr, one_slice, one_eslice, one_nilslice, one_func, one_iface, one_niliface, List.all_cons, List.all_nil, List.length_cons, List.length_nil, Nat.reduceLT, Nat.reduceEqDiff, Nat.reduceLeDiff, Bool.and_true, Nat.one_ne_zero, Nat.succ_ne_zero, reduceIte, if_false, List.getElem?_cons_zero, List.set_cons_zero, List.set_cons_succ]
      rw [hdef]
      exact ⟨_, rfl, Own.nil, E.set _ (Nat.le_refl _) _⟩
    · simp only [c4, bb.eq, lay_nil, lay_1, lay_w, Option.map_some, go_sem, Hold.p, HoldK.k, HoldL.K, HoldL.body, Nat.reduceBEq, Nat.reduceAdd, List.getElem?_cons_zero, List.getElem?_cons_succ, Option.bind_some, List.map_cons, List.map_nil, Nat.zero_add, if_true, List.getD_cons_zero, List.getD_cons_succ, List.contains_cons, List.contains_nil, Nat.reduceBEq, Bool.or_true, Bool.true_or, Bool.or_false, Bool.false_or, Bool.not_true, Bool.not_false, true_and, and_true, rowA_whole, push_n, set_n, push_obj, set_obj, set_push, set_push_ne, set_set, Nat.add_assoc, Nat.left_eq_add, Nat.add_eq_left, Nat.add_left_cancel_iff, Nat.reduceEqDiff, stO_1s, stO_ws, boxA_s, one_bool, one_int, one_str, one_ptr, one_nilptr, one_slice, one_eslice, one_nilslice, one_func, one_iface, one_niliface, List.all_cons, List.all_nil, List.length_cons, List.length_nil, Nat.reduceLT, Nat.reduceEqDiff, Nat.reduceLeDiff, Bool.and_true, Nat.one_ne_zero, Nat.succ_ne_zero, reduceIte, if_false, List.getElem?_cons_zero, List.set_cons_zero, List.set_cons_succ]
      exact ⟨bb, hs, E⟩
  simp only [CC.split]
  rintro e g ⟨c4, i0, i2, i4, i5, bb, hs, E⟩
  have lb := bb.lt
  rw [c4, if_neg (by decide)] at hdef
  refine vc_cut (fun e g' => ∃ q, g.n = q ∧ e 0 = v ∧ e 2 = .ptr h.n 0 0 ∧ e 5 = .int .i64 ((9 + repM bs : Nat) : Int) ∧ e 6 = .ptr q 0 0 ∧ At g' q (IObj.rows [[IV.int .i64 (repAt bs).id, IV.int .i64 (repAt bs).code, IV.int .i64 (repAt bs).ttl, IV.str (repAt bs).nm, IV.nilslice]] 44 5 false) ∧ g'.n = q + 1 ∧ Ext g g') ?_ ?_
  · obtain ⟨v1, hv1, hs1⟩ := hs.hi (b := 2) (q := .i64) (by rw [strRows_len]; omega)
    rw [strRows_take] at hs1
    have hv1 : slcF g 1 v none (some (.int .i64 2)) = some v1 := hv1
    obtain ⟨v2, hv2, hs2⟩ := hs.lohi (a := 4) (b := 8) (q := .i64) (q' := .i64) (by omega) (by rw [strRows_len]; omega)
    rw [strRows_take, strRows_drop] at hs2
    have hv2 : slcF g 1 v (some (.int .i64 4)) (some (.int .i64 8)) = some v2 := hv2
    have hk3 := getD_at (bs := bs) (k := 3) (by omega)
    obtain ⟨l3, j3, hia3, hll3, hrow3⟩ := hs.at (m := 3) (strRows_at hk3) .i64
    have hc3 := cellO_row hrow3
    have hia3 : iadrF g 1 v (.int .i64 3) = some (.ptr l3 j3 0) := hia3
    have hb3 := (bs.getD 3 0).toNat_lt
    have w5 : wr .i64 (((bs.getD 3 0).toNat : Nat) : Int) = (((bs.getD 3 0).toNat : Nat) : Int) := wr64 _ (by omega)
    simp only [i0, i2, i4, i5, hv1, hv2, hia3, hc3, w5, Option.map_some, Option.map_none, lay_nil, lay_1, lay_w, Option.map_some, go_sem, Hold.p, HoldK.k, HoldL.K, HoldL.body, Nat.reduceBEq, Nat.reduceAdd, List.getElem?_cons_zero, List.getElem?_cons_succ, Option.bind_some, List.map_cons, List.map_nil, Nat.zero_add, if_true, List.getD_cons_zero, List.getD_cons_succ, List.contains_cons, List.contains_nil, Nat.reduceBEq, Bool.or_true, Bool.true_or, Bool.or_false, Bool.false_or, Bool.not_true, Bool.not_false, true_and, and_true, rowA_whole, push_n, set_n, push_obj, set_obj, set_push, set_push_ne, set_set, Nat.add_assoc, Nat.left_eq_add, Nat.add_eq_left, Nat.add_left_cancel_iff, Nat.reduceEqDiff, stO_1s, stO_ws, boxA_s, one_bool, one_int, one_str, one_ptr, one_nilptr, one_slice, one_eslice, one_nilslice, one_func, one_iface, one_niliface, List.all_cons, List.all_nil, List.length_cons, List.length_nil, Nat.reduceLT, Nat.reduceEqDiff, Nat.reduceLeDiff, Bool.and_true, Nat.one_ne_zero, Nat.succ_ne_zero, reduceIte, if_false, List.getElem?_cons_zero, List.set_cons_zero, List.set_cons_succ]
    have e0 : Ext g (g.push (IObj.rows [[IV.int .i64 0, IV.int .i64 0, IV.int .i64 0, IV.str [], IV.nilslice]] 44 5 false)) := (Ext.refl _).push _
    have hv1g := (slcF_ext hs e0 none (some (.int .i64 2))).trans hv1
    have hv2g := (slcF_ext hs e0 (some (.int .i64 4)) (some (.int .i64 8))).trans hv2
    have hia3g := (iadrF_ext hs e0 (.int .i64 3)).trans hia3
    have n3 : (l3 = g.n) = False := by simp; omega
    refine either_of ?_ ?_
    · try simp only [i0, i2, i4, i5, hv1, hv2, hia3, hc3, w5, Option.map_some, Option.map_none, lay_nil, lay_1, lay_w, Option.map_some, go_sem, Hold.p, HoldK.k, HoldL.K, HoldL.body, Nat.reduceBEq, Nat.reduceAdd, List.getElem?_cons_zero, List.getElem?_cons_succ, Option.bind_some, List.map_cons, List.map_nil, Nat.zero_add, if_true, List.getD_cons_zero, List.getD_cons_succ, List.contains_cons, List.contains_nil, Nat.reduceBEq, Bool.or_true, Bool.true_or, Bool.or_false, Bool.false_or, Bool.not_true, Bool.not_false, true_and, and_true, rowA_whole, push_n, set_n, push_obj, set_obj, set_push, set_push_ne, set_set, Nat.add_assoc, Nat.left_eq_add, Nat.add_eq_left, Nat.add_left_cancel_iff, Nat.reduceEqDiff, stO_1s, stO_ws, boxA_s, one_bool, one_int, one_str, one_ptr, one_nilptr, one_slice, one_eslice, one_nilslice, one_func, one_iface, one_niliface, List.all_cons, List.all_nil, List.length_cons, List.length_nil, Nat.reduceLT, Nat.reduceEqDiff, Nat.reduceLeDiff, Bool.and_true, Nat.one_ne_zero, Nat.succ_ne_zero, reduceIte, if_false, List.getElem?_cons_zero, List.set_cons_zero, List.set_cons_succ]
      refine callA_of (l03Num_c g v1 _ hs1 (by simp; omega)) ?_
      rintro r g2 ⟨rfl, rfl⟩
      simp only [i0, i2, i4, i5, hv1, hv2, hia3, hc3, w5, Option.map_some, Option.map_none, lay_nil, lay_1, lay_w, Option.map_some, go_sem, Hold.p, HoldK.k, HoldL.K, HoldL.body, Nat.reduceBEq, Nat.reduceAdd, List.getElem?_cons_zero, List.getElem?_cons_succ, Option.bind_some, List.map_cons, List.map_nil, Nat.zero_add, if_true, List.getD_cons_zero, List.getD_cons_succ, List.contains_cons, List.contains_nil, Nat.reduceBEq, Bool.or_true, Bool.true_or, Bool.or_false, Bool.false_or, Bool.not_true, Bool.not_false, true_and, and_true, rowA_whole, push_n, set_n, push_obj, set_obj, set_push, set_push_ne, set_set, Nat.add_assoc, Nat.left_eq_add, Nat.add_eq_left, Nat.add_left_cancel_iff, Nat.reduceEqDiff, stO_1s, stO_ws, boxA_s, one_bool, one_int, one_str, one_ptr, one_nilptr, one_slice, one_eslice, one_nilslice, one_func, one_iface, one_niliface, List.all_cons, List.all_nil, List.length_cons, List.length_nil, Nat.reduceLT, Nat.reduceEqDiff, Nat.reduceLeDiff, Bool.and_true, Nat.one_ne_zero, Nat.succ_ne_zero, reduceIte, if_false, List.getElem?_cons_zero, List.set_cons_zero, List.set_cons_succ]
      refine either_of ?_ ?_
      · simp only [i0, i2, i4, i5, hv1, hv2, hia3, hc3, w5, Option.map_some, Option.map_none, lay_nil, lay_1, lay_w, Option.map_some, go_sem, Hold.p, HoldK.k, HoldL.K, HoldL.body, Nat.reduceBEq, Nat.reduceAdd, List.getElem?_cons_zero, List.getElem?_cons_succ, Option.bind_some, List.map_cons, List.map_nil, Nat.zero_add, if_true, List.getD_cons_zero, List.getD_cons_succ, List.contains_cons, List.contains_nil, Nat.reduceBEq, Bool.or_true, Bool.true_or, Bool.or_false, Bool.false_or, Bool.not_true, Bool.not_false, true_and, and_true, rowA_whole, push_n, set_n, push_obj, set_obj, set_push, set_push_ne, set_set, Nat.add_assoc, Nat.left_eq_add, Nat.add_eq_left, Nat.add_left_cancel_iff, Nat.reduceEqDiff, stO_1s, stO_ws, boxA_s, one_bool, one_int, one_str, one_ptr, one_nilptr, one_slice, one_eslice, one_nilslice, one_func, one_iface, one_niliface, List.all_cons, List.all_nil, List.length_cons, List.length_nil, Nat.reduceLT, Nat.reduceEqDiff, Nat.reduceLeDiff, Bool.and_true, Nat.one_ne_zero, Nat.succ_ne_zero, reduceIte, if_false, List.getElem?_cons_zero, List.set_cons_zero, List.set_cons_succ]
        refine callA_of (l03Num_c _ v2 _ hs2 (by simp; omega)) ?_
        rintro r g2 ⟨rfl, rfl⟩
        simp only [i0, i2, i4, i5, hv1, hv2, hv1g, hv2g, hia3g, n3, hia3, hc3, w5, Option.map_some, Option.map_none, lay_nil, lay_1, lay_w, Option.map_some, go_sem, Hold.p, HoldK.k, HoldL.K, HoldL.body, Nat.reduceBEq, Nat.reduceAdd, List.getElem?_cons_zero, List.getElem?_cons_succ, Option.bind_some, List.map_cons, List.map_nil, Nat.zero_add, if_true, List.getD_cons_zero, List.getD_cons_succ, List.contains_cons, List.contains_nil, Nat.reduceBEq, Bool.or_true, Bool.true_or, Bool.or_false, Bool.false_or, Bool.not_true, Bool.not_false, true_and, and_true, rowA_whole, push_n, set_n, push_obj, set_obj, set_push, set_push_ne, set_set, Nat.add_assoc, Nat.left_eq_add, Nat.add_eq_left, Nat.add_left_cancel_iff, Nat.reduceEqDiff, stO_1s, stO_ws, boxA_s, one_bool, one_int, one_str, one_ptr, one_nilptr, one_slice, one_eslice, one_nilslice, one_func, one_iface, one_niliface, List.all_cons, List.all_nil, List.length_cons, List.length_nil, Nat.reduceLT, Nat.reduceEqDiff, Nat.reduceLeDiff, Bool.and_true, Nat.one_ne_zero, Nat.succ_ne_zero, reduceIte, if_false, List.getElem?_cons_zero, List.set_cons_zero, List.set_cons_succ]
        exact ⟨_, rfl, rfl, At.new _ _, rfl, (Ext.refl _).push _⟩
      · simp only [i0, i2, i4, i5, hv1, hv2, hv1g, hv2g, hia3g, n3, hia3, hc3, w5, Option.map_some, Option.map_none, lay_nil, lay_1, lay_w, Option.map_some, go_sem, Hold.p, HoldK.k, HoldL.K, HoldL.body, Nat.reduceBEq, Nat.reduceAdd, List.getElem?_cons_zero, List.getElem?_cons_succ, Option.bind_some, List.map_cons, List.map_nil, Nat.zero_add, if_true, List.getD_cons_zero, List.getD_cons_succ, List.contains_cons, List.contains_nil, Nat.reduceBEq, Bool.or_true, Bool.true_or, Bool.or_false, Bool.false_or, Bool.not_true, Bool.not_false, true_and, and_true, rowA_whole, push_n, set_n, push_obj, set_obj, set_push, set_push_ne, set_set, Nat.add_assoc, Nat.left_eq_add, Nat.add_eq_left, Nat.add_left_cancel_iff, Nat.reduceEqDiff, stO_1s, stO_ws, boxA_s, one_bool, one_int, one_str, one_ptr, one_nilptr, one_slice, one_eslice, one_nilslice, one_func, one_iface, one_niliface, List.all_cons, List.all_nil, List.length_cons, List.length_nil, Nat.reduceLT, Nat.reduceEqDiff, Nat.reduceLeDiff, Bool.and_true, Nat.one_ne_zero, Nat.succ_ne_zero, reduceIte, if_false, List.getElem?_cons_zero, List.set_cons_zero, List.set_cons_succ]
        refine callA_of (l03Num_c _ v2 _ (hs2.ext e0) (by simp; omega)) ?_
        rintro r g3 ⟨rfl, rfl⟩
        simp only [i0, i2, i4, i5, hv1, hv2, hv1g, hv2g, hia3g, n3, hia3, hc3, w5, Option.map_some, Option.map_none, lay_nil, lay_1, lay_w, Option.map_some, go_sem, Hold.p, HoldK.k, HoldL.K, HoldL.body, Nat.reduceBEq, Nat.reduceAdd, List.getElem?_cons_zero, List.getElem?_cons_succ, Option.bind_some, List.map_cons, List.map_nil, Nat.zero_add, if_true, List.getD_cons_zero, List.getD_cons_succ, List.contains_cons, List.contains_nil, Nat.reduceBEq, Bool.or_true, Bool.true_or, Bool.or_false, Bool.false_or, Bool.not_true, Bool.not_false, true_and, and_true, rowA_whole, push_n, set_n, push_obj, set_obj, set_push, set_push_ne, set_set, Nat.add_assoc, Nat.left_eq_add, Nat.add_eq_left, Nat.add_left_cancel_iff, Nat.reduceEqDiff, stO_1s, stO_ws, boxA_s, one_bool, one_int, one_str, one_ptr, one_nilptr, one_slice, one_eslice, one_nilslice, one_func, one_iface, one_niliface, List.all_cons, List.all_nil, List.length_cons, List.length_nil, Nat.reduceLT, Nat.reduceEqDiff, Nat.reduceLeDiff, Bool.and_true, Nat.one_ne_zero, Nat.succ_ne_zero, reduceIte, if_false, List.getElem?_cons_zero, List.set_cons_zero, List.set_cons_succ]
        exact ⟨_, rfl, rfl, At.new _ _, rfl, (Ext.refl _).push _⟩
    · simp only [i0, i2, i4, i5, hv1, hv2, hv1g, hv2g, hia3g, n3, hia3, hc3, w5, Option.map_some, Option.map_none, lay_nil, lay_1, lay_w, Option.map_some, go_sem, Hold.p, HoldK.k, HoldL.K, HoldL.body, Nat.reduceBEq, Nat.reduceAdd, List.getElem?_cons_zero, List.getElem?_cons_succ, Option.bind_some, List.map_cons, List.map_nil, Nat.zero_add, if_true, List.getD_cons_zero, List.getD_cons_succ, List.contains_cons, List.contains_nil, Nat.reduceBEq, Bool.or_true, Bool.true_or, Bool.or_false, Bool.false_or, Bool.not_true, Bool.not_false, true_and, and_true, rowA_whole, push_n, set_n, push_obj, set_obj, set_push, set_push_ne, set_set, Nat.add_assoc, Nat.left_eq_add, Nat.add_eq_left, Nat.add_left_cancel_iff, Nat.reduceEqDiff, stO_1s, stO_ws, boxA_s, one_bool, one_int, one_str, one_ptr, one_nilptr, one_slice, one_eslice, one_nilslice, one_func, one_iface, one_niliface, List.all_cons, List.all_nil, List.length_cons, List.length_nil, Nat.reduceLT, Nat.reduceEqDiff, Nat.reduceLeDiff, Bool.and_true, Nat.one_ne_zero, Nat.succ_ne_zero, reduceIte, if_false, List.getElem?_cons_zero, List.set_cons_zero, List.set_cons_succ]
      refine callA_of (l03Num_c _ v1 _ (hs1.ext e0) (by simp; omega)) ?_
      rintro r g2 ⟨rfl, rfl⟩
      simp only [i0, i2, i4, i5, hv1, hv2, hv1g, hv2g, hia3g, n3, hia3, hc3, w5, Option.map_some, Option.map_none, lay_nil, lay_1, lay_w, Option.map_some, go_sem, Hold.p, HoldK.k, HoldL.K, HoldL.body, Nat.reduceBEq, Nat.reduceAdd, List.getElem?_cons_zero, List.getElem?_cons_succ, Option.bind_some, List.map_cons, List.map_nil, Nat.zero_add, if_true, List.getD_cons_zero, List.getD_cons_succ, List.contains_cons, List.contains_nil, Nat.reduceBEq, Bool.or_true, Bool.true_or, Bool.or_false, Bool.false_or, Bool.not_true, Bool.not_false, true_and, and_true, rowA_whole, push_n, set_n, push_obj, set_obj, set_push, set_push_ne, set_set, Nat.add_assoc, Nat.left_eq_add, Nat.add_eq_left, Nat.add_left_cancel_iff, Nat.reduceEqDiff, stO_1s, stO_ws, boxA_s, one_bool, one_int, one_str, one_ptr, one_nilptr, one_slice, one_eslice, one_nilslice, one_func, one_iface, one_niliface, List.all_cons, List.all_nil, List.length_cons, List.length_nil, Nat.reduceLT, Nat.reduceEqDiff, Nat.reduceLeDiff, Bool.and_true, Nat.one_ne_zero, Nat.succ_ne_zero, reduceIte, if_false, List.getElem?_cons_zero, List.set_cons_zero, List.set_cons_succ]
      refine callA_of (l03Num_c _ v2 _ (hs2.ext e0) (by simp; omega)) ?_
      rintro r g3 ⟨rfl, rfl⟩
      simp only [i0, i2, i4, i5, hv1, hv2, hv1g, hv2g, hia3g, n3, hia3, hc3, w5, Option.map_some, Option.map_none, lay_nil, lay_1, lay_w, Option.map_some, go_sem, Hold.p, HoldK.k, HoldL.K, HoldL.body, Nat.reduceBEq, Nat.reduceAdd, List.getElem?_cons_zero, List.getElem?_cons_succ, Option.bind_some, List.map_cons, List.map_nil, Nat.zero_add, if_true, List.getD_cons_zero, List.getD_cons_succ, List.contains_cons, List.contains_nil, Nat.reduceBEq, Bool.or_true, Bool.true_or, Bool.or_false, Bool.false_or, Bool.not_true, Bool.not_false, true_and, and_true, rowA_whole, push_n, set_n, push_obj, set_obj, set_push, set_push_ne, set_set, Nat.add_assoc, Nat.left_eq_add, Nat.add_eq_left, Nat.add_left_cancel_iff, Nat.reduceEqDiff, stO_1s, stO_ws, boxA_s, one_bool, one_int, one_str, one_ptr, one_nilptr, one_slice, one_eslice, one_nilslice, one_func, one_iface, one_niliface, List.all_cons, List.all_nil, List.length_cons, List.length_nil, Nat.reduceLT, Nat.reduceEqDiff, Nat.reduceLeDiff, Bool.and_true, Nat.one_ne_zero, Nat.succ_ne_zero, reduceIte, if_false, List.getElem?_cons_zero, List.set_cons_zero, List.set_cons_succ]
      exact ⟨_, rfl, rfl, At.new _ _, rfl, (Ext.refl _).push _⟩
  clear i0 i2 i4 i5
  rintro e g1 ⟨q, hgq, i0, i2, i5, i6, bq, l1, E1⟩
  have RD : decR bs = if (repAt bs).ok = true then (repAt bs, 0) else (.zero, 1) := hdef
  have hzz : (repAt bs).zs = wordsAt bs (10 + repM bs) (repC bs) := rfl
  have hsB := hs
  have bbB := bb
  have hs1 := hsB.ext E1
  obtain ⟨st, hst⟩ : ∃ st, st = 10 + repM bs := ⟨_, rfl⟩
  rw [← hst] at w1 hzz
  rw [← hst] at ht c0
  have loopI : True := trivial
  simp only [i5, w1, go_sem, Hold.p, HoldK.k, HoldL.K, HoldL.body, Nat.reduceBEq, Nat.reduceAdd, List.getElem?_cons_zero, List.getElem?_cons_succ, Option.bind_some, List.map_cons, List.map_nil, Nat.zero_add, if_true, List.getD_cons_zero, List.getD_cons_succ, List.contains_cons, List.contains_nil, Nat.reduceBEq, Bool.or_true, Bool.true_or, Bool.or_false, Bool.false_or, Bool.not_true, Bool.not_false, true_and, and_true, rowA_whole, push_n, set_n, push_obj, set_obj, set_push, set_push_ne, set_set, Nat.add_assoc, Nat.left_eq_add, Nat.add_eq_left, Nat.add_left_cancel_iff, Nat.reduceEqDiff, stO_1s, stO_ws, boxA_s, one_bool, one_int, one_str, one_ptr, one_nilptr, one_slice, one_eslice, one_nilslice, one_func, one_iface, one_niliface, List.all_cons, List.all_nil, List.length_cons, List.length_nil, Nat.reduceLT, Nat.reduceEqDiff, Nat.reduceLeDiff, Bool.and_true, Nat.one_ne_zero, Nat.succ_ne_zero, reduceIte, if_false, List.getElem?_cons_zero, List.set_cons_zero, List.set_cons_succ]
  refine loop_at (fun n e g' => ∃ (k : Nat) (vz : IV) (lo hi : Nat), n = repC bs - k ∧ k ≤ repC bs ∧ e 0 = v ∧ e 2 = .ptr h.n 0 0 ∧ e 6 = .ptr q 0 0 ∧ e 7 = .int .i64 ((st + 4 * k : Nat) : Int) ∧ At g' q (IObj.rows [[IV.int .i64 (repAt bs).id, IV.int .i64 (repAt bs).code, IV.int .i64 (repAt bs).ttl, IV.str (repAt bs).nm, vz]] 44 5 false) ∧ Own lo hi g' 2 1 vz (intRows (wordsAt bs st k)) ∧ q < lo ∧ hi ≤ g'.n ∧ Ext g g') (repC bs) ?_ ?_
  · refine ⟨0, .nilslice, q + 1, q + 1, by omega, by omega, ?_⟩
    simp only [i0, i2, i6, go_sem, Hold.p, HoldK.k, HoldL.K, HoldL.body, Nat.reduceBEq, Nat.reduceAdd, List.getElem?_cons_zero, List.getElem?_cons_succ, Option.bind_some, List.map_cons, List.map_nil, Nat.zero_add, if_true, List.getD_cons_zero, List.getD_cons_succ, List.contains_cons, List.contains_nil, Nat.reduceBEq, Bool.or_true, Bool.true_or, Bool.or_false, Bool.false_or, Bool.not_true, Bool.not_false, true_and, and_true, rowA_whole, push_n, set_n, push_obj, set_obj, set_push, set_push_ne, set_set, Nat.add_assoc, Nat.left_eq_add, Nat.add_eq_left, Nat.add_left_cancel_iff, Nat.reduceEqDiff, stO_1s, stO_ws, boxA_s, one_bool, one_int, one_str, one_ptr, one_nilptr, one_slice, one_eslice, one_nilslice, one_func, one_iface, one_niliface, List.all_cons, List.all_nil, List.length_cons, List.length_nil, Nat.reduceLT, Nat.reduceEqDiff, Nat.reduceLeDiff, Bool.and_true, Nat.one_ne_zero, Nat.succ_ne_zero, reduceIte, if_false, List.getElem?_cons_zero, List.set_cons_zero, List.set_cons_succ]
    exact ⟨rfl, bq, Own.nil, Nat.lt_succ_self _, by omega, E1⟩
  · clear i0 i2 i5 i6 bq l1 E1 hs1
    rintro n e g' ⟨k, vz, lo, hi, rfl, hk, i0, i2, i6, i7, bq, oz, hlo, hhi, E1⟩
    have hs1 := hsB.ext E1
    have bb := bbB.ext E1
    have lg := E1.le
    have lq := bq.lt
    simp only [i0, i2, i6, i7, hlen, bb.eq, bq.eq, go_sem, Hold.p, HoldK.k, HoldL.K, HoldL.body, Nat.reduceBEq, Nat.reduceAdd, List.getElem?_cons_zero, List.getElem?_cons_succ, Option.bind_some, List.map_cons, List.map_nil, Nat.zero_add, if_true, List.getD_cons_zero, List.getD_cons_succ, List.contains_cons, List.contains_nil, Nat.reduceBEq, Bool.or_true, Bool.true_or, Bool.or_false, Bool.false_or, Bool.not_true, Bool.not_false, true_and, and_true, rowA_whole, push_n, set_n, push_obj, set_obj, set_push, set_push_ne, set_set, Nat.add_assoc, Nat.left_eq_add, Nat.add_eq_left, Nat.add_left_cancel_iff, Nat.reduceEqDiff, stO_1s, stO_ws, boxA_s, one_bool, one_int, one_str, one_ptr, one_nilptr, one_slice, one_eslice, one_nilslice, one_func, one_iface, one_niliface, List.all_cons, List.all_nil, List.length_cons, List.length_nil, Nat.reduceLT, Nat.reduceEqDiff, Nat.reduceLeDiff, Bool.and_true, Nat.one_ne_zero, Nat.succ_ne_zero, reduceIte, if_false, List.getElem?_cons_zero, List.set_cons_zero, List.set_cons_succ]
    refine test_dec (fun hb => ?_) (fun hb => ?_)
    · have hlt : k < repC bs := by omega
      have w6 : wr .i64 (((st + 4 * k : Nat) : Int) + 4) = ((st + 4 * k + 4 : Nat) : Int) := by rw [wr64 _ (by omega)]; omega
      obtain ⟨a0, ha0⟩ : ∃ a, a = st + 4 * k := ⟨_, rfl⟩
      obtain ⟨a4, ha4⟩ : ∃ a, a = st + 4 * k + 4 := ⟨_, rfl⟩
      rw [← ha4, ← ha0] at w6
      rw [← ha0] at i7
      obtain ⟨v1, hv1, hs2⟩ := hs1.lohi (a := a0) (b := a4) (q := .i64) (q' := .i64) (by omega) (by rw [strRows_len]; omega)
      rw [strRows_take, strRows_drop] at hs2
      have hvg := (slcF_ext hsB E1 (some (.int .i64 a0)) (some (.int .i64 a4))).symm.trans hv1
      simp only [i0, i2, i6, i7, hlen, bb.eq, bq.eq, w6, hv1, Option.map_some, Option.map_none, go_sem, Hold.p, HoldK.k, HoldL.K, HoldL.body, Nat.reduceBEq, Nat.reduceAdd, List.getElem?_cons_zero, List.getElem?_cons_succ, Option.bind_some, List.map_cons, List.map_nil, Nat.zero_add, if_true, List.getD_cons_zero, List.getD_cons_succ, List.contains_cons, List.contains_nil, Nat.reduceBEq, Bool.or_true, Bool.true_or, Bool.or_false, Bool.false_or, Bool.not_true, Bool.not_false, true_and, and_true, rowA_whole, push_n, set_n, push_obj, set_obj, set_push, set_push_ne, set_set, Nat.add_assoc, Nat.left_eq_add, Nat.add_eq_left, Nat.add_left_cancel_iff, Nat.reduceEqDiff, stO_1s, stO_ws, boxA_s, one_bool, one_int, one_str, one_ptr, one_nilptr, one_slice, one_eslice, one_nilslice, one_func, one_iface, one_niliface, List.all_cons, List.all_nil, List.length_cons, List.length_nil, Nat.reduceLT, Nat.reduceEqDiff, Nat.reduceLeDiff, Bool.and_true, Nat.one_ne_zero, Nat.succ_ne_zero, reduceIte, if_false, List.getElem?_cons_zero, List.set_cons_zero, List.set_cons_succ]
      refine callA_of (l03Num_c _ v1 _ hs2 (by simp; omega)) ?_
      rintro r g2 ⟨rfl, rfl⟩
      generalize hnum : numB ((bs.take a4).drop a0) = num
      have nq : (q = g2.n) = False := by simp; omega
      have hvp := (slcF_ext hs1 ((Ext.refl g2).push (IObj.rows [[IV.int .i64 num]] 2 1 false)) (some (.int .i64 a0)) (some (.int .i64 a4))).trans hv1
      simp only [i0, i2, i6, i7, hlen, bb.eq, bq.eq, w6, hv1, hvp, nq, bslA_1, Option.map_some, Option.map_none, go_sem, Hold.p, HoldK.k, HoldL.K, HoldL.body, Nat.reduceBEq, Nat.reduceAdd, List.getElem?_cons_zero, List.getElem?_cons_succ, Option.bind_some, List.map_cons, List.map_nil, Nat.zero_add, if_true, List.getD_cons_zero, List.getD_cons_succ, List.contains_cons, List.contains_nil, Nat.reduceBEq, Bool.or_true, Bool.true_or, Bool.or_false, Bool.false_or, Bool.not_true, Bool.not_false, true_and, and_true, rowA_whole, push_n, set_n, push_obj, set_obj, set_push, set_push_ne, set_set, Nat.add_assoc, Nat.left_eq_add, Nat.add_eq_left, Nat.add_left_cancel_iff, Nat.reduceEqDiff, stO_1s, stO_ws, boxA_s, one_bool, one_int, one_str, one_ptr, one_nilptr, one_slice, one_eslice, one_nilslice, one_func, one_iface, one_niliface, List.all_cons, List.all_nil, List.length_cons, List.length_nil, Nat.reduceLT, Nat.reduceEqDiff, Nat.reduceLeDiff, Bool.and_true, Nat.one_ne_zero, Nat.succ_ne_zero, reduceIte, if_false, List.getElem?_cons_zero, List.set_cons_zero, List.set_cons_succ]
      generalize hq_g3 : IH.push g2 (IObj.rows [[IV.int .i64 num]] 2 1 false) = g3
      have e_g3 : Ext g2 g3 := by rw [← hq_g3]; exact (Ext.refl _).push _
      have l_g3 : g3.n = g2.n + 1 := by rw [← hq_g3]; rfl
      have bw : At g3 g2.n (IObj.rows [[IV.int .i64 num]] 2 1 false) := by rw [← hq_g3]; exact At.new _ _
      clear hq_g3
      have bq := bq.ext e_g3
      have oz := oz.ext e_g3
      have E1 := E1.ext e_g3
      refine oz.app (by simp) (by rw [intRows_len, wordsAt_len]; simp; omega) ?_
      intro v6 h6 o6 t6 n6 v6o v6c
      have bq := bq.turn oz (by omega) t6
      have E1 := E1.turn oz (by omega) t6
      have le_t6 := t6.le
      have hv6 := (slcF_ext hsB E1 (some (.int .i64 a0)) (some (.int .i64 a4))).trans hvg
      have o7 : Own g3.n (g3.n + 1) h6 2 1 v6 (intRows (wordsAt bs st (k + 1))) := by
        rw [wordsAt_succ, intRows_append, ← ha4, ← ha0, hnum]; exact o6
      simp only [i0, i2, i6, i7, bq.eq, w6, hv6, v6o, v6c, Option.map_some, Option.map_none, go_sem, Hold.p, HoldK.k, HoldL.K, HoldL.body, Nat.reduceBEq, Nat.reduceAdd, List.getElem?_cons_zero, List.getElem?_cons_succ, Option.bind_some, List.map_cons, List.map_nil, Nat.zero_add, if_true, List.getD_cons_zero, List.getD_cons_succ, List.contains_cons, List.contains_nil, Nat.reduceBEq, Bool.or_true, Bool.true_or, Bool.or_false, Bool.false_or, Bool.not_true, Bool.not_false, true_and, and_true, rowA_whole, push_n, set_n, push_obj, set_obj, set_push, set_push_ne, set_set, Nat.add_assoc, Nat.left_eq_add, Nat.add_eq_left, Nat.add_left_cancel_iff, Nat.reduceEqDiff, stO_1s, stO_ws, boxA_s, one_bool, one_int, one_str, one_ptr, one_nilptr, one_slice, one_eslice, one_nilslice, one_func, one_iface, one_niliface, List.all_cons, List.all_nil, List.length_cons, List.length_nil, Nat.reduceLT, Nat.reduceEqDiff, Nat.reduceLeDiff, Bool.and_true, Nat.one_ne_zero, Nat.succ_ne_zero, reduceIte, if_false, List.getElem?_cons_zero, List.set_cons_zero, List.set_cons_succ]
      generalize hq_g9 : IH.set h6 (q) (IObj.rows [[IV.int .i64 (repAt bs).id, IV.int .i64 (repAt bs).code, IV.int .i64 (repAt bs).ttl, IV.str (repAt bs).nm, v6]] 44 5 false) = g9
      have l_g9 : g9.n = h6.n := by rw [← hq_g9]; rfl
      have bq : At g9 (q) (IObj.rows [[IV.int .i64 (repAt bs).id, IV.int .i64 (repAt bs).code, IV.int .i64 (repAt bs).ttl, IV.str (repAt bs).nm, v6]] 44 5 false) := by rw [← hq_g9]; exact bq.here
      have o7 := o7.set (m := q) (by omega) (IObj.rows [[IV.int .i64 (repAt bs).id, IV.int .i64 (repAt bs).code, IV.int .i64 (repAt bs).ttl, IV.str (repAt bs).nm, v6]] 44 5 false)
      rw [hq_g9] at o7
      have E1 := E1.set (q) (by omega) (IObj.rows [[IV.int .i64 (repAt bs).id, IV.int .i64 (repAt bs).code, IV.int .i64 (repAt bs).ttl, IV.str (repAt bs).nm, v6]] 44 5 false)
      rw [hq_g9] at E1
      clear hq_g9
      refine ⟨_, ?_, k + 1, v6, g3.n, g3.n + 1, rfl, by omega, ?_, bq, o7, by omega, by omega, E1⟩
      · omega
      · rw [ha4]; rfl
    · obtain rfl : k = repC bs := by omega
      rw [← hzz] at oz
      simp only [i0, i2, i6, bq.eq, bb.eq, go_sem, Hold.p, HoldK.k, HoldL.K, HoldL.body, Nat.reduceBEq, Nat.reduceAdd, List.getElem?_cons_zero, List.getElem?_cons_succ, Option.bind_some, List.map_cons, List.map_nil, Nat.zero_add, if_true, List.getD_cons_zero, List.getD_cons_succ, List.contains_cons, List.contains_nil, Nat.reduceBEq, Bool.or_true, Bool.true_or, Bool.or_false, Bool.false_or, Bool.not_true, Bool.not_false, true_and, and_true, rowA_whole, push_n, set_n, push_obj, set_obj, set_push, set_push_ne, set_set, Nat.add_assoc, Nat.left_eq_add, Nat.add_eq_left, Nat.add_left_cancel_iff, Nat.reduceEqDiff, stO_1s, stO_ws, boxA_s, one_bool, one_int, one_str, one_ptr, one_nilptr, one_slice, one_eslice, one_nilslice, one_func, one_iface, one_niliface, List.all_cons, List.all_nil, List.length_cons, List.length_nil, Nat.reduceLT, Nat.reduceEqDiff, Nat.reduceLeDiff, Bool.and_true, Nat.one_ne_zero, Nat.succ_ne_zero, reduceIte, if_false, List.getElem?_cons_zero, List.set_cons_zero, List.set_cons_succ]
      refine callA_of (l19ReplyOK_c g' (repAt bs).id (repAt bs).code (repAt bs).ttl (repAt bs).nm vz (repAt bs).zs oz.sl hnl (by rw [hzz, wordsAt_len]; omega)) ?_
      rintro r h7 ⟨rfl, E7⟩
      have bb := bb.ext E7
      have bq := bq.ext E7
      have oz := oz.ext E7
      have E1 := E1.ext E7
      have le_E7 := E7.le
      have lE := E.le
      have hok : okRep (repAt bs).id (repAt bs).code (repAt bs).ttl (repAt bs).nm (repAt bs).zs = (repAt bs).ok := rfl
      rw [hok]
      cases c5 : (repAt bs).ok
      · rw [c5, if_neg (by decide)] at RD
        simp only [i2, bb.eq, lay_nil, lay_1, lay_w, Option.map_some, go_sem, Hold.p, HoldK.k, HoldL.K, HoldL.body, Nat.reduceBEq, Nat.reduceAdd, List.getElem?_cons_zero, List.getElem?_cons_succ, Option.bind_some, List.map_cons, List.map_nil, Nat.zero_add, if_true, List.getD_cons_zero, List.getD_cons_succ, List.contains_cons, List.contains_nil, Nat.reduceBEq, Bool.or_true, Bool.true_or, Bool.or_false, Bool.false_or, Bool.not_true, Bool.not_false, true_and, and_true, rowA_whole, push_n, set_n, push_obj, set_obj, set_push, set_push_ne, set_set, Nat.add_assoc, Nat.left_eq_add, Nat.add_eq_left, Nat.add_left_cancel_iff, Nat.reduceEqDiff, stO_1s, stO_ws, boxA_s, one_bool, one_int, one_str, one_ptr, one_nilptr, one_slice, one_eslice, one_nilslice, one_func, one_iface, one_niliface, List.all_cons, List.all_nil, List.length_cons, List.length_nil, Nat.reduceLT, Nat.reduceEqDiff, Nat.reduceLeDiff, Bool.and_true, Nat.one_ne_zero, Nat.succ_ne_zero, reduceIte, if_false, List.getElem?_cons_zero, List.set_cons_zero, List.set_cons_succ]
        rw [RD]
        exact ⟨_, rfl, Own.nil, (E.trans E1).set _ (Nat.le_refl _) _⟩
      · rw [c5, if_pos rfl] at RD
        have vo := oz.sl.one
        have vc := oz.sl.cells
        simp only [i2, i6, bb.eq, bq.eq, vo, vc, lay_nil, lay_1, lay_w, Option.map_some, go_sem, Hold.p, HoldK.k, HoldL.K, HoldL.body, Nat.reduceBEq, Nat.reduceAdd, List.getElem?_cons_zero, List.getElem?_cons_succ, Option.bind_some, List.map_cons, List.map_nil, Nat.zero_add, if_true, List.getD_cons_zero, List.getD_cons_succ, List.contains_cons, List.contains_nil, Nat.reduceBEq, Bool.or_true, Bool.true_or, Bool.or_false, Bool.false_or, Bool.not_true, Bool.not_false, true_and, and_true, rowA_whole, push_n, set_n, push_obj, set_obj, set_push, set_push_ne, set_set, Nat.add_assoc, Nat.left_eq_add, Nat.add_eq_left, Nat.add_left_cancel_iff, Nat.reduceEqDiff, stO_1s, stO_ws, boxA_s, one_bool, one_int, one_str, one_ptr, one_nilptr, one_slice, one_eslice, one_nilslice, one_func, one_iface, one_niliface, List.all_cons, List.all_nil, List.length_cons, List.length_nil, Nat.reduceLT, Nat.reduceEqDiff, Nat.reduceLeDiff, Bool.and_true, Nat.one_ne_zero, Nat.succ_ne_zero, reduceIte, if_false, List.getElem?_cons_zero, List.set_cons_zero, List.set_cons_succ]
        rw [RD]
        exact ⟨vz, rfl, (Own.set oz (m := h.n) (by omega) _).wide (by omega) (by rw [set_n]; omega) (Nat.le_refl _), (E.trans E1).set _ (Nat.le_refl _) _⟩
end Go.Proofs.YtcmcfmgabafljaaDoor

namespace Go.Proofs.YtcmcfmgabafljaaDoor
open Go Go.IW

/-! Pieces that are taken one behind another: what is left, and the piece, by the place. -/
def restD (bs : List UInt8) (n : Nat) : List UInt8 × Bool := if bs.length < n then ([], true) else (bs.drop n, false)
def pieceD (bs : List UInt8) (n k : Nat) : List UInt8 := if bs.length < n + k then List.replicate (min k 8) 0 else (bs.drop n).take k
theorem takeD_rest (bs : List UInt8) (n k : Nat) : takeD (restD bs n).1 (restD bs n).2 k = (pieceD bs n k, (restD bs (n + k)).1, (restD bs (n + k)).2) := by
  unfold restD
  by_cases h : bs.length < n
  · rw [if_pos h]
    have h2 : bs.length < n + k := by omega
    unfold pieceD
    rw [if_pos h2, if_pos h2]
    cases k with
    | zero => rfl
    | succ k => exact if_pos (Nat.zero_lt_succ k)
  · rw [if_neg h]
    by_cases h2 : bs.length < n + k
    · unfold pieceD
      rw [if_pos h2, if_pos h2]
      exact if_pos (by rw [List.length_drop]; omega)
    · unfold pieceD
      rw [if_neg h2, if_neg h2]
      refine (takeD_long (by rw [List.length_drop]; omega)).trans ?_
      rw [List.drop_drop]
theorem restD_len (bs : List UInt8) (n : Nat) : (restD bs n).1.length ≤ bs.length := by unfold restD; split <;> simp
theorem pieceD_le (bs : List UInt8) (n k : Nat) : (pieceD bs n k).length ≤ k := by unfold pieceD; split <;> simp <;> omega
theorem pieceD_long {bs : List UInt8} {n k : Nat} (h : n + k ≤ bs.length) : pieceD bs n k = (bs.take (n + k)).drop n := by
  unfold pieceD
  rw [if_neg (by omega), List.drop_take]
  congr 1; omega
theorem pieceD_one {bs : List UInt8} {n : Nat} (h : n < bs.length) : pieceD bs n 1 = [bs.getD n 0] := by
  unfold pieceD
  rw [if_neg (by omega), drop_at h]; rfl
theorem pieceD_short1 {bs : List UInt8} {n : Nat} (h : bs.length ≤ n) : pieceD bs n 1 = [0] := by
  unfold pieceD
  rw [if_pos (by omega)]; rfl
def AtB (h : IH) (p : Nat) (bs : List UInt8) (n : Nat) : Prop := BitesAt h p (restD bs n).1 (restD bs n).2
theorem AtB.ext {h h' : IH} {p n : Nat} {bs : List UInt8} (b : AtB h p bs n) (e : Ext h h') : AtB h' p bs n := BitesAt.ext b e
theorem AtB.other {h : IH} {p q e sz n : Nat} {bs : List UInt8} {ro : Bool} {rs : List (List IV)} {o : IObj} (b : AtB h p bs n) (hq : p ≠ q) (ho : h.obj q = .rows rs e sz ro) (h1 : 1 ≠ sz) : AtB (h.set q o) p bs n := BitesAt.other b hq ho h1
theorem AtB.turn {lo hi : Nat} {h h' : IH} {p n el sz : Nat} {bs : List UInt8} {w : IV} {rs : List (List IV)} (b : AtB h p bs n) (hw : Own lo hi h el sz w rs) (hd : p < lo) (t : Turn w h h') : AtB h' p bs n := BitesAt.turn b hw hd t
theorem AtB.zero {h : IH} {p : Nat} {bs : List UInt8} (b : BitesAt h p bs false) : AtB h p bs 0 := by
  have : restD bs 0 = (bs, false) := by unfold restD; rw [if_neg (by omega)]; rfl
  unfold AtB
  rw [this]; exact b

set_option maxRecDepth 20000 in
theorem numAt_c (h : IH) (p n k : Nat) (bs : List UInt8) (hb : AtB h p bs n) (hk : k ≤ 7) (hl : bs.length ≤ 1048576) :
    ICalls Tryd.prog 66 [.ptr p 0 0, .int .i64 k] h fun r h' => r = .int .i64 (numB (pieceD bs n k)) ∧ AtB h' p bs (n + k) ∧ But p .nilslice h h' := by
  refine (num_c h p k _ _ hb hk (Nat.le_trans (restD_len bs n) hl)).mono ?_
  rintro r h' ⟨rfl, b, U⟩
  rw [takeD_rest] at b ⊢
  exact ⟨rfl, b, U⟩
set_option maxRecDepth 20000 in
theorem takeAt_c (h : IH) (p n k : Nat) (bs : List UInt8) (hb : AtB h p bs n) (hk : k ≤ 255) (hl : bs.length ≤ 1048576) :
    ICalls Tryd.prog 67 [.ptr p 0 0, .int .i64 k] h fun r h' => SlR h' 1 r (strRows (pieceD bs n k)) ∧ AtB h' p bs (n + k) ∧ But p .nilslice h h' := by
  refine (take_c h p k _ _ hb hk (Nat.le_trans (restD_len bs n) hl)).mono ?_
  rintro r h' ⟨s, b, U⟩
  rw [takeD_rest] at s b
  exact ⟨s, b, U⟩
def codeAt (bs : List UInt8) (n : Nat) (kind want : Int) (nm : List UInt8) : Int := if bs.length < n then 2 else if n < bs.length then 5 else if kind ≠ want then 9 else if okName nm = true then 0 else 6
set_option maxRecDepth 20000 in
theorem codeAt_c (h : IH) (p n : Nat) (bs : List UInt8) (kind want : Int) (nm : List UInt8) (hb : AtB h p bs n) (hl : bs.length ≤ 1048576) (hnl : nm.length ≤ 1048576) :
    ICalls Tryd.prog 68 [.ptr p 0 0, .int .i64 kind, .int .i64 want, .str nm] h fun r h' => r = .int .i64 (codeAt bs n kind want nm) ∧ Ext h h' := by
  refine (code_c h p _ _ kind want nm hb (Nat.le_trans (restD_len bs n) hl) hnl).mono ?_
  rintro r h' ⟨rfl, E⟩
  refine ⟨?_, E⟩
  congr 1
  unfold codeAt restD
  by_cases h1 : bs.length < n
  · rw [if_pos h1, if_pos h1]; rfl
  · rw [if_neg h1, if_neg h1]
    simp only [Bool.false_eq_true, if_false, List.length_drop]
    by_cases h2 : n < bs.length
    · rw [if_pos h2, if_pos (by omega)]
    · rw [if_neg h2, if_neg (by omega)]
theorem ownBut {lo hi : Nat} {h h' : IH} {el sz p : Nat} {v : IV} {rs : List (List IV)} (o : Own lo hi h el sz v rs) (t : But p .nilslice h h') (hp : p < lo ∨ hi ≤ p) : Own lo hi h' el sz v rs := by
  rcases o with h0 | ⟨l, h0, rfl, h1, h2, h3, h4⟩
  · exact .inl h0
  · exact .inr ⟨l, h0, rfl, h1, h2, Nat.le_trans h3 t.le, (t.obj l (by omega) (by omega) (nil_at l)).trans h4⟩
theorem codeAt_zero {bs : List UInt8} {n : Nat} {kind want : Int} {nm : List UInt8} (h : codeAt bs n kind want nm = 0) : okName nm = true := by
  unfold codeAt at h
  split at h
  · omega
  · split at h
    · omega
    · split at h
      · omega
      · split at h
        · assumption
        · omega
end Go.Proofs.YtcmcfmgabafljaaDoor

namespace Go.Proofs.YtcmcfmgabafljaaDoor
open Go Go.IW

/-- The parts that the program takes off. -/
def parM (bs : List UInt8) : Nat := (numB (pieceD bs 8 1)).toNat
def parC (bs : List UInt8) : Nat := (numB (pieceD bs (9 + parM bs) 1)).toNat
def parZ (bs : List UInt8) (k : Nat) : List Int := (List.range k).map fun j => numB (pieceD bs (10 + parM bs + 4 * j) 4)
theorem parZ_succ (bs : List UInt8) (k : Nat) : parZ bs (k + 1) = parZ bs k ++ [numB (pieceD bs (10 + parM bs + 4 * k) 4)] := by
  unfold parZ; rw [List.range_succ, List.map_append]; rfl
theorem parZ_len (bs : List UInt8) (k : Nat) : (parZ bs k).length = k := by unfold parZ; simp
def parAt (bs : List UInt8) (k : Nat) : RepV := ⟨numB (pieceD bs 0 2), numB (pieceD bs 3 1), numB (pieceD bs 4 4), pieceD bs 9 (parM bs), parZ bs k⟩
def parErr (bs : List UInt8) (k : Nat) : Int :=
  if codeAt bs (10 + parM bs + 4 * k) (numB (pieceD bs 2 1)) 1 (parAt bs k).nm = 0 then (if (parAt bs k).ok = true then 0 else 1) else codeAt bs (10 + parM bs + 4 * k) (numB (pieceD bs 2 1)) 1 (parAt bs k).nm

theorem parM_eq {bs : List UInt8} (h : 9 ≤ bs.length) : parM bs = repM bs := by
  unfold parM repM
  rw [pieceD_one (by omega), numB_one]; rfl
theorem parC_eq {bs : List UInt8} (h : 10 + parM bs ≤ bs.length) : parC bs = repC bs := by
  have hm := parM_eq (bs := bs) (by omega)
  unfold parC repC
  rw [pieceD_one (by omega), numB_one, hm]; rfl
/-- What the program's parts amount to. -/
theorem par_dec {bs : List UInt8} {k : Nat} (hk : k ≤ parC bs) (hend : k = parC bs ∨ bs.length < 10 + parM bs + 4 * k) :
    decR bs = if parErr bs k = 0 then (parAt bs k, 0) else (.zero, parErr bs k) := by
  by_cases c0 : bs.length < 10 + parM bs
  · have hc : codeAt bs (10 + parM bs + 4 * k) (numB (pieceD bs 2 1)) 1 (parAt bs k).nm = 2 := if_pos (by omega)
    have he : parErr bs k = 2 := by unfold parErr; rw [hc]; rfl
    rw [he, if_neg (by decide)]
    refine if_pos ?_
    by_cases h9 : 9 ≤ bs.length
    · rw [parM_eq h9] at c0; exact .inl c0
    · left; omega
  · have hm := parM_eq (bs := bs) (by omega)
    have hc := parC_eq (bs := bs) (by omega)
    rw [hm] at c0 hend
    rw [hc] at hk hend
    by_cases c1 : bs.length < 10 + repM bs + 4 * repC bs
    · have hlt : bs.length < 10 + repM bs + 4 * k := by omega
      have hcd : codeAt bs (10 + parM bs + 4 * k) (numB (pieceD bs 2 1)) 1 (parAt bs k).nm = 2 := if_pos (by rw [hm]; exact hlt)
      have he : parErr bs k = 2 := by unfold parErr; rw [hcd]; rfl
      rw [he, if_neg (by decide)]
      exact if_pos (.inr c1)
    · obtain rfl : k = repC bs := by omega
      have hnm : (parAt bs (repC bs)).nm = (repAt bs).nm := by
        show pieceD bs 9 (parM bs) = _
        rw [hm, pieceD_long (by omega)]; rfl
      have hall : parAt bs (repC bs) = repAt bs := by
        have e1 : numB (pieceD bs 0 2) = numB (bs.take 2) := by rw [pieceD_long (by omega)]; rfl
        have e2 : numB (pieceD bs 3 1) = ((bs.getD 3 0).toNat : Int) := by rw [pieceD_one (by omega), numB_one]
        have e3 : numB (pieceD bs 4 4) = numB ((bs.take 8).drop 4) := by rw [pieceD_long (by omega)]
        have e4 : parZ bs (repC bs) = wordsAt bs (10 + repM bs) (repC bs) := by
          unfold parZ wordsAt
          refine List.map_congr_left fun j hj => ?_
          have := List.mem_range.1 hj
          rw [hm, pieceD_long (by omega)]
        unfold parAt repAt
        rw [e1, e2, e3, e4]
        congr 1
      have hk2 : numB (pieceD bs 2 1) = ((bs.getD 2 0).toNat : Int) := by rw [pieceD_one (by omega), numB_one]
      have hdef : decR bs = if 10 + repM bs + 4 * repC bs < bs.length then (.zero, 5) else if bs.getD 2 0 ≠ 1 then (.zero, 9) else if okName (repAt bs).nm = false then (.zero, 6) else if (repAt bs).ok = true then (repAt bs, 0) else (.zero, 1) := if_neg (by omega)
      rw [hdef]
      unfold parErr
      rw [hall, hk2, hm]
      have hcd : codeAt bs (10 + repM bs + 4 * repC bs) ((bs.getD 2 0).toNat : Int) 1 (repAt bs).nm = if 10 + repM bs + 4 * repC bs < bs.length then 5 else if ((bs.getD 2 0).toNat : Int) ≠ 1 then 9 else if okName (repAt bs).nm = true then 0 else 6 := if_neg (by omega)
      rw [hcd]
      by_cases c2 : 10 + repM bs + 4 * repC bs < bs.length
      · rw [if_pos c2, if_pos c2]; rfl
      · rw [if_neg c2, if_neg c2]
        by_cases c3 : bs.getD 2 0 ≠ 1
        · have c3n : ((bs.getD 2 0).toNat : Int) ≠ 1 := byte_ne (b := 1) c3
          rw [if_pos c3, if_pos c3n]; rfl
        · have c3' : ((bs.getD 2 0).toNat : Int) = 1 := by rw [show bs.getD 2 0 = 1 by simpa using c3]; rfl
          have c3n : ¬ ((bs.getD 2 0).toNat : Int) ≠ 1 := fun hx => hx c3'
          rw [if_neg c3, if_neg c3n]
          cases okName (repAt bs).nm
          · rfl
          · cases (repAt bs).ok <;> rfl

set_option maxRecDepth 20000 in
theorem implDecodeReply_c (h : IH) (v : IV) (bs : List UInt8) (hs : SlR h 1 v (strRows bs)) (hl : bs.length ≤ 1048576) : ICalls Tryd.prog 32 [v] h fun r h' => ReplyRes h h' r (decR bs) := by
  refine icalls (.of ok32) (Nat.le_of_ble_eq_true rfl) ?_
  unfold c32
  have hvo := hs.one
  have hvc := hs.cells
  have hsl := hs.lt
  simp only [hvo, hvc, lay_nil, lay_1, lay_w, Option.map_some, go_sem, Hold.p, HoldK.k, HoldL.K, HoldL.body, Nat.reduceBEq, Nat.reduceAdd, List.getElem?_cons_zero, List.getElem?_cons_succ, Option.bind_some, List.map_cons, List.map_nil, Nat.zero_add, if_true, List.getD_cons_zero, List.getD_cons_succ, List.contains_cons, List.contains_nil, Nat.reduceBEq, Bool.or_true, Bool.true_or, Bool.or_false, Bool.false_or, Bool.not_true, Bool.not_false, true_and, and_true, rowA_whole, push_n, set_n, push_obj, set_obj, set_push, set_push_ne, set_set, Nat.add_assoc, Nat.left_eq_add, Nat.add_eq_left, Nat.add_left_cancel_iff, Nat.reduceEqDiff, stO_1s, stO_ws, boxA_s, one_bool, one_int, one_str, one_ptr, one_nilptr, one_slice, one_eslice, one_nilslice, one_func, one_iface, one_niliface, List.all_cons, List.all_nil, List.length_cons, List.length_nil, Nat.reduceLT, Nat.reduceEqDiff, Nat.reduceLeDiff, Bool.and_true, Nat.one_ne_zero, Nat.succ_ne_zero, reduceIte, if_false, List.getElem?_cons_zero, List.set_cons_zero, List.set_cons_succ]
  generalize hq_g0 : IH.push h (IObj.rows [[IV.int .i64 0, IV.int .i64 0, IV.int .i64 0, IV.str [], IV.nilslice]] 44 5 false) = g0
  have e_g0 : Ext h g0 := by rw [← hq_g0]; exact (Ext.refl _).push _
  have l_g0 : g0.n = h.n + 1 := by rw [← hq_g0]; rfl
  have bb : At g0 h.n (IObj.rows [[IV.int .i64 0, IV.int .i64 0, IV.int .i64 0, IV.str [], IV.nilslice]] 44 5 false) := by rw [← hq_g0]; exact At.new _ _
  clear hq_g0
  have hs := hs.ext e_g0
  generalize hq_g1 : IH.push g0 (IObj.rows [[v, IV.bool false]] 105 2 false) = g1
  have e_g1 : Ext g0 g1 := by rw [← hq_g1]; exact (Ext.refl _).push _
  have l_g1 : g1.n = g0.n + 1 := by rw [← hq_g1]; rfl
  have ba : At g1 g0.n (IObj.rows [[v, IV.bool false]] 105 2 false) := by rw [← hq_g1]; exact At.new _ _
  clear hq_g1
  have hs := hs.ext e_g1
  have bb := bb.ext e_g1
  have B := AtB.zero (BitesAt.mk' ba hs (fun l i m e => by have := hsl l i m e; omega))
  rw [l_g0] at B
  have E := e_g0.trans e_g1
  refine callA_of (numAt_c g1 _ 0 2 bs B (by omega) hl) ?_
  rintro r h1 ⟨rfl, B1, U1⟩
  replace bb := U1.at0 bb (by omega)
  replace E := U1.ext0 E (by omega)
  have u1 := U1.le
  simp only [bb.eq, lay_nil, lay_1, lay_w, Option.map_some, go_sem, Hold.p, HoldK.k, HoldL.K, HoldL.body, Nat.reduceBEq, Nat.reduceAdd, List.getElem?_cons_zero, List.getElem?_cons_succ, Option.bind_some, List.map_cons, List.map_nil, Nat.zero_add, if_true, List.getD_cons_zero, List.getD_cons_succ, List.contains_cons, List.contains_nil, Nat.reduceBEq, Bool.or_true, Bool.true_or, Bool.or_false, Bool.false_or, Bool.not_true, Bool.not_false, true_and, and_true, rowA_whole, push_n, set_n, push_obj, set_obj, set_push, set_push_ne, set_set, Nat.add_assoc, Nat.left_eq_add, Nat.add_eq_left, Nat.add_left_cancel_iff, Nat.reduceEqDiff, stO_1s, stO_ws, boxA_s, one_bool, one_int, one_str, one_ptr, one_nilptr, one_slice, one_eslice, one_nilslice, one_func, one_iface, one_niliface, List.all_cons, List.all_nil, List.length_cons, List.length_nil, Nat.reduceLT, Nat.reduceEqDiff, Nat.reduceLeDiff, Bool.and_true, Nat.one_ne_zero, Nat.succ_ne_zero, reduceIte, if_false, List.getElem?_cons_zero, List.set_cons_zero, List.set_cons_succ]
  generalize hq_g2 : IH.push h1 (IObj.rows [[IV.int .i64 (numB (pieceD bs 0 2)), IV.int .i64 0, IV.int .i64 0, IV.str [], IV.nilslice]] 44 5 false) = g2
  have e_g2 : Ext h1 g2 := by rw [← hq_g2]; exact (Ext.refl _).push _
  have l_g2 : g2.n = h1.n + 1 := by rw [← hq_g2]; rfl
  have bq : At g2 h1.n (IObj.rows [[IV.int .i64 (numB (pieceD bs 0 2)), IV.int .i64 0, IV.int .i64 0, IV.str [], IV.nilslice]] 44 5 false) := by rw [← hq_g2]; exact At.new _ _
  clear hq_g2
  have bb := bb.ext e_g2
  have B1 := B1.ext e_g2
  have E := E.ext e_g2
  generalize hp2 : h1.n = p2 at bq l_g2
  refine callA_of (numAt_c g2 _ 2 1 bs B1 (by omega) hl) ?_
  rintro r h2 ⟨rfl, B2, U⟩
  replace bb := U.at0 bb (by omega)
  replace bq := U.at0 bq (by omega)
  replace E := U.ext0 E (by omega)
  have u_h2 := U.le
  clear U
  simp only [bb.eq, bq.eq, lay_nil, lay_1, lay_w, Option.map_some, go_sem, Hold.p, HoldK.k, HoldL.K, HoldL.body, Nat.reduceBEq, Nat.reduceAdd, List.getElem?_cons_zero, List.getElem?_cons_succ, Option.bind_some, List.map_cons, List.map_nil, Nat.zero_add, if_true, List.getD_cons_zero, List.getD_cons_succ, List.contains_cons, List.contains_nil, Nat.reduceBEq, Bool.or_true, Bool.true_or, Bool.or_false, Bool.false_or, Bool.not_true, Bool.not_false, true_and, and_true, rowA_whole, push_n, set_n, push_obj, set_obj, set_push, set_push_ne, set_set, Nat.add_assoc, Nat.left_eq_add, Nat.add_eq_left, Nat.add_left_cancel_iff, Nat.reduceEqDiff, stO_1s, stO_ws, boxA_s, one_bool, one_int, one_str, one_ptr, one_nilptr, one_slice, one_eslice, one_nilslice, one_func, one_iface, one_niliface, List.all_cons, List.all_nil, List.length_cons, List.length_nil, Nat.reduceLT, Nat.reduceEqDiff, Nat.reduceLeDiff, Bool.and_true, Nat.one_ne_zero, Nat.succ_ne_zero, reduceIte, if_false, List.getElem?_cons_zero, List.set_cons_zero, List.set_cons_succ]
  refine callA_of (numAt_c h2 _ 3 1 bs B2 (by omega) hl) ?_
  rintro r h3 ⟨rfl, B3, U⟩
  replace bb := U.at0 bb (by omega)
  replace bq := U.at0 bq (by omega)
  replace E := U.ext0 E (by omega)
  have u_h3 := U.le
  clear U
  simp only [bb.eq, bq.eq, lay_nil, lay_1, lay_w, Option.map_some, go_sem, Hold.p, HoldK.k, HoldL.K, HoldL.body, Nat.reduceBEq, Nat.reduceAdd, List.getElem?_cons_zero, List.getElem?_cons_succ, Option.bind_some, List.map_cons, List.map_nil, Nat.zero_add, if_true, List.getD_cons_zero, List.getD_cons_succ, List.contains_cons, List.contains_nil, Nat.reduceBEq, Bool.or_true, Bool.true_or, Bool.or_false, Bool.false_or, Bool.not_true, Bool.not_false, true_and, and_true, rowA_whole, push_n, set_n, push_obj, set_obj, set_push, set_push_ne, set_set, Nat.add_assoc, Nat.left_eq_add, Nat.add_eq_left, Nat.add_left_cancel_iff, Nat.reduceEqDiff, stO_1s, stO_ws, boxA_s, one_bool, one_int, one_str, one_ptr, one_nilptr, one_slice, one_eslice, one_nilslice, one_func, one_iface, one_niliface, List.all_cons, List.all_nil, List.length_cons, List.length_nil, Nat.reduceLT, Nat.reduceEqDiff, Nat.reduceLeDiff, Bool.and_true, Nat.one_ne_zero, Nat.succ_ne_zero, reduceIte, if_false, List.getElem?_cons_zero, List.set_cons_zero, List.set_cons_succ]
  refine callA_of (numAt_c h3 _ 4 4 bs B3 (by omega) hl) ?_
  rintro r h4 ⟨rfl, B4, U⟩
  replace bb := U.at0 bb (by omega)
  replace bq := U.at0 bq (by omega)
  replace E := U.ext0 E (by omega)
  have u_h4 := U.le
  clear U
  have B5 := B4.other (q := p2) (o := IObj.rows [[IV.int .i64 (numB (pieceD bs 0 2)), IV.int .i64 (numB (pieceD bs 3 1)), IV.int .i64 (numB (pieceD bs 4 4)), IV.str [], .nilslice]] 44 5 false) (by omega) bq.eq (by decide)
  simp only [bb.eq, bq.eq, lay_nil, lay_1, lay_w, Option.map_some, go_sem, Hold.p, HoldK.k, HoldL.K, HoldL.body, Nat.reduceBEq, Nat.reduceAdd, List.getElem?_cons_zero, List.getElem?_cons_succ, Option.bind_some, List.map_cons, List.map_nil, Nat.zero_add, if_true, List.getD_cons_zero, List.getD_cons_succ, List.contains_cons, List.contains_nil, Nat.reduceBEq, Bool.or_true, Bool.true_or, Bool.or_false, Bool.false_or, Bool.not_true, Bool.not_false, true_and, and_true, rowA_whole, push_n, set_n, push_obj, set_obj, set_push, set_push_ne, set_set, Nat.add_assoc, Nat.left_eq_add, Nat.add_eq_left, Nat.add_left_cancel_iff, Nat.reduceEqDiff, stO_1s, stO_ws, boxA_s, one_bool, one_int, one_str, one_ptr, one_nilptr, one_slice, one_eslice, one_nilslice, one_func, one_iface, one_niliface, List.all_cons, List.all_nil, List.length_cons, List.length_nil, Nat.reduceLT, Nat.reduceEqDiff, Nat.reduceLeDiff, Bool.and_true, Nat.one_ne_zero, Nat.succ_ne_zero, reduceIte, if_false, List.getElem?_cons_zero, List.set_cons_zero, List.set_cons_succ]
  generalize hq_g5 : IH.set h4 (p2) (IObj.rows [[IV.int .i64 (numB (pieceD bs 0 2)), IV.int .i64 (numB (pieceD bs 3 1)), IV.int .i64 (numB (pieceD bs 4 4)), IV.str [], .nilslice]] 44 5 false) = g5
  have l_g5 : g5.n = h4.n := by rw [← hq_g5]; rfl
  have bq : At g5 (p2) (IObj.rows [[IV.int .i64 (numB (pieceD bs 0 2)), IV.int .i64 (numB (pieceD bs 3 1)), IV.int .i64 (numB (pieceD bs 4 4)), IV.str [], .nilslice]] 44 5 false) := by rw [← hq_g5]; exact bq.here
  have bb := bb.set (p := p2) (o' := IObj.rows [[IV.int .i64 (numB (pieceD bs 0 2)), IV.int .i64 (numB (pieceD bs 3 1)), IV.int .i64 (numB (pieceD bs 4 4)), IV.str [], .nilslice]] 44 5 false) (by omega)
  rw [hq_g5] at bb
  have E := E.set (p2) (by omega) (IObj.rows [[IV.int .i64 (numB (pieceD bs 0 2)), IV.int .i64 (numB (pieceD bs 3 1)), IV.int .i64 (numB (pieceD bs 4 4)), IV.str [], .nilslice]] 44 5 false)
  rw [hq_g5] at E
  rw [hq_g5] at B5
  clear hq_g5
  refine callA_of (numAt_c g5 _ 8 1 bs B5 (by omega) hl) ?_
  rintro r h6 ⟨rfl, B6, U⟩
  replace bb := U.at0 bb (by omega)
  replace bq := U.at0 bq (by omega)
  replace E := U.ext0 E (by omega)
  have u_h6 := U.le
  clear U
  obtain ⟨q1, q2⟩ := numB_one_le (pieceD_le bs 8 1)
  have hpm : numB (pieceD bs 8 1) = (parM bs : Int) := q2
  have hpl : parM bs ≤ 255 := q1
  rw [hpm]
  simp only [bb.eq, bq.eq, lay_nil, lay_1, lay_w, Option.map_some, go_sem, Hold.p, HoldK.k, HoldL.K, HoldL.body, Nat.reduceBEq, Nat.reduceAdd, List.getElem?_cons_zero, List.getElem?_cons_succ, Option.bind_some, List.map_cons, List.map_nil, Nat.zero_add, if_true, List.getD_cons_zero, List.getD_cons_succ, List.contains_cons, List.contains_nil, Nat.reduceBEq, Bool.or_true, Bool.true_or, Bool.or_false, Bool.false_or, Bool.not_true, Bool.not_false, true_and, and_true, rowA_whole, push_n, set_n, push_obj, set_obj, set_push, set_push_ne, set_set, Nat.add_assoc, Nat.left_eq_add, Nat.add_eq_left, Nat.add_left_cancel_iff, Nat.reduceEqDiff, stO_1s, stO_ws, boxA_s, one_bool, one_int, one_str, one_ptr, one_nilptr, one_slice, one_eslice, one_nilslice, one_func, one_iface, one_niliface, List.all_cons, List.all_nil, List.length_cons, List.length_nil, Nat.reduceLT, Nat.reduceEqDiff, Nat.reduceLeDiff, Bool.and_true, Nat.one_ne_zero, Nat.succ_ne_zero, reduceIte, if_false, List.getElem?_cons_zero, List.set_cons_zero, List.set_cons_succ]
  refine callA_of (takeAt_c h6 _ 9 (parM bs) bs B6 hpl hl) ?_
  rintro r h7 ⟨hs7, B7, U⟩
  replace bb := U.at0 bb (by omega)
  replace bq := U.at0 bq (by omega)
  replace E := U.ext0 E (by omega)
  have u_h7 := U.le
  clear U
  have hb2 := hs7.b2s
  have k7 := pieceD_le bs 9 (parM bs)
  have B8 := B7.other (q := p2) (o := IObj.rows [[IV.int .i64 (numB (pieceD bs 0 2)), IV.int .i64 (numB (pieceD bs 3 1)), IV.int .i64 (numB (pieceD bs 4 4)), IV.str (pieceD bs 9 (parM bs)), .nilslice]] 44 5 false) (by omega) bq.eq (by decide)
  simp only [bb.eq, bq.eq, hb2, lay_nil, lay_1, lay_w, Option.map_some, go_sem, Hold.p, HoldK.k, HoldL.K, HoldL.body, Nat.reduceBEq, Nat.reduceAdd, List.getElem?_cons_zero, List.getElem?_cons_succ, Option.bind_some, List.map_cons, List.map_nil, Nat.zero_add, if_true, List.getD_cons_zero, List.getD_cons_succ, List.contains_cons, List.contains_nil, Nat.reduceBEq, Bool.or_true, Bool.true_or, Bool.or_false, Bool.false_or, Bool.not_true, Bool.not_false, true_and, and_true, rowA_whole, push_n, set_n, push_obj, set_obj, set_push, set_push_ne, set_set, Nat.add_assoc, Nat.left_eq_add, Nat.add_eq_left, Nat.add_left_cancel_iff, Nat.reduceEqDiff, stO_1s, stO_ws, boxA_s, one_bool, one_int, one_str, one_ptr, one_nilptr, one_slice, one_eslice, one_nilslice, one_func, one_iface, one_niliface, List.all_cons, List.all_nil, List.length_cons, List.length_nil, Nat.reduceLT, Nat.reduceEqDiff, Nat.reduceLeDiff, Bool.and_true, Nat.one_ne_zero, Nat.succ_ne_zero, reduceIte, if_false, List.getElem?_cons_zero, List.set_cons_zero, List.set_cons_succ]
  generalize hq_g8 : IH.set h7 (p2) (IObj.rows [[IV.int .i64 (numB (pieceD bs 0 2)), IV.int .i64 (numB (pieceD bs 3 1)), IV.int .i64 (numB (pieceD bs 4 4)), IV.str (pieceD bs 9 (parM bs)), .nilslice]] 44 5 false) = g8
  have l_g8 : g8.n = h7.n := by rw [← hq_g8]; rfl
  have bq : At g8 (p2) (IObj.rows [[IV.int .i64 (numB (pieceD bs 0 2)), IV.int .i64 (numB (pieceD bs 3 1)), IV.int .i64 (numB (pieceD bs 4 4)), IV.str (pieceD bs 9 (parM bs)), .nilslice]] 44 5 false) := by rw [← hq_g8]; exact bq.here
  have bb := bb.set (p := p2) (o' := IObj.rows [[IV.int .i64 (numB (pieceD bs 0 2)), IV.int .i64 (numB (pieceD bs 3 1)), IV.int .i64 (numB (pieceD bs 4 4)), IV.str (pieceD bs 9 (parM bs)), .nilslice]] 44 5 false) (by omega)
  rw [hq_g8] at bb
  have E := E.set (p2) (by omega) (IObj.rows [[IV.int .i64 (numB (pieceD bs 0 2)), IV.int .i64 (numB (pieceD bs 3 1)), IV.int .i64 (numB (pieceD bs 4 4)), IV.str (pieceD bs 9 (parM bs)), .nilslice]] 44 5 false)
  rw [hq_g8] at E
  rw [hq_g8] at B8
  clear hq_g8
  refine callA_of (numAt_c g8 _ (9 + parM bs) 1 bs B8 (by omega) hl) ?_
  rintro r h9 ⟨rfl, B9, U⟩
  replace bb := U.at0 bb (by omega)
  replace bq := U.at0 bq (by omega)
  replace E := U.ext0 E (by omega)
  have u_h9 := U.le
  clear U
  obtain ⟨q3, q4⟩ := numB_one_le (pieceD_le bs (9 + parM bs) 1)
  have hpc : numB (pieceD bs (9 + parM bs) 1) = (parC bs : Int) := q4
  have hpcl : parC bs ≤ 255 := q3
  rw [hpc]
  have B10 : AtB h9 (h.n + 1) bs (10 + parM bs + 4 * 0) := by
    have : 9 + parM bs + 1 = 10 + parM bs + 4 * 0 := by omega
    rw [← this]; exact B9
  simp only [bb.eq, bq.eq, lay_nil, lay_1, lay_w, Option.map_some, go_sem, Hold.p, HoldK.k, HoldL.K, HoldL.body, Nat.reduceBEq, Nat.reduceAdd, List.getElem?_cons_zero, List.getElem?_cons_succ, Option.bind_some, List.map_cons, List.map_nil, Nat.zero_add, if_true, List.getD_cons_zero, List.getD_cons_succ, List.contains_cons, List.contains_nil, Nat.reduceBEq, Bool.or_true, Bool.true_or, Bool.or_false, Bool.false_or, Bool.not_true, Bool.not_false, true_and, and_true, rowA_whole, push_n, set_n, push_obj, set_obj, set_push, set_push_ne, set_set, Nat.add_assoc, Nat.left_eq_add, Nat.add_eq_left, Nat.add_left_cancel_iff, Nat.reduceEqDiff, stO_1s, stO_ws, boxA_s, one_bool, one_int, one_str, one_ptr, one_nilptr, one_slice, one_eslice, one_nilslice, one_func, one_iface, one_niliface, List.all_cons, List.all_nil, List.length_cons, List.length_nil, Nat.reduceLT, Nat.reduceEqDiff, Nat.reduceLeDiff, Bool.and_true, Nat.one_ne_zero, Nat.succ_ne_zero, reduceIte, if_false, List.getElem?_cons_zero, List.set_cons_zero, List.set_cons_succ]
  refine loop_at (fun n e g' => ∃ (k : Nat) (vz : IV) (lo hi : Nat), n = parC bs - k ∧ k ≤ parC bs ∧ e 2 = .ptr h.n 0 0 ∧ e 4 = .ptr (h.n + 1) 0 0 ∧ e 5 = .ptr p2 0 0 ∧ e 6 = .int .i64 (numB (pieceD bs 2 1)) ∧ e 7 = .int .i64 ((parC bs - k : Nat) : Int) ∧ At g' h.n (IObj.rows [[IV.int .i64 0, IV.int .i64 0, IV.int .i64 0, IV.str [], IV.nilslice]] 44 5 false) ∧ At g' p2 (IObj.rows [[IV.int .i64 (numB (pieceD bs 0 2)), IV.int .i64 (numB (pieceD bs 3 1)), IV.int .i64 (numB (pieceD bs 4 4)), IV.str (pieceD bs 9 (parM bs)), vz]] 44 5 false) ∧ AtB g' (h.n + 1) bs (10 + parM bs + 4 * k) ∧ Own lo hi g' 2 1 vz (intRows (parZ bs k)) ∧ p2 < lo ∧ hi ≤ g'.n ∧ Ext h g') (parC bs) ?_ ?_
  · refine ⟨0, .nilslice, p2 + 1, p2 + 1, by omega, by omega, ?_⟩
    simp only [lay_nil, lay_1, lay_w, Option.map_some, go_sem, Hold.p, HoldK.k, HoldL.K, HoldL.body, Nat.reduceBEq, Nat.reduceAdd, List.getElem?_cons_zero, List.getElem?_cons_succ, Option.bind_some, List.map_cons, List.map_nil, Nat.zero_add, if_true, List.getD_cons_zero, List.getD_cons_succ, List.contains_cons, List.contains_nil, Nat.reduceBEq, Bool.or_true, Bool.true_or, Bool.or_false, Bool.false_or, Bool.not_true, Bool.not_false, true_and, and_true, rowA_whole, push_n, set_n, push_obj, set_obj, set_push, set_push_ne, set_set, Nat.add_assoc, Nat.left_eq_add, Nat.add_eq_left, Nat.add_left_cancel_iff, Nat.reduceEqDiff, stO_1s, stO_ws, boxA_s, one_bool, one_int, one_str, one_ptr, one_nilptr, one_slice, one_eslice, one_nilslice, one_func, one_iface, one_niliface, List.all_cons, List.all_nil, List.length_cons, List.length_nil, Nat.reduceLT, Nat.reduceEqDiff, Nat.reduceLeDiff, Bool.and_true, Nat.one_ne_zero, Nat.succ_ne_zero, reduceIte, if_false, List.getElem?_cons_zero, List.set_cons_zero, List.set_cons_succ]
    exact ⟨rfl, bb, bq, B10, Own.nil, Nat.lt_succ_self _, by omega, E⟩
  · have hp2 : h.n + 1 < p2 := by omega
    clear bb bq B B1 B2 B3 B4 B5 B6 B7 B8 B9 B10 E
    rintro n e g' ⟨k, vz, lo, hi, rfl, hk, i2, i4, i5, i6, i7, bb, bq, B, oz, hlo, hhi, E⟩
    obtain ⟨nn, hnn⟩ : ∃ nn, nn = 10 + parM bs + 4 * k := ⟨_, rfl⟩
    rw [← hnn] at B
    obtain ⟨vB, bB, sB, _⟩ := BitesAt.box B
    simp only [i2, i4, i5, i6, i7, bb.eq, bq.eq, bB.eq, lay_nil, lay_1, lay_w, Option.map_some, go_sem, Hold.p, HoldK.k, HoldL.K, HoldL.body, Nat.reduceBEq, Nat.reduceAdd, List.getElem?_cons_zero, List.getElem?_cons_succ, Option.bind_some, List.map_cons, List.map_nil, Nat.zero_add, if_true, List.getD_cons_zero, List.getD_cons_succ, List.contains_cons, List.contains_nil, Nat.reduceBEq, Bool.or_true, Bool.true_or, Bool.or_false, Bool.false_or, Bool.not_true, Bool.not_false, true_and, and_true, rowA_whole, push_n, set_n, push_obj, set_obj, set_push, set_push_ne, set_set, Nat.add_assoc, Nat.left_eq_add, Nat.add_eq_left, Nat.add_left_cancel_iff, Nat.reduceEqDiff, stO_1s, stO_ws, boxA_s, one_bool, one_int, one_str, one_ptr, one_nilptr, one_slice, one_eslice, one_nilslice, one_func, one_iface, one_niliface, List.all_cons, List.all_nil, List.length_cons, List.length_nil, Nat.reduceLT, Nat.reduceEqDiff, Nat.reduceLeDiff, Bool.and_true, Nat.one_ne_zero, Nat.succ_ne_zero, reduceIte, if_false, List.getElem?_cons_zero, List.set_cons_zero, List.set_cons_succ]
    have lq := bq.lt
    by_cases c1 : k < parC bs
    · have d1 : decide ((0 : Int) < ((parC bs - k : Nat) : Int)) = true := decide_eq_true (by omega)
      cases c2 : (restD bs nn).2
      · simp only [i2, i4, i5, i6, i7, bb.eq, bq.eq, bB.eq, d1, c2, lay_nil, lay_1, lay_w, Option.map_some, go_sem, Hold.p, HoldK.k, HoldL.K, HoldL.body, Nat.reduceBEq, Nat.reduceAdd, List.getElem?_cons_zero, List.getElem?_cons_succ, Option.bind_some, List.map_cons, List.map_nil, Nat.zero_add, if_true, List.getD_cons_zero, List.getD_cons_succ, List.contains_cons, List.contains_nil, Nat.reduceBEq, Bool.or_true, Bool.true_or, Bool.or_false, Bool.false_or, Bool.not_true, Bool.not_false, true_and, and_true, rowA_whole, push_n, set_n, push_obj, set_obj, set_push, set_push_ne, set_set, Nat.add_assoc, Nat.left_eq_add, Nat.add_eq_left, Nat.add_left_cancel_iff, Nat.reduceEqDiff, stO_1s, stO_ws, boxA_s, one_bool, one_int, one_str, one_ptr, one_nilptr, one_slice, one_eslice, one_nilslice, one_func, one_iface, one_niliface, List.all_cons, List.all_nil, List.length_cons, List.length_nil, Nat.reduceLT, Nat.reduceEqDiff, Nat.reduceLeDiff, Bool.and_true, Nat.one_ne_zero, Nat.succ_ne_zero, reduceIte, if_false, List.getElem?_cons_zero, List.set_cons_zero, List.set_cons_succ]
        refine callA_of (numAt_c g' _ nn 4 bs B (by omega) hl) ?_
        rintro r h2 ⟨rfl, B2, U⟩
        replace bb := U.at0 bb (by omega)
        replace bq := U.at0 bq (by omega)
        replace E := U.ext0 E (by omega)
        replace oz := ownBut oz U (.inl (by omega))
        have u2 := U.le
        clear U B bB sB
        have nq : (p2 = h2.n) = False := by simp; omega
        simp only [i2, i4, i5, i6, i7, bb.eq, bq.eq, nq, bslA_1, lay_nil, lay_1, lay_w, Option.map_some, go_sem, Hold.p, HoldK.k, HoldL.K, HoldL.body, Nat.reduceBEq, Nat.reduceAdd, List.getElem?_cons_zero, List.getElem?_cons_succ, Option.bind_some, List.map_cons, List.map_nil, Nat.zero_add, if_true, List.getD_cons_zero, List.getD_cons_succ, List.contains_cons, List.contains_nil, Nat.reduceBEq, Bool.or_true, Bool.true_or, Bool.or_false, Bool.false_or, Bool.not_true, Bool.not_false, true_and, and_true, rowA_whole, push_n, set_n, push_obj, set_obj, set_push, set_push_ne, set_set, Nat.add_assoc, Nat.left_eq_add, Nat.add_eq_left, Nat.add_left_cancel_iff, Nat.reduceEqDiff, stO_1s, stO_ws, boxA_s, one_bool, one_int, one_str, one_ptr, one_nilptr, one_slice, one_eslice, one_nilslice, one_func, one_iface, one_niliface, List.all_cons, List.all_nil, List.length_cons, List.length_nil, Nat.reduceLT, Nat.reduceEqDiff, Nat.reduceLeDiff, Bool.and_true, Nat.one_ne_zero, Nat.succ_ne_zero, reduceIte, if_false, List.getElem?_cons_zero, List.set_cons_zero, List.set_cons_succ]
        generalize hq_g3 : IH.push h2 (IObj.rows [[IV.int .i64 (numB (pieceD bs nn 4))]] 2 1 false) = g3
        have e_g3 : Ext h2 g3 := by rw [← hq_g3]; exact (Ext.refl _).push _
        have l_g3 : g3.n = h2.n + 1 := by rw [← hq_g3]; rfl
        have bw : At g3 h2.n (IObj.rows [[IV.int .i64 (numB (pieceD bs nn 4))]] 2 1 false) := by rw [← hq_g3]; exact At.new _ _
        clear hq_g3
        have bb := bb.ext e_g3
        have bq := bq.ext e_g3
        have oz := oz.ext e_g3
        have E := E.ext e_g3
        have B2 := B2.ext e_g3
        refine oz.app (by simp) (by rw [intRows_len, parZ_len]; simp; omega) ?_
        intro v6 h6 o6 t6 n6 v6o v6c
        have B3 := B2.turn oz (by omega) t6
        have bb := bb.turn oz (by omega) t6
        have bq := bq.turn oz (by omega) t6
        have E := E.turn oz (by omega) t6
        have le_t6 := t6.le
        have o7 : Own g3.n (g3.n + 1) h6 2 1 v6 (intRows (parZ bs (k + 1))) := by
          rw [parZ_succ, intRows_append, ← hnn]; exact o6
        have w7 : wr .i64 (((parC bs - k : Nat) : Int) - 1) = ((parC bs - (k + 1) : Nat) : Int) := by rw [wr64 _ (by omega)]; omega
        have B4 := B3.other (q := p2) (o := IObj.rows [[IV.int .i64 (numB (pieceD bs 0 2)), IV.int .i64 (numB (pieceD bs 3 1)), IV.int .i64 (numB (pieceD bs 4 4)), IV.str (pieceD bs 9 (parM bs)), v6]] 44 5 false) (by omega) bq.eq (by decide)
        simp only [i2, i4, i5, i6, i7, bq.eq, v6o, v6c, w7, lay_nil, lay_1, lay_w, Option.map_some, go_sem, Hold.p, HoldK.k, HoldL.K, HoldL.body, Nat.reduceBEq, Nat.reduceAdd, List.getElem?_cons_zero, List.getElem?_cons_succ, Option.bind_some, List.map_cons, List.map_nil, Nat.zero_add, if_true, List.getD_cons_zero, List.getD_cons_succ, List.contains_cons, List.contains_nil, Nat.reduceBEq, Bool.or_true, Bool.true_or, Bool.or_false, Bool.false_or, Bool.not_true, Bool.not_false, true_and, and_true, rowA_whole, push_n, set_n, push_obj, set_obj, set_push, set_push_ne, set_set, Nat.add_assoc, Nat.left_eq_add, Nat.add_eq_left, Nat.add_left_cancel_iff, Nat.reduceEqDiff, stO_1s, stO_ws, boxA_s, one_bool, one_int, one_str, one_ptr, one_nilptr, one_slice, one_eslice, one_nilslice, one_func, one_iface, one_niliface, List.all_cons, List.all_nil, List.length_cons, List.length_nil, Nat.reduceLT, Nat.reduceEqDiff, Nat.reduceLeDiff, Bool.and_true, Nat.one_ne_zero, Nat.succ_ne_zero, reduceIte, if_false, List.getElem?_cons_zero, List.set_cons_zero, List.set_cons_succ]
        generalize hq_g9 : IH.set h6 (p2) (IObj.rows [[IV.int .i64 (numB (pieceD bs 0 2)), IV.int .i64 (numB (pieceD bs 3 1)), IV.int .i64 (numB (pieceD bs 4 4)), IV.str (pieceD bs 9 (parM bs)), v6]] 44 5 false) = g9
        have l_g9 : g9.n = h6.n := by rw [← hq_g9]; rfl
        have bq : At g9 (p2) (IObj.rows [[IV.int .i64 (numB (pieceD bs 0 2)), IV.int .i64 (numB (pieceD bs 3 1)), IV.int .i64 (numB (pieceD bs 4 4)), IV.str (pieceD bs 9 (parM bs)), v6]] 44 5 false) := by rw [← hq_g9]; exact bq.here
        have o7 := o7.set (m := p2) (by omega) (IObj.rows [[IV.int .i64 (numB (pieceD bs 0 2)), IV.int .i64 (numB (pieceD bs 3 1)), IV.int .i64 (numB (pieceD bs 4 4)), IV.str (pieceD bs 9 (parM bs)), v6]] 44 5 false)
        rw [hq_g9] at o7
        have bb := bb.set (p := p2) (o' := IObj.rows [[IV.int .i64 (numB (pieceD bs 0 2)), IV.int .i64 (numB (pieceD bs 3 1)), IV.int .i64 (numB (pieceD bs 4 4)), IV.str (pieceD bs 9 (parM bs)), v6]] 44 5 false) (by omega)
        rw [hq_g9] at bb
        have E := E.set (p2) (by omega) (IObj.rows [[IV.int .i64 (numB (pieceD bs 0 2)), IV.int .i64 (numB (pieceD bs 3 1)), IV.int .i64 (numB (pieceD bs 4 4)), IV.str (pieceD bs 9 (parM bs)), v6]] 44 5 false)
        rw [hq_g9] at E
        rw [hq_g9] at B4
        clear hq_g9
        refine ⟨_, ?_, k + 1, v6, g3.n, g3.n + 1, rfl, by omega, rfl, bb, bq, ?_, o7, by omega, by omega, E⟩
        · omega
        · have : nn + 4 = 10 + (parM bs + 4 * (k + 1)) := by omega
          rw [← this]; exact B4
      · have hsh : bs.length < nn := by
          unfold restD at c2
          split at c2
          · assumption
          · cases c2
        have hdec := par_dec hk (by omega)
        simp only [i2, i4, i5, i6, i7, bb.eq, bq.eq, bB.eq, d1, c2, lay_nil, lay_1, lay_w, Option.map_some, go_sem, Hold.p, HoldK.k, HoldL.K, HoldL.body, Nat.reduceBEq, Nat.reduceAdd, List.getElem?_cons_zero, List.getElem?_cons_succ, Option.bind_some, List.map_cons, List.map_nil, Nat.zero_add, if_true, List.getD_cons_zero, List.getD_cons_succ, List.contains_cons, List.contains_nil, Nat.reduceBEq, Bool.or_true, Bool.true_or, Bool.or_false, Bool.false_or, Bool.not_true, Bool.not_false, true_and, and_true, rowA_whole, push_n, set_n, push_obj, set_obj, set_push, set_push_ne, set_set, Nat.add_assoc, Nat.left_eq_add, Nat.add_eq_left, Nat.add_left_cancel_iff, Nat.reduceEqDiff, stO_1s, stO_ws, boxA_s, one_bool, one_int, one_str, one_ptr, one_nilptr, one_slice, one_eslice, one_nilslice, one_func, one_iface, one_niliface, List.all_cons, List.all_nil, List.length_cons, List.length_nil, Nat.reduceLT, Nat.reduceEqDiff, Nat.reduceLeDiff, Bool.and_true, Nat.one_ne_zero, Nat.succ_ne_zero, reduceIte, if_false, List.getElem?_cons_zero, List.set_cons_zero, List.set_cons_succ]
        refine callA_of (codeAt_c g' _ nn bs (numB (pieceD bs 2 1)) 1 (pieceD bs 9 (parM bs)) B hl (by omega)) ?_
        rintro r h7 ⟨rfl, E7⟩
        have bb := bb.ext E7
        have bq := bq.ext E7
        have oz := oz.ext E7
        have E := E.ext E7
        have le_E7 := E7.le
        have hz := codeAt_zero (bs := bs) (n := nn) (kind := numB (pieceD bs 2 1)) (want := 1) (nm := pieceD bs 9 (parM bs))
        have he : parErr bs k = if codeAt bs nn (numB (pieceD bs 2 1)) 1 (pieceD bs 9 (parM bs)) = 0 then (if (parAt bs k).ok = true then 0 else 1) else codeAt bs nn (numB (pieceD bs 2 1)) 1 (pieceD bs 9 (parM bs)) := by unfold parErr; rw [← hnn]; rfl
        generalize codeAt bs nn (numB (pieceD bs 2 1)) 1 (pieceD bs 9 (parM bs)) = cd at he hz ⊢
        by_cases c0 : cd = 0
        · have d0 : decide (cd = 0) = true := decide_eq_true c0
          rw [if_pos c0] at he
          simp only [i2, i5, bb.eq, bq.eq, d0, lay_nil, lay_1, lay_w, Option.map_some, go_sem, Hold.p, HoldK.k, HoldL.K, HoldL.body, Nat.reduceBEq, Nat.reduceAdd, List.getElem?_cons_zero, List.getElem?_cons_succ, Option.bind_some, List.map_cons, List.map_nil, Nat.zero_add, if_true, List.getD_cons_zero, List.getD_cons_succ, List.contains_cons, List.contains_nil, Nat.reduceBEq, Bool.or_true, Bool.true_or, Bool.or_false, Bool.false_or, Bool.not_true, Bool.not_false, true_and, and_true, rowA_whole, push_n, set_n, push_obj, set_obj, set_push, set_push_ne, set_set, Nat.add_assoc, Nat.left_eq_add, Nat.add_eq_left, Nat.add_left_cancel_iff, Nat.reduceEqDiff, stO_1s, stO_ws, boxA_s, one_bool, one_int, one_str, one_ptr, one_nilptr, one_slice, one_eslice, one_nilslice, one_func, one_iface, one_niliface, List.all_cons, List.all_nil, List.length_cons, List.length_nil, Nat.reduceLT, Nat.reduceEqDiff, Nat.reduceLeDiff, Bool.and_true, Nat.one_ne_zero, Nat.succ_ne_zero, reduceIte, if_false, List.getElem?_cons_zero, List.set_cons_zero, List.set_cons_succ]
          refine callA_of (okReply_c _ (parAt bs k).id (parAt bs k).code (parAt bs k).ttl (parAt bs k).nm vz (parAt bs k).zs oz.sl (by show (parZ bs k).length ≤ _; rw [parZ_len]; omega)) ?_
          rintro r h8 ⟨⟨b, rfl, hb⟩, E8⟩
          have bb := bb.ext E8
          have bq := bq.ext E8
          have oz := oz.ext E8
          have E := E.ext E8
          have le_E8 := E8.le
          have hb2 : b = (parAt bs k).ok := by
            have h1 : okName (parAt bs k).nm = true := hz c0
            rw [h1, Bool.and_true] at hb; exact hb
          rw [← hb2] at he
          cases b
          · have he1 : parErr bs k = 1 := he
            rw [he1] at hdec
            have hdec1 : decR bs = (.zero, 1) := hdec
            have d9 : decide ((1 : Int) = 0) = false := by decide
            simp only [i2, i5, bb.eq, bq.eq, d0, d9, lay_nil, lay_1, lay_w, Option.map_some, go_sem, Hold.p, HoldK.k, HoldL.K, HoldL.body, Nat.reduceBEq, Nat.reduceAdd, List.getElem?_cons_zero, List.getElem?_cons_succ, Option.bind_some, List.map_cons, List.map_nil, Nat.zero_add, if_true, List.getD_cons_zero, List.getD_cons_succ, List.contains_cons, List.contains_nil, Nat.reduceBEq, Bool.or_true, Bool.true_or, Bool.or_false, Bool.false_or, Bool.not_true, Bool.not_false, true_and, and_true, rowA_whole, push_n, set_n, push_obj, set_obj, set_push, set_push_ne, set_set, Nat.add_assoc, Nat.left_eq_add, Nat.add_eq_left, Nat.add_left_cancel_iff, Nat.reduceEqDiff, stO_1s, stO_ws, boxA_s, one_bool, one_int, one_str, one_ptr, one_nilptr, one_slice, one_eslice, one_nilslice, one_func, one_iface, one_niliface, List.all_cons, List.all_nil, List.length_cons, List.length_nil, Nat.reduceLT, Nat.reduceEqDiff, Nat.reduceLeDiff, Bool.and_true, Nat.one_ne_zero, Nat.succ_ne_zero, reduceIte, if_false, List.getElem?_cons_zero, List.set_cons_zero, List.set_cons_succ]
            rw [hdec1]
            exact ⟨_, rfl, Own.nil, E.set _ (Nat.le_refl _) _⟩
          · have he1 : parErr bs k = 0 := he
            rw [he1] at hdec
            have hdec1 : decR bs = (parAt bs k, 0) := hdec
            have vo := oz.sl.one
            have vc := oz.sl.cells
            simp only [i2, i5, bb.eq, bq.eq, d0, vo, vc, lay_nil, lay_1, lay_w, Option.map_some, go_sem, Hold.p, HoldK.k, HoldL.K, HoldL.body, Nat.reduceBEq, Nat.reduceAdd, List.getElem?_cons_zero, List.getElem?_cons_succ, Option.bind_some, List.map_cons, List.map_nil, Nat.zero_add, if_true, List.getD_cons_zero, List.getD_cons_succ, List.contains_cons, List.contains_nil, Nat.reduceBEq, Bool.or_true, Bool.true_or, Bool.or_false, Bool.false_or, Bool.not_true, Bool.not_false, true_and, and_true, rowA_whole, push_n, set_n, push_obj, set_obj, set_push, set_push_ne, set_set, Nat.add_assoc, Nat.left_eq_add, Nat.add_eq_left, Nat.add_left_cancel_iff, Nat.reduceEqDiff, stO_1s, stO_ws, boxA_s, one_bool, one_int, one_str, one_ptr, one_nilptr, one_slice, one_eslice, one_nilslice, one_func, one_iface, one_niliface, List.all_cons, List.all_nil, List.length_cons, List.length_nil, Nat.reduceLT, Nat.reduceEqDiff, Nat.reduceLeDiff, Bool.and_true, Nat.one_ne_zero, Nat.succ_ne_zero, reduceIte, if_false, List.getElem?_cons_zero, List.set_cons_zero, List.set_cons_succ]
            rw [hdec1]
            exact ⟨vz, rfl, (Own.set oz (m := h.n) (by omega) _).wide (by omega) (by rw [set_n]; omega) (Nat.le_refl _), E.set _ (Nat.le_refl _) _⟩
        · have d0 : decide (cd = 0) = false := decide_eq_false c0
          rw [if_neg c0] at he
          rw [he, if_neg c0] at hdec
          simp only [i2, i5, bb.eq, bq.eq, d0, lay_nil, lay_1, lay_w, Option.map_some, go_sem, Hold.p, HoldK.k, HoldL.K, HoldL.body, Nat.reduceBEq, Nat.reduceAdd, List.getElem?_cons_zero, List.getElem?_cons_succ, Option.bind_some, List.map_cons, List.map_nil, Nat.zero_add, if_true, List.getD_cons_zero, List.getD_cons_succ, List.contains_cons, List.contains_nil, Nat.reduceBEq, Bool.or_true, Bool.true_or, Bool.or_false, Bool.false_or, Bool.not_true, Bool.not_false, true_and, and_true, rowA_whole, push_n, set_n, push_obj, set_obj, set_push, set_push_ne, set_set, Nat.add_assoc, Nat.left_eq_add, Nat.add_eq_left, Nat.add_left_cancel_iff, Nat.reduceEqDiff, stO_1s, stO_ws, boxA_s, one_bool, one_int, one_str, one_ptr, one_nilptr, one_slice, one_eslice, one_nilslice, one_func, one_iface, one_niliface, List.all_cons, List.all_nil, List.length_cons, List.length_nil, Nat.reduceLT, Nat.reduceEqDiff, Nat.reduceLeDiff, Bool.and_true, Nat.one_ne_zero, Nat.succ_ne_zero, reduceIte, if_false, List.getElem?_cons_zero, List.set_cons_zero, List.set_cons_succ]
          rw [hdec]
          exact ⟨_, rfl, Own.nil, E.set _ (Nat.le_refl _) _⟩
    · have d1 : decide ((0 : Int) < ((parC bs - k : Nat) : Int)) = false := decide_eq_false (by omega)
      have hdec := par_dec hk (by omega)
      simp only [i2, i4, i5, i6, i7, bb.eq, bq.eq, bB.eq, d1, lay_nil, lay_1, lay_w, Option.map_some, go_sem, Hold.p, HoldK.k, HoldL.K, HoldL.body, Nat.reduceBEq, Nat.reduceAdd, List.getElem?_cons_zero, List.getElem?_cons_succ, Option.bind_some, List.map_cons, List.map_nil, Nat.zero_add, if_true, List.getD_cons_zero, List.getD_cons_succ, List.contains_cons, List.contains_nil, Nat.reduceBEq, Bool.or_true, Bool.true_or, Bool.or_false, Bool.false_or, Bool.not_true, Bool.not_false, true_and, and_true, rowA_whole, push_n, set_n, push_obj, set_obj, set_push, set_push_ne, set_set, Nat.add_assoc, Nat.left_eq_add, Nat.add_eq_left, Nat.add_left_cancel_iff, Nat.reduceEqDiff, stO_1s, stO_ws, boxA_s, one_bool, one_int, one_str, one_ptr, one_nilptr, one_slice, one_eslice, one_nilslice, one_func, one_iface, one_niliface, List.all_cons, List.all_nil, List.length_cons, List.length_nil, Nat.reduceLT, Nat.reduceEqDiff, Nat.reduceLeDiff, Bool.and_true, Nat.one_ne_zero, Nat.succ_ne_zero, reduceIte, if_false, List.getElem?_cons_zero, List.set_cons_zero, List.set_cons_succ]
      refine callA_of (codeAt_c g' _ nn bs (numB (pieceD bs 2 1)) 1 (pieceD bs 9 (parM bs)) B hl (by omega)) ?_
      rintro r h7 ⟨rfl, E7⟩
      have bb := bb.ext E7
      have bq := bq.ext E7
      have oz := oz.ext E7
      have E := E.ext E7
      have le_E7 := E7.le
      have hz := codeAt_zero (bs := bs) (n := nn) (kind := numB (pieceD bs 2 1)) (want := 1) (nm := pieceD bs 9 (parM bs))
      have he : parErr bs k = if codeAt bs nn (numB (pieceD bs 2 1)) 1 (pieceD bs 9 (parM bs)) = 0 then (if (parAt bs k).ok = true then 0 else 1) else codeAt bs nn (numB (pieceD bs 2 1)) 1 (pieceD bs 9 (parM bs)) := by unfold parErr; rw [← hnn]; rfl
      generalize codeAt bs nn (numB (pieceD bs 2 1)) 1 (pieceD bs 9 (parM bs)) = cd at he hz ⊢
      by_cases c0 : cd = 0
      · have d0 : decide (cd = 0) = true := decide_eq_true c0
        rw [if_pos c0] at he
        simp only [i2, i5, bb.eq, bq.eq, d0, lay_nil, lay_1, lay_w, Option.map_some, go_sem, Hold.p, HoldK.k, HoldL.K, HoldL.body, Nat.reduceBEq, Nat.reduceAdd, List.getElem?_cons_zero, List.getElem?_cons_succ, Option.bind_some, List.map_cons, List.map_nil, Nat.zero_add, if_true, List.getD_cons_zero, List.getD_cons_succ, List.contains_cons, List.contains_nil, Nat.reduceBEq, Bool.or_true, Bool.true_or, Bool.or_false, Bool.false_or, Bool.not_true, Bool.not_false, true_and, and_true, rowA_whole, push_n, set_n, push_obj, set_obj, set_push, set_push_ne, set_set, Nat.add_assoc, Nat.left_eq_add, Nat.add_eq_left, Nat.add_left_cancel_iff, Nat.reduceEqDiff, stO_1s, stO_ws, boxA_s, one_bool, one_int, one_str, one_ptr, one_nilptr, one_slice, one_eslice, one_nilslice, one_func, one_iface, one_niliface, List.all_cons, List.all_nil, List.length_cons, List.length_nil, Nat.reduceLT, Nat.reduceEqDiff, Nat.reduceLeDiff, Bool.and_true, Nat.one_ne_zero, Nat.succ_ne_zero, reduceIte, if_false, List.getElem?_cons_zero, List.set_cons_zero, List.set_cons_succ]
        refine callA_of (okReply_c _ (parAt bs k).id (parAt bs k).code (parAt bs k).ttl (parAt bs k).nm vz (parAt bs k).zs oz.sl (by show (parZ bs k).length ≤ _; rw [parZ_len]; omega)) ?_
        rintro r h8 ⟨⟨b, rfl, hb⟩, E8⟩
        have bb := bb.ext E8
        have bq := bq.ext E8
        have oz := oz.ext E8
        have E := E.ext E8
        have le_E8 := E8.le
        have hb2 : b = (parAt bs k).ok := by
          have h1 : okName (parAt bs k).nm = true := hz c0
          rw [h1, Bool.and_true] at hb; exact hb
        rw [← hb2] at he
        cases b
        · have he1 : parErr bs k = 1 := he
          rw [he1] at hdec
          have hdec1 : decR bs = (.zero, 1) := hdec
          have d9 : decide ((1 : Int) = 0) = false := by decide
          simp only [i2, i5, bb.eq, bq.eq, d0, d9, lay_nil, lay_1, lay_w, Option.map_some, go_sem, Hold.p, HoldK.k, HoldL.K, HoldL.body, Nat.reduceBEq, Nat.reduceAdd, List.getElem?_cons_zero, List.getElem?_cons_succ, Option.bind_some, List.map_cons, List.map_nil, Nat.zero_add, if_true, List.getD_cons_zero, List.getD_cons_succ, List.contains_cons, List.contains_nil, Nat.reduceBEq, Bool.or_true, Bool.true_or, Bool.or_false, Bool.false_or, Bool.not_true, Bool.not_false, true_and, and_true, rowA_whole, push_n, set_n, push_obj, set_obj, set_push, set_push_ne, set_set, Nat.add_assoc, Nat.left_eq_add, Nat.add_eq_left, Nat.add_left_cancel_iff, Nat.reduceEqDiff, stO_1s, stO_ws, boxA_s, one_bool, one_int, one_str, one_ptr, one_nilptr, one_slice, one_eslice, one_nilslice, one_func, one_iface, one_niliface, List.all_cons, List.all_nil, List.length_cons, List.length_nil, Nat.reduceLT, Nat.reduceEqDiff, Nat.reduceLeDiff, Bool.and_true, Nat.one_ne_zero, Nat.succ_ne_zero, reduceIte, if_false, List.getElem?_cons_zero, List.set_cons_zero, List.set_cons_succ]
          rw [hdec1]
          exact ⟨_, rfl, Own.nil, E.set _ (Nat.le_refl _) _⟩
        · have he1 : parErr bs k = 0 := he
          rw [he1] at hdec
          have hdec1 : decR bs = (parAt bs k, 0) := hdec
          have vo := oz.sl.one
          have vc := oz.sl.cells
          simp only [i2, i5, bb.eq, bq.eq, d0, vo, vc, lay_nil, lay_1, lay_w, Option.map_some, go_sem, Hold.p, HoldK.k, HoldL.K, HoldL.body, Nat.reduceBEq, Nat.reduceAdd, List.getElem?_cons_zero, List.getElem?_cons_succ, Option.bind_some, List.map_cons, List.map_nil, Nat.zero_add, if_true, List.getD_cons_zero, List.getD_cons_succ, List.contains_cons, List.contains_nil, Nat.reduceBEq, Bool.or_true, Bool.true_or, Bool.or_false, Bool.false_or, Bool.not_true, Bool.not_false, true_and, and_true, rowA_whole, push_n, set_n, push_obj, set_obj, set_push, set_push_ne, set_set, Nat.add_assoc, Nat.left_eq_add, Nat.add_eq_left, Nat.add_left_cancel_iff, Nat.reduceEqDiff, stO_1s, stO_ws, boxA_s, one_bool, one_int, one_str, one_ptr, one_nilptr, one_slice, one_eslice, one_nilslice, one_func, one_iface, one_niliface, List.all_cons, List.all_nil, List.length_cons, List.length_nil, Nat.reduceLT, Nat.reduceEqDiff, Nat.reduceLeDiff, Bool.and_true, Nat.one_ne_zero, Nat.succ_ne_zero, reduceIte, if_false, List.getElem?_cons_zero, List.set_cons_zero, List.set_cons_succ]
          rw [hdec1]
          exact ⟨vz, rfl, (Own.set oz (m := h.n) (by omega) _).wide (by omega) (by rw [set_n]; omega) (Nat.le_refl _), E.set _ (Nat.le_refl _) _⟩
      · have d0 : decide (cd = 0) = false := decide_eq_false c0
        rw [if_neg c0] at he
        rw [he, if_neg c0] at hdec
        simp only [i2, i5, bb.eq, bq.eq, d0, lay_nil, lay_1, lay_w, Option.map_some, go_sem, Hold.p, HoldK.k, HoldL.K, HoldL.body, Nat.reduceBEq, Nat.reduceAdd, List.getElem?_cons_zero, List.getElem?_cons_succ, Option.bind_some, List.map_cons, List.map_nil, Nat.zero_add, if_true, List.getD_cons_zero, List.getD_cons_succ, List.contains_cons, List.contains_nil, Nat.reduceBEq, Bool.or_true, Bool.true_or, Bool.or_false, Bool.false_or, Bool.not_true, Bool.not_false, true_and, and_true, rowA_whole, push_n, set_n, push_obj, set_obj, set_push, set_push_ne, set_set, Nat.add_assoc, Nat.left_eq_add, Nat.add_eq_left, Nat.add_left_cancel_iff, Nat.reduceEqDiff, stO_1s, stO_ws, boxA_s, one_bool, one_int, one_str, one_ptr, one_nilptr, one_slice, one_eslice, one_nilslice, one_func, one_iface, one_niliface, List.all_cons, List.all_nil, List.length_cons, List.length_nil, Nat.reduceLT, Nat.reduceEqDiff, Nat.reduceLeDiff, Bool.and_true, Nat.one_ne_zero, Nat.succ_ne_zero, reduceIte, if_false, List.getElem?_cons_zero, List.set_cons_zero, List.set_cons_succ]
        rw [hdec]
        exact ⟨_, rfl, Own.nil, E.set _ (Nat.le_refl _) _⟩
end Go.Proofs.YtcmcfmgabafljaaDoor

namespace Go.Proofs.YtcmcfmgabafljaaDoor
open Go Go.IW

set_option maxRecDepth 20000 in
theorem heldNameReply_c (h : IH) (id code ttl : Int) (nm : List UInt8) (v : IV) (n k0 : Nat) (hs : SlR h 1 v (marksI n k0)) (hk : k0 + n < 4611686018427387904) :
    ICalls Tryd.prog 33 [.agg [.int .i64 id, .int .i64 code, .int .i64 ttl, .str nm, v], .int .i64 k0] h fun r h' => r = .int .i64 ((k0 + n : Nat) : Int) ∧ Ext h h' := by
  refine icalls (.of ok33) (Nat.le_of_ble_eq_true rfl) ?_
  unfold c33
  have v1 := hs.one
  have v2 := hs.cells
  simp only [v1, go_sem, Hold.p, HoldK.k, HoldL.K, HoldL.body, Nat.reduceBEq, Nat.reduceAdd, List.getElem?_cons_zero, List.getElem?_cons_succ, Option.bind_some, List.map_cons, List.map_nil, Nat.zero_add, if_true, List.getD_cons_zero, List.getD_cons_succ, List.contains_cons, List.contains_nil, Nat.reduceBEq, Bool.or_true, Bool.true_or, Bool.or_false, Bool.false_or, Bool.not_true, Bool.not_false, true_and, and_true, rowA_whole, push_n, set_n, push_obj, set_obj, set_push, set_push_ne, set_set, Nat.add_assoc, Nat.left_eq_add, Nat.add_eq_left, Nat.add_left_cancel_iff, Nat.reduceEqDiff, stO_1s, stO_ws, boxA_s, one_bool, one_int, one_str, one_ptr, one_nilptr, one_slice, one_eslice, one_nilslice, one_func, one_iface, one_niliface, List.all_cons, List.all_nil, List.length_cons, List.length_nil, Nat.reduceLT, Nat.reduceEqDiff, Nat.reduceLeDiff, Bool.and_true, Nat.one_ne_zero, Nat.succ_ne_zero, reduceIte, if_false, List.getElem?_cons_zero, List.set_cons_zero, List.set_cons_succ]
  generalize hq_g0 : IH.push h (IObj.rows [[IV.int .i64 id, IV.int .i64 code, IV.int .i64 ttl, IV.str nm, v]] 44 5 false) = g0
  have e_g0 : Ext h g0 := by rw [← hq_g0]; exact (Ext.refl _).push _
  have l_g0 : g0.n = h.n + 1 := by rw [← hq_g0]; rfl
  have bb : At g0 h.n (IObj.rows [[IV.int .i64 id, IV.int .i64 code, IV.int .i64 ttl, IV.str nm, v]] 44 5 false) := by rw [← hq_g0]; exact At.new _ _
  clear hq_g0
  have hs := hs.ext e_g0
  refine callA_of (heldInt64S_c _ v n k0 hs hk) ?_
  rintro r h' ⟨rfl, rfl⟩
  have hq : decide (((k0 + n : Nat) : Int) < 0) = false := decide_eq_false (by omega)
  simp only [hq, go_sem, Hold.p, HoldK.k, HoldL.K, HoldL.body, Nat.reduceBEq, Nat.reduceAdd, List.getElem?_cons_zero, List.getElem?_cons_succ, Option.bind_some, List.map_cons, List.map_nil, Nat.zero_add, if_true, List.getD_cons_zero, List.getD_cons_succ, List.contains_cons, List.contains_nil, Nat.reduceBEq, Bool.or_true, Bool.true_or, Bool.or_false, Bool.false_or, Bool.not_true, Bool.not_false, true_and, and_true, rowA_whole, push_n, set_n, push_obj, set_obj, set_push, set_push_ne, set_set, Nat.add_assoc, Nat.left_eq_add, Nat.add_eq_left, Nat.add_left_cancel_iff, Nat.reduceEqDiff, stO_1s, stO_ws, boxA_s, one_bool, one_int, one_str, one_ptr, one_nilptr, one_slice, one_eslice, one_nilslice, one_func, one_iface, one_niliface, List.all_cons, List.all_nil, List.length_cons, List.length_nil, Nat.reduceLT, Nat.reduceEqDiff, Nat.reduceLeDiff, Bool.and_true, Nat.one_ne_zero, Nat.succ_ne_zero, reduceIte, if_false, List.getElem?_cons_zero, List.set_cons_zero, List.set_cons_succ]
  exact e_g0
theorem decR_len {bs : List UInt8} (h : bs.length ≤ 1048576) : (decR bs).1.zs.length ≤ 1000 := by
  unfold decR
  split
  · simp [RepV.zero]
  · split
    · simp [RepV.zero]
    · split
      · simp [RepV.zero]
      · split
        · simp [RepV.zero]
        · split
          · show (wordsAt bs (10 + repM bs) (repC bs)).length ≤ 1000
            rw [wordsAt_len]
            have : repC bs < 256 := (bs.getD (9 + repM bs) 0).toNat_lt
            omega
          · simp [RepV.zero]

set_option maxRecDepth 20000 in
theorem lawDecodeReply : LawTrue Tryd.prog 7 [(.slice (.int .u8), false)] := by
  rintro h ivs ha ⟨iv, r, rfl, ⟨v, rs, hiv, hs, hm, hf⟩, rfl⟩
  obtain rfl := List.cons.inj hiv |>.1
  obtain ⟨bs, rfl⟩ := fits_bytes hf
  refine icalls (.of ok7) (Nat.le_of_ble_eq_true rfl) ?_
  unfold c7
  have hlen := hs.lenF
  rw [strRows_len] at hlen
  have hs : SlR h 1 iv (strRows bs) := hs
  by_cases hbig : (1048576 : Int) < bs.length
  · have hn : decide ((1048576 : Int) < (bs.length : Int)) = true := decide_eq_true hbig
    simp only [hlen, hn, go_sem, Hold.p, HoldK.k, HoldL.K, HoldL.body, Nat.reduceBEq, Nat.reduceAdd, List.getElem?_cons_zero, List.getElem?_cons_succ, Option.bind_some, List.map_cons, List.map_nil, Nat.zero_add, if_true, List.getD_cons_zero, List.getD_cons_succ, List.contains_cons, List.contains_nil, Nat.reduceBEq, Bool.or_true, Bool.true_or, Bool.or_false, Bool.false_or, Bool.not_true, Bool.not_false, true_and, and_true, rowA_whole, push_n, set_n, push_obj, set_obj, set_push, set_push_ne, set_set, Nat.add_assoc, Nat.left_eq_add, Nat.add_eq_left, Nat.add_left_cancel_iff, Nat.reduceEqDiff, stO_1s, stO_ws, boxA_s, one_bool, one_int, one_str, one_ptr, one_nilptr, one_slice, one_eslice, one_nilslice, one_func, one_iface, one_niliface, List.all_cons, List.all_nil, List.length_cons, List.length_nil, Nat.reduceLT, Nat.reduceEqDiff, Nat.reduceLeDiff, Bool.and_true, Nat.one_ne_zero, Nat.succ_ne_zero, reduceIte, if_false, List.getElem?_cons_zero, List.set_cons_zero, List.set_cons_succ]
  · have hn : decide ((1048576 : Int) < (bs.length : Int)) = false := decide_eq_false hbig
    have hl : bs.length ≤ 1048576 := by omega
    have aA := Arg.of hs
    simp only [hlen, hn, go_sem, Hold.p, HoldK.k, HoldL.K, HoldL.body, Nat.reduceBEq, Nat.reduceAdd, List.getElem?_cons_zero, List.getElem?_cons_succ, Option.bind_some, List.map_cons, List.map_nil, Nat.zero_add, if_true, List.getD_cons_zero, List.getD_cons_succ, List.contains_cons, List.contains_nil, Nat.reduceBEq, Bool.or_true, Bool.true_or, Bool.or_false, Bool.false_or, Bool.not_true, Bool.not_false, true_and, and_true, rowA_whole, push_n, set_n, push_obj, set_obj, set_push, set_push_ne, set_set, Nat.add_assoc, Nat.left_eq_add, Nat.add_eq_left, Nat.add_left_cancel_iff, Nat.reduceEqDiff, stO_1s, stO_ws, boxA_s, one_bool, one_int, one_str, one_ptr, one_nilptr, one_slice, one_eslice, one_nilslice, one_func, one_iface, one_niliface, List.all_cons, List.all_nil, List.length_cons, List.length_nil, Nat.reduceLT, Nat.reduceEqDiff, Nat.reduceLeDiff, Bool.and_true, Nat.one_ne_zero, Nat.succ_ne_zero, reduceIte, if_false, List.getElem?_cons_zero, List.set_cons_zero, List.set_cons_succ]
    refine callA_of (toByteS_c _ iv bs hs hl) ?_
    rintro v1 h1 ⟨o1, hE1⟩
    have aA := aA.ext hE1
    have le_hE1 := hE1.le
    simp only [go_sem, Hold.p, HoldK.k, HoldL.K, HoldL.body, Nat.reduceBEq, Nat.reduceAdd, List.getElem?_cons_zero, List.getElem?_cons_succ, Option.bind_some, List.map_cons, List.map_nil, Nat.zero_add, if_true, List.getD_cons_zero, List.getD_cons_succ, List.contains_cons, List.contains_nil, Nat.reduceBEq, Bool.or_true, Bool.true_or, Bool.or_false, Bool.false_or, Bool.not_true, Bool.not_false, true_and, and_true, rowA_whole, push_n, set_n, push_obj, set_obj, set_push, set_push_ne, set_set, Nat.add_assoc, Nat.left_eq_add, Nat.add_eq_left, Nat.add_left_cancel_iff, Nat.reduceEqDiff, stO_1s, stO_ws, boxA_s, one_bool, one_int, one_str, one_ptr, one_nilptr, one_slice, one_eslice, one_nilslice, one_func, one_iface, one_niliface, List.all_cons, List.all_nil, List.length_cons, List.length_nil, Nat.reduceLT, Nat.reduceEqDiff, Nat.reduceLeDiff, Bool.and_true, Nat.one_ne_zero, Nat.succ_ne_zero, reduceIte, if_false, List.getElem?_cons_zero, List.set_cons_zero, List.set_cons_succ]
    refine callA_of (specDecodeReply_c _ v1 bs o1.sl hl) ?_
    rintro r h2 ⟨vW, rfl, oW, hE2⟩
    have aA := aA.ext hE2
    have le_hE2 := hE2.le
    have hzl := decR_len hl
    generalize hd : decR bs = dr at oW hzl
    obtain ⟨⟨id, code, ttl, nm, zs⟩, qc⟩ := dr
    simp only at oW hzl
    have wo := oW.sl.one
    have wc := oW.sl.cells
    simp only [wo, wc, go_sem, Hold.p, HoldK.k, HoldL.K, HoldL.body, Nat.reduceBEq, Nat.reduceAdd, List.getElem?_cons_zero, List.getElem?_cons_succ, Option.bind_some, List.map_cons, List.map_nil, Nat.zero_add, if_true, List.getD_cons_zero, List.getD_cons_succ, List.contains_cons, List.contains_nil, Nat.reduceBEq, Bool.or_true, Bool.true_or, Bool.or_false, Bool.false_or, Bool.not_true, Bool.not_false, true_and, and_true, rowA_whole, push_n, set_n, push_obj, set_obj, set_push, set_push_ne, set_set, Nat.add_assoc, Nat.left_eq_add, Nat.add_eq_left, Nat.add_left_cancel_iff, Nat.reduceEqDiff, stO_1s, stO_ws, boxA_s, one_bool, one_int, one_str, one_ptr, one_nilptr, one_slice, one_eslice, one_nilslice, one_func, one_iface, one_niliface, List.all_cons, List.all_nil, List.length_cons, List.length_nil, Nat.reduceLT, Nat.reduceEqDiff, Nat.reduceLeDiff, Bool.and_true, Nat.one_ne_zero, Nat.succ_ne_zero, reduceIte, if_false, List.getElem?_cons_zero, List.set_cons_zero, List.set_cons_succ]
    generalize hq_g3 : IH.push h2 (IObj.rows [[IV.int .i64 id, IV.int .i64 code, IV.int .i64 ttl, IV.str nm, vW]] 44 5 false) = g3
    have e_g3 : Ext h2 g3 := by rw [← hq_g3]; exact (Ext.refl _).push _
    have l_g3 : g3.n = h2.n + 1 := by rw [← hq_g3]; rfl
    have bW : At g3 h2.n (IObj.rows [[IV.int .i64 id, IV.int .i64 code, IV.int .i64 ttl, IV.str nm, vW]] 44 5 false) := by rw [← hq_g3]; exact At.new _ _
    clear hq_g3
    have aA := aA.ext e_g3
    have oW := oW.ext e_g3
    refine callA_of (toByteS_c _ iv bs aA.sl hl) ?_
    rintro v4 h4 ⟨o4, hE4⟩
    have aA := aA.ext hE4
    have bW := bW.ext hE4
    have oW := oW.ext hE4
    have le_hE4 := hE4.le
    simp only [bW.eq, go_sem, Hold.p, HoldK.k, HoldL.K, HoldL.body, Nat.reduceBEq, Nat.reduceAdd, List.getElem?_cons_zero, List.getElem?_cons_succ, Option.bind_some, List.map_cons, List.map_nil, Nat.zero_add, if_true, List.getD_cons_zero, List.getD_cons_succ, List.contains_cons, List.contains_nil, Nat.reduceBEq, Bool.or_true, Bool.true_or, Bool.or_false, Bool.false_or, Bool.not_true, Bool.not_false, true_and, and_true, rowA_whole, push_n, set_n, push_obj, set_obj, set_push, set_push_ne, set_set, Nat.add_assoc, Nat.left_eq_add, Nat.add_eq_left, Nat.add_left_cancel_iff, Nat.reduceEqDiff, stO_1s, stO_ws, boxA_s, one_bool, one_int, one_str, one_ptr, one_nilptr, one_slice, one_eslice, one_nilslice, one_func, one_iface, one_niliface, List.all_cons, List.all_nil, List.length_cons, List.length_nil, Nat.reduceLT, Nat.reduceEqDiff, Nat.reduceLeDiff, Bool.and_true, Nat.one_ne_zero, Nat.succ_ne_zero, reduceIte, if_false, List.getElem?_cons_zero, List.set_cons_zero, List.set_cons_succ]
    refine callA_of (implDecodeReply_c _ v4 bs o4.sl hl) ?_
    rintro r h5 ⟨vG, rfl, oG, hE5⟩
    rw [hd] at oG ⊢
    simp only at oG ⊢
    have aA := aA.ext hE5
    have bW := bW.ext hE5
    have oW := oW.ext hE5
    have o4 := o4.ext hE5
    have le_hE5 := hE5.le
    have go := oG.sl.one
    have gc := oG.sl.cells
    have hne : (h2.n = h5.n) = False := by have := bW.lt; simp; omega
    simp only [bW.eq, hne, go, gc, go_sem, Hold.p, HoldK.k, HoldL.K, HoldL.body, Nat.reduceBEq, Nat.reduceAdd, List.getElem?_cons_zero, List.getElem?_cons_succ, Option.bind_some, List.map_cons, List.map_nil, Nat.zero_add, if_true, List.getD_cons_zero, List.getD_cons_succ, List.contains_cons, List.contains_nil, Nat.reduceBEq, Bool.or_true, Bool.true_or, Bool.or_false, Bool.false_or, Bool.not_true, Bool.not_false, true_and, and_true, rowA_whole, push_n, set_n, push_obj, set_obj, set_push, set_push_ne, set_set, Nat.add_assoc, Nat.left_eq_add, Nat.add_eq_left, Nat.add_left_cancel_iff, Nat.reduceEqDiff, stO_1s, stO_ws, boxA_s, one_bool, one_int, one_str, one_ptr, one_nilptr, one_slice, one_eslice, one_nilslice, one_func, one_iface, one_niliface, List.all_cons, List.all_nil, List.length_cons, List.length_nil, Nat.reduceLT, Nat.reduceEqDiff, Nat.reduceLeDiff, Bool.and_true, Nat.one_ne_zero, Nat.succ_ne_zero, reduceIte, if_false, List.getElem?_cons_zero, List.set_cons_zero, List.set_cons_succ]
    generalize hq_g6 : IH.push h5 (IObj.rows [[IV.int .i64 id, IV.int .i64 code, IV.int .i64 ttl, IV.str nm, vG]] 44 5 false) = g6
    have e_g6 : Ext h5 g6 := by rw [← hq_g6]; exact (Ext.refl _).push _
    have l_g6 : g6.n = h5.n + 1 := by rw [← hq_g6]; rfl
    have bG : At g6 h5.n (IObj.rows [[IV.int .i64 id, IV.int .i64 code, IV.int .i64 ttl, IV.str nm, vG]] 44 5 false) := by rw [← hq_g6]; exact At.new _ _
    clear hq_g6
    have aA := aA.ext e_g6
    have bW := bW.ext e_g6
    have oW := oW.ext e_g6
    have o4 := o4.ext e_g6
    have oG := oG.ext e_g6
    refine callA_of (eqNameReply_c _ id code ttl nm vG vW zs oG.sl oW.sl (by omega)) ?_
    rintro r h7 ⟨rfl, hE7⟩
    have aA := aA.ext hE7
    have bW := bW.ext hE7
    have bG := bG.ext hE7
    have oW := oW.ext hE7
    have o4 := o4.ext hE7
    have oG := oG.ext hE7
    have le_hE7 := hE7.le
    simp only [bW.eq, bG.eq, decide_true, go_sem, Hold.p, HoldK.k, HoldL.K, HoldL.body, Nat.reduceBEq, Nat.reduceAdd, List.getElem?_cons_zero, List.getElem?_cons_succ, Option.bind_some, List.map_cons, List.map_nil, Nat.zero_add, if_true, List.getD_cons_zero, List.getD_cons_succ, List.contains_cons, List.contains_nil, Nat.reduceBEq, Bool.or_true, Bool.true_or, Bool.or_false, Bool.false_or, Bool.not_true, Bool.not_false, true_and, and_true, rowA_whole, push_n, set_n, push_obj, set_obj, set_push, set_push_ne, set_set, Nat.add_assoc, Nat.left_eq_add, Nat.add_eq_left, Nat.add_left_cancel_iff, Nat.reduceEqDiff, stO_1s, stO_ws, boxA_s, one_bool, one_int, one_str, one_ptr, one_nilptr, one_slice, one_eslice, one_nilslice, one_func, one_iface, one_niliface, List.all_cons, List.all_nil, List.length_cons, List.length_nil, Nat.reduceLT, Nat.reduceEqDiff, Nat.reduceLeDiff, Bool.and_true, Nat.one_ne_zero, Nat.succ_ne_zero, reduceIte, if_false, List.getElem?_cons_zero, List.set_cons_zero, List.set_cons_succ]
    refine callA_of (toByteS_c _ iv bs aA.sl hl) ?_
    rintro v8 h8 ⟨o8, hE8⟩
    have aA := aA.ext hE8
    have bW := bW.ext hE8
    have bG := bG.ext hE8
    have oW := oW.ext hE8
    have o4 := o4.ext hE8
    have oG := oG.ext hE8
    have le_hE8 := hE8.le
    simp only [go_sem, Hold.p, HoldK.k, HoldL.K, HoldL.body, Nat.reduceBEq, Nat.reduceAdd, List.getElem?_cons_zero, List.getElem?_cons_succ, Option.bind_some, List.map_cons, List.map_nil, Nat.zero_add, if_true, List.getD_cons_zero, List.getD_cons_succ, List.contains_cons, List.contains_nil, Nat.reduceBEq, Bool.or_true, Bool.true_or, Bool.or_false, Bool.false_or, Bool.not_true, Bool.not_false, true_and, and_true, rowA_whole, push_n, set_n, push_obj, set_obj, set_push, set_push_ne, set_set, Nat.add_assoc, Nat.left_eq_add, Nat.add_eq_left, Nat.add_left_cancel_iff, Nat.reduceEqDiff, stO_1s, stO_ws, boxA_s, one_bool, one_int, one_str, one_ptr, one_nilptr, one_slice, one_eslice, one_nilslice, one_func, one_iface, one_niliface, List.all_cons, List.all_nil, List.length_cons, List.length_nil, Nat.reduceLT, Nat.reduceEqDiff, Nat.reduceLeDiff, Bool.and_true, Nat.one_ne_zero, Nat.succ_ne_zero, reduceIte, if_false, List.getElem?_cons_zero, List.set_cons_zero, List.set_cons_succ]
    refine callA_of (eqByteS_c _ v4 v8 bs o4.sl o8.sl (by omega)) ?_
    rintro r h9 ⟨rfl, rfl⟩
    simp only [decide_true, go_sem, Hold.p, HoldK.k, HoldL.K, HoldL.body, Nat.reduceBEq, Nat.reduceAdd, List.getElem?_cons_zero, List.getElem?_cons_succ, Option.bind_some, List.map_cons, List.map_nil, Nat.zero_add, if_true, List.getD_cons_zero, List.getD_cons_succ, List.contains_cons, List.contains_nil, Nat.reduceBEq, Bool.or_true, Bool.true_or, Bool.or_false, Bool.false_or, Bool.not_true, Bool.not_false, true_and, and_true, rowA_whole, push_n, set_n, push_obj, set_obj, set_push, set_push_ne, set_set, Nat.add_assoc, Nat.left_eq_add, Nat.add_eq_left, Nat.add_left_cancel_iff, Nat.reduceEqDiff, stO_1s, stO_ws, boxA_s, one_bool, one_int, one_str, one_ptr, one_nilptr, one_slice, one_eslice, one_nilslice, one_func, one_iface, one_niliface, List.all_cons, List.all_nil, List.length_cons, List.length_nil, Nat.reduceLT, Nat.reduceEqDiff, Nat.reduceLeDiff, Bool.and_true, Nat.one_ne_zero, Nat.succ_ne_zero, reduceIte, if_false, List.getElem?_cons_zero, List.set_cons_zero, List.set_cons_succ]
    refine callA_of (markByteS_c _ v4 1 _ o4 rows1 (by rw [strRows_len]; omega)) ?_
    rintro r h10 ⟨rfl, oM, ht10⟩
    have aA := aA.turn o4 (by omega) ht10
    have bW := bW.turn o4 (by omega) ht10
    have bG := bG.turn o4 (by omega) ht10
    have oW := oW.turn o4 (by omega) ht10
    have oG := oG.turn o4 (by omega) ht10
    have le_ht10 := ht10.le
    have hq : decide (((1 + bs.length : Nat) : Int) < 0) = false := decide_eq_false (by omega)
    simp only [hq, bW.eq, bG.eq, strRows_len, go_sem, Hold.p, HoldK.k, HoldL.K, HoldL.body, Nat.reduceBEq, Nat.reduceAdd, List.getElem?_cons_zero, List.getElem?_cons_succ, Option.bind_some, List.map_cons, List.map_nil, Nat.zero_add, if_true, List.getD_cons_zero, List.getD_cons_succ, List.contains_cons, List.contains_nil, Nat.reduceBEq, Bool.or_true, Bool.true_or, Bool.or_false, Bool.false_or, Bool.not_true, Bool.not_false, true_and, and_true, rowA_whole, push_n, set_n, push_obj, set_obj, set_push, set_push_ne, set_set, Nat.add_assoc, Nat.left_eq_add, Nat.add_eq_left, Nat.add_left_cancel_iff, Nat.reduceEqDiff, stO_1s, stO_ws, boxA_s, one_bool, one_int, one_str, one_ptr, one_nilptr, one_slice, one_eslice, one_nilslice, one_func, one_iface, one_niliface, List.all_cons, List.all_nil, List.length_cons, List.length_nil, Nat.reduceLT, Nat.reduceEqDiff, Nat.reduceLeDiff, Bool.and_true, Nat.one_ne_zero, Nat.succ_ne_zero, reduceIte, if_false, List.getElem?_cons_zero, List.set_cons_zero, List.set_cons_succ]
    refine callA_of (eqNameReply_c _ id code ttl nm vG vW zs oG.sl oW.sl (by omega)) ?_
    rintro r h11 ⟨rfl, hE11⟩
    have aA := aA.ext hE11
    have bW := bW.ext hE11
    have bG := bG.ext hE11
    have oW := oW.ext hE11
    have oG := oG.ext hE11
    have le_hE11 := hE11.le
    simp only [bW.eq, bG.eq, decide_true, go_sem, Hold.p, HoldK.k, HoldL.K, HoldL.body, Nat.reduceBEq, Nat.reduceAdd, List.getElem?_cons_zero, List.getElem?_cons_succ, Option.bind_some, List.map_cons, List.map_nil, Nat.zero_add, if_true, List.getD_cons_zero, List.getD_cons_succ, List.contains_cons, List.contains_nil, Nat.reduceBEq, Bool.or_true, Bool.true_or, Bool.or_false, Bool.false_or, Bool.not_true, Bool.not_false, true_and, and_true, rowA_whole, push_n, set_n, push_obj, set_obj, set_push, set_push_ne, set_set, Nat.add_assoc, Nat.left_eq_add, Nat.add_eq_left, Nat.add_left_cancel_iff, Nat.reduceEqDiff, stO_1s, stO_ws, boxA_s, one_bool, one_int, one_str, one_ptr, one_nilptr, one_slice, one_eslice, one_nilslice, one_func, one_iface, one_niliface, List.all_cons, List.all_nil, List.length_cons, List.length_nil, Nat.reduceLT, Nat.reduceEqDiff, Nat.reduceLeDiff, Bool.and_true, Nat.one_ne_zero, Nat.succ_ne_zero, reduceIte, if_false, List.getElem?_cons_zero, List.set_cons_zero, List.set_cons_succ]
    refine callA_of (markNameReply_c _ id code ttl nm vG zs 1 oG (by omega) (by omega)) ?_
    rintro r h12 ⟨rfl, oX, ht12⟩
    have aA := aA.turn oG (by omega) ht12
    have bW := bW.turn oG (by omega) ht12
    have bG := bG.turn oG (by omega) ht12
    have oW := oW.turn oG (by omega) ht12
    have le_ht12 := ht12.le
    simp only [bW.eq, bG.eq, go_sem, Hold.p, HoldK.k, HoldL.K, HoldL.body, Nat.reduceBEq, Nat.reduceAdd, List.getElem?_cons_zero, List.getElem?_cons_succ, Option.bind_some, List.map_cons, List.map_nil, Nat.zero_add, if_true, List.getD_cons_zero, List.getD_cons_succ, List.contains_cons, List.contains_nil, Nat.reduceBEq, Bool.or_true, Bool.true_or, Bool.or_false, Bool.false_or, Bool.not_true, Bool.not_false, true_and, and_true, rowA_whole, push_n, set_n, push_obj, set_obj, set_push, set_push_ne, set_set, Nat.add_assoc, Nat.left_eq_add, Nat.add_eq_left, Nat.add_left_cancel_iff, Nat.reduceEqDiff, stO_1s, stO_ws, boxA_s, one_bool, one_int, one_str, one_ptr, one_nilptr, one_slice, one_eslice, one_nilslice, one_func, one_iface, one_niliface, List.all_cons, List.all_nil, List.length_cons, List.length_nil, Nat.reduceLT, Nat.reduceEqDiff, Nat.reduceLeDiff, Bool.and_true, Nat.one_ne_zero, Nat.succ_ne_zero, reduceIte, if_false, List.getElem?_cons_zero, List.set_cons_zero, List.set_cons_succ]
    refine callA_of (heldNameReply_c _ id code ttl nm vG zs.length 1 oX.sl (by omega)) ?_
    rintro r h13 ⟨rfl, hE13⟩
    have aA := aA.ext hE13
    have bW := bW.ext hE13
    have bG := bG.ext hE13
    have oW := oW.ext hE13
    have oX := oX.ext hE13
    have le_hE13 := hE13.le
    have hq2 : decide (((1 + zs.length : Nat) : Int) < 0) = false := decide_eq_false (by omega)
    simp only [hq2, decide_true, go_sem, Hold.p, HoldK.k, HoldL.K, HoldL.body, Nat.reduceBEq, Nat.reduceAdd, List.getElem?_cons_zero, List.getElem?_cons_succ, Option.bind_some, List.map_cons, List.map_nil, Nat.zero_add, if_true, List.getD_cons_zero, List.getD_cons_succ, List.contains_cons, List.contains_nil, Nat.reduceBEq, Bool.or_true, Bool.true_or, Bool.or_false, Bool.false_or, Bool.not_true, Bool.not_false, true_and, and_true, rowA_whole, push_n, set_n, push_obj, set_obj, set_push, set_push_ne, set_set, Nat.add_assoc, Nat.left_eq_add, Nat.add_eq_left, Nat.add_left_cancel_iff, Nat.reduceEqDiff, stO_1s, stO_ws, boxA_s, one_bool, one_int, one_str, one_ptr, one_nilptr, one_slice, one_eslice, one_nilslice, one_func, one_iface, one_niliface, List.all_cons, List.all_nil, List.length_cons, List.length_nil, Nat.reduceLT, Nat.reduceEqDiff, Nat.reduceLeDiff, Bool.and_true, Nat.one_ne_zero, Nat.succ_ne_zero, reduceIte, if_false, List.getElem?_cons_zero, List.set_cons_zero, List.set_cons_succ]
    refine callA_of (toByteS_c _ iv bs aA.sl hl) ?_
    rintro v14 h14 ⟨o14, hE14⟩
    have aA := aA.ext hE14
    have bW := bW.ext hE14
    have bG := bG.ext hE14
    have oW := oW.ext hE14
    have oX := oX.ext hE14
    have le_hE14 := hE14.le
    simp only [go_sem, Hold.p, HoldK.k, HoldL.K, HoldL.body, Nat.reduceBEq, Nat.reduceAdd, List.getElem?_cons_zero, List.getElem?_cons_succ, Option.bind_some, List.map_cons, List.map_nil, Nat.zero_add, if_true, List.getD_cons_zero, List.getD_cons_succ, List.contains_cons, List.contains_nil, Nat.reduceBEq, Bool.or_true, Bool.true_or, Bool.or_false, Bool.false_or, Bool.not_true, Bool.not_false, true_and, and_true, rowA_whole, push_n, set_n, push_obj, set_obj, set_push, set_push_ne, set_set, Nat.add_assoc, Nat.left_eq_add, Nat.add_eq_left, Nat.add_left_cancel_iff, Nat.reduceEqDiff, stO_1s, stO_ws, boxA_s, one_bool, one_int, one_str, one_ptr, one_nilptr, one_slice, one_eslice, one_nilslice, one_func, one_iface, one_niliface, List.all_cons, List.all_nil, List.length_cons, List.length_nil, Nat.reduceLT, Nat.reduceEqDiff, Nat.reduceLeDiff, Bool.and_true, Nat.one_ne_zero, Nat.succ_ne_zero, reduceIte, if_false, List.getElem?_cons_zero, List.set_cons_zero, List.set_cons_succ]
    refine callA_of (implDecodeReply_c _ v14 bs o14.sl hl) ?_
    rintro r h15 ⟨vH, rfl, oH, hE15⟩
    rw [hd] at oH ⊢
    simp only at oH ⊢
    have bW := bW.ext hE15
    have bG := bG.ext hE15
    have oW := oW.ext hE15
    have oX := oX.ext hE15
    have le_hE15 := hE15.le
    have ho := oH.sl.one
    have hc := oH.sl.cells
    simp only [bW.eq, bG.eq, ho, hc, go_sem, Hold.p, HoldK.k, HoldL.K, HoldL.body, Nat.reduceBEq, Nat.reduceAdd, List.getElem?_cons_zero, List.getElem?_cons_succ, Option.bind_some, List.map_cons, List.map_nil, Nat.zero_add, if_true, List.getD_cons_zero, List.getD_cons_succ, List.contains_cons, List.contains_nil, Nat.reduceBEq, Bool.or_true, Bool.true_or, Bool.or_false, Bool.false_or, Bool.not_true, Bool.not_false, true_and, and_true, rowA_whole, push_n, set_n, push_obj, set_obj, set_push, set_push_ne, set_set, Nat.add_assoc, Nat.left_eq_add, Nat.add_eq_left, Nat.add_left_cancel_iff, Nat.reduceEqDiff, stO_1s, stO_ws, boxA_s, one_bool, one_int, one_str, one_ptr, one_nilptr, one_slice, one_eslice, one_nilslice, one_func, one_iface, one_niliface, List.all_cons, List.all_nil, List.length_cons, List.length_nil, Nat.reduceLT, Nat.reduceEqDiff, Nat.reduceLeDiff, Bool.and_true, Nat.one_ne_zero, Nat.succ_ne_zero, reduceIte, if_false, List.getElem?_cons_zero, List.set_cons_zero, List.set_cons_succ]
    generalize hq_g16 : IH.push h15 (IObj.rows [[IV.int .i64 id, IV.int .i64 code, IV.int .i64 ttl, IV.str nm, vH]] 44 5 false) = g16
    have e_g16 : Ext h15 g16 := by rw [← hq_g16]; exact (Ext.refl _).push _
    have l_g16 : g16.n = h15.n + 1 := by rw [← hq_g16]; rfl
    have bH : At g16 h15.n (IObj.rows [[IV.int .i64 id, IV.int .i64 code, IV.int .i64 ttl, IV.str nm, vH]] 44 5 false) := by rw [← hq_g16]; exact At.new _ _
    clear hq_g16
    have bW := bW.ext e_g16
    have bG := bG.ext e_g16
    have oW := oW.ext e_g16
    have oX := oX.ext e_g16
    have oH := oH.ext e_g16
    have hneH : (h2.n = h15.n) = False := by have := bW.lt; simp; omega
    simp only [bW.eq, bG.eq, bH.eq, hneH, go_sem, Hold.p, HoldK.k, HoldL.K, HoldL.body, Nat.reduceBEq, Nat.reduceAdd, List.getElem?_cons_zero, List.getElem?_cons_succ, Option.bind_some, List.map_cons, List.map_nil, Nat.zero_add, if_true, List.getD_cons_zero, List.getD_cons_succ, List.contains_cons, List.contains_nil, Nat.reduceBEq, Bool.or_true, Bool.true_or, Bool.or_false, Bool.false_or, Bool.not_true, Bool.not_false, true_and, and_true, rowA_whole, push_n, set_n, push_obj, set_obj, set_push, set_push_ne, set_set, Nat.add_assoc, Nat.left_eq_add, Nat.add_eq_left, Nat.add_left_cancel_iff, Nat.reduceEqDiff, stO_1s, stO_ws, boxA_s, one_bool, one_int, one_str, one_ptr, one_nilptr, one_slice, one_eslice, one_nilslice, one_func, one_iface, one_niliface, List.all_cons, List.all_nil, List.length_cons, List.length_nil, Nat.reduceLT, Nat.reduceEqDiff, Nat.reduceLeDiff, Bool.and_true, Nat.one_ne_zero, Nat.succ_ne_zero, reduceIte, if_false, List.getElem?_cons_zero, List.set_cons_zero, List.set_cons_succ]
    refine callA_of (eqNameReply_c _ id code ttl nm vH vW zs oH.sl oW.sl (by omega)) ?_
    rintro r h17 ⟨rfl, hE17⟩
    have bW := bW.ext hE17
    have bG := bG.ext hE17
    have oW := oW.ext hE17
    have oX := oX.ext hE17
    have le_hE17 := hE17.le
    simp only [bW.eq, bG.eq, decide_true, go_sem, Hold.p, HoldK.k, HoldL.K, HoldL.body, Nat.reduceBEq, Nat.reduceAdd, List.getElem?_cons_zero, List.getElem?_cons_succ, Option.bind_some, List.map_cons, List.map_nil, Nat.zero_add, if_true, List.getD_cons_zero, List.getD_cons_succ, List.contains_cons, List.contains_nil, Nat.reduceBEq, Bool.or_true, Bool.true_or, Bool.or_false, Bool.false_or, Bool.not_true, Bool.not_false, true_and, and_true, rowA_whole, push_n, set_n, push_obj, set_obj, set_push, set_push_ne, set_set, Nat.add_assoc, Nat.left_eq_add, Nat.add_eq_left, Nat.add_left_cancel_iff, Nat.reduceEqDiff, stO_1s, stO_ws, boxA_s, one_bool, one_int, one_str, one_ptr, one_nilptr, one_slice, one_eslice, one_nilslice, one_func, one_iface, one_niliface, List.all_cons, List.all_nil, List.length_cons, List.length_nil, Nat.reduceLT, Nat.reduceEqDiff, Nat.reduceLeDiff, Bool.and_true, Nat.one_ne_zero, Nat.succ_ne_zero, reduceIte, if_false, List.getElem?_cons_zero, List.set_cons_zero, List.set_cons_succ]
    refine callA_of (heldNameReply_c _ id code ttl nm vG zs.length 1 oX.sl (by omega)) ?_
    rintro r h18 ⟨rfl, hE18⟩
    simp only [hq2, decide_true, go_sem, Hold.p, HoldK.k, HoldL.K, HoldL.body, Nat.reduceBEq, Nat.reduceAdd, List.getElem?_cons_zero, List.getElem?_cons_succ, Option.bind_some, List.map_cons, List.map_nil, Nat.zero_add, if_true, List.getD_cons_zero, List.getD_cons_succ, List.contains_cons, List.contains_nil, Nat.reduceBEq, Bool.or_true, Bool.true_or, Bool.or_false, Bool.false_or, Bool.not_true, Bool.not_false, true_and, and_true, rowA_whole, push_n, set_n, push_obj, set_obj, set_push, set_push_ne, set_set, Nat.add_assoc, Nat.left_eq_add, Nat.add_eq_left, Nat.add_left_cancel_iff, Nat.reduceEqDiff, stO_1s, stO_ws, boxA_s, one_bool, one_int, one_str, one_ptr, one_nilptr, one_slice, one_eslice, one_nilslice, one_func, one_iface, one_niliface, List.all_cons, List.all_nil, List.length_cons, List.length_nil, Nat.reduceLT, Nat.reduceEqDiff, Nat.reduceLeDiff, Bool.and_true, Nat.one_ne_zero, Nat.succ_ne_zero, reduceIte, if_false, List.getElem?_cons_zero, List.set_cons_zero, List.set_cons_succ]
end Go.Proofs.YtcmcfmgabafljaaDoor

namespace Go.Proofs.YtcmcfmgabafljaaDoor
open Go Go.IW

structure Ent where
  nm : List UInt8
  addr : Int
  ttl : Int
def Ent.row (e : Ent) : List IV := [.str e.nm, .int .i64 e.addr, .int .i64 e.ttl]
def entRows (es : List Ent) : List (List IV) := es.map Ent.row
theorem entRows_len (es : List Ent) : (entRows es).length = es.length := by simp [entRows]
theorem entRows_mem {es : List Ent} {r : List IV} (h : r ∈ entRows es) : ∃ e ∈ es, r = e.row := by
  obtain ⟨e, he, rfl⟩ := List.mem_map.1 h
  exact ⟨e, he, rfl⟩
theorem entRows_ok {es : List Ent} : ∀ r ∈ entRows es, r.length = 3 ∧ ∀ x ∈ r, x.one = true := by
  intro r hr
  obtain ⟨e, _, rfl⟩ := entRows_mem hr
  exact ⟨rfl, by simp [Ent.row, IV.one]⟩
theorem entRows_at {es : List Ent} {k : Nat} {e : Ent} (h : es[k]? = some e) : (entRows es)[k]? = some e.row := by simp [entRows, h]

set_option maxRecDepth 20000 in
theorem szNameEntry_c (h : IH) (e : Ent) (n : Int) (hn : 0 ≤ n ∧ n ≤ 1048576) (hm : e.nm.length ≤ maxLen) :
    ICalls Tryd.prog 76 [.agg e.row, .int .i64 n] h fun x h' => Szd n x (e.nm.length ≤ n) ∧ Ext h h' := by
  refine icalls (.of ok76) (Nat.le_of_ble_eq_true rfl) ?_
  unfold c76 Ent.row
  have hw : wr .i64 (n - (e.nm.length : Int)) = n - (e.nm.length : Int) := wr64 _ (by unfold maxLen at hm; omega)
  simp only [hw, go_sem, Hold.p, HoldK.k, HoldL.K, HoldL.body, Nat.reduceBEq, Nat.reduceAdd, List.getElem?_cons_zero, List.getElem?_cons_succ, Option.bind_some, List.map_cons, List.map_nil, Nat.zero_add, if_true, List.getD_cons_zero, List.getD_cons_succ, List.contains_cons, List.contains_nil, Nat.reduceBEq, Bool.or_true, Bool.true_or, Bool.or_false, Bool.false_or, Bool.not_true, Bool.not_false, true_and, and_true, rowA_whole, push_n, set_n, push_obj, set_obj, set_push, set_push_ne, set_set, Nat.add_assoc, Nat.left_eq_add, Nat.add_eq_left, Nat.add_left_cancel_iff, Nat.reduceEqDiff, stO_1s, stO_ws, boxA_s, one_bool, one_int, one_str, one_ptr, one_nilptr, one_slice, one_eslice, one_nilslice, one_func, one_iface, one_niliface, List.all_cons, List.all_nil, List.length_cons, List.length_nil, Nat.reduceLT, Nat.reduceEqDiff, Nat.reduceLeDiff, Bool.and_true, Nat.one_ne_zero, Nat.succ_ne_zero, reduceIte, if_false, List.getElem?_cons_zero, List.set_cons_zero, List.set_cons_succ]
  refine test_dec (fun hb => ?_) (fun hb => ?_)
  · simp only [hw, go_sem, Hold.p, HoldK.k, HoldL.K, HoldL.body, Nat.reduceBEq, Nat.reduceAdd, List.getElem?_cons_zero, List.getElem?_cons_succ, Option.bind_some, List.map_cons, List.map_nil, Nat.zero_add, if_true, List.getD_cons_zero, List.getD_cons_succ, List.contains_cons, List.contains_nil, Nat.reduceBEq, Bool.or_true, Bool.true_or, Bool.or_false, Bool.false_or, Bool.not_true, Bool.not_false, true_and, and_true, rowA_whole, push_n, set_n, push_obj, set_obj, set_push, set_push_ne, set_set, Nat.add_assoc, Nat.left_eq_add, Nat.add_eq_left, Nat.add_left_cancel_iff, Nat.reduceEqDiff, stO_1s, stO_ws, boxA_s, one_bool, one_int, one_str, one_ptr, one_nilptr, one_slice, one_eslice, one_nilslice, one_func, one_iface, one_niliface, List.all_cons, List.all_nil, List.length_cons, List.length_nil, Nat.reduceLT, Nat.reduceEqDiff, Nat.reduceLeDiff, Bool.and_true, Nat.one_ne_zero, Nat.succ_ne_zero, reduceIte, if_false, List.getElem?_cons_zero, List.set_cons_zero, List.set_cons_succ]
    exact ⟨⟨-1, rfl, by omega, fun hx => by omega⟩, (Ext.refl _).push _⟩
  · simp only [hw, go_sem, Hold.p, HoldK.k, HoldL.K, HoldL.body, Nat.reduceBEq, Nat.reduceAdd, List.getElem?_cons_zero, List.getElem?_cons_succ, Option.bind_some, List.map_cons, List.map_nil, Nat.zero_add, if_true, List.getD_cons_zero, List.getD_cons_succ, List.contains_cons, List.contains_nil, Nat.reduceBEq, Bool.or_true, Bool.true_or, Bool.or_false, Bool.false_or, Bool.not_true, Bool.not_false, true_and, and_true, rowA_whole, push_n, set_n, push_obj, set_obj, set_push, set_push_ne, set_set, Nat.add_assoc, Nat.left_eq_add, Nat.add_eq_left, Nat.add_left_cancel_iff, Nat.reduceEqDiff, stO_1s, stO_ws, boxA_s, one_bool, one_int, one_str, one_ptr, one_nilptr, one_slice, one_eslice, one_nilslice, one_func, one_iface, one_niliface, List.all_cons, List.all_nil, List.length_cons, List.length_nil, Nat.reduceLT, Nat.reduceEqDiff, Nat.reduceLeDiff, Bool.and_true, Nat.one_ne_zero, Nat.succ_ne_zero, reduceIte, if_false, List.getElem?_cons_zero, List.set_cons_zero, List.set_cons_succ]
    exact ⟨⟨_, rfl, by omega, fun hx => by omega⟩, (Ext.refl _).push _⟩

set_option maxRecDepth 20000 in
theorem toNameEntry_c (h : IH) (e : Ent) : ICalls Tryd.prog 79 [.agg e.row] h fun x h' => x = .agg e.row ∧ Ext h h' := by
  refine icalls (.of ok79) (Nat.le_of_ble_eq_true rfl) ?_
  unfold c79 Ent.row
  simp only [go_sem, Hold.p, HoldK.k, HoldL.K, HoldL.body, Nat.reduceBEq, Nat.reduceAdd, List.getElem?_cons_zero, List.getElem?_cons_succ, Option.bind_some, List.map_cons, List.map_nil, Nat.zero_add, if_true, List.getD_cons_zero, List.getD_cons_succ, List.contains_cons, List.contains_nil, Nat.reduceBEq, Bool.or_true, Bool.true_or, Bool.or_false, Bool.false_or, Bool.not_true, Bool.not_false, true_and, and_true, rowA_whole, push_n, set_n, push_obj, set_obj, set_push, set_push_ne, set_set, Nat.add_assoc, Nat.left_eq_add, Nat.add_eq_left, Nat.add_left_cancel_iff, Nat.reduceEqDiff, stO_1s, stO_ws, boxA_s, one_bool, one_int, one_str, one_ptr, one_nilptr, one_slice, one_eslice, one_nilslice, one_func, one_iface, one_niliface, List.all_cons, List.all_nil, List.length_cons, List.length_nil, Nat.reduceLT, Nat.reduceEqDiff, Nat.reduceLeDiff, Bool.and_true, Nat.one_ne_zero, Nat.succ_ne_zero, reduceIte, if_false, List.getElem?_cons_zero, List.set_cons_zero, List.set_cons_succ]
  exact (((Ext.refl _).push _).push _).push _

set_option maxRecDepth 20000 in
theorem eqNameEntry_c (h : IH) (e : Ent) : ICalls Tryd.prog 81 [.agg e.row, .agg e.row] h fun x h' => x = .bool true ∧ Ext h h' := by
  refine icalls (.of ok81) (Nat.le_of_ble_eq_true rfl) ?_
  unfold c81 Ent.row
  simp only [decide_true, go_sem, Hold.p, HoldK.k, HoldL.K, HoldL.body, Nat.reduceBEq, Nat.reduceAdd, List.getElem?_cons_zero, List.getElem?_cons_succ, Option.bind_some, List.map_cons, List.map_nil, Nat.zero_add, if_true, List.getD_cons_zero, List.getD_cons_succ, List.contains_cons, List.contains_nil, Nat.reduceBEq, Bool.or_true, Bool.true_or, Bool.or_false, Bool.false_or, Bool.not_true, Bool.not_false, true_and, and_true, rowA_whole, push_n, set_n, push_obj, set_obj, set_push, set_push_ne, set_set, Nat.add_assoc, Nat.left_eq_add, Nat.add_eq_left, Nat.add_left_cancel_iff, Nat.reduceEqDiff, stO_1s, stO_ws, boxA_s, one_bool, one_int, one_str, one_ptr, one_nilptr, one_slice, one_eslice, one_nilslice, one_func, one_iface, one_niliface, List.all_cons, List.all_nil, List.length_cons, List.length_nil, Nat.reduceLT, Nat.reduceEqDiff, Nat.reduceLeDiff, Bool.and_true, Nat.one_ne_zero, Nat.succ_ne_zero, reduceIte, if_false, List.getElem?_cons_zero, List.set_cons_zero, List.set_cons_succ]
  exact ((Ext.refl _).push _).push _

set_option maxRecDepth 20000 in
theorem toNameEntryS_c (h : IH) (v : IV) (es : List Ent) (hs : SlR h 3 v (entRows es)) (hm : es.length ≤ 1048576) :
    ICalls Tryd.prog 36 [v] h fun r h' => Own h.n h'.n h' 116 3 r (entRows es) ∧ Ext h h' :=
  toS_calls (z := [.str [], .int .i64 0, .int .i64 0]) ok36 hs rfl entRows_ok (by rw [entRows_len]; omega) (by rw [entRows_len]; omega) fun h r hr => by
    obtain ⟨e, _, rfl⟩ := entRows_mem hr
    exact toNameEntry_c h e
set_option maxRecDepth 20000 in
theorem eqNameEntryS_c (h : IH) (v w : IV) (es : List Ent) (hv : SlR h 3 v (entRows es)) (hw : SlR h 3 w (entRows es)) (hm : es.length ≤ 1048576) :
    ICalls Tryd.prog 38 [v, w] h fun r h' => r = .bool true ∧ Ext h h' :=
  eqS_calls ok38 hv hw (fun r hr => (entRows_ok r hr).1) (by rw [entRows_len]; omega) fun h r hr => by
    obtain ⟨e, _, rfl⟩ := entRows_mem hr
    exact eqNameEntry_c h e
set_option maxRecDepth 20000 in
theorem szNameEntryS_c (h : IH) (v : IV) (es : List Ent) (left : Int) (hs : SlR h 3 v (entRows es)) (hl : 0 ≤ left ∧ left ≤ 1048576) (hz : es.length ≤ maxLen) (hm : ∀ e ∈ es, e.nm.length ≤ maxLen) :
    ICalls Tryd.prog 34 [v, .int .i64 left] h fun x h' => Szd left x (es.length ≤ left) ∧ Ext h h' := by
  refine (szS_calls ok34 (fun _ => True) hs (fun r hr => (entRows_ok r hr).1) (by rw [entRows_len]; exact hz) hl fun h r n _ hr hn => ?_).mono ?_
  · obtain ⟨e, he, rfl⟩ := entRows_mem hr
    refine (szNameEntry_c h e n hn (hm e he)).mono ?_
    rintro x h' ⟨⟨L, rfl, h1, h2⟩, E⟩
    exact ⟨⟨L, rfl, h1, fun _ => trivial⟩, E⟩
  · rintro x h' ⟨⟨L, rfl, h1, h2⟩, E⟩
    exact ⟨⟨L, rfl, h1, fun h0 => by have := (h2 h0).1; rw [entRows_len] at this; exact this⟩, E⟩

set_option maxRecDepth 20000 in
theorem markText_c (h : IH) (k : Nat) (hk : k < 4611686018427387904) : ICalls Tryd.prog 82 [.int .i64 k] h fun r h' => (∃ s : List UInt8, r = .str s) ∧ Ext h h' := by
  refine icalls (.of ok82) (Nat.le_of_ble_eq_true rfl) ?_
  unfold c82
  by_cases h0 : k = 0
  · subst h0
    have d0 : decide (((0 : Nat) : Int) ≤ 0) = true := rfl
    simp only [d0, go_sem, Hold.p, HoldK.k, HoldL.K, HoldL.body, Nat.reduceBEq, Nat.reduceAdd, List.getElem?_cons_zero, List.getElem?_cons_succ, Option.bind_some, List.map_cons, List.map_nil, Nat.zero_add, if_true, List.getD_cons_zero, List.getD_cons_succ, List.contains_cons, List.contains_nil, Nat.reduceBEq, Bool.or_true, Bool.true_or, Bool.or_false, Bool.false_or, Bool.not_true, Bool.not_false, true_and, and_true, rowA_whole, push_n, set_n, push_obj, set_obj, set_push, set_push_ne, set_set, Nat.add_assoc, Nat.left_eq_add, Nat.add_eq_left, Nat.add_left_cancel_iff, Nat.reduceEqDiff, stO_1s, stO_ws, boxA_s, one_bool, one_int, one_str, one_ptr, one_nilptr, one_slice, one_eslice, one_nilslice, one_func, one_iface, one_niliface, List.all_cons, List.all_nil, List.length_cons, List.length_nil, Nat.reduceLT, Nat.reduceEqDiff, Nat.reduceLeDiff, Bool.and_true, Nat.one_ne_zero, Nat.succ_ne_zero, reduceIte, if_false, List.getElem?_cons_zero, List.set_cons_zero, List.set_cons_succ]
    exact ⟨⟨_, rfl⟩, Ext.refl _⟩
  · have d0 : decide ((k : Int) ≤ 0) = false := decide_eq_false (by omega)
    simp only [d0, go_sem, Hold.p, HoldK.k, HoldL.K, HoldL.body, Nat.reduceBEq, Nat.reduceAdd, List.getElem?_cons_zero, List.getElem?_cons_succ, Option.bind_some, List.map_cons, List.map_nil, Nat.zero_add, if_true, List.getD_cons_zero, List.getD_cons_succ, List.contains_cons, List.contains_nil, Nat.reduceBEq, Bool.or_true, Bool.true_or, Bool.or_false, Bool.false_or, Bool.not_true, Bool.not_false, true_and, and_true, rowA_whole, push_n, set_n, push_obj, set_obj, set_push, set_push_ne, set_set, Nat.add_assoc, Nat.left_eq_add, Nat.add_eq_left, Nat.add_left_cancel_iff, Nat.reduceEqDiff, stO_1s, stO_ws, boxA_s, one_bool, one_int, one_str, one_ptr, one_nilptr, one_slice, one_eslice, one_nilslice, one_func, one_iface, one_niliface, List.all_cons, List.all_nil, List.length_cons, List.length_nil, Nat.reduceLT, Nat.reduceEqDiff, Nat.reduceLeDiff, Bool.and_true, Nat.one_ne_zero, Nat.succ_ne_zero, reduceIte, if_false, List.getElem?_cons_zero, List.set_cons_zero, List.set_cons_succ]
    refine loop_at (fun n e h' => ∃ s : List UInt8, s.length + n ≤ k ∧ e 0 = .int .i64 (n : Nat) ∧ e 3 = .str s ∧ Ext h h') k ?_ ?_
    · refine ⟨[], by simp, ?_⟩
      simp only [go_sem, Hold.p, HoldK.k, HoldL.K, HoldL.body, Nat.reduceBEq, Nat.reduceAdd, List.getElem?_cons_zero, List.getElem?_cons_succ, Option.bind_some, List.map_cons, List.map_nil, Nat.zero_add, if_true, List.getD_cons_zero, List.getD_cons_succ, List.contains_cons, List.contains_nil, Nat.reduceBEq, Bool.or_true, Bool.true_or, Bool.or_false, Bool.false_or, Bool.not_true, Bool.not_false, true_and, and_true, rowA_whole, push_n, set_n, push_obj, set_obj, set_push, set_push_ne, set_set, Nat.add_assoc, Nat.left_eq_add, Nat.add_eq_left, Nat.add_left_cancel_iff, Nat.reduceEqDiff, stO_1s, stO_ws, boxA_s, one_bool, one_int, one_str, one_ptr, one_nilptr, one_slice, one_eslice, one_nilslice, one_func, one_iface, one_niliface, List.all_cons, List.all_nil, List.length_cons, List.length_nil, Nat.reduceLT, Nat.reduceEqDiff, Nat.reduceLeDiff, Bool.and_true, Nat.one_ne_zero, Nat.succ_ne_zero, reduceIte, if_false, List.getElem?_cons_zero, List.set_cons_zero, List.set_cons_succ]
      exact Ext.refl _
    · rintro n e h' ⟨s, hn, e0, e3, E⟩
      by_cases hz : n = 0
      · subst hz
        have d1 : decide ((0 : Int) < ((0 : Nat) : Int)) = false := rfl
        have ha := ibs_add (s := [109]) (t := s) (by simp; omega)
        simp only [e0, e3, d1, ha, go_sem, Hold.p, HoldK.k, HoldL.K, HoldL.body, Nat.reduceBEq, Nat.reduceAdd, List.getElem?_cons_zero, List.getElem?_cons_succ, Option.bind_some, List.map_cons, List.map_nil, Nat.zero_add, if_true, List.getD_cons_zero, List.getD_cons_succ, List.contains_cons, List.contains_nil, Nat.reduceBEq, Bool.or_true, Bool.true_or, Bool.or_false, Bool.false_or, Bool.not_true, Bool.not_false, true_and, and_true, rowA_whole, push_n, set_n, push_obj, set_obj, set_push, set_push_ne, set_set, Nat.add_assoc, Nat.left_eq_add, Nat.add_eq_left, Nat.add_left_cancel_iff, Nat.reduceEqDiff, stO_1s, stO_ws, boxA_s, one_bool, one_int, one_str, one_ptr, one_nilptr, one_slice, one_eslice, one_nilslice, one_func, one_iface, one_niliface, List.all_cons, List.all_nil, List.length_cons, List.length_nil, Nat.reduceLT, Nat.reduceEqDiff, Nat.reduceLeDiff, Bool.and_true, Nat.one_ne_zero, Nat.succ_ne_zero, reduceIte, if_false, List.getElem?_cons_zero, List.set_cons_zero, List.set_cons_succ]
        exact ⟨⟨_, rfl⟩, E⟩
      · have d1 : decide ((0 : Int) < (n : Int)) = true := decide_eq_true (by omega)
        have t1 := ib_rem (k := .i64) (a := (n : Int)) (b := 10) (by decide)
        have t2 := ib_quo (k := .i64) (a := (n : Int)) (b := 10) (by decide)
        have hq : wr .i64 ((n : Int).tdiv 10) = ((n / 10 : Nat) : Int) := by
          rw [Int.tdiv_eq_ediv_of_nonneg (by omega), wr64 _ (by omega)]; omega
        rw [hq] at t2
        have w9 := wr_u8 (wr .i64 (48 + (n : Int).tmod 10))
        generalize UInt8.ofNat ((wr .i64 (48 + (n : Int).tmod 10)) % 256).toNat = b at w9
        have hb : bytesOf (List.take 1 (List.drop 0 [[IV.int .u8 (b.toNat : Int)]])) = some [b] := bytesOf_strRows [b]
        have ha := ibs_add (s := [b]) (t := s) (by simp; omega)
        simp only [e0, e3, d1, t1, t2, w9, bslA_1, hb, Option.map_some, ha, go_sem, Hold.p, HoldK.k, HoldL.K, HoldL.body, Nat.reduceBEq, Nat.reduceAdd, List.getElem?_cons_zero, List.getElem?_cons_succ, Option.bind_some, List.map_cons, List.map_nil, Nat.zero_add, if_true, List.getD_cons_zero, List.getD_cons_succ, List.contains_cons, List.contains_nil, Nat.reduceBEq, Bool.or_true, Bool.true_or, Bool.or_false, Bool.false_or, Bool.not_true, Bool.not_false, true_and, and_true, rowA_whole, push_n, set_n, push_obj, set_obj, set_push, set_push_ne, set_set, Nat.add_assoc, Nat.left_eq_add, Nat.add_eq_left, Nat.add_left_cancel_iff, Nat.reduceEqDiff, stO_1s, stO_ws, boxA_s, one_bool, one_int, one_str, one_ptr, one_nilptr, one_slice, one_eslice, one_nilslice, one_func, one_iface, one_niliface, List.all_cons, List.all_nil, List.length_cons, List.length_nil, Nat.reduceLT, Nat.reduceEqDiff, Nat.reduceLeDiff, Bool.and_true, Nat.one_ne_zero, Nat.succ_ne_zero, reduceIte, if_false, List.getElem?_cons_zero, List.set_cons_zero, List.set_cons_succ]
        exact ⟨n / 10, by omega, _, by simp; omega, rfl, rfl, E.push _⟩
end Go.Proofs.YtcmcfmgabafljaaDoor

namespace Go.Proofs.YtcmcfmgabafljaaDoor
open Go Go.IW

set_option maxRecDepth 20000 in
theorem markNameEntryS_c {lo hi : Nat} (h : IH) (v : IV) (k0 : Nat) (rs : List (List IV)) (ho : Own lo hi h 116 3 v rs) (hrs : ∀ r ∈ rs, r.length = 3 ∧ ∀ x ∈ r, x.one = true) (hk : k0 + 3 * rs.length < 4611686018427387904) :
    ICalls Tryd.prog 39 [v, .int .i64 k0] h fun r h' => r = .int .i64 ((k0 + 3 * rs.length : Nat) : Int) ∧ Turn v h h' := by
  refine ho.mark (fun hr hlen h1 => ?_) (fun l hv h0 hl h1 h2 h3 hob => ?_)
  · subst hr
    refine icalls (.of ok39) (Nat.le_of_ble_eq_true rfl) ?_
    unfold c39
    simp only [hlen, go_sem, Hold.p, HoldK.k, HoldL.K, HoldL.body, Nat.reduceBEq, Nat.reduceAdd, List.getElem?_cons_zero, List.getElem?_cons_succ, Option.bind_some, List.map_cons, List.map_nil, Nat.zero_add, if_true, List.getD_cons_zero, List.getD_cons_succ, List.contains_cons, List.contains_nil, Nat.reduceBEq, Bool.or_true, Bool.true_or, Bool.or_false, Bool.false_or, Bool.not_true, Bool.not_false, true_and, and_true]
    refine loop_at (fun m e h' => m = 0 ∧ h' = h ∧ e 0 = v ∧ e 1 = .int .i64 k0 ∧ e 5 = .int .i64 0) 0 ?_ ?_
    · simp only [go_sem, Hold.p, HoldK.k, HoldL.K, HoldL.body, Nat.reduceBEq, Nat.reduceAdd, List.getElem?_cons_zero, List.getElem?_cons_succ, Option.bind_some, List.map_cons, List.map_nil, Nat.zero_add, if_true, List.getD_cons_zero, List.getD_cons_succ, List.contains_cons, List.contains_nil, Nat.reduceBEq, Bool.or_true, Bool.true_or, Bool.or_false, Bool.false_or, Bool.not_true, Bool.not_false, true_and, and_true]
    · rintro m e h' ⟨rfl, rfl, e0, e1, e5⟩
      simp only [e0, e1, e5, hlen, go_sem, Hold.p, HoldK.k, HoldL.K, HoldL.body, Nat.reduceBEq, Nat.reduceAdd, List.getElem?_cons_zero, List.getElem?_cons_succ, Option.bind_some, List.map_cons, List.map_nil, Nat.zero_add, if_true, List.getD_cons_zero, List.getD_cons_succ, List.contains_cons, List.contains_nil, Nat.reduceBEq, Bool.or_true, Bool.true_or, Bool.or_false, Bool.false_or, Bool.not_true, Bool.not_false, true_and, and_true]
      refine test_dec (fun hb => absurd hb (by simp)) (fun _ => ?_)
      simp only [e0, e1, e5, go_sem, Hold.p, HoldK.k, HoldL.K, HoldL.body, Nat.reduceBEq, Nat.reduceAdd, List.getElem?_cons_zero, List.getElem?_cons_succ, Option.bind_some, List.map_cons, List.map_nil, Nat.zero_add, if_true, List.getD_cons_zero, List.getD_cons_succ, List.contains_cons, List.contains_nil, Nat.reduceBEq, Bool.or_true, Bool.true_or, Bool.or_false, Bool.false_or, Bool.not_true, Bool.not_false, true_and, and_true]
      exact ⟨by simp, Turn.refl _ _⟩
  · subst hv
    refine icalls (.of ok39) (Nat.le_of_ble_eq_true rfl) ?_
    unfold c39
    generalize hn : rs.length = n at *
    simp only [go_sem, Hold.p, HoldK.k, HoldL.K, HoldL.body, Nat.reduceBEq, Nat.reduceAdd, List.getElem?_cons_zero, List.getElem?_cons_succ, Option.bind_some, List.map_cons, List.map_nil, Nat.zero_add, if_true, List.getD_cons_zero, List.getD_cons_succ, List.contains_cons, List.contains_nil, Nat.reduceBEq, Bool.or_true, Bool.true_or, Bool.or_false, Bool.false_or, Bool.not_true, Bool.not_false, true_and, and_true]
    refine loop_at (fun m e h' => ∃ (k : Nat) (qs : List (List IV)), m = n - k ∧ k ≤ n ∧ e 0 = .slice l 0 n ∧ e 1 = .int .i64 ((k0 + 3 * k : Nat) : Int) ∧ e 5 = .int .i64 (k : Nat) ∧
      qs.length = n ∧ (∀ r ∈ qs, r.length = 3 ∧ ∀ x ∈ r, x.one = true) ∧ At h' l (.rows qs 116 3 false) ∧ Turn (.slice l 0 n) h h') n ?_ ?_
    · refine ⟨0, rs, by omega, by omega, ?_⟩
      simp only [go_sem, Hold.p, HoldK.k, HoldL.K, HoldL.body, Nat.reduceBEq, Nat.reduceAdd, List.getElem?_cons_zero, List.getElem?_cons_succ, Option.bind_some, List.map_cons, List.map_nil, Nat.zero_add, if_true, List.getD_cons_zero, List.getD_cons_succ, List.contains_cons, List.contains_nil, Nat.reduceBEq, Bool.or_true, Bool.true_or, Bool.or_false, Bool.false_or, Bool.not_true, Bool.not_false, true_and, and_true]
      exact ⟨by simp, rfl, hn, hrs, ⟨hl, hob⟩, Turn.refl _ _⟩
    · rintro m e h' ⟨k, qs, rfl, hkn, e0, e1, e5, hql, hqs, ha, T⟩
      simp only [e0, e1, e5, go_sem, Hold.p, HoldK.k, HoldL.K, HoldL.body, Nat.reduceBEq, Nat.reduceAdd, List.getElem?_cons_zero, List.getElem?_cons_succ, Option.bind_some, List.map_cons, List.map_nil, Nat.zero_add, if_true, List.getD_cons_zero, List.getD_cons_succ, List.contains_cons, List.contains_nil, Nat.reduceBEq, Bool.or_true, Bool.true_or, Bool.or_false, Bool.false_or, Bool.not_true, Bool.not_false, true_and, and_true]
      refine test_dec (fun hb => ?_) (fun hb => ?_)
      · have hkn' : k < n := by omega
        obtain ⟨q, hq⟩ : ∃ q, q = k0 + 3 * k := ⟨_, rfl⟩
        rw [← hq] at e1
        have hq' : q + 3 < 4611686018427387904 := by omega
        simp only [e0, e1, e5, go_sem, Hold.p, HoldK.k, HoldL.K, HoldL.body, Nat.reduceBEq, Nat.reduceAdd, List.getElem?_cons_zero, List.getElem?_cons_succ, Option.bind_some, List.map_cons, List.map_nil, Nat.zero_add, if_true, List.getD_cons_zero, List.getD_cons_succ, List.contains_cons, List.contains_nil, Nat.reduceBEq, Bool.or_true, Bool.true_or, Bool.or_false, Bool.false_or, Bool.not_true, Bool.not_false, true_and, and_true]
        refine callA_of (markText_c h' q (by omega)) ?_
        rintro r h2 ⟨⟨s, rfl⟩, E2⟩
        have ha2 := ha.ext E2
        have T2 := T.trans (Turn.of_ext E2)
        have hia : ∀ (g : IH) (xs : List (List IV)), At g l (.rows xs 116 3 false) → iadrF g 3 (.slice l 0 n) (.int .i64 k) = some (.ptr l k 0) := fun g xs hg => by
          rw [iadrF_nat hkn' (by rw [hg.eq]; rfl), Nat.zero_add]
        obtain ⟨row, hrow⟩ : ∃ row, qs[k]? = some row := ⟨qs[k], List.getElem?_eq_getElem (by omega)⟩
        obtain ⟨hrl, hro⟩ := hqs row (List.mem_of_getElem? hrow)
        match row, hrl with
        | [a, b, c], _ =>
        have w1 : wr .i64 (((q : Nat) : Int) + 1) = ((q + 1 : Nat) : Int) := by rw [wr64 _ (by omega)]; rfl
        have w2 : wr .i64 (((q + 1 : Nat) : Int) + 1) = ((q + 2 : Nat) : Int) := by rw [wr64 _ (by omega)]; omega
        have w3 : wr .i64 (((q + 2 : Nat) : Int) + 1) = ((q + 3 : Nat) : Int) := by rw [wr64 _ (by omega)]; omega
        have hr1 : rowO (h2.obj l) k = some [a, b, c] := by rw [ha2.eq]; exact hrow
        have hr2 : (rowO (h2.obj l) k).isSome = true := by rw [hr1]; rfl
        have ho1 : (h2.obj l).own = true := by rw [ha2.eq]; rfl
        have hia1 := hia h2 _ ha2
        rw [← put_self hr1]
        simp only [e0, e1, e5, hia1, iadrF_put, stA_put1 hr2 ho1, put_put, w1, w2, w3, go_sem, Hold.p, HoldK.k, HoldL.K, HoldL.body, Nat.reduceBEq, Nat.reduceAdd, List.getElem?_cons_zero, List.getElem?_cons_succ, Option.bind_some, List.map_cons, List.map_nil, Nat.zero_add, if_true, List.getD_cons_zero, List.getD_cons_succ, List.contains_cons, List.contains_nil, Nat.reduceBEq, Bool.or_true, Bool.true_or, Bool.or_false, Bool.false_or, Bool.not_true, Bool.not_false, true_and, and_true, rowA_whole, push_n, set_n, push_obj, set_obj, set_push, set_push_ne, set_set, Nat.add_assoc, Nat.left_eq_add, Nat.add_eq_left, Nat.add_left_cancel_iff, Nat.reduceEqDiff, stO_1s, stO_ws, boxA_s, one_bool, one_int, one_str, one_ptr, one_nilptr, one_slice, one_eslice, one_nilslice, one_func, one_iface, one_niliface, List.all_cons, List.all_nil, List.length_cons, List.length_nil, Nat.reduceLT, Nat.reduceEqDiff, Nat.reduceLeDiff, Bool.and_true, Nat.one_ne_zero, Nat.succ_ne_zero, reduceIte, if_false, List.getElem?_cons_zero, List.set_cons_zero, List.set_cons_succ]
        have hp : h2.put l k [.str s, .int .i64 ((q + 1 : Nat) : Int), .int .i64 ((q + 2 : Nat) : Int)] = h2.set l (.rows (qs.set k [.str s, .int .i64 ((q + 1 : Nat) : Int), .int .i64 ((q + 2 : Nat) : Int)]) 116 3 false) := by
          unfold IH.put putO; rw [ha2.eq]
        rw [hp]
        refine ⟨_, ?_, k + 1, qs.set k [.str s, .int .i64 ((q + 1 : Nat) : Int), .int .i64 ((q + 2 : Nat) : Int)], rfl, by omega, ?_, wr64_succ k (by omega), ?_, ?_, ha2.here, T2.trans (Turn.set _)⟩
        · omega
        · rw [hq]; congr 2
        · rw [List.length_set]; exact hql
        · intro r hr
          rcases List.mem_or_eq_of_mem_set hr with h1 | h1
          · exact hqs r h1
          · subst h1; exact ⟨rfl, by simp [IV.one]⟩
      · obtain rfl : k = n := by omega
        simp only [e0, e1, go_sem, Hold.p, HoldK.k, HoldL.K, HoldL.body, Nat.reduceBEq, Nat.reduceAdd, List.getElem?_cons_zero, List.getElem?_cons_succ, Option.bind_some, List.map_cons, List.map_nil, Nat.zero_add, if_true, List.getD_cons_zero, List.getD_cons_succ, List.contains_cons, List.contains_nil, Nat.reduceBEq, Bool.or_true, Bool.true_or, Bool.or_false, Bool.false_or, Bool.not_true, Bool.not_false, true_and, and_true]
        exact T
end Go.Proofs.YtcmcfmgabafljaaDoor

namespace Go.Proofs.YtcmcfmgabafljaaDoor
open Go Go.IW

/-- An entry that answers a question. -/
def fitE (qn : List UInt8) (e : Ent) : Bool := decide (e.nm = qn) && okAddr e.addr && (decide (0 ≤ e.ttl) && decide (e.ttl ≤ 86400))
def ansStep (qn : List UInt8) (st : Int × Int × List Int) (e : Ent) : Int × Int × List Int :=
  if fitE qn e = true ∧ st.2.2.length < 8 then (0, if st.1 ≠ 0 ∨ e.ttl < st.2.1 then e.ttl else st.2.1, st.2.2 ++ [e.addr]) else st
def ansQ (es : List Ent) (qn : List UInt8) : Int × Int × List Int := es.foldl (ansStep qn) (20, 10, [])
theorem ansQ_snoc {es : List Ent} {qn : List UInt8} {k : Nat} {e : Ent} (h : es[k]? = some e) : ansQ (es.take (k + 1)) qn = ansStep qn (ansQ (es.take k) qn) e := by
  unfold ansQ
  rw [List.take_add_one, h]
  simp
theorem ansQ_inv (qn : List UInt8) : ∀ (es : List Ent), ((ansQ es qn).1 = 20 ∨ (ansQ es qn).1 = 0) ∧ (ansQ es qn).2.2.length ≤ 8 := by
  have key : ∀ (es : List Ent) (st : Int × Int × List Int), (st.1 = 20 ∨ st.1 = 0) ∧ st.2.2.length ≤ 8 → ((es.foldl (ansStep qn) st).1 = 20 ∨ (es.foldl (ansStep qn) st).1 = 0) ∧ (es.foldl (ansStep qn) st).2.2.length ≤ 8 := by
    intro es
    induction es with
    | nil => intro st h; exact h
    | cons e es ih =>
      intro st h
      refine ih _ ?_
      unfold ansStep
      split
      · rename_i hc
        exact ⟨.inr rfl, by simp; omega⟩
      · exact h
  exact fun es => key es _ ⟨.inl rfl, by simp⟩
/-- What AnswerName answers. -/
def ansN (es : List Ent) (bs : List UInt8) : List UInt8 × Int :=
  if (decQ bs).2.2 ≠ 0 then ([], (decQ bs).2.2)
  else encR (decQ bs).1 (ansQ es (decQ bs).2.1).1 (ansQ es (decQ bs).2.1).2.1 (decQ bs).2.1 (ansQ es (decQ bs).2.1).2.2
theorem decQ_len (bs : List UInt8) : (decQ bs).2.1.length ≤ bs.length := by
  unfold decQ
  split
  · simp
  · split
    · simp
    · split
      · simp
      · split
        · simp; omega
        · simp

/-- The state of an answer that is being made. -/
structure AnsAt (h g : IH) (pq pr : Nat) (id : Int) (qn : List UInt8) (st : Int × Int × List Int) : Prop where
  ext : Ext h g
  q : At g pq (.rows [[.int .i64 id, .str qn]] 29 2 false)
  r : ∃ v lo hi, At g pr (.rows [[.int .i64 id, .int .i64 st.1, .int .i64 st.2.1, .str qn, v]] 44 5 false) ∧ Own lo hi g 2 1 v (intRows st.2.2) ∧ pr < lo ∧ hi ≤ g.n

set_option maxRecDepth 20000 in
theorem specAnswerName_c (h : IH) (vz vb : IV) (es : List Ent) (bs : List UInt8) (hz : SlR h 3 vz (entRows es)) (hb : SlR h 1 vb (strRows bs)) (hzl : es.length ≤ 1048576) (hbl : bs.length ≤ 1048576) :
    ICalls Tryd.prog 35 [vz, vb] h fun r h' => BytesRes h h' r (ansN es bs) := by
  refine icalls (.of ok35) (Nat.le_of_ble_eq_true rfl) ?_
  unfold c35
  simp only [go_sem, Hold.p, HoldK.k, HoldL.K, HoldL.body, Nat.reduceBEq, Nat.reduceAdd, List.getElem?_cons_zero, List.getElem?_cons_succ, Option.bind_some, List.map_cons, List.map_nil, Nat.zero_add, if_true, List.getD_cons_zero, List.getD_cons_succ, List.contains_cons, List.contains_nil, Nat.reduceBEq, Bool.or_true, Bool.true_or, Bool.or_false, Bool.false_or, Bool.not_true, Bool.not_false, true_and, and_true, rowA_whole, push_n, set_n, push_obj, set_obj, set_push, set_push_ne, set_set, Nat.add_assoc, Nat.left_eq_add, Nat.add_eq_left, Nat.add_left_cancel_iff, Nat.reduceEqDiff, stO_1s, stO_ws, boxA_s, one_bool, one_int, one_str, one_ptr, one_nilptr, one_slice, one_eslice, one_nilslice, one_func, one_iface, one_niliface, List.all_cons, List.all_nil, List.length_cons, List.length_nil, Nat.reduceLT, Nat.reduceEqDiff, Nat.reduceLeDiff, Bool.and_true, Nat.one_ne_zero, Nat.succ_ne_zero, reduceIte, if_false, List.getElem?_cons_zero, List.set_cons_zero, List.set_cons_succ]
  refine callA_of (specDecodeQuery_c h vb bs hb hbl) ?_
  rintro r h1 ⟨rfl, E1⟩
  have hql := decQ_len bs
  have hdef : ansN es bs = if (decQ bs).2.2 ≠ 0 then ([], (decQ bs).2.2) else encR (decQ bs).1 (ansQ es (decQ bs).2.1).1 (ansQ es (decQ bs).2.1).2.1 (decQ bs).2.1 (ansQ es (decQ bs).2.1).2.2 := rfl
  generalize decQ bs = dq at hql hdef ⊢
  obtain ⟨id, qn, qc⟩ := dq
  simp only at hql hdef ⊢
  simp only [go_sem, Hold.p, HoldK.k, HoldL.K, HoldL.body, Nat.reduceBEq, Nat.reduceAdd, List.getElem?_cons_zero, List.getElem?_cons_succ, Option.bind_some, List.map_cons, List.map_nil, Nat.zero_add, if_true, List.getD_cons_zero, List.getD_cons_succ, List.contains_cons, List.contains_nil, Nat.reduceBEq, Bool.or_true, Bool.true_or, Bool.or_false, Bool.false_or, Bool.not_true, Bool.not_false, true_and, and_true, rowA_whole, push_n, set_n, push_obj, set_obj, set_push, set_push_ne, set_set, Nat.add_assoc, Nat.left_eq_add, Nat.add_eq_left, Nat.add_left_cancel_iff, Nat.reduceEqDiff, stO_1s, stO_ws, boxA_s, one_bool, one_int, one_str, one_ptr, one_nilptr, one_slice, one_eslice, one_nilslice, one_func, one_iface, one_niliface, List.all_cons, List.all_nil, List.length_cons, List.length_nil, Nat.reduceLT, Nat.reduceEqDiff, Nat.reduceLeDiff, Bool.and_true, Nat.one_ne_zero, Nat.succ_ne_zero, reduceIte, if_false, List.getElem?_cons_zero, List.set_cons_zero, List.set_cons_succ]
  generalize hq_g2 : IH.push h1 (IObj.rows [[IV.int .i64 id, IV.str qn]] 29 2 false) = g2
  have e_g2 : Ext h1 g2 := by rw [← hq_g2]; exact (Ext.refl _).push _
  have l_g2 : g2.n = h1.n + 1 := by rw [← hq_g2]; rfl
  have bq : At g2 h1.n (IObj.rows [[IV.int .i64 id, IV.str qn]] 29 2 false) := by rw [← hq_g2]; exact At.new _ _
  clear hq_g2
  have E1 := E1.ext e_g2
  have lE := E1.le
  by_cases c0 : qc = 0
  · subst c0
    rw [if_neg (by decide)] at hdef
    simp only [bq.eq, decide_true, lay_nil, lay_1, lay_w, Option.map_some, go_sem, Hold.p, HoldK.k, HoldL.K, HoldL.body, Nat.reduceBEq, Nat.reduceAdd, List.getElem?_cons_zero, List.getElem?_cons_succ, Option.bind_some, List.map_cons, List.map_nil, Nat.zero_add, if_true, List.getD_cons_zero, List.getD_cons_succ, List.contains_cons, List.contains_nil, Nat.reduceBEq, Bool.or_true, Bool.true_or, Bool.or_false, Bool.false_or, Bool.not_true, Bool.not_false, true_and, and_true, rowA_whole, push_n, set_n, push_obj, set_obj, set_push, set_push_ne, set_set, Nat.add_assoc, Nat.left_eq_add, Nat.add_eq_left, Nat.add_left_cancel_iff, Nat.reduceEqDiff, stO_1s, stO_ws, boxA_s, one_bool, one_int, one_str, one_ptr, one_nilptr, one_slice, one_eslice, one_nilslice, one_func, one_iface, one_niliface, List.all_cons, List.all_nil, List.length_cons, List.length_nil, Nat.reduceLT, Nat.reduceEqDiff, Nat.reduceLeDiff, Bool.and_true, Nat.one_ne_zero, Nat.succ_ne_zero, reduceIte, if_false, List.getElem?_cons_zero, List.set_cons_zero, List.set_cons_succ]
    generalize hq_g3 : IH.push g2 (IObj.rows [[IV.int .i64 id, IV.int .i64 20, IV.int .i64 10, IV.str qn, IV.nilslice]] 44 5 false) = g3
    have e_g3 : Ext g2 g3 := by rw [← hq_g3]; exact (Ext.refl _).push _
    have l_g3 : g3.n = g2.n + 1 := by rw [← hq_g3]; rfl
    have br : At g3 g2.n (IObj.rows [[IV.int .i64 id, IV.int .i64 20, IV.int .i64 10, IV.str qn, IV.nilslice]] 44 5 false) := by rw [← hq_g3]; exact At.new _ _
    clear hq_g3
    have E1 := E1.ext e_g3
    have bq := bq.ext e_g3
    refine loop_at (fun n e g => ∃ k, n = es.length - k ∧ k ≤ es.length ∧ e 0 = vz ∧ e 6 = .ptr h1.n 0 0 ∧ e 8 = .ptr g2.n 0 0 ∧ e 9 = .int .i64 (k : Nat) ∧ AnsAt h g h1.n g2.n id qn (ansQ (es.take k) qn)) es.length ?_ ?_
    · refine ⟨0, by omega, by omega, ?_⟩
      simp only [go_sem, Hold.p, HoldK.k, HoldL.K, HoldL.body, Nat.reduceBEq, Nat.reduceAdd, List.getElem?_cons_zero, List.getElem?_cons_succ, Option.bind_some, List.map_cons, List.map_nil, Nat.zero_add, if_true, List.getD_cons_zero, List.getD_cons_succ, List.contains_cons, List.contains_nil, Nat.reduceBEq, Bool.or_true, Bool.true_or, Bool.or_false, Bool.false_or, Bool.not_true, Bool.not_false, true_and, and_true, rowA_whole, push_n, set_n, push_obj, set_obj, set_push, set_push_ne, set_set, Nat.add_assoc, Nat.left_eq_add, Nat.add_eq_left, Nat.add_left_cancel_iff, Nat.reduceEqDiff, stO_1s, stO_ws, boxA_s, one_bool, one_int, one_str, one_ptr, one_nilptr, one_slice, one_eslice, one_nilslice, one_func, one_iface, one_niliface, List.all_cons, List.all_nil, List.length_cons, List.length_nil, Nat.reduceLT, Nat.reduceEqDiff, Nat.reduceLeDiff, Bool.and_true, Nat.one_ne_zero, Nat.succ_ne_zero, reduceIte, if_false, List.getElem?_cons_zero, List.set_cons_zero, List.set_cons_succ]
      exact ⟨rfl, E1, bq, .nilslice, g2.n + 1, g2.n + 1, br, Own.nil, Nat.lt_succ_self _, by omega⟩
    · clear bq br E1
      rintro n e g ⟨k, rfl, hk, i0, i6, i8, i9, E, bq, v, lo, hi, br, ov, hlo, hhi⟩
      have hz := hz.ext E
      have hlz := hz.lenF
      rw [entRows_len] at hlz
      obtain ⟨inv1, inv2⟩ := ansQ_inv qn (es.take k)
      simp only [i0, i6, i8, i9, hlz, go_sem, Hold.p, HoldK.k, HoldL.K, HoldL.body, Nat.reduceBEq, Nat.reduceAdd, List.getElem?_cons_zero, List.getElem?_cons_succ, Option.bind_some, List.map_cons, List.map_nil, Nat.zero_add, if_true, List.getD_cons_zero, List.getD_cons_succ, List.contains_cons, List.contains_nil, Nat.reduceBEq, Bool.or_true, Bool.true_or, Bool.or_false, Bool.false_or, Bool.not_true, Bool.not_false, true_and, and_true, rowA_whole, push_n, set_n, push_obj, set_obj, set_push, set_push_ne, set_set, Nat.add_assoc, Nat.left_eq_add, Nat.add_eq_left, Nat.add_left_cancel_iff, Nat.reduceEqDiff, stO_1s, stO_ws, boxA_s, one_bool, one_int, one_str, one_ptr, one_nilptr, one_slice, one_eslice, one_nilslice, one_func, one_iface, one_niliface, List.all_cons, List.all_nil, List.length_cons, List.length_nil, Nat.reduceLT, Nat.reduceEqDiff, Nat.reduceLeDiff, Bool.and_true, Nat.one_ne_zero, Nat.succ_ne_zero, reduceIte, if_false, List.getElem?_cons_zero, List.set_cons_zero, List.set_cons_succ]
      refine test_dec (fun hb => ?_) (fun hb => ?_)
      · have hlt' : k < es.length := by omega
        have hkp : es[k]? = some es[k] := List.getElem?_eq_getElem hlt'
        generalize es[k] = p at hkp
        have hst := ansQ_snoc (qn := qn) hkp
        generalize hs0 : ansQ (es.take k) qn = st at br ov hst inv1 inv2
        obtain ⟨sc, sttl, zs⟩ := st
        simp only at br ov inv1 inv2
        obtain ⟨l, j, hia, hll, hrow⟩ := hz.at (m := k) (entRows_at hkp) .i64
        have hvl := ov.sl.lenF
        rw [intRows_len] at hvl
        have bql := bq.lt
        have brl := br.lt
        have nq : (h1.n = g.n) = False := by simp; omega
        have nr : (g2.n = g.n) = False := by simp; omega
        unfold Ent.row at hrow
        have hrw := rowA_whole [IV.str p.nm, .int .i64 p.addr, .int .i64 p.ttl] 3 rfl
        have nrg : (g.n = g2.n) = False := by simp; omega
        simp only [i0, i6, i8, i9, hia, hrow, hrw, bq.eq, br.eq, nq, nr, go_sem, Hold.p, HoldK.k, HoldL.K, HoldL.body, Nat.reduceBEq, Nat.reduceAdd, List.getElem?_cons_zero, List.getElem?_cons_succ, Option.bind_some, List.map_cons, List.map_nil, Nat.zero_add, if_true, List.getD_cons_zero, List.getD_cons_succ, List.contains_cons, List.contains_nil, Nat.reduceBEq, Bool.or_true, Bool.true_or, Bool.or_false, Bool.false_or, Bool.not_true, Bool.not_false, true_and, and_true, rowA_whole, push_n, set_n, push_obj, set_obj, set_push, set_push_ne, set_set, Nat.add_assoc, Nat.left_eq_add, Nat.add_eq_left, Nat.add_left_cancel_iff, Nat.reduceEqDiff, stO_1s, stO_ws, boxA_s, one_bool, one_int, one_str, one_ptr, one_nilptr, one_slice, one_eslice, one_nilslice, one_func, one_iface, one_niliface, List.all_cons, List.all_nil, List.length_cons, List.length_nil, Nat.reduceLT, Nat.reduceEqDiff, Nat.reduceLeDiff, Bool.and_true, Nat.one_ne_zero, Nat.succ_ne_zero, reduceIte, if_false, List.getElem?_cons_zero, List.set_cons_zero, List.set_cons_succ]
        generalize hq_g4 : IH.push g (IObj.rows [[IV.str p.nm, IV.int .i64 p.addr, IV.int .i64 p.ttl]] 116 3 false) = g4
        have e_g4 : Ext g g4 := by rw [← hq_g4]; exact (Ext.refl _).push _
        have l_g4 : g4.n = g.n + 1 := by rw [← hq_g4]; rfl
        have bp : At g4 g.n (IObj.rows [[IV.str p.nm, IV.int .i64 p.addr, IV.int .i64 p.ttl]] 116 3 false) := by rw [← hq_g4]; exact At.new _ _
        clear hq_g4
        have E := E.ext e_g4
        have bq := bq.ext e_g4
        have br := br.ext e_g4
        have ov := ov.ext e_g4
        by_cases n1 : p.nm = qn
        · have d1 : decide (p.nm = qn) = true := decide_eq_true n1
          simp only [i0, i6, i8, i9, d1, bq.eq, br.eq, bp.eq, go_sem, Hold.p, HoldK.k, HoldL.K, HoldL.body, Nat.reduceBEq, Nat.reduceAdd, List.getElem?_cons_zero, List.getElem?_cons_succ, Option.bind_some, List.map_cons, List.map_nil, Nat.zero_add, if_true, List.getD_cons_zero, List.getD_cons_succ, List.contains_cons, List.contains_nil, Nat.reduceBEq, Bool.or_true, Bool.true_or, Bool.or_false, Bool.false_or, Bool.not_true, Bool.not_false, true_and, and_true, rowA_whole, push_n, set_n, push_obj, set_obj, set_push, set_push_ne, set_set, Nat.add_assoc, Nat.left_eq_add, Nat.add_eq_left, Nat.add_left_cancel_iff, Nat.reduceEqDiff, stO_1s, stO_ws, boxA_s, one_bool, one_int, one_str, one_ptr, one_nilptr, one_slice, one_eslice, one_nilslice, one_func, one_iface, one_niliface, List.all_cons, List.all_nil, List.length_cons, List.length_nil, Nat.reduceLT, Nat.reduceEqDiff, Nat.reduceLeDiff, Bool.and_true, Nat.one_ne_zero, Nat.succ_ne_zero, reduceIte, if_false, List.getElem?_cons_zero, List.set_cons_zero, List.set_cons_succ]
          refine callA_of (l02AddrOK_c _ p.addr) ?_
          rintro r g4a ⟨rfl, rfl⟩
          cases n2 : okAddr p.addr
          · simp only [i0, i6, i8, i9, d1, go_sem, Hold.p, HoldK.k, HoldL.K, HoldL.body, Nat.reduceBEq, Nat.reduceAdd, List.getElem?_cons_zero, List.getElem?_cons_succ, Option.bind_some, List.map_cons, List.map_nil, Nat.zero_add, if_true, List.getD_cons_zero, List.getD_cons_succ, List.contains_cons, List.contains_nil, Nat.reduceBEq, Bool.or_true, Bool.true_or, Bool.or_false, Bool.false_or, Bool.not_true, Bool.not_false, true_and, and_true, rowA_whole, push_n, set_n, push_obj, set_obj, set_push, set_push_ne, set_set, Nat.add_assoc, Nat.left_eq_add, Nat.add_eq_left, Nat.add_left_cancel_iff, Nat.reduceEqDiff, stO_1s, stO_ws, boxA_s, one_bool, one_int, one_str, one_ptr, one_nilptr, one_slice, one_eslice, one_nilslice, one_func, one_iface, one_niliface, List.all_cons, List.all_nil, List.length_cons, List.length_nil, Nat.reduceLT, Nat.reduceEqDiff, Nat.reduceLeDiff, Bool.and_true, Nat.one_ne_zero, Nat.succ_ne_zero, reduceIte, if_false, List.getElem?_cons_zero, List.set_cons_zero, List.set_cons_succ]
            have hskip : ansStep qn (sc, sttl, zs) p = (sc, sttl, zs) := if_neg (by unfold fitE; rw [n2, Bool.and_false, Bool.false_and]; simp)
            refine ⟨_, ?_, k + 1, rfl, by omega, wr64_succ k (by omega), ?_⟩
            · omega
            · rw [hst, hskip]; exact ⟨E, bq, v, lo, hi, br, ov, hlo, by omega⟩
          simp only [i0, i6, i8, i9, d1, bq.eq, br.eq, bp.eq, go_sem, Hold.p, HoldK.k, HoldL.K, HoldL.body, Nat.reduceBEq, Nat.reduceAdd, List.getElem?_cons_zero, List.getElem?_cons_succ, Option.bind_some, List.map_cons, List.map_nil, Nat.zero_add, if_true, List.getD_cons_zero, List.getD_cons_succ, List.contains_cons, List.contains_nil, Nat.reduceBEq, Bool.or_true, Bool.true_or, Bool.or_false, Bool.false_or, Bool.not_true, Bool.not_false, true_and, and_true, rowA_whole, push_n, set_n, push_obj, set_obj, set_push, set_push_ne, set_set, Nat.add_assoc, Nat.left_eq_add, Nat.add_eq_left, Nat.add_left_cancel_iff, Nat.reduceEqDiff, stO_1s, stO_ws, boxA_s, one_bool, one_int, one_str, one_ptr, one_nilptr, one_slice, one_eslice, one_nilslice, one_func, one_iface, one_niliface, List.all_cons, List.all_nil, List.length_cons, List.length_nil, Nat.reduceLT, Nat.reduceEqDiff, Nat.reduceLeDiff, Bool.and_true, Nat.one_ne_zero, Nat.succ_ne_zero, reduceIte, if_false, List.getElem?_cons_zero, List.set_cons_zero, List.set_cons_succ]
          refine callA_of (l01In_c _ p.ttl 0 86400) ?_
          rintro r g4b ⟨rfl, rfl⟩
          cases n3 : (decide (0 ≤ p.ttl) && decide (p.ttl ≤ 86400))
          · simp only [i0, i6, i8, i9, d1, go_sem, Hold.p, HoldK.k, HoldL.K, HoldL.body, Nat.reduceBEq, Nat.reduceAdd, List.getElem?_cons_zero, List.getElem?_cons_succ, Option.bind_some, List.map_cons, List.map_nil, Nat.zero_add, if_true, List.getD_cons_zero, List.getD_cons_succ, List.contains_cons, List.contains_nil, Nat.reduceBEq, Bool.or_true, Bool.true_or, Bool.or_false, Bool.false_or, Bool.not_true, Bool.not_false, true_and, and_true, rowA_whole, push_n, set_n, push_obj, set_obj, set_push, set_push_ne, set_set, Nat.add_assoc, Nat.left_eq_add, Nat.add_eq_left, Nat.add_left_cancel_iff, Nat.reduceEqDiff, stO_1s, stO_ws, boxA_s, one_bool, one_int, one_str, one_ptr, one_nilptr, one_slice, one_eslice, one_nilslice, one_func, one_iface, one_niliface, List.all_cons, List.all_nil, List.length_cons, List.length_nil, Nat.reduceLT, Nat.reduceEqDiff, Nat.reduceLeDiff, Bool.and_true, Nat.one_ne_zero, Nat.succ_ne_zero, reduceIte, if_false, List.getElem?_cons_zero, List.set_cons_zero, List.set_cons_succ]
            have hskip : ansStep qn (sc, sttl, zs) p = (sc, sttl, zs) := if_neg (by unfold fitE; rw [n3, Bool.and_false]; simp)
            refine ⟨_, ?_, k + 1, rfl, by omega, wr64_succ k (by omega), ?_⟩
            · omega
            · rw [hst, hskip]; exact ⟨E, bq, v, lo, hi, br, ov, hlo, by omega⟩
          have hfit : fitE qn p = true := by unfold fitE; rw [n2, n3, d1]; rfl
          by_cases n4 : 8 ≤ zs.length
          · have d4 : decide ((8 : Int) ≤ (zs.length : Int)) = true := decide_eq_true (by omega)
            simp only [i0, i6, i8, i9, d1, br.eq, hvl, d4, go_sem, Hold.p, HoldK.k, HoldL.K, HoldL.body, Nat.reduceBEq, Nat.reduceAdd, List.getElem?_cons_zero, List.getElem?_cons_succ, Option.bind_some, List.map_cons, List.map_nil, Nat.zero_add, if_true, List.getD_cons_zero, List.getD_cons_succ, List.contains_cons, List.contains_nil, Nat.reduceBEq, Bool.or_true, Bool.true_or, Bool.or_false, Bool.false_or, Bool.not_true, Bool.not_false, true_and, and_true, rowA_whole, push_n, set_n, push_obj, set_obj, set_push, set_push_ne, set_set, Nat.add_assoc, Nat.left_eq_add, Nat.add_eq_left, Nat.add_left_cancel_iff, Nat.reduceEqDiff, stO_1s, stO_ws, boxA_s, one_bool, one_int, one_str, one_ptr, one_nilptr, one_slice, one_eslice, one_nilslice, one_func, one_iface, one_niliface, List.all_cons, List.all_nil, List.length_cons, List.length_nil, Nat.reduceLT, Nat.reduceEqDiff, Nat.reduceLeDiff, Bool.and_true, Nat.one_ne_zero, Nat.succ_ne_zero, reduceIte, if_false, List.getElem?_cons_zero, List.set_cons_zero, List.set_cons_succ]
            have hskip : ansStep qn (sc, sttl, zs) p = (sc, sttl, zs) := if_neg (by exact fun hx => by have h2 : zs.length < 8 := hx.2; omega)
            refine ⟨_, ?_, k + 1, rfl, by omega, wr64_succ k (by omega), ?_⟩
            · omega
            · rw [hst, hskip]; exact ⟨E, bq, v, lo, hi, br, ov, hlo, by omega⟩
          have d4 : decide ((8 : Int) ≤ (zs.length : Int)) = false := decide_eq_false (by omega)
          rcases inv1 with rfl | rfl
          · have d5 : decide ((20 : Int) = 0) = false := rfl
            have hgo : ansStep qn (20, sttl, zs) p = (0, p.ttl, zs ++ [p.addr]) := by
              unfold ansStep
              rw [if_pos ⟨hfit, by show zs.length < 8; omega⟩]
              rw [if_pos (.inl (by show (20 : Int) ≠ 0; decide))]
            simp only [i0, i6, i8, i9, d1, br.eq, bp.eq, hvl, d4, d5, nrg, go_sem, Hold.p, HoldK.k, HoldL.K, HoldL.body, Nat.reduceBEq, Nat.reduceAdd, List.getElem?_cons_zero, List.getElem?_cons_succ, Option.bind_some, List.map_cons, List.map_nil, Nat.zero_add, if_true, List.getD_cons_zero, List.getD_cons_succ, List.contains_cons, List.contains_nil, Nat.reduceBEq, Bool.or_true, Bool.true_or, Bool.or_false, Bool.false_or, Bool.not_true, Bool.not_false, true_and, and_true, rowA_whole, push_n, set_n, push_obj, set_obj, set_push, set_push_ne, set_set, Nat.add_assoc, Nat.left_eq_add, Nat.add_eq_left, Nat.add_left_cancel_iff, Nat.reduceEqDiff, stO_1s, stO_ws, boxA_s, one_bool, one_int, one_str, one_ptr, one_nilptr, one_slice, one_eslice, one_nilslice, one_func, one_iface, one_niliface, List.all_cons, List.all_nil, List.length_cons, List.length_nil, Nat.reduceLT, Nat.reduceEqDiff, Nat.reduceLeDiff, Bool.and_true, Nat.one_ne_zero, Nat.succ_ne_zero, reduceIte, if_false, List.getElem?_cons_zero, List.set_cons_zero, List.set_cons_succ]
            generalize hq_g5 : IH.set g4b (g2.n) (IObj.rows [[IV.int .i64 id, IV.int .i64 0, IV.int .i64 p.ttl, IV.str qn, v]] 44 5 false) = g5
            have l_g5 : g5.n = g4b.n := by rw [← hq_g5]; rfl
            have br : At g5 (g2.n) (IObj.rows [[IV.int .i64 id, IV.int .i64 0, IV.int .i64 p.ttl, IV.str qn, v]] 44 5 false) := by rw [← hq_g5]; exact br.here
            have ov := ov.set (m := g2.n) (by omega) (IObj.rows [[IV.int .i64 id, IV.int .i64 0, IV.int .i64 p.ttl, IV.str qn, v]] 44 5 false)
            rw [hq_g5] at ov
            have bq := bq.set (p := g2.n) (o' := IObj.rows [[IV.int .i64 id, IV.int .i64 0, IV.int .i64 p.ttl, IV.str qn, v]] 44 5 false) (by omega)
            rw [hq_g5] at bq
            have bp := bp.set (p := g2.n) (o' := IObj.rows [[IV.int .i64 id, IV.int .i64 0, IV.int .i64 p.ttl, IV.str qn, v]] 44 5 false) (by omega)
            rw [hq_g5] at bp
            have E := E.set (g2.n) (by omega) (IObj.rows [[IV.int .i64 id, IV.int .i64 0, IV.int .i64 p.ttl, IV.str qn, v]] 44 5 false)
            rw [hq_g5] at E
            clear hq_g5
            have n5 : (g2.n = g5.n) = False := by simp; omega
            try simp only [i0, i6, i8, i9, bq.eq, br.eq, bp.eq, n5, nrg, bslA_1, go_sem, Hold.p, HoldK.k, HoldL.K, HoldL.body, Nat.reduceBEq, Nat.reduceAdd, List.getElem?_cons_zero, List.getElem?_cons_succ, Option.bind_some, List.map_cons, List.map_nil, Nat.zero_add, if_true, List.getD_cons_zero, List.getD_cons_succ, List.contains_cons, List.contains_nil, Nat.reduceBEq, Bool.or_true, Bool.true_or, Bool.or_false, Bool.false_or, Bool.not_true, Bool.not_false, true_and, and_true, rowA_whole, push_n, set_n, push_obj, set_obj, set_push, set_push_ne, set_set, Nat.add_assoc, Nat.left_eq_add, Nat.add_eq_left, Nat.add_left_cancel_iff, Nat.reduceEqDiff, stO_1s, stO_ws, boxA_s, one_bool, one_int, one_str, one_ptr, one_nilptr, one_slice, one_eslice, one_nilslice, one_func, one_iface, one_niliface, List.all_cons, List.all_nil, List.length_cons, List.length_nil, Nat.reduceLT, Nat.reduceEqDiff, Nat.reduceLeDiff, Bool.and_true, Nat.one_ne_zero, Nat.succ_ne_zero, reduceIte, if_false, List.getElem?_cons_zero, List.set_cons_zero, List.set_cons_succ]
            generalize hq_g6 : IH.push g5 (IObj.rows [[IV.int .i64 p.addr]] 2 1 false) = g6
            have e_g6 : Ext g5 g6 := by rw [← hq_g6]; exact (Ext.refl _).push _
            have l_g6 : g6.n = g5.n + 1 := by rw [← hq_g6]; rfl
            have bw : At g6 g5.n (IObj.rows [[IV.int .i64 p.addr]] 2 1 false) := by rw [← hq_g6]; exact At.new _ _
            clear hq_g6
            have br := br.ext e_g6
            have ov := ov.ext e_g6
            have bq := bq.ext e_g6
            have bp := bp.ext e_g6
            have E := E.ext e_g6
            refine ov.app (by simp) (by rw [intRows_len]; simp; omega) ?_
            intro v6 h7 o6 t6 n6 v6o v6c
            have br := br.turn ov (by omega) t6
            have bq := bq.turn ov (by omega) t6
            have E := E.turn ov (by omega) t6
            have le_t6 := t6.le
            simp only [i0, i6, i8, i9, br.eq, v6o, v6c, go_sem, Hold.p, HoldK.k, HoldL.K, HoldL.body, Nat.reduceBEq, Nat.reduceAdd, List.getElem?_cons_zero, List.getElem?_cons_succ, Option.bind_some, List.map_cons, List.map_nil, Nat.zero_add, if_true, List.getD_cons_zero, List.getD_cons_succ, List.contains_cons, List.contains_nil, Nat.reduceBEq, Bool.or_true, Bool.true_or, Bool.or_false, Bool.false_or, Bool.not_true, Bool.not_false, true_and, and_true, rowA_whole, push_n, set_n, push_obj, set_obj, set_push, set_push_ne, set_set, Nat.add_assoc, Nat.left_eq_add, Nat.add_eq_left, Nat.add_left_cancel_iff, Nat.reduceEqDiff, stO_1s, stO_ws, boxA_s, one_bool, one_int, one_str, one_ptr, one_nilptr, one_slice, one_eslice, one_nilslice, one_func, one_iface, one_niliface, List.all_cons, List.all_nil, List.length_cons, List.length_nil, Nat.reduceLT, Nat.reduceEqDiff, Nat.reduceLeDiff, Bool.and_true, Nat.one_ne_zero, Nat.succ_ne_zero, reduceIte, if_false, List.getElem?_cons_zero, List.set_cons_zero, List.set_cons_succ]
            have o7 : Own g6.n (g6.n + 1) h7 2 1 v6 (intRows (zs ++ [p.addr])) := by rw [intRows_append]; exact o6
            generalize hq_g8 : IH.set h7 (g2.n) (IObj.rows [[IV.int .i64 id, IV.int .i64 0, IV.int .i64 p.ttl, IV.str qn, v6]] 44 5 false) = g8
            have l_g8 : g8.n = h7.n := by rw [← hq_g8]; rfl
            have br : At g8 (g2.n) (IObj.rows [[IV.int .i64 id, IV.int .i64 0, IV.int .i64 p.ttl, IV.str qn, v6]] 44 5 false) := by rw [← hq_g8]; exact br.here
            have o7 := o7.set (m := g2.n) (by omega) (IObj.rows [[IV.int .i64 id, IV.int .i64 0, IV.int .i64 p.ttl, IV.str qn, v6]] 44 5 false)
            rw [hq_g8] at o7
            have bq := bq.set (p := g2.n) (o' := IObj.rows [[IV.int .i64 id, IV.int .i64 0, IV.int .i64 p.ttl, IV.str qn, v6]] 44 5 false) (by omega)
            rw [hq_g8] at bq
            have E := E.set (g2.n) (by omega) (IObj.rows [[IV.int .i64 id, IV.int .i64 0, IV.int .i64 p.ttl, IV.str qn, v6]] 44 5 false)
            rw [hq_g8] at E
            clear hq_g8
            refine ⟨_, ?_, k + 1, rfl, by omega, wr64_succ k (by omega), ?_⟩
            · omega
            · rw [hst, hgo]; exact ⟨E, bq, v6, g6.n, g6.n + 1, br, o7, by omega, by omega⟩
          have d5 : decide ((0 : Int) = 0) = true := rfl
          by_cases n6 : p.ttl < sttl
          · have d6 : decide (p.ttl < sttl) = true := decide_eq_true n6
            have hgo : ansStep qn (0, sttl, zs) p = (0, p.ttl, zs ++ [p.addr]) := by
              unfold ansStep
              rw [if_pos ⟨hfit, by show zs.length < 8; omega⟩]
              rw [if_pos (.inr n6)]
            simp only [i0, i6, i8, i9, d1, br.eq, bp.eq, hvl, d4, d5, d6, decide_true, eq_self, nrg, go_sem, Hold.p, HoldK.k, HoldL.K, HoldL.body, Nat.reduceBEq, Nat.reduceAdd, List.getElem?_cons_zero, List.getElem?_cons_succ, Option.bind_some, List.map_cons, List.map_nil, Nat.zero_add, if_true, List.getD_cons_zero, List.getD_cons_succ, List.contains_cons, List.contains_nil, Nat.reduceBEq, Bool.or_true, Bool.true_or, Bool.or_false, Bool.false_or, Bool.not_true, Bool.not_false, true_and, and_true, rowA_whole, push_n, set_n, push_obj, set_obj, set_push, set_push_ne, set_set, Nat.add_assoc, Nat.left_eq_add, Nat.add_eq_left, Nat.add_left_cancel_iff, Nat.reduceEqDiff, stO_1s, stO_ws, boxA_s, one_bool, one_int, one_str, one_ptr, one_nilptr, one_slice, one_eslice, one_nilslice, one_func, one_iface, one_niliface, List.all_cons, List.all_nil, List.length_cons, List.length_nil, Nat.reduceLT, Nat.reduceEqDiff, Nat.reduceLeDiff, Bool.and_true, Nat.one_ne_zero, Nat.succ_ne_zero, reduceIte, if_false, List.getElem?_cons_zero, List.set_cons_zero, List.set_cons_succ]
            generalize hq_g5 : IH.set g4b (g2.n) (IObj.rows [[IV.int .i64 id, IV.int .i64 0, IV.int .i64 p.ttl, IV.str qn, v]] 44 5 false) = g5
            have l_g5 : g5.n = g4b.n := by rw [← hq_g5]; rfl
            have br : At g5 (g2.n) (IObj.rows [[IV.int .i64 id, IV.int .i64 0, IV.int .i64 p.ttl, IV.str qn, v]] 44 5 false) := by rw [← hq_g5]; exact br.here
            have ov := ov.set (m := g2.n) (by omega) (IObj.rows [[IV.int .i64 id, IV.int .i64 0, IV.int .i64 p.ttl, IV.str qn, v]] 44 5 false)
            rw [hq_g5] at ov
            have bq := bq.set (p := g2.n) (o' := IObj.rows [[IV.int .i64 id, IV.int .i64 0, IV.int .i64 p.ttl, IV.str qn, v]] 44 5 false) (by omega)
            rw [hq_g5] at bq
            have bp := bp.set (p := g2.n) (o' := IObj.rows [[IV.int .i64 id, IV.int .i64 0, IV.int .i64 p.ttl, IV.str qn, v]] 44 5 false) (by omega)
            rw [hq_g5] at bp
            have E := E.set (g2.n) (by omega) (IObj.rows [[IV.int .i64 id, IV.int .i64 0, IV.int .i64 p.ttl, IV.str qn, v]] 44 5 false)
            rw [hq_g5] at E
            clear hq_g5
            have n5 : (g2.n = g5.n) = False := by simp; omega
            try simp only [i0, i6, i8, i9, bq.eq, br.eq, bp.eq, n5, nrg, bslA_1, go_sem, Hold.p, HoldK.k, HoldL.K, HoldL.body, Nat.reduceBEq, Nat.reduceAdd, List.getElem?_cons_zero, List.getElem?_cons_succ, Option.bind_some, List.map_cons, List.map_nil, Nat.zero_add, if_true, List.getD_cons_zero, List.getD_cons_succ, List.contains_cons, List.contains_nil, Nat.reduceBEq, Bool.or_true, Bool.true_or, Bool.or_false, Bool.false_or, Bool.not_true, Bool.not_false, true_and, and_true, rowA_whole, push_n, set_n, push_obj, set_obj, set_push, set_push_ne, set_set, Nat.add_assoc, Nat.left_eq_add, Nat.add_eq_left, Nat.add_left_cancel_iff, Nat.reduceEqDiff, stO_1s, stO_ws, boxA_s, one_bool, one_int, one_str, one_ptr, one_nilptr, one_slice, one_eslice, one_nilslice, one_func, one_iface, one_niliface, List.all_cons, List.all_nil, List.length_cons, List.length_nil, Nat.reduceLT, Nat.reduceEqDiff, Nat.reduceLeDiff, Bool.and_true, Nat.one_ne_zero, Nat.succ_ne_zero, reduceIte, if_false, List.getElem?_cons_zero, List.set_cons_zero, List.set_cons_succ]
            generalize hq_g6 : IH.push g5 (IObj.rows [[IV.int .i64 p.addr]] 2 1 false) = g6
            have e_g6 : Ext g5 g6 := by rw [← hq_g6]; exact (Ext.refl _).push _
            have l_g6 : g6.n = g5.n + 1 := by rw [← hq_g6]; rfl
            have bw : At g6 g5.n (IObj.rows [[IV.int .i64 p.addr]] 2 1 false) := by rw [← hq_g6]; exact At.new _ _
            clear hq_g6
            have br := br.ext e_g6
            have ov := ov.ext e_g6
            have bq := bq.ext e_g6
            have bp := bp.ext e_g6
            have E := E.ext e_g6
            refine ov.app (by simp) (by rw [intRows_len]; simp; omega) ?_
            intro v6 h7 o6 t6 n6 v6o v6c
            have br := br.turn ov (by omega) t6
            have bq := bq.turn ov (by omega) t6
            have E := E.turn ov (by omega) t6
            have le_t6 := t6.le
            simp only [i0, i6, i8, i9, br.eq, v6o, v6c, go_sem, Hold.p, HoldK.k, HoldL.K, HoldL.body, Nat.reduceBEq, Nat.reduceAdd, List.getElem?_cons_zero, List.getElem?_cons_succ, Option.bind_some, List.map_cons, List.map_nil, Nat.zero_add, if_true, List.getD_cons_zero, List.getD_cons_succ, List.contains_cons, List.contains_nil, Nat.reduceBEq, Bool.or_true, Bool.true_or, Bool.or_false, Bool.false_or, Bool.not_true, Bool.not_false, true_and, and_true, rowA_whole, push_n, set_n, push_obj, set_obj, set_push, set_push_ne, set_set, Nat.add_assoc, Nat.left_eq_add, Nat.add_eq_left, Nat.add_left_cancel_iff, Nat.reduceEqDiff, stO_1s, stO_ws, boxA_s, one_bool, one_int, one_str, one_ptr, one_nilptr, one_slice, one_eslice, one_nilslice, one_func, one_iface, one_niliface, List.all_cons, List.all_nil, List.length_cons, List.length_nil, Nat.reduceLT, Nat.reduceEqDiff, Nat.reduceLeDiff, Bool.and_true, Nat.one_ne_zero, Nat.succ_ne_zero, reduceIte, if_false, List.getElem?_cons_zero, List.set_cons_zero, List.set_cons_succ]
            have o7 : Own g6.n (g6.n + 1) h7 2 1 v6 (intRows (zs ++ [p.addr])) := by rw [intRows_append]; exact o6
            generalize hq_g8 : IH.set h7 (g2.n) (IObj.rows [[IV.int .i64 id, IV.int .i64 0, IV.int .i64 p.ttl, IV.str qn, v6]] 44 5 false) = g8
            have l_g8 : g8.n = h7.n := by rw [← hq_g8]; rfl
            have br : At g8 (g2.n) (IObj.rows [[IV.int .i64 id, IV.int .i64 0, IV.int .i64 p.ttl, IV.str qn, v6]] 44 5 false) := by rw [← hq_g8]; exact br.here
            have o7 := o7.set (m := g2.n) (by omega) (IObj.rows [[IV.int .i64 id, IV.int .i64 0, IV.int .i64 p.ttl, IV.str qn, v6]] 44 5 false)
            rw [hq_g8] at o7
            have bq := bq.set (p := g2.n) (o' := IObj.rows [[IV.int .i64 id, IV.int .i64 0, IV.int .i64 p.ttl, IV.str qn, v6]] 44 5 false) (by omega)
            rw [hq_g8] at bq
            have E := E.set (g2.n) (by omega) (IObj.rows [[IV.int .i64 id, IV.int .i64 0, IV.int .i64 p.ttl, IV.str qn, v6]] 44 5 false)
            rw [hq_g8] at E
            clear hq_g8
            refine ⟨_, ?_, k + 1, rfl, by omega, wr64_succ k (by omega), ?_⟩
            · omega
            · rw [hst, hgo]; exact ⟨E, bq, v6, g6.n, g6.n + 1, br, o7, by omega, by omega⟩
          · have d6 : decide (p.ttl < sttl) = false := decide_eq_false n6
            have hgo : ansStep qn (0, sttl, zs) p = (0, sttl, zs ++ [p.addr]) := by
              unfold ansStep
              rw [if_pos ⟨hfit, by show zs.length < 8; omega⟩]
              rw [if_neg (by show ¬ ((0 : Int) ≠ 0 ∨ p.ttl < sttl); omega)]
            simp only [i0, i6, i8, i9, d1, br.eq, bp.eq, hvl, d4, d5, d6, decide_true, eq_self, nrg, go_sem, Hold.p, HoldK.k, HoldL.K, HoldL.body, Nat.reduceBEq, Nat.reduceAdd, List.getElem?_cons_zero, List.getElem?_cons_succ, Option.bind_some, List.map_cons, List.map_nil, Nat.zero_add, if_true, List.getD_cons_zero, List.getD_cons_succ, List.contains_cons, List.contains_nil, Nat.reduceBEq, Bool.or_true, Bool.true_or, Bool.or_false, Bool.false_or, Bool.not_true, Bool.not_false, true_and, and_true, rowA_whole, push_n, set_n, push_obj, set_obj, set_push, set_push_ne, set_set, Nat.add_assoc, Nat.left_eq_add, Nat.add_eq_left, Nat.add_left_cancel_iff, Nat.reduceEqDiff, stO_1s, stO_ws, boxA_s, one_bool, one_int, one_str, one_ptr, one_nilptr, one_slice, one_eslice, one_nilslice, one_func, one_iface, one_niliface, List.all_cons, List.all_nil, List.length_cons, List.length_nil, Nat.reduceLT, Nat.reduceEqDiff, Nat.reduceLeDiff, Bool.and_true, Nat.one_ne_zero, Nat.succ_ne_zero, reduceIte, if_false, List.getElem?_cons_zero, List.set_cons_zero, List.set_cons_succ]
            generalize hq_g5 : IH.set g4b (g2.n) (IObj.rows [[IV.int .i64 id, IV.int .i64 0, IV.int .i64 sttl, IV.str qn, v]] 44 5 false) = g5
            have l_g5 : g5.n = g4b.n := by rw [← hq_g5]; rfl
            have br : At g5 (g2.n) (IObj.rows [[IV.int .i64 id, IV.int .i64 0, IV.int .i64 sttl, IV.str qn, v]] 44 5 false) := by rw [← hq_g5]; exact br.here
            have ov := ov.set (m := g2.n) (by omega) (IObj.rows [[IV.int .i64 id, IV.int .i64 0, IV.int .i64 sttl, IV.str qn, v]] 44 5 false)
            rw [hq_g5] at ov
            have bq := bq.set (p := g2.n) (o' := IObj.rows [[IV.int .i64 id, IV.int .i64 0, IV.int .i64 sttl, IV.str qn, v]] 44 5 false) (by omega)
            rw [hq_g5] at bq
            have bp := bp.set (p := g2.n) (o' := IObj.rows [[IV.int .i64 id, IV.int .i64 0, IV.int .i64 sttl, IV.str qn, v]] 44 5 false) (by omega)
            rw [hq_g5] at bp
            have E := E.set (g2.n) (by omega) (IObj.rows [[IV.int .i64 id, IV.int .i64 0, IV.int .i64 sttl, IV.str qn, v]] 44 5 false)
            rw [hq_g5] at E
            clear hq_g5
            have n5 : (g2.n = g5.n) = False := by simp; omega
            try simp only [i0, i6, i8, i9, bq.eq, br.eq, bp.eq, n5, nrg, bslA_1, go_sem, Hold.p, HoldK.k, HoldL.K, HoldL.body, Nat.reduceBEq, Nat.reduceAdd, List.getElem?_cons_zero, List.getElem?_cons_succ, Option.bind_some, List.map_cons, List.map_nil, Nat.zero_add, if_true, List.getD_cons_zero, List.getD_cons_succ, List.contains_cons, List.contains_nil, Nat.reduceBEq, Bool.or_true, Bool.true_or, Bool.or_false, Bool.false_or, Bool.not_true, Bool.not_false, true_and, and_true, rowA_whole, push_n, set_n, push_obj, set_obj, set_push, set_push_ne, set_set, Nat.add_assoc, Nat.left_eq_add, Nat.add_eq_left, Nat.add_left_cancel_iff, Nat.reduceEqDiff, stO_1s, stO_ws, boxA_s, one_bool, one_int, one_str, one_ptr, one_nilptr, one_slice, one_eslice, one_nilslice, one_func, one_iface, one_niliface, List.all_cons, List.all_nil, List.length_cons, List.length_nil, Nat.reduceLT, Nat.reduceEqDiff, Nat.reduceLeDiff, Bool.and_true, Nat.one_ne_zero, Nat.succ_ne_zero, reduceIte, if_false, List.getElem?_cons_zero, List.set_cons_zero, List.set_cons_succ]
            generalize hq_g6 : IH.push g5 (IObj.rows [[IV.int .i64 p.addr]] 2 1 false) = g6
            have e_g6 : Ext g5 g6 := by rw [← hq_g6]; exact (Ext.refl _).push _
            have l_g6 : g6.n = g5.n + 1 := by rw [← hq_g6]; rfl
            have bw : At g6 g5.n (IObj.rows [[IV.int .i64 p.addr]] 2 1 false) := by rw [← hq_g6]; exact At.new _ _
            clear hq_g6
            have br := br.ext e_g6
            have ov := ov.ext e_g6
            have bq := bq.ext e_g6
            have bp := bp.ext e_g6
            have E := E.ext e_g6
            refine ov.app (by simp) (by rw [intRows_len]; simp; omega) ?_
            intro v6 h7 o6 t6 n6 v6o v6c
            have br := br.turn ov (by omega) t6
            have bq := bq.turn ov (by omega) t6
            have E := E.turn ov (by omega) t6
            have le_t6 := t6.le
            simp only [i0, i6, i8, i9, br.eq, v6o, v6c, go_sem, Hold.p, HoldK.k, HoldL.K, HoldL.body, Nat.reduceBEq, Nat.reduceAdd, List.getElem?_cons_zero, List.getElem?_cons_succ, Option.bind_some, List.map_cons, List.map_nil, Nat.zero_add, if_true, List.getD_cons_zero, List.getD_cons_succ, List.contains_cons, List.contains_nil, Nat.reduceBEq, Bool.or_true, Bool.true_or, Bool.or_false, Bool.false_or, Bool.not_true, Bool.not_false, true_and, and_true, rowA_whole, push_n, set_n, push_obj, set_obj, set_push, set_push_ne, set_set, Nat.add_assoc, Nat.left_eq_add, Nat.add_eq_left, Nat.add_left_cancel_iff, Nat.reduceEqDiff, stO_1s, stO_ws, boxA_s, one_bool, one_int, one_str, one_ptr, one_nilptr, one_slice, one_eslice, one_nilslice, one_func, one_iface, one_niliface, List.all_cons, List.all_nil, List.length_cons, List.length_nil, Nat.reduceLT, Nat.reduceEqDiff, Nat.reduceLeDiff, Bool.and_true, Nat.one_ne_zero, Nat.succ_ne_zero, reduceIte, if_false, List.getElem?_cons_zero, List.set_cons_zero, List.set_cons_succ]
            have o7 : Own g6.n (g6.n + 1) h7 2 1 v6 (intRows (zs ++ [p.addr])) := by rw [intRows_append]; exact o6
            generalize hq_g8 : IH.set h7 (g2.n) (IObj.rows [[IV.int .i64 id, IV.int .i64 0, IV.int .i64 sttl, IV.str qn, v6]] 44 5 false) = g8
            have l_g8 : g8.n = h7.n := by rw [← hq_g8]; rfl
            have br : At g8 (g2.n) (IObj.rows [[IV.int .i64 id, IV.int .i64 0, IV.int .i64 sttl, IV.str qn, v6]] 44 5 false) := by rw [← hq_g8]; exact br.here
            have o7 := o7.set (m := g2.n) (by omega) (IObj.rows [[IV.int .i64 id, IV.int .i64 0, IV.int .i64 sttl, IV.str qn, v6]] 44 5 false)
            rw [hq_g8] at o7
            have bq := bq.set (p := g2.n) (o' := IObj.rows [[IV.int .i64 id, IV.int .i64 0, IV.int .i64 sttl, IV.str qn, v6]] 44 5 false) (by omega)
            rw [hq_g8] at bq
            have E := E.set (g2.n) (by omega) (IObj.rows [[IV.int .i64 id, IV.int .i64 0, IV.int .i64 sttl, IV.str qn, v6]] 44 5 false)
            rw [hq_g8] at E
            clear hq_g8
            refine ⟨_, ?_, k + 1, rfl, by omega, wr64_succ k (by omega), ?_⟩
            · omega
            · rw [hst, hgo]; exact ⟨E, bq, v6, g6.n, g6.n + 1, br, o7, by omega, by omega⟩
        · have d1 : decide (p.nm = qn) = false := decide_eq_false n1
          simp only [i0, i6, i8, i9, d1, go_sem, Hold.p, HoldK.k, HoldL.K, HoldL.body, Nat.reduceBEq, Nat.reduceAdd, List.getElem?_cons_zero, List.getElem?_cons_succ, Option.bind_some, List.map_cons, List.map_nil, Nat.zero_add, if_true, List.getD_cons_zero, List.getD_cons_succ, List.contains_cons, List.contains_nil, Nat.reduceBEq, Bool.or_true, Bool.true_or, Bool.or_false, Bool.false_or, Bool.not_true, Bool.not_false, true_and, and_true, rowA_whole, push_n, set_n, push_obj, set_obj, set_push, set_push_ne, set_set, Nat.add_assoc, Nat.left_eq_add, Nat.add_eq_left, Nat.add_left_cancel_iff, Nat.reduceEqDiff, stO_1s, stO_ws, boxA_s, one_bool, one_int, one_str, one_ptr, one_nilptr, one_slice, one_eslice, one_nilslice, one_func, one_iface, one_niliface, List.all_cons, List.all_nil, List.length_cons, List.length_nil, Nat.reduceLT, Nat.reduceEqDiff, Nat.reduceLeDiff, Bool.and_true, Nat.one_ne_zero, Nat.succ_ne_zero, reduceIte, if_false, List.getElem?_cons_zero, List.set_cons_zero, List.set_cons_succ]
          have hskip : ansStep qn (sc, sttl, zs) p = (sc, sttl, zs) := if_neg (by unfold fitE; rw [d1, Bool.false_and, Bool.false_and]; simp)
          refine ⟨_, ?_, k + 1, rfl, by omega, wr64_succ k (by omega), ?_⟩
          · omega
          · rw [hst, hskip]; exact ⟨E, bq, v, lo, hi, br, ov, hlo, by omega⟩
      · obtain rfl : k = es.length := by omega
        rw [List.take_length] at br ov inv2
        generalize ansQ es qn = st at br ov hdef inv2
        obtain ⟨sc, sttl, zs⟩ := st
        simp only at br ov hdef inv2
        simp only [i8, br.eq, go_sem, Hold.p, HoldK.k, HoldL.K, HoldL.body, Nat.reduceBEq, Nat.reduceAdd, List.getElem?_cons_zero, List.getElem?_cons_succ, Option.bind_some, List.map_cons, List.map_nil, Nat.zero_add, if_true, List.getD_cons_zero, List.getD_cons_succ, List.contains_cons, List.contains_nil, Nat.reduceBEq, Bool.or_true, Bool.true_or, Bool.or_false, Bool.false_or, Bool.not_true, Bool.not_false, true_and, and_true, rowA_whole, push_n, set_n, push_obj, set_obj, set_push, set_push_ne, set_set, Nat.add_assoc, Nat.left_eq_add, Nat.add_eq_left, Nat.add_left_cancel_iff, Nat.reduceEqDiff, stO_1s, stO_ws, boxA_s, one_bool, one_int, one_str, one_ptr, one_nilptr, one_slice, one_eslice, one_nilslice, one_func, one_iface, one_niliface, List.all_cons, List.all_nil, List.length_cons, List.length_nil, Nat.reduceLT, Nat.reduceEqDiff, Nat.reduceLeDiff, Bool.and_true, Nat.one_ne_zero, Nat.succ_ne_zero, reduceIte, if_false, List.getElem?_cons_zero, List.set_cons_zero, List.set_cons_succ]
        refine callA_of (specEncodeReply_c g id sc sttl qn v zs ov.sl (by omega) (by omega)) ?_
        rintro r h7 ⟨vr, rfl, o7, E7⟩
        rw [← hdef] at o7 ⊢
        simp only [go_sem, Hold.p, HoldK.k, HoldL.K, HoldL.body, Nat.reduceBEq, Nat.reduceAdd, List.getElem?_cons_zero, List.getElem?_cons_succ, Option.bind_some, List.map_cons, List.map_nil, Nat.zero_add, if_true, List.getD_cons_zero, List.getD_cons_succ, List.contains_cons, List.contains_nil, Nat.reduceBEq, Bool.or_true, Bool.true_or, Bool.or_false, Bool.false_or, Bool.not_true, Bool.not_false, true_and, and_true, rowA_whole, push_n, set_n, push_obj, set_obj, set_push, set_push_ne, set_set, Nat.add_assoc, Nat.left_eq_add, Nat.add_eq_left, Nat.add_left_cancel_iff, Nat.reduceEqDiff, stO_1s, stO_ws, boxA_s, one_bool, one_int, one_str, one_ptr, one_nilptr, one_slice, one_eslice, one_nilslice, one_func, one_iface, one_niliface, List.all_cons, List.all_nil, List.length_cons, List.length_nil, Nat.reduceLT, Nat.reduceEqDiff, Nat.reduceLeDiff, Bool.and_true, Nat.one_ne_zero, Nat.succ_ne_zero, reduceIte, if_false, List.getElem?_cons_zero, List.set_cons_zero, List.set_cons_succ]
        exact ⟨vr, rfl, o7.wide E.le (Nat.le_refl _) (Nat.le_refl _), E.trans E7⟩
  · have d0 : decide (qc = 0) = false := decide_eq_false c0
    rw [if_pos c0] at hdef
    simp only [d0, go_sem, Hold.p, HoldK.k, HoldL.K, HoldL.body, Nat.reduceBEq, Nat.reduceAdd, List.getElem?_cons_zero, List.getElem?_cons_succ, Option.bind_some, List.map_cons, List.map_nil, Nat.zero_add, if_true, List.getD_cons_zero, List.getD_cons_succ, List.contains_cons, List.contains_nil, Nat.reduceBEq, Bool.or_true, Bool.true_or, Bool.or_false, Bool.false_or, Bool.not_true, Bool.not_false, true_and, and_true, rowA_whole, push_n, set_n, push_obj, set_obj, set_push, set_push_ne, set_set, Nat.add_assoc, Nat.left_eq_add, Nat.add_eq_left, Nat.add_left_cancel_iff, Nat.reduceEqDiff, stO_1s, stO_ws, boxA_s, one_bool, one_int, one_str, one_ptr, one_nilptr, one_slice, one_eslice, one_nilslice, one_func, one_iface, one_niliface, List.all_cons, List.all_nil, List.length_cons, List.length_nil, Nat.reduceLT, Nat.reduceEqDiff, Nat.reduceLeDiff, Bool.and_true, Nat.one_ne_zero, Nat.succ_ne_zero, reduceIte, if_false, List.getElem?_cons_zero, List.set_cons_zero, List.set_cons_succ]
    rw [hdef]
    exact ⟨_, rfl, Own.nil, E1⟩
end Go.Proofs.YtcmcfmgabafljaaDoor
