import Derived.Test.YtcmcfmgabafljaaDoorEJ
import Derived.Test.YtcmcfmgabafljaaDoorEF
set_option linter.unusedSimpArgs false
set_option linter.unusedVariables false
namespace Go.Proofs.YtcmcfmgabafljaaDoor
open Go Go.IW

set_option maxRecDepth 20000 in
theorem eqNameQuery_c (h : IH) (id : Int) (s : List UInt8) : ICalls Tryd.prog 24 [.agg [.int .i64 id, .str s], .agg [.int .i64 id, .str s]] h fun r h' => r = .bool true ∧ Ext h h' := by
  refine icalls (.of ok24) (Nat.le_of_ble_eq_true rfl) ?_
  unfold c24
  simp only [go_sem, Hold.p, HoldK.k, HoldL.K, HoldL.body, Nat.reduceBEq, Nat.reduceAdd, List.getElem?_cons_zero, List.getElem?_cons_succ, Option.bind_some, List.map_cons, List.map_nil, Nat.zero_add, if_true, List.getD_cons_zero, List.getD_cons_succ, List.contains_cons, List.contains_nil, Nat.reduceBEq, Bool.or_true, Bool.true_or, Bool.or_false, Bool.false_or, Bool.not_true, Bool.not_false, true_and, and_true, rowA_whole, push_n, set_n, push_obj, set_obj, set_push, set_push_ne, set_set, Nat.add_assoc, Nat.left_eq_add, Nat.add_eq_left, Nat.add_left_cancel_iff, Nat.reduceEqDiff, stO_1s, stO_ws, boxA_s, one_bool, one_int, one_str, one_ptr, one_nilptr, one_slice, one_eslice, one_nilslice, one_func, one_iface, one_niliface, List.all_cons, List.all_nil, List.length_cons, List.length_nil, Nat.reduceLT, Nat.reduceEqDiff, Nat.reduceLeDiff, Bool.and_true, Nat.one_ne_zero, Nat.succ_ne_zero, reduceIte, if_false, List.getElem?_cons_zero, List.set_cons_zero, List.set_cons_succ]
  generalize hq_g0 : IH.push h (IObj.rows [[IV.int .i64 id, IV.str s]] 29 2 false) = g0
  have e_g0 : Ext h g0 := by rw [← hq_g0]; exact (Ext.refl _).push _
  have l_g0 : g0.n = h.n + 1 := by rw [← hq_g0]; rfl
  have bb : At g0 h.n (IObj.rows [[IV.int .i64 id, IV.str s]] 29 2 false) := by rw [← hq_g0]; exact At.new _ _
  clear hq_g0
  generalize hq_g1 : IH.push g0 (IObj.rows [[IV.int .i64 id, IV.str s]] 29 2 false) = g1
  have e_g1 : Ext g0 g1 := by rw [← hq_g1]; exact (Ext.refl _).push _
  have l_g1 : g1.n = g0.n + 1 := by rw [← hq_g1]; rfl
  have bc : At g1 g0.n (IObj.rows [[IV.int .i64 id, IV.str s]] 29 2 false) := by rw [← hq_g1]; exact At.new _ _
  clear hq_g1
  have bb := bb.ext e_g1
  have E := e_g0.trans e_g1
  rw [l_g0] at bc
  simp only [bb.eq, bc.eq, decide_true, l_g0, go_sem, Hold.p, HoldK.k, HoldL.K, HoldL.body, Nat.reduceBEq, Nat.reduceAdd, List.getElem?_cons_zero, List.getElem?_cons_succ, Option.bind_some, List.map_cons, List.map_nil, Nat.zero_add, if_true, List.getD_cons_zero, List.getD_cons_succ, List.contains_cons, List.contains_nil, Nat.reduceBEq, Bool.or_true, Bool.true_or, Bool.or_false, Bool.false_or, Bool.not_true, Bool.not_false, true_and, and_true, rowA_whole, push_n, set_n, push_obj, set_obj, set_push, set_push_ne, set_set, Nat.add_assoc, Nat.left_eq_add, Nat.add_eq_left, Nat.add_left_cancel_iff, Nat.reduceEqDiff, stO_1s, stO_ws, boxA_s, one_bool, one_int, one_str, one_ptr, one_nilptr, one_slice, one_eslice, one_nilslice, one_func, one_iface, one_niliface, List.all_cons, List.all_nil, List.length_cons, List.length_nil, Nat.reduceLT, Nat.reduceEqDiff, Nat.reduceLeDiff, Bool.and_true, Nat.one_ne_zero, Nat.succ_ne_zero, reduceIte, if_false, List.getElem?_cons_zero, List.set_cons_zero, List.set_cons_succ]
  exact E

/-- Rows of bytes are a text's. -/
theorem fits_bytes {h : IH} : ∀ {rs : List (List IV)}, (∀ r ∈ rs, Fits h (.int .u8) r) → ∃ bs : List UInt8, rs = strRows bs
  | [], _ => ⟨[], rfl⟩
  | r :: rs, hf => by
    obtain ⟨bs, e⟩ := fits_bytes fun x hx => hf x (List.mem_cons_of_mem _ hx)
    obtain ⟨a, ha, hb⟩ := hf r List.mem_cons_self
    refine ⟨UInt8.ofNat a.toNat :: bs, ?_⟩
    have m1 : IntKind.u8.min = 0 := rfl
    have m2 : IntKind.u8.max = 255 := rfl
    have h2 : 0 ≤ a ∧ a < 256 := by simp [Lit.wf, m1, m2] at hb; omega
    subst ha
    rw [e]
    have h3 : ((UInt8.ofNat a.toNat).toNat : Int) = a := by
      have : (UInt8.ofNat a.toNat).toNat = a.toNat % 256 := UInt8.toNat_ofNat'
      omega
    show [IV.int .u8 a] :: strRows bs = [IV.int .u8 ((UInt8.ofNat a.toNat).toNat : Int)] :: strRows bs
    rw [h3]

set_option maxRecDepth 20000 in
theorem lawDecodeQuery : LawTrue Tryd.prog 5 [(.slice (.int .u8), false)] := by
  rintro h ivs ha ⟨iv, r, rfl, ⟨v, rs, hiv, hs, hm, hf⟩, rfl⟩
  obtain rfl := List.cons.inj hiv |>.1
  obtain ⟨bs, rfl⟩ := fits_bytes hf
  refine icalls (.of ok5) (Nat.le_of_ble_eq_true rfl) ?_
  unfold c5
  have hlen := hs.lenF
  rw [strRows_len] at hlen
  have hs : SlR h 1 iv (strRows bs) := hs
  by_cases hbig : (1048576 : Int) < bs.length
  · have hn : decide ((1048576 : Int) < (bs.length : Int)) = true := decide_eq_true hbig
    simp only [hlen, hn, go_sem, Hold.p, HoldK.k, HoldL.K, HoldL.body, Nat.reduceBEq, Nat.reduceAdd, List.getElem?_cons_zero, List.getElem?_cons_succ, Option.bind_some, List.map_cons, List.map_nil, Nat.zero_add, if_true, List.getD_cons_zero, List.getD_cons_succ, List.contains_cons, List.contains_nil, Nat.reduceBEq, Bool.or_true, Bool.true_or, Bool.or_false, Bool.false_or, Bool.not_true, Bool.not_false, true_and, and_true, rowA_whole, push_n, set_n, push_obj, set_obj, set_push, set_push_ne, set_set, Nat.add_assoc, Nat.left_eq_add, Nat.add_eq_left, Nat.add_left_cancel_iff, Nat.reduceEqDiff, stO_1s, stO_ws, boxA_s, one_bool, one_int, one_str, one_ptr, one_nilptr, one_slice, one_eslice, one_nilslice, one_func, one_iface, one_niliface, List.all_cons, List.all_nil, List.length_cons, List.length_nil, Nat.reduceLT, Nat.reduceEqDiff, Nat.reduceLeDiff, Bool.and_true, Nat.one_ne_zero, Nat.succ_ne_zero, reduceIte, if_false, List.getElem?_cons_zero, List.set_cons_zero, List.set_cons_succ]
  · have hn : decide ((1048576 : Int) < (bs.length : Int)) = false := decide_eq_false hbig
    have hl : bs.length ≤ 1048576 := by omega
    simp only [hlen, hn, go_sem, Hold.p, HoldK.k, HoldL.K, HoldL.body, Nat.reduceBEq, Nat.reduceAdd, List.getElem?_cons_zero, List.getElem?_cons_succ, Option.bind_some, List.map_cons, List.map_nil, Nat.zero_add, if_true, List.getD_cons_zero, List.getD_cons_succ, List.contains_cons, List.contains_nil, Nat.reduceBEq, Bool.or_true, Bool.true_or, Bool.or_false, Bool.false_or, Bool.not_true, Bool.not_false, true_and, and_true, rowA_whole, push_n, set_n, push_obj, set_obj, set_push, set_push_ne, set_set, Nat.add_assoc, Nat.left_eq_add, Nat.add_eq_left, Nat.add_left_cancel_iff, Nat.reduceEqDiff, stO_1s, stO_ws, boxA_s, one_bool, one_int, one_str, one_ptr, one_nilptr, one_slice, one_eslice, one_nilslice, one_func, one_iface, one_niliface, List.all_cons, List.all_nil, List.length_cons, List.length_nil, Nat.reduceLT, Nat.reduceEqDiff, Nat.reduceLeDiff, Bool.and_true, Nat.one_ne_zero, Nat.succ_ne_zero, reduceIte, if_false, List.getElem?_cons_zero, List.set_cons_zero, List.set_cons_succ]
    refine callA_of (toByteS_c _ iv bs hs hl) ?_
    rintro v1 h1 ⟨o1, hE1⟩
    have hs := hs.ext hE1
    have le_hE1 := hE1.le
    simp only [go_sem, Hold.p, HoldK.k, HoldL.K, HoldL.body, Nat.reduceBEq, Nat.reduceAdd, List.getElem?_cons_zero, List.getElem?_cons_succ, Option.bind_some, List.map_cons, List.map_nil, Nat.zero_add, if_true, List.getD_cons_zero, List.getD_cons_succ, List.contains_cons, List.contains_nil, Nat.reduceBEq, Bool.or_true, Bool.true_or, Bool.or_false, Bool.false_or, Bool.not_true, Bool.not_false, true_and, and_true, rowA_whole, push_n, set_n, push_obj, set_obj, set_push, set_push_ne, set_set, Nat.add_assoc, Nat.left_eq_add, Nat.add_eq_left, Nat.add_left_cancel_iff, Nat.reduceEqDiff, stO_1s, stO_ws, boxA_s, one_bool, one_int, one_str, one_ptr, one_nilptr, one_slice, one_eslice, one_nilslice, one_func, one_iface, one_niliface, List.all_cons, List.all_nil, List.length_cons, List.length_nil, Nat.reduceLT, Nat.reduceEqDiff, Nat.reduceLeDiff, Bool.and_true, Nat.one_ne_zero, Nat.succ_ne_zero, reduceIte, if_false, List.getElem?_cons_zero, List.set_cons_zero, List.set_cons_succ]
    refine callA_of (specDecodeQuery_c _ v1 bs o1.sl hl) ?_
    rintro r h2 ⟨rfl, hE2⟩
    have hs := hs.ext hE2
    have le_hE2 := hE2.le
    generalize hd : decQ bs = dq
    obtain ⟨qi, qn, qc⟩ := dq
    simp only [go_sem, Hold.p, HoldK.k, HoldL.K, HoldL.body, Nat.reduceBEq, Nat.reduceAdd, List.getElem?_cons_zero, List.getElem?_cons_succ, Option.bind_some, List.map_cons, List.map_nil, Nat.zero_add, if_true, List.getD_cons_zero, List.getD_cons_succ, List.contains_cons, List.contains_nil, Nat.reduceBEq, Bool.or_true, Bool.true_or, Bool.or_false, Bool.false_or, Bool.not_true, Bool.not_false, true_and, and_true, rowA_whole, push_n, set_n, push_obj, set_obj, set_push, set_push_ne, set_set, Nat.add_assoc, Nat.left_eq_add, Nat.add_eq_left, Nat.add_left_cancel_iff, Nat.reduceEqDiff, stO_1s, stO_ws, boxA_s, one_bool, one_int, one_str, one_ptr, one_nilptr, one_slice, one_eslice, one_nilslice, one_func, one_iface, one_niliface, List.all_cons, List.all_nil, List.length_cons, List.length_nil, Nat.reduceLT, Nat.reduceEqDiff, Nat.reduceLeDiff, Bool.and_true, Nat.one_ne_zero, Nat.succ_ne_zero, reduceIte, if_false, List.getElem?_cons_zero, List.set_cons_zero, List.set_cons_succ]
    generalize hq_g3 : IH.push h2 (IObj.rows [[IV.int .i64 qi, IV.str qn]] 29 2 false) = g3
    have e_g3 : Ext h2 g3 := by rw [← hq_g3]; exact (Ext.refl _).push _
    have l_g3 : g3.n = h2.n + 1 := by rw [← hq_g3]; rfl
    have bW : At g3 h2.n (IObj.rows [[IV.int .i64 qi, IV.str qn]] 29 2 false) := by rw [← hq_g3]; exact At.new _ _
    clear hq_g3
    have hs := hs.ext e_g3
    refine callA_of (toByteS_c _ iv bs hs hl) ?_
    rintro v4 h4 ⟨o4, hE4⟩
    have hs := hs.ext hE4
    have bW := bW.ext hE4
    have le_hE4 := hE4.le
    simp only [bW.eq, go_sem, Hold.p, HoldK.k, HoldL.K, HoldL.body, Nat.reduceBEq, Nat.reduceAdd, List.getElem?_cons_zero, List.getElem?_cons_succ, Option.bind_some, List.map_cons, List.map_nil, Nat.zero_add, if_true, List.getD_cons_zero, List.getD_cons_succ, List.contains_cons, List.contains_nil, Nat.reduceBEq, Bool.or_true, Bool.true_or, Bool.or_false, Bool.false_or, Bool.not_true, Bool.not_false, true_and, and_true, rowA_whole, push_n, set_n, push_obj, set_obj, set_push, set_push_ne, set_set, Nat.add_assoc, Nat.left_eq_add, Nat.add_eq_left, Nat.add_left_cancel_iff, Nat.reduceEqDiff, stO_1s, stO_ws, boxA_s, one_bool, one_int, one_str, one_ptr, one_nilptr, one_slice, one_eslice, one_nilslice, one_func, one_iface, one_niliface, List.all_cons, List.all_nil, List.length_cons, List.length_nil, Nat.reduceLT, Nat.reduceEqDiff, Nat.reduceLeDiff, Bool.and_true, Nat.one_ne_zero, Nat.succ_ne_zero, reduceIte, if_false, List.getElem?_cons_zero, List.set_cons_zero, List.set_cons_succ]
    refine callA_of (implDecodeQuery_c _ v4 bs o4.sl hl) ?_
    rintro r h5 ⟨rfl, hE5⟩
    have hs := hs.ext hE5
    have bW := bW.ext hE5
    have o4 := o4.ext hE5
    have le_hE5 := hE5.le
    rw [hd]
    have hne : (h2.n = h5.n) = False := by have := bW.lt; simp; omega
    simp only [bW.eq, hne, go_sem, Hold.p, HoldK.k, HoldL.K, HoldL.body, Nat.reduceBEq, Nat.reduceAdd, List.getElem?_cons_zero, List.getElem?_cons_succ, Option.bind_some, List.map_cons, List.map_nil, Nat.zero_add, if_true, List.getD_cons_zero, List.getD_cons_succ, List.contains_cons, List.contains_nil, Nat.reduceBEq, Bool.or_true, Bool.true_or, Bool.or_false, Bool.false_or, Bool.not_true, Bool.not_false, true_and, and_true, rowA_whole, push_n, set_n, push_obj, set_obj, set_push, set_push_ne, set_set, Nat.add_assoc, Nat.left_eq_add, Nat.add_eq_left, Nat.add_left_cancel_iff, Nat.reduceEqDiff, stO_1s, stO_ws, boxA_s, one_bool, one_int, one_str, one_ptr, one_nilptr, one_slice, one_eslice, one_nilslice, one_func, one_iface, one_niliface, List.all_cons, List.all_nil, List.length_cons, List.length_nil, Nat.reduceLT, Nat.reduceEqDiff, Nat.reduceLeDiff, Bool.and_true, Nat.one_ne_zero, Nat.succ_ne_zero, reduceIte, if_false, List.getElem?_cons_zero, List.set_cons_zero, List.set_cons_succ]
    generalize hq_g6 : IH.push h5 (IObj.rows [[IV.int .i64 qi, IV.str qn]] 29 2 false) = g6
    have e_g6 : Ext h5 g6 := by rw [← hq_g6]; exact (Ext.refl _).push _
    have l_g6 : g6.n = h5.n + 1 := by rw [← hq_g6]; rfl
    have bG : At g6 h5.n (IObj.rows [[IV.int .i64 qi, IV.str qn]] 29 2 false) := by rw [← hq_g6]; exact At.new _ _
    clear hq_g6
    have hs := hs.ext e_g6
    have bW := bW.ext e_g6
    have o4 := o4.ext e_g6
    refine callA_of (eqNameQuery_c _ qi qn) ?_
    rintro r h7 ⟨rfl, hE7⟩
    have hs := hs.ext hE7
    have bW := bW.ext hE7
    have bG := bG.ext hE7
    have o4 := o4.ext hE7
    have le_hE7 := hE7.le
    simp only [bW.eq, bG.eq, decide_true, go_sem, Hold.p, HoldK.k, HoldL.K, HoldL.body, Nat.reduceBEq, Nat.reduceAdd, List.getElem?_cons_zero, List.getElem?_cons_succ, Option.bind_some, List.map_cons, List.map_nil, Nat.zero_add, if_true, List.getD_cons_zero, List.getD_cons_succ, List.contains_cons, List.contains_nil, Nat.reduceBEq, Bool.or_true, Bool.true_or, Bool.or_false, Bool.false_or, Bool.not_true, Bool.not_false, true_and, and_true, rowA_whole, push_n, set_n, push_obj, set_obj, set_push, set_push_ne, set_set, Nat.add_assoc, Nat.left_eq_add, Nat.add_eq_left, Nat.add_left_cancel_iff, Nat.reduceEqDiff, stO_1s, stO_ws, boxA_s, one_bool, one_int, one_str, one_ptr, one_nilptr, one_slice, one_eslice, one_nilslice, one_func, one_iface, one_niliface, List.all_cons, List.all_nil, List.length_cons, List.length_nil, Nat.reduceLT, Nat.reduceEqDiff, Nat.reduceLeDiff, Bool.and_true, Nat.one_ne_zero, Nat.succ_ne_zero, reduceIte, if_false, List.getElem?_cons_zero, List.set_cons_zero, List.set_cons_succ]
    refine callA_of (toByteS_c _ iv bs hs hl) ?_
    rintro v8 h8 ⟨o8, hE8⟩
    have o4 := o4.ext hE8
    have le_hE8 := hE8.le
    simp only [go_sem, Hold.p, HoldK.k, HoldL.K, HoldL.body, Nat.reduceBEq, Nat.reduceAdd, List.getElem?_cons_zero, List.getElem?_cons_succ, Option.bind_some, List.map_cons, List.map_nil, Nat.zero_add, if_true, List.getD_cons_zero, List.getD_cons_succ, List.contains_cons, List.contains_nil, Nat.reduceBEq, Bool.or_true, Bool.true_or, Bool.or_false, Bool.false_or, Bool.not_true, Bool.not_false, true_and, and_true, rowA_whole, push_n, set_n, push_obj, set_obj, set_push, set_push_ne, set_set, Nat.add_assoc, Nat.left_eq_add, Nat.add_eq_left, Nat.add_left_cancel_iff, Nat.reduceEqDiff, stO_1s, stO_ws, boxA_s, one_bool, one_int, one_str, one_ptr, one_nilptr, one_slice, one_eslice, one_nilslice, one_func, one_iface, one_niliface, List.all_cons, List.all_nil, List.length_cons, List.length_nil, Nat.reduceLT, Nat.reduceEqDiff, Nat.reduceLeDiff, Bool.and_true, Nat.one_ne_zero, Nat.succ_ne_zero, reduceIte, if_false, List.getElem?_cons_zero, List.set_cons_zero, List.set_cons_succ]
    refine callA_of (eqByteS_c _ v4 v8 bs o4.sl o8.sl (by omega)) ?_
    rintro r h9 ⟨rfl, rfl⟩
    simp only [decide_true, go_sem, Hold.p, HoldK.k, HoldL.K, HoldL.body, Nat.reduceBEq, Nat.reduceAdd, List.getElem?_cons_zero, List.getElem?_cons_succ, Option.bind_some, List.map_cons, List.map_nil, Nat.zero_add, if_true, List.getD_cons_zero, List.getD_cons_succ, List.contains_cons, List.contains_nil, Nat.reduceBEq, Bool.or_true, Bool.true_or, Bool.or_false, Bool.false_or, Bool.not_true, Bool.not_false, true_and, and_true, rowA_whole, push_n, set_n, push_obj, set_obj, set_push, set_push_ne, set_set, Nat.add_assoc, Nat.left_eq_add, Nat.add_eq_left, Nat.add_left_cancel_iff, Nat.reduceEqDiff, stO_1s, stO_ws, boxA_s, one_bool, one_int, one_str, one_ptr, one_nilptr, one_slice, one_eslice, one_nilslice, one_func, one_iface, one_niliface, List.all_cons, List.all_nil, List.length_cons, List.length_nil, Nat.reduceLT, Nat.reduceEqDiff, Nat.reduceLeDiff, Bool.and_true, Nat.one_ne_zero, Nat.succ_ne_zero, reduceIte, if_false, List.getElem?_cons_zero, List.set_cons_zero, List.set_cons_succ]
end Go.Proofs.YtcmcfmgabafljaaDoor
