import Derived.Test.YtcmcfmgabafljaaDoorEH
set_option linter.unusedSimpArgs false
set_option linter.unusedVariables false
namespace Go.Proofs.YtcmcfmgabafljaaDoor
open Go Go.IW

theorem takeD_sh (bs : List UInt8) (n : Nat) : (takeD bs true n).2.2 = true := by unfold takeD; split <;> rfl
theorem takeD_len1 (bs : List UInt8) (sh : Bool) {n : Nat} (hn : n ≤ 7) : (takeD bs sh n).1.length ≤ n := by unfold takeD; split <;> simp <;> omega
theorem takeD_len (bs : List UInt8) (sh : Bool) (n : Nat) : (takeD bs sh n).2.1.length ≤ bs.length := by unfold takeD; split <;> simp
theorem takeD_short {bs : List UInt8} {sh : Bool} {n : Nat} (h : bs.length < n) : (takeD bs sh n).2.2 = true := by unfold takeD; rw [if_pos h]
theorem takeD_long {bs : List UInt8} {sh : Bool} {n : Nat} (h : ¬ bs.length < n) : takeD bs sh n = (bs.take n, bs.drop n, sh) := if_neg h
theorem takeD_big (bs : List UInt8) (sh : Bool) (n : Nat) : (takeD bs sh n).1.length ≤ bs.length + 8 := by unfold takeD; split <;> simp <;> omega

set_option maxRecDepth 20000 in
theorem code_c (h : IH) (p : Nat) (bs : List UInt8) (sh : Bool) (kind want : Int) (name : List UInt8) (hb : BitesAt h p bs sh) (hl : bs.length ≤ 1048576) (hnl : name.length ≤ 1048576) :
    ICalls Tryd.prog 68 [.ptr p 0 0, .int .i64 kind, .int .i64 want, .str name] h fun r h' => r = .int .i64 (if sh = true then 2 else if 0 < bs.length then 5 else if kind ≠ want then 9 else if okName name = true then 0 else 6) ∧ Ext h h' := by
  obtain ⟨v, ha, hs, _⟩ := hb.box
  refine icalls (.of ok68) (Nat.le_of_ble_eq_true rfl) ?_
  unfold c68
  have hlen := hs.lenF
  rw [strRows_len] at hlen
  cases sh
  · by_cases c1 : 0 < bs.length
    · have d1 : decide ((0 : Int) < (bs.length : Int)) = true := decide_eq_true (by omega)
      rw [if_neg (by decide), if_pos c1]
      simp only [ha.eq, hlen, d1, go_sem, Hold.p, HoldK.k, HoldL.K, HoldL.body, Nat.reduceBEq, Nat.reduceAdd, List.getElem?_cons_zero, List.getElem?_cons_succ, Option.bind_some, List.map_cons, List.map_nil, Nat.zero_add, if_true, List.getD_cons_zero, List.getD_cons_succ, List.contains_cons, List.contains_nil, Nat.reduceBEq, Bool.or_true, Bool.true_or, Bool.or_false, Bool.false_or, Bool.not_true, Bool.not_false, true_and, and_true, rowA_whole, push_n, set_n, push_obj, set_obj, set_push, set_push_ne, set_set, Nat.add_assoc, Nat.left_eq_add, Nat.add_eq_left, Nat.add_left_cancel_iff, Nat.reduceEqDiff, stO_1s, stO_ws, boxA_s, one_bool, one_int, one_str, one_ptr, one_nilptr, one_slice, one_eslice, one_nilslice, one_func, one_iface, one_niliface, List.all_cons, List.all_nil, List.length_cons, List.length_nil, Nat.reduceLT, Nat.reduceEqDiff, Nat.reduceLeDiff, Bool.and_true, Nat.one_ne_zero, Nat.succ_ne_zero, reduceIte, if_false, List.getElem?_cons_zero, List.set_cons_zero, List.set_cons_succ]
      exact Ext.refl _
    · have d1 : decide ((0 : Int) < (bs.length : Int)) = false := decide_eq_false (by omega)
      rw [if_neg (by decide), if_neg c1]
      by_cases c2 : kind = want
      · have d2 : decide (kind = want) = true := decide_eq_true c2
        rw [if_neg (by simpa using c2)]
        simp only [ha.eq, hlen, d1, d2, go_sem, Hold.p, HoldK.k, HoldL.K, HoldL.body, Nat.reduceBEq, Nat.reduceAdd, List.getElem?_cons_zero, List.getElem?_cons_succ, Option.bind_some, List.map_cons, List.map_nil, Nat.zero_add, if_true, List.getD_cons_zero, List.getD_cons_succ, List.contains_cons, List.contains_nil, Nat.reduceBEq, Bool.or_true, Bool.true_or, Bool.or_false, Bool.false_or, Bool.not_true, Bool.not_false, true_and, and_true, rowA_whole, push_n, set_n, push_obj, set_obj, set_push, set_push_ne, set_set, Nat.add_assoc, Nat.left_eq_add, Nat.add_eq_left, Nat.add_left_cancel_iff, Nat.reduceEqDiff, stO_1s, stO_ws, boxA_s, one_bool, one_int, one_str, one_ptr, one_nilptr, one_slice, one_eslice, one_nilslice, one_func, one_iface, one_niliface, List.all_cons, List.all_nil, List.length_cons, List.length_nil, Nat.reduceLT, Nat.reduceEqDiff, Nat.reduceLeDiff, Bool.and_true, Nat.one_ne_zero, Nat.succ_ne_zero, reduceIte, if_false, List.getElem?_cons_zero, List.set_cons_zero, List.set_cons_succ]
        refine callA_of (implNameOK_c h name hnl) ?_
        rintro r h1 ⟨rfl, E⟩
        cases c3 : okName name
        · simp only [c3, go_sem, Hold.p, HoldK.k, HoldL.K, HoldL.body, Nat.reduceBEq, Nat.reduceAdd, List.getElem?_cons_zero, List.getElem?_cons_succ, Option.bind_some, List.map_cons, List.map_nil, Nat.zero_add, if_true, List.getD_cons_zero, List.getD_cons_succ, List.contains_cons, List.contains_nil, Nat.reduceBEq, Bool.or_true, Bool.true_or, Bool.or_false, Bool.false_or, Bool.not_true, Bool.not_false, true_and, and_true, rowA_whole, push_n, set_n, push_obj, set_obj, set_push, set_push_ne, set_set, Nat.add_assoc, Nat.left_eq_add, Nat.add_eq_left, Nat.add_left_cancel_iff, Nat.reduceEqDiff, stO_1s, stO_ws, boxA_s, one_bool, one_int, one_str, one_ptr, one_nilptr, one_slice, one_eslice, one_nilslice, one_func, one_iface, one_niliface, List.all_cons, List.all_nil, List.length_cons, List.length_nil, Nat.reduceLT, Nat.reduceEqDiff, Nat.reduceLeDiff, Bool.and_true, Nat.one_ne_zero, Nat.succ_ne_zero, reduceIte, if_false, List.getElem?_cons_zero, List.set_cons_zero, List.set_cons_succ]
          exact ⟨rfl, E⟩
        · simp only [c3, go_sem, Hold.p, HoldK.k, HoldL.K, HoldL.body, Nat.reduceBEq, Nat.reduceAdd, List.getElem?_cons_zero, List.getElem?_cons_succ, Option.bind_some, List.map_cons, List.map_nil, Nat.zero_add, if_true, List.getD_cons_zero, List.getD_cons_succ, List.contains_cons, List.contains_nil, Nat.reduceBEq, Bool.or_true, Bool.true_or, Bool.or_false, Bool.false_or, Bool.not_true, Bool.not_false, true_and, and_true, rowA_whole, push_n, set_n, push_obj, set_obj, set_push, set_push_ne, set_set, Nat.add_assoc, Nat.left_eq_add, Nat.add_eq_left, Nat.add_left_cancel_iff, Nat.reduceEqDiff, stO_1s, stO_ws, boxA_s, one_bool, one_int, one_str, one_ptr, one_nilptr, one_slice, one_eslice, one_nilslice, one_func, one_iface, one_niliface, List.all_cons, List.all_nil, List.length_cons, List.length_nil, Nat.reduceLT, Nat.reduceEqDiff, Nat.reduceLeDiff, Bool.and_true, Nat.one_ne_zero, Nat.succ_ne_zero, reduceIte, if_false, List.getElem?_cons_zero, List.set_cons_zero, List.set_cons_succ]
          exact E
      · have d2 : decide (kind = want) = false := decide_eq_false c2
        rw [if_pos c2]
        simp only [ha.eq, hlen, d1, d2, go_sem, Hold.p, HoldK.k, HoldL.K, HoldL.body, Nat.reduceBEq, Nat.reduceAdd, List.getElem?_cons_zero, List.getElem?_cons_succ, Option.bind_some, List.map_cons, List.map_nil, Nat.zero_add, if_true, List.getD_cons_zero, List.getD_cons_succ, List.contains_cons, List.contains_nil, Nat.reduceBEq, Bool.or_true, Bool.true_or, Bool.or_false, Bool.false_or, Bool.not_true, Bool.not_false, true_and, and_true, rowA_whole, push_n, set_n, push_obj, set_obj, set_push, set_push_ne, set_set, Nat.add_assoc, Nat.left_eq_add, Nat.add_eq_left, Nat.add_left_cancel_iff, Nat.reduceEqDiff, stO_1s, stO_ws, boxA_s, one_bool, one_int, one_str, one_ptr, one_nilptr, one_slice, one_eslice, one_nilslice, one_func, one_iface, one_niliface, List.all_cons, List.all_nil, List.length_cons, List.length_nil, Nat.reduceLT, Nat.reduceEqDiff, Nat.reduceLeDiff, Bool.and_true, Nat.one_ne_zero, Nat.succ_ne_zero, reduceIte, if_false, List.getElem?_cons_zero, List.set_cons_zero, List.set_cons_succ]
        exact Ext.refl _
  · rw [if_pos rfl]
    simp only [ha.eq, go_sem, Hold.p, HoldK.k, HoldL.K, HoldL.body, Nat.reduceBEq, Nat.reduceAdd, List.getElem?_cons_zero, List.getElem?_cons_succ, Option.bind_some, List.map_cons, List.map_nil, Nat.zero_add, if_true, List.getD_cons_zero, List.getD_cons_succ, List.contains_cons, List.contains_nil, Nat.reduceBEq, Bool.or_true, Bool.true_or, Bool.or_false, Bool.false_or, Bool.not_true, Bool.not_false, true_and, and_true, rowA_whole, push_n, set_n, push_obj, set_obj, set_push, set_push_ne, set_set, Nat.add_assoc, Nat.left_eq_add, Nat.add_eq_left, Nat.add_left_cancel_iff, Nat.reduceEqDiff, stO_1s, stO_ws, boxA_s, one_bool, one_int, one_str, one_ptr, one_nilptr, one_slice, one_eslice, one_nilslice, one_func, one_iface, one_niliface, List.all_cons, List.all_nil, List.length_cons, List.length_nil, Nat.reduceLT, Nat.reduceEqDiff, Nat.reduceLeDiff, Bool.and_true, Nat.one_ne_zero, Nat.succ_ne_zero, reduceIte, if_false, List.getElem?_cons_zero, List.set_cons_zero, List.set_cons_succ]
    exact Ext.refl _

/-- What is taken off a query's bytes. -/
def chainQ (bs : List UInt8) : Int × Int × List UInt8 × List UInt8 × Bool :=
  let t1 := takeD bs false 2
  let t2 := takeD t1.2.1 t1.2.2 1
  let t3 := takeD t2.2.1 t2.2.2 1
  let t4 := takeD t3.2.1 t3.2.2 (numB t3.1).toNat
  (numB t1.1, numB t2.1, t4.1, t4.2.1, t4.2.2)
def codeQ (x : Int × Int × List UInt8 × List UInt8 × Bool) (want : Int) : Int :=
  if x.2.2.2.2 = true then 2 else if 0 < x.2.2.2.1.length then 5 else if x.2.1 ≠ want then 9 else if okName x.2.2.1 = true then 0 else 6
theorem numB_one (b : UInt8) : numB [b] = b.toNat := by simp [numB]
theorem drop_at {bs : List UInt8} {k : Nat} (h : k < bs.length) : bs.drop k = bs.getD k 0 :: bs.drop (k + 1) := by
  rw [List.drop_eq_getElem_cons h]
  congr 1
  rw [List.getD_eq_getElem?_getD, List.getElem?_eq_getElem h]; rfl
theorem chainQ_short {bs : List UInt8} (h : bs.length < 4 ∨ bs.length < 4 + (bs.getD 3 0).toNat) : (chainQ bs).2.2.2.2 = true := by
  unfold chainQ
  simp only
  by_cases h1 : bs.length < 2
  · have e1 := takeD_short (sh := false) h1
    rw [e1]
    have e2 := takeD_sh (takeD bs false 2).2.1 1
    rw [e2]
    have e3 := takeD_sh (takeD (takeD bs false 2).2.1 true 1).2.1 1
    rw [e3]
    exact takeD_sh _ _
  · rw [takeD_long h1]
    simp only
    by_cases h2 : (bs.drop 2).length < 1
    · have e2 := takeD_short (sh := false) h2
      rw [e2]
      have e3 := takeD_sh (takeD (bs.drop 2) false 1).2.1 1
      rw [e3]
      exact takeD_sh _ _
    · rw [takeD_long h2]
      simp only
      by_cases h3 : ((bs.drop 2).drop 1).length < 1
      · have e3 := takeD_short (sh := false) h3
        rw [e3]
        exact takeD_sh _ _
      · rw [takeD_long h3]
        simp only
        simp at h1 h2 h3
        have e4 : ((bs.drop 2).drop 1).take 1 = [bs.getD 3 0] := by rw [List.drop_drop, drop_at (by omega)]; rfl
        rw [e4, numB_one]
        apply takeD_short
        rw [List.length_drop, List.length_drop, List.length_drop, Int.toNat_natCast]
        omega
theorem chainQ_long {bs : List UInt8} (h : ¬ (bs.length < 4 ∨ bs.length < 4 + (bs.getD 3 0).toNat)) : chainQ bs = (numB (bs.take 2), ((bs.getD 2 0).toNat : Int), (bs.take (4 + (bs.getD 3 0).toNat)).drop 4, bs.drop (4 + (bs.getD 3 0).toNat), false) := by
  have e3 : ((bs.drop 2).drop 1).take 1 = [bs.getD 3 0] := by rw [List.drop_drop, drop_at (by omega)]; rfl
  have e2 : (bs.drop 2).take 1 = [bs.getD 2 0] := by rw [drop_at (by omega)]; rfl
  have a1 := takeD_long (bs := bs) (sh := false) (n := 2) (by omega)
  have a2 := takeD_long (bs := bs.drop 2) (sh := false) (n := 1) (by rw [List.length_drop]; omega)
  have a3 := takeD_long (bs := (bs.drop 2).drop 1) (sh := false) (n := 1) (by rw [List.length_drop, List.length_drop]; omega)
  have a4 := takeD_long (bs := ((bs.drop 2).drop 1).drop 1) (sh := false) (n := (bs.getD 3 0).toNat) (by rw [List.length_drop, List.length_drop, List.length_drop]; omega)
  unfold chainQ
  simp only [a1, a2, a3, e3, e2, numB_one, Int.toNat_natCast, a4]
  simp only [List.drop_drop, List.drop_take, Nat.add_comm]
  congr 3
  all_goals congr 1
  all_goals omega

theorem chainQ_dec (bs : List UInt8) : decQ bs = if codeQ (chainQ bs) 0 = 0 then ((chainQ bs).1, (chainQ bs).2.2.1, 0) else (0, [], codeQ (chainQ bs) 0) := by
  by_cases h : bs.length < 4 ∨ bs.length < 4 + (bs.getD 3 0).toNat
  · have e : codeQ (chainQ bs) 0 = 2 := if_pos (chainQ_short h)
    rw [e]
    exact if_pos h
  · have e := chainQ_long h
    have hcode : codeQ (chainQ bs) 0 = if 4 + (bs.getD 3 0).toNat < bs.length then 5 else if bs.getD 2 0 ≠ 0 then 9 else if okName ((bs.take (4 + (bs.getD 3 0).toNat)).drop 4) = true then 0 else 6 := by
      rw [e]
      unfold codeQ
      simp only [Bool.false_eq_true, if_false, List.length_drop]
      have k1 : (0 < bs.length - (4 + (bs.getD 3 0).toNat)) = (4 + (bs.getD 3 0).toNat < bs.length) := by apply propext; omega
      have k2 : (((bs.getD 2 0).toNat : Int) ≠ 0) = (bs.getD 2 0 ≠ 0) := by
        apply propext
        refine not_congr ⟨fun h0 => UInt8.toNat_inj.1 ?_, fun h0 => by rw [h0]; rfl⟩
        have : (bs.getD 2 0).toNat = 0 := by omega
        rw [this]; rfl
      simp only [k1, k2]
    have hd : decQ bs = if 4 + (bs.getD 3 0).toNat < bs.length then (0, [], 5)
      else if bs.getD 2 0 ≠ 0 then (0, [], 9)
      else if okName ((bs.take (4 + (bs.getD 3 0).toNat)).drop 4) = true then (numB (bs.take 2), (bs.take (4 + (bs.getD 3 0).toNat)).drop 4, 0) else (0, [], 6) := if_neg h
    rw [hcode, hd, e]
    split
    · rfl
    · split
      · rfl
      · split <;> rfl
end Go.Proofs.YtcmcfmgabafljaaDoor
