import Derived.Test.YtecljenjlncfhaaL1
import Derived.Test.YtecljenjlncfhaaK2
import Derived.Test.YtecljenjlncfhaaProg
import Derived.KernelRfl
import Derived.Test.YtecljenjlncfhaaK4
set_option linter.unusedSimpArgs false
set_option linter.unusedVariables false
namespace Go.Proofs.Ytecljenjlncfhaa
open Go Go.IW

set_option maxRecDepth 20000 in
theorem l02Hex_c (h : IH) (c : UInt8) : ICalls Try.prog 60 [.int .u8 c.toNat] h fun r h' => r = .int .i64 (hexV c) ∧ h' = h := by
  refine icalls (.of ok60) (Nat.le_of_ble_eq_true rfl) ?_
  unfold c60 hexV
  have hc := c.toNat_lt
  have w8 : ∀ x : Int, 0 ≤ x ∧ x < 256 → wr .u8 x = x := fun x hx => by unfold wr; rw [IntKind.wrap_u8]; omega
  have w64 : ∀ x : Int, 0 ≤ x ∧ x < 256 → wr .i64 x = x := fun x hx => wr64 x (by omega)
  by_cases a1 : 48 ≤ (c.toNat : Int)
  · have d1 := decide_eq_true a1
    by_cases a2 : (c.toNat : Int) ≤ 57
    · have d2 := decide_eq_true a2
      simp only [d1, d2, w8 _ ⟨Int.sub_nonneg_of_le a1, by omega⟩, w64 _ ⟨Int.sub_nonneg_of_le a1, by omega⟩, go_sem, Hold.p, HoldK.k, HoldL.K, HoldL.body, Nat.reduceBEq, Nat.reduceAdd, List.getElem?_cons_zero, List.getElem?_cons_succ, Option.bind_some, List.map_cons, List.map_nil, Nat.zero_add, if_true, List.getD_cons_zero, List.getD_cons_succ, List.contains_cons, List.contains_nil, Nat.reduceBEq, Bool.or_true, Bool.true_or, Bool.or_false, Bool.false_or, Bool.not_true, Bool.not_false, true_and, and_true]
      rw [if_pos ⟨a1, a2⟩]
    · have d2 := decide_eq_false a2
      rw [if_neg (by omega)]
      by_cases a3 : 97 ≤ (c.toNat : Int)
      · have d3 := decide_eq_true a3
        by_cases a4 : (c.toNat : Int) ≤ 102
        · have d4 := decide_eq_true a4
          simp only [d1, d2, d3, d4, w8 _ ⟨Int.sub_nonneg_of_le a3, by omega⟩, w64 _ ⟨Int.sub_nonneg_of_le a3, by omega⟩, w64 ((c.toNat : Int) - 97 + 10) ⟨by omega, by omega⟩, go_sem, Hold.p, HoldK.k, HoldL.K, HoldL.body, Nat.reduceBEq, Nat.reduceAdd, List.getElem?_cons_zero, List.getElem?_cons_succ, Option.bind_some, List.map_cons, List.map_nil, Nat.zero_add, if_true, List.getD_cons_zero, List.getD_cons_succ, List.contains_cons, List.contains_nil, Nat.reduceBEq, Bool.or_true, Bool.true_or, Bool.or_false, Bool.false_or, Bool.not_true, Bool.not_false, true_and, and_true]
          rw [if_pos ⟨a3, a4⟩]
        · have d4 := decide_eq_false a4
          have d5 : decide (65 ≤ (c.toNat : Int)) = true := decide_eq_true (by omega)
          have d6 : decide ((c.toNat : Int) ≤ 70) = false := decide_eq_false (by omega)
          simp only [d1, d2, d3, d4, d5, d6, go_sem, Hold.p, HoldK.k, HoldL.K, HoldL.body, Nat.reduceBEq, Nat.reduceAdd, List.getElem?_cons_zero, List.getElem?_cons_succ, Option.bind_some, List.map_cons, List.map_nil, Nat.zero_add, if_true, List.getD_cons_zero, List.getD_cons_succ, List.contains_cons, List.contains_nil, Nat.reduceBEq, Bool.or_true, Bool.true_or, Bool.or_false, Bool.false_or, Bool.not_true, Bool.not_false, true_and, and_true]
          rw [if_neg (by omega), if_neg (by omega)]
      · have d3 := decide_eq_false a3
        rw [if_neg (by omega)]
        by_cases a5 : 65 ≤ (c.toNat : Int)
        · have d5 := decide_eq_true a5
          by_cases a6 : (c.toNat : Int) ≤ 70
          · have d6 := decide_eq_true a6
            simp only [d1, d2, d3, d5, d6, w8 _ ⟨Int.sub_nonneg_of_le a5, by omega⟩, w64 _ ⟨Int.sub_nonneg_of_le a5, by omega⟩, w64 ((c.toNat : Int) - 65 + 10) ⟨by omega, by omega⟩, go_sem, Hold.p, HoldK.k, HoldL.K, HoldL.body, Nat.reduceBEq, Nat.reduceAdd, List.getElem?_cons_zero, List.getElem?_cons_succ, Option.bind_some, List.map_cons, List.map_nil, Nat.zero_add, if_true, List.getD_cons_zero, List.getD_cons_succ, List.contains_cons, List.contains_nil, Nat.reduceBEq, Bool.or_true, Bool.true_or, Bool.or_false, Bool.false_or, Bool.not_true, Bool.not_false, true_and, and_true]
            rw [if_pos ⟨a5, a6⟩]
          · have d6 := decide_eq_false a6
            simp only [d1, d2, d3, d5, d6, go_sem, Hold.p, HoldK.k, HoldL.K, HoldL.body, Nat.reduceBEq, Nat.reduceAdd, List.getElem?_cons_zero, List.getElem?_cons_succ, Option.bind_some, List.map_cons, List.map_nil, Nat.zero_add, if_true, List.getD_cons_zero, List.getD_cons_succ, List.contains_cons, List.contains_nil, Nat.reduceBEq, Bool.or_true, Bool.true_or, Bool.or_false, Bool.false_or, Bool.not_true, Bool.not_false, true_and, and_true]
            rw [if_neg (by omega)]
        · have d5 := decide_eq_false a5
          simp only [d1, d2, d3, d5, go_sem, Hold.p, HoldK.k, HoldL.K, HoldL.body, Nat.reduceBEq, Nat.reduceAdd, List.getElem?_cons_zero, List.getElem?_cons_succ, Option.bind_some, List.map_cons, List.map_nil, Nat.zero_add, if_true, List.getD_cons_zero, List.getD_cons_succ, List.contains_cons, List.contains_nil, Nat.reduceBEq, Bool.or_true, Bool.true_or, Bool.or_false, Bool.false_or, Bool.not_true, Bool.not_false, true_and, and_true]
          rw [if_neg (by omega)]
  · have d1 := decide_eq_false a1
    have d3 : decide (97 ≤ (c.toNat : Int)) = false := decide_eq_false (by omega)
    have d5 : decide (65 ≤ (c.toNat : Int)) = false := decide_eq_false (by omega)
    simp only [d1, d3, d5, go_sem, Hold.p, HoldK.k, HoldL.K, HoldL.body, Nat.reduceBEq, Nat.reduceAdd, List.getElem?_cons_zero, List.getElem?_cons_succ, Option.bind_some, List.map_cons, List.map_nil, Nat.zero_add, if_true, List.getD_cons_zero, List.getD_cons_succ, List.contains_cons, List.contains_nil, Nat.reduceBEq, Bool.or_true, Bool.true_or, Bool.or_false, Bool.false_or, Bool.not_true, Bool.not_false, true_and, and_true]
    rw [if_neg (by omega), if_neg (by omega), if_neg (by omega)]

/-- What a loop of reading leaves. -/
def Read (g : UInt8 → UInt8 → Option UInt8) (t out : List UInt8) : Prop := (t = [61] ∧ out = []) ∨ (t ≠ [61] ∧ (unE g t = some out ∨ (60000 < out.length ∧ readD t = ([], 6))))
theorem Read.fin {g : UInt8 → UInt8 → Option UInt8} (hg : ∀ x : UInt8, g (hexD (x.toNat / 16)) (hexD (x.toNat % 16)) = some x) {t out : List UInt8} (h : Read g t out) : readD t = if showD out = (t, 0) then (out, 0) else ([], 6) := by
  rcases h with ⟨rfl, rfl⟩ | ⟨ht, h | ⟨h, h2⟩⟩
  · rfl
  · split
    · rename_i hs; exact readD_of ht hs
    · rename_i hs; exact unE_some hg ht h hs
  · rw [if_neg, h2]
    unfold showD
    rw [if_pos h]; simp

set_option maxRecDepth 20000 in
theorem specReadData_c (h : IH) (t : List UInt8) (hl : t.length ≤ 1048576) : ICalls Try.prog 17 [.str t] h fun r h' => BytesRes h h' r (readD t) := by
  refine icalls (.of ok17) (Nat.le_of_ble_eq_true rfl) ?_
  unfold c17
  refine vc_split 3 (fun e g => ∃ x lo hi out, e 0 = .str t ∧ e 4 = x ∧ Ext h g ∧ h.n ≤ lo ∧ hi ≤ g.n ∧ Own lo hi g 5 1 x (strRows out) ∧ Read gS t out ∧ out.length ≤ t.length) ?_ ?_
  · simp only [CC.split]
    simp only [bslA_0, go_sem, Hold.p, HoldK.k, HoldL.K, HoldL.body, Nat.reduceBEq, Nat.reduceAdd, List.getElem?_cons_zero, List.getElem?_cons_succ, Option.bind_some, List.map_cons, List.map_nil, Nat.zero_add, if_true, List.getD_cons_zero, List.getD_cons_succ, List.contains_cons, List.contains_nil, Nat.reduceBEq, Bool.or_true, Bool.true_or, Bool.or_false, Bool.false_or, Bool.not_true, Bool.not_false, true_and, and_true, rowA_whole, push_n, set_n, push_obj, set_obj, set_push, set_push_ne, set_set, Nat.add_assoc, Nat.left_eq_add, Nat.add_eq_left, Nat.add_left_cancel_iff, Nat.reduceEqDiff, stO_1s, stO_ws, boxA_s, one_bool, one_int, one_str, one_ptr, one_nilptr, one_slice, one_eslice, one_nilslice, one_func, one_iface, one_niliface, List.all_cons, List.all_nil, List.length_cons, List.length_nil, Nat.reduceLT, Nat.reduceEqDiff, Nat.reduceLeDiff, Bool.and_true, Nat.one_ne_zero, Nat.succ_ne_zero, reduceIte, if_false, List.getElem?_cons_zero, List.set_cons_zero, List.set_cons_succ]
    refine loop_at (fun n e g => ∃ x lo hi out k, n = t.length - k ∧ k ≤ t.length ∧ e 0 = .str t ∧ e 4 = x ∧ e 5 = .int .i64 (k : Nat) ∧ Ext h g ∧ h.n ≤ lo ∧ hi ≤ g.n ∧ Own lo hi g 5 1 x (strRows out) ∧ Told gS t out k ∧ out.length ≤ k ∧ (t = [61] → out = [])) t.length ?_ ?_
    · refine ⟨.eslice true, h.n, h.n, [], 0, by omega, by omega, ?_⟩
      simp only [go_sem, Hold.p, HoldK.k, HoldL.K, HoldL.body, Nat.reduceBEq, Nat.reduceAdd, List.getElem?_cons_zero, List.getElem?_cons_succ, Option.bind_some, List.map_cons, List.map_nil, Nat.zero_add, if_true, List.getD_cons_zero, List.getD_cons_succ, List.contains_cons, List.contains_nil, Nat.reduceBEq, Bool.or_true, Bool.true_or, Bool.or_false, Bool.false_or, Bool.not_true, Bool.not_false, true_and, and_true, rowA_whole, push_n, set_n, push_obj, set_obj, set_push, set_push_ne, set_set, Nat.add_assoc, Nat.left_eq_add, Nat.add_eq_left, Nat.add_left_cancel_iff, Nat.reduceEqDiff, stO_1s, stO_ws, boxA_s, one_bool, one_int, one_str, one_ptr, one_nilptr, one_slice, one_eslice, one_nilslice, one_func, one_iface, one_niliface, List.all_cons, List.all_nil, List.length_cons, List.length_nil, Nat.reduceLT, Nat.reduceEqDiff, Nat.reduceLeDiff, Bool.and_true, Nat.one_ne_zero, Nat.succ_ne_zero, reduceIte, if_false, List.getElem?_cons_zero, List.set_cons_zero, List.set_cons_succ]
      exact ⟨rfl, Ext.refl _, Nat.le_refl _, Nat.le_refl _, Own.empty, Told.zero _ _, fun _ => trivial⟩
    · rintro n e g ⟨x, lo, hi, out, k, rfl, hk, i0, i4, i5, E, hlo, hhi, o, T, hol, h61⟩
      have hle := E.le
      have ol := o.lenF
      rw [strRows_len] at ol
      by_cases c1 : k < t.length
      rotate_left
      · have d1 : decide ((k : Int) < (t.length : Int)) = false := decide_eq_false (by omega)
        simp only [i0, i4, i5, d1, go_sem, Hold.p, HoldK.k, HoldL.K, HoldL.body, Nat.reduceBEq, Nat.reduceAdd, List.getElem?_cons_zero, List.getElem?_cons_succ, Option.bind_some, List.map_cons, List.map_nil, Nat.zero_add, if_true, List.getD_cons_zero, List.getD_cons_succ, List.contains_cons, List.contains_nil, Nat.reduceBEq, Bool.or_true, Bool.true_or, Bool.or_false, Bool.false_or, Bool.not_true, Bool.not_false, true_and, and_true, rowA_whole, push_n, set_n, push_obj, set_obj, set_push, set_push_ne, set_set, Nat.add_assoc, Nat.left_eq_add, Nat.add_eq_left, Nat.add_left_cancel_iff, Nat.reduceEqDiff, stO_1s, stO_ws, boxA_s, one_bool, one_int, one_str, one_ptr, one_nilptr, one_slice, one_eslice, one_nilslice, one_func, one_iface, one_niliface, List.all_cons, List.all_nil, List.length_cons, List.length_nil, Nat.reduceLT, Nat.reduceEqDiff, Nat.reduceLeDiff, Bool.and_true, Nat.one_ne_zero, Nat.succ_ne_zero, reduceIte, if_false, List.getElem?_cons_zero, List.set_cons_zero, List.set_cons_succ]
        refine ⟨x, lo, hi, out, rfl, E, hlo, hhi, o, ?_, by omega⟩
        by_cases ht : t = [61]
        · exact .inl ⟨ht, h61 ht⟩
        · exact .inr ⟨ht, .inl (T.done (by omega))⟩
      have d1 : decide ((k : Int) < (t.length : Int)) = true := decide_eq_true (by omega)
      by_cases c2 : out.length ≤ 60000
      rotate_left
      · have d2 : decide ((out.length : Int) ≤ 60000) = false := decide_eq_false (by omega)
        simp only [i0, i4, i5, d1, ol, d2, go_sem, Hold.p, HoldK.k, HoldL.K, HoldL.body, Nat.reduceBEq, Nat.reduceAdd, List.getElem?_cons_zero, List.getElem?_cons_succ, Option.bind_some, List.map_cons, List.map_nil, Nat.zero_add, if_true, List.getD_cons_zero, List.getD_cons_succ, List.contains_cons, List.contains_nil, Nat.reduceBEq, Bool.or_true, Bool.true_or, Bool.or_false, Bool.false_or, Bool.not_true, Bool.not_false, true_and, and_true, rowA_whole, push_n, set_n, push_obj, set_obj, set_push, set_push_ne, set_set, Nat.add_assoc, Nat.left_eq_add, Nat.add_eq_left, Nat.add_left_cancel_iff, Nat.reduceEqDiff, stO_1s, stO_ws, boxA_s, one_bool, one_int, one_str, one_ptr, one_nilptr, one_slice, one_eslice, one_nilslice, one_func, one_iface, one_niliface, List.all_cons, List.all_nil, List.length_cons, List.length_nil, Nat.reduceLT, Nat.reduceEqDiff, Nat.reduceLeDiff, Bool.and_true, Nat.one_ne_zero, Nat.succ_ne_zero, reduceIte, if_false, List.getElem?_cons_zero, List.set_cons_zero, List.set_cons_succ]
        refine ⟨x, lo, hi, out, rfl, E, hlo, hhi, o, ?_, by omega⟩
        have ht : t ≠ [61] := fun ht => by have := h61 ht; subst this; simp at c2
        exact .inr ⟨ht, .inr ⟨by omega, T.long gS_hex ht (by omega)⟩⟩
      have d2 : decide ((out.length : Int) ≤ 60000) = true := decide_eq_true (by omega)
      by_cases ht : t = [61]
      · have d3 : (!decide (t = [61])) = false := by simp [ht]
        simp only [i0, i4, i5, d1, ol, d2, d3, go_sem, Hold.p, HoldK.k, HoldL.K, HoldL.body, Nat.reduceBEq, Nat.reduceAdd, List.getElem?_cons_zero, List.getElem?_cons_succ, Option.bind_some, List.map_cons, List.map_nil, Nat.zero_add, if_true, List.getD_cons_zero, List.getD_cons_succ, List.contains_cons, List.contains_nil, Nat.reduceBEq, Bool.or_true, Bool.true_or, Bool.or_false, Bool.false_or, Bool.not_true, Bool.not_false, true_and, and_true, rowA_whole, push_n, set_n, push_obj, set_obj, set_push, set_push_ne, set_set, Nat.add_assoc, Nat.left_eq_add, Nat.add_eq_left, Nat.add_left_cancel_iff, Nat.reduceEqDiff, stO_1s, stO_ws, boxA_s, one_bool, one_int, one_str, one_ptr, one_nilptr, one_slice, one_eslice, one_nilslice, one_func, one_iface, one_niliface, List.all_cons, List.all_nil, List.length_cons, List.length_nil, Nat.reduceLT, Nat.reduceEqDiff, Nat.reduceLeDiff, Bool.and_true, Nat.one_ne_zero, Nat.succ_ne_zero, reduceIte, if_false, List.getElem?_cons_zero, List.set_cons_zero, List.set_cons_succ]
        exact ⟨x, lo, hi, out, rfl, E, hlo, hhi, o, .inl ⟨ht, h61 ht⟩, by omega⟩
      have d3 : (!decide (t = [61])) = true := by simp [ht]
      have hkp : t[k]? = some t[k] := List.getElem?_eq_getElem c1
      generalize t[k] = b at hkp
      have x0 := idxS_at (q := .i64) hkp
      by_cases c4 : b = 37
      rotate_left
      · have d4 : (!decide ((b.toNat : Int) = 37)) = true := by
          have : ¬ (b.toNat : Int) = 37 := fun hb => c4 (UInt8.toNat_inj.1 (by simpa using Int.ofNat.inj hb))
          simp [this]
        simp only [i0, i4, i5, d1, ol, d2, d3, x0, d4, bslA_1, go_sem, Hold.p, HoldK.k, HoldL.K, HoldL.body, Nat.reduceBEq, Nat.reduceAdd, List.getElem?_cons_zero, List.getElem?_cons_succ, Option.bind_some, List.map_cons, List.map_nil, Nat.zero_add, if_true, List.getD_cons_zero, List.getD_cons_succ, List.contains_cons, List.contains_nil, Nat.reduceBEq, Bool.or_true, Bool.true_or, Bool.or_false, Bool.false_or, Bool.not_true, Bool.not_false, true_and, and_true, rowA_whole, push_n, set_n, push_obj, set_obj, set_push, set_push_ne, set_set, Nat.add_assoc, Nat.left_eq_add, Nat.add_eq_left, Nat.add_left_cancel_iff, Nat.reduceEqDiff, stO_1s, stO_ws, boxA_s, one_bool, one_int, one_str, one_ptr, one_nilptr, one_slice, one_eslice, one_nilslice, one_func, one_iface, one_niliface, List.all_cons, List.all_nil, List.length_cons, List.length_nil, Nat.reduceLT, Nat.reduceEqDiff, Nat.reduceLeDiff, Bool.and_true, Nat.one_ne_zero, Nat.succ_ne_zero, reduceIte, if_false, List.getElem?_cons_zero, List.set_cons_zero, List.set_cons_succ]
        generalize hq_g2 : IH.push g (IObj.rows [[.int .u8 b.toNat]] 5 1 false) = g2
        have e_g2 : Ext g g2 := by rw [← hq_g2]; exact (Ext.refl _).push _
        have l_g2 : g2.n = g.n + 1 := by rw [← hq_g2]; rfl
        have ba : At g2 g.n (IObj.rows [[.int .u8 b.toNat]] 5 1 false) := by rw [← hq_g2]; exact At.new _ _
        clear hq_g2
        have o := o.ext e_g2
        have E := E.ext e_g2
        refine o.app (by simp) (by rw [strRows_len, List.length_singleton]; omega) ?_
        intro v6 h6 o6 t6 n6 v6o v6c
        have E := E.turn o (by omega) t6
        have le_t6 := t6.le
        simp only [i0, i4, i5, go_sem, Hold.p, HoldK.k, HoldL.K, HoldL.body, Nat.reduceBEq, Nat.reduceAdd, List.getElem?_cons_zero, List.getElem?_cons_succ, Option.bind_some, List.map_cons, List.map_nil, Nat.zero_add, if_true, List.getD_cons_zero, List.getD_cons_succ, List.contains_cons, List.contains_nil, Nat.reduceBEq, Bool.or_true, Bool.true_or, Bool.or_false, Bool.false_or, Bool.not_true, Bool.not_false, true_and, and_true, rowA_whole, push_n, set_n, push_obj, set_obj, set_push, set_push_ne, set_set, Nat.add_assoc, Nat.left_eq_add, Nat.add_eq_left, Nat.add_left_cancel_iff, Nat.reduceEqDiff, stO_1s, stO_ws, boxA_s, one_bool, one_int, one_str, one_ptr, one_nilptr, one_slice, one_eslice, one_nilslice, one_func, one_iface, one_niliface, List.all_cons, List.all_nil, List.length_cons, List.length_nil, Nat.reduceLT, Nat.reduceEqDiff, Nat.reduceLeDiff, Bool.and_true, Nat.one_ne_zero, Nat.succ_ne_zero, reduceIte, if_false, List.getElem?_cons_zero, List.set_cons_zero, List.set_cons_succ]
        refine ⟨_, ?_, v6, g2.n, g2.n + 1, out ++ [b], k + 1, rfl, by omega, rfl, wr64_succ k (by omega), E, by omega, by omega, ?_, T.plain hkp c4, by simp; omega, fun h => absurd h ht⟩
        · omega
        · rw [strRows_append]; exact o6
      subst c4
      have d4 : (!decide (((37 : UInt8).toNat : Int) = 37)) = false := by decide
      have w2 : wr .i64 ((k : Int) + 2) = ((k + 2 : Nat) : Int) := by rw [wr64 _ (by omega)]; rfl
      by_cases c5 : t.length ≤ k + 2
      · have d5 : decide ((t.length : Int) ≤ ((k + 2 : Nat) : Int)) = true := decide_eq_true (by omega)
        simp only [i0, i4, i5, d1, ol, d2, d3, x0, d4, w2, d5, go_sem, Hold.p, HoldK.k, HoldL.K, HoldL.body, Nat.reduceBEq, Nat.reduceAdd, List.getElem?_cons_zero, List.getElem?_cons_succ, Option.bind_some, List.map_cons, List.map_nil, Nat.zero_add, if_true, List.getD_cons_zero, List.getD_cons_succ, List.contains_cons, List.contains_nil, Nat.reduceBEq, Bool.or_true, Bool.true_or, Bool.or_false, Bool.false_or, Bool.not_true, Bool.not_false, true_and, and_true, rowA_whole, push_n, set_n, push_obj, set_obj, set_push, set_push_ne, set_set, Nat.add_assoc, Nat.left_eq_add, Nat.add_eq_left, Nat.add_left_cancel_iff, Nat.reduceEqDiff, stO_1s, stO_ws, boxA_s, one_bool, one_int, one_str, one_ptr, one_nilptr, one_slice, one_eslice, one_nilslice, one_func, one_iface, one_niliface, List.all_cons, List.all_nil, List.length_cons, List.length_nil, Nat.reduceLT, Nat.reduceEqDiff, Nat.reduceLeDiff, Bool.and_true, Nat.one_ne_zero, Nat.succ_ne_zero, reduceIte, if_false, List.getElem?_cons_zero, List.set_cons_zero, List.set_cons_succ]
        rw [unE_none gS_hex ht (T.short hkp c5)]
        exact ⟨_, rfl, Own.nil, E⟩
      have d5 : decide ((t.length : Int) ≤ ((k + 2 : Nat) : Int)) = false := decide_eq_false (by omega)
      have w1 : wr .i64 ((k : Int) + 1) = ((k + 1 : Nat) : Int) := by rw [wr64 _ (by omega)]; rfl
      have ha : t[k + 1]? = some t[k + 1] := List.getElem?_eq_getElem (by omega)
      have hb : t[k + 2]? = some t[k + 2] := List.getElem?_eq_getElem (by omega)
      generalize t[k + 1] = a at ha
      generalize t[k + 2] = b at hb
      have x1 := idxS_at (q := .i64) ha
      have x2 := idxS_at (q := .i64) hb
      have va := hexV_rng a
      have vb := hexV_rng b
      simp only [i0, i4, i5, d1, ol, d2, d3, x0, d4, w2, d5, w1, x1, x2, go_sem, Hold.p, HoldK.k, HoldL.K, HoldL.body, Nat.reduceBEq, Nat.reduceAdd, List.getElem?_cons_zero, List.getElem?_cons_succ, Option.bind_some, List.map_cons, List.map_nil, Nat.zero_add, if_true, List.getD_cons_zero, List.getD_cons_succ, List.contains_cons, List.contains_nil, Nat.reduceBEq, Bool.or_true, Bool.true_or, Bool.or_false, Bool.false_or, Bool.not_true, Bool.not_false, true_and, and_true, rowA_whole, push_n, set_n, push_obj, set_obj, set_push, set_push_ne, set_set, Nat.add_assoc, Nat.left_eq_add, Nat.add_eq_left, Nat.add_left_cancel_iff, Nat.reduceEqDiff, stO_1s, stO_ws, boxA_s, one_bool, one_int, one_str, one_ptr, one_nilptr, one_slice, one_eslice, one_nilslice, one_func, one_iface, one_niliface, List.all_cons, List.all_nil, List.length_cons, List.length_nil, Nat.reduceLT, Nat.reduceEqDiff, Nat.reduceLeDiff, Bool.and_true, Nat.one_ne_zero, Nat.succ_ne_zero, reduceIte, if_false, List.getElem?_cons_zero, List.set_cons_zero, List.set_cons_succ]
      refine callA_of (l02Hex_c g a) ?_
      rintro r g1 ⟨rfl, rfl⟩
      have w3 : wr .i64 (hexV a * 16) = hexV a * 16 := wr64 _ (by omega)
      simp only [i0, i4, i5, w2, w1, x1, x2, w3, go_sem, Hold.p, HoldK.k, HoldL.K, HoldL.body, Nat.reduceBEq, Nat.reduceAdd, List.getElem?_cons_zero, List.getElem?_cons_succ, Option.bind_some, List.map_cons, List.map_nil, Nat.zero_add, if_true, List.getD_cons_zero, List.getD_cons_succ, List.contains_cons, List.contains_nil, Nat.reduceBEq, Bool.or_true, Bool.true_or, Bool.or_false, Bool.false_or, Bool.not_true, Bool.not_false, true_and, and_true, rowA_whole, push_n, set_n, push_obj, set_obj, set_push, set_push_ne, set_set, Nat.add_assoc, Nat.left_eq_add, Nat.add_eq_left, Nat.add_left_cancel_iff, Nat.reduceEqDiff, stO_1s, stO_ws, boxA_s, one_bool, one_int, one_str, one_ptr, one_nilptr, one_slice, one_eslice, one_nilslice, one_func, one_iface, one_niliface, List.all_cons, List.all_nil, List.length_cons, List.length_nil, Nat.reduceLT, Nat.reduceEqDiff, Nat.reduceLeDiff, Bool.and_true, Nat.one_ne_zero, Nat.succ_ne_zero, reduceIte, if_false, List.getElem?_cons_zero, List.set_cons_zero, List.set_cons_succ]
      refine callA_of (l02Hex_c g1 b) ?_
      rintro r g2 ⟨rfl, rfl⟩
      have w4 : wr .i64 (hexV a * 16 + hexV b) = hexV a * 16 + hexV b := wr64 _ (by omega)
      simp only [i0, i4, i5, w2, w1, x1, x2, w3, w4, wr_u8, bslA_1, go_sem, Hold.p, HoldK.k, HoldL.K, HoldL.body, Nat.reduceBEq, Nat.reduceAdd, List.getElem?_cons_zero, List.getElem?_cons_succ, Option.bind_some, List.map_cons, List.map_nil, Nat.zero_add, if_true, List.getD_cons_zero, List.getD_cons_succ, List.contains_cons, List.contains_nil, Nat.reduceBEq, Bool.or_true, Bool.true_or, Bool.or_false, Bool.false_or, Bool.not_true, Bool.not_false, true_and, and_true, rowA_whole, push_n, set_n, push_obj, set_obj, set_push, set_push_ne, set_set, Nat.add_assoc, Nat.left_eq_add, Nat.add_eq_left, Nat.add_left_cancel_iff, Nat.reduceEqDiff, stO_1s, stO_ws, boxA_s, one_bool, one_int, one_str, one_ptr, one_nilptr, one_slice, one_eslice, one_nilslice, one_func, one_iface, one_niliface, List.all_cons, List.all_nil, List.length_cons, List.length_nil, Nat.reduceLT, Nat.reduceEqDiff, Nat.reduceLeDiff, Bool.and_true, Nat.one_ne_zero, Nat.succ_ne_zero, reduceIte, if_false, List.getElem?_cons_zero, List.set_cons_zero, List.set_cons_succ]
      generalize hq_g3 : IH.push g2 (IObj.rows [[.int .u8 (UInt8.ofNat ((hexV a * 16 + hexV b) % 256).toNat).toNat]] 5 1 false) = g3
      have e_g3 : Ext g2 g3 := by rw [← hq_g3]; exact (Ext.refl _).push _
      have l_g3 : g3.n = g2.n + 1 := by rw [← hq_g3]; rfl
      have ba : At g3 g2.n (IObj.rows [[.int .u8 (UInt8.ofNat ((hexV a * 16 + hexV b) % 256).toNat).toNat]] 5 1 false) := by rw [← hq_g3]; exact At.new _ _
      clear hq_g3
      have o := o.ext e_g3
      have E := E.ext e_g3
      try simp only [i0, i4, i5, w2, w1, x1, x2, w3, w4, wr_u8, ba.eq, go_sem, Hold.p, HoldK.k, HoldL.K, HoldL.body, Nat.reduceBEq, Nat.reduceAdd, List.getElem?_cons_zero, List.getElem?_cons_succ, Option.bind_some, List.map_cons, List.map_nil, Nat.zero_add, if_true, List.getD_cons_zero, List.getD_cons_succ, List.contains_cons, List.contains_nil, Nat.reduceBEq, Bool.or_true, Bool.true_or, Bool.or_false, Bool.false_or, Bool.not_true, Bool.not_false, true_and, and_true, rowA_whole, push_n, set_n, push_obj, set_obj, set_push, set_push_ne, set_set, Nat.add_assoc, Nat.left_eq_add, Nat.add_eq_left, Nat.add_left_cancel_iff, Nat.reduceEqDiff, stO_1s, stO_ws, boxA_s, one_bool, one_int, one_str, one_ptr, one_nilptr, one_slice, one_eslice, one_nilslice, one_func, one_iface, one_niliface, List.all_cons, List.all_nil, List.length_cons, List.length_nil, Nat.reduceLT, Nat.reduceEqDiff, Nat.reduceLeDiff, Bool.and_true, Nat.one_ne_zero, Nat.succ_ne_zero, reduceIte, if_false, List.getElem?_cons_zero, List.set_cons_zero, List.set_cons_succ]
      refine o.app (by simp) (by rw [strRows_len, List.length_singleton]; omega) ?_
      intro v6 h6 o6 t6 n6 v6o v6c
      have E := E.turn o (by omega) t6
      have le_t6 := t6.le
      have w5 : wr .i64 (((k + 2 : Nat) : Int) + 1) = ((k + 3 : Nat) : Int) := by rw [wr64 _ (by omega)]; rfl
      simp only [i0, i4, i5, w2, w1, x1, x2, w3, w4, w5, wr_u8, go_sem, Hold.p, HoldK.k, HoldL.K, HoldL.body, Nat.reduceBEq, Nat.reduceAdd, List.getElem?_cons_zero, List.getElem?_cons_succ, Option.bind_some, List.map_cons, List.map_nil, Nat.zero_add, if_true, List.getD_cons_zero, List.getD_cons_succ, List.contains_cons, List.contains_nil, Nat.reduceBEq, Bool.or_true, Bool.true_or, Bool.or_false, Bool.false_or, Bool.not_true, Bool.not_false, true_and, and_true, rowA_whole, push_n, set_n, push_obj, set_obj, set_push, set_push_ne, set_set, Nat.add_assoc, Nat.left_eq_add, Nat.add_eq_left, Nat.add_left_cancel_iff, Nat.reduceEqDiff, stO_1s, stO_ws, boxA_s, one_bool, one_int, one_str, one_ptr, one_nilptr, one_slice, one_eslice, one_nilslice, one_func, one_iface, one_niliface, List.all_cons, List.all_nil, List.length_cons, List.length_nil, Nat.reduceLT, Nat.reduceEqDiff, Nat.reduceLeDiff, Bool.and_true, Nat.one_ne_zero, Nat.succ_ne_zero, reduceIte, if_false, List.getElem?_cons_zero, List.set_cons_zero, List.set_cons_succ]
      refine ⟨_, ?_, v6, g3.n, g3.n + 1, out ++ [UInt8.ofNat ((hexV a * 16 + hexV b) % 256).toNat], k + 3, rfl, by omega, rfl, rfl, E, by omega, by omega, ?_, T.esc hkp ha hb rfl, by simp; omega, fun h => absurd h ht⟩
      · omega
      · rw [strRows_append]; exact o6
  · rintro e g ⟨x, lo, hi, out, i0, i4, E, hlo, hhi, o, R, hol⟩
    have hle := E.le
    simp only [CC.split]
    simp only [i0, i4, go_sem, Hold.p, HoldK.k, HoldL.K, HoldL.body, Nat.reduceBEq, Nat.reduceAdd, List.getElem?_cons_zero, List.getElem?_cons_succ, Option.bind_some, List.map_cons, List.map_nil, Nat.zero_add, if_true, List.getD_cons_zero, List.getD_cons_succ, List.contains_cons, List.contains_nil, Nat.reduceBEq, Bool.or_true, Bool.true_or, Bool.or_false, Bool.false_or, Bool.not_true, Bool.not_false, true_and, and_true, rowA_whole, push_n, set_n, push_obj, set_obj, set_push, set_push_ne, set_set, Nat.add_assoc, Nat.left_eq_add, Nat.add_eq_left, Nat.add_left_cancel_iff, Nat.reduceEqDiff, stO_1s, stO_ws, boxA_s, one_bool, one_int, one_str, one_ptr, one_nilptr, one_slice, one_eslice, one_nilslice, one_func, one_iface, one_niliface, List.all_cons, List.all_nil, List.length_cons, List.length_nil, Nat.reduceLT, Nat.reduceEqDiff, Nat.reduceLeDiff, Bool.and_true, Nat.one_ne_zero, Nat.succ_ne_zero, reduceIte, if_false, List.getElem?_cons_zero, List.set_cons_zero, List.set_cons_succ]
    refine callA_of (specShowData_c g x out o.sl (by omega)) ?_
    rintro r g1 ⟨rfl, E1⟩
    have o := o.ext E1
    have le_E1 := E1.le
    have E := E.trans E1
    rw [R.fin gS_hex]
    by_cases c1 : (showD out).2 = 0
    · have d1 : (!decide ((showD out).2 = 0)) = false := by simp [c1]
      by_cases c2 : (showD out).1 = t
      · have d2 : (!decide ((showD out).1 = t)) = false := by simp [c2]
        simp only [i0, i4, d1, d2, go_sem, Hold.p, HoldK.k, HoldL.K, HoldL.body, Nat.reduceBEq, Nat.reduceAdd, List.getElem?_cons_zero, List.getElem?_cons_succ, Option.bind_some, List.map_cons, List.map_nil, Nat.zero_add, if_true, List.getD_cons_zero, List.getD_cons_succ, List.contains_cons, List.contains_nil, Nat.reduceBEq, Bool.or_true, Bool.true_or, Bool.or_false, Bool.false_or, Bool.not_true, Bool.not_false, true_and, and_true, rowA_whole, push_n, set_n, push_obj, set_obj, set_push, set_push_ne, set_set, Nat.add_assoc, Nat.left_eq_add, Nat.add_eq_left, Nat.add_left_cancel_iff, Nat.reduceEqDiff, stO_1s, stO_ws, boxA_s, one_bool, one_int, one_str, one_ptr, one_nilptr, one_slice, one_eslice, one_nilslice, one_func, one_iface, one_niliface, List.all_cons, List.all_nil, List.length_cons, List.length_nil, Nat.reduceLT, Nat.reduceEqDiff, Nat.reduceLeDiff, Bool.and_true, Nat.one_ne_zero, Nat.succ_ne_zero, reduceIte, if_false, List.getElem?_cons_zero, List.set_cons_zero, List.set_cons_succ]
        rw [if_pos (by rw [← c1, ← c2])]
        exact ⟨_, rfl, o.wide hlo (Nat.le_trans hhi le_E1) (Nat.le_refl _), E⟩
      · have d2 : (!decide ((showD out).1 = t)) = true := by simp [c2]
        simp only [i0, i4, d1, d2, go_sem, Hold.p, HoldK.k, HoldL.K, HoldL.body, Nat.reduceBEq, Nat.reduceAdd, List.getElem?_cons_zero, List.getElem?_cons_succ, Option.bind_some, List.map_cons, List.map_nil, Nat.zero_add, if_true, List.getD_cons_zero, List.getD_cons_succ, List.contains_cons, List.contains_nil, Nat.reduceBEq, Bool.or_true, Bool.true_or, Bool.or_false, Bool.false_or, Bool.not_true, Bool.not_false, true_and, and_true, rowA_whole, push_n, set_n, push_obj, set_obj, set_push, set_push_ne, set_set, Nat.add_assoc, Nat.left_eq_add, Nat.add_eq_left, Nat.add_left_cancel_iff, Nat.reduceEqDiff, stO_1s, stO_ws, boxA_s, one_bool, one_int, one_str, one_ptr, one_nilptr, one_slice, one_eslice, one_nilslice, one_func, one_iface, one_niliface, List.all_cons, List.all_nil, List.length_cons, List.length_nil, Nat.reduceLT, Nat.reduceEqDiff, Nat.reduceLeDiff, Bool.and_true, Nat.one_ne_zero, Nat.succ_ne_zero, reduceIte, if_false, List.getElem?_cons_zero, List.set_cons_zero, List.set_cons_succ]
        rw [if_neg (fun hs => c2 (by rw [hs]))]
        exact ⟨_, rfl, Own.nil, E⟩
    · have d1 : (!decide ((showD out).2 = 0)) = true := by simp [c1]
      simp only [i0, i4, d1, go_sem, Hold.p, HoldK.k, HoldL.K, HoldL.body, Nat.reduceBEq, Nat.reduceAdd, List.getElem?_cons_zero, List.getElem?_cons_succ, Option.bind_some, List.map_cons, List.map_nil, Nat.zero_add, if_true, List.getD_cons_zero, List.getD_cons_succ, List.contains_cons, List.contains_nil, Nat.reduceBEq, Bool.or_true, Bool.true_or, Bool.or_false, Bool.false_or, Bool.not_true, Bool.not_false, true_and, and_true, rowA_whole, push_n, set_n, push_obj, set_obj, set_push, set_push_ne, set_set, Nat.add_assoc, Nat.left_eq_add, Nat.add_eq_left, Nat.add_left_cancel_iff, Nat.reduceEqDiff, stO_1s, stO_ws, boxA_s, one_bool, one_int, one_str, one_ptr, one_nilptr, one_slice, one_eslice, one_nilslice, one_func, one_iface, one_niliface, List.all_cons, List.all_nil, List.length_cons, List.length_nil, Nat.reduceLT, Nat.reduceEqDiff, Nat.reduceLeDiff, Bool.and_true, Nat.one_ne_zero, Nat.succ_ne_zero, reduceIte, if_false, List.getElem?_cons_zero, List.set_cons_zero, List.set_cons_succ]
      rw [if_neg (fun hs => c1 (by rw [hs]))]
      exact ⟨_, rfl, Own.nil, E⟩
end Go.Proofs.Ytecljenjlncfhaa

namespace Go.Proofs.Ytecljenjlncfhaa
open Go Go.IW

set_option maxRecDepth 20000 in
theorem implReadData_c (h : IH) (t : List UInt8) (hl : t.length ≤ 1048576) : ICalls Try.prog 18 [.str t] h fun r h' => BytesRes h h' r (readD t) := by
  refine icalls (.of ok18) (Nat.le_of_ble_eq_true rfl) ?_
  unfold c18
  by_cases ht : t = [61]
  · have d3 : decide (t = [61]) = true := decide_eq_true ht
    simp only [d3, go_sem, Hold.p, HoldK.k, HoldL.K, HoldL.body, Nat.reduceBEq, Nat.reduceAdd, List.getElem?_cons_zero, List.getElem?_cons_succ, Option.bind_some, List.map_cons, List.map_nil, Nat.zero_add, if_true, List.getD_cons_zero, List.getD_cons_succ, List.contains_cons, List.contains_nil, Nat.reduceBEq, Bool.or_true, Bool.true_or, Bool.or_false, Bool.false_or, Bool.not_true, Bool.not_false, true_and, and_true, rowA_whole, push_n, set_n, push_obj, set_obj, set_push, set_push_ne, set_set, Nat.add_assoc, Nat.left_eq_add, Nat.add_eq_left, Nat.add_left_cancel_iff, Nat.reduceEqDiff, stO_1s, stO_ws, boxA_s, one_bool, one_int, one_str, one_ptr, one_nilptr, one_slice, one_eslice, one_nilslice, one_func, one_iface, one_niliface, List.all_cons, List.all_nil, List.length_cons, List.length_nil, Nat.reduceLT, Nat.reduceEqDiff, Nat.reduceLeDiff, Bool.and_true, Nat.one_ne_zero, Nat.succ_ne_zero, reduceIte, if_false, List.getElem?_cons_zero, List.set_cons_zero, List.set_cons_succ]
    subst ht
    exact ⟨_, rfl, Own.nil, Ext.refl _⟩
  have d3 : decide (t = [61]) = false := decide_eq_false ht
  refine vc_split 4 (fun e g => ∃ x lo hi out, e 0 = .str t ∧ e 4 = x ∧ Ext h g ∧ h.n ≤ lo ∧ hi ≤ g.n ∧ Own lo hi g 5 1 x (strRows out) ∧ Read gI t out ∧ out.length ≤ t.length) ?_ ?_
  · simp only [CC.split]
    simp only [d3, go_sem, Hold.p, HoldK.k, HoldL.K, HoldL.body, Nat.reduceBEq, Nat.reduceAdd, List.getElem?_cons_zero, List.getElem?_cons_succ, Option.bind_some, List.map_cons, List.map_nil, Nat.zero_add, if_true, List.getD_cons_zero, List.getD_cons_succ, List.contains_cons, List.contains_nil, Nat.reduceBEq, Bool.or_true, Bool.true_or, Bool.or_false, Bool.false_or, Bool.not_true, Bool.not_false, true_and, and_true, rowA_whole, push_n, set_n, push_obj, set_obj, set_push, set_push_ne, set_set, Nat.add_assoc, Nat.left_eq_add, Nat.add_eq_left, Nat.add_left_cancel_iff, Nat.reduceEqDiff, stO_1s, stO_ws, boxA_s, one_bool, one_int, one_str, one_ptr, one_nilptr, one_slice, one_eslice, one_nilslice, one_func, one_iface, one_niliface, List.all_cons, List.all_nil, List.length_cons, List.length_nil, Nat.reduceLT, Nat.reduceEqDiff, Nat.reduceLeDiff, Bool.and_true, Nat.one_ne_zero, Nat.succ_ne_zero, reduceIte, if_false, List.getElem?_cons_zero, List.set_cons_zero, List.set_cons_succ]
    refine loop_at (fun n e g => ∃ x lo hi out k, n = t.length - k ∧ k ≤ t.length ∧ e 0 = .str t ∧ e 4 = x ∧ e 5 = .int .i64 (k : Nat) ∧ Ext h g ∧ h.n ≤ lo ∧ hi ≤ g.n ∧ Own lo hi g 5 1 x (strRows out) ∧ Told gI t out k ∧ out.length ≤ k) t.length ?_ ?_
    · refine ⟨.nilslice, h.n, h.n, [], 0, by omega, by omega, ?_⟩
      simp only [go_sem, Hold.p, HoldK.k, HoldL.K, HoldL.body, Nat.reduceBEq, Nat.reduceAdd, List.getElem?_cons_zero, List.getElem?_cons_succ, Option.bind_some, List.map_cons, List.map_nil, Nat.zero_add, if_true, List.getD_cons_zero, List.getD_cons_succ, List.contains_cons, List.contains_nil, Nat.reduceBEq, Bool.or_true, Bool.true_or, Bool.or_false, Bool.false_or, Bool.not_true, Bool.not_false, true_and, and_true, rowA_whole, push_n, set_n, push_obj, set_obj, set_push, set_push_ne, set_set, Nat.add_assoc, Nat.left_eq_add, Nat.add_eq_left, Nat.add_left_cancel_iff, Nat.reduceEqDiff, stO_1s, stO_ws, boxA_s, one_bool, one_int, one_str, one_ptr, one_nilptr, one_slice, one_eslice, one_nilslice, one_func, one_iface, one_niliface, List.all_cons, List.all_nil, List.length_cons, List.length_nil, Nat.reduceLT, Nat.reduceEqDiff, Nat.reduceLeDiff, Bool.and_true, Nat.one_ne_zero, Nat.succ_ne_zero, reduceIte, if_false, List.getElem?_cons_zero, List.set_cons_zero, List.set_cons_succ]
      exact ⟨rfl, Ext.refl _, Nat.le_refl _, Nat.le_refl _, Own.nil, Told.zero _ _⟩
    · rintro n e g ⟨x, lo, hi, out, k, rfl, hk, i0, i4, i5, E, hlo, hhi, o, T, hol⟩
      have hle := E.le
      by_cases c1 : k < t.length
      rotate_left
      · have d1 : decide ((k : Int) < (t.length : Int)) = false := decide_eq_false (by omega)
        simp only [i0, i4, i5, d1, go_sem, Hold.p, HoldK.k, HoldL.K, HoldL.body, Nat.reduceBEq, Nat.reduceAdd, List.getElem?_cons_zero, List.getElem?_cons_succ, Option.bind_some, List.map_cons, List.map_nil, Nat.zero_add, if_true, List.getD_cons_zero, List.getD_cons_succ, List.contains_cons, List.contains_nil, Nat.reduceBEq, Bool.or_true, Bool.true_or, Bool.or_false, Bool.false_or, Bool.not_true, Bool.not_false, true_and, and_true, rowA_whole, push_n, set_n, push_obj, set_obj, set_push, set_push_ne, set_set, Nat.add_assoc, Nat.left_eq_add, Nat.add_eq_left, Nat.add_left_cancel_iff, Nat.reduceEqDiff, stO_1s, stO_ws, boxA_s, one_bool, one_int, one_str, one_ptr, one_nilptr, one_slice, one_eslice, one_nilslice, one_func, one_iface, one_niliface, List.all_cons, List.all_nil, List.length_cons, List.length_nil, Nat.reduceLT, Nat.reduceEqDiff, Nat.reduceLeDiff, Bool.and_true, Nat.one_ne_zero, Nat.succ_ne_zero, reduceIte, if_false, List.getElem?_cons_zero, List.set_cons_zero, List.set_cons_succ]
        exact ⟨x, lo, hi, out, rfl, E, hlo, hhi, o, .inr ⟨ht, .inl (T.done (by omega))⟩, by omega⟩
      have d1 : decide ((k : Int) < (t.length : Int)) = true := decide_eq_true (by omega)
      have hkp : t[k]? = some t[k] := List.getElem?_eq_getElem c1
      generalize t[k] = b at hkp
      have x0 := idxS_at (q := .i64) hkp
      by_cases c4 : b = 37
      rotate_left
      · have d4 : (!decide ((b.toNat : Int) = 37)) = true := by
          have : ¬ (b.toNat : Int) = 37 := fun hb => c4 (UInt8.toNat_inj.1 (by simpa using Int.ofNat.inj hb))
          simp [this]
        simp only [i0, i4, i5, d1, x0, d4, bslA_1, go_sem, Hold.p, HoldK.k, HoldL.K, HoldL.body, Nat.reduceBEq, Nat.reduceAdd, List.getElem?_cons_zero, List.getElem?_cons_succ, Option.bind_some, List.map_cons, List.map_nil, Nat.zero_add, if_true, List.getD_cons_zero, List.getD_cons_succ, List.contains_cons, List.contains_nil, Nat.reduceBEq, Bool.or_true, Bool.true_or, Bool.or_false, Bool.false_or, Bool.not_true, Bool.not_false, true_and, and_true, rowA_whole, push_n, set_n, push_obj, set_obj, set_push, set_push_ne, set_set, Nat.add_assoc, Nat.left_eq_add, Nat.add_eq_left, Nat.add_left_cancel_iff, Nat.reduceEqDiff, stO_1s, stO_ws, boxA_s, one_bool, one_int, one_str, one_ptr, one_nilptr, one_slice, one_eslice, one_nilslice, one_func, one_iface, one_niliface, List.all_cons, List.all_nil, List.length_cons, List.length_nil, Nat.reduceLT, Nat.reduceEqDiff, Nat.reduceLeDiff, Bool.and_true, Nat.one_ne_zero, Nat.succ_ne_zero, reduceIte, if_false, List.getElem?_cons_zero, List.set_cons_zero, List.set_cons_succ]
        generalize hq_g2 : IH.push g (IObj.rows [[.int .u8 b.toNat]] 5 1 false) = g2
        have e_g2 : Ext g g2 := by rw [← hq_g2]; exact (Ext.refl _).push _
        have l_g2 : g2.n = g.n + 1 := by rw [← hq_g2]; rfl
        have ba : At g2 g.n (IObj.rows [[.int .u8 b.toNat]] 5 1 false) := by rw [← hq_g2]; exact At.new _ _
        clear hq_g2
        have o := o.ext e_g2
        have E := E.ext e_g2
        refine o.app (by simp) (by rw [strRows_len, List.length_singleton]; omega) ?_
        intro v6 h6 o6 t6 n6 v6o v6c
        have E := E.turn o (by omega) t6
        have le_t6 := t6.le
        simp only [i0, i4, i5, go_sem, Hold.p, HoldK.k, HoldL.K, HoldL.body, Nat.reduceBEq, Nat.reduceAdd, List.getElem?_cons_zero, List.getElem?_cons_succ, Option.bind_some, List.map_cons, List.map_nil, Nat.zero_add, if_true, List.getD_cons_zero, List.getD_cons_succ, List.contains_cons, List.contains_nil, Nat.reduceBEq, Bool.or_true, Bool.true_or, Bool.or_false, Bool.false_or, Bool.not_true, Bool.not_false, true_and, and_true, rowA_whole, push_n, set_n, push_obj, set_obj, set_push, set_push_ne, set_set, Nat.add_assoc, Nat.left_eq_add, Nat.add_eq_left, Nat.add_left_cancel_iff, Nat.reduceEqDiff, stO_1s, stO_ws, boxA_s, one_bool, one_int, one_str, one_ptr, one_nilptr, one_slice, one_eslice, one_nilslice, one_func, one_iface, one_niliface, List.all_cons, List.all_nil, List.length_cons, List.length_nil, Nat.reduceLT, Nat.reduceEqDiff, Nat.reduceLeDiff, Bool.and_true, Nat.one_ne_zero, Nat.succ_ne_zero, reduceIte, if_false, List.getElem?_cons_zero, List.set_cons_zero, List.set_cons_succ]
        refine ⟨_, ?_, v6, g2.n, g2.n + 1, out ++ [b], k + 1, rfl, by omega, rfl, wr64_succ k (by omega), E, by omega, by omega, ?_, T.plain hkp c4, by simp; omega⟩
        · omega
        · rw [strRows_append]; exact o6
      subst c4
      have d4 : (!decide (((37 : UInt8).toNat : Int) = 37)) = false := by decide
      have w2 : wr .i64 ((k : Int) + 2) = ((k + 2 : Nat) : Int) := by rw [wr64 _ (by omega)]; rfl
      by_cases c5 : t.length ≤ k + 2
      · have d5 : decide ((t.length : Int) ≤ ((k + 2 : Nat) : Int)) = true := decide_eq_true (by omega)
        simp only [i0, i4, i5, d1, x0, d4, w2, d5, go_sem, Hold.p, HoldK.k, HoldL.K, HoldL.body, Nat.reduceBEq, Nat.reduceAdd, List.getElem?_cons_zero, List.getElem?_cons_succ, Option.bind_some, List.map_cons, List.map_nil, Nat.zero_add, if_true, List.getD_cons_zero, List.getD_cons_succ, List.contains_cons, List.contains_nil, Nat.reduceBEq, Bool.or_true, Bool.true_or, Bool.or_false, Bool.false_or, Bool.not_true, Bool.not_false, true_and, and_true, rowA_whole, push_n, set_n, push_obj, set_obj, set_push, set_push_ne, set_set, Nat.add_assoc, Nat.left_eq_add, Nat.add_eq_left, Nat.add_left_cancel_iff, Nat.reduceEqDiff, stO_1s, stO_ws, boxA_s, one_bool, one_int, one_str, one_ptr, one_nilptr, one_slice, one_eslice, one_nilslice, one_func, one_iface, one_niliface, List.all_cons, List.all_nil, List.length_cons, List.length_nil, Nat.reduceLT, Nat.reduceEqDiff, Nat.reduceLeDiff, Bool.and_true, Nat.one_ne_zero, Nat.succ_ne_zero, reduceIte, if_false, List.getElem?_cons_zero, List.set_cons_zero, List.set_cons_succ]
        rw [unE_none gI_hex ht (T.short hkp c5)]
        exact ⟨_, rfl, Own.nil, E⟩
      have d5 : decide ((t.length : Int) ≤ ((k + 2 : Nat) : Int)) = false := decide_eq_false (by omega)
      have w1 : wr .i64 ((k : Int) + 1) = ((k + 1 : Nat) : Int) := by rw [wr64 _ (by omega)]; rfl
      have ha : t[k + 1]? = some t[k + 1] := List.getElem?_eq_getElem (by omega)
      have hb : t[k + 2]? = some t[k + 2] := List.getElem?_eq_getElem (by omega)
      generalize t[k + 1] = a at ha
      generalize t[k + 2] = b at hb
      have x1 := idxS_at (q := .i64) ha
      have x2 := idxS_at (q := .i64) hb
      simp only [i0, i4, i5, d1, x0, d4, w2, d5, w1, x1, x2, go_sem, Hold.p, HoldK.k, HoldL.K, HoldL.body, Nat.reduceBEq, Nat.reduceAdd, List.getElem?_cons_zero, List.getElem?_cons_succ, Option.bind_some, List.map_cons, List.map_nil, Nat.zero_add, if_true, List.getD_cons_zero, List.getD_cons_succ, List.contains_cons, List.contains_nil, Nat.reduceBEq, Bool.or_true, Bool.true_or, Bool.or_false, Bool.false_or, Bool.not_true, Bool.not_false, true_and, and_true, rowA_whole, push_n, set_n, push_obj, set_obj, set_push, set_push_ne, set_set, Nat.add_assoc, Nat.left_eq_add, Nat.add_eq_left, Nat.add_left_cancel_iff, Nat.reduceEqDiff, stO_1s, stO_ws, boxA_s, one_bool, one_int, one_str, one_ptr, one_nilptr, one_slice, one_eslice, one_nilslice, one_func, one_iface, one_niliface, List.all_cons, List.all_nil, List.length_cons, List.length_nil, Nat.reduceLT, Nat.reduceEqDiff, Nat.reduceLeDiff, Bool.and_true, Nat.one_ne_zero, Nat.succ_ne_zero, reduceIte, if_false, List.getElem?_cons_zero, List.set_cons_zero, List.set_cons_succ]
      refine callA_of (indexByte_c g _ a) ?_
      rintro r g1 ⟨rfl, rfl⟩
      simp only [i0, i4, i5, w2, w1, x1, x2, go_sem, Hold.p, HoldK.k, HoldL.K, HoldL.body, Nat.reduceBEq, Nat.reduceAdd, List.getElem?_cons_zero, List.getElem?_cons_succ, Option.bind_some, List.map_cons, List.map_nil, Nat.zero_add, if_true, List.getD_cons_zero, List.getD_cons_succ, List.contains_cons, List.contains_nil, Nat.reduceBEq, Bool.or_true, Bool.true_or, Bool.or_false, Bool.false_or, Bool.not_true, Bool.not_false, true_and, and_true, rowA_whole, push_n, set_n, push_obj, set_obj, set_push, set_push_ne, set_set, Nat.add_assoc, Nat.left_eq_add, Nat.add_eq_left, Nat.add_left_cancel_iff, Nat.reduceEqDiff, stO_1s, stO_ws, boxA_s, one_bool, one_int, one_str, one_ptr, one_nilptr, one_slice, one_eslice, one_nilslice, one_func, one_iface, one_niliface, List.all_cons, List.all_nil, List.length_cons, List.length_nil, Nat.reduceLT, Nat.reduceEqDiff, Nat.reduceLeDiff, Bool.and_true, Nat.one_ne_zero, Nat.succ_ne_zero, reduceIte, if_false, List.getElem?_cons_zero, List.set_cons_zero, List.set_cons_succ]
      refine callA_of (indexByte_c g1 _ b) ?_
      rintro r g2 ⟨rfl, rfl⟩
      have hS : [48, 49, 50, 51, 52, 53, 54, 55, 56, 57, 97, 98, 99, 100, 101, 102] = hexS := rfl
      rw [hS]
      rcases hexS_idx a with ia | ⟨na, hna, ia⟩
      · have d6 : decide (Lib.indexByte hexS a < 0) = true := by rw [ia]; rfl
        simp only [i0, i4, i5, w2, w1, x1, x2, hS, d6, go_sem, Hold.p, HoldK.k, HoldL.K, HoldL.body, Nat.reduceBEq, Nat.reduceAdd, List.getElem?_cons_zero, List.getElem?_cons_succ, Option.bind_some, List.map_cons, List.map_nil, Nat.zero_add, if_true, List.getD_cons_zero, List.getD_cons_succ, List.contains_cons, List.contains_nil, Nat.reduceBEq, Bool.or_true, Bool.true_or, Bool.or_false, Bool.false_or, Bool.not_true, Bool.not_false, true_and, and_true, rowA_whole, push_n, set_n, push_obj, set_obj, set_push, set_push_ne, set_set, Nat.add_assoc, Nat.left_eq_add, Nat.add_eq_left, Nat.add_left_cancel_iff, Nat.reduceEqDiff, stO_1s, stO_ws, boxA_s, one_bool, one_int, one_str, one_ptr, one_nilptr, one_slice, one_eslice, one_nilslice, one_func, one_iface, one_niliface, List.all_cons, List.all_nil, List.length_cons, List.length_nil, Nat.reduceLT, Nat.reduceEqDiff, Nat.reduceLeDiff, Bool.and_true, Nat.one_ne_zero, Nat.succ_ne_zero, reduceIte, if_false, List.getElem?_cons_zero, List.set_cons_zero, List.set_cons_succ]
        rw [unE_none gI_hex ht (T.bad hkp ha hb (by unfold gI; rw [if_pos (by omega)]))]
        exact ⟨_, rfl, Own.nil, E⟩
      have d6 : decide (Lib.indexByte hexS a < 0) = false := by rw [ia]; simp
      rcases hexS_idx b with ib | ⟨nb, hnb, ib⟩
      · have d7 : decide (Lib.indexByte hexS b < 0) = true := by rw [ib]; rfl
        simp only [i0, i4, i5, w2, w1, x1, x2, hS, d6, d7, go_sem, Hold.p, HoldK.k, HoldL.K, HoldL.body, Nat.reduceBEq, Nat.reduceAdd, List.getElem?_cons_zero, List.getElem?_cons_succ, Option.bind_some, List.map_cons, List.map_nil, Nat.zero_add, if_true, List.getD_cons_zero, List.getD_cons_succ, List.contains_cons, List.contains_nil, Nat.reduceBEq, Bool.or_true, Bool.true_or, Bool.or_false, Bool.false_or, Bool.not_true, Bool.not_false, true_and, and_true, rowA_whole, push_n, set_n, push_obj, set_obj, set_push, set_push_ne, set_set, Nat.add_assoc, Nat.left_eq_add, Nat.add_eq_left, Nat.add_left_cancel_iff, Nat.reduceEqDiff, stO_1s, stO_ws, boxA_s, one_bool, one_int, one_str, one_ptr, one_nilptr, one_slice, one_eslice, one_nilslice, one_func, one_iface, one_niliface, List.all_cons, List.all_nil, List.length_cons, List.length_nil, Nat.reduceLT, Nat.reduceEqDiff, Nat.reduceLeDiff, Bool.and_true, Nat.one_ne_zero, Nat.succ_ne_zero, reduceIte, if_false, List.getElem?_cons_zero, List.set_cons_zero, List.set_cons_succ]
        rw [unE_none gI_hex ht (T.bad hkp ha hb (by unfold gI; rw [if_pos (by omega)]))]
        exact ⟨_, rfl, Own.nil, E⟩
      have d6 : decide ((na : Int) < 0) = false := decide_eq_false (by omega)
      have d7 : decide ((nb : Int) < 0) = false := decide_eq_false (by omega)
      have hg : gI a b = some (UInt8.ofNat (((na * 16 + nb : Nat) : Int) % 256).toNat) := by
        unfold gI
        rw [if_neg (by omega), ia, ib]; rfl
      simp only [i0, i4, i5, w2, w1, x1, x2, hS, d6, d7, ia, ib, shl4 hna, or16 hna hnb, wr_u8, bslA_1, go_sem, Hold.p, HoldK.k, HoldL.K, HoldL.body, Nat.reduceBEq, Nat.reduceAdd, List.getElem?_cons_zero, List.getElem?_cons_succ, Option.bind_some, List.map_cons, List.map_nil, Nat.zero_add, if_true, List.getD_cons_zero, List.getD_cons_succ, List.contains_cons, List.contains_nil, Nat.reduceBEq, Bool.or_true, Bool.true_or, Bool.or_false, Bool.false_or, Bool.not_true, Bool.not_false, true_and, and_true, rowA_whole, push_n, set_n, push_obj, set_obj, set_push, set_push_ne, set_set, Nat.add_assoc, Nat.left_eq_add, Nat.add_eq_left, Nat.add_left_cancel_iff, Nat.reduceEqDiff, stO_1s, stO_ws, boxA_s, one_bool, one_int, one_str, one_ptr, one_nilptr, one_slice, one_eslice, one_nilslice, one_func, one_iface, one_niliface, List.all_cons, List.all_nil, List.length_cons, List.length_nil, Nat.reduceLT, Nat.reduceEqDiff, Nat.reduceLeDiff, Bool.and_true, Nat.one_ne_zero, Nat.succ_ne_zero, reduceIte, if_false, List.getElem?_cons_zero, List.set_cons_zero, List.set_cons_succ]
      generalize hq_g3 : IH.push g2 (IObj.rows [[.int .u8 (UInt8.ofNat (((na * 16 + nb : Nat) : Int) % 256).toNat).toNat]] 5 1 false) = g3
      have e_g3 : Ext g2 g3 := by rw [← hq_g3]; exact (Ext.refl _).push _
      have l_g3 : g3.n = g2.n + 1 := by rw [← hq_g3]; rfl
      have ba : At g3 g2.n (IObj.rows [[.int .u8 (UInt8.ofNat (((na * 16 + nb : Nat) : Int) % 256).toNat).toNat]] 5 1 false) := by rw [← hq_g3]; exact At.new _ _
      clear hq_g3
      have o := o.ext e_g3
      have E := E.ext e_g3
      try simp only [i0, i4, i5, w2, w1, x1, x2, ba.eq, go_sem, Hold.p, HoldK.k, HoldL.K, HoldL.body, Nat.reduceBEq, Nat.reduceAdd, List.getElem?_cons_zero, List.getElem?_cons_succ, Option.bind_some, List.map_cons, List.map_nil, Nat.zero_add, if_true, List.getD_cons_zero, List.getD_cons_succ, List.contains_cons, List.contains_nil, Nat.reduceBEq, Bool.or_true, Bool.true_or, Bool.or_false, Bool.false_or, Bool.not_true, Bool.not_false, true_and, and_true, rowA_whole, push_n, set_n, push_obj, set_obj, set_push, set_push_ne, set_set, Nat.add_assoc, Nat.left_eq_add, Nat.add_eq_left, Nat.add_left_cancel_iff, Nat.reduceEqDiff, stO_1s, stO_ws, boxA_s, one_bool, one_int, one_str, one_ptr, one_nilptr, one_slice, one_eslice, one_nilslice, one_func, one_iface, one_niliface, List.all_cons, List.all_nil, List.length_cons, List.length_nil, Nat.reduceLT, Nat.reduceEqDiff, Nat.reduceLeDiff, Bool.and_true, Nat.one_ne_zero, Nat.succ_ne_zero, reduceIte, if_false, List.getElem?_cons_zero, List.set_cons_zero, List.set_cons_succ]
      refine o.app (by simp) (by rw [strRows_len, List.length_singleton]; omega) ?_
      intro v6 h6 o6 t6 n6 v6o v6c
      have E := E.turn o (by omega) t6
      have le_t6 := t6.le
      have w5 : wr .i64 (((k + 2 : Nat) : Int) + 1) = ((k + 3 : Nat) : Int) := by rw [wr64 _ (by omega)]; rfl
      simp only [i0, i4, i5, w2, w1, w5, go_sem, Hold.p, HoldK.k, HoldL.K, HoldL.body, Nat.reduceBEq, Nat.reduceAdd, List.getElem?_cons_zero, List.getElem?_cons_succ, Option.bind_some, List.map_cons, List.map_nil, Nat.zero_add, if_true, List.getD_cons_zero, List.getD_cons_succ, List.contains_cons, List.contains_nil, Nat.reduceBEq, Bool.or_true, Bool.true_or, Bool.or_false, Bool.false_or, Bool.not_true, Bool.not_false, true_and, and_true, rowA_whole, push_n, set_n, push_obj, set_obj, set_push, set_push_ne, set_set, Nat.add_assoc, Nat.left_eq_add, Nat.add_eq_left, Nat.add_left_cancel_iff, Nat.reduceEqDiff, stO_1s, stO_ws, boxA_s, one_bool, one_int, one_str, one_ptr, one_nilptr, one_slice, one_eslice, one_nilslice, one_func, one_iface, one_niliface, List.all_cons, List.all_nil, List.length_cons, List.length_nil, Nat.reduceLT, Nat.reduceEqDiff, Nat.reduceLeDiff, Bool.and_true, Nat.one_ne_zero, Nat.succ_ne_zero, reduceIte, if_false, List.getElem?_cons_zero, List.set_cons_zero, List.set_cons_succ]
      refine ⟨_, ?_, v6, g3.n, g3.n + 1, out ++ [UInt8.ofNat (((na * 16 + nb : Nat) : Int) % 256).toNat], k + 3, rfl, by omega, rfl, rfl, E, by omega, by omega, ?_, T.esc hkp ha hb hg, by simp; omega⟩
      · omega
      · rw [strRows_append]; exact o6
  · rintro e g ⟨x, lo, hi, out, i0, i4, E, hlo, hhi, o, R, hol⟩
    have hle := E.le
    simp only [CC.split]
    simp only [i0, i4, go_sem, Hold.p, HoldK.k, HoldL.K, HoldL.body, Nat.reduceBEq, Nat.reduceAdd, List.getElem?_cons_zero, List.getElem?_cons_succ, Option.bind_some, List.map_cons, List.map_nil, Nat.zero_add, if_true, List.getD_cons_zero, List.getD_cons_succ, List.contains_cons, List.contains_nil, Nat.reduceBEq, Bool.or_true, Bool.true_or, Bool.or_false, Bool.false_or, Bool.not_true, Bool.not_false, true_and, and_true, rowA_whole, push_n, set_n, push_obj, set_obj, set_push, set_push_ne, set_set, Nat.add_assoc, Nat.left_eq_add, Nat.add_eq_left, Nat.add_left_cancel_iff, Nat.reduceEqDiff, stO_1s, stO_ws, boxA_s, one_bool, one_int, one_str, one_ptr, one_nilptr, one_slice, one_eslice, one_nilslice, one_func, one_iface, one_niliface, List.all_cons, List.all_nil, List.length_cons, List.length_nil, Nat.reduceLT, Nat.reduceEqDiff, Nat.reduceLeDiff, Bool.and_true, Nat.one_ne_zero, Nat.succ_ne_zero, reduceIte, if_false, List.getElem?_cons_zero, List.set_cons_zero, List.set_cons_succ]
    refine callA_of (implShowData_c g x out o.sl (by omega)) ?_
    rintro r g1 ⟨rfl, E1⟩
    have o := o.ext E1
    have le_E1 := E1.le
    have E := E.trans E1
    rw [R.fin gI_hex]
    by_cases c1 : (showD out).2 = 0
    · have d1 : (!decide ((showD out).2 = 0)) = false := by simp [c1]
      by_cases c2 : (showD out).1 = t
      · have d2 : (!decide ((showD out).1 = t)) = false := by simp [c2]
        simp only [i0, i4, d1, d2, go_sem, Hold.p, HoldK.k, HoldL.K, HoldL.body, Nat.reduceBEq, Nat.reduceAdd, List.getElem?_cons_zero, List.getElem?_cons_succ, Option.bind_some, List.map_cons, List.map_nil, Nat.zero_add, if_true, List.getD_cons_zero, List.getD_cons_succ, List.contains_cons, List.contains_nil, Nat.reduceBEq, Bool.or_true, Bool.true_or, Bool.or_false, Bool.false_or, Bool.not_true, Bool.not_false, true_and, and_true, rowA_whole, push_n, set_n, push_obj, set_obj, set_push, set_push_ne, set_set, Nat.add_assoc, Nat.left_eq_add, Nat.add_eq_left, Nat.add_left_cancel_iff, Nat.reduceEqDiff, stO_1s, stO_ws, boxA_s, one_bool, one_int, one_str, one_ptr, one_nilptr, one_slice, one_eslice, one_nilslice, one_func, one_iface, one_niliface, List.all_cons, List.all_nil, List.length_cons, List.length_nil, Nat.reduceLT, Nat.reduceEqDiff, Nat.reduceLeDiff, Bool.and_true, Nat.one_ne_zero, Nat.succ_ne_zero, reduceIte, if_false, List.getElem?_cons_zero, List.set_cons_zero, List.set_cons_succ]
        rw [if_pos (by rw [← c1, ← c2])]
        exact ⟨_, rfl, o.wide hlo (Nat.le_trans hhi le_E1) (Nat.le_refl _), E⟩
      · have d2 : (!decide ((showD out).1 = t)) = true := by simp [c2]
        simp only [i0, i4, d1, d2, go_sem, Hold.p, HoldK.k, HoldL.K, HoldL.body, Nat.reduceBEq, Nat.reduceAdd, List.getElem?_cons_zero, List.getElem?_cons_succ, Option.bind_some, List.map_cons, List.map_nil, Nat.zero_add, if_true, List.getD_cons_zero, List.getD_cons_succ, List.contains_cons, List.contains_nil, Nat.reduceBEq, Bool.or_true, Bool.true_or, Bool.or_false, Bool.false_or, Bool.not_true, Bool.not_false, true_and, and_true, rowA_whole, push_n, set_n, push_obj, set_obj, set_push, set_push_ne, set_set, Nat.add_assoc, Nat.left_eq_add, Nat.add_eq_left, Nat.add_left_cancel_iff, Nat.reduceEqDiff, stO_1s, stO_ws, boxA_s, one_bool, one_int, one_str, one_ptr, one_nilptr, one_slice, one_eslice, one_nilslice, one_func, one_iface, one_niliface, List.all_cons, List.all_nil, List.length_cons, List.length_nil, Nat.reduceLT, Nat.reduceEqDiff, Nat.reduceLeDiff, Bool.and_true, Nat.one_ne_zero, Nat.succ_ne_zero, reduceIte, if_false, List.getElem?_cons_zero, List.set_cons_zero, List.set_cons_succ]
        rw [if_neg (fun hs => c2 (by rw [hs]))]
        exact ⟨_, rfl, Own.nil, E⟩
    · have d1 : (!decide ((showD out).2 = 0)) = true := by simp [c1]
      simp only [i0, i4, d1, go_sem, Hold.p, HoldK.k, HoldL.K, HoldL.body, Nat.reduceBEq, Nat.reduceAdd, List.getElem?_cons_zero, List.getElem?_cons_succ, Option.bind_some, List.map_cons, List.map_nil, Nat.zero_add, if_true, List.getD_cons_zero, List.getD_cons_succ, List.contains_cons, List.contains_nil, Nat.reduceBEq, Bool.or_true, Bool.true_or, Bool.or_false, Bool.false_or, Bool.not_true, Bool.not_false, true_and, and_true, rowA_whole, push_n, set_n, push_obj, set_obj, set_push, set_push_ne, set_set, Nat.add_assoc, Nat.left_eq_add, Nat.add_eq_left, Nat.add_left_cancel_iff, Nat.reduceEqDiff, stO_1s, stO_ws, boxA_s, one_bool, one_int, one_str, one_ptr, one_nilptr, one_slice, one_eslice, one_nilslice, one_func, one_iface, one_niliface, List.all_cons, List.all_nil, List.length_cons, List.length_nil, Nat.reduceLT, Nat.reduceEqDiff, Nat.reduceLeDiff, Bool.and_true, Nat.one_ne_zero, Nat.succ_ne_zero, reduceIte, if_false, List.getElem?_cons_zero, List.set_cons_zero, List.set_cons_succ]
      rw [if_neg (fun hs => c1 (by rw [hs]))]
      exact ⟨_, rfl, Own.nil, E⟩
end Go.Proofs.Ytecljenjlncfhaa

namespace Go.Proofs.Ytecljenjlncfhaa
open Go Go.IW

theorem readD_len (t : List UInt8) : (readD t).1.length ≤ 60000 := by
  have key : ∀ bs, showD bs = (t, 0) → bs.length ≤ 60000 := by
    intro bs h
    unfold showD at h
    split at h
    · simp at h
    · omega
  unfold readD
  split
  · simp
  · split
    · split
      · exact key _ ‹_›
      · simp
    · simp
set_option maxRecDepth 20000 in
theorem lawReadData : LawTrue Try.prog 4 [(.str, false)] := by
  rintro h ivs ha ⟨iv, r, rfl, ⟨t, ht, hm⟩, rfl⟩
  obtain rfl := (List.cons.inj ht).1.symm
  refine icalls (.of ok4) (Nat.le_of_ble_eq_true rfl) ?_
  unfold c4
  by_cases hbig : (1048576 : Int) < t.length
  · have hn : decide ((1048576 : Int) < t.length) = true := decide_eq_true hbig
    simp only [hn, go_sem, Hold.p, HoldK.k, HoldL.K, HoldL.body, Nat.reduceBEq, Nat.reduceAdd, List.getElem?_cons_zero, List.getElem?_cons_succ, Option.bind_some, List.map_cons, List.map_nil, Nat.zero_add, if_true, List.getD_cons_zero, List.getD_cons_succ, List.contains_cons, List.contains_nil, Nat.reduceBEq, Bool.or_true, Bool.true_or, Bool.or_false, Bool.false_or, Bool.not_true, Bool.not_false, true_and, and_true, rowA_whole, push_n, set_n, push_obj, set_obj, set_push, set_push_ne, set_set, Nat.add_assoc, Nat.left_eq_add, Nat.add_eq_left, Nat.add_left_cancel_iff, Nat.reduceEqDiff, stO_1s, stO_ws, boxA_s, one_bool, one_int, one_str, one_ptr, one_nilptr, one_slice, one_eslice, one_nilslice, one_func, one_iface, one_niliface, List.all_cons, List.all_nil, List.length_cons, List.length_nil, Nat.reduceLT, Nat.reduceEqDiff, Nat.reduceLeDiff, Bool.and_true, Nat.one_ne_zero, Nat.succ_ne_zero, reduceIte, if_false, List.getElem?_cons_zero, List.set_cons_zero, List.set_cons_succ]
  have hn : decide ((1048576 : Int) < t.length) = false := decide_eq_false hbig
  have hl : t.length ≤ 1048576 := by omega
  have hrl := readD_len t
  simp only [hn, go_sem, Hold.p, HoldK.k, HoldL.K, HoldL.body, Nat.reduceBEq, Nat.reduceAdd, List.getElem?_cons_zero, List.getElem?_cons_succ, Option.bind_some, List.map_cons, List.map_nil, Nat.zero_add, if_true, List.getD_cons_zero, List.getD_cons_succ, List.contains_cons, List.contains_nil, Nat.reduceBEq, Bool.or_true, Bool.true_or, Bool.or_false, Bool.false_or, Bool.not_true, Bool.not_false, true_and, and_true, rowA_whole, push_n, set_n, push_obj, set_obj, set_push, set_push_ne, set_set, Nat.add_assoc, Nat.left_eq_add, Nat.add_eq_left, Nat.add_left_cancel_iff, Nat.reduceEqDiff, stO_1s, stO_ws, boxA_s, one_bool, one_int, one_str, one_ptr, one_nilptr, one_slice, one_eslice, one_nilslice, one_func, one_iface, one_niliface, List.all_cons, List.all_nil, List.length_cons, List.length_nil, Nat.reduceLT, Nat.reduceEqDiff, Nat.reduceLeDiff, Bool.and_true, Nat.one_ne_zero, Nat.succ_ne_zero, reduceIte, if_false, List.getElem?_cons_zero, List.set_cons_zero, List.set_cons_succ]
  refine callA_of (specReadData_c _ t hl) ?_
  rintro r h1 ⟨vw, rfl, ow, E1⟩
  simp only [go_sem, Hold.p, HoldK.k, HoldL.K, HoldL.body, Nat.reduceBEq, Nat.reduceAdd, List.getElem?_cons_zero, List.getElem?_cons_succ, Option.bind_some, List.map_cons, List.map_nil, Nat.zero_add, if_true, List.getD_cons_zero, List.getD_cons_succ, List.contains_cons, List.contains_nil, Nat.reduceBEq, Bool.or_true, Bool.true_or, Bool.or_false, Bool.false_or, Bool.not_true, Bool.not_false, true_and, and_true, rowA_whole, push_n, set_n, push_obj, set_obj, set_push, set_push_ne, set_set, Nat.add_assoc, Nat.left_eq_add, Nat.add_eq_left, Nat.add_left_cancel_iff, Nat.reduceEqDiff, stO_1s, stO_ws, boxA_s, one_bool, one_int, one_str, one_ptr, one_nilptr, one_slice, one_eslice, one_nilslice, one_func, one_iface, one_niliface, List.all_cons, List.all_nil, List.length_cons, List.length_nil, Nat.reduceLT, Nat.reduceEqDiff, Nat.reduceLeDiff, Bool.and_true, Nat.one_ne_zero, Nat.succ_ne_zero, reduceIte, if_false, List.getElem?_cons_zero, List.set_cons_zero, List.set_cons_succ]
  refine callA_of (implReadData_c _ t hl) ?_
  rintro r h2 ⟨vg, rfl, og, E2⟩
  have ow := ow.ext E2
  have le_E2 := E2.le
  generalize hx : readD t = x at ow og hrl
  obtain ⟨bs, c⟩ := x
  simp only at ow og hrl ⊢
  simp only [go_sem, Hold.p, HoldK.k, HoldL.K, HoldL.body, Nat.reduceBEq, Nat.reduceAdd, List.getElem?_cons_zero, List.getElem?_cons_succ, Option.bind_some, List.map_cons, List.map_nil, Nat.zero_add, if_true, List.getD_cons_zero, List.getD_cons_succ, List.contains_cons, List.contains_nil, Nat.reduceBEq, Bool.or_true, Bool.true_or, Bool.or_false, Bool.false_or, Bool.not_true, Bool.not_false, true_and, and_true, rowA_whole, push_n, set_n, push_obj, set_obj, set_push, set_push_ne, set_set, Nat.add_assoc, Nat.left_eq_add, Nat.add_eq_left, Nat.add_left_cancel_iff, Nat.reduceEqDiff, stO_1s, stO_ws, boxA_s, one_bool, one_int, one_str, one_ptr, one_nilptr, one_slice, one_eslice, one_nilslice, one_func, one_iface, one_niliface, List.all_cons, List.all_nil, List.length_cons, List.length_nil, Nat.reduceLT, Nat.reduceEqDiff, Nat.reduceLeDiff, Bool.and_true, Nat.one_ne_zero, Nat.succ_ne_zero, reduceIte, if_false, List.getElem?_cons_zero, List.set_cons_zero, List.set_cons_succ]
  refine callA_of (eqByteS_c _ _ _ bs og.sl ow.sl (by omega)) ?_
  rintro r h3 ⟨rfl, rfl⟩
  simp only [decide_true, go_sem, Hold.p, HoldK.k, HoldL.K, HoldL.body, Nat.reduceBEq, Nat.reduceAdd, List.getElem?_cons_zero, List.getElem?_cons_succ, Option.bind_some, List.map_cons, List.map_nil, Nat.zero_add, if_true, List.getD_cons_zero, List.getD_cons_succ, List.contains_cons, List.contains_nil, Nat.reduceBEq, Bool.or_true, Bool.true_or, Bool.or_false, Bool.false_or, Bool.not_true, Bool.not_false, true_and, and_true, rowA_whole, push_n, set_n, push_obj, set_obj, set_push, set_push_ne, set_set, Nat.add_assoc, Nat.left_eq_add, Nat.add_eq_left, Nat.add_left_cancel_iff, Nat.reduceEqDiff, stO_1s, stO_ws, boxA_s, one_bool, one_int, one_str, one_ptr, one_nilptr, one_slice, one_eslice, one_nilslice, one_func, one_iface, one_niliface, List.all_cons, List.all_nil, List.length_cons, List.length_nil, Nat.reduceLT, Nat.reduceEqDiff, Nat.reduceLeDiff, Bool.and_true, Nat.one_ne_zero, Nat.succ_ne_zero, reduceIte, if_false, List.getElem?_cons_zero, List.set_cons_zero, List.set_cons_succ]
  refine callA_of (markByteS_c h3 vg 1 _ og rows1 (by rw [strRows_len]; omega)) ?_
  rintro r h4 ⟨rfl, om, t4⟩
  have ow := ow.turn og (by omega) t4
  have le_t4 := t4.le
  rw [strRows_len] at om
  simp only [go_sem, Hold.p, HoldK.k, HoldL.K, HoldL.body, Nat.reduceBEq, Nat.reduceAdd, List.getElem?_cons_zero, List.getElem?_cons_succ, Option.bind_some, List.map_cons, List.map_nil, Nat.zero_add, if_true, List.getD_cons_zero, List.getD_cons_succ, List.contains_cons, List.contains_nil, Nat.reduceBEq, Bool.or_true, Bool.true_or, Bool.or_false, Bool.false_or, Bool.not_true, Bool.not_false, true_and, and_true, rowA_whole, push_n, set_n, push_obj, set_obj, set_push, set_push_ne, set_set, Nat.add_assoc, Nat.left_eq_add, Nat.add_eq_left, Nat.add_left_cancel_iff, Nat.reduceEqDiff, stO_1s, stO_ws, boxA_s, one_bool, one_int, one_str, one_ptr, one_nilptr, one_slice, one_eslice, one_nilslice, one_func, one_iface, one_niliface, List.all_cons, List.all_nil, List.length_cons, List.length_nil, Nat.reduceLT, Nat.reduceEqDiff, Nat.reduceLeDiff, Bool.and_true, Nat.one_ne_zero, Nat.succ_ne_zero, reduceIte, if_false, List.getElem?_cons_zero, List.set_cons_zero, List.set_cons_succ]
  refine callA_of (heldByteS_c _ vg bs.length 1 om.sl (by omega)) ?_
  rintro r h5 ⟨rfl, rfl⟩
  have hq : decide (((1 + bs.length : Nat) : Int) < 0) = false := decide_eq_false (by omega)
  simp only [hq, strRows_len, decide_true, go_sem, Hold.p, HoldK.k, HoldL.K, HoldL.body, Nat.reduceBEq, Nat.reduceAdd, List.getElem?_cons_zero, List.getElem?_cons_succ, Option.bind_some, List.map_cons, List.map_nil, Nat.zero_add, if_true, List.getD_cons_zero, List.getD_cons_succ, List.contains_cons, List.contains_nil, Nat.reduceBEq, Bool.or_true, Bool.true_or, Bool.or_false, Bool.false_or, Bool.not_true, Bool.not_false, true_and, and_true, rowA_whole, push_n, set_n, push_obj, set_obj, set_push, set_push_ne, set_set, Nat.add_assoc, Nat.left_eq_add, Nat.add_eq_left, Nat.add_left_cancel_iff, Nat.reduceEqDiff, stO_1s, stO_ws, boxA_s, one_bool, one_int, one_str, one_ptr, one_nilptr, one_slice, one_eslice, one_nilslice, one_func, one_iface, one_niliface, List.all_cons, List.all_nil, List.length_cons, List.length_nil, Nat.reduceLT, Nat.reduceEqDiff, Nat.reduceLeDiff, Bool.and_true, Nat.one_ne_zero, Nat.succ_ne_zero, reduceIte, if_false, List.getElem?_cons_zero, List.set_cons_zero, List.set_cons_succ]
  refine callA_of (implReadData_c _ t hl) ?_
  rintro r h6 ⟨vh, rfl, oh, E6⟩
  rw [hx] at oh
  simp only [hx] at oh ⊢
  have ow := ow.ext E6
  have om := om.ext E6
  have le_E6 := E6.le
  simp only [go_sem, Hold.p, HoldK.k, HoldL.K, HoldL.body, Nat.reduceBEq, Nat.reduceAdd, List.getElem?_cons_zero, List.getElem?_cons_succ, Option.bind_some, List.map_cons, List.map_nil, Nat.zero_add, if_true, List.getD_cons_zero, List.getD_cons_succ, List.contains_cons, List.contains_nil, Nat.reduceBEq, Bool.or_true, Bool.true_or, Bool.or_false, Bool.false_or, Bool.not_true, Bool.not_false, true_and, and_true, rowA_whole, push_n, set_n, push_obj, set_obj, set_push, set_push_ne, set_set, Nat.add_assoc, Nat.left_eq_add, Nat.add_eq_left, Nat.add_left_cancel_iff, Nat.reduceEqDiff, stO_1s, stO_ws, boxA_s, one_bool, one_int, one_str, one_ptr, one_nilptr, one_slice, one_eslice, one_nilslice, one_func, one_iface, one_niliface, List.all_cons, List.all_nil, List.length_cons, List.length_nil, Nat.reduceLT, Nat.reduceEqDiff, Nat.reduceLeDiff, Bool.and_true, Nat.one_ne_zero, Nat.succ_ne_zero, reduceIte, if_false, List.getElem?_cons_zero, List.set_cons_zero, List.set_cons_succ]
  refine callA_of (eqByteS_c _ _ _ bs oh.sl ow.sl (by omega)) ?_
  rintro r h7 ⟨rfl, rfl⟩
  simp only [decide_true, go_sem, Hold.p, HoldK.k, HoldL.K, HoldL.body, Nat.reduceBEq, Nat.reduceAdd, List.getElem?_cons_zero, List.getElem?_cons_succ, Option.bind_some, List.map_cons, List.map_nil, Nat.zero_add, if_true, List.getD_cons_zero, List.getD_cons_succ, List.contains_cons, List.contains_nil, Nat.reduceBEq, Bool.or_true, Bool.true_or, Bool.or_false, Bool.false_or, Bool.not_true, Bool.not_false, true_and, and_true, rowA_whole, push_n, set_n, push_obj, set_obj, set_push, set_push_ne, set_set, Nat.add_assoc, Nat.left_eq_add, Nat.add_eq_left, Nat.add_left_cancel_iff, Nat.reduceEqDiff, stO_1s, stO_ws, boxA_s, one_bool, one_int, one_str, one_ptr, one_nilptr, one_slice, one_eslice, one_nilslice, one_func, one_iface, one_niliface, List.all_cons, List.all_nil, List.length_cons, List.length_nil, Nat.reduceLT, Nat.reduceEqDiff, Nat.reduceLeDiff, Bool.and_true, Nat.one_ne_zero, Nat.succ_ne_zero, reduceIte, if_false, List.getElem?_cons_zero, List.set_cons_zero, List.set_cons_succ]
  refine callA_of (heldByteS_c _ vg bs.length 1 om.sl (by omega)) ?_
  rintro r h8 ⟨rfl, rfl⟩
  simp only [hq, decide_true, strRows_len, go_sem, Hold.p, HoldK.k, HoldL.K, HoldL.body, Nat.reduceBEq, Nat.reduceAdd, List.getElem?_cons_zero, List.getElem?_cons_succ, Option.bind_some, List.map_cons, List.map_nil, Nat.zero_add, if_true, List.getD_cons_zero, List.getD_cons_succ, List.contains_cons, List.contains_nil, Nat.reduceBEq, Bool.or_true, Bool.true_or, Bool.or_false, Bool.false_or, Bool.not_true, Bool.not_false, true_and, and_true, rowA_whole, push_n, set_n, push_obj, set_obj, set_push, set_push_ne, set_set, Nat.add_assoc, Nat.left_eq_add, Nat.add_eq_left, Nat.add_left_cancel_iff, Nat.reduceEqDiff, stO_1s, stO_ws, boxA_s, one_bool, one_int, one_str, one_ptr, one_nilptr, one_slice, one_eslice, one_nilslice, one_func, one_iface, one_niliface, List.all_cons, List.all_nil, List.length_cons, List.length_nil, Nat.reduceLT, Nat.reduceEqDiff, Nat.reduceLeDiff, Bool.and_true, Nat.one_ne_zero, Nat.succ_ne_zero, reduceIte, if_false, List.getElem?_cons_zero, List.set_cons_zero, List.set_cons_succ]
end Go.Proofs.Ytecljenjlncfhaa

namespace Go.Proofs.Ytecljenjlncfhaa
open Go Go.IW
/-- loop.example/g00003/laws.FnWords -/
def c5 : CC :=
 (.seq (.reg [
   ⟨(some 2), none, .f (.mv (.c (.bool false)))⟩])
 (.seq (.seq (.reg [
   ⟨(some 18), none, .f (.mv (.t 0))⟩,
   ⟨(some 19), none, .f (.len (.t 18))⟩,
   ⟨(some 20), none, .f (.bin .gtr (.t 19) (.c (.int .i64 1048576)))⟩])
 (.cond (.t 20)
  (.seq (.reg [
    ⟨(some 2), none, .f (.mv (.c (.bool true)))⟩])
  .ret)
  .skip))
 (.seq (.reg [
   ⟨(some 21), none, .f (.mv (.t 0))⟩,
   ⟨(some 22), none, .x (.call 21 [(.t 21)])⟩,
   ⟨(some 3), none, .f (.mv (.t 22))⟩])
 (.seq (.reg [
   ⟨(some 24), none, .f (.mv (.t 3))⟩,
   ⟨(some 25), none, .x (.call 13 [(.t 24)])⟩,
   ⟨(some 23), none, .f (.mv (.t 25))⟩,
   ⟨(some 26), none, .f (.ext 0 (.t 23))⟩,
   ⟨(some 27), none, .f (.ext 1 (.t 23))⟩,
   ⟨(some 4), none, .f (.mv (.t 26))⟩,
   ⟨(some 5), none, .f (.mv (.t 27))⟩])
 (.seq (.reg [
   ⟨(some 29), none, .x (.bslice 5 1 [(.int .u8 0)] 0 [])⟩,
   ⟨(some 30), none, .f (.mv (.t 3))⟩,
   ⟨(some 31), none, .x (.app 5 1 1 (.t 29) (.t 30))⟩,
   ⟨(some 32), none, .x (.call 15 [(.t 31)])⟩,
   ⟨(some 28), none, .f (.mv (.t 32))⟩,
   ⟨(some 33), none, .f (.ext 0 (.t 28))⟩,
   ⟨(some 34), none, .f (.ext 1 (.t 28))⟩,
   ⟨(some 6), none, .f (.mv (.t 33))⟩,
   ⟨(some 7), none, .f (.mv (.t 34))⟩])
 (.seq (.seq (.reg [
   ⟨(some 35), none, .f (.mv (.t 7))⟩,
   ⟨(some 36), none, .f (.mv (.t 5))⟩,
   ⟨(some 37), none, .f (.bin .neq (.t 35) (.t 36))⟩,
   ⟨(some 38), none, .f (.mv (.t 37))⟩,
   ⟨(some 39), (some (38, false)), .f (.mv (.t 6))⟩,
   ⟨(some 40), (some (38, false)), .f (.mv (.t 4))⟩,
   ⟨(some 41), (some (38, false)), .f (.bin .neq (.t 39) (.t 40))⟩,
   ⟨(some 42), none, .f (.pick (.t 38) (.c (.bool true)) (.t 41))⟩])
 (.cond (.t 42)
  (.seq (.reg [
    ⟨(some 2), none, .f (.mv (.c (.bool false)))⟩])
  .ret)
  .skip))
 (.seq (.seq (.reg [
   ⟨(some 43), none, .f (.mv (.t 7))⟩,
   ⟨(some 44), none, .f (.bin .eql (.t 43) (.c (.int .i64 0)))⟩])
 (.cond (.t 44)
  (.seq (.reg [
    ⟨(some 46), none, .f (.mv (.t 6))⟩,
    ⟨(some 47), none, .x (.call 18 [(.t 46)])⟩,
    ⟨(some 45), none, .f (.mv (.t 47))⟩,
    ⟨(some 48), none, .f (.ext 0 (.t 45))⟩,
    ⟨(some 49), none, .f (.ext 1 (.t 45))⟩,
    ⟨(some 8), none, .f (.mv (.t 48))⟩,
    ⟨(some 9), none, .f (.mv (.t 49))⟩])
  (.seq (.seq (.reg [
    ⟨(some 50), none, .f (.mv (.t 9))⟩,
    ⟨(some 51), none, .f (.bin .neq (.t 50) (.c (.int .i64 0)))⟩,
    ⟨(some 52), none, .f (.mv (.t 51))⟩,
    ⟨(some 53), (some (52, false)), .f (.mv (.t 8))⟩,
    ⟨(some 54), (some (52, false)), .f (.mv (.t 3))⟩,
    ⟨(some 55), (some (52, false)), .x (.call 22 [(.t 53), (.t 54)])⟩,
    ⟨(some 56), (some (52, false)), .f (.un .not (.t 55))⟩,
    ⟨(some 57), none, .f (.pick (.t 52) (.c (.bool true)) (.t 56))⟩,
    ⟨(some 58), none, .f (.mv (.t 57))⟩,
    ⟨(some 59), (some (58, false)), .f (.mv (.t 6))⟩,
    ⟨(some 60), (some (58, false)), .f (.bin .eql (.t 59) (.c (.str [])))⟩,
    ⟨(some 61), none, .f (.pick (.t 58) (.c (.bool true)) (.t 60))⟩])
  (.cond (.t 61)
   (.seq (.reg [
     ⟨(some 2), none, .f (.mv (.c (.bool false)))⟩])
   .ret)
   .skip))
  (.seq (.reg [
    ⟨(some 10), none, .f (.mv (.c (.int .i64 0)))⟩])
  (.block 0 (.loop (.seq (.seq (.reg [
      ⟨(some 62), none, .f (.mv (.t 10))⟩,
      ⟨(some 63), none, .f (.mv (.t 6))⟩,
      ⟨(some 64), none, .f (.lenS (.t 63))⟩,
      ⟨(some 65), none, .f (.bin .lss (.t 62) (.t 64))⟩])
    (.cond (.t 65)
     .skip
     (.exit 0)))
    (.seq (.block 1 (.seq (.reg [
       ⟨(some 68), none, .f (.mv (.t 6))⟩,
       ⟨(some 69), none, .f (.mv (.t 10))⟩,
       ⟨(some 70), none, .f (.idxS (.t 68) (.t 69))⟩,
       ⟨(some 71), none, .f (.bin .leq (.t 70) (.c (.int .u8 32)))⟩,
       ⟨(some 72), none, .f (.mv (.t 71))⟩,
       ⟨(some 73), (some (72, false)), .f (.mv (.t 6))⟩,
       ⟨(some 74), (some (72, false)), .f (.mv (.t 10))⟩,
       ⟨(some 75), (some (72, false)), .f (.idxS (.t 73) (.t 74))⟩,
       ⟨(some 76), (some (72, false)), .f (.bin .eql (.t 75) (.c (.int .u8 35)))⟩,
       ⟨(some 77), none, .f (.pick (.t 72) (.c (.bool true)) (.t 76))⟩,
       ⟨(some 78), none, .f (.mv (.t 77))⟩,
       ⟨(some 79), (some (78, false)), .f (.mv (.t 6))⟩,
       ⟨(some 80), (some (78, false)), .f (.mv (.t 10))⟩,
       ⟨(some 81), (some (78, false)), .f (.idxS (.t 79) (.t 80))⟩,
       ⟨(some 82), (some (78, false)), .f (.bin .gtr (.t 81) (.c (.int .u8 126)))⟩,
       ⟨(some 83), none, .f (.pick (.t 78) (.c (.bool true)) (.t 82))⟩])
     (.cond (.t 83)
      (.seq (.reg [
        ⟨(some 2), none, .f (.mv (.c (.bool false)))⟩])
      .ret)
      .skip)))
    (.reg [
      ⟨(some 66), none, .f (.mv (.t 10))⟩,
      ⟨(some 67), none, .f (.bin .add (.t 66) (.c (.int .i64 1)))⟩,
      ⟨(some 10), none, .f (.mv (.t 67))⟩]))))))))
  .skip))
 (.seq (.reg [
   ⟨(some 84), none, .f (.mv (.t 0))⟩,
   ⟨(some 85), none, .x (.call 23 [(.t 84)])⟩,
   ⟨(some 11), none, .f (.mv (.t 85))⟩])
 (.seq (.reg [
   ⟨(some 87), none, .f (.mv (.t 11))⟩,
   ⟨(some 88), none, .x (.call 18 [(.t 87)])⟩,
   ⟨(some 86), none, .f (.mv (.t 88))⟩,
   ⟨(some 89), none, .f (.ext 0 (.t 86))⟩,
   ⟨(some 90), none, .f (.ext 1 (.t 86))⟩,
   ⟨(some 12), none, .f (.mv (.t 89))⟩,
   ⟨(some 13), none, .f (.mv (.t 90))⟩])
 (.seq (.reg [
   ⟨(some 92), none, .f (.mv (.t 11))⟩,
   ⟨(some 93), none, .x (.call 17 [(.t 92)])⟩,
   ⟨(some 91), none, .f (.mv (.t 93))⟩,
   ⟨(some 94), none, .f (.ext 0 (.t 91))⟩,
   ⟨(some 95), none, .f (.ext 1 (.t 91))⟩,
   ⟨(some 14), none, .f (.mv (.t 94))⟩,
   ⟨(some 15), none, .f (.mv (.t 95))⟩])
 (.seq (.reg [
   ⟨(some 97), none, .f (.mv (.t 12))⟩,
   ⟨(some 98), none, .x (.call 15 [(.t 97)])⟩,
   ⟨(some 96), none, .f (.mv (.t 98))⟩,
   ⟨(some 99), none, .f (.ext 0 (.t 96))⟩,
   ⟨(some 100), none, .f (.ext 1 (.t 96))⟩,
   ⟨(some 16), none, .f (.mv (.t 99))⟩,
   ⟨(some 17), none, .f (.mv (.t 100))⟩])
 (.seq (.reg [
   ⟨(some 101), none, .f (.mv (.t 13))⟩,
   ⟨(some 102), none, .f (.mv (.t 15))⟩,
   ⟨(some 103), none, .f (.bin .eql (.t 101) (.t 102))⟩,
   ⟨(some 104), none, .f (.mv (.t 103))⟩,
   ⟨(some 105), (some (104, true)), .f (.mv (.t 13))⟩,
   ⟨(some 106), (some (104, true)), .f (.bin .neq (.t 105) (.c (.int .i64 0)))⟩,
   ⟨(some 107), (some (104, true)), .f (.mv (.t 106))⟩,
   ⟨(some 108), (some (107, false)), .f (.mv (.t 17))⟩,
   ⟨(some 109), (some (107, false)), .f (.bin .eql (.t 108) (.c (.int .i64 0)))⟩,
   ⟨(some 110), (some (107, false)), .f (.mv (.t 109))⟩,
   ⟨(some 111), (some (110, true)), .f (.mv (.t 16))⟩,
   ⟨(some 112), (some (110, true)), .f (.mv (.t 11))⟩,
   ⟨(some 113), (some (110, true)), .f (.bin .eql (.t 111) (.t 112))⟩,
   ⟨(some 114), (some (107, false)), .f (.pick (.t 110) (.t 113) (.c (.bool false)))⟩,
   ⟨(some 115), (some (104, true)), .f (.pick (.t 107) (.c (.bool true)) (.t 114))⟩,
   ⟨(some 116), none, .f (.pick (.t 104) (.t 115) (.c (.bool false)))⟩,
   ⟨(some 2), none, .f (.mv (.t 116))⟩])
 .ret))))))))))))
theorem ok5 : fnComp Try.prog 5 = some (117, c5, [(.mv (.t 2))]) := by kernel_rfl

/-- loop.example/g00003/spec.DrawShowData -/
def c21 : CC :=
 (.seq (.reg [
   ⟨(some 2), none, .f (.mv (.c .nilslice))⟩])
 (.seq (.reg [
   ⟨(some 4), none, .f (.mv (.t 0))⟩,
   ⟨(some 5), none, .x (.call 61 [(.t 4)])⟩,
   ⟨(some 3), none, .x (.zero 102 3 [.nilslice, (.int .i64 0), (.int .u64 0)])⟩,
   ⟨none, none, .x (.st 3 (.t 3) (.t 5))⟩])
 (.seq (.seq (.reg [
   ⟨(some 6), none, .x (.call 62 [(.t 3), (.c (.int .i64 20))])⟩,
   ⟨(some 7), none, .f (.bin .eql (.t 6) (.c (.int .i64 0)))⟩])
 (.cond (.t 7)
  (.seq (.reg [
    ⟨(some 8), none, .x (.call 62 [(.t 3), (.c (.int .i64 2))])⟩,
    ⟨(some 9), none, .f (.bin .add (.c (.int .i64 60000)) (.t 8))⟩,
    ⟨(some 10), none, .x (.mks 5 1 1 [(.int .u8 0)] (.t 9) (.t 9))⟩,
    ⟨(some 2), none, .f (.mv (.t 10))⟩])
  .ret)
  .skip))
 (.seq (.seq (.reg [
   ⟨(some 11), none, .x (.call 63 [(.t 3)])⟩])
 (.cond (.t 11)
  (.seq (.reg [
    ⟨(some 12), none, .x (.bslice 5 1 [(.int .u8 0)] 19 [(0, (.c (.int .u8 112))), (1, (.c (.int .u8 108))), (2, (.c (.int .u8 97))), (3, (.c (.int .u8 105))), (4, (.c (.int .u8 110))), (5, (.c (.int .u8 47))), (6, (.c (.int .u8 116))), (7, (.c (.int .u8 101))), (8, (.c (.int .u8 120))), (9, (.c (.int .u8 116))), (10, (.c (.int .u8 95))), (11, (.c (.int .u8 49))), (12, (.c (.int .u8 46))), (13, (.c (.int .u8 120))), (14, (.c (.int .u8 58))), (15, (.c (.int .u8 90))), (16, (.c (.int .u8 61))), (17, (.c (.int .u8 37))), (18, (.c (.int .u8 32)))])⟩,
    ⟨(some 13), none, .x (.ux .smark [(.t 12)])⟩,
    ⟨(some 14), none, .x (.call 62 [(.t 3), (.c (.int .i64 20))])⟩,
    ⟨(some 15), none, .f (.slc 1 (.t 13) none (some (.t 14)) none)⟩,
    ⟨(some 2), none, .f (.mv (.t 15))⟩])
  .ret)
  .skip))
 (.seq (.reg [
   ⟨(some 16), none, .x (.call 64 [(.t 3)])⟩,
   ⟨(some 2), none, .f (.mv (.t 16))⟩])
 .ret)))))
theorem ok21 : fnComp Try.prog 21 = some (17, c21, [(.mv (.t 2))]) := by kernel_rfl

/-- loop.example/g00003/laws.lwSame -/
def c22 : CC :=
 (.seq (.reg [
   ⟨(some 4), none, .f (.mv (.c (.bool false)))⟩])
 (.seq (.reg [
   ⟨(some 5), none, .f (.mv (.t 0))⟩,
   ⟨(some 6), none, .f (.b2s (.t 5))⟩,
   ⟨(some 7), none, .f (.mv (.t 1))⟩,
   ⟨(some 8), none, .f (.b2s (.t 7))⟩,
   ⟨(some 9), none, .f (.bin .eql (.t 6) (.t 8))⟩,
   ⟨(some 4), none, .f (.mv (.t 9))⟩])
 .ret))
theorem ok22 : fnComp Try.prog 22 = some (10, c22, [(.mv (.t 4))]) := by kernel_rfl

/-- loop.example/g00003/spec.DrawReadData -/
def c23 : CC :=
 (.seq (.reg [
   ⟨(some 2), none, .f (.mv (.c (.str [])))⟩])
 (.seq (.reg [
   ⟨(some 6), none, .f (.mv (.t 0))⟩,
   ⟨(some 7), none, .x (.call 61 [(.t 6)])⟩,
   ⟨(some 3), none, .x (.zero 102 3 [.nilslice, (.int .i64 0), (.int .u64 0)])⟩,
   ⟨none, none, .x (.st 3 (.t 3) (.t 7))⟩])
 (.seq (.reg [
   ⟨(some 9), none, .f (.mv (.t 0))⟩,
   ⟨(some 10), none, .x (.call 21 [(.t 9)])⟩,
   ⟨(some 11), none, .x (.call 13 [(.t 10)])⟩,
   ⟨(some 8), none, .f (.mv (.t 11))⟩,
   ⟨(some 12), none, .f (.ext 0 (.t 8))⟩,
   ⟨(some 13), none, .f (.ext 1 (.t 8))⟩,
   ⟨(some 4), none, .f (.mv (.t 12))⟩,
   ⟨(some 5), none, .f (.mv (.t 13))⟩])
 (.seq (.seq (.reg [
   ⟨(some 14), none, .x (.call 62 [(.t 3), (.c (.int .i64 6))])⟩])
 (.block 0 (.seq (.reg [
    ⟨(some 16), none, .f (.bin .eql (.t 14) (.c (.int .i64 0)))⟩,
    ⟨(some 15), none, .f (.mv (.t 16))⟩])
  (.cond (.t 15)
   (.seq (.reg [
     ⟨(some 17), none, .f (.mv (.t 4))⟩,
     ⟨(some 18), none, .x (.call 65 [(.t 3), (.t 17), (.c (.int .i64 1))])⟩,
     ⟨(some 2), none, .f (.mv (.t 18))⟩])
   .ret)
   (.seq (.reg [
     ⟨(some 20), none, .f (.bin .eql (.t 14) (.c (.int .i64 1)))⟩,
     ⟨(some 19), none, .f (.mv (.t 20))⟩])
   (.cond (.t 19)
    (.seq (.reg [
      ⟨(some 21), none, .f (.mv (.t 4))⟩,
      ⟨(some 22), none, .x (.bslice 9 1 [(.str [])] 7 [(0, (.c (.str [37]))), (1, (.c (.str [37, 52]))), (2, (.c (.str [37, 52, 49]))), (3, (.c (.str [37, 52, 65]))), (4, (.c (.str [37, 122, 122]))), (5, (.c (.str [61]))), (6, (.c (.str [32])))])⟩,
      ⟨(some 23), none, .x (.call 62 [(.t 3), (.c (.int .i64 7))])⟩,
      ⟨(some 24), none, .f (.iadr 1 (.t 22) (.t 23))⟩,
      ⟨(some 25), none, .f (.ld (.t 24))⟩,
      ⟨(some 26), none, .f (.bin .add (.t 21) (.t 25))⟩,
      ⟨(some 2), none, .f (.mv (.t 26))⟩])
    .ret)
    .skip))))))
 (.seq (.reg [
   ⟨(some 27), none, .f (.mv (.t 4))⟩,
   ⟨(some 2), none, .f (.mv (.t 27))⟩])
 .ret)))))
theorem ok23 : fnComp Try.prog 23 = some (28, c23, [(.mv (.t 2))]) := by kernel_rfl

/-- loop.example/g00003/spec.l01Begin -/
def c61 : CC :=
 (.seq (.reg [
   ⟨(some 2), none, .x (.zero 102 3 [.nilslice, (.int .i64 0), (.int .u64 0)])⟩])
 (.seq (.reg [
   ⟨(some 5), none, .f (.mv (.t 0))⟩,
   ⟨(some 6), none, .f (.build [.nilslice, (.int .i64 0), (.int .u64 0)] [(0, 1, (.t 5))])⟩,
   ⟨(some 3), none, .x (.zero 102 3 [.nilslice, (.int .i64 0), (.int .u64 0)])⟩,
   ⟨none, none, .x (.st 3 (.t 3) (.t 6))⟩])
 (.seq (.reg [
   ⟨(some 7), none, .f (.fadr 2 (.t 3))⟩,
   ⟨none, none, .x (.st 1 (.t 7) (.c (.int .u64 1469598103934665603)))⟩])
 (.seq (.seq (.reg [
   ⟨(some 4), none, .f (.mv (.c (.int .i64 0)))⟩])
 (.block 0 (.loop (.seq (.seq (.reg [
     ⟨(some 8), none, .f (.mv (.t 4))⟩,
     ⟨(some 9), none, .f (.mv (.t 0))⟩,
     ⟨(some 10), none, .f (.len (.t 9))⟩,
     ⟨(some 11), none, .f (.bin .lss (.t 8) (.t 10))⟩])
   (.cond (.t 11)
    .skip
    (.exit 0)))
   (.seq (.block 1 (.dreg [
      ⟨(some 14), none, .f (.fadr 2 (.t 3))⟩,
      ⟨(some 15), none, .f (.ld (.t 14))⟩,
      ⟨(some 16), none, .f (.mv (.t 0))⟩,
      ⟨(some 17), none, .f (.mv (.t 4))⟩,
      ⟨(some 18), none, .f (.iadr 1 (.t 16) (.t 17))⟩,
      ⟨(some 19), none, .f (.ld (.t 18))⟩,
      ⟨(some 20), none, .f (.cvI .u64 (.t 19))⟩,
      ⟨(some 21), none, .f (.bin .xor (.t 15) (.t 20))⟩,
      ⟨(some 22), none, .f (.bin .mul (.t 21) (.c (.int .u64 1099511628211)))⟩,
      ⟨(some 23), none, .f (.fadr 2 (.t 3))⟩,
      ⟨none, none, .x (.st 1 (.t 23) (.t 22))⟩]
      [false, false, false, false, false, false, false, false, false, false, true] [[], [0], [], [], [2, 3], [4, 2, 3], [5, 4, 2, 3], [1, 0, 6, 5, 4, 2, 3], [7, 1, 0, 6, 5, 4, 2, 3], [0, 1, 2, 3, 4, 5, 6, 7, 8], [9, 0, 1, 2, 3, 4, 5, 6, 7, 8]] [0, 1, 2, 3, 4, 5, 6, 7, 8, 9, 10]))
   (.reg [
     ⟨(some 12), none, .f (.mv (.t 4))⟩,
     ⟨(some 13), none, .f (.bin .add (.t 12) (.c (.int .i64 1)))⟩,
     ⟨(some 4), none, .f (.mv (.t 13))⟩]))))))
 (.seq (.reg [
   ⟨(some 24), none, .f (.ldA 3 (.t 3))⟩,
   ⟨none, none, .x (.st 3 (.t 2) (.t 24))⟩])
 .ret)))))
theorem ok61 : fnComp Try.prog 61 = some (25, c61, [(.ldA 3 (.t 2))]) := by kernel_rfl

/-- loop.example/g00003/spec.l01Next -/
def c62 : CC :=
 (.seq (.reg [
   ⟨(some 4), none, .f (.mv (.c (.int .i64 0)))⟩])
 (.seq (.seq (.reg [
   ⟨(some 6), none, .f (.mv (.t 1))⟩,
   ⟨(some 7), none, .f (.bin .leq (.t 6) (.c (.int .i64 0)))⟩])
 (.cond (.t 7)
  (.seq (.reg [
    ⟨(some 4), none, .f (.mv (.c (.int .i64 0)))⟩])
  .ret)
  .skip))
 (.seq (.reg [
   ⟨(some 8), none, .f (.mv (.t 0))⟩,
   ⟨(some 9), none, .f (.mv (.t 0))⟩,
   ⟨(some 10), none, .f (.nck (.t 9))⟩,
   ⟨(some 11), none, .f (.fadr 2 (.t 10))⟩,
   ⟨(some 12), none, .f (.ld (.t 11))⟩,
   ⟨(some 13), none, .f (.bin .mul (.t 12) (.c (.int .u64 6364136223846793005)))⟩,
   ⟨(some 14), none, .f (.bin .add (.t 13) (.c (.int .u64 1442695040888963407)))⟩,
   ⟨(some 15), none, .f (.nck (.t 8))⟩,
   ⟨(some 16), none, .f (.fadr 2 (.t 15))⟩,
   ⟨none, none, .x (.st 1 (.t 16) (.t 14))⟩])
 (.seq (.reg [
   ⟨(some 17), none, .f (.mv (.t 0))⟩,
   ⟨(some 18), none, .f (.nck (.t 17))⟩,
   ⟨(some 19), none, .f (.fadr 2 (.t 18))⟩,
   ⟨(some 20), none, .f (.ld (.t 19))⟩,
   ⟨(some 21), none, .f (.bin .shr (.t 20) (.c (.int .u64 33)))⟩,
   ⟨(some 5), none, .f (.mv (.t 21))⟩])
 (.seq (.seq (.dreg [
   ⟨(some 22), none, .f (.mv (.t 0))⟩,
   ⟨(some 23), none, .f (.nck (.t 22))⟩,
   ⟨(some 24), none, .f (.fadr 1 (.t 23))⟩,
   ⟨(some 25), none, .f (.ld (.t 24))⟩,
   ⟨(some 26), none, .f (.mv (.t 0))⟩,
   ⟨(some 27), none, .f (.nck (.t 26))⟩,
   ⟨(some 28), none, .f (.fadr 0 (.t 27))⟩,
   ⟨(some 29), none, .f (.ld (.t 28))⟩,
   ⟨(some 30), none, .f (.len (.t 29))⟩,
   ⟨(some 31), none, .f (.bin .lss (.t 25) (.t 30))⟩]
   [false, false, false, false, false, false, false, false, false, false] [[], [0], [1, 0], [2, 1, 0], [], [4], [5, 4], [6, 5, 4], [7, 6, 5, 4], [3, 2, 1, 0, 8, 7, 6, 5, 4]] [0, 1, 2, 3, 4, 5, 6, 7, 8, 9])
 (.cond (.t 31)
  (.seq (.dreg [
    ⟨(some 32), none, .f (.mv (.t 5))⟩,
    ⟨(some 33), none, .f (.mv (.t 0))⟩,
    ⟨(some 34), none, .f (.nck (.t 33))⟩,
    ⟨(some 35), none, .f (.fadr 0 (.t 34))⟩,
    ⟨(some 36), none, .f (.ld (.t 35))⟩,
    ⟨(some 37), none, .f (.mv (.t 0))⟩,
    ⟨(some 38), none, .f (.nck (.t 37))⟩,
    ⟨(some 39), none, .f (.fadr 1 (.t 38))⟩,
    ⟨(some 40), none, .f (.ld (.t 39))⟩,
    ⟨(some 41), none, .f (.iadr 1 (.t 36) (.t 40))⟩,
    ⟨(some 42), none, .f (.ld (.t 41))⟩,
    ⟨(some 43), none, .f (.cvI .u64 (.t 42))⟩,
    ⟨(some 44), none, .f (.bin .xor (.t 32) (.t 43))⟩,
    ⟨(some 5), none, .f (.mv (.t 44))⟩]
    [false, false, false, false, false, false, false, false, false, false, false, false, false, true] [[], [], [1], [2, 1], [3, 2, 1], [], [5], [6, 5], [7, 6, 5], [4, 3, 2, 1, 8, 7, 6, 5], [9, 4, 3, 2, 1, 8, 7, 6, 5], [10, 9, 4, 3, 2, 1, 8, 7, 6, 5], [0, 11, 10, 9, 4, 3, 2, 1, 8, 7, 6, 5], [12, 0, 11, 10, 9, 4, 3, 2, 1, 8, 7, 6, 5]] [0, 1, 2, 3, 4, 5, 6, 7, 8, 9, 10, 11, 12, 13])
  (.reg [
    ⟨(some 45), none, .f (.mv (.t 0))⟩,
    ⟨(some 46), none, .f (.mv (.t 0))⟩,
    ⟨(some 47), none, .f (.nck (.t 46))⟩,
    ⟨(some 48), none, .f (.fadr 1 (.t 47))⟩,
    ⟨(some 49), none, .f (.ld (.t 48))⟩,
    ⟨(some 50), none, .f (.bin .add (.t 49) (.c (.int .i64 1)))⟩,
    ⟨(some 51), none, .f (.nck (.t 45))⟩,
    ⟨(some 52), none, .f (.fadr 1 (.t 51))⟩,
    ⟨none, none, .x (.st 1 (.t 52) (.t 50))⟩]))
  .skip))
 (.seq (.reg [
   ⟨(some 53), none, .f (.mv (.t 5))⟩,
   ⟨(some 54), none, .f (.mv (.t 1))⟩,
   ⟨(some 55), none, .f (.cvI .u64 (.t 54))⟩,
   ⟨(some 56), none, .f (.bin .rem (.t 53) (.t 55))⟩,
   ⟨(some 57), none, .f (.cvI .i64 (.t 56))⟩,
   ⟨(some 4), none, .f (.mv (.t 57))⟩])
 .ret))))))
theorem ok62 : fnComp Try.prog 62 = some (58, c62, [(.mv (.t 4))]) := by kernel_rfl

/-- loop.example/g00003/spec.l01Bool -/
def c63 : CC :=
 (.seq (.reg [
   ⟨(some 2), none, .f (.mv (.c (.bool false)))⟩])
 (.seq (.reg [
   ⟨(some 3), none, .f (.mv (.t 0))⟩,
   ⟨(some 4), none, .x (.call 62 [(.t 3), (.c (.int .i64 2))])⟩,
   ⟨(some 5), none, .f (.bin .eql (.t 4) (.c (.int .i64 0)))⟩,
   ⟨(some 2), none, .f (.mv (.t 5))⟩])
 .ret))
theorem ok63 : fnComp Try.prog 63 = some (6, c63, [(.mv (.t 2))]) := by kernel_rfl

/-- loop.example/g00003/spec.l20Body -/
def c64 : CC :=
 (.seq (.reg [
   ⟨(some 2), none, .f (.mv (.c .nilslice))⟩])
 (.seq (.seq (.reg [
   ⟨(some 3), none, .f (.mv (.t 0))⟩,
   ⟨(some 4), none, .x (.call 62 [(.t 3), (.c (.int .i64 5))])⟩])
 (.block 0 (.seq (.reg [
    ⟨(some 6), none, .f (.bin .eql (.t 4) (.c (.int .i64 0)))⟩,
    ⟨(some 5), none, .f (.mv (.t 6))⟩])
  (.cond (.t 5)
   (.seq (.reg [
     ⟨(some 2), none, .f (.mv (.c .nilslice))⟩])
   .ret)
   (.seq (.reg [
     ⟨(some 8), none, .f (.bin .eql (.t 4) (.c (.int .i64 1)))⟩,
     ⟨(some 7), none, .f (.mv (.t 8))⟩])
   (.cond (.t 7)
    (.seq (.reg [
      ⟨(some 9), none, .x (.bslice 5 1 [(.int .u8 0)] 13 [(0, (.c (.int .u8 111))), (1, (.c (.int .u8 110))), (2, (.c (.int .u8 101))), (3, (.c (.int .u8 10))), (4, (.c (.int .u8 10))), (5, (.c (.int .u8 103))), (6, (.c (.int .u8 101))), (7, (.c (.int .u8 116))), (8, (.c (.int .u8 32))), (9, (.c (.int .u8 47))), (10, (.c (.int .u8 97))), (11, (.c (.int .u8 10))), (12, (.c (.int .u8 10)))])⟩,
      ⟨(some 10), none, .x (.ux .smark [(.t 9)])⟩,
      ⟨(some 2), none, .f (.mv (.t 10))⟩])
    .ret)
    (.seq (.reg [
      ⟨(some 12), none, .f (.bin .eql (.t 4) (.c (.int .i64 2)))⟩,
      ⟨(some 11), none, .f (.mv (.t 12))⟩])
    (.cond (.t 11)
     (.seq (.reg [
       ⟨(some 13), none, .x (.bslice 5 1 [(.int .u8 0)] 3 [(0, (.c (.int .u8 116))), (1, (.c (.int .u8 119))), (2, (.c (.int .u8 111)))])⟩,
       ⟨(some 14), none, .x (.ux .smark [(.t 13)])⟩,
       ⟨(some 2), none, .f (.mv (.t 14))⟩])
     .ret)
     (.seq (.reg [
       ⟨(some 16), none, .f (.bin .eql (.t 4) (.c (.int .i64 3)))⟩,
       ⟨(some 15), none, .f (.mv (.t 16))⟩])
     (.cond (.t 15)
      (.seq (.reg [
        ⟨(some 17), none, .x (.bslice 5 1 [(.int .u8 0)] 4 [(0, (.c (.int .u8 0))), (1, (.c (.int .u8 255))), (2, (.c (.int .u8 10))), (3, (.c (.int .u8 10)))])⟩,
        ⟨(some 2), none, .f (.mv (.t 17))⟩])
      .ret)
      .skip))))))))))
 (.seq (.reg [
   ⟨(some 18), none, .f (.mv (.t 0))⟩,
   ⟨(some 19), none, .f (.mv (.t 0))⟩,
   ⟨(some 20), none, .x (.call 62 [(.t 19), (.c (.int .i64 40))])⟩,
   ⟨(some 21), none, .f (.bin .add (.c (.int .i64 1)) (.t 20))⟩,
   ⟨(some 22), none, .x (.call 95 [(.t 18), (.t 21)])⟩,
   ⟨(some 2), none, .f (.mv (.t 22))⟩])
 .ret)))
theorem ok64 : fnComp Try.prog 64 = some (23, c64, [(.mv (.t 2))]) := by kernel_rfl

/-- loop.example/g00003/spec.l02Bend -/
def c65 : CC :=
 (.seq (.reg [
   ⟨(some 6), none, .f (.mv (.c (.str [])))⟩])
 (.seq (.seq (.reg [
   ⟨(some 10), none, .f (.mv (.t 0))⟩,
   ⟨(some 11), none, .f (.mv (.t 2))⟩,
   ⟨(some 12), none, .x (.call 62 [(.t 10), (.t 11)])⟩,
   ⟨(some 13), none, .f (.bin .gtr (.t 12) (.c (.int .i64 0)))⟩])
 (.cond (.t 13)
  (.seq (.reg [
    ⟨(some 14), none, .f (.mv (.t 1))⟩,
    ⟨(some 6), none, .f (.mv (.t 14))⟩])
  .ret)
  .skip))
 (.seq (.reg [
   ⟨(some 7), none, .f (.mv (.c (.str [46, 58, 47, 48, 49, 50, 57, 97, 71, 32, 45, 10])))⟩])
 (.seq (.reg [
   ⟨(some 15), none, .f (.mv (.t 0))⟩,
   ⟨(some 16), none, .f (.mv (.t 1))⟩,
   ⟨(some 17), none, .f (.lenS (.t 16))⟩,
   ⟨(some 18), none, .f (.bin .add (.t 17) (.c (.int .i64 1)))⟩,
   ⟨(some 19), none, .x (.call 62 [(.t 15), (.t 18)])⟩,
   ⟨(some 8), none, .f (.mv (.t 19))⟩])
 (.seq (.reg [
   ⟨(some 20), none, .f (.mv (.t 0))⟩,
   ⟨(some 21), none, .f (.mv (.t 7))⟩,
   ⟨(some 22), none, .f (.lenS (.t 21))⟩,
   ⟨(some 23), none, .x (.call 62 [(.t 20), (.t 22)])⟩,
   ⟨(some 9), none, .f (.mv (.t 23))⟩])
 (.seq (.seq (.reg [
   ⟨(some 24), none, .f (.mv (.t 0))⟩,
   ⟨(some 25), none, .x (.call 62 [(.t 24), (.c (.int .i64 3))])⟩])
 (.block 0 (.seq (.reg [
    ⟨(some 27), none, .f (.bin .eql (.t 25) (.c (.int .i64 0)))⟩,
    ⟨(some 26), none, .f (.mv (.t 27))⟩])
  (.cond (.t 26)
   (.seq (.reg [
     ⟨(some 28), none, .f (.mv (.t 1))⟩,
     ⟨(some 29), none, .f (.mv (.t 8))⟩,
     ⟨(some 30), none, .f (.slcS (.t 28) none (some (.t 29)))⟩,
     ⟨(some 6), none, .f (.mv (.t 30))⟩])
   .ret)
   (.seq (.reg [
     ⟨(some 32), none, .f (.bin .eql (.t 25) (.c (.int .i64 1)))⟩,
     ⟨(some 31), none, .f (.mv (.t 32))⟩])
   (.cond (.t 31)
    (.seq (.dreg [
      ⟨(some 33), none, .f (.mv (.t 1))⟩,
      ⟨(some 34), none, .f (.mv (.t 8))⟩,
      ⟨(some 35), none, .f (.slcS (.t 33) none (some (.t 34)))⟩,
      ⟨(some 36), none, .f (.mv (.t 7))⟩,
      ⟨(some 37), none, .f (.mv (.t 9))⟩,
      ⟨(some 38), none, .f (.mv (.t 9))⟩,
      ⟨(some 39), none, .f (.bin .add (.t 38) (.c (.int .i64 1)))⟩,
      ⟨(some 40), none, .f (.slcS (.t 36) (some (.t 37)) (some (.t 39)))⟩,
      ⟨(some 41), none, .f (.bin .add (.t 35) (.t 40))⟩,
      ⟨(some 42), none, .f (.mv (.t 1))⟩,
      ⟨(some 43), none, .f (.mv (.t 8))⟩,
      ⟨(some 44), none, .f (.slcS (.t 42) (some (.t 43)) none)⟩,
      ⟨(some 45), none, .f (.bin .add (.t 41) (.t 44))⟩,
      ⟨(some 6), none, .f (.mv (.t 45))⟩]
      [false, false, false, false, false, false, false, false, false, false, false, false, false, false] [[], [], [0, 1], [], [], [], [5], [3, 4, 6, 5], [2, 0, 1, 7, 3, 4, 6, 5], [], [], [9, 10], [8, 2, 0, 1, 7, 3, 4, 6, 5, 11, 9, 10], [12, 8, 2, 0, 1, 7, 3, 4, 6, 5, 11, 9, 10]] [0, 1, 2, 3, 4, 5, 6, 7, 8, 9, 10, 11, 12, 13])
    .ret)
    .skip))))))
 (.seq (.seq (.reg [
   ⟨(some 46), none, .f (.mv (.t 8))⟩,
   ⟨(some 47), none, .f (.mv (.t 1))⟩,
   ⟨(some 48), none, .f (.lenS (.t 47))⟩,
   ⟨(some 49), none, .f (.bin .lss (.t 46) (.t 48))⟩])
 (.cond (.t 49)
  (.seq (.dreg [
    ⟨(some 50), none, .f (.mv (.t 1))⟩,
    ⟨(some 51), none, .f (.mv (.t 8))⟩,
    ⟨(some 52), none, .f (.slcS (.t 50) none (some (.t 51)))⟩,
    ⟨(some 53), none, .f (.mv (.t 7))⟩,
    ⟨(some 54), none, .f (.mv (.t 9))⟩,
    ⟨(some 55), none, .f (.mv (.t 9))⟩,
    ⟨(some 56), none, .f (.bin .add (.t 55) (.c (.int .i64 1)))⟩,
    ⟨(some 57), none, .f (.slcS (.t 53) (some (.t 54)) (some (.t 56)))⟩,
    ⟨(some 58), none, .f (.bin .add (.t 52) (.t 57))⟩,
    ⟨(some 59), none, .f (.mv (.t 1))⟩,
    ⟨(some 60), none, .f (.mv (.t 8))⟩,
    ⟨(some 61), none, .f (.bin .add (.t 60) (.c (.int .i64 1)))⟩,
    ⟨(some 62), none, .f (.slcS (.t 59) (some (.t 61)) none)⟩,
    ⟨(some 63), none, .f (.bin .add (.t 58) (.t 62))⟩,
    ⟨(some 6), none, .f (.mv (.t 63))⟩]
    [false, false, false, false, false, false, false, false, false, false, false, false, false, false, false] [[], [], [0, 1], [], [], [], [5], [3, 4, 6, 5], [2, 0, 1, 7, 3, 4, 6, 5], [], [], [10], [9, 11, 10], [8, 2, 0, 1, 7, 3, 4, 6, 5, 12, 9, 11, 10], [13, 8, 2, 0, 1, 7, 3, 4, 6, 5, 12, 9, 11, 10]] [0, 1, 2, 3, 4, 5, 6, 7, 8, 9, 10, 11, 12, 13, 14])
  .ret)
  .skip))
 (.seq (.reg [
   ⟨(some 64), none, .f (.mv (.t 1))⟩,
   ⟨(some 6), none, .f (.mv (.t 64))⟩])
 .ret))))))))
theorem ok65 : fnComp Try.prog 65 = some (65, c65, [(.mv (.t 6))]) := by kernel_rfl

/-- loop.example/g00003/spec.l01Bytes -/
def c95 : CC :=
 (.seq (.reg [
   ⟨(some 4), none, .f (.mv (.c .nilslice))⟩])
 (.seq (.reg [
   ⟨(some 7), none, .x (.bslice 5 1 [(.int .u8 0)] 0 [])⟩,
   ⟨(some 5), none, .f (.mv (.t 7))⟩])
 (.seq (.seq (.reg [
   ⟨(some 6), none, .f (.mv (.c (.int .i64 0)))⟩])
 (.block 0 (.loop (.seq (.seq (.reg [
     ⟨(some 8), none, .f (.mv (.t 6))⟩,
     ⟨(some 9), none, .f (.mv (.t 1))⟩,
     ⟨(some 10), none, .f (.bin .lss (.t 8) (.t 9))⟩])
   (.cond (.t 10)
    .skip
    (.exit 0)))
   (.seq (.block 1 (.reg [
      ⟨(some 13), none, .f (.mv (.t 5))⟩,
      ⟨(some 14), none, .f (.mv (.t 0))⟩,
      ⟨(some 15), none, .x (.call 62 [(.t 14), (.c (.int .i64 256))])⟩,
      ⟨(some 16), none, .f (.cvI .u8 (.t 15))⟩,
      ⟨(some 17), none, .x (.bslice 5 1 [(.int .u8 0)] 1 [(0, (.t 16))])⟩,
      ⟨(some 18), none, .x (.app 5 1 1 (.t 13) (.t 17))⟩,
      ⟨(some 5), none, .f (.mv (.t 18))⟩]))
   (.reg [
     ⟨(some 11), none, .f (.mv (.t 6))⟩,
     ⟨(some 12), none, .f (.bin .add (.t 11) (.c (.int .i64 1)))⟩,
     ⟨(some 6), none, .f (.mv (.t 12))⟩]))))))
 (.seq (.reg [
   ⟨(some 19), none, .f (.mv (.t 5))⟩,
   ⟨(some 4), none, .f (.mv (.t 19))⟩])
 .ret))))
theorem ok95 : fnComp Try.prog 95 = some (20, c95, [(.mv (.t 4))]) := by kernel_rfl

end Go.Proofs.Ytecljenjlncfhaa

namespace Go.Proofs.Ytecljenjlncfhaa
open Go Go.IW

/-- A source of drawn numbers over a code. -/
structure Src (h : IH) (p : Nat) (v : IV) (code : List UInt8) : Prop where
  at_ : ∃ pos st : Int, At h p (.rows [[v, .int .i64 pos, .int .u64 st]] 102 3 false) ∧ 0 ≤ pos ∧ pos ≤ code.length
  sl : SlR h 1 v (strRows code)
  ne : ∀ l i n, v = .slice l i n → l ≠ p
theorem Src.ext {h g : IH} {p : Nat} {v : IV} {code : List UInt8} (s : Src h p v code) (e : Ext h g) : Src g p v code := by
  obtain ⟨pos, st, a, b, c⟩ := s.at_
  exact ⟨⟨pos, st, a.ext e, b, c⟩, s.sl.ext e, s.ne⟩
theorem wrU (x : Int) : wr .u64 x = x % 18446744073709551616 := by unfold wr; rw [IntKind.wrap_u64]
theorem wrU_nn (x : Int) : 0 ≤ wr .u64 x := by rw [wrU]; omega
set_option maxRecDepth 20000 in
theorem l01Next_c (h : IH) (p : Nat) (v : IV) (code : List UInt8) (n : Int) (S : Src h p v code) (h0 : 0 < n) (h1 : n ≤ 1099511627776) (hl : code.length ≤ 1048576) :
    ICalls Try.prog 62 [.ptr p 0 0, .int .i64 n] h fun r h' => ∃ x : Int, r = .int .i64 x ∧ 0 ≤ x ∧ x < n ∧ Src h' p v code ∧ Sav p h h' ∧ h'.n = h.n := by
  refine icalls (.of ok62) (Nat.le_of_ble_eq_true rfl) ?_
  unfold c62
  obtain ⟨pos, st, ha, hp0, hp1⟩ := S.at_
  have hs := S.sl
  have hv1 := hs.one
  have hlen := hs.lenF
  rw [strRows_len] at hlen
  have q0 := ha.eq
  have d0 : decide (n ≤ 0) = false := decide_eq_false (by omega)
  generalize hst : wr .u64 (wr .u64 (st * 6364136223846793005) + 1442695040888963407) = s2
  have hs2 : 0 ≤ s2 := by rw [← hst]; exact wrU_nn _
  have hshr : ibin .shr (.int .u64 s2) (.int .u64 33) = some (.int .u64 (s2 / 8589934592)) := by
    have := ib_shr (k := .u64) (a := s2) (b := 33) .u64 (by decide)
    have hm : min (33 : Int).toNat IntKind.u64.bits = 33 := rfl
    rw [hm, Int.fdiv_eq_ediv_of_nonneg _ (by decide)] at this
    exact this
  have hwn : wr .u64 n = n := by rw [wrU]; omega
  have hrem : ∀ x : Int, 0 ≤ x → ibin .rem (.int .u64 x) (.int .u64 n) = some (.int .u64 (x % n)) := by
    intro x hx
    simp only [ibin, if_true, if_neg (show ¬ n = 0 by omega), Int.tmod_eq_emod_of_nonneg hx]
  have hr0 : ∀ x : Int, 0 ≤ x % n ∧ x % n < n := fun x => ⟨Int.emod_nonneg _ (by omega), Int.emod_lt_of_pos _ h0⟩
  have hri : ∀ x : Int, wr .i64 (x % n) = x % n := fun x => wr64 _ (by have := hr0 x; omega)
  have fin : ∀ (pos' : Int), 0 ≤ pos' → pos' ≤ code.length → Src (h.set p (.rows [[v, .int .i64 pos', .int .u64 s2]] 102 3 false)) p v code ∧ Sav p h (h.set p (.rows [[v, .int .i64 pos', .int .u64 s2]] 102 3 false)) := by
    intro pos' a b
    have sv : Sav p h (h.set p (.rows [[v, .int .i64 pos', .int .u64 s2]] 102 3 false)) := (Sav.refl p h).set (.inr rfl) _
    exact ⟨⟨⟨pos', s2, ha.here, a, b⟩, sv.sl hs S.ne, S.ne⟩, sv⟩
  by_cases hlt : pos < code.length
  · have d1 : decide (pos < (code.length : Int)) = true := decide_eq_true hlt
    obtain ⟨k, rfl⟩ : ∃ k : Nat, pos = k := ⟨pos.toNat, by omega⟩
    have hkl : k < code.length := by omega
    have hkp : code[k]? = some code[k] := List.getElem?_eq_getElem hkl
    generalize code[k] = c at hkp
    obtain ⟨l, j, hia, hll, hrow⟩ := hs.at (m := k) (strRows_at hkp) .i64
    obtain ⟨vi, vn, hve⟩ := iadr_sl hia
    have hlp : l ≠ p := S.ne _ _ _ hve
    have hia2 : ∀ o, iadrF (h.set p o) 1 v (.int .i64 (k : Nat)) = some (.ptr l j 0) := fun o => iadr_same hia (set_there _ _ _ _ hlp)
    have hcc := cellO_row hrow
    have w1 : wr .i64 ((k : Int) + 1) = ((k + 1 : Nat) : Int) := by rw [wr64 _ (by omega)]; rfl
    have hx : 0 ≤ IW.bits .xor .u64 (s2 / 8589934592) (wr .u64 (c.toNat : Int)) := by unfold IW.bits; exact wrU_nn _
    simp (disch := (first | omega | assumption | (simp only [push_n, set_n, put_n, List.length_cons, List.length_nil, List.length_append, Nat.reduceAdd]; done) | (simp only [push_n, set_n, put_n, List.length_cons, List.length_nil, List.length_append]; omega) | (simp only [List.all_cons, List.all_nil, one_bool, one_int, one_str, one_ptr, one_nilptr, one_slice, one_eslice, one_nilslice, one_func, one_iface, one_niliface, Bool.and_true, Bool.true_and, List.getD_cons_zero, List.getD_cons_succ, List.contains_cons, List.contains_nil, Bool.or_true, Bool.true_or, Bool.or_false, Bool.false_or, Nat.reduceBEq, *]; done) | fail)) only [d0, q0, hst, hshr, hlen, d1, hia2, hcc, hwn, hrem _ hx, hri, w1, go_sem, Hold.p, HoldK.k, HoldL.K, HoldL.body, Nat.reduceBEq, Nat.reduceAdd, List.getElem?_cons_zero, List.getElem?_cons_succ, Option.bind_some, List.map_cons, List.map_nil, Nat.zero_add, if_true, List.getD_cons_zero, List.getD_cons_succ, List.contains_cons, List.contains_nil, Nat.reduceBEq, Bool.or_true, Bool.true_or, Bool.or_false, Bool.false_or, Bool.not_true, Bool.not_false, true_and, and_true, rowA_whole, mid_get, stO_mid, rowO_rows, cellO_rows, push_n, set_n, push_at, push_old, set_here, set_there, set_pushT, set_pushN, set_set, upd_ne, Nat.add_assoc, Nat.reduceAdd, Nat.add_zero, stO_1s, stO_ws, boxA_s, List.all_cons, List.all_nil, one_bool, one_int, one_str, one_ptr, one_nilptr, one_slice, one_eslice, one_nilslice, one_func, one_iface, one_niliface, Bool.and_true, Bool.and_self, List.length_cons, List.length_nil, Nat.one_ne_zero, Nat.succ_ne_zero, reduceIte, if_false, List.getElem?_cons_zero, List.set_cons_zero, List.set_cons_succ, lay_nil, lay_1, lay_w, Option.map_some]
    exact ⟨_, rfl, (hr0 _).1, (hr0 _).2, (fin _ (by omega) (by omega)).1, (fin _ (by omega) (by omega)).2⟩
  · have d1 : decide (pos < (code.length : Int)) = false := decide_eq_false hlt
    have hx : 0 ≤ s2 / 8589934592 := by omega
    simp (disch := (first | omega | assumption | (simp only [push_n, set_n, put_n, List.length_cons, List.length_nil, List.length_append, Nat.reduceAdd]; done) | (simp only [push_n, set_n, put_n, List.length_cons, List.length_nil, List.length_append]; omega) | (simp only [List.all_cons, List.all_nil, one_bool, one_int, one_str, one_ptr, one_nilptr, one_slice, one_eslice, one_nilslice, one_func, one_iface, one_niliface, Bool.and_true, Bool.true_and, List.getD_cons_zero, List.getD_cons_succ, List.contains_cons, List.contains_nil, Bool.or_true, Bool.true_or, Bool.or_false, Bool.false_or, Nat.reduceBEq, *]; done) | fail)) only [d0, q0, hst, hshr, hlen, d1, hwn, hrem _ hx, hri, go_sem, Hold.p, HoldK.k, HoldL.K, HoldL.body, Nat.reduceBEq, Nat.reduceAdd, List.getElem?_cons_zero, List.getElem?_cons_succ, Option.bind_some, List.map_cons, List.map_nil, Nat.zero_add, if_true, List.getD_cons_zero, List.getD_cons_succ, List.contains_cons, List.contains_nil, Nat.reduceBEq, Bool.or_true, Bool.true_or, Bool.or_false, Bool.false_or, Bool.not_true, Bool.not_false, true_and, and_true, rowA_whole, mid_get, stO_mid, rowO_rows, cellO_rows, push_n, set_n, push_at, push_old, set_here, set_there, set_pushT, set_pushN, set_set, upd_ne, Nat.add_assoc, Nat.reduceAdd, Nat.add_zero, stO_1s, stO_ws, boxA_s, List.all_cons, List.all_nil, one_bool, one_int, one_str, one_ptr, one_nilptr, one_slice, one_eslice, one_nilslice, one_func, one_iface, one_niliface, Bool.and_true, Bool.and_self, List.length_cons, List.length_nil, Nat.one_ne_zero, Nat.succ_ne_zero, reduceIte, if_false, List.getElem?_cons_zero, List.set_cons_zero, List.set_cons_succ, lay_nil, lay_1, lay_w, Option.map_some]
    exact ⟨_, rfl, (hr0 _).1, (hr0 _).2, (fin _ (by omega) (by omega)).1, (fin _ (by omega) (by omega)).2⟩
end Go.Proofs.Ytecljenjlncfhaa

namespace Go.Proofs.Ytecljenjlncfhaa
open Go Go.IW

set_option maxRecDepth 20000 in
theorem l01Begin_c (h : IH) (v : IV) (code : List UInt8) (hs : SlR h 1 v (strRows code)) (hl : code.length ≤ 1048576) :
    ICalls Try.prog 61 [v] h fun r h' => ∃ st : Int, r = .agg [v, .int .i64 0, .int .u64 st] ∧ Ext h h' := by
  refine icalls (.of ok61) (Nat.le_of_ble_eq_true rfl) ?_
  unfold c61
  have hv1 := hs.one
  have hlen := hs.lenF
  rw [strRows_len] at hlen
  simp (disch := (first | omega | assumption | (simp only [push_n, set_n, put_n, List.length_cons, List.length_nil, List.length_append, Nat.reduceAdd]; done) | (simp only [push_n, set_n, put_n, List.length_cons, List.length_nil, List.length_append]; omega) | (simp only [List.all_cons, List.all_nil, one_bool, one_int, one_str, one_ptr, one_nilptr, one_slice, one_eslice, one_nilslice, one_func, one_iface, one_niliface, Bool.and_true, Bool.true_and, List.getD_cons_zero, List.getD_cons_succ, List.contains_cons, List.contains_nil, Bool.or_true, Bool.true_or, Bool.or_false, Bool.false_or, Nat.reduceBEq, *]; done) | fail)) only [go_sem, Hold.p, HoldK.k, HoldL.K, HoldL.body, Nat.reduceBEq, Nat.reduceAdd, List.getElem?_cons_zero, List.getElem?_cons_succ, Option.bind_some, List.map_cons, List.map_nil, Nat.zero_add, if_true, List.getD_cons_zero, List.getD_cons_succ, List.contains_cons, List.contains_nil, Nat.reduceBEq, Bool.or_true, Bool.true_or, Bool.or_false, Bool.false_or, Bool.not_true, Bool.not_false, true_and, and_true, rowA_whole, mid_get, stO_mid, rowO_rows, cellO_rows, push_n, set_n, push_at, push_old, set_here, set_there, set_pushT, set_pushN, set_set, upd_ne, Nat.add_assoc, Nat.reduceAdd, Nat.add_zero, stO_1s, stO_ws, boxA_s, List.all_cons, List.all_nil, one_bool, one_int, one_str, one_ptr, one_nilptr, one_slice, one_eslice, one_nilslice, one_func, one_iface, one_niliface, Bool.and_true, Bool.and_self, List.length_cons, List.length_nil, Nat.one_ne_zero, Nat.succ_ne_zero, reduceIte, if_false, List.getElem?_cons_zero, List.set_cons_zero, List.set_cons_succ, lay_nil, lay_1, lay_w, Option.map_some]
  refine loop_at (fun n e g => ∃ (k : Nat) (st : Int), n = code.length - k ∧ k ≤ code.length ∧ e 0 = v ∧ e 2 = .ptr h.n 0 0 ∧ e 3 = .ptr (h.n + 1) 0 0 ∧ e 4 = .int .i64 (k : Nat) ∧ Ext h g ∧ h.n + 2 ≤ g.n ∧ At g h.n (.rows [[.nilslice, .int .i64 0, .int .u64 0]] 102 3 false) ∧
    At g (h.n + 1) (.rows [[v, .int .i64 0, .int .u64 st]] 102 3 false)) code.length ?_ ?_
  · refine ⟨0, 1469598103934665603, by omega, by omega, ?_⟩
    simp (disch := (first | omega | assumption | (simp only [push_n, set_n, put_n, List.length_cons, List.length_nil, List.length_append, Nat.reduceAdd]; done) | (simp only [push_n, set_n, put_n, List.length_cons, List.length_nil, List.length_append]; omega) | (simp only [List.all_cons, List.all_nil, one_bool, one_int, one_str, one_ptr, one_nilptr, one_slice, one_eslice, one_nilslice, one_func, one_iface, one_niliface, Bool.and_true, Bool.true_and, List.getD_cons_zero, List.getD_cons_succ, List.contains_cons, List.contains_nil, Bool.or_true, Bool.true_or, Bool.or_false, Bool.false_or, Nat.reduceBEq, *]; done) | fail)) only [go_sem, Hold.p, HoldK.k, HoldL.K, HoldL.body, Nat.reduceBEq, Nat.reduceAdd, List.getElem?_cons_zero, List.getElem?_cons_succ, Option.bind_some, List.map_cons, List.map_nil, Nat.zero_add, if_true, List.getD_cons_zero, List.getD_cons_succ, List.contains_cons, List.contains_nil, Nat.reduceBEq, Bool.or_true, Bool.true_or, Bool.or_false, Bool.false_or, Bool.not_true, Bool.not_false, true_and, and_true, rowA_whole, mid_get, stO_mid, rowO_rows, cellO_rows, push_n, set_n, push_at, push_old, set_here, set_there, set_pushT, set_pushN, set_set, upd_ne, Nat.add_assoc, Nat.reduceAdd, Nat.add_zero, stO_1s, stO_ws, boxA_s, List.all_cons, List.all_nil, one_bool, one_int, one_str, one_ptr, one_nilptr, one_slice, one_eslice, one_nilslice, one_func, one_iface, one_niliface, Bool.and_true, Bool.and_self, List.length_cons, List.length_nil, Nat.one_ne_zero, Nat.succ_ne_zero, reduceIte, if_false, List.getElem?_cons_zero, List.set_cons_zero, List.set_cons_succ, lay_nil, lay_1, lay_w, Option.map_some]
    exact ⟨rfl, ⟨by (first | omega | (simp only [push_n, set_n]; omega)), fun l hl => by simp (disch := (first | omega | assumption | (simp only [push_n, set_n, put_n, List.length_cons, List.length_nil, List.length_append, Nat.reduceAdd]; done) | (simp only [push_n, set_n, put_n, List.length_cons, List.length_nil, List.length_append]; omega) | (simp only [List.all_cons, List.all_nil, one_bool, one_int, one_str, one_ptr, one_nilptr, one_slice, one_eslice, one_nilslice, one_func, one_iface, one_niliface, Bool.and_true, Bool.true_and, List.getD_cons_zero, List.getD_cons_succ, List.contains_cons, List.contains_nil, Bool.or_true, Bool.true_or, Bool.or_false, Bool.false_or, Nat.reduceBEq, *]; done) | fail)) only [push_n, set_n, push_at, push_old, set_here, set_there, Nat.add_assoc, Nat.reduceAdd]⟩, Nat.le_refl _, ⟨by (first | omega | (simp only [push_n, set_n]; omega)), by (first | rfl | simp (disch := (first | omega | assumption | (simp only [push_n, set_n, put_n, List.length_cons, List.length_nil, List.length_append, Nat.reduceAdd]; done) | (simp only [push_n, set_n, put_n, List.length_cons, List.length_nil, List.length_append]; omega) | (simp only [List.all_cons, List.all_nil, one_bool, one_int, one_str, one_ptr, one_nilptr, one_slice, one_eslice, one_nilslice, one_func, one_iface, one_niliface, Bool.and_true, Bool.true_and, List.getD_cons_zero, List.getD_cons_succ, List.contains_cons, List.contains_nil, Bool.or_true, Bool.true_or, Bool.or_false, Bool.false_or, Nat.reduceBEq, *]; done) | fail)) only [push_n, set_n, push_at, push_old, set_here, set_there, Nat.add_assoc, Nat.reduceAdd])⟩, ⟨by (first | omega | (simp only [push_n, set_n]; omega)), by (first | rfl | simp (disch := (first | omega | assumption | (simp only [push_n, set_n, put_n, List.length_cons, List.length_nil, List.length_append, Nat.reduceAdd]; done) | (simp only [push_n, set_n, put_n, List.length_cons, List.length_nil, List.length_append]; omega) | (simp only [List.all_cons, List.all_nil, one_bool, one_int, one_str, one_ptr, one_nilptr, one_slice, one_eslice, one_nilslice, one_func, one_iface, one_niliface, Bool.and_true, Bool.true_and, List.getD_cons_zero, List.getD_cons_succ, List.contains_cons, List.contains_nil, Bool.or_true, Bool.true_or, Bool.or_false, Bool.false_or, Nat.reduceBEq, *]; done) | fail)) only [push_n, set_n, push_at, push_old, set_here, set_there, Nat.add_assoc, Nat.reduceAdd])⟩⟩
  · rintro n e g ⟨k, st, rfl, hk, i0, i2, i3, i4, E, hgn, a0, a1⟩
    have q0 := a0.eq
    have q1 := a1.eq
    simp (disch := (first | omega | assumption | (simp only [push_n, set_n, put_n, List.length_cons, List.length_nil, List.length_append, Nat.reduceAdd]; done) | (simp only [push_n, set_n, put_n, List.length_cons, List.length_nil, List.length_append]; omega) | (simp only [List.all_cons, List.all_nil, one_bool, one_int, one_str, one_ptr, one_nilptr, one_slice, one_eslice, one_nilslice, one_func, one_iface, one_niliface, Bool.and_true, Bool.true_and, List.getD_cons_zero, List.getD_cons_succ, List.contains_cons, List.contains_nil, Bool.or_true, Bool.true_or, Bool.or_false, Bool.false_or, Nat.reduceBEq, *]; done) | fail)) only [i0, i2, i3, i4, hlen, go_sem, Hold.p, HoldK.k, HoldL.K, HoldL.body, Nat.reduceBEq, Nat.reduceAdd, List.getElem?_cons_zero, List.getElem?_cons_succ, Option.bind_some, List.map_cons, List.map_nil, Nat.zero_add, if_true, List.getD_cons_zero, List.getD_cons_succ, List.contains_cons, List.contains_nil, Nat.reduceBEq, Bool.or_true, Bool.true_or, Bool.or_false, Bool.false_or, Bool.not_true, Bool.not_false, true_and, and_true, rowA_whole, mid_get, stO_mid, rowO_rows, cellO_rows, push_n, set_n, push_at, push_old, set_here, set_there, set_pushT, set_pushN, set_set, upd_ne, Nat.add_assoc, Nat.reduceAdd, Nat.add_zero, stO_1s, stO_ws, boxA_s, List.all_cons, List.all_nil, one_bool, one_int, one_str, one_ptr, one_nilptr, one_slice, one_eslice, one_nilslice, one_func, one_iface, one_niliface, Bool.and_true, Bool.and_self, List.length_cons, List.length_nil, Nat.one_ne_zero, Nat.succ_ne_zero, reduceIte, if_false, List.getElem?_cons_zero, List.set_cons_zero, List.set_cons_succ, lay_nil, lay_1, lay_w, Option.map_some]
    refine test_dec (fun hb => ?_) (fun hb => ?_)
    · have hlt : k < code.length := by omega
      have hkp : code[k]? = some code[k] := List.getElem?_eq_getElem hlt
      generalize code[k] = c at hkp
      obtain ⟨l, j, hia, hll, hrow⟩ := (hs.ext E).at (m := k) (strRows_at hkp) .i64
      have hcc := cellO_row hrow
      have w1 : wr .i64 ((k : Int) + 1) = ((k + 1 : Nat) : Int) := by rw [wr64 _ (by omega)]; rfl
      have hxor : ibin .xor (.int .u64 st) (.int .u64 (wr .u64 (c.toNat : Int))) = some (.int .u64 (IW.bits .xor .u64 st (wr .u64 (c.toNat : Int)))) := rfl
      simp (disch := (first | omega | assumption | (simp only [push_n, set_n, put_n, List.length_cons, List.length_nil, List.length_append, Nat.reduceAdd]; done) | (simp only [push_n, set_n, put_n, List.length_cons, List.length_nil, List.length_append]; omega) | (simp only [List.all_cons, List.all_nil, one_bool, one_int, one_str, one_ptr, one_nilptr, one_slice, one_eslice, one_nilslice, one_func, one_iface, one_niliface, Bool.and_true, Bool.true_and, List.getD_cons_zero, List.getD_cons_succ, List.contains_cons, List.contains_nil, Bool.or_true, Bool.true_or, Bool.or_false, Bool.false_or, Nat.reduceBEq, *]; done) | fail)) only [i0, i2, i3, i4, q0, q1, hia, hcc, w1, hxor, go_sem, Hold.p, HoldK.k, HoldL.K, HoldL.body, Nat.reduceBEq, Nat.reduceAdd, List.getElem?_cons_zero, List.getElem?_cons_succ, Option.bind_some, List.map_cons, List.map_nil, Nat.zero_add, if_true, List.getD_cons_zero, List.getD_cons_succ, List.contains_cons, List.contains_nil, Nat.reduceBEq, Bool.or_true, Bool.true_or, Bool.or_false, Bool.false_or, Bool.not_true, Bool.not_false, true_and, and_true, rowA_whole, mid_get, stO_mid, rowO_rows, cellO_rows, push_n, set_n, push_at, push_old, set_here, set_there, set_pushT, set_pushN, set_set, upd_ne, Nat.add_assoc, Nat.reduceAdd, Nat.add_zero, stO_1s, stO_ws, boxA_s, List.all_cons, List.all_nil, one_bool, one_int, one_str, one_ptr, one_nilptr, one_slice, one_eslice, one_nilslice, one_func, one_iface, one_niliface, Bool.and_true, Bool.and_self, List.length_cons, List.length_nil, Nat.one_ne_zero, Nat.succ_ne_zero, reduceIte, if_false, List.getElem?_cons_zero, List.set_cons_zero, List.set_cons_succ, lay_nil, lay_1, lay_w, Option.map_some]
      exact ⟨_, by omega, k + 1, _, rfl, by omega, rfl, E.set _ (by omega) _, hgn, ⟨by (first | omega | (simp only [push_n, set_n]; omega)), by (first | rfl | simp (disch := (first | omega | assumption | (simp only [push_n, set_n, put_n, List.length_cons, List.length_nil, List.length_append, Nat.reduceAdd]; done) | (simp only [push_n, set_n, put_n, List.length_cons, List.length_nil, List.length_append]; omega) | (simp only [List.all_cons, List.all_nil, one_bool, one_int, one_str, one_ptr, one_nilptr, one_slice, one_eslice, one_nilslice, one_func, one_iface, one_niliface, Bool.and_true, Bool.true_and, List.getD_cons_zero, List.getD_cons_succ, List.contains_cons, List.contains_nil, Bool.or_true, Bool.true_or, Bool.or_false, Bool.false_or, Nat.reduceBEq, *]; done) | fail)) only [q0, push_n, set_n, push_at, push_old, set_here, set_there, Nat.add_assoc, Nat.reduceAdd])⟩, a1.here⟩
    · simp (disch := (first | omega | assumption | (simp only [push_n, set_n, put_n, List.length_cons, List.length_nil, List.length_append, Nat.reduceAdd]; done) | (simp only [push_n, set_n, put_n, List.length_cons, List.length_nil, List.length_append]; omega) | (simp only [List.all_cons, List.all_nil, one_bool, one_int, one_str, one_ptr, one_nilptr, one_slice, one_eslice, one_nilslice, one_func, one_iface, one_niliface, Bool.and_true, Bool.true_and, List.getD_cons_zero, List.getD_cons_succ, List.contains_cons, List.contains_nil, Bool.or_true, Bool.true_or, Bool.or_false, Bool.false_or, Nat.reduceBEq, *]; done) | fail)) only [i0, i2, i3, i4, q0, q1, go_sem, Hold.p, HoldK.k, HoldL.K, HoldL.body, Nat.reduceBEq, Nat.reduceAdd, List.getElem?_cons_zero, List.getElem?_cons_succ, Option.bind_some, List.map_cons, List.map_nil, Nat.zero_add, if_true, List.getD_cons_zero, List.getD_cons_succ, List.contains_cons, List.contains_nil, Nat.reduceBEq, Bool.or_true, Bool.true_or, Bool.or_false, Bool.false_or, Bool.not_true, Bool.not_false, true_and, and_true, rowA_whole, mid_get, stO_mid, rowO_rows, cellO_rows, push_n, set_n, push_at, push_old, set_here, set_there, set_pushT, set_pushN, set_set, upd_ne, Nat.add_assoc, Nat.reduceAdd, Nat.add_zero, stO_1s, stO_ws, boxA_s, List.all_cons, List.all_nil, one_bool, one_int, one_str, one_ptr, one_nilptr, one_slice, one_eslice, one_nilslice, one_func, one_iface, one_niliface, Bool.and_true, Bool.and_self, List.length_cons, List.length_nil, Nat.one_ne_zero, Nat.succ_ne_zero, reduceIte, if_false, List.getElem?_cons_zero, List.set_cons_zero, List.set_cons_succ, lay_nil, lay_1, lay_w, Option.map_some]
      exact ⟨st, rfl, E.set _ (by omega) _⟩
set_option maxRecDepth 20000 in
theorem l01Bool_c (h : IH) (p : Nat) (v : IV) (code : List UInt8) (S : Src h p v code) (hl : code.length ≤ 1048576) :
    ICalls Try.prog 63 [.ptr p 0 0] h fun r h' => ∃ b, r = .bool b ∧ Src h' p v code ∧ Sav p h h' ∧ h'.n = h.n := by
  refine icalls (.of ok63) (Nat.le_of_ble_eq_true rfl) ?_
  unfold c63
  simp (disch := (first | omega | assumption | (simp only [push_n, set_n, put_n, List.length_cons, List.length_nil, List.length_append, Nat.reduceAdd]; done) | (simp only [push_n, set_n, put_n, List.length_cons, List.length_nil, List.length_append]; omega) | (simp only [List.all_cons, List.all_nil, one_bool, one_int, one_str, one_ptr, one_nilptr, one_slice, one_eslice, one_nilslice, one_func, one_iface, one_niliface, Bool.and_true, Bool.true_and, List.getD_cons_zero, List.getD_cons_succ, List.contains_cons, List.contains_nil, Bool.or_true, Bool.true_or, Bool.or_false, Bool.false_or, Nat.reduceBEq, *]; done) | fail)) only [go_sem, Hold.p, HoldK.k, HoldL.K, HoldL.body, Nat.reduceBEq, Nat.reduceAdd, List.getElem?_cons_zero, List.getElem?_cons_succ, Option.bind_some, List.map_cons, List.map_nil, Nat.zero_add, if_true, List.getD_cons_zero, List.getD_cons_succ, List.contains_cons, List.contains_nil, Nat.reduceBEq, Bool.or_true, Bool.true_or, Bool.or_false, Bool.false_or, Bool.not_true, Bool.not_false, true_and, and_true, rowA_whole, mid_get, stO_mid, rowO_rows, cellO_rows, push_n, set_n, push_at, push_old, set_here, set_there, set_pushT, set_pushN, set_set, upd_ne, Nat.add_assoc, Nat.reduceAdd, Nat.add_zero, stO_1s, stO_ws, boxA_s, List.all_cons, List.all_nil, one_bool, one_int, one_str, one_ptr, one_nilptr, one_slice, one_eslice, one_nilslice, one_func, one_iface, one_niliface, Bool.and_true, Bool.and_self, List.length_cons, List.length_nil, Nat.one_ne_zero, Nat.succ_ne_zero, reduceIte, if_false, List.getElem?_cons_zero, List.set_cons_zero, List.set_cons_succ, lay_nil, lay_1, lay_w, Option.map_some]
  refine callA_of (l01Next_c h p v code 2 S (by omega) (by omega) hl) ?_
  rintro r g ⟨x, rfl, _, _, S2, V, hn⟩
  simp (disch := (first | omega | assumption | (simp only [push_n, set_n, put_n, List.length_cons, List.length_nil, List.length_append, Nat.reduceAdd]; done) | (simp only [push_n, set_n, put_n, List.length_cons, List.length_nil, List.length_append]; omega) | (simp only [List.all_cons, List.all_nil, one_bool, one_int, one_str, one_ptr, one_nilptr, one_slice, one_eslice, one_nilslice, one_func, one_iface, one_niliface, Bool.and_true, Bool.true_and, List.getD_cons_zero, List.getD_cons_succ, List.contains_cons, List.contains_nil, Bool.or_true, Bool.true_or, Bool.or_false, Bool.false_or, Nat.reduceBEq, *]; done) | fail)) only [go_sem, Hold.p, HoldK.k, HoldL.K, HoldL.body, Nat.reduceBEq, Nat.reduceAdd, List.getElem?_cons_zero, List.getElem?_cons_succ, Option.bind_some, List.map_cons, List.map_nil, Nat.zero_add, if_true, List.getD_cons_zero, List.getD_cons_succ, List.contains_cons, List.contains_nil, Nat.reduceBEq, Bool.or_true, Bool.true_or, Bool.or_false, Bool.false_or, Bool.not_true, Bool.not_false, true_and, and_true, rowA_whole, mid_get, stO_mid, rowO_rows, cellO_rows, push_n, set_n, push_at, push_old, set_here, set_there, set_pushT, set_pushN, set_set, upd_ne, Nat.add_assoc, Nat.reduceAdd, Nat.add_zero, stO_1s, stO_ws, boxA_s, List.all_cons, List.all_nil, one_bool, one_int, one_str, one_ptr, one_nilptr, one_slice, one_eslice, one_nilslice, one_func, one_iface, one_niliface, Bool.and_true, Bool.and_self, List.length_cons, List.length_nil, Nat.one_ne_zero, Nat.succ_ne_zero, reduceIte, if_false, List.getElem?_cons_zero, List.set_cons_zero, List.set_cons_succ, lay_nil, lay_1, lay_w, Option.map_some]
  exact ⟨_, rfl, S2, V, hn⟩
set_option maxRecDepth 20000 in
theorem l01Bytes_c (h : IH) (p : Nat) (v : IV) (code : List UInt8) (n : Int) (S : Src h p v code) (h0 : 0 ≤ n) (h1 : n ≤ 60000) (hl : code.length ≤ 1048576) (hpn : p < h.n) :
    ICalls Try.prog 95 [.ptr p 0 0, .int .i64 n] h fun r h' => ∃ bs : List UInt8, Own h.n h'.n h' 5 1 r (strRows bs) ∧ (bs.length : Int) = n ∧ Src h' p v code ∧ Sav p h h' := by
  refine icalls (.of ok95) (Nat.le_of_ble_eq_true rfl) ?_
  unfold c95
  have S0 := S
  simp (disch := (first | omega | assumption | (simp only [push_n, set_n, put_n, List.length_cons, List.length_nil, List.length_append, Nat.reduceAdd]; done) | (simp only [push_n, set_n, put_n, List.length_cons, List.length_nil, List.length_append]; omega) | (simp only [List.all_cons, List.all_nil, one_bool, one_int, one_str, one_ptr, one_nilptr, one_slice, one_eslice, one_nilslice, one_func, one_iface, one_niliface, Bool.and_true, Bool.true_and, List.getD_cons_zero, List.getD_cons_succ, List.contains_cons, List.contains_nil, Bool.or_true, Bool.true_or, Bool.or_false, Bool.false_or, Nat.reduceBEq, *]; done) | fail)) only [bslA_0, go_sem, Hold.p, HoldK.k, HoldL.K, HoldL.body, Nat.reduceBEq, Nat.reduceAdd, List.getElem?_cons_zero, List.getElem?_cons_succ, Option.bind_some, List.map_cons, List.map_nil, Nat.zero_add, if_true, List.getD_cons_zero, List.getD_cons_succ, List.contains_cons, List.contains_nil, Nat.reduceBEq, Bool.or_true, Bool.true_or, Bool.or_false, Bool.false_or, Bool.not_true, Bool.not_false, true_and, and_true, rowA_whole, mid_get, stO_mid, rowO_rows, cellO_rows, push_n, set_n, push_at, push_old, set_here, set_there, set_pushT, set_pushN, set_set, upd_ne, Nat.add_assoc, Nat.reduceAdd, Nat.add_zero, stO_1s, stO_ws, boxA_s, List.all_cons, List.all_nil, one_bool, one_int, one_str, one_ptr, one_nilptr, one_slice, one_eslice, one_nilslice, one_func, one_iface, one_niliface, Bool.and_true, Bool.and_self, List.length_cons, List.length_nil, Nat.one_ne_zero, Nat.succ_ne_zero, reduceIte, if_false, List.getElem?_cons_zero, List.set_cons_zero, List.set_cons_succ, lay_nil, lay_1, lay_w, Option.map_some]
  refine loop_at (fun m e g => ∃ (k : Nat) (x : IV) (lo hi : Nat) (bs : List UInt8), m = n.toNat - k ∧ (k : Int) ≤ n ∧ e 0 = .ptr p 0 0 ∧ e 1 = .int .i64 n ∧ e 5 = x ∧ e 6 = .int .i64 (k : Nat) ∧ bs.length = k ∧ Src g p v code ∧ Sav p h g ∧ h.n ≤ lo ∧ hi ≤ g.n ∧ Own lo hi g 5 1 x (strRows bs)) n.toNat ?_ ?_
  · refine ⟨0, .eslice true, h.n, h.n, [], by omega, by omega, ?_⟩
    simp (disch := (first | omega | assumption | (simp only [push_n, set_n, put_n, List.length_cons, List.length_nil, List.length_append, Nat.reduceAdd]; done) | (simp only [push_n, set_n, put_n, List.length_cons, List.length_nil, List.length_append]; omega) | (simp only [List.all_cons, List.all_nil, one_bool, one_int, one_str, one_ptr, one_nilptr, one_slice, one_eslice, one_nilslice, one_func, one_iface, one_niliface, Bool.and_true, Bool.true_and, List.getD_cons_zero, List.getD_cons_succ, List.contains_cons, List.contains_nil, Bool.or_true, Bool.true_or, Bool.or_false, Bool.false_or, Nat.reduceBEq, *]; done) | fail)) only [go_sem, Hold.p, HoldK.k, HoldL.K, HoldL.body, Nat.reduceBEq, Nat.reduceAdd, List.getElem?_cons_zero, List.getElem?_cons_succ, Option.bind_some, List.map_cons, List.map_nil, Nat.zero_add, if_true, List.getD_cons_zero, List.getD_cons_succ, List.contains_cons, List.contains_nil, Nat.reduceBEq, Bool.or_true, Bool.true_or, Bool.or_false, Bool.false_or, Bool.not_true, Bool.not_false, true_and, and_true, rowA_whole, mid_get, stO_mid, rowO_rows, cellO_rows, push_n, set_n, push_at, push_old, set_here, set_there, set_pushT, set_pushN, set_set, upd_ne, Nat.add_assoc, Nat.reduceAdd, Nat.add_zero, stO_1s, stO_ws, boxA_s, List.all_cons, List.all_nil, one_bool, one_int, one_str, one_ptr, one_nilptr, one_slice, one_eslice, one_nilslice, one_func, one_iface, one_niliface, Bool.and_true, Bool.and_self, List.length_cons, List.length_nil, Nat.one_ne_zero, Nat.succ_ne_zero, reduceIte, if_false, List.getElem?_cons_zero, List.set_cons_zero, List.set_cons_succ, lay_nil, lay_1, lay_w, Option.map_some]
    exact ⟨rfl, S, Sav.refl _ _, Nat.le_refl _, Nat.le_refl _, Own.empty⟩
  · rintro m e g ⟨k, x, lo, hi, bs, rfl, hk, i0, i1, i5, i6, hbl, S, V, hlo, hhi, o⟩
    have hle := V.le
    simp (disch := (first | omega | assumption | (simp only [push_n, set_n, put_n, List.length_cons, List.length_nil, List.length_append, Nat.reduceAdd]; done) | (simp only [push_n, set_n, put_n, List.length_cons, List.length_nil, List.length_append]; omega) | (simp only [List.all_cons, List.all_nil, one_bool, one_int, one_str, one_ptr, one_nilptr, one_slice, one_eslice, one_nilslice, one_func, one_iface, one_niliface, Bool.and_true, Bool.true_and, List.getD_cons_zero, List.getD_cons_succ, List.contains_cons, List.contains_nil, Bool.or_true, Bool.true_or, Bool.or_false, Bool.false_or, Nat.reduceBEq, *]; done) | fail)) only [i0, i1, i5, i6, go_sem, Hold.p, HoldK.k, HoldL.K, HoldL.body, Nat.reduceBEq, Nat.reduceAdd, List.getElem?_cons_zero, List.getElem?_cons_succ, Option.bind_some, List.map_cons, List.map_nil, Nat.zero_add, if_true, List.getD_cons_zero, List.getD_cons_succ, List.contains_cons, List.contains_nil, Nat.reduceBEq, Bool.or_true, Bool.true_or, Bool.or_false, Bool.false_or, Bool.not_true, Bool.not_false, true_and, and_true, rowA_whole, mid_get, stO_mid, rowO_rows, cellO_rows, push_n, set_n, push_at, push_old, set_here, set_there, set_pushT, set_pushN, set_set, upd_ne, Nat.add_assoc, Nat.reduceAdd, Nat.add_zero, stO_1s, stO_ws, boxA_s, List.all_cons, List.all_nil, one_bool, one_int, one_str, one_ptr, one_nilptr, one_slice, one_eslice, one_nilslice, one_func, one_iface, one_niliface, Bool.and_true, Bool.and_self, List.length_cons, List.length_nil, Nat.one_ne_zero, Nat.succ_ne_zero, reduceIte, if_false, List.getElem?_cons_zero, List.set_cons_zero, List.set_cons_succ, lay_nil, lay_1, lay_w, Option.map_some]
    refine test_dec (fun hb => ?_) (fun hb => ?_)
    · simp (disch := (first | omega | assumption | (simp only [push_n, set_n, put_n, List.length_cons, List.length_nil, List.length_append, Nat.reduceAdd]; done) | (simp only [push_n, set_n, put_n, List.length_cons, List.length_nil, List.length_append]; omega) | (simp only [List.all_cons, List.all_nil, one_bool, one_int, one_str, one_ptr, one_nilptr, one_slice, one_eslice, one_nilslice, one_func, one_iface, one_niliface, Bool.and_true, Bool.true_and, List.getD_cons_zero, List.getD_cons_succ, List.contains_cons, List.contains_nil, Bool.or_true, Bool.true_or, Bool.or_false, Bool.false_or, Nat.reduceBEq, *]; done) | fail)) only [i0, i1, i5, i6, go_sem, Hold.p, HoldK.k, HoldL.K, HoldL.body, Nat.reduceBEq, Nat.reduceAdd, List.getElem?_cons_zero, List.getElem?_cons_succ, Option.bind_some, List.map_cons, List.map_nil, Nat.zero_add, if_true, List.getD_cons_zero, List.getD_cons_succ, List.contains_cons, List.contains_nil, Nat.reduceBEq, Bool.or_true, Bool.true_or, Bool.or_false, Bool.false_or, Bool.not_true, Bool.not_false, true_and, and_true, rowA_whole, mid_get, stO_mid, rowO_rows, cellO_rows, push_n, set_n, push_at, push_old, set_here, set_there, set_pushT, set_pushN, set_set, upd_ne, Nat.add_assoc, Nat.reduceAdd, Nat.add_zero, stO_1s, stO_ws, boxA_s, List.all_cons, List.all_nil, one_bool, one_int, one_str, one_ptr, one_nilptr, one_slice, one_eslice, one_nilslice, one_func, one_iface, one_niliface, Bool.and_true, Bool.and_self, List.length_cons, List.length_nil, Nat.one_ne_zero, Nat.succ_ne_zero, reduceIte, if_false, List.getElem?_cons_zero, List.set_cons_zero, List.set_cons_succ, lay_nil, lay_1, lay_w, Option.map_some]
      refine callA_of (l01Next_c g p v code 256 S (by omega) (by omega) hl) ?_
      rintro r g1 ⟨y, rfl, y0, y1, S1, V1, hn1⟩
      have o := o.sav V1 (by omega)
      have V := V.trans V1
      have w1 : wr .i64 ((k : Int) + 1) = ((k + 1 : Nat) : Int) := by rw [wr64 _ (by omega)]; rfl
      simp (disch := (first | omega | assumption | (simp only [push_n, set_n, put_n, List.length_cons, List.length_nil, List.length_append, Nat.reduceAdd]; done) | (simp only [push_n, set_n, put_n, List.length_cons, List.length_nil, List.length_append]; omega) | (simp only [List.all_cons, List.all_nil, one_bool, one_int, one_str, one_ptr, one_nilptr, one_slice, one_eslice, one_nilslice, one_func, one_iface, one_niliface, Bool.and_true, Bool.true_and, List.getD_cons_zero, List.getD_cons_succ, List.contains_cons, List.contains_nil, Bool.or_true, Bool.true_or, Bool.or_false, Bool.false_or, Nat.reduceBEq, *]; done) | fail)) only [i0, i1, i5, i6, wr_u8, bslA_1, go_sem, Hold.p, HoldK.k, HoldL.K, HoldL.body, Nat.reduceBEq, Nat.reduceAdd, List.getElem?_cons_zero, List.getElem?_cons_succ, Option.bind_some, List.map_cons, List.map_nil, Nat.zero_add, if_true, List.getD_cons_zero, List.getD_cons_succ, List.contains_cons, List.contains_nil, Nat.reduceBEq, Bool.or_true, Bool.true_or, Bool.or_false, Bool.false_or, Bool.not_true, Bool.not_false, true_and, and_true, rowA_whole, mid_get, stO_mid, rowO_rows, cellO_rows, push_n, set_n, push_at, push_old, set_here, set_there, set_pushT, set_pushN, set_set, upd_ne, Nat.add_assoc, Nat.reduceAdd, Nat.add_zero, stO_1s, stO_ws, boxA_s, List.all_cons, List.all_nil, one_bool, one_int, one_str, one_ptr, one_nilptr, one_slice, one_eslice, one_nilslice, one_func, one_iface, one_niliface, Bool.and_true, Bool.and_self, List.length_cons, List.length_nil, Nat.one_ne_zero, Nat.succ_ne_zero, reduceIte, if_false, List.getElem?_cons_zero, List.set_cons_zero, List.set_cons_succ, lay_nil, lay_1, lay_w, Option.map_some]
      generalize hq_g2 : IH.push g1 (IObj.rows [[.int .u8 (UInt8.ofNat (y % 256).toNat).toNat]] 5 1 false) = g2
      have e_g2 : Ext g1 g2 := by rw [← hq_g2]; exact (Ext.refl _).push _
      have l_g2 : g2.n = g1.n + 1 := by rw [← hq_g2]; rfl
      have ba : At g2 g1.n (IObj.rows [[.int .u8 (UInt8.ofNat (y % 256).toNat).toNat]] 5 1 false) := by rw [← hq_g2]; exact At.new _ _
      clear hq_g2
      have o := o.ext e_g2
      have S1 := S1.ext e_g2
      have V := V.ext e_g2
      try simp (disch := (first | omega | assumption | (simp only [push_n, set_n, put_n, List.length_cons, List.length_nil, List.length_append, Nat.reduceAdd]; done) | (simp only [push_n, set_n, put_n, List.length_cons, List.length_nil, List.length_append]; omega) | (simp only [List.all_cons, List.all_nil, one_bool, one_int, one_str, one_ptr, one_nilptr, one_slice, one_eslice, one_nilslice, one_func, one_iface, one_niliface, Bool.and_true, Bool.true_and, List.getD_cons_zero, List.getD_cons_succ, List.contains_cons, List.contains_nil, Bool.or_true, Bool.true_or, Bool.or_false, Bool.false_or, Nat.reduceBEq, *]; done) | fail)) only [ba.eq, go_sem, Hold.p, HoldK.k, HoldL.K, HoldL.body, Nat.reduceBEq, Nat.reduceAdd, List.getElem?_cons_zero, List.getElem?_cons_succ, Option.bind_some, List.map_cons, List.map_nil, Nat.zero_add, if_true, List.getD_cons_zero, List.getD_cons_succ, List.contains_cons, List.contains_nil, Nat.reduceBEq, Bool.or_true, Bool.true_or, Bool.or_false, Bool.false_or, Bool.not_true, Bool.not_false, true_and, and_true, rowA_whole, mid_get, stO_mid, rowO_rows, cellO_rows, push_n, set_n, push_at, push_old, set_here, set_there, set_pushT, set_pushN, set_set, upd_ne, Nat.add_assoc, Nat.reduceAdd, Nat.add_zero, stO_1s, stO_ws, boxA_s, List.all_cons, List.all_nil, one_bool, one_int, one_str, one_ptr, one_nilptr, one_slice, one_eslice, one_nilslice, one_func, one_iface, one_niliface, Bool.and_true, Bool.and_self, List.length_cons, List.length_nil, Nat.one_ne_zero, Nat.succ_ne_zero, reduceIte, if_false, List.getElem?_cons_zero, List.set_cons_zero, List.set_cons_succ, lay_nil, lay_1, lay_w, Option.map_some]
      refine o.app (by simp) (by rw [strRows_len, List.length_singleton]; omega) ?_
      intro v6 h6 o6 t6 n6 v6o v6c
      have hVle := V.le
      have ht6 := t6.le
      have V6 : Sav p h h6 := ⟨by omega, fun m hm hb => (t6.obj m (by omega) (fun hv => by have := o.at_ hv; omega)).trans (V.obj m hm hb)⟩
      obtain ⟨pos, st, a1, a2, a3⟩ := S1.at_
      have S6 : Src h6 p v code := ⟨⟨pos, st, a1.turn o (by omega) t6, a2, a3⟩, V6.sl S0.sl S0.ne, S0.ne⟩
      simp (disch := (first | omega | assumption | (simp only [push_n, set_n, put_n, List.length_cons, List.length_nil, List.length_append, Nat.reduceAdd]; done) | (simp only [push_n, set_n, put_n, List.length_cons, List.length_nil, List.length_append]; omega) | (simp only [List.all_cons, List.all_nil, one_bool, one_int, one_str, one_ptr, one_nilptr, one_slice, one_eslice, one_nilslice, one_func, one_iface, one_niliface, Bool.and_true, Bool.true_and, List.getD_cons_zero, List.getD_cons_succ, List.contains_cons, List.contains_nil, Bool.or_true, Bool.true_or, Bool.or_false, Bool.false_or, Nat.reduceBEq, *]; done) | fail)) only [i0, i1, i5, i6, w1, go_sem, Hold.p, HoldK.k, HoldL.K, HoldL.body, Nat.reduceBEq, Nat.reduceAdd, List.getElem?_cons_zero, List.getElem?_cons_succ, Option.bind_some, List.map_cons, List.map_nil, Nat.zero_add, if_true, List.getD_cons_zero, List.getD_cons_succ, List.contains_cons, List.contains_nil, Nat.reduceBEq, Bool.or_true, Bool.true_or, Bool.or_false, Bool.false_or, Bool.not_true, Bool.not_false, true_and, and_true, rowA_whole, mid_get, stO_mid, rowO_rows, cellO_rows, push_n, set_n, push_at, push_old, set_here, set_there, set_pushT, set_pushN, set_set, upd_ne, Nat.add_assoc, Nat.reduceAdd, Nat.add_zero, stO_1s, stO_ws, boxA_s, List.all_cons, List.all_nil, one_bool, one_int, one_str, one_ptr, one_nilptr, one_slice, one_eslice, one_nilslice, one_func, one_iface, one_niliface, Bool.and_true, Bool.and_self, List.length_cons, List.length_nil, Nat.one_ne_zero, Nat.succ_ne_zero, reduceIte, if_false, List.getElem?_cons_zero, List.set_cons_zero, List.set_cons_succ, lay_nil, lay_1, lay_w, Option.map_some]
      refine ⟨_, ?_, k + 1, v6, g2.n, g2.n + 1, bs ++ [UInt8.ofNat (y % 256).toNat], rfl, by omega, rfl, rfl, by simp [hbl], S6, V6, by omega, by omega, ?_⟩
      · omega
      · rw [strRows_append]; exact o6
    · simp (disch := (first | omega | assumption | (simp only [push_n, set_n, put_n, List.length_cons, List.length_nil, List.length_append, Nat.reduceAdd]; done) | (simp only [push_n, set_n, put_n, List.length_cons, List.length_nil, List.length_append]; omega) | (simp only [List.all_cons, List.all_nil, one_bool, one_int, one_str, one_ptr, one_nilptr, one_slice, one_eslice, one_nilslice, one_func, one_iface, one_niliface, Bool.and_true, Bool.true_and, List.getD_cons_zero, List.getD_cons_succ, List.contains_cons, List.contains_nil, Bool.or_true, Bool.true_or, Bool.or_false, Bool.false_or, Nat.reduceBEq, *]; done) | fail)) only [i0, i1, i5, i6, go_sem, Hold.p, HoldK.k, HoldL.K, HoldL.body, Nat.reduceBEq, Nat.reduceAdd, List.getElem?_cons_zero, List.getElem?_cons_succ, Option.bind_some, List.map_cons, List.map_nil, Nat.zero_add, if_true, List.getD_cons_zero, List.getD_cons_succ, List.contains_cons, List.contains_nil, Nat.reduceBEq, Bool.or_true, Bool.true_or, Bool.or_false, Bool.false_or, Bool.not_true, Bool.not_false, true_and, and_true, rowA_whole, mid_get, stO_mid, rowO_rows, cellO_rows, push_n, set_n, push_at, push_old, set_here, set_there, set_pushT, set_pushN, set_set, upd_ne, Nat.add_assoc, Nat.reduceAdd, Nat.add_zero, stO_1s, stO_ws, boxA_s, List.all_cons, List.all_nil, one_bool, one_int, one_str, one_ptr, one_nilptr, one_slice, one_eslice, one_nilslice, one_func, one_iface, one_niliface, Bool.and_true, Bool.and_self, List.length_cons, List.length_nil, Nat.one_ne_zero, Nat.succ_ne_zero, reduceIte, if_false, List.getElem?_cons_zero, List.set_cons_zero, List.set_cons_succ, lay_nil, lay_1, lay_w, Option.map_some]
      exact ⟨bs, o.wide hlo hhi (Nat.le_refl _), by omega, S, V⟩
end Go.Proofs.Ytecljenjlncfhaa

namespace Go.Proofs.Ytecljenjlncfhaa
open Go Go.IW

/-- Some bytes, told while only the source turned. -/
def Drawn (h h' : IH) (p : Nat) (v : IV) (code : List UInt8) (r : IV) : Prop := ∃ bs : List UInt8, SlR h' 1 r (strRows bs) ∧ bs.length ≤ 60001 ∧ Src h' p v code ∧ Sav p h h' ∧ ∀ l i n, r = .slice l i n → l ≠ p
theorem Drawn.lit {h g : IH} {p : Nat} {v : IV} {code : List UInt8} (S : Src g p v code) (V : Sav p h g) (hp : p < g.n) (bs : List UInt8) (hb : bs.length ≤ 60001) {rows : List (List IV)} (hr : rows = strRows bs) {n : Nat} (hn : bs.length = n) :
    Drawn h (g.push (.rows rows 5 1 false)) p v code (.slice g.n 0 n) := by
  subst hr
  refine ⟨bs, SlR.whole (push_new _ _) (by rw [strRows_len, hn]) (Nat.lt_succ_self _), hb, S.ext ((Ext.refl _).push _), V.ext ((Ext.refl _).push _), fun l i n hv => ?_⟩
  cases hv; omega
set_option maxRecDepth 20000 in
theorem l20Body_c (h : IH) (p : Nat) (v : IV) (code : List UInt8) (S : Src h p v code) (hl : code.length ≤ 1048576) (hpn : p < h.n) :
    ICalls Try.prog 64 [.ptr p 0 0] h fun r h' => Drawn h h' p v code r := by
  refine icalls (.of ok64) (Nat.le_of_ble_eq_true rfl) ?_
  unfold c64
  simp (disch := (first | omega | assumption | (simp only [push_n, set_n, put_n, List.length_cons, List.length_nil, List.length_append, Nat.reduceAdd]; done) | (simp only [push_n, set_n, put_n, List.length_cons, List.length_nil, List.length_append]; omega) | (simp only [List.all_cons, List.all_nil, one_bool, one_int, one_str, one_ptr, one_nilptr, one_slice, one_eslice, one_nilslice, one_func, one_iface, one_niliface, Bool.and_true, Bool.true_and, List.getD_cons_zero, List.getD_cons_succ, List.contains_cons, List.contains_nil, Bool.or_true, Bool.true_or, Bool.or_false, Bool.false_or, Nat.reduceBEq, *]; done) | fail)) only [go_sem, Hold.p, HoldK.k, HoldL.K, HoldL.body, Nat.reduceBEq, Nat.reduceAdd, List.getElem?_cons_zero, List.getElem?_cons_succ, Option.bind_some, List.map_cons, List.map_nil, Nat.zero_add, if_true, List.getD_cons_zero, List.getD_cons_succ, List.contains_cons, List.contains_nil, Nat.reduceBEq, Bool.or_true, Bool.true_or, Bool.or_false, Bool.false_or, Bool.not_true, Bool.not_false, true_and, and_true, rowA_whole, mid_get, stO_mid, rowO_rows, cellO_rows, push_n, set_n, push_at, push_old, set_here, set_there, set_pushT, set_pushN, set_set, upd_ne, Nat.add_assoc, Nat.reduceAdd, Nat.add_zero, stO_1s, stO_ws, boxA_s, List.all_cons, List.all_nil, one_bool, one_int, one_str, one_ptr, one_nilptr, one_slice, one_eslice, one_nilslice, one_func, one_iface, one_niliface, Bool.and_true, Bool.and_self, List.length_cons, List.length_nil, Nat.one_ne_zero, Nat.succ_ne_zero, reduceIte, if_false, List.getElem?_cons_zero, List.set_cons_zero, List.set_cons_succ, lay_nil, lay_1, lay_w, Option.map_some]
  refine callA_of (l01Next_c h p v code 5 S (by omega) (by omega) hl) ?_
  rintro r g ⟨x, rfl, x0, x1, S1, V1, hn1⟩
  simp (disch := (first | omega | assumption | (simp only [push_n, set_n, put_n, List.length_cons, List.length_nil, List.length_append, Nat.reduceAdd]; done) | (simp only [push_n, set_n, put_n, List.length_cons, List.length_nil, List.length_append]; omega) | (simp only [List.all_cons, List.all_nil, one_bool, one_int, one_str, one_ptr, one_nilptr, one_slice, one_eslice, one_nilslice, one_func, one_iface, one_niliface, Bool.and_true, Bool.true_and, List.getD_cons_zero, List.getD_cons_succ, List.contains_cons, List.contains_nil, Bool.or_true, Bool.true_or, Bool.or_false, Bool.false_or, Nat.reduceBEq, *]; done) | fail)) only [go_sem, Hold.p, HoldK.k, HoldL.K, HoldL.body, Nat.reduceBEq, Nat.reduceAdd, List.getElem?_cons_zero, List.getElem?_cons_succ, Option.bind_some, List.map_cons, List.map_nil, Nat.zero_add, if_true, List.getD_cons_zero, List.getD_cons_succ, List.contains_cons, List.contains_nil, Nat.reduceBEq, Bool.or_true, Bool.true_or, Bool.or_false, Bool.false_or, Bool.not_true, Bool.not_false, true_and, and_true, rowA_whole, mid_get, stO_mid, rowO_rows, cellO_rows, push_n, set_n, push_at, push_old, set_here, set_there, set_pushT, set_pushN, set_set, upd_ne, Nat.add_assoc, Nat.reduceAdd, Nat.add_zero, stO_1s, stO_ws, boxA_s, List.all_cons, List.all_nil, one_bool, one_int, one_str, one_ptr, one_nilptr, one_slice, one_eslice, one_nilslice, one_func, one_iface, one_niliface, Bool.and_true, Bool.and_self, List.length_cons, List.length_nil, Nat.one_ne_zero, Nat.succ_ne_zero, reduceIte, if_false, List.getElem?_cons_zero, List.set_cons_zero, List.set_cons_succ, lay_nil, lay_1, lay_w, Option.map_some]
  refine test_dec (fun hx => ?_) (fun hx => ?_)
  · simp (disch := (first | omega | assumption | (simp only [push_n, set_n, put_n, List.length_cons, List.length_nil, List.length_append, Nat.reduceAdd]; done) | (simp only [push_n, set_n, put_n, List.length_cons, List.length_nil, List.length_append]; omega) | (simp only [List.all_cons, List.all_nil, one_bool, one_int, one_str, one_ptr, one_nilptr, one_slice, one_eslice, one_nilslice, one_func, one_iface, one_niliface, Bool.and_true, Bool.true_and, List.getD_cons_zero, List.getD_cons_succ, List.contains_cons, List.contains_nil, Bool.or_true, Bool.true_or, Bool.or_false, Bool.false_or, Nat.reduceBEq, *]; done) | fail)) only [go_sem, Hold.p, HoldK.k, HoldL.K, HoldL.body, Nat.reduceBEq, Nat.reduceAdd, List.getElem?_cons_zero, List.getElem?_cons_succ, Option.bind_some, List.map_cons, List.map_nil, Nat.zero_add, if_true, List.getD_cons_zero, List.getD_cons_succ, List.contains_cons, List.contains_nil, Nat.reduceBEq, Bool.or_true, Bool.true_or, Bool.or_false, Bool.false_or, Bool.not_true, Bool.not_false, true_and, and_true, rowA_whole, mid_get, stO_mid, rowO_rows, cellO_rows, push_n, set_n, push_at, push_old, set_here, set_there, set_pushT, set_pushN, set_set, upd_ne, Nat.add_assoc, Nat.reduceAdd, Nat.add_zero, stO_1s, stO_ws, boxA_s, List.all_cons, List.all_nil, one_bool, one_int, one_str, one_ptr, one_nilptr, one_slice, one_eslice, one_nilslice, one_func, one_iface, one_niliface, Bool.and_true, Bool.and_self, List.length_cons, List.length_nil, Nat.one_ne_zero, Nat.succ_ne_zero, reduceIte, if_false, List.getElem?_cons_zero, List.set_cons_zero, List.set_cons_succ, lay_nil, lay_1, lay_w, Option.map_some]
    exact ⟨[], SlR.nil _ _, by simp, S1, V1, fun l i n hv => by cases hv⟩
  simp (disch := (first | omega | assumption | (simp only [push_n, set_n, put_n, List.length_cons, List.length_nil, List.length_append, Nat.reduceAdd]; done) | (simp only [push_n, set_n, put_n, List.length_cons, List.length_nil, List.length_append]; omega) | (simp only [List.all_cons, List.all_nil, one_bool, one_int, one_str, one_ptr, one_nilptr, one_slice, one_eslice, one_nilslice, one_func, one_iface, one_niliface, Bool.and_true, Bool.true_and, List.getD_cons_zero, List.getD_cons_succ, List.contains_cons, List.contains_nil, Bool.or_true, Bool.true_or, Bool.or_false, Bool.false_or, Nat.reduceBEq, *]; done) | fail)) only [go_sem, Hold.p, HoldK.k, HoldL.K, HoldL.body, Nat.reduceBEq, Nat.reduceAdd, List.getElem?_cons_zero, List.getElem?_cons_succ, Option.bind_some, List.map_cons, List.map_nil, Nat.zero_add, if_true, List.getD_cons_zero, List.getD_cons_succ, List.contains_cons, List.contains_nil, Nat.reduceBEq, Bool.or_true, Bool.true_or, Bool.or_false, Bool.false_or, Bool.not_true, Bool.not_false, true_and, and_true, rowA_whole, mid_get, stO_mid, rowO_rows, cellO_rows, push_n, set_n, push_at, push_old, set_here, set_there, set_pushT, set_pushN, set_set, upd_ne, Nat.add_assoc, Nat.reduceAdd, Nat.add_zero, stO_1s, stO_ws, boxA_s, List.all_cons, List.all_nil, one_bool, one_int, one_str, one_ptr, one_nilptr, one_slice, one_eslice, one_nilslice, one_func, one_iface, one_niliface, Bool.and_true, Bool.and_self, List.length_cons, List.length_nil, Nat.one_ne_zero, Nat.succ_ne_zero, reduceIte, if_false, List.getElem?_cons_zero, List.set_cons_zero, List.set_cons_succ, lay_nil, lay_1, lay_w, Option.map_some]
  refine test_dec (fun hx2 => ?_) (fun hx2 => ?_)
  · simp (disch := (first | omega | assumption | (simp only [push_n, set_n, put_n, List.length_cons, List.length_nil, List.length_append, Nat.reduceAdd]; done) | (simp only [push_n, set_n, put_n, List.length_cons, List.length_nil, List.length_append]; omega) | (simp only [List.all_cons, List.all_nil, one_bool, one_int, one_str, one_ptr, one_nilptr, one_slice, one_eslice, one_nilslice, one_func, one_iface, one_niliface, Bool.and_true, Bool.true_and, List.getD_cons_zero, List.getD_cons_succ, List.contains_cons, List.contains_nil, Bool.or_true, Bool.true_or, Bool.or_false, Bool.false_or, Nat.reduceBEq, *]; done) | fail)) only [go_sem, Hold.p, HoldK.k, HoldL.K, HoldL.body, Nat.reduceBEq, Nat.reduceAdd, List.getElem?_cons_zero, List.getElem?_cons_succ, Option.bind_some, List.map_cons, List.map_nil, Nat.zero_add, if_true, List.getD_cons_zero, List.getD_cons_succ, List.contains_cons, List.contains_nil, Nat.reduceBEq, Bool.or_true, Bool.true_or, Bool.or_false, Bool.false_or, Bool.not_true, Bool.not_false, true_and, and_true, rowA_whole, mid_get, stO_mid, rowO_rows, cellO_rows, push_n, set_n, push_at, push_old, set_here, set_there, set_pushT, set_pushN, set_set, upd_ne, Nat.add_assoc, Nat.reduceAdd, Nat.add_zero, stO_1s, stO_ws, boxA_s, List.all_cons, List.all_nil, one_bool, one_int, one_str, one_ptr, one_nilptr, one_slice, one_eslice, one_nilslice, one_func, one_iface, one_niliface, Bool.and_true, Bool.and_self, List.length_cons, List.length_nil, Nat.one_ne_zero, Nat.succ_ne_zero, reduceIte, if_false, List.getElem?_cons_zero, List.set_cons_zero, List.set_cons_succ, lay_nil, lay_1, lay_w, Option.map_some]
    refine bslA_of (by decide) rfl (by decide) ?_
    simp (disch := (first | omega | assumption | (simp only [push_n, set_n, put_n, List.length_cons, List.length_nil, List.length_append, Nat.reduceAdd]; done) | (simp only [push_n, set_n, put_n, List.length_cons, List.length_nil, List.length_append]; omega) | (simp only [List.all_cons, List.all_nil, one_bool, one_int, one_str, one_ptr, one_nilptr, one_slice, one_eslice, one_nilslice, one_func, one_iface, one_niliface, Bool.and_true, Bool.true_and, List.getD_cons_zero, List.getD_cons_succ, List.contains_cons, List.contains_nil, Bool.or_true, Bool.true_or, Bool.or_false, Bool.false_or, Nat.reduceBEq, *]; done) | fail)) only [go_sem, Hold.p, HoldK.k, HoldL.K, HoldL.body, Nat.reduceBEq, Nat.reduceAdd, List.getElem?_cons_zero, List.getElem?_cons_succ, Option.bind_some, List.map_cons, List.map_nil, Nat.zero_add, if_true, List.getD_cons_zero, List.getD_cons_succ, List.contains_cons, List.contains_nil, Nat.reduceBEq, Bool.or_true, Bool.true_or, Bool.or_false, Bool.false_or, Bool.not_true, Bool.not_false, true_and, and_true, rowA_whole, mid_get, stO_mid, rowO_rows, cellO_rows, push_n, set_n, push_at, push_old, set_here, set_there, set_pushT, set_pushN, set_set, upd_ne, Nat.add_assoc, Nat.reduceAdd, Nat.add_zero, stO_1s, stO_ws, boxA_s, List.all_cons, List.all_nil, one_bool, one_int, one_str, one_ptr, one_nilptr, one_slice, one_eslice, one_nilslice, one_func, one_iface, one_niliface, Bool.and_true, Bool.and_self, List.length_cons, List.length_nil, Nat.one_ne_zero, Nat.succ_ne_zero, reduceIte, if_false, List.getElem?_cons_zero, List.set_cons_zero, List.set_cons_succ, lay_nil, lay_1, lay_w, Option.map_some]
    exact Drawn.lit S1 V1 (by omega) [111, 110, 101, 10, 10, 103, 101, 116, 32, 47, 97, 10, 10] (by simp) rfl rfl
  simp (disch := (first | omega | assumption | (simp only [push_n, set_n, put_n, List.length_cons, List.length_nil, List.length_append, Nat.reduceAdd]; done) | (simp only [push_n, set_n, put_n, List.length_cons, List.length_nil, List.length_append]; omega) | (simp only [List.all_cons, List.all_nil, one_bool, one_int, one_str, one_ptr, one_nilptr, one_slice, one_eslice, one_nilslice, one_func, one_iface, one_niliface, Bool.and_true, Bool.true_and, List.getD_cons_zero, List.getD_cons_succ, List.contains_cons, List.contains_nil, Bool.or_true, Bool.true_or, Bool.or_false, Bool.false_or, Nat.reduceBEq, *]; done) | fail)) only [go_sem, Hold.p, HoldK.k, HoldL.K, HoldL.body, Nat.reduceBEq, Nat.reduceAdd, List.getElem?_cons_zero, List.getElem?_cons_succ, Option.bind_some, List.map_cons, List.map_nil, Nat.zero_add, if_true, List.getD_cons_zero, List.getD_cons_succ, List.contains_cons, List.contains_nil, Nat.reduceBEq, Bool.or_true, Bool.true_or, Bool.or_false, Bool.false_or, Bool.not_true, Bool.not_false, true_and, and_true, rowA_whole, mid_get, stO_mid, rowO_rows, cellO_rows, push_n, set_n, push_at, push_old, set_here, set_there, set_pushT, set_pushN, set_set, upd_ne, Nat.add_assoc, Nat.reduceAdd, Nat.add_zero, stO_1s, stO_ws, boxA_s, List.all_cons, List.all_nil, one_bool, one_int, one_str, one_ptr, one_nilptr, one_slice, one_eslice, one_nilslice, one_func, one_iface, one_niliface, Bool.and_true, Bool.and_self, List.length_cons, List.length_nil, Nat.one_ne_zero, Nat.succ_ne_zero, reduceIte, if_false, List.getElem?_cons_zero, List.set_cons_zero, List.set_cons_succ, lay_nil, lay_1, lay_w, Option.map_some]
  refine test_dec (fun hx3 => ?_) (fun hx3 => ?_)
  · simp (disch := (first | omega | assumption | (simp only [push_n, set_n, put_n, List.length_cons, List.length_nil, List.length_append, Nat.reduceAdd]; done) | (simp only [push_n, set_n, put_n, List.length_cons, List.length_nil, List.length_append]; omega) | (simp only [List.all_cons, List.all_nil, one_bool, one_int, one_str, one_ptr, one_nilptr, one_slice, one_eslice, one_nilslice, one_func, one_iface, one_niliface, Bool.and_true, Bool.true_and, List.getD_cons_zero, List.getD_cons_succ, List.contains_cons, List.contains_nil, Bool.or_true, Bool.true_or, Bool.or_false, Bool.false_or, Nat.reduceBEq, *]; done) | fail)) only [go_sem, Hold.p, HoldK.k, HoldL.K, HoldL.body, Nat.reduceBEq, Nat.reduceAdd, List.getElem?_cons_zero, List.getElem?_cons_succ, Option.bind_some, List.map_cons, List.map_nil, Nat.zero_add, if_true, List.getD_cons_zero, List.getD_cons_succ, List.contains_cons, List.contains_nil, Nat.reduceBEq, Bool.or_true, Bool.true_or, Bool.or_false, Bool.false_or, Bool.not_true, Bool.not_false, true_and, and_true, rowA_whole, mid_get, stO_mid, rowO_rows, cellO_rows, push_n, set_n, push_at, push_old, set_here, set_there, set_pushT, set_pushN, set_set, upd_ne, Nat.add_assoc, Nat.reduceAdd, Nat.add_zero, stO_1s, stO_ws, boxA_s, List.all_cons, List.all_nil, one_bool, one_int, one_str, one_ptr, one_nilptr, one_slice, one_eslice, one_nilslice, one_func, one_iface, one_niliface, Bool.and_true, Bool.and_self, List.length_cons, List.length_nil, Nat.one_ne_zero, Nat.succ_ne_zero, reduceIte, if_false, List.getElem?_cons_zero, List.set_cons_zero, List.set_cons_succ, lay_nil, lay_1, lay_w, Option.map_some]
    refine bslA_of (by decide) rfl (by decide) ?_
    simp (disch := (first | omega | assumption | (simp only [push_n, set_n, put_n, List.length_cons, List.length_nil, List.length_append, Nat.reduceAdd]; done) | (simp only [push_n, set_n, put_n, List.length_cons, List.length_nil, List.length_append]; omega) | (simp only [List.all_cons, List.all_nil, one_bool, one_int, one_str, one_ptr, one_nilptr, one_slice, one_eslice, one_nilslice, one_func, one_iface, one_niliface, Bool.and_true, Bool.true_and, List.getD_cons_zero, List.getD_cons_succ, List.contains_cons, List.contains_nil, Bool.or_true, Bool.true_or, Bool.or_false, Bool.false_or, Nat.reduceBEq, *]; done) | fail)) only [go_sem, Hold.p, HoldK.k, HoldL.K, HoldL.body, Nat.reduceBEq, Nat.reduceAdd, List.getElem?_cons_zero, List.getElem?_cons_succ, Option.bind_some, List.map_cons, List.map_nil, Nat.zero_add, if_true, List.getD_cons_zero, List.getD_cons_succ, List.contains_cons, List.contains_nil, Nat.reduceBEq, Bool.or_true, Bool.true_or, Bool.or_false, Bool.false_or, Bool.not_true, Bool.not_false, true_and, and_true, rowA_whole, mid_get, stO_mid, rowO_rows, cellO_rows, push_n, set_n, push_at, push_old, set_here, set_there, set_pushT, set_pushN, set_set, upd_ne, Nat.add_assoc, Nat.reduceAdd, Nat.add_zero, stO_1s, stO_ws, boxA_s, List.all_cons, List.all_nil, one_bool, one_int, one_str, one_ptr, one_nilptr, one_slice, one_eslice, one_nilslice, one_func, one_iface, one_niliface, Bool.and_true, Bool.and_self, List.length_cons, List.length_nil, Nat.one_ne_zero, Nat.succ_ne_zero, reduceIte, if_false, List.getElem?_cons_zero, List.set_cons_zero, List.set_cons_succ, lay_nil, lay_1, lay_w, Option.map_some]
    exact Drawn.lit S1 V1 (by omega) [116, 119, 111] (by simp) rfl rfl
  simp (disch := (first | omega | assumption | (simp only [push_n, set_n, put_n, List.length_cons, List.length_nil, List.length_append, Nat.reduceAdd]; done) | (simp only [push_n, set_n, put_n, List.length_cons, List.length_nil, List.length_append]; omega) | (simp only [List.all_cons, List.all_nil, one_bool, one_int, one_str, one_ptr, one_nilptr, one_slice, one_eslice, one_nilslice, one_func, one_iface, one_niliface, Bool.and_true, Bool.true_and, List.getD_cons_zero, List.getD_cons_succ, List.contains_cons, List.contains_nil, Bool.or_true, Bool.true_or, Bool.or_false, Bool.false_or, Nat.reduceBEq, *]; done) | fail)) only [go_sem, Hold.p, HoldK.k, HoldL.K, HoldL.body, Nat.reduceBEq, Nat.reduceAdd, List.getElem?_cons_zero, List.getElem?_cons_succ, Option.bind_some, List.map_cons, List.map_nil, Nat.zero_add, if_true, List.getD_cons_zero, List.getD_cons_succ, List.contains_cons, List.contains_nil, Nat.reduceBEq, Bool.or_true, Bool.true_or, Bool.or_false, Bool.false_or, Bool.not_true, Bool.not_false, true_and, and_true, rowA_whole, mid_get, stO_mid, rowO_rows, cellO_rows, push_n, set_n, push_at, push_old, set_here, set_there, set_pushT, set_pushN, set_set, upd_ne, Nat.add_assoc, Nat.reduceAdd, Nat.add_zero, stO_1s, stO_ws, boxA_s, List.all_cons, List.all_nil, one_bool, one_int, one_str, one_ptr, one_nilptr, one_slice, one_eslice, one_nilslice, one_func, one_iface, one_niliface, Bool.and_true, Bool.and_self, List.length_cons, List.length_nil, Nat.one_ne_zero, Nat.succ_ne_zero, reduceIte, if_false, List.getElem?_cons_zero, List.set_cons_zero, List.set_cons_succ, lay_nil, lay_1, lay_w, Option.map_some]
  refine test_dec (fun hx4 => ?_) (fun hx4 => ?_)
  · simp (disch := (first | omega | assumption | (simp only [push_n, set_n, put_n, List.length_cons, List.length_nil, List.length_append, Nat.reduceAdd]; done) | (simp only [push_n, set_n, put_n, List.length_cons, List.length_nil, List.length_append]; omega) | (simp only [List.all_cons, List.all_nil, one_bool, one_int, one_str, one_ptr, one_nilptr, one_slice, one_eslice, one_nilslice, one_func, one_iface, one_niliface, Bool.and_true, Bool.true_and, List.getD_cons_zero, List.getD_cons_succ, List.contains_cons, List.contains_nil, Bool.or_true, Bool.true_or, Bool.or_false, Bool.false_or, Nat.reduceBEq, *]; done) | fail)) only [go_sem, Hold.p, HoldK.k, HoldL.K, HoldL.body, Nat.reduceBEq, Nat.reduceAdd, List.getElem?_cons_zero, List.getElem?_cons_succ, Option.bind_some, List.map_cons, List.map_nil, Nat.zero_add, if_true, List.getD_cons_zero, List.getD_cons_succ, List.contains_cons, List.contains_nil, Nat.reduceBEq, Bool.or_true, Bool.true_or, Bool.or_false, Bool.false_or, Bool.not_true, Bool.not_false, true_and, and_true, rowA_whole, mid_get, stO_mid, rowO_rows, cellO_rows, push_n, set_n, push_at, push_old, set_here, set_there, set_pushT, set_pushN, set_set, upd_ne, Nat.add_assoc, Nat.reduceAdd, Nat.add_zero, stO_1s, stO_ws, boxA_s, List.all_cons, List.all_nil, one_bool, one_int, one_str, one_ptr, one_nilptr, one_slice, one_eslice, one_nilslice, one_func, one_iface, one_niliface, Bool.and_true, Bool.and_self, List.length_cons, List.length_nil, Nat.one_ne_zero, Nat.succ_ne_zero, reduceIte, if_false, List.getElem?_cons_zero, List.set_cons_zero, List.set_cons_succ, lay_nil, lay_1, lay_w, Option.map_some]
    refine bslA_of (by decide) rfl (by decide) ?_
    simp (disch := (first | omega | assumption | (simp only [push_n, set_n, put_n, List.length_cons, List.length_nil, List.length_append, Nat.reduceAdd]; done) | (simp only [push_n, set_n, put_n, List.length_cons, List.length_nil, List.length_append]; omega) | (simp only [List.all_cons, List.all_nil, one_bool, one_int, one_str, one_ptr, one_nilptr, one_slice, one_eslice, one_nilslice, one_func, one_iface, one_niliface, Bool.and_true, Bool.true_and, List.getD_cons_zero, List.getD_cons_succ, List.contains_cons, List.contains_nil, Bool.or_true, Bool.true_or, Bool.or_false, Bool.false_or, Nat.reduceBEq, *]; done) | fail)) only [go_sem, Hold.p, HoldK.k, HoldL.K, HoldL.body, Nat.reduceBEq, Nat.reduceAdd, List.getElem?_cons_zero, List.getElem?_cons_succ, Option.bind_some, List.map_cons, List.map_nil, Nat.zero_add, if_true, List.getD_cons_zero, List.getD_cons_succ, List.contains_cons, List.contains_nil, Nat.reduceBEq, Bool.or_true, Bool.true_or, Bool.or_false, Bool.false_or, Bool.not_true, Bool.not_false, true_and, and_true, rowA_whole, mid_get, stO_mid, rowO_rows, cellO_rows, push_n, set_n, push_at, push_old, set_here, set_there, set_pushT, set_pushN, set_set, upd_ne, Nat.add_assoc, Nat.reduceAdd, Nat.add_zero, stO_1s, stO_ws, boxA_s, List.all_cons, List.all_nil, one_bool, one_int, one_str, one_ptr, one_nilptr, one_slice, one_eslice, one_nilslice, one_func, one_iface, one_niliface, Bool.and_true, Bool.and_self, List.length_cons, List.length_nil, Nat.one_ne_zero, Nat.succ_ne_zero, reduceIte, if_false, List.getElem?_cons_zero, List.set_cons_zero, List.set_cons_succ, lay_nil, lay_1, lay_w, Option.map_some]
    exact Drawn.lit S1 V1 (by omega) [0, 255, 10, 10] (by simp) rfl rfl
  simp (disch := (first | omega | assumption | (simp only [push_n, set_n, put_n, List.length_cons, List.length_nil, List.length_append, Nat.reduceAdd]; done) | (simp only [push_n, set_n, put_n, List.length_cons, List.length_nil, List.length_append]; omega) | (simp only [List.all_cons, List.all_nil, one_bool, one_int, one_str, one_ptr, one_nilptr, one_slice, one_eslice, one_nilslice, one_func, one_iface, one_niliface, Bool.and_true, Bool.true_and, List.getD_cons_zero, List.getD_cons_succ, List.contains_cons, List.contains_nil, Bool.or_true, Bool.true_or, Bool.or_false, Bool.false_or, Nat.reduceBEq, *]; done) | fail)) only [go_sem, Hold.p, HoldK.k, HoldL.K, HoldL.body, Nat.reduceBEq, Nat.reduceAdd, List.getElem?_cons_zero, List.getElem?_cons_succ, Option.bind_some, List.map_cons, List.map_nil, Nat.zero_add, if_true, List.getD_cons_zero, List.getD_cons_succ, List.contains_cons, List.contains_nil, Nat.reduceBEq, Bool.or_true, Bool.true_or, Bool.or_false, Bool.false_or, Bool.not_true, Bool.not_false, true_and, and_true, rowA_whole, mid_get, stO_mid, rowO_rows, cellO_rows, push_n, set_n, push_at, push_old, set_here, set_there, set_pushT, set_pushN, set_set, upd_ne, Nat.add_assoc, Nat.reduceAdd, Nat.add_zero, stO_1s, stO_ws, boxA_s, List.all_cons, List.all_nil, one_bool, one_int, one_str, one_ptr, one_nilptr, one_slice, one_eslice, one_nilslice, one_func, one_iface, one_niliface, Bool.and_true, Bool.and_self, List.length_cons, List.length_nil, Nat.one_ne_zero, Nat.succ_ne_zero, reduceIte, if_false, List.getElem?_cons_zero, List.set_cons_zero, List.set_cons_succ, lay_nil, lay_1, lay_w, Option.map_some]
  refine callA_of (l01Next_c g p v code 40 S1 (by omega) (by omega) hl) ?_
  rintro r g2 ⟨y, rfl, y0, y1, S2, V2, hn2⟩
  have w1 : wr .i64 (1 + y) = 1 + y := wr64 _ (by omega)
  simp (disch := (first | omega | assumption | (simp only [push_n, set_n, put_n, List.length_cons, List.length_nil, List.length_append, Nat.reduceAdd]; done) | (simp only [push_n, set_n, put_n, List.length_cons, List.length_nil, List.length_append]; omega) | (simp only [List.all_cons, List.all_nil, one_bool, one_int, one_str, one_ptr, one_nilptr, one_slice, one_eslice, one_nilslice, one_func, one_iface, one_niliface, Bool.and_true, Bool.true_and, List.getD_cons_zero, List.getD_cons_succ, List.contains_cons, List.contains_nil, Bool.or_true, Bool.true_or, Bool.or_false, Bool.false_or, Nat.reduceBEq, *]; done) | fail)) only [w1, go_sem, Hold.p, HoldK.k, HoldL.K, HoldL.body, Nat.reduceBEq, Nat.reduceAdd, List.getElem?_cons_zero, List.getElem?_cons_succ, Option.bind_some, List.map_cons, List.map_nil, Nat.zero_add, if_true, List.getD_cons_zero, List.getD_cons_succ, List.contains_cons, List.contains_nil, Nat.reduceBEq, Bool.or_true, Bool.true_or, Bool.or_false, Bool.false_or, Bool.not_true, Bool.not_false, true_and, and_true, rowA_whole, mid_get, stO_mid, rowO_rows, cellO_rows, push_n, set_n, push_at, push_old, set_here, set_there, set_pushT, set_pushN, set_set, upd_ne, Nat.add_assoc, Nat.reduceAdd, Nat.add_zero, stO_1s, stO_ws, boxA_s, List.all_cons, List.all_nil, one_bool, one_int, one_str, one_ptr, one_nilptr, one_slice, one_eslice, one_nilslice, one_func, one_iface, one_niliface, Bool.and_true, Bool.and_self, List.length_cons, List.length_nil, Nat.one_ne_zero, Nat.succ_ne_zero, reduceIte, if_false, List.getElem?_cons_zero, List.set_cons_zero, List.set_cons_succ, lay_nil, lay_1, lay_w, Option.map_some]
  refine callA_of (l01Bytes_c g2 p v code (1 + y) S2 (by omega) (by omega) hl (by omega)) ?_
  rintro r g3 ⟨bs, o, hbl, S3, V3⟩
  simp (disch := (first | omega | assumption | (simp only [push_n, set_n, put_n, List.length_cons, List.length_nil, List.length_append, Nat.reduceAdd]; done) | (simp only [push_n, set_n, put_n, List.length_cons, List.length_nil, List.length_append]; omega) | (simp only [List.all_cons, List.all_nil, one_bool, one_int, one_str, one_ptr, one_nilptr, one_slice, one_eslice, one_nilslice, one_func, one_iface, one_niliface, Bool.and_true, Bool.true_and, List.getD_cons_zero, List.getD_cons_succ, List.contains_cons, List.contains_nil, Bool.or_true, Bool.true_or, Bool.or_false, Bool.false_or, Nat.reduceBEq, *]; done) | fail)) only [go_sem, Hold.p, HoldK.k, HoldL.K, HoldL.body, Nat.reduceBEq, Nat.reduceAdd, List.getElem?_cons_zero, List.getElem?_cons_succ, Option.bind_some, List.map_cons, List.map_nil, Nat.zero_add, if_true, List.getD_cons_zero, List.getD_cons_succ, List.contains_cons, List.contains_nil, Nat.reduceBEq, Bool.or_true, Bool.true_or, Bool.or_false, Bool.false_or, Bool.not_true, Bool.not_false, true_and, and_true, rowA_whole, mid_get, stO_mid, rowO_rows, cellO_rows, push_n, set_n, push_at, push_old, set_here, set_there, set_pushT, set_pushN, set_set, upd_ne, Nat.add_assoc, Nat.reduceAdd, Nat.add_zero, stO_1s, stO_ws, boxA_s, List.all_cons, List.all_nil, one_bool, one_int, one_str, one_ptr, one_nilptr, one_slice, one_eslice, one_nilslice, one_func, one_iface, one_niliface, Bool.and_true, Bool.and_self, List.length_cons, List.length_nil, Nat.one_ne_zero, Nat.succ_ne_zero, reduceIte, if_false, List.getElem?_cons_zero, List.set_cons_zero, List.set_cons_succ, lay_nil, lay_1, lay_w, Option.map_some]
  refine ⟨bs, o.sl, by omega, S3, (V1.trans V2).trans V3, fun l i n hv => ?_⟩
  have := o.at_ ⟨i, n, hv⟩
  omega
set_option maxRecDepth 20000 in
theorem drawShow_c (h : IH) (v : IV) (code : List UInt8) (hs : SlR h 1 v (strRows code)) (hl : code.length ≤ 1048576) :
    ICalls Try.prog 21 [v] h fun r h' => ∃ bs : List UInt8, SlR h' 1 r (strRows bs) ∧ bs.length ≤ 60001 ∧ Ext h h' := by
  refine icalls (.of ok21) (Nat.le_of_ble_eq_true rfl) ?_
  unfold c21
  simp (disch := (first | omega | assumption | (simp only [push_n, set_n, put_n, List.length_cons, List.length_nil, List.length_append, Nat.reduceAdd]; done) | (simp only [push_n, set_n, put_n, List.length_cons, List.length_nil, List.length_append]; omega) | (simp only [List.all_cons, List.all_nil, one_bool, one_int, one_str, one_ptr, one_nilptr, one_slice, one_eslice, one_nilslice, one_func, one_iface, one_niliface, Bool.and_true, Bool.true_and, List.getD_cons_zero, List.getD_cons_succ, List.contains_cons, List.contains_nil, Bool.or_true, Bool.true_or, Bool.or_false, Bool.false_or, Nat.reduceBEq, *]; done) | fail)) only [go_sem, Hold.p, HoldK.k, HoldL.K, HoldL.body, Nat.reduceBEq, Nat.reduceAdd, List.getElem?_cons_zero, List.getElem?_cons_succ, Option.bind_some, List.map_cons, List.map_nil, Nat.zero_add, if_true, List.getD_cons_zero, List.getD_cons_succ, List.contains_cons, List.contains_nil, Nat.reduceBEq, Bool.or_true, Bool.true_or, Bool.or_false, Bool.false_or, Bool.not_true, Bool.not_false, true_and, and_true, rowA_whole, mid_get, stO_mid, rowO_rows, cellO_rows, push_n, set_n, push_at, push_old, set_here, set_there, set_pushT, set_pushN, set_set, upd_ne, Nat.add_assoc, Nat.reduceAdd, Nat.add_zero, stO_1s, stO_ws, boxA_s, List.all_cons, List.all_nil, one_bool, one_int, one_str, one_ptr, one_nilptr, one_slice, one_eslice, one_nilslice, one_func, one_iface, one_niliface, Bool.and_true, Bool.and_self, List.length_cons, List.length_nil, Nat.one_ne_zero, Nat.succ_ne_zero, reduceIte, if_false, List.getElem?_cons_zero, List.set_cons_zero, List.set_cons_succ, lay_nil, lay_1, lay_w, Option.map_some]
  refine callA_of (l01Begin_c h v code hs hl) ?_
  rintro r g ⟨st, rfl, E⟩
  have hv1 := hs.one
  have hEg := E.le
  simp (disch := (first | omega | assumption | (simp only [push_n, set_n, put_n, List.length_cons, List.length_nil, List.length_append, Nat.reduceAdd]; done) | (simp only [push_n, set_n, put_n, List.length_cons, List.length_nil, List.length_append]; omega) | (simp only [List.all_cons, List.all_nil, one_bool, one_int, one_str, one_ptr, one_nilptr, one_slice, one_eslice, one_nilslice, one_func, one_iface, one_niliface, Bool.and_true, Bool.true_and, List.getD_cons_zero, List.getD_cons_succ, List.contains_cons, List.contains_nil, Bool.or_true, Bool.true_or, Bool.or_false, Bool.false_or, Nat.reduceBEq, *]; done) | fail)) only [go_sem, Hold.p, HoldK.k, HoldL.K, HoldL.body, Nat.reduceBEq, Nat.reduceAdd, List.getElem?_cons_zero, List.getElem?_cons_succ, Option.bind_some, List.map_cons, List.map_nil, Nat.zero_add, if_true, List.getD_cons_zero, List.getD_cons_succ, List.contains_cons, List.contains_nil, Nat.reduceBEq, Bool.or_true, Bool.true_or, Bool.or_false, Bool.false_or, Bool.not_true, Bool.not_false, true_and, and_true, rowA_whole, mid_get, stO_mid, rowO_rows, cellO_rows, push_n, set_n, push_at, push_old, set_here, set_there, set_pushT, set_pushN, set_set, upd_ne, Nat.add_assoc, Nat.reduceAdd, Nat.add_zero, stO_1s, stO_ws, boxA_s, List.all_cons, List.all_nil, one_bool, one_int, one_str, one_ptr, one_nilptr, one_slice, one_eslice, one_nilslice, one_func, one_iface, one_niliface, Bool.and_true, Bool.and_self, List.length_cons, List.length_nil, Nat.one_ne_zero, Nat.succ_ne_zero, reduceIte, if_false, List.getElem?_cons_zero, List.set_cons_zero, List.set_cons_succ, lay_nil, lay_1, lay_w, Option.map_some]
  generalize hq_g1 : IH.push g (IObj.rows [[v, .int .i64 0, .int .u64 st]] 102 3 false) = g1
  have e_g1 : Ext g g1 := by rw [← hq_g1]; exact (Ext.refl _).push _
  have l_g1 : g1.n = g.n + 1 := by rw [← hq_g1]; rfl
  have b1 : At g1 g.n (IObj.rows [[v, .int .i64 0, .int .u64 st]] 102 3 false) := by rw [← hq_g1]; exact At.new _ _
  clear hq_g1
  have E := E.ext e_g1
  have S : Src g1 g.n v code := ⟨⟨0, st, b1, by omega, by omega⟩, hs.ext E, fun l i n hv => by have := hs.lt l i n hv; omega⟩
  have hle := E.le
  have fin : ∀ {r : IV} {k : IH}, Drawn g1 k g.n v code r → ∃ bs : List UInt8, SlR k 1 r (strRows bs) ∧ bs.length ≤ 60001 ∧ Ext h k := by
    rintro r k ⟨bs, a, b, c, d, _⟩
    exact ⟨bs, a, b, E.sav d hEg⟩
  refine callA_of (l01Next_c g1 g.n v code 20 S (by omega) (by omega) hl) ?_
  rintro r g2 ⟨x, rfl, x0, x1, S2, V2, hn2⟩
  simp (disch := (first | omega | assumption | (simp only [push_n, set_n, put_n, List.length_cons, List.length_nil, List.length_append, Nat.reduceAdd]; done) | (simp only [push_n, set_n, put_n, List.length_cons, List.length_nil, List.length_append]; omega) | (simp only [List.all_cons, List.all_nil, one_bool, one_int, one_str, one_ptr, one_nilptr, one_slice, one_eslice, one_nilslice, one_func, one_iface, one_niliface, Bool.and_true, Bool.true_and, List.getD_cons_zero, List.getD_cons_succ, List.contains_cons, List.contains_nil, Bool.or_true, Bool.true_or, Bool.or_false, Bool.false_or, Nat.reduceBEq, *]; done) | fail)) only [go_sem, Hold.p, HoldK.k, HoldL.K, HoldL.body, Nat.reduceBEq, Nat.reduceAdd, List.getElem?_cons_zero, List.getElem?_cons_succ, Option.bind_some, List.map_cons, List.map_nil, Nat.zero_add, if_true, List.getD_cons_zero, List.getD_cons_succ, List.contains_cons, List.contains_nil, Nat.reduceBEq, Bool.or_true, Bool.true_or, Bool.or_false, Bool.false_or, Bool.not_true, Bool.not_false, true_and, and_true, rowA_whole, mid_get, stO_mid, rowO_rows, cellO_rows, push_n, set_n, push_at, push_old, set_here, set_there, set_pushT, set_pushN, set_set, upd_ne, Nat.add_assoc, Nat.reduceAdd, Nat.add_zero, stO_1s, stO_ws, boxA_s, List.all_cons, List.all_nil, one_bool, one_int, one_str, one_ptr, one_nilptr, one_slice, one_eslice, one_nilslice, one_func, one_iface, one_niliface, Bool.and_true, Bool.and_self, List.length_cons, List.length_nil, Nat.one_ne_zero, Nat.succ_ne_zero, reduceIte, if_false, List.getElem?_cons_zero, List.set_cons_zero, List.set_cons_succ, lay_nil, lay_1, lay_w, Option.map_some]
  refine test_dec (fun hx => ?_) (fun hx => ?_)
  · simp (disch := (first | omega | assumption | (simp only [push_n, set_n, put_n, List.length_cons, List.length_nil, List.length_append, Nat.reduceAdd]; done) | (simp only [push_n, set_n, put_n, List.length_cons, List.length_nil, List.length_append]; omega) | (simp only [List.all_cons, List.all_nil, one_bool, one_int, one_str, one_ptr, one_nilptr, one_slice, one_eslice, one_nilslice, one_func, one_iface, one_niliface, Bool.and_true, Bool.true_and, List.getD_cons_zero, List.getD_cons_succ, List.contains_cons, List.contains_nil, Bool.or_true, Bool.true_or, Bool.or_false, Bool.false_or, Nat.reduceBEq, *]; done) | fail)) only [go_sem, Hold.p, HoldK.k, HoldL.K, HoldL.body, Nat.reduceBEq, Nat.reduceAdd, List.getElem?_cons_zero, List.getElem?_cons_succ, Option.bind_some, List.map_cons, List.map_nil, Nat.zero_add, if_true, List.getD_cons_zero, List.getD_cons_succ, List.contains_cons, List.contains_nil, Nat.reduceBEq, Bool.or_true, Bool.true_or, Bool.or_false, Bool.false_or, Bool.not_true, Bool.not_false, true_and, and_true, rowA_whole, mid_get, stO_mid, rowO_rows, cellO_rows, push_n, set_n, push_at, push_old, set_here, set_there, set_pushT, set_pushN, set_set, upd_ne, Nat.add_assoc, Nat.reduceAdd, Nat.add_zero, stO_1s, stO_ws, boxA_s, List.all_cons, List.all_nil, one_bool, one_int, one_str, one_ptr, one_nilptr, one_slice, one_eslice, one_nilslice, one_func, one_iface, one_niliface, Bool.and_true, Bool.and_self, List.length_cons, List.length_nil, Nat.one_ne_zero, Nat.succ_ne_zero, reduceIte, if_false, List.getElem?_cons_zero, List.set_cons_zero, List.set_cons_succ, lay_nil, lay_1, lay_w, Option.map_some]
    refine callA_of (l01Next_c g2 g.n v code 2 S2 (by omega) (by omega) hl) ?_
    rintro r g3 ⟨y, rfl, y0, y1, S3, V3, hn3⟩
    obtain ⟨m, hm⟩ : ∃ m : Nat, 60000 + y = (m : Int) := ⟨(60000 + y).toNat, by omega⟩
    have w1 : wr .i64 (60000 + y) = (m : Int) := by rw [wr64 _ (by omega), hm]
    simp (disch := (first | omega | assumption | (simp only [push_n, set_n, put_n, List.length_cons, List.length_nil, List.length_append, Nat.reduceAdd]; done) | (simp only [push_n, set_n, put_n, List.length_cons, List.length_nil, List.length_append]; omega) | (simp only [List.all_cons, List.all_nil, one_bool, one_int, one_str, one_ptr, one_nilptr, one_slice, one_eslice, one_nilslice, one_func, one_iface, one_niliface, Bool.and_true, Bool.true_and, List.getD_cons_zero, List.getD_cons_succ, List.contains_cons, List.contains_nil, Bool.or_true, Bool.true_or, Bool.or_false, Bool.false_or, Nat.reduceBEq, *]; done) | fail)) only [w1, go_sem, Hold.p, HoldK.k, HoldL.K, HoldL.body, Nat.reduceBEq, Nat.reduceAdd, List.getElem?_cons_zero, List.getElem?_cons_succ, Option.bind_some, List.map_cons, List.map_nil, Nat.zero_add, if_true, List.getD_cons_zero, List.getD_cons_succ, List.contains_cons, List.contains_nil, Nat.reduceBEq, Bool.or_true, Bool.true_or, Bool.or_false, Bool.false_or, Bool.not_true, Bool.not_false, true_and, and_true, rowA_whole, mid_get, stO_mid, rowO_rows, cellO_rows, push_n, set_n, push_at, push_old, set_here, set_there, set_pushT, set_pushN, set_set, upd_ne, Nat.add_assoc, Nat.reduceAdd, Nat.add_zero, stO_1s, stO_ws, boxA_s, List.all_cons, List.all_nil, one_bool, one_int, one_str, one_ptr, one_nilptr, one_slice, one_eslice, one_nilslice, one_func, one_iface, one_niliface, Bool.and_true, Bool.and_self, List.length_cons, List.length_nil, Nat.one_ne_zero, Nat.succ_ne_zero, reduceIte, if_false, List.getElem?_cons_zero, List.set_cons_zero, List.set_cons_succ, lay_nil, lay_1, lay_w, Option.map_some]
    refine mksA_of (by omega) (by omega) (by omega) ?_
    simp (disch := (first | omega | assumption | (simp only [push_n, set_n, put_n, List.length_cons, List.length_nil, List.length_append, Nat.reduceAdd]; done) | (simp only [push_n, set_n, put_n, List.length_cons, List.length_nil, List.length_append]; omega) | (simp only [List.all_cons, List.all_nil, one_bool, one_int, one_str, one_ptr, one_nilptr, one_slice, one_eslice, one_nilslice, one_func, one_iface, one_niliface, Bool.and_true, Bool.true_and, List.getD_cons_zero, List.getD_cons_succ, List.contains_cons, List.contains_nil, Bool.or_true, Bool.true_or, Bool.or_false, Bool.false_or, Nat.reduceBEq, *]; done) | fail)) only [go_sem, Hold.p, HoldK.k, HoldL.K, HoldL.body, Nat.reduceBEq, Nat.reduceAdd, List.getElem?_cons_zero, List.getElem?_cons_succ, Option.bind_some, List.map_cons, List.map_nil, Nat.zero_add, if_true, List.getD_cons_zero, List.getD_cons_succ, List.contains_cons, List.contains_nil, Nat.reduceBEq, Bool.or_true, Bool.true_or, Bool.or_false, Bool.false_or, Bool.not_true, Bool.not_false, true_and, and_true, rowA_whole, mid_get, stO_mid, rowO_rows, cellO_rows, push_n, set_n, push_at, push_old, set_here, set_there, set_pushT, set_pushN, set_set, upd_ne, Nat.add_assoc, Nat.reduceAdd, Nat.add_zero, stO_1s, stO_ws, boxA_s, List.all_cons, List.all_nil, one_bool, one_int, one_str, one_ptr, one_nilptr, one_slice, one_eslice, one_nilslice, one_func, one_iface, one_niliface, Bool.and_true, Bool.and_self, List.length_cons, List.length_nil, Nat.one_ne_zero, Nat.succ_ne_zero, reduceIte, if_false, List.getElem?_cons_zero, List.set_cons_zero, List.set_cons_succ, lay_nil, lay_1, lay_w, Option.map_some]
    exact fin (Drawn.lit S3 (V2.trans V3) (by omega) (List.replicate m 0) (by simp; omega) (by simp [strRows]) (by simp))
  simp (disch := (first | omega | assumption | (simp only [push_n, set_n, put_n, List.length_cons, List.length_nil, List.length_append, Nat.reduceAdd]; done) | (simp only [push_n, set_n, put_n, List.length_cons, List.length_nil, List.length_append]; omega) | (simp only [List.all_cons, List.all_nil, one_bool, one_int, one_str, one_ptr, one_nilptr, one_slice, one_eslice, one_nilslice, one_func, one_iface, one_niliface, Bool.and_true, Bool.true_and, List.getD_cons_zero, List.getD_cons_succ, List.contains_cons, List.contains_nil, Bool.or_true, Bool.true_or, Bool.or_false, Bool.false_or, Nat.reduceBEq, *]; done) | fail)) only [go_sem, Hold.p, HoldK.k, HoldL.K, HoldL.body, Nat.reduceBEq, Nat.reduceAdd, List.getElem?_cons_zero, List.getElem?_cons_succ, Option.bind_some, List.map_cons, List.map_nil, Nat.zero_add, if_true, List.getD_cons_zero, List.getD_cons_succ, List.contains_cons, List.contains_nil, Nat.reduceBEq, Bool.or_true, Bool.true_or, Bool.or_false, Bool.false_or, Bool.not_true, Bool.not_false, true_and, and_true, rowA_whole, mid_get, stO_mid, rowO_rows, cellO_rows, push_n, set_n, push_at, push_old, set_here, set_there, set_pushT, set_pushN, set_set, upd_ne, Nat.add_assoc, Nat.reduceAdd, Nat.add_zero, stO_1s, stO_ws, boxA_s, List.all_cons, List.all_nil, one_bool, one_int, one_str, one_ptr, one_nilptr, one_slice, one_eslice, one_nilslice, one_func, one_iface, one_niliface, Bool.and_true, Bool.and_self, List.length_cons, List.length_nil, Nat.one_ne_zero, Nat.succ_ne_zero, reduceIte, if_false, List.getElem?_cons_zero, List.set_cons_zero, List.set_cons_succ, lay_nil, lay_1, lay_w, Option.map_some]
  refine callA_of (l01Bool_c g2 g.n v code S2 hl) ?_
  rintro r g3 ⟨b, rfl, S3, V3, hn3⟩
  simp (disch := (first | omega | assumption | (simp only [push_n, set_n, put_n, List.length_cons, List.length_nil, List.length_append, Nat.reduceAdd]; done) | (simp only [push_n, set_n, put_n, List.length_cons, List.length_nil, List.length_append]; omega) | (simp only [List.all_cons, List.all_nil, one_bool, one_int, one_str, one_ptr, one_nilptr, one_slice, one_eslice, one_nilslice, one_func, one_iface, one_niliface, Bool.and_true, Bool.true_and, List.getD_cons_zero, List.getD_cons_succ, List.contains_cons, List.contains_nil, Bool.or_true, Bool.true_or, Bool.or_false, Bool.false_or, Nat.reduceBEq, *]; done) | fail)) only [go_sem, Hold.p, HoldK.k, HoldL.K, HoldL.body, Nat.reduceBEq, Nat.reduceAdd, List.getElem?_cons_zero, List.getElem?_cons_succ, Option.bind_some, List.map_cons, List.map_nil, Nat.zero_add, if_true, List.getD_cons_zero, List.getD_cons_succ, List.contains_cons, List.contains_nil, Nat.reduceBEq, Bool.or_true, Bool.true_or, Bool.or_false, Bool.false_or, Bool.not_true, Bool.not_false, true_and, and_true, rowA_whole, mid_get, stO_mid, rowO_rows, cellO_rows, push_n, set_n, push_at, push_old, set_here, set_there, set_pushT, set_pushN, set_set, upd_ne, Nat.add_assoc, Nat.reduceAdd, Nat.add_zero, stO_1s, stO_ws, boxA_s, List.all_cons, List.all_nil, one_bool, one_int, one_str, one_ptr, one_nilptr, one_slice, one_eslice, one_nilslice, one_func, one_iface, one_niliface, Bool.and_true, Bool.and_self, List.length_cons, List.length_nil, Nat.one_ne_zero, Nat.succ_ne_zero, reduceIte, if_false, List.getElem?_cons_zero, List.set_cons_zero, List.set_cons_succ, lay_nil, lay_1, lay_w, Option.map_some]
  refine test_of (fun hb => ?_) (fun hb => ?_)
  · simp (disch := (first | omega | assumption | (simp only [push_n, set_n, put_n, List.length_cons, List.length_nil, List.length_append, Nat.reduceAdd]; done) | (simp only [push_n, set_n, put_n, List.length_cons, List.length_nil, List.length_append]; omega) | (simp only [List.all_cons, List.all_nil, one_bool, one_int, one_str, one_ptr, one_nilptr, one_slice, one_eslice, one_nilslice, one_func, one_iface, one_niliface, Bool.and_true, Bool.true_and, List.getD_cons_zero, List.getD_cons_succ, List.contains_cons, List.contains_nil, Bool.or_true, Bool.true_or, Bool.or_false, Bool.false_or, Nat.reduceBEq, *]; done) | fail)) only [go_sem, Hold.p, HoldK.k, HoldL.K, HoldL.body, Nat.reduceBEq, Nat.reduceAdd, List.getElem?_cons_zero, List.getElem?_cons_succ, Option.bind_some, List.map_cons, List.map_nil, Nat.zero_add, if_true, List.getD_cons_zero, List.getD_cons_succ, List.contains_cons, List.contains_nil, Nat.reduceBEq, Bool.or_true, Bool.true_or, Bool.or_false, Bool.false_or, Bool.not_true, Bool.not_false, true_and, and_true, rowA_whole, mid_get, stO_mid, rowO_rows, cellO_rows, push_n, set_n, push_at, push_old, set_here, set_there, set_pushT, set_pushN, set_set, upd_ne, Nat.add_assoc, Nat.reduceAdd, Nat.add_zero, stO_1s, stO_ws, boxA_s, List.all_cons, List.all_nil, one_bool, one_int, one_str, one_ptr, one_nilptr, one_slice, one_eslice, one_nilslice, one_func, one_iface, one_niliface, Bool.and_true, Bool.and_self, List.length_cons, List.length_nil, Nat.one_ne_zero, Nat.succ_ne_zero, reduceIte, if_false, List.getElem?_cons_zero, List.set_cons_zero, List.set_cons_succ, lay_nil, lay_1, lay_w, Option.map_some]
    refine bslA_of (by decide) rfl (by decide) ?_
    simp (disch := (first | omega | assumption | (simp only [push_n, set_n, put_n, List.length_cons, List.length_nil, List.length_append, Nat.reduceAdd]; done) | (simp only [push_n, set_n, put_n, List.length_cons, List.length_nil, List.length_append]; omega) | (simp only [List.all_cons, List.all_nil, one_bool, one_int, one_str, one_ptr, one_nilptr, one_slice, one_eslice, one_nilslice, one_func, one_iface, one_niliface, Bool.and_true, Bool.true_and, List.getD_cons_zero, List.getD_cons_succ, List.contains_cons, List.contains_nil, Bool.or_true, Bool.true_or, Bool.or_false, Bool.false_or, Nat.reduceBEq, *]; done) | fail)) only [go_sem, Hold.p, HoldK.k, HoldL.K, HoldL.body, Nat.reduceBEq, Nat.reduceAdd, List.getElem?_cons_zero, List.getElem?_cons_succ, Option.bind_some, List.map_cons, List.map_nil, Nat.zero_add, if_true, List.getD_cons_zero, List.getD_cons_succ, List.contains_cons, List.contains_nil, Nat.reduceBEq, Bool.or_true, Bool.true_or, Bool.or_false, Bool.false_or, Bool.not_true, Bool.not_false, true_and, and_true, rowA_whole, mid_get, stO_mid, rowO_rows, cellO_rows, push_n, set_n, push_at, push_old, set_here, set_there, set_pushT, set_pushN, set_set, upd_ne, Nat.add_assoc, Nat.reduceAdd, Nat.add_zero, stO_1s, stO_ws, boxA_s, List.all_cons, List.all_nil, one_bool, one_int, one_str, one_ptr, one_nilptr, one_slice, one_eslice, one_nilslice, one_func, one_iface, one_niliface, Bool.and_true, Bool.and_self, List.length_cons, List.length_nil, Nat.one_ne_zero, Nat.succ_ne_zero, reduceIte, if_false, List.getElem?_cons_zero, List.set_cons_zero, List.set_cons_succ, lay_nil, lay_1, lay_w, Option.map_some]
    generalize hrows : IH.push g3 _ = g4
    have D : Drawn g1 g4 g.n v code (.slice g3.n 0 19) := by
      rw [← hrows]
      exact Drawn.lit S3 (V2.trans V3) (by omega) [112, 108, 97, 105, 110, 47, 116, 101, 120, 116, 95, 49, 46, 120, 58, 90, 61, 37, 32] (by simp) rfl rfl
    clear hrows
    obtain ⟨bs, s1, _, S4, V4, ne4⟩ := D
    refine callA_of (l01Next_c g4 g.n v code 20 S4 (by omega) (by omega) hl) ?_
    rintro r g5 ⟨y, rfl, y0, y1, S5, V5, hn5⟩
    have s2 := s1.sav V5 ne4
    obtain ⟨m, rfl⟩ : ∃ m : Nat, y = (m : Int) := ⟨y.toNat, by omega⟩
    have hbl : bs.length = 19 := by have := s2.len; simp [ilen, strRows] at this; omega
    obtain ⟨v2, hv2, s3⟩ := s2.hi (b := m) (q := .i64) (by rw [strRows_len]; omega)
    rw [strRows_take] at s3
    simp (disch := (first | omega | assumption | (simp only [push_n, set_n, put_n, List.length_cons, List.length_nil, List.length_append, Nat.reduceAdd]; done) | (simp only [push_n, set_n, put_n, List.length_cons, List.length_nil, List.length_append]; omega) | (simp only [List.all_cons, List.all_nil, one_bool, one_int, one_str, one_ptr, one_nilptr, one_slice, one_eslice, one_nilslice, one_func, one_iface, one_niliface, Bool.and_true, Bool.true_and, List.getD_cons_zero, List.getD_cons_succ, List.contains_cons, List.contains_nil, Bool.or_true, Bool.true_or, Bool.or_false, Bool.false_or, Nat.reduceBEq, *]; done) | fail)) only [hv2, Option.map_some, Option.map_none, go_sem, Hold.p, HoldK.k, HoldL.K, HoldL.body, Nat.reduceBEq, Nat.reduceAdd, List.getElem?_cons_zero, List.getElem?_cons_succ, Option.bind_some, List.map_cons, List.map_nil, Nat.zero_add, if_true, List.getD_cons_zero, List.getD_cons_succ, List.contains_cons, List.contains_nil, Nat.reduceBEq, Bool.or_true, Bool.true_or, Bool.or_false, Bool.false_or, Bool.not_true, Bool.not_false, true_and, and_true, rowA_whole, mid_get, stO_mid, rowO_rows, cellO_rows, push_n, set_n, push_at, push_old, set_here, set_there, set_pushT, set_pushN, set_set, upd_ne, Nat.add_assoc, Nat.reduceAdd, Nat.add_zero, stO_1s, stO_ws, boxA_s, List.all_cons, List.all_nil, one_bool, one_int, one_str, one_ptr, one_nilptr, one_slice, one_eslice, one_nilslice, one_func, one_iface, one_niliface, Bool.and_true, Bool.and_self, List.length_cons, List.length_nil, Nat.one_ne_zero, Nat.succ_ne_zero, reduceIte, if_false, List.getElem?_cons_zero, List.set_cons_zero, List.set_cons_succ, lay_nil, lay_1, lay_w, Option.map_some]
    exact ⟨_, s3, by rw [List.length_take]; omega, E.sav (V4.trans V5) hEg⟩
  simp (disch := (first | omega | assumption | (simp only [push_n, set_n, put_n, List.length_cons, List.length_nil, List.length_append, Nat.reduceAdd]; done) | (simp only [push_n, set_n, put_n, List.length_cons, List.length_nil, List.length_append]; omega) | (simp only [List.all_cons, List.all_nil, one_bool, one_int, one_str, one_ptr, one_nilptr, one_slice, one_eslice, one_nilslice, one_func, one_iface, one_niliface, Bool.and_true, Bool.true_and, List.getD_cons_zero, List.getD_cons_succ, List.contains_cons, List.contains_nil, Bool.or_true, Bool.true_or, Bool.or_false, Bool.false_or, Nat.reduceBEq, *]; done) | fail)) only [go_sem, Hold.p, HoldK.k, HoldL.K, HoldL.body, Nat.reduceBEq, Nat.reduceAdd, List.getElem?_cons_zero, List.getElem?_cons_succ, Option.bind_some, List.map_cons, List.map_nil, Nat.zero_add, if_true, List.getD_cons_zero, List.getD_cons_succ, List.contains_cons, List.contains_nil, Nat.reduceBEq, Bool.or_true, Bool.true_or, Bool.or_false, Bool.false_or, Bool.not_true, Bool.not_false, true_and, and_true, rowA_whole, mid_get, stO_mid, rowO_rows, cellO_rows, push_n, set_n, push_at, push_old, set_here, set_there, set_pushT, set_pushN, set_set, upd_ne, Nat.add_assoc, Nat.reduceAdd, Nat.add_zero, stO_1s, stO_ws, boxA_s, List.all_cons, List.all_nil, one_bool, one_int, one_str, one_ptr, one_nilptr, one_slice, one_eslice, one_nilslice, one_func, one_iface, one_niliface, Bool.and_true, Bool.and_self, List.length_cons, List.length_nil, Nat.one_ne_zero, Nat.succ_ne_zero, reduceIte, if_false, List.getElem?_cons_zero, List.set_cons_zero, List.set_cons_succ, lay_nil, lay_1, lay_w, Option.map_some]
  refine callA_of (l20Body_c g3 g.n v code S3 hl (by omega)) ?_
  rintro r g4 ⟨bs, a, b, c, d, e⟩
  simp (disch := (first | omega | assumption | (simp only [push_n, set_n, put_n, List.length_cons, List.length_nil, List.length_append, Nat.reduceAdd]; done) | (simp only [push_n, set_n, put_n, List.length_cons, List.length_nil, List.length_append]; omega) | (simp only [List.all_cons, List.all_nil, one_bool, one_int, one_str, one_ptr, one_nilptr, one_slice, one_eslice, one_nilslice, one_func, one_iface, one_niliface, Bool.and_true, Bool.true_and, List.getD_cons_zero, List.getD_cons_succ, List.contains_cons, List.contains_nil, Bool.or_true, Bool.true_or, Bool.or_false, Bool.false_or, Nat.reduceBEq, *]; done) | fail)) only [go_sem, Hold.p, HoldK.k, HoldL.K, HoldL.body, Nat.reduceBEq, Nat.reduceAdd, List.getElem?_cons_zero, List.getElem?_cons_succ, Option.bind_some, List.map_cons, List.map_nil, Nat.zero_add, if_true, List.getD_cons_zero, List.getD_cons_succ, List.contains_cons, List.contains_nil, Nat.reduceBEq, Bool.or_true, Bool.true_or, Bool.or_false, Bool.false_or, Bool.not_true, Bool.not_false, true_and, and_true, rowA_whole, mid_get, stO_mid, rowO_rows, cellO_rows, push_n, set_n, push_at, push_old, set_here, set_there, set_pushT, set_pushN, set_set, upd_ne, Nat.add_assoc, Nat.reduceAdd, Nat.add_zero, stO_1s, stO_ws, boxA_s, List.all_cons, List.all_nil, one_bool, one_int, one_str, one_ptr, one_nilptr, one_slice, one_eslice, one_nilslice, one_func, one_iface, one_niliface, Bool.and_true, Bool.and_self, List.length_cons, List.length_nil, Nat.one_ne_zero, Nat.succ_ne_zero, reduceIte, if_false, List.getElem?_cons_zero, List.set_cons_zero, List.set_cons_succ, lay_nil, lay_1, lay_w, Option.map_some]
  exact ⟨bs, a, b, E.sav ((V2.trans V3).trans d) hEg⟩
end Go.Proofs.Ytecljenjlncfhaa
