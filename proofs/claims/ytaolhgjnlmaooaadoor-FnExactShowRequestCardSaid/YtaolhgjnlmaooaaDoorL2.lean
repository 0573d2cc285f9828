import Derived.Test.YtaolhgjnlmaooaaDoorL1
import Derived.Test.YtaolhgjnlmaooaaDoorK3
import Derived.Test.YtaolhgjnlmaooaaDoorProg
import Derived.KernelRfl
set_option linter.unusedSimpArgs false
set_option linter.unusedVariables false
set_option maxRecDepth 20000
namespace Go.Proofs.YtaolhgjnlmaooaaDoor
open Go Go.IW
section
attribute [local go_sem] List.getElem?_cons_zero List.getElem?_cons_succ Option.bind_some List.map_cons List.map_nil Nat.zero_add if_true List.getD_cons_zero List.getD_cons_succ List.contains_cons List.contains_nil Bool.or_true Bool.true_or Bool.or_false Bool.false_or Bool.not_true Bool.not_false true_and and_true rowA_whole mid_get stO_mid rowO_rows cellO_rows push_n set_n push_at push_old set_here set_there set_pushT set_pushN set_set upd_ne Nat.add_assoc Nat.add_zero stO_1s stO_ws boxA_s List.all_cons List.all_nil one_bool one_int one_str one_ptr one_nilptr one_slice one_eslice one_nilslice one_func one_iface one_niliface Bool.and_true Bool.and_self List.length_cons List.length_nil Nat.one_ne_zero Nat.succ_ne_zero if_false List.set_cons_zero List.set_cons_succ lay_nil lay_1 lay_w Option.map_some

theorem ne32 (c : UInt8) : (some c != some (32 : UInt8)) = !decide ((c.toNat : Int) = 32) := by
  have := u8_dec c 32
  rw [show ((32 : UInt8).toNat : Int) = 32 from rfl] at this
  rw [this]
  by_cases h : c = 32
  · subst h; rfl
  · simp [h]
theorem noEnds_cons (c : UInt8) (r : List UInt8) (d : UInt8) (hd : (c :: r)[(c :: r).length - 1]? = some d) : noEnds (c :: r) = (!decide ((c.toNat : Int) = 32) && !decide ((d.toNat : Int) = 32)) := by
  unfold noEnds
  rw [hd, List.getElem?_cons_zero, ne32, ne32]

theorem specFieldOK_c (h : IH) (n v : List UInt8) (hn : n.length ≤ 1048576) (hv : v.length ≤ 1048576) : ICalls Tryd.prog 77 [.agg [.str n, .str v]] h fun r h' => r = .bool (fieldOK n v) ∧ Ext h h' := by
  refine icalls (.of ok77) (Nat.le_of_ble_eq_true rfl) ?_
  unfold c77
  rw [fieldOK_eq]
  refine vc_split 2 (fun e g => headOK n v = true ∧ e 1 = .ptr h.n 0 0 ∧ At g h.n (.rows [[.str n, .str v]] 104 2 false) ∧ Ext h g) ?_ ?_
  · simp only [CC.split]
    simp (disch := (first | omega | assumption | (simp only [push_n, set_n, put_n, List.length_cons, List.length_nil, List.length_append, Nat.reduceAdd]; done) | (simp only [push_n, set_n, put_n, List.length_cons, List.length_nil, List.length_append]; omega) | (simp only [List.all_cons, List.all_nil, one_bool, one_int, one_str, one_ptr, one_nilptr, one_slice, one_eslice, one_nilslice, one_func, one_iface, one_niliface, Bool.and_true, Bool.true_and, List.getD_cons_zero, List.getD_cons_succ, List.contains_cons, List.contains_nil, Bool.or_true, Bool.true_or, Bool.or_false, Bool.false_or, Nat.reduceBEq, *]; done) | fail)) only [go_sem, Hold.p, HoldK.k, HoldL.K, HoldL.body, Nat.reduceBEq, Nat.reduceAdd, reduceIte]
    generalize hq_g : IH.push h (IObj.rows [[.str n, .str v]] 104 2 false) = g
    have e_g : Ext h g := by rw [← hq_g]; exact (Ext.refl _).push _
    have l_g : g.n = h.n + 1 := by rw [← hq_g]; rfl
    have b : At g h.n (IObj.rows [[.str n, .str v]] 104 2 false) := by rw [← hq_g]; exact At.new _ _
    clear hq_g
    have q := b.eq
    try simp (disch := (first | omega | assumption | (simp only [push_n, set_n, put_n, List.length_cons, List.length_nil, List.length_append, Nat.reduceAdd]; done) | (simp only [push_n, set_n, put_n, List.length_cons, List.length_nil, List.length_append]; omega) | (simp only [List.all_cons, List.all_nil, one_bool, one_int, one_str, one_ptr, one_nilptr, one_slice, one_eslice, one_nilslice, one_func, one_iface, one_niliface, Bool.and_true, Bool.true_and, List.getD_cons_zero, List.getD_cons_succ, List.contains_cons, List.contains_nil, Bool.or_true, Bool.true_or, Bool.or_false, Bool.false_or, Nat.reduceBEq, *]; done) | fail)) only [q, go_sem, Hold.p, HoldK.k, HoldL.K, HoldL.body, Nat.reduceBEq, Nat.reduceAdd, reduceIte]
    rw [headC]
    refine test_of (fun hc => ?_) (fun hc => ?_)
    · simp (disch := (first | omega | assumption | (simp only [push_n, set_n, put_n, List.length_cons, List.length_nil, List.length_append, Nat.reduceAdd]; done) | (simp only [push_n, set_n, put_n, List.length_cons, List.length_nil, List.length_append]; omega) | (simp only [List.all_cons, List.all_nil, one_bool, one_int, one_str, one_ptr, one_nilptr, one_slice, one_eslice, one_nilslice, one_func, one_iface, one_niliface, Bool.and_true, Bool.true_and, List.getD_cons_zero, List.getD_cons_succ, List.contains_cons, List.contains_nil, Bool.or_true, Bool.true_or, Bool.or_false, Bool.false_or, Nat.reduceBEq, *]; done) | fail)) only [go_sem, Hold.p, HoldK.k, HoldL.K, HoldL.body, Nat.reduceBEq, Nat.reduceAdd, reduceIte]
      refine ⟨?_, e_g⟩
      have : headOK n v = false := by simpa using hc
      rw [this]; rfl
    · simp (disch := (first | omega | assumption | (simp only [push_n, set_n, put_n, List.length_cons, List.length_nil, List.length_append, Nat.reduceAdd]; done) | (simp only [push_n, set_n, put_n, List.length_cons, List.length_nil, List.length_append]; omega) | (simp only [List.all_cons, List.all_nil, one_bool, one_int, one_str, one_ptr, one_nilptr, one_slice, one_eslice, one_nilslice, one_func, one_iface, one_niliface, Bool.and_true, Bool.true_and, List.getD_cons_zero, List.getD_cons_succ, List.contains_cons, List.contains_nil, Bool.or_true, Bool.true_or, Bool.or_false, Bool.false_or, Nat.reduceBEq, *]; done) | fail)) only [go_sem, Hold.p, HoldK.k, HoldL.K, HoldL.body, Nat.reduceBEq, Nat.reduceAdd, reduceIte]
      exact ⟨by simpa using hc, b, e_g⟩
  rintro e g ⟨hH, i1, b, E⟩
  obtain ⟨l1, l2, l3⟩ := headOK_len hH
  rw [hH]
  simp only [CC.split]
  refine vc_split 1 (fun e g => n.all nameB = true ∧ e 1 = .ptr h.n 0 0 ∧ At g h.n (.rows [[.str n, .str v]] 104 2 false) ∧ Ext h g) ?_ ?_
  · simp only [CC.split]
    simp (disch := (first | omega | assumption | (simp only [push_n, set_n, put_n, List.length_cons, List.length_nil, List.length_append, Nat.reduceAdd]; done) | (simp only [push_n, set_n, put_n, List.length_cons, List.length_nil, List.length_append]; omega) | (simp only [List.all_cons, List.all_nil, one_bool, one_int, one_str, one_ptr, one_nilptr, one_slice, one_eslice, one_nilslice, one_func, one_iface, one_niliface, Bool.and_true, Bool.true_and, List.getD_cons_zero, List.getD_cons_succ, List.contains_cons, List.contains_nil, Bool.or_true, Bool.true_or, Bool.or_false, Bool.false_or, Nat.reduceBEq, *]; done) | fail)) only [i1, go_sem, Hold.p, HoldK.k, HoldL.K, HoldL.body, Nat.reduceBEq, Nat.reduceAdd, reduceIte]
    have q := b.eq
    refine loop_at (fun m e g' => ∃ k : Nat, m = n.length - k ∧ k ≤ n.length ∧ e 1 = .ptr h.n 0 0 ∧ e 3 = .int .i64 (k : Nat) ∧ (n.take k).all nameB = true ∧ g' = g) n.length ?_ ?_
    · refine ⟨0, by omega, by omega, ?_⟩
      simp (disch := (first | omega | assumption | (simp only [push_n, set_n, put_n, List.length_cons, List.length_nil, List.length_append, Nat.reduceAdd]; done) | (simp only [push_n, set_n, put_n, List.length_cons, List.length_nil, List.length_append]; omega) | (simp only [List.all_cons, List.all_nil, one_bool, one_int, one_str, one_ptr, one_nilptr, one_slice, one_eslice, one_nilslice, one_func, one_iface, one_niliface, Bool.and_true, Bool.true_and, List.getD_cons_zero, List.getD_cons_succ, List.contains_cons, List.contains_nil, Bool.or_true, Bool.true_or, Bool.or_false, Bool.false_or, Nat.reduceBEq, *]; done) | fail)) only [i1, go_sem, Hold.p, HoldK.k, HoldL.K, HoldL.body, Nat.reduceBEq, Nat.reduceAdd, reduceIte]
      exact ⟨rfl, rfl⟩
    · clear i1 e
      rintro m e g' ⟨k, rfl, hk, i1, i3, hall, rfl⟩
      simp (disch := (first | omega | assumption | (simp only [push_n, set_n, put_n, List.length_cons, List.length_nil, List.length_append, Nat.reduceAdd]; done) | (simp only [push_n, set_n, put_n, List.length_cons, List.length_nil, List.length_append]; omega) | (simp only [List.all_cons, List.all_nil, one_bool, one_int, one_str, one_ptr, one_nilptr, one_slice, one_eslice, one_nilslice, one_func, one_iface, one_niliface, Bool.and_true, Bool.true_and, List.getD_cons_zero, List.getD_cons_succ, List.contains_cons, List.contains_nil, Bool.or_true, Bool.true_or, Bool.or_false, Bool.false_or, Nat.reduceBEq, *]; done) | fail)) only [i1, i3, q, go_sem, Hold.p, HoldK.k, HoldL.K, HoldL.body, Nat.reduceBEq, Nat.reduceAdd, reduceIte]
      refine test_dec (fun hb => ?_) (fun hb => ?_)
      · have hk' : k < n.length := by omega
        obtain ⟨x, hx⟩ : ∃ b, n[k]? = some b := ⟨_, List.getElem?_eq_getElem hk'⟩
        have hi := idxS_at (q := .i64) hx
        have w1 : wr .i64 ((k : Int) + 1) = ((k + 1 : Nat) : Int) := by rw [wr64 _ (by omega)]; rfl
        simp (disch := (first | omega | assumption | (simp only [push_n, set_n, put_n, List.length_cons, List.length_nil, List.length_append, Nat.reduceAdd]; done) | (simp only [push_n, set_n, put_n, List.length_cons, List.length_nil, List.length_append]; omega) | (simp only [List.all_cons, List.all_nil, one_bool, one_int, one_str, one_ptr, one_nilptr, one_slice, one_eslice, one_nilslice, one_func, one_iface, one_niliface, Bool.and_true, Bool.true_and, List.getD_cons_zero, List.getD_cons_succ, List.contains_cons, List.contains_nil, Bool.or_true, Bool.true_or, Bool.or_false, Bool.false_or, Nat.reduceBEq, *]; done) | fail)) only [i1, i3, q, hi, go_sem, Hold.p, HoldK.k, HoldL.K, HoldL.body, Nat.reduceBEq, Nat.reduceAdd, reduceIte]
        rw [nameC]
        refine test_of (fun hc2 => ?_) (fun hc2 => ?_)
        · simp (disch := (first | omega | assumption | (simp only [push_n, set_n, put_n, List.length_cons, List.length_nil, List.length_append, Nat.reduceAdd]; done) | (simp only [push_n, set_n, put_n, List.length_cons, List.length_nil, List.length_append]; omega) | (simp only [List.all_cons, List.all_nil, one_bool, one_int, one_str, one_ptr, one_nilptr, one_slice, one_eslice, one_nilslice, one_func, one_iface, one_niliface, Bool.and_true, Bool.true_and, List.getD_cons_zero, List.getD_cons_succ, List.contains_cons, List.contains_nil, Bool.or_true, Bool.true_or, Bool.or_false, Bool.false_or, Nat.reduceBEq, *]; done) | fail)) only [go_sem, Hold.p, HoldK.k, HoldL.K, HoldL.body, Nat.reduceBEq, Nat.reduceAdd, reduceIte]
          refine ⟨?_, E⟩
          rw [all_bad hx (by simpa using hc2)]; rfl
        · simp (disch := (first | omega | assumption | (simp only [push_n, set_n, put_n, List.length_cons, List.length_nil, List.length_append, Nat.reduceAdd]; done) | (simp only [push_n, set_n, put_n, List.length_cons, List.length_nil, List.length_append]; omega) | (simp only [List.all_cons, List.all_nil, one_bool, one_int, one_str, one_ptr, one_nilptr, one_slice, one_eslice, one_nilslice, one_func, one_iface, one_niliface, Bool.and_true, Bool.true_and, List.getD_cons_zero, List.getD_cons_succ, List.contains_cons, List.contains_nil, Bool.or_true, Bool.true_or, Bool.or_false, Bool.false_or, Nat.reduceBEq, *]; done) | fail)) only [i1, i3, w1, go_sem, Hold.p, HoldK.k, HoldL.K, HoldL.body, Nat.reduceBEq, Nat.reduceAdd, reduceIte]
          refine ⟨_, ?_, k + 1, rfl, by omega, rfl, ?_⟩
          · omega
          · rw [all_step hx, hall]; simpa using hc2
      · have hk' : k = n.length := by omega
        subst hk'
        simp (disch := (first | omega | assumption | (simp only [push_n, set_n, put_n, List.length_cons, List.length_nil, List.length_append, Nat.reduceAdd]; done) | (simp only [push_n, set_n, put_n, List.length_cons, List.length_nil, List.length_append]; omega) | (simp only [List.all_cons, List.all_nil, one_bool, one_int, one_str, one_ptr, one_nilptr, one_slice, one_eslice, one_nilslice, one_func, one_iface, one_niliface, Bool.and_true, Bool.true_and, List.getD_cons_zero, List.getD_cons_succ, List.contains_cons, List.contains_nil, Bool.or_true, Bool.true_or, Bool.or_false, Bool.false_or, Nat.reduceBEq, *]; done) | fail)) only [i1, go_sem, Hold.p, HoldK.k, HoldL.K, HoldL.body, Nat.reduceBEq, Nat.reduceAdd, reduceIte]
        rw [List.take_length] at hall
        exact ⟨hall, b, E⟩
  clear i1 b E g e
  rintro e g ⟨hN, i1, b, E⟩
  rw [hN]
  simp only [CC.split]
  refine vc_split 1 (fun e g => v.all valB = true ∧ e 1 = .ptr h.n 0 0 ∧ At g h.n (.rows [[.str n, .str v]] 104 2 false) ∧ Ext h g) ?_ ?_
  · simp only [CC.split]
    simp (disch := (first | omega | assumption | (simp only [push_n, set_n, put_n, List.length_cons, List.length_nil, List.length_append, Nat.reduceAdd]; done) | (simp only [push_n, set_n, put_n, List.length_cons, List.length_nil, List.length_append]; omega) | (simp only [List.all_cons, List.all_nil, one_bool, one_int, one_str, one_ptr, one_nilptr, one_slice, one_eslice, one_nilslice, one_func, one_iface, one_niliface, Bool.and_true, Bool.true_and, List.getD_cons_zero, List.getD_cons_succ, List.contains_cons, List.contains_nil, Bool.or_true, Bool.true_or, Bool.or_false, Bool.false_or, Nat.reduceBEq, *]; done) | fail)) only [i1, go_sem, Hold.p, HoldK.k, HoldL.K, HoldL.body, Nat.reduceBEq, Nat.reduceAdd, reduceIte]
    have q := b.eq
    refine loop_at (fun m e g' => ∃ k : Nat, m = v.length - k ∧ k ≤ v.length ∧ e 1 = .ptr h.n 0 0 ∧ e 4 = .int .i64 (k : Nat) ∧ (v.take k).all valB = true ∧ g' = g) v.length ?_ ?_
    · refine ⟨0, by omega, by omega, ?_⟩
      simp (disch := (first | omega | assumption | (simp only [push_n, set_n, put_n, List.length_cons, List.length_nil, List.length_append, Nat.reduceAdd]; done) | (simp only [push_n, set_n, put_n, List.length_cons, List.length_nil, List.length_append]; omega) | (simp only [List.all_cons, List.all_nil, one_bool, one_int, one_str, one_ptr, one_nilptr, one_slice, one_eslice, one_nilslice, one_func, one_iface, one_niliface, Bool.and_true, Bool.true_and, List.getD_cons_zero, List.getD_cons_succ, List.contains_cons, List.contains_nil, Bool.or_true, Bool.true_or, Bool.or_false, Bool.false_or, Nat.reduceBEq, *]; done) | fail)) only [i1, go_sem, Hold.p, HoldK.k, HoldL.K, HoldL.body, Nat.reduceBEq, Nat.reduceAdd, reduceIte]
      exact ⟨rfl, rfl⟩
    · clear i1 e
      rintro m e g' ⟨k, rfl, hk, i1, i4, hall, rfl⟩
      simp (disch := (first | omega | assumption | (simp only [push_n, set_n, put_n, List.length_cons, List.length_nil, List.length_append, Nat.reduceAdd]; done) | (simp only [push_n, set_n, put_n, List.length_cons, List.length_nil, List.length_append]; omega) | (simp only [List.all_cons, List.all_nil, one_bool, one_int, one_str, one_ptr, one_nilptr, one_slice, one_eslice, one_nilslice, one_func, one_iface, one_niliface, Bool.and_true, Bool.true_and, List.getD_cons_zero, List.getD_cons_succ, List.contains_cons, List.contains_nil, Bool.or_true, Bool.true_or, Bool.or_false, Bool.false_or, Nat.reduceBEq, *]; done) | fail)) only [i1, i4, q, go_sem, Hold.p, HoldK.k, HoldL.K, HoldL.body, Nat.reduceBEq, Nat.reduceAdd, reduceIte]
      refine test_dec (fun hb => ?_) (fun hb => ?_)
      · have hk' : k < v.length := by omega
        obtain ⟨x, hx⟩ : ∃ b, v[k]? = some b := ⟨_, List.getElem?_eq_getElem hk'⟩
        have hi := idxS_at (q := .i64) hx
        have w1 : wr .i64 ((k : Int) + 1) = ((k + 1 : Nat) : Int) := by rw [wr64 _ (by omega)]; rfl
        simp (disch := (first | omega | assumption | (simp only [push_n, set_n, put_n, List.length_cons, List.length_nil, List.length_append, Nat.reduceAdd]; done) | (simp only [push_n, set_n, put_n, List.length_cons, List.length_nil, List.length_append]; omega) | (simp only [List.all_cons, List.all_nil, one_bool, one_int, one_str, one_ptr, one_nilptr, one_slice, one_eslice, one_nilslice, one_func, one_iface, one_niliface, Bool.and_true, Bool.true_and, List.getD_cons_zero, List.getD_cons_succ, List.contains_cons, List.contains_nil, Bool.or_true, Bool.true_or, Bool.or_false, Bool.false_or, Nat.reduceBEq, *]; done) | fail)) only [i1, i4, q, hi, go_sem, Hold.p, HoldK.k, HoldL.K, HoldL.body, Nat.reduceBEq, Nat.reduceAdd, reduceIte]
        rw [valC]
        refine test_of (fun hc2 => ?_) (fun hc2 => ?_)
        · simp (disch := (first | omega | assumption | (simp only [push_n, set_n, put_n, List.length_cons, List.length_nil, List.length_append, Nat.reduceAdd]; done) | (simp only [push_n, set_n, put_n, List.length_cons, List.length_nil, List.length_append]; omega) | (simp only [List.all_cons, List.all_nil, one_bool, one_int, one_str, one_ptr, one_nilptr, one_slice, one_eslice, one_nilslice, one_func, one_iface, one_niliface, Bool.and_true, Bool.true_and, List.getD_cons_zero, List.getD_cons_succ, List.contains_cons, List.contains_nil, Bool.or_true, Bool.true_or, Bool.or_false, Bool.false_or, Nat.reduceBEq, *]; done) | fail)) only [go_sem, Hold.p, HoldK.k, HoldL.K, HoldL.body, Nat.reduceBEq, Nat.reduceAdd, reduceIte]
          refine ⟨?_, E⟩
          rw [all_bad hx (by simpa using hc2)]; rfl
        · simp (disch := (first | omega | assumption | (simp only [push_n, set_n, put_n, List.length_cons, List.length_nil, List.length_append, Nat.reduceAdd]; done) | (simp only [push_n, set_n, put_n, List.length_cons, List.length_nil, List.length_append]; omega) | (simp only [List.all_cons, List.all_nil, one_bool, one_int, one_str, one_ptr, one_nilptr, one_slice, one_eslice, one_nilslice, one_func, one_iface, one_niliface, Bool.and_true, Bool.true_and, List.getD_cons_zero, List.getD_cons_succ, List.contains_cons, List.contains_nil, Bool.or_true, Bool.true_or, Bool.or_false, Bool.false_or, Nat.reduceBEq, *]; done) | fail)) only [i1, i4, w1, go_sem, Hold.p, HoldK.k, HoldL.K, HoldL.body, Nat.reduceBEq, Nat.reduceAdd, reduceIte]
          refine ⟨_, ?_, k + 1, rfl, by omega, rfl, ?_⟩
          · omega
          · rw [all_step hx, hall]; simpa using hc2
      · have hk' : k = v.length := by omega
        subst hk'
        simp (disch := (first | omega | assumption | (simp only [push_n, set_n, put_n, List.length_cons, List.length_nil, List.length_append, Nat.reduceAdd]; done) | (simp only [push_n, set_n, put_n, List.length_cons, List.length_nil, List.length_append]; omega) | (simp only [List.all_cons, List.all_nil, one_bool, one_int, one_str, one_ptr, one_nilptr, one_slice, one_eslice, one_nilslice, one_func, one_iface, one_niliface, Bool.and_true, Bool.true_and, List.getD_cons_zero, List.getD_cons_succ, List.contains_cons, List.contains_nil, Bool.or_true, Bool.true_or, Bool.or_false, Bool.false_or, Nat.reduceBEq, *]; done) | fail)) only [i1, go_sem, Hold.p, HoldK.k, HoldL.K, HoldL.body, Nat.reduceBEq, Nat.reduceAdd, reduceIte]
        rw [List.take_length] at hall
        exact ⟨hall, b, E⟩
  clear i1 b E g e
  rintro e g ⟨hV, i1, b, E⟩
  rw [hV]
  simp only [CC.split]
  have q := b.eq
  cases v with
  | nil =>
    simp (disch := (first | omega | assumption | (simp only [push_n, set_n, put_n, List.length_cons, List.length_nil, List.length_append, Nat.reduceAdd]; done) | (simp only [push_n, set_n, put_n, List.length_cons, List.length_nil, List.length_append]; omega) | (simp only [List.all_cons, List.all_nil, one_bool, one_int, one_str, one_ptr, one_nilptr, one_slice, one_eslice, one_nilslice, one_func, one_iface, one_niliface, Bool.and_true, Bool.true_and, List.getD_cons_zero, List.getD_cons_succ, List.contains_cons, List.contains_nil, Bool.or_true, Bool.true_or, Bool.or_false, Bool.false_or, Nat.reduceBEq, *]; done) | fail)) only [i1, q, decide_true, Bool.true_or, go_sem, Hold.p, HoldK.k, HoldL.K, HoldL.body, Nat.reduceBEq, Nat.reduceAdd, reduceIte]
    exact ⟨rfl, E⟩
  | cons c r =>
    have d1 : decide (c :: r = []) = false := by simp
    have h0 := idx0 c r
    obtain ⟨d, hd⟩ : ∃ d, (c :: r)[(c :: r).length - 1]? = some d := ⟨_, List.getElem?_eq_getElem (by simp)⟩
    rw [noEnds_cons c r d hd]
    have hlen : 1 ≤ (c :: r).length := by simp
    generalize c :: r = v at *
    have hl := idxS_at (q := .i64) hd
    have w1 : wr .i64 ((v.length : Int) - 1) = ((v.length - 1 : Nat) : Int) := by rw [wr64 _ (by omega)]; omega
    simp (disch := (first | omega | assumption | (simp only [push_n, set_n, put_n, List.length_cons, List.length_nil, List.length_append, Nat.reduceAdd]; done) | (simp only [push_n, set_n, put_n, List.length_cons, List.length_nil, List.length_append]; omega) | (simp only [List.all_cons, List.all_nil, one_bool, one_int, one_str, one_ptr, one_nilptr, one_slice, one_eslice, one_nilslice, one_func, one_iface, one_niliface, Bool.and_true, Bool.true_and, List.getD_cons_zero, List.getD_cons_succ, List.contains_cons, List.contains_nil, Bool.or_true, Bool.true_or, Bool.or_false, Bool.false_or, Nat.reduceBEq, *]; done) | fail)) only [i1, q, d1, h0, hl, w1, go_sem, Hold.p, HoldK.k, HoldL.K, HoldL.body, Nat.reduceBEq, Nat.reduceAdd, reduceIte]
    exact ⟨by rw [Bool.true_and], E⟩

theorem trim_c (h : IH) (v : List UInt8) (hv : v.length ≤ 1048576) : ICalls Tryd.prog 91 [.str v, .str [32]] h fun r h' => r = .str (Lib.trimB v 32) ∧ h' = h := by
  refine lib_calls (Go.Proofs.enters_of Tryd.func91 (by kernel_rfl) rfl) fun ρ B w args' hG hw ha => ?_
  obtain ⟨x, y, rfl, hx, hy⟩ := args2 ha
  obtain ⟨bx, rfl, hbx⟩ := str_rel hx
  obtain ⟨bz, rfl, hbz⟩ := str_rel hy
  have hz : bz = ⟨#[32]⟩ := by
    obtain ⟨d⟩ := bz
    have : d = #[32] := by
      have h2 := congrArg List.toArray hbz
      simpa using h2
    rw [this]
  subst hz
  subst hbx
  refine ⟨.string ⟨(Lib.trimB bx.data.toList 32).toArray⟩, ?_, (Tryd.strings_Trim_one bx 32 (by decide) w ?_).mono fun e w' ⟨e1, e2⟩ => ⟨e1, ?_⟩⟩
  · have := VRel.str (ρ := ρ) ⟨(Lib.trimB bx.data.toList 32).toArray⟩
    simpa using this
  · have : bx.size = bx.data.toList.length := Lib.size_eq bx
    omega
  · rcases e2 with rfl | rfl
    · exact RowKit.Below.refl _ _
    · exact (RowKit.Below.refl _ _).drew

theorem nameI (b : UInt8) : (decide (97 ≤ (b.toNat : Int)) && decide ((b.toNat : Int) ≤ 122) || decide ((b.toNat : Int) = 45)) = nameB b := rfl

theorem implFieldOK_c (h : IH) (n v : List UInt8) (hn : n.length ≤ 1048576) (hv : v.length ≤ 1048576) : ICalls Tryd.prog 81 [.agg [.str n, .str v]] h fun r h' => r = .bool (fieldOK n v) ∧ Ext h h' := by
  refine icalls (.of ok81) (Nat.le_of_ble_eq_true rfl) ?_
  unfold c81
  rw [fieldOK_eq]
  refine vc_split 2 (fun e g => headOK n v = true ∧ e 1 = .ptr h.n 0 0 ∧ At g h.n (.rows [[.str n, .str v]] 104 2 false) ∧ Ext h g) ?_ ?_
  · simp only [CC.split]
    simp (disch := (first | omega | assumption | (simp only [push_n, set_n, put_n, List.length_cons, List.length_nil, List.length_append, Nat.reduceAdd]; done) | (simp only [push_n, set_n, put_n, List.length_cons, List.length_nil, List.length_append]; omega) | (simp only [List.all_cons, List.all_nil, one_bool, one_int, one_str, one_ptr, one_nilptr, one_slice, one_eslice, one_nilslice, one_func, one_iface, one_niliface, Bool.and_true, Bool.true_and, List.getD_cons_zero, List.getD_cons_succ, List.contains_cons, List.contains_nil, Bool.or_true, Bool.true_or, Bool.or_false, Bool.false_or, Nat.reduceBEq, *]; done) | fail)) only [go_sem, Hold.p, HoldK.k, HoldL.K, HoldL.body, Nat.reduceBEq, Nat.reduceAdd, reduceIte]
    generalize hq_g : IH.push h (IObj.rows [[.str n, .str v]] 104 2 false) = g
    have e_g : Ext h g := by rw [← hq_g]; exact (Ext.refl _).push _
    have l_g : g.n = h.n + 1 := by rw [← hq_g]; rfl
    have b : At g h.n (IObj.rows [[.str n, .str v]] 104 2 false) := by rw [← hq_g]; exact At.new _ _
    clear hq_g
    have q := b.eq
    try simp (disch := (first | omega | assumption | (simp only [push_n, set_n, put_n, List.length_cons, List.length_nil, List.length_append, Nat.reduceAdd]; done) | (simp only [push_n, set_n, put_n, List.length_cons, List.length_nil, List.length_append]; omega) | (simp only [List.all_cons, List.all_nil, one_bool, one_int, one_str, one_ptr, one_nilptr, one_slice, one_eslice, one_nilslice, one_func, one_iface, one_niliface, Bool.and_true, Bool.true_and, List.getD_cons_zero, List.getD_cons_succ, List.contains_cons, List.contains_nil, Bool.or_true, Bool.true_or, Bool.or_false, Bool.false_or, Nat.reduceBEq, *]; done) | fail)) only [q, go_sem, Hold.p, HoldK.k, HoldL.K, HoldL.body, Nat.reduceBEq, Nat.reduceAdd, reduceIte]
    rw [headC]
    refine test_of (fun hc => ?_) (fun hc => ?_)
    · simp (disch := (first | omega | assumption | (simp only [push_n, set_n, put_n, List.length_cons, List.length_nil, List.length_append, Nat.reduceAdd]; done) | (simp only [push_n, set_n, put_n, List.length_cons, List.length_nil, List.length_append]; omega) | (simp only [List.all_cons, List.all_nil, one_bool, one_int, one_str, one_ptr, one_nilptr, one_slice, one_eslice, one_nilslice, one_func, one_iface, one_niliface, Bool.and_true, Bool.true_and, List.getD_cons_zero, List.getD_cons_succ, List.contains_cons, List.contains_nil, Bool.or_true, Bool.true_or, Bool.or_false, Bool.false_or, Nat.reduceBEq, *]; done) | fail)) only [go_sem, Hold.p, HoldK.k, HoldL.K, HoldL.body, Nat.reduceBEq, Nat.reduceAdd, reduceIte]
      refine ⟨?_, e_g⟩
      have : headOK n v = false := by simpa using hc
      rw [this]; rfl
    · simp (disch := (first | omega | assumption | (simp only [push_n, set_n, put_n, List.length_cons, List.length_nil, List.length_append, Nat.reduceAdd]; done) | (simp only [push_n, set_n, put_n, List.length_cons, List.length_nil, List.length_append]; omega) | (simp only [List.all_cons, List.all_nil, one_bool, one_int, one_str, one_ptr, one_nilptr, one_slice, one_eslice, one_nilslice, one_func, one_iface, one_niliface, Bool.and_true, Bool.true_and, List.getD_cons_zero, List.getD_cons_succ, List.contains_cons, List.contains_nil, Bool.or_true, Bool.true_or, Bool.or_false, Bool.false_or, Nat.reduceBEq, *]; done) | fail)) only [go_sem, Hold.p, HoldK.k, HoldL.K, HoldL.body, Nat.reduceBEq, Nat.reduceAdd, reduceIte]
      exact ⟨by simpa using hc, b, e_g⟩
  rintro e g ⟨hH, i1, b, E⟩
  obtain ⟨l1, l2, l3⟩ := headOK_len hH
  rw [hH]
  simp only [CC.split]
  refine vc_split 1 (fun e g => n.all nameB = true ∧ e 1 = .ptr h.n 0 0 ∧ At g h.n (.rows [[.str n, .str v]] 104 2 false) ∧ Ext h g) ?_ ?_
  · simp only [CC.split]
    have q := b.eq
    have hne : n ≠ [] := by intro e0; subst e0; simp at l1
    simp (disch := (first | omega | assumption | (simp only [push_n, set_n, put_n, List.length_cons, List.length_nil, List.length_append, Nat.reduceAdd]; done) | (simp only [push_n, set_n, put_n, List.length_cons, List.length_nil, List.length_append]; omega) | (simp only [List.all_cons, List.all_nil, one_bool, one_int, one_str, one_ptr, one_nilptr, one_slice, one_eslice, one_nilslice, one_func, one_iface, one_niliface, Bool.and_true, Bool.true_and, List.getD_cons_zero, List.getD_cons_succ, List.contains_cons, List.contains_nil, Bool.or_true, Bool.true_or, Bool.or_false, Bool.false_or, Nat.reduceBEq, *]; done) | fail)) only [i1, q, go_sem, Hold.p, HoldK.k, HoldL.K, HoldL.body, Nat.reduceBEq, Nat.reduceAdd, reduceIte]
    rw [s2bA_some hne (by omega)]
    generalize hq_g1 : IH.push g (IObj.rows (strRows n) 5 1 false) = g1
    have e_g1 : Ext g g1 := by rw [← hq_g1]; exact (Ext.refl _).push _
    have l_g1 : g1.n = g.n + 1 := by rw [← hq_g1]; rfl
    have b1 : At g1 g.n (IObj.rows (strRows n) 5 1 false) := by rw [← hq_g1]; exact At.new _ _
    clear hq_g1
    have b := b.ext e_g1
    have E := E.trans e_g1
    have sl : SlR g1 1 (.slice g.n 0 n.length) (strRows n) := SlR.whole b1.eq (strRows_len _) b1.lt
    try simp (disch := (first | omega | assumption | (simp only [push_n, set_n, put_n, List.length_cons, List.length_nil, List.length_append, Nat.reduceAdd]; done) | (simp only [push_n, set_n, put_n, List.length_cons, List.length_nil, List.length_append]; omega) | (simp only [List.all_cons, List.all_nil, one_bool, one_int, one_str, one_ptr, one_nilptr, one_slice, one_eslice, one_nilslice, one_func, one_iface, one_niliface, Bool.and_true, Bool.true_and, List.getD_cons_zero, List.getD_cons_succ, List.contains_cons, List.contains_nil, Bool.or_true, Bool.true_or, Bool.or_false, Bool.false_or, Nat.reduceBEq, *]; done) | fail)) only [i1, go_sem, Hold.p, HoldK.k, HoldL.K, HoldL.body, Nat.reduceBEq, Nat.reduceAdd, reduceIte]
    refine loop_at (fun m e g' => ∃ k : Nat, m = n.length - k ∧ k ≤ n.length ∧ e 1 = .ptr h.n 0 0 ∧ e 30 = .slice g.n 0 n.length ∧ e 31 = .int .i64 (n.length : Nat) ∧ e 32 = .int .i64 (k : Nat) ∧ (n.take k).all nameB = true ∧ g' = g1) n.length ?_ ?_
    · refine ⟨0, by omega, by omega, ?_⟩
      simp (disch := (first | omega | assumption | (simp only [push_n, set_n, put_n, List.length_cons, List.length_nil, List.length_append, Nat.reduceAdd]; done) | (simp only [push_n, set_n, put_n, List.length_cons, List.length_nil, List.length_append]; omega) | (simp only [List.all_cons, List.all_nil, one_bool, one_int, one_str, one_ptr, one_nilptr, one_slice, one_eslice, one_nilslice, one_func, one_iface, one_niliface, Bool.and_true, Bool.true_and, List.getD_cons_zero, List.getD_cons_succ, List.contains_cons, List.contains_nil, Bool.or_true, Bool.true_or, Bool.or_false, Bool.false_or, Nat.reduceBEq, *]; done) | fail)) only [i1, go_sem, Hold.p, HoldK.k, HoldL.K, HoldL.body, Nat.reduceBEq, Nat.reduceAdd, reduceIte]
      first | rfl | exact ⟨rfl, rfl⟩ | exact ⟨rfl, rfl, rfl⟩
    · clear i1 e
      rintro m e g' ⟨k, rfl, hk, i1, i30, i31, i32, hall, rfl⟩
      simp (disch := (first | omega | assumption | (simp only [push_n, set_n, put_n, List.length_cons, List.length_nil, List.length_append, Nat.reduceAdd]; done) | (simp only [push_n, set_n, put_n, List.length_cons, List.length_nil, List.length_append]; omega) | (simp only [List.all_cons, List.all_nil, one_bool, one_int, one_str, one_ptr, one_nilptr, one_slice, one_eslice, one_nilslice, one_func, one_iface, one_niliface, Bool.and_true, Bool.true_and, List.getD_cons_zero, List.getD_cons_succ, List.contains_cons, List.contains_nil, Bool.or_true, Bool.true_or, Bool.or_false, Bool.false_or, Nat.reduceBEq, *]; done) | fail)) only [i31, i32, go_sem, Hold.p, HoldK.k, HoldL.K, HoldL.body, Nat.reduceBEq, Nat.reduceAdd, reduceIte]
      refine test_dec (fun hb => ?_) (fun hb => ?_)
      · have hk' : k < n.length := by omega
        obtain ⟨x, hx⟩ : ∃ b, n[k]? = some b := ⟨_, List.getElem?_eq_getElem hk'⟩
        obtain ⟨l, j, hia, hll, hrow⟩ := sl.at (m := k) (strRows_at hx) .i64
        have hcl := cellO_row hrow
        have w1 : wr .i64 ((k : Int) + 1) = ((k + 1 : Nat) : Int) := by rw [wr64 _ (by omega)]; rfl
        simp (disch := (first | omega | assumption | (simp only [push_n, set_n, put_n, List.length_cons, List.length_nil, List.length_append, Nat.reduceAdd]; done) | (simp only [push_n, set_n, put_n, List.length_cons, List.length_nil, List.length_append]; omega) | (simp only [List.all_cons, List.all_nil, one_bool, one_int, one_str, one_ptr, one_nilptr, one_slice, one_eslice, one_nilslice, one_func, one_iface, one_niliface, Bool.and_true, Bool.true_and, List.getD_cons_zero, List.getD_cons_succ, List.contains_cons, List.contains_nil, Bool.or_true, Bool.true_or, Bool.or_false, Bool.false_or, Nat.reduceBEq, *]; done) | fail)) only [i30, i32, hia, hcl, nameI, go_sem, Hold.p, HoldK.k, HoldL.K, HoldL.body, Nat.reduceBEq, Nat.reduceAdd, reduceIte]
        refine test_of (fun hc2 => ?_) (fun hc2 => ?_)
        · simp (disch := (first | omega | assumption | (simp only [push_n, set_n, put_n, List.length_cons, List.length_nil, List.length_append, Nat.reduceAdd]; done) | (simp only [push_n, set_n, put_n, List.length_cons, List.length_nil, List.length_append]; omega) | (simp only [List.all_cons, List.all_nil, one_bool, one_int, one_str, one_ptr, one_nilptr, one_slice, one_eslice, one_nilslice, one_func, one_iface, one_niliface, Bool.and_true, Bool.true_and, List.getD_cons_zero, List.getD_cons_succ, List.contains_cons, List.contains_nil, Bool.or_true, Bool.true_or, Bool.or_false, Bool.false_or, Nat.reduceBEq, *]; done) | fail)) only [go_sem, Hold.p, HoldK.k, HoldL.K, HoldL.body, Nat.reduceBEq, Nat.reduceAdd, reduceIte]
          refine ⟨?_, E⟩
          rw [all_bad hx (by simpa using hc2)]; rfl
        · simp (disch := (first | omega | assumption | (simp only [push_n, set_n, put_n, List.length_cons, List.length_nil, List.length_append, Nat.reduceAdd]; done) | (simp only [push_n, set_n, put_n, List.length_cons, List.length_nil, List.length_append]; omega) | (simp only [List.all_cons, List.all_nil, one_bool, one_int, one_str, one_ptr, one_nilptr, one_slice, one_eslice, one_nilslice, one_func, one_iface, one_niliface, Bool.and_true, Bool.true_and, List.getD_cons_zero, List.getD_cons_succ, List.contains_cons, List.contains_nil, Bool.or_true, Bool.true_or, Bool.or_false, Bool.false_or, Nat.reduceBEq, *]; done) | fail)) only [i1, i30, i31, i32, w1, go_sem, Hold.p, HoldK.k, HoldL.K, HoldL.body, Nat.reduceBEq, Nat.reduceAdd, reduceIte]
          refine ⟨_, ?_, k + 1, rfl, by omega, rfl, ?_⟩
          · omega
          · rw [all_step hx, hall]; simpa using hc2
      · have hk' : k = n.length := by omega
        subst hk'
        simp (disch := (first | omega | assumption | (simp only [push_n, set_n, put_n, List.length_cons, List.length_nil, List.length_append, Nat.reduceAdd]; done) | (simp only [push_n, set_n, put_n, List.length_cons, List.length_nil, List.length_append]; omega) | (simp only [List.all_cons, List.all_nil, one_bool, one_int, one_str, one_ptr, one_nilptr, one_slice, one_eslice, one_nilslice, one_func, one_iface, one_niliface, Bool.and_true, Bool.true_and, List.getD_cons_zero, List.getD_cons_succ, List.contains_cons, List.contains_nil, Bool.or_true, Bool.true_or, Bool.or_false, Bool.false_or, Nat.reduceBEq, *]; done) | fail)) only [i1, go_sem, Hold.p, HoldK.k, HoldL.K, HoldL.body, Nat.reduceBEq, Nat.reduceAdd, reduceIte]
        rw [List.take_length] at hall
        exact ⟨hall, b, E⟩
  clear i1 b E g e
  rintro e g ⟨hN, i1, b, E⟩
  rw [hN]
  simp only [CC.split]
  refine vc_split 1 (fun e g => v.all valB = true ∧ e 1 = .ptr h.n 0 0 ∧ At g h.n (.rows [[.str n, .str v]] 104 2 false) ∧ Ext h g) ?_ ?_
  · simp only [CC.split]
    have q := b.eq
    simp (disch := (first | omega | assumption | (simp only [push_n, set_n, put_n, List.length_cons, List.length_nil, List.length_append, Nat.reduceAdd]; done) | (simp only [push_n, set_n, put_n, List.length_cons, List.length_nil, List.length_append]; omega) | (simp only [List.all_cons, List.all_nil, one_bool, one_int, one_str, one_ptr, one_nilptr, one_slice, one_eslice, one_nilslice, one_func, one_iface, one_niliface, Bool.and_true, Bool.true_and, List.getD_cons_zero, List.getD_cons_succ, List.contains_cons, List.contains_nil, Bool.or_true, Bool.true_or, Bool.or_false, Bool.false_or, Nat.reduceBEq, *]; done) | fail)) only [i1, q, go_sem, Hold.p, HoldK.k, HoldL.K, HoldL.body, Nat.reduceBEq, Nat.reduceAdd, reduceIte]
    have hs : ∀ (K : HoldK), (∀ g1, Ext g g1 → ∀ x, SlR g1 1 x (strRows v) → K.k x g1) → @s2bA 5 (.str v) g K := by
      intro K hK
      by_cases hne : v = []
      · subst hne
        rw [s2bA_nil]
        exact hK g (Ext.refl _) _ (SlR.empty _ _ _)
      · rw [s2bA_some hne (by omega)]
        exact hK _ ((Ext.refl _).push _) _ (SlR.whole (push_new _ _) (strRows_len _) (by rw [push_n]; omega))
    refine hs _ fun g1 E1 x sl => ?_
    have b := b.ext E1
    have le_E1 := E1.le
    have E := E.trans E1
    have sll := sl.lenF
    rw [strRows_len] at sll
    simp (disch := (first | omega | assumption | (simp only [push_n, set_n, put_n, List.length_cons, List.length_nil, List.length_append, Nat.reduceAdd]; done) | (simp only [push_n, set_n, put_n, List.length_cons, List.length_nil, List.length_append]; omega) | (simp only [List.all_cons, List.all_nil, one_bool, one_int, one_str, one_ptr, one_nilptr, one_slice, one_eslice, one_nilslice, one_func, one_iface, one_niliface, Bool.and_true, Bool.true_and, List.getD_cons_zero, List.getD_cons_succ, List.contains_cons, List.contains_nil, Bool.or_true, Bool.true_or, Bool.or_false, Bool.false_or, Nat.reduceBEq, *]; done) | fail)) only [i1, sll, go_sem, Hold.p, HoldK.k, HoldL.K, HoldL.body, Nat.reduceBEq, Nat.reduceAdd, reduceIte]
    refine loop_at (fun m e g' => ∃ k : Nat, m = v.length - k ∧ k ≤ v.length ∧ e 1 = .ptr h.n 0 0 ∧ e 50 = x ∧ e 51 = .int .i64 (v.length : Nat) ∧ e 52 = .int .i64 (k : Nat) ∧ (v.take k).all valB = true ∧ g' = g1) v.length ?_ ?_
    · refine ⟨0, by omega, by omega, ?_⟩
      simp (disch := (first | omega | assumption | (simp only [push_n, set_n, put_n, List.length_cons, List.length_nil, List.length_append, Nat.reduceAdd]; done) | (simp only [push_n, set_n, put_n, List.length_cons, List.length_nil, List.length_append]; omega) | (simp only [List.all_cons, List.all_nil, one_bool, one_int, one_str, one_ptr, one_nilptr, one_slice, one_eslice, one_nilslice, one_func, one_iface, one_niliface, Bool.and_true, Bool.true_and, List.getD_cons_zero, List.getD_cons_succ, List.contains_cons, List.contains_nil, Bool.or_true, Bool.true_or, Bool.or_false, Bool.false_or, Nat.reduceBEq, *]; done) | fail)) only [i1, go_sem, Hold.p, HoldK.k, HoldL.K, HoldL.body, Nat.reduceBEq, Nat.reduceAdd, reduceIte]
      first | rfl | exact ⟨rfl, rfl⟩ | exact ⟨rfl, rfl, rfl⟩
    · clear i1 e
      rintro m e g' ⟨k, rfl, hk, i1, i50, i51, i52, hall, rfl⟩
      simp (disch := (first | omega | assumption | (simp only [push_n, set_n, put_n, List.length_cons, List.length_nil, List.length_append, Nat.reduceAdd]; done) | (simp only [push_n, set_n, put_n, List.length_cons, List.length_nil, List.length_append]; omega) | (simp only [List.all_cons, List.all_nil, one_bool, one_int, one_str, one_ptr, one_nilptr, one_slice, one_eslice, one_nilslice, one_func, one_iface, one_niliface, Bool.and_true, Bool.true_and, List.getD_cons_zero, List.getD_cons_succ, List.contains_cons, List.contains_nil, Bool.or_true, Bool.true_or, Bool.or_false, Bool.false_or, Nat.reduceBEq, *]; done) | fail)) only [i51, i52, go_sem, Hold.p, HoldK.k, HoldL.K, HoldL.body, Nat.reduceBEq, Nat.reduceAdd, reduceIte]
      refine test_dec (fun hb => ?_) (fun hb => ?_)
      · have hk' : k < v.length := by omega
        obtain ⟨y, hy⟩ : ∃ b, v[k]? = some b := ⟨_, List.getElem?_eq_getElem hk'⟩
        obtain ⟨l, j, hia, hll, hrow⟩ := sl.at (m := k) (strRows_at hy) .i64
        have hcl := cellO_row hrow
        have w1 : wr .i64 ((k : Int) + 1) = ((k + 1 : Nat) : Int) := by rw [wr64 _ (by omega)]; rfl
        simp (disch := (first | omega | assumption | (simp only [push_n, set_n, put_n, List.length_cons, List.length_nil, List.length_append, Nat.reduceAdd]; done) | (simp only [push_n, set_n, put_n, List.length_cons, List.length_nil, List.length_append]; omega) | (simp only [List.all_cons, List.all_nil, one_bool, one_int, one_str, one_ptr, one_nilptr, one_slice, one_eslice, one_nilslice, one_func, one_iface, one_niliface, Bool.and_true, Bool.true_and, List.getD_cons_zero, List.getD_cons_succ, List.contains_cons, List.contains_nil, Bool.or_true, Bool.true_or, Bool.or_false, Bool.false_or, Nat.reduceBEq, *]; done) | fail)) only [i50, i52, hia, hcl, go_sem, Hold.p, HoldK.k, HoldL.K, HoldL.body, Nat.reduceBEq, Nat.reduceAdd, reduceIte]
        rw [valC]
        refine test_of (fun hc2 => ?_) (fun hc2 => ?_)
        · simp (disch := (first | omega | assumption | (simp only [push_n, set_n, put_n, List.length_cons, List.length_nil, List.length_append, Nat.reduceAdd]; done) | (simp only [push_n, set_n, put_n, List.length_cons, List.length_nil, List.length_append]; omega) | (simp only [List.all_cons, List.all_nil, one_bool, one_int, one_str, one_ptr, one_nilptr, one_slice, one_eslice, one_nilslice, one_func, one_iface, one_niliface, Bool.and_true, Bool.true_and, List.getD_cons_zero, List.getD_cons_succ, List.contains_cons, List.contains_nil, Bool.or_true, Bool.true_or, Bool.or_false, Bool.false_or, Nat.reduceBEq, *]; done) | fail)) only [go_sem, Hold.p, HoldK.k, HoldL.K, HoldL.body, Nat.reduceBEq, Nat.reduceAdd, reduceIte]
          refine ⟨?_, E⟩
          rw [all_bad hy (by simpa using hc2)]; rfl
        · simp (disch := (first | omega | assumption | (simp only [push_n, set_n, put_n, List.length_cons, List.length_nil, List.length_append, Nat.reduceAdd]; done) | (simp only [push_n, set_n, put_n, List.length_cons, List.length_nil, List.length_append]; omega) | (simp only [List.all_cons, List.all_nil, one_bool, one_int, one_str, one_ptr, one_nilptr, one_slice, one_eslice, one_nilslice, one_func, one_iface, one_niliface, Bool.and_true, Bool.true_and, List.getD_cons_zero, List.getD_cons_succ, List.contains_cons, List.contains_nil, Bool.or_true, Bool.true_or, Bool.or_false, Bool.false_or, Nat.reduceBEq, *]; done) | fail)) only [i1, i50, i51, i52, w1, go_sem, Hold.p, HoldK.k, HoldL.K, HoldL.body, Nat.reduceBEq, Nat.reduceAdd, reduceIte]
          refine ⟨_, ?_, k + 1, rfl, by omega, rfl, ?_⟩
          · omega
          · rw [all_step hy, hall]; simpa using hc2
      · have hk' : k = v.length := by omega
        subst hk'
        simp (disch := (first | omega | assumption | (simp only [push_n, set_n, put_n, List.length_cons, List.length_nil, List.length_append, Nat.reduceAdd]; done) | (simp only [push_n, set_n, put_n, List.length_cons, List.length_nil, List.length_append]; omega) | (simp only [List.all_cons, List.all_nil, one_bool, one_int, one_str, one_ptr, one_nilptr, one_slice, one_eslice, one_nilslice, one_func, one_iface, one_niliface, Bool.and_true, Bool.true_and, List.getD_cons_zero, List.getD_cons_succ, List.contains_cons, List.contains_nil, Bool.or_true, Bool.true_or, Bool.or_false, Bool.false_or, Nat.reduceBEq, *]; done) | fail)) only [i1, go_sem, Hold.p, HoldK.k, HoldL.K, HoldL.body, Nat.reduceBEq, Nat.reduceAdd, reduceIte]
        rw [List.take_length] at hall
        exact ⟨hall, b, E⟩
  clear i1 b E g e
  rintro e g ⟨hV, i1, b, E⟩
  rw [hV]
  simp only [CC.split]
  have q := b.eq
  simp (disch := (first | omega | assumption | (simp only [push_n, set_n, put_n, List.length_cons, List.length_nil, List.length_append, Nat.reduceAdd]; done) | (simp only [push_n, set_n, put_n, List.length_cons, List.length_nil, List.length_append]; omega) | (simp only [List.all_cons, List.all_nil, one_bool, one_int, one_str, one_ptr, one_nilptr, one_slice, one_eslice, one_nilslice, one_func, one_iface, one_niliface, Bool.and_true, Bool.true_and, List.getD_cons_zero, List.getD_cons_succ, List.contains_cons, List.contains_nil, Bool.or_true, Bool.true_or, Bool.or_false, Bool.false_or, Nat.reduceBEq, *]; done) | fail)) only [i1, q, go_sem, Hold.p, HoldK.k, HoldL.K, HoldL.body, Nat.reduceBEq, Nat.reduceAdd, reduceIte]
  refine callA_of (trim_c g v hv) ?_
  rintro r g' ⟨rfl, rfl⟩
  simp (disch := (first | omega | assumption | (simp only [push_n, set_n, put_n, List.length_cons, List.length_nil, List.length_append, Nat.reduceAdd]; done) | (simp only [push_n, set_n, put_n, List.length_cons, List.length_nil, List.length_append]; omega) | (simp only [List.all_cons, List.all_nil, one_bool, one_int, one_str, one_ptr, one_nilptr, one_slice, one_eslice, one_nilslice, one_func, one_iface, one_niliface, Bool.and_true, Bool.true_and, List.getD_cons_zero, List.getD_cons_succ, List.contains_cons, List.contains_nil, Bool.or_true, Bool.true_or, Bool.or_false, Bool.false_or, Nat.reduceBEq, *]; done) | fail)) only [i1, q, trim_same, go_sem, Hold.p, HoldK.k, HoldL.K, HoldL.body, Nat.reduceBEq, Nat.reduceAdd, reduceIte]
  exact ⟨by rw [Bool.true_and], E⟩

/-! Lists of fields. -/
theorem fldRows_len (l : List Fld) : (fldRows l).length = l.length := by simp [fldRows]
theorem fldRows_at {l : List Fld} {k : Nat} {x : Fld} (h : l[k]? = some x) : (fldRows l)[k]? = some [.str x.1, .str x.2] := by simp [fldRows, h]
def fldB (f : Fld) : Bool := fieldOK f.1 f.2
/-- No word is longer than any machine holds. -/
def FldS (l : List Fld) : Prop := ∀ f ∈ l, f.1.length ≤ 1048576 ∧ f.2.length ≤ 1048576
theorem notField_c (h : IH) (f : Fld) (hf : f.1.length ≤ 1048576 ∧ f.2.length ≤ 1048576) : ICalls Tryd.prog 80 [.agg [.str f.1, .str f.2]] h fun r h' => r = .bool (!fldB f) ∧ Ext h h' := by
  refine icalls (.of ok80) (Nat.le_of_ble_eq_true rfl) ?_
  unfold c80
  simp (disch := (first | omega | assumption | (simp only [push_n, set_n, put_n, List.length_cons, List.length_nil, List.length_append, Nat.reduceAdd]; done) | (simp only [push_n, set_n, put_n, List.length_cons, List.length_nil, List.length_append]; omega) | (simp only [List.all_cons, List.all_nil, one_bool, one_int, one_str, one_ptr, one_nilptr, one_slice, one_eslice, one_nilslice, one_func, one_iface, one_niliface, Bool.and_true, Bool.true_and, List.getD_cons_zero, List.getD_cons_succ, List.contains_cons, List.contains_nil, Bool.or_true, Bool.true_or, Bool.or_false, Bool.false_or, Nat.reduceBEq, *]; done) | fail)) only [go_sem, Hold.p, HoldK.k, HoldL.K, HoldL.body, Nat.reduceBEq, Nat.reduceAdd, reduceIte]
  generalize hq_g : IH.push h (IObj.rows [[.str f.1, .str f.2]] 104 2 false) = g
  have e_g : Ext h g := by rw [← hq_g]; exact (Ext.refl _).push _
  have l_g : g.n = h.n + 1 := by rw [← hq_g]; rfl
  have b : At g h.n (IObj.rows [[.str f.1, .str f.2]] 104 2 false) := by rw [← hq_g]; exact At.new _ _
  clear hq_g
  have q := b.eq
  try simp (disch := (first | omega | assumption | (simp only [push_n, set_n, put_n, List.length_cons, List.length_nil, List.length_append, Nat.reduceAdd]; done) | (simp only [push_n, set_n, put_n, List.length_cons, List.length_nil, List.length_append]; omega) | (simp only [List.all_cons, List.all_nil, one_bool, one_int, one_str, one_ptr, one_nilptr, one_slice, one_eslice, one_nilslice, one_func, one_iface, one_niliface, Bool.and_true, Bool.true_and, List.getD_cons_zero, List.getD_cons_succ, List.contains_cons, List.contains_nil, Bool.or_true, Bool.true_or, Bool.or_false, Bool.false_or, Nat.reduceBEq, *]; done) | fail)) only [q, go_sem, Hold.p, HoldK.k, HoldL.K, HoldL.body, Nat.reduceBEq, Nat.reduceAdd, reduceIte]
  refine callA_of (implFieldOK_c g f.1 f.2 hf.1 hf.2) ?_
  rintro r g1 ⟨rfl, E1⟩
  simp (disch := (first | omega | assumption | (simp only [push_n, set_n, put_n, List.length_cons, List.length_nil, List.length_append, Nat.reduceAdd]; done) | (simp only [push_n, set_n, put_n, List.length_cons, List.length_nil, List.length_append]; omega) | (simp only [List.all_cons, List.all_nil, one_bool, one_int, one_str, one_ptr, one_nilptr, one_slice, one_eslice, one_nilslice, one_func, one_iface, one_niliface, Bool.and_true, Bool.true_and, List.getD_cons_zero, List.getD_cons_succ, List.contains_cons, List.contains_nil, Bool.or_true, Bool.true_or, Bool.or_false, Bool.false_or, Nat.reduceBEq, *]; done) | fail)) only [go_sem, Hold.p, HoldK.k, HoldL.K, HoldL.body, Nat.reduceBEq, Nat.reduceAdd, reduceIte]
  exact ⟨rfl, e_g.trans E1⟩
theorem indexField_c (h : IH) (v : IV) (fs : List Fld) (hs : SlR h 2 v (fldRows fs)) (hm : fs.length ≤ 1048576) (hF : FldS fs) :
    ICalls Tryd.prog 90 [v, .func 80 [] []] h fun r h' => (∃ n : Int, r = .int .i64 n ∧ decide (0 ≤ n) = !fs.all fldB) ∧ Ext h h' := by
  refine icalls (.of ok90) (Nat.le_of_ble_eq_true rfl) ?_
  unfold c90
  have hlen := hs.lenF
  rw [fldRows_len] at hlen
  simp (disch := (first | omega | assumption | (simp only [push_n, set_n, put_n, List.length_cons, List.length_nil, List.length_append, Nat.reduceAdd]; done) | (simp only [push_n, set_n, put_n, List.length_cons, List.length_nil, List.length_append]; omega) | (simp only [List.all_cons, List.all_nil, one_bool, one_int, one_str, one_ptr, one_nilptr, one_slice, one_eslice, one_nilslice, one_func, one_iface, one_niliface, Bool.and_true, Bool.true_and, List.getD_cons_zero, List.getD_cons_succ, List.contains_cons, List.contains_nil, Bool.or_true, Bool.true_or, Bool.or_false, Bool.false_or, Nat.reduceBEq, *]; done) | fail)) only [hlen, go_sem, Hold.p, HoldK.k, HoldL.K, HoldL.body, Nat.reduceBEq, Nat.reduceAdd, reduceIte]
  refine loop_at (fun m e g => ∃ k : Nat, m = fs.length - k ∧ k ≤ fs.length ∧ e 0 = v ∧ e 1 = .func 80 [] [] ∧ e 7 = .int .i64 (fs.length : Nat) ∧ e 8 = .int .i64 (k : Nat) ∧ (fs.take k).all fldB = true ∧ Ext h g) fs.length ?_ ?_
  · refine ⟨0, by omega, by omega, ?_⟩
    simp (disch := (first | omega | assumption | (simp only [push_n, set_n, put_n, List.length_cons, List.length_nil, List.length_append, Nat.reduceAdd]; done) | (simp only [push_n, set_n, put_n, List.length_cons, List.length_nil, List.length_append]; omega) | (simp only [List.all_cons, List.all_nil, one_bool, one_int, one_str, one_ptr, one_nilptr, one_slice, one_eslice, one_nilslice, one_func, one_iface, one_niliface, Bool.and_true, Bool.true_and, List.getD_cons_zero, List.getD_cons_succ, List.contains_cons, List.contains_nil, Bool.or_true, Bool.true_or, Bool.or_false, Bool.false_or, Nat.reduceBEq, *]; done) | fail)) only [go_sem, Hold.p, HoldK.k, HoldL.K, HoldL.body, Nat.reduceBEq, Nat.reduceAdd, reduceIte]
    exact ⟨rfl, by simp, Ext.refl _⟩
  · rintro m e g ⟨k, rfl, hk, i0, i1, i7, i8, hall, E⟩
    simp (disch := (first | omega | assumption | (simp only [push_n, set_n, put_n, List.length_cons, List.length_nil, List.length_append, Nat.reduceAdd]; done) | (simp only [push_n, set_n, put_n, List.length_cons, List.length_nil, List.length_append]; omega) | (simp only [List.all_cons, List.all_nil, one_bool, one_int, one_str, one_ptr, one_nilptr, one_slice, one_eslice, one_nilslice, one_func, one_iface, one_niliface, Bool.and_true, Bool.true_and, List.getD_cons_zero, List.getD_cons_succ, List.contains_cons, List.contains_nil, Bool.or_true, Bool.true_or, Bool.or_false, Bool.false_or, Nat.reduceBEq, *]; done) | fail)) only [i7, i8, go_sem, Hold.p, HoldK.k, HoldL.K, HoldL.body, Nat.reduceBEq, Nat.reduceAdd, reduceIte]
    refine test_dec (fun hb => ?_) (fun hb => ?_)
    · have hk' : k < fs.length := by omega
      obtain ⟨f, hf⟩ : ∃ b, fs[k]? = some b := ⟨_, List.getElem?_eq_getElem hk'⟩
      obtain ⟨l, j, hia, hll, hrow⟩ := (hs.ext E).at (m := k) (fldRows_at hf) .i64
      have w1 : wr .i64 ((k : Int) + 1) = ((k + 1 : Nat) : Int) := by rw [wr64 _ (by omega)]; rfl
      simp (disch := (first | omega | assumption | (simp only [push_n, set_n, put_n, List.length_cons, List.length_nil, List.length_append, Nat.reduceAdd]; done) | (simp only [push_n, set_n, put_n, List.length_cons, List.length_nil, List.length_append]; omega) | (simp only [List.all_cons, List.all_nil, one_bool, one_int, one_str, one_ptr, one_nilptr, one_slice, one_eslice, one_nilslice, one_func, one_iface, one_niliface, Bool.and_true, Bool.true_and, List.getD_cons_zero, List.getD_cons_succ, List.contains_cons, List.contains_nil, Bool.or_true, Bool.true_or, Bool.or_false, Bool.false_or, Nat.reduceBEq, *]; done) | fail)) only [i0, i1, i8, hia, hrow, List.nil_append, List.append_nil, go_sem, Hold.p, HoldK.k, HoldL.K, HoldL.body, Nat.reduceBEq, Nat.reduceAdd, reduceIte]
      refine callA_of (notField_c g f (hF f (List.mem_of_getElem? hf))) ?_
      rintro r g1 ⟨rfl, E1⟩
      simp (disch := (first | omega | assumption | (simp only [push_n, set_n, put_n, List.length_cons, List.length_nil, List.length_append, Nat.reduceAdd]; done) | (simp only [push_n, set_n, put_n, List.length_cons, List.length_nil, List.length_append]; omega) | (simp only [List.all_cons, List.all_nil, one_bool, one_int, one_str, one_ptr, one_nilptr, one_slice, one_eslice, one_nilslice, one_func, one_iface, one_niliface, Bool.and_true, Bool.true_and, List.getD_cons_zero, List.getD_cons_succ, List.contains_cons, List.contains_nil, Bool.or_true, Bool.true_or, Bool.or_false, Bool.false_or, Nat.reduceBEq, *]; done) | fail)) only [i0, i1, i7, i8, go_sem, Hold.p, HoldK.k, HoldL.K, HoldL.body, Nat.reduceBEq, Nat.reduceAdd, reduceIte]
      refine test_of (fun hc2 => ?_) (fun hc2 => ?_)
      · simp (disch := (first | omega | assumption | (simp only [push_n, set_n, put_n, List.length_cons, List.length_nil, List.length_append, Nat.reduceAdd]; done) | (simp only [push_n, set_n, put_n, List.length_cons, List.length_nil, List.length_append]; omega) | (simp only [List.all_cons, List.all_nil, one_bool, one_int, one_str, one_ptr, one_nilptr, one_slice, one_eslice, one_nilslice, one_func, one_iface, one_niliface, Bool.and_true, Bool.true_and, List.getD_cons_zero, List.getD_cons_succ, List.contains_cons, List.contains_nil, Bool.or_true, Bool.true_or, Bool.or_false, Bool.false_or, Nat.reduceBEq, *]; done) | fail)) only [go_sem, Hold.p, HoldK.k, HoldL.K, HoldL.body, Nat.reduceBEq, Nat.reduceAdd, reduceIte]
        refine ⟨⟨_, rfl, ?_⟩, E.trans E1⟩
        rw [all_bad hf (by simpa using hc2)]
        exact decide_eq_true (by omega)
      · simp (disch := (first | omega | assumption | (simp only [push_n, set_n, put_n, List.length_cons, List.length_nil, List.length_append, Nat.reduceAdd]; done) | (simp only [push_n, set_n, put_n, List.length_cons, List.length_nil, List.length_append]; omega) | (simp only [List.all_cons, List.all_nil, one_bool, one_int, one_str, one_ptr, one_nilptr, one_slice, one_eslice, one_nilslice, one_func, one_iface, one_niliface, Bool.and_true, Bool.true_and, List.getD_cons_zero, List.getD_cons_succ, List.contains_cons, List.contains_nil, Bool.or_true, Bool.true_or, Bool.or_false, Bool.false_or, Nat.reduceBEq, *]; done) | fail)) only [i0, i1, i7, i8, w1, go_sem, Hold.p, HoldK.k, HoldL.K, HoldL.body, Nat.reduceBEq, Nat.reduceAdd, reduceIte]
        refine ⟨_, ?_, k + 1, rfl, by omega, rfl, ?_, E.trans E1⟩
        · omega
        · rw [all_step hf, hall]; simpa using hc2
    · have hk' : k = fs.length := by omega
      subst hk'
      simp (disch := (first | omega | assumption | (simp only [push_n, set_n, put_n, List.length_cons, List.length_nil, List.length_append, Nat.reduceAdd]; done) | (simp only [push_n, set_n, put_n, List.length_cons, List.length_nil, List.length_append]; omega) | (simp only [List.all_cons, List.all_nil, one_bool, one_int, one_str, one_ptr, one_nilptr, one_slice, one_eslice, one_nilslice, one_func, one_iface, one_niliface, Bool.and_true, Bool.true_and, List.getD_cons_zero, List.getD_cons_succ, List.contains_cons, List.contains_nil, Bool.or_true, Bool.true_or, Bool.or_false, Bool.false_or, Nat.reduceBEq, *]; done) | fail)) only [go_sem, Hold.p, HoldK.k, HoldL.K, HoldL.body, Nat.reduceBEq, Nat.reduceAdd, reduceIte]
      rw [List.take_length] at hall
      exact ⟨⟨-1, rfl, by rw [hall]; rfl⟩, E⟩
theorem containsField_c (h : IH) (v : IV) (fs : List Fld) (hs : SlR h 2 v (fldRows fs)) (hm : fs.length ≤ 1048576) (hF : FldS fs) :
    ICalls Tryd.prog 79 [v, .func 80 [] []] h fun r h' => r = .bool (!fs.all fldB) ∧ Ext h h' := by
  refine icalls (.of ok79) (Nat.le_of_ble_eq_true rfl) ?_
  unfold c79
  simp (disch := (first | omega | assumption | (simp only [push_n, set_n, put_n, List.length_cons, List.length_nil, List.length_append, Nat.reduceAdd]; done) | (simp only [push_n, set_n, put_n, List.length_cons, List.length_nil, List.length_append]; omega) | (simp only [List.all_cons, List.all_nil, one_bool, one_int, one_str, one_ptr, one_nilptr, one_slice, one_eslice, one_nilslice, one_func, one_iface, one_niliface, Bool.and_true, Bool.true_and, List.getD_cons_zero, List.getD_cons_succ, List.contains_cons, List.contains_nil, Bool.or_true, Bool.true_or, Bool.or_false, Bool.false_or, Nat.reduceBEq, *]; done) | fail)) only [go_sem, Hold.p, HoldK.k, HoldL.K, HoldL.body, Nat.reduceBEq, Nat.reduceAdd, reduceIte]
  refine callA_of (indexField_c h v fs hs hm hF) ?_
  rintro r h' ⟨⟨n, rfl, hn⟩, E⟩
  simp (disch := (first | omega | assumption | (simp only [push_n, set_n, put_n, List.length_cons, List.length_nil, List.length_append, Nat.reduceAdd]; done) | (simp only [push_n, set_n, put_n, List.length_cons, List.length_nil, List.length_append]; omega) | (simp only [List.all_cons, List.all_nil, one_bool, one_int, one_str, one_ptr, one_nilptr, one_slice, one_eslice, one_nilslice, one_func, one_iface, one_niliface, Bool.and_true, Bool.true_and, List.getD_cons_zero, List.getD_cons_succ, List.contains_cons, List.contains_nil, Bool.or_true, Bool.true_or, Bool.or_false, Bool.false_or, Nat.reduceBEq, *]; done) | fail)) only [hn, go_sem, Hold.p, HoldK.k, HoldL.K, HoldL.body, Nat.reduceBEq, Nat.reduceAdd, reduceIte]
  exact E
def restB (fs : List Fld) (bl : Nat) : Bool := (decide ((fs.length : Int) ≤ 16) && decide ((bl : Int) ≤ 60000)) && fs.all fldB
theorem implRest_c (h : IH) (v w : IV) (fs : List Fld) (body : List UInt8) (hs : SlR h 2 v (fldRows fs)) (hw : SlR h 1 w (strRows body)) (hm : fs.length ≤ 1048576) (hF : FldS fs) :
    ICalls Tryd.prog 67 [v, w] h fun r h' => r = .bool (restB fs body.length) ∧ Ext h h' := by
  refine icalls (.of ok67) (Nat.le_of_ble_eq_true rfl) ?_
  unfold c67
  have hlen := hs.lenF
  rw [fldRows_len] at hlen
  have hlen2 := hw.lenF
  rw [strRows_len] at hlen2
  simp (disch := (first | omega | assumption | (simp only [push_n, set_n, put_n, List.length_cons, List.length_nil, List.length_append, Nat.reduceAdd]; done) | (simp only [push_n, set_n, put_n, List.length_cons, List.length_nil, List.length_append]; omega) | (simp only [List.all_cons, List.all_nil, one_bool, one_int, one_str, one_ptr, one_nilptr, one_slice, one_eslice, one_nilslice, one_func, one_iface, one_niliface, Bool.and_true, Bool.true_and, List.getD_cons_zero, List.getD_cons_succ, List.contains_cons, List.contains_nil, Bool.or_true, Bool.true_or, Bool.or_false, Bool.false_or, Nat.reduceBEq, *]; done) | fail)) only [hlen, hlen2, go_sem, Hold.p, HoldK.k, HoldL.K, HoldL.body, Nat.reduceBEq, Nat.reduceAdd, reduceIte]
  refine guard_extT (v := .bool (!fs.all fldB)) (fun hb => ?_) (fun g E => ?_)
  · simp (disch := (first | omega | assumption | (simp only [push_n, set_n, put_n, List.length_cons, List.length_nil, List.length_append, Nat.reduceAdd]; done) | (simp only [push_n, set_n, put_n, List.length_cons, List.length_nil, List.length_append]; omega) | (simp only [List.all_cons, List.all_nil, one_bool, one_int, one_str, one_ptr, one_nilptr, one_slice, one_eslice, one_nilslice, one_func, one_iface, one_niliface, Bool.and_true, Bool.true_and, List.getD_cons_zero, List.getD_cons_succ, List.contains_cons, List.contains_nil, Bool.or_true, Bool.true_or, Bool.or_false, Bool.false_or, Nat.reduceBEq, *]; done) | fail)) only [hb, go_sem, Hold.p, HoldK.k, HoldL.K, HoldL.body, Nat.reduceBEq, Nat.reduceAdd, reduceIte]
    exact containsField_c h v fs hs hm hF
  simp (disch := (first | omega | assumption | (simp only [push_n, set_n, put_n, List.length_cons, List.length_nil, List.length_append, Nat.reduceAdd]; done) | (simp only [push_n, set_n, put_n, List.length_cons, List.length_nil, List.length_append]; omega) | (simp only [List.all_cons, List.all_nil, one_bool, one_int, one_str, one_ptr, one_nilptr, one_slice, one_eslice, one_nilslice, one_func, one_iface, one_niliface, Bool.and_true, Bool.true_and, List.getD_cons_zero, List.getD_cons_succ, List.contains_cons, List.contains_nil, Bool.or_true, Bool.true_or, Bool.or_false, Bool.false_or, Nat.reduceBEq, *]; done) | fail)) only [go_sem, Hold.p, HoldK.k, HoldL.K, HoldL.body, Nat.reduceBEq, Nat.reduceAdd, reduceIte]
  refine ⟨?_, E⟩
  unfold restB
  rw [Bool.not_not]
end
end Go.Proofs.YtaolhgjnlmaooaaDoor

set_option maxRecDepth 20000
namespace Go.Proofs.YtaolhgjnlmaooaaDoor
open Go Go.IW
section
attribute [local go_sem] List.getElem?_cons_zero List.getElem?_cons_succ Option.bind_some List.map_cons List.map_nil Nat.zero_add if_true List.getD_cons_zero List.getD_cons_succ List.contains_cons List.contains_nil Bool.or_true Bool.true_or Bool.or_false Bool.false_or Bool.not_true Bool.not_false true_and and_true rowA_whole mid_get stO_mid rowO_rows cellO_rows push_n set_n push_at push_old set_here set_there set_pushT set_pushN set_set upd_ne Nat.add_assoc Nat.add_zero stO_1s stO_ws boxA_s List.all_cons List.all_nil one_bool one_int one_str one_ptr one_nilptr one_slice one_eslice one_nilslice one_func one_iface one_niliface Bool.and_true Bool.and_self List.length_cons List.length_nil Nat.one_ne_zero Nat.succ_ne_zero if_false List.set_cons_zero List.set_cons_succ lay_nil lay_1 lay_w Option.map_some

theorem restC (a b : Nat) : (decide (16 < (a : Int)) || decide (60000 < (b : Int))) = !(decide ((a : Int) ≤ 16) && decide ((b : Int) ≤ 60000)) := by
  rw [lt_not, lt_not]
  simp only [Bool.not_and]
theorem specRest_c (h : IH) (v w : IV) (fs : List Fld) (body : List UInt8) (hs : SlR h 2 v (fldRows fs)) (hw : SlR h 1 w (strRows body)) (hm : fs.length ≤ 1048576) (hF : FldS fs) :
    ICalls Tryd.prog 64 [v, w] h fun r h' => r = .bool (restB fs body.length) ∧ Ext h h' := by
  refine icalls (.of ok64) (Nat.le_of_ble_eq_true rfl) ?_
  unfold c64 restB
  have hlen := hs.lenF
  rw [fldRows_len] at hlen
  have hlen2 := hw.lenF
  rw [strRows_len] at hlen2
  simp (disch := (first | omega | assumption | (simp only [push_n, set_n, put_n, List.length_cons, List.length_nil, List.length_append, Nat.reduceAdd]; done) | (simp only [push_n, set_n, put_n, List.length_cons, List.length_nil, List.length_append]; omega) | (simp only [List.all_cons, List.all_nil, one_bool, one_int, one_str, one_ptr, one_nilptr, one_slice, one_eslice, one_nilslice, one_func, one_iface, one_niliface, Bool.and_true, Bool.true_and, List.getD_cons_zero, List.getD_cons_succ, List.contains_cons, List.contains_nil, Bool.or_true, Bool.true_or, Bool.or_false, Bool.false_or, Nat.reduceBEq, *]; done) | fail)) only [hlen, hlen2, go_sem, Hold.p, HoldK.k, HoldL.K, HoldL.body, Nat.reduceBEq, Nat.reduceAdd, reduceIte]
  rw [restC]
  refine test_of (fun hc => ?_) (fun hc => ?_)
  · simp (disch := (first | omega | assumption | (simp only [push_n, set_n, put_n, List.length_cons, List.length_nil, List.length_append, Nat.reduceAdd]; done) | (simp only [push_n, set_n, put_n, List.length_cons, List.length_nil, List.length_append]; omega) | (simp only [List.all_cons, List.all_nil, one_bool, one_int, one_str, one_ptr, one_nilptr, one_slice, one_eslice, one_nilslice, one_func, one_iface, one_niliface, Bool.and_true, Bool.true_and, List.getD_cons_zero, List.getD_cons_succ, List.contains_cons, List.contains_nil, Bool.or_true, Bool.true_or, Bool.or_false, Bool.false_or, Nat.reduceBEq, *]; done) | fail)) only [go_sem, Hold.p, HoldK.k, HoldL.K, HoldL.body, Nat.reduceBEq, Nat.reduceAdd, reduceIte]
    refine ⟨?_, Ext.refl _⟩
    have : (decide ((fs.length : Int) ≤ 16) && decide ((body.length : Int) ≤ 60000)) = false := by rwa [Bool.not_eq_true'] at hc
    rw [this]; rfl
  · have hc' : (decide ((fs.length : Int) ≤ 16) && decide ((body.length : Int) ≤ 60000)) = true := by rwa [Bool.not_eq_false'] at hc
    rw [hc']
    simp (disch := (first | omega | assumption | (simp only [push_n, set_n, put_n, List.length_cons, List.length_nil, List.length_append, Nat.reduceAdd]; done) | (simp only [push_n, set_n, put_n, List.length_cons, List.length_nil, List.length_append]; omega) | (simp only [List.all_cons, List.all_nil, one_bool, one_int, one_str, one_ptr, one_nilptr, one_slice, one_eslice, one_nilslice, one_func, one_iface, one_niliface, Bool.and_true, Bool.true_and, List.getD_cons_zero, List.getD_cons_succ, List.contains_cons, List.contains_nil, Bool.or_true, Bool.true_or, Bool.or_false, Bool.false_or, Nat.reduceBEq, *]; done) | fail)) only [go_sem, Hold.p, HoldK.k, HoldL.K, HoldL.body, Nat.reduceBEq, Nat.reduceAdd, reduceIte]
    refine loop_at (fun m e g => ∃ k : Nat, m = fs.length - k ∧ k ≤ fs.length ∧ e 0 = v ∧ e 5 = .int .i64 (k : Nat) ∧ (fs.take k).all fldB = true ∧ Ext h g) fs.length ?_ ?_
    · refine ⟨0, by omega, by omega, ?_⟩
      simp (disch := (first | omega | assumption | (simp only [push_n, set_n, put_n, List.length_cons, List.length_nil, List.length_append, Nat.reduceAdd]; done) | (simp only [push_n, set_n, put_n, List.length_cons, List.length_nil, List.length_append]; omega) | (simp only [List.all_cons, List.all_nil, one_bool, one_int, one_str, one_ptr, one_nilptr, one_slice, one_eslice, one_nilslice, one_func, one_iface, one_niliface, Bool.and_true, Bool.true_and, List.getD_cons_zero, List.getD_cons_succ, List.contains_cons, List.contains_nil, Bool.or_true, Bool.true_or, Bool.or_false, Bool.false_or, Nat.reduceBEq, *]; done) | fail)) only [go_sem, Hold.p, HoldK.k, HoldL.K, HoldL.body, Nat.reduceBEq, Nat.reduceAdd, reduceIte]
      exact ⟨rfl, by simp, Ext.refl _⟩
    · rintro m e g ⟨k, rfl, hk, i0, i5, hall, E⟩
      simp (disch := (first | omega | assumption | (simp only [push_n, set_n, put_n, List.length_cons, List.length_nil, List.length_append, Nat.reduceAdd]; done) | (simp only [push_n, set_n, put_n, List.length_cons, List.length_nil, List.length_append]; omega) | (simp only [List.all_cons, List.all_nil, one_bool, one_int, one_str, one_ptr, one_nilptr, one_slice, one_eslice, one_nilslice, one_func, one_iface, one_niliface, Bool.and_true, Bool.true_and, List.getD_cons_zero, List.getD_cons_succ, List.contains_cons, List.contains_nil, Bool.or_true, Bool.true_or, Bool.or_false, Bool.false_or, Nat.reduceBEq, *]; done) | fail)) only [i0, i5, hlen, go_sem, Hold.p, HoldK.k, HoldL.K, HoldL.body, Nat.reduceBEq, Nat.reduceAdd, reduceIte]
      refine test_dec (fun hb => ?_) (fun hb => ?_)
      · have hk' : k < fs.length := by omega
        obtain ⟨f, hf⟩ : ∃ b, fs[k]? = some b := ⟨_, List.getElem?_eq_getElem hk'⟩
        obtain ⟨l, j, hia, hll, hrow⟩ := (hs.ext E).at (m := k) (fldRows_at hf) .i64
        have w1 : wr .i64 ((k : Int) + 1) = ((k + 1 : Nat) : Int) := by rw [wr64 _ (by omega)]; rfl
        have hb2 := hF f (List.mem_of_getElem? hf)
        simp (disch := (first | omega | assumption | (simp only [push_n, set_n, put_n, List.length_cons, List.length_nil, List.length_append, Nat.reduceAdd]; done) | (simp only [push_n, set_n, put_n, List.length_cons, List.length_nil, List.length_append]; omega) | (simp only [List.all_cons, List.all_nil, one_bool, one_int, one_str, one_ptr, one_nilptr, one_slice, one_eslice, one_nilslice, one_func, one_iface, one_niliface, Bool.and_true, Bool.true_and, List.getD_cons_zero, List.getD_cons_succ, List.contains_cons, List.contains_nil, Bool.or_true, Bool.true_or, Bool.or_false, Bool.false_or, Nat.reduceBEq, *]; done) | fail)) only [i0, i5, hia, hrow, go_sem, Hold.p, HoldK.k, HoldL.K, HoldL.body, Nat.reduceBEq, Nat.reduceAdd, reduceIte]
        refine callA_of (specFieldOK_c g f.1 f.2 hb2.1 hb2.2) ?_
        rintro r g1 ⟨rfl, E1⟩
        simp (disch := (first | omega | assumption | (simp only [push_n, set_n, put_n, List.length_cons, List.length_nil, List.length_append, Nat.reduceAdd]; done) | (simp only [push_n, set_n, put_n, List.length_cons, List.length_nil, List.length_append]; omega) | (simp only [List.all_cons, List.all_nil, one_bool, one_int, one_str, one_ptr, one_nilptr, one_slice, one_eslice, one_nilslice, one_func, one_iface, one_niliface, Bool.and_true, Bool.true_and, List.getD_cons_zero, List.getD_cons_succ, List.contains_cons, List.contains_nil, Bool.or_true, Bool.true_or, Bool.or_false, Bool.false_or, Nat.reduceBEq, *]; done) | fail)) only [i0, i5, go_sem, Hold.p, HoldK.k, HoldL.K, HoldL.body, Nat.reduceBEq, Nat.reduceAdd, reduceIte]
        refine test_of (fun hc2 => ?_) (fun hc2 => ?_)
        · simp (disch := (first | omega | assumption | (simp only [push_n, set_n, put_n, List.length_cons, List.length_nil, List.length_append, Nat.reduceAdd]; done) | (simp only [push_n, set_n, put_n, List.length_cons, List.length_nil, List.length_append]; omega) | (simp only [List.all_cons, List.all_nil, one_bool, one_int, one_str, one_ptr, one_nilptr, one_slice, one_eslice, one_nilslice, one_func, one_iface, one_niliface, Bool.and_true, Bool.true_and, List.getD_cons_zero, List.getD_cons_succ, List.contains_cons, List.contains_nil, Bool.or_true, Bool.true_or, Bool.or_false, Bool.false_or, Nat.reduceBEq, *]; done) | fail)) only [go_sem, Hold.p, HoldK.k, HoldL.K, HoldL.body, Nat.reduceBEq, Nat.reduceAdd, reduceIte]
          refine ⟨?_, E.trans E1⟩
          rw [all_bad hf (by unfold fldB; simpa using hc2)]; rfl
        · simp (disch := (first | omega | assumption | (simp only [push_n, set_n, put_n, List.length_cons, List.length_nil, List.length_append, Nat.reduceAdd]; done) | (simp only [push_n, set_n, put_n, List.length_cons, List.length_nil, List.length_append]; omega) | (simp only [List.all_cons, List.all_nil, one_bool, one_int, one_str, one_ptr, one_nilptr, one_slice, one_eslice, one_nilslice, one_func, one_iface, one_niliface, Bool.and_true, Bool.true_and, List.getD_cons_zero, List.getD_cons_succ, List.contains_cons, List.contains_nil, Bool.or_true, Bool.true_or, Bool.or_false, Bool.false_or, Nat.reduceBEq, *]; done) | fail)) only [i0, i5, w1, go_sem, Hold.p, HoldK.k, HoldL.K, HoldL.body, Nat.reduceBEq, Nat.reduceAdd, reduceIte]
          refine ⟨_, ?_, k + 1, rfl, by omega, rfl, ?_, E.trans E1⟩
          · omega
          · rw [all_step hf, hall]; unfold fldB; simpa using hc2
      · have hk' : k = fs.length := by omega
        subst hk'
        simp (disch := (first | omega | assumption | (simp only [push_n, set_n, put_n, List.length_cons, List.length_nil, List.length_append, Nat.reduceAdd]; done) | (simp only [push_n, set_n, put_n, List.length_cons, List.length_nil, List.length_append]; omega) | (simp only [List.all_cons, List.all_nil, one_bool, one_int, one_str, one_ptr, one_nilptr, one_slice, one_eslice, one_nilslice, one_func, one_iface, one_niliface, Bool.and_true, Bool.true_and, List.getD_cons_zero, List.getD_cons_succ, List.contains_cons, List.contains_nil, Bool.or_true, Bool.true_or, Bool.or_false, Bool.false_or, Nat.reduceBEq, *]; done) | fail)) only [go_sem, Hold.p, HoldK.k, HoldL.K, HoldL.body, Nat.reduceBEq, Nat.reduceAdd, reduceIte]
        rw [List.take_length] at hall
        exact ⟨by rw [hall]; rfl, E⟩

theorem fldB_len {f : Fld} (h : fldB f = true) : f.1.length ≤ 40 ∧ f.2.length ≤ 200 := by
  unfold fldB at h
  rw [fieldOK_eq] at h
  simp only [Bool.and_eq_true] at h
  have := headOK_len h.1.1.1
  omega
theorem restB_un {fs : List Fld} {b : Nat} (h : restB fs b = true) : fs.length ≤ 16 ∧ b ≤ 60000 ∧ ∀ f ∈ fs, fldB f = true := by
  unfold restB at h
  simp only [Bool.and_eq_true, decide_eq_true_eq, List.all_eq_true] at h
  exact ⟨by omega, by omega, h.2⟩
theorem lines_len : ∀ {fs : List Fld}, (∀ f ∈ fs, fldB f = true) → (fs.flatMap fldLine).length ≤ 250 * fs.length
  | [], _ => by simp
  | f :: fs, h => by
    have ih := lines_len (fs := fs) (fun g hg => h g (List.mem_cons_of_mem _ hg))
    have := fldB_len (h f List.mem_cons_self)
    rw [List.flatMap_cons]
    simp only [List.length_append, fldLine, List.length_cons, List.length_nil]
    omega
theorem lines_snoc {fs : List Fld} {k : Nat} {f : Fld} (h : fs[k]? = some f) : (fs.take (k + 1)).flatMap fldLine = (fs.take k).flatMap fldLine ++ (f.1 ++ [58, 32] ++ f.2 ++ [10]) := by
  rw [List.take_add_one, h]; simp [fldLine]

theorem specMessage_c (h : IH) (first : List UInt8) (v w : IV) (fs : List Fld) (body : List UInt8) (hs : SlR h 2 v (fldRows fs)) (hw : SlR h 1 w (strRows body)) (hR : restB fs body.length = true) (hl : first.length ≤ 1000) :
    ICalls Tryd.prog 42 [.str first, v, w] h fun r h' => Own h.n h'.n h' 5 1 r (strRows (message first fs body)) ∧ Ext h h' := by
  refine icalls (.of ok42) (Nat.le_of_ble_eq_true rfl) ?_
  unfold c42
  obtain ⟨r1, r2, r3⟩ := restB_un hR
  have hlen := hs.lenF
  rw [fldRows_len] at hlen
  have hlen2 := hw.lenF
  rw [strRows_len] at hlen2
  have ll := lines_len r3
  refine vc_split 3 (fun e g => e 2 = w ∧ e 7 = .str (first ++ [10] ++ fs.flatMap fldLine) ∧ g = h) ?_ ?_
  · simp only [CC.split]
    simp (disch := (first | omega | assumption | (simp only [push_n, set_n, put_n, List.length_cons, List.length_nil, List.length_append, Nat.reduceAdd]; done) | (simp only [push_n, set_n, put_n, List.length_cons, List.length_nil, List.length_append]; omega) | (simp only [List.all_cons, List.all_nil, one_bool, one_int, one_str, one_ptr, one_nilptr, one_slice, one_eslice, one_nilslice, one_func, one_iface, one_niliface, Bool.and_true, Bool.true_and, List.getD_cons_zero, List.getD_cons_succ, List.contains_cons, List.contains_nil, Bool.or_true, Bool.true_or, Bool.or_false, Bool.false_or, Nat.reduceBEq, *]; done) | fail)) only [cat3, go_sem, Hold.p, HoldK.k, HoldL.K, HoldL.body, Nat.reduceBEq, Nat.reduceAdd, reduceIte]
    refine loop_at (fun m e g => ∃ k : Nat, m = fs.length - k ∧ k ≤ fs.length ∧ e 1 = v ∧ e 2 = w ∧ e 7 = .str (first ++ [10] ++ (fs.take k).flatMap fldLine) ∧ e 8 = .int .i64 (k : Nat) ∧ g = h) fs.length ?_ ?_
    · refine ⟨0, by omega, by omega, ?_⟩
      simp (disch := (first | omega | assumption | (simp only [push_n, set_n, put_n, List.length_cons, List.length_nil, List.length_append, Nat.reduceAdd]; done) | (simp only [push_n, set_n, put_n, List.length_cons, List.length_nil, List.length_append]; omega) | (simp only [List.all_cons, List.all_nil, one_bool, one_int, one_str, one_ptr, one_nilptr, one_slice, one_eslice, one_nilslice, one_func, one_iface, one_niliface, Bool.and_true, Bool.true_and, List.getD_cons_zero, List.getD_cons_succ, List.contains_cons, List.contains_nil, Bool.or_true, Bool.true_or, Bool.or_false, Bool.false_or, Nat.reduceBEq, *]; done) | fail)) only [go_sem, Hold.p, HoldK.k, HoldL.K, HoldL.body, Nat.reduceBEq, Nat.reduceAdd, reduceIte]
      simp
    · rintro m e g ⟨k, rfl, hk, i1, i2, i7, i8, rfl⟩
      simp (disch := (first | omega | assumption | (simp only [push_n, set_n, put_n, List.length_cons, List.length_nil, List.length_append, Nat.reduceAdd]; done) | (simp only [push_n, set_n, put_n, List.length_cons, List.length_nil, List.length_append]; omega) | (simp only [List.all_cons, List.all_nil, one_bool, one_int, one_str, one_ptr, one_nilptr, one_slice, one_eslice, one_nilslice, one_func, one_iface, one_niliface, Bool.and_true, Bool.true_and, List.getD_cons_zero, List.getD_cons_succ, List.contains_cons, List.contains_nil, Bool.or_true, Bool.true_or, Bool.or_false, Bool.false_or, Nat.reduceBEq, *]; done) | fail)) only [i1, i8, hlen, go_sem, Hold.p, HoldK.k, HoldL.K, HoldL.body, Nat.reduceBEq, Nat.reduceAdd, reduceIte]
      refine test_dec (fun hb => ?_) (fun hb => ?_)
      · have hk' : k < fs.length := by omega
        obtain ⟨f, hf⟩ : ∃ b, fs[k]? = some b := ⟨_, List.getElem?_eq_getElem hk'⟩
        obtain ⟨l, j, hia, hll, hrow⟩ := hs.at (m := k) (fldRows_at hf) .i64
        have hcl := cellO_row hrow
        have fl := fldB_len (r3 f (List.mem_of_getElem? hf))
        have ll2 := lines_len (fs := fs.take k) (fun g hg => r3 g (List.mem_of_mem_take hg))
        rw [List.length_take, Nat.min_eq_left hk] at ll2
        have w1 : wr .i64 ((k : Int) + 1) = ((k + 1 : Nat) : Int) := by rw [wr64 _ (by omega)]; rfl
        simp (disch := (first | omega | assumption | (simp only [push_n, set_n, put_n, List.length_cons, List.length_nil, List.length_append, Nat.reduceAdd]; done) | (simp only [push_n, set_n, put_n, List.length_cons, List.length_nil, List.length_append]; omega) | (simp only [List.all_cons, List.all_nil, one_bool, one_int, one_str, one_ptr, one_nilptr, one_slice, one_eslice, one_nilslice, one_func, one_iface, one_niliface, Bool.and_true, Bool.true_and, List.getD_cons_zero, List.getD_cons_succ, List.contains_cons, List.contains_nil, Bool.or_true, Bool.true_or, Bool.or_false, Bool.false_or, Nat.reduceBEq, *]; done) | fail)) only [i1, i2, i7, i8, hia, hcl, cat3, w1, go_sem, Hold.p, HoldK.k, HoldL.K, HoldL.body, Nat.reduceBEq, Nat.reduceAdd, reduceIte]
        refine ⟨_, ?_, k + 1, rfl, by omega, ?_, rfl⟩
        · omega
        · rw [lines_snoc hf]; simp
      · have hk' : k = fs.length := by omega
        subst hk'
        rw [List.take_length] at i7
        simp (disch := (first | omega | assumption | (simp only [push_n, set_n, put_n, List.length_cons, List.length_nil, List.length_append, Nat.reduceAdd]; done) | (simp only [push_n, set_n, put_n, List.length_cons, List.length_nil, List.length_append]; omega) | (simp only [List.all_cons, List.all_nil, one_bool, one_int, one_str, one_ptr, one_nilptr, one_slice, one_eslice, one_nilslice, one_func, one_iface, one_niliface, Bool.and_true, Bool.true_and, List.getD_cons_zero, List.getD_cons_succ, List.contains_cons, List.contains_nil, Bool.or_true, Bool.true_or, Bool.or_false, Bool.false_or, Nat.reduceBEq, *]; done) | fail)) only [i2, i7, go_sem, Hold.p, HoldK.k, HoldL.K, HoldL.body, Nat.reduceBEq, Nat.reduceAdd, reduceIte]
  rintro e g ⟨i2, i7, rfl⟩
  simp only [CC.split]
  have hd : (Lib.decDigits body.length).length ≤ 20 := dec_le _ (by omega)
  have hnI : numI (body.length : Int) = Lib.decDigits body.length := by unfold numI; simp
  refine vc_split 1 (fun e g' => e 2 = w ∧ e 7 = .str (first ++ [10] ++ fs.flatMap fldLine ++ lenLine body) ∧ Ext g g') ?_ ?_
  · simp only [CC.split]
    simp (disch := (first | omega | assumption | (simp only [push_n, set_n, put_n, List.length_cons, List.length_nil, List.length_append, Nat.reduceAdd]; done) | (simp only [push_n, set_n, put_n, List.length_cons, List.length_nil, List.length_append]; omega) | (simp only [List.all_cons, List.all_nil, one_bool, one_int, one_str, one_ptr, one_nilptr, one_slice, one_eslice, one_nilslice, one_func, one_iface, one_niliface, Bool.and_true, Bool.true_and, List.getD_cons_zero, List.getD_cons_succ, List.contains_cons, List.contains_nil, Bool.or_true, Bool.true_or, Bool.or_false, Bool.false_or, Nat.reduceBEq, *]; done) | fail)) only [i2, hlen2, go_sem, Hold.p, HoldK.k, HoldL.K, HoldL.body, Nat.reduceBEq, Nat.reduceAdd, reduceIte]
    by_cases hb : 0 < body.length
    · have d1 : decide ((0 : Int) < (body.length : Int)) = true := decide_eq_true (by omega)
      simp (disch := (first | omega | assumption | (simp only [push_n, set_n, put_n, List.length_cons, List.length_nil, List.length_append, Nat.reduceAdd]; done) | (simp only [push_n, set_n, put_n, List.length_cons, List.length_nil, List.length_append]; omega) | (simp only [List.all_cons, List.all_nil, one_bool, one_int, one_str, one_ptr, one_nilptr, one_slice, one_eslice, one_nilslice, one_func, one_iface, one_niliface, Bool.and_true, Bool.true_and, List.getD_cons_zero, List.getD_cons_succ, List.contains_cons, List.contains_nil, Bool.or_true, Bool.true_or, Bool.or_false, Bool.false_or, Nat.reduceBEq, *]; done) | fail)) only [d1, i2, i7, hlen2, cat3, go_sem, Hold.p, HoldK.k, HoldL.K, HoldL.body, Nat.reduceBEq, Nat.reduceAdd, reduceIte]
      refine callA_of (numI_c g (n := (body.length : Int)) (by omega) (by omega)) ?_
      rintro r g1 ⟨rfl, E1⟩
      rw [hnI]
      simp (disch := (first | omega | assumption | (simp only [push_n, set_n, put_n, List.length_cons, List.length_nil, List.length_append, Nat.reduceAdd]; done) | (simp only [push_n, set_n, put_n, List.length_cons, List.length_nil, List.length_append]; omega) | (simp only [List.all_cons, List.all_nil, one_bool, one_int, one_str, one_ptr, one_nilptr, one_slice, one_eslice, one_nilslice, one_func, one_iface, one_niliface, Bool.and_true, Bool.true_and, List.getD_cons_zero, List.getD_cons_succ, List.contains_cons, List.contains_nil, Bool.or_true, Bool.true_or, Bool.or_false, Bool.false_or, Nat.reduceBEq, *]; done) | fail)) only [i2, i7, cat3, go_sem, Hold.p, HoldK.k, HoldL.K, HoldL.body, Nat.reduceBEq, Nat.reduceAdd, reduceIte]
      refine ⟨?_, E1⟩
      unfold lenLine; rw [if_pos hb]; simp [lengthS]
    · have d1 : decide ((0 : Int) < (body.length : Int)) = false := decide_eq_false (by omega)
      simp (disch := (first | omega | assumption | (simp only [push_n, set_n, put_n, List.length_cons, List.length_nil, List.length_append, Nat.reduceAdd]; done) | (simp only [push_n, set_n, put_n, List.length_cons, List.length_nil, List.length_append]; omega) | (simp only [List.all_cons, List.all_nil, one_bool, one_int, one_str, one_ptr, one_nilptr, one_slice, one_eslice, one_nilslice, one_func, one_iface, one_niliface, Bool.and_true, Bool.true_and, List.getD_cons_zero, List.getD_cons_succ, List.contains_cons, List.contains_nil, Bool.or_true, Bool.true_or, Bool.or_false, Bool.false_or, Nat.reduceBEq, *]; done) | fail)) only [d1, i2, i7, go_sem, Hold.p, HoldK.k, HoldL.K, HoldL.body, Nat.reduceBEq, Nat.reduceAdd, reduceIte]
      refine ⟨?_, Ext.refl _⟩
      unfold lenLine; rw [if_neg hb]; simp
  have hL : (lenLine body).length ≤ 40 := by
    unfold lenLine; split
    · simp [lengthS]; omega
    · simp
  clear i2 i7 e
  rintro e g' ⟨i2, i7, E⟩
  simp only [CC.split]
  generalize hX : first ++ [10] ++ fs.flatMap fldLine ++ lenLine body = X at i7
  have hXl : X.length ≤ 6000 := by rw [← hX]; simp only [List.length_append, List.length_cons, List.length_nil]; omega
  simp (disch := (first | omega | assumption | (simp only [push_n, set_n, put_n, List.length_cons, List.length_nil, List.length_append, Nat.reduceAdd]; done) | (simp only [push_n, set_n, put_n, List.length_cons, List.length_nil, List.length_append]; omega) | (simp only [List.all_cons, List.all_nil, one_bool, one_int, one_str, one_ptr, one_nilptr, one_slice, one_eslice, one_nilslice, one_func, one_iface, one_niliface, Bool.and_true, Bool.true_and, List.getD_cons_zero, List.getD_cons_succ, List.contains_cons, List.contains_nil, Bool.or_true, Bool.true_or, Bool.or_false, Bool.false_or, Nat.reduceBEq, *]; done) | fail)) only [i7, cat3, go_sem, Hold.p, HoldK.k, HoldL.K, HoldL.body, Nat.reduceBEq, Nat.reduceAdd, reduceIte]
  rw [s2bA_some (by simp) (by simp; omega)]
  generalize hq_g1 : IH.push g' (IObj.rows (strRows (X ++ [10])) 5 1 false) = g1
  have e_g1 : Ext g' g1 := by rw [← hq_g1]; exact (Ext.refl _).push _
  have l_g1 : g1.n = g'.n + 1 := by rw [← hq_g1]; rfl
  have b1 : At g1 g'.n (IObj.rows (strRows (X ++ [10])) 5 1 false) := by rw [← hq_g1]; exact At.new _ _
  clear hq_g1
  have E := E.trans e_g1
  have sl : SlR g1 1 (.slice g'.n 0 (X ++ [10]).length) (strRows (X ++ [10])) := SlR.whole b1.eq (strRows_len _) b1.lt
  try simp (disch := (first | omega | assumption | (simp only [push_n, set_n, put_n, List.length_cons, List.length_nil, List.length_append, Nat.reduceAdd]; done) | (simp only [push_n, set_n, put_n, List.length_cons, List.length_nil, List.length_append]; omega) | (simp only [List.all_cons, List.all_nil, one_bool, one_int, one_str, one_ptr, one_nilptr, one_slice, one_eslice, one_nilslice, one_func, one_iface, one_niliface, Bool.and_true, Bool.true_and, List.getD_cons_zero, List.getD_cons_succ, List.contains_cons, List.contains_nil, Bool.or_true, Bool.true_or, Bool.or_false, Bool.false_or, Nat.reduceBEq, *]; done) | fail)) only [i2, go_sem, Hold.p, HoldK.k, HoldL.K, HoldL.body, Nat.reduceBEq, Nat.reduceAdd, reduceIte]
  refine callA_of (l01Join_c g1 _ w (X ++ [10]) body sl (hw.ext E) (by simp; omega) (by omega)) ?_
  rintro r g2 ⟨o2, E2⟩
  simp (disch := (first | omega | assumption | (simp only [push_n, set_n, put_n, List.length_cons, List.length_nil, List.length_append, Nat.reduceAdd]; done) | (simp only [push_n, set_n, put_n, List.length_cons, List.length_nil, List.length_append]; omega) | (simp only [List.all_cons, List.all_nil, one_bool, one_int, one_str, one_ptr, one_nilptr, one_slice, one_eslice, one_nilslice, one_func, one_iface, one_niliface, Bool.and_true, Bool.true_and, List.getD_cons_zero, List.getD_cons_succ, List.contains_cons, List.contains_nil, Bool.or_true, Bool.true_or, Bool.or_false, Bool.false_or, Nat.reduceBEq, *]; done) | fail)) only [go_sem, Hold.p, HoldK.k, HoldL.K, HoldL.body, Nat.reduceBEq, Nat.reduceAdd, reduceIte]
  refine ⟨?_, E.trans E2⟩
  unfold message
  rw [hX]
  exact o2.wide E.le (Nat.le_refl _) (Nat.le_refl _)
end
end Go.Proofs.YtaolhgjnlmaooaaDoor

set_option maxRecDepth 20000
namespace Go.Proofs.YtaolhgjnlmaooaaDoor
open Go Go.IW
section
attribute [local go_sem] List.getElem?_cons_zero List.getElem?_cons_succ Option.bind_some List.map_cons List.map_nil Nat.zero_add if_true List.getD_cons_zero List.getD_cons_succ List.contains_cons List.contains_nil Bool.or_true Bool.true_or Bool.or_false Bool.false_or Bool.not_true Bool.not_false true_and and_true rowA_whole mid_get stO_mid rowO_rows cellO_rows push_n set_n push_at push_old set_here set_there set_pushT set_pushN set_set upd_ne Nat.add_assoc Nat.add_zero stO_1s stO_ws boxA_s List.all_cons List.all_nil one_bool one_int one_str one_ptr one_nilptr one_slice one_eslice one_nilslice one_func one_iface one_niliface Bool.and_true Bool.and_self List.length_cons List.length_nil Nat.one_ne_zero Nat.succ_ne_zero if_false List.set_cons_zero List.set_cons_succ lay_nil lay_1 lay_w Option.map_some

theorem implMessage_c (h : IH) (first : List UInt8) (v w : IV) (fs : List Fld) (body : List UInt8) (hs : SlR h 2 v (fldRows fs)) (hw : SlR h 1 w (strRows body)) (hR : restB fs body.length = true) (hl : first.length ≤ 1000) :
    ICalls Tryd.prog 45 [.str first, v, w] h fun r h' => Own h.n h'.n h' 5 1 r (strRows (message first fs body)) ∧ Ext h h' := by
  refine icalls (.of ok45) (Nat.le_of_ble_eq_true rfl) ?_
  unfold c45
  obtain ⟨r1, r2, r3⟩ := restB_un hR
  have hlen := hs.lenF
  rw [fldRows_len] at hlen
  have hlen2 := hw.lenF
  rw [strRows_len] at hlen2
  have ll := lines_len r3
  refine vc_split 3 (fun e g => e 2 = w ∧ (∃ x lo hi, e 7 = x ∧ Own lo hi g 5 1 x (strRows (first ++ [10] ++ fs.flatMap fldLine)) ∧ h.n ≤ lo ∧ hi ≤ g.n) ∧ Ext h g) ?_ ?_
  · simp only [CC.split]
    simp (disch := (first | omega | assumption | (simp only [push_n, set_n, put_n, List.length_cons, List.length_nil, List.length_append, Nat.reduceAdd]; done) | (simp only [push_n, set_n, put_n, List.length_cons, List.length_nil, List.length_append]; omega) | (simp only [List.all_cons, List.all_nil, one_bool, one_int, one_str, one_ptr, one_nilptr, one_slice, one_eslice, one_nilslice, one_func, one_iface, one_niliface, Bool.and_true, Bool.true_and, List.getD_cons_zero, List.getD_cons_succ, List.contains_cons, List.contains_nil, Bool.or_true, Bool.true_or, Bool.or_false, Bool.false_or, Nat.reduceBEq, *]; done) | fail)) only [cat3, go_sem, Hold.p, HoldK.k, HoldL.K, HoldL.body, Nat.reduceBEq, Nat.reduceAdd, reduceIte]
    rw [s2bA_some (by simp) (by simp; omega)]
    generalize hq_g : IH.push h (IObj.rows (strRows (first ++ [10])) 5 1 false) = g
    have e_g : Ext h g := by rw [← hq_g]; exact (Ext.refl _).push _
    have l_g : g.n = h.n + 1 := by rw [← hq_g]; rfl
    have b : At g h.n (IObj.rows (strRows (first ++ [10])) 5 1 false) := by rw [← hq_g]; exact At.new _ _
    clear hq_g
    have o : Own h.n (h.n + 1) g 5 1 (.slice h.n 0 (first ++ [10]).length) (strRows (first ++ [10])) := by
      have := Own.mk (el := 5) (sz := 1) (rs := strRows (first ++ [10])) (by simp [strRows]) (Nat.le_refl h.n) (Nat.lt_succ_self _) (by omega) b.eq
      rwa [strRows_len] at this
    try simp (disch := (first | omega | assumption | (simp only [push_n, set_n, put_n, List.length_cons, List.length_nil, List.length_append, Nat.reduceAdd]; done) | (simp only [push_n, set_n, put_n, List.length_cons, List.length_nil, List.length_append]; omega) | (simp only [List.all_cons, List.all_nil, one_bool, one_int, one_str, one_ptr, one_nilptr, one_slice, one_eslice, one_nilslice, one_func, one_iface, one_niliface, Bool.and_true, Bool.true_and, List.getD_cons_zero, List.getD_cons_succ, List.contains_cons, List.contains_nil, Bool.or_true, Bool.true_or, Bool.or_false, Bool.false_or, Nat.reduceBEq, *]; done) | fail)) only [hlen, go_sem, Hold.p, HoldK.k, HoldL.K, HoldL.body, Nat.reduceBEq, Nat.reduceAdd, reduceIte]
    refine loop_at (fun m e g => ∃ k : Nat, m = fs.length - k ∧ k ≤ fs.length ∧ e 2 = w ∧ e 13 = v ∧ e 14 = .int .i64 (fs.length : Nat) ∧ e 15 = .int .i64 (k : Nat) ∧ (∃ x lo hi, e 7 = x ∧ Own lo hi g 5 1 x (strRows (first ++ [10] ++ (fs.take k).flatMap fldLine)) ∧ h.n ≤ lo ∧ hi ≤ g.n) ∧ Ext h g) fs.length ?_ ?_
    · refine ⟨0, by omega, by omega, ?_⟩
      simp (disch := (first | omega | assumption | (simp only [push_n, set_n, put_n, List.length_cons, List.length_nil, List.length_append, Nat.reduceAdd]; done) | (simp only [push_n, set_n, put_n, List.length_cons, List.length_nil, List.length_append]; omega) | (simp only [List.all_cons, List.all_nil, one_bool, one_int, one_str, one_ptr, one_nilptr, one_slice, one_eslice, one_nilslice, one_func, one_iface, one_niliface, Bool.and_true, Bool.true_and, List.getD_cons_zero, List.getD_cons_succ, List.contains_cons, List.contains_nil, Bool.or_true, Bool.true_or, Bool.or_false, Bool.false_or, Nat.reduceBEq, *]; done) | fail)) only [go_sem, Hold.p, HoldK.k, HoldL.K, HoldL.body, Nat.reduceBEq, Nat.reduceAdd, reduceIte]
      refine ⟨rfl, ⟨_, h.n, h.n + 1, rfl, ?_, Nat.le_refl _, by omega⟩, e_g⟩
      simpa using o
    · clear o
      rintro m e g ⟨k, rfl, hk, i2, i13, i14, i15, ⟨x, lo, hi, i7, o, hlo, hhi⟩, E⟩
      simp (disch := (first | omega | assumption | (simp only [push_n, set_n, put_n, List.length_cons, List.length_nil, List.length_append, Nat.reduceAdd]; done) | (simp only [push_n, set_n, put_n, List.length_cons, List.length_nil, List.length_append]; omega) | (simp only [List.all_cons, List.all_nil, one_bool, one_int, one_str, one_ptr, one_nilptr, one_slice, one_eslice, one_nilslice, one_func, one_iface, one_niliface, Bool.and_true, Bool.true_and, List.getD_cons_zero, List.getD_cons_succ, List.contains_cons, List.contains_nil, Bool.or_true, Bool.true_or, Bool.or_false, Bool.false_or, Nat.reduceBEq, *]; done) | fail)) only [i14, i15, go_sem, Hold.p, HoldK.k, HoldL.K, HoldL.body, Nat.reduceBEq, Nat.reduceAdd, reduceIte]
      refine test_dec (fun hb => ?_) (fun hb => ?_)
      · have hk' : k < fs.length := by omega
        obtain ⟨f, hf⟩ : ∃ b, fs[k]? = some b := ⟨_, List.getElem?_eq_getElem hk'⟩
        obtain ⟨l, j, hia, hll, hrow⟩ := (hs.ext E).at (m := k) (fldRows_at hf) .i64
        have fl := fldB_len (r3 f (List.mem_of_getElem? hf))
        have ll2 := lines_len (fs := fs.take k) (fun g hg => r3 g (List.mem_of_mem_take hg))
        rw [List.length_take, Nat.min_eq_left hk] at ll2
        have w1 : wr .i64 ((k : Int) + 1) = ((k + 1 : Nat) : Int) := by rw [wr64 _ (by omega)]; rfl
        simp (disch := (first | omega | assumption | (simp only [push_n, set_n, put_n, List.length_cons, List.length_nil, List.length_append, Nat.reduceAdd]; done) | (simp only [push_n, set_n, put_n, List.length_cons, List.length_nil, List.length_append]; omega) | (simp only [List.all_cons, List.all_nil, one_bool, one_int, one_str, one_ptr, one_nilptr, one_slice, one_eslice, one_nilslice, one_func, one_iface, one_niliface, Bool.and_true, Bool.true_and, List.getD_cons_zero, List.getD_cons_succ, List.contains_cons, List.contains_nil, Bool.or_true, Bool.true_or, Bool.or_false, Bool.false_or, Nat.reduceBEq, *]; done) | fail)) only [i7, i13, i15, hia, hrow, go_sem, Hold.p, HoldK.k, HoldL.K, HoldL.body, Nat.reduceBEq, Nat.reduceAdd, reduceIte]
        generalize hq_g1 : IH.push g (IObj.rows [[.str f.1, .str f.2]] 104 2 false) = g1
        have e_g1 : Ext g g1 := by rw [← hq_g1]; exact (Ext.refl _).push _
        have l_g1 : g1.n = g.n + 1 := by rw [← hq_g1]; rfl
        have b1 : At g1 g.n (IObj.rows [[.str f.1, .str f.2]] 104 2 false) := by rw [← hq_g1]; exact At.new _ _
        clear hq_g1
        have o := o.ext e_g1
        have E := E.trans e_g1
        have q1 := b1.eq
        try simp (disch := (first | omega | assumption | (simp only [push_n, set_n, put_n, List.length_cons, List.length_nil, List.length_append, Nat.reduceAdd]; done) | (simp only [push_n, set_n, put_n, List.length_cons, List.length_nil, List.length_append]; omega) | (simp only [List.all_cons, List.all_nil, one_bool, one_int, one_str, one_ptr, one_nilptr, one_slice, one_eslice, one_nilslice, one_func, one_iface, one_niliface, Bool.and_true, Bool.true_and, List.getD_cons_zero, List.getD_cons_succ, List.contains_cons, List.contains_nil, Bool.or_true, Bool.true_or, Bool.or_false, Bool.false_or, Nat.reduceBEq, *]; done) | fail)) only [i7, q1, cat3, go_sem, Hold.p, HoldK.k, HoldL.K, HoldL.body, Nat.reduceBEq, Nat.reduceAdd, reduceIte]
        refine o.app (by simp [strRows]) (by simp only [strRows_len, List.length_append, List.length_cons, List.length_nil]; omega) ?_
        intro v6 h6 o6 t6 n6 v6o v6c
        have E6 := E.turn o (by omega) t6
        rw [← strRows_append] at o6
        have hle := E.le
        simp (disch := (first | omega | assumption | (simp only [push_n, set_n, put_n, List.length_cons, List.length_nil, List.length_append, Nat.reduceAdd]; done) | (simp only [push_n, set_n, put_n, List.length_cons, List.length_nil, List.length_append]; omega) | (simp only [List.all_cons, List.all_nil, one_bool, one_int, one_str, one_ptr, one_nilptr, one_slice, one_eslice, one_nilslice, one_func, one_iface, one_niliface, Bool.and_true, Bool.true_and, List.getD_cons_zero, List.getD_cons_succ, List.contains_cons, List.contains_nil, Bool.or_true, Bool.true_or, Bool.or_false, Bool.false_or, Nat.reduceBEq, *]; done) | fail)) only [i2, i13, i14, i15, w1, go_sem, Hold.p, HoldK.k, HoldL.K, HoldL.body, Nat.reduceBEq, Nat.reduceAdd, reduceIte]
        refine ⟨_, ?_, k + 1, rfl, by omega, rfl, ⟨_, g1.n, g1.n + 1, rfl, ?_, by omega, by omega⟩, E6⟩
        · omega
        · rw [lines_snoc hf, ← List.append_assoc]; exact o6
      · have hk' : k = fs.length := by omega
        subst hk'
        rw [List.take_length] at o
        simp (disch := (first | omega | assumption | (simp only [push_n, set_n, put_n, List.length_cons, List.length_nil, List.length_append, Nat.reduceAdd]; done) | (simp only [push_n, set_n, put_n, List.length_cons, List.length_nil, List.length_append]; omega) | (simp only [List.all_cons, List.all_nil, one_bool, one_int, one_str, one_ptr, one_nilptr, one_slice, one_eslice, one_nilslice, one_func, one_iface, one_niliface, Bool.and_true, Bool.true_and, List.getD_cons_zero, List.getD_cons_succ, List.contains_cons, List.contains_nil, Bool.or_true, Bool.true_or, Bool.or_false, Bool.false_or, Nat.reduceBEq, *]; done) | fail)) only [i2, i7, go_sem, Hold.p, HoldK.k, HoldL.K, HoldL.body, Nat.reduceBEq, Nat.reduceAdd, reduceIte]
        exact ⟨⟨_, lo, hi, rfl, o, hlo, hhi⟩, E⟩
  rintro e g ⟨i2, ⟨x, lo, hi, i7, o, hlo, hhi⟩, E⟩
  simp only [CC.split]
  have hd : (Lib.decDigits body.length).length ≤ 20 := dec_le _ (by omega)
  have hnI : numI (body.length : Int) = Lib.decDigits body.length := by unfold numI; simp
  have hL : (lenLine body).length ≤ 40 := by
    unfold lenLine; split
    · simp [lengthS]; omega
    · simp
  generalize hX : first ++ [10] ++ fs.flatMap fldLine = X at o
  have hXl : X.length ≤ 6000 := by rw [← hX]; simp only [List.length_append, List.length_cons, List.length_nil]; omega
  refine vc_split 1 (fun e g' => e 2 = w ∧ (∃ x lo hi, e 7 = x ∧ Own lo hi g' 5 1 x (strRows (X ++ lenLine body)) ∧ h.n ≤ lo ∧ hi ≤ g'.n) ∧ Ext h g') ?_ ?_
  · simp only [CC.split]
    simp (disch := (first | omega | assumption | (simp only [push_n, set_n, put_n, List.length_cons, List.length_nil, List.length_append, Nat.reduceAdd]; done) | (simp only [push_n, set_n, put_n, List.length_cons, List.length_nil, List.length_append]; omega) | (simp only [List.all_cons, List.all_nil, one_bool, one_int, one_str, one_ptr, one_nilptr, one_slice, one_eslice, one_nilslice, one_func, one_iface, one_niliface, Bool.and_true, Bool.true_and, List.getD_cons_zero, List.getD_cons_succ, List.contains_cons, List.contains_nil, Bool.or_true, Bool.true_or, Bool.or_false, Bool.false_or, Nat.reduceBEq, *]; done) | fail)) only [i2, hlen2, go_sem, Hold.p, HoldK.k, HoldL.K, HoldL.body, Nat.reduceBEq, Nat.reduceAdd, reduceIte]
    by_cases hb : 0 < body.length
    · have d1 : decide ((0 : Int) < (body.length : Int)) = true := decide_eq_true (by omega)
      simp (disch := (first | omega | assumption | (simp only [push_n, set_n, put_n, List.length_cons, List.length_nil, List.length_append, Nat.reduceAdd]; done) | (simp only [push_n, set_n, put_n, List.length_cons, List.length_nil, List.length_append]; omega) | (simp only [List.all_cons, List.all_nil, one_bool, one_int, one_str, one_ptr, one_nilptr, one_slice, one_eslice, one_nilslice, one_func, one_iface, one_niliface, Bool.and_true, Bool.true_and, List.getD_cons_zero, List.getD_cons_succ, List.contains_cons, List.contains_nil, Bool.or_true, Bool.true_or, Bool.or_false, Bool.false_or, Nat.reduceBEq, *]; done) | fail)) only [d1, i2, i7, hlen2, go_sem, Hold.p, HoldK.k, HoldL.K, HoldL.body, Nat.reduceBEq, Nat.reduceAdd, reduceIte]
      refine callA_of (implNum_c g (n := (body.length : Int)) (by omega) (by omega)) ?_
      rintro r g1 ⟨rfl, rfl⟩
      rw [hnI]
      simp (disch := (first | omega | assumption | (simp only [push_n, set_n, put_n, List.length_cons, List.length_nil, List.length_append, Nat.reduceAdd]; done) | (simp only [push_n, set_n, put_n, List.length_cons, List.length_nil, List.length_append]; omega) | (simp only [List.all_cons, List.all_nil, one_bool, one_int, one_str, one_ptr, one_nilptr, one_slice, one_eslice, one_nilslice, one_func, one_iface, one_niliface, Bool.and_true, Bool.true_and, List.getD_cons_zero, List.getD_cons_succ, List.contains_cons, List.contains_nil, Bool.or_true, Bool.true_or, Bool.or_false, Bool.false_or, Nat.reduceBEq, *]; done) | fail)) only [i2, i7, cat3, go_sem, Hold.p, HoldK.k, HoldL.K, HoldL.body, Nat.reduceBEq, Nat.reduceAdd, reduceIte]
      refine o.app (by simp [strRows]) (by simp only [strRows_len, List.length_append, List.length_cons, List.length_nil]; omega) ?_
      intro v6 h6 o6 t6 n6 v6o v6c
      have E6 := E.turn o (by omega) t6
      rw [← strRows_append] at o6
      have hle := E.le
      simp (disch := (first | omega | assumption | (simp only [push_n, set_n, put_n, List.length_cons, List.length_nil, List.length_append, Nat.reduceAdd]; done) | (simp only [push_n, set_n, put_n, List.length_cons, List.length_nil, List.length_append]; omega) | (simp only [List.all_cons, List.all_nil, one_bool, one_int, one_str, one_ptr, one_nilptr, one_slice, one_eslice, one_nilslice, one_func, one_iface, one_niliface, Bool.and_true, Bool.true_and, List.getD_cons_zero, List.getD_cons_succ, List.contains_cons, List.contains_nil, Bool.or_true, Bool.true_or, Bool.or_false, Bool.false_or, Nat.reduceBEq, *]; done) | fail)) only [i2, go_sem, Hold.p, HoldK.k, HoldL.K, HoldL.body, Nat.reduceBEq, Nat.reduceAdd, reduceIte]
      refine ⟨⟨_, g1.n, g1.n + 1, rfl, ?_, by omega, by omega⟩, E6⟩
      unfold lenLine; rw [if_pos hb]; simpa [lengthS] using o6
    · have d1 : decide ((0 : Int) < (body.length : Int)) = false := decide_eq_false (by omega)
      simp (disch := (first | omega | assumption | (simp only [push_n, set_n, put_n, List.length_cons, List.length_nil, List.length_append, Nat.reduceAdd]; done) | (simp only [push_n, set_n, put_n, List.length_cons, List.length_nil, List.length_append]; omega) | (simp only [List.all_cons, List.all_nil, one_bool, one_int, one_str, one_ptr, one_nilptr, one_slice, one_eslice, one_nilslice, one_func, one_iface, one_niliface, Bool.and_true, Bool.true_and, List.getD_cons_zero, List.getD_cons_succ, List.contains_cons, List.contains_nil, Bool.or_true, Bool.true_or, Bool.or_false, Bool.false_or, Nat.reduceBEq, *]; done) | fail)) only [d1, i2, i7, go_sem, Hold.p, HoldK.k, HoldL.K, HoldL.body, Nat.reduceBEq, Nat.reduceAdd, reduceIte]
      refine ⟨⟨_, lo, hi, rfl, ?_, hlo, hhi⟩, E⟩
      unfold lenLine; rw [if_neg hb]; simpa using o
  clear i2 i7 o E hlo hhi lo hi x e
  rintro e g' ⟨i2, ⟨x, lo, hi, i7, o, hlo, hhi⟩, E⟩
  simp only [CC.split]
  simp (disch := (first | omega | assumption | (simp only [push_n, set_n, put_n, List.length_cons, List.length_nil, List.length_append, Nat.reduceAdd]; done) | (simp only [push_n, set_n, put_n, List.length_cons, List.length_nil, List.length_append]; omega) | (simp only [List.all_cons, List.all_nil, one_bool, one_int, one_str, one_ptr, one_nilptr, one_slice, one_eslice, one_nilslice, one_func, one_iface, one_niliface, Bool.and_true, Bool.true_and, List.getD_cons_zero, List.getD_cons_succ, List.contains_cons, List.contains_nil, Bool.or_true, Bool.true_or, Bool.or_false, Bool.false_or, Nat.reduceBEq, *]; done) | fail)) only [i2, i7, go_sem, Hold.p, HoldK.k, HoldL.K, HoldL.body, Nat.reduceBEq, Nat.reduceAdd, reduceIte]
  generalize hq_g1 : IH.push g' (IObj.rows [[.int .u8 10]] 5 1 false) = g1
  have e_g1 : Ext g' g1 := by rw [← hq_g1]; exact (Ext.refl _).push _
  have l_g1 : g1.n = g'.n + 1 := by rw [← hq_g1]; rfl
  have b1 : At g1 g'.n (IObj.rows [[.int .u8 10]] 5 1 false) := by rw [← hq_g1]; exact At.new _ _
  clear hq_g1
  have o := o.ext e_g1
  have E := E.trans e_g1
  have q1 := b1.eq
  try simp (disch := (first | omega | assumption | (simp only [push_n, set_n, put_n, List.length_cons, List.length_nil, List.length_append, Nat.reduceAdd]; done) | (simp only [push_n, set_n, put_n, List.length_cons, List.length_nil, List.length_append]; omega) | (simp only [List.all_cons, List.all_nil, one_bool, one_int, one_str, one_ptr, one_nilptr, one_slice, one_eslice, one_nilslice, one_func, one_iface, one_niliface, Bool.and_true, Bool.true_and, List.getD_cons_zero, List.getD_cons_succ, List.contains_cons, List.contains_nil, Bool.or_true, Bool.true_or, Bool.or_false, Bool.false_or, Nat.reduceBEq, *]; done) | fail)) only [i2, i7, q1, go_sem, Hold.p, HoldK.k, HoldL.K, HoldL.body, Nat.reduceBEq, Nat.reduceAdd, reduceIte]
  refine o.app (by simp) (by simp only [strRows_len, List.length_append, List.length_cons, List.length_nil]; omega) ?_
  intro v6 h6 o6 t6 n6 v6o v6c
  have E6 := E.turn o (by omega) t6
  have o6 : Own g1.n (g1.n + 1) h6 5 1 v6 (strRows (X ++ lenLine body ++ [10])) := by rw [strRows_append]; exact o6
  have hle := E.le
  have hsrc := (hw.ext E6).src
  simp (disch := (first | omega | assumption | (simp only [push_n, set_n, put_n, List.length_cons, List.length_nil, List.length_append, Nat.reduceAdd]; done) | (simp only [push_n, set_n, put_n, List.length_cons, List.length_nil, List.length_append]; omega) | (simp only [List.all_cons, List.all_nil, one_bool, one_int, one_str, one_ptr, one_nilptr, one_slice, one_eslice, one_nilslice, one_func, one_iface, one_niliface, Bool.and_true, Bool.true_and, List.getD_cons_zero, List.getD_cons_succ, List.contains_cons, List.contains_nil, Bool.or_true, Bool.true_or, Bool.or_false, Bool.false_or, Nat.reduceBEq, *]; done) | fail)) only [i2, hsrc, go_sem, Hold.p, HoldK.k, HoldL.K, HoldL.body, Nat.reduceBEq, Nat.reduceAdd, reduceIte]
  have hmsg : message first fs body = X ++ lenLine body ++ [10] ++ body := by unfold message; rw [hX]
  rw [hmsg]
  by_cases hb : body = []
  · subst hb
    refine appA_none o6.sl.len ?_
    simp (disch := (first | omega | assumption | (simp only [push_n, set_n, put_n, List.length_cons, List.length_nil, List.length_append, Nat.reduceAdd]; done) | (simp only [push_n, set_n, put_n, List.length_cons, List.length_nil, List.length_append]; omega) | (simp only [List.all_cons, List.all_nil, one_bool, one_int, one_str, one_ptr, one_nilptr, one_slice, one_eslice, one_nilslice, one_func, one_iface, one_niliface, Bool.and_true, Bool.true_and, List.getD_cons_zero, List.getD_cons_succ, List.contains_cons, List.contains_nil, Bool.or_true, Bool.true_or, Bool.or_false, Bool.false_or, Nat.reduceBEq, *]; done) | fail)) only [go_sem, Hold.p, HoldK.k, HoldL.K, HoldL.body, Nat.reduceBEq, Nat.reduceAdd, reduceIte]
    refine ⟨?_, E6⟩
    rw [List.append_nil]
    exact o6.wide (by omega) (by omega) (Nat.le_refl _)
  · refine o6.app (by simpa [strRows] using hb) (by simp only [strRows_len, List.length_append, List.length_cons, List.length_nil]; omega) ?_
    intro v7 h7 o7 t7 n7 v7o v7c
    have E7 := E6.turn o6 (by omega) t7
    rw [← strRows_append] at o7
    simp (disch := (first | omega | assumption | (simp only [push_n, set_n, put_n, List.length_cons, List.length_nil, List.length_append, Nat.reduceAdd]; done) | (simp only [push_n, set_n, put_n, List.length_cons, List.length_nil, List.length_append]; omega) | (simp only [List.all_cons, List.all_nil, one_bool, one_int, one_str, one_ptr, one_nilptr, one_slice, one_eslice, one_nilslice, one_func, one_iface, one_niliface, Bool.and_true, Bool.true_and, List.getD_cons_zero, List.getD_cons_succ, List.contains_cons, List.contains_nil, Bool.or_true, Bool.true_or, Bool.or_false, Bool.false_or, Nat.reduceBEq, *]; done) | fail)) only [go_sem, Hold.p, HoldK.k, HoldL.K, HoldL.body, Nat.reduceBEq, Nat.reduceAdd, reduceIte]
    exact ⟨o7.wide (by omega) (by omega) (Nat.le_refl _), E7⟩
end
end Go.Proofs.YtaolhgjnlmaooaaDoor

set_option maxRecDepth 20000
namespace Go.Proofs.YtaolhgjnlmaooaaDoor
open Go Go.IW
section
attribute [local go_sem] List.getElem?_cons_zero List.getElem?_cons_succ Option.bind_some List.map_cons List.map_nil Nat.zero_add if_true List.getD_cons_zero List.getD_cons_succ List.contains_cons List.contains_nil Bool.or_true Bool.true_or Bool.or_false Bool.false_or Bool.not_true Bool.not_false true_and and_true rowA_whole mid_get stO_mid rowO_rows cellO_rows push_n set_n push_at push_old set_here set_there set_pushT set_pushN set_set upd_ne Nat.add_assoc Nat.add_zero stO_1s stO_ws boxA_s List.all_cons List.all_nil one_bool one_int one_str one_ptr one_nilptr one_slice one_eslice one_nilslice one_func one_iface one_niliface Bool.and_true Bool.and_self List.length_cons List.length_nil Nat.one_ne_zero Nat.succ_ne_zero if_false List.set_cons_zero List.set_cons_succ lay_nil lay_1 lay_w Option.map_some

def BytesR (h h' : IH) (r : IV) (x : List UInt8 × Int) : Prop := ∃ v, r = .tuple [v, .int .i64 x.2] ∧ Own h.n h'.n h' 5 1 v (strRows x.1) ∧ Ext h h'

/-! Requests. -/
def reqB (vb p : List UInt8) (fs : List Fld) (b : Nat) : Bool := (verbB vb && pathOK p) && restB fs b
def showReq (vb p : List UInt8) (fs : List Fld) (body : List UInt8) : List UInt8 × Int := if reqB vb p fs body.length = true then (message (vb ++ [32] ++ p) fs body, 0) else ([], 1)
abbrev reqObj (vb p : List UInt8) (v w : IV) : IObj := .rows [[.str vb, .str p, v, w]] 55 4 false
theorem specReqOK_c (h : IH) (vb p : List UInt8) (v w : IV) (fs : List Fld) (body : List UInt8) (hs : SlR h 2 v (fldRows fs)) (hw : SlR h 1 w (strRows body)) (hp : p.length ≤ 1048576) (hm : fs.length ≤ 1048576) (hF : FldS fs) :
    ICalls Tryd.prog 48 [.agg [.str vb, .str p, v, w]] h fun r h' => r = .bool (reqB vb p fs body.length) ∧ Ext h h' := by
  refine icalls (.of ok48) (Nat.le_of_ble_eq_true rfl) ?_
  unfold c48
  have v1 := hs.one
  have v2 := hw.one
  simp (disch := (first | omega | assumption | (simp only [push_n, set_n, put_n, List.length_cons, List.length_nil, List.length_append, Nat.reduceAdd]; done) | (simp only [push_n, set_n, put_n, List.length_cons, List.length_nil, List.length_append]; omega) | (simp only [List.all_cons, List.all_nil, one_bool, one_int, one_str, one_ptr, one_nilptr, one_slice, one_eslice, one_nilslice, one_func, one_iface, one_niliface, Bool.and_true, Bool.true_and, List.getD_cons_zero, List.getD_cons_succ, List.contains_cons, List.contains_nil, Bool.or_true, Bool.true_or, Bool.or_false, Bool.false_or, Nat.reduceBEq, *]; done) | fail)) only [v1, v2, go_sem, Hold.p, HoldK.k, HoldL.K, HoldL.body, Nat.reduceBEq, Nat.reduceAdd, reduceIte]
  generalize hq_g : IH.push h (reqObj vb p v w) = g
  have e_g : Ext h g := by rw [← hq_g]; exact (Ext.refl _).push _
  have l_g : g.n = h.n + 1 := by rw [← hq_g]; rfl
  have b : At g h.n (reqObj vb p v w) := by rw [← hq_g]; exact At.new _ _
  clear hq_g
  have hs := hs.ext e_g
  have hw := hw.ext e_g
  have q := b.eq
  try simp (disch := (first | omega | assumption | (simp only [push_n, set_n, put_n, List.length_cons, List.length_nil, List.length_append, Nat.reduceAdd]; done) | (simp only [push_n, set_n, put_n, List.length_cons, List.length_nil, List.length_append]; omega) | (simp only [List.all_cons, List.all_nil, one_bool, one_int, one_str, one_ptr, one_nilptr, one_slice, one_eslice, one_nilslice, one_func, one_iface, one_niliface, Bool.and_true, Bool.true_and, List.getD_cons_zero, List.getD_cons_succ, List.contains_cons, List.contains_nil, Bool.or_true, Bool.true_or, Bool.or_false, Bool.false_or, Nat.reduceBEq, *]; done) | fail)) only [q, go_sem, Hold.p, HoldK.k, HoldL.K, HoldL.body, Nat.reduceBEq, Nat.reduceAdd, reduceIte]
  refine callA_of (verbOK_c g vb) ?_
  rintro r g1 ⟨rfl, rfl⟩
  simp (disch := (first | omega | assumption | (simp only [push_n, set_n, put_n, List.length_cons, List.length_nil, List.length_append, Nat.reduceAdd]; done) | (simp only [push_n, set_n, put_n, List.length_cons, List.length_nil, List.length_append]; omega) | (simp only [List.all_cons, List.all_nil, one_bool, one_int, one_str, one_ptr, one_nilptr, one_slice, one_eslice, one_nilslice, one_func, one_iface, one_niliface, Bool.and_true, Bool.true_and, List.getD_cons_zero, List.getD_cons_succ, List.contains_cons, List.contains_nil, Bool.or_true, Bool.true_or, Bool.or_false, Bool.false_or, Nat.reduceBEq, *]; done) | fail)) only [q, go_sem, Hold.p, HoldK.k, HoldL.K, HoldL.body, Nat.reduceBEq, Nat.reduceAdd, reduceIte]
  refine guard_pureT (v := .bool (pathOK p)) (fun hb => ?_) ?_
  · simp (disch := (first | omega | assumption | (simp only [push_n, set_n, put_n, List.length_cons, List.length_nil, List.length_append, Nat.reduceAdd]; done) | (simp only [push_n, set_n, put_n, List.length_cons, List.length_nil, List.length_append]; omega) | (simp only [List.all_cons, List.all_nil, one_bool, one_int, one_str, one_ptr, one_nilptr, one_slice, one_eslice, one_nilslice, one_func, one_iface, one_niliface, Bool.and_true, Bool.true_and, List.getD_cons_zero, List.getD_cons_succ, List.contains_cons, List.contains_nil, Bool.or_true, Bool.true_or, Bool.or_false, Bool.false_or, Nat.reduceBEq, *]; done) | fail)) only [hb, go_sem, Hold.p, HoldK.k, HoldL.K, HoldL.body, Nat.reduceBEq, Nat.reduceAdd, reduceIte]
    exact specPathOK_c _ p hp
  simp (disch := (first | omega | assumption | (simp only [push_n, set_n, put_n, List.length_cons, List.length_nil, List.length_append, Nat.reduceAdd]; done) | (simp only [push_n, set_n, put_n, List.length_cons, List.length_nil, List.length_append]; omega) | (simp only [List.all_cons, List.all_nil, one_bool, one_int, one_str, one_ptr, one_nilptr, one_slice, one_eslice, one_nilslice, one_func, one_iface, one_niliface, Bool.and_true, Bool.true_and, List.getD_cons_zero, List.getD_cons_succ, List.contains_cons, List.contains_nil, Bool.or_true, Bool.true_or, Bool.or_false, Bool.false_or, Nat.reduceBEq, *]; done) | fail)) only [q, go_sem, Hold.p, HoldK.k, HoldL.K, HoldL.body, Nat.reduceBEq, Nat.reduceAdd, reduceIte]
  refine guard_extT (v := .bool (restB fs body.length)) (fun hb => ?_) (fun g2 E => ?_)
  · simp (disch := (first | omega | assumption | (simp only [push_n, set_n, put_n, List.length_cons, List.length_nil, List.length_append, Nat.reduceAdd]; done) | (simp only [push_n, set_n, put_n, List.length_cons, List.length_nil, List.length_append]; omega) | (simp only [List.all_cons, List.all_nil, one_bool, one_int, one_str, one_ptr, one_nilptr, one_slice, one_eslice, one_nilslice, one_func, one_iface, one_niliface, Bool.and_true, Bool.true_and, List.getD_cons_zero, List.getD_cons_succ, List.contains_cons, List.contains_nil, Bool.or_true, Bool.true_or, Bool.or_false, Bool.false_or, Nat.reduceBEq, *]; done) | fail)) only [hb, go_sem, Hold.p, HoldK.k, HoldL.K, HoldL.body, Nat.reduceBEq, Nat.reduceAdd, reduceIte]
    exact specRest_c _ v w fs body hs hw hm hF
  simp (disch := (first | omega | assumption | (simp only [push_n, set_n, put_n, List.length_cons, List.length_nil, List.length_append, Nat.reduceAdd]; done) | (simp only [push_n, set_n, put_n, List.length_cons, List.length_nil, List.length_append]; omega) | (simp only [List.all_cons, List.all_nil, one_bool, one_int, one_str, one_ptr, one_nilptr, one_slice, one_eslice, one_nilslice, one_func, one_iface, one_niliface, Bool.and_true, Bool.true_and, List.getD_cons_zero, List.getD_cons_succ, List.contains_cons, List.contains_nil, Bool.or_true, Bool.true_or, Bool.or_false, Bool.false_or, Nat.reduceBEq, *]; done) | fail)) only [go_sem, Hold.p, HoldK.k, HoldL.K, HoldL.body, Nat.reduceBEq, Nat.reduceAdd, reduceIte]
  exact ⟨rfl, e_g.trans E⟩
theorem implReqOK_c (h : IH) (vb p : List UInt8) (v w : IV) (fs : List Fld) (body : List UInt8) (hs : SlR h 2 v (fldRows fs)) (hw : SlR h 1 w (strRows body)) (hp : p.length ≤ 1048576) (hm : fs.length ≤ 1048576) (hF : FldS fs) :
    ICalls Tryd.prog 49 [.agg [.str vb, .str p, v, w]] h fun r h' => r = .bool (reqB vb p fs body.length) ∧ Ext h h' := by
  refine icalls (.of ok49) (Nat.le_of_ble_eq_true rfl) ?_
  unfold c49
  have v1 := hs.one
  have v2 := hw.one
  simp (disch := (first | omega | assumption | (simp only [push_n, set_n, put_n, List.length_cons, List.length_nil, List.length_append, Nat.reduceAdd]; done) | (simp only [push_n, set_n, put_n, List.length_cons, List.length_nil, List.length_append]; omega) | (simp only [List.all_cons, List.all_nil, one_bool, one_int, one_str, one_ptr, one_nilptr, one_slice, one_eslice, one_nilslice, one_func, one_iface, one_niliface, Bool.and_true, Bool.true_and, List.getD_cons_zero, List.getD_cons_succ, List.contains_cons, List.contains_nil, Bool.or_true, Bool.true_or, Bool.or_false, Bool.false_or, Nat.reduceBEq, *]; done) | fail)) only [v1, v2, go_sem, Hold.p, HoldK.k, HoldL.K, HoldL.body, Nat.reduceBEq, Nat.reduceAdd, reduceIte]
  generalize hq_g : IH.push h (reqObj vb p v w) = g
  have e_g : Ext h g := by rw [← hq_g]; exact (Ext.refl _).push _
  have l_g : g.n = h.n + 1 := by rw [← hq_g]; rfl
  have b : At g h.n (reqObj vb p v w) := by rw [← hq_g]; exact At.new _ _
  clear hq_g
  have hs := hs.ext e_g
  have hw := hw.ext e_g
  have q := b.eq
  try simp (disch := (first | omega | assumption | (simp only [push_n, set_n, put_n, List.length_cons, List.length_nil, List.length_append, Nat.reduceAdd]; done) | (simp only [push_n, set_n, put_n, List.length_cons, List.length_nil, List.length_append]; omega) | (simp only [List.all_cons, List.all_nil, one_bool, one_int, one_str, one_ptr, one_nilptr, one_slice, one_eslice, one_nilslice, one_func, one_iface, one_niliface, Bool.and_true, Bool.true_and, List.getD_cons_zero, List.getD_cons_succ, List.contains_cons, List.contains_nil, Bool.or_true, Bool.true_or, Bool.or_false, Bool.false_or, Nat.reduceBEq, *]; done) | fail)) only [q, go_sem, Hold.p, HoldK.k, HoldL.K, HoldL.body, Nat.reduceBEq, Nat.reduceAdd, reduceIte]
  have hvb : (((decide (vb = [103, 101, 116]) || decide (vb = [112, 117, 116])) || decide (vb = [100, 101, 108, 101, 116, 101])) || decide (vb = [108, 105, 115, 116])) = verbB vb := rfl
  rw [hvb]
  refine guard_extT (v := .bool (pathOK p)) (fun hb => ?_) (fun g1 E1 => ?_)
  · simp (disch := (first | omega | assumption | (simp only [push_n, set_n, put_n, List.length_cons, List.length_nil, List.length_append, Nat.reduceAdd]; done) | (simp only [push_n, set_n, put_n, List.length_cons, List.length_nil, List.length_append]; omega) | (simp only [List.all_cons, List.all_nil, one_bool, one_int, one_str, one_ptr, one_nilptr, one_slice, one_eslice, one_nilslice, one_func, one_iface, one_niliface, Bool.and_true, Bool.true_and, List.getD_cons_zero, List.getD_cons_succ, List.contains_cons, List.contains_nil, Bool.or_true, Bool.true_or, Bool.or_false, Bool.false_or, Nat.reduceBEq, *]; done) | fail)) only [hb, go_sem, Hold.p, HoldK.k, HoldL.K, HoldL.body, Nat.reduceBEq, Nat.reduceAdd, reduceIte]
    exact implPathOK_c _ p hp
  have b := b.ext E1
  have hs := hs.ext E1
  have hw := hw.ext E1
  have le_E1 := E1.le
  have q := b.eq
  simp (disch := (first | omega | assumption | (simp only [push_n, set_n, put_n, List.length_cons, List.length_nil, List.length_append, Nat.reduceAdd]; done) | (simp only [push_n, set_n, put_n, List.length_cons, List.length_nil, List.length_append]; omega) | (simp only [List.all_cons, List.all_nil, one_bool, one_int, one_str, one_ptr, one_nilptr, one_slice, one_eslice, one_nilslice, one_func, one_iface, one_niliface, Bool.and_true, Bool.true_and, List.getD_cons_zero, List.getD_cons_succ, List.contains_cons, List.contains_nil, Bool.or_true, Bool.true_or, Bool.or_false, Bool.false_or, Nat.reduceBEq, *]; done) | fail)) only [q, go_sem, Hold.p, HoldK.k, HoldL.K, HoldL.body, Nat.reduceBEq, Nat.reduceAdd, reduceIte]
  refine guard_extT (v := .bool (restB fs body.length)) (fun hb => ?_) (fun g2 E => ?_)
  · simp (disch := (first | omega | assumption | (simp only [push_n, set_n, put_n, List.length_cons, List.length_nil, List.length_append, Nat.reduceAdd]; done) | (simp only [push_n, set_n, put_n, List.length_cons, List.length_nil, List.length_append]; omega) | (simp only [List.all_cons, List.all_nil, one_bool, one_int, one_str, one_ptr, one_nilptr, one_slice, one_eslice, one_nilslice, one_func, one_iface, one_niliface, Bool.and_true, Bool.true_and, List.getD_cons_zero, List.getD_cons_succ, List.contains_cons, List.contains_nil, Bool.or_true, Bool.true_or, Bool.or_false, Bool.false_or, Nat.reduceBEq, *]; done) | fail)) only [hb, go_sem, Hold.p, HoldK.k, HoldL.K, HoldL.body, Nat.reduceBEq, Nat.reduceAdd, reduceIte]
    exact implRest_c _ v w fs body hs hw hm hF
  simp (disch := (first | omega | assumption | (simp only [push_n, set_n, put_n, List.length_cons, List.length_nil, List.length_append, Nat.reduceAdd]; done) | (simp only [push_n, set_n, put_n, List.length_cons, List.length_nil, List.length_append]; omega) | (simp only [List.all_cons, List.all_nil, one_bool, one_int, one_str, one_ptr, one_nilptr, one_slice, one_eslice, one_nilslice, one_func, one_iface, one_niliface, Bool.and_true, Bool.true_and, List.getD_cons_zero, List.getD_cons_succ, List.contains_cons, List.contains_nil, Bool.or_true, Bool.true_or, Bool.or_false, Bool.false_or, Nat.reduceBEq, *]; done) | fail)) only [go_sem, Hold.p, HoldK.k, HoldL.K, HoldL.body, Nat.reduceBEq, Nat.reduceAdd, reduceIte]
  exact ⟨rfl, (e_g.trans E1).trans E⟩
theorem reqB_un {vb p : List UInt8} {fs : List Fld} {b : Nat} (h : reqB vb p fs b = true) : vb.length ≤ 6 ∧ p.length ≤ 200 ∧ restB fs b = true := by
  unfold reqB verbB at h
  simp only [Bool.and_eq_true, Bool.or_eq_true, decide_eq_true_eq] at h
  refine ⟨?_, ?_, h.2⟩
  · rcases h.1.1 with ((h1 | h1) | h1) | h1 <;> subst h1 <;> simp
  · have := h.1.2
    unfold pathOK at this
    simp only [Bool.and_eq_true, decide_eq_true_eq] at this
    exact this.1.1.2
theorem specShowReq_c (h : IH) (vb p : List UInt8) (v w : IV) (fs : List Fld) (body : List UInt8) (hs : SlR h 2 v (fldRows fs)) (hw : SlR h 1 w (strRows body)) (hp : p.length ≤ 1048576) (hm : fs.length ≤ 1048576) (hF : FldS fs) :
    ICalls Tryd.prog 21 [.agg [.str vb, .str p, v, w]] h fun r h' => BytesR h h' r (showReq vb p fs body) := by
  refine icalls (.of ok21) (Nat.le_of_ble_eq_true rfl) ?_
  unfold c21
  have v1 := hs.one
  have v2 := hw.one
  simp (disch := (first | omega | assumption | (simp only [push_n, set_n, put_n, List.length_cons, List.length_nil, List.length_append, Nat.reduceAdd]; done) | (simp only [push_n, set_n, put_n, List.length_cons, List.length_nil, List.length_append]; omega) | (simp only [List.all_cons, List.all_nil, one_bool, one_int, one_str, one_ptr, one_nilptr, one_slice, one_eslice, one_nilslice, one_func, one_iface, one_niliface, Bool.and_true, Bool.true_and, List.getD_cons_zero, List.getD_cons_succ, List.contains_cons, List.contains_nil, Bool.or_true, Bool.true_or, Bool.or_false, Bool.false_or, Nat.reduceBEq, *]; done) | fail)) only [v1, v2, go_sem, Hold.p, HoldK.k, HoldL.K, HoldL.body, Nat.reduceBEq, Nat.reduceAdd, reduceIte]
  generalize hq_g : IH.push h (reqObj vb p v w) = g
  have e_g : Ext h g := by rw [← hq_g]; exact (Ext.refl _).push _
  have l_g : g.n = h.n + 1 := by rw [← hq_g]; rfl
  have b : At g h.n (reqObj vb p v w) := by rw [← hq_g]; exact At.new _ _
  clear hq_g
  have hs := hs.ext e_g
  have hw := hw.ext e_g
  have q := b.eq
  try simp (disch := (first | omega | assumption | (simp only [push_n, set_n, put_n, List.length_cons, List.length_nil, List.length_append, Nat.reduceAdd]; done) | (simp only [push_n, set_n, put_n, List.length_cons, List.length_nil, List.length_append]; omega) | (simp only [List.all_cons, List.all_nil, one_bool, one_int, one_str, one_ptr, one_nilptr, one_slice, one_eslice, one_nilslice, one_func, one_iface, one_niliface, Bool.and_true, Bool.true_and, List.getD_cons_zero, List.getD_cons_succ, List.contains_cons, List.contains_nil, Bool.or_true, Bool.true_or, Bool.or_false, Bool.false_or, Nat.reduceBEq, *]; done) | fail)) only [q, go_sem, Hold.p, HoldK.k, HoldL.K, HoldL.body, Nat.reduceBEq, Nat.reduceAdd, reduceIte]
  refine callA_of (specReqOK_c g vb p v w fs body hs hw hp hm hF) ?_
  rintro r g1 ⟨rfl, E1⟩
  have b := b.ext E1
  have hs := hs.ext E1
  have hw := hw.ext E1
  have le_E1 := E1.le
  simp (disch := (first | omega | assumption | (simp only [push_n, set_n, put_n, List.length_cons, List.length_nil, List.length_append, Nat.reduceAdd]; done) | (simp only [push_n, set_n, put_n, List.length_cons, List.length_nil, List.length_append]; omega) | (simp only [List.all_cons, List.all_nil, one_bool, one_int, one_str, one_ptr, one_nilptr, one_slice, one_eslice, one_nilslice, one_func, one_iface, one_niliface, Bool.and_true, Bool.true_and, List.getD_cons_zero, List.getD_cons_succ, List.contains_cons, List.contains_nil, Bool.or_true, Bool.true_or, Bool.or_false, Bool.false_or, Nat.reduceBEq, *]; done) | fail)) only [go_sem, Hold.p, HoldK.k, HoldL.K, HoldL.body, Nat.reduceBEq, Nat.reduceAdd, reduceIte]
  unfold showReq
  refine test_of (fun hc => ?_) (fun hc => ?_)
  · have hc' : reqB vb p fs body.length = false := by rwa [Bool.not_eq_true'] at hc
    simp (disch := (first | omega | assumption | (simp only [push_n, set_n, put_n, List.length_cons, List.length_nil, List.length_append, Nat.reduceAdd]; done) | (simp only [push_n, set_n, put_n, List.length_cons, List.length_nil, List.length_append]; omega) | (simp only [List.all_cons, List.all_nil, one_bool, one_int, one_str, one_ptr, one_nilptr, one_slice, one_eslice, one_nilslice, one_func, one_iface, one_niliface, Bool.and_true, Bool.true_and, List.getD_cons_zero, List.getD_cons_succ, List.contains_cons, List.contains_nil, Bool.or_true, Bool.true_or, Bool.or_false, Bool.false_or, Nat.reduceBEq, *]; done) | fail)) only [go_sem, Hold.p, HoldK.k, HoldL.K, HoldL.body, Nat.reduceBEq, Nat.reduceAdd, reduceIte]
    rw [hc', if_neg (by simp)]
    exact ⟨_, rfl, Own.nil, e_g.trans E1⟩
  · have hc' : reqB vb p fs body.length = true := by rwa [Bool.not_eq_false'] at hc
    rw [hc', if_pos rfl]
    obtain ⟨s1, s2, hR⟩ := reqB_un hc'
    have q1 := b.eq
    simp (disch := (first | omega | assumption | (simp only [push_n, set_n, put_n, List.length_cons, List.length_nil, List.length_append, Nat.reduceAdd]; done) | (simp only [push_n, set_n, put_n, List.length_cons, List.length_nil, List.length_append]; omega) | (simp only [List.all_cons, List.all_nil, one_bool, one_int, one_str, one_ptr, one_nilptr, one_slice, one_eslice, one_nilslice, one_func, one_iface, one_niliface, Bool.and_true, Bool.true_and, List.getD_cons_zero, List.getD_cons_succ, List.contains_cons, List.contains_nil, Bool.or_true, Bool.true_or, Bool.or_false, Bool.false_or, Nat.reduceBEq, *]; done) | fail)) only [q1, cat3, go_sem, Hold.p, HoldK.k, HoldL.K, HoldL.body, Nat.reduceBEq, Nat.reduceAdd, reduceIte]
    refine callA_of (specMessage_c _ _ v w fs body hs hw hR (by simp; omega)) ?_
    rintro r g3 ⟨o, E3⟩
    simp (disch := (first | omega | assumption | (simp only [push_n, set_n, put_n, List.length_cons, List.length_nil, List.length_append, Nat.reduceAdd]; done) | (simp only [push_n, set_n, put_n, List.length_cons, List.length_nil, List.length_append]; omega) | (simp only [List.all_cons, List.all_nil, one_bool, one_int, one_str, one_ptr, one_nilptr, one_slice, one_eslice, one_nilslice, one_func, one_iface, one_niliface, Bool.and_true, Bool.true_and, List.getD_cons_zero, List.getD_cons_succ, List.contains_cons, List.contains_nil, Bool.or_true, Bool.true_or, Bool.or_false, Bool.false_or, Nat.reduceBEq, *]; done) | fail)) only [go_sem, Hold.p, HoldK.k, HoldL.K, HoldL.body, Nat.reduceBEq, Nat.reduceAdd, reduceIte]
    refine ⟨r, rfl, o.wide ?_ (Nat.le_refl _) (Nat.le_refl _), (e_g.trans E1).trans E3⟩
    have := (e_g.trans E1).le
    omega
theorem implShowReq_c (h : IH) (vb p : List UInt8) (v w : IV) (fs : List Fld) (body : List UInt8) (hs : SlR h 2 v (fldRows fs)) (hw : SlR h 1 w (strRows body)) (hp : p.length ≤ 1048576) (hm : fs.length ≤ 1048576) (hF : FldS fs) :
    ICalls Tryd.prog 23 [.agg [.str vb, .str p, v, w]] h fun r h' => BytesR h h' r (showReq vb p fs body) := by
  refine icalls (.of ok23) (Nat.le_of_ble_eq_true rfl) ?_
  unfold c23
  have v1 := hs.one
  have v2 := hw.one
  simp (disch := (first | omega | assumption | (simp only [push_n, set_n, put_n, List.length_cons, List.length_nil, List.length_append, Nat.reduceAdd]; done) | (simp only [push_n, set_n, put_n, List.length_cons, List.length_nil, List.length_append]; omega) | (simp only [List.all_cons, List.all_nil, one_bool, one_int, one_str, one_ptr, one_nilptr, one_slice, one_eslice, one_nilslice, one_func, one_iface, one_niliface, Bool.and_true, Bool.true_and, List.getD_cons_zero, List.getD_cons_succ, List.contains_cons, List.contains_nil, Bool.or_true, Bool.true_or, Bool.or_false, Bool.false_or, Nat.reduceBEq, *]; done) | fail)) only [v1, v2, go_sem, Hold.p, HoldK.k, HoldL.K, HoldL.body, Nat.reduceBEq, Nat.reduceAdd, reduceIte]
  generalize hq_g : IH.push h (reqObj vb p v w) = g
  have e_g : Ext h g := by rw [← hq_g]; exact (Ext.refl _).push _
  have l_g : g.n = h.n + 1 := by rw [← hq_g]; rfl
  have b : At g h.n (reqObj vb p v w) := by rw [← hq_g]; exact At.new _ _
  clear hq_g
  have hs := hs.ext e_g
  have hw := hw.ext e_g
  have q := b.eq
  try simp (disch := (first | omega | assumption | (simp only [push_n, set_n, put_n, List.length_cons, List.length_nil, List.length_append, Nat.reduceAdd]; done) | (simp only [push_n, set_n, put_n, List.length_cons, List.length_nil, List.length_append]; omega) | (simp only [List.all_cons, List.all_nil, one_bool, one_int, one_str, one_ptr, one_nilptr, one_slice, one_eslice, one_nilslice, one_func, one_iface, one_niliface, Bool.and_true, Bool.true_and, List.getD_cons_zero, List.getD_cons_succ, List.contains_cons, List.contains_nil, Bool.or_true, Bool.true_or, Bool.or_false, Bool.false_or, Nat.reduceBEq, *]; done) | fail)) only [q, go_sem, Hold.p, HoldK.k, HoldL.K, HoldL.body, Nat.reduceBEq, Nat.reduceAdd, reduceIte]
  refine callA_of (implReqOK_c g vb p v w fs body hs hw hp hm hF) ?_
  rintro r g1 ⟨rfl, E1⟩
  have b := b.ext E1
  have hs := hs.ext E1
  have hw := hw.ext E1
  have le_E1 := E1.le
  simp (disch := (first | omega | assumption | (simp only [push_n, set_n, put_n, List.length_cons, List.length_nil, List.length_append, Nat.reduceAdd]; done) | (simp only [push_n, set_n, put_n, List.length_cons, List.length_nil, List.length_append]; omega) | (simp only [List.all_cons, List.all_nil, one_bool, one_int, one_str, one_ptr, one_nilptr, one_slice, one_eslice, one_nilslice, one_func, one_iface, one_niliface, Bool.and_true, Bool.true_and, List.getD_cons_zero, List.getD_cons_succ, List.contains_cons, List.contains_nil, Bool.or_true, Bool.true_or, Bool.or_false, Bool.false_or, Nat.reduceBEq, *]; done) | fail)) only [go_sem, Hold.p, HoldK.k, HoldL.K, HoldL.body, Nat.reduceBEq, Nat.reduceAdd, reduceIte]
  unfold showReq
  refine test_of (fun hc => ?_) (fun hc => ?_)
  · have hc' : reqB vb p fs body.length = false := by rwa [Bool.not_eq_true'] at hc
    simp (disch := (first | omega | assumption | (simp only [push_n, set_n, put_n, List.length_cons, List.length_nil, List.length_append, Nat.reduceAdd]; done) | (simp only [push_n, set_n, put_n, List.length_cons, List.length_nil, List.length_append]; omega) | (simp only [List.all_cons, List.all_nil, one_bool, one_int, one_str, one_ptr, one_nilptr, one_slice, one_eslice, one_nilslice, one_func, one_iface, one_niliface, Bool.and_true, Bool.true_and, List.getD_cons_zero, List.getD_cons_succ, List.contains_cons, List.contains_nil, Bool.or_true, Bool.true_or, Bool.or_false, Bool.false_or, Nat.reduceBEq, *]; done) | fail)) only [go_sem, Hold.p, HoldK.k, HoldL.K, HoldL.body, Nat.reduceBEq, Nat.reduceAdd, reduceIte]
    rw [hc', if_neg (by simp)]
    exact ⟨_, rfl, Own.nil, e_g.trans E1⟩
  · have hc' : reqB vb p fs body.length = true := by rwa [Bool.not_eq_false'] at hc
    rw [hc', if_pos rfl]
    obtain ⟨s1, s2, hR⟩ := reqB_un hc'
    have q1 := b.eq
    simp (disch := (first | omega | assumption | (simp only [push_n, set_n, put_n, List.length_cons, List.length_nil, List.length_append, Nat.reduceAdd]; done) | (simp only [push_n, set_n, put_n, List.length_cons, List.length_nil, List.length_append]; omega) | (simp only [List.all_cons, List.all_nil, one_bool, one_int, one_str, one_ptr, one_nilptr, one_slice, one_eslice, one_nilslice, one_func, one_iface, one_niliface, Bool.and_true, Bool.true_and, List.getD_cons_zero, List.getD_cons_succ, List.contains_cons, List.contains_nil, Bool.or_true, Bool.true_or, Bool.or_false, Bool.false_or, Nat.reduceBEq, *]; done) | fail)) only [q1, cat3, go_sem, Hold.p, HoldK.k, HoldL.K, HoldL.body, Nat.reduceBEq, Nat.reduceAdd, reduceIte]
    refine callA_of (implMessage_c _ _ v w fs body hs hw hR (by simp; omega)) ?_
    rintro r g3 ⟨o, E3⟩
    simp (disch := (first | omega | assumption | (simp only [push_n, set_n, put_n, List.length_cons, List.length_nil, List.length_append, Nat.reduceAdd]; done) | (simp only [push_n, set_n, put_n, List.length_cons, List.length_nil, List.length_append]; omega) | (simp only [List.all_cons, List.all_nil, one_bool, one_int, one_str, one_ptr, one_nilptr, one_slice, one_eslice, one_nilslice, one_func, one_iface, one_niliface, Bool.and_true, Bool.true_and, List.getD_cons_zero, List.getD_cons_succ, List.contains_cons, List.contains_nil, Bool.or_true, Bool.true_or, Bool.or_false, Bool.false_or, Nat.reduceBEq, *]; done) | fail)) only [go_sem, Hold.p, HoldK.k, HoldL.K, HoldL.body, Nat.reduceBEq, Nat.reduceAdd, reduceIte]
    refine ⟨r, rfl, o.wide ?_ (Nat.le_refl _) (Nat.le_refl _), (e_g.trans E1).trans E3⟩
    have := (e_g.trans E1).le
    omega
end
end Go.Proofs.YtaolhgjnlmaooaaDoor

namespace Go.Proofs.YtaolhgjnlmaooaaDoor
open Go Go.IW
def t_Field : Ty := .cat .str (.cat .str (.nil))
def t_Request : Ty := .cat .str (.cat .str (.cat (.slice 104 t_Field) (.cat (.slice 5 (.int .u8)) (.nil))))
set_option maxRecDepth 20000 in
theorem eqByteS_f : EqC Tryd.prog 15 (.slice 5 (.int .u8)) := eqSlI_calls (by kernel_rfl) rfl
set_option maxRecDepth 20000 in
theorem eqField_f : EqC Tryd.prog 68 t_Field := eqSt_calls (N := 15) (a1 := 104) (a2 := 104) (sz := 2) (fs := [(.str, none), (.str, none)]) (by kernel_rfl) (by decide) rfl ⟨rfl, ⟨rfl, trivial⟩⟩
set_option maxRecDepth 20000 in
theorem eqFieldS_f : EqC Tryd.prog 46 (.slice 104 t_Field) := eqSl_calls (g := 68) (by kernel_rfl) eqField_f
set_option maxRecDepth 20000 in
theorem eqRequest_f : EqC Tryd.prog 24 t_Request := eqSt_calls (N := 27) (a1 := 55) (a2 := 55) (sz := 4) (fs := [(.str, none), (.str, none), (.slice 104 t_Field, some 46), (.slice 5 (.int .u8), some 15)]) (by kernel_rfl) (by decide) rfl ⟨rfl, ⟨rfl, ⟨eqFieldS_f, ⟨eqByteS_f, trivial⟩⟩⟩⟩
set_option maxRecDepth 20000 in
theorem heldByteS_f : HdC Tryd.prog 19 (.slice 5 (.int .u8)) := held_calls (N := 22) (q := []) (by kernel_rfl) (by decide) rfl trivial
set_option maxRecDepth 20000 in
theorem markByteS_f : MkC Tryd.prog 18 (.slice 5 (.int .u8)) := mark_calls (N := 20) (q := []) (by kernel_rfl) (by decide) rfl trivial
set_option maxRecDepth 20000 in
theorem markText_f : MtC Tryd.prog 69 := mtx_calls (el := 5) (by kernel_rfl)
set_option maxRecDepth 20000 in
theorem markFieldS_f : MkC Tryd.prog 47 (.slice 104 t_Field) := mark_calls (N := 29) (q := [69, 69]) (by kernel_rfl) (by decide) rfl ⟨markText_f, ⟨markText_f, trivial⟩⟩
set_option maxRecDepth 20000 in
theorem markRequest_f : MkC Tryd.prog 25 t_Request := markSt_calls (N := 14) (ein := 55) (sz := 4) (fs := [(.str, none), (.str, none), (.slice 104 t_Field, some 47), (.slice 5 (.int .u8), some 18)]) (by kernel_rfl) (by decide) rfl ⟨rfl, ⟨rfl, ⟨markFieldS_f, ⟨markByteS_f, trivial⟩⟩⟩⟩
set_option maxRecDepth 20000 in
theorem szByteS_f : SzC Tryd.prog 27 (.slice 5 (.int .u8)) := szSlL_calls (by kernel_rfl) (by exact flat_tot (by decide))
set_option maxRecDepth 20000 in
theorem szField_f : SzC Tryd.prog 63 t_Field := szSt_calls (N := 20) (ein := 102) (sz := 2) (fs := [(.str, .text), (.str, .text)]) (by kernel_rfl) (by decide) rfl ⟨rfl, ⟨rfl, trivial⟩⟩
set_option maxRecDepth 20000 in
theorem szFieldS_f : SzC Tryd.prog 40 (.slice 104 t_Field) := szSl_calls (g := 63) (by kernel_rfl) szField_f
set_option maxRecDepth 20000 in
theorem szRequest_f : SzC Tryd.prog 20 t_Request := szSt_calls (N := 32) (ein := 51) (sz := 4) (fs := [(.str, .text), (.str, .text), (.slice 104 t_Field, .sub 40), (.slice 5 (.int .u8), .sub 27)]) (by kernel_rfl) (by decide) rfl ⟨rfl, ⟨rfl, ⟨szFieldS_f, ⟨szByteS_f, trivial⟩⟩⟩⟩
set_option maxRecDepth 20000 in
theorem toByteS_f : ToC Tryd.prog 34 (.slice 5 (.int .u8)) := toSlI_calls (b := 1) (z := [.int .u8 0]) (by kernel_rfl) rfl (by decide) rfl
set_option maxRecDepth 20000 in
theorem toField_f : ToC Tryd.prog 66 t_Field := toSt_calls (N := 11) (ein := 102) (eout := 104) (sz := 2) (zs := [.str [], .str []]) (fs := [(.str, none), (.str, none)]) (by kernel_rfl) (by decide) rfl rfl rfl ⟨rfl, ⟨rfl, trivial⟩⟩
set_option maxRecDepth 20000 in
theorem toFieldS_f : ToC Tryd.prog 43 (.slice 104 t_Field) := toSl_calls (g := 66) (b := 32) (z := [.str [], .str []]) (by kernel_rfl) rfl (by decide) toField_f
set_option maxRecDepth 20000 in
theorem toRequest_f : ToC Tryd.prog 22 t_Request := toSt_calls (N := 19) (ein := 51) (eout := 55) (sz := 4) (zs := [.str [], .str [], .nilslice, .nilslice]) (fs := [(.str, none), (.str, none), (.slice 104 t_Field, some 43), (.slice 5 (.int .u8), some 34)]) (by kernel_rfl) (by decide) rfl rfl rfl ⟨rfl, ⟨rfl, ⟨toFieldS_f, ⟨toByteS_f, trivial⟩⟩⟩⟩
end Go.Proofs.YtaolhgjnlmaooaaDoor

set_option maxRecDepth 20000
namespace Go.Proofs.YtaolhgjnlmaooaaDoor
open Go Go.IW

/-! Replies and requests as data. -/
def fldD (f : Fld) : Dat := .pair (.str f.1) (.pair (.str f.2) .unit)
theorem fld_vw {S : Nat → Prop} {h : IH} {cs : List IV} {d : Dat} (hv : Rp S h t_Field cs d) : ∃ x : Fld, cs = [.str x.1, .str x.2] ∧ d = fldD x := by
  obtain ⟨_, _, _, _, rfl, rfl, ⟨a1, rfl, rfl⟩, _, _, _, _, rfl, rfl, ⟨a2, rfl, rfl⟩, rfl, rfl⟩ := hv
  exact ⟨(a1, a2), rfl, rfl⟩
theorem fldD_inj {a b : List Fld} (h : a.map fldD = b.map fldD) : a = b := by
  refine (List.map_inj_right (fun x y e => ?_)).1 h
  obtain ⟨x1, x2⟩ := x
  obtain ⟨y1, y2⟩ := y
  simp [fldD] at e
  simp [e]
theorem fldL_tot : ∀ (fs : List Fld), ∀ f ∈ fs, f.1.length ≤ totL (fs.map fldD) ∧ f.2.length ≤ totL (fs.map fldD)
  | g :: fs, f, h => by
    simp only [List.map_cons, totL, fldD, Dat.tot]
    rcases List.mem_cons.1 h with rfl | h
    · omega
    · have := fldL_tot fs f h; omega
theorem fldL_cnt (fs : List Fld) : cntL t_Field (fs.map fldD) = 2 * fs.length := by
  induction fs with
  | nil => rfl
  | cons p r ih => simp only [List.map_cons, cntL, ih]; simp [t_Field, fldD, cntE]; omega
theorem bytes_cntL (bs : List UInt8) : cntL (.int .u8) (bs.map fun b => .int (b.toNat : Int)) = bs.length := by
  induction bs with
  | nil => rfl
  | cons p r ih => simp only [List.map_cons, cntL, ih]; simp [cntE]; omega
theorem bytes_cnt (el : Nat) (bs : List UInt8) : cntW (.slice el (.int .u8)) (bytesD bs) = bs.length := by
  simp [cntW, bytesD, cntE, bytes_cntL]
theorem bytes_ow {lo hi : Nat} {h : IH} {v : IV} {bs : List UInt8} (ho : Own lo hi h 5 1 v (strRows bs)) (hh : hi ≤ h.n) : Ow lo hi h (.slice 5 (.int .u8)) [v] (bytesD bs) :=
  Own.ow (t := .int .u8) (row := fun b : UInt8 => [.int .u8 (b.toNat : Int)]) (dat := fun b : UInt8 => .int (b.toNat : Int)) (fun x => ⟨_, rfl, rfl, rfl⟩) ho hh

def reqD (vb p : List UInt8) (fs : List Fld) (body : List UInt8) : Dat := .pair (.str vb) (.pair (.str p) (.pair (.list (fs.map fldD)) (.pair (bytesD body) .unit)))
theorem req_any {lo hi : Nat} {h : IH} {cs : List IV} {d : Dat} (hv : Vw lo hi h t_Request cs d) (hw : wfD t_Request d) : ∃ vb p v w fs body, cs = [.str vb, .str p, v, w] ∧ d = reqD vb p fs body ∧ SlR h 2 v (fldRows fs) ∧ SlR h 1 w (strRows body) := by
  obtain ⟨_, _, _, _, rfl, rfl, ⟨a1, rfl, rfl⟩, _, _, _, _, rfl, rfl, ⟨a0, rfl, rfl⟩, c2, _, d2, _, rfl, rfl, h2, c3, _, d3, _, rfl, rfl, h3, rfl, rfl⟩ := hv
  obtain ⟨v, rfl⟩ := one_list rfl (Rp.len h2)
  obtain ⟨w, rfl⟩ := one_list rfl (Rp.len h3)
  obtain ⟨fs, rfl, hs, _⟩ := view_sl (t := t_Field) (row := fun x : Fld => [.str x.1, .str x.2]) (dat := fldD) fld_vw h2
  obtain ⟨_, _, _, w3, _⟩ := hw
  obtain ⟨bs, rfl, hd⟩ := bytes_any h3 w3
  exact ⟨a1, a0, v, w, fs, bs, rfl, rfl, hs, hd⟩
theorem reqD_inj {a b c d : List UInt8} {fs gs : List Fld} {x y : List UInt8} (h : reqD a c fs x = reqD b d gs y) : a = b ∧ c = d ∧ fs = gs ∧ x = y := by
  simp only [reqD, Dat.pair.injEq, Dat.str.injEq, Dat.list.injEq, and_true] at h
  exact ⟨h.1, h.2.1, fldD_inj h.2.2.1, bytesD_inj h.2.2.2⟩
theorem req_vw {lo hi : Nat} {h : IH} {cs : List IV} {vb p : List UInt8} {fs : List Fld} {body : List UInt8} (hv : Vw lo hi h t_Request cs (reqD vb p fs body)) (hw : wfD t_Request (reqD vb p fs body)) : ∃ v w, cs = [.str vb, .str p, v, w] ∧ SlR h 2 v (fldRows fs) ∧ SlR h 1 w (strRows body) := by
  obtain ⟨a, b, v, w, fs', body', rfl, hd, h1, h2⟩ := req_any hv hw
  obtain ⟨rfl, rfl, rfl, rfl⟩ := reqD_inj hd
  exact ⟨v, w, rfl, h1, h2⟩
theorem reqD_tot (vb p : List UInt8) (fs : List Fld) (body : List UInt8) : (reqD vb p fs body).tot = vb.length + p.length + (fs.length + totL (fs.map fldD)) + body.length := by
  simp [reqD, Dat.tot, bytesD_tot]; omega
theorem reqD_cnt (vb p : List UInt8) (fs : List Fld) (body : List UInt8) : cntW t_Request (reqD vb p fs body) = 2 * fs.length + body.length := by
  simp [reqD, t_Request, cntW, cntE, fldL_cnt, bytesD, bytes_cntL]
theorem msg_len {first : List UInt8} {fs : List Fld} {body : List UInt8} (hR : restB fs body.length = true) (hl : first.length ≤ 1000) : (message first fs body).length ≤ 100000 := by
  obtain ⟨r1, r2, r3⟩ := restB_un hR
  have ll := lines_len r3
  have hd : (Lib.decDigits body.length).length ≤ 20 := dec_le _ (by omega)
  have hL : (lenLine body).length ≤ 40 := by
    unfold lenLine; split
    · simp [lengthS]; omega
    · simp
  unfold message
  simp only [List.length_append, List.length_cons, List.length_nil]
  omega
theorem showReq_len (vb p : List UInt8) (fs : List Fld) (body : List UInt8) : (showReq vb p fs body).1.length ≤ 100000 := by
  unfold showReq
  split
  · rename_i h
    obtain ⟨h1, h2, h3⟩ := reqB_un h
    exact msg_len h3 (by simp; omega)
  · simp
end Go.Proofs.YtaolhgjnlmaooaaDoor

set_option maxRecDepth 20000
namespace Go.Proofs.YtaolhgjnlmaooaaDoor
open Go Go.IW
section
attribute [local go_sem] List.getElem?_cons_zero List.getElem?_cons_succ Option.bind_some List.map_cons List.map_nil Nat.zero_add if_true List.getD_cons_zero List.getD_cons_succ List.contains_cons List.contains_nil Bool.or_true Bool.true_or Bool.or_false Bool.false_or Bool.not_true Bool.not_false true_and and_true rowA_whole mid_get stO_mid rowO_rows cellO_rows push_n set_n push_at push_old set_here set_there set_pushT set_pushN set_set upd_ne Nat.add_assoc Nat.add_zero stO_1s stO_ws boxA_s List.all_cons List.all_nil one_bool one_int one_str one_ptr one_nilptr one_slice one_eslice one_nilslice one_func one_iface one_niliface Bool.and_true Bool.and_self List.length_cons List.length_nil Nat.one_ne_zero Nat.succ_ne_zero if_false List.set_cons_zero List.set_cons_succ lay_nil lay_1 lay_w Option.map_some

set_option maxHeartbeats 4000000 in
theorem lawShowRequest : LawTrue Tryd.prog 5 [(t_Request.sh, true)] := by
  rintro h ivs ha ⟨iv, r, rfl, ⟨cs, rfl, hf⟩, rfl⟩
  obtain ⟨dS, aS, okS', wS⟩ := fits_vw t_Request hf
  obtain ⟨vb, p, v, w, fs, body, rfl, rfl, s1, s2⟩ := req_any aS wS
  refine icalls (.of ok5) (Nat.le_of_ble_eq_true rfl) ?_
  unfold c5
  have o1 := s1.one
  have o2 := s2.one
  simp (disch := (first | omega | assumption | (simp only [push_n, set_n, put_n, List.length_cons, List.length_nil, List.length_append, Nat.reduceAdd]; done) | (simp only [push_n, set_n, put_n, List.length_cons, List.length_nil, List.length_append]; omega) | (simp only [List.all_cons, List.all_nil, one_bool, one_int, one_str, one_ptr, one_nilptr, one_slice, one_eslice, one_nilslice, one_func, one_iface, one_niliface, Bool.and_true, Bool.true_and, List.getD_cons_zero, List.getD_cons_succ, List.contains_cons, List.contains_nil, Bool.or_true, Bool.true_or, Bool.or_false, Bool.false_or, Nat.reduceBEq, *]; done) | fail)) only [o1, o2, go_sem, Hold.p, HoldK.k, HoldL.K, HoldL.body, Nat.reduceBEq, Nat.reduceAdd, reduceIte]
  generalize hq_g0 : IH.push h (IObj.rows [[.str vb, .str p, v, w]] 51 4 false) = g0
  have e_g0 : Ext h g0 := by rw [← hq_g0]; exact (Ext.refl _).push _
  have l_g0 : g0.n = h.n + 1 := by rw [← hq_g0]; rfl
  have b0 : At g0 h.n (IObj.rows [[.str vb, .str p, v, w]] 51 4 false) := by rw [← hq_g0]; exact At.new _ _
  clear hq_g0
  have aS := aS.ext e_g0
  have q0 := b0.eq
  try simp (disch := (first | omega | assumption | (simp only [push_n, set_n, put_n, List.length_cons, List.length_nil, List.length_append, Nat.reduceAdd]; done) | (simp only [push_n, set_n, put_n, List.length_cons, List.length_nil, List.length_append]; omega) | (simp only [List.all_cons, List.all_nil, one_bool, one_int, one_str, one_ptr, one_nilptr, one_slice, one_eslice, one_nilslice, one_func, one_iface, one_niliface, Bool.and_true, Bool.true_and, List.getD_cons_zero, List.getD_cons_succ, List.contains_cons, List.contains_nil, Bool.or_true, Bool.true_or, Bool.or_false, Bool.false_or, Nat.reduceBEq, *]; done) | fail)) only [q0, go_sem, Hold.p, HoldK.k, HoldL.K, HoldL.body, Nat.reduceBEq, Nat.reduceAdd, reduceIte]
  refine callA_of (SzC.st szRequest_f rfl (aS.up (by omega)) okS' (by omega)) ?_
  rintro r g1 ⟨⟨L, rfl, hL1, hL2⟩, E1⟩
  have b0 := b0.ext E1
  have aS := aS.ext E1
  have le_E1 := E1.le
  by_cases hn1 : L < 0
  · have d1 : decide (L < 0) = true := decide_eq_true hn1
    simp (disch := (first | omega | assumption | (simp only [push_n, set_n, put_n, List.length_cons, List.length_nil, List.length_append, Nat.reduceAdd]; done) | (simp only [push_n, set_n, put_n, List.length_cons, List.length_nil, List.length_append]; omega) | (simp only [List.all_cons, List.all_nil, one_bool, one_int, one_str, one_ptr, one_nilptr, one_slice, one_eslice, one_nilslice, one_func, one_iface, one_niliface, Bool.and_true, Bool.true_and, List.getD_cons_zero, List.getD_cons_succ, List.contains_cons, List.contains_nil, Bool.or_true, Bool.true_or, Bool.or_false, Bool.false_or, Nat.reduceBEq, *]; done) | fail)) only [d1, go_sem, Hold.p, HoldK.k, HoldL.K, HoldL.body, Nat.reduceBEq, Nat.reduceAdd, reduceIte]
  have d1 : decide (L < 0) = false := decide_eq_false hn1
  have tS := hL2 (by omega)
  have tT := reqD_tot vb p fs body
  have tC := reqD_cnt vb p fs body
  have hF : FldS fs := fun f hf => by have := fldL_tot fs f hf; omega
  have hXl := showReq_len vb p fs body
  have q0 := b0.eq
  simp (disch := (first | omega | assumption | (simp only [push_n, set_n, put_n, List.length_cons, List.length_nil, List.length_append, Nat.reduceAdd]; done) | (simp only [push_n, set_n, put_n, List.length_cons, List.length_nil, List.length_append]; omega) | (simp only [List.all_cons, List.all_nil, one_bool, one_int, one_str, one_ptr, one_nilptr, one_slice, one_eslice, one_nilslice, one_func, one_iface, one_niliface, Bool.and_true, Bool.true_and, List.getD_cons_zero, List.getD_cons_succ, List.contains_cons, List.contains_nil, Bool.or_true, Bool.true_or, Bool.or_false, Bool.false_or, Nat.reduceBEq, *]; done) | fail)) only [d1, q0, go_sem, Hold.p, HoldK.k, HoldL.K, HoldL.body, Nat.reduceBEq, Nat.reduceAdd, reduceIte]
  refine callA_of (ToC.st toRequest_f rfl (aS.up (by omega)) (by omega)) ?_
  rintro r g2 ⟨c1, rfl, t1, E2⟩
  have b0 := b0.ext E2
  have aS := aS.ext E2
  have le_E2 := E2.le
  obtain ⟨x1, x2, rfl, sx1, sx2⟩ := req_vw t1.view wS
  simp (disch := (first | omega | assumption | (simp only [push_n, set_n, put_n, List.length_cons, List.length_nil, List.length_append, Nat.reduceAdd]; done) | (simp only [push_n, set_n, put_n, List.length_cons, List.length_nil, List.length_append]; omega) | (simp only [List.all_cons, List.all_nil, one_bool, one_int, one_str, one_ptr, one_nilptr, one_slice, one_eslice, one_nilslice, one_func, one_iface, one_niliface, Bool.and_true, Bool.true_and, List.getD_cons_zero, List.getD_cons_succ, List.contains_cons, List.contains_nil, Bool.or_true, Bool.true_or, Bool.or_false, Bool.false_or, Nat.reduceBEq, *]; done) | fail)) only [go_sem, Hold.p, HoldK.k, HoldL.K, HoldL.body, Nat.reduceBEq, Nat.reduceAdd, reduceIte]
  refine callA_of (specShowReq_c g2 vb p x1 x2 fs body sx1 sx2 (by omega) (by omega) hF) ?_
  rintro r g3 ⟨vw, rfl, oW, E3⟩
  have b0 := b0.ext E3
  have aS := aS.ext E3
  have le_E3 := E3.le
  have oW := bytes_ow oW (Nat.le_refl _)
  have hI : ∀ (g : IH) (y1 y2 : IV), SlR g 2 y1 (fldRows fs) → SlR g 1 y2 (strRows body) → ICalls Tryd.prog 23 [.agg [.str vb, .str p, y1, y2]] g fun r h' => BytesR g h' r (showReq vb p fs body) := fun g y1 y2 h1 h2 => implShowReq_c g vb p y1 y2 fs body h1 h2 (by omega) (by omega) hF
  generalize showReq vb p fs body = X at oW hI hXl
  obtain ⟨xb, xc⟩ := X
  simp only at oW hXl ⊢
  have tX := bytesD_tot xb
  have cX := bytes_cnt 5 xb
  have q0 := b0.eq
  simp (disch := (first | omega | assumption | (simp only [push_n, set_n, put_n, List.length_cons, List.length_nil, List.length_append, Nat.reduceAdd]; done) | (simp only [push_n, set_n, put_n, List.length_cons, List.length_nil, List.length_append]; omega) | (simp only [List.all_cons, List.all_nil, one_bool, one_int, one_str, one_ptr, one_nilptr, one_slice, one_eslice, one_nilslice, one_func, one_iface, one_niliface, Bool.and_true, Bool.true_and, List.getD_cons_zero, List.getD_cons_succ, List.contains_cons, List.contains_nil, Bool.or_true, Bool.true_or, Bool.or_false, Bool.false_or, Nat.reduceBEq, *]; done) | fail)) only [q0, go_sem, Hold.p, HoldK.k, HoldL.K, HoldL.body, Nat.reduceBEq, Nat.reduceAdd, reduceIte]
  refine callA_of (ToC.st toRequest_f rfl (aS.up (by omega)) (by omega)) ?_
  rintro r g4 ⟨c2, rfl, oX, E4⟩
  have b0 := b0.ext E4
  have aS := aS.ext E4
  have oW := oW.ext E4
  have le_E4 := E4.le
  obtain ⟨y1, y2, rfl, sy1, sy2⟩ := req_vw oX.view wS
  have p1 := sy1.one
  have p2 := sy2.one
  simp (disch := (first | omega | assumption | (simp only [push_n, set_n, put_n, List.length_cons, List.length_nil, List.length_append, Nat.reduceAdd]; done) | (simp only [push_n, set_n, put_n, List.length_cons, List.length_nil, List.length_append]; omega) | (simp only [List.all_cons, List.all_nil, one_bool, one_int, one_str, one_ptr, one_nilptr, one_slice, one_eslice, one_nilslice, one_func, one_iface, one_niliface, Bool.and_true, Bool.true_and, List.getD_cons_zero, List.getD_cons_succ, List.contains_cons, List.contains_nil, Bool.or_true, Bool.true_or, Bool.or_false, Bool.false_or, Nat.reduceBEq, *]; done) | fail)) only [p1, p2, go_sem, Hold.p, HoldK.k, HoldL.K, HoldL.body, Nat.reduceBEq, Nat.reduceAdd, reduceIte]
  generalize hq_g5 : IH.push g4 (IObj.rows [[.str vb, .str p, y1, y2]] 55 4 false) = g5
  have e_g5 : Ext g4 g5 := by rw [← hq_g5]; exact (Ext.refl _).push _
  have l_g5 : g5.n = g4.n + 1 := by rw [← hq_g5]; rfl
  have bX : At g5 g4.n (IObj.rows [[.str vb, .str p, y1, y2]] 55 4 false) := by rw [← hq_g5]; exact At.new _ _
  clear hq_g5
  have b0 := b0.ext e_g5
  have aS := aS.ext e_g5
  have oW := oW.ext e_g5
  have oX := oX.ext e_g5
  have sy1 := sy1.ext e_g5
  have sy2 := sy2.ext e_g5
  have qX := bX.eq
  try simp (disch := (first | omega | assumption | (simp only [push_n, set_n, put_n, List.length_cons, List.length_nil, List.length_append, Nat.reduceAdd]; done) | (simp only [push_n, set_n, put_n, List.length_cons, List.length_nil, List.length_append]; omega) | (simp only [List.all_cons, List.all_nil, one_bool, one_int, one_str, one_ptr, one_nilptr, one_slice, one_eslice, one_nilslice, one_func, one_iface, one_niliface, Bool.and_true, Bool.true_and, List.getD_cons_zero, List.getD_cons_succ, List.contains_cons, List.contains_nil, Bool.or_true, Bool.true_or, Bool.or_false, Bool.false_or, Nat.reduceBEq, *]; done) | fail)) only [qX, p1, p2, go_sem, Hold.p, HoldK.k, HoldL.K, HoldL.body, Nat.reduceBEq, Nat.reduceAdd, reduceIte]
  refine callA_of (hI g5 y1 y2 sy1 sy2) ?_
  rintro r g6 ⟨vg, rfl, oG, E6⟩
  have b0 := b0.ext E6
  have bX := bX.ext E6
  have aS := aS.ext E6
  have oW := oW.ext E6
  have oX := oX.ext E6
  have le_E6 := E6.le
  have oG := bytes_ow oG (Nat.le_refl _)
  simp only at oG
  simp (disch := (first | omega | assumption | (simp only [push_n, set_n, put_n, List.length_cons, List.length_nil, List.length_append, Nat.reduceAdd]; done) | (simp only [push_n, set_n, put_n, List.length_cons, List.length_nil, List.length_append]; omega) | (simp only [List.all_cons, List.all_nil, one_bool, one_int, one_str, one_ptr, one_nilptr, one_slice, one_eslice, one_nilslice, one_func, one_iface, one_niliface, Bool.and_true, Bool.true_and, List.getD_cons_zero, List.getD_cons_succ, List.contains_cons, List.contains_nil, Bool.or_true, Bool.true_or, Bool.or_false, Bool.false_or, Nat.reduceBEq, *]; done) | fail)) only [go_sem, Hold.p, HoldK.k, HoldL.K, HoldL.body, Nat.reduceBEq, Nat.reduceAdd, reduceIte]
  refine callA_of (EqC.sl eqByteS_f oG.up oW.up (by omega)) ?_
  rintro r g7 ⟨rfl, E7⟩
  have b0 := b0.ext E7
  have bX := bX.ext E7
  have aS := aS.ext E7
  have oW := oW.ext E7
  have oX := oX.ext E7
  have oG := oG.ext E7
  have le_E7 := E7.le
  have q0 := b0.eq
  have qX := bX.eq
  simp (disch := (first | omega | assumption | (simp only [push_n, set_n, put_n, List.length_cons, List.length_nil, List.length_append, Nat.reduceAdd]; done) | (simp only [push_n, set_n, put_n, List.length_cons, List.length_nil, List.length_append]; omega) | (simp only [List.all_cons, List.all_nil, one_bool, one_int, one_str, one_ptr, one_nilptr, one_slice, one_eslice, one_nilslice, one_func, one_iface, one_niliface, Bool.and_true, Bool.true_and, List.getD_cons_zero, List.getD_cons_succ, List.contains_cons, List.contains_nil, Bool.or_true, Bool.true_or, Bool.or_false, Bool.false_or, Nat.reduceBEq, *]; done) | fail)) only [q0, qX, decide_true, go_sem, Hold.p, HoldK.k, HoldL.K, HoldL.body, Nat.reduceBEq, Nat.reduceAdd, reduceIte]
  refine callA_of (ToC.st toRequest_f rfl (aS.up (by omega)) (by omega)) ?_
  rintro r g8 ⟨c3, rfl, t3, E8⟩
  have b0 := b0.ext E8
  have bX := bX.ext E8
  have aS := aS.ext E8
  have oW := oW.ext E8
  have oX := oX.ext E8
  have oG := oG.ext E8
  have le_E8 := E8.le
  have q0 := b0.eq
  have qX := bX.eq
  simp (disch := (first | omega | assumption | (simp only [push_n, set_n, put_n, List.length_cons, List.length_nil, List.length_append, Nat.reduceAdd]; done) | (simp only [push_n, set_n, put_n, List.length_cons, List.length_nil, List.length_append]; omega) | (simp only [List.all_cons, List.all_nil, one_bool, one_int, one_str, one_ptr, one_nilptr, one_slice, one_eslice, one_nilslice, one_func, one_iface, one_niliface, Bool.and_true, Bool.true_and, List.getD_cons_zero, List.getD_cons_succ, List.contains_cons, List.contains_nil, Bool.or_true, Bool.true_or, Bool.or_false, Bool.false_or, Nat.reduceBEq, *]; done) | fail)) only [q0, qX, go_sem, Hold.p, HoldK.k, HoldL.K, HoldL.body, Nat.reduceBEq, Nat.reduceAdd, reduceIte]
  refine callA_of (EqC.st eqRequest_f rfl oX.up t3.up (by omega)) ?_
  rintro r g9 ⟨rfl, E9⟩
  have b0 := b0.ext E9
  have bX := bX.ext E9
  have aS := aS.ext E9
  have oW := oW.ext E9
  have oX := oX.ext E9
  have oG := oG.ext E9
  have le_E9 := E9.le
  have qX := bX.eq
  simp (disch := (first | omega | assumption | (simp only [push_n, set_n, put_n, List.length_cons, List.length_nil, List.length_append, Nat.reduceAdd]; done) | (simp only [push_n, set_n, put_n, List.length_cons, List.length_nil, List.length_append]; omega) | (simp only [List.all_cons, List.all_nil, one_bool, one_int, one_str, one_ptr, one_nilptr, one_slice, one_eslice, one_nilslice, one_func, one_iface, one_niliface, Bool.and_true, Bool.true_and, List.getD_cons_zero, List.getD_cons_succ, List.contains_cons, List.contains_nil, Bool.or_true, Bool.true_or, Bool.or_false, Bool.false_or, Nat.reduceBEq, *]; done) | fail)) only [qX, go_sem, Hold.p, HoldK.k, HoldL.K, HoldL.body, Nat.reduceBEq, Nat.reduceAdd, reduceIte]
  refine callA_of (MkC.st (k := 1) markRequest_f rfl oX (by omega)) ?_
  rintro r g10 ⟨rfl, oX, T10⟩
  have b0 := b0.trn T10 (by omega)
  have bX := bX.trn T10 (by omega)
  have aS := aS.trn T10 (by omega)
  have oW := oW.trn T10 (by omega)
  have oG := oG.trn T10 (by omega)
  have le_T10 := T10.le
  have hk : decide (((1 + cntW t_Request (reqD vb p fs body) : Nat) : Int) < 0) = false := decide_eq_false (by omega)
  simp (disch := (first | omega | assumption | (simp only [push_n, set_n, put_n, List.length_cons, List.length_nil, List.length_append, Nat.reduceAdd]; done) | (simp only [push_n, set_n, put_n, List.length_cons, List.length_nil, List.length_append]; omega) | (simp only [List.all_cons, List.all_nil, one_bool, one_int, one_str, one_ptr, one_nilptr, one_slice, one_eslice, one_nilslice, one_func, one_iface, one_niliface, Bool.and_true, Bool.true_and, List.getD_cons_zero, List.getD_cons_succ, List.contains_cons, List.contains_nil, Bool.or_true, Bool.true_or, Bool.or_false, Bool.false_or, Nat.reduceBEq, *]; done) | fail)) only [hk, go_sem, Hold.p, HoldK.k, HoldL.K, HoldL.body, Nat.reduceBEq, Nat.reduceAdd, reduceIte]
  refine callA_of (EqC.sl eqByteS_f oG.up oW.up (by omega)) ?_
  rintro r g11 ⟨rfl, E11⟩
  have b0 := b0.ext E11
  have bX := bX.ext E11
  have aS := aS.ext E11
  have oW := oW.ext E11
  have oG := oG.ext E11
  have le_E11 := E11.le
  simp (disch := (first | omega | assumption | (simp only [push_n, set_n, put_n, List.length_cons, List.length_nil, List.length_append, Nat.reduceAdd]; done) | (simp only [push_n, set_n, put_n, List.length_cons, List.length_nil, List.length_append]; omega) | (simp only [List.all_cons, List.all_nil, one_bool, one_int, one_str, one_ptr, one_nilptr, one_slice, one_eslice, one_nilslice, one_func, one_iface, one_niliface, Bool.and_true, Bool.true_and, List.getD_cons_zero, List.getD_cons_succ, List.contains_cons, List.contains_nil, Bool.or_true, Bool.true_or, Bool.or_false, Bool.false_or, Nat.reduceBEq, *]; done) | fail)) only [decide_true, go_sem, Hold.p, HoldK.k, HoldL.K, HoldL.body, Nat.reduceBEq, Nat.reduceAdd, reduceIte]
  refine callA_of (MkC.sl (k := 1) markByteS_f oG (by omega)) ?_
  rintro r g12 ⟨rfl, oG, T12⟩
  have b0 := b0.trn T12 (by omega)
  have bX := bX.trn T12 (by omega)
  have aS := aS.trn T12 (by omega)
  have oW := oW.trn T12 (by omega)
  have le_T12 := T12.le
  simp (disch := (first | omega | assumption | (simp only [push_n, set_n, put_n, List.length_cons, List.length_nil, List.length_append, Nat.reduceAdd]; done) | (simp only [push_n, set_n, put_n, List.length_cons, List.length_nil, List.length_append]; omega) | (simp only [List.all_cons, List.all_nil, one_bool, one_int, one_str, one_ptr, one_nilptr, one_slice, one_eslice, one_nilslice, one_func, one_iface, one_niliface, Bool.and_true, Bool.true_and, List.getD_cons_zero, List.getD_cons_succ, List.contains_cons, List.contains_nil, Bool.or_true, Bool.true_or, Bool.or_false, Bool.false_or, Nat.reduceBEq, *]; done) | fail)) only [go_sem, Hold.p, HoldK.k, HoldL.K, HoldL.body, Nat.reduceBEq, Nat.reduceAdd, reduceIte]
  refine callA_of (HdC.sl (k := 1) heldByteS_f oG.up (by omega)) ?_
  rintro r g13 ⟨rfl, E13⟩
  have b0 := b0.ext E13
  have bX := bX.ext E13
  have aS := aS.ext E13
  have oW := oW.ext E13
  have oG := oG.ext E13
  have le_E13 := E13.le
  have hq : decide (((1 + cntW (.slice 5 (.int .u8)) (bytesD xb) : Nat) : Int) < 0) = false := decide_eq_false (by omega)
  have q0 := b0.eq
  simp (disch := (first | omega | assumption | (simp only [push_n, set_n, put_n, List.length_cons, List.length_nil, List.length_append, Nat.reduceAdd]; done) | (simp only [push_n, set_n, put_n, List.length_cons, List.length_nil, List.length_append]; omega) | (simp only [List.all_cons, List.all_nil, one_bool, one_int, one_str, one_ptr, one_nilptr, one_slice, one_eslice, one_nilslice, one_func, one_iface, one_niliface, Bool.and_true, Bool.true_and, List.getD_cons_zero, List.getD_cons_succ, List.contains_cons, List.contains_nil, Bool.or_true, Bool.true_or, Bool.or_false, Bool.false_or, Nat.reduceBEq, *]; done) | fail)) only [hq, q0, decide_true, go_sem, Hold.p, HoldK.k, HoldL.K, HoldL.body, Nat.reduceBEq, Nat.reduceAdd, reduceIte]
  refine callA_of (ToC.st toRequest_f rfl (aS.up (by omega)) (by omega)) ?_
  rintro r g14 ⟨c4, rfl, t4, E14⟩
  have b0 := b0.ext E14
  have bX := bX.ext E14
  have aS := aS.ext E14
  have oW := oW.ext E14
  have oG := oG.ext E14
  have le_E14 := E14.le
  obtain ⟨z1, z2, rfl, sz1, sz2⟩ := req_vw t4.view wS
  simp (disch := (first | omega | assumption | (simp only [push_n, set_n, put_n, List.length_cons, List.length_nil, List.length_append, Nat.reduceAdd]; done) | (simp only [push_n, set_n, put_n, List.length_cons, List.length_nil, List.length_append]; omega) | (simp only [List.all_cons, List.all_nil, one_bool, one_int, one_str, one_ptr, one_nilptr, one_slice, one_eslice, one_nilslice, one_func, one_iface, one_niliface, Bool.and_true, Bool.true_and, List.getD_cons_zero, List.getD_cons_succ, List.contains_cons, List.contains_nil, Bool.or_true, Bool.true_or, Bool.or_false, Bool.false_or, Nat.reduceBEq, *]; done) | fail)) only [go_sem, Hold.p, HoldK.k, HoldL.K, HoldL.body, Nat.reduceBEq, Nat.reduceAdd, reduceIte]
  refine callA_of (hI g14 z1 z2 sz1 sz2) ?_
  rintro r g15 ⟨vh, rfl, oH, E15⟩
  have b0 := b0.ext E15
  have bX := bX.ext E15
  have aS := aS.ext E15
  have oW := oW.ext E15
  have oG := oG.ext E15
  have le_E15 := E15.le
  have oH := bytes_ow oH (Nat.le_refl _)
  simp only at oH
  simp (disch := (first | omega | assumption | (simp only [push_n, set_n, put_n, List.length_cons, List.length_nil, List.length_append, Nat.reduceAdd]; done) | (simp only [push_n, set_n, put_n, List.length_cons, List.length_nil, List.length_append]; omega) | (simp only [List.all_cons, List.all_nil, one_bool, one_int, one_str, one_ptr, one_nilptr, one_slice, one_eslice, one_nilslice, one_func, one_iface, one_niliface, Bool.and_true, Bool.true_and, List.getD_cons_zero, List.getD_cons_succ, List.contains_cons, List.contains_nil, Bool.or_true, Bool.true_or, Bool.or_false, Bool.false_or, Nat.reduceBEq, *]; done) | fail)) only [go_sem, Hold.p, HoldK.k, HoldL.K, HoldL.body, Nat.reduceBEq, Nat.reduceAdd, reduceIte]
  refine callA_of (EqC.sl eqByteS_f oH.up oW.up (by omega)) ?_
  rintro r g16 ⟨rfl, E16⟩
  have oG := oG.ext E16
  have le_E16 := E16.le
  simp (disch := (first | omega | assumption | (simp only [push_n, set_n, put_n, List.length_cons, List.length_nil, List.length_append, Nat.reduceAdd]; done) | (simp only [push_n, set_n, put_n, List.length_cons, List.length_nil, List.length_append]; omega) | (simp only [List.all_cons, List.all_nil, one_bool, one_int, one_str, one_ptr, one_nilptr, one_slice, one_eslice, one_nilslice, one_func, one_iface, one_niliface, Bool.and_true, Bool.true_and, List.getD_cons_zero, List.getD_cons_succ, List.contains_cons, List.contains_nil, Bool.or_true, Bool.true_or, Bool.or_false, Bool.false_or, Nat.reduceBEq, *]; done) | fail)) only [decide_true, go_sem, Hold.p, HoldK.k, HoldL.K, HoldL.body, Nat.reduceBEq, Nat.reduceAdd, reduceIte]
  refine callA_of (HdC.sl (k := 1) heldByteS_f oG.up (by omega)) ?_
  rintro r g17 ⟨rfl, E17⟩
  simp (disch := (first | omega | assumption | (simp only [push_n, set_n, put_n, List.length_cons, List.length_nil, List.length_append, Nat.reduceAdd]; done) | (simp only [push_n, set_n, put_n, List.length_cons, List.length_nil, List.length_append]; omega) | (simp only [List.all_cons, List.all_nil, one_bool, one_int, one_str, one_ptr, one_nilptr, one_slice, one_eslice, one_nilslice, one_func, one_iface, one_niliface, Bool.and_true, Bool.true_and, List.getD_cons_zero, List.getD_cons_succ, List.contains_cons, List.contains_nil, Bool.or_true, Bool.true_or, Bool.or_false, Bool.false_or, Nat.reduceBEq, *]; done) | fail)) only [hq, decide_true, go_sem, Hold.p, HoldK.k, HoldL.K, HoldL.body, Nat.reduceBEq, Nat.reduceAdd, reduceIte]
end
end Go.Proofs.YtaolhgjnlmaooaaDoor
