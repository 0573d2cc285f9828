import Derived.Test.YtdpaehdolhdjdaaDoorL1
import Derived.Test.YtdpaehdolhdjdaaDoorK2
import Derived.Test.YtdpaehdolhdjdaaDoorProg
import Derived.KernelRfl
import Derived.Test.YtdpaehdolhdjdaaDoorK3
import Derived.Shelf.Strings.Cut
import Derived.Shelf.Bytes.SlIndexWhole
set_option linter.unusedSimpArgs false
set_option linter.unusedVariables false
set_option maxRecDepth 20000
namespace Go.Proofs.YtdpaehdolhdjdaaDoor
open Go Go.IW
section
attribute [local go_sem] List.getElem?_cons_zero List.getElem?_cons_succ Option.bind_some List.map_cons List.map_nil Nat.zero_add if_true List.getD_cons_zero List.getD_cons_succ List.contains_cons List.contains_nil Bool.or_true Bool.true_or Bool.or_false Bool.false_or Bool.not_true Bool.not_false true_and and_true rowA_whole mid_get stO_mid rowO_rows cellO_rows push_n set_n push_at push_old set_here set_there set_pushT set_pushN set_set upd_ne Nat.add_assoc Nat.add_zero stO_1s stO_ws boxA_s List.all_cons List.all_nil one_bool one_int one_str one_ptr one_nilptr one_slice one_eslice one_nilslice one_func one_iface one_niliface Bool.and_true Bool.and_self List.length_cons List.length_nil Nat.one_ne_zero Nat.succ_ne_zero if_false List.set_cons_zero List.set_cons_succ lay_nil lay_1 lay_w Option.map_some

theorem ne32 (c : UInt8) : (some c != some (32 : UInt8)) = !decide ((c.toNat : Int) = 32) := by
  have := u8_dec c 32
  rw [show ((32 : UInt8).toNat : Int) = 32 from rfl] at this
  rw [this]
  by_cases h : c = 32
  · subst h; rfl
  · simp [h]
theorem noEnds_cons (c : UInt8) (r : List UInt8) (d : UInt8) (hd : (c :: r)[(c :: r).length - 1]? = some d) : noEnds (c :: r) = (!decide ((c.toNat : Int) = 32) && !decide ((d.toNat : Int) = 32)) := by
  unfold noEnds
  rw [hd, List.getElem?_cons_zero, ne32, ne32]

theorem specFieldOK_c (h : IH) (n v : List UInt8) (hn : n.length ≤ 1048576) (hv : v.length ≤ 1048576) : ICalls Tryd.prog 147 [.agg [.str n, .str v]] h fun r h' => r = .bool (fieldOK n v) ∧ Ext h h' := by
  refine icalls (.of ok147) (Nat.le_of_ble_eq_true rfl) ?_
  unfold c147
  rw [fieldOK_eq]
  refine vc_split 2 (fun e g => headOK n v = true ∧ e 1 = .ptr h.n 0 0 ∧ At g h.n (.rows [[.str n, .str v]] 163 2 false) ∧ Ext h g) ?_ ?_
  · simp only [CC.split]
    simp (disch := (first | omega | assumption | (simp only [push_n, set_n, put_n, List.length_cons, List.length_nil, List.length_append, Nat.reduceAdd]; done) | (simp only [push_n, set_n, put_n, List.length_cons, List.length_nil, List.length_append]; omega) | (simp only [List.all_cons, List.all_nil, one_bool, one_int, one_str, one_ptr, one_nilptr, one_slice, one_eslice, one_nilslice, one_func, one_iface, one_niliface, Bool.and_true, Bool.true_and, List.getD_cons_zero, List.getD_cons_succ, List.contains_cons, List.contains_nil, Bool.or_true, Bool.true_or, Bool.or_false, Bool.false_or, Nat.reduceBEq, *]; done) | fail)) only [go_sem, Hold.p, HoldK.k, HoldL.K, HoldL.body, Nat.reduceBEq, Nat.reduceAdd, reduceIte]
    generalize hq_g : IH.push h (IObj.rows [[.str n, .str v]] 163 2 false) = g
    have e_g : Ext h g := by rw [← hq_g]; exact (Ext.refl _).push _
    have l_g : g.n = h.n + 1 := by rw [← hq_g]; rfl
    have b : At g h.n (IObj.rows [[.str n, .str v]] 163 2 false) := by rw [← hq_g]; exact At.new _ _
    clear hq_g
    have q := b.eq
    try simp (disch := (first | omega | assumption | (simp only [push_n, set_n, put_n, List.length_cons, List.length_nil, List.length_append, Nat.reduceAdd]; done) | (simp only [push_n, set_n, put_n, List.length_cons, List.length_nil, List.length_append]; omega) | (simp only [List.all_cons, List.all_nil, one_bool, one_int, one_str, one_ptr, one_nilptr, one_slice, one_eslice, one_nilslice, one_func, one_iface, one_niliface, Bool.and_true, Bool.true_and, List.getD_cons_zero, List.getD_cons_succ, List.contains_cons, List.contains_nil, Bool.or_true, Bool.true_or, Bool.or_false, Bool.false_or, Nat.reduceBEq, *]; done) | fail)) only [q, go_sem, Hold.p, HoldK.k, HoldL.K, HoldL.body, Nat.reduceBEq, Nat.reduceAdd, reduceIte]
    rw [headC]
    refine test_of (fun hc => ?_) (fun hc => ?_)
    · simp (disch := (first | omega | assumption | (simp only [push_n, set_n, put_n, List.length_cons, List.length_nil, List.length_append, Nat.reduceAdd]; done) | (simp only [push_n, set_n, put_n, List.length_cons, List.length_nil, List.length_append]; omega) | (simp only [List.all_cons, List.all_nil, one_bool, one_int, one_str, one_ptr, one_nilptr, one_slice, one_eslice, one_nilslice, one_func, one_iface, one_niliface, Bool.and_true, Bool.true_and, List.getD_cons_zero, List.getD_cons_succ, List.contains_cons, List.contains_nil, Bool.or_true, Bool.true_or, Bool.or_false, Bool.false_or, Nat.reduceBEq, *]; done) | fail)) only [go_sem, Hold.p, HoldK.k, HoldL.K, HoldL.body, Nat.reduceBEq, Nat.reduceAdd, reduceIte]
      refine ⟨?_, e_g⟩
      have : headOK n v = false := by simpa using hc
      rw [this]; rfl
    · simp (disch := (first | omega | assumption | (simp only [push_n, set_n, put_n, List.length_cons, List.length_nil, List.length_append, Nat.reduceAdd]; done) | (simp only [push_n, set_n, put_n, List.length_cons, List.length_nil, List.length_append]; omega) | (simp only [List.all_cons, List.all_nil, one_bool, one_int, one_str, one_ptr, one_nilptr, one_slice, one_eslice, one_nilslice, one_func, one_iface, one_niliface, Bool.and_true, Bool.true_and, List.getD_cons_zero, List.getD_cons_succ, List.contains_cons, List.contains_nil, Bool.or_true, Bool.true_or, Bool.or_false, Bool.false_or, Nat.reduceBEq, *]; done) | fail)) only [go_sem, Hold.p, HoldK.k, HoldL.K, HoldL.body, Nat.reduceBEq, Nat.reduceAdd, reduceIte]
      exact ⟨by simpa using hc, b, e_g⟩
  rintro e g ⟨hH, i1, b, E⟩
  obtain ⟨l1, l2, l3⟩ := headOK_len hH
  rw [hH]
  simp only [CC.split]
  refine vc_split 1 (fun e g => n.all nameB = true ∧ e 1 = .ptr h.n 0 0 ∧ At g h.n (.rows [[.str n, .str v]] 163 2 false) ∧ Ext h g) ?_ ?_
  · simp only [CC.split]
    simp (disch := (first | omega | assumption | (simp only [push_n, set_n, put_n, List.length_cons, List.length_nil, List.length_append, Nat.reduceAdd]; done) | (simp only [push_n, set_n, put_n, List.length_cons, List.length_nil, List.length_append]; omega) | (simp only [List.all_cons, List.all_nil, one_bool, one_int, one_str, one_ptr, one_nilptr, one_slice, one_eslice, one_nilslice, one_func, one_iface, one_niliface, Bool.and_true, Bool.true_and, List.getD_cons_zero, List.getD_cons_succ, List.contains_cons, List.contains_nil, Bool.or_true, Bool.true_or, Bool.or_false, Bool.false_or, Nat.reduceBEq, *]; done) | fail)) only [i1, go_sem, Hold.p, HoldK.k, HoldL.K, HoldL.body, Nat.reduceBEq, Nat.reduceAdd, reduceIte]
    have q := b.eq
    refine loop_at (fun m e g' => ∃ k : Nat, m = n.length - k ∧ k ≤ n.length ∧ e 1 = .ptr h.n 0 0 ∧ e 3 = .int .i64 (k : Nat) ∧ (n.take k).all nameB = true ∧ g' = g) n.length ?_ ?_
    · refine ⟨0, by omega, by omega, ?_⟩
      simp (disch := (first | omega | assumption | (simp only [push_n, set_n, put_n, List.length_cons, List.length_nil, List.length_append, Nat.reduceAdd]; done) | (simp only [push_n, set_n, put_n, List.length_cons, List.length_nil, List.length_append]; omega) | (simp only [List.all_cons, List.all_nil, one_bool, one_int, one_str, one_ptr, one_nilptr, one_slice, one_eslice, one_nilslice, one_func, one_iface, one_niliface, Bool.and_true, Bool.true_and, List.getD_cons_zero, List.getD_cons_succ, List.contains_cons, List.contains_nil, Bool.or_true, Bool.true_or, Bool.or_false, Bool.false_or, Nat.reduceBEq, *]; done) | fail)) only [i1, go_sem, Hold.p, HoldK.k, HoldL.K, HoldL.body, Nat.reduceBEq, Nat.reduceAdd, reduceIte]
      exact ⟨rfl, rfl⟩
    · clear i1 e
      rintro m e g' ⟨k, rfl, hk, i1, i3, hall, rfl⟩
      simp (disch := (first | omega | assumption | (simp only [push_n, set_n, put_n, List.length_cons, List.length_nil, List.length_append, Nat.reduceAdd]; done) | (simp only [push_n, set_n, put_n, List.length_cons, List.length_nil, List.length_append]; omega) | (simp only [List.all_cons, List.all_nil, one_bool, one_int, one_str, one_ptr, one_nilptr, one_slice, one_eslice, one_nilslice, one_func, one_iface, one_niliface, Bool.and_true, Bool.true_and, List.getD_cons_zero, List.getD_cons_succ, List.contains_cons, List.contains_nil, Bool.or_true, Bool.true_or, Bool.or_false, Bool.false_or, Nat.reduceBEq, *]; done) | fail)) only [i1, i3, q, go_sem, Hold.p, HoldK.k, HoldL.K, HoldL.body, Nat.reduceBEq, Nat.reduceAdd, reduceIte]
      refine test_dec (fun hb => ?_) (fun hb => ?_)
      · have hk' : k < n.length := by omega
        obtain ⟨x, hx⟩ : ∃ b, n[k]? = some b := ⟨_, List.getElem?_eq_getElem hk'⟩
        have hi := idxS_at (q := .i64) hx
        have w1 : wr .i64 ((k : Int) + 1) = ((k + 1 : Nat) : Int) := by rw [wr64 _ (by omega)]; rfl
        simp (disch := (first | omega | assumption | (simp only [push_n, set_n, put_n, List.length_cons, List.length_nil, List.length_append, Nat.reduceAdd]; done) | (simp only [push_n, set_n, put_n, List.length_cons, List.length_nil, List.length_append]; omega) | (simp only [List.all_cons, List.all_nil, one_bool, one_int, one_str, one_ptr, one_nilptr, one_slice, one_eslice, one_nilslice, one_func, one_iface, one_niliface, Bool.and_true, Bool.true_and, List.getD_cons_zero, List.getD_cons_succ, List.contains_cons, List.contains_nil, Bool.or_true, Bool.true_or, Bool.or_false, Bool.false_or, Nat.reduceBEq, *]; done) | fail)) only [i1, i3, q, hi, go_sem, Hold.p, HoldK.k, HoldL.K, HoldL.body, Nat.reduceBEq, Nat.reduceAdd, reduceIte]
        rw [nameC]
        refine test_of (fun hc2 => ?_) (fun hc2 => ?_)
        · simp (disch := (first | omega | assumption | (simp only [push_n, set_n, put_n, List.length_cons, List.length_nil, List.length_append, Nat.reduceAdd]; done) | (simp only [push_n, set_n, put_n, List.length_cons, List.length_nil, List.length_append]; omega) | (simp only [List.all_cons, List.all_nil, one_bool, one_int, one_str, one_ptr, one_nilptr, one_slice, one_eslice, one_nilslice, one_func, one_iface, one_niliface, Bool.and_true, Bool.true_and, List.getD_cons_zero, List.getD_cons_succ, List.contains_cons, List.contains_nil, Bool.or_true, Bool.true_or, Bool.or_false, Bool.false_or, Nat.reduceBEq, *]; done) | fail)) only [go_sem, Hold.p, HoldK.k, HoldL.K, HoldL.body, Nat.reduceBEq, Nat.reduceAdd, reduceIte]
          refine ⟨?_, E⟩
          rw [all_bad hx (by simpa using hc2)]; rfl
        · simp (disch := (first | omega | assumption | (simp only [push_n, set_n, put_n, List.length_cons, List.length_nil, List.length_append, Nat.reduceAdd]; done) | (simp only [push_n, set_n, put_n, List.length_cons, List.length_nil, List.length_append]; omega) | (simp only [List.all_cons, List.all_nil, one_bool, one_int, one_str, one_ptr, one_nilptr, one_slice, one_eslice, one_nilslice, one_func, one_iface, one_niliface, Bool.and_true, Bool.true_and, List.getD_cons_zero, List.getD_cons_succ, List.contains_cons, List.contains_nil, Bool.or_true, Bool.true_or, Bool.or_false, Bool.false_or, Nat.reduceBEq, *]; done) | fail)) only [i1, i3, w1, go_sem, Hold.p, HoldK.k, HoldL.K, HoldL.body, Nat.reduceBEq, Nat.reduceAdd, reduceIte]
          refine ⟨_, ?_, k + 1, rfl, by omega, rfl, ?_⟩
          · omega
          · rw [all_step hx, hall]; simpa using hc2
      · have hk' : k = n.length := by omega
        subst hk'
        simp (disch := (first | omega | assumption | (simp only [push_n, set_n, put_n, List.length_cons, List.length_nil, List.length_append, Nat.reduceAdd]; done) | (simp only [push_n, set_n, put_n, List.length_cons, List.length_nil, List.length_append]; omega) | (simp only [List.all_cons, List.all_nil, one_bool, one_int, one_str, one_ptr, one_nilptr, one_slice, one_eslice, one_nilslice, one_func, one_iface, one_niliface, Bool.and_true, Bool.true_and, List.getD_cons_zero, List.getD_cons_succ, List.contains_cons, List.contains_nil, Bool.or_true, Bool.true_or, Bool.or_false, Bool.false_or, Nat.reduceBEq, *]; done) | fail)) only [i1, go_sem, Hold.p, HoldK.k, HoldL.K, HoldL.body, Nat.reduceBEq, Nat.reduceAdd, reduceIte]
        rw [List.take_length] at hall
        exact ⟨hall, b, E⟩
  clear i1 b E g e
  rintro e g ⟨hN, i1, b, E⟩
  rw [hN]
  simp only [CC.split]
  refine vc_split 1 (fun e g => v.all valB = true ∧ e 1 = .ptr h.n 0 0 ∧ At g h.n (.rows [[.str n, .str v]] 163 2 false) ∧ Ext h g) ?_ ?_
  · simp only [CC.split]
    simp (disch := (first | omega | assumption | (simp only [push_n, set_n, put_n, List.length_cons, List.length_nil, List.length_append, Nat.reduceAdd]; done) | (simp only [push_n, set_n, put_n, List.length_cons, List.length_nil, List.length_append]; omega) | (simp only [List.all_cons, List.all_nil, one_bool, one_int, one_str, one_ptr, one_nilptr, one_slice, one_eslice, one_nilslice, one_func, one_iface, one_niliface, Bool.and_true, Bool.true_and, List.getD_cons_zero, List.getD_cons_succ, List.contains_cons, List.contains_nil, Bool.or_true, Bool.true_or, Bool.or_false, Bool.false_or, Nat.reduceBEq, *]; done) | fail)) only [i1, go_sem, Hold.p, HoldK.k, HoldL.K, HoldL.body, Nat.reduceBEq, Nat.reduceAdd, reduceIte]
    have q := b.eq
    refine loop_at (fun m e g' => ∃ k : Nat, m = v.length - k ∧ k ≤ v.length ∧ e 1 = .ptr h.n 0 0 ∧ e 4 = .int .i64 (k : Nat) ∧ (v.take k).all valB = true ∧ g' = g) v.length ?_ ?_
    · refine ⟨0, by omega, by omega, ?_⟩
      simp (disch := (first | omega | assumption | (simp only [push_n, set_n, put_n, List.length_cons, List.length_nil, List.length_append, Nat.reduceAdd]; done) | (simp only [push_n, set_n, put_n, List.length_cons, List.length_nil, List.length_append]; omega) | (simp only [List.all_cons, List.all_nil, one_bool, one_int, one_str, one_ptr, one_nilptr, one_slice, one_eslice, one_nilslice, one_func, one_iface, one_niliface, Bool.and_true, Bool.true_and, List.getD_cons_zero, List.getD_cons_succ, List.contains_cons, List.contains_nil, Bool.or_true, Bool.true_or, Bool.or_false, Bool.false_or, Nat.reduceBEq, *]; done) | fail)) only [i1, go_sem, Hold.p, HoldK.k, HoldL.K, HoldL.body, Nat.reduceBEq, Nat.reduceAdd, reduceIte]
      exact ⟨rfl, rfl⟩
    · clear i1 e
      rintro m e g' ⟨k, rfl, hk, i1, i4, hall, rfl⟩
      simp (disch := (first | omega | assumption | (simp only [push_n, set_n, put_n, List.length_cons, List.length_nil, List.length_append, Nat.reduceAdd]; done) | (simp only [push_n, set_n, put_n, List.length_cons, List.length_nil, List.length_append]; omega) | (simp only [List.all_cons, List.all_nil, one_bool, one_int, one_str, one_ptr, one_nilptr, one_slice, one_eslice, one_nilslice, one_func, one_iface, one_niliface, Bool.and_true, Bool.true_and, List.getD_cons_zero, List.getD_cons_succ, List.contains_cons, List.contains_nil, Bool.or_true, Bool.true_or, Bool.or_false, Bool.false_or, Nat.reduceBEq, *]; done) | fail)) only [i1, i4, q, go_sem, Hold.p, HoldK.k, HoldL.K, HoldL.body, Nat.reduceBEq, Nat.reduceAdd, reduceIte]
      refine test_dec (fun hb => ?_) (fun hb => ?_)
      · have hk' : k < v.length := by omega
        obtain ⟨x, hx⟩ : ∃ b, v[k]? = some b := ⟨_, List.getElem?_eq_getElem hk'⟩
        have hi := idxS_at (q := .i64) hx
        have w1 : wr .i64 ((k : Int) + 1) = ((k + 1 : Nat) : Int) := by rw [wr64 _ (by omega)]; rfl
        simp (disch := (first | omega | assumption | (simp only [push_n, set_n, put_n, List.length_cons, List.length_nil, List.length_append, Nat.reduceAdd]; done) | (simp only [push_n, set_n, put_n, List.length_cons, List.length_nil, List.length_append]; omega) | (simp only [List.all_cons, List.all_nil, one_bool, one_int, one_str, one_ptr, one_nilptr, one_slice, one_eslice, one_nilslice, one_func, one_iface, one_niliface, Bool.and_true, Bool.true_and, List.getD_cons_zero, List.getD_cons_succ, List.contains_cons, List.contains_nil, Bool.or_true, Bool.true_or, Bool.or_false, Bool.false_or, Nat.reduceBEq, *]; done) | fail)) only [i1, i4, q, hi, go_sem, Hold.p, HoldK.k, HoldL.K, HoldL.body, Nat.reduceBEq, Nat.reduceAdd, reduceIte]
        rw [valC]
        refine test_of (fun hc2 => ?_) (fun hc2 => ?_)
        · simp (disch := (first | omega | assumption | (simp only [push_n, set_n, put_n, List.length_cons, List.length_nil, List.length_append, Nat.reduceAdd]; done) | (simp only [push_n, set_n, put_n, List.length_cons, List.length_nil, List.length_append]; omega) | (simp only [List.all_cons, List.all_nil, one_bool, one_int, one_str, one_ptr, one_nilptr, one_slice, one_eslice, one_nilslice, one_func, one_iface, one_niliface, Bool.and_true, Bool.true_and, List.getD_cons_zero, List.getD_cons_succ, List.contains_cons, List.contains_nil, Bool.or_true, Bool.true_or, Bool.or_false, Bool.false_or, Nat.reduceBEq, *]; done) | fail)) only [go_sem, Hold.p, HoldK.k, HoldL.K, HoldL.body, Nat.reduceBEq, Nat.reduceAdd, reduceIte]
          refine ⟨?_, E⟩
          rw [all_bad hx (by simpa using hc2)]; rfl
        · simp (disch := (first | omega | assumption | (simp only [push_n, set_n, put_n, List.length_cons, List.length_nil, List.length_append, Nat.reduceAdd]; done) | (simp only [push_n, set_n, put_n, List.length_cons, List.length_nil, List.length_append]; omega) | (simp only [List.all_cons, List.all_nil, one_bool, one_int, one_str, one_ptr, one_nilptr, one_slice, one_eslice, one_nilslice, one_func, one_iface, one_niliface, Bool.and_true, Bool.true_and, List.getD_cons_zero, List.getD_cons_succ, List.contains_cons, List.contains_nil, Bool.or_true, Bool.true_or, Bool.or_false, Bool.false_or, Nat.reduceBEq, *]; done) | fail)) only [i1, i4, w1, go_sem, Hold.p, HoldK.k, HoldL.K, HoldL.body, Nat.reduceBEq, Nat.reduceAdd, reduceIte]
          refine ⟨_, ?_, k + 1, rfl, by omega, rfl, ?_⟩
          · omega
          · rw [all_step hx, hall]; simpa using hc2
      · have hk' : k = v.length := by omega
        subst hk'
        simp (disch := (first | omega | assumption | (simp only [push_n, set_n, put_n, List.length_cons, List.length_nil, List.length_append, Nat.reduceAdd]; done) | (simp only [push_n, set_n, put_n, List.length_cons, List.length_nil, List.length_append]; omega) | (simp only [List.all_cons, List.all_nil, one_bool, one_int, one_str, one_ptr, one_nilptr, one_slice, one_eslice, one_nilslice, one_func, one_iface, one_niliface, Bool.and_true, Bool.true_and, List.getD_cons_zero, List.getD_cons_succ, List.contains_cons, List.contains_nil, Bool.or_true, Bool.true_or, Bool.or_false, Bool.false_or, Nat.reduceBEq, *]; done) | fail)) only [i1, go_sem, Hold.p, HoldK.k, HoldL.K, HoldL.body, Nat.reduceBEq, Nat.reduceAdd, reduceIte]
        rw [List.take_length] at hall
        exact ⟨hall, b, E⟩
  clear i1 b E g e
  rintro e g ⟨hV, i1, b, E⟩
  rw [hV]
  simp only [CC.split]
  have q := b.eq
  cases v with
  | nil =>
    simp (disch := (first | omega | assumption | (simp only [push_n, set_n, put_n, List.length_cons, List.length_nil, List.length_append, Nat.reduceAdd]; done) | (simp only [push_n, set_n, put_n, List.length_cons, List.length_nil, List.length_append]; omega) | (simp only [List.all_cons, List.all_nil, one_bool, one_int, one_str, one_ptr, one_nilptr, one_slice, one_eslice, one_nilslice, one_func, one_iface, one_niliface, Bool.and_true, Bool.true_and, List.getD_cons_zero, List.getD_cons_succ, List.contains_cons, List.contains_nil, Bool.or_true, Bool.true_or, Bool.or_false, Bool.false_or, Nat.reduceBEq, *]; done) | fail)) only [i1, q, decide_true, Bool.true_or, go_sem, Hold.p, HoldK.k, HoldL.K, HoldL.body, Nat.reduceBEq, Nat.reduceAdd, reduceIte]
    exact ⟨rfl, E⟩
  | cons c r =>
    have d1 : decide (c :: r = []) = false := by simp
    have h0 := idx0 c r
    obtain ⟨d, hd⟩ : ∃ d, (c :: r)[(c :: r).length - 1]? = some d := ⟨_, List.getElem?_eq_getElem (by simp)⟩
    rw [noEnds_cons c r d hd]
    have hlen : 1 ≤ (c :: r).length := by simp
    generalize c :: r = v at *
    have hl := idxS_at (q := .i64) hd
    have w1 : wr .i64 ((v.length : Int) - 1) = ((v.length - 1 : Nat) : Int) := by rw [wr64 _ (by omega)]; omega
    simp (disch := (first | omega | assumption | (simp only [push_n, set_n, put_n, List.length_cons, List.length_nil, List.length_append, Nat.reduceAdd]; done) | (simp only [push_n, set_n, put_n, List.length_cons, List.length_nil, List.length_append]; omega) | (simp only [List.all_cons, List.all_nil, one_bool, one_int, one_str, one_ptr, one_nilptr, one_slice, one_eslice, one_nilslice, one_func, one_iface, one_niliface, Bool.and_true, Bool.true_and, List.getD_cons_zero, List.getD_cons_succ, List.contains_cons, List.contains_nil, Bool.or_true, Bool.true_or, Bool.or_false, Bool.false_or, Nat.reduceBEq, *]; done) | fail)) only [i1, q, d1, h0, hl, w1, go_sem, Hold.p, HoldK.k, HoldL.K, HoldL.body, Nat.reduceBEq, Nat.reduceAdd, reduceIte]
    exact ⟨by rw [Bool.true_and], E⟩

theorem trim_c (h : IH) (v : List UInt8) (hv : v.length ≤ 1048576) : ICalls Tryd.prog 188 [.str v, .str [32]] h fun r h' => r = .str (Lib.trimB v 32) ∧ h' = h := by
  refine lib_calls (Go.Proofs.enters_of Tryd.func188 (by kernel_rfl) rfl) fun ρ B w args' hG hw ha => ?_
  obtain ⟨x, y, rfl, hx, hy⟩ := args2 ha
  obtain ⟨bx, rfl, hbx⟩ := str_rel hx
  obtain ⟨bz, rfl, hbz⟩ := str_rel hy
  have hz : bz = ⟨#[32]⟩ := by
    obtain ⟨d⟩ := bz
    have : d = #[32] := by
      have h2 := congrArg List.toArray hbz
      simpa using h2
    rw [this]
  subst hz
  subst hbx
  refine ⟨.string ⟨(Lib.trimB bx.data.toList 32).toArray⟩, ?_, (Tryd.strings_Trim_one bx 32 (by decide) w ?_).mono fun e w' ⟨e1, e2⟩ => ⟨e1, ?_⟩⟩
  · have := VRel.str (ρ := ρ) ⟨(Lib.trimB bx.data.toList 32).toArray⟩
    simpa using this
  · have : bx.size = bx.data.toList.length := Lib.size_eq bx
    omega
  · rcases e2 with rfl | rfl
    · exact RowKit.Below.refl _ _
    · exact (RowKit.Below.refl _ _).drew

theorem nameI (b : UInt8) : (decide (97 ≤ (b.toNat : Int)) && decide ((b.toNat : Int) ≤ 122) || decide ((b.toNat : Int) = 45)) = nameB b := rfl

theorem implFieldOK_c (h : IH) (n v : List UInt8) (hn : n.length ≤ 1048576) (hv : v.length ≤ 1048576) : ICalls Tryd.prog 172 [.agg [.str n, .str v]] h fun r h' => r = .bool (fieldOK n v) ∧ Ext h h' := by
  refine icalls (.of ok172) (Nat.le_of_ble_eq_true rfl) ?_
  unfold c172
  rw [fieldOK_eq]
  refine vc_split 2 (fun e g => headOK n v = true ∧ e 1 = .ptr h.n 0 0 ∧ At g h.n (.rows [[.str n, .str v]] 163 2 false) ∧ Ext h g) ?_ ?_
  · simp only [CC.split]
    simp (disch := (first | omega | assumption | (simp only [push_n, set_n, put_n, List.length_cons, List.length_nil, List.length_append, Nat.reduceAdd]; done) | (simp only [push_n, set_n, put_n, List.length_cons, List.length_nil, List.length_append]; omega) | (simp only [List.all_cons, List.all_nil, one_bool, one_int, one_str, one_ptr, one_nilptr, one_slice, one_eslice, one_nilslice, one_func, one_iface, one_niliface, Bool.and_true, Bool.true_and, List.getD_cons_zero, List.getD_cons_succ, List.contains_cons, List.contains_nil, Bool.or_true, Bool.true_or, Bool.or_false, Bool.false_or, Nat.reduceBEq, *]; done) | fail)) only [go_sem, Hold.p, HoldK.k, HoldL.K, HoldL.body, Nat.reduceBEq, Nat.reduceAdd, reduceIte]
    generalize hq_g : IH.push h (IObj.rows [[.str n, .str v]] 163 2 false) = g
    have e_g : Ext h g := by rw [← hq_g]; exact (Ext.refl _).push _
    have l_g : g.n = h.n + 1 := by rw [← hq_g]; rfl
    have b : At g h.n (IObj.rows [[.str n, .str v]] 163 2 false) := by rw [← hq_g]; exact At.new _ _
    clear hq_g
    have q := b.eq
    try simp (disch := (first | omega | assumption | (simp only [push_n, set_n, put_n, List.length_cons, List.length_nil, List.length_append, Nat.reduceAdd]; done) | (simp only [push_n, set_n, put_n, List.length_cons, List.length_nil, List.length_append]; omega) | (simp only [List.all_cons, List.all_nil, one_bool, one_int, one_str, one_ptr, one_nilptr, one_slice, one_eslice, one_nilslice, one_func, one_iface, one_niliface, Bool.and_true, Bool.true_and, List.getD_cons_zero, List.getD_cons_succ, List.contains_cons, List.contains_nil, Bool.or_true, Bool.true_or, Bool.or_false, Bool.false_or, Nat.reduceBEq, *]; done) | fail)) only [q, go_sem, Hold.p, HoldK.k, HoldL.K, HoldL.body, Nat.reduceBEq, Nat.reduceAdd, reduceIte]
    rw [headC]
    refine test_of (fun hc => ?_) (fun hc => ?_)
    · simp (disch := (first | omega | assumption | (simp only [push_n, set_n, put_n, List.length_cons, List.length_nil, List.length_append, Nat.reduceAdd]; done) | (simp only [push_n, set_n, put_n, List.length_cons, List.length_nil, List.length_append]; omega) | (simp only [List.all_cons, List.all_nil, one_bool, one_int, one_str, one_ptr, one_nilptr, one_slice, one_eslice, one_nilslice, one_func, one_iface, one_niliface, Bool.and_true, Bool.true_and, List.getD_cons_zero, List.getD_cons_succ, List.contains_cons, List.contains_nil, Bool.or_true, Bool.true_or, Bool.or_false, Bool.false_or, Nat.reduceBEq, *]; done) | fail)) only [go_sem, Hold.p, HoldK.k, HoldL.K, HoldL.body, Nat.reduceBEq, Nat.reduceAdd, reduceIte]
      refine ⟨?_, e_g⟩
      have : headOK n v = false := by simpa using hc
      rw [this]; rfl
    · simp (disch := (first | omega | assumption | (simp only [push_n, set_n, put_n, List.length_cons, List.length_nil, List.length_append, Nat.reduceAdd]; done) | (simp only [push_n, set_n, put_n, List.length_cons, List.length_nil, List.length_append]; omega) | (simp only [List.all_cons, List.all_nil, one_bool, one_int, one_str, one_ptr, one_nilptr, one_slice, one_eslice, one_nilslice, one_func, one_iface, one_niliface, Bool.and_true, Bool.true_and, List.getD_cons_zero, List.getD_cons_succ, List.contains_cons, List.contains_nil, Bool.or_true, Bool.true_or, Bool.or_false, Bool.false_or, Nat.reduceBEq, *]; done) | fail)) only [go_sem, Hold.p, HoldK.k, HoldL.K, HoldL.body, Nat.reduceBEq, Nat.reduceAdd, reduceIte]
      exact ⟨by simpa using hc, b, e_g⟩
  rintro e g ⟨hH, i1, b, E⟩
  obtain ⟨l1, l2, l3⟩ := headOK_len hH
  rw [hH]
  simp only [CC.split]
  refine vc_split 1 (fun e g => n.all nameB = true ∧ e 1 = .ptr h.n 0 0 ∧ At g h.n (.rows [[.str n, .str v]] 163 2 false) ∧ Ext h g) ?_ ?_
  · simp only [CC.split]
    have q := b.eq
    have hne : n ≠ [] := by intro e0; subst e0; simp at l1
    simp (disch := (first | omega | assumption | (simp only [push_n, set_n, put_n, List.length_cons, List.length_nil, List.length_append, Nat.reduceAdd]; done) | (simp only [push_n, set_n, put_n, List.length_cons, List.length_nil, List.length_append]; omega) | (simp only [List.all_cons, List.all_nil, one_bool, one_int, one_str, one_ptr, one_nilptr, one_slice, one_eslice, one_nilslice, one_func, one_iface, one_niliface, Bool.and_true, Bool.true_and, List.getD_cons_zero, List.getD_cons_succ, List.contains_cons, List.contains_nil, Bool.or_true, Bool.true_or, Bool.or_false, Bool.false_or, Nat.reduceBEq, *]; done) | fail)) only [i1, q, go_sem, Hold.p, HoldK.k, HoldL.K, HoldL.body, Nat.reduceBEq, Nat.reduceAdd, reduceIte]
    rw [s2bA_some hne (by omega)]
    generalize hq_g1 : IH.push g (IObj.rows (strRows n) 5 1 false) = g1
    have e_g1 : Ext g g1 := by rw [← hq_g1]; exact (Ext.refl _).push _
    have l_g1 : g1.n = g.n + 1 := by rw [← hq_g1]; rfl
    have b1 : At g1 g.n (IObj.rows (strRows n) 5 1 false) := by rw [← hq_g1]; exact At.new _ _
    clear hq_g1
    have b := b.ext e_g1
    have E := E.trans e_g1
    have sl : SlR g1 1 (.slice g.n 0 n.length) (strRows n) := SlR.whole b1.eq (strRows_len _) b1.lt
    try simp (disch := (first | omega | assumption | (simp only [push_n, set_n, put_n, List.length_cons, List.length_nil, List.length_append, Nat.reduceAdd]; done) | (simp only [push_n, set_n, put_n, List.length_cons, List.length_nil, List.length_append]; omega) | (simp only [List.all_cons, List.all_nil, one_bool, one_int, one_str, one_ptr, one_nilptr, one_slice, one_eslice, one_nilslice, one_func, one_iface, one_niliface, Bool.and_true, Bool.true_and, List.getD_cons_zero, List.getD_cons_succ, List.contains_cons, List.contains_nil, Bool.or_true, Bool.true_or, Bool.or_false, Bool.false_or, Nat.reduceBEq, *]; done) | fail)) only [i1, go_sem, Hold.p, HoldK.k, HoldL.K, HoldL.body, Nat.reduceBEq, Nat.reduceAdd, reduceIte]
    refine loop_at (fun m e g' => ∃ k : Nat, m = n.length - k ∧ k ≤ n.length ∧ e 1 = .ptr h.n 0 0 ∧ e 30 = .slice g.n 0 n.length ∧ e 31 = .int .i64 (n.length : Nat) ∧ e 32 = .int .i64 (k : Nat) ∧ (n.take k).all nameB = true ∧ g' = g1) n.length ?_ ?_
    · refine ⟨0, by omega, by omega, ?_⟩
      simp (disch := (first | omega | assumption | (simp only [push_n, set_n, put_n, List.length_cons, List.length_nil, List.length_append, Nat.reduceAdd]; done) | (simp only [push_n, set_n, put_n, List.length_cons, List.length_nil, List.length_append]; omega) | (simp only [List.all_cons, List.all_nil, one_bool, one_int, one_str, one_ptr, one_nilptr, one_slice, one_eslice, one_nilslice, one_func, one_iface, one_niliface, Bool.and_true, Bool.true_and, List.getD_cons_zero, List.getD_cons_succ, List.contains_cons, List.contains_nil, Bool.or_true, Bool.true_or, Bool.or_false, Bool.false_or, Nat.reduceBEq, *]; done) | fail)) only [i1, go_sem, Hold.p, HoldK.k, HoldL.K, HoldL.body, Nat.reduceBEq, Nat.reduceAdd, reduceIte]
      first | rfl | exact ⟨rfl, rfl⟩ | exact ⟨rfl, rfl, rfl⟩
    · clear i1 e
      rintro m e g' ⟨k, rfl, hk, i1, i30, i31, i32, hall, rfl⟩
      simp (disch := (first | omega | assumption | (simp only [push_n, set_n, put_n, List.length_cons, List.length_nil, List.length_append, Nat.reduceAdd]; done) | (simp only [push_n, set_n, put_n, List.length_cons, List.length_nil, List.length_append]; omega) | (simp only [List.all_cons, List.all_nil, one_bool, one_int, one_str, one_ptr, one_nilptr, one_slice, one_eslice, one_nilslice, one_func, one_iface, one_niliface, Bool.and_true, Bool.true_and, List.getD_cons_zero, List.getD_cons_succ, List.contains_cons, List.contains_nil, Bool.or_true, Bool.true_or, Bool.or_false, Bool.false_or, Nat.reduceBEq, *]; done) | fail)) only [i31, i32, go_sem, Hold.p, HoldK.k, HoldL.K, HoldL.body, Nat.reduceBEq, Nat.reduceAdd, reduceIte]
      refine test_dec (fun hb => ?_) (fun hb => ?_)
      · have hk' : k < n.length := by omega
        obtain ⟨x, hx⟩ : ∃ b, n[k]? = some b := ⟨_, List.getElem?_eq_getElem hk'⟩
        obtain ⟨l, j, hia, hll, hrow⟩ := sl.at (m := k) (strRows_at hx) .i64
        have hcl := cellO_row hrow
        have w1 : wr .i64 ((k : Int) + 1) = ((k + 1 : Nat) : Int) := by rw [wr64 _ (by omega)]; rfl
        simp (disch := (first | omega | assumption | (simp only [push_n, set_n, put_n, List.length_cons, List.length_nil, List.length_append, Nat.reduceAdd]; done) | (simp only [push_n, set_n, put_n, List.length_cons, List.length_nil, List.length_append]; omega) | (simp only [List.all_cons, List.all_nil, one_bool, one_int, one_str, one_ptr, one_nilptr, one_slice, one_eslice, one_nilslice, one_func, one_iface, one_niliface, Bool.and_true, Bool.true_and, List.getD_cons_zero, List.getD_cons_succ, List.contains_cons, List.contains_nil, Bool.or_true, Bool.true_or, Bool.or_false, Bool.false_or, Nat.reduceBEq, *]; done) | fail)) only [i30, i32, hia, hcl, nameI, go_sem, Hold.p, HoldK.k, HoldL.K, HoldL.body, Nat.reduceBEq, Nat.reduceAdd, reduceIte]
        refine test_of (fun hc2 => ?_) (fun hc2 => ?_)
        · simp (disch := (first | omega | assumption | (simp only [push_n, set_n, put_n, List.length_cons, List.length_nil, List.length_append, Nat.reduceAdd]; done) | (simp only [push_n, set_n, put_n, List.length_cons, List.length_nil, List.length_append]; omega) | (simp only [List.all_cons, List.all_nil, one_bool, one_int, one_str, one_ptr, one_nilptr, one_slice, one_eslice, one_nilslice, one_func, one_iface, one_niliface, Bool.and_true, Bool.true_and, List.getD_cons_zero, List.getD_cons_succ, List.contains_cons, List.contains_nil, Bool.or_true, Bool.true_or, Bool.or_false, Bool.false_or, Nat.reduceBEq, *]; done) | fail)) only [go_sem, Hold.p, HoldK.k, HoldL.K, HoldL.body, Nat.reduceBEq, Nat.reduceAdd, reduceIte]
          refine ⟨?_, E⟩
          rw [all_bad hx (by simpa using hc2)]; rfl
        · simp (disch := (first | omega | assumption | (simp only [push_n, set_n, put_n, List.length_cons, List.length_nil, List.length_append, Nat.reduceAdd]; done) | (simp only [push_n, set_n, put_n, List.length_cons, List.length_nil, List.length_append]; omega) | (simp only [List.all_cons, List.all_nil, one_bool, one_int, one_str, one_ptr, one_nilptr, one_slice, one_eslice, one_nilslice, one_func, one_iface, one_niliface, Bool.and_true, Bool.true_and, List.getD_cons_zero, List.getD_cons_succ, List.contains_cons, List.contains_nil, Bool.or_true, Bool.true_or, Bool.or_false, Bool.false_or, Nat.reduceBEq, *]; done) | fail)) only [i1, i30, i31, i32, w1, go_sem, Hold.p, HoldK.k, HoldL.K, HoldL.body, Nat.reduceBEq, Nat.reduceAdd, reduceIte]
          refine ⟨_, ?_, k + 1, rfl, by omega, rfl, ?_⟩
          · omega
          · rw [all_step hx, hall]; simpa using hc2
      · have hk' : k = n.length := by omega
        subst hk'
        simp (disch := (first | omega | assumption | (simp only [push_n, set_n, put_n, List.length_cons, List.length_nil, List.length_append, Nat.reduceAdd]; done) | (simp only [push_n, set_n, put_n, List.length_cons, List.length_nil, List.length_append]; omega) | (simp only [List.all_cons, List.all_nil, one_bool, one_int, one_str, one_ptr, one_nilptr, one_slice, one_eslice, one_nilslice, one_func, one_iface, one_niliface, Bool.and_true, Bool.true_and, List.getD_cons_zero, List.getD_cons_succ, List.contains_cons, List.contains_nil, Bool.or_true, Bool.true_or, Bool.or_false, Bool.false_or, Nat.reduceBEq, *]; done) | fail)) only [i1, go_sem, Hold.p, HoldK.k, HoldL.K, HoldL.body, Nat.reduceBEq, Nat.reduceAdd, reduceIte]
        rw [List.take_length] at hall
        exact ⟨hall, b, E⟩
  clear i1 b E g e
  rintro e g ⟨hN, i1, b, E⟩
  rw [hN]
  simp only [CC.split]
  refine vc_split 1 (fun e g => v.all valB = true ∧ e 1 = .ptr h.n 0 0 ∧ At g h.n (.rows [[.str n, .str v]] 163 2 false) ∧ Ext h g) ?_ ?_
  · simp only [CC.split]
    have q := b.eq
    simp (disch := (first | omega | assumption | (simp only [push_n, set_n, put_n, List.length_cons, List.length_nil, List.length_append, Nat.reduceAdd]; done) | (simp only [push_n, set_n, put_n, List.length_cons, List.length_nil, List.length_append]; omega) | (simp only [List.all_cons, List.all_nil, one_bool, one_int, one_str, one_ptr, one_nilptr, one_slice, one_eslice, one_nilslice, one_func, one_iface, one_niliface, Bool.and_true, Bool.true_and, List.getD_cons_zero, List.getD_cons_succ, List.contains_cons, List.contains_nil, Bool.or_true, Bool.true_or, Bool.or_false, Bool.false_or, Nat.reduceBEq, *]; done) | fail)) only [i1, q, go_sem, Hold.p, HoldK.k, HoldL.K, HoldL.body, Nat.reduceBEq, Nat.reduceAdd, reduceIte]
    have hs : ∀ (K : HoldK), (∀ g1, Ext g g1 → ∀ x, SlR g1 1 x (strRows v) → K.k x g1) → @s2bA 5 (.str v) g K := by
      intro K hK
      by_cases hne : v = []
      · subst hne
        rw [s2bA_nil]
        exact hK g (Ext.refl _) _ (SlR.empty _ _ _)
      · rw [s2bA_some hne (by omega)]
        exact hK _ ((Ext.refl _).push _) _ (SlR.whole (push_new _ _) (strRows_len _) (by rw [push_n]; omega))
    refine hs _ fun g1 E1 x sl => ?_
    have b := b.ext E1
    have le_E1 := E1.le
    have E := E.trans E1
    have sll := sl.lenF
    rw [strRows_len] at sll
    simp (disch := (first | omega | assumption | (simp only [push_n, set_n, put_n, List.length_cons, List.length_nil, List.length_append, Nat.reduceAdd]; done) | (simp only [push_n, set_n, put_n, List.length_cons, List.length_nil, List.length_append]; omega) | (simp only [List.all_cons, List.all_nil, one_bool, one_int, one_str, one_ptr, one_nilptr, one_slice, one_eslice, one_nilslice, one_func, one_iface, one_niliface, Bool.and_true, Bool.true_and, List.getD_cons_zero, List.getD_cons_succ, List.contains_cons, List.contains_nil, Bool.or_true, Bool.true_or, Bool.or_false, Bool.false_or, Nat.reduceBEq, *]; done) | fail)) only [i1, sll, go_sem, Hold.p, HoldK.k, HoldL.K, HoldL.body, Nat.reduceBEq, Nat.reduceAdd, reduceIte]
    refine loop_at (fun m e g' => ∃ k : Nat, m = v.length - k ∧ k ≤ v.length ∧ e 1 = .ptr h.n 0 0 ∧ e 50 = x ∧ e 51 = .int .i64 (v.length : Nat) ∧ e 52 = .int .i64 (k : Nat) ∧ (v.take k).all valB = true ∧ g' = g1) v.length ?_ ?_
    · refine ⟨0, by omega, by omega, ?_⟩
      simp (disch := (first | omega | assumption | (simp only [push_n, set_n, put_n, List.length_cons, List.length_nil, List.length_append, Nat.reduceAdd]; done) | (simp only [push_n, set_n, put_n, List.length_cons, List.length_nil, List.length_append]; omega) | (simp only [List.all_cons, List.all_nil, one_bool, one_int, one_str, one_ptr, one_nilptr, one_slice, one_eslice, one_nilslice, one_func, one_iface, one_niliface, Bool.and_true, Bool.true_and, List.getD_cons_zero, List.getD_cons_succ, List.contains_cons, List.contains_nil, Bool.or_true, Bool.true_or, Bool.or_false, Bool.false_or, Nat.reduceBEq, *]; done) | fail)) only [i1, go_sem, Hold.p, HoldK.k, HoldL.K, HoldL.body, Nat.reduceBEq, Nat.reduceAdd, reduceIte]
      first | rfl | exact ⟨rfl, rfl⟩ | exact ⟨rfl, rfl, rfl⟩
    · clear i1 e
      rintro m e g' ⟨k, rfl, hk, i1, i50, i51, i52, hall, rfl⟩
      simp (disch := (first | omega | assumption | (simp only [push_n, set_n, put_n, List.length_cons, List.length_nil, List.length_append, Nat.reduceAdd]; done) | (simp only [push_n, set_n, put_n, List.length_cons, List.length_nil, List.length_append]; omega) | (simp only [List.all_cons, List.all_nil, one_bool, one_int, one_str, one_ptr, one_nilptr, one_slice, one_eslice, one_nilslice, one_func, one_iface, one_niliface, Bool.and_true, Bool.true_and, List.getD_cons_zero, List.getD_cons_succ, List.contains_cons, List.contains_nil, Bool.or_true, Bool.true_or, Bool.or_false, Bool.false_or, Nat.reduceBEq, *]; done) | fail)) only [i51, i52, go_sem, Hold.p, HoldK.k, HoldL.K, HoldL.body, Nat.reduceBEq, Nat.reduceAdd, reduceIte]
      refine test_dec (fun hb => ?_) (fun hb => ?_)
      · have hk' : k < v.length := by omega
        obtain ⟨y, hy⟩ : ∃ b, v[k]? = some b := ⟨_, List.getElem?_eq_getElem hk'⟩
        obtain ⟨l, j, hia, hll, hrow⟩ := sl.at (m := k) (strRows_at hy) .i64
        have hcl := cellO_row hrow
        have w1 : wr .i64 ((k : Int) + 1) = ((k + 1 : Nat) : Int) := by rw [wr64 _ (by omega)]; rfl
        simp (disch := (first | omega | assumption | (simp only [push_n, set_n, put_n, List.length_cons, List.length_nil, List.length_append, Nat.reduceAdd]; done) | (simp only [push_n, set_n, put_n, List.length_cons, List.length_nil, List.length_append]; omega) | (simp only [List.all_cons, List.all_nil, one_bool, one_int, one_str, one_ptr, one_nilptr, one_slice, one_eslice, one_nilslice, one_func, one_iface, one_niliface, Bool.and_true, Bool.true_and, List.getD_cons_zero, List.getD_cons_succ, List.contains_cons, List.contains_nil, Bool.or_true, Bool.true_or, Bool.or_false, Bool.false_or, Nat.reduceBEq, *]; done) | fail)) only [i50, i52, hia, hcl, go_sem, Hold.p, HoldK.k, HoldL.K, HoldL.body, Nat.reduceBEq, Nat.reduceAdd, reduceIte]
        rw [valC]
        refine test_of (fun hc2 => ?_) (fun hc2 => ?_)
        · simp (disch := (first | omega | assumption | (simp only [push_n, set_n, put_n, List.length_cons, List.length_nil, List.length_append, Nat.reduceAdd]; done) | (simp only [push_n, set_n, put_n, List.length_cons, List.length_nil, List.length_append]; omega) | (simp only [List.all_cons, List.all_nil, one_bool, one_int, one_str, one_ptr, one_nilptr, one_slice, one_eslice, one_nilslice, one_func, one_iface, one_niliface, Bool.and_true, Bool.true_and, List.getD_cons_zero, List.getD_cons_succ, List.contains_cons, List.contains_nil, Bool.or_true, Bool.true_or, Bool.or_false, Bool.false_or, Nat.reduceBEq, *]; done) | fail)) only [go_sem, Hold.p, HoldK.k, HoldL.K, HoldL.body, Nat.reduceBEq, Nat.reduceAdd, reduceIte]
          refine ⟨?_, E⟩
          rw [all_bad hy (by simpa using hc2)]; rfl
        · simp (disch := (first | omega | assumption | (simp only [push_n, set_n, put_n, List.length_cons, List.length_nil, List.length_append, Nat.reduceAdd]; done) | (simp only [push_n, set_n, put_n, List.length_cons, List.length_nil, List.length_append]; omega) | (simp only [List.all_cons, List.all_nil, one_bool, one_int, one_str, one_ptr, one_nilptr, one_slice, one_eslice, one_nilslice, one_func, one_iface, one_niliface, Bool.and_true, Bool.true_and, List.getD_cons_zero, List.getD_cons_succ, List.contains_cons, List.contains_nil, Bool.or_true, Bool.true_or, Bool.or_false, Bool.false_or, Nat.reduceBEq, *]; done) | fail)) only [i1, i50, i51, i52, w1, go_sem, Hold.p, HoldK.k, HoldL.K, HoldL.body, Nat.reduceBEq, Nat.reduceAdd, reduceIte]
          refine ⟨_, ?_, k + 1, rfl, by omega, rfl, ?_⟩
          · omega
          · rw [all_step hy, hall]; simpa using hc2
      · have hk' : k = v.length := by omega
        subst hk'
        simp (disch := (first | omega | assumption | (simp only [push_n, set_n, put_n, List.length_cons, List.length_nil, List.length_append, Nat.reduceAdd]; done) | (simp only [push_n, set_n, put_n, List.length_cons, List.length_nil, List.length_append]; omega) | (simp only [List.all_cons, List.all_nil, one_bool, one_int, one_str, one_ptr, one_nilptr, one_slice, one_eslice, one_nilslice, one_func, one_iface, one_niliface, Bool.and_true, Bool.true_and, List.getD_cons_zero, List.getD_cons_succ, List.contains_cons, List.contains_nil, Bool.or_true, Bool.true_or, Bool.or_false, Bool.false_or, Nat.reduceBEq, *]; done) | fail)) only [i1, go_sem, Hold.p, HoldK.k, HoldL.K, HoldL.body, Nat.reduceBEq, Nat.reduceAdd, reduceIte]
        rw [List.take_length] at hall
        exact ⟨hall, b, E⟩
  clear i1 b E g e
  rintro e g ⟨hV, i1, b, E⟩
  rw [hV]
  simp only [CC.split]
  have q := b.eq
  simp (disch := (first | omega | assumption | (simp only [push_n, set_n, put_n, List.length_cons, List.length_nil, List.length_append, Nat.reduceAdd]; done) | (simp only [push_n, set_n, put_n, List.length_cons, List.length_nil, List.length_append]; omega) | (simp only [List.all_cons, List.all_nil, one_bool, one_int, one_str, one_ptr, one_nilptr, one_slice, one_eslice, one_nilslice, one_func, one_iface, one_niliface, Bool.and_true, Bool.true_and, List.getD_cons_zero, List.getD_cons_succ, List.contains_cons, List.contains_nil, Bool.or_true, Bool.true_or, Bool.or_false, Bool.false_or, Nat.reduceBEq, *]; done) | fail)) only [i1, q, go_sem, Hold.p, HoldK.k, HoldL.K, HoldL.body, Nat.reduceBEq, Nat.reduceAdd, reduceIte]
  refine callA_of (trim_c g v hv) ?_
  rintro r g' ⟨rfl, rfl⟩
  simp (disch := (first | omega | assumption | (simp only [push_n, set_n, put_n, List.length_cons, List.length_nil, List.length_append, Nat.reduceAdd]; done) | (simp only [push_n, set_n, put_n, List.length_cons, List.length_nil, List.length_append]; omega) | (simp only [List.all_cons, List.all_nil, one_bool, one_int, one_str, one_ptr, one_nilptr, one_slice, one_eslice, one_nilslice, one_func, one_iface, one_niliface, Bool.and_true, Bool.true_and, List.getD_cons_zero, List.getD_cons_succ, List.contains_cons, List.contains_nil, Bool.or_true, Bool.true_or, Bool.or_false, Bool.false_or, Nat.reduceBEq, *]; done) | fail)) only [i1, q, trim_same, go_sem, Hold.p, HoldK.k, HoldL.K, HoldL.body, Nat.reduceBEq, Nat.reduceAdd, reduceIte]
  exact ⟨by rw [Bool.true_and], E⟩

/-! Lists of fields. -/
theorem fldRows_len (l : List Fld) : (fldRows l).length = l.length := by simp [fldRows]
theorem fldRows_at {l : List Fld} {k : Nat} {x : Fld} (h : l[k]? = some x) : (fldRows l)[k]? = some [.str x.1, .str x.2] := by simp [fldRows, h]
def fldB (f : Fld) : Bool := fieldOK f.1 f.2
/-- No word is longer than any machine holds. -/
def FldS (l : List Fld) : Prop := ∀ f ∈ l, f.1.length ≤ 1048576 ∧ f.2.length ≤ 1048576
theorem notField_c (h : IH) (f : Fld) (hf : f.1.length ≤ 1048576 ∧ f.2.length ≤ 1048576) : ICalls Tryd.prog 171 [.agg [.str f.1, .str f.2]] h fun r h' => r = .bool (!fldB f) ∧ Ext h h' := by
  refine icalls (.of ok171) (Nat.le_of_ble_eq_true rfl) ?_
  unfold c171
  simp (disch := (first | omega | assumption | (simp only [push_n, set_n, put_n, List.length_cons, List.length_nil, List.length_append, Nat.reduceAdd]; done) | (simp only [push_n, set_n, put_n, List.length_cons, List.length_nil, List.length_append]; omega) | (simp only [List.all_cons, List.all_nil, one_bool, one_int, one_str, one_ptr, one_nilptr, one_slice, one_eslice, one_nilslice, one_func, one_iface, one_niliface, Bool.and_true, Bool.true_and, List.getD_cons_zero, List.getD_cons_succ, List.contains_cons, List.contains_nil, Bool.or_true, Bool.true_or, Bool.or_false, Bool.false_or, Nat.reduceBEq, *]; done) | fail)) only [go_sem, Hold.p, HoldK.k, HoldL.K, HoldL.body, Nat.reduceBEq, Nat.reduceAdd, reduceIte]
  generalize hq_g : IH.push h (IObj.rows [[.str f.1, .str f.2]] 163 2 false) = g
  have e_g : Ext h g := by rw [← hq_g]; exact (Ext.refl _).push _
  have l_g : g.n = h.n + 1 := by rw [← hq_g]; rfl
  have b : At g h.n (IObj.rows [[.str f.1, .str f.2]] 163 2 false) := by rw [← hq_g]; exact At.new _ _
  clear hq_g
  have q := b.eq
  try simp (disch := (first | omega | assumption | (simp only [push_n, set_n, put_n, List.length_cons, List.length_nil, List.length_append, Nat.reduceAdd]; done) | (simp only [push_n, set_n, put_n, List.length_cons, List.length_nil, List.length_append]; omega) | (simp only [List.all_cons, List.all_nil, one_bool, one_int, one_str, one_ptr, one_nilptr, one_slice, one_eslice, one_nilslice, one_func, one_iface, one_niliface, Bool.and_true, Bool.true_and, List.getD_cons_zero, List.getD_cons_succ, List.contains_cons, List.contains_nil, Bool.or_true, Bool.true_or, Bool.or_false, Bool.false_or, Nat.reduceBEq, *]; done) | fail)) only [q, go_sem, Hold.p, HoldK.k, HoldL.K, HoldL.body, Nat.reduceBEq, Nat.reduceAdd, reduceIte]
  refine callA_of (implFieldOK_c g f.1 f.2 hf.1 hf.2) ?_
  rintro r g1 ⟨rfl, E1⟩
  simp (disch := (first | omega | assumption | (simp only [push_n, set_n, put_n, List.length_cons, List.length_nil, List.length_append, Nat.reduceAdd]; done) | (simp only [push_n, set_n, put_n, List.length_cons, List.length_nil, List.length_append]; omega) | (simp only [List.all_cons, List.all_nil, one_bool, one_int, one_str, one_ptr, one_nilptr, one_slice, one_eslice, one_nilslice, one_func, one_iface, one_niliface, Bool.and_true, Bool.true_and, List.getD_cons_zero, List.getD_cons_succ, List.contains_cons, List.contains_nil, Bool.or_true, Bool.true_or, Bool.or_false, Bool.false_or, Nat.reduceBEq, *]; done) | fail)) only [go_sem, Hold.p, HoldK.k, HoldL.K, HoldL.body, Nat.reduceBEq, Nat.reduceAdd, reduceIte]
  exact ⟨rfl, e_g.trans E1⟩
theorem indexField_c (h : IH) (v : IV) (fs : List Fld) (hs : SlR h 2 v (fldRows fs)) (hm : fs.length ≤ 1048576) (hF : FldS fs) :
    ICalls Tryd.prog 187 [v, .func 171 [] []] h fun r h' => (∃ n : Int, r = .int .i64 n ∧ decide (0 ≤ n) = !fs.all fldB) ∧ Ext h h' := by
  refine icalls (.of ok187) (Nat.le_of_ble_eq_true rfl) ?_
  unfold c187
  have hlen := hs.lenF
  rw [fldRows_len] at hlen
  simp (disch := (first | omega | assumption | (simp only [push_n, set_n, put_n, List.length_cons, List.length_nil, List.length_append, Nat.reduceAdd]; done) | (simp only [push_n, set_n, put_n, List.length_cons, List.length_nil, List.length_append]; omega) | (simp only [List.all_cons, List.all_nil, one_bool, one_int, one_str, one_ptr, one_nilptr, one_slice, one_eslice, one_nilslice, one_func, one_iface, one_niliface, Bool.and_true, Bool.true_and, List.getD_cons_zero, List.getD_cons_succ, List.contains_cons, List.contains_nil, Bool.or_true, Bool.true_or, Bool.or_false, Bool.false_or, Nat.reduceBEq, *]; done) | fail)) only [hlen, go_sem, Hold.p, HoldK.k, HoldL.K, HoldL.body, Nat.reduceBEq, Nat.reduceAdd, reduceIte]
  refine loop_at (fun m e g => ∃ k : Nat, m = fs.length - k ∧ k ≤ fs.length ∧ e 0 = v ∧ e 1 = .func 171 [] [] ∧ e 7 = .int .i64 (fs.length : Nat) ∧ e 8 = .int .i64 (k : Nat) ∧ (fs.take k).all fldB = true ∧ Ext h g) fs.length ?_ ?_
  · refine ⟨0, by omega, by omega, ?_⟩
    simp (disch := (first | omega | assumption | (simp only [push_n, set_n, put_n, List.length_cons, List.length_nil, List.length_append, Nat.reduceAdd]; done) | (simp only [push_n, set_n, put_n, List.length_cons, List.length_nil, List.length_append]; omega) | (simp only [List.all_cons, List.all_nil, one_bool, one_int, one_str, one_ptr, one_nilptr, one_slice, one_eslice, one_nilslice, one_func, one_iface, one_niliface, Bool.and_true, Bool.true_and, List.getD_cons_zero, List.getD_cons_succ, List.contains_cons, List.contains_nil, Bool.or_true, Bool.true_or, Bool.or_false, Bool.false_or, Nat.reduceBEq, *]; done) | fail)) only [go_sem, Hold.p, HoldK.k, HoldL.K, HoldL.body, Nat.reduceBEq, Nat.reduceAdd, reduceIte]
    exact ⟨rfl, by simp, Ext.refl _⟩
  · rintro m e g ⟨k, rfl, hk, i0, i1, i7, i8, hall, E⟩
    simp (disch := (first | omega | assumption | (simp only [push_n, set_n, put_n, List.length_cons, List.length_nil, List.length_append, Nat.reduceAdd]; done) | (simp only [push_n, set_n, put_n, List.length_cons, List.length_nil, List.length_append]; omega) | (simp only [List.all_cons, List.all_nil, one_bool, one_int, one_str, one_ptr, one_nilptr, one_slice, one_eslice, one_nilslice, one_func, one_iface, one_niliface, Bool.and_true, Bool.true_and, List.getD_cons_zero, List.getD_cons_succ, List.contains_cons, List.contains_nil, Bool.or_true, Bool.true_or, Bool.or_false, Bool.false_or, Nat.reduceBEq, *]; done) | fail)) only [i7, i8, go_sem, Hold.p, HoldK.k, HoldL.K, HoldL.body, Nat.reduceBEq, Nat.reduceAdd, reduceIte]
    refine test_dec (fun hb => ?_) (fun hb => ?_)
    · have hk' : k < fs.length := by omega
      obtain ⟨f, hf⟩ : ∃ b, fs[k]? = some b := ⟨_, List.getElem?_eq_getElem hk'⟩
      obtain ⟨l, j, hia, hll, hrow⟩ := (hs.ext E).at (m := k) (fldRows_at hf) .i64
      have w1 : wr .i64 ((k : Int) + 1) = ((k + 1 : Nat) : Int) := by rw [wr64 _ (by omega)]; rfl
      simp (disch := (first | omega | assumption | (simp only [push_n, set_n, put_n, List.length_cons, List.length_nil, List.length_append, Nat.reduceAdd]; done) | (simp only [push_n, set_n, put_n, List.length_cons, List.length_nil, List.length_append]; omega) | (simp only [List.all_cons, List.all_nil, one_bool, one_int, one_str, one_ptr, one_nilptr, one_slice, one_eslice, one_nilslice, one_func, one_iface, one_niliface, Bool.and_true, Bool.true_and, List.getD_cons_zero, List.getD_cons_succ, List.contains_cons, List.contains_nil, Bool.or_true, Bool.true_or, Bool.or_false, Bool.false_or, Nat.reduceBEq, *]; done) | fail)) only [i0, i1, i8, hia, hrow, List.nil_append, List.append_nil, go_sem, Hold.p, HoldK.k, HoldL.K, HoldL.body, Nat.reduceBEq, Nat.reduceAdd, reduceIte]
      refine callA_of (notField_c g f (hF f (List.mem_of_getElem? hf))) ?_
      rintro r g1 ⟨rfl, E1⟩
      simp (disch := (first | omega | assumption | (simp only [push_n, set_n, put_n, List.length_cons, List.length_nil, List.length_append, Nat.reduceAdd]; done) | (simp only [push_n, set_n, put_n, List.length_cons, List.length_nil, List.length_append]; omega) | (simp only [List.all_cons, List.all_nil, one_bool, one_int, one_str, one_ptr, one_nilptr, one_slice, one_eslice, one_nilslice, one_func, one_iface, one_niliface, Bool.and_true, Bool.true_and, List.getD_cons_zero, List.getD_cons_succ, List.contains_cons, List.contains_nil, Bool.or_true, Bool.true_or, Bool.or_false, Bool.false_or, Nat.reduceBEq, *]; done) | fail)) only [i0, i1, i7, i8, go_sem, Hold.p, HoldK.k, HoldL.K, HoldL.body, Nat.reduceBEq, Nat.reduceAdd, reduceIte]
      refine test_of (fun hc2 => ?_) (fun hc2 => ?_)
      · simp (disch := (first | omega | assumption | (simp only [push_n, set_n, put_n, List.length_cons, List.length_nil, List.length_append, Nat.reduceAdd]; done) | (simp only [push_n, set_n, put_n, List.length_cons, List.length_nil, List.length_append]; omega) | (simp only [List.all_cons, List.all_nil, one_bool, one_int, one_str, one_ptr, one_nilptr, one_slice, one_eslice, one_nilslice, one_func, one_iface, one_niliface, Bool.and_true, Bool.true_and, List.getD_cons_zero, List.getD_cons_succ, List.contains_cons, List.contains_nil, Bool.or_true, Bool.true_or, Bool.or_false, Bool.false_or, Nat.reduceBEq, *]; done) | fail)) only [go_sem, Hold.p, HoldK.k, HoldL.K, HoldL.body, Nat.reduceBEq, Nat.reduceAdd, reduceIte]
        refine ⟨⟨_, rfl, ?_⟩, E.trans E1⟩
        rw [all_bad hf (by simpa using hc2)]
        exact decide_eq_true (by omega)
      · simp (disch := (first | omega | assumption | (simp only [push_n, set_n, put_n, List.length_cons, List.length_nil, List.length_append, Nat.reduceAdd]; done) | (simp only [push_n, set_n, put_n, List.length_cons, List.length_nil, List.length_append]; omega) | (simp only [List.all_cons, List.all_nil, one_bool, one_int, one_str, one_ptr, one_nilptr, one_slice, one_eslice, one_nilslice, one_func, one_iface, one_niliface, Bool.and_true, Bool.true_and, List.getD_cons_zero, List.getD_cons_succ, List.contains_cons, List.contains_nil, Bool.or_true, Bool.true_or, Bool.or_false, Bool.false_or, Nat.reduceBEq, *]; done) | fail)) only [i0, i1, i7, i8, w1, go_sem, Hold.p, HoldK.k, HoldL.K, HoldL.body, Nat.reduceBEq, Nat.reduceAdd, reduceIte]
        refine ⟨_, ?_, k + 1, rfl, by omega, rfl, ?_, E.trans E1⟩
        · omega
        · rw [all_step hf, hall]; simpa using hc2
    · have hk' : k = fs.length := by omega
      subst hk'
      simp (disch := (first | omega | assumption | (simp only [push_n, set_n, put_n, List.length_cons, List.length_nil, List.length_append, Nat.reduceAdd]; done) | (simp only [push_n, set_n, put_n, List.length_cons, List.length_nil, List.length_append]; omega) | (simp only [List.all_cons, List.all_nil, one_bool, one_int, one_str, one_ptr, one_nilptr, one_slice, one_eslice, one_nilslice, one_func, one_iface, one_niliface, Bool.and_true, Bool.true_and, List.getD_cons_zero, List.getD_cons_succ, List.contains_cons, List.contains_nil, Bool.or_true, Bool.true_or, Bool.or_false, Bool.false_or, Nat.reduceBEq, *]; done) | fail)) only [go_sem, Hold.p, HoldK.k, HoldL.K, HoldL.body, Nat.reduceBEq, Nat.reduceAdd, reduceIte]
      rw [List.take_length] at hall
      exact ⟨⟨-1, rfl, by rw [hall]; rfl⟩, E⟩
theorem containsField_c (h : IH) (v : IV) (fs : List Fld) (hs : SlR h 2 v (fldRows fs)) (hm : fs.length ≤ 1048576) (hF : FldS fs) :
    ICalls Tryd.prog 170 [v, .func 171 [] []] h fun r h' => r = .bool (!fs.all fldB) ∧ Ext h h' := by
  refine icalls (.of ok170) (Nat.le_of_ble_eq_true rfl) ?_
  unfold c170
  simp (disch := (first | omega | assumption | (simp only [push_n, set_n, put_n, List.length_cons, List.length_nil, List.length_append, Nat.reduceAdd]; done) | (simp only [push_n, set_n, put_n, List.length_cons, List.length_nil, List.length_append]; omega) | (simp only [List.all_cons, List.all_nil, one_bool, one_int, one_str, one_ptr, one_nilptr, one_slice, one_eslice, one_nilslice, one_func, one_iface, one_niliface, Bool.and_true, Bool.true_and, List.getD_cons_zero, List.getD_cons_succ, List.contains_cons, List.contains_nil, Bool.or_true, Bool.true_or, Bool.or_false, Bool.false_or, Nat.reduceBEq, *]; done) | fail)) only [go_sem, Hold.p, HoldK.k, HoldL.K, HoldL.body, Nat.reduceBEq, Nat.reduceAdd, reduceIte]
  refine callA_of (indexField_c h v fs hs hm hF) ?_
  rintro r h' ⟨⟨n, rfl, hn⟩, E⟩
  simp (disch := (first | omega | assumption | (simp only [push_n, set_n, put_n, List.length_cons, List.length_nil, List.length_append, Nat.reduceAdd]; done) | (simp only [push_n, set_n, put_n, List.length_cons, List.length_nil, List.length_append]; omega) | (simp only [List.all_cons, List.all_nil, one_bool, one_int, one_str, one_ptr, one_nilptr, one_slice, one_eslice, one_nilslice, one_func, one_iface, one_niliface, Bool.and_true, Bool.true_and, List.getD_cons_zero, List.getD_cons_succ, List.contains_cons, List.contains_nil, Bool.or_true, Bool.true_or, Bool.or_false, Bool.false_or, Nat.reduceBEq, *]; done) | fail)) only [hn, go_sem, Hold.p, HoldK.k, HoldL.K, HoldL.body, Nat.reduceBEq, Nat.reduceAdd, reduceIte]
  exact E
def restB (fs : List Fld) (bl : Nat) : Bool := (decide ((fs.length : Int) ≤ 16) && decide ((bl : Int) ≤ 60000)) && fs.all fldB
theorem implRest_c (h : IH) (v w : IV) (fs : List Fld) (body : List UInt8) (hs : SlR h 2 v (fldRows fs)) (hw : SlR h 1 w (strRows body)) (hm : fs.length ≤ 1048576) (hF : FldS fs) :
    ICalls Tryd.prog 151 [v, w] h fun r h' => r = .bool (restB fs body.length) ∧ Ext h h' := by
  refine icalls (.of ok151) (Nat.le_of_ble_eq_true rfl) ?_
  unfold c151
  have hlen := hs.lenF
  rw [fldRows_len] at hlen
  have hlen2 := hw.lenF
  rw [strRows_len] at hlen2
  simp (disch := (first | omega | assumption | (simp only [push_n, set_n, put_n, List.length_cons, List.length_nil, List.length_append, Nat.reduceAdd]; done) | (simp only [push_n, set_n, put_n, List.length_cons, List.length_nil, List.length_append]; omega) | (simp only [List.all_cons, List.all_nil, one_bool, one_int, one_str, one_ptr, one_nilptr, one_slice, one_eslice, one_nilslice, one_func, one_iface, one_niliface, Bool.and_true, Bool.true_and, List.getD_cons_zero, List.getD_cons_succ, List.contains_cons, List.contains_nil, Bool.or_true, Bool.true_or, Bool.or_false, Bool.false_or, Nat.reduceBEq, *]; done) | fail)) only [hlen, hlen2, go_sem, Hold.p, HoldK.k, HoldL.K, HoldL.body, Nat.reduceBEq, Nat.reduceAdd, reduceIte]
  refine guard_extT (v := .bool (!fs.all fldB)) (fun hb => ?_) (fun g E => ?_)
  · simp (disch := (first | omega | assumption | (simp only [push_n, set_n, put_n, List.length_cons, List.length_nil, List.length_append, Nat.reduceAdd]; done) | (simp only [push_n, set_n, put_n, List.length_cons, List.length_nil, List.length_append]; omega) | (simp only [List.all_cons, List.all_nil, one_bool, one_int, one_str, one_ptr, one_nilptr, one_slice, one_eslice, one_nilslice, one_func, one_iface, one_niliface, Bool.and_true, Bool.true_and, List.getD_cons_zero, List.getD_cons_succ, List.contains_cons, List.contains_nil, Bool.or_true, Bool.true_or, Bool.or_false, Bool.false_or, Nat.reduceBEq, *]; done) | fail)) only [hb, go_sem, Hold.p, HoldK.k, HoldL.K, HoldL.body, Nat.reduceBEq, Nat.reduceAdd, reduceIte]
    exact containsField_c h v fs hs hm hF
  simp (disch := (first | omega | assumption | (simp only [push_n, set_n, put_n, List.length_cons, List.length_nil, List.length_append, Nat.reduceAdd]; done) | (simp only [push_n, set_n, put_n, List.length_cons, List.length_nil, List.length_append]; omega) | (simp only [List.all_cons, List.all_nil, one_bool, one_int, one_str, one_ptr, one_nilptr, one_slice, one_eslice, one_nilslice, one_func, one_iface, one_niliface, Bool.and_true, Bool.true_and, List.getD_cons_zero, List.getD_cons_succ, List.contains_cons, List.contains_nil, Bool.or_true, Bool.true_or, Bool.or_false, Bool.false_or, Nat.reduceBEq, *]; done) | fail)) only [go_sem, Hold.p, HoldK.k, HoldL.K, HoldL.body, Nat.reduceBEq, Nat.reduceAdd, reduceIte]
  refine ⟨?_, E⟩
  unfold restB
  rw [Bool.not_not]
end
end Go.Proofs.YtdpaehdolhdjdaaDoor

namespace Go.Proofs.YtdpaehdolhdjdaaDoor
open Go Go.IW
/-- loop.example/g00003/spec.ReadReplies -/
def c8 : CC :=
 (.seq (.reg [
   ⟨(some 2), none, .f (.mv (.c .nilslice))⟩,
   ⟨(some 3), none, .f (.mv (.c (.int .i64 0)))⟩,
   ⟨(some 4), none, .f (.mv (.c (.int .i64 0)))⟩])
 (.seq (.reg [
   ⟨(some 14), none, .f (.mv (.t 0))⟩,
   ⟨(some 15), none, .x (.call 43 [(.t 14), (.c (.bool false))])⟩,
   ⟨(some 13), none, .f (.mv (.t 15))⟩,
   ⟨(some 16), none, .f (.ext 0 (.t 13))⟩,
   ⟨(some 17), none, .f (.ext 1 (.t 13))⟩,
   ⟨(some 18), none, .f (.ext 2 (.t 13))⟩,
   ⟨(some 5), none, .f (.mv (.t 16))⟩,
   ⟨(some 6), none, .f (.mv (.t 17))⟩,
   ⟨(some 7), none, .f (.mv (.t 18))⟩])
 (.seq (.reg [
   ⟨(some 19), none, .x (.bslice 81 3 [(.int .i64 0), .nilslice, .nilslice] 0 [])⟩,
   ⟨(some 8), none, .f (.mv (.t 19))⟩])
 (.seq (.seq (.reg [
   ⟨(some 9), none, .f (.mv (.c (.int .i64 0)))⟩])
 (.block 0 (.loop (.seq (.seq (.reg [
     ⟨(some 20), none, .f (.mv (.t 9))⟩,
     ⟨(some 21), none, .f (.mv (.t 5))⟩,
     ⟨(some 22), none, .f (.len (.t 21))⟩,
     ⟨(some 23), none, .f (.bin .lss (.t 20) (.t 22))⟩])
   (.cond (.t 23)
    .skip
    (.exit 0)))
   (.seq (.block 1 (.seq (.reg [
      ⟨(some 26), none, .f (.mv (.t 5))⟩,
      ⟨(some 27), none, .f (.mv (.t 9))⟩,
      ⟨(some 28), none, .f (.iadr 4 (.t 26) (.t 27))⟩,
      ⟨(some 29), none, .f (.fadr 0 (.t 28))⟩,
      ⟨(some 30), none, .f (.ld (.t 29))⟩,
      ⟨(some 31), none, .x (.call 44 [(.t 30), (.c (.int .u8 32))])⟩,
      ⟨(some 10), none, .f (.mv (.t 31))⟩])
    (.seq (.reg [
      ⟨(some 33), none, .f (.mv (.t 10))⟩,
      ⟨(some 34), none, .f (.iadr 1 (.t 33) (.c (.int .i64 1)))⟩,
      ⟨(some 35), none, .f (.ld (.t 34))⟩,
      ⟨(some 36), none, .x (.call 45 [(.t 35), (.c (.int .i64 3))])⟩,
      ⟨(some 32), none, .f (.mv (.t 36))⟩,
      ⟨(some 37), none, .f (.ext 0 (.t 32))⟩,
      ⟨(some 38), none, .f (.ext 1 (.t 32))⟩,
      ⟨(some 11), none, .f (.mv (.t 37))⟩,
      ⟨(some 12), none, .f (.mv (.t 38))⟩])
    (.dreg [
      ⟨(some 39), none, .f (.mv (.t 8))⟩,
      ⟨(some 40), none, .f (.mv (.t 11))⟩,
      ⟨(some 41), none, .f (.mv (.t 5))⟩,
      ⟨(some 42), none, .f (.mv (.t 9))⟩,
      ⟨(some 43), none, .f (.iadr 4 (.t 41) (.t 42))⟩,
      ⟨(some 44), none, .f (.fadr 1 (.t 43))⟩,
      ⟨(some 45), none, .f (.ld (.t 44))⟩,
      ⟨(some 46), none, .f (.mv (.t 5))⟩,
      ⟨(some 47), none, .f (.mv (.t 9))⟩,
      ⟨(some 48), none, .f (.iadr 4 (.t 46) (.t 47))⟩,
      ⟨(some 49), none, .f (.fadr 3 (.t 48))⟩,
      ⟨(some 50), none, .f (.ld (.t 49))⟩,
      ⟨(some 51), none, .f (.build [(.int .i64 0), .nilslice, .nilslice] [(0, 1, (.t 40)), (1, 1, (.t 45)), (2, 1, (.t 50))])⟩,
      ⟨(some 52), none, .x (.bslice 81 3 [(.int .i64 0), .nilslice, .nilslice] 1 [(0, (.t 51))])⟩,
      ⟨(some 53), none, .x (.app 81 3 56 (.t 39) (.t 52))⟩,
      ⟨(some 8), none, .f (.mv (.t 53))⟩]
      [false, false, false, false, false, false, false, false, false, false, false, false, false, true, true, true] [[], [], [], [], [2, 3], [4, 2, 3], [5, 4, 2, 3], [], [], [7, 8], [9, 7, 8], [10, 9, 7, 8], [1, 6, 5, 4, 2, 3, 11, 10, 9, 7, 8], [12, 1, 6, 5, 4, 2, 3, 11, 10, 9, 7, 8], [0, 13, 12, 1, 6, 5, 4, 2, 3, 11, 10, 9, 7, 8], [14, 0, 13, 12, 1, 6, 5, 4, 2, 3, 11, 10, 9, 7, 8]] [0, 1, 2, 3, 4, 5, 6, 7, 8, 9, 10, 11, 12, 13, 14, 15]))))
   (.reg [
     ⟨(some 24), none, .f (.mv (.t 9))⟩,
     ⟨(some 25), none, .f (.bin .add (.t 24) (.c (.int .i64 1)))⟩,
     ⟨(some 9), none, .f (.mv (.t 25))⟩]))))))
 (.seq (.reg [
   ⟨(some 54), none, .f (.mv (.t 8))⟩,
   ⟨(some 55), none, .f (.mv (.t 6))⟩,
   ⟨(some 56), none, .f (.mv (.t 7))⟩,
   ⟨(some 2), none, .f (.mv (.t 54))⟩,
   ⟨(some 3), none, .f (.mv (.t 55))⟩,
   ⟨(some 4), none, .f (.mv (.t 56))⟩])
 .ret)))))
theorem ok8 : fnComp Tryd.prog 8 = some (57, c8, [(.mv (.t 2)), (.mv (.t 3)), (.mv (.t 4))]) := by kernel_rfl

/-- loop.example/g00003/spec.l20Read -/
def c43 : CC :=
 (.seq (.reg [
   ⟨(some 4), none, .f (.mv (.c .nilslice))⟩,
   ⟨(some 5), none, .f (.mv (.c (.int .i64 0)))⟩,
   ⟨(some 6), none, .f (.mv (.c (.int .i64 0)))⟩])
 (.seq (.reg [
   ⟨(some 13), none, .x (.bslice 77 4 [(.str []), .nilslice, (.int .i64 0), .nilslice] 0 [])⟩,
   ⟨(some 7), none, .f (.mv (.t 13))⟩])
 (.seq (.reg [
   ⟨(some 8), none, .f (.mv (.c (.int .i64 0)))⟩])
 (.seq (.block 0 (.loop (.seq (.seq (.reg [
     ⟨(some 14), none, .f (.mv (.t 8))⟩,
     ⟨(some 15), none, .f (.mv (.t 0))⟩,
     ⟨(some 16), none, .f (.len (.t 15))⟩,
     ⟨(some 17), none, .f (.bin .lss (.t 14) (.t 16))⟩])
   (.cond (.t 17)
    .skip
    (.exit 0)))
   (.block 1 (.seq (.reg [
      ⟨(some 18), none, .f (.mv (.t 0))⟩,
      ⟨(some 19), none, .f (.mv (.t 8))⟩,
      ⟨(some 20), none, .f (.slc 1 (.t 18) (some (.t 19)) none none)⟩,
      ⟨(some 21), none, .x (.call 106 [(.t 20)])⟩,
      ⟨(some 9), none, .f (.mv (.t 21))⟩])
    (.seq (.seq (.reg [
      ⟨(some 22), none, .f (.mv (.t 9))⟩,
      ⟨(some 23), none, .f (.bin .lss (.t 22) (.c (.int .i64 0)))⟩])
    (.cond (.t 23)
     (.seq (.reg [
       ⟨(some 24), none, .f (.mv (.t 7))⟩,
       ⟨(some 25), none, .f (.mv (.t 8))⟩,
       ⟨(some 4), none, .f (.mv (.t 24))⟩,
       ⟨(some 5), none, .f (.mv (.t 25))⟩,
       ⟨(some 6), none, .f (.mv (.c (.int .i64 7)))⟩])
     .ret)
     .skip))
    (.seq (.seq (.reg [
      ⟨(some 26), none, .f (.mv (.t 9))⟩,
      ⟨(some 27), none, .f (.bin .eql (.t 26) (.c (.int .i64 0)))⟩])
    (.cond (.t 27)
     (.exit 0)
     .skip))
    (.seq (.reg [
      ⟨(some 29), none, .f (.mv (.t 0))⟩,
      ⟨(some 30), none, .f (.mv (.t 8))⟩,
      ⟨(some 31), none, .f (.mv (.t 8))⟩,
      ⟨(some 32), none, .f (.mv (.t 9))⟩,
      ⟨(some 33), none, .f (.bin .add (.t 31) (.t 32))⟩,
      ⟨(some 34), none, .f (.slc 1 (.t 29) (some (.t 30)) (some (.t 33)) none)⟩,
      ⟨(some 35), none, .f (.b2s (.t 34))⟩,
      ⟨(some 36), none, .x (.call 107 [(.t 35)])⟩,
      ⟨(some 28), none, .f (.mv (.t 36))⟩,
      ⟨(some 37), none, .f (.ext 0 (.t 28))⟩,
      ⟨(some 38), none, .f (.ext 1 (.t 28))⟩,
      ⟨(some 10), none, .x (.zero 77 4 [(.str []), .nilslice, (.int .i64 0), .nilslice])⟩,
      ⟨none, none, .x (.st 4 (.t 10) (.t 37))⟩,
      ⟨(some 11), none, .f (.mv (.t 38))⟩])
    (.seq (.seq (.reg [
      ⟨(some 39), none, .f (.mv (.t 11))⟩,
      ⟨(some 40), none, .f (.un .not (.t 39))⟩,
      ⟨(some 41), none, .f (.mv (.t 40))⟩,
      ⟨(some 42), (some (41, false)), .f (.fadr 0 (.t 10))⟩,
      ⟨(some 43), (some (41, false)), .f (.ld (.t 42))⟩,
      ⟨(some 44), (some (41, false)), .f (.mv (.t 1))⟩,
      ⟨(some 45), (some (41, false)), .x (.call 108 [(.t 43), (.t 44)])⟩,
      ⟨(some 46), (some (41, false)), .f (.un .not (.t 45))⟩,
      ⟨(some 47), none, .f (.pick (.t 41) (.c (.bool true)) (.t 46))⟩])
    (.cond (.t 47)
     (.seq (.reg [
       ⟨(some 48), none, .f (.mv (.t 7))⟩,
       ⟨(some 49), none, .f (.mv (.t 8))⟩,
       ⟨(some 4), none, .f (.mv (.t 48))⟩,
       ⟨(some 5), none, .f (.mv (.t 49))⟩,
       ⟨(some 6), none, .f (.mv (.c (.int .i64 19)))⟩])
     .ret)
     .skip))
    (.seq (.reg [
      ⟨(some 50), none, .f (.mv (.t 8))⟩,
      ⟨(some 51), none, .f (.mv (.t 9))⟩,
      ⟨(some 52), none, .f (.bin .add (.t 50) (.t 51))⟩,
      ⟨(some 53), none, .f (.fadr 2 (.t 10))⟩,
      ⟨(some 54), none, .f (.ld (.t 53))⟩,
      ⟨(some 55), none, .f (.bin .add (.t 52) (.t 54))⟩,
      ⟨(some 12), none, .f (.mv (.t 55))⟩])
    (.seq (.seq (.reg [
      ⟨(some 56), none, .f (.mv (.t 12))⟩,
      ⟨(some 57), none, .f (.mv (.t 0))⟩,
      ⟨(some 58), none, .f (.len (.t 57))⟩,
      ⟨(some 59), none, .f (.bin .gtr (.t 56) (.t 58))⟩])
    (.cond (.t 59)
     (.exit 0)
     .skip))
    (.seq (.reg [
      ⟨(some 60), none, .f (.mv (.t 0))⟩,
      ⟨(some 61), none, .f (.mv (.t 8))⟩,
      ⟨(some 62), none, .f (.mv (.t 9))⟩,
      ⟨(some 63), none, .f (.bin .add (.t 61) (.t 62))⟩,
      ⟨(some 64), none, .f (.mv (.t 12))⟩,
      ⟨(some 65), none, .f (.slc 1 (.t 60) (some (.t 63)) (some (.t 64)) none)⟩,
      ⟨(some 66), none, .x (.call 109 [(.t 65)])⟩,
      ⟨(some 67), none, .f (.fadr 3 (.t 10))⟩,
      ⟨none, none, .x (.st 1 (.t 67) (.t 66))⟩])
    (.seq (.reg [
      ⟨(some 68), none, .f (.mv (.t 7))⟩,
      ⟨(some 69), none, .f (.ldA 4 (.t 10))⟩,
      ⟨(some 70), none, .x (.bslice 77 4 [(.str []), .nilslice, (.int .i64 0), .nilslice] 1 [(0, (.t 69))])⟩,
      ⟨(some 71), none, .x (.app 77 4 72 (.t 68) (.t 70))⟩,
      ⟨(some 7), none, .f (.mv (.t 71))⟩])
    (.reg [
      ⟨(some 72), none, .f (.mv (.t 12))⟩,
      ⟨(some 8), none, .f (.mv (.t 72))⟩]))))))))))))))
 (.seq (.reg [
   ⟨(some 73), none, .f (.mv (.t 7))⟩,
   ⟨(some 74), none, .f (.mv (.t 8))⟩,
   ⟨(some 4), none, .f (.mv (.t 73))⟩,
   ⟨(some 5), none, .f (.mv (.t 74))⟩,
   ⟨(some 6), none, .f (.mv (.c (.int .i64 0)))⟩])
 .ret)))))
theorem ok43 : fnComp Tryd.prog 43 = some (75, c43, [(.mv (.t 4)), (.mv (.t 5)), (.mv (.t 6))]) := by kernel_rfl

/-- loop.example/g00003/spec.l20Head -/
def c106 : CC :=
 (.seq (.reg [
   ⟨(some 2), none, .f (.mv (.c (.int .i64 0)))⟩])
 (.seq (.seq (.reg [
   ⟨(some 3), none, .f (.mv (.c (.int .i64 0)))⟩])
 (.block 0 (.loop (.seq (.seq (.reg [
     ⟨(some 4), none, .f (.mv (.t 3))⟩,
     ⟨(some 5), none, .f (.mv (.t 0))⟩,
     ⟨(some 6), none, .f (.len (.t 5))⟩,
     ⟨(some 7), none, .f (.bin .lss (.t 4) (.t 6))⟩,
     ⟨(some 8), none, .f (.mv (.t 7))⟩,
     ⟨(some 9), (some (8, true)), .f (.mv (.t 3))⟩,
     ⟨(some 10), (some (8, true)), .f (.bin .lss (.t 9) (.c (.int .i64 8000)))⟩,
     ⟨(some 11), none, .f (.pick (.t 8) (.t 10) (.c (.bool false)))⟩])
   (.cond (.t 11)
    .skip
    (.exit 0)))
   (.seq (.block 1 (.seq (.reg [
      ⟨(some 14), none, .f (.mv (.t 0))⟩,
      ⟨(some 15), none, .f (.mv (.t 3))⟩,
      ⟨(some 16), none, .f (.iadr 1 (.t 14) (.t 15))⟩,
      ⟨(some 17), none, .f (.ld (.t 16))⟩,
      ⟨(some 18), none, .f (.bin .eql (.t 17) (.c (.int .u8 10)))⟩,
      ⟨(some 19), none, .f (.mv (.t 18))⟩,
      ⟨(some 20), (some (19, true)), .f (.mv (.t 3))⟩,
      ⟨(some 21), (some (19, true)), .f (.bin .eql (.t 20) (.c (.int .i64 0)))⟩,
      ⟨(some 22), (some (19, true)), .f (.mv (.t 21))⟩,
      ⟨(some 23), (some (22, false)), .f (.mv (.t 0))⟩,
      ⟨(some 24), (some (22, false)), .f (.mv (.t 3))⟩,
      ⟨(some 25), (some (22, false)), .f (.bin .sub (.t 24) (.c (.int .i64 1)))⟩,
      ⟨(some 26), (some (22, false)), .f (.iadr 1 (.t 23) (.t 25))⟩,
      ⟨(some 27), (some (22, false)), .f (.ld (.t 26))⟩,
      ⟨(some 28), (some (22, false)), .f (.bin .eql (.t 27) (.c (.int .u8 10)))⟩,
      ⟨(some 29), (some (19, true)), .f (.pick (.t 22) (.c (.bool true)) (.t 28))⟩,
      ⟨(some 30), none, .f (.pick (.t 19) (.t 29) (.c (.bool false)))⟩])
    (.cond (.t 30)
     (.seq (.reg [
       ⟨(some 31), none, .f (.mv (.t 3))⟩,
       ⟨(some 32), none, .f (.bin .add (.t 31) (.c (.int .i64 1)))⟩,
       ⟨(some 2), none, .f (.mv (.t 32))⟩])
     .ret)
     .skip)))
   (.reg [
     ⟨(some 12), none, .f (.mv (.t 3))⟩,
     ⟨(some 13), none, .f (.bin .add (.t 12) (.c (.int .i64 1)))⟩,
     ⟨(some 3), none, .f (.mv (.t 13))⟩]))))))
 (.seq (.seq (.reg [
   ⟨(some 33), none, .f (.mv (.t 0))⟩,
   ⟨(some 34), none, .f (.len (.t 33))⟩,
   ⟨(some 35), none, .f (.bin .geq (.t 34) (.c (.int .i64 8000)))⟩])
 (.cond (.t 35)
  (.seq (.reg [
    ⟨(some 2), none, .f (.mv (.c (.int .i64 (-1))))⟩])
  .ret)
  .skip))
 (.seq (.reg [
   ⟨(some 2), none, .f (.mv (.c (.int .i64 0)))⟩])
 .ret))))
theorem ok106 : fnComp Tryd.prog 106 = some (36, c106, [(.mv (.t 2))]) := by kernel_rfl

/-- loop.example/g00003/spec.l20Lines -/
def c107 : CC :=
 (.seq (.reg [
   ⟨(some 2), none, .x (.zero 77 4 [(.str []), .nilslice, (.int .i64 0), .nilslice])⟩,
   ⟨(some 3), none, .f (.mv (.c (.bool false)))⟩])
 (.seq (.reg [
   ⟨(some 11), none, .f (.build [(.str []), .nilslice, (.int .i64 0), .nilslice] [])⟩,
   ⟨(some 4), none, .x (.zero 77 4 [(.str []), .nilslice, (.int .i64 0), .nilslice])⟩,
   ⟨none, none, .x (.st 4 (.t 4) (.t 11))⟩])
 (.seq (.reg [
   ⟨(some 12), none, .f (.mv (.t 0))⟩,
   ⟨(some 13), none, .x (.call 44 [(.t 12), (.c (.int .u8 10))])⟩,
   ⟨(some 5), none, .f (.mv (.t 13))⟩])
 (.seq (.seq (.reg [
   ⟨(some 14), none, .f (.mv (.t 5))⟩,
   ⟨(some 15), none, .f (.len (.t 14))⟩,
   ⟨(some 16), none, .f (.bin .lss (.t 15) (.c (.int .i64 3)))⟩])
 (.cond (.t 16)
  (.seq (.reg [
    ⟨(some 17), none, .f (.ldA 4 (.t 4))⟩,
    ⟨none, none, .x (.st 4 (.t 2) (.t 17))⟩,
    ⟨(some 3), none, .f (.mv (.c (.bool false)))⟩])
  .ret)
  .skip))
 (.seq (.reg [
   ⟨(some 18), none, .f (.mv (.t 5))⟩,
   ⟨(some 19), none, .f (.iadr 1 (.t 18) (.c (.int .i64 0)))⟩,
   ⟨(some 20), none, .f (.ld (.t 19))⟩,
   ⟨(some 21), none, .f (.fadr 0 (.t 4))⟩,
   ⟨none, none, .x (.st 1 (.t 21) (.t 20))⟩])
 (.seq (.seq (.reg [
   ⟨(some 6), none, .f (.mv (.c (.int .i64 1)))⟩])
 (.block 0 (.loop (.seq (.seq (.reg [
     ⟨(some 22), none, .f (.mv (.t 6))⟩,
     ⟨(some 23), none, .f (.bin .add (.t 22) (.c (.int .i64 2)))⟩,
     ⟨(some 24), none, .f (.mv (.t 5))⟩,
     ⟨(some 25), none, .f (.len (.t 24))⟩,
     ⟨(some 26), none, .f (.bin .lss (.t 23) (.t 25))⟩])
   (.cond (.t 26)
    .skip
    (.exit 0)))
   (.seq (.block 1 (.seq (.reg [
      ⟨(some 7), none, .f (.mv (.c (.int .i64 0)))⟩])
    (.seq (.block 2 (.loop (.seq (.seq (.reg [
        ⟨(some 29), none, .f (.mv (.t 7))⟩,
        ⟨(some 30), none, .f (.mv (.t 5))⟩,
        ⟨(some 31), none, .f (.mv (.t 6))⟩,
        ⟨(some 32), none, .f (.iadr 1 (.t 30) (.t 31))⟩,
        ⟨(some 33), none, .f (.ld (.t 32))⟩,
        ⟨(some 34), none, .f (.lenS (.t 33))⟩,
        ⟨(some 35), none, .f (.bin .lss (.t 29) (.t 34))⟩,
        ⟨(some 36), none, .f (.mv (.t 35))⟩,
        ⟨(some 37), (some (36, true)), .f (.mv (.t 5))⟩,
        ⟨(some 38), (some (36, true)), .f (.mv (.t 6))⟩,
        ⟨(some 39), (some (36, true)), .f (.iadr 1 (.t 37) (.t 38))⟩,
        ⟨(some 40), (some (36, true)), .f (.ld (.t 39))⟩,
        ⟨(some 41), (some (36, true)), .f (.mv (.t 7))⟩,
        ⟨(some 42), (some (36, true)), .f (.idxS (.t 40) (.t 41))⟩,
        ⟨(some 43), (some (36, true)), .f (.bin .neq (.t 42) (.c (.int .u8 58)))⟩,
        ⟨(some 44), none, .f (.pick (.t 36) (.t 43) (.c (.bool false)))⟩])
      (.cond (.t 44)
       .skip
       (.exit 2)))
      (.block 3 (.reg [
         ⟨(some 45), none, .f (.mv (.t 7))⟩,
         ⟨(some 46), none, .f (.bin .add (.t 45) (.c (.int .i64 1)))⟩,
         ⟨(some 7), none, .f (.mv (.t 46))⟩])))))
    (.seq (.seq (.reg [
      ⟨(some 47), none, .f (.mv (.t 7))⟩,
      ⟨(some 48), none, .f (.bin .add (.t 47) (.c (.int .i64 1)))⟩,
      ⟨(some 49), none, .f (.mv (.t 5))⟩,
      ⟨(some 50), none, .f (.mv (.t 6))⟩,
      ⟨(some 51), none, .f (.iadr 1 (.t 49) (.t 50))⟩,
      ⟨(some 52), none, .f (.ld (.t 51))⟩,
      ⟨(some 53), none, .f (.lenS (.t 52))⟩,
      ⟨(some 54), none, .f (.bin .geq (.t 48) (.t 53))⟩,
      ⟨(some 55), none, .f (.mv (.t 54))⟩,
      ⟨(some 56), (some (55, false)), .f (.mv (.t 5))⟩,
      ⟨(some 57), (some (55, false)), .f (.mv (.t 6))⟩,
      ⟨(some 58), (some (55, false)), .f (.iadr 1 (.t 56) (.t 57))⟩,
      ⟨(some 59), (some (55, false)), .f (.ld (.t 58))⟩,
      ⟨(some 60), (some (55, false)), .f (.mv (.t 7))⟩,
      ⟨(some 61), (some (55, false)), .f (.bin .add (.t 60) (.c (.int .i64 1)))⟩,
      ⟨(some 62), (some (55, false)), .f (.idxS (.t 59) (.t 61))⟩,
      ⟨(some 63), (some (55, false)), .f (.bin .neq (.t 62) (.c (.int .u8 32)))⟩,
      ⟨(some 64), none, .f (.pick (.t 55) (.c (.bool true)) (.t 63))⟩])
    (.cond (.t 64)
     (.seq (.reg [
       ⟨(some 65), none, .f (.ldA 4 (.t 4))⟩,
       ⟨none, none, .x (.st 4 (.t 2) (.t 65))⟩,
       ⟨(some 3), none, .f (.mv (.c (.bool false)))⟩])
     .ret)
     .skip))
    (.seq (.dreg [
      ⟨(some 66), none, .f (.mv (.t 5))⟩,
      ⟨(some 67), none, .f (.mv (.t 6))⟩,
      ⟨(some 68), none, .f (.iadr 1 (.t 66) (.t 67))⟩,
      ⟨(some 69), none, .f (.ld (.t 68))⟩,
      ⟨(some 70), none, .f (.mv (.t 7))⟩,
      ⟨(some 71), none, .f (.slcS (.t 69) none (some (.t 70)))⟩,
      ⟨(some 72), none, .f (.mv (.t 5))⟩,
      ⟨(some 73), none, .f (.mv (.t 6))⟩,
      ⟨(some 74), none, .f (.iadr 1 (.t 72) (.t 73))⟩,
      ⟨(some 75), none, .f (.ld (.t 74))⟩,
      ⟨(some 76), none, .f (.mv (.t 7))⟩,
      ⟨(some 77), none, .f (.bin .add (.t 76) (.c (.int .i64 2)))⟩,
      ⟨(some 78), none, .f (.slcS (.t 75) (some (.t 77)) none)⟩,
      ⟨(some 79), none, .f (.build [(.str []), (.str [])] [(0, 1, (.t 71)), (1, 1, (.t 78))])⟩,
      ⟨(some 8), none, .x (.zero 163 2 [(.str []), (.str [])])⟩,
      ⟨none, none, .x (.st 2 (.t 8) (.t 79))⟩]
      [false, false, false, false, false, false, false, false, false, false, false, false, false, false, true, true] [[], [], [0, 1], [2, 0, 1], [], [3, 2, 0, 1, 4], [], [], [6, 7], [8, 6, 7], [], [10], [9, 8, 6, 7, 11, 10], [5, 3, 2, 0, 1, 4, 12, 9, 8, 6, 7, 11, 10], [], [14, 13, 5, 3, 2, 0, 1, 4, 12, 9, 8, 6, 7, 11, 10]] [0, 1, 2, 3, 4, 5, 6, 7, 8, 9, 10, 11, 12, 13, 14, 15])
    (.seq (.seq (.reg [
      ⟨(some 80), none, .f (.fadr 0 (.t 8))⟩,
      ⟨(some 81), none, .f (.ld (.t 80))⟩,
      ⟨(some 82), none, .f (.bin .eql (.t 81) (.c (.str [108, 101, 110, 103, 116, 104])))⟩,
      ⟨(some 83), none, .f (.mv (.t 82))⟩,
      ⟨(some 84), (some (83, true)), .f (.mv (.t 6))⟩,
      ⟨(some 85), (some (83, true)), .f (.bin .add (.t 84) (.c (.int .i64 3)))⟩,
      ⟨(some 86), (some (83, true)), .f (.mv (.t 5))⟩,
      ⟨(some 87), (some (83, true)), .f (.len (.t 86))⟩,
      ⟨(some 88), (some (83, true)), .f (.bin .eql (.t 85) (.t 87))⟩,
      ⟨(some 89), none, .f (.pick (.t 83) (.t 88) (.c (.bool false)))⟩])
    (.cond (.t 89)
     (.seq (.reg [
       ⟨(some 91), none, .f (.fadr 1 (.t 8))⟩,
       ⟨(some 92), none, .f (.ld (.t 91))⟩,
       ⟨(some 93), none, .x (.call 45 [(.t 92), (.c (.int .i64 5))])⟩,
       ⟨(some 90), none, .f (.mv (.t 93))⟩,
       ⟨(some 94), none, .f (.ext 0 (.t 90))⟩,
       ⟨(some 95), none, .f (.ext 1 (.t 90))⟩,
       ⟨(some 9), none, .f (.mv (.t 94))⟩,
       ⟨(some 10), none, .f (.mv (.t 95))⟩])
     (.seq (.seq (.reg [
       ⟨(some 96), none, .f (.mv (.t 10))⟩,
       ⟨(some 97), none, .f (.un .not (.t 96))⟩,
       ⟨(some 98), none, .f (.mv (.t 97))⟩,
       ⟨(some 99), (some (98, false)), .f (.mv (.t 9))⟩,
       ⟨(some 100), (some (98, false)), .f (.bin .lss (.t 99) (.c (.int .i64 1)))⟩,
       ⟨(some 101), none, .f (.pick (.t 98) (.c (.bool true)) (.t 100))⟩,
       ⟨(some 102), none, .f (.mv (.t 101))⟩,
       ⟨(some 103), (some (102, false)), .f (.mv (.t 9))⟩,
       ⟨(some 104), (some (102, false)), .f (.bin .gtr (.t 103) (.c (.int .i64 60000)))⟩,
       ⟨(some 105), none, .f (.pick (.t 102) (.c (.bool true)) (.t 104))⟩])
     (.cond (.t 105)
      (.seq (.reg [
        ⟨(some 106), none, .f (.ldA 4 (.t 4))⟩,
        ⟨none, none, .x (.st 4 (.t 2) (.t 106))⟩,
        ⟨(some 3), none, .f (.mv (.c (.bool false)))⟩])
      .ret)
      .skip))
     (.seq (.reg [
       ⟨(some 107), none, .f (.mv (.t 9))⟩,
       ⟨(some 108), none, .f (.fadr 2 (.t 4))⟩,
       ⟨none, none, .x (.st 1 (.t 108) (.t 107))⟩])
     (.exit 1))))
     .skip))
    (.seq (.seq (.reg [
      ⟨(some 109), none, .f (.ldA 2 (.t 8))⟩,
      ⟨(some 110), none, .x (.call 147 [(.t 109)])⟩,
      ⟨(some 111), none, .f (.un .not (.t 110))⟩])
    (.cond (.t 111)
     (.seq (.reg [
       ⟨(some 112), none, .f (.ldA 4 (.t 4))⟩,
       ⟨none, none, .x (.st 4 (.t 2) (.t 112))⟩,
       ⟨(some 3), none, .f (.mv (.c (.bool false)))⟩])
     .ret)
     .skip))
    (.reg [
      ⟨(some 113), none, .f (.fadr 1 (.t 4))⟩,
      ⟨(some 114), none, .f (.ld (.t 113))⟩,
      ⟨(some 115), none, .f (.ldA 2 (.t 8))⟩,
      ⟨(some 116), none, .x (.bslice 163 2 [(.str []), (.str [])] 1 [(0, (.t 115))])⟩,
      ⟨(some 117), none, .x (.app 163 2 32 (.t 114) (.t 116))⟩,
      ⟨(some 118), none, .f (.fadr 1 (.t 4))⟩,
      ⟨none, none, .x (.st 1 (.t 118) (.t 117))⟩]))))))))
   (.reg [
     ⟨(some 27), none, .f (.mv (.t 6))⟩,
     ⟨(some 28), none, .f (.bin .add (.t 27) (.c (.int .i64 1)))⟩,
     ⟨(some 6), none, .f (.mv (.t 28))⟩]))))))
 (.seq (.dreg [
   ⟨(some 119), none, .f (.ldA 4 (.t 4))⟩,
   ⟨(some 120), none, .f (.fadr 1 (.t 4))⟩,
   ⟨(some 121), none, .f (.ld (.t 120))⟩,
   ⟨(some 122), none, .f (.len (.t 121))⟩,
   ⟨(some 123), none, .f (.bin .leq (.t 122) (.c (.int .i64 16)))⟩,
   ⟨none, none, .x (.st 4 (.t 2) (.t 119))⟩,
   ⟨(some 3), none, .f (.mv (.t 123))⟩]
   [false, false, false, false, false, true, false] [[], [], [1], [2, 1], [3, 2, 1], [0], [4, 3, 2, 1, 5, 0]] [0, 1, 2, 3, 4, 5, 6])
 .ret)))))))
theorem ok107 : fnComp Tryd.prog 107 = some (124, c107, [(.ldA 4 (.t 2)), (.mv (.t 3))]) := by kernel_rfl

/-- loop.example/g00003/spec.l20First -/
def c108 : CC :=
 (.seq (.reg [
   ⟨(some 4), none, .f (.mv (.c (.bool false)))⟩])
 (.seq (.reg [
   ⟨(some 8), none, .f (.mv (.t 0))⟩,
   ⟨(some 9), none, .x (.call 44 [(.t 8), (.c (.int .u8 32))])⟩,
   ⟨(some 5), none, .f (.mv (.t 9))⟩])
 (.seq (.seq (.reg [
   ⟨(some 10), none, .f (.mv (.t 5))⟩,
   ⟨(some 11), none, .f (.len (.t 10))⟩,
   ⟨(some 12), none, .f (.bin .neq (.t 11) (.c (.int .i64 2)))⟩])
 (.cond (.t 12)
  (.seq (.reg [
    ⟨(some 4), none, .f (.mv (.c (.bool false)))⟩])
  .ret)
  .skip))
 (.seq (.seq (.reg [
   ⟨(some 13), none, .f (.mv (.t 1))⟩])
 (.cond (.t 13)
  (.seq (.reg [
    ⟨(some 14), none, .f (.mv (.t 5))⟩,
    ⟨(some 15), none, .f (.iadr 1 (.t 14) (.c (.int .i64 0)))⟩,
    ⟨(some 16), none, .f (.ld (.t 15))⟩,
    ⟨(some 17), none, .x (.call 148 [(.t 16)])⟩,
    ⟨(some 18), none, .f (.mv (.t 17))⟩,
    ⟨(some 19), (some (18, true)), .f (.mv (.t 5))⟩,
    ⟨(some 20), (some (18, true)), .f (.iadr 1 (.t 19) (.c (.int .i64 1)))⟩,
    ⟨(some 21), (some (18, true)), .f (.ld (.t 20))⟩,
    ⟨(some 22), (some (18, true)), .x (.call 149 [(.t 21)])⟩,
    ⟨(some 23), none, .f (.pick (.t 18) (.t 22) (.c (.bool false)))⟩,
    ⟨(some 4), none, .f (.mv (.t 23))⟩])
  .ret)
  .skip))
 (.seq (.reg [
   ⟨(some 25), none, .f (.mv (.t 5))⟩,
   ⟨(some 26), none, .f (.iadr 1 (.t 25) (.c (.int .i64 1)))⟩,
   ⟨(some 27), none, .f (.ld (.t 26))⟩,
   ⟨(some 28), none, .x (.call 45 [(.t 27), (.c (.int .i64 3))])⟩,
   ⟨(some 24), none, .f (.mv (.t 28))⟩,
   ⟨(some 29), none, .f (.ext 0 (.t 24))⟩,
   ⟨(some 30), none, .f (.ext 1 (.t 24))⟩,
   ⟨(some 6), none, .f (.mv (.t 29))⟩,
   ⟨(some 7), none, .f (.mv (.t 30))⟩])
 (.seq (.reg [
   ⟨(some 31), none, .f (.mv (.t 5))⟩,
   ⟨(some 32), none, .f (.iadr 1 (.t 31) (.c (.int .i64 0)))⟩,
   ⟨(some 33), none, .f (.ld (.t 32))⟩,
   ⟨(some 34), none, .f (.bin .eql (.t 33) (.c (.str [114, 101, 112, 108, 121])))⟩,
   ⟨(some 35), none, .f (.mv (.t 34))⟩,
   ⟨(some 36), (some (35, true)), .f (.mv (.t 7))⟩,
   ⟨(some 37), none, .f (.pick (.t 35) (.t 36) (.c (.bool false)))⟩,
   ⟨(some 38), none, .f (.mv (.t 37))⟩,
   ⟨(some 39), (some (38, true)), .f (.mv (.t 6))⟩,
   ⟨(some 40), (some (38, true)), .f (.bin .geq (.t 39) (.c (.int .i64 100)))⟩,
   ⟨(some 41), none, .f (.pick (.t 38) (.t 40) (.c (.bool false)))⟩,
   ⟨(some 4), none, .f (.mv (.t 41))⟩])
 .ret))))))
theorem ok108 : fnComp Tryd.prog 108 = some (42, c108, [(.mv (.t 4))]) := by kernel_rfl

/-- loop.example/g00003/spec.l02Number -/
def c45 : CC :=
 (.seq (.reg [
   ⟨(some 4), none, .f (.mv (.c (.int .i64 0)))⟩,
   ⟨(some 5), none, .f (.mv (.c (.bool false)))⟩])
 (.seq (.seq (.reg [
   ⟨(some 8), none, .f (.mv (.t 0))⟩,
   ⟨(some 9), none, .f (.lenS (.t 8))⟩,
   ⟨(some 10), none, .f (.bin .lss (.t 9) (.c (.int .i64 1)))⟩,
   ⟨(some 11), none, .f (.mv (.t 10))⟩,
   ⟨(some 12), (some (11, false)), .f (.mv (.t 0))⟩,
   ⟨(some 13), (some (11, false)), .f (.lenS (.t 12))⟩,
   ⟨(some 14), (some (11, false)), .f (.mv (.t 1))⟩,
   ⟨(some 15), (some (11, false)), .f (.bin .gtr (.t 13) (.t 14))⟩,
   ⟨(some 16), none, .f (.pick (.t 11) (.c (.bool true)) (.t 15))⟩])
 (.cond (.t 16)
  (.seq (.reg [
    ⟨(some 4), none, .f (.mv (.c (.int .i64 0)))⟩,
    ⟨(some 5), none, .f (.mv (.c (.bool false)))⟩])
  .ret)
  .skip))
 (.seq (.reg [
   ⟨(some 6), none, .f (.mv (.c (.int .i64 0)))⟩])
 (.seq (.seq (.reg [
   ⟨(some 7), none, .f (.mv (.c (.int .i64 0)))⟩])
 (.block 0 (.loop (.seq (.seq (.reg [
     ⟨(some 17), none, .f (.mv (.t 7))⟩,
     ⟨(some 18), none, .f (.mv (.t 0))⟩,
     ⟨(some 19), none, .f (.lenS (.t 18))⟩,
     ⟨(some 20), none, .f (.bin .lss (.t 17) (.t 19))⟩])
   (.cond (.t 20)
    .skip
    (.exit 0)))
   (.seq (.block 1 (.seq (.seq (.reg [
      ⟨(some 23), none, .f (.mv (.t 0))⟩,
      ⟨(some 24), none, .f (.mv (.t 7))⟩,
      ⟨(some 25), none, .f (.idxS (.t 23) (.t 24))⟩,
      ⟨(some 26), none, .f (.bin .lss (.t 25) (.c (.int .u8 48)))⟩,
      ⟨(some 27), none, .f (.mv (.t 26))⟩,
      ⟨(some 28), (some (27, false)), .f (.mv (.t 0))⟩,
      ⟨(some 29), (some (27, false)), .f (.mv (.t 7))⟩,
      ⟨(some 30), (some (27, false)), .f (.idxS (.t 28) (.t 29))⟩,
      ⟨(some 31), (some (27, false)), .f (.bin .gtr (.t 30) (.c (.int .u8 57)))⟩,
      ⟨(some 32), none, .f (.pick (.t 27) (.c (.bool true)) (.t 31))⟩])
    (.cond (.t 32)
     (.seq (.reg [
       ⟨(some 4), none, .f (.mv (.c (.int .i64 0)))⟩,
       ⟨(some 5), none, .f (.mv (.c (.bool false)))⟩])
     .ret)
     .skip))
    (.reg [
      ⟨(some 33), none, .f (.mv (.t 6))⟩,
      ⟨(some 34), none, .f (.bin .mul (.t 33) (.c (.int .i64 10)))⟩,
      ⟨(some 35), none, .f (.mv (.t 0))⟩,
      ⟨(some 36), none, .f (.mv (.t 7))⟩,
      ⟨(some 37), none, .f (.idxS (.t 35) (.t 36))⟩,
      ⟨(some 38), none, .f (.bin .sub (.t 37) (.c (.int .u8 48)))⟩,
      ⟨(some 39), none, .f (.cvI .i64 (.t 38))⟩,
      ⟨(some 40), none, .f (.bin .add (.t 34) (.t 39))⟩,
      ⟨(some 6), none, .f (.mv (.t 40))⟩])))
   (.reg [
     ⟨(some 21), none, .f (.mv (.t 7))⟩,
     ⟨(some 22), none, .f (.bin .add (.t 21) (.c (.int .i64 1)))⟩,
     ⟨(some 7), none, .f (.mv (.t 22))⟩]))))))
 (.seq (.reg [
   ⟨(some 41), none, .f (.mv (.t 6))⟩,
   ⟨(some 42), none, .f (.mv (.t 6))⟩,
   ⟨(some 43), none, .x (.call 100 [(.t 42)])⟩,
   ⟨(some 44), none, .f (.mv (.t 0))⟩,
   ⟨(some 45), none, .f (.bin .eql (.t 43) (.t 44))⟩,
   ⟨(some 4), none, .f (.mv (.t 41))⟩,
   ⟨(some 5), none, .f (.mv (.t 45))⟩])
 .ret)))))
theorem ok45 : fnComp Tryd.prog 45 = some (46, c45, [(.mv (.t 4)), (.mv (.t 5))]) := by kernel_rfl

/-- loop.example/g00003/impl.decimal -/
def c63 : CC :=
 (.seq (.reg [
   ⟨(some 4), none, .f (.mv (.c (.int .i64 0)))⟩,
   ⟨(some 5), none, .f (.mv (.c (.bool false)))⟩])
 (.seq (.seq (.reg [
   ⟨(some 9), none, .f (.mv (.t 0))⟩,
   ⟨(some 10), none, .f (.lenS (.t 9))⟩,
   ⟨(some 11), none, .f (.bin .eql (.t 10) (.c (.int .i64 0)))⟩,
   ⟨(some 12), none, .f (.mv (.t 11))⟩,
   ⟨(some 13), (some (12, false)), .f (.mv (.t 0))⟩,
   ⟨(some 14), (some (12, false)), .f (.lenS (.t 13))⟩,
   ⟨(some 15), (some (12, false)), .f (.mv (.t 1))⟩,
   ⟨(some 16), (some (12, false)), .f (.bin .gtr (.t 14) (.t 15))⟩,
   ⟨(some 17), none, .f (.pick (.t 12) (.c (.bool true)) (.t 16))⟩,
   ⟨(some 18), none, .f (.mv (.t 17))⟩,
   ⟨(some 19), (some (18, false)), .f (.mv (.t 0))⟩,
   ⟨(some 20), (some (18, false)), .f (.lenS (.t 19))⟩,
   ⟨(some 21), (some (18, false)), .f (.bin .gtr (.t 20) (.c (.int .i64 1)))⟩,
   ⟨(some 22), (some (18, false)), .f (.mv (.t 21))⟩,
   ⟨(some 23), (some (22, true)), .f (.mv (.t 0))⟩,
   ⟨(some 24), (some (22, true)), .f (.idxS (.t 23) (.c (.int .i64 0)))⟩,
   ⟨(some 25), (some (22, true)), .f (.bin .eql (.t 24) (.c (.int .u8 48)))⟩,
   ⟨(some 26), (some (18, false)), .f (.pick (.t 22) (.t 25) (.c (.bool false)))⟩,
   ⟨(some 27), none, .f (.pick (.t 18) (.c (.bool true)) (.t 26))⟩])
 (.cond (.t 27)
  (.seq (.reg [
    ⟨(some 4), none, .f (.mv (.c (.int .i64 0)))⟩,
    ⟨(some 5), none, .f (.mv (.c (.bool false)))⟩])
  .ret)
  .skip))
 (.seq (.reg [
   ⟨(some 6), none, .f (.mv (.c (.int .i64 0)))⟩])
 (.seq (.seq (.reg [
   ⟨(some 28), none, .f (.mv (.t 0))⟩,
   ⟨(some 29), none, .x (.s2b 5 (.t 28))⟩,
   ⟨(some 30), none, .f (.len (.t 29))⟩,
   ⟨(some 31), none, .f (.mv (.c (.int .i64 0)))⟩])
 (.block 0 (.loop (.seq (.reg [
     ⟨(some 32), none, .f (.bin .lss (.t 31) (.t 30))⟩])
   (.seq (.cond (.t 32)
    .skip
    (.exit 0))
   (.seq (.block 1 (.seq (.reg [
      ⟨(some 33), none, .f (.iadr 1 (.t 29) (.t 31))⟩,
      ⟨(some 34), none, .f (.ld (.t 33))⟩,
      ⟨(some 8), none, .f (.mv (.t 34))⟩])
    (.seq (.seq (.reg [
      ⟨(some 35), none, .f (.mv (.t 8))⟩,
      ⟨(some 36), none, .f (.bin .lss (.t 35) (.c (.int .u8 48)))⟩,
      ⟨(some 37), none, .f (.mv (.t 36))⟩,
      ⟨(some 38), (some (37, false)), .f (.mv (.t 8))⟩,
      ⟨(some 39), (some (37, false)), .f (.bin .gtr (.t 38) (.c (.int .u8 57)))⟩,
      ⟨(some 40), none, .f (.pick (.t 37) (.c (.bool true)) (.t 39))⟩])
    (.cond (.t 40)
     (.seq (.reg [
       ⟨(some 4), none, .f (.mv (.c (.int .i64 0)))⟩,
       ⟨(some 5), none, .f (.mv (.c (.bool false)))⟩])
     .ret)
     .skip))
    (.reg [
      ⟨(some 41), none, .f (.mv (.t 6))⟩,
      ⟨(some 42), none, .f (.bin .mul (.t 41) (.c (.int .i64 10)))⟩,
      ⟨(some 43), none, .f (.mv (.t 8))⟩,
      ⟨(some 44), none, .f (.bin .sub (.t 43) (.c (.int .u8 48)))⟩,
      ⟨(some 45), none, .f (.cvI .i64 (.t 44))⟩,
      ⟨(some 46), none, .f (.bin .add (.t 42) (.t 45))⟩,
      ⟨(some 6), none, .f (.mv (.t 46))⟩]))))
   (.reg [
     ⟨(some 47), none, .f (.bin .add (.t 31) (.c (.int .i64 1)))⟩,
     ⟨(some 31), none, .f (.mv (.t 47))⟩])))))))
 (.seq (.reg [
   ⟨(some 48), none, .f (.mv (.t 6))⟩,
   ⟨(some 4), none, .f (.mv (.t 48))⟩,
   ⟨(some 5), none, .f (.mv (.c (.bool true)))⟩])
 .ret)))))
theorem ok63 : fnComp Tryd.prog 63 = some (49, c63, [(.mv (.t 4)), (.mv (.t 5))]) := by kernel_rfl

/-- loop.example/g00003/impl.dup -/
def c152 : CC :=
 (.seq (.reg [
   ⟨(some 2), none, .f (.mv (.c .nilslice))⟩])
 (.seq (.reg [
   ⟨(some 3), none, .f (.mv (.t 0))⟩,
   ⟨(some 4), none, .x (.app 5 1 1 (.c .nilslice) (.t 3))⟩,
   ⟨(some 2), none, .f (.mv (.t 4))⟩])
 .ret))
theorem ok152 : fnComp Tryd.prog 152 = some (5, c152, [(.mv (.t 2))]) := by kernel_rfl

/-- loop.example/g00003/impl.oneMessage -/
def c110 : CC :=
 (.seq (.reg [
   ⟨(some 4), none, .x (.zero 153 4 [(.str []), .nilslice, .nilslice, (.int .i64 0)])⟩,
   ⟨(some 5), none, .f (.mv (.c (.bool false)))⟩,
   ⟨(some 6), none, .f (.mv (.c (.int .i64 0)))⟩])
 (.seq (.reg [
   ⟨(some 7), none, .x (.zero 153 4 [(.str []), .nilslice, .nilslice, (.int .i64 0)])⟩])
 (.seq (.reg [
   ⟨(some 17), none, .f (.mv (.t 0))⟩,
   ⟨(some 18), none, .f (.mv (.t 0))⟩,
   ⟨(some 19), none, .f (.len (.t 18))⟩,
   ⟨(some 20), none, .f (.mm false (.t 19) (.c (.int .i64 8000)))⟩,
   ⟨(some 21), none, .f (.slc 1 (.t 17) none (some (.t 20)) none)⟩,
   ⟨(some 8), none, .f (.mv (.t 21))⟩])
 (.seq (.reg [
   ⟨(some 22), none, .f (.mv (.t 8))⟩,
   ⟨(some 23), none, .x (.bslice 5 1 [(.int .u8 0)] 2 [(0, (.c (.int .u8 10))), (1, (.c (.int .u8 10)))])⟩,
   ⟨(some 24), none, .x (.ux .smark [(.t 23)])⟩,
   ⟨(some 25), none, .x (.call 150 [(.t 22), (.t 24)])⟩,
   ⟨(some 9), none, .f (.mv (.t 25))⟩])
 (.seq (.seq (.reg [
   ⟨(some 26), none, .f (.mv (.t 0))⟩,
   ⟨(some 27), none, .f (.len (.t 26))⟩,
   ⟨(some 28), none, .f (.bin .gtr (.t 27) (.c (.int .i64 0)))⟩,
   ⟨(some 29), none, .f (.mv (.t 28))⟩,
   ⟨(some 30), (some (29, true)), .f (.mv (.t 0))⟩,
   ⟨(some 31), (some (29, true)), .f (.iadr 1 (.t 30) (.c (.int .i64 0)))⟩,
   ⟨(some 32), (some (29, true)), .f (.ld (.t 31))⟩,
   ⟨(some 33), (some (29, true)), .f (.bin .eql (.t 32) (.c (.int .u8 10)))⟩,
   ⟨(some 34), none, .f (.pick (.t 29) (.t 33) (.c (.bool false)))⟩])
 (.cond (.t 34)
  (.seq (.reg [
    ⟨(some 35), none, .f (.ldA 4 (.t 7))⟩,
    ⟨none, none, .x (.st 4 (.t 4) (.t 35))⟩,
    ⟨(some 5), none, .f (.mv (.c (.bool false)))⟩,
    ⟨(some 6), none, .f (.mv (.c (.int .i64 19)))⟩])
  .ret)
  .skip))
 (.seq (.seq (.reg [
   ⟨(some 36), none, .f (.mv (.t 9))⟩,
   ⟨(some 37), none, .f (.bin .lss (.t 36) (.c (.int .i64 0)))⟩])
 (.cond (.t 37)
  (.seq (.seq (.reg [
    ⟨(some 38), none, .f (.mv (.t 0))⟩,
    ⟨(some 39), none, .f (.len (.t 38))⟩,
    ⟨(some 40), none, .f (.bin .geq (.t 39) (.c (.int .i64 8000)))⟩])
  (.cond (.t 40)
   (.seq (.reg [
     ⟨(some 41), none, .f (.ldA 4 (.t 7))⟩,
     ⟨none, none, .x (.st 4 (.t 4) (.t 41))⟩,
     ⟨(some 5), none, .f (.mv (.c (.bool false)))⟩,
     ⟨(some 6), none, .f (.mv (.c (.int .i64 7)))⟩])
   .ret)
   .skip))
  (.seq (.reg [
    ⟨(some 42), none, .f (.ldA 4 (.t 7))⟩,
    ⟨none, none, .x (.st 4 (.t 4) (.t 42))⟩,
    ⟨(some 5), none, .f (.mv (.c (.bool false)))⟩,
    ⟨(some 6), none, .f (.mv (.c (.int .i64 0)))⟩])
  .ret))
  .skip))
 (.seq (.reg [
   ⟨(some 43), none, .f (.mv (.t 0))⟩,
   ⟨(some 44), none, .f (.mv (.t 9))⟩,
   ⟨(some 45), none, .f (.slc 1 (.t 43) none (some (.t 44)) none)⟩,
   ⟨(some 46), none, .f (.b2s (.t 45))⟩,
   ⟨(some 47), none, .x (.call 59 [(.t 46), (.c (.str [10]))])⟩,
   ⟨(some 10), none, .f (.mv (.t 47))⟩])
 (.seq (.reg [
   ⟨(some 48), none, .f (.mv (.t 10))⟩,
   ⟨(some 49), none, .f (.iadr 1 (.t 48) (.c (.int .i64 0)))⟩,
   ⟨(some 50), none, .f (.ld (.t 49))⟩,
   ⟨(some 51), none, .f (.fadr 0 (.t 7))⟩,
   ⟨none, none, .x (.st 1 (.t 51) (.t 50))⟩])
 (.seq (.reg [
   ⟨(some 11), none, .f (.mv (.c (.int .i64 0)))⟩])
 (.seq (.seq (.reg [
   ⟨(some 52), none, .f (.mv (.t 10))⟩,
   ⟨(some 53), none, .f (.slc 1 (.t 52) (some (.c (.int .i64 1))) none none)⟩,
   ⟨(some 54), none, .f (.len (.t 53))⟩,
   ⟨(some 55), none, .f (.mv (.c (.int .i64 0)))⟩])
 (.block 0 (.loop (.seq (.reg [
     ⟨(some 56), none, .f (.bin .lss (.t 55) (.t 54))⟩])
   (.seq (.cond (.t 56)
    .skip
    (.exit 0))
   (.seq (.block 1 (.seq (.reg [
      ⟨(some 57), none, .f (.mv (.t 55))⟩,
      ⟨(some 58), none, .f (.iadr 1 (.t 53) (.t 55))⟩,
      ⟨(some 59), none, .f (.ld (.t 58))⟩,
      ⟨(some 12), none, .f (.mv (.t 57))⟩,
      ⟨(some 13), none, .f (.mv (.t 59))⟩])
    (.seq (.reg [
      ⟨(some 61), none, .f (.mv (.t 13))⟩,
      ⟨(some 62), none, .x (.call 61 [(.t 61), (.c (.str [58, 32]))])⟩,
      ⟨(some 60), none, .f (.mv (.t 62))⟩,
      ⟨(some 63), none, .f (.ext 0 (.t 60))⟩,
      ⟨(some 64), none, .f (.ext 1 (.t 60))⟩,
      ⟨(some 65), none, .f (.ext 2 (.t 60))⟩,
      ⟨(some 14), none, .f (.mv (.t 63))⟩,
      ⟨(some 15), none, .f (.mv (.t 64))⟩,
      ⟨(some 16), none, .f (.mv (.t 65))⟩])
    (.seq (.seq (.reg [
      ⟨(some 66), none, .f (.mv (.t 16))⟩,
      ⟨(some 67), none, .f (.un .not (.t 66))⟩])
    (.cond (.t 67)
     (.seq (.reg [
       ⟨(some 68), none, .f (.ldA 4 (.t 7))⟩,
       ⟨none, none, .x (.st 4 (.t 4) (.t 68))⟩,
       ⟨(some 5), none, .f (.mv (.c (.bool false)))⟩,
       ⟨(some 6), none, .f (.mv (.c (.int .i64 19)))⟩])
     .ret)
     .skip))
    (.seq (.seq (.reg [
      ⟨(some 69), none, .f (.mv (.t 14))⟩,
      ⟨(some 70), none, .f (.bin .eql (.t 69) (.c (.str [108, 101, 110, 103, 116, 104])))⟩,
      ⟨(some 71), none, .f (.mv (.t 70))⟩,
      ⟨(some 72), (some (71, true)), .f (.mv (.t 12))⟩,
      ⟨(some 73), (some (71, true)), .f (.mv (.t 10))⟩,
      ⟨(some 74), (some (71, true)), .f (.len (.t 73))⟩,
      ⟨(some 75), (some (71, true)), .f (.bin .sub (.t 74) (.c (.int .i64 2)))⟩,
      ⟨(some 76), (some (71, true)), .f (.bin .eql (.t 72) (.t 75))⟩,
      ⟨(some 77), none, .f (.pick (.t 71) (.t 76) (.c (.bool false)))⟩])
    (.cond (.t 77)
     (.seq (.reg [
       ⟨(some 79), none, .f (.mv (.t 15))⟩,
       ⟨(some 80), none, .x (.call 63 [(.t 79), (.c (.int .i64 5))])⟩,
       ⟨(some 78), none, .f (.mv (.t 80))⟩,
       ⟨(some 81), none, .f (.ext 0 (.t 78))⟩,
       ⟨(some 82), none, .f (.ext 1 (.t 78))⟩,
       ⟨(some 11), none, .f (.mv (.t 81))⟩,
       ⟨(some 16), none, .f (.mv (.t 82))⟩])
     (.seq (.seq (.reg [
       ⟨(some 83), none, .f (.mv (.t 16))⟩,
       ⟨(some 84), none, .f (.un .not (.t 83))⟩,
       ⟨(some 85), none, .f (.mv (.t 84))⟩,
       ⟨(some 86), (some (85, false)), .f (.mv (.t 11))⟩,
       ⟨(some 87), (some (85, false)), .f (.bin .lss (.t 86) (.c (.int .i64 1)))⟩,
       ⟨(some 88), none, .f (.pick (.t 85) (.c (.bool true)) (.t 87))⟩,
       ⟨(some 89), none, .f (.mv (.t 88))⟩,
       ⟨(some 90), (some (89, false)), .f (.mv (.t 11))⟩,
       ⟨(some 91), (some (89, false)), .f (.bin .gtr (.t 90) (.c (.int .i64 60000)))⟩,
       ⟨(some 92), none, .f (.pick (.t 89) (.c (.bool true)) (.t 91))⟩])
     (.cond (.t 92)
      (.seq (.reg [
        ⟨(some 93), none, .f (.ldA 4 (.t 7))⟩,
        ⟨none, none, .x (.st 4 (.t 4) (.t 93))⟩,
        ⟨(some 5), none, .f (.mv (.c (.bool false)))⟩,
        ⟨(some 6), none, .f (.mv (.c (.int .i64 19)))⟩])
      .ret)
      .skip))
     (.exit 0)))
     .skip))
    (.reg [
      ⟨(some 94), none, .f (.fadr 1 (.t 7))⟩,
      ⟨(some 95), none, .f (.ld (.t 94))⟩,
      ⟨(some 96), none, .f (.mv (.t 14))⟩,
      ⟨(some 97), none, .f (.mv (.t 15))⟩,
      ⟨(some 98), none, .f (.build [(.str []), (.str [])] [(0, 1, (.t 96)), (1, 1, (.t 97))])⟩,
      ⟨(some 99), none, .x (.bslice 163 2 [(.str []), (.str [])] 1 [(0, (.t 98))])⟩,
      ⟨(some 100), none, .x (.app 163 2 32 (.t 95) (.t 99))⟩,
      ⟨(some 101), none, .f (.fadr 1 (.t 7))⟩,
      ⟨none, none, .x (.st 1 (.t 101) (.t 100))⟩]))))))
   (.reg [
     ⟨(some 102), none, .f (.bin .add (.t 55) (.c (.int .i64 1)))⟩,
     ⟨(some 55), none, .f (.mv (.t 102))⟩])))))))
 (.seq (.seq (.reg [
   ⟨(some 103), none, .f (.fadr 1 (.t 7))⟩,
   ⟨(some 104), none, .f (.ld (.t 103))⟩,
   ⟨(some 105), none, .x (.call 151 [(.t 104), (.c .nilslice)])⟩,
   ⟨(some 106), none, .f (.un .not (.t 105))⟩,
   ⟨(some 107), none, .f (.mv (.t 106))⟩,
   ⟨(some 108), (some (107, false)), .f (.mv (.t 1))⟩,
   ⟨(some 109), (some (107, false)), .f (.fadr 0 (.t 7))⟩,
   ⟨(some 110), (some (107, false)), .f (.ld (.t 109))⟩,
   ⟨(some 111), (some (107, false)), .f (.fadr 1 (.t 7))⟩,
   ⟨(some 112), (some (107, false)), .f (.ld (.t 111))⟩,
   ⟨(some 113), (some (107, false)), .x (.callv (.t 108) [(.t 110), (.t 112)])⟩,
   ⟨(some 114), (some (107, false)), .f (.un .not (.t 113))⟩,
   ⟨(some 115), none, .f (.pick (.t 107) (.c (.bool true)) (.t 114))⟩])
 (.cond (.t 115)
  (.seq (.reg [
    ⟨(some 116), none, .f (.ldA 4 (.t 7))⟩,
    ⟨none, none, .x (.st 4 (.t 4) (.t 116))⟩,
    ⟨(some 5), none, .f (.mv (.c (.bool false)))⟩,
    ⟨(some 6), none, .f (.mv (.c (.int .i64 19)))⟩])
  .ret)
  .skip))
 (.seq (.reg [
   ⟨(some 117), none, .f (.mv (.t 9))⟩,
   ⟨(some 118), none, .f (.bin .add (.t 117) (.c (.int .i64 2)))⟩,
   ⟨(some 119), none, .f (.mv (.t 11))⟩,
   ⟨(some 120), none, .f (.bin .add (.t 118) (.t 119))⟩,
   ⟨(some 121), none, .f (.fadr 3 (.t 7))⟩,
   ⟨none, none, .x (.st 1 (.t 121) (.t 120))⟩])
 (.seq (.seq (.reg [
   ⟨(some 122), none, .f (.fadr 3 (.t 7))⟩,
   ⟨(some 123), none, .f (.ld (.t 122))⟩,
   ⟨(some 124), none, .f (.mv (.t 0))⟩,
   ⟨(some 125), none, .f (.len (.t 124))⟩,
   ⟨(some 126), none, .f (.bin .gtr (.t 123) (.t 125))⟩])
 (.cond (.t 126)
  (.seq (.reg [
    ⟨(some 127), none, .f (.ldA 4 (.t 7))⟩,
    ⟨none, none, .x (.st 4 (.t 4) (.t 127))⟩,
    ⟨(some 5), none, .f (.mv (.c (.bool false)))⟩,
    ⟨(some 6), none, .f (.mv (.c (.int .i64 0)))⟩])
  .ret)
  .skip))
 (.seq (.reg [
   ⟨(some 128), none, .f (.mv (.t 0))⟩,
   ⟨(some 129), none, .f (.mv (.t 9))⟩,
   ⟨(some 130), none, .f (.bin .add (.t 129) (.c (.int .i64 2)))⟩,
   ⟨(some 131), none, .f (.fadr 3 (.t 7))⟩,
   ⟨(some 132), none, .f (.ld (.t 131))⟩,
   ⟨(some 133), none, .f (.slc 1 (.t 128) (some (.t 130)) (some (.t 132)) none)⟩,
   ⟨(some 134), none, .x (.call 152 [(.t 133)])⟩,
   ⟨(some 135), none, .f (.fadr 2 (.t 7))⟩,
   ⟨none, none, .x (.st 1 (.t 135) (.t 134))⟩])
 (.seq (.reg [
   ⟨(some 136), none, .f (.ldA 4 (.t 7))⟩,
   ⟨none, none, .x (.st 4 (.t 4) (.t 136))⟩,
   ⟨(some 5), none, .f (.mv (.c (.bool true)))⟩,
   ⟨(some 6), none, .f (.mv (.c (.int .i64 0)))⟩])
 .ret)))))))))))))))
theorem ok110 : fnComp Tryd.prog 110 = some (137, c110, [(.ldA 4 (.t 4)), (.mv (.t 5)), (.mv (.t 6))]) := by kernel_rfl

/-- loop.example/g00003/impl.toReply -/
def c47 : CC :=
 (.seq (.reg [
   ⟨(some 1), none, .x (.box 153 4 (.t 0))⟩,
   ⟨(some 2), none, .x (.zero 81 3 [(.int .i64 0), .nilslice, .nilslice])⟩,
   ⟨(some 3), none, .f (.mv (.c (.bool false)))⟩])
 (.seq (.reg [
   ⟨(some 10), none, .f (.fadr 0 (.t 1))⟩,
   ⟨(some 11), none, .f (.ld (.t 10))⟩,
   ⟨(some 12), none, .x (.call 112 [(.t 11), (.c (.str [114, 101, 112, 108, 121, 32]))])⟩,
   ⟨(some 9), none, .f (.mv (.t 12))⟩,
   ⟨(some 13), none, .f (.ext 0 (.t 9))⟩,
   ⟨(some 14), none, .f (.ext 1 (.t 9))⟩,
   ⟨(some 4), none, .f (.mv (.t 13))⟩,
   ⟨(some 5), none, .f (.mv (.t 14))⟩])
 (.seq (.reg [
   ⟨(some 16), none, .f (.mv (.t 4))⟩,
   ⟨(some 17), none, .x (.call 63 [(.t 16), (.c (.int .i64 3))])⟩,
   ⟨(some 15), none, .f (.mv (.t 17))⟩,
   ⟨(some 18), none, .f (.ext 0 (.t 15))⟩,
   ⟨(some 19), none, .f (.ext 1 (.t 15))⟩,
   ⟨(some 6), none, .f (.mv (.t 18))⟩,
   ⟨(some 7), none, .f (.mv (.t 19))⟩])
 (.seq (.reg [
   ⟨(some 20), none, .f (.mv (.t 6))⟩,
   ⟨(some 21), none, .f (.fadr 1 (.t 1))⟩,
   ⟨(some 22), none, .f (.ld (.t 21))⟩,
   ⟨(some 23), none, .f (.fadr 2 (.t 1))⟩,
   ⟨(some 24), none, .f (.ld (.t 23))⟩,
   ⟨(some 25), none, .f (.build [(.int .i64 0), .nilslice, .nilslice] [(0, 1, (.t 20)), (1, 1, (.t 22)), (2, 1, (.t 24))])⟩,
   ⟨(some 8), none, .x (.zero 81 3 [(.int .i64 0), .nilslice, .nilslice])⟩,
   ⟨none, none, .x (.st 3 (.t 8) (.t 25))⟩])
 (.seq (.dreg [
   ⟨(some 26), none, .f (.ldA 3 (.t 8))⟩,
   ⟨(some 27), none, .f (.mv (.t 5))⟩,
   ⟨(some 28), none, .f (.mv (.t 27))⟩,
   ⟨(some 29), (some (28, true)), .f (.mv (.t 7))⟩,
   ⟨(some 30), none, .f (.pick (.t 28) (.t 29) (.c (.bool false)))⟩,
   ⟨(some 31), none, .f (.mv (.t 30))⟩,
   ⟨(some 32), (some (31, true)), .f (.ldA 3 (.t 8))⟩,
   ⟨(some 33), (some (31, true)), .x (.call 113 [(.t 32)])⟩,
   ⟨(some 34), none, .f (.pick (.t 31) (.t 33) (.c (.bool false)))⟩,
   ⟨none, none, .x (.st 3 (.t 2) (.t 26))⟩,
   ⟨(some 3), none, .f (.mv (.t 34))⟩]
   [false, false, false, false, false, false, false, true, false, true, false] [[], [], [1], [2, 1], [2, 1, 3], [4, 2, 1, 3], [5, 4, 2, 1, 3], [6, 5, 4, 2, 1, 3], [5, 4, 2, 1, 3, 7, 6], [0, 7, 6, 5, 4, 2, 1, 3], [8, 5, 4, 2, 1, 3, 7, 6, 9, 0]] [0, 1, 2, 3, 4, 5, 6, 7, 8, 9, 10])
 .ret)))))
theorem ok47 : fnComp Tryd.prog 47 = some (35, c47, [(.ldA 3 (.t 2)), (.mv (.t 3))]) := by kernel_rfl

/-- loop.example/g00003/impl.ReadReplies -/
def c10 : CC :=
 (.seq (.reg [
   ⟨(some 2), none, .f (.mv (.c .nilslice))⟩,
   ⟨(some 3), none, .f (.mv (.c (.int .i64 0)))⟩,
   ⟨(some 4), none, .f (.mv (.c (.int .i64 0)))⟩])
 (.seq (.reg [
   ⟨(some 5), none, .f (.mv (.t 0))⟩,
   ⟨(some 6), none, .x (.call 46 [(.t 5), (.fn 47)])⟩,
   ⟨(some 7), none, .f (.ext 0 (.t 6))⟩,
   ⟨(some 8), none, .f (.ext 1 (.t 6))⟩,
   ⟨(some 9), none, .f (.ext 2 (.t 6))⟩,
   ⟨(some 2), none, .f (.mv (.t 7))⟩,
   ⟨(some 3), none, .f (.mv (.t 8))⟩,
   ⟨(some 4), none, .f (.mv (.t 9))⟩])
 .ret))
theorem ok10 : fnComp Tryd.prog 10 = some (10, c10, [(.mv (.t 2)), (.mv (.t 3)), (.mv (.t 4))]) := by kernel_rfl

end Go.Proofs.YtdpaehdolhdjdaaDoor

set_option maxRecDepth 20000
namespace Go.Proofs.YtdpaehdolhdjdaaDoor
open Go Go.IW
section
attribute [local go_sem] List.getElem?_cons_zero List.getElem?_cons_succ Option.bind_some List.map_cons List.map_nil Nat.zero_add if_true List.getD_cons_zero List.getD_cons_succ List.contains_cons List.contains_nil Bool.or_true Bool.true_or Bool.or_false Bool.false_or Bool.not_true Bool.not_false true_and and_true rowA_whole mid_get stO_mid rowO_rows cellO_rows push_n set_n push_at push_old set_here set_there set_pushT set_pushN set_set upd_ne Nat.add_assoc Nat.add_zero stO_1s stO_ws boxA_s List.all_cons List.all_nil one_bool one_int one_str one_ptr one_nilptr one_slice one_eslice one_nilslice one_func one_iface one_niliface Bool.and_true Bool.and_self List.length_cons List.length_nil Nat.one_ne_zero Nat.succ_ne_zero if_false List.set_cons_zero List.set_cons_succ lay_nil lay_1 lay_w Option.map_some

/-! Numbers out of texts. -/
def digB (c : UInt8) : Bool := decide (48 ≤ (c.toNat : Int)) && decide ((c.toNat : Int) ≤ 57)
def valD (s : List UInt8) : Nat := s.foldl (fun a c => a * 10 + (c.toNat - 48)) 0
/-- No needless nought. -/
def canon (s : List UInt8) : Bool := decide (s.length = 1) || (s[0]? != some 48)
def decOk (s : List UInt8) (most : Nat) : Bool := decide (1 ≤ s.length) && decide (s.length ≤ most) && s.all digB && canon s
theorem valD_snoc (t : List UInt8) (c : UInt8) : valD (t ++ [c]) = valD t * 10 + (c.toNat - 48) := by simp [valD]
theorem dig_un {c : UInt8} (h : digB c = true) : 48 ≤ c.toNat ∧ c.toNat ≤ 57 := by
  unfold digB at h
  simp only [Bool.and_eq_true, decide_eq_true_eq] at h
  omega
theorem dig_back {c : UInt8} (h : digB c = true) : UInt8.ofNat (48 + (c.toNat - 48)) = c := by
  have := dig_un h
  rw [show 48 + (c.toNat - 48) = c.toNat by omega]
  simp
theorem dec_head : ∀ (n : Nat), (Lib.decDigits n)[0]? = some 48 → n = 0 := by
  intro n
  induction n using Nat.strongRecOn with
  | ind n ih =>
    intro h
    by_cases h1 : n < 10
    · rw [dec_small h1] at h
      simp only [List.getElem?_cons_zero, Option.some.injEq] at h
      have := congrArg UInt8.toNat h
      rw [UInt8.toNat_ofNat'] at this
      have h2 : ((48 : UInt8).toNat) = 48 := rfl
      rw [h2] at this
      omega
    · rw [dec_big h1] at h
      have hp := dec_pos (n / 10)
      rw [List.getElem?_append_left (by omega)] at h
      have := ih (n / 10) (by omega) h
      omega
theorem snoc_ind {p : List UInt8 → Prop} (h0 : p []) (h1 : ∀ t c, p t → p (t ++ [c])) (s : List UInt8) : p s := by
  have key : ∀ r : List UInt8, p r.reverse := by
    intro r
    induction r with
    | nil => exact h0
    | cons c r ih => rw [List.reverse_cons]; exact h1 _ _ ih
  have := key s.reverse
  rwa [List.reverse_reverse] at this
theorem dec_val : ∀ (s : List UInt8), s.all digB = true → s ≠ [] → s[0]? ≠ some 48 → 0 < valD s ∧ Lib.decDigits (valD s) = s := by
  intro s
  induction s using snoc_ind with
  | h0 => intro _ h; exact absurd rfl h
  | h1 t c ih =>
    intro hd _ h0
    rw [List.all_append, Bool.and_eq_true] at hd
    have hc : digB c = true := by simpa using hd.2
    have hu := dig_un hc
    rw [valD_snoc]
    by_cases ht : t = []
    · subst ht
      have h48 : c ≠ 48 := fun e => h0 (by subst e; rfl)
      have hne : c.toNat ≠ 48 := fun e => h48 (UInt8.toNat_inj.1 e)
      have e0 : valD ([] : List UInt8) = 0 := rfl
      rw [e0]
      refine ⟨by omega, ?_⟩
      rw [dec_small (by omega), Nat.zero_mul, Nat.zero_add, dig_back hc]; rfl
    · have hl : 0 < t.length := List.length_pos_iff.2 ht
      have h0' : t[0]? ≠ some 48 := by rwa [List.getElem?_append_left hl] at h0
      obtain ⟨i1, i2⟩ := ih hd.1 ht h0'
      refine ⟨by omega, ?_⟩
      rw [dec_big (by omega)]
      have e1 : (valD t * 10 + (c.toNat - 48)) / 10 = valD t := by omega
      have e2 : (valD t * 10 + (c.toNat - 48)) % 10 = c.toNat - 48 := by omega
      rw [e1, e2, i2, dig_back hc]
theorem dec_canon {s : List UInt8} (hd : s.all digB = true) (hne : s ≠ []) : decide (Lib.decDigits (valD s) = s) = canon s := by
  unfold canon
  by_cases h0 : s[0]? = some 48
  · by_cases h1 : s.length = 1
    · match s, h1 with
      | [c], _ =>
        have hc : c = 48 := by simpa using h0
        subst hc
        have hv : valD [48] = 0 := rfl
        rw [hv, dec_small (by omega)]; rfl
    · have : Lib.decDigits (valD s) ≠ s := fun e => by
        rw [← e] at h0
        have h2 := dec_head _ h0
        rw [h2] at e
        rw [dec_small (by omega)] at e
        exact h1 (by rw [← e]; rfl)
      rw [decide_eq_false this, decide_eq_false h1, h0]; rfl
  · rw [decide_eq_true (dec_val s hd hne h0).2]
    have : (s[0]? != some 48) = true := by simpa using h0
    rw [this, Bool.or_true]
theorem valD_lt : ∀ (s : List UInt8), s.all digB = true → valD s < 10 ^ s.length := by
  intro s
  induction s using snoc_ind with
  | h0 => intro _; decide
  | h1 t c ih =>
    intro hd
    rw [List.all_append, Bool.and_eq_true] at hd
    have hc : digB c = true := by simpa using hd.2
    have hu := dig_un hc
    have := ih hd.1
    rw [valD_snoc, List.length_append, List.length_singleton, Nat.pow_succ]
    omega
theorem valD_step {s : List UInt8} {k : Nat} {c : UInt8} (h : s[k]? = some c) : valD (s.take (k + 1)) = valD (s.take k) * 10 + (c.toNat - 48) := by
  rw [List.take_add_one, h]; exact valD_snoc _ _
theorem digC (c : UInt8) : (decide ((c.toNat : Int) < 48) || decide (57 < (c.toNat : Int))) = !digB c := by
  unfold digB
  rw [lt_not, lt_not]
  simp only [Bool.not_and]
theorem val_bound {s : List UInt8} {k : Nat} (hall : (s.take k).all digB = true) (hl : s.length ≤ 9) : valD (s.take k) < 1000000000 := by
  have h1 := valD_lt _ hall
  have h2 : (s.take k).length ≤ 9 := by rw [List.length_take]; omega
  exact Nat.lt_of_lt_of_le h1 (Nat.pow_le_pow_right (n := 10) (by omega) h2)
theorem mul10 {n : Nat} (h : n < 1000000000) : ibin .mul (.int .i64 (n : Int)) (.int .i64 10) = some (.int .i64 ((n * 10 : Nat) : Int)) := by
  unfold ibin; simp only [if_true]; rw [wr64 _ (by omega)]; simp
theorem sub48 {c : UInt8} (h : digB c = true) : ibin .sub (.int .u8 (c.toNat : Int)) (.int .u8 48) = some (.int .u8 ((c.toNat - 48 : Nat) : Int)) := by
  have := dig_un h
  unfold ibin; simp only [if_true]
  have e : wr .u8 ((c.toNat : Int) - 48) = ((c.toNat - 48 : Nat) : Int) := by unfold wr; rw [IntKind.wrap_u8]; omega
  rw [e]
theorem cv48 {c : UInt8} (h : digB c = true) : wr .i64 ((c.toNat - 48 : Nat) : Int) = ((c.toNat - 48 : Nat) : Int) := by
  have := dig_un h
  exact wr64 _ (by omega)
theorem addD {a b : Nat} (h : a + b < 1000000000000) : ibin .add (.int .i64 (a : Int)) (.int .i64 (b : Int)) = some (.int .i64 ((a + b : Nat) : Int)) := by
  unfold ibin; simp only [if_true]; rw [wr64 _ (by omega)]; simp
/-- What is read: the number, if it is one. -/
def NumRes (r : IV) (s : List UInt8) (most : Nat) : Prop := ∃ n : Int, r = .tuple [.int .i64 n, .bool (decOk s most)] ∧ (decOk s most = true → n = (valD s : Nat))
theorem decOk_head (s : List UInt8) (most : Nat) : (decide ((s.length : Int) < 1) || decide ((most : Int) < (s.length : Int))) = !(decide (1 ≤ s.length) && decide (s.length ≤ most)) := by
  have e1 : decide ((s.length : Int) < 1) = !decide (1 ≤ s.length) := by
    by_cases h : 1 ≤ s.length
    · rw [decide_eq_true h, decide_eq_false (by omega)]; rfl
    · rw [decide_eq_false h, decide_eq_true (by omega)]; rfl
  have e2 : decide ((most : Int) < (s.length : Int)) = !decide (s.length ≤ most) := by
    by_cases h : s.length ≤ most
    · rw [decide_eq_true h, decide_eq_false (by omega)]; rfl
    · rw [decide_eq_false h, decide_eq_true (by omega)]; rfl
  rw [e1, e2, Bool.not_and]

theorem l02Number_c (h : IH) (s : List UInt8) (most : Nat) (hm : most ≤ 9) (hs : s.length ≤ 1048576) : ICalls Tryd.prog 45 [.str s, .int .i64 most] h fun r h' => NumRes r s most ∧ Ext h h' := by
  refine icalls (.of ok45) (Nat.le_of_ble_eq_true rfl) ?_
  unfold c45
  simp (disch := (first | omega | assumption | (simp only [push_n, set_n, put_n, List.length_cons, List.length_nil, List.length_append, Nat.reduceAdd]; done) | (simp only [push_n, set_n, put_n, List.length_cons, List.length_nil, List.length_append]; omega) | (simp only [List.all_cons, List.all_nil, one_bool, one_int, one_str, one_ptr, one_nilptr, one_slice, one_eslice, one_nilslice, one_func, one_iface, one_niliface, Bool.and_true, Bool.true_and, List.getD_cons_zero, List.getD_cons_succ, List.contains_cons, List.contains_nil, Bool.or_true, Bool.true_or, Bool.or_false, Bool.false_or, Nat.reduceBEq, *]; done) | fail)) only [go_sem, Hold.p, HoldK.k, HoldL.K, HoldL.body, Nat.reduceBEq, Nat.reduceAdd, reduceIte]
  rw [decOk_head]
  refine test_of (fun hc => ?_) (fun hc => ?_)
  · have hc' : (decide (1 ≤ s.length) && decide (s.length ≤ most)) = false := by rwa [Bool.not_eq_true'] at hc
    have hk : decOk s most = false := by unfold decOk; rw [hc']; rfl
    simp (disch := (first | omega | assumption | (simp only [push_n, set_n, put_n, List.length_cons, List.length_nil, List.length_append, Nat.reduceAdd]; done) | (simp only [push_n, set_n, put_n, List.length_cons, List.length_nil, List.length_append]; omega) | (simp only [List.all_cons, List.all_nil, one_bool, one_int, one_str, one_ptr, one_nilptr, one_slice, one_eslice, one_nilslice, one_func, one_iface, one_niliface, Bool.and_true, Bool.true_and, List.getD_cons_zero, List.getD_cons_succ, List.contains_cons, List.contains_nil, Bool.or_true, Bool.true_or, Bool.or_false, Bool.false_or, Nat.reduceBEq, *]; done) | fail)) only [go_sem, Hold.p, HoldK.k, HoldL.K, HoldL.body, Nat.reduceBEq, Nat.reduceAdd, reduceIte]
    exact ⟨⟨0, by rw [hk], fun e => by rw [hk] at e; cases e⟩, Ext.refl _⟩
  · have hc' : (decide (1 ≤ s.length) && decide (s.length ≤ most)) = true := by rwa [Bool.not_eq_false'] at hc
    have hl : 1 ≤ s.length ∧ s.length ≤ most := by simpa using hc'
    have hk : decOk s most = (s.all digB && canon s) := by unfold decOk; rw [hc', Bool.true_and]
    simp (disch := (first | omega | assumption | (simp only [push_n, set_n, put_n, List.length_cons, List.length_nil, List.length_append, Nat.reduceAdd]; done) | (simp only [push_n, set_n, put_n, List.length_cons, List.length_nil, List.length_append]; omega) | (simp only [List.all_cons, List.all_nil, one_bool, one_int, one_str, one_ptr, one_nilptr, one_slice, one_eslice, one_nilslice, one_func, one_iface, one_niliface, Bool.and_true, Bool.true_and, List.getD_cons_zero, List.getD_cons_succ, List.contains_cons, List.contains_nil, Bool.or_true, Bool.true_or, Bool.or_false, Bool.false_or, Nat.reduceBEq, *]; done) | fail)) only [go_sem, Hold.p, HoldK.k, HoldL.K, HoldL.body, Nat.reduceBEq, Nat.reduceAdd, reduceIte]
    refine loop_at (fun m e g => ∃ k : Nat, m = s.length - k ∧ k ≤ s.length ∧ e 0 = .str s ∧ e 6 = .int .i64 (valD (s.take k) : Nat) ∧ e 7 = .int .i64 (k : Nat) ∧ (s.take k).all digB = true ∧ g = h) s.length ?_ ?_
    · refine ⟨0, by omega, by omega, ?_⟩
      simp (disch := (first | omega | assumption | (simp only [push_n, set_n, put_n, List.length_cons, List.length_nil, List.length_append, Nat.reduceAdd]; done) | (simp only [push_n, set_n, put_n, List.length_cons, List.length_nil, List.length_append]; omega) | (simp only [List.all_cons, List.all_nil, one_bool, one_int, one_str, one_ptr, one_nilptr, one_slice, one_eslice, one_nilslice, one_func, one_iface, one_niliface, Bool.and_true, Bool.true_and, List.getD_cons_zero, List.getD_cons_succ, List.contains_cons, List.contains_nil, Bool.or_true, Bool.true_or, Bool.or_false, Bool.false_or, Nat.reduceBEq, *]; done) | fail)) only [go_sem, Hold.p, HoldK.k, HoldL.K, HoldL.body, Nat.reduceBEq, Nat.reduceAdd, reduceIte]
      exact ⟨rfl, rfl, rfl⟩
    · rintro m e g ⟨k, rfl, hk', i0, i6, i7, hall, rfl⟩
      simp (disch := (first | omega | assumption | (simp only [push_n, set_n, put_n, List.length_cons, List.length_nil, List.length_append, Nat.reduceAdd]; done) | (simp only [push_n, set_n, put_n, List.length_cons, List.length_nil, List.length_append]; omega) | (simp only [List.all_cons, List.all_nil, one_bool, one_int, one_str, one_ptr, one_nilptr, one_slice, one_eslice, one_nilslice, one_func, one_iface, one_niliface, Bool.and_true, Bool.true_and, List.getD_cons_zero, List.getD_cons_succ, List.contains_cons, List.contains_nil, Bool.or_true, Bool.true_or, Bool.or_false, Bool.false_or, Nat.reduceBEq, *]; done) | fail)) only [i0, i7, go_sem, Hold.p, HoldK.k, HoldL.K, HoldL.body, Nat.reduceBEq, Nat.reduceAdd, reduceIte]
      refine test_dec (fun hb => ?_) (fun hb => ?_)
      · have hlt : k < s.length := by omega
        obtain ⟨c, hc2⟩ : ∃ b, s[k]? = some b := ⟨_, List.getElem?_eq_getElem hlt⟩
        have hx := idxS_at (q := .i64) hc2
        have w1 : wr .i64 ((k : Int) + 1) = ((k + 1 : Nat) : Int) := by rw [wr64 _ (by omega)]; rfl
        simp (disch := (first | omega | assumption | (simp only [push_n, set_n, put_n, List.length_cons, List.length_nil, List.length_append, Nat.reduceAdd]; done) | (simp only [push_n, set_n, put_n, List.length_cons, List.length_nil, List.length_append]; omega) | (simp only [List.all_cons, List.all_nil, one_bool, one_int, one_str, one_ptr, one_nilptr, one_slice, one_eslice, one_nilslice, one_func, one_iface, one_niliface, Bool.and_true, Bool.true_and, List.getD_cons_zero, List.getD_cons_succ, List.contains_cons, List.contains_nil, Bool.or_true, Bool.true_or, Bool.or_false, Bool.false_or, Nat.reduceBEq, *]; done) | fail)) only [i0, i7, hx, go_sem, Hold.p, HoldK.k, HoldL.K, HoldL.body, Nat.reduceBEq, Nat.reduceAdd, reduceIte]
        rw [digC]
        refine test_of (fun hc3 => ?_) (fun hc3 => ?_)
        · have hd : digB c = false := by rwa [Bool.not_eq_true'] at hc3
          have hk2 : decOk s most = false := by rw [hk, all_bad hc2 hd]; rfl
          simp (disch := (first | omega | assumption | (simp only [push_n, set_n, put_n, List.length_cons, List.length_nil, List.length_append, Nat.reduceAdd]; done) | (simp only [push_n, set_n, put_n, List.length_cons, List.length_nil, List.length_append]; omega) | (simp only [List.all_cons, List.all_nil, one_bool, one_int, one_str, one_ptr, one_nilptr, one_slice, one_eslice, one_nilslice, one_func, one_iface, one_niliface, Bool.and_true, Bool.true_and, List.getD_cons_zero, List.getD_cons_succ, List.contains_cons, List.contains_nil, Bool.or_true, Bool.true_or, Bool.or_false, Bool.false_or, Nat.reduceBEq, *]; done) | fail)) only [go_sem, Hold.p, HoldK.k, HoldL.K, HoldL.body, Nat.reduceBEq, Nat.reduceAdd, reduceIte]
          exact ⟨⟨0, by rw [hk2], fun e => by rw [hk2] at e; cases e⟩, Ext.refl _⟩
        · have hd : digB c = true := by rwa [Bool.not_eq_false'] at hc3
          have hvb := val_bound hall (by omega)
          have hu := dig_un hd
          have hm10 := mul10 hvb
          have hs48 := sub48 hd
          have hcv := cv48 hd
          have hadd := addD (a := valD (s.take k) * 10) (b := c.toNat - 48) (by omega)
          simp (disch := (first | omega | assumption | (simp only [push_n, set_n, put_n, List.length_cons, List.length_nil, List.length_append, Nat.reduceAdd]; done) | (simp only [push_n, set_n, put_n, List.length_cons, List.length_nil, List.length_append]; omega) | (simp only [List.all_cons, List.all_nil, one_bool, one_int, one_str, one_ptr, one_nilptr, one_slice, one_eslice, one_nilslice, one_func, one_iface, one_niliface, Bool.and_true, Bool.true_and, List.getD_cons_zero, List.getD_cons_succ, List.contains_cons, List.contains_nil, Bool.or_true, Bool.true_or, Bool.or_false, Bool.false_or, Nat.reduceBEq, *]; done) | fail)) only [i0, i6, i7, hx, hm10, hs48, hcv, hadd, w1, go_sem, Hold.p, HoldK.k, HoldL.K, HoldL.body, Nat.reduceBEq, Nat.reduceAdd, reduceIte]
          refine ⟨_, ?_, k + 1, rfl, by omega, ?_, rfl, ?_⟩
          · omega
          · rw [valD_step hc2]
          · rw [all_step hc2, hall, hd]; rfl
      · have hk2 : k = s.length := by omega
        subst hk2
        rw [List.take_length] at i6 hall
        have hvb := val_bound (k := s.length) (by rw [List.take_length]; exact hall) (by omega)
        rw [List.take_length] at hvb
        simp (disch := (first | omega | assumption | (simp only [push_n, set_n, put_n, List.length_cons, List.length_nil, List.length_append, Nat.reduceAdd]; done) | (simp only [push_n, set_n, put_n, List.length_cons, List.length_nil, List.length_append]; omega) | (simp only [List.all_cons, List.all_nil, one_bool, one_int, one_str, one_ptr, one_nilptr, one_slice, one_eslice, one_nilslice, one_func, one_iface, one_niliface, Bool.and_true, Bool.true_and, List.getD_cons_zero, List.getD_cons_succ, List.contains_cons, List.contains_nil, Bool.or_true, Bool.true_or, Bool.or_false, Bool.false_or, Nat.reduceBEq, *]; done) | fail)) only [i0, i6, go_sem, Hold.p, HoldK.k, HoldL.K, HoldL.body, Nat.reduceBEq, Nat.reduceAdd, reduceIte]
        refine callA_of (l02Dec_c (valD s) g (by omega)) ?_
        rintro r g1 ⟨rfl, E1⟩
        simp (disch := (first | omega | assumption | (simp only [push_n, set_n, put_n, List.length_cons, List.length_nil, List.length_append, Nat.reduceAdd]; done) | (simp only [push_n, set_n, put_n, List.length_cons, List.length_nil, List.length_append]; omega) | (simp only [List.all_cons, List.all_nil, one_bool, one_int, one_str, one_ptr, one_nilptr, one_slice, one_eslice, one_nilslice, one_func, one_iface, one_niliface, Bool.and_true, Bool.true_and, List.getD_cons_zero, List.getD_cons_succ, List.contains_cons, List.contains_nil, Bool.or_true, Bool.true_or, Bool.or_false, Bool.false_or, Nat.reduceBEq, *]; done) | fail)) only [i0, i6, go_sem, Hold.p, HoldK.k, HoldL.K, HoldL.body, Nat.reduceBEq, Nat.reduceAdd, reduceIte]
        have hne : s ≠ [] := by intro e; subst e; simp at hl
        have hcn := dec_canon hall hne
        refine ⟨⟨(valD s : Nat), ?_, fun _ => rfl⟩, E1⟩
        rw [hk, hall, hcn]; rfl

theorem decHead (s : List UInt8) (most : Nat) (hne : s ≠ []) {c : UInt8} (hc : s[0]? = some c) :
    ((decide ((s.length : Int) = 0) || decide ((most : Int) < (s.length : Int))) || (decide (1 < (s.length : Int)) && decide ((c.toNat : Int) = 48))) = !((decide (1 ≤ s.length) && decide (s.length ≤ most)) && canon s) := by
  have hl : 0 < s.length := List.length_pos_iff.2 hne
  have e1 : decide ((s.length : Int) = 0) = false := decide_eq_false (by omega)
  have e0 : decide (1 ≤ s.length) = true := decide_eq_true (by omega)
  have e2 : decide ((most : Int) < (s.length : Int)) = !decide (s.length ≤ most) := by
    by_cases h : s.length ≤ most
    · rw [decide_eq_true h, decide_eq_false (by omega)]; rfl
    · rw [decide_eq_false h, decide_eq_true (by omega)]; rfl
  have e3 : (decide (1 < (s.length : Int)) && decide ((c.toNat : Int) = 48)) = !canon s := by
    unfold canon
    rw [hc]
    have h48 := u8_dec c 48
    rw [show ((48 : UInt8).toNat : Int) = 48 from rfl] at h48
    rw [h48]
    by_cases h1 : s.length = 1
    · rw [decide_eq_true h1, decide_eq_false (by omega)]; rfl
    · rw [decide_eq_false h1, decide_eq_true (by omega)]
      by_cases hq : c = 48
      · subst hq; rfl
      · simp [hq]
  rw [e1, e0, e2, e3]
  simp only [Bool.false_or, Bool.true_and, Bool.not_and]
theorem decimal_c (h : IH) (s : List UInt8) (most : Nat) (hm : most ≤ 9) (hs : s.length ≤ 1048576) : ICalls Tryd.prog 63 [.str s, .int .i64 most] h fun r h' => NumRes r s most ∧ Ext h h' := by
  refine icalls (.of ok63) (Nat.le_of_ble_eq_true rfl) ?_
  unfold c63
  by_cases hne : s = []
  · subst hne
    have d1 : decide (((0 : Nat) : Int) = 0) = true := rfl
    have hk : decOk [] most = false := by simp [decOk]
    simp (disch := (first | omega | assumption | (simp only [push_n, set_n, put_n, List.length_cons, List.length_nil, List.length_append, Nat.reduceAdd]; done) | (simp only [push_n, set_n, put_n, List.length_cons, List.length_nil, List.length_append]; omega) | (simp only [List.all_cons, List.all_nil, one_bool, one_int, one_str, one_ptr, one_nilptr, one_slice, one_eslice, one_nilslice, one_func, one_iface, one_niliface, Bool.and_true, Bool.true_and, List.getD_cons_zero, List.getD_cons_succ, List.contains_cons, List.contains_nil, Bool.or_true, Bool.true_or, Bool.or_false, Bool.false_or, Nat.reduceBEq, *]; done) | fail)) only [d1, Bool.true_or, go_sem, Hold.p, HoldK.k, HoldL.K, HoldL.body, Nat.reduceBEq, Nat.reduceAdd, reduceIte]
    exact ⟨⟨0, by rw [hk], fun e => by rw [hk] at e; cases e⟩, Ext.refl _⟩
  have hpos : 0 < s.length := List.length_pos_iff.2 hne
  obtain ⟨c0, hc0⟩ : ∃ b, s[0]? = some b := ⟨_, List.getElem?_eq_getElem hpos⟩
  have hx0 : idxSF (.str s) (.int .i64 0) = some (.int .u8 c0.toNat) := idxS_at (q := .i64) hc0
  have hH := decHead s most hne hc0
  simp (disch := (first | omega | assumption | (simp only [push_n, set_n, put_n, List.length_cons, List.length_nil, List.length_append, Nat.reduceAdd]; done) | (simp only [push_n, set_n, put_n, List.length_cons, List.length_nil, List.length_append]; omega) | (simp only [List.all_cons, List.all_nil, one_bool, one_int, one_str, one_ptr, one_nilptr, one_slice, one_eslice, one_nilslice, one_func, one_iface, one_niliface, Bool.and_true, Bool.true_and, List.getD_cons_zero, List.getD_cons_succ, List.contains_cons, List.contains_nil, Bool.or_true, Bool.true_or, Bool.or_false, Bool.false_or, Nat.reduceBEq, *]; done) | fail)) only [hx0, go_sem, Hold.p, HoldK.k, HoldL.K, HoldL.body, Nat.reduceBEq, Nat.reduceAdd, reduceIte]
  rw [hH]
  refine test_of (fun hc => ?_) (fun hc => ?_)
  · have hc' : ((decide (1 ≤ s.length) && decide (s.length ≤ most)) && canon s) = false := by rwa [Bool.not_eq_true'] at hc
    have hk : decOk s most = false := by
      unfold decOk
      revert hc'
      cases (decide (1 ≤ s.length) && decide (s.length ≤ most)) <;> cases canon s <;> cases s.all digB <;> simp
    simp (disch := (first | omega | assumption | (simp only [push_n, set_n, put_n, List.length_cons, List.length_nil, List.length_append, Nat.reduceAdd]; done) | (simp only [push_n, set_n, put_n, List.length_cons, List.length_nil, List.length_append]; omega) | (simp only [List.all_cons, List.all_nil, one_bool, one_int, one_str, one_ptr, one_nilptr, one_slice, one_eslice, one_nilslice, one_func, one_iface, one_niliface, Bool.and_true, Bool.true_and, List.getD_cons_zero, List.getD_cons_succ, List.contains_cons, List.contains_nil, Bool.or_true, Bool.true_or, Bool.or_false, Bool.false_or, Nat.reduceBEq, *]; done) | fail)) only [go_sem, Hold.p, HoldK.k, HoldL.K, HoldL.body, Nat.reduceBEq, Nat.reduceAdd, reduceIte]
    exact ⟨⟨0, by rw [hk], fun e => by rw [hk] at e; cases e⟩, Ext.refl _⟩
  · have hc' : ((decide (1 ≤ s.length) && decide (s.length ≤ most)) && canon s) = true := by rwa [Bool.not_eq_false'] at hc
    have hl : (1 ≤ s.length ∧ s.length ≤ most) ∧ canon s = true := by simpa using hc'
    have hk : decOk s most = s.all digB := by unfold decOk; rw [hl.2, decide_eq_true hl.1.1, decide_eq_true hl.1.2]; simp
    simp (disch := (first | omega | assumption | (simp only [push_n, set_n, put_n, List.length_cons, List.length_nil, List.length_append, Nat.reduceAdd]; done) | (simp only [push_n, set_n, put_n, List.length_cons, List.length_nil, List.length_append]; omega) | (simp only [List.all_cons, List.all_nil, one_bool, one_int, one_str, one_ptr, one_nilptr, one_slice, one_eslice, one_nilslice, one_func, one_iface, one_niliface, Bool.and_true, Bool.true_and, List.getD_cons_zero, List.getD_cons_succ, List.contains_cons, List.contains_nil, Bool.or_true, Bool.true_or, Bool.or_false, Bool.false_or, Nat.reduceBEq, *]; done) | fail)) only [go_sem, Hold.p, HoldK.k, HoldL.K, HoldL.body, Nat.reduceBEq, Nat.reduceAdd, reduceIte]
    rw [s2bA_some hne (by omega)]
    generalize hq_g : IH.push h (IObj.rows (strRows s) 5 1 false) = g
    have e_g : Ext h g := by rw [← hq_g]; exact (Ext.refl _).push _
    have l_g : g.n = h.n + 1 := by rw [← hq_g]; rfl
    have b : At g h.n (IObj.rows (strRows s) 5 1 false) := by rw [← hq_g]; exact At.new _ _
    clear hq_g
    have sl : SlR g 1 (.slice h.n 0 s.length) (strRows s) := SlR.whole b.eq (strRows_len _) b.lt
    try simp (disch := (first | omega | assumption | (simp only [push_n, set_n, put_n, List.length_cons, List.length_nil, List.length_append, Nat.reduceAdd]; done) | (simp only [push_n, set_n, put_n, List.length_cons, List.length_nil, List.length_append]; omega) | (simp only [List.all_cons, List.all_nil, one_bool, one_int, one_str, one_ptr, one_nilptr, one_slice, one_eslice, one_nilslice, one_func, one_iface, one_niliface, Bool.and_true, Bool.true_and, List.getD_cons_zero, List.getD_cons_succ, List.contains_cons, List.contains_nil, Bool.or_true, Bool.true_or, Bool.or_false, Bool.false_or, Nat.reduceBEq, *]; done) | fail)) only [go_sem, Hold.p, HoldK.k, HoldL.K, HoldL.body, Nat.reduceBEq, Nat.reduceAdd, reduceIte]
    refine loop_at (fun m e g' => ∃ k : Nat, m = s.length - k ∧ k ≤ s.length ∧ e 6 = .int .i64 (valD (s.take k) : Nat) ∧ e 29 = .slice h.n 0 s.length ∧ e 30 = .int .i64 (s.length : Nat) ∧ e 31 = .int .i64 (k : Nat) ∧ (s.take k).all digB = true ∧ g' = g) s.length ?_ ?_
    · refine ⟨0, by omega, by omega, ?_⟩
      simp (disch := (first | omega | assumption | (simp only [push_n, set_n, put_n, List.length_cons, List.length_nil, List.length_append, Nat.reduceAdd]; done) | (simp only [push_n, set_n, put_n, List.length_cons, List.length_nil, List.length_append]; omega) | (simp only [List.all_cons, List.all_nil, one_bool, one_int, one_str, one_ptr, one_nilptr, one_slice, one_eslice, one_nilslice, one_func, one_iface, one_niliface, Bool.and_true, Bool.true_and, List.getD_cons_zero, List.getD_cons_succ, List.contains_cons, List.contains_nil, Bool.or_true, Bool.true_or, Bool.or_false, Bool.false_or, Nat.reduceBEq, *]; done) | fail)) only [go_sem, Hold.p, HoldK.k, HoldL.K, HoldL.body, Nat.reduceBEq, Nat.reduceAdd, reduceIte]
      first | exact ⟨rfl, rfl, rfl⟩ | exact ⟨rfl, rfl, rfl, rfl⟩ | exact ⟨rfl, rfl⟩
    · rintro m e g' ⟨k, rfl, hk', i6, i29, i30, i31, hall, rfl⟩
      simp (disch := (first | omega | assumption | (simp only [push_n, set_n, put_n, List.length_cons, List.length_nil, List.length_append, Nat.reduceAdd]; done) | (simp only [push_n, set_n, put_n, List.length_cons, List.length_nil, List.length_append]; omega) | (simp only [List.all_cons, List.all_nil, one_bool, one_int, one_str, one_ptr, one_nilptr, one_slice, one_eslice, one_nilslice, one_func, one_iface, one_niliface, Bool.and_true, Bool.true_and, List.getD_cons_zero, List.getD_cons_succ, List.contains_cons, List.contains_nil, Bool.or_true, Bool.true_or, Bool.or_false, Bool.false_or, Nat.reduceBEq, *]; done) | fail)) only [i30, i31, go_sem, Hold.p, HoldK.k, HoldL.K, HoldL.body, Nat.reduceBEq, Nat.reduceAdd, reduceIte]
      refine test_dec (fun hb => ?_) (fun hb => ?_)
      · have hlt : k < s.length := by omega
        obtain ⟨c, hc2⟩ : ∃ b, s[k]? = some b := ⟨_, List.getElem?_eq_getElem hlt⟩
        obtain ⟨l, j, hia, hll, hrow⟩ := sl.at (m := k) (strRows_at hc2) .i64
        have hcl := cellO_row hrow
        have w1 : wr .i64 ((k : Int) + 1) = ((k + 1 : Nat) : Int) := by rw [wr64 _ (by omega)]; rfl
        simp (disch := (first | omega | assumption | (simp only [push_n, set_n, put_n, List.length_cons, List.length_nil, List.length_append, Nat.reduceAdd]; done) | (simp only [push_n, set_n, put_n, List.length_cons, List.length_nil, List.length_append]; omega) | (simp only [List.all_cons, List.all_nil, one_bool, one_int, one_str, one_ptr, one_nilptr, one_slice, one_eslice, one_nilslice, one_func, one_iface, one_niliface, Bool.and_true, Bool.true_and, List.getD_cons_zero, List.getD_cons_succ, List.contains_cons, List.contains_nil, Bool.or_true, Bool.true_or, Bool.or_false, Bool.false_or, Nat.reduceBEq, *]; done) | fail)) only [i29, i31, hia, hcl, go_sem, Hold.p, HoldK.k, HoldL.K, HoldL.body, Nat.reduceBEq, Nat.reduceAdd, reduceIte]
        rw [digC]
        refine test_of (fun hc3 => ?_) (fun hc3 => ?_)
        · have hd : digB c = false := by rwa [Bool.not_eq_true'] at hc3
          have hk2 : decOk s most = false := by rw [hk, all_bad hc2 hd]
          simp (disch := (first | omega | assumption | (simp only [push_n, set_n, put_n, List.length_cons, List.length_nil, List.length_append, Nat.reduceAdd]; done) | (simp only [push_n, set_n, put_n, List.length_cons, List.length_nil, List.length_append]; omega) | (simp only [List.all_cons, List.all_nil, one_bool, one_int, one_str, one_ptr, one_nilptr, one_slice, one_eslice, one_nilslice, one_func, one_iface, one_niliface, Bool.and_true, Bool.true_and, List.getD_cons_zero, List.getD_cons_succ, List.contains_cons, List.contains_nil, Bool.or_true, Bool.true_or, Bool.or_false, Bool.false_or, Nat.reduceBEq, *]; done) | fail)) only [go_sem, Hold.p, HoldK.k, HoldL.K, HoldL.body, Nat.reduceBEq, Nat.reduceAdd, reduceIte]
          exact ⟨⟨0, by rw [hk2], fun e => by rw [hk2] at e; cases e⟩, e_g⟩
        · have hd : digB c = true := by rwa [Bool.not_eq_false'] at hc3
          have hvb := val_bound hall (by omega)
          have hu := dig_un hd
          have hm10 := mul10 hvb
          have hs48 := sub48 hd
          have hcv := cv48 hd
          have hadd := addD (a := valD (s.take k) * 10) (b := c.toNat - 48) (by omega)
          simp (disch := (first | omega | assumption | (simp only [push_n, set_n, put_n, List.length_cons, List.length_nil, List.length_append, Nat.reduceAdd]; done) | (simp only [push_n, set_n, put_n, List.length_cons, List.length_nil, List.length_append]; omega) | (simp only [List.all_cons, List.all_nil, one_bool, one_int, one_str, one_ptr, one_nilptr, one_slice, one_eslice, one_nilslice, one_func, one_iface, one_niliface, Bool.and_true, Bool.true_and, List.getD_cons_zero, List.getD_cons_succ, List.contains_cons, List.contains_nil, Bool.or_true, Bool.true_or, Bool.or_false, Bool.false_or, Nat.reduceBEq, *]; done) | fail)) only [i6, i29, i30, i31, hm10, hs48, hcv, hadd, w1, go_sem, Hold.p, HoldK.k, HoldL.K, HoldL.body, Nat.reduceBEq, Nat.reduceAdd, reduceIte]
          refine ⟨_, ?_, k + 1, rfl, by omega, ?_, rfl, ?_⟩
          · omega
          · rw [valD_step hc2]
          · rw [all_step hc2, hall, hd]; rfl
      · have hk2 : k = s.length := by omega
        subst hk2
        rw [List.take_length] at i6 hall
        simp (disch := (first | omega | assumption | (simp only [push_n, set_n, put_n, List.length_cons, List.length_nil, List.length_append, Nat.reduceAdd]; done) | (simp only [push_n, set_n, put_n, List.length_cons, List.length_nil, List.length_append]; omega) | (simp only [List.all_cons, List.all_nil, one_bool, one_int, one_str, one_ptr, one_nilptr, one_slice, one_eslice, one_nilslice, one_func, one_iface, one_niliface, Bool.and_true, Bool.true_and, List.getD_cons_zero, List.getD_cons_succ, List.contains_cons, List.contains_nil, Bool.or_true, Bool.true_or, Bool.or_false, Bool.false_or, Nat.reduceBEq, *]; done) | fail)) only [i6, go_sem, Hold.p, HoldK.k, HoldL.K, HoldL.body, Nat.reduceBEq, Nat.reduceAdd, reduceIte]
        refine ⟨⟨(valD s : Nat), ?_, fun _ => rfl⟩, e_g⟩
        rw [hk, hall]
end
end Go.Proofs.YtdpaehdolhdjdaaDoor

set_option maxRecDepth 20000
namespace Go.Proofs.YtdpaehdolhdjdaaDoor
open Go Go.IW

/-! What a message is: plain laws. -/
abbrev Txt := List UInt8
def linesF : List Txt → Option (List Fld × Nat)
  | [] => some ([], 0)
  | s :: r =>
    if (Lib.cut s [58, 32]).2.2 = true then
      if (Lib.cut s [58, 32]).1 = lengthS ∧ r = [] then
        if decOk (Lib.cut s [58, 32]).2.1 5 = true ∧ 1 ≤ valD (Lib.cut s [58, 32]).2.1 ∧ valD (Lib.cut s [58, 32]).2.1 ≤ 60000 then some ([], valD (Lib.cut s [58, 32]).2.1) else none
      else match linesF r with
        | none => none
        | some (fs, n) => some (((Lib.cut s [58, 32]).1, (Lib.cut s [58, 32]).2.1) :: fs, n)
    else none
def preF (acc : List Fld) : Option (List Fld × Nat) → Option (List Fld × Nat)
  | none => none
  | some (fs, n) => some (acc ++ fs, n)
theorem preF_nil (o : Option (List Fld × Nat)) : preF [] o = o := by cases o <;> rfl
theorem drop_one {α : Type} {L : List α} {k : Nat} {s : α} (h : L[k]? = some s) : L.drop k = s :: L.drop (k + 1) := by
  have hk : k < L.length := by
    rcases Nat.lt_or_ge k L.length with h' | h'
    · exact h'
    · rw [List.getElem?_eq_none h'] at h; cases h
  rw [List.drop_eq_getElem_cons hk]
  rw [List.getElem?_eq_getElem hk] at h
  rw [Option.some.inj h]
section
variable {L : List Txt} {acc : List Fld} {k : Nat} {s : Txt}
theorem linesF_bad (hI : linesF L = preF acc (linesF (L.drop k))) (hs : L[k]? = some s) (hc : (Lib.cut s [58, 32]).2.2 = false) : linesF L = none := by
  rw [hI, drop_one hs, linesF, hc]; rfl
theorem last_iff (hs : L[k]? = some s) : L.drop (k + 1) = [] ↔ k + 1 = L.length := by
  have hk : k < L.length := by
    rcases Nat.lt_or_ge k L.length with h' | h'
    · exact h'
    · rw [List.getElem?_eq_none h'] at hs; cases hs
  rw [List.drop_eq_nil_iff]
  omega
theorem linesF_len (hI : linesF L = preF acc (linesF (L.drop k))) (hs : L[k]? = some s) (hc : (Lib.cut s [58, 32]).2.2 = true) (hn : (Lib.cut s [58, 32]).1 = lengthS) (hl : k + 1 = L.length) :
    linesF L = if decOk (Lib.cut s [58, 32]).2.1 5 = true ∧ 1 ≤ valD (Lib.cut s [58, 32]).2.1 ∧ valD (Lib.cut s [58, 32]).2.1 ≤ 60000 then some (acc, valD (Lib.cut s [58, 32]).2.1) else none := by
  rw [hI, drop_one hs, linesF, if_pos hc, if_pos ⟨hn, (last_iff hs).2 hl⟩]
  split
  · simp [preF]
  · rfl
theorem linesF_step (hI : linesF L = preF acc (linesF (L.drop k))) (hs : L[k]? = some s) (hc : (Lib.cut s [58, 32]).2.2 = true) (hn : ¬ ((Lib.cut s [58, 32]).1 = lengthS ∧ k + 1 = L.length)) :
    linesF L = preF (acc ++ [((Lib.cut s [58, 32]).1, (Lib.cut s [58, 32]).2.1)]) (linesF (L.drop (k + 1))) := by
  rw [hI, drop_one hs, linesF, if_pos hc, if_neg (fun e => hn ⟨e.1, (last_iff hs).1 e.2⟩)]
  cases linesF (L.drop (k + 1)) with
  | none => rfl
  | some p => simp [preF]
theorem linesF_end (hI : linesF L = preF acc (linesF (L.drop L.length))) : linesF L = some (acc, 0) := by
  rw [hI, List.drop_length]; simp [linesF, preF]
end
def hdOk (L : List Txt) : Option (List Fld × Nat) := match linesF L with
  | none => none
  | some (fs, n) => if restB fs 0 = true then some (fs, n) else none
theorem hdOk_none {L : List Txt} (h : linesF L = none) : hdOk L = none := by unfold hdOk; rw [h]
theorem hdOk_some {L : List Txt} {fs : List Fld} {n : Nat} (h : linesF L = some (fs, n)) : hdOk L = if restB fs 0 = true then some (fs, n) else none := by unfold hdOk; rw [h]
theorem restB_bad {fs : List Fld} {f : Fld} {b : Nat} (hf : f ∈ fs) (hb : fldB f = false) : restB fs b = false := by
  unfold restB
  have : fs.all fldB = false := List.all_eq_false.2 ⟨f, hf, by rw [hb]; simp⟩
  rw [this, Bool.and_false]
theorem hdOk_bad {L : List Txt} {acc : List Fld} {f : Fld} {k : Nat} (hI : linesF L = preF (acc ++ [f]) (linesF (L.drop k))) (hb : fldB f = false) : hdOk L = none := by
  unfold hdOk
  rw [hI]
  cases linesF (L.drop k) with
  | none => rfl
  | some p =>
    have : restB (acc ++ [f] ++ p.1) 0 = false := restB_bad (f := f) (by simp) hb
    simp only [preF, this]; rfl

/-! The first separator. -/
theorem occ2 {s : Txt} {a b : UInt8} {j : Nat} : Lib.occAt s [a, b] j = true ↔ s[j]? = some a ∧ s[j + 1]? = some b := by
  unfold Lib.occAt
  rw [show s[j]? = (s.drop j)[0]? by simp, show s[j + 1]? = (s.drop j)[1]? by simp]
  cases s.drop j with
  | nil => simp
  | cons x t =>
    cases t with
    | nil => simp
    | cons y u =>
      simp only [List.isPrefixOf, Bool.and_true, Bool.and_eq_true, beq_iff_eq, List.getElem?_cons_zero, List.getElem?_cons_succ, Option.some.injEq]
      constructor
      · rintro ⟨rfl, rfl⟩; exact ⟨rfl, rfl⟩
      · rintro ⟨rfl, rfl⟩; exact ⟨rfl, rfl⟩
theorem occ2_f {s : Txt} {a b : UInt8} {j : Nat} (h : ¬ (s[j]? = some a ∧ s[j + 1]? = some b)) : Lib.occAt s [a, b] j = false := Bool.eq_false_iff.2 fun e => h (occ2.1 e)
theorem occ1 {s : Txt} {a : UInt8} {j : Nat} : Lib.occAt s [a] j = true ↔ s[j]? = some a := by
  unfold Lib.occAt
  rw [show s[j]? = (s.drop j)[0]? by simp]
  cases s.drop j with
  | nil => simp
  | cons x t =>
    simp only [List.isPrefixOf, Bool.and_true, beq_iff_eq, List.getElem?_cons_zero, Option.some.injEq]
    exact ⟨fun h => h.symm, fun h => h.symm⟩
theorem occ1_f {s : Txt} {a : UInt8} {j : Nat} (h : s[j]? ≠ some a) : Lib.occAt s [a] j = false := Bool.eq_false_iff.2 fun e => h (occ1.1 e)
/-- The first colon, and what stands behind it. -/
theorem cut_colon {s : Txt} {k : Nat} (h0 : ∀ j, j < k → s[j]? ≠ some 58) (h1 : s[k]? = some 58) (h2 : s[k + 1]? = some 32) : Lib.cut s [58, 32] = (s.take k, s.drop (k + 2), true) := by
  have hk : k < s.length := by
    rcases Nat.lt_or_ge k s.length with h' | h'
    · exact h'
    · rw [List.getElem?_eq_none h'] at h1; cases h1
  have hi : Lib.index s [58, 32] = k := Lib.index_first (Nat.le_of_lt hk) (occ2.2 ⟨h1, h2⟩) fun j hj => occ2_f fun e => h0 j hj e.1
  unfold Lib.cut
  rw [hi, if_pos (by omega)]
  rfl
theorem cut_nocolon {s : Txt} {k : Nat} (hk : k ≤ s.length) (h0 : ∀ j, j < k → s[j]? ≠ some 58) (h1 : k = s.length ∨ s[k]? = some 58) (h2 : s[k + 1]? ≠ some 32) :
    (Lib.cut s [58, 32]).2.2 = false ∨ 58 ∈ (Lib.cut s [58, 32]).1 := by
  unfold Lib.cut
  rcases Lib.index_spec s [58, 32] with ⟨e, _⟩ | ⟨i, e, hi, ho, hn⟩
  · rw [e, if_neg (by omega)]; exact .inl rfl
  · rw [e, if_pos (by omega)]
    right
    obtain ⟨o1, o2⟩ := occ2.1 ho
    have hil : i < s.length := by
      rcases Nat.lt_or_ge i s.length with h' | h'
      · exact h'
      · rw [List.getElem?_eq_none h'] at o1; cases o1
    have hki : k ≤ i := by
      rcases Nat.lt_or_ge i k with h' | h'
      · exact absurd o1 (h0 i h')
      · exact h'
    have hne : k ≠ i := fun e => h2 (e ▸ o2)
    rcases h1 with rfl | h1
    · omega
    · show (58 : UInt8) ∈ s.take (i : Int).toNat
      refine List.mem_of_getElem? (i := k) ?_
      rw [List.getElem?_take_of_lt (by omega)]; exact h1
theorem name_colon {f : Fld} (h : 58 ∈ f.1) : fldB f = false := by
  unfold fldB
  rw [fieldOK_eq]
  have : f.1.all nameB = false := List.all_eq_false.2 ⟨58, h, by decide⟩
  rw [this, Bool.and_false]; rfl
theorem colon_length {s : Txt} (h : 58 ∈ s) : s ≠ lengthS := by
  rintro rfl
  revert h
  decide
/-- A line without a colon and a blank: the head is bad. -/
theorem hdOk_colon {L : List Txt} {acc : List Fld} {k : Nat} {s : Txt} (hI : linesF L = preF acc (linesF (L.drop k))) (hs : L[k]? = some s) (h : (Lib.cut s [58, 32]).2.2 = false ∨ 58 ∈ (Lib.cut s [58, 32]).1) : hdOk L = none := by
  cases hc : (Lib.cut s [58, 32]).2.2 with
  | false => exact hdOk_none (linesF_bad hI hs hc)
  | true =>
    have hm : 58 ∈ (Lib.cut s [58, 32]).1 := by
      rcases h with h | h
      · rw [hc] at h; cases h
      · exact h
    exact hdOk_bad (linesF_step hI hs hc (fun e => colon_length hm e.1)) (name_colon (f := ((Lib.cut s [58, 32]).1, (Lib.cut s [58, 32]).2.1)) hm)

/-! The first line. -/
def replyP : Txt := [114, 101, 112, 108, 121]
def replyQ : Txt := [114, 101, 112, 108, 121, 32]
def statB (s : Txt) : Bool := decOk s 3 && decide (100 ≤ valD s)
def firstB (req : Bool) (s : Txt) : Bool := if req = true then verbB (Lib.cut s [32]).1 && pathOK (Lib.cut s [32]).2.1 else replyQ.isPrefixOf s && statB (s.drop 6)
def firstS (req : Bool) : List Txt → Bool
  | [a, b] => if req = true then verbB a && pathOK b else decide (a = replyP) && statB b
  | _ => false
theorem cut1_none {s : Txt} {c : UInt8} (h : c ∉ s) : Lib.cut s [c] = (s, [], false) := by
  unfold Lib.cut
  rw [Lib.index_none (fun j _ => occ1_f fun e => h (List.mem_of_getElem? e)), if_neg (by omega)]
theorem cut1_some {a t : Txt} {c : UInt8} (h : c ∉ a) : Lib.cut (a ++ c :: t) [c] = (a, t, true) := by
  have hi : Lib.index (a ++ c :: t) [c] = a.length := Lib.index_first (by simp) (occ1.2 (by simp)) fun j hj => occ1_f fun e => by
    rw [List.getElem?_append_left hj] at e
    exact h (List.mem_of_getElem? e)
  unfold Lib.cut
  rw [hi, if_pos (by omega)]
  simp
theorem cutAt_no {c : UInt8} : ∀ {s : Txt}, c ∉ s → cutAt c s = [s]
  | [], _ => rfl
  | b :: r, h => by
    have h1 : c ∉ r := fun e => h (List.mem_cons_of_mem _ e)
    have h2 : (b == c) = false := by
      rw [beq_eq_false_iff_ne]; rintro rfl; exact h List.mem_cons_self
    simp only [cutAt, h2, cutAt_no h1]; rfl
theorem cutAt_sep {c : UInt8} : ∀ {a : Txt} (t : Txt), c ∉ a → cutAt c (a ++ c :: t) = a :: cutAt c t
  | [], t, _ => by simp [cutAt]
  | b :: r, t, h => by
    have h1 : c ∉ r := fun e => h (List.mem_cons_of_mem _ e)
    have h2 : (b == c) = false := by
      rw [beq_eq_false_iff_ne]; rintro rfl; exact h List.mem_cons_self
    rw [List.cons_append]
    simp only [cutAt, h2, cutAt_sep t h1]; rfl
theorem sep_cases (c : UInt8) : ∀ s : Txt, c ∉ s ∨ ∃ a t, s = a ++ c :: t ∧ c ∉ a
  | [] => .inl (by simp)
  | b :: r => by
    by_cases hb : b = c
    · subst hb; exact .inr ⟨[], r, rfl, by simp⟩
    · rcases sep_cases c r with h | ⟨a, t, rfl, h⟩
      · exact .inl (by simp [h]; exact fun e => hb e.symm)
      · exact .inr ⟨b :: a, t, rfl, by simp [h]; exact fun e => hb e.symm⟩
theorem path_blank {p : Txt} (h : 32 ∈ p) : pathOK p = false := by
  unfold pathOK
  have : p.all pathB = false := List.all_eq_false.2 ⟨32, h, by decide⟩
  rw [this, Bool.and_false]
theorem dec_blank {p : Txt} {m : Nat} (h : 32 ∈ p) : decOk p m = false := by
  unfold decOk
  have : p.all digB = false := List.all_eq_false.2 ⟨32, h, by decide⟩
  rw [this, Bool.and_false, Bool.false_and]
theorem repQ_no {s : Txt} (h : 32 ∉ s) : replyQ.isPrefixOf s = false := by
  rw [Bool.eq_false_iff]
  intro e
  obtain ⟨t, rfl⟩ := List.isPrefixOf_iff_prefix.1 e
  exact h (by simp [replyQ])
theorem repQ_sep {a t : Txt} (h : 32 ∉ a) : replyQ.isPrefixOf (a ++ 32 :: t) = decide (a = replyP) ∧ (a = replyP → (a ++ 32 :: t).drop 6 = t) := by
  refine ⟨?_, fun e => by subst e; rfl⟩
  by_cases e : a = replyP
  · subst e; rw [decide_eq_true rfl]; simp [replyQ, replyP]
  · rw [decide_eq_false e, Bool.eq_false_iff]
    intro h2
    obtain ⟨u, hu⟩ := List.isPrefixOf_iff_prefix.1 h2
    have h1 : cutAt 32 (a ++ 32 :: t) = a :: cutAt 32 t := cutAt_sep t h
    rw [← hu, show replyQ ++ u = replyP ++ 32 :: u by simp [replyQ, replyP], cutAt_sep u (by decide)] at h1
    exact e (List.cons.inj h1).1.symm
theorem first_eq (req : Bool) (s : Txt) : firstS req (cutAt 32 s) = firstB req s := by
  unfold firstB
  rcases sep_cases 32 s with h | ⟨a, t, rfl, h⟩
  · rw [cutAt_no h, cut1_none h, repQ_no h]
    cases req <;> simp [firstS, pathOK_nil]
  · rw [cutAt_sep t h, cut1_some h]
    obtain ⟨r1, r2⟩ := repQ_sep (t := t) h
    rw [r1]
    rcases sep_cases 32 t with h' | ⟨b, u, rfl, h'⟩
    · rw [cutAt_no h']
      cases req
      · by_cases e : a = replyP
        · rw [r2 e]; simp [firstS]
        · simp [firstS, e]
      · simp [firstS]
    · have hm : 32 ∈ b ++ 32 :: u := by simp
      have hne : ∀ x, cutAt 32 (b ++ 32 :: u) ≠ [x] := by
        intro x e
        rw [cutAt_sep u h'] at e
        exact cutAt_ne 32 u (List.cons.inj e).2
      have hf : firstS req (a :: cutAt 32 (b ++ 32 :: u)) = false := by
        rw [cutAt_sep u h']
        cases hq : cutAt 32 u with
        | nil => exact absurd hq (cutAt_ne 32 u)
        | cons x l => rfl
      rw [hf, path_blank hm]
      by_cases e : a = replyP
      · rw [r2 e]; unfold statB; rw [dec_blank hm]; simp
      · simp [e]
theorem first_rep {s : Txt} (h : firstB false s = true) : cutAt 32 s = [replyP, s.drop 6] ∧ statB (s.drop 6) = true := by
  have hb := h
  rw [← first_eq] at h
  rcases sep_cases 32 s with h' | ⟨a, t, rfl, h'⟩
  · rw [cutAt_no h'] at h; simp [firstS] at h
  · rw [cutAt_sep t h'] at *
    rcases sep_cases 32 t with h2 | ⟨b, u, rfl, h2⟩
    · rw [cutAt_no h2] at *
      simp only [firstS, Bool.false_eq_true, if_false, Bool.and_eq_true, decide_eq_true_eq] at h
      obtain ⟨rfl, h3⟩ := h
      exact ⟨rfl, h3⟩
    · rw [cutAt_sep u h2] at h
      cases hq : cutAt 32 u with
      | nil => exact absurd hq (cutAt_ne 32 u)
      | cons x l => rw [hq] at h; simp [firstS] at h
end Go.Proofs.YtdpaehdolhdjdaaDoor

set_option maxRecDepth 20000
namespace Go.Proofs.YtdpaehdolhdjdaaDoor
open Go Go.IW

/-! Where a head ends. -/
def hitB (b : Txt) (i : Nat) : Prop := b[i]? = some 10 ∧ (i = 0 ∨ b[i - 1]? = some 10)
def atI (b : Txt) : Int := Lib.index (b.take 8000) [10, 10]
def headI (b : Txt) : Int := if b[0]? = some 10 then 1 else if 0 ≤ atI b then atI b + 2 else if 8000 ≤ b.length then -1 else 0
theorem occ_take {b : Txt} {j : Nat} : Lib.occAt (b.take 8000) [10, 10] j = true ↔ j + 1 < 8000 ∧ b[j]? = some 10 ∧ b[j + 1]? = some 10 := by
  rw [occ2]
  constructor
  · rintro ⟨h1, h2⟩
    have hj : j + 1 < 8000 := by
      rcases Nat.lt_or_ge (j + 1) 8000 with h | h
      · exact h
      · rw [List.getElem?_eq_none (by rw [List.length_take]; omega)] at h2; cases h2
    rw [List.getElem?_take_of_lt (by omega)] at h1
    rw [List.getElem?_take_of_lt hj] at h2
    exact ⟨hj, h1, h2⟩
  · rintro ⟨hj, h1, h2⟩
    rw [List.getElem?_take_of_lt (by omega), List.getElem?_take_of_lt hj]
    exact ⟨h1, h2⟩
theorem some_lt {α : Type} {b : List α} {i : Nat} {x : α} (h : b[i]? = some x) : i < b.length := by
  rcases Nat.lt_or_ge i b.length with h' | h'
  · exact h'
  · rw [List.getElem?_eq_none h'] at h; cases h
theorem head_hit {b : Txt} {i : Nat} (h0 : ∀ j, j < i → ¬ hitB b j) (h1 : hitB b i) (h8 : i < 8000) : headI b = i + 1 := by
  unfold headI
  obtain ⟨a1, a2⟩ := h1
  by_cases hz : b[0]? = some 10
  · have : i = 0 := by
      rcases Nat.eq_zero_or_pos i with h | h
      · exact h
      · exact absurd ⟨hz, .inl rfl⟩ (h0 0 h)
    rw [if_pos hz, this]; rfl
  · have hi : i ≠ 0 := fun e => hz (e ▸ a1)
    have a3 : b[i - 1]? = some 10 := by
      rcases a2 with h | h
      · exact absurd h hi
      · exact h
    have hl := some_lt a1
    have hx : atI b = ((i - 1 : Nat) : Int) := by
      refine Lib.index_first ?_ (occ_take.2 ⟨by omega, a3, by rw [show i - 1 + 1 = i by omega]; exact a1⟩) fun j hj => ?_
      · rw [List.length_take]; omega
      · rw [Bool.eq_false_iff]
        intro e
        obtain ⟨e1, e2, e3⟩ := occ_take.1 e
        exact h0 (j + 1) (by omega) ⟨e3, .inr (by simpa using e2)⟩
    rw [if_neg hz, hx, if_pos (by omega)]
    omega
theorem head_none {b : Txt} (h0 : ∀ j, j < b.length → j < 8000 → ¬ hitB b j) : b[0]? ≠ some 10 ∧ atI b = -1 := by
  refine ⟨fun e => h0 0 (some_lt e) (by omega) ⟨e, .inl rfl⟩, ?_⟩
  refine Lib.index_none fun j _ => ?_
  rw [Bool.eq_false_iff]
  intro e
  obtain ⟨e1, e2, e3⟩ := occ_take.1 e
  exact h0 (j + 1) (some_lt e3) e1 ⟨e3, .inr (by simpa using e2)⟩
theorem atI_cases (b : Txt) : atI b = -1 ∨ ∃ i : Nat, atI b = i ∧ i + 2 ≤ b.length ∧ i + 2 ≤ 8000 ∧ b[i]? = some 10 ∧ b[i + 1]? = some 10 := by
  rcases Lib.index_spec (b.take 8000) [10, 10] with ⟨e, _⟩ | ⟨i, e, hi, ho, _⟩
  · exact .inl e
  · obtain ⟨e1, e2, e3⟩ := occ_take.1 ho
    have := some_lt e3
    exact .inr ⟨i, e, by omega, by omega, e2, e3⟩
theorem take_two {b : Txt} {i : Nat} (h1 : b[i]? = some 10) (h2 : b[i + 1]? = some 10) : b.take (i + 2) = b.take i ++ [10] ++ [10] := by
  rw [List.take_add_one, h2, List.take_add_one, h1]; rfl
theorem cutAt_snoc (c : UInt8) : ∀ s : Txt, cutAt c (s ++ [c]) = cutAt c s ++ [[]]
  | [] => by simp [cutAt]
  | b :: r => by
    rw [List.cons_append]
    simp only [cutAt, cutAt_snoc c r]
    by_cases hb : (b == c) = true
    · simp [hb]
    · simp only [hb, if_false]
      cases hq : cutAt c r with
      | nil => exact absurd hq (cutAt_ne c r)
      | cons x l => rfl
theorem cut_head {b : Txt} {i : Nat} (h1 : b[i]? = some 10) (h2 : b[i + 1]? = some 10) : cutAt 10 (b.take (i + 2)) = cutAt 10 (b.take i) ++ [[], []] := by
  rw [take_two h1 h2, cutAt_snoc, cutAt_snoc]; simp
theorem take_nl {b : Txt} (h : b[0]? = some 10) : cutAt 10 (b.take 1) = [[], []] := by
  cases b with
  | nil => cases h
  | cons x t =>
    simp only [List.getElem?_cons_zero, Option.some.injEq] at h
    subst h; simp [cutAt]
theorem piece_len (c : UInt8) : ∀ (s : Txt), ∀ p ∈ cutAt c s, p.length ≤ s.length
  | [], p, h => by simp [cutAt] at h; subst h; simp
  | b :: r, p, h => by
    have ih := piece_len c r
    simp only [cutAt] at h
    split at h
    · rcases List.mem_cons.1 h with rfl | h
      · simp
      · have := ih p h; simp; omega
    · cases hq : cutAt c r with
      | nil => exact absurd hq (cutAt_ne c r)
      | cons x l =>
        rw [hq] at h ih
        simp only at h
        rcases List.mem_cons.1 h with rfl | h
        · have := ih x List.mem_cons_self; simp; omega
        · have := ih p (List.mem_cons_of_mem _ h); simp; omega

/-! One message. -/
inductive One where
  | stop (c : Int)
  | msg (first : Txt) (fs : List Fld) (body : Txt) (size : Nat)
def bodyO (req : Bool) (b first : Txt) (i : Nat) (o : Option (List Fld × Nat)) : One := match o with
  | none => .stop 19
  | some (fs, n) => if firstB req first = true then (if i + 2 + n ≤ b.length then .msg first fs ((b.take (i + 2 + n)).drop (i + 2)) (i + 2 + n) else .stop 0) else .stop 19
def oneB (req : Bool) (b : Txt) : One :=
  if b[0]? = some 10 then .stop 19 else if atI b < 0 then (if 8000 ≤ b.length then .stop 7 else .stop 0) else
  bodyO req b ((cutAt 10 (b.take (atI b).toNat)).headD []) (atI b).toNat (hdOk (cutAt 10 (b.take (atI b).toNat)).tail)
theorem one_nl {req : Bool} {b : Txt} (h : b[0]? = some 10) : oneB req b = .stop 19 := if_pos h
theorem one_big {req : Bool} {b : Txt} (h : b[0]? ≠ some 10) (h1 : atI b < 0) (h2 : 8000 ≤ b.length) : oneB req b = .stop 7 := by unfold oneB; rw [if_neg h, if_pos h1, if_pos h2]
theorem one_wait {req : Bool} {b : Txt} (h : b[0]? ≠ some 10) (h1 : atI b < 0) (h2 : ¬ 8000 ≤ b.length) : oneB req b = .stop 0 := by unfold oneB; rw [if_neg h, if_pos h1, if_neg h2]
theorem one_body {req : Bool} {b first : Txt} {L : List Txt} {i : Nat} (h : b[0]? ≠ some 10) (h1 : atI b = i) (h2 : cutAt 10 (b.take i) = first :: L) : oneB req b = bodyO req b first i (hdOk L) := by
  unfold oneB
  rw [if_neg h, if_neg (by omega), h1, Int.toNat_natCast, h2]; rfl
theorem linesF_le : ∀ {L : List Txt} {fs : List Fld} {n : Nat}, linesF L = some (fs, n) → n ≤ 60000 ∧ fs.length ≤ L.length
  | [], fs, n, h => by simp [linesF] at h; obtain ⟨rfl, rfl⟩ := h; simp
  | s :: r, fs, n, h => by
    rw [linesF] at h
    split at h
    · split at h
      · split at h
        · rename_i hh
          simp at h
          obtain ⟨rfl, rfl⟩ := h
          exact ⟨hh.2.2, by simp⟩
        · cases h
      · split at h
        · cases h
        · rename_i hq
          have := linesF_le hq
          simp at h
          obtain ⟨rfl, rfl⟩ := h
          simp; omega
    · cases h
theorem hdOk_un {L : List Txt} {fs : List Fld} {n : Nat} (h : hdOk L = some (fs, n)) : linesF L = some (fs, n) ∧ restB fs 0 = true ∧ n ≤ 60000 := by
  unfold hdOk at h
  cases hq : linesF L with
  | none => rw [hq] at h; cases h
  | some p =>
    obtain ⟨gs, m⟩ := p
    rw [hq] at h
    simp only at h
    split at h
    · rename_i hr
      simp at h
      obtain ⟨rfl, rfl⟩ := h
      exact ⟨rfl, hr, (linesF_le hq).1⟩
    · cases h
structure MsgOk (req : Bool) (b first : Txt) (fs : List Fld) (body : Txt) (size : Nat) : Prop where
  hf : firstB req first = true
  hr : restB fs 0 = true
  hb : body.length ≤ 60000
  hs : 2 ≤ size ∧ size ≤ b.length
  hl : first.length ≤ b.length
theorem one_ok {req : Bool} {b first : Txt} {fs : List Fld} {body : Txt} {size : Nat} (h : oneB req b = .msg first fs body size) : MsgOk req b first fs body size := by
  unfold oneB at h
  split at h
  · cases h
  split at h
  · split at h <;> cases h
  rename_i h0 h1
  rcases atI_cases b with e | ⟨i, e, e1, e2, e3, e4⟩
  · omega
  rw [e, Int.toNat_natCast] at h
  unfold bodyO at h
  split at h
  · cases h
  · rename_i gs n hq
    obtain ⟨q1, q2, q3⟩ := hdOk_un hq
    split at h
    · split at h
      · rename_i f1 f2
        simp only [One.msg.injEq] at h
        obtain ⟨rfl, rfl, rfl, rfl⟩ := h
        refine ⟨f1, q2, by rw [List.length_drop, List.length_take]; omega, ⟨by omega, f2⟩, ?_⟩
        cases hc : cutAt 10 (b.take i) with
        | nil => simp
        | cons x l =>
          have := piece_len 10 (b.take i) x (by rw [hc]; exact List.mem_cons_self)
          rw [List.length_take] at this
          simp only [List.headD_cons]; omega
      · cases h
    · cases h
/-! All messages. -/
abbrev Msg := Txt × List Fld × Txt
def readB (req : Bool) (b : Txt) : List Msg × Nat × Int := match oneB req b with
  | .stop c => ([], 0, c)
  | .msg first fs body size => if h : 0 < size ∧ 0 < b.length then ((first, fs, body) :: (readB req (b.drop size)).1, size + (readB req (b.drop size)).2.1, (readB req (b.drop size)).2.2) else ([], 0, 0)
termination_by b.length
decreasing_by all_goals (rw [List.length_drop]; omega)
theorem read_stop {req : Bool} {b : Txt} {c : Int} (h : oneB req b = .stop c) : readB req b = ([], 0, c) := by rw [readB, h]
theorem read_msg {req : Bool} {b first : Txt} {fs : List Fld} {body : Txt} {size : Nat} (h : oneB req b = .msg first fs body size) :
    readB req b = ((first, fs, body) :: (readB req (b.drop size)).1, size + (readB req (b.drop size)).2.1, (readB req (b.drop size)).2.2) := by
  have ho := one_ok h
  rw [readB, h]
  simp only
  rw [dif_pos ⟨by have := ho.hs; omega, by have := ho.hs; omega⟩]
def preR (acc : List Msg) (at_ : Nat) (r : List Msg × Nat × Int) : List Msg × Nat × Int := (acc ++ r.1, at_ + r.2.1, r.2.2)
theorem preR_nil (r : List Msg × Nat × Int) : preR [] 0 r = r := by simp [preR]
theorem readI_stop {req : Bool} {B : Txt} {acc : List Msg} {at_ : Nat} {c : Int} (hI : readB req B = preR acc at_ (readB req (B.drop at_))) (h : oneB req (B.drop at_) = .stop c) : readB req B = (acc, at_, c) := by
  rw [hI, read_stop h]; simp [preR]
theorem readI_msg {req : Bool} {B first : Txt} {fs : List Fld} {body : Txt} {size : Nat} {acc : List Msg} {at_ : Nat} (hI : readB req B = preR acc at_ (readB req (B.drop at_))) (h : oneB req (B.drop at_) = .msg first fs body size) :
    readB req B = preR (acc ++ [(first, fs, body)]) (at_ + size) (readB req (B.drop (at_ + size))) := by
  rw [hI, read_msg h, List.drop_drop]
  simp [preR, Nat.add_assoc]
def MsgS (req : Bool) (n : Nat) (m : Msg) : Prop := firstB req m.1 = true ∧ restB m.2.1 0 = true ∧ m.2.2.length ≤ 60000 ∧ m.1.length ≤ n
theorem read_all (req : Bool) : ∀ (k : Nat) (b : Txt), b.length ≤ k → (∀ m ∈ (readB req b).1, MsgS req k m) ∧ 2 * (readB req b).1.length ≤ b.length := by
  intro k
  induction k with
  | zero =>
    intro b hb
    cases h : oneB req b with
    | stop c => rw [read_stop h]; simp
    | msg first fs body size => have := (one_ok h).hs; omega
  | succ k ih =>
    intro b hb
    cases h : oneB req b with
    | stop c => rw [read_stop h]; simp
    | msg first fs body size =>
      have ho := one_ok h
      have hs := ho.hs
      obtain ⟨i1, i2⟩ := ih (b.drop size) (by rw [List.length_drop]; omega)
      rw [List.length_drop] at i2
      rw [read_msg h]
      refine ⟨fun m hm => ?_, ?_⟩
      · rcases List.mem_cons.1 hm with rfl | hm
        · exact ⟨ho.hf, ho.hr, ho.hb, Nat.le_trans ho.hl hb⟩
        · obtain ⟨a1, a2, a3, a4⟩ := i1 m hm
          exact ⟨a1, a2, a3, by omega⟩
      · simp only [List.length_cons]; omega
end Go.Proofs.YtdpaehdolhdjdaaDoor

namespace Go.Proofs
open Go.Shelf
def Tryd.lays145_ren : Go.Shelf.Ren := ⟨fun | 145 => 61 | 220 => 119 | 219 => 159 | 217 => 160 | 225 => 123 | 224 => 122 | 267 => 177 | 266 => 178 | 314 => 190 | n => n, fun | 9 => 9 | 4 => 4 | 59 => 102 | 3 => 3 | 5 => 5 | 46 => 171 | 146 => 211 | 51 => 210 | n => n, fun | 1 => 0 | n => n⟩
theorem Tryd.lays145 : Go.Proofs.Lays.n145 Tryd.prog Tryd.lays145_ren := {
  mixed := by kernel_rfl
  f145 := Tryd.func61.trans (congrArg some (by kernel_rfl))
  f217 := Tryd.func160.trans (congrArg some (by kernel_rfl))
  f219 := Tryd.func159.trans (congrArg some (by kernel_rfl))
  f220 := Tryd.func119.trans (congrArg some (by kernel_rfl))
  f224 := Tryd.func122.trans (congrArg some (by kernel_rfl))
  f225 := Tryd.func123.trans (congrArg some (by kernel_rfl))
  f266 := Tryd.func178.trans (congrArg some (by kernel_rfl))
  f267 := Tryd.func177.trans (congrArg some (by kernel_rfl))
  f314 := Tryd.func190.trans (congrArg some (by kernel_rfl))
  t3 := Tryd.underlying3
  a3 := Tryd.isAgg3
  z3 := Tryd.sizeOf3
  v3 := Tryd.zeroValue3
  t4 := Tryd.underlying4
  a4 := Tryd.isAgg4
  z4 := Tryd.sizeOf4
  v4 := Tryd.zeroValue4
  t5 := Tryd.underlying5
  a5 := Tryd.isAgg5
  z5 := Tryd.sizeOf5
  v5 := Tryd.zeroValue5
  t9 := Tryd.underlying9
  a9 := Tryd.isAgg9
  z9 := Tryd.sizeOf9
  v9 := Tryd.zeroValue9
  t46 := Tryd.underlying171
  a46 := Tryd.isAgg171
  z46 := Tryd.sizeOf171
  v46 := Tryd.zeroValue171
  t51 := Tryd.underlying210
  a51 := Tryd.isAgg210
  z51 := Tryd.sizeOf210
  v51 := Tryd.zeroValue210
  t59 := Tryd.underlying102
  a59 := Tryd.isAgg102
  z59 := Tryd.sizeOf102
  v59 := Tryd.zeroValue102
  t146 := Tryd.underlying211
  a146 := Tryd.isAgg211
  z146 := Tryd.sizeOf211
  v146 := Tryd.zeroValue211
  g1 := by kernel_rfl }
open Go.RowKit Go.Lib in
theorem Tryd.strings_Cut (s sep : ByteArray) (m : Int) (w : World) (hs : s.size < 4294967281) (hm : w.cell? ⟨0, 0, none⟩ = some (.int .i64 m)) :
    Calls Tryd.prog 61 #[.string s, .string sep] w fun e w' => e = .returned (.tuple #[.string ⟨(Lib.cut s.data.toList sep.data.toList).1.toArray⟩, .string ⟨(Lib.cut s.data.toList sep.data.toList).2.1.toArray⟩, .bool (Lib.cut s.data.toList sep.data.toList).2.2]) ∧ ∃ n, w' = w.drewN n := Any.strings_Cut Tryd.lays145 s sep m w hs hm
def Tryd.lays185_ren : Go.Shelf.Ren := ⟨fun | 185 => 150 | 187 => 166 | 115 => 167 | 253 => 168 | 224 => 122 | 254 => 169 | 255 => 185 | 291 => 186 | n => n, fun | 37 => 22 | 3 => 3 | 4 => 4 | 0 => 0 | 5 => 5 | 46 => 171 | 9 => 9 | 146 => 211 | 51 => 210 | n => n, fun | 1 => 0 | n => n⟩
theorem Tryd.lays185 : Go.Proofs.Lays.n185 Tryd.prog Tryd.lays185_ren := {
  mixed := by kernel_rfl
  f115 := Tryd.func167.trans (congrArg some (by kernel_rfl))
  f185 := Tryd.func150.trans (congrArg some (by kernel_rfl))
  f187 := Tryd.func166.trans (congrArg some (by kernel_rfl))
  f224 := Tryd.func122.trans (congrArg some (by kernel_rfl))
  f253 := Tryd.func168.trans (congrArg some (by kernel_rfl))
  f254 := Tryd.func169.trans (congrArg some (by kernel_rfl))
  f255 := Tryd.func185.trans (congrArg some (by kernel_rfl))
  f291 := Tryd.func186.trans (congrArg some (by kernel_rfl))
  t0 := Tryd.underlying0
  a0 := Tryd.isAgg0
  z0 := Tryd.sizeOf0
  v0 := Tryd.zeroValue0
  t3 := Tryd.underlying3
  a3 := Tryd.isAgg3
  z3 := Tryd.sizeOf3
  v3 := Tryd.zeroValue3
  t4 := Tryd.underlying4
  a4 := Tryd.isAgg4
  z4 := Tryd.sizeOf4
  v4 := Tryd.zeroValue4
  t5 := Tryd.underlying5
  a5 := Tryd.isAgg5
  z5 := Tryd.sizeOf5
  v5 := Tryd.zeroValue5
  t9 := Tryd.underlying9
  a9 := Tryd.isAgg9
  z9 := Tryd.sizeOf9
  v9 := Tryd.zeroValue9
  t37 := Tryd.underlying22
  a37 := Tryd.isAgg22
  z37 := Tryd.sizeOf22
  v37 := Tryd.zeroValue22
  t46 := Tryd.underlying171
  a46 := Tryd.isAgg171
  z46 := Tryd.sizeOf171
  v46 := Tryd.zeroValue171
  t51 := Tryd.underlying210
  a51 := Tryd.isAgg210
  z51 := Tryd.sizeOf210
  v51 := Tryd.zeroValue210
  t146 := Tryd.underlying211
  a146 := Tryd.isAgg211
  z146 := Tryd.sizeOf211
  v146 := Tryd.zeroValue211
  g1 := by kernel_rfl }
open Go.Proofs Go.RowKit Go.Lib in
theorem Tryd.bytes_Index_at (a1 a2 : Addr) (n c1 k c2 : Nat) (xs ys : List Int) (m : Int) (w : World) (hx : xs.length = n) (hy : ys.length = k) (hr1 : ∀ x ∈ xs, 0 ≤ x ∧ x < 256) (hr2 : ∀ y ∈ ys, 0 ≤ y ∧ y < 256) (hc1 : ∀ i, i < n → w.cell? (a1.add i) = some (.int .u8 (xs.getD i 0))) (hc2 : ∀ i, i < k → w.cell? (a2.add i) = some (.int .u8 (ys.getD i 0))) (hcap : n ≤ c1) (hs : n < 4294967281) (hk : k ≤ 9223372036854775807) (hm : w.cell? ⟨0, 0, none⟩ = some (.int .i64 m)) :
    Calls Tryd.prog 150 #[.slice (some a1) n c1, .slice (some a2) k c2] w fun e w' => e = .returned (.int .i64 (Lib.index (Lib.bytesOf xs) (Lib.bytesOf ys))) ∧ ∃ q, w' = w.drewN q := Any.bytes_Index_at Tryd.lays185 a1 a2 n c1 k c2 xs ys m w hx hy hr1 hr2 hc1 hc2 hcap hs hk hm
open Go.Proofs Go.RowKit Go.Lib in
theorem Tryd.bytes_Index_nil (p2 : Option Addr) (k c2 : Nat) (w : World) (hk : k ≤ 9223372036854775807) (h1 : k = 1 → ∃ b2 o2 cv, p2 = some ⟨b2, o2, none⟩ ∧ w.cell? ⟨b2, o2, none⟩ = some (.int .u8 cv)) :
    Calls Tryd.prog 150 #[.slice none 0 0, .slice p2 k c2] w fun e w' => e = .returned (.int .i64 (if k = 0 then 0 else -1)) ∧ w' = w := Any.bytes_Index_nil Tryd.lays185 p2 k c2 w hk h1
end Go.Proofs

namespace Go.Proofs.YtdpaehdolhdjdaaDoor
open Go Go.IW
/-- loop.example/g00003/impl.readAll[loop.example/g00003/impl.Reply] -/
def c46 : CC :=
 (.seq (.reg [
   ⟨(some 3), none, .x (.box 83 1 (.t 1))⟩,
   ⟨(some 4), none, .f (.mv (.c .nilslice))⟩,
   ⟨(some 5), none, .f (.mv (.c (.int .i64 0)))⟩,
   ⟨(some 6), none, .f (.mv (.c (.int .i64 0)))⟩])
 (.seq (.reg [
   ⟨(some 7), none, .f (.mv (.c .nilslice))⟩])
 (.seq (.reg [
   ⟨(some 8), none, .f (.mv (.c (.int .i64 0)))⟩])
 (.block 0 (.loop (.block 1 (.seq (.reg [
      ⟨(some 15), none, .f (.mv (.t 0))⟩,
      ⟨(some 16), none, .f (.mv (.t 8))⟩,
      ⟨(some 17), none, .f (.slc 1 (.t 15) (some (.t 16)) none none)⟩,
      ⟨(some 18), none, .f (.mkf 111 [] [(.t 3)])⟩,
      ⟨(some 19), none, .x (.call 110 [(.t 17), (.t 18)])⟩,
      ⟨(some 14), none, .f (.mv (.t 19))⟩,
      ⟨(some 20), none, .f (.ext 0 (.t 14))⟩,
      ⟨(some 21), none, .f (.ext 1 (.t 14))⟩,
      ⟨(some 22), none, .f (.ext 2 (.t 14))⟩,
      ⟨(some 9), none, .x (.zero 153 4 [(.str []), .nilslice, .nilslice, (.int .i64 0)])⟩,
      ⟨none, none, .x (.st 4 (.t 9) (.t 20))⟩,
      ⟨(some 10), none, .f (.mv (.t 21))⟩,
      ⟨(some 11), none, .f (.mv (.t 22))⟩])
    (.seq (.seq (.reg [
      ⟨(some 23), none, .f (.mv (.t 10))⟩,
      ⟨(some 24), none, .f (.un .not (.t 23))⟩])
    (.cond (.t 24)
     (.seq (.reg [
       ⟨(some 25), none, .f (.mv (.t 7))⟩,
       ⟨(some 26), none, .f (.mv (.t 8))⟩,
       ⟨(some 27), none, .f (.mv (.t 11))⟩,
       ⟨(some 4), none, .f (.mv (.t 25))⟩,
       ⟨(some 5), none, .f (.mv (.t 26))⟩,
       ⟨(some 6), none, .f (.mv (.t 27))⟩])
     .ret)
     .skip))
    (.seq (.reg [
      ⟨(some 29), none, .f (.ld (.t 3))⟩,
      ⟨(some 30), none, .f (.ldA 4 (.t 9))⟩,
      ⟨(some 31), none, .x (.callv (.t 29) [(.t 30)])⟩,
      ⟨(some 28), none, .f (.mv (.t 31))⟩,
      ⟨(some 32), none, .f (.ext 0 (.t 28))⟩,
      ⟨(some 33), none, .f (.ext 1 (.t 28))⟩,
      ⟨(some 12), none, .x (.zero 81 3 [(.int .i64 0), .nilslice, .nilslice])⟩,
      ⟨none, none, .x (.st 3 (.t 12) (.t 32))⟩,
      ⟨(some 13), none, .f (.mv (.t 33))⟩])
    (.seq (.reg [
      ⟨(some 34), none, .f (.mv (.t 7))⟩,
      ⟨(some 35), none, .f (.ldA 3 (.t 12))⟩,
      ⟨(some 36), none, .x (.bslice 81 3 [(.int .i64 0), .nilslice, .nilslice] 1 [(0, (.t 35))])⟩,
      ⟨(some 37), none, .x (.app 81 3 56 (.t 34) (.t 36))⟩,
      ⟨(some 7), none, .f (.mv (.t 37))⟩])
    (.reg [
      ⟨(some 38), none, .f (.mv (.t 8))⟩,
      ⟨(some 39), none, .f (.fadr 3 (.t 9))⟩,
      ⟨(some 40), none, .f (.ld (.t 39))⟩,
      ⟨(some 41), none, .f (.bin .add (.t 38) (.t 40))⟩,
      ⟨(some 8), none, .f (.mv (.t 41))⟩])))))))))))
theorem ok46 : fnComp Tryd.prog 46 = some (42, c46, [(.mv (.t 4)), (.mv (.t 5)), (.mv (.t 6))]) := by kernel_rfl

/-- loop.example/g00003/impl.readAll[loop.example/g00003/impl.Reply]$1 -/
def c111 : CC :=
 (.seq (.reg [
   ⟨(some 5), none, .f (.mv (.c (.bool false)))⟩])
 (.seq (.reg [
   ⟨(some 9), none, .f (.ld (.t 2))⟩,
   ⟨(some 10), none, .f (.mv (.t 0))⟩,
   ⟨(some 11), none, .f (.mv (.t 1))⟩,
   ⟨(some 12), none, .f (.build [(.str []), .nilslice, .nilslice, (.int .i64 0)] [(0, 1, (.t 10)), (1, 1, (.t 11))])⟩,
   ⟨(some 13), none, .x (.callv (.t 9) [(.t 12)])⟩,
   ⟨(some 8), none, .f (.mv (.t 13))⟩,
   ⟨(some 14), none, .f (.ext 0 (.t 8))⟩,
   ⟨(some 15), none, .f (.ext 1 (.t 8))⟩,
   ⟨(some 6), none, .x (.zero 81 3 [(.int .i64 0), .nilslice, .nilslice])⟩,
   ⟨none, none, .x (.st 3 (.t 6) (.t 14))⟩,
   ⟨(some 7), none, .f (.mv (.t 15))⟩])
 (.seq (.reg [
   ⟨(some 16), none, .f (.mv (.t 7))⟩,
   ⟨(some 5), none, .f (.mv (.t 16))⟩])
 .ret)))
theorem ok111 : fnComp Tryd.prog 111 = some (17, c111, [(.mv (.t 5))]) := by kernel_rfl

/-- strings.CutPrefix -/
def c112 : CC :=
 (.seq (.reg [
   ⟨(some 4), none, .f (.mv (.c (.str [])))⟩,
   ⟨(some 5), none, .f (.mv (.c (.bool false)))⟩])
 (.seq (.reg [
   ⟨(some 6), none, .f (.mv (.t 0))⟩,
   ⟨(some 7), none, .f (.mv (.t 1))⟩,
   ⟨(some 8), none, .x (.call 153 [(.t 6), (.t 7)])⟩,
   ⟨(some 9), none, .f (.ext 0 (.t 8))⟩,
   ⟨(some 10), none, .f (.ext 1 (.t 8))⟩,
   ⟨(some 4), none, .f (.mv (.t 9))⟩,
   ⟨(some 5), none, .f (.mv (.t 10))⟩])
 .ret))
theorem ok112 : fnComp Tryd.prog 112 = some (11, c112, [(.mv (.t 4)), (.mv (.t 5))]) := by kernel_rfl

/-- internal/stringslite.CutPrefix -/
def c153 : CC :=
 (.seq (.reg [
   ⟨(some 4), none, .f (.mv (.c (.str [])))⟩,
   ⟨(some 5), none, .f (.mv (.c (.bool false)))⟩])
 (.seq (.seq (.reg [
   ⟨(some 6), none, .f (.mv (.t 0))⟩,
   ⟨(some 7), none, .f (.mv (.t 1))⟩,
   ⟨(some 8), none, .x (.call 173 [(.t 6), (.t 7)])⟩,
   ⟨(some 9), none, .f (.un .not (.t 8))⟩])
 (.cond (.t 9)
  (.seq (.reg [
    ⟨(some 10), none, .f (.mv (.t 0))⟩,
    ⟨(some 4), none, .f (.mv (.t 10))⟩,
    ⟨(some 5), none, .f (.mv (.c (.bool false)))⟩])
  .ret)
  .skip))
 (.seq (.reg [
   ⟨(some 11), none, .f (.mv (.t 0))⟩,
   ⟨(some 12), none, .f (.mv (.t 1))⟩,
   ⟨(some 13), none, .f (.lenS (.t 12))⟩,
   ⟨(some 14), none, .f (.slcS (.t 11) (some (.t 13)) none)⟩,
   ⟨(some 4), none, .f (.mv (.t 14))⟩,
   ⟨(some 5), none, .f (.mv (.c (.bool true)))⟩])
 .ret)))
theorem ok153 : fnComp Tryd.prog 153 = some (15, c153, [(.mv (.t 4)), (.mv (.t 5))]) := by kernel_rfl

end Go.Proofs.YtdpaehdolhdjdaaDoor

namespace Go.Proofs.YtdpaehdolhdjdaaDoor
open Go Go.IW
/-- loop.example/g00003/laws.FnExactReadReplies -/
def c3 : CC :=
 (.seq (.reg [
   ⟨(some 2), none, .f (.mv (.c (.bool false)))⟩])
 (.seq (.seq (.reg [
   ⟨(some 16), none, .f (.mv (.t 0))⟩,
   ⟨(some 17), none, .f (.len (.t 16))⟩,
   ⟨(some 18), none, .f (.bin .gtr (.t 17) (.c (.int .i64 1048576)))⟩])
 (.cond (.t 18)
  (.seq (.reg [
    ⟨(some 2), none, .f (.mv (.c (.bool true)))⟩])
  .ret)
  .skip))
 (.seq (.reg [
   ⟨(some 20), none, .f (.mv (.t 0))⟩,
   ⟨(some 21), none, .x (.call 9 [(.t 20)])⟩,
   ⟨(some 22), none, .x (.call 8 [(.t 21)])⟩,
   ⟨(some 19), none, .f (.mv (.t 22))⟩,
   ⟨(some 23), none, .f (.ext 0 (.t 19))⟩,
   ⟨(some 24), none, .f (.ext 1 (.t 19))⟩,
   ⟨(some 25), none, .f (.ext 2 (.t 19))⟩,
   ⟨(some 3), none, .f (.mv (.t 23))⟩,
   ⟨(some 4), none, .f (.mv (.t 24))⟩,
   ⟨(some 5), none, .f (.mv (.t 25))⟩])
 (.seq (.reg [
   ⟨(some 26), none, .f (.mv (.t 0))⟩,
   ⟨(some 27), none, .x (.call 9 [(.t 26)])⟩,
   ⟨(some 6), none, .f (.mv (.t 27))⟩])
 (.seq (.reg [
   ⟨(some 29), none, .f (.mv (.t 6))⟩,
   ⟨(some 30), none, .x (.call 10 [(.t 29)])⟩,
   ⟨(some 28), none, .f (.mv (.t 30))⟩,
   ⟨(some 31), none, .f (.ext 0 (.t 28))⟩,
   ⟨(some 32), none, .f (.ext 1 (.t 28))⟩,
   ⟨(some 33), none, .f (.ext 2 (.t 28))⟩,
   ⟨(some 7), none, .f (.mv (.t 31))⟩,
   ⟨(some 8), none, .f (.mv (.t 32))⟩,
   ⟨(some 9), none, .f (.mv (.t 33))⟩])
 (.seq (.seq (.reg [
   ⟨(some 34), none, .f (.mv (.t 7))⟩,
   ⟨(some 35), none, .f (.mv (.t 3))⟩,
   ⟨(some 36), none, .x (.call 11 [(.t 34), (.t 35)])⟩,
   ⟨(some 37), none, .f (.un .not (.t 36))⟩,
   ⟨(some 38), none, .f (.mv (.t 37))⟩,
   ⟨(some 39), (some (38, false)), .f (.mv (.t 8))⟩,
   ⟨(some 40), (some (38, false)), .f (.mv (.t 4))⟩,
   ⟨(some 41), (some (38, false)), .f (.bin .neq (.t 39) (.t 40))⟩,
   ⟨(some 42), none, .f (.pick (.t 38) (.c (.bool true)) (.t 41))⟩,
   ⟨(some 43), none, .f (.mv (.t 42))⟩,
   ⟨(some 44), (some (43, false)), .f (.mv (.t 9))⟩,
   ⟨(some 45), (some (43, false)), .f (.mv (.t 5))⟩,
   ⟨(some 46), (some (43, false)), .f (.bin .neq (.t 44) (.t 45))⟩,
   ⟨(some 47), none, .f (.pick (.t 43) (.c (.bool true)) (.t 46))⟩])
 (.cond (.t 47)
  (.seq (.reg [
    ⟨(some 2), none, .f (.mv (.c (.bool false)))⟩])
  .ret)
  .skip))
 (.seq (.seq (.reg [
   ⟨(some 48), none, .f (.mv (.t 6))⟩,
   ⟨(some 49), none, .f (.mv (.t 0))⟩,
   ⟨(some 50), none, .x (.call 9 [(.t 49)])⟩,
   ⟨(some 51), none, .x (.call 12 [(.t 48), (.t 50)])⟩,
   ⟨(some 52), none, .f (.un .not (.t 51))⟩])
 (.cond (.t 52)
  (.seq (.reg [
    ⟨(some 2), none, .f (.mv (.c (.bool false)))⟩])
  .ret)
  .skip))
 (.seq (.reg [
   ⟨(some 10), none, .f (.mv (.c (.int .i64 1)))⟩])
 (.seq (.reg [
   ⟨(some 53), none, .f (.mv (.t 6))⟩,
   ⟨(some 54), none, .f (.mv (.t 10))⟩,
   ⟨(some 55), none, .x (.call 13 [(.t 53), (.t 54)])⟩,
   ⟨(some 10), none, .f (.mv (.t 55))⟩])
 (.seq (.seq (.reg [
   ⟨(some 56), none, .f (.mv (.t 10))⟩,
   ⟨(some 57), none, .f (.bin .lss (.t 56) (.c (.int .i64 0)))⟩,
   ⟨(some 58), none, .f (.mv (.t 57))⟩,
   ⟨(some 59), (some (58, false)), .f (.mv (.t 7))⟩,
   ⟨(some 60), (some (58, false)), .f (.mv (.t 3))⟩,
   ⟨(some 61), (some (58, false)), .x (.call 11 [(.t 59), (.t 60)])⟩,
   ⟨(some 62), (some (58, false)), .f (.un .not (.t 61))⟩,
   ⟨(some 63), none, .f (.pick (.t 58) (.c (.bool true)) (.t 62))⟩,
   ⟨(some 64), none, .f (.mv (.t 63))⟩,
   ⟨(some 65), (some (64, false)), .f (.mv (.t 8))⟩,
   ⟨(some 66), (some (64, false)), .f (.mv (.t 4))⟩,
   ⟨(some 67), (some (64, false)), .f (.bin .neq (.t 65) (.t 66))⟩,
   ⟨(some 68), none, .f (.pick (.t 64) (.c (.bool true)) (.t 67))⟩,
   ⟨(some 69), none, .f (.mv (.t 68))⟩,
   ⟨(some 70), (some (69, false)), .f (.mv (.t 9))⟩,
   ⟨(some 71), (some (69, false)), .f (.mv (.t 5))⟩,
   ⟨(some 72), (some (69, false)), .f (.bin .neq (.t 70) (.t 71))⟩,
   ⟨(some 73), none, .f (.pick (.t 69) (.c (.bool true)) (.t 72))⟩])
 (.cond (.t 73)
  (.seq (.reg [
    ⟨(some 2), none, .f (.mv (.c (.bool false)))⟩])
  .ret)
  .skip))
 (.seq (.reg [
   ⟨(some 11), none, .f (.mv (.c (.int .i64 1)))⟩])
 (.seq (.reg [
   ⟨(some 74), none, .f (.mv (.t 7))⟩,
   ⟨(some 75), none, .f (.mv (.t 11))⟩,
   ⟨(some 76), none, .x (.call 14 [(.t 74), (.t 75)])⟩,
   ⟨(some 11), none, .f (.mv (.t 76))⟩])
 (.seq (.reg [
   ⟨(some 12), none, .f (.mv (.c (.int .i64 1)))⟩])
 (.seq (.reg [
   ⟨(some 77), none, .f (.mv (.t 7))⟩,
   ⟨(some 78), none, .f (.mv (.t 12))⟩,
   ⟨(some 79), none, .x (.call 15 [(.t 77), (.t 78)])⟩,
   ⟨(some 12), none, .f (.mv (.t 79))⟩])
 (.seq (.seq (.reg [
   ⟨(some 80), none, .f (.mv (.t 12))⟩,
   ⟨(some 81), none, .f (.bin .lss (.t 80) (.c (.int .i64 0)))⟩])
 (.cond (.t 81)
  (.seq (.reg [
    ⟨(some 2), none, .f (.mv (.c (.bool false)))⟩])
  .ret)
  .skip))
 (.seq (.seq (.reg [
   ⟨(some 82), none, .f (.mv (.t 12))⟩,
   ⟨(some 83), none, .f (.mv (.t 11))⟩,
   ⟨(some 84), none, .f (.bin .neq (.t 82) (.t 83))⟩])
 (.cond (.t 84)
  (.seq (.reg [
    ⟨(some 2), none, .f (.mv (.c (.bool false)))⟩])
  .ret)
  .skip))
 (.seq (.reg [
   ⟨(some 86), none, .f (.mv (.t 0))⟩,
   ⟨(some 87), none, .x (.call 9 [(.t 86)])⟩,
   ⟨(some 88), none, .x (.call 10 [(.t 87)])⟩,
   ⟨(some 85), none, .f (.mv (.t 88))⟩,
   ⟨(some 89), none, .f (.ext 0 (.t 85))⟩,
   ⟨(some 90), none, .f (.ext 1 (.t 85))⟩,
   ⟨(some 91), none, .f (.ext 2 (.t 85))⟩,
   ⟨(some 13), none, .f (.mv (.t 89))⟩,
   ⟨(some 14), none, .f (.mv (.t 90))⟩,
   ⟨(some 15), none, .f (.mv (.t 91))⟩])
 (.seq (.seq (.reg [
   ⟨(some 92), none, .f (.mv (.t 13))⟩,
   ⟨(some 93), none, .f (.mv (.t 3))⟩,
   ⟨(some 94), none, .x (.call 11 [(.t 92), (.t 93)])⟩,
   ⟨(some 95), none, .f (.un .not (.t 94))⟩,
   ⟨(some 96), none, .f (.mv (.t 95))⟩,
   ⟨(some 97), (some (96, false)), .f (.mv (.t 14))⟩,
   ⟨(some 98), (some (96, false)), .f (.mv (.t 4))⟩,
   ⟨(some 99), (some (96, false)), .f (.bin .neq (.t 97) (.t 98))⟩,
   ⟨(some 100), none, .f (.pick (.t 96) (.c (.bool true)) (.t 99))⟩,
   ⟨(some 101), none, .f (.mv (.t 100))⟩,
   ⟨(some 102), (some (101, false)), .f (.mv (.t 15))⟩,
   ⟨(some 103), (some (101, false)), .f (.mv (.t 5))⟩,
   ⟨(some 104), (some (101, false)), .f (.bin .neq (.t 102) (.t 103))⟩,
   ⟨(some 105), none, .f (.pick (.t 101) (.c (.bool true)) (.t 104))⟩])
 (.cond (.t 105)
  (.seq (.reg [
    ⟨(some 2), none, .f (.mv (.c (.bool false)))⟩])
  .ret)
  .skip))
 (.seq (.reg [
   ⟨(some 12), none, .f (.mv (.c (.int .i64 1)))⟩])
 (.seq (.reg [
   ⟨(some 106), none, .f (.mv (.t 7))⟩,
   ⟨(some 107), none, .f (.mv (.t 12))⟩,
   ⟨(some 108), none, .x (.call 15 [(.t 106), (.t 107)])⟩,
   ⟨(some 12), none, .f (.mv (.t 108))⟩])
 (.seq (.seq (.reg [
   ⟨(some 109), none, .f (.mv (.t 12))⟩,
   ⟨(some 110), none, .f (.bin .lss (.t 109) (.c (.int .i64 0)))⟩])
 (.cond (.t 110)
  (.seq (.reg [
    ⟨(some 2), none, .f (.mv (.c (.bool false)))⟩])
  .ret)
  .skip))
 (.seq (.seq (.reg [
   ⟨(some 111), none, .f (.mv (.t 12))⟩,
   ⟨(some 112), none, .f (.mv (.t 11))⟩,
   ⟨(some 113), none, .f (.bin .neq (.t 111) (.t 112))⟩])
 (.cond (.t 113)
  (.seq (.reg [
    ⟨(some 2), none, .f (.mv (.c (.bool false)))⟩])
  .ret)
  .skip))
 (.seq (.reg [
   ⟨(some 2), none, .f (.mv (.c (.bool true)))⟩])
 .ret)))))))))))))))))))))))
theorem ok3 : fnComp Tryd.prog 3 = some (114, c3, [(.mv (.t 2))]) := by kernel_rfl

/-- loop.example/g00003/laws.FnExactReadRequests -/
def c4 : CC :=
 (.seq (.reg [
   ⟨(some 2), none, .f (.mv (.c (.bool false)))⟩])
 (.seq (.seq (.reg [
   ⟨(some 16), none, .f (.mv (.t 0))⟩,
   ⟨(some 17), none, .f (.len (.t 16))⟩,
   ⟨(some 18), none, .f (.bin .gtr (.t 17) (.c (.int .i64 1048576)))⟩])
 (.cond (.t 18)
  (.seq (.reg [
    ⟨(some 2), none, .f (.mv (.c (.bool true)))⟩])
  .ret)
  .skip))
 (.seq (.reg [
   ⟨(some 20), none, .f (.mv (.t 0))⟩,
   ⟨(some 21), none, .x (.call 9 [(.t 20)])⟩,
   ⟨(some 22), none, .x (.call 16 [(.t 21)])⟩,
   ⟨(some 19), none, .f (.mv (.t 22))⟩,
   ⟨(some 23), none, .f (.ext 0 (.t 19))⟩,
   ⟨(some 24), none, .f (.ext 1 (.t 19))⟩,
   ⟨(some 25), none, .f (.ext 2 (.t 19))⟩,
   ⟨(some 3), none, .f (.mv (.t 23))⟩,
   ⟨(some 4), none, .f (.mv (.t 24))⟩,
   ⟨(some 5), none, .f (.mv (.t 25))⟩])
 (.seq (.reg [
   ⟨(some 26), none, .f (.mv (.t 0))⟩,
   ⟨(some 27), none, .x (.call 9 [(.t 26)])⟩,
   ⟨(some 6), none, .f (.mv (.t 27))⟩])
 (.seq (.reg [
   ⟨(some 29), none, .f (.mv (.t 6))⟩,
   ⟨(some 30), none, .x (.call 17 [(.t 29)])⟩,
   ⟨(some 28), none, .f (.mv (.t 30))⟩,
   ⟨(some 31), none, .f (.ext 0 (.t 28))⟩,
   ⟨(some 32), none, .f (.ext 1 (.t 28))⟩,
   ⟨(some 33), none, .f (.ext 2 (.t 28))⟩,
   ⟨(some 7), none, .f (.mv (.t 31))⟩,
   ⟨(some 8), none, .f (.mv (.t 32))⟩,
   ⟨(some 9), none, .f (.mv (.t 33))⟩])
 (.seq (.seq (.reg [
   ⟨(some 34), none, .f (.mv (.t 7))⟩,
   ⟨(some 35), none, .f (.mv (.t 3))⟩,
   ⟨(some 36), none, .x (.call 18 [(.t 34), (.t 35)])⟩,
   ⟨(some 37), none, .f (.un .not (.t 36))⟩,
   ⟨(some 38), none, .f (.mv (.t 37))⟩,
   ⟨(some 39), (some (38, false)), .f (.mv (.t 8))⟩,
   ⟨(some 40), (some (38, false)), .f (.mv (.t 4))⟩,
   ⟨(some 41), (some (38, false)), .f (.bin .neq (.t 39) (.t 40))⟩,
   ⟨(some 42), none, .f (.pick (.t 38) (.c (.bool true)) (.t 41))⟩,
   ⟨(some 43), none, .f (.mv (.t 42))⟩,
   ⟨(some 44), (some (43, false)), .f (.mv (.t 9))⟩,
   ⟨(some 45), (some (43, false)), .f (.mv (.t 5))⟩,
   ⟨(some 46), (some (43, false)), .f (.bin .neq (.t 44) (.t 45))⟩,
   ⟨(some 47), none, .f (.pick (.t 43) (.c (.bool true)) (.t 46))⟩])
 (.cond (.t 47)
  (.seq (.reg [
    ⟨(some 2), none, .f (.mv (.c (.bool false)))⟩])
  .ret)
  .skip))
 (.seq (.seq (.reg [
   ⟨(some 48), none, .f (.mv (.t 6))⟩,
   ⟨(some 49), none, .f (.mv (.t 0))⟩,
   ⟨(some 50), none, .x (.call 9 [(.t 49)])⟩,
   ⟨(some 51), none, .x (.call 12 [(.t 48), (.t 50)])⟩,
   ⟨(some 52), none, .f (.un .not (.t 51))⟩])
 (.cond (.t 52)
  (.seq (.reg [
    ⟨(some 2), none, .f (.mv (.c (.bool false)))⟩])
  .ret)
  .skip))
 (.seq (.reg [
   ⟨(some 10), none, .f (.mv (.c (.int .i64 1)))⟩])
 (.seq (.reg [
   ⟨(some 53), none, .f (.mv (.t 6))⟩,
   ⟨(some 54), none, .f (.mv (.t 10))⟩,
   ⟨(some 55), none, .x (.call 13 [(.t 53), (.t 54)])⟩,
   ⟨(some 10), none, .f (.mv (.t 55))⟩])
 (.seq (.seq (.reg [
   ⟨(some 56), none, .f (.mv (.t 10))⟩,
   ⟨(some 57), none, .f (.bin .lss (.t 56) (.c (.int .i64 0)))⟩,
   ⟨(some 58), none, .f (.mv (.t 57))⟩,
   ⟨(some 59), (some (58, false)), .f (.mv (.t 7))⟩,
   ⟨(some 60), (some (58, false)), .f (.mv (.t 3))⟩,
   ⟨(some 61), (some (58, false)), .x (.call 18 [(.t 59), (.t 60)])⟩,
   ⟨(some 62), (some (58, false)), .f (.un .not (.t 61))⟩,
   ⟨(some 63), none, .f (.pick (.t 58) (.c (.bool true)) (.t 62))⟩,
   ⟨(some 64), none, .f (.mv (.t 63))⟩,
   ⟨(some 65), (some (64, false)), .f (.mv (.t 8))⟩,
   ⟨(some 66), (some (64, false)), .f (.mv (.t 4))⟩,
   ⟨(some 67), (some (64, false)), .f (.bin .neq (.t 65) (.t 66))⟩,
   ⟨(some 68), none, .f (.pick (.t 64) (.c (.bool true)) (.t 67))⟩,
   ⟨(some 69), none, .f (.mv (.t 68))⟩,
   ⟨(some 70), (some (69, false)), .f (.mv (.t 9))⟩,
   ⟨(some 71), (some (69, false)), .f (.mv (.t 5))⟩,
   ⟨(some 72), (some (69, false)), .f (.bin .neq (.t 70) (.t 71))⟩,
   ⟨(some 73), none, .f (.pick (.t 69) (.c (.bool true)) (.t 72))⟩])
 (.cond (.t 73)
  (.seq (.reg [
    ⟨(some 2), none, .f (.mv (.c (.bool false)))⟩])
  .ret)
  .skip))
 (.seq (.reg [
   ⟨(some 11), none, .f (.mv (.c (.int .i64 1)))⟩])
 (.seq (.reg [
   ⟨(some 74), none, .f (.mv (.t 7))⟩,
   ⟨(some 75), none, .f (.mv (.t 11))⟩,
   ⟨(some 76), none, .x (.call 19 [(.t 74), (.t 75)])⟩,
   ⟨(some 11), none, .f (.mv (.t 76))⟩])
 (.seq (.reg [
   ⟨(some 12), none, .f (.mv (.c (.int .i64 1)))⟩])
 (.seq (.reg [
   ⟨(some 77), none, .f (.mv (.t 7))⟩,
   ⟨(some 78), none, .f (.mv (.t 12))⟩,
   ⟨(some 79), none, .x (.call 20 [(.t 77), (.t 78)])⟩,
   ⟨(some 12), none, .f (.mv (.t 79))⟩])
 (.seq (.seq (.reg [
   ⟨(some 80), none, .f (.mv (.t 12))⟩,
   ⟨(some 81), none, .f (.bin .lss (.t 80) (.c (.int .i64 0)))⟩])
 (.cond (.t 81)
  (.seq (.reg [
    ⟨(some 2), none, .f (.mv (.c (.bool false)))⟩])
  .ret)
  .skip))
 (.seq (.seq (.reg [
   ⟨(some 82), none, .f (.mv (.t 12))⟩,
   ⟨(some 83), none, .f (.mv (.t 11))⟩,
   ⟨(some 84), none, .f (.bin .neq (.t 82) (.t 83))⟩])
 (.cond (.t 84)
  (.seq (.reg [
    ⟨(some 2), none, .f (.mv (.c (.bool false)))⟩])
  .ret)
  .skip))
 (.seq (.reg [
   ⟨(some 86), none, .f (.mv (.t 0))⟩,
   ⟨(some 87), none, .x (.call 9 [(.t 86)])⟩,
   ⟨(some 88), none, .x (.call 17 [(.t 87)])⟩,
   ⟨(some 85), none, .f (.mv (.t 88))⟩,
   ⟨(some 89), none, .f (.ext 0 (.t 85))⟩,
   ⟨(some 90), none, .f (.ext 1 (.t 85))⟩,
   ⟨(some 91), none, .f (.ext 2 (.t 85))⟩,
   ⟨(some 13), none, .f (.mv (.t 89))⟩,
   ⟨(some 14), none, .f (.mv (.t 90))⟩,
   ⟨(some 15), none, .f (.mv (.t 91))⟩])
 (.seq (.seq (.reg [
   ⟨(some 92), none, .f (.mv (.t 13))⟩,
   ⟨(some 93), none, .f (.mv (.t 3))⟩,
   ⟨(some 94), none, .x (.call 18 [(.t 92), (.t 93)])⟩,
   ⟨(some 95), none, .f (.un .not (.t 94))⟩,
   ⟨(some 96), none, .f (.mv (.t 95))⟩,
   ⟨(some 97), (some (96, false)), .f (.mv (.t 14))⟩,
   ⟨(some 98), (some (96, false)), .f (.mv (.t 4))⟩,
   ⟨(some 99), (some (96, false)), .f (.bin .neq (.t 97) (.t 98))⟩,
   ⟨(some 100), none, .f (.pick (.t 96) (.c (.bool true)) (.t 99))⟩,
   ⟨(some 101), none, .f (.mv (.t 100))⟩,
   ⟨(some 102), (some (101, false)), .f (.mv (.t 15))⟩,
   ⟨(some 103), (some (101, false)), .f (.mv (.t 5))⟩,
   ⟨(some 104), (some (101, false)), .f (.bin .neq (.t 102) (.t 103))⟩,
   ⟨(some 105), none, .f (.pick (.t 101) (.c (.bool true)) (.t 104))⟩])
 (.cond (.t 105)
  (.seq (.reg [
    ⟨(some 2), none, .f (.mv (.c (.bool false)))⟩])
  .ret)
  .skip))
 (.seq (.reg [
   ⟨(some 12), none, .f (.mv (.c (.int .i64 1)))⟩])
 (.seq (.reg [
   ⟨(some 106), none, .f (.mv (.t 7))⟩,
   ⟨(some 107), none, .f (.mv (.t 12))⟩,
   ⟨(some 108), none, .x (.call 20 [(.t 106), (.t 107)])⟩,
   ⟨(some 12), none, .f (.mv (.t 108))⟩])
 (.seq (.seq (.reg [
   ⟨(some 109), none, .f (.mv (.t 12))⟩,
   ⟨(some 110), none, .f (.bin .lss (.t 109) (.c (.int .i64 0)))⟩])
 (.cond (.t 110)
  (.seq (.reg [
    ⟨(some 2), none, .f (.mv (.c (.bool false)))⟩])
  .ret)
  .skip))
 (.seq (.seq (.reg [
   ⟨(some 111), none, .f (.mv (.t 12))⟩,
   ⟨(some 112), none, .f (.mv (.t 11))⟩,
   ⟨(some 113), none, .f (.bin .neq (.t 111) (.t 112))⟩])
 (.cond (.t 113)
  (.seq (.reg [
    ⟨(some 2), none, .f (.mv (.c (.bool false)))⟩])
  .ret)
  .skip))
 (.seq (.reg [
   ⟨(some 2), none, .f (.mv (.c (.bool true)))⟩])
 .ret)))))))))))))))))))))))
/-- internal/stringslite.HasPrefix -/
def c173 : CC :=
 (.seq (.reg [
   ⟨(some 4), none, .f (.mv (.c (.bool false)))⟩])
 (.seq (.reg [
   ⟨(some 5), none, .f (.mv (.t 0))⟩,
   ⟨(some 6), none, .f (.lenS (.t 5))⟩,
   ⟨(some 7), none, .f (.mv (.t 1))⟩,
   ⟨(some 8), none, .f (.lenS (.t 7))⟩,
   ⟨(some 9), none, .f (.bin .geq (.t 6) (.t 8))⟩,
   ⟨(some 10), none, .f (.mv (.t 9))⟩,
   ⟨(some 11), (some (10, true)), .f (.mv (.t 0))⟩,
   ⟨(some 12), (some (10, true)), .f (.mv (.t 1))⟩,
   ⟨(some 13), (some (10, true)), .f (.lenS (.t 12))⟩,
   ⟨(some 14), (some (10, true)), .f (.slcS (.t 11) none (some (.t 13)))⟩,
   ⟨(some 15), (some (10, true)), .f (.mv (.t 1))⟩,
   ⟨(some 16), (some (10, true)), .f (.bin .eql (.t 14) (.t 15))⟩,
   ⟨(some 17), none, .f (.pick (.t 10) (.t 16) (.c (.bool false)))⟩,
   ⟨(some 4), none, .f (.mv (.t 17))⟩])
 .ret))
theorem ok173 : fnComp Tryd.prog 173 = some (18, c173, [(.mv (.t 4))]) := by kernel_rfl

end Go.Proofs.YtdpaehdolhdjdaaDoor

set_option maxRecDepth 20000
namespace Go.Proofs.YtdpaehdolhdjdaaDoor
open Go Go.IW
section
attribute [local go_sem] List.getElem?_cons_zero List.getElem?_cons_succ Option.bind_some List.map_cons List.map_nil Nat.zero_add if_true List.getD_cons_zero List.getD_cons_succ List.contains_cons List.contains_nil Bool.or_true Bool.true_or Bool.or_false Bool.false_or Bool.not_true Bool.not_false true_and and_true rowA_whole mid_get stO_mid rowO_rows cellO_rows push_n set_n push_at push_old set_here set_there set_pushT set_pushN set_set upd_ne Nat.add_assoc Nat.add_zero stO_1s stO_ws boxA_s List.all_cons List.all_nil one_bool one_int one_str one_ptr one_nilptr one_slice one_eslice one_nilslice one_func one_iface one_niliface Bool.and_true Bool.and_self List.length_cons List.length_nil Nat.one_ne_zero Nat.succ_ne_zero if_false List.set_cons_zero List.set_cons_succ lay_nil lay_1 lay_w Option.map_some

/-! The library's part. -/
theorem gMax : Tryd.prog.globalNamed "internal/bytealg.MaxLen" = some 0 := by kernel_rfl
theorem cut_c (h : IH) (s sep : Txt) (hs : s.length ≤ 1048576) (hm : mxOn = true) : ICalls Tryd.prog 61 [.str s, .str sep] h fun r h' => r = .tuple [.str (Lib.cut s sep).1, .str (Lib.cut s sep).2.1, .bool (Lib.cut s sep).2.2] ∧ h' = h :=
  cut_calls (Go.Proofs.enters_of Tryd.func61 (by kernel_rfl) rfl) (fun s sep m w h1 h2 => Go.Proofs.Tryd.strings_Cut s sep m w h1 h2) gMax hm (by omega)
theorem bIndex_c (h : IH) (v w : IV) (a b : Txt) (ha : SlR h 1 v (strRows a)) (hb : SlR h 1 w (strRows b)) (hl : a.length ≤ 1048576) (hb2 : 2 ≤ b.length) (hb3 : b.length ≤ 1000) (hm : mxOn = true) : ICalls Tryd.prog 150 [v, w] h fun r h' => r = .int .i64 (Lib.index a b) ∧ h' = h :=
  bindex_calls (Go.Proofs.enters_of Tryd.func150 (by kernel_rfl) rfl) (fun a1 a2 n c1 k c2 xs ys m w x1 x2 x3 x4 x5 x6 x7 x8 x9 x10 => Go.Proofs.Tryd.bytes_Index_at a1 a2 n c1 k c2 xs ys m w x1 x2 x3 x4 x5 x6 x7 x8 x9 x10)
    (fun p2 k c2 w x1 x2 => Go.Proofs.Tryd.bytes_Index_nil p2 k c2 w x1 x2) gMax hm ha hb (by omega) hb2 hb3
theorem hasPrefix_c (h : IH) (s p : Txt) (hp : p.length ≤ 100) : ICalls Tryd.prog 173 [.str s, .str p] h fun r h' => r = .bool (p.isPrefixOf s) ∧ h' = h := by
  refine icalls (.of ok173) (Nat.le_of_ble_eq_true rfl) ?_
  unfold c173
  by_cases hl : p.length ≤ s.length
  · have d1 : decide ((p.length : Int) ≤ (s.length : Int)) = true := decide_eq_true (by omega)
    have hx := slcS_hi (q := .i64) hl
    simp (disch := (first | omega | assumption | (simp only [push_n, set_n, put_n, List.length_cons, List.length_nil, List.length_append, Nat.reduceAdd]; done) | (simp only [push_n, set_n, put_n, List.length_cons, List.length_nil, List.length_append]; omega) | (simp only [List.all_cons, List.all_nil, one_bool, one_int, one_str, one_ptr, one_nilptr, one_slice, one_eslice, one_nilslice, one_func, one_iface, one_niliface, Bool.and_true, Bool.true_and, List.getD_cons_zero, List.getD_cons_succ, List.contains_cons, List.contains_nil, Bool.or_true, Bool.true_or, Bool.or_false, Bool.false_or, Nat.reduceBEq, *]; done) | fail)) only [d1, Option.map_none, hx, go_sem, Hold.p, HoldK.k, HoldL.K, HoldL.body, Nat.reduceBEq, Nat.reduceAdd, reduceIte]
    congr 1
    rw [Bool.eq_iff_iff, decide_eq_true_eq, List.isPrefixOf_iff_prefix, List.prefix_iff_eq_take]
    exact eq_comm
  · have d1 : decide ((p.length : Int) ≤ (s.length : Int)) = false := decide_eq_false (by omega)
    simp (disch := (first | omega | assumption | (simp only [push_n, set_n, put_n, List.length_cons, List.length_nil, List.length_append, Nat.reduceAdd]; done) | (simp only [push_n, set_n, put_n, List.length_cons, List.length_nil, List.length_append]; omega) | (simp only [List.all_cons, List.all_nil, one_bool, one_int, one_str, one_ptr, one_nilptr, one_slice, one_eslice, one_nilslice, one_func, one_iface, one_niliface, Bool.and_true, Bool.true_and, List.getD_cons_zero, List.getD_cons_succ, List.contains_cons, List.contains_nil, Bool.or_true, Bool.true_or, Bool.or_false, Bool.false_or, Nat.reduceBEq, *]; done) | fail)) only [d1, go_sem, Hold.p, HoldK.k, HoldL.K, HoldL.body, Nat.reduceBEq, Nat.reduceAdd, reduceIte]
    congr 1
    rw [eq_comm, Bool.eq_false_iff]
    intro e
    exact hl (List.isPrefixOf_iff_prefix.1 e).length_le
theorem cutPrefix2_c (h : IH) (s p : Txt) (hp : p.length ≤ 100) : ICalls Tryd.prog 153 [.str s, .str p] h fun r h' => r = .tuple [.str (if p.isPrefixOf s = true then s.drop p.length else s), .bool (p.isPrefixOf s)] ∧ h' = h := by
  refine icalls (.of ok153) (Nat.le_of_ble_eq_true rfl) ?_
  unfold c153
  simp (disch := (first | omega | assumption | (simp only [push_n, set_n, put_n, List.length_cons, List.length_nil, List.length_append, Nat.reduceAdd]; done) | (simp only [push_n, set_n, put_n, List.length_cons, List.length_nil, List.length_append]; omega) | (simp only [List.all_cons, List.all_nil, one_bool, one_int, one_str, one_ptr, one_nilptr, one_slice, one_eslice, one_nilslice, one_func, one_iface, one_niliface, Bool.and_true, Bool.true_and, List.getD_cons_zero, List.getD_cons_succ, List.contains_cons, List.contains_nil, Bool.or_true, Bool.true_or, Bool.or_false, Bool.false_or, Nat.reduceBEq, *]; done) | fail)) only [go_sem, Hold.p, HoldK.k, HoldL.K, HoldL.body, Nat.reduceBEq, Nat.reduceAdd, reduceIte]
  refine callA_of (hasPrefix_c h s p hp) ?_
  rintro r h' ⟨rfl, rfl⟩
  simp (disch := (first | omega | assumption | (simp only [push_n, set_n, put_n, List.length_cons, List.length_nil, List.length_append, Nat.reduceAdd]; done) | (simp only [push_n, set_n, put_n, List.length_cons, List.length_nil, List.length_append]; omega) | (simp only [List.all_cons, List.all_nil, one_bool, one_int, one_str, one_ptr, one_nilptr, one_slice, one_eslice, one_nilslice, one_func, one_iface, one_niliface, Bool.and_true, Bool.true_and, List.getD_cons_zero, List.getD_cons_succ, List.contains_cons, List.contains_nil, Bool.or_true, Bool.true_or, Bool.or_false, Bool.false_or, Nat.reduceBEq, *]; done) | fail)) only [go_sem, Hold.p, HoldK.k, HoldL.K, HoldL.body, Nat.reduceBEq, Nat.reduceAdd, reduceIte]
  refine test_of (fun hc => ?_) (fun hc => ?_)
  · have hc' : p.isPrefixOf s = false := by rwa [Bool.not_eq_true'] at hc
    simp (disch := (first | omega | assumption | (simp only [push_n, set_n, put_n, List.length_cons, List.length_nil, List.length_append, Nat.reduceAdd]; done) | (simp only [push_n, set_n, put_n, List.length_cons, List.length_nil, List.length_append]; omega) | (simp only [List.all_cons, List.all_nil, one_bool, one_int, one_str, one_ptr, one_nilptr, one_slice, one_eslice, one_nilslice, one_func, one_iface, one_niliface, Bool.and_true, Bool.true_and, List.getD_cons_zero, List.getD_cons_succ, List.contains_cons, List.contains_nil, Bool.or_true, Bool.true_or, Bool.or_false, Bool.false_or, Nat.reduceBEq, *]; done) | fail)) only [go_sem, Hold.p, HoldK.k, HoldL.K, HoldL.body, Nat.reduceBEq, Nat.reduceAdd, reduceIte]
    rw [hc']; simp
  · have hc' : p.isPrefixOf s = true := by rwa [Bool.not_eq_false'] at hc
    have hl := (List.isPrefixOf_iff_prefix.1 hc').length_le
    have hx := slcS_lo (q := .i64) hl
    simp (disch := (first | omega | assumption | (simp only [push_n, set_n, put_n, List.length_cons, List.length_nil, List.length_append, Nat.reduceAdd]; done) | (simp only [push_n, set_n, put_n, List.length_cons, List.length_nil, List.length_append]; omega) | (simp only [List.all_cons, List.all_nil, one_bool, one_int, one_str, one_ptr, one_nilptr, one_slice, one_eslice, one_nilslice, one_func, one_iface, one_niliface, Bool.and_true, Bool.true_and, List.getD_cons_zero, List.getD_cons_succ, List.contains_cons, List.contains_nil, Bool.or_true, Bool.true_or, Bool.or_false, Bool.false_or, Nat.reduceBEq, *]; done) | fail)) only [Option.map_none, hx, go_sem, Hold.p, HoldK.k, HoldL.K, HoldL.body, Nat.reduceBEq, Nat.reduceAdd, reduceIte]
    rw [hc']; simp
theorem cutPrefix_c (h : IH) (s p : Txt) (hp : p.length ≤ 100) : ICalls Tryd.prog 112 [.str s, .str p] h fun r h' => r = .tuple [.str (if p.isPrefixOf s = true then s.drop p.length else s), .bool (p.isPrefixOf s)] ∧ h' = h := by
  refine icalls (.of ok112) (Nat.le_of_ble_eq_true rfl) ?_
  unfold c112
  simp (disch := (first | omega | assumption | (simp only [push_n, set_n, put_n, List.length_cons, List.length_nil, List.length_append, Nat.reduceAdd]; done) | (simp only [push_n, set_n, put_n, List.length_cons, List.length_nil, List.length_append]; omega) | (simp only [List.all_cons, List.all_nil, one_bool, one_int, one_str, one_ptr, one_nilptr, one_slice, one_eslice, one_nilslice, one_func, one_iface, one_niliface, Bool.and_true, Bool.true_and, List.getD_cons_zero, List.getD_cons_succ, List.contains_cons, List.contains_nil, Bool.or_true, Bool.true_or, Bool.or_false, Bool.false_or, Nat.reduceBEq, *]; done) | fail)) only [go_sem, Hold.p, HoldK.k, HoldL.K, HoldL.body, Nat.reduceBEq, Nat.reduceAdd, reduceIte]
  refine callA_of (cutPrefix2_c h s p hp) ?_
  rintro r h' ⟨rfl, rfl⟩
  simp (disch := (first | omega | assumption | (simp only [push_n, set_n, put_n, List.length_cons, List.length_nil, List.length_append, Nat.reduceAdd]; done) | (simp only [push_n, set_n, put_n, List.length_cons, List.length_nil, List.length_append]; omega) | (simp only [List.all_cons, List.all_nil, one_bool, one_int, one_str, one_ptr, one_nilptr, one_slice, one_eslice, one_nilslice, one_func, one_iface, one_niliface, Bool.and_true, Bool.true_and, List.getD_cons_zero, List.getD_cons_succ, List.contains_cons, List.contains_nil, Bool.or_true, Bool.true_or, Bool.or_false, Bool.false_or, Nat.reduceBEq, *]; done) | fail)) only [go_sem, Hold.p, HoldK.k, HoldL.K, HoldL.body, Nat.reduceBEq, Nat.reduceAdd, reduceIte]

def replyB (st : Int) (fs : List Fld) (b : Nat) : Bool := (decide (100 ≤ st) && decide (st ≤ 999)) && restB fs b
abbrev repObj (st : Int) (v w : IV) : IObj := .rows [[.int .i64 st, v, w]] 81 3 false
theorem implReplyOK_c (h : IH) (st : Int) (v w : IV) (fs : List Fld) (body : List UInt8) (hs : SlR h 2 v (fldRows fs)) (hw : SlR h 1 w (strRows body)) (hm : fs.length ≤ 1048576) (hF : FldS fs) :
    ICalls Tryd.prog 113 [.agg [.int .i64 st, v, w]] h fun r h' => r = .bool (replyB st fs body.length) ∧ Ext h h' := by
  refine icalls (.of ok113) (Nat.le_of_ble_eq_true rfl) ?_
  unfold c113
  have v1 := hs.one
  have v2 := hw.one
  simp (disch := (first | omega | assumption | (simp only [push_n, set_n, put_n, List.length_cons, List.length_nil, List.length_append, Nat.reduceAdd]; done) | (simp only [push_n, set_n, put_n, List.length_cons, List.length_nil, List.length_append]; omega) | (simp only [List.all_cons, List.all_nil, one_bool, one_int, one_str, one_ptr, one_nilptr, one_slice, one_eslice, one_nilslice, one_func, one_iface, one_niliface, Bool.and_true, Bool.true_and, List.getD_cons_zero, List.getD_cons_succ, List.contains_cons, List.contains_nil, Bool.or_true, Bool.true_or, Bool.or_false, Bool.false_or, Nat.reduceBEq, *]; done) | fail)) only [v1, v2, go_sem, Hold.p, HoldK.k, HoldL.K, HoldL.body, Nat.reduceBEq, Nat.reduceAdd, reduceIte]
  generalize hq_g : IH.push h (repObj st v w) = g
  have e_g : Ext h g := by rw [← hq_g]; exact (Ext.refl _).push _
  have l_g : g.n = h.n + 1 := by rw [← hq_g]; rfl
  have b : At g h.n (repObj st v w) := by rw [← hq_g]; exact At.new _ _
  clear hq_g
  have hs := hs.ext e_g
  have hw := hw.ext e_g
  have q := b.eq
  try simp (disch := (first | omega | assumption | (simp only [push_n, set_n, put_n, List.length_cons, List.length_nil, List.length_append, Nat.reduceAdd]; done) | (simp only [push_n, set_n, put_n, List.length_cons, List.length_nil, List.length_append]; omega) | (simp only [List.all_cons, List.all_nil, one_bool, one_int, one_str, one_ptr, one_nilptr, one_slice, one_eslice, one_nilslice, one_func, one_iface, one_niliface, Bool.and_true, Bool.true_and, List.getD_cons_zero, List.getD_cons_succ, List.contains_cons, List.contains_nil, Bool.or_true, Bool.true_or, Bool.or_false, Bool.false_or, Nat.reduceBEq, *]; done) | fail)) only [q, go_sem, Hold.p, HoldK.k, HoldL.K, HoldL.body, Nat.reduceBEq, Nat.reduceAdd, reduceIte]
  refine guard_extT (v := .bool (restB fs body.length)) (fun hb => ?_) (fun g2 E => ?_)
  · simp (disch := (first | omega | assumption | (simp only [push_n, set_n, put_n, List.length_cons, List.length_nil, List.length_append, Nat.reduceAdd]; done) | (simp only [push_n, set_n, put_n, List.length_cons, List.length_nil, List.length_append]; omega) | (simp only [List.all_cons, List.all_nil, one_bool, one_int, one_str, one_ptr, one_nilptr, one_slice, one_eslice, one_nilslice, one_func, one_iface, one_niliface, Bool.and_true, Bool.true_and, List.getD_cons_zero, List.getD_cons_succ, List.contains_cons, List.contains_nil, Bool.or_true, Bool.true_or, Bool.or_false, Bool.false_or, Nat.reduceBEq, *]; done) | fail)) only [hb, go_sem, Hold.p, HoldK.k, HoldL.K, HoldL.body, Nat.reduceBEq, Nat.reduceAdd, reduceIte]
    exact implRest_c _ v w fs body hs hw hm hF
  simp (disch := (first | omega | assumption | (simp only [push_n, set_n, put_n, List.length_cons, List.length_nil, List.length_append, Nat.reduceAdd]; done) | (simp only [push_n, set_n, put_n, List.length_cons, List.length_nil, List.length_append]; omega) | (simp only [List.all_cons, List.all_nil, one_bool, one_int, one_str, one_ptr, one_nilptr, one_slice, one_eslice, one_nilslice, one_func, one_iface, one_niliface, Bool.and_true, Bool.true_and, List.getD_cons_zero, List.getD_cons_succ, List.contains_cons, List.contains_nil, Bool.or_true, Bool.true_or, Bool.or_false, Bool.false_or, Nat.reduceBEq, *]; done) | fail)) only [go_sem, Hold.p, HoldK.k, HoldL.K, HoldL.body, Nat.reduceBEq, Nat.reduceAdd, reduceIte]
  exact ⟨rfl, e_g.trans E⟩
abbrev rawObj (first : Txt) (v w : IV) (n : Int) : IObj := .rows [[.str first, v, w, .int .i64 n]] 153 4 false
theorem cut_le (s sep : Txt) : (Lib.cut s sep).1.length ≤ s.length ∧ (Lib.cut s sep).2.1.length ≤ s.length := by
  unfold Lib.cut
  split
  · simp only [List.length_take, List.length_drop]; omega
  · simp
theorem toReply_c (h : IH) (first : Txt) (v w : IV) (n : Int) (fs : List Fld) (body : Txt) (hs : SlR h 2 v (fldRows fs)) (hw : SlR h 1 w (strRows body)) (hl : first.length ≤ 1048576) (hm : fs.length ≤ 1048576) (hF : FldS fs) :
    ICalls Tryd.prog 47 [.agg [.str first, v, w, .int .i64 n]] h fun r h' => (∃ st : Int, r = .tuple [.agg [.int .i64 st, v, w], .bool (firstB false first && restB fs body.length)] ∧ (firstB false first = true → st = (valD (first.drop 6) : Nat))) ∧ Ext h h' := by
  refine icalls (.of ok47) (Nat.le_of_ble_eq_true rfl) ?_
  unfold c47
  have v1 := hs.one
  have v2 := hw.one
  simp (disch := (first | omega | assumption | (simp only [push_n, set_n, put_n, List.length_cons, List.length_nil, List.length_append, Nat.reduceAdd]; done) | (simp only [push_n, set_n, put_n, List.length_cons, List.length_nil, List.length_append]; omega) | (simp only [List.all_cons, List.all_nil, one_bool, one_int, one_str, one_ptr, one_nilptr, one_slice, one_eslice, one_nilslice, one_func, one_iface, one_niliface, Bool.and_true, Bool.true_and, List.getD_cons_zero, List.getD_cons_succ, List.contains_cons, List.contains_nil, Bool.or_true, Bool.true_or, Bool.or_false, Bool.false_or, Nat.reduceBEq, *]; done) | fail)) only [v1, v2, go_sem, Hold.p, HoldK.k, HoldL.K, HoldL.body, Nat.reduceBEq, Nat.reduceAdd, reduceIte]
  generalize hq_g0 : IH.push h (rawObj first v w n) = g0
  have e_g0 : Ext h g0 := by rw [← hq_g0]; exact (Ext.refl _).push _
  have l_g0 : g0.n = h.n + 1 := by rw [← hq_g0]; rfl
  have b : At g0 h.n (rawObj first v w n) := by rw [← hq_g0]; exact At.new _ _
  clear hq_g0
  have hs := hs.ext e_g0
  have hw := hw.ext e_g0
  have q := b.eq
  try simp (disch := (first | omega | assumption | (simp only [push_n, set_n, put_n, List.length_cons, List.length_nil, List.length_append, Nat.reduceAdd]; done) | (simp only [push_n, set_n, put_n, List.length_cons, List.length_nil, List.length_append]; omega) | (simp only [List.all_cons, List.all_nil, one_bool, one_int, one_str, one_ptr, one_nilptr, one_slice, one_eslice, one_nilslice, one_func, one_iface, one_niliface, Bool.and_true, Bool.true_and, List.getD_cons_zero, List.getD_cons_succ, List.contains_cons, List.contains_nil, Bool.or_true, Bool.true_or, Bool.or_false, Bool.false_or, Nat.reduceBEq, *]; done) | fail)) only [q, go_sem, Hold.p, HoldK.k, HoldL.K, HoldL.body, Nat.reduceBEq, Nat.reduceAdd, reduceIte]
  generalize hq_g : IH.push g0 (repObj 0 .nilslice .nilslice) = g
  have e_g : Ext g0 g := by rw [← hq_g]; exact (Ext.refl _).push _
  have l_g : g.n = g0.n + 1 := by rw [← hq_g]; rfl
  have bz : At g g0.n (repObj 0 .nilslice .nilslice) := by rw [← hq_g]; exact At.new _ _
  clear hq_g
  have b := b.ext e_g
  have hs := hs.ext e_g
  have hw := hw.ext e_g
  have q := b.eq
  have qz := bz.eq
  try simp (disch := (first | omega | assumption | (simp only [push_n, set_n, put_n, List.length_cons, List.length_nil, List.length_append, Nat.reduceAdd]; done) | (simp only [push_n, set_n, put_n, List.length_cons, List.length_nil, List.length_append]; omega) | (simp only [List.all_cons, List.all_nil, one_bool, one_int, one_str, one_ptr, one_nilptr, one_slice, one_eslice, one_nilslice, one_func, one_iface, one_niliface, Bool.and_true, Bool.true_and, List.getD_cons_zero, List.getD_cons_succ, List.contains_cons, List.contains_nil, Bool.or_true, Bool.true_or, Bool.or_false, Bool.false_or, Nat.reduceBEq, *]; done) | fail)) only [q, go_sem, Hold.p, HoldK.k, HoldL.K, HoldL.body, Nat.reduceBEq, Nat.reduceAdd, reduceIte]
  refine callA_of (cutPrefix_c g first replyQ (by simp [replyQ])) ?_
  rintro r g1 ⟨rfl, rfl⟩
  simp (disch := (first | omega | assumption | (simp only [push_n, set_n, put_n, List.length_cons, List.length_nil, List.length_append, Nat.reduceAdd]; done) | (simp only [push_n, set_n, put_n, List.length_cons, List.length_nil, List.length_append]; omega) | (simp only [List.all_cons, List.all_nil, one_bool, one_int, one_str, one_ptr, one_nilptr, one_slice, one_eslice, one_nilslice, one_func, one_iface, one_niliface, Bool.and_true, Bool.true_and, List.getD_cons_zero, List.getD_cons_succ, List.contains_cons, List.contains_nil, Bool.or_true, Bool.true_or, Bool.or_false, Bool.false_or, Nat.reduceBEq, *]; done) | fail)) only [q, go_sem, Hold.p, HoldK.k, HoldL.K, HoldL.body, Nat.reduceBEq, Nat.reduceAdd, reduceIte]
  generalize hS : (if replyQ.isPrefixOf first = true then first.drop replyQ.length else first) = S
  have hSl : S.length ≤ 1048576 := by rw [← hS]; split <;> (first | (rw [List.length_drop]; omega) | exact hl)
  refine callA_of (decimal_c g1 S 3 (by omega) hSl) ?_
  rintro r g2 ⟨⟨st, rfl, hst⟩, E2⟩
  have b := b.ext E2
  have bz := bz.ext E2
  have hs := hs.ext E2
  have hw := hw.ext E2
  have le_E2 := E2.le
  have q := b.eq
  simp (disch := (first | omega | assumption | (simp only [push_n, set_n, put_n, List.length_cons, List.length_nil, List.length_append, Nat.reduceAdd]; done) | (simp only [push_n, set_n, put_n, List.length_cons, List.length_nil, List.length_append]; omega) | (simp only [List.all_cons, List.all_nil, one_bool, one_int, one_str, one_ptr, one_nilptr, one_slice, one_eslice, one_nilslice, one_func, one_iface, one_niliface, Bool.and_true, Bool.true_and, List.getD_cons_zero, List.getD_cons_succ, List.contains_cons, List.contains_nil, Bool.or_true, Bool.true_or, Bool.or_false, Bool.false_or, Nat.reduceBEq, *]; done) | fail)) only [q, v1, v2, go_sem, Hold.p, HoldK.k, HoldL.K, HoldL.body, Nat.reduceBEq, Nat.reduceAdd, reduceIte]
  generalize hq_g3 : IH.push g2 (repObj st v w) = g3
  have e_g3 : Ext g2 g3 := by rw [← hq_g3]; exact (Ext.refl _).push _
  have l_g3 : g3.n = g2.n + 1 := by rw [← hq_g3]; rfl
  have b3 : At g3 g2.n (repObj st v w) := by rw [← hq_g3]; exact At.new _ _
  clear hq_g3
  have b := b.ext e_g3
  have bz := bz.ext e_g3
  have hs := hs.ext e_g3
  have hw := hw.ext e_g3
  have q3 := b3.eq
  try simp (disch := (first | omega | assumption | (simp only [push_n, set_n, put_n, List.length_cons, List.length_nil, List.length_append, Nat.reduceAdd]; done) | (simp only [push_n, set_n, put_n, List.length_cons, List.length_nil, List.length_append]; omega) | (simp only [List.all_cons, List.all_nil, one_bool, one_int, one_str, one_ptr, one_nilptr, one_slice, one_eslice, one_nilslice, one_func, one_iface, one_niliface, Bool.and_true, Bool.true_and, List.getD_cons_zero, List.getD_cons_succ, List.contains_cons, List.contains_nil, Bool.or_true, Bool.true_or, Bool.or_false, Bool.false_or, Nat.reduceBEq, *]; done) | fail)) only [q3, v1, v2, go_sem, Hold.p, HoldK.k, HoldL.K, HoldL.body, Nat.reduceBEq, Nat.reduceAdd, reduceIte]
  have hP : ∀ b1 : Bool, firstB false first = (replyQ.isPrefixOf first && (decOk S 3 && decide (100 ≤ valD S))) := by
    intro _
    unfold firstB
    simp only [Bool.false_eq_true, if_false]
    cases hq : replyQ.isPrefixOf first with
    | false => rfl
    | true =>
      rw [hq, if_pos rfl] at hS
      have : first.drop 6 = S := hS
      rw [this]; rfl
  have hP := hP true
  refine guard_of (fun hb => ?_) (fun hb => ?_)
  · simp (disch := (first | omega | assumption | (simp only [push_n, set_n, put_n, List.length_cons, List.length_nil, List.length_append, Nat.reduceAdd]; done) | (simp only [push_n, set_n, put_n, List.length_cons, List.length_nil, List.length_append]; omega) | (simp only [List.all_cons, List.all_nil, one_bool, one_int, one_str, one_ptr, one_nilptr, one_slice, one_eslice, one_nilslice, one_func, one_iface, one_niliface, Bool.and_true, Bool.true_and, List.getD_cons_zero, List.getD_cons_succ, List.contains_cons, List.contains_nil, Bool.or_true, Bool.true_or, Bool.or_false, Bool.false_or, Nat.reduceBEq, *]; done) | fail)) only [q3, v1, v2, hb, go_sem, Hold.p, HoldK.k, HoldL.K, HoldL.body, Nat.reduceBEq, Nat.reduceAdd, reduceIte]
    refine callA_of (implReplyOK_c _ st v w fs body hs hw hm hF) ?_
    rintro r g4 ⟨rfl, E4⟩
    have b := b.ext E4
    have bz := bz.ext E4
    have b3 := b3.ext E4
    have le_E4 := E4.le
    have q3 := b3.eq
    have qz := bz.eq
    simp (disch := (first | omega | assumption | (simp only [push_n, set_n, put_n, List.length_cons, List.length_nil, List.length_append, Nat.reduceAdd]; done) | (simp only [push_n, set_n, put_n, List.length_cons, List.length_nil, List.length_append]; omega) | (simp only [List.all_cons, List.all_nil, one_bool, one_int, one_str, one_ptr, one_nilptr, one_slice, one_eslice, one_nilslice, one_func, one_iface, one_niliface, Bool.and_true, Bool.true_and, List.getD_cons_zero, List.getD_cons_succ, List.contains_cons, List.contains_nil, Bool.or_true, Bool.true_or, Bool.or_false, Bool.false_or, Nat.reduceBEq, *]; done) | fail)) only [v1, v2, q3, qz, hb, go_sem, Hold.p, HoldK.k, HoldL.K, HoldL.body, Nat.reduceBEq, Nat.reduceAdd, reduceIte]
    have hX := (((e_g0.trans e_g).trans E2).trans e_g3).trans E4
    have hb' : replyQ.isPrefixOf first = true ∧ decOk S 3 = true := by simpa using hb
    have hv := hst hb'.2
    have hlt : valD S < 1000 := by
      have h2 := hb'.2
      unfold decOk at h2
      simp only [Bool.and_eq_true, decide_eq_true_eq] at h2
      have h3 := valD_lt S h2.1.2
      have h4 : 10 ^ S.length ≤ 10 ^ 3 := Nat.pow_le_pow_right (by omega) h2.1.1.2
      omega
    have hd6 : first.drop 6 = S := by rw [← hS, if_pos hb'.1]; rfl
    refine ⟨⟨st, ?_, fun _ => by rw [hd6, hv]⟩, hX.trn (Trn.set (lo := g0.n) (hi := g0.n + 1) _ ⟨Nat.le_refl _, Nat.lt_succ_self _⟩) (by omega)⟩
    rw [hP, hb'.1, hb'.2, hv]
    unfold replyB
    have e1 : decide ((valD S : Int) ≤ 999) = true := decide_eq_true (by omega)
    have e2 : decide ((100 : Int) ≤ (valD S : Int)) = decide (100 ≤ valD S) := by
      by_cases h : 100 ≤ valD S
      · rw [decide_eq_true h, decide_eq_true (by omega)]
      · rw [decide_eq_false h, decide_eq_false (by omega)]
    rw [e1, e2]
    simp
  · have qz := bz.eq
    simp (disch := (first | omega | assumption | (simp only [push_n, set_n, put_n, List.length_cons, List.length_nil, List.length_append, Nat.reduceAdd]; done) | (simp only [push_n, set_n, put_n, List.length_cons, List.length_nil, List.length_append]; omega) | (simp only [List.all_cons, List.all_nil, one_bool, one_int, one_str, one_ptr, one_nilptr, one_slice, one_eslice, one_nilslice, one_func, one_iface, one_niliface, Bool.and_true, Bool.true_and, List.getD_cons_zero, List.getD_cons_succ, List.contains_cons, List.contains_nil, Bool.or_true, Bool.true_or, Bool.or_false, Bool.false_or, Nat.reduceBEq, *]; done) | fail)) only [q3, qz, v1, v2, hb, go_sem, Hold.p, HoldK.k, HoldL.K, HoldL.body, Nat.reduceBEq, Nat.reduceAdd, reduceIte]
    have hF0 : firstB false first = false := by
      rw [hP]
      revert hb
      cases replyQ.isPrefixOf first <;> cases decOk S 3 <;> simp
    refine ⟨⟨st, by rw [hF0]; rfl, fun e => by rw [hF0] at e; cases e⟩, Ext.trn (((e_g0.trans e_g).trans E2).trans e_g3) (Trn.set (lo := g0.n) (hi := g0.n + 1) _ ⟨Nat.le_refl _, Nat.lt_succ_self _⟩) (by omega)⟩
end
end Go.Proofs.YtdpaehdolhdjdaaDoor

set_option maxRecDepth 20000
namespace Go.Proofs.YtdpaehdolhdjdaaDoor
open Go Go.IW
section
attribute [local go_sem] List.getElem?_cons_zero List.getElem?_cons_succ Option.bind_some List.map_cons List.map_nil Nat.zero_add if_true List.getD_cons_zero List.getD_cons_succ List.contains_cons List.contains_nil Bool.or_true Bool.true_or Bool.or_false Bool.false_or Bool.not_true Bool.not_false true_and and_true rowA_whole mid_get stO_mid rowO_rows cellO_rows push_n set_n push_at push_old set_here set_there set_pushT set_pushN set_set upd_ne Nat.add_assoc Nat.add_zero stO_1s stO_ws boxA_s List.all_cons List.all_nil one_bool one_int one_str one_ptr one_nilptr one_slice one_eslice one_nilslice one_func one_iface one_niliface Bool.and_true Bool.and_self List.length_cons List.length_nil Nat.one_ne_zero Nat.succ_ne_zero if_false List.set_cons_zero List.set_cons_succ lay_nil lay_1 lay_w Option.map_some

/-- What a closure answers, wherever its box stands. -/
def GoodF (req : Bool) (c p : Nat) (o : IObj) : Prop := ∀ (h : IH) (first : Txt) (v : IV) (fs : List Fld), At h p o → SlR h 2 v (fldRows fs) → first.length ≤ 1048576 → fs.length ≤ 1048576 → FldS fs →
  ICalls Tryd.prog c [.str first, v, .ptr p 0 0] h fun r h' => r = .bool (firstB req first && restB fs 0) ∧ Ext h h'
abbrev boxRep : IObj := .rows [[.func 47 [] []]] 83 1 false
theorem goodRep (p : Nat) : GoodF false 111 p boxRep := by
  intro h first v fs hb hs hl hm hF
  refine icalls (.of ok111) (Nat.le_of_ble_eq_true rfl) ?_
  unfold c111
  have v1 := hs.one
  have q := hb.eq
  simp (disch := (first | omega | assumption | (simp only [push_n, set_n, put_n, List.length_cons, List.length_nil, List.length_append, Nat.reduceAdd]; done) | (simp only [push_n, set_n, put_n, List.length_cons, List.length_nil, List.length_append]; omega) | (simp only [List.all_cons, List.all_nil, one_bool, one_int, one_str, one_ptr, one_nilptr, one_slice, one_eslice, one_nilslice, one_func, one_iface, one_niliface, Bool.and_true, Bool.true_and, List.getD_cons_zero, List.getD_cons_succ, List.contains_cons, List.contains_nil, Bool.or_true, Bool.true_or, Bool.or_false, Bool.false_or, Nat.reduceBEq, *]; done) | fail)) only [q, v1, List.nil_append, List.append_nil, go_sem, Hold.p, HoldK.k, HoldL.K, HoldL.body, Nat.reduceBEq, Nat.reduceAdd, reduceIte]
  refine callA_of (toReply_c h first v .nilslice 0 fs [] hs (SlR.nil _ _) hl hm hF) ?_
  rintro r g1 ⟨⟨st, rfl, _⟩, E1⟩
  simp (disch := (first | omega | assumption | (simp only [push_n, set_n, put_n, List.length_cons, List.length_nil, List.length_append, Nat.reduceAdd]; done) | (simp only [push_n, set_n, put_n, List.length_cons, List.length_nil, List.length_append]; omega) | (simp only [List.all_cons, List.all_nil, one_bool, one_int, one_str, one_ptr, one_nilptr, one_slice, one_eslice, one_nilslice, one_func, one_iface, one_niliface, Bool.and_true, Bool.true_and, List.getD_cons_zero, List.getD_cons_succ, List.contains_cons, List.contains_nil, Bool.or_true, Bool.true_or, Bool.or_false, Bool.false_or, Nat.reduceBEq, *]; done) | fail)) only [v1, go_sem, Hold.p, HoldK.k, HoldL.K, HoldL.body, Nat.reduceBEq, Nat.reduceAdd, reduceIte]
  exact E1.trans ((Ext.refl _).push _)
theorem dup_c (h : IH) (v : IV) (bs : Txt) (hs : SlR h 1 v (strRows bs)) (hl : bs.length ≤ 1048576) : ICalls Tryd.prog 152 [v] h fun r h' => Own h.n h'.n h' 5 1 r (strRows bs) ∧ Ext h h' := by
  refine icalls (.of ok152) (Nat.le_of_ble_eq_true rfl) ?_
  unfold c152
  have v1 := hs.one
  have hsrc := hs.src
  simp (disch := (first | omega | assumption | (simp only [push_n, set_n, put_n, List.length_cons, List.length_nil, List.length_append, Nat.reduceAdd]; done) | (simp only [push_n, set_n, put_n, List.length_cons, List.length_nil, List.length_append]; omega) | (simp only [List.all_cons, List.all_nil, one_bool, one_int, one_str, one_ptr, one_nilptr, one_slice, one_eslice, one_nilslice, one_func, one_iface, one_niliface, Bool.and_true, Bool.true_and, List.getD_cons_zero, List.getD_cons_succ, List.contains_cons, List.contains_nil, Bool.or_true, Bool.true_or, Bool.or_false, Bool.false_or, Nat.reduceBEq, *]; done) | fail)) only [v1, hsrc, go_sem, Hold.p, HoldK.k, HoldL.K, HoldL.body, Nat.reduceBEq, Nat.reduceAdd, reduceIte]
  by_cases hb : bs = []
  · subst hb
    refine appA_none rfl ?_
    simp (disch := (first | omega | assumption | (simp only [push_n, set_n, put_n, List.length_cons, List.length_nil, List.length_append, Nat.reduceAdd]; done) | (simp only [push_n, set_n, put_n, List.length_cons, List.length_nil, List.length_append]; omega) | (simp only [List.all_cons, List.all_nil, one_bool, one_int, one_str, one_ptr, one_nilptr, one_slice, one_eslice, one_nilslice, one_func, one_iface, one_niliface, Bool.and_true, Bool.true_and, List.getD_cons_zero, List.getD_cons_succ, List.contains_cons, List.contains_nil, Bool.or_true, Bool.true_or, Bool.or_false, Bool.false_or, Nat.reduceBEq, *]; done) | fail)) only [go_sem, Hold.p, HoldK.k, HoldL.K, HoldL.body, Nat.reduceBEq, Nat.reduceAdd, reduceIte]
    exact ⟨Own.nil, Ext.refl _⟩
  · refine (Own.nil (lo := h.n) (hi := h.n) (h := h) (el := 5) (sz := 1)).app (by simpa [strRows] using hb) (by simp only [strRows_len, List.length_nil]; omega) ?_
    intro v6 h6 o6 t6 n6 v6o v6c
    simp (disch := (first | omega | assumption | (simp only [push_n, set_n, put_n, List.length_cons, List.length_nil, List.length_append, Nat.reduceAdd]; done) | (simp only [push_n, set_n, put_n, List.length_cons, List.length_nil, List.length_append]; omega) | (simp only [List.all_cons, List.all_nil, one_bool, one_int, one_str, one_ptr, one_nilptr, one_slice, one_eslice, one_nilslice, one_func, one_iface, one_niliface, Bool.and_true, Bool.true_and, List.getD_cons_zero, List.getD_cons_succ, List.contains_cons, List.contains_nil, Bool.or_true, Bool.true_or, Bool.or_false, Bool.false_or, Nat.reduceBEq, *]; done) | fail)) only [go_sem, Hold.p, HoldK.k, HoldL.K, HoldL.body, Nat.reduceBEq, Nat.reduceAdd, reduceIte]
    exact ⟨o6.wide (Nat.le_refl _) (by omega) (Nat.le_refl _), (Ext.refl h).turn (Own.nil (lo := h.n) (hi := h.n) (h := h) (el := 5) (sz := 1)) (Nat.le_refl _) t6⟩
end
end Go.Proofs.YtdpaehdolhdjdaaDoor
