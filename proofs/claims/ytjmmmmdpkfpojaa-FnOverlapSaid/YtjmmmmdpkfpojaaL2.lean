import Derived.Test.YtjmmmmdpkfpojaaL1
import Derived.Test.YtjmmmmdpkfpojaaK3
set_option linter.unusedSimpArgs false
set_option linter.unusedVariables false
set_option maxRecDepth 20000
namespace Go.Proofs.Ytjmmmmdpkfpojaa
open Go Go.IW
section
attribute [local go_sem] boxA_1 boxA_2 boxA_3 bslA_1 List.getElem?_cons_zero List.getElem?_cons_succ Option.bind_some List.map_cons List.map_nil Nat.zero_add if_true List.getD_cons_zero List.getD_cons_succ List.contains_cons List.contains_nil Bool.or_true Bool.true_or Bool.or_false Bool.false_or Bool.not_true Bool.not_false true_and and_true rowA_whole mid_get stO_mid rowO_rows cellO_rows push_n set_n push_at push_old set_here set_there set_pushT set_pushN set_set upd_ne Nat.add_assoc Nat.add_zero stO_1s stO_ws boxA_s List.all_cons List.all_nil one_bool one_int one_str one_ptr one_nilptr one_slice one_eslice one_nilslice one_func one_iface one_niliface Bool.and_true Bool.and_self List.length_cons List.length_nil Nat.one_ne_zero Nat.succ_ne_zero if_false List.set_cons_zero List.set_cons_succ lay_nil lay_1 lay_w Option.map_some

theorem strRows_get {bs : Txt} {k : Nat} (hk : k < bs.length) : (strRows bs)[k]? = some [.int .u8 ((bs[k]'hk).toNat : Int)] := by simp [strRows, hk]
theorem strRows_ne {bs : Txt} (h : 0 < bs.length) : strRows bs ≠ [] := by
  intro e
  have := congrArg List.length e
  rw [strRows_len] at this
  simp only [ln0] at this
  omega
theorem l01Sum_c (h : IH) (v : IV) (bs : Txt) (hs : SlR h 1 v (strRows bs)) (hl : bs.length ≤ 8388608) : ICalls Try.prog 77 [v] h fun r h' => (∃ n : Int, r = .int .i64 n) ∧ h' = h := by
  refine icalls (.of ok77) (Nat.le_of_ble_eq_true rfl) ?_
  unfold c77
  have l1 := hs.lenF
  rw [strRows_len] at l1
  simp (disch := (first | omega | assumption | (simp only [push_n, set_n, put_n, lc0, ln0, la0, Nat.reduceAdd]; done) | (simp only [push_n, set_n, put_n, lc0, ln0, la0]; omega) | (simp only [List.all_cons, List.all_nil, one_bool, one_int, one_str, one_ptr, one_nilptr, one_slice, one_eslice, one_nilslice, one_func, one_iface, one_niliface, Bool.and_true, Bool.true_and, List.getD_cons_zero, List.getD_cons_succ, List.contains_cons, List.contains_nil, Bool.or_true, Bool.true_or, Bool.or_false, Bool.false_or, Nat.reduceBEq, *]; done) | fail)) only [go_sem, ↓act_zero, Hold.p, HoldK.k, HoldL.K, HoldL.body, Nat.reduceBEq, Nat.reduceAdd, reduceIte]
  refine loop_at (fun m e g => ∃ (k : Nat) (s : Int), m = bs.length + 2 - k ∧ k ≤ bs.length + 1 ∧ e 0 = v ∧ e 3 = .int .i64 s ∧ e 4 = .int .i64 (k : Nat) ∧ g = h) (bs.length + 2) ?_ ?_
  · refine ⟨0, 0, by omega, by omega, ?_⟩
    simp (disch := (first | omega | assumption | (simp only [push_n, set_n, put_n, lc0, ln0, la0, Nat.reduceAdd]; done) | (simp only [push_n, set_n, put_n, lc0, ln0, la0]; omega) | (simp only [List.all_cons, List.all_nil, one_bool, one_int, one_str, one_ptr, one_nilptr, one_slice, one_eslice, one_nilslice, one_func, one_iface, one_niliface, Bool.and_true, Bool.true_and, List.getD_cons_zero, List.getD_cons_succ, List.contains_cons, List.contains_nil, Bool.or_true, Bool.true_or, Bool.or_false, Bool.false_or, Nat.reduceBEq, *]; done) | fail)) only [go_sem, ↓act_zero, Hold.p, HoldK.k, HoldL.K, HoldL.body, Nat.reduceBEq, Nat.reduceAdd, reduceIte]
    first | exact ⟨rfl, rfl⟩ | rfl
  · rintro m e g ⟨k, s, rfl, hk, i0, i3, i4, rfl⟩
    simp (disch := (first | omega | assumption | (simp only [push_n, set_n, put_n, lc0, ln0, la0, Nat.reduceAdd]; done) | (simp only [push_n, set_n, put_n, lc0, ln0, la0]; omega) | (simp only [List.all_cons, List.all_nil, one_bool, one_int, one_str, one_ptr, one_nilptr, one_slice, one_eslice, one_nilslice, one_func, one_iface, one_niliface, Bool.and_true, Bool.true_and, List.getD_cons_zero, List.getD_cons_succ, List.contains_cons, List.contains_nil, Bool.or_true, Bool.true_or, Bool.or_false, Bool.false_or, Nat.reduceBEq, *]; done) | fail)) only [i0, i4, l1, go_sem, ↓act_zero, Hold.p, HoldK.k, HoldL.K, HoldL.body, Nat.reduceBEq, Nat.reduceAdd, reduceIte]
    refine test_dec (fun hb => ?_) (fun hb => ?_)
    · have hk' : k < bs.length := by omega
      obtain ⟨l, j, hia, hll, hrow⟩ := hs.at (m := k) (strRows_get hk') .i64
      have hc := cellO_row hrow
      have w1 : wr .i64 ((k : Int) + 1) = ((k + 1 : Nat) : Int) := by rw [wr64 _ (by omega)]; rfl
      have w2 : wr .i64 ((k : Int) + 2) = ((k + 2 : Nat) : Int) := by rw [wr64 _ (by omega)]; rfl
      simp (disch := (first | omega | assumption | (simp only [push_n, set_n, put_n, lc0, ln0, la0, Nat.reduceAdd]; done) | (simp only [push_n, set_n, put_n, lc0, ln0, la0]; omega) | (simp only [List.all_cons, List.all_nil, one_bool, one_int, one_str, one_ptr, one_nilptr, one_slice, one_eslice, one_nilslice, one_func, one_iface, one_niliface, Bool.and_true, Bool.true_and, List.getD_cons_zero, List.getD_cons_succ, List.contains_cons, List.contains_nil, Bool.or_true, Bool.true_or, Bool.or_false, Bool.false_or, Nat.reduceBEq, *]; done) | fail)) only [i0, i3, i4, hia, hc, w1, l1, go_sem, ↓act_zero, Hold.p, HoldK.k, HoldL.K, HoldL.body, Nat.reduceBEq, Nat.reduceAdd, reduceIte]
      refine test_dec (fun hb2 => ?_) (fun hb2 => ?_)
      · have hk2 : k + 1 < bs.length := by omega
        obtain ⟨l', j', hia', hll', hrow'⟩ := hs.at (m := k + 1) (strRows_get hk2) .i64
        have hc' := cellO_row hrow'
        simp (disch := (first | omega | assumption | (simp only [push_n, set_n, put_n, lc0, ln0, la0, Nat.reduceAdd]; done) | (simp only [push_n, set_n, put_n, lc0, ln0, la0]; omega) | (simp only [List.all_cons, List.all_nil, one_bool, one_int, one_str, one_ptr, one_nilptr, one_slice, one_eslice, one_nilslice, one_func, one_iface, one_niliface, Bool.and_true, Bool.true_and, List.getD_cons_zero, List.getD_cons_succ, List.contains_cons, List.contains_nil, Bool.or_true, Bool.true_or, Bool.or_false, Bool.false_or, Nat.reduceBEq, *]; done) | fail)) only [i0, i3, i4, w1, hia', hc', go_sem, ↓act_zero, Hold.p, HoldK.k, HoldL.K, HoldL.body, Nat.reduceBEq, Nat.reduceAdd, reduceIte]
        refine test_dec (fun hb3 => ?_) (fun hb3 => ?_)
        · simp (disch := (first | omega | assumption | (simp only [push_n, set_n, put_n, lc0, ln0, la0, Nat.reduceAdd]; done) | (simp only [push_n, set_n, put_n, lc0, ln0, la0]; omega) | (simp only [List.all_cons, List.all_nil, one_bool, one_int, one_str, one_ptr, one_nilptr, one_slice, one_eslice, one_nilslice, one_func, one_iface, one_niliface, Bool.and_true, Bool.true_and, List.getD_cons_zero, List.getD_cons_succ, List.contains_cons, List.contains_nil, Bool.or_true, Bool.true_or, Bool.or_false, Bool.false_or, Nat.reduceBEq, *]; done) | fail)) only [i0, i4, w2, go_sem, ↓act_zero, Hold.p, HoldK.k, HoldL.K, HoldL.body, Nat.reduceBEq, Nat.reduceAdd, reduceIte]
          exact ⟨_, by omega, k + 2, _, rfl, by omega, rfl, rfl⟩
        · simp (disch := (first | omega | assumption | (simp only [push_n, set_n, put_n, lc0, ln0, la0, Nat.reduceAdd]; done) | (simp only [push_n, set_n, put_n, lc0, ln0, la0]; omega) | (simp only [List.all_cons, List.all_nil, one_bool, one_int, one_str, one_ptr, one_nilptr, one_slice, one_eslice, one_nilslice, one_func, one_iface, one_niliface, Bool.and_true, Bool.true_and, List.getD_cons_zero, List.getD_cons_succ, List.contains_cons, List.contains_nil, Bool.or_true, Bool.true_or, Bool.or_false, Bool.false_or, Nat.reduceBEq, *]; done) | fail)) only [i0, i4, w2, go_sem, ↓act_zero, Hold.p, HoldK.k, HoldL.K, HoldL.body, Nat.reduceBEq, Nat.reduceAdd, reduceIte]
          exact ⟨_, by omega, k + 2, _, rfl, by omega, rfl, rfl⟩
      · simp (disch := (first | omega | assumption | (simp only [push_n, set_n, put_n, lc0, ln0, la0, Nat.reduceAdd]; done) | (simp only [push_n, set_n, put_n, lc0, ln0, la0]; omega) | (simp only [List.all_cons, List.all_nil, one_bool, one_int, one_str, one_ptr, one_nilptr, one_slice, one_eslice, one_nilslice, one_func, one_iface, one_niliface, Bool.and_true, Bool.true_and, List.getD_cons_zero, List.getD_cons_succ, List.contains_cons, List.contains_nil, Bool.or_true, Bool.true_or, Bool.or_false, Bool.false_or, Nat.reduceBEq, *]; done) | fail)) only [i0, i3, i4, go_sem, ↓act_zero, Hold.p, HoldK.k, HoldL.K, HoldL.body, Nat.reduceBEq, Nat.reduceAdd, reduceIte]
        refine test_dec (fun hb3 => ?_) (fun hb3 => ?_)
        · simp (disch := (first | omega | assumption | (simp only [push_n, set_n, put_n, lc0, ln0, la0, Nat.reduceAdd]; done) | (simp only [push_n, set_n, put_n, lc0, ln0, la0]; omega) | (simp only [List.all_cons, List.all_nil, one_bool, one_int, one_str, one_ptr, one_nilptr, one_slice, one_eslice, one_nilslice, one_func, one_iface, one_niliface, Bool.and_true, Bool.true_and, List.getD_cons_zero, List.getD_cons_succ, List.contains_cons, List.contains_nil, Bool.or_true, Bool.true_or, Bool.or_false, Bool.false_or, Nat.reduceBEq, *]; done) | fail)) only [i0, i4, w2, go_sem, ↓act_zero, Hold.p, HoldK.k, HoldL.K, HoldL.body, Nat.reduceBEq, Nat.reduceAdd, reduceIte]
          exact ⟨_, by omega, k + 2, _, rfl, by omega, rfl, rfl⟩
        · simp (disch := (first | omega | assumption | (simp only [push_n, set_n, put_n, lc0, ln0, la0, Nat.reduceAdd]; done) | (simp only [push_n, set_n, put_n, lc0, ln0, la0]; omega) | (simp only [List.all_cons, List.all_nil, one_bool, one_int, one_str, one_ptr, one_nilptr, one_slice, one_eslice, one_nilslice, one_func, one_iface, one_niliface, Bool.and_true, Bool.true_and, List.getD_cons_zero, List.getD_cons_succ, List.contains_cons, List.contains_nil, Bool.or_true, Bool.true_or, Bool.or_false, Bool.false_or, Nat.reduceBEq, *]; done) | fail)) only [i0, i4, w2, go_sem, ↓act_zero, Hold.p, HoldK.k, HoldL.K, HoldL.body, Nat.reduceBEq, Nat.reduceAdd, reduceIte]
          exact ⟨_, by omega, k + 2, _, rfl, by omega, rfl, rfl⟩
    · simp (disch := (first | omega | assumption | (simp only [push_n, set_n, put_n, lc0, ln0, la0, Nat.reduceAdd]; done) | (simp only [push_n, set_n, put_n, lc0, ln0, la0]; omega) | (simp only [List.all_cons, List.all_nil, one_bool, one_int, one_str, one_ptr, one_nilptr, one_slice, one_eslice, one_nilslice, one_func, one_iface, one_niliface, Bool.and_true, Bool.true_and, List.getD_cons_zero, List.getD_cons_succ, List.contains_cons, List.contains_nil, Bool.or_true, Bool.true_or, Bool.or_false, Bool.false_or, Nat.reduceBEq, *]; done) | fail)) only [i3, go_sem, ↓act_zero, Hold.p, HoldK.k, HoldL.K, HoldL.body, Nat.reduceBEq, Nat.reduceAdd, reduceIte]
      exact ⟨_, rfl⟩
theorem checksum_c (h : IH) (v : IV) (bs : Txt) (hs : SlR h 1 v (strRows bs)) (hl : bs.length ≤ 8388608) : ICalls Try.prog 67 [v] h fun r h' => (∃ n : Int, r = .int .i64 n) ∧ h' = h := by
  refine icalls (.of ok67) (Nat.le_of_ble_eq_true rfl) ?_
  unfold c67
  simp (disch := (first | omega | assumption | (simp only [push_n, set_n, put_n, lc0, ln0, la0, Nat.reduceAdd]; done) | (simp only [push_n, set_n, put_n, lc0, ln0, la0]; omega) | (simp only [List.all_cons, List.all_nil, one_bool, one_int, one_str, one_ptr, one_nilptr, one_slice, one_eslice, one_nilslice, one_func, one_iface, one_niliface, Bool.and_true, Bool.true_and, List.getD_cons_zero, List.getD_cons_succ, List.contains_cons, List.contains_nil, Bool.or_true, Bool.true_or, Bool.or_false, Bool.false_or, Nat.reduceBEq, *]; done) | fail)) only [go_sem, ↓act_zero, Hold.p, HoldK.k, HoldL.K, HoldL.body, Nat.reduceBEq, Nat.reduceAdd, reduceIte]
  refine callA_of (l01Sum_c h v bs hs hl) ?_
  rintro r h' ⟨⟨n, rfl⟩, rfl⟩
  simp (disch := (first | omega | assumption | (simp only [push_n, set_n, put_n, lc0, ln0, la0, Nat.reduceAdd]; done) | (simp only [push_n, set_n, put_n, lc0, ln0, la0]; omega) | (simp only [List.all_cons, List.all_nil, one_bool, one_int, one_str, one_ptr, one_nilptr, one_slice, one_eslice, one_nilslice, one_func, one_iface, one_niliface, Bool.and_true, Bool.true_and, List.getD_cons_zero, List.getD_cons_succ, List.contains_cons, List.contains_nil, Bool.or_true, Bool.true_or, Bool.or_false, Bool.false_or, Nat.reduceBEq, *]; done) | fail)) only [go_sem, ↓act_zero, Hold.p, HoldK.k, HoldL.K, HoldL.body, Nat.reduceBEq, Nat.reduceAdd, reduceIte]
  exact ⟨_, rfl⟩
theorem l05Flag_c (h : IH) (b : Bool) (n : Int) : ICalls Try.prog 66 [.bool b, .int .i64 n] h fun r h' => r = .int .i64 (if b = true then n else 0) ∧ h' = h := by
  refine icalls (.of ok66) (Nat.le_of_ble_eq_true rfl) ?_
  unfold c66
  simp (disch := (first | omega | assumption | (simp only [push_n, set_n, put_n, lc0, ln0, la0, Nat.reduceAdd]; done) | (simp only [push_n, set_n, put_n, lc0, ln0, la0]; omega) | (simp only [List.all_cons, List.all_nil, one_bool, one_int, one_str, one_ptr, one_nilptr, one_slice, one_eslice, one_nilslice, one_func, one_iface, one_niliface, Bool.and_true, Bool.true_and, List.getD_cons_zero, List.getD_cons_succ, List.contains_cons, List.contains_nil, Bool.or_true, Bool.true_or, Bool.or_false, Bool.false_or, Nat.reduceBEq, *]; done) | fail)) only [go_sem, ↓act_zero, Hold.p, HoldK.k, HoldL.K, HoldL.body, Nat.reduceBEq, Nat.reduceAdd, reduceIte]
  refine test_of (fun hb => ?_) (fun hb => ?_)
  · simp (disch := (first | omega | assumption | (simp only [push_n, set_n, put_n, lc0, ln0, la0, Nat.reduceAdd]; done) | (simp only [push_n, set_n, put_n, lc0, ln0, la0]; omega) | (simp only [List.all_cons, List.all_nil, one_bool, one_int, one_str, one_ptr, one_nilptr, one_slice, one_eslice, one_nilslice, one_func, one_iface, one_niliface, Bool.and_true, Bool.true_and, List.getD_cons_zero, List.getD_cons_succ, List.contains_cons, List.contains_nil, Bool.or_true, Bool.true_or, Bool.or_false, Bool.false_or, Nat.reduceBEq, *]; done) | fail)) only [go_sem, ↓act_zero, Hold.p, HoldK.k, HoldL.K, HoldL.body, Nat.reduceBEq, Nat.reduceAdd, reduceIte]
    rw [if_pos hb]
  · simp (disch := (first | omega | assumption | (simp only [push_n, set_n, put_n, lc0, ln0, la0, Nat.reduceAdd]; done) | (simp only [push_n, set_n, put_n, lc0, ln0, la0]; omega) | (simp only [List.all_cons, List.all_nil, one_bool, one_int, one_str, one_ptr, one_nilptr, one_slice, one_eslice, one_nilslice, one_func, one_iface, one_niliface, Bool.and_true, Bool.true_and, List.getD_cons_zero, List.getD_cons_succ, List.contains_cons, List.contains_nil, Bool.or_true, Bool.true_or, Bool.or_false, Bool.false_or, Nat.reduceBEq, *]; done) | fail)) only [go_sem, ↓act_zero, Hold.p, HoldK.k, HoldL.K, HoldL.body, Nat.reduceBEq, Nat.reduceAdd, reduceIte]
    rw [if_neg (by simp [hb])]
theorem l05Head_c (h : IH) (p : Pk) (vo vp : IV) (a : PkAt h p vo vp) (hl : p.opts.length ≤ 100) : ICalls Try.prog 47 [.agg (pkRow p vo vp)] h fun r h' => (∃ bs : Txt, SlR h' 1 r (strRows bs) ∧ bs.length ≤ 200) ∧ Ext h h' := by
  refine icalls (.of ok47) (Nat.le_of_ble_eq_true rfl) ?_
  unfold c47 pkRow
  have v1 := a.o.one
  have v2 := a.p.one
  have l1 := a.o.lenF
  have l2 := a.p.lenF
  rw [strRows_len] at l1 l2
  simp (disch := (first | omega | assumption | (simp only [push_n, set_n, put_n, lc0, ln0, la0, Nat.reduceAdd]; done) | (simp only [push_n, set_n, put_n, lc0, ln0, la0]; omega) | (simp only [List.all_cons, List.all_nil, one_bool, one_int, one_str, one_ptr, one_nilptr, one_slice, one_eslice, one_nilslice, one_func, one_iface, one_niliface, Bool.and_true, Bool.true_and, List.getD_cons_zero, List.getD_cons_succ, List.contains_cons, List.contains_nil, Bool.or_true, Bool.true_or, Bool.or_false, Bool.false_or, Nat.reduceBEq, *]; done) | fail)) only [v1, v2, go_sem, ↓act_zero, Hold.p, HoldK.k, HoldL.K, HoldL.body, Nat.reduceBEq, Nat.reduceAdd, reduceIte]
  generalize hq_g : IH.push h (pkObj p vo vp) = g
  have e_g : Ext h g := by rw [← hq_g]; exact (Ext.refl _).push _
  have l_g : g.n = h.n + 1 := by rw [← hq_g]; rfl
  have b : At g h.n (pkObj p vo vp) := by rw [← hq_g]; exact At.new _ _
  clear hq_g
  have a := a.ext e_g
  have q := b.eq
  have rq := fun a : Int => ib_quo .i64 a 4 (by decide)
  have rq8 := fun a : Int => ib_quo .i64 a 8 (by decide)
  have w1 := wr_u8
  simp (disch := (first | omega | assumption | (simp only [push_n, set_n, put_n, lc0, ln0, la0, Nat.reduceAdd]; done) | (simp only [push_n, set_n, put_n, lc0, ln0, la0]; omega) | (simp only [List.all_cons, List.all_nil, one_bool, one_int, one_str, one_ptr, one_nilptr, one_slice, one_eslice, one_nilslice, one_func, one_iface, one_niliface, Bool.and_true, Bool.true_and, List.getD_cons_zero, List.getD_cons_succ, List.contains_cons, List.contains_nil, Bool.or_true, Bool.true_or, Bool.or_false, Bool.false_or, Nat.reduceBEq, *]; done) | fail)) only [q, l1, rq, bslA_2, w1, go_sem, ↓act_zero, Hold.p, HoldK.k, HoldL.K, HoldL.body, Nat.reduceBEq, Nat.reduceAdd, reduceIte]
  generalize hb0 : UInt8.ofNat _ = x0
  generalize hb1 : UInt8.ofNat _ = x1
  generalize hq_g1 : IH.push g _ = g1
  have e_g1 : Ext g g1 := Ext.pushed hq_g1
  have l_g1 : g1.n = g.n + 1 := n_pushed hq_g1
  have b1 := At.pushed hq_g1
  have a := a.ext e_g1
  have b := b.ext e_g1
  clear hq_g1
  have q := b.eq
  have s1 : SlR g1 1 (.slice g.n 0 2) (strRows [x0, x1]) := SlR.whole b1.eq rfl b1.lt
  simp (disch := (first | omega | assumption | (simp only [push_n, set_n, put_n, lc0, ln0, la0, Nat.reduceAdd]; done) | (simp only [push_n, set_n, put_n, lc0, ln0, la0]; omega) | (simp only [List.all_cons, List.all_nil, one_bool, one_int, one_str, one_ptr, one_nilptr, one_slice, one_eslice, one_nilslice, one_func, one_iface, one_niliface, Bool.and_true, Bool.true_and, List.getD_cons_zero, List.getD_cons_succ, List.contains_cons, List.contains_nil, Bool.or_true, Bool.true_or, Bool.or_false, Bool.false_or, Nat.reduceBEq, *]; done) | fail)) only [q, l2, go_sem, ↓act_zero, Hold.p, HoldK.k, HoldL.K, HoldL.body, Nat.reduceBEq, Nat.reduceAdd, reduceIte]
  refine callA_of (l03Put_c _ _ 2 (by decide)) ?_
  rintro v2' g2 ⟨o2, E2⟩
  have a := a.ext E2
  have b := b.ext E2
  have s1 := s1.ext E2
  have le_E2 := E2.le
  simp (disch := (first | omega | assumption | (simp only [push_n, set_n, put_n, lc0, ln0, la0, Nat.reduceAdd]; done) | (simp only [push_n, set_n, put_n, lc0, ln0, la0]; omega) | (simp only [List.all_cons, List.all_nil, one_bool, one_int, one_str, one_ptr, one_nilptr, one_slice, one_eslice, one_nilslice, one_func, one_iface, one_niliface, Bool.and_true, Bool.true_and, List.getD_cons_zero, List.getD_cons_succ, List.contains_cons, List.contains_nil, Bool.or_true, Bool.true_or, Bool.or_false, Bool.false_or, Nat.reduceBEq, *]; done) | fail)) only [go_sem, ↓act_zero, Hold.p, HoldK.k, HoldL.K, HoldL.body, Nat.reduceBEq, Nat.reduceAdd, reduceIte]
  refine callA_of (l01Join_c g2 _ v2' _ _ s1 o2.sl (by simp) (by rw [beB_len]; omega)) ?_
  rintro v3 g3 ⟨o3, E3⟩
  have a := a.ext E3
  have b := b.ext E3
  have le_E3 := E3.le
  have q := b.eq
  simp (disch := (first | omega | assumption | (simp only [push_n, set_n, put_n, lc0, ln0, la0, Nat.reduceAdd]; done) | (simp only [push_n, set_n, put_n, lc0, ln0, la0]; omega) | (simp only [List.all_cons, List.all_nil, one_bool, one_int, one_str, one_ptr, one_nilptr, one_slice, one_eslice, one_nilslice, one_func, one_iface, one_niliface, Bool.and_true, Bool.true_and, List.getD_cons_zero, List.getD_cons_succ, List.contains_cons, List.contains_nil, Bool.or_true, Bool.true_or, Bool.or_false, Bool.false_or, Nat.reduceBEq, *]; done) | fail)) only [q, go_sem, ↓act_zero, Hold.p, HoldK.k, HoldL.K, HoldL.body, Nat.reduceBEq, Nat.reduceAdd, reduceIte]
  refine callA_of (l03Put_c _ _ 2 (by decide)) ?_
  rintro v4 g4 ⟨o4, E4⟩
  have a := a.ext E4
  have b := b.ext E4
  have o3 := o3.ext E4
  have le_E4 := E4.le
  simp (disch := (first | omega | assumption | (simp only [push_n, set_n, put_n, lc0, ln0, la0, Nat.reduceAdd]; done) | (simp only [push_n, set_n, put_n, lc0, ln0, la0]; omega) | (simp only [List.all_cons, List.all_nil, one_bool, one_int, one_str, one_ptr, one_nilptr, one_slice, one_eslice, one_nilslice, one_func, one_iface, one_niliface, Bool.and_true, Bool.true_and, List.getD_cons_zero, List.getD_cons_succ, List.contains_cons, List.contains_nil, Bool.or_true, Bool.true_or, Bool.or_false, Bool.false_or, Nat.reduceBEq, *]; done) | fail)) only [go_sem, ↓act_zero, Hold.p, HoldK.k, HoldL.K, HoldL.body, Nat.reduceBEq, Nat.reduceAdd, reduceIte]
  refine callA_of (l01Join_c g4 _ v4 _ _ o3.sl o4.sl (by simp [beB_len]) (by rw [beB_len]; omega)) ?_
  rintro v5 g5 ⟨o5, E5⟩
  have a := a.ext E5
  have b := b.ext E5
  have le_E5 := E5.le
  have q := b.eq
  simp (disch := (first | omega | assumption | (simp only [push_n, set_n, put_n, lc0, ln0, la0, Nat.reduceAdd]; done) | (simp only [push_n, set_n, put_n, lc0, ln0, la0]; omega) | (simp only [List.all_cons, List.all_nil, one_bool, one_int, one_str, one_ptr, one_nilptr, one_slice, one_eslice, one_nilslice, one_func, one_iface, one_niliface, Bool.and_true, Bool.true_and, List.getD_cons_zero, List.getD_cons_succ, List.contains_cons, List.contains_nil, Bool.or_true, Bool.true_or, Bool.or_false, Bool.false_or, Nat.reduceBEq, *]; done) | fail)) only [q, rq8, go_sem, ↓act_zero, Hold.p, HoldK.k, HoldL.K, HoldL.body, Nat.reduceBEq, Nat.reduceAdd, reduceIte]
  refine callA_of (l05Flag_c _ _ _) ?_
  rintro v6 g6 ⟨rfl, rfl⟩
  simp (disch := (first | omega | assumption | (simp only [push_n, set_n, put_n, lc0, ln0, la0, Nat.reduceAdd]; done) | (simp only [push_n, set_n, put_n, lc0, ln0, la0]; omega) | (simp only [List.all_cons, List.all_nil, one_bool, one_int, one_str, one_ptr, one_nilptr, one_slice, one_eslice, one_nilslice, one_func, one_iface, one_niliface, Bool.and_true, Bool.true_and, List.getD_cons_zero, List.getD_cons_succ, List.contains_cons, List.contains_nil, Bool.or_true, Bool.true_or, Bool.or_false, Bool.false_or, Nat.reduceBEq, *]; done) | fail)) only [q, rq8, go_sem, ↓act_zero, Hold.p, HoldK.k, HoldL.K, HoldL.body, Nat.reduceBEq, Nat.reduceAdd, reduceIte]
  refine callA_of (l05Flag_c _ _ _) ?_
  rintro v6 g6 ⟨rfl, rfl⟩
  simp (disch := (first | omega | assumption | (simp only [push_n, set_n, put_n, lc0, ln0, la0, Nat.reduceAdd]; done) | (simp only [push_n, set_n, put_n, lc0, ln0, la0]; omega) | (simp only [List.all_cons, List.all_nil, one_bool, one_int, one_str, one_ptr, one_nilptr, one_slice, one_eslice, one_nilslice, one_func, one_iface, one_niliface, Bool.and_true, Bool.true_and, List.getD_cons_zero, List.getD_cons_succ, List.contains_cons, List.contains_nil, Bool.or_true, Bool.true_or, Bool.or_false, Bool.false_or, Nat.reduceBEq, *]; done) | fail)) only [q, rq8, go_sem, ↓act_zero, Hold.p, HoldK.k, HoldL.K, HoldL.body, Nat.reduceBEq, Nat.reduceAdd, reduceIte]
  refine callA_of (l03Put_c _ _ 2 (by decide)) ?_
  rintro v6 g6 ⟨o6, E6⟩
  have a := a.ext E6
  have b := b.ext E6
  have o5 := o5.ext E6
  have le_E6 := E6.le
  have q := b.eq
  simp (disch := (first | omega | assumption | (simp only [push_n, set_n, put_n, lc0, ln0, la0, Nat.reduceAdd]; done) | (simp only [push_n, set_n, put_n, lc0, ln0, la0]; omega) | (simp only [List.all_cons, List.all_nil, one_bool, one_int, one_str, one_ptr, one_nilptr, one_slice, one_eslice, one_nilslice, one_func, one_iface, one_niliface, Bool.and_true, Bool.true_and, List.getD_cons_zero, List.getD_cons_succ, List.contains_cons, List.contains_nil, Bool.or_true, Bool.true_or, Bool.or_false, Bool.false_or, Nat.reduceBEq, *]; done) | fail)) only [q, rq8, go_sem, ↓act_zero, Hold.p, HoldK.k, HoldL.K, HoldL.body, Nat.reduceBEq, Nat.reduceAdd, reduceIte]
  refine callA_of (l01Join_c g6 _ v6 _ _ o5.sl o6.sl (by simp [beB_len]) (by rw [beB_len]; omega)) ?_
  rintro v7 g7 ⟨o7, E7⟩
  have a := a.ext E7
  have b := b.ext E7
  have le_E7 := E7.le
  have q := b.eq
  simp (disch := (first | omega | assumption | (simp only [push_n, set_n, put_n, lc0, ln0, la0, Nat.reduceAdd]; done) | (simp only [push_n, set_n, put_n, lc0, ln0, la0]; omega) | (simp only [List.all_cons, List.all_nil, one_bool, one_int, one_str, one_ptr, one_nilptr, one_slice, one_eslice, one_nilslice, one_func, one_iface, one_niliface, Bool.and_true, Bool.true_and, List.getD_cons_zero, List.getD_cons_succ, List.contains_cons, List.contains_nil, Bool.or_true, Bool.true_or, Bool.or_false, Bool.false_or, Nat.reduceBEq, *]; done) | fail)) only [q, w1, go_sem, ↓act_zero, Hold.p, HoldK.k, HoldL.K, HoldL.body, Nat.reduceBEq, Nat.reduceAdd, reduceIte]
  generalize hb2 : UInt8.ofNat _ = x2
  generalize hb3 : UInt8.ofNat _ = x3
  refine bslA_of (rows := strRows [x2, x3, 0, 0]) (by decide) rfl ?_ ?_
  · simp [strRows, IV.one]
  generalize hq_g8 : IH.push g7 _ = g8
  have e_g8 : Ext g7 g8 := Ext.pushed hq_g8
  have l_g8 : g8.n = g7.n + 1 := n_pushed hq_g8
  have b8 := At.pushed hq_g8
  have a := a.ext e_g8
  have b := b.ext e_g8
  have o7 := o7.ext e_g8
  clear hq_g8
  have s8 : SlR g8 1 (.slice g7.n 0 4) (strRows [x2, x3, 0, 0]) := SlR.whole b8.eq rfl b8.lt
  simp (disch := (first | omega | assumption | (simp only [push_n, set_n, put_n, lc0, ln0, la0, Nat.reduceAdd]; done) | (simp only [push_n, set_n, put_n, lc0, ln0, la0]; omega) | (simp only [List.all_cons, List.all_nil, one_bool, one_int, one_str, one_ptr, one_nilptr, one_slice, one_eslice, one_nilslice, one_func, one_iface, one_niliface, Bool.and_true, Bool.true_and, List.getD_cons_zero, List.getD_cons_succ, List.contains_cons, List.contains_nil, Bool.or_true, Bool.true_or, Bool.or_false, Bool.false_or, Nat.reduceBEq, *]; done) | fail)) only [go_sem, ↓act_zero, Hold.p, HoldK.k, HoldL.K, HoldL.body, Nat.reduceBEq, Nat.reduceAdd, reduceIte]
  refine callA_of (l01Join_c g8 _ _ _ _ o7.sl s8 (by simp [beB_len]) (by simp)) ?_
  rintro v9 g9 ⟨o9, E9⟩
  have a := a.ext E9
  have b := b.ext E9
  have le_E9 := E9.le
  have q := b.eq
  simp (disch := (first | omega | assumption | (simp only [push_n, set_n, put_n, lc0, ln0, la0, Nat.reduceAdd]; done) | (simp only [push_n, set_n, put_n, lc0, ln0, la0]; omega) | (simp only [List.all_cons, List.all_nil, one_bool, one_int, one_str, one_ptr, one_nilptr, one_slice, one_eslice, one_nilslice, one_func, one_iface, one_niliface, Bool.and_true, Bool.true_and, List.getD_cons_zero, List.getD_cons_succ, List.contains_cons, List.contains_nil, Bool.or_true, Bool.true_or, Bool.or_false, Bool.false_or, Nat.reduceBEq, *]; done) | fail)) only [q, go_sem, ↓act_zero, Hold.p, HoldK.k, HoldL.K, HoldL.body, Nat.reduceBEq, Nat.reduceAdd, reduceIte]
  refine callA_of (l03Put_c _ _ 4 (by decide)) ?_
  rintro v10 g10 ⟨o10, E10⟩
  have a := a.ext E10
  have b := b.ext E10
  have o9 := o9.ext E10
  have le_E10 := E10.le
  have q := b.eq
  simp (disch := (first | omega | assumption | (simp only [push_n, set_n, put_n, lc0, ln0, la0, Nat.reduceAdd]; done) | (simp only [push_n, set_n, put_n, lc0, ln0, la0]; omega) | (simp only [List.all_cons, List.all_nil, one_bool, one_int, one_str, one_ptr, one_nilptr, one_slice, one_eslice, one_nilslice, one_func, one_iface, one_niliface, Bool.and_true, Bool.true_and, List.getD_cons_zero, List.getD_cons_succ, List.contains_cons, List.contains_nil, Bool.or_true, Bool.true_or, Bool.or_false, Bool.false_or, Nat.reduceBEq, *]; done) | fail)) only [q, go_sem, ↓act_zero, Hold.p, HoldK.k, HoldL.K, HoldL.body, Nat.reduceBEq, Nat.reduceAdd, reduceIte]
  refine callA_of (l01Join_c g10 _ v10 _ _ o9.sl o10.sl (by simp [beB_len]) (by rw [beB_len]; omega)) ?_
  rintro v11 g11 ⟨o11, E11⟩
  have a := a.ext E11
  have b := b.ext E11
  have le_E11 := E11.le
  have q := b.eq
  simp (disch := (first | omega | assumption | (simp only [push_n, set_n, put_n, lc0, ln0, la0, Nat.reduceAdd]; done) | (simp only [push_n, set_n, put_n, lc0, ln0, la0]; omega) | (simp only [List.all_cons, List.all_nil, one_bool, one_int, one_str, one_ptr, one_nilptr, one_slice, one_eslice, one_nilslice, one_func, one_iface, one_niliface, Bool.and_true, Bool.true_and, List.getD_cons_zero, List.getD_cons_succ, List.contains_cons, List.contains_nil, Bool.or_true, Bool.true_or, Bool.or_false, Bool.false_or, Nat.reduceBEq, *]; done) | fail)) only [q, go_sem, ↓act_zero, Hold.p, HoldK.k, HoldL.K, HoldL.body, Nat.reduceBEq, Nat.reduceAdd, reduceIte]
  refine callA_of (l03Put_c _ _ 4 (by decide)) ?_
  rintro v12 g12 ⟨o12, E12⟩
  have a := a.ext E12
  have b := b.ext E12
  have o11 := o11.ext E12
  have le_E12 := E12.le
  have q := b.eq
  simp (disch := (first | omega | assumption | (simp only [push_n, set_n, put_n, lc0, ln0, la0, Nat.reduceAdd]; done) | (simp only [push_n, set_n, put_n, lc0, ln0, la0]; omega) | (simp only [List.all_cons, List.all_nil, one_bool, one_int, one_str, one_ptr, one_nilptr, one_slice, one_eslice, one_nilslice, one_func, one_iface, one_niliface, Bool.and_true, Bool.true_and, List.getD_cons_zero, List.getD_cons_succ, List.contains_cons, List.contains_nil, Bool.or_true, Bool.true_or, Bool.or_false, Bool.false_or, Nat.reduceBEq, *]; done) | fail)) only [q, go_sem, ↓act_zero, Hold.p, HoldK.k, HoldL.K, HoldL.body, Nat.reduceBEq, Nat.reduceAdd, reduceIte]
  refine callA_of (l01Join_c g12 _ v12 _ _ o11.sl o12.sl (by simp [beB_len]) (by rw [beB_len]; omega)) ?_
  rintro v13 g13 ⟨o13, E13⟩
  have a := a.ext E13
  have b := b.ext E13
  have le_E13 := E13.le
  have q := b.eq
  simp (disch := (first | omega | assumption | (simp only [push_n, set_n, put_n, lc0, ln0, la0, Nat.reduceAdd]; done) | (simp only [push_n, set_n, put_n, lc0, ln0, la0]; omega) | (simp only [List.all_cons, List.all_nil, one_bool, one_int, one_str, one_ptr, one_nilptr, one_slice, one_eslice, one_nilslice, one_func, one_iface, one_niliface, Bool.and_true, Bool.true_and, List.getD_cons_zero, List.getD_cons_succ, List.contains_cons, List.contains_nil, Bool.or_true, Bool.true_or, Bool.or_false, Bool.false_or, Nat.reduceBEq, *]; done) | fail)) only [q, go_sem, ↓act_zero, Hold.p, HoldK.k, HoldL.K, HoldL.body, Nat.reduceBEq, Nat.reduceAdd, reduceIte]
  refine callA_of (l01Join_c g13 _ vo _ _ o13.sl a.o (by simp [beB_len]) (by omega)) ?_
  rintro v14 g14 ⟨o14, E14⟩
  have hx : ∀ xs : Txt, xs.length = 20 + p.opts.length → True := fun _ _ => trivial
  generalize hbs : _ ++ p.opts = bs at o14
  have hbl : bs.length = 20 + p.opts.length := by rw [← hbs]; simp [beB_len]; omega
  have S := ((Sp.start h).ext (((((((((((((e_g.trans e_g1).trans E2).trans E3).trans E4).trans E5).trans E6).trans E7).trans e_g8).trans E9).trans E10).trans E11).trans E12).trans E13)).own (x := false) E14 o14 (Nat.le_refl _)
  simp (disch := (first | omega | assumption | (simp only [push_n, set_n, put_n, lc0, ln0, la0, Nat.reduceAdd]; done) | (simp only [push_n, set_n, put_n, lc0, ln0, la0]; omega) | (simp only [List.all_cons, List.all_nil, one_bool, one_int, one_str, one_ptr, one_nilptr, one_slice, one_eslice, one_nilslice, one_func, one_iface, one_niliface, Bool.and_true, Bool.true_and, List.getD_cons_zero, List.getD_cons_succ, List.contains_cons, List.contains_nil, Bool.or_true, Bool.true_or, Bool.or_false, Bool.false_or, Nat.reduceBEq, *]; done) | fail)) only [go_sem, ↓act_zero, Hold.p, HoldK.k, HoldL.K, HoldL.body, Nat.reduceBEq, Nat.reduceAdd, reduceIte]
  refine callA_of (checksum_c g14 v14 bs o14.sl (by omega)) ?_
  rintro v15 g15 ⟨⟨n, rfl⟩, rfl⟩
  have S0 := S
  clear S
  obtain ⟨l, rfl, S⟩ := S0.slBox (strRows_ne (by omega))
  have q2 := (S.bx 0 rfl).eq
  rw [strRows_len]
  have ia : iadrO (IObj.rows (strRows bs) 5 1 false) 1 l 0 bs.length 10 = some (.ptr l 10 0) := iadrO_nat (k := 10) (by omega)
  have sh := ib_shr .i64 n 8 .u64 (by decide)
  have st1 := fun (b : UInt8) (K : HoldK) => stO_byte (l := l) (b := b) (el := 5) (h := g15) (K := K) (show 10 < bs.length by omega)
  simp (disch := (first | omega | assumption | (simp only [push_n, set_n, put_n, lc0, ln0, la0, Nat.reduceAdd]; done) | (simp only [push_n, set_n, put_n, lc0, ln0, la0]; omega) | (simp only [List.all_cons, List.all_nil, one_bool, one_int, one_str, one_ptr, one_nilptr, one_slice, one_eslice, one_nilslice, one_func, one_iface, one_niliface, Bool.and_true, Bool.true_and, List.getD_cons_zero, List.getD_cons_succ, List.contains_cons, List.contains_nil, Bool.or_true, Bool.true_or, Bool.or_false, Bool.false_or, Nat.reduceBEq, *]; done) | fail)) only [q2, iadrF_sl, ia, sh, w1, st1, go_sem, ↓act_zero, Hold.p, HoldK.k, HoldL.K, HoldL.body, Nat.reduceBEq, Nat.reduceAdd, reduceIte]
  generalize hb4 : UInt8.ofNat _ = x4
  generalize hq_g16 : IH.set g15 _ _ = g16
  have l_g16 : g16.n = g15.n := n_set hq_g16
  have S := S.set0 hq_g16
  clear hq_g16
  have q2 := (S.bx 0 rfl).eq
  have ia : iadrO (IObj.rows (strRows (bs.set 10 x4)) 5 1 false) 1 l 0 bs.length 11 = some (.ptr l 11 0) := iadrO_nat (k := 11) (by omega)
  have st1 := fun (b : UInt8) (K : HoldK) => stO_byte (l := l) (bs := bs.set 10 x4) (i := 11) (b := b) (el := 5) (h := g16) (K := K) (by rw [List.length_set]; omega)
  simp (disch := (first | omega | assumption | (simp only [push_n, set_n, put_n, lc0, ln0, la0, Nat.reduceAdd]; done) | (simp only [push_n, set_n, put_n, lc0, ln0, la0]; omega) | (simp only [List.all_cons, List.all_nil, one_bool, one_int, one_str, one_ptr, one_nilptr, one_slice, one_eslice, one_nilslice, one_func, one_iface, one_niliface, Bool.and_true, Bool.true_and, List.getD_cons_zero, List.getD_cons_succ, List.contains_cons, List.contains_nil, Bool.or_true, Bool.true_or, Bool.or_false, Bool.false_or, Nat.reduceBEq, *]; done) | fail)) only [q2, iadrF_sl, ia, w1, st1, go_sem, ↓act_zero, Hold.p, HoldK.k, HoldL.K, HoldL.body, Nat.reduceBEq, Nat.reduceAdd, reduceIte]
  generalize hb4 : UInt8.ofNat _ = x5
  generalize hq_g17 : IH.set g16 _ _ = g17
  have l_g17 : g17.n = g16.n := n_set hq_g17
  have S := S.set0 hq_g17
  clear hq_g17
  have S := S.boxSl (x := false) (n := bs.length) (by rw [strRows_len]; simp) (.inr (strRows_ne (by rw [List.length_set, List.length_set]; omega)))
  try simp (disch := (first | omega | assumption | (simp only [push_n, set_n, put_n, lc0, ln0, la0, Nat.reduceAdd]; done) | (simp only [push_n, set_n, put_n, lc0, ln0, la0]; omega) | (simp only [List.all_cons, List.all_nil, one_bool, one_int, one_str, one_ptr, one_nilptr, one_slice, one_eslice, one_nilslice, one_func, one_iface, one_niliface, Bool.and_true, Bool.true_and, List.getD_cons_zero, List.getD_cons_succ, List.contains_cons, List.contains_nil, Bool.or_true, Bool.true_or, Bool.or_false, Bool.false_or, Nat.reduceBEq, *]; done) | fail)) only [go_sem, ↓act_zero, Hold.p, HoldK.k, HoldL.K, HoldL.body, Nat.reduceBEq, Nat.reduceAdd, reduceIte]
  refine ⟨⟨_, S.slR, by simp; omega⟩, S.drop.oldE⟩
theorem encIP_c (h : IH) (p : Pk) (vo vp : IV) (a : PkAt h p vo vp) (hl : p.opts.length + p.pay.length ≤ 8000000) : ICalls Try.prog 27 [.agg (pkRow p vo vp)] h fun r h' => (∃ v, r = .tuple [v, .int .i64 (codeB p)] ∧ v.one = true) ∧ Ext h h' := by
  refine icalls (.of ok27) (Nat.le_of_ble_eq_true rfl) ?_
  unfold c27 pkRow
  have v1 := a.o.one
  have v2 := a.p.one
  have l1 := a.o.lenF
  have l2 := a.p.lenF
  rw [strRows_len] at l1 l2
  simp (disch := (first | omega | assumption | (simp only [push_n, set_n, put_n, lc0, ln0, la0, Nat.reduceAdd]; done) | (simp only [push_n, set_n, put_n, lc0, ln0, la0]; omega) | (simp only [List.all_cons, List.all_nil, one_bool, one_int, one_str, one_ptr, one_nilptr, one_slice, one_eslice, one_nilslice, one_func, one_iface, one_niliface, Bool.and_true, Bool.true_and, List.getD_cons_zero, List.getD_cons_succ, List.contains_cons, List.contains_nil, Bool.or_true, Bool.true_or, Bool.or_false, Bool.false_or, Nat.reduceBEq, *]; done) | fail)) only [v1, v2, go_sem, ↓act_zero, Hold.p, HoldK.k, HoldL.K, HoldL.body, Nat.reduceBEq, Nat.reduceAdd, reduceIte]
  generalize hq_g : IH.push h _ = g
  have e_g : Ext h g := Ext.pushed hq_g
  have l_g : g.n = h.n + 1 := n_pushed hq_g
  have b := At.pushed hq_g
  have a := a.ext e_g
  clear hq_g
  have q := b.eq
  try simp (disch := (first | omega | assumption | (simp only [push_n, set_n, put_n, lc0, ln0, la0, Nat.reduceAdd]; done) | (simp only [push_n, set_n, put_n, lc0, ln0, la0]; omega) | (simp only [List.all_cons, List.all_nil, one_bool, one_int, one_str, one_ptr, one_nilptr, one_slice, one_eslice, one_nilslice, one_func, one_iface, one_niliface, Bool.and_true, Bool.true_and, List.getD_cons_zero, List.getD_cons_succ, List.contains_cons, List.contains_nil, Bool.or_true, Bool.true_or, Bool.or_false, Bool.false_or, Nat.reduceBEq, *]; done) | fail)) only [q, go_sem, ↓act_zero, Hold.p, HoldK.k, HoldL.K, HoldL.body, Nat.reduceBEq, Nat.reduceAdd, reduceIte]
  refine callA_of (l05OK_c g p vo vp a) ?_
  rintro r g2 ⟨rfl, E⟩
  have b := b.ext E
  have a := a.ext E
  have le_E := E.le
  have q := b.eq
  have hE := e_g.trans E
  simp (disch := (first | omega | assumption | (simp only [push_n, set_n, put_n, lc0, ln0, la0, Nat.reduceAdd]; done) | (simp only [push_n, set_n, put_n, lc0, ln0, la0]; omega) | (simp only [List.all_cons, List.all_nil, one_bool, one_int, one_str, one_ptr, one_nilptr, one_slice, one_eslice, one_nilslice, one_func, one_iface, one_niliface, Bool.and_true, Bool.true_and, List.getD_cons_zero, List.getD_cons_succ, List.contains_cons, List.contains_nil, Bool.or_true, Bool.true_or, Bool.or_false, Bool.false_or, Nat.reduceBEq, *]; done) | fail)) only [go_sem, ↓act_zero, Hold.p, HoldK.k, HoldL.K, HoldL.body, Nat.reduceBEq, Nat.reduceAdd, reduceIte]
  refine test_of (fun hb => ?_) (fun hb => ?_)
  · have hf : okIPb p = false := by rwa [Bool.not_eq_true'] at hb
    simp (disch := (first | omega | assumption | (simp only [push_n, set_n, put_n, lc0, ln0, la0, Nat.reduceAdd]; done) | (simp only [push_n, set_n, put_n, lc0, ln0, la0]; omega) | (simp only [List.all_cons, List.all_nil, one_bool, one_int, one_str, one_ptr, one_nilptr, one_slice, one_eslice, one_nilslice, one_func, one_iface, one_niliface, Bool.and_true, Bool.true_and, List.getD_cons_zero, List.getD_cons_succ, List.contains_cons, List.contains_nil, Bool.or_true, Bool.true_or, Bool.or_false, Bool.false_or, Nat.reduceBEq, *]; done) | fail)) only [go_sem, ↓act_zero, Hold.p, HoldK.k, HoldL.K, HoldL.body, Nat.reduceBEq, Nat.reduceAdd, reduceIte]
    exact ⟨⟨_, by rw [codeB, if_pos hf], rfl⟩, hE⟩
  · have hf : okIPb p = true := by rwa [Bool.not_eq_false'] at hb
    have w1 : wr .i64 (20 + (p.opts.length : Int)) = 20 + (p.opts.length : Int) := wr64 _ (by omega)
    have w2 : wr .i64 (20 + (p.opts.length : Int) + (p.pay.length : Int)) = 20 + (p.opts.length : Int) + p.pay.length := wr64 _ (by omega)
    have hoff := okIPb_off hf
    have hol : p.opts.length ≤ 40 := by
      unfold okIPb at hf
      simp only [Bool.and_eq_true, decide_eq_true_eq] at hf
      omega
    have w3 : wr .i64 (p.off + (p.pay.length : Int)) = p.off + p.pay.length := wr64 _ (by omega)
    simp (disch := (first | omega | assumption | (simp only [push_n, set_n, put_n, lc0, ln0, la0, Nat.reduceAdd]; done) | (simp only [push_n, set_n, put_n, lc0, ln0, la0]; omega) | (simp only [List.all_cons, List.all_nil, one_bool, one_int, one_str, one_ptr, one_nilptr, one_slice, one_eslice, one_nilslice, one_func, one_iface, one_niliface, Bool.and_true, Bool.true_and, List.getD_cons_zero, List.getD_cons_succ, List.contains_cons, List.contains_nil, Bool.or_true, Bool.true_or, Bool.or_false, Bool.false_or, Nat.reduceBEq, *]; done) | fail)) only [q, l1, l2, w1, w2, w3, go_sem, ↓act_zero, Hold.p, HoldK.k, HoldL.K, HoldL.body, Nat.reduceBEq, Nat.reduceAdd, reduceIte]
    refine test_of (fun hc => ?_) (fun hc => ?_)
    · simp (disch := (first | omega | assumption | (simp only [push_n, set_n, put_n, lc0, ln0, la0, Nat.reduceAdd]; done) | (simp only [push_n, set_n, put_n, lc0, ln0, la0]; omega) | (simp only [List.all_cons, List.all_nil, one_bool, one_int, one_str, one_ptr, one_nilptr, one_slice, one_eslice, one_nilslice, one_func, one_iface, one_niliface, Bool.and_true, Bool.true_and, List.getD_cons_zero, List.getD_cons_succ, List.contains_cons, List.contains_nil, Bool.or_true, Bool.true_or, Bool.or_false, Bool.false_or, Nat.reduceBEq, *]; done) | fail)) only [go_sem, ↓act_zero, Hold.p, HoldK.k, HoldL.K, HoldL.body, Nat.reduceBEq, Nat.reduceAdd, reduceIte]
      exact ⟨⟨_, by rw [codeB, if_neg (by simp [hf]), if_pos (by simpa using hc)], rfl⟩, hE⟩
    · simp (disch := (first | omega | assumption | (simp only [push_n, set_n, put_n, lc0, ln0, la0, Nat.reduceAdd]; done) | (simp only [push_n, set_n, put_n, lc0, ln0, la0]; omega) | (simp only [List.all_cons, List.all_nil, one_bool, one_int, one_str, one_ptr, one_nilptr, one_slice, one_eslice, one_nilslice, one_func, one_iface, one_niliface, Bool.and_true, Bool.true_and, List.getD_cons_zero, List.getD_cons_succ, List.contains_cons, List.contains_nil, Bool.or_true, Bool.true_or, Bool.or_false, Bool.false_or, Nat.reduceBEq, *]; done) | fail)) only [q, go_sem, ↓act_zero, Hold.p, HoldK.k, HoldL.K, HoldL.body, Nat.reduceBEq, Nat.reduceAdd, reduceIte]
      refine callA_of (l05Head_c g2 p vo vp a (by omega)) ?_
      rintro r g3 ⟨⟨bs, s3, hbl⟩, E3⟩
      have b := b.ext E3
      have a := a.ext E3
      have le_E3 := E3.le
      have q := b.eq
      simp (disch := (first | omega | assumption | (simp only [push_n, set_n, put_n, lc0, ln0, la0, Nat.reduceAdd]; done) | (simp only [push_n, set_n, put_n, lc0, ln0, la0]; omega) | (simp only [List.all_cons, List.all_nil, one_bool, one_int, one_str, one_ptr, one_nilptr, one_slice, one_eslice, one_nilslice, one_func, one_iface, one_niliface, Bool.and_true, Bool.true_and, List.getD_cons_zero, List.getD_cons_succ, List.contains_cons, List.contains_nil, Bool.or_true, Bool.true_or, Bool.or_false, Bool.false_or, Nat.reduceBEq, *]; done) | fail)) only [q, go_sem, ↓act_zero, Hold.p, HoldK.k, HoldL.K, HoldL.body, Nat.reduceBEq, Nat.reduceAdd, reduceIte]
      refine callA_of (l01Join_c g3 _ vp _ _ s3 a.p (by omega) (by omega)) ?_
      rintro r4 g4 ⟨o4, E4⟩
      simp (disch := (first | omega | assumption | (simp only [push_n, set_n, put_n, lc0, ln0, la0, Nat.reduceAdd]; done) | (simp only [push_n, set_n, put_n, lc0, ln0, la0]; omega) | (simp only [List.all_cons, List.all_nil, one_bool, one_int, one_str, one_ptr, one_nilptr, one_slice, one_eslice, one_nilslice, one_func, one_iface, one_niliface, Bool.and_true, Bool.true_and, List.getD_cons_zero, List.getD_cons_succ, List.contains_cons, List.contains_nil, Bool.or_true, Bool.true_or, Bool.or_false, Bool.false_or, Nat.reduceBEq, *]; done) | fail)) only [go_sem, ↓act_zero, Hold.p, HoldK.k, HoldL.K, HoldL.body, Nat.reduceBEq, Nat.reduceAdd, reduceIte]
      exact ⟨⟨_, by rw [codeB, if_neg (by simp [hf]), if_neg (by simpa using hc)], o4.one⟩, (hE.trans E3).trans E4⟩
end
end Go.Proofs.Ytjmmmmdpkfpojaa

set_option maxRecDepth 20000
namespace Go.Proofs.Ytjmmmmdpkfpojaa
open Go Go.IW
section
attribute [local go_sem] List.getElem?_cons_zero List.getElem?_cons_succ Option.bind_some List.map_cons List.map_nil Nat.zero_add if_true List.getD_cons_zero List.getD_cons_succ List.contains_cons List.contains_nil Bool.or_true Bool.true_or Bool.or_false Bool.false_or Bool.not_true Bool.not_false true_and and_true rowA_whole mid_get rowO_rows cellO_rows upd_ne Nat.add_assoc Nat.add_zero List.all_cons List.all_nil one_bool one_int one_str one_ptr one_nilptr one_slice one_eslice one_nilslice one_func one_iface one_niliface Bool.and_true Bool.and_self List.length_cons List.length_nil Nat.one_ne_zero Nat.succ_ne_zero if_false List.set_cons_zero List.set_cons_succ lay_nil lay_1 lay_w Option.map_some cells_one rowA_some List.drop_succ_cons List.drop_zero List.take_succ_cons List.take_zero

theorem ownPacket_c (h : IH) (L : List As) (S : Sp h L) (p : Pk) (vo vp : IV) (a : PkAt h p vo vp) (hl : p.opts.length + p.pay.length ≤ 8388608) :
    ICalls Try.prog 40 [.agg (pkRow p vo vp)] h fun r h' => ∃ wo wp, r = .agg (pkRow p wo wp) ∧ Sp h' (sl false 5 1 wo (strRows p.opts) :: sl false 5 1 wp (strRows p.pay) :: L) := by
  refine icalls (.of ok40) (Nat.le_of_ble_eq_true rfl) ?_
  unfold c40 pkRow
  have v1 := a.o.one
  have v2 := a.p.one
  try simp (disch := (first | omega | assumption | (simp only [lc0, ln0, la0]; first | done | omega) | (simp (disch := assumption) only [go_sem, one_as, Nat.reduceBEq]; done) | fail)) only [go_sem, Hold.p, HoldK.k, HoldL.K, HoldL.body, Nat.reduceBEq, Nat.reduceAdd, reduceIte]
  refine Sp.bxA S (by first | rfl | (rw [cells_one (by assumption)]; rfl)) (by first | rfl | simp (disch := assumption) only [go_sem, cells_one, one_as]) fun p1 g1 S E_g1 l_g1 => ?_
  try simp (disch := (first | omega | assumption | (simp only [lc0, ln0, la0]; first | done | omega) | (simp (disch := assumption) only [go_sem, one_as, Nat.reduceBEq]; done) | fail)) only [go_sem, Hold.p, HoldK.k, HoldL.K, HoldL.body, Nat.reduceBEq, Nat.reduceAdd, reduceIte]
  refine Sp.zero S fun p2 g2 S E_g2 l_g2 => ?_
  have q0 := (S.bx 0 rfl).eq
  have q1 := (S.bx 1 rfl).eq
  try simp (disch := (first | omega | assumption | (simp only [lc0, ln0, la0]; first | done | omega) | (simp (disch := assumption) only [go_sem, one_as, Nat.reduceBEq]; done) | fail)) only [q0, q1, go_sem, Hold.p, HoldK.k, HoldL.K, HoldL.body, Nat.reduceBEq, Nat.reduceAdd, reduceIte]
  have a := (a.ext E_g1).ext E_g2
  refine callA_of (dup_c g2 vo _ a.o (by omega)) ?_
  rintro w3 g3 ⟨o3, E3⟩
  have a := a.ext E3
  have S := S.own (x := false) E3 o3 (Nat.le_refl _)
  have s0 := S.slA 0 rfl
  have len_s0 := s0.lenF
  have z0 := s0.one
  have q1 := (S.bx 1 rfl).eq
  have q2 := (S.bx 2 rfl).eq
  try simp (disch := (first | omega | assumption | (simp only [lc0, ln0, la0]; first | done | omega) | (simp (disch := assumption) only [go_sem, one_as, Nat.reduceBEq]; done) | fail)) only [len_s0, z0, q1, q2, go_sem, Hold.p, HoldK.k, HoldL.K, HoldL.body, Nat.reduceBEq, Nat.reduceAdd, reduceIte]
  refine callA_of (dup_c g3 vp _ a.p (by omega)) ?_
  rintro w4 g4 ⟨o4, E4⟩
  have S := S.own (x := false) E4 o4 (Nat.le_refl _)
  have z3 := o3.one
  have s0 := S.slA 0 rfl
  have len_s0 := s0.lenF
  have z0 := s0.one
  have q2 := (S.bx 2 rfl).eq
  have q3 := (S.bx 3 rfl).eq
  try simp (disch := (first | omega | assumption | (simp only [lc0, ln0, la0]; first | done | omega) | (simp (disch := assumption) only [go_sem, one_as, Nat.reduceBEq]; done) | fail)) only [len_s0, z0, q2, q3, go_sem, Hold.p, HoldK.k, HoldL.K, HoldL.body, Nat.reduceBEq, Nat.reduceAdd, reduceIte]
  refine st1_of (Nat.le_of_ble_eq_true rfl) (by first | rfl | assumption) fun g5 hg => ?_
  have l_g5 := n_set hg
  have S := S.set3 hg
  clear hg
  simp only [sz0, ss0, ts0, tz0, ds0, dz0, ca0, na0, Nat.reduceAdd] at S
  have q3 := (S.bx 3 rfl).eq
  try simp (disch := (first | omega | assumption | (simp only [lc0, ln0, la0]; first | done | omega) | (simp (disch := assumption) only [go_sem, one_as, Nat.reduceBEq]; done) | fail)) only [q3, go_sem, Hold.p, HoldK.k, HoldL.K, HoldL.body, Nat.reduceBEq, Nat.reduceAdd, reduceIte]
  refine st1_of (Nat.le_of_ble_eq_true rfl) (by first | rfl | assumption) fun g6 hg => ?_
  have l_g6 := n_set hg
  have S := S.set3 hg
  clear hg
  simp only [sz0, ss0, ts0, tz0, ds0, dz0, ca0, na0, Nat.reduceAdd] at S
  have q2 := (S.bx 2 rfl).eq
  have q3 := (S.bx 3 rfl).eq
  try simp (disch := (first | omega | assumption | (simp only [lc0, ln0, la0]; first | done | omega) | (simp (disch := assumption) only [go_sem, one_as, Nat.reduceBEq]; done) | fail)) only [q2, q3, go_sem, Hold.p, HoldK.k, HoldL.K, HoldL.body, Nat.reduceBEq, Nat.reduceAdd, reduceIte]
  refine stw_of rfl rfl (by first | rfl | simp (disch := assumption) only [go_sem, cells_one, one_as]) fun g7 hg => ?_
  have l_g7 := n_set hg
  have S := S.set2 hg
  clear hg
  have q2 := (S.bx 2 rfl).eq
  try simp (disch := (first | omega | assumption | (simp only [lc0, ln0, la0]; first | done | omega) | (simp (disch := assumption) only [go_sem, one_as, Nat.reduceBEq]; done) | fail)) only [q2, go_sem, Hold.p, HoldK.k, HoldL.K, HoldL.body, Nat.reduceBEq, Nat.reduceAdd, reduceIte]
  have S := by simpa only [mc0, mn0, List.getD_cons_zero, List.getD_cons_succ, ds0, dz0, ca0, na0] using Sp.sel S 4 [1, 0] (by simp only [lc0]; omega) (by decide) (by decide)
  exact ⟨w3, w4, rfl, S⟩
theorem copyPacket_c (h h0 : IH) (L : List As) (S : Sp h (old h0 :: L)) (p : Pk) (vo vp : IV) (a : PkAt h0 p vo vp) (hl : p.opts.length + p.pay.length ≤ 8388608) :
    ICalls Try.prog 48 [.agg (pkRow p vo vp)] h fun r h' => ∃ wo wp, r = .agg (pkRow p wo wp) ∧ Sp h' (sl false 5 1 wo (strRows p.opts) :: sl false 5 1 wp (strRows p.pay) :: old h0 :: L) := by
  refine icalls (.of ok48) (Nat.le_of_ble_eq_true rfl) ?_
  unfold c48 pkRow
  have v1 := a.o.one
  have v2 := a.p.one
  try simp (disch := (first | omega | assumption | (simp only [lc0, ln0, la0]; first | done | omega) | (simp (disch := assumption) only [go_sem, one_as, Nat.reduceBEq]; done) | fail)) only [go_sem, Hold.p, HoldK.k, HoldL.K, HoldL.body, Nat.reduceBEq, Nat.reduceAdd, reduceIte]
  refine Sp.bxA S (by first | rfl | (rw [cells_one (by assumption)]; rfl)) (by first | rfl | simp (disch := assumption) only [go_sem, cells_one, one_as]) fun p1 g1 S E_g1 l_g1 => ?_
  try simp (disch := (first | omega | assumption | (simp only [lc0, ln0, la0]; first | done | omega) | (simp (disch := assumption) only [go_sem, one_as, Nat.reduceBEq]; done) | fail)) only [go_sem, Hold.p, HoldK.k, HoldL.K, HoldL.body, Nat.reduceBEq, Nat.reduceAdd, reduceIte]
  refine Sp.zero S fun p2 g2 S E_g2 l_g2 => ?_
  have q0 := (S.bx 0 rfl).eq
  have q1 := (S.bx 1 rfl).eq
  try simp (disch := (first | omega | assumption | (simp only [lc0, ln0, la0]; first | done | omega) | (simp (disch := assumption) only [go_sem, one_as, Nat.reduceBEq]; done) | fail)) only [q0, q1, go_sem, Hold.p, HoldK.k, HoldL.K, HoldL.body, Nat.reduceBEq, Nat.reduceAdd, reduceIte]
  refine callA_of (l01Copy_c g2 vo _ (a.ext (S.ol 2 rfl)).o (by omega)) ?_
  rintro w3 g3 ⟨o3, E3⟩
  have S := S.own (x := false) E3 o3 (Nat.le_refl _)
  have s0 := S.slA 0 rfl
  have len_s0 := s0.lenF
  have z0 := s0.one
  have q1 := (S.bx 1 rfl).eq
  have q2 := (S.bx 2 rfl).eq
  try simp (disch := (first | omega | assumption | (simp only [lc0, ln0, la0]; first | done | omega) | (simp (disch := assumption) only [go_sem, one_as, Nat.reduceBEq]; done) | fail)) only [len_s0, z0, q1, q2, go_sem, Hold.p, HoldK.k, HoldL.K, HoldL.body, Nat.reduceBEq, Nat.reduceAdd, reduceIte]
  refine st1_of (Nat.le_of_ble_eq_true rfl) (by first | rfl | assumption) fun g4 hg => ?_
  have l_g4 := n_set hg
  have S := S.set2 hg
  clear hg
  simp only [sz0, ss0, ts0, tz0, ds0, dz0, ca0, na0, Nat.reduceAdd] at S
  have q1 := (S.bx 1 rfl).eq
  have q2 := (S.bx 2 rfl).eq
  try simp (disch := (first | omega | assumption | (simp only [lc0, ln0, la0]; first | done | omega) | (simp (disch := assumption) only [go_sem, one_as, Nat.reduceBEq]; done) | fail)) only [q1, q2, go_sem, Hold.p, HoldK.k, HoldL.K, HoldL.body, Nat.reduceBEq, Nat.reduceAdd, reduceIte]
  refine callA_of (l01Copy_c g4 vp _ (a.ext (S.ol 3 rfl)).p (by omega)) ?_
  rintro w5 g5 ⟨o5, E5⟩
  have S := S.own (x := false) E5 o5 (Nat.le_refl _)
  have s0 := S.slA 0 rfl
  have len_s0 := s0.lenF
  have z0 := s0.one
  have q2 := (S.bx 2 rfl).eq
  have q3 := (S.bx 3 rfl).eq
  try simp (disch := (first | omega | assumption | (simp only [lc0, ln0, la0]; first | done | omega) | (simp (disch := assumption) only [go_sem, one_as, Nat.reduceBEq]; done) | fail)) only [len_s0, z0, q2, q3, go_sem, Hold.p, HoldK.k, HoldL.K, HoldL.body, Nat.reduceBEq, Nat.reduceAdd, reduceIte]
  refine st1_of (Nat.le_of_ble_eq_true rfl) (by first | rfl | assumption) fun g6 hg => ?_
  have l_g6 := n_set hg
  have S := S.set3 hg
  clear hg
  simp only [sz0, ss0, ts0, tz0, ds0, dz0, ca0, na0, Nat.reduceAdd] at S
  have q2 := (S.bx 2 rfl).eq
  have q3 := (S.bx 3 rfl).eq
  try simp (disch := (first | omega | assumption | (simp only [lc0, ln0, la0]; first | done | omega) | (simp (disch := assumption) only [go_sem, one_as, Nat.reduceBEq]; done) | fail)) only [q2, q3, go_sem, Hold.p, HoldK.k, HoldL.K, HoldL.body, Nat.reduceBEq, Nat.reduceAdd, reduceIte]
  refine stw_of rfl rfl (by first | rfl | simp (disch := assumption) only [go_sem, cells_one, one_as]) fun g7 hg => ?_
  have l_g7 := n_set hg
  have S := S.set2 hg
  clear hg
  have q2 := (S.bx 2 rfl).eq
  try simp (disch := (first | omega | assumption | (simp only [lc0, ln0, la0]; first | done | omega) | (simp (disch := assumption) only [go_sem, one_as, Nat.reduceBEq]; done) | fail)) only [q2, go_sem, Hold.p, HoldK.k, HoldL.K, HoldL.body, Nat.reduceBEq, Nat.reduceAdd, reduceIte]
  have S := by simpa only [mc0, mn0, List.getD_cons_zero, List.getD_cons_succ, ds0, dz0, ca0, na0] using Sp.sel S 4 [1, 0] (by simp only [lc0]; omega) (by decide) (by decide)
  exact ⟨w3, w5, rfl, S⟩
end
end Go.Proofs.Ytjmmmmdpkfpojaa

namespace Go.Proofs.Ytjmmmmdpkfpojaa
open Go Go.IW

abbrev Pcs := List (Int × List UInt8)
def pTo (q : Int × List UInt8) : Int := q.1 + q.2.length
def totP (l : Pcs) : Nat := (l.map fun q => q.2.length).sum
structure Mk where
  src : Int
  dst : Int
  proto : Int
  id : Int
  ps : Pcs
  en : Int
  first : Option Pk
  begun : Int
  ref : Bool
  deriving Inhabited
def Mk.refuse (m : Mk) : Mk := { m with ref := true, ps := [], first := none, en := -1 }

def scanI (off en : Int) (mf : Bool) (pay : List UInt8) : Pcs → Bool → Option Bool
  | [], same => some same
  | q :: r, same =>
    if q.1 = off ∧ pTo q = en ∧ q.2 = pay then scanI off en mf pay r true
    else if (q.1 < en ∧ off < pTo q) ∨ (mf = false ∧ en < pTo q) then none
    else scanI off en mf pay r same
def addI (m : Mk) (p : Pk) : Mk × Bool :=
  let en := p.off + p.pay.length
  match scanI p.off en p.mf p.pay m.ps false with
  | none => (m.refuse, false)
  | some same =>
    if (p.mf = false ∧ 0 ≤ m.en ∧ m.en ≠ en) ∨ (0 ≤ m.en ∧ m.en < en) then (m.refuse, false) else
    let m1 := if p.mf = false then { m with en := en } else m
    let m2 := if same = true then m1 else { m1 with ps := m1.ps ++ [(p.off, p.pay)], first := if p.off = 0 then some p else m1.first }
    match m2.first with
    | none => (m2, false)
    | some f => if m2.en < 0 then (m2, false) else
      if 65535 < 20 + (f.opts.length : Int) + m2.en then (m2.refuse, false) else
      (m2, !decide ((totP m2.ps : Int) < m2.en))

def scanS (off en : Int) (pay : List UInt8) : Pcs → Bool → Bool → Bool × Bool
  | [], same, ref => (same, ref)
  | q :: r, same, ref =>
    if q.1 = off ∧ q.2 = pay then scanS off en pay r true ref
    else if q.1 < en ∧ off < pTo q then scanS off en pay r same true
    else scanS off en pay r same ref
structure Ms where
  src : Int
  dst : Int
  proto : Int
  id : Int
  born : Int
  ps : Pcs
  en : Int
  ref : Bool
  has : Bool
  first : Pk
  deriving Inhabited
def addS (m : Ms) (p : Pk) : Ms :=
  let en := p.off + p.pay.length
  let (same, ref) := scanS p.off en p.pay m.ps false m.ref
  let ref := ref || (!p.mf && decide (0 ≤ m.en) && !decide (m.en = en))
  let e2 := if p.mf = false ∧ m.en < 0 then en else m.en
  let ps := if same = true then m.ps else m.ps ++ [(p.off, p.pay)]
  let ref := ref || (decide (0 ≤ e2) && ps.any fun q => decide (e2 < pTo q))
  let f := if p.off = 0 ∧ m.has = false then p else m.first
  let has := decide (p.off = 0) || m.has
  let ref := ref || (has && decide (0 ≤ e2) && decide (65535 < 20 + (f.opts.length : Int) + e2))
  if ref = true then { m with ps := [], en := e2, ref := true, has := false, first := f } else { m with ps := ps, en := e2, ref := false, has := has, first := f }
def wholeS (m : Ms) : Bool := !m.ref && !decide (m.en < 0) && decide ((totP m.ps : Int) = m.en)

structure Good (m : Ms) : Prop where
  ne : ∀ q ∈ m.ps, q.2 ≠ []
  nn : ∀ q ∈ m.ps, 0 ≤ q.1
  apart : m.ps.Pairwise fun q r => pTo q ≤ r.1 ∨ pTo r ≤ q.1
  within : 0 ≤ m.en → ∀ q ∈ m.ps, pTo q ≤ m.en
  first : m.has = true ↔ ∃ q ∈ m.ps, q.1 = 0
  en : m.en = -1 ∨ 0 < m.en
structure Both (m : Mk) (s : Ms) : Prop where
  src : m.src = s.src
  dst : m.dst = s.dst
  proto : m.proto = s.proto
  id : m.id = s.id
  begun : m.begun = s.born
  ref : m.ref = s.ref
  off : m.ref = true → m.ps = [] ∧ m.first = none ∧ s.ps = [] ∧ s.has = false
  on : m.ref = false → m.ps = s.ps ∧ m.en = s.en ∧ m.first = (if s.has = true then some s.first else none) ∧ Good s

theorem pTo_lt {q : Int × List UInt8} (h : q.2 ≠ []) : q.1 < pTo q := by
  have := List.length_pos_iff.2 h
  unfold pTo; omega

def spots (q : Int × List UInt8) : List Nat := (List.range q.2.length).map fun k => q.1.toNat + k
theorem mem_spots {q : Int × List UInt8} (h0 : 0 ≤ q.1) {x : Nat} : x ∈ spots q ↔ q.1 ≤ x ∧ (x : Int) < pTo q := by
  unfold spots pTo
  simp only [List.mem_map, List.mem_range]
  constructor
  · rintro ⟨k, hk, rfl⟩; omega
  · intro ⟨h1, h2⟩; exact ⟨x - q.1.toNat, by omega, by omega⟩
theorem spots_len : ∀ (l : Pcs), (l.flatMap spots).length = totP l
  | [] => rfl
  | q :: l => by simp [List.flatMap_cons, spots_len l, totP, spots]
theorem spots_nodup : ∀ {l : Pcs}, (∀ q ∈ l, 0 ≤ q.1) → l.Pairwise (fun q r => pTo q ≤ r.1 ∨ pTo r ≤ q.1) → (l.flatMap spots).Nodup
  | [], _, _ => List.nodup_nil
  | q :: l, h0, hp => by
    rw [List.flatMap_cons, List.nodup_append]
    rw [List.pairwise_cons] at hp
    refine ⟨?_, spots_nodup (fun q hq => h0 q (List.mem_cons_of_mem _ hq)) hp.2, ?_⟩
    · unfold spots
      exact List.Pairwise.map _ (fun a b hab e => hab (by omega)) (List.nodup_range (n := q.2.length))
    · intro x hx y hy e
      subst e
      obtain ⟨r, hr, hxr⟩ := List.mem_flatMap.1 hy
      have h1 := (mem_spots (h0 q List.mem_cons_self)).1 hx
      have h2 := (mem_spots (h0 r (List.mem_cons_of_mem _ hr))).1 hxr
      have := hp.1 r hr
      omega
theorem tot_le {l : Pcs} {lo hi : Nat} (h0 : ∀ q ∈ l, (lo : Int) ≤ q.1 ∧ pTo q ≤ hi) (hp : l.Pairwise (fun q r => pTo q ≤ r.1 ∨ pTo r ≤ q.1)) : totP l ≤ hi - lo := by
  rw [← spots_len]
  have hn := spots_nodup (fun q hq => by have := h0 q hq; omega) hp
  have := nodup_le (l.flatMap spots) (List.range' lo (hi - lo)) hn (fun x hx => by
    obtain ⟨q, hq, hxq⟩ := List.mem_flatMap.1 hx
    have h1 := h0 q hq
    have h2 := (mem_spots (by omega)).1 hxq
    rw [List.mem_range'_1]
    omega)
  simpa using this

theorem scanS_ref : ∀ {off en : Int} {pay : List UInt8} {l : Pcs} {same : Bool}, (scanS off en pay l same true).2 = true
  | _, _, _, [], _ => rfl
  | off, en, pay, q :: l, same => by
    unfold scanS
    split
    · exact scanS_ref
    · split <;> exact scanS_ref
theorem scan_both {off en : Int} {mf : Bool} {pay : List UInt8} (hen : en = off + pay.length) : ∀ {l : Pcs} {same : Bool},
    (∀ s, scanI off en mf pay l same = some s → scanS off en pay l same false = (s, false) ∧ (mf = false → ∀ q ∈ l, pTo q ≤ en) ∧ (s = true → same = true ∨ ∃ q ∈ l, q.1 = off ∧ q.2 = pay) ∧ (s = false → ∀ q ∈ l, en ≤ q.1 ∨ pTo q ≤ off)) ∧
    (scanI off en mf pay l same = none → (scanS off en pay l same false).2 = true ∨ (mf = false ∧ ∃ q ∈ l, en < pTo q))
  | [], same => by
    refine ⟨fun s hs => ?_, fun h => by simp [scanI] at h⟩
    simp only [scanI, Option.some.injEq] at hs
    subst hs
    exact ⟨rfl, fun _ q hq => by simp at hq, fun h => .inl h, fun _ q hq => by simp at hq⟩
  | q :: l, same => by
    by_cases h1 : q.1 = off ∧ q.2 = pay
    · have hto : pTo q = en := by unfold pTo; rw [h1.1, h1.2, hen]
      have e1 : scanI off en mf pay (q :: l) same = scanI off en mf pay l true := by
        rw [scanI, if_pos ⟨h1.1, hto, h1.2⟩]
      have e2 : scanS off en pay (q :: l) same false = scanS off en pay l true false := by
        rw [scanS, if_pos h1]
      have ih := scan_both (mf := mf) hen (l := l) (same := true)
      rw [e1, e2]
      refine ⟨fun s hs => ?_, fun h => ?_⟩
      · obtain ⟨g1, g2, g3, g4⟩ := ih.1 s hs
        refine ⟨g1, fun hm r hr => ?_, fun _ => .inr ⟨q, List.mem_cons_self, h1⟩, fun hs' => ?_⟩
        · rcases List.mem_cons.1 hr with rfl | hr
          · omega
          · exact g2 hm r hr
        · exfalso
          subst hs'
          have : ∀ {l : Pcs}, scanI off en mf pay l true ≠ some false := by
            intro l
            induction l with
            | nil => simp [scanI]
            | cons a l ih => rw [scanI]; split; exact ih; split; simp; exact ih
          exact this hs
      · rcases ih.2 h with g | ⟨hm, r, hr, g⟩
        · exact .inl g
        · exact .inr ⟨hm, r, List.mem_cons_of_mem _ hr, g⟩
    · have n1 : ¬ (q.1 = off ∧ pTo q = en ∧ q.2 = pay) := fun h => h1 ⟨h.1, h.2.2⟩
      by_cases h2 : q.1 < en ∧ off < pTo q
      · have e1 : scanI off en mf pay (q :: l) same = none := by rw [scanI, if_neg n1, if_pos (.inl h2)]
        have e2 : scanS off en pay (q :: l) same false = scanS off en pay l same true := by rw [scanS, if_neg h1, if_pos h2]
        rw [e1, e2]
        exact ⟨fun s hs => by simp at hs, fun _ => .inl scanS_ref⟩
      · have e2 : scanS off en pay (q :: l) same false = scanS off en pay l same false := by rw [scanS, if_neg h1, if_neg h2]
        by_cases h3 : mf = false ∧ en < pTo q
        · have e1 : scanI off en mf pay (q :: l) same = none := by rw [scanI, if_neg n1, if_pos (.inr h3)]
          rw [e1]
          exact ⟨fun s hs => by simp at hs, fun _ => .inr ⟨h3.1, q, List.mem_cons_self, h3.2⟩⟩
        · have e1 : scanI off en mf pay (q :: l) same = scanI off en mf pay l same := by rw [scanI, if_neg n1, if_neg (by rintro (h | h); exact h2 h; exact h3 h)]
          have ih := scan_both (mf := mf) hen (l := l) (same := same)
          rw [e1, e2]
          refine ⟨fun s hs => ?_, fun h => ?_⟩
          · obtain ⟨g1, g2, g3, g4⟩ := ih.1 s hs
            refine ⟨g1, fun hm r hr => ?_, fun hs' => ?_, fun hs' r hr => ?_⟩
            · rcases List.mem_cons.1 hr with rfl | hr
              · have : ¬ en < pTo r := fun h => h3 ⟨hm, h⟩
                omega
              · exact g2 hm r hr
            · rcases g3 hs' with g | ⟨r, hr, g⟩
              · exact .inl g
              · exact .inr ⟨r, List.mem_cons_of_mem _ hr, g⟩
            · rcases List.mem_cons.1 hr with rfl | hr
              · omega
              · exact g4 hs' r hr
          · rcases ih.2 h with g | ⟨hm, r, hr, g⟩
            · exact .inl g
            · exact .inr ⟨hm, r, List.mem_cons_of_mem _ hr, g⟩

theorem add_both {m : Mk} {s : Ms} {p : Pk} (hb : Both m s) (hr : m.ref = false) (ho : 0 ≤ p.off) (hp : p.pay ≠ []) :
    Both (addI m p).1 (addS s p) ∧ (addI m p).2 = wholeS (addS s p) ∧ ((addI m p).2 = true → (addI m p).1.ref = false ∧ (addI m p).1.first = some (addS s p).first) := by
  obtain ⟨hps, hen, hfi, hG⟩ := hb.on hr
  have hsr : s.ref = false := hb.ref.symm.trans hr
  have hn : 0 < (p.pay.length : Int) := by have := List.length_pos_iff.2 hp; omega
  -- refused on both sides
  have bad : ∀ (f : Pk) (e : Int), Both m.refuse { s with ps := [], en := e, ref := true, has := false, first := f } := fun f e =>
    ⟨hb.src, hb.dst, hb.proto, hb.id, hb.begun, rfl, fun _ => ⟨rfl, rfl, rfl, rfl⟩, fun h => by cases h⟩
  have hE : ∃ E, E = p.off + (p.pay.length : Int) := ⟨_, rfl⟩
  obtain ⟨E, hE⟩ := hE
  have hEp : 0 < E := by omega
  have hsc := scan_both (mf := p.mf) (pay := p.pay) hE (l := s.ps) (same := false)
  unfold addI addS
  simp only [← hE, hps, hsr]
  have hnew : pTo (p.off, p.pay) = E := hE.symm
  cases hscan : scanI p.off E p.mf p.pay s.ps false with
  | none =>
    simp only
    have hbadS : ((scanS p.off E p.pay s.ps false false).2 || (!p.mf && decide (0 ≤ s.en) && !decide (s.en = E)) ||
        (decide (0 ≤ (if p.mf = false ∧ s.en < 0 then E else s.en)) && ((if (scanS p.off E p.pay s.ps false false).1 = true then s.ps else s.ps ++ [(p.off, p.pay)]).any fun q => decide ((if p.mf = false ∧ s.en < 0 then E else s.en) < pTo q)))) = true := by
      rcases hsc.2 hscan with h | ⟨hm, q, hq, h⟩
      · rw [h]; rfl
      · have hmem : q ∈ (if (scanS p.off E p.pay s.ps false false).1 = true then s.ps else s.ps ++ [(p.off, p.pay)]) := by
          split
          · exact hq
          · exact List.mem_append_left _ hq
        by_cases h0 : 0 ≤ s.en
        · have hw := hG.within h0 q hq
          have : s.en ≠ E := by omega
          simp [hm, h0, this]
        · have he : s.en < 0 := by omega
          have h1 : (if p.mf = false ∧ s.en < 0 then E else s.en) = E := if_pos ⟨hm, he⟩
          rw [h1]
          have h2 : (if (scanS p.off E p.pay s.ps false false).1 = true then s.ps else s.ps ++ [(p.off, p.pay)]).any (fun q => decide (E < pTo q)) = true := List.any_eq_true.2 ⟨q, hmem, by simpa using h⟩
          rw [h2]
          have h3 : decide (0 ≤ E) = true := decide_eq_true (by omega)
          simp [h3]
    rw [hbadS, Bool.true_or, if_pos rfl]
    refine ⟨bad _ _, ?_, fun h => by cases h⟩
    simp [wholeS]
  | some same =>
    obtain ⟨g1, g2, g3, g4⟩ := hsc.1 same hscan
    rw [g1]
    simp only [Bool.false_or]
    by_cases hC : (p.mf = false ∧ 0 ≤ m.en ∧ m.en ≠ E) ∨ (0 ≤ m.en ∧ m.en < E)
    · rw [if_pos hC]
      rw [hen] at hC
      have hbadS : ((!p.mf && decide (0 ≤ s.en) && !decide (s.en = E)) ||
          (decide (0 ≤ (if p.mf = false ∧ s.en < 0 then E else s.en)) && ((if same = true then s.ps else s.ps ++ [(p.off, p.pay)]).any fun q => decide ((if p.mf = false ∧ s.en < 0 then E else s.en) < pTo q)))) = true := by
        rcases hC with ⟨h1, h2, h3⟩ | ⟨h2, h3⟩
        · simp [h1, h2, h3]
        · cases hm : p.mf with
          | false =>
            have : s.en ≠ E := by omega
            simp [h2, this]
          | true =>
            have h1 : (if (true = false) ∧ s.en < 0 then E else s.en) = s.en := if_neg (by simp)
            rw [h1]
            cases hs : same with
            | true =>
              exfalso
              rcases g3 hs with h | ⟨q, hq, h4, h5⟩
              · cases h
              · have := hG.within h2 q hq
                have h6 : pTo q = E := by unfold pTo; rw [h4, h5, hE]
                omega
            | false =>
              have h4 : (s.ps ++ [(p.off, p.pay)]).any (fun q => decide (s.en < pTo q)) = true := List.any_eq_true.2 ⟨_, List.mem_append_right _ List.mem_cons_self, by rw [hnew]; simpa using h3⟩
              have h5 : decide (0 ≤ s.en) = true := decide_eq_true h2
              simp only [Bool.false_eq_true, if_false, h4, h5, Bool.and_true, Bool.or_true]
      rw [hbadS, Bool.true_or, if_pos rfl]
      refine ⟨bad _ _, ?_, fun h => by cases h⟩
      simp [wholeS]
    · rw [if_neg hC]
      rw [hen] at hC
      have hC1 : ∀ (_ : p.mf = false) (_ : 0 ≤ s.en), s.en = E := fun h1 h2 => Decidable.byContradiction fun h3 => hC (.inl ⟨h1, h2, h3⟩)
      have hC2 : ∀ (_ : 0 ≤ s.en), E ≤ s.en := fun h2 => Decidable.byContradiction fun h3 => hC (.inr ⟨h2, by omega⟩)
      have r2 : (!p.mf && decide (0 ≤ s.en) && !decide (s.en = E)) = false := by
        cases hm : p.mf
        · by_cases h0 : 0 ≤ s.en
          · simp [hC1 hm h0]
          · simp [h0]
        · simp
      rw [r2, Bool.false_or]
      -- the end
      generalize he2 : (if p.mf = false ∧ s.en < 0 then E else s.en) = e2
      have he2' : e2 = if p.mf = false then E else s.en := by
        rw [← he2]
        by_cases hm : p.mf = false
        · by_cases h0 : s.en < 0
          · rw [if_pos ⟨hm, h0⟩, if_pos hm]
          · rw [if_neg (fun h => h0 h.2), if_pos hm]; exact hC1 hm (by omega)
        · rw [if_neg (fun h => hm h.1), if_neg hm]
      have hEe : 0 ≤ e2 → E ≤ e2 := fun h => by
        rw [he2'] at h ⊢
        split
        · omega
        · rename_i hm; rw [if_neg hm] at h; exact hC2 h
      have hold : 0 ≤ e2 → ∀ q ∈ s.ps, pTo q ≤ e2 := fun h q hq => by
        by_cases hm : p.mf = false
        · rw [he2', if_pos hm]; exact g2 hm q hq
        · rw [he2', if_neg hm] at h ⊢; exact hG.within h q hq
      generalize hps2 : (if same = true then s.ps else s.ps ++ [(p.off, p.pay)]) = ps2
      have hmem : ∀ q ∈ ps2, q ∈ s.ps ∨ q = (p.off, p.pay) := fun q hq => by
        rw [← hps2] at hq
        split at hq
        · exact .inl hq
        · rcases List.mem_append.1 hq with h | h
          · exact .inl h
          · exact .inr (List.mem_singleton.1 h)
      have hsub : ∀ q ∈ s.ps, q ∈ ps2 := fun q hq => by
        rw [← hps2]
        split
        · exact hq
        · exact List.mem_append_left _ hq
      have hin : 0 ≤ e2 → ∀ q ∈ ps2, pTo q ≤ e2 := fun h q hq => by
        rcases hmem q hq with h1 | rfl
        · exact hold h q h1
        · rw [hnew]; exact hEe h
      have r3 : (decide (0 ≤ e2) && ps2.any fun q => decide (e2 < pTo q)) = false := by
        by_cases h0 : 0 ≤ e2
        · have : ps2.any (fun q => decide (e2 < pTo q)) = false := by
            rw [List.any_eq_false]
            intro q hq
            have := hin h0 q hq
            simpa using this
          rw [this, Bool.and_false]
        · simp [h0]
      rw [r3, Bool.false_or]
      -- the first one
      have hfirst : s.has = true → p.off = 0 → same = true := fun h1 h2 => by
        obtain ⟨q, hq, h3⟩ := hG.first.1 h1
        cases hs : same with
        | true => rfl
        | false =>
          exfalso
          rcases g4 hs q hq with h | h
          · omega
          · have := pTo_lt (hG.ne q hq); omega
      have hhas : same = true → p.off = 0 → s.has = true := fun h1 h2 => by
        rcases g3 h1 with h | ⟨q, hq, h3, h4⟩
        · cases h
        · exact hG.first.2 ⟨q, hq, by omega⟩
      generalize hf2 : (if p.off = 0 ∧ s.has = false then p else s.first) = f2
      generalize hh2 : (decide (p.off = 0) || s.has) = has2
      have hm2 : (if same = true then (if p.mf = false then { m with ps := s.ps, en := E } else m) else
          { (if p.mf = false then { m with ps := s.ps, en := E } else m) with ps := (if p.mf = false then { m with ps := s.ps, en := E } else m).ps ++ [(p.off, p.pay)], first := if p.off = 0 then some p else (if p.mf = false then { m with ps := s.ps, en := E } else m).first }) =
          { m with ps := ps2, en := e2, first := if has2 = true then some f2 else none } := by
        have hmf : (if p.mf = false then { m with ps := s.ps, en := E } else m) = { m with ps := s.ps, en := e2 } := by
          rw [he2']
          split
          · rfl
          · rw [← hen, ← hps]
        rw [hmf]
        cases hs : same with
        | true =>
          rw [if_pos rfl]
          have h1 : ps2 = s.ps := by rw [← hps2, hs, if_pos rfl]
          have h2 : (if has2 = true then some f2 else none) = m.first := by
            rw [hfi, ← hh2, ← hf2]
            by_cases h0 : p.off = 0
            · rw [hhas hs h0]; simp
            · simp [h0]
          rw [h1, h2]
        | false =>
          rw [if_neg (by simp)]
          have h1 : ps2 = s.ps ++ [(p.off, p.pay)] := by rw [← hps2, hs]; simp
          have h2 : (if has2 = true then some f2 else none) = if p.off = 0 then some p else m.first := by
            rw [hfi, ← hh2, ← hf2]
            by_cases h0 : p.off = 0
            · have : s.has = false := by
                cases hh : s.has
                · rfl
                · have := hfirst hh h0; rw [hs] at this; cases this
              simp [h0, this]
            · simp [h0]
          simp only [h1, h2]
      rw [hm2]
      have hGood : Good { s with ps := ps2, en := e2, ref := false, has := has2, first := f2 } := by
        refine ⟨fun q hq => ?_, fun q hq => ?_, ?_, hin, ?_, ?_⟩
        · rcases hmem q hq with h | rfl
          · exact hG.ne q h
          · exact hp
        · rcases hmem q hq with h | rfl
          · exact hG.nn q h
          · exact ho
        · show ps2.Pairwise _
          rw [← hps2]
          cases hs : same with
          | true => rw [if_pos rfl]; exact hG.apart
          | false =>
            rw [if_neg (by simp), List.pairwise_append]
            refine ⟨hG.apart, List.pairwise_singleton _ _, fun q hq r hr => ?_⟩
            obtain rfl := List.mem_singleton.1 hr
            rcases g4 hs q hq with h | h
            · right; rw [hnew]; exact h
            · left; exact h
        · show has2 = true ↔ ∃ q ∈ ps2, q.1 = 0
          rw [← hh2]
          constructor
          · intro h
            cases hs : same with
            | true =>
              have : s.has = true := by
                by_cases h0 : p.off = 0
                · exact hhas hs h0
                · simpa [h0] using h
              obtain ⟨q, hq, h1⟩ := hG.first.1 this
              exact ⟨q, hsub q hq, h1⟩
            | false =>
              by_cases h0 : p.off = 0
              · refine ⟨(p.off, p.pay), ?_, h0⟩
                rw [← hps2, hs]; simp
              · have : s.has = true := by simpa [h0] using h
                obtain ⟨q, hq, h1⟩ := hG.first.1 this
                exact ⟨q, hsub q hq, h1⟩
          · rintro ⟨q, hq, h1⟩
            rcases hmem q hq with h | rfl
            · rw [hG.first.2 ⟨q, h, h1⟩]; simp
            · simp at h1; simp [h1]
        · show e2 = -1 ∨ 0 < e2
          rw [he2']
          split
          · right; exact hEp
          · exact hG.en
      have bothok : Both { m with ps := ps2, en := e2, first := if has2 = true then some f2 else none } { s with ps := ps2, en := e2, ref := false, has := has2, first := f2 } :=
        ⟨hb.src, hb.dst, hb.proto, hb.id, hb.begun, hr, fun h => (by rw [hr] at h; cases h), fun _ => ⟨rfl, rfl, rfl, hGood⟩⟩
      have htot : 0 ≤ e2 → totP ps2 ≤ e2.toNat := fun h0 => by
        have := tot_le (l := ps2) (lo := 0) (hi := e2.toNat) (fun q hq => ⟨by have := hGood.nn q hq; omega, by have := hin h0 q hq; omega⟩) hGood.apart
        simpa using this
      cases has2 with
      | false =>
        simp only [Bool.false_and, Bool.false_eq_true, if_false]
        refine ⟨by simpa using bothok, ?_, fun h => by cases h⟩
        unfold wholeS
        simp only [Bool.not_false, Bool.true_and]
        by_cases h0 : e2 < 0
        · simp [h0]
        · have h1 : 0 < e2 := by rcases hGood.en with h | h <;> simp only at h <;> omega
          have hno : ∀ q ∈ ps2, q.1 ≠ 0 := fun q hq h => by
            have := hGood.first.2 ⟨q, hq, h⟩; cases this
          have := tot_le (l := ps2) (lo := 1) (hi := e2.toNat) (fun q hq => ⟨by have h2 := hGood.nn q hq; have h3 := hno q hq; omega, by have := hin (by omega) q hq; omega⟩) hGood.apart
          have h4 : (totP ps2 : Int) ≠ e2 := by omega
          simp [h4]
      | true =>
        simp only [Bool.true_and, if_true]
        by_cases h0 : e2 < 0
        · rw [if_pos h0]
          have h1 : decide (0 ≤ e2) = false := decide_eq_false (by omega)
          rw [h1, Bool.false_and, if_neg (by simp)]
          refine ⟨bothok, ?_, fun h => by cases h⟩
          simp [wholeS, h0]
        · rw [if_neg h0]
          have h1 : decide (0 ≤ e2) = true := decide_eq_true (by omega)
          rw [h1, Bool.true_and]
          by_cases h2 : 65535 < 20 + (f2.opts.length : Int) + e2
          · rw [if_pos h2, if_pos (by simpa using h2)]
            refine ⟨bad _ _, ?_, fun h => by cases h⟩
            simp [wholeS]
          · rw [if_neg h2, if_neg (show ¬ (decide (65535 < 20 + (f2.opts.length : Int) + e2) = true) by simpa using h2)]
            refine ⟨by simpa using bothok, ?_, fun _ => ⟨hr, rfl⟩⟩
            have := htot (by omega)
            unfold wholeS
            simp only [Bool.not_false, Bool.true_and]
            by_cases h3 : (totP ps2 : Int) = e2
            · simp [h3, h0]
            · have h4 : (totP ps2 : Int) < e2 := by omega
              simp [h3, h4]
end Go.Proofs.Ytjmmmmdpkfpojaa

set_option maxRecDepth 20000
namespace Go.Proofs.Ytjmmmmdpkfpojaa
open Go Go.IW
section
attribute [local go_sem] List.getElem?_cons_zero List.getElem?_cons_succ Option.bind_some List.map_cons List.map_nil Nat.zero_add if_true List.getD_cons_zero List.getD_cons_succ List.contains_cons List.contains_nil Bool.or_true Bool.true_or Bool.or_false Bool.false_or Bool.not_true Bool.not_false true_and and_true rowA_whole mid_get rowO_rows cellO_rows upd_ne Nat.add_assoc Nat.add_zero List.all_cons List.all_nil one_bool one_int one_str one_ptr one_nilptr one_slice one_eslice one_nilslice one_func one_iface one_niliface Bool.and_true Bool.and_self List.length_cons List.length_nil Nat.one_ne_zero Nat.succ_ne_zero if_false List.set_cons_zero List.set_cons_succ lay_nil lay_1 lay_w Option.map_some cells_one rowA_some List.drop_succ_cons List.drop_zero List.take_succ_cons List.take_zero

def byt (v : IV) (bs : Txt) : As := sl false 5 1 v (strRows bs)
def pcR (r : List IV) (q : Int × List UInt8) : As := exA fun vd : IV => stars (fact (r = [.int .i64 q.1, vd])) (sl false 5 1 vd (strRows q.2))
theorem pcs_at {h : IH} {L : List As} {rs : List (List IV)} {ps : Pcs} (S : Sp h L) (k : Nat) (hk : L[k]? = some (all2 pcR rs ps)) {i : Nat} {q : Int × List UInt8} (hi : ps[i]? = some q) : ∃ vd, rs[i]? = some [.int .i64 q.1, vd] ∧ SlR h 1 vd (strRows q.2) := by
  obtain ⟨f, hf⟩ := S.part k hk
  obtain ⟨r, f', h1, vd, f1, f2, _, ⟨_, rfl⟩, h3⟩ := all2_at hf hi
  refine ⟨vd, h1, ?_⟩
  rcases h3 with ⟨h4, _, rfl | rfl⟩ | ⟨l, h0, rfl, _, h5, h6⟩
  · rw [h4]; exact SlR.nil _ _
  · rw [h4]; exact SlR.empty _ _ _
  · exact SlR.whole h6 rfl h5
theorem a2_len {h : IH} {L : List As} {α : Type} {R : List IV → α → As} {rs : List (List IV)} {ps : List α} (S : Sp h L) (k : Nat) (hk : L[k]? = some (all2 R rs ps)) : rs.length = ps.length := by
  obtain ⟨f, hf⟩ := S.part k hk
  exact all2_len hf
def msRow (m : Ms) (vps vo vp : IV) : List IV := [.int .i64 m.src, .int .i64 m.dst, .int .i64 m.proto, .int .i64 m.id, .int .i64 m.born, vps, .int .i64 m.en, .bool m.ref, .bool m.has,
  .int .i64 m.first.tos, .int .i64 m.first.id, .bool m.first.df, .bool m.first.mf, .int .i64 m.first.off, .int .i64 m.first.ttl, .int .i64 m.first.proto, .int .i64 m.first.src, .int .i64 m.first.dst, vo, vp]
def madeR (r : List IV) (m : Ms) : As := exA fun v : IV × IV × IV × List (List IV) => stars (fact (r = msRow m v.1 v.2.1 v.2.2.1 ∧ v.2.1.one = true ∧ v.2.2.1.one = true)) (stars (sl false 99 2 v.1 v.2.2.2) (stars (all2 pcR v.2.2.2 m.ps) (stars (byt v.2.1 m.first.opts) (byt v.2.2.1 m.first.pay))))
theorem made_at {h : IH} {L : List As} {rs : List (List IV)} {l : List Ms} (S : Sp h L) (k : Nat) (hk : L[k]? = some (all2 madeR rs l)) {i : Nat} {m : Ms} (hi : l[i]? = some m) : ∃ vps vo vp, rs[i]? = some (msRow m vps vo vp) ∧ vps.one = true ∧ vo.one = true ∧ vp.one = true := by
  obtain ⟨f, hf⟩ := S.part k hk
  obtain ⟨r, f', h1, ⟨vps, vo, vp, rs'⟩, f1, f2, _, ⟨_, rfl, h4, h5⟩, g1, g2, _, h6, _⟩ := all2_at hf hi
  refine ⟨vps, vo, vp, h1, ?_, h4, h5⟩
  rcases h6 with ⟨_, _, h7 | h7⟩ | ⟨l, _, h7, _⟩ <;> · simp only at h7; rw [h7]; rfl
structure En where
  src : Int
  dst : Int
  proto : Int
  id : Int
  first : Bool
  deriving Inhabited
def enRow (e : En) : List IV := [.int .i64 e.src, .int .i64 e.dst, .int .i64 e.proto, .int .i64 e.id, .bool e.first]
structure Ot where
  code : Int
  done : Bool
  pk : Pk
  ended : List En
  held : Int
  bytes : Int
  deriving Inhabited
def pk0 : Pk := ⟨0, 0, false, false, 0, 0, 0, 0, 0, [], []⟩
def ot0 : Ot := ⟨0, false, pk0, [], 0, 0⟩
abbrev wO (now : Int) (vl : IV) (o : Ot) (vo vp ve : IV) : IObj := .rows [[.int .i64 now, vl, .int .i64 o.code, .bool o.done, .int .i64 o.pk.tos, .int .i64 o.pk.id, .bool o.pk.df, .bool o.pk.mf, .int .i64 o.pk.off, .int .i64 o.pk.ttl, .int .i64 o.pk.proto, .int .i64 o.pk.src, .int .i64 o.pk.dst, vo, vp, ve, .int .i64 o.held, .int .i64 o.bytes]] 65 18 false
def findI {α : Type} (f : α → Bool) (l : List α) : Int := match l.findIdx? f with | some i => (i : Int) | none => -1
theorem findI_hit {α : Type} {f : α → Bool} {l : List α} {k : Nat} {x : α} (h0 : ∀ y ∈ l.take k, f y = false) (hk : l[k]? = some x) (hx : f x = true) : findI f l = k := by
  have : l.findIdx? f = some k := by
    rw [List.findIdx?_eq_some_iff_getElem]
    obtain ⟨h1, rfl⟩ := List.getElem?_eq_some_iff.1 hk
    refine ⟨h1, hx, fun j hj => ?_⟩
    rw [h0 _ (List.mem_take_iff_getElem.2 ⟨j, by omega, rfl⟩)]
    simp
  simp [findI, this]
theorem findI_none {α : Type} {f : α → Bool} {l : List α} (h0 : ∀ y ∈ l, f y = false) : findI f l = -1 := by
  have : l.findIdx? f = none := by simpa using h0
  simp [findI, this]
def keyS (p : Pk) (m : Ms) : Bool := decide (m.src = p.src) && decide (m.dst = p.dst) && decide (m.proto = p.proto) && decide (m.id = p.id)
theorem take_all {α : Type} {f : α → Bool} {l : List α} {k : Nat} {x : α} (h0 : ∀ y ∈ l.take k, f y = false) (hk : l[k]? = some x) (hx : f x = false) : ∀ y ∈ l.take (k + 1), f y = false := by
  intro y hy
  rw [List.take_add_one, hk] at hy
  rcases List.mem_append.1 hy with hy | hy
  · exact h0 y hy
  · have : y = x := by simpa using hy
    rw [this]; exact hx
theorem l06Find_c {h : IH} {L : List As} {w : Nat} {now : Int} {vl vo vp ve : IV} {o : Ot} {rs : List (List IV)} {l : List Ms} (S : Sp h (box w (wO now vl o vo vp ve) :: sl false 94 20 vl rs :: all2 madeR rs l :: L)) (hl : l.length ≤ 1000) (p : Pk) (po pp : IV) (h1 : po.one = true) (h2 : pp.one = true) :
    ICalls Try.prog 49 [.ptr w 0 0, .agg (pkRow p po pp)] h fun r h' => r = .int .i64 (findI (keyS p) l) ∧ Sp h' (box w (wO now vl o vo vp ve) :: sl false 94 20 vl rs :: all2 madeR rs l :: L) := by
  refine icalls (.of ok49) (Nat.le_of_ble_eq_true rfl) ?_
  unfold c49 pkRow
  try simp (disch := (first | omega | assumption | (simp only [lc0, ln0, la0]; first | done | omega) | (simp (disch := assumption) only [go_sem, one_as, Nat.reduceBEq]; done) | fail)) only [go_sem, Hold.p, HoldK.k, HoldL.K, HoldL.body, Nat.reduceBEq, Nat.reduceAdd, reduceIte]
  refine Sp.bxA S (by first | rfl | (rw [cells_one (by assumption)]; rfl)) (by first | rfl | simp (disch := assumption) only [go_sem, cells_one, one_as]) fun p3 g1 S E_g1 l_g1 => ?_
  try simp (disch := (first | omega | assumption | (simp only [lc0, ln0, la0]; first | done | omega) | (simp (disch := assumption) only [go_sem, one_as, Nat.reduceBEq]; done) | fail)) only [go_sem, Hold.p, HoldK.k, HoldL.K, HoldL.body, Nat.reduceBEq, Nat.reduceAdd, reduceIte]
  refine loop_at (fun m e g => ∃ k : Nat, m = l.length - k ∧ k ≤ l.length ∧ e 0 = .ptr w 0 0 ∧ e 3 = .ptr p3 0 0 ∧ e 5 = .int .i64 (k : Nat) ∧ (∀ y ∈ l.take k, keyS p y = false) ∧
    Sp g (box p3 (pkObj p po pp) :: box w (wO now vl o vo vp ve) :: sl false 94 20 vl rs :: all2 madeR rs l :: L)) l.length ?_ ?_
  · refine ⟨0, by omega, by omega, ?_⟩
    try simp (disch := (first | omega | assumption | (simp only [lc0, ln0, la0]; first | done | omega) | (simp (disch := assumption) only [go_sem, one_as, Nat.reduceBEq]; done) | fail)) only [go_sem, Hold.p, HoldK.k, HoldL.K, HoldL.body, Nat.reduceBEq, Nat.reduceAdd, reduceIte]
    exact ⟨rfl, by simp, S⟩
  · clear S
    rintro m e g ⟨k, rfl, hk, i0, i3, i5, hno, S⟩
    have hrl := a2_len S 3 rfl
    have q0 := (S.bx 0 rfl).eq
    have q1 := (S.bx 1 rfl).eq
    have s2 := S.slA 2 rfl
    have len_s2 := s2.lenF
    have z2 := s2.one
    try simp (disch := (first | omega | assumption | (simp only [lc0, ln0, la0]; first | done | omega) | (simp (disch := assumption) only [go_sem, one_as, Nat.reduceBEq]; done) | fail)) only [q0, q1, len_s2, z2, i0, i3, i5, hrl, go_sem, Hold.p, HoldK.k, HoldL.K, HoldL.body, Nat.reduceBEq, Nat.reduceAdd, reduceIte]
    refine test_dec (fun hb => ?_) (fun hb => ?_)
    · obtain ⟨m, hm⟩ : ∃ m, l[k]? = some m := ⟨_, List.getElem?_eq_getElem (by omega : k < l.length)⟩
      obtain ⟨vps, mo, mp, hrow, k1, k2, k3⟩ := made_at S 3 rfl hm
      obtain ⟨a1, a2, hia, hal, har⟩ := s2.at hrow .i64
      unfold msRow at har
      have q0 := (S.bx 0 rfl).eq
      have q1 := (S.bx 1 rfl).eq
      try simp (disch := (first | omega | assumption | (simp only [lc0, ln0, la0]; first | done | omega) | (simp (disch := assumption) only [go_sem, one_as, Nat.reduceBEq]; done) | fail)) only [q0, q1, i0, i3, i5, hia, har, go_sem, Hold.p, HoldK.k, HoldL.K, HoldL.body, Nat.reduceBEq, Nat.reduceAdd, reduceIte]
      refine Sp.zero S fun p6 g2 S E_g2 l_g2 => ?_
      have q0 := (S.bx 0 rfl).eq
      try simp (disch := (first | omega | assumption | (simp only [lc0, ln0, la0]; first | done | omega) | (simp (disch := assumption) only [go_sem, one_as, Nat.reduceBEq]; done) | fail)) only [q0, k1, k2, k3, go_sem, Hold.p, HoldK.k, HoldL.K, HoldL.body, Nat.reduceBEq, Nat.reduceAdd, reduceIte]
      refine stw_of rfl rfl (by first | rfl | simp (disch := assumption) only [go_sem, cells_one, one_as]) fun g3 hg => ?_
      have l_g3 := n_set hg
      have S := S.set0 hg
      clear hg
      have q0 := (S.bx 0 rfl).eq
      have q1 := (S.bx 1 rfl).eq
      try simp (disch := (first | omega | assumption | (simp only [lc0, ln0, la0]; first | done | omega) | (simp (disch := assumption) only [go_sem, one_as, Nat.reduceBEq]; done) | fail)) only [q0, q1, i0, i3, i5, go_sem, Hold.p, HoldK.k, HoldL.K, HoldL.body, Nat.reduceBEq, Nat.reduceAdd, reduceIte]
      refine test_of (fun hc => ?_) (fun hc => ?_)
      · skip
        try simp (disch := (first | omega | assumption | (simp only [lc0, ln0, la0]; first | done | omega) | (simp (disch := assumption) only [go_sem, one_as, Nat.reduceBEq]; done) | fail)) only [i0, i3, i5, go_sem, Hold.p, HoldK.k, HoldL.K, HoldL.body, Nat.reduceBEq, Nat.reduceAdd, reduceIte]
        have S := by simpa only [mc0, mn0, List.getD_cons_zero, List.getD_cons_succ, ds0, dz0, ca0, na0] using Sp.sel S 5 [2, 3, 4] (by simp only [lc0]; omega) (by decide) (by decide)
        exact ⟨by rw [findI_hit hno hm hc], S⟩
      · have w1 : wr .i64 ((k : Int) + 1) = ((k + 1 : Nat) : Int) := by rw [wr64 _ (by omega)]; rfl
        try simp (disch := (first | omega | assumption | (simp only [lc0, ln0, la0]; first | done | omega) | (simp (disch := assumption) only [go_sem, one_as, Nat.reduceBEq]; done) | fail)) only [i0, i3, i5, w1, go_sem, Hold.p, HoldK.k, HoldL.K, HoldL.body, Nat.reduceBEq, Nat.reduceAdd, reduceIte]
        have S := by simpa only [mc0, mn0, List.getD_cons_zero, List.getD_cons_succ, ds0, dz0, ca0, na0] using Sp.sel S 5 [1, 2, 3, 4] (by simp only [lc0]; omega) (by decide) (by decide)
        exact ⟨_, by omega, k + 1, rfl, by omega, rfl, take_all hno hm hc, S⟩
    · skip
      try simp (disch := (first | omega | assumption | (simp only [lc0, ln0, la0]; first | done | omega) | (simp (disch := assumption) only [go_sem, one_as, Nat.reduceBEq]; done) | fail)) only [go_sem, Hold.p, HoldK.k, HoldL.K, HoldL.body, Nat.reduceBEq, Nat.reduceAdd, reduceIte]
      have S := by simpa only [mc0, mn0, List.getD_cons_zero, List.getD_cons_succ, ds0, dz0, ca0, na0] using Sp.sel S 4 [1, 2, 3] (by simp only [lc0]; omega) (by decide) (by decide)
      rw [List.take_of_length_le (by omega)] at hno
      exact ⟨by rw [findI_none hno], S⟩
end
end Go.Proofs.Ytjmmmmdpkfpojaa

set_option maxRecDepth 20000
namespace Go.Proofs.Ytjmmmmdpkfpojaa
open Go Go.IW
section
attribute [local go_sem] List.getElem?_cons_zero List.getElem?_cons_succ Option.bind_some List.map_cons List.map_nil Nat.zero_add if_true List.getD_cons_zero List.getD_cons_succ List.contains_cons List.contains_nil Bool.or_true Bool.true_or Bool.or_false Bool.false_or Bool.not_true Bool.not_false true_and and_true rowA_whole mid_get rowO_rows cellO_rows upd_ne Nat.add_assoc Nat.add_zero List.all_cons List.all_nil one_bool one_int one_str one_ptr one_nilptr one_slice one_eslice one_nilslice one_func one_iface one_niliface Bool.and_true Bool.and_self List.length_cons List.length_nil Nat.one_ne_zero Nat.succ_ne_zero if_false List.set_cons_zero List.set_cons_succ lay_nil lay_1 lay_w Option.map_some cells_one rowA_some List.drop_succ_cons List.drop_zero List.take_succ_cons List.take_zero

theorem wr_u (x : Int) : 0 ≤ wr .u64 x ∧ wr .u64 x < 18446744073709551616 := by
  have h : wr .u64 x = x % 18446744073709551616 := by unfold wr IntKind.wrap; simp [IntKind.bits, IntKind.signed]
  omega
theorem wr_u_id {x : Int} (h0 : 0 ≤ x) (h1 : x < 18446744073709551616) : wr .u64 x = x := by
  have h : wr .u64 x = x % 18446744073709551616 := by unfold wr IntKind.wrap; simp [IntKind.bits, IntKind.signed]
  omega
theorem bits_u (op : BinOp) (x y : Int) : 0 ≤ IW.bits op .u64 x y ∧ IW.bits op .u64 x y < 18446744073709551616 := wr_u _
abbrev srcO (v : IV) (pos st : Int) : IObj := .rows [[v, .int .i64 pos, .int .u64 st]] 37 3 false
def SrcAt (h : IH) (b : Nat) (v : IV) (n : Nat) (L : List As) : Prop := ∃ pos st : Int, 0 ≤ pos ∧ pos ≤ n ∧ 0 ≤ st ∧ Sp h (box b (srcO v pos st) :: L)
theorem lwNext_c {h h0 : IH} {L : List As} {b : Nat} {v : IV} {bs : Txt} (W : SrcAt h b v bs.length (old h0 :: L)) (hv : SlR h0 1 v (strRows bs)) (hl : bs.length ≤ 1048576) (n : Int) (hn : n ≤ 4294967296) :
    ICalls Try.prog 17 [.ptr b 0 0, .int .i64 n] h fun r h' => ∃ x : Int, r = .int .i64 x ∧ 0 ≤ x ∧ (0 < n → x < n) ∧ SrcAt h' b v bs.length (old h0 :: L) := by
  refine icalls (.of ok17) (Nat.le_of_ble_eq_true rfl) ?_
  unfold c17
  obtain ⟨pos, st, hp0, hp1, hs0, S⟩ := W
  have hv1 := hv.one
  have hlen := hv.lenF
  rw [strRows_len] at hlen
  have q0 := (S.bx 0 rfl).eq
  try simp (disch := (first | omega | assumption | (simp only [lc0, ln0, la0]; first | done | omega) | (simp (disch := assumption) only [go_sem, one_as, Nat.reduceBEq]; done) | fail)) only [q0, go_sem, Hold.p, HoldK.k, HoldL.K, HoldL.body, Nat.reduceBEq, Nat.reduceAdd, reduceIte]
  refine test_dec (fun hb => ?_) (fun hb => ?_)
  · skip
    have q0 := (S.bx 0 rfl).eq
    try simp (disch := (first | omega | assumption | (simp only [lc0, ln0, la0]; first | done | omega) | (simp (disch := assumption) only [go_sem, one_as, Nat.reduceBEq]; done) | fail)) only [q0, go_sem, Hold.p, HoldK.k, HoldL.K, HoldL.body, Nat.reduceBEq, Nat.reduceAdd, reduceIte]
    exact ⟨0, rfl, by omega, by omega, pos, st, hp0, hp1, hs0, S⟩
  have r33 := ib_shr (k := .u64) (a := wr .u64 (wr .u64 (st * 6364136223846793005) + 1442695040888963407)) .u64 (b := 33) (by decide)
  have hsn : 0 ≤ wr .u64 (wr .u64 (st * 6364136223846793005) + 1442695040888963407) := (wr_u _).1
  generalize hst : wr .u64 (wr .u64 (st * 6364136223846793005) + 1442695040888963407) = st' at r33 hsn
  have hx0 : 0 ≤ st'.fdiv (2 ^ (min (33 : Int).toNat IntKind.u64.bits)) := Int.fdiv_nonneg hsn (by decide)
  generalize st'.fdiv (2 ^ (min (33 : Int).toNat IntKind.u64.bits)) = x at r33 hx0
  have hn64 : wr .u64 n = n := wr_u_id (by omega) (by omega)
  have hrem : ∀ y : Int, ibin .rem (.int .u64 y) (.int .u64 n) = some (.int .u64 (y.tmod n)) := fun y => ib_rem _ _ _ (by omega)
  have hfin : ∀ y : Int, 0 ≤ y → wr .i64 (y.tmod n) = y.tmod n ∧ 0 ≤ y.tmod n ∧ y.tmod n < n := fun y hy => by
    have h1 := Int.tmod_nonneg n hy
    have h2 := Int.tmod_lt_of_pos y (by omega : 0 < n)
    exact ⟨wr64 _ (by omega), h1, h2⟩
  obtain ⟨k, rfl⟩ := Int.eq_ofNat_of_zero_le hp0
  have q0 := (S.bx 0 rfl).eq
  try simp (disch := (first | omega | assumption | (simp only [lc0, ln0, la0]; first | done | omega) | (simp (disch := assumption) only [go_sem, one_as, Nat.reduceBEq]; done) | fail)) only [q0, hst, go_sem, Hold.p, HoldK.k, HoldL.K, HoldL.body, Nat.reduceBEq, Nat.reduceAdd, reduceIte]
  refine stp_of rfl (Nat.le_of_ble_eq_true rfl) (by first | rfl | simp (disch := assumption) only [go_sem, cells_one, one_as]) fun g1 hg => ?_
  have l_g1 := n_set hg
  have S := S.set0 hg
  clear hg
  simp only [sz0, ss0, ts0, tz0, ds0, dz0, ca0, na0, Nat.reduceAdd] at S
  have hlen := hlen
  have q0 := (S.bx 0 rfl).eq
  try simp (disch := (first | omega | assumption | (simp only [lc0, ln0, la0]; first | done | omega) | (simp (disch := assumption) only [go_sem, one_as, Nat.reduceBEq]; done) | fail)) only [q0, r33, hlen, go_sem, Hold.p, HoldK.k, HoldL.K, HoldL.body, Nat.reduceBEq, Nat.reduceAdd, reduceIte]
  refine test_dec (fun hb2 => ?_) (fun hb2 => ?_)
  · have hk : k < bs.length := by omega
    obtain ⟨l, j, hia, hll, hrow⟩ := (hv.ext (S.ol 1 rfl)).at (m := k) (strRows_get hk) .i64
    have w1 : wr .i64 ((k : Int) + 1) = (k : Int) + 1 := wr64 _ (by omega)
    have hc := cellO_row hrow
    have q0 := (S.bx 0 rfl).eq
    try simp (disch := (first | omega | assumption | (simp only [lc0, ln0, la0]; first | done | omega) | (simp (disch := assumption) only [go_sem, one_as, Nat.reduceBEq]; done) | fail)) only [q0, r33, hlen, hia, hc, w1, go_sem, Hold.p, HoldK.k, HoldL.K, HoldL.body, Nat.reduceBEq, Nat.reduceAdd, reduceIte]
    refine stp_of rfl (Nat.le_of_ble_eq_true rfl) (by first | rfl | simp (disch := assumption) only [go_sem, cells_one, one_as]) fun g2 hg => ?_
    have l_g2 := n_set hg
    have S := S.set0 hg
    clear hg
    simp only [sz0, ss0, ts0, tz0, ds0, dz0, ca0, na0, Nat.reduceAdd] at S
    have f1 : ∀ z : Int, wr .i64 ((IW.bits .xor .u64 x z).tmod n) = (IW.bits .xor .u64 x z).tmod n := fun z => (hfin _ (bits_u _ _ _).1).1
    have q0 := (S.bx 0 rfl).eq
    try simp (disch := (first | omega | assumption | (simp only [lc0, ln0, la0]; first | done | omega) | (simp (disch := assumption) only [go_sem, one_as, Nat.reduceBEq]; done) | fail)) only [q0, hn64, hrem, f1, go_sem, Hold.p, HoldK.k, HoldL.K, HoldL.body, Nat.reduceBEq, Nat.reduceAdd, reduceIte]
    exact ⟨_, rfl, (hfin _ (bits_u _ _ _).1).2.1, fun _ => (hfin _ (bits_u _ _ _).1).2.2, _, _, by omega, by omega, hsn, S⟩
  · obtain ⟨f1, f2, f3⟩ := hfin x hx0
    have q0 := (S.bx 0 rfl).eq
    try simp (disch := (first | omega | assumption | (simp only [lc0, ln0, la0]; first | done | omega) | (simp (disch := assumption) only [go_sem, one_as, Nat.reduceBEq]; done) | fail)) only [q0, hn64, hrem, f1, go_sem, Hold.p, HoldK.k, HoldL.K, HoldL.body, Nat.reduceBEq, Nat.reduceAdd, reduceIte]
    exact ⟨_, rfl, f2, fun _ => f3, _, _, by omega, by omega, hsn, S⟩

theorem lwBegin_c {h : IH} {L : List As} (S : Sp h (old h :: L)) (v : IV) (bs : Txt) (hv : SlR h 1 v (strRows bs)) (hl : bs.length ≤ 1048576) (salt : Int) :
    ICalls Try.prog 16 [v, .int .u64 salt] h fun r h' => ∃ st : Int, r = .agg [v, .int .i64 0, .int .u64 st] ∧ 0 ≤ st ∧ Sp h' (old h :: L) := by
  refine icalls (.of ok16) (Nat.le_of_ble_eq_true rfl) ?_
  unfold c16
  have hv1 := hv.one
  have hlen := hv.lenF
  rw [strRows_len] at hlen
  try simp (disch := (first | omega | assumption | (simp only [lc0, ln0, la0]; first | done | omega) | (simp (disch := assumption) only [go_sem, one_as, Nat.reduceBEq]; done) | fail)) only [go_sem, Hold.p, HoldK.k, HoldL.K, HoldL.body, Nat.reduceBEq, Nat.reduceAdd, reduceIte]
  refine Sp.zero S fun p4 g1 S E_g1 l_g1 => ?_
  have q0 := (S.bx 0 rfl).eq
  try simp (disch := (first | omega | assumption | (simp only [lc0, ln0, la0]; first | done | omega) | (simp (disch := assumption) only [go_sem, one_as, Nat.reduceBEq]; done) | fail)) only [q0, go_sem, Hold.p, HoldK.k, HoldL.K, HoldL.body, Nat.reduceBEq, Nat.reduceAdd, reduceIte]
  refine Sp.zero S fun p5 g2 S E_g2 l_g2 => ?_
  have q0 := (S.bx 0 rfl).eq
  have q1 := (S.bx 1 rfl).eq
  try simp (disch := (first | omega | assumption | (simp only [lc0, ln0, la0]; first | done | omega) | (simp (disch := assumption) only [go_sem, one_as, Nat.reduceBEq]; done) | fail)) only [q0, q1, go_sem, Hold.p, HoldK.k, HoldL.K, HoldL.body, Nat.reduceBEq, Nat.reduceAdd, reduceIte]
  have hs0 := (wr_u (88172645463325252 + wr .u64 (salt * 977))).1
  generalize wr .u64 (88172645463325252 + wr .u64 (salt * 977)) = st0 at hs0 ⊢
  refine stw_of rfl rfl (by first | rfl | simp (disch := assumption) only [go_sem, cells_one, one_as]) fun g3 hg => ?_
  have l_g3 := n_set hg
  have S := S.set0 hg
  clear hg
  have q0 := (S.bx 0 rfl).eq
  have q1 := (S.bx 1 rfl).eq
  try simp (disch := (first | omega | assumption | (simp only [lc0, ln0, la0]; first | done | omega) | (simp (disch := assumption) only [go_sem, one_as, Nat.reduceBEq]; done) | fail)) only [q0, q1, go_sem, Hold.p, HoldK.k, HoldL.K, HoldL.body, Nat.reduceBEq, Nat.reduceAdd, reduceIte]
  refine loop_at (fun m e g => ∃ (k : Nat) (st : Int), m = bs.length - k ∧ k ≤ bs.length ∧ e 0 = v ∧ e 4 = .ptr p4 0 0 ∧ e 5 = .ptr p5 0 0 ∧ e 6 = .int .i64 (k : Nat) ∧ 0 ≤ st ∧
    Sp g (box p5 (srcO v 0 st) :: box p4 (srcO .nilslice 0 0) :: old h :: L)) bs.length ?_ ?_
  · refine ⟨0, st0, by omega, by omega, ?_⟩
    try simp (disch := (first | omega | assumption | (simp only [lc0, ln0, la0]; first | done | omega) | (simp (disch := assumption) only [go_sem, one_as, Nat.reduceBEq]; done) | fail)) only [go_sem, Hold.p, HoldK.k, HoldL.K, HoldL.body, Nat.reduceBEq, Nat.reduceAdd, reduceIte]
    exact ⟨rfl, hs0, S⟩
  · clear S
    rintro m e g ⟨k, st, rfl, hk, i0, i4, i5, i6, hs, S⟩
    have q0 := (S.bx 0 rfl).eq
    have q1 := (S.bx 1 rfl).eq
    try simp (disch := (first | omega | assumption | (simp only [lc0, ln0, la0]; first | done | omega) | (simp (disch := assumption) only [go_sem, one_as, Nat.reduceBEq]; done) | fail)) only [q0, q1, i0, i4, i5, i6, hlen, go_sem, Hold.p, HoldK.k, HoldL.K, HoldL.body, Nat.reduceBEq, Nat.reduceAdd, reduceIte]
    refine test_dec (fun hb => ?_) (fun hb => ?_)
    · have hk' : k < bs.length := by omega
      obtain ⟨l, j, hia, hll, hrow⟩ := (hv.ext (S.ol 2 rfl)).at (m := k) (strRows_get hk') .i64
      have w1 : wr .i64 ((k : Int) + 1) = ((k + 1 : Nat) : Int) := by rw [wr64 _ (by omega)]; rfl
      have hc := cellO_row hrow
      have q0 := (S.bx 0 rfl).eq
      try simp (disch := (first | omega | assumption | (simp only [lc0, ln0, la0]; first | done | omega) | (simp (disch := assumption) only [go_sem, one_as, Nat.reduceBEq]; done) | fail)) only [q0, i0, i4, i5, i6, hia, hc, go_sem, Hold.p, HoldK.k, HoldL.K, HoldL.body, Nat.reduceBEq, Nat.reduceAdd, reduceIte]
      refine stp_of rfl (Nat.le_of_ble_eq_true rfl) (by first | rfl | simp (disch := assumption) only [go_sem, cells_one, one_as]) fun g7 hg => ?_
      have l_g7 := n_set hg
      have S := S.set0 hg
      clear hg
      simp only [sz0, ss0, ts0, tz0, ds0, dz0, ca0, na0, Nat.reduceAdd] at S
      have q0 := (S.bx 0 rfl).eq
      try simp (disch := (first | omega | assumption | (simp only [lc0, ln0, la0]; first | done | omega) | (simp (disch := assumption) only [go_sem, one_as, Nat.reduceBEq]; done) | fail)) only [q0, i0, i4, i5, i6, w1, go_sem, Hold.p, HoldK.k, HoldL.K, HoldL.body, Nat.reduceBEq, Nat.reduceAdd, reduceIte]
      exact ⟨_, by omega, k + 1, _, rfl, by omega, rfl, (wr_u _).1, S⟩
    · skip
      have q0 := (S.bx 0 rfl).eq
      have q1 := (S.bx 1 rfl).eq
      try simp (disch := (first | omega | assumption | (simp only [lc0, ln0, la0]; first | done | omega) | (simp (disch := assumption) only [go_sem, one_as, Nat.reduceBEq]; done) | fail)) only [q0, q1, i0, i4, i5, i6, go_sem, Hold.p, HoldK.k, HoldL.K, HoldL.body, Nat.reduceBEq, Nat.reduceAdd, reduceIte]
      refine stw_of rfl rfl (by first | rfl | simp (disch := assumption) only [go_sem, cells_one, one_as]) fun g8 hg => ?_
      have l_g8 := n_set hg
      have S := S.set1 hg
      clear hg
      have q0 := (S.bx 0 rfl).eq
      have q1 := (S.bx 1 rfl).eq
      try simp (disch := (first | omega | assumption | (simp only [lc0, ln0, la0]; first | done | omega) | (simp (disch := assumption) only [go_sem, one_as, Nat.reduceBEq]; done) | fail)) only [q0, q1, i0, i4, i5, i6, go_sem, Hold.p, HoldK.k, HoldL.K, HoldL.body, Nat.reduceBEq, Nat.reduceAdd, reduceIte]
      have S := by simpa only [mc0, mn0, List.getD_cons_zero, List.getD_cons_succ, ds0, dz0, ca0, na0] using Sp.sel S 3 [2] (by simp only [lc0]; omega) (by decide) (by decide)
      exact ⟨st, rfl, hs, S⟩

theorem lwPattern_c {h : IH} {L : List As} (S : Sp h L) (from_ n : Int) (h0 : 0 ≤ from_) (h1 : from_ ≤ 1048576) (h2 : 0 ≤ n) (h3 : n ≤ 1048576) :
    ICalls Try.prog 25 [.int .i64 from_, .int .i64 n] h fun r h' => ∃ bs : Txt, (bs.length : Int) = n ∧ r.one = true ∧ Sp h' (byt r bs :: L) := by
  refine icalls (.of ok25) (Nat.le_of_ble_eq_true rfl) ?_
  unfold c25
  try simp (disch := (first | omega | assumption | (simp only [lc0, ln0, la0]; first | done | omega) | (simp (disch := assumption) only [go_sem, one_as, Nat.reduceBEq]; done) | fail)) only [go_sem, Hold.p, HoldK.k, HoldL.K, HoldL.body, Nat.reduceBEq, Nat.reduceAdd, reduceIte]
  refine loop_at (fun m e g => ∃ (k : Nat) (bs : Txt) (v : IV), m = n.toNat - k ∧ k ≤ n.toNat ∧ e 0 = .int .i64 from_ ∧ e 1 = .int .i64 n ∧ e 5 = v ∧ e 6 = .int .i64 (k : Nat) ∧ bs.length = k ∧ v.one = true ∧
    Sp g (sl false 5 1 v (strRows bs) :: L)) n.toNat ?_ ?_
  · refine ⟨0, [], .eslice true, by omega, by omega, ?_⟩
    try simp (disch := (first | omega | assumption | (simp only [lc0, ln0, la0]; first | done | omega) | (simp (disch := assumption) only [go_sem, one_as, Nat.reduceBEq]; done) | fail)) only [go_sem, Hold.p, HoldK.k, HoldL.K, HoldL.body, Nat.reduceBEq, Nat.reduceAdd, reduceIte]
    exact ⟨rfl, S.slEmpty⟩
  · clear S
    rintro m e g ⟨k, bs, v, rfl, hk, i0, i1, i5, i6, hbl, hv1, S⟩
    try simp (disch := (first | omega | assumption | (simp only [lc0, ln0, la0]; first | done | omega) | (simp (disch := assumption) only [go_sem, one_as, Nat.reduceBEq]; done) | fail)) only [i0, i1, i5, i6, go_sem, Hold.p, HoldK.k, HoldL.K, HoldL.body, Nat.reduceBEq, Nat.reduceAdd, reduceIte]
    refine test_dec (fun hb => ?_) (fun hb => ?_)
    · have w1 : wr .i64 ((k : Int) + 1) = ((k + 1 : Nat) : Int) := by rw [wr64 _ (by omega)]; rfl
      have q7 : ∀ x : Int, ibin .quo (.int .i64 x) (.int .i64 7) = some (.int .i64 (wr .i64 (x.tdiv 7))) := fun x => ib_quo _ _ _ (by decide)
      have q251 : ∀ x : Int, ibin .quo (.int .i64 x) (.int .i64 251) = some (.int .i64 (wr .i64 (x.tdiv 251))) := fun x => ib_quo _ _ _ (by decide)
      try simp (disch := (first | omega | assumption | (simp only [lc0, ln0, la0]; first | done | omega) | (simp (disch := assumption) only [go_sem, one_as, Nat.reduceBEq]; done) | fail)) only [i0, i1, i5, i6, q7, q251, go_sem, Hold.p, HoldK.k, HoldL.K, HoldL.body, Nat.reduceBEq, Nat.reduceAdd, reduceIte]
      refine Sp.bsl1 S (by first | rfl | (rw [cells_one (by assumption)]; rfl)) (by first | rfl | simp (disch := assumption) only [go_sem, cells_one, one_as]) fun p7 g7 S E_g7 l_g7 => ?_
      try simp only [cells_agg, cells_int, cells_bool, cells_ptr, cells_str] at S
      have q0 := (S.bx 0 rfl).eq
      have s1 := S.slA 1 rfl
      have len_s1 := s1.lenF
      have z1 := s1.one
      try simp (disch := (first | omega | assumption | (simp only [lc0, ln0, la0]; first | done | omega) | (simp (disch := assumption) only [go_sem, one_as, Nat.reduceBEq]; done) | fail)) only [q0, len_s1, z1, i0, i1, i5, i6, go_sem, Hold.p, HoldK.k, HoldL.K, HoldL.body, Nat.reduceBEq, Nat.reduceAdd, reduceIte]
      generalize hy : wr .u8 _ = y at S ⊢
      have hy1 : ∃ b : UInt8, y = (b.toNat : Int) := by
        have h : ∀ x : Int, wr .u8 x = x % 256 := fun x => by unfold wr IntKind.wrap; simp [IntKind.bits, IntKind.signed]
        refine ⟨UInt8.ofNat y.toNat, ?_⟩
        rw [h] at hy
        rw [UInt8.toNat_ofNat']
        omega
      obtain ⟨b, rfl⟩ := hy1
      refine S.app1 (y := false) (b := 1) (by rw [strRows_len]; omega) ?_
      clear S
      intro v8 g8 S z8
      have hrs : strRows bs ++ [[.int .u8 (b.toNat : Int)]] = strRows (bs ++ [b]) := by simp [strRows]
      rw [hrs] at S
      try simp (disch := (first | omega | assumption | (simp only [lc0, ln0, la0]; first | done | omega) | (simp (disch := assumption) only [go_sem, one_as, Nat.reduceBEq]; done) | fail)) only [i0, i1, i5, i6, w1, go_sem, Hold.p, HoldK.k, HoldL.K, HoldL.body, Nat.reduceBEq, Nat.reduceAdd, reduceIte]
      exact ⟨_, by omega, k + 1, bs ++ [b], v8, rfl, by omega, rfl, rfl, by simp [hbl], z8, S⟩
    · skip
      try simp (disch := (first | omega | assumption | (simp only [lc0, ln0, la0]; first | done | omega) | (simp (disch := assumption) only [go_sem, one_as, Nat.reduceBEq]; done) | fail)) only [i0, i1, i5, i6, go_sem, Hold.p, HoldK.k, HoldL.K, HoldL.body, Nat.reduceBEq, Nat.reduceAdd, reduceIte]
      exact ⟨bs, by omega, hv1, S⟩
end
end Go.Proofs.Ytjmmmmdpkfpojaa

set_option maxRecDepth 20000
namespace Go.Proofs.Ytjmmmmdpkfpojaa
open Go Go.IW
section
attribute [local go_sem] List.getElem?_cons_zero List.getElem?_cons_succ Option.bind_some List.map_cons List.map_nil Nat.zero_add if_true List.getD_cons_zero List.getD_cons_succ List.contains_cons List.contains_nil Bool.or_true Bool.true_or Bool.or_false Bool.false_or Bool.not_true Bool.not_false true_and and_true rowA_whole mid_get rowO_rows cellO_rows upd_ne Nat.add_assoc Nat.add_zero List.all_cons List.all_nil one_bool one_int one_str one_ptr one_nilptr one_slice one_eslice one_nilslice one_func one_iface one_niliface Bool.and_true Bool.and_self List.length_cons List.length_nil Nat.one_ne_zero Nat.succ_ne_zero if_false List.set_cons_zero List.set_cons_succ lay_nil lay_1 lay_w Option.map_some cells_one rowA_some List.drop_succ_cons List.drop_zero List.take_succ_cons List.take_zero

structure WholeP (p : Pk) (id : Int) : Prop where
  tos : 0 ≤ p.tos ∧ p.tos < 256
  id : p.id = id
  df : p.df = false
  mf : p.mf = false
  off : p.off = 0
  ttl : 1 ≤ p.ttl ∧ p.ttl < 256
  proto : 0 ≤ p.proto ∧ p.proto < 256
  src : p.src = 167772161
  dst : p.dst = 167772162
  o1 : p.opts.length ≤ 40
  o2 : p.opts.length % 4 = 0
  p1 : 1 ≤ p.pay.length
  p2 : p.pay.length ≤ 600
theorem lwWhole_c {h h0 : IH} {L : List As} {b : Nat} {v : IV} {bs : Txt} (W : SrcAt h b v bs.length (old h0 :: L)) (hv : SlR h0 1 v (strRows bs)) (hl : bs.length ≤ 1048576) (id : Int) :
    ICalls Try.prog 18 [.ptr b 0 0, .int .i64 id] h fun r h' => ∃ p vo vp, r = .agg (pkRow p vo vp) ∧ vo.one = true ∧ vp.one = true ∧ WholeP p id ∧ SrcAt h' b v bs.length (old h0 :: byt vo p.opts :: byt vp p.pay :: L) := by
  refine icalls (.of ok18) (Nat.le_of_ble_eq_true rfl) ?_
  unfold c18
  obtain ⟨pos, st, w1, w2, w3, S⟩ := W
  try simp (disch := (first | omega | assumption | (simp only [lc0, ln0, la0]; first | done | omega) | (simp (disch := assumption) only [go_sem, one_as, Nat.reduceBEq]; done) | fail)) only [go_sem, Hold.p, HoldK.k, HoldL.K, HoldL.body, Nat.reduceBEq, Nat.reduceAdd, reduceIte]
  refine Sp.zero S fun p4 g1 S E_g1 l_g1 => ?_
  have q0 := (S.bx 0 rfl).eq
  try simp (disch := (first | omega | assumption | (simp only [lc0, ln0, la0]; first | done | omega) | (simp (disch := assumption) only [go_sem, one_as, Nat.reduceBEq]; done) | fail)) only [q0, go_sem, Hold.p, HoldK.k, HoldL.K, HoldL.body, Nat.reduceBEq, Nat.reduceAdd, reduceIte]
  have W : SrcAt g1 b v bs.length (old h0 :: box p4 pkO0 :: L) := ⟨pos, st, w1, w2, w3, by
    have S := by simpa only [mc0, mn0, List.getD_cons_zero, List.getD_cons_succ, ds0, dz0, ca0, na0] using Sp.sel S 3 [1, 2, 0] (by simp only [lc0]; omega) (by decide) (by decide)
    exact S⟩
  clear S
  refine callA_of (lwNext_c W hv hl 256 (by omega)) ?_
  clear W
  rintro r2 g2 ⟨x2, rfl, a2, b2, W⟩
  try simp (disch := (first | omega | assumption | (simp only [lc0, ln0, la0]; first | done | omega) | (simp (disch := assumption) only [go_sem, one_as, Nat.reduceBEq]; done) | fail)) only [go_sem, Hold.p, HoldK.k, HoldL.K, HoldL.body, Nat.reduceBEq, Nat.reduceAdd, reduceIte]
  refine callA_of (lwNext_c W hv hl 255 (by omega)) ?_
  clear W
  rintro r3 g3 ⟨x3, rfl, a3, b3, W⟩
  have e3 : wr .i64 (1 + x3) = 1 + x3 := wr64 _ (by omega)
  try simp (disch := (first | omega | assumption | (simp only [lc0, ln0, la0]; first | done | omega) | (simp (disch := assumption) only [go_sem, one_as, Nat.reduceBEq]; done) | fail)) only [e3, go_sem, Hold.p, HoldK.k, HoldL.K, HoldL.body, Nat.reduceBEq, Nat.reduceAdd, reduceIte]
  refine callA_of (lwNext_c W hv hl 256 (by omega)) ?_
  clear W
  rintro r4 g4 ⟨x4, rfl, a4, b4, W⟩
  try simp (disch := (first | omega | assumption | (simp only [lc0, ln0, la0]; first | done | omega) | (simp (disch := assumption) only [go_sem, one_as, Nat.reduceBEq]; done) | fail)) only [go_sem, Hold.p, HoldK.k, HoldL.K, HoldL.body, Nat.reduceBEq, Nat.reduceAdd, reduceIte]
  refine callA_of (lwNext_c W hv hl 9999 (by omega)) ?_
  clear W
  rintro r5 g5 ⟨x5, rfl, a5, b5, W⟩
  try simp (disch := (first | omega | assumption | (simp only [lc0, ln0, la0]; first | done | omega) | (simp (disch := assumption) only [go_sem, one_as, Nat.reduceBEq]; done) | fail)) only [go_sem, Hold.p, HoldK.k, HoldL.K, HoldL.body, Nat.reduceBEq, Nat.reduceAdd, reduceIte]
  refine callA_of (lwNext_c W hv hl 600 (by omega)) ?_
  clear W
  rintro r6 g6 ⟨x6, rfl, a6, b6, W⟩
  have e6 : wr .i64 (1 + x6) = 1 + x6 := wr64 _ (by omega)
  obtain ⟨pos, st, w1, w2, w3, S⟩ := W
  try simp (disch := (first | omega | assumption | (simp only [lc0, ln0, la0]; first | done | omega) | (simp (disch := assumption) only [go_sem, one_as, Nat.reduceBEq]; done) | fail)) only [e6, go_sem, Hold.p, HoldK.k, HoldL.K, HoldL.body, Nat.reduceBEq, Nat.reduceAdd, reduceIte]
  refine callA_of (lwPattern_c S x5 (1 + x6) (by omega) (by omega) (by omega) (by omega)) ?_
  clear S
  rintro r7 g7 ⟨pay, hpl, z7, S⟩
  have q1 := (S.bx 1 rfl).eq
  have q3 := (S.bx 3 rfl).eq
  try simp (disch := (first | omega | assumption | (simp only [lc0, ln0, la0]; first | done | omega) | (simp (disch := assumption) only [go_sem, one_as, Nat.reduceBEq]; done) | fail)) only [q1, q3, go_sem, Hold.p, HoldK.k, HoldL.K, HoldL.body, Nat.reduceBEq, Nat.reduceAdd, reduceIte]
  refine Sp.zero S fun p8 g8 S E_g8 l_g8 => ?_
  have q0 := (S.bx 0 rfl).eq
  have q2 := (S.bx 2 rfl).eq
  have q4 := (S.bx 4 rfl).eq
  try simp (disch := (first | omega | assumption | (simp only [lc0, ln0, la0]; first | done | omega) | (simp (disch := assumption) only [go_sem, one_as, Nat.reduceBEq]; done) | fail)) only [q0, q2, q4, go_sem, Hold.p, HoldK.k, HoldL.K, HoldL.body, Nat.reduceBEq, Nat.reduceAdd, reduceIte]
  refine stw_of rfl rfl (by first | rfl | simp (disch := assumption) only [go_sem, cells_one, one_as]) fun g9 hg => ?_
  have l_g9 := n_set hg
  have S := S.set0 hg
  clear hg
  have q0 := (S.bx 0 rfl).eq
  have q2 := (S.bx 2 rfl).eq
  have q4 := (S.bx 4 rfl).eq
  try simp (disch := (first | omega | assumption | (simp only [lc0, ln0, la0]; first | done | omega) | (simp (disch := assumption) only [go_sem, one_as, Nat.reduceBEq]; done) | fail)) only [q0, q2, q4, go_sem, Hold.p, HoldK.k, HoldL.K, HoldL.body, Nat.reduceBEq, Nat.reduceAdd, reduceIte]
  have W : SrcAt g9 b v bs.length (old h0 :: box p8 (.rows [[.int .i64 x2, .int .i64 id, .bool false, .bool false, .int .i64 0, .int .i64 (1 + x3), .int .i64 x4, .int .i64 167772161, .int .i64 167772162, .nilslice, r7]] 44 11 false) :: byt r7 pay :: box p4 pkO0 :: L) := ⟨pos, st, w1, w2, w3, by
    have S := by simpa only [mc0, mn0, List.getD_cons_zero, List.getD_cons_succ, ds0, dz0, ca0, na0] using Sp.sel S 5 [2, 3, 0, 1, 4] (by simp only [lc0]; omega) (by decide) (by decide)
    exact S⟩
  clear S
  try simp (disch := (first | omega | assumption | (simp only [lc0, ln0, la0]; first | done | omega) | (simp (disch := assumption) only [go_sem, one_as, Nat.reduceBEq]; done) | fail)) only [go_sem, Hold.p, HoldK.k, HoldL.K, HoldL.body, Nat.reduceBEq, Nat.reduceAdd, reduceIte]
  refine callA_of (lwNext_c W hv hl 3 (by omega)) ?_
  clear W
  rintro r10 g10 ⟨x10, rfl, a10, b10, W⟩
  try simp (disch := (first | omega | assumption | (simp only [lc0, ln0, la0]; first | done | omega) | (simp (disch := assumption) only [go_sem, one_as, Nat.reduceBEq]; done) | fail)) only [go_sem, Hold.p, HoldK.k, HoldL.K, HoldL.body, Nat.reduceBEq, Nat.reduceAdd, reduceIte]
  refine test_dec (fun hb => ?_) (fun hb => ?_)
  · skip
    try simp (disch := (first | omega | assumption | (simp only [lc0, ln0, la0]; first | done | omega) | (simp (disch := assumption) only [go_sem, one_as, Nat.reduceBEq]; done) | fail)) only [go_sem, Hold.p, HoldK.k, HoldL.K, HoldL.body, Nat.reduceBEq, Nat.reduceAdd, reduceIte]
    refine callA_of (lwNext_c W hv hl 99 (by omega)) ?_
    clear W
    rintro r11 g11 ⟨x11, rfl, a11, b11, W⟩
    try simp (disch := (first | omega | assumption | (simp only [lc0, ln0, la0]; first | done | omega) | (simp (disch := assumption) only [go_sem, one_as, Nat.reduceBEq]; done) | fail)) only [go_sem, Hold.p, HoldK.k, HoldL.K, HoldL.body, Nat.reduceBEq, Nat.reduceAdd, reduceIte]
    refine callA_of (lwNext_c W hv hl 11 (by omega)) ?_
    clear W
    rintro r12 g12 ⟨x12, rfl, a12, b12, W⟩
    have e12 : wr .i64 (4 * x12) = 4 * x12 := wr64 _ (by omega)
    obtain ⟨pos, st, w1, w2, w3, S⟩ := W
    try simp (disch := (first | omega | assumption | (simp only [lc0, ln0, la0]; first | done | omega) | (simp (disch := assumption) only [go_sem, one_as, Nat.reduceBEq]; done) | fail)) only [e12, go_sem, Hold.p, HoldK.k, HoldL.K, HoldL.body, Nat.reduceBEq, Nat.reduceAdd, reduceIte]
    refine callA_of (lwPattern_c S x11 (4 * x12) (by omega) (by omega) (by omega) (by omega)) ?_
    clear S
    rintro r13 g13 ⟨opts, hol, z13, S⟩
    have q3 := (S.bx 3 rfl).eq
    have q5 := (S.bx 5 rfl).eq
    try simp (disch := (first | omega | assumption | (simp only [lc0, ln0, la0]; first | done | omega) | (simp (disch := assumption) only [go_sem, one_as, Nat.reduceBEq]; done) | fail)) only [q3, q5, go_sem, Hold.p, HoldK.k, HoldL.K, HoldL.body, Nat.reduceBEq, Nat.reduceAdd, reduceIte]
    refine st1_of (Nat.le_of_ble_eq_true rfl) (by first | rfl | assumption) fun g14 hg => ?_
    have l_g14 := n_set hg
    have S := S.set3 hg
    clear hg
    simp only [sz0, ss0, ts0, tz0, ds0, dz0, ca0, na0, Nat.reduceAdd] at S
    have q3 := (S.bx 3 rfl).eq
    have q5 := (S.bx 5 rfl).eq
    try simp (disch := (first | omega | assumption | (simp only [lc0, ln0, la0]; first | done | omega) | (simp (disch := assumption) only [go_sem, one_as, Nat.reduceBEq]; done) | fail)) only [q3, q5, go_sem, Hold.p, HoldK.k, HoldL.K, HoldL.body, Nat.reduceBEq, Nat.reduceAdd, reduceIte]
    refine stw_of rfl rfl (by first | rfl | simp (disch := assumption) only [go_sem, cells_one, one_as]) fun g15 hg => ?_
    have l_g15 := n_set hg
    have S := S.set5 hg
    clear hg
    have q5 := (S.bx 5 rfl).eq
    try simp (disch := (first | omega | assumption | (simp only [lc0, ln0, la0]; first | done | omega) | (simp (disch := assumption) only [go_sem, one_as, Nat.reduceBEq]; done) | fail)) only [q5, go_sem, Hold.p, HoldK.k, HoldL.K, HoldL.body, Nat.reduceBEq, Nat.reduceAdd, reduceIte]
    have S := by simpa only [mc0, mn0, List.getD_cons_zero, List.getD_cons_succ, ds0, dz0, ca0, na0] using Sp.sel S 6 [1, 2, 0, 4] (by simp only [lc0]; omega) (by decide) (by decide)
    exact ⟨⟨x2, id, false, false, 0, 1 + x3, x4, 167772161, 167772162, opts, pay⟩, r13, r7, rfl, z13, z7, ⟨⟨a2, b2 (by omega)⟩, rfl, rfl, rfl, rfl, ⟨by show 1 ≤ 1 + x3; omega, by show 1 + x3 < 256; omega⟩, ⟨a4, b4 (by omega)⟩, rfl, rfl, by show opts.length ≤ 40; omega, by show opts.length % 4 = 0; omega, by show 1 ≤ pay.length; omega, by show pay.length ≤ 600; omega⟩, pos, st, w1, w2, w3, S⟩
  · obtain ⟨pos, st, w1, w2, w3, S⟩ := W
    have q2 := (S.bx 2 rfl).eq
    have q4 := (S.bx 4 rfl).eq
    try simp (disch := (first | omega | assumption | (simp only [lc0, ln0, la0]; first | done | omega) | (simp (disch := assumption) only [go_sem, one_as, Nat.reduceBEq]; done) | fail)) only [q2, q4, go_sem, Hold.p, HoldK.k, HoldL.K, HoldL.body, Nat.reduceBEq, Nat.reduceAdd, reduceIte]
    refine stw_of rfl rfl (by first | rfl | simp (disch := assumption) only [go_sem, cells_one, one_as]) fun g15 hg => ?_
    have l_g15 := n_set hg
    have S := S.set4 hg
    clear hg
    have q4 := (S.bx 4 rfl).eq
    try simp (disch := (first | omega | assumption | (simp only [lc0, ln0, la0]; first | done | omega) | (simp (disch := assumption) only [go_sem, one_as, Nat.reduceBEq]; done) | fail)) only [q4, go_sem, Hold.p, HoldK.k, HoldL.K, HoldL.body, Nat.reduceBEq, Nat.reduceAdd, reduceIte]
    have S := by simpa only [mc0, mn0, List.getD_cons_zero, List.getD_cons_succ, ds0, dz0, ca0, na0] using Sp.sel S 5 [0, 1, 3] (by simp only [lc0]; omega) (by decide) (by decide)
    have S := S.slNil (x := false) (el := 5) (sz := 1)
    have S := by simpa only [mc0, mn0, List.getD_cons_zero, List.getD_cons_succ, ds0, dz0, ca0, na0] using Sp.sel S 4 [1, 2, 0, 3] (by simp only [lc0]; omega) (by decide) (by decide)
    exact ⟨⟨x2, id, false, false, 0, 1 + x3, x4, 167772161, 167772162, [], pay⟩, .nilslice, r7, rfl, rfl, z7, ⟨⟨a2, b2 (by omega)⟩, rfl, rfl, rfl, rfl, ⟨by show 1 ≤ 1 + x3; omega, by show 1 + x3 < 256; omega⟩, ⟨a4, b4 (by omega)⟩, rfl, rfl, by simp, by simp, by show 1 ≤ pay.length; omega, by show pay.length ≤ 600; omega⟩, pos, st, w1, w2, w3, S⟩
end
end Go.Proofs.Ytjmmmmdpkfpojaa

set_option maxRecDepth 20000
namespace Go.Proofs.Ytjmmmmdpkfpojaa
open Go Go.IW
section
attribute [local go_sem] List.getElem?_cons_zero List.getElem?_cons_succ Option.bind_some List.map_cons List.map_nil Nat.zero_add if_true List.getD_cons_zero List.getD_cons_succ List.contains_cons List.contains_nil Bool.or_true Bool.true_or Bool.or_false Bool.false_or Bool.not_true Bool.not_false true_and and_true rowA_whole mid_get rowO_rows cellO_rows upd_ne Nat.add_assoc Nat.add_zero List.all_cons List.all_nil one_bool one_int one_str one_ptr one_nilptr one_slice one_eslice one_nilslice one_func one_iface one_niliface Bool.and_true Bool.and_self List.length_cons List.length_nil Nat.one_ne_zero Nat.succ_ne_zero if_false List.set_cons_zero List.set_cons_succ lay_nil lay_1 lay_w Option.map_some cells_one rowA_some List.drop_succ_cons List.drop_zero List.take_succ_cons List.take_zero

abbrev endP (v : IV) (es : List En) : As := sl false 113 5 v (es.map enRow)
def toldS (m : Ms) : En := ⟨m.src, m.dst, m.proto, m.id, m.has⟩
def goneO (o : Ot) (m : Ms) (told : Bool) : Ot := if (told && !m.ref) = true then { o with ended := o.ended ++ [toldS m] } else o
theorem erase_take {α : Type} {l : List α} {k i : Nat} {x : α} (hk : l[k]? = some x) : (l.take (k + 1)).eraseIdx i = if k = i then (l.take k).eraseIdx i else (l.take k).eraseIdx i ++ [x] := by
  have hl : k < l.length := (List.getElem?_eq_some_iff.1 hk).1
  have hlen : (l.take k).length = k := by simp; omega
  rw [List.take_add_one, hk]
  simp only [Option.toList_some]
  rcases Nat.lt_trichotomy k i with h | h | h
  · rw [if_neg (by omega), List.eraseIdx_of_length_le (l := l.take k ++ [x]) (by rw [la0, hlen, List.length_singleton]; omega), List.eraseIdx_of_length_le (l := l.take k) (by omega)]
  · subst h
    rw [if_pos rfl, List.eraseIdx_append_of_length_le (by omega), hlen, Nat.sub_self, List.eraseIdx_of_length_le (l := l.take k) (by omega)]
    simp
  · rw [if_neg (by omega), List.eraseIdx_append_of_lt_length (by rw [hlen]; exact h)]
theorem a2_erase {α : Type} {R : List IV → α → As} {h : IH} {L : List As} {rs : List (List IV)} {xs : List α} {i : Nat} {x : α} (S : Sp h (all2 R rs xs :: L)) (hi : xs[i]? = some x) : Sp h (all2 R (rs.eraseIdx i) (xs.eraseIdx i) :: L) := by
  obtain ⟨a0, r, bs, xs1, ys, rfl, rfl, h1, h2, S⟩ := S.a2at hi
  have := S.drop.a2join
  rw [List.eraseIdx_append_of_length_le (by omega), List.eraseIdx_append_of_length_le (by omega), h1, h2, Nat.sub_self]
  exact this
theorem msRow_ok {m : Ms} {a b c : IV} (ha : a.one = true) (hb : b.one = true) (hc : c.one = true) : (msRow m a b c).length = 20 ∧ (msRow m a b c).all IV.one = true := by
  refine ⟨rfl, ?_⟩
  unfold msRow
  simp only [List.all_cons, List.all_nil, one_bool, one_int, ha, hb, hc, Bool.and_self]
theorem made_rows {h : IH} {L : List As} {rs : List (List IV)} {l : List Ms} (S : Sp h L) (k : Nat) (hk : L[k]? = some (all2 madeR rs l)) : ∀ r ∈ rs, r.length = 20 ∧ r.all IV.one = true := by
  intro r hr
  obtain ⟨i, hi⟩ := List.getElem?_of_mem hr
  have hl := a2_len S k hk
  have hlt := (List.getElem?_eq_some_iff.1 hi).1
  obtain ⟨m, hm⟩ : ∃ m, l[i]? = some m := ⟨_, List.getElem?_eq_getElem (by omega : i < l.length)⟩
  obtain ⟨a, b, c, h1, h2, h3, h4⟩ := made_at S k hk hm
  rw [hi] at h1
  obtain rfl := Option.some.inj h1
  exact msRow_ok h2 h3 h4
set_option maxHeartbeats 1000000 in
theorem l06Gone_c {h : IH} {L : List As} {w : Nat} {now : Int} {vl vo vp ve : IV} {o : Ot} {rs : List (List IV)}
    (S : Sp h (box w (wO now vl o vo vp ve) :: sl false 94 20 vl rs :: endP ve o.ended :: L)) (hl : rs.length ≤ 1000) (he : o.ended.length ≤ 1000000) {i : Nat} {m : Ms} {vps mo mp : IV} (hrow : rs[i]? = some (msRow m vps mo mp))
    (k1 : vps.one = true) (k2 : mo.one = true) (k3 : mp.one = true) (hones : ∀ r ∈ rs, r.length = 20 ∧ r.all IV.one = true) (told : Bool) (v1 : vo.one = true) (v2 : vp.one = true) :
    ICalls Try.prog 50 [.ptr w 0 0, .int .i64 (i : Nat), .bool told] h fun r h' => ∃ vl' ve', Sp h' (box w (wO now vl' (goneO o m told) vo vp ve') :: sl false 94 20 vl' (rs.eraseIdx i) :: endP ve' (goneO o m told).ended :: L) := by
  refine icalls (.of ok50) (Nat.le_of_ble_eq_true rfl) ?_
  unfold c50
  have hil := (List.getElem?_eq_some_iff.1 hrow).1
  refine vc_split 2 (fun e g => ∃ ve', e 0 = .ptr w 0 0 ∧ e 1 = .int .i64 (i : Nat) ∧ Sp g (box w (wO now vl (goneO o m told) vo vp ve') :: sl false 94 20 vl rs :: endP ve' (goneO o m told).ended :: L)) ?_ ?_
  · simp only [CC.split]
    have q0 := (S.bx 0 rfl).eq
    have s1 := S.slA 1 rfl
    have len_s1 := s1.lenF
    have z1 := s1.one
    have s2 := S.slA 2 rfl
    have len_s2 := s2.lenF
    have z2 := s2.one
    try simp (disch := (first | omega | assumption | (simp only [lc0, ln0, la0]; first | done | omega) | (simp (disch := assumption) only [go_sem, one_as, Nat.reduceBEq]; done) | fail)) only [q0, len_s1, z1, len_s2, z2, go_sem, Hold.p, HoldK.k, HoldL.K, HoldL.body, Nat.reduceBEq, Nat.reduceAdd, reduceIte]
    obtain ⟨a1, a2, hia, hal, har⟩ := s1.at hrow .i64
    unfold msRow at har
    have q0 := (S.bx 0 rfl).eq
    try simp (disch := (first | omega | assumption | (simp only [lc0, ln0, la0]; first | done | omega) | (simp (disch := assumption) only [go_sem, one_as, Nat.reduceBEq]; done) | fail)) only [q0, hia, har, go_sem, Hold.p, HoldK.k, HoldL.K, HoldL.body, Nat.reduceBEq, Nat.reduceAdd, reduceIte]
    refine Sp.zero S fun p6 g1 S E_g1 l_g1 => ?_
    have q0 := (S.bx 0 rfl).eq
    try simp (disch := (first | omega | assumption | (simp only [lc0, ln0, la0]; first | done | omega) | (simp (disch := assumption) only [go_sem, one_as, Nat.reduceBEq]; done) | fail)) only [q0, go_sem, Hold.p, HoldK.k, HoldL.K, HoldL.body, Nat.reduceBEq, Nat.reduceAdd, reduceIte]
    refine stw_of rfl rfl (by first | rfl | simp (disch := assumption) only [go_sem, cells_one, one_as]) fun g2 hg => ?_
    have l_g2 := n_set hg
    have S := S.set0 hg
    clear hg
    have q0 := (S.bx 0 rfl).eq
    try simp (disch := (first | omega | assumption | (simp only [lc0, ln0, la0]; first | done | omega) | (simp (disch := assumption) only [go_sem, one_as, Nat.reduceBEq]; done) | fail)) only [q0, go_sem, Hold.p, HoldK.k, HoldL.K, HoldL.body, Nat.reduceBEq, Nat.reduceAdd, reduceIte]
    refine test_of (fun hc => ?_) (fun hc => ?_)
    · skip
      have q0 := (S.bx 0 rfl).eq
      have q1 := (S.bx 1 rfl).eq
      have s3 := S.slA 3 rfl
      have len_s3 := s3.lenF
      have z3 := s3.one
      try simp (disch := (first | omega | assumption | (simp only [lc0, ln0, la0]; first | done | omega) | (simp (disch := assumption) only [go_sem, one_as, Nat.reduceBEq]; done) | fail)) only [q0, q1, len_s3, z3, go_sem, Hold.p, HoldK.k, HoldL.K, HoldL.body, Nat.reduceBEq, Nat.reduceAdd, reduceIte]
      refine Sp.bsl1 S (by first | rfl | (rw [cells_one (by assumption)]; rfl)) (by first | rfl | simp (disch := assumption) only [go_sem, cells_one, one_as]) fun p7 g3 S E_g3 l_g3 => ?_
      try simp only [cells_agg, cells_int, cells_bool, cells_ptr, cells_str] at S
      have q0 := (S.bx 0 rfl).eq
      have q1 := (S.bx 1 rfl).eq
      have q2 := (S.bx 2 rfl).eq
      try simp (disch := (first | omega | assumption | (simp only [lc0, ln0, la0]; first | done | omega) | (simp (disch := assumption) only [go_sem, one_as, Nat.reduceBEq]; done) | fail)) only [q0, q1, q2, go_sem, Hold.p, HoldK.k, HoldL.K, HoldL.body, Nat.reduceBEq, Nat.reduceAdd, reduceIte]
      have S := by simpa only [mc0, mn0, List.getD_cons_zero, List.getD_cons_succ, ds0, dz0, ca0, na0] using Sp.sel S 5 [0, 4, 1, 2, 3] (by simp only [lc0]; omega) (by decide) (by decide)
      refine S.app1 (y := false) (by simp; omega) ?_
      clear S
      intro v8 g4 S z8
      have q2 := (S.bx 2 rfl).eq
      try simp (disch := (first | omega | assumption | (simp only [lc0, ln0, la0]; first | done | omega) | (simp (disch := assumption) only [go_sem, one_as, Nat.reduceBEq]; done) | fail)) only [q2, go_sem, Hold.p, HoldK.k, HoldL.K, HoldL.body, Nat.reduceBEq, Nat.reduceAdd, reduceIte]
      refine st1_of (Nat.le_of_ble_eq_true rfl) (by first | rfl | assumption) fun g5 hg => ?_
      have l_g5 := n_set hg
      have S := S.set2 hg
      clear hg
      simp only [sz0, ss0, ts0, tz0, ds0, dz0, ca0, na0, Nat.reduceAdd] at S
      try simp (disch := (first | omega | assumption | (simp only [lc0, ln0, la0]; first | done | omega) | (simp (disch := assumption) only [go_sem, one_as, Nat.reduceBEq]; done) | fail)) only [go_sem, Hold.p, HoldK.k, HoldL.K, HoldL.body, Nat.reduceBEq, Nat.reduceAdd, reduceIte]
      have hg : goneO o m told = { o with ended := o.ended ++ [toldS m] } := if_pos hc
      refine ⟨v8, ?_⟩
      rw [hg]
      simp only [endP, List.map_append, mc0, mn0]
      have S := by simpa only [mc0, mn0, List.getD_cons_zero, List.getD_cons_succ, ds0, dz0, ca0, na0] using Sp.sel S 4 [2, 3, 0] (by simp only [lc0]; omega) (by decide) (by decide)
      exact S
    · have hg : goneO o m told = o := if_neg (by simp [hc])
      try simp (disch := (first | omega | assumption | (simp only [lc0, ln0, la0]; first | done | omega) | (simp (disch := assumption) only [go_sem, one_as, Nat.reduceBEq]; done) | fail)) only [go_sem, Hold.p, HoldK.k, HoldL.K, HoldL.body, Nat.reduceBEq, Nat.reduceAdd, reduceIte]
      refine ⟨ve, ?_⟩
      rw [hg]
      have S := by simpa only [mc0, mn0, List.getD_cons_zero, List.getD_cons_succ, ds0, dz0, ca0, na0] using Sp.sel S 4 [1, 2, 3] (by simp only [lc0]; omega) (by decide) (by decide)
      exact S
  · clear S v1 v2
    rintro e g ⟨ve', i0, i1, S⟩
    simp only [CC.split]
    generalize goneO o m told = o' at S ⊢
    try simp (disch := (first | omega | assumption | (simp only [lc0, ln0, la0]; first | done | omega) | (simp (disch := assumption) only [go_sem, one_as, Nat.reduceBEq]; done) | fail)) only [go_sem, Hold.p, HoldK.k, HoldL.K, HoldL.body, Nat.reduceBEq, Nat.reduceAdd, reduceIte]
    refine loop_at (fun n e g => ∃ (k : Nat) (vx : IV), n = rs.length - k ∧ k ≤ rs.length ∧ e 0 = .ptr w 0 0 ∧ e 1 = .int .i64 (i : Nat) ∧ e 7 = vx ∧ e 8 = .int .i64 (k : Nat) ∧
      Sp g (box w (wO now vl o' vo vp ve') :: sl false 94 20 vl rs :: sl false 94 20 vx ((rs.take k).eraseIdx i) :: endP ve' o'.ended :: L)) rs.length ?_ ?_
    · refine ⟨0, .eslice true, by omega, by omega, ?_⟩
      try simp (disch := (first | omega | assumption | (simp only [lc0, ln0, la0]; first | done | omega) | (simp (disch := assumption) only [go_sem, one_as, Nat.reduceBEq]; done) | fail)) only [i0, i1, go_sem, Hold.p, HoldK.k, HoldL.K, HoldL.body, Nat.reduceBEq, Nat.reduceAdd, reduceIte]
      have S := S.slEmpty (x := false) (el := 94) (sz := 20)
      have S := by simpa only [mc0, mn0, List.getD_cons_zero, List.getD_cons_succ, ds0, dz0, ca0, na0] using Sp.sel S 4 [1, 2, 0, 3] (by simp only [lc0]; omega) (by decide) (by decide)
      refine ⟨rfl, ?_⟩
      simpa using S
    · clear S i0 i1 e g
      rintro n e g ⟨k, vx, rfl, hk, i0, i1, i7, i8, S⟩
      have q0 := (S.bx 0 rfl).eq
      have s1 := S.slA 1 rfl
      have len_s1 := s1.lenF
      have z1 := s1.one
      have s2 := S.slA 2 rfl
      have len_s2 := s2.lenF
      have z2 := s2.one
      try simp (disch := (first | omega | assumption | (simp only [lc0, ln0, la0]; first | done | omega) | (simp (disch := assumption) only [go_sem, one_as, Nat.reduceBEq]; done) | fail)) only [q0, len_s1, z1, len_s2, z2, i0, i1, i7, i8, go_sem, Hold.p, HoldK.k, HoldL.K, HoldL.body, Nat.reduceBEq, Nat.reduceAdd, reduceIte]
      refine test_dec (fun hb => ?_) (fun hb => ?_)
      · have w1 : wr .i64 ((k : Int) + 1) = ((k + 1 : Nat) : Int) := by rw [wr64 _ (by omega)]; rfl
        obtain ⟨row, hrk⟩ : ∃ m, rs[k]? = some m := ⟨_, List.getElem?_eq_getElem (by omega : k < rs.length)⟩
        obtain ⟨hro, hra⟩ := hones row (List.mem_of_getElem? hrk)
        have het := erase_take (i := i) hrk
        try simp (disch := (first | omega | assumption | (simp only [lc0, ln0, la0]; first | done | omega) | (simp (disch := assumption) only [go_sem, one_as, Nat.reduceBEq]; done) | fail)) only [i0, i1, i7, i8, go_sem, Hold.p, HoldK.k, HoldL.K, HoldL.body, Nat.reduceBEq, Nat.reduceAdd, reduceIte]
        by_cases hki : k = i
        · have d1 : decide ((k : Int) = (i : Int)) = true := decide_eq_true (by omega)
          rw [if_pos hki] at het
          try simp (disch := (first | omega | assumption | (simp only [lc0, ln0, la0]; first | done | omega) | (simp (disch := assumption) only [go_sem, one_as, Nat.reduceBEq]; done) | fail)) only [d1, i0, i1, i7, i8, w1, go_sem, Hold.p, HoldK.k, HoldL.K, HoldL.body, Nat.reduceBEq, Nat.reduceAdd, reduceIte]
          rw [← het] at S
          exact ⟨_, by omega, k + 1, vx, rfl, by omega, rfl, rfl, S⟩
        · have d1 : decide ((k : Int) = (i : Int)) = false := decide_eq_false (by omega)
          rw [if_neg hki] at het
          obtain ⟨a1, a2, hia, hal, har⟩ := s1.at hrk .i64
          have q0 := (S.bx 0 rfl).eq
          try simp (disch := (first | omega | assumption | (simp only [lc0, ln0, la0]; first | done | omega) | (simp (disch := assumption) only [go_sem, one_as, Nat.reduceBEq]; done) | fail)) only [q0, d1, i0, i1, i7, i8, hia, har, go_sem, Hold.p, HoldK.k, HoldL.K, HoldL.body, Nat.reduceBEq, Nat.reduceAdd, reduceIte]
          have e9 : (IV.agg (row.take 20)).cells = row := List.take_of_length_le (by omega)
          refine Sp.bsl1 S (by rw [e9]; exact hro) (by rw [e9]; exact hra) fun p9 g9 S E9 l9 => ?_
          rw [e9] at S
          have q0 := (S.bx 0 rfl).eq
          try simp (disch := (first | omega | assumption | (simp only [lc0, ln0, la0]; first | done | omega) | (simp (disch := assumption) only [go_sem, one_as, Nat.reduceBEq]; done) | fail)) only [q0, i7, go_sem, Hold.p, HoldK.k, HoldL.K, HoldL.body, Nat.reduceBEq, Nat.reduceAdd, reduceIte]
          have S := by simpa only [mc0, mn0, List.getD_cons_zero, List.getD_cons_succ, ds0, dz0, ca0, na0] using Sp.sel S 5 [0, 3, 1, 2, 4] (by simp only [lc0]; omega) (by decide) (by decide)
          refine S.app1 (y := false) (by have h1 := List.length_eraseIdx_le (rs.take k) i; have h2 := List.length_take_le k rs; omega) ?_
          clear S
          intro v10 g10 S z10
          try simp (disch := (first | omega | assumption | (simp only [lc0, ln0, la0]; first | done | omega) | (simp (disch := assumption) only [go_sem, one_as, Nat.reduceBEq]; done) | fail)) only [i0, i1, i8, w1, go_sem, Hold.p, HoldK.k, HoldL.K, HoldL.body, Nat.reduceBEq, Nat.reduceAdd, reduceIte]
          have S := by simpa only [mc0, mn0, List.getD_cons_zero, List.getD_cons_succ, ds0, dz0, ca0, na0] using Sp.sel S 4 [1, 2, 0, 3] (by simp only [lc0]; omega) (by decide) (by decide)
          rw [← het] at S
          exact ⟨_, by omega, k + 1, v10, rfl, by omega, rfl, rfl, S⟩
      · obtain rfl : k = rs.length := by omega
        have q0 := (S.bx 0 rfl).eq
        try simp (disch := (first | omega | assumption | (simp only [lc0, ln0, la0]; first | done | omega) | (simp (disch := assumption) only [go_sem, one_as, Nat.reduceBEq]; done) | fail)) only [q0, i0, i1, i7, i8, go_sem, Hold.p, HoldK.k, HoldL.K, HoldL.body, Nat.reduceBEq, Nat.reduceAdd, reduceIte]
        refine st1_of (Nat.le_of_ble_eq_true rfl) (by first | rfl | assumption) fun g11 hg => ?_
        have l_g11 := n_set hg
        have S := S.set0 hg
        clear hg
        simp only [sz0, ss0, ts0, tz0, ds0, dz0, ca0, na0, Nat.reduceAdd] at S
        try simp (disch := (first | omega | assumption | (simp only [lc0, ln0, la0]; first | done | omega) | (simp (disch := assumption) only [go_sem, one_as, Nat.reduceBEq]; done) | fail)) only [go_sem, Hold.p, HoldK.k, HoldL.K, HoldL.body, Nat.reduceBEq, Nat.reduceAdd, reduceIte]
        rw [List.take_of_length_le (by omega)] at S
        refine ⟨vx, ve', ?_⟩
        have S := by simpa only [mc0, mn0, List.getD_cons_zero, List.getD_cons_succ, ds0, dz0, ca0, na0] using Sp.sel S 4 [0, 2, 3] (by simp only [lc0]; omega) (by decide) (by decide)
        exact S
end
end Go.Proofs.Ytjmmmmdpkfpojaa

set_option maxRecDepth 20000
namespace Go.Proofs.Ytjmmmmdpkfpojaa
open Go Go.IW
section
attribute [local go_sem] List.getElem?_cons_zero List.getElem?_cons_succ Option.bind_some List.map_cons List.map_nil Nat.zero_add if_true List.getD_cons_zero List.getD_cons_succ List.contains_cons List.contains_nil Bool.or_true Bool.true_or Bool.or_false Bool.false_or Bool.not_true Bool.not_false true_and and_true rowA_whole mid_get rowO_rows cellO_rows upd_ne Nat.add_assoc Nat.add_zero List.all_cons List.all_nil one_bool one_int one_str one_ptr one_nilptr one_slice one_eslice one_nilslice one_func one_iface one_niliface Bool.and_true Bool.and_self List.length_cons List.length_nil Nat.one_ne_zero Nat.succ_ne_zero if_false List.set_cons_zero List.set_cons_succ lay_nil lay_1 lay_w Option.map_some cells_one rowA_some List.drop_succ_cons List.drop_zero List.take_succ_cons List.take_zero

theorem drop_at {α : Type} {l : List α} {k : Nat} {x : α} (hk : l[k]? = some x) : l.drop k = x :: l.drop (k + 1) := by
  obtain ⟨h1, rfl⟩ := List.getElem?_eq_some_iff.1 hk
  exact List.drop_eq_getElem_cons h1
structure Small (N : Nat) (ps : Pcs) (en : Int) : Prop where
  n : ps.length ≤ N
  q : ∀ q ∈ ps, (0 ≤ q.1 ∧ q.1 ≤ 65535) ∧ q.2.length ≤ 65535
  e : -1 ≤ en ∧ en ≤ 200000
abbrev msO (m : Ms) (ps : IV) (en : Int) (ref has : Bool) (f : Pk) (vo vp : IV) : IObj := .rows [[.int .i64 m.src, .int .i64 m.dst, .int .i64 m.proto, .int .i64 m.id, .int .i64 m.born, ps, .int .i64 en, .bool ref, .bool has,
  .int .i64 f.tos, .int .i64 f.id, .bool f.df, .bool f.mf, .int .i64 f.off, .int .i64 f.ttl, .int .i64 f.proto, .int .i64 f.src, .int .i64 f.dst, vo, vp]] 94 20 false
abbrev msO0 : IObj := .rows [[.int .i64 0, .int .i64 0, .int .i64 0, .int .i64 0, .int .i64 0, .nilslice, .int .i64 0, .bool false, .bool false, .int .i64 0, .int .i64 0, .bool false, .bool false, .int .i64 0, .int .i64 0, .int .i64 0, .int .i64 0, .int .i64 0, .nilslice, .nilslice]] 94 20 false
theorem pcR_mk {h : IH} {L : List As} {vd : IV} {a : Int} {b : Txt} (S : Sp h (sl false 5 1 vd (strRows b) :: L)) : Sp h (pcR [.int .i64 a, vd] (a, b) :: L) := Sp.unex vd (S.unfact rfl).unstar
theorem made_mk {h : IH} {L : List As} {m : Ms} {vps vo vp : IV} {rs : List (List IV)} (S : Sp h (sl false 99 2 vps rs :: all2 pcR rs m.ps :: byt vo m.first.opts :: byt vp m.first.pay :: L)) : Sp h (madeR (msRow m vps vo vp) m :: L) := by
  have z1 := (S.slA 2 rfl).one
  have z2 := (S.slA 3 rfl).one
  have S := by simpa only [mc0, mn0, List.getD_cons_zero, List.getD_cons_succ, ds0, dz0, ca0, na0] using Sp.sel S 4 [2, 3, 0, 1] (by simp only [lc0]; omega) (by decide) (by decide)
  have S := S.unstar
  have S := by simpa only [mc0, mn0, List.getD_cons_zero, List.getD_cons_succ, ds0, dz0, ca0, na0] using Sp.sel S 3 [2, 0, 1] (by simp only [lc0]; omega) (by decide) (by decide)
  have S := S.unstar.p1.unstar.unfact (p := msRow m vps vo vp = msRow m vps vo vp ∧ vo.one = true ∧ vp.one = true) ⟨rfl, z1, z2⟩
  exact Sp.unex (F := fun v : IV × IV × IV × List (List IV) => stars (fact (msRow m vps vo vp = msRow m v.1 v.2.1 v.2.2.1 ∧ v.2.1.one = true ∧ v.2.2.1.one = true)) (stars (sl false 99 2 v.1 v.2.2.2) (stars (all2 pcR v.2.2.2 m.ps) (stars (byt v.2.1 m.first.opts) (byt v.2.2.1 m.first.pay))))) (vps, vo, vp, rs) S.unstar
theorem pcs_add {h : IH} {L : List As} {vd : IV} {a : Int} {b : Txt} {rs : List (List IV)} {ps : Pcs} (S : Sp h (sl false 5 1 vd (strRows b) :: all2 pcR rs ps :: L)) : Sp h (all2 pcR (rs ++ [[.int .i64 a, vd]]) (ps ++ [(a, b)]) :: L) :=
  ((pcR_mk S).a2one.p1).a2join
set_option maxHeartbeats 2000000 in
theorem l06Add_c {h h0 : IH} {L : List As} {m : Ms} {vps mo mp : IV} {rs : List (List IV)} {p : Pk} {po pp : IV}
    (S : Sp h (sl false 99 2 vps rs :: all2 pcR rs m.ps :: byt mo m.first.opts :: byt mp m.first.pay :: old h0 :: L)) (a : PkAt h0 p po pp) (hs : Small 100000 m.ps m.en) (ho : 0 ≤ p.off ∧ p.off ≤ 65535) (hp : p.pay.length ≤ 65535) (hpo : p.opts.length ≤ 100) (hmo : m.first.opts.length ≤ 100) :
    ICalls Try.prog 51 [.agg (msRow m vps mo mp), .agg (pkRow p po pp)] h fun r h' => ∃ r', r = .agg r' ∧ Sp h' (madeR r' (addS m p) :: old h0 :: L) := by
  refine icalls (.of ok51) (Nat.le_of_ble_eq_true rfl) ?_
  unfold c51 pkRow msRow
  have hsn := hs.n
  have hse := hs.e
  have y1 := a.o.one
  have y2 := a.p.one
  have yl := a.p.lenF
  rw [strRows_len] at yl
  have x0 := (S.slA 0 rfl).one
  have x1 := (S.slA 2 rfl).one
  have x2 := (S.slA 3 rfl).one
  generalize hen : p.off + (p.pay.length : Int) = en
  have w0 : wr .i64 (p.off + (p.pay.length : Int)) = en := by rw [wr64 _ (by omega)]; exact hen
  refine vc_split 4 (fun e g => ∃ (p2 p3 p4 : Nat) (same ref : Bool), e 2 = .ptr p2 0 0 ∧ e 3 = .ptr p3 0 0 ∧ e 4 = .ptr p4 0 0 ∧ e 5 = .int .i64 en ∧ e 6 = .bool same ∧ scanS p.off en p.pay m.ps false m.ref = (same, ref) ∧
    Sp g (box p4 msO0 :: box p3 (pkObj p po pp) :: box p2 (msO m vps m.en ref m.has m.first mo mp) :: sl false 99 2 vps rs :: all2 pcR rs m.ps :: byt mo m.first.opts :: byt mp m.first.pay :: old h0 :: L)) ?_ ?_
  · simp only [CC.split]
    try simp (disch := (first | omega | assumption | (simp only [lc0, ln0, la0]; first | done | omega) | (simp (disch := assumption) only [go_sem, one_as, Nat.reduceBEq]; done) | fail)) only [go_sem, Hold.p, HoldK.k, HoldL.K, HoldL.body, Nat.reduceBEq, Nat.reduceAdd, reduceIte]
    refine Sp.bxA S (by first | rfl | (rw [cells_one (by assumption)]; rfl)) (by first | rfl | simp (disch := assumption) only [go_sem, cells_one, one_as]) fun p2 g1 S E_g1 l_g1 => ?_
    try simp (disch := (first | omega | assumption | (simp only [lc0, ln0, la0]; first | done | omega) | (simp (disch := assumption) only [go_sem, one_as, Nat.reduceBEq]; done) | fail)) only [go_sem, Hold.p, HoldK.k, HoldL.K, HoldL.body, Nat.reduceBEq, Nat.reduceAdd, reduceIte]
    refine Sp.bxA S (by first | rfl | (rw [cells_one (by assumption)]; rfl)) (by first | rfl | simp (disch := assumption) only [go_sem, cells_one, one_as]) fun p3 g2 S E_g2 l_g2 => ?_
    try simp (disch := (first | omega | assumption | (simp only [lc0, ln0, la0]; first | done | omega) | (simp (disch := assumption) only [go_sem, one_as, Nat.reduceBEq]; done) | fail)) only [go_sem, Hold.p, HoldK.k, HoldL.K, HoldL.body, Nat.reduceBEq, Nat.reduceAdd, reduceIte]
    refine Sp.zero S fun p4 g3 S E_g3 l_g3 => ?_
    have q0 := (S.bx 0 rfl).eq
    have q1 := (S.bx 1 rfl).eq
    have q2 := (S.bx 2 rfl).eq
    try simp (disch := (first | omega | assumption | (simp only [lc0, ln0, la0]; first | done | omega) | (simp (disch := assumption) only [go_sem, one_as, Nat.reduceBEq]; done) | fail)) only [q0, q1, q2, yl, w0, go_sem, Hold.p, HoldK.k, HoldL.K, HoldL.body, Nat.reduceBEq, Nat.reduceAdd, reduceIte]
    refine loop_at (fun n e g => ∃ (k : Nat) (same ref : Bool), n = m.ps.length - k ∧ k ≤ m.ps.length ∧ e 2 = .ptr p2 0 0 ∧ e 3 = .ptr p3 0 0 ∧ e 4 = .ptr p4 0 0 ∧ e 5 = .int .i64 en ∧ e 6 = .bool same ∧ e 7 = .int .i64 (k : Nat) ∧ scanS p.off en p.pay m.ps false m.ref = scanS p.off en p.pay (m.ps.drop k) same ref ∧
      Sp g (box p4 msO0 :: box p3 (pkObj p po pp) :: box p2 (msO m vps m.en ref m.has m.first mo mp) :: sl false 99 2 vps rs :: all2 pcR rs m.ps :: byt mo m.first.opts :: byt mp m.first.pay :: old h0 :: L)) m.ps.length ?_ ?_
    · refine ⟨0, false, m.ref, by omega, by omega, ?_⟩
      try simp (disch := (first | omega | assumption | (simp only [lc0, ln0, la0]; first | done | omega) | (simp (disch := assumption) only [go_sem, one_as, Nat.reduceBEq]; done) | fail)) only [go_sem, Hold.p, HoldK.k, HoldL.K, HoldL.body, Nat.reduceBEq, Nat.reduceAdd, reduceIte]
      exact ⟨rfl, S⟩
    · clear S
      rintro n e g ⟨k, same, ref, rfl, hk, i2, i3, i4, i5, i6, i7, hsc, S⟩
      have hrl := a2_len S 4 rfl
      have q1 := (S.bx 1 rfl).eq
      have q2 := (S.bx 2 rfl).eq
      have s3 := S.slA 3 rfl
      have len_s3 := s3.lenF
      have z3 := s3.one
      try simp (disch := (first | omega | assumption | (simp only [lc0, ln0, la0]; first | done | omega) | (simp (disch := assumption) only [go_sem, one_as, Nat.reduceBEq]; done) | fail)) only [q1, q2, len_s3, z3, i2, i3, i4, i5, i6, i7, hrl, go_sem, Hold.p, HoldK.k, HoldL.K, HoldL.body, Nat.reduceBEq, Nat.reduceAdd, reduceIte]
      refine test_dec (fun hb => ?_) (fun hb => ?_)
      · obtain ⟨q, hq⟩ : ∃ q, m.ps[k]? = some q := ⟨_, List.getElem?_eq_getElem (by omega : k < m.ps.length)⟩
        have hqs := hs.q q (List.mem_of_getElem? hq)
        obtain ⟨vd, hrow, hvd⟩ := pcs_at S 4 rfl hq
        obtain ⟨a1, a2, hia, hal, har⟩ := s3.at hrow .i64
        have d1 := hvd.one
        have d2 := hvd.lenF
        rw [strRows_len] at d2
        have w1 : wr .i64 ((k : Int) + 1) = ((k + 1 : Nat) : Int) := by rw [wr64 _ (by omega)]; rfl
        have w2 : wr .i64 (q.1 + (q.2.length : Int)) = pTo q := by rw [wr64 _ (by omega)]; rfl
        have q1 := (S.bx 1 rfl).eq
        have q2 := (S.bx 2 rfl).eq
        try simp (disch := (first | omega | assumption | (simp only [lc0, ln0, la0]; first | done | omega) | (simp (disch := assumption) only [go_sem, one_as, Nat.reduceBEq]; done) | fail)) only [q1, q2, i2, i3, i4, i5, i6, i7, hia, har, d1, go_sem, Hold.p, HoldK.k, HoldL.K, HoldL.body, Nat.reduceBEq, Nat.reduceAdd, reduceIte]
        refine Sp.zero S fun p8 g9 S E_g9 l_g9 => ?_
        have q0 := (S.bx 0 rfl).eq
        try simp (disch := (first | omega | assumption | (simp only [lc0, ln0, la0]; first | done | omega) | (simp (disch := assumption) only [go_sem, one_as, Nat.reduceBEq]; done) | fail)) only [q0, d1, go_sem, Hold.p, HoldK.k, HoldL.K, HoldL.body, Nat.reduceBEq, Nat.reduceAdd, reduceIte]
        refine stw_of rfl rfl (by first | rfl | simp (disch := assumption) only [go_sem, cells_one, one_as]) fun g10 hg => ?_
        have l_g10 := n_set hg
        have S := S.set0 hg
        clear hg
        obtain ⟨vd', hrow', hvd'⟩ := pcs_at S 5 rfl hq
        have hvv : vd' = vd := by rw [hrow] at hrow'; simpa using hrow'.symm
        subst hvv
        have q0 := (S.bx 0 rfl).eq
        have q2 := (S.bx 2 rfl).eq
        have q3 := (S.bx 3 rfl).eq
        try simp (disch := (first | omega | assumption | (simp only [lc0, ln0, la0]; first | done | omega) | (simp (disch := assumption) only [go_sem, one_as, Nat.reduceBEq]; done) | fail)) only [q0, q2, q3, i2, i3, i4, i5, i6, i7, d2, w2, go_sem, Hold.p, HoldK.k, HoldL.K, HoldL.body, Nat.reduceBEq, Nat.reduceAdd, reduceIte]
        refine guard_pureT (v := .bool (decide (q.2 = p.pay))) (fun hb => ?_) ?_
        · simp (disch := (first | omega | assumption | (simp only [push_n, set_n, put_n, lc0, ln0, la0, Nat.reduceAdd]; done) | (simp only [push_n, set_n, put_n, lc0, ln0, la0]; omega) | (simp only [List.all_cons, List.all_nil, one_bool, one_int, one_str, one_ptr, one_nilptr, one_slice, one_eslice, one_nilslice, one_func, one_iface, one_niliface, Bool.and_true, Bool.true_and, List.getD_cons_zero, List.getD_cons_succ, List.contains_cons, List.contains_nil, Bool.or_true, Bool.true_or, Bool.or_false, Bool.false_or, Nat.reduceBEq, *]; done) | fail)) only [hb, go_sem, ↓act_zero, boxA_1, boxA_2, boxA_3, bslA_1, Hold.p, HoldK.k, HoldL.K, HoldL.body, Nat.reduceBEq, Nat.reduceAdd, stO_mid, push_n, set_n, push_at, push_old, set_here, set_there, set_pushT, set_pushN, set_set, stO_1s, stO_ws, boxA_s, reduceIte]
          exact l03Same_c g10 _ _ _ _ hvd' (a.ext (S.ol 8 rfl)).p
        simp (disch := (first | omega | assumption | (simp only [push_n, set_n, put_n, lc0, ln0, la0, Nat.reduceAdd]; done) | (simp only [push_n, set_n, put_n, lc0, ln0, la0]; omega) | (simp only [List.all_cons, List.all_nil, one_bool, one_int, one_str, one_ptr, one_nilptr, one_slice, one_eslice, one_nilslice, one_func, one_iface, one_niliface, Bool.and_true, Bool.true_and, List.getD_cons_zero, List.getD_cons_succ, List.contains_cons, List.contains_nil, Bool.or_true, Bool.true_or, Bool.or_false, Bool.false_or, Nat.reduceBEq, *]; done) | fail)) only [i6, i7, go_sem, ↓act_zero, boxA_1, boxA_2, boxA_3, bslA_1, Hold.p, HoldK.k, HoldL.K, HoldL.body, Nat.reduceBEq, Nat.reduceAdd, stO_mid, push_n, set_n, push_at, push_old, set_here, set_there, set_pushT, set_pushN, set_set, stO_1s, stO_ws, boxA_s, reduceIte]
        have hd := drop_at hq
        refine test_of (fun hc => ?_) (fun hc => ?_)
        · have hc' : q.1 = p.off ∧ q.2 = p.pay := by simpa using hc
          try simp (disch := (first | omega | assumption | (simp only [lc0, ln0, la0]; first | done | omega) | (simp (disch := assumption) only [go_sem, one_as, Nat.reduceBEq]; done) | fail)) only [i2, i3, i4, i5, i6, i7, w1, go_sem, Hold.p, HoldK.k, HoldL.K, HoldL.body, Nat.reduceBEq, Nat.reduceAdd, reduceIte]
          have S := by simpa only [mc0, mn0, List.getD_cons_zero, List.getD_cons_succ, ds0, dz0, ca0, na0] using Sp.sel S 9 [1, 2, 3, 4, 5, 6, 7, 8] (by simp only [lc0]; omega) (by decide) (by decide)
          refine ⟨_, by omega, k + 1, true, ref, rfl, by omega, rfl, rfl, ?_, S⟩
          rw [hsc, hd, scanS, if_pos hc']
        · have hc' : ¬ (q.1 = p.off ∧ q.2 = p.pay) := by simpa using hc
          have q0 := (S.bx 0 rfl).eq
          have q2 := (S.bx 2 rfl).eq
          have q3 := (S.bx 3 rfl).eq
          try simp (disch := (first | omega | assumption | (simp only [lc0, ln0, la0]; first | done | omega) | (simp (disch := assumption) only [go_sem, one_as, Nat.reduceBEq]; done) | fail)) only [q0, q2, q3, i2, i3, i4, i5, i6, i7, w1, go_sem, Hold.p, HoldK.k, HoldL.K, HoldL.body, Nat.reduceBEq, Nat.reduceAdd, reduceIte]
          refine test_of (fun hc2 => ?_) (fun hc2 => ?_)
          · have hc2' : q.1 < en ∧ p.off < pTo q := by simpa using hc2
            have q3 := (S.bx 3 rfl).eq
            try simp (disch := (first | omega | assumption | (simp only [lc0, ln0, la0]; first | done | omega) | (simp (disch := assumption) only [go_sem, one_as, Nat.reduceBEq]; done) | fail)) only [q3, i2, i3, i4, i5, i6, i7, w1, go_sem, Hold.p, HoldK.k, HoldL.K, HoldL.body, Nat.reduceBEq, Nat.reduceAdd, reduceIte]
            refine st1_of (Nat.le_of_ble_eq_true rfl) (by first | rfl | assumption) fun g11 hg => ?_
            have l_g11 := n_set hg
            have S := S.set3 hg
            clear hg
            simp only [sz0, ss0, ts0, tz0, ds0, dz0, ca0, na0, Nat.reduceAdd] at S
            try simp (disch := (first | omega | assumption | (simp only [lc0, ln0, la0]; first | done | omega) | (simp (disch := assumption) only [go_sem, one_as, Nat.reduceBEq]; done) | fail)) only [i2, i3, i4, i5, i6, i7, w1, go_sem, Hold.p, HoldK.k, HoldL.K, HoldL.body, Nat.reduceBEq, Nat.reduceAdd, reduceIte]
            have S := by simpa only [mc0, mn0, List.getD_cons_zero, List.getD_cons_succ, ds0, dz0, ca0, na0] using Sp.sel S 9 [1, 2, 3, 4, 5, 6, 7, 8] (by simp only [lc0]; omega) (by decide) (by decide)
            refine ⟨_, by omega, k + 1, same, true, rfl, by omega, rfl, rfl, ?_, S⟩
            rw [hsc, hd, scanS, if_neg hc', if_pos hc2']
          · have hc2' : ¬ (q.1 < en ∧ p.off < pTo q) := by simpa using hc2
            try simp (disch := (first | omega | assumption | (simp only [lc0, ln0, la0]; first | done | omega) | (simp (disch := assumption) only [go_sem, one_as, Nat.reduceBEq]; done) | fail)) only [i2, i3, i4, i5, i6, i7, w1, go_sem, Hold.p, HoldK.k, HoldL.K, HoldL.body, Nat.reduceBEq, Nat.reduceAdd, reduceIte]
            have S := by simpa only [mc0, mn0, List.getD_cons_zero, List.getD_cons_succ, ds0, dz0, ca0, na0] using Sp.sel S 9 [1, 2, 3, 4, 5, 6, 7, 8] (by simp only [lc0]; omega) (by decide) (by decide)
            refine ⟨_, by omega, k + 1, same, ref, rfl, by omega, rfl, rfl, ?_, S⟩
            rw [hsc, hd, scanS, if_neg hc', if_neg hc2']
      · have hd : m.ps.drop k = [] := List.drop_eq_nil_of_le (by omega)
        rw [hd, scanS] at hsc
        try simp (disch := (first | omega | assumption | (simp only [lc0, ln0, la0]; first | done | omega) | (simp (disch := assumption) only [go_sem, one_as, Nat.reduceBEq]; done) | fail)) only [i2, i3, i4, i5, i6, i7, go_sem, Hold.p, HoldK.k, HoldL.K, HoldL.body, Nat.reduceBEq, Nat.reduceAdd, reduceIte]
        exact ⟨p2, p3, p4, same, ref, rfl, rfl, rfl, rfl, hsc, S⟩
  clear S
  rintro e g ⟨p2, p3, p4, same, ref, i2, i3, i4, i5, i6, hsc, S⟩
  simp only [CC.split]
  -- the end says otherwise
  obtain ⟨ref2, hr2⟩ : ∃ r, r = (ref || (!p.mf && decide (0 ≤ m.en) && !decide (m.en = en))) := ⟨_, rfl⟩
  refine vc_split 1 (fun e g => e 2 = .ptr p2 0 0 ∧ e 3 = .ptr p3 0 0 ∧ e 4 = .ptr p4 0 0 ∧ e 5 = .int .i64 en ∧ e 6 = .bool same ∧
    Sp g (box p4 msO0 :: box p3 (pkObj p po pp) :: box p2 (msO m vps m.en ref2 m.has m.first mo mp) :: sl false 99 2 vps rs :: all2 pcR rs m.ps :: byt mo m.first.opts :: byt mp m.first.pay :: old h0 :: L)) ?_ ?_
  · simp only [CC.split]
    have q1 := (S.bx 1 rfl).eq
    have q2 := (S.bx 2 rfl).eq
    try simp (disch := (first | omega | assumption | (simp only [lc0, ln0, la0]; first | done | omega) | (simp (disch := assumption) only [go_sem, one_as, Nat.reduceBEq]; done) | fail)) only [q1, q2, i2, i3, i4, i5, i6, go_sem, Hold.p, HoldK.k, HoldL.K, HoldL.body, Nat.reduceBEq, Nat.reduceAdd, reduceIte]
    refine test_of (fun hc => ?_) (fun hc => ?_)
    · rw [hc, Bool.or_true] at hr2
      subst hr2
      have q2 := (S.bx 2 rfl).eq
      try simp (disch := (first | omega | assumption | (simp only [lc0, ln0, la0]; first | done | omega) | (simp (disch := assumption) only [go_sem, one_as, Nat.reduceBEq]; done) | fail)) only [q2, i2, i3, i4, i5, i6, go_sem, Hold.p, HoldK.k, HoldL.K, HoldL.body, Nat.reduceBEq, Nat.reduceAdd, reduceIte]
      refine st1_of (Nat.le_of_ble_eq_true rfl) (by first | rfl | assumption) fun g12 hg => ?_
      have l_g12 := n_set hg
      have S := S.set2 hg
      clear hg
      simp only [sz0, ss0, ts0, tz0, ds0, dz0, ca0, na0, Nat.reduceAdd] at S
      try simp (disch := (first | omega | assumption | (simp only [lc0, ln0, la0]; first | done | omega) | (simp (disch := assumption) only [go_sem, one_as, Nat.reduceBEq]; done) | fail)) only [i2, i3, i4, i5, i6, go_sem, Hold.p, HoldK.k, HoldL.K, HoldL.body, Nat.reduceBEq, Nat.reduceAdd, reduceIte]
      exact S
    · rw [hc, Bool.or_false] at hr2
      subst hr2
      try simp (disch := (first | omega | assumption | (simp only [lc0, ln0, la0]; first | done | omega) | (simp (disch := assumption) only [go_sem, one_as, Nat.reduceBEq]; done) | fail)) only [i2, i3, i4, i5, i6, go_sem, Hold.p, HoldK.k, HoldL.K, HoldL.body, Nat.reduceBEq, Nat.reduceAdd, reduceIte]
      exact S
  clear S i2 i3 i4 i5 i6
  rintro e g ⟨i2, i3, i4, i5, i6, S⟩
  simp only [CC.split]
  obtain ⟨e2, he2⟩ : ∃ r, r = (if p.mf = false ∧ m.en < 0 then en else m.en) := ⟨_, rfl⟩
  refine vc_split 1 (fun e g => e 2 = .ptr p2 0 0 ∧ e 3 = .ptr p3 0 0 ∧ e 4 = .ptr p4 0 0 ∧ e 5 = .int .i64 en ∧ e 6 = .bool same ∧
    Sp g (box p4 msO0 :: box p3 (pkObj p po pp) :: box p2 (msO m vps e2 ref2 m.has m.first mo mp) :: sl false 99 2 vps rs :: all2 pcR rs m.ps :: byt mo m.first.opts :: byt mp m.first.pay :: old h0 :: L)) ?_ ?_
  · simp only [CC.split]
    have q1 := (S.bx 1 rfl).eq
    have q2 := (S.bx 2 rfl).eq
    try simp (disch := (first | omega | assumption | (simp only [lc0, ln0, la0]; first | done | omega) | (simp (disch := assumption) only [go_sem, one_as, Nat.reduceBEq]; done) | fail)) only [q1, q2, i2, i3, i4, i5, i6, go_sem, Hold.p, HoldK.k, HoldL.K, HoldL.body, Nat.reduceBEq, Nat.reduceAdd, reduceIte]
    refine test_of (fun hc => ?_) (fun hc => ?_)
    · rw [if_pos (by simpa using hc)] at he2
      subst he2
      have q2 := (S.bx 2 rfl).eq
      try simp (disch := (first | omega | assumption | (simp only [lc0, ln0, la0]; first | done | omega) | (simp (disch := assumption) only [go_sem, one_as, Nat.reduceBEq]; done) | fail)) only [q2, i2, i3, i4, i5, i6, go_sem, Hold.p, HoldK.k, HoldL.K, HoldL.body, Nat.reduceBEq, Nat.reduceAdd, reduceIte]
      refine st1_of (Nat.le_of_ble_eq_true rfl) (by first | rfl | assumption) fun g12 hg => ?_
      have l_g12 := n_set hg
      have S := S.set2 hg
      clear hg
      simp only [sz0, ss0, ts0, tz0, ds0, dz0, ca0, na0, Nat.reduceAdd] at S
      try simp (disch := (first | omega | assumption | (simp only [lc0, ln0, la0]; first | done | omega) | (simp (disch := assumption) only [go_sem, one_as, Nat.reduceBEq]; done) | fail)) only [i2, i3, i4, i5, i6, go_sem, Hold.p, HoldK.k, HoldL.K, HoldL.body, Nat.reduceBEq, Nat.reduceAdd, reduceIte]
      exact S
    · rw [if_neg (by simpa using hc)] at he2
      subst he2
      try simp (disch := (first | omega | assumption | (simp only [lc0, ln0, la0]; first | done | omega) | (simp (disch := assumption) only [go_sem, one_as, Nat.reduceBEq]; done) | fail)) only [i2, i3, i4, i5, i6, go_sem, Hold.p, HoldK.k, HoldL.K, HoldL.body, Nat.reduceBEq, Nat.reduceAdd, reduceIte]
      exact S
  have he2b : -1 ≤ e2 ∧ e2 ≤ 200000 := by rw [he2]; split <;> omega
  clear S i2 i3 i4 i5 i6
  rintro e g ⟨i2, i3, i4, i5, i6, S⟩
  simp only [CC.split]
  obtain ⟨ps, hps⟩ : ∃ r, r = (if same = true then m.ps else m.ps ++ [(p.off, p.pay)]) := ⟨_, rfl⟩
  refine vc_split 1 (fun e g => ∃ (vps : IV) (rs : List (List IV)), e 2 = .ptr p2 0 0 ∧ e 3 = .ptr p3 0 0 ∧ e 4 = .ptr p4 0 0 ∧ e 5 = .int .i64 en ∧ e 6 = .bool same ∧
    Sp g (box p4 msO0 :: box p3 (pkObj p po pp) :: box p2 (msO m vps e2 ref2 m.has m.first mo mp) :: sl false 99 2 vps rs :: all2 pcR rs ps :: byt mo m.first.opts :: byt mp m.first.pay :: old h0 :: L)) ?_ ?_
  · simp only [CC.split]
    have q1 := (S.bx 1 rfl).eq
    have q2 := (S.bx 2 rfl).eq
    try simp (disch := (first | omega | assumption | (simp only [lc0, ln0, la0]; first | done | omega) | (simp (disch := assumption) only [go_sem, one_as, Nat.reduceBEq]; done) | fail)) only [q1, q2, i2, i3, i4, i5, i6, go_sem, Hold.p, HoldK.k, HoldL.K, HoldL.body, Nat.reduceBEq, Nat.reduceAdd, reduceIte]
    cases same with
    | true =>
      rw [if_pos rfl] at hps
      subst hps
      try simp (disch := (first | omega | assumption | (simp only [lc0, ln0, la0]; first | done | omega) | (simp (disch := assumption) only [go_sem, one_as, Nat.reduceBEq]; done) | fail)) only [i2, i3, i4, i5, i6, go_sem, Hold.p, HoldK.k, HoldL.K, HoldL.body, Nat.reduceBEq, Nat.reduceAdd, reduceIte]
      exact ⟨vps, rs, S⟩
    | false =>
      rw [if_neg (by simp)] at hps
      subst hps
      have q1 := (S.bx 1 rfl).eq
      have q2 := (S.bx 2 rfl).eq
      try simp (disch := (first | omega | assumption | (simp only [lc0, ln0, la0]; first | done | omega) | (simp (disch := assumption) only [go_sem, one_as, Nat.reduceBEq]; done) | fail)) only [q1, q2, i2, i3, i4, i5, i6, go_sem, Hold.p, HoldK.k, HoldL.K, HoldL.body, Nat.reduceBEq, Nat.reduceAdd, reduceIte]
      have hrl := a2_len S 4 rfl
      refine callA_of (l01Copy_c _ pp _ (a.ext (S.ol 7 rfl)).p (by omega)) ?_
      rintro w13 g13 ⟨o13, E13⟩
      have S := S.own (x := false) E13 o13 (Nat.le_refl _)
      have z13 := o13.one
      have q2 := (S.bx 2 rfl).eq
      have q3 := (S.bx 3 rfl).eq
      try simp (disch := (first | omega | assumption | (simp only [lc0, ln0, la0]; first | done | omega) | (simp (disch := assumption) only [go_sem, one_as, Nat.reduceBEq]; done) | fail)) only [q2, q3, i2, i3, i4, i5, i6, go_sem, Hold.p, HoldK.k, HoldL.K, HoldL.body, Nat.reduceBEq, Nat.reduceAdd, reduceIte]
      refine Sp.bsl1 S (by first | rfl | (rw [cells_one (by assumption)]; rfl)) (by first | rfl | simp (disch := assumption) only [go_sem, cells_one, one_as]) fun p14 g14 S E_g14 l_g14 => ?_
      try simp only [cells_agg, cells_int, cells_bool, cells_ptr, cells_str] at S
      have q0 := (S.bx 0 rfl).eq
      have q3 := (S.bx 3 rfl).eq
      have q4 := (S.bx 4 rfl).eq
      try simp (disch := (first | omega | assumption | (simp only [lc0, ln0, la0]; first | done | omega) | (simp (disch := assumption) only [go_sem, one_as, Nat.reduceBEq]; done) | fail)) only [q0, q3, q4, i2, i3, i4, i5, i6, go_sem, Hold.p, HoldK.k, HoldL.K, HoldL.body, Nat.reduceBEq, Nat.reduceAdd, reduceIte]
      have S := by simpa only [mc0, mn0, List.getD_cons_zero, List.getD_cons_succ, ds0, dz0, ca0, na0] using Sp.sel S 10 [0, 5, 1, 2, 3, 4, 6, 7, 8, 9] (by simp only [lc0]; omega) (by decide) (by decide)
      refine S.app1 (y := false) (by omega) ?_
      clear S
      intro v15 g15 S z15
      have q3 := (S.bx 3 rfl).eq
      have q4 := (S.bx 4 rfl).eq
      try simp (disch := (first | omega | assumption | (simp only [lc0, ln0, la0]; first | done | omega) | (simp (disch := assumption) only [go_sem, one_as, Nat.reduceBEq]; done) | fail)) only [q3, q4, i2, i3, i4, i5, i6, go_sem, Hold.p, HoldK.k, HoldL.K, HoldL.body, Nat.reduceBEq, Nat.reduceAdd, reduceIte]
      refine st1_of (Nat.le_of_ble_eq_true rfl) (by first | rfl | assumption) fun g16 hg => ?_
      have l_g16 := n_set hg
      have S := S.set4 hg
      clear hg
      simp only [sz0, ss0, ts0, tz0, ds0, dz0, ca0, na0, Nat.reduceAdd] at S
      try simp (disch := (first | omega | assumption | (simp only [lc0, ln0, la0]; first | done | omega) | (simp (disch := assumption) only [go_sem, one_as, Nat.reduceBEq]; done) | fail)) only [i2, i3, i4, i5, i6, go_sem, Hold.p, HoldK.k, HoldL.K, HoldL.body, Nat.reduceBEq, Nat.reduceAdd, reduceIte]
      refine ⟨v15, rs ++ [[.int .i64 p.off, w13]], ?_⟩
      have S := by simpa only [mc0, mn0, List.getD_cons_zero, List.getD_cons_succ, ds0, dz0, ca0, na0] using Sp.sel S 9 [1, 5, 0, 2, 3, 4, 6, 7, 8] (by simp only [lc0]; omega) (by decide) (by decide)
      have S := pcs_add (a := p.off) S
      have S := by simpa only [mc0, mn0, List.getD_cons_zero, List.getD_cons_succ, ds0, dz0, ca0, na0] using Sp.sel S 8 [2, 3, 4, 1, 0, 5, 6, 7] (by simp only [lc0]; omega) (by decide) (by decide)
      exact S
  have hsm : Small 100001 ps e2 := by
    refine ⟨?_, ?_, he2b⟩
    · rw [hps]; split
      · omega
      · rw [la0, List.length_singleton]; omega
    · intro q hq
      rw [hps] at hq
      split at hq
      · exact hs.q q hq
      · rcases List.mem_append.1 hq with hq | hq
        · exact hs.q q hq
        · have : q = (p.off, p.pay) := by simpa using hq
          subst this
          exact ⟨ho, hp⟩
  clear S i2 i3 i4 i5 i6
  rintro e g ⟨vps, rs, i2, i3, i4, i5, i6, S⟩
  simp only [CC.split]
  obtain ⟨ref3, hr3⟩ : ∃ r, r = (ref2 || (decide (0 ≤ e2) && ps.any fun q => decide (e2 < pTo q))) := ⟨_, rfl⟩
  refine vc_split 1 (fun e g => e 2 = .ptr p2 0 0 ∧ e 3 = .ptr p3 0 0 ∧ e 4 = .ptr p4 0 0 ∧
    Sp g (box p4 msO0 :: box p3 (pkObj p po pp) :: box p2 (msO m vps e2 ref3 m.has m.first mo mp) :: sl false 99 2 vps rs :: all2 pcR rs ps :: byt mo m.first.opts :: byt mp m.first.pay :: old h0 :: L)) ?_ ?_
  · simp only [CC.split]
    have q1 := (S.bx 1 rfl).eq
    have q2 := (S.bx 2 rfl).eq
    try simp (disch := (first | omega | assumption | (simp only [lc0, ln0, la0]; first | done | omega) | (simp (disch := assumption) only [go_sem, one_as, Nat.reduceBEq]; done) | fail)) only [q1, q2, i2, i3, i4, i5, i6, go_sem, Hold.p, HoldK.k, HoldL.K, HoldL.body, Nat.reduceBEq, Nat.reduceAdd, reduceIte]
    refine loop_at (fun n e g => ∃ (k : Nat) (ref : Bool), n = ps.length - k ∧ k ≤ ps.length ∧ e 2 = .ptr p2 0 0 ∧ e 3 = .ptr p3 0 0 ∧ e 4 = .ptr p4 0 0 ∧ e 10 = .int .i64 (k : Nat) ∧ ref3 = (ref || (decide (0 ≤ e2) && (ps.drop k).any fun q => decide (e2 < pTo q))) ∧
      Sp g (box p4 msO0 :: box p3 (pkObj p po pp) :: box p2 (msO m vps e2 ref m.has m.first mo mp) :: sl false 99 2 vps rs :: all2 pcR rs ps :: byt mo m.first.opts :: byt mp m.first.pay :: old h0 :: L)) ps.length ?_ ?_
    · refine ⟨0, ref2, by omega, by omega, ?_⟩
      try simp (disch := (first | omega | assumption | (simp only [lc0, ln0, la0]; first | done | omega) | (simp (disch := assumption) only [go_sem, one_as, Nat.reduceBEq]; done) | fail)) only [i2, i3, i4, go_sem, Hold.p, HoldK.k, HoldL.K, HoldL.body, Nat.reduceBEq, Nat.reduceAdd, reduceIte]
      exact ⟨rfl, hr3, S⟩
    · clear S i2 i3 i4 i5 i6
      rintro n e g ⟨k, ref, rfl, hk, i2, i3, i4, i10, hr, S⟩
      have hrl := a2_len S 4 rfl
      have hsn := hsm.n
      have q2 := (S.bx 2 rfl).eq
      have s3 := S.slA 3 rfl
      have len_s3 := s3.lenF
      have z3 := s3.one
      try simp (disch := (first | omega | assumption | (simp only [lc0, ln0, la0]; first | done | omega) | (simp (disch := assumption) only [go_sem, one_as, Nat.reduceBEq]; done) | fail)) only [q2, len_s3, z3, i2, i3, i4, i10, hrl, go_sem, Hold.p, HoldK.k, HoldL.K, HoldL.body, Nat.reduceBEq, Nat.reduceAdd, reduceIte]
      refine test_of (fun hb => ?_) (fun hb => ?_)
      · have hb' : (k : Int) < (ps.length : Int) ∧ 0 ≤ e2 := by simpa using hb
        obtain ⟨q, hq⟩ : ∃ q, ps[k]? = some q := ⟨_, List.getElem?_eq_getElem (by omega : k < ps.length)⟩
        have hqs := hsm.q q (List.mem_of_getElem? hq)
        obtain ⟨vd, hrow, hvd⟩ := pcs_at S 4 rfl hq
        obtain ⟨a1, a2, hia, hal, har⟩ := s3.at hrow .i64
        have d1 := hvd.one
        have d2 := hvd.lenF
        rw [strRows_len] at d2
        have w1 : wr .i64 ((k : Int) + 1) = ((k + 1 : Nat) : Int) := by rw [wr64 _ (by omega)]; rfl
        have w2 : wr .i64 (q.1 + (q.2.length : Int)) = pTo q := by rw [wr64 _ (by omega)]; rfl
        have hcl := cellO_row har
        have hd := drop_at hq
        have q2 := (S.bx 2 rfl).eq
        try simp (disch := (first | omega | assumption | (simp only [lc0, ln0, la0]; first | done | omega) | (simp (disch := assumption) only [go_sem, one_as, Nat.reduceBEq]; done) | fail)) only [q2, i2, i3, i4, i10, hia, hcl, d2, w2, go_sem, Hold.p, HoldK.k, HoldL.K, HoldL.body, Nat.reduceBEq, Nat.reduceAdd, reduceIte]
        refine test_dec (fun hc => ?_) (fun hc => ?_)
        · skip
          have q2 := (S.bx 2 rfl).eq
          try simp (disch := (first | omega | assumption | (simp only [lc0, ln0, la0]; first | done | omega) | (simp (disch := assumption) only [go_sem, one_as, Nat.reduceBEq]; done) | fail)) only [q2, i2, i3, i4, i10, go_sem, Hold.p, HoldK.k, HoldL.K, HoldL.body, Nat.reduceBEq, Nat.reduceAdd, reduceIte]
          refine st1_of (Nat.le_of_ble_eq_true rfl) (by first | rfl | assumption) fun g12 hg => ?_
          have l_g12 := n_set hg
          have S := S.set2 hg
          clear hg
          simp only [sz0, ss0, ts0, tz0, ds0, dz0, ca0, na0, Nat.reduceAdd] at S
          try simp (disch := (first | omega | assumption | (simp only [lc0, ln0, la0]; first | done | omega) | (simp (disch := assumption) only [go_sem, one_as, Nat.reduceBEq]; done) | fail)) only [i2, i3, i4, i10, w1, go_sem, Hold.p, HoldK.k, HoldL.K, HoldL.body, Nat.reduceBEq, Nat.reduceAdd, reduceIte]
          refine ⟨_, by omega, k + 1, true, rfl, by omega, rfl, ?_, S⟩
          rw [hr, hd, List.any_cons, decide_eq_true hc, decide_eq_true hb'.2]; simp
        · skip
          try simp (disch := (first | omega | assumption | (simp only [lc0, ln0, la0]; first | done | omega) | (simp (disch := assumption) only [go_sem, one_as, Nat.reduceBEq]; done) | fail)) only [i2, i3, i4, i10, w1, go_sem, Hold.p, HoldK.k, HoldL.K, HoldL.body, Nat.reduceBEq, Nat.reduceAdd, reduceIte]
          refine ⟨_, by omega, k + 1, ref, rfl, by omega, rfl, ?_, S⟩
          rw [hr, hd, List.any_cons, decide_eq_false hc, Bool.false_or]
      · have hr' : ref3 = ref := by
          rw [hr]
          rcases Classical.em (0 ≤ e2) with h1 | h1
          · have : ps.drop k = [] := List.drop_eq_nil_of_le (by
              have hb' : ¬ ((k : Int) < (ps.length : Int) ∧ 0 ≤ e2) := by simpa using hb
              omega)
            rw [this]; simp
          · rw [decide_eq_false h1]; simp
        subst hr'
        try simp (disch := (first | omega | assumption | (simp only [lc0, ln0, la0]; first | done | omega) | (simp (disch := assumption) only [go_sem, one_as, Nat.reduceBEq]; done) | fail)) only [i2, i3, i4, i10, go_sem, Hold.p, HoldK.k, HoldL.K, HoldL.body, Nat.reduceBEq, Nat.reduceAdd, reduceIte]
        exact S
  clear S i2 i3 i4 i5 i6
  rintro e g ⟨i2, i3, i4, S⟩
  simp only [CC.split]
  obtain ⟨f, hf⟩ : ∃ r, r = (if p.off = 0 ∧ m.has = false then p else m.first) := ⟨_, rfl⟩
  obtain ⟨has, hh⟩ : ∃ r, r = (decide (p.off = 0) || m.has) := ⟨_, rfl⟩
  refine vc_split 1 (fun e g => ∃ mo mp : IV, e 2 = .ptr p2 0 0 ∧ e 4 = .ptr p4 0 0 ∧ 
    Sp g (box p4 msO0 :: box p3 (pkObj p po pp) :: box p2 (msO m vps e2 ref3 has f mo mp) :: sl false 99 2 vps rs :: all2 pcR rs ps :: byt mo f.opts :: byt mp f.pay :: old h0 :: L)) ?_ ?_
  · simp only [CC.split]
    have q1 := (S.bx 1 rfl).eq
    have q2 := (S.bx 2 rfl).eq
    try simp (disch := (first | omega | assumption | (simp only [lc0, ln0, la0]; first | done | omega) | (simp (disch := assumption) only [go_sem, one_as, Nat.reduceBEq]; done) | fail)) only [q1, q2, i2, i3, i4, go_sem, Hold.p, HoldK.k, HoldL.K, HoldL.body, Nat.reduceBEq, Nat.reduceAdd, reduceIte]
    refine test_of (fun hc => ?_) (fun hc => ?_)
    · have hc' : p.off = 0 ∧ m.has = false := by simpa using hc
      rw [if_pos hc'] at hf
      rw [decide_eq_true hc'.1, Bool.true_or] at hh
      rw [hf, hh]
      have q2 := (S.bx 2 rfl).eq
      try simp (disch := (first | omega | assumption | (simp only [lc0, ln0, la0]; first | done | omega) | (simp (disch := assumption) only [go_sem, one_as, Nat.reduceBEq]; done) | fail)) only [q2, i2, i3, i4, go_sem, Hold.p, HoldK.k, HoldL.K, HoldL.body, Nat.reduceBEq, Nat.reduceAdd, reduceIte]
      refine st1_of (Nat.le_of_ble_eq_true rfl) (by first | rfl | assumption) fun g12 hg => ?_
      have l_g12 := n_set hg
      have S := S.set2 hg
      clear hg
      simp only [sz0, ss0, ts0, tz0, ds0, dz0, ca0, na0, Nat.reduceAdd] at S
      have q1 := (S.bx 1 rfl).eq
      have q2 := (S.bx 2 rfl).eq
      try simp (disch := (first | omega | assumption | (simp only [lc0, ln0, la0]; first | done | omega) | (simp (disch := assumption) only [go_sem, one_as, Nat.reduceBEq]; done) | fail)) only [q1, q2, i2, i3, i4, go_sem, Hold.p, HoldK.k, HoldL.K, HoldL.body, Nat.reduceBEq, Nat.reduceAdd, reduceIte]
      have S := by simpa only [mc0, mn0, List.getD_cons_zero, List.getD_cons_succ, ds0, dz0, ca0, na0] using Sp.sel S 8 [7, 0, 1, 2, 3, 4, 5, 6] (by simp only [lc0]; omega) (by decide) (by decide)
      refine callA_of (copyPacket_c g12 h0 _ S p po pp a (by omega)) ?_
      clear S
      rintro r13 g13 ⟨wo, wp, rfl, S⟩
      unfold pkRow
      have zo := (S.slA 0 rfl).one
      have zp := (S.slA 1 rfl).one
      have q5 := (S.bx 5 rfl).eq
      try simp (disch := (first | omega | assumption | (simp only [lc0, ln0, la0]; first | done | omega) | (simp (disch := assumption) only [go_sem, one_as, Nat.reduceBEq]; done) | fail)) only [q5, i2, i3, i4, go_sem, Hold.p, HoldK.k, HoldL.K, HoldL.body, Nat.reduceBEq, Nat.reduceAdd, reduceIte]
      refine stp_of rfl (Nat.le_of_ble_eq_true rfl) (by first | rfl | simp (disch := assumption) only [go_sem, cells_one, one_as]) fun g14 hg => ?_
      have l_g14 := n_set hg
      have S := S.set5 hg
      clear hg
      simp only [sz0, ss0, ts0, tz0, ds0, dz0, ca0, na0, Nat.reduceAdd] at S
      try simp (disch := (first | omega | assumption | (simp only [lc0, ln0, la0]; first | done | omega) | (simp (disch := assumption) only [go_sem, one_as, Nat.reduceBEq]; done) | fail)) only [i2, i3, i4, go_sem, Hold.p, HoldK.k, HoldL.K, HoldL.body, Nat.reduceBEq, Nat.reduceAdd, reduceIte]
      refine ⟨wo, wp, ?_⟩
      have S := by simpa only [mc0, mn0, List.getD_cons_zero, List.getD_cons_succ, ds0, dz0, ca0, na0] using Sp.sel S 10 [3, 4, 5, 6, 7, 0, 1, 2] (by simp only [lc0]; omega) (by decide) (by decide)
      exact S
    · have hc' : ¬ (p.off = 0 ∧ m.has = false) := by simpa using hc
      rw [if_neg hc'] at hf
      have hh2 : has = m.has := by
        rw [hh]
        rcases Classical.em (p.off = 0) with h1 | h1
        · cases h2 : m.has
          · exact absurd ⟨h1, h2⟩ hc'
          · simp
        · rw [decide_eq_false h1]; simp
      rw [hf, hh2]
      try simp (disch := (first | omega | assumption | (simp only [lc0, ln0, la0]; first | done | omega) | (simp (disch := assumption) only [go_sem, one_as, Nat.reduceBEq]; done) | fail)) only [i2, i3, i4, go_sem, Hold.p, HoldK.k, HoldL.K, HoldL.body, Nat.reduceBEq, Nat.reduceAdd, reduceIte]
      exact ⟨mo, mp, S⟩
  have hfo : f.opts.length ≤ 100 := by rw [hf]; split <;> omega
  clear S i2 i3 i4 x1 x2
  rintro e g ⟨mo, mp, i2, i4, S⟩
  simp only [CC.split]
  have x0 := (S.slA 3 rfl).one
  have x1 := (S.slA 5 rfl).one
  have x2 := (S.slA 6 rfl).one
  have xl := (S.slA 5 rfl).lenF
  rw [strRows_len] at xl
  obtain ⟨ref4, hr4⟩ : ∃ r, r = (ref3 || (has && decide (0 ≤ e2) && decide (65535 < 20 + (f.opts.length : Int) + e2))) := ⟨_, rfl⟩
  have w3 : wr .i64 (20 + (f.opts.length : Int)) = 20 + f.opts.length := wr64 _ (by omega)
  have w4 : wr .i64 (20 + (f.opts.length : Int) + e2) = 20 + f.opts.length + e2 := wr64 _ (by omega)
  refine vc_split 1 (fun e g => e 2 = .ptr p2 0 0 ∧ e 4 = .ptr p4 0 0 ∧ 
    Sp g (box p4 msO0 :: box p3 (pkObj p po pp) :: box p2 (msO m vps e2 ref4 has f mo mp) :: sl false 99 2 vps rs :: all2 pcR rs ps :: byt mo f.opts :: byt mp f.pay :: old h0 :: L)) ?_ ?_
  · simp only [CC.split]
    have q2 := (S.bx 2 rfl).eq
    try simp (disch := (first | omega | assumption | (simp only [lc0, ln0, la0]; first | done | omega) | (simp (disch := assumption) only [go_sem, one_as, Nat.reduceBEq]; done) | fail)) only [q2, i2, i4, xl, w3, w4, go_sem, Hold.p, HoldK.k, HoldL.K, HoldL.body, Nat.reduceBEq, Nat.reduceAdd, reduceIte]
    refine test_of (fun hc => ?_) (fun hc => ?_)
    · rw [hc, Bool.or_true] at hr4
      subst hr4
      have q2 := (S.bx 2 rfl).eq
      try simp (disch := (first | omega | assumption | (simp only [lc0, ln0, la0]; first | done | omega) | (simp (disch := assumption) only [go_sem, one_as, Nat.reduceBEq]; done) | fail)) only [q2, i2, i4, go_sem, Hold.p, HoldK.k, HoldL.K, HoldL.body, Nat.reduceBEq, Nat.reduceAdd, reduceIte]
      refine st1_of (Nat.le_of_ble_eq_true rfl) (by first | rfl | assumption) fun g12 hg => ?_
      have l_g12 := n_set hg
      have S := S.set2 hg
      clear hg
      simp only [sz0, ss0, ts0, tz0, ds0, dz0, ca0, na0, Nat.reduceAdd] at S
      try simp (disch := (first | omega | assumption | (simp only [lc0, ln0, la0]; first | done | omega) | (simp (disch := assumption) only [go_sem, one_as, Nat.reduceBEq]; done) | fail)) only [i2, i4, go_sem, Hold.p, HoldK.k, HoldL.K, HoldL.body, Nat.reduceBEq, Nat.reduceAdd, reduceIte]
      exact S
    · rw [hc, Bool.or_false] at hr4
      subst hr4
      try simp (disch := (first | omega | assumption | (simp only [lc0, ln0, la0]; first | done | omega) | (simp (disch := assumption) only [go_sem, one_as, Nat.reduceBEq]; done) | fail)) only [i2, i4, go_sem, Hold.p, HoldK.k, HoldL.K, HoldL.body, Nat.reduceBEq, Nat.reduceAdd, reduceIte]
      exact S
  clear S i2 i4
  rintro e g ⟨i2, i4, S⟩
  simp only [CC.split]
  have hadd : addS m p = if ref4 = true then { m with ps := [], en := e2, ref := true, has := false, first := f } else { m with ps := ps, en := e2, ref := false, has := has, first := f } := by
    unfold addS
    simp only [hen, hsc, ← hr2, ← he2, ← hps, ← hr3, ← hf, ← hh, ← hr4]
  rw [hadd]
  have q2 := (S.bx 2 rfl).eq
  try simp (disch := (first | omega | assumption | (simp only [lc0, ln0, la0]; first | done | omega) | (simp (disch := assumption) only [go_sem, one_as, Nat.reduceBEq]; done) | fail)) only [q2, i2, i4, go_sem, Hold.p, HoldK.k, HoldL.K, HoldL.body, Nat.reduceBEq, Nat.reduceAdd, reduceIte]
  refine test_of (fun hc => ?_) (fun hc => ?_)
  · subst hc
    have q2 := (S.bx 2 rfl).eq
    try simp (disch := (first | omega | assumption | (simp only [lc0, ln0, la0]; first | done | omega) | (simp (disch := assumption) only [go_sem, one_as, Nat.reduceBEq]; done) | fail)) only [q2, i2, i4, go_sem, Hold.p, HoldK.k, HoldL.K, HoldL.body, Nat.reduceBEq, Nat.reduceAdd, reduceIte]
    refine st1_of (Nat.le_of_ble_eq_true rfl) (by first | rfl | assumption) fun g12 hg => ?_
    have l_g12 := n_set hg
    have S := S.set2 hg
    clear hg
    simp only [sz0, ss0, ts0, tz0, ds0, dz0, ca0, na0, Nat.reduceAdd] at S
    have q2 := (S.bx 2 rfl).eq
    try simp (disch := (first | omega | assumption | (simp only [lc0, ln0, la0]; first | done | omega) | (simp (disch := assumption) only [go_sem, one_as, Nat.reduceBEq]; done) | fail)) only [q2, i2, i4, go_sem, Hold.p, HoldK.k, HoldL.K, HoldL.body, Nat.reduceBEq, Nat.reduceAdd, reduceIte]
    refine st1_of (Nat.le_of_ble_eq_true rfl) (by first | rfl | assumption) fun g13 hg => ?_
    have l_g13 := n_set hg
    have S := S.set2 hg
    clear hg
    simp only [sz0, ss0, ts0, tz0, ds0, dz0, ca0, na0, Nat.reduceAdd] at S
    have q0 := (S.bx 0 rfl).eq
    have q2 := (S.bx 2 rfl).eq
    try simp (disch := (first | omega | assumption | (simp only [lc0, ln0, la0]; first | done | omega) | (simp (disch := assumption) only [go_sem, one_as, Nat.reduceBEq]; done) | fail)) only [q0, q2, i2, i4, go_sem, Hold.p, HoldK.k, HoldL.K, HoldL.body, Nat.reduceBEq, Nat.reduceAdd, reduceIte]
    refine stw_of rfl rfl (by first | rfl | simp (disch := assumption) only [go_sem, cells_one, one_as]) fun g14 hg => ?_
    have l_g14 := n_set hg
    have S := S.set0 hg
    clear hg
    have q0 := (S.bx 0 rfl).eq
    try simp (disch := (first | omega | assumption | (simp only [lc0, ln0, la0]; first | done | omega) | (simp (disch := assumption) only [go_sem, one_as, Nat.reduceBEq]; done) | fail)) only [q0, i2, i4, go_sem, Hold.p, HoldK.k, HoldL.K, HoldL.body, Nat.reduceBEq, Nat.reduceAdd, reduceIte]
    try rw [if_pos rfl]
    refine ⟨_, rfl, ?_⟩
    have S := by simpa only [mc0, mn0, List.getD_cons_zero, List.getD_cons_succ, ds0, dz0, ca0, na0] using Sp.sel S 8 [5, 6, 7] (by simp only [lc0]; omega) (by decide) (by decide)
    exact made_mk (m := { m with ps := [], en := e2, ref := true, has := false, first := f }) (rs := []) S.a2nil.slNil
  · subst hc
    have q0 := (S.bx 0 rfl).eq
    have q2 := (S.bx 2 rfl).eq
    try simp (disch := (first | omega | assumption | (simp only [lc0, ln0, la0]; first | done | omega) | (simp (disch := assumption) only [go_sem, one_as, Nat.reduceBEq]; done) | fail)) only [q0, q2, i2, i4, go_sem, Hold.p, HoldK.k, HoldL.K, HoldL.body, Nat.reduceBEq, Nat.reduceAdd, reduceIte]
    refine stw_of rfl rfl (by first | rfl | simp (disch := assumption) only [go_sem, cells_one, one_as]) fun g14 hg => ?_
    have l_g14 := n_set hg
    have S := S.set0 hg
    clear hg
    have q0 := (S.bx 0 rfl).eq
    try simp (disch := (first | omega | assumption | (simp only [lc0, ln0, la0]; first | done | omega) | (simp (disch := assumption) only [go_sem, one_as, Nat.reduceBEq]; done) | fail)) only [q0, i2, i4, go_sem, Hold.p, HoldK.k, HoldL.K, HoldL.body, Nat.reduceBEq, Nat.reduceAdd, reduceIte]
    try rw [if_neg (by simp)]
    refine ⟨_, rfl, ?_⟩
    have S := by simpa only [mc0, mn0, List.getD_cons_zero, List.getD_cons_succ, ds0, dz0, ca0, na0] using Sp.sel S 8 [3, 4, 5, 6, 7] (by simp only [lc0]; omega) (by decide) (by decide)
    exact made_mk (m := { m with ps := ps, en := e2, ref := false, has := has, first := f }) S
end
end Go.Proofs.Ytjmmmmdpkfpojaa

set_option maxRecDepth 20000
namespace Go.Proofs.Ytjmmmmdpkfpojaa
open Go Go.IW
section
attribute [local go_sem] List.getElem?_cons_zero List.getElem?_cons_succ Option.bind_some List.map_cons List.map_nil Nat.zero_add if_true List.getD_cons_zero List.getD_cons_succ List.contains_cons List.contains_nil Bool.or_true Bool.true_or Bool.or_false Bool.false_or Bool.not_true Bool.not_false true_and and_true rowA_whole mid_get rowO_rows cellO_rows upd_ne Nat.add_assoc Nat.add_zero List.all_cons List.all_nil one_bool one_int one_str one_ptr one_nilptr one_slice one_eslice one_nilslice one_func one_iface one_niliface Bool.and_true Bool.and_self List.length_cons List.length_nil Nat.one_ne_zero Nat.succ_ne_zero if_false List.set_cons_zero List.set_cons_succ lay_nil lay_1 lay_w Option.map_some cells_one rowA_some List.drop_succ_cons List.drop_zero List.take_succ_cons List.take_zero

def layB (out : List UInt8) (a : Nat) (b : List UInt8) : List UInt8 := out.take a ++ b ++ out.drop (a + b.length)
theorem layB_len {out b : List UInt8} {a : Nat} (h : a + b.length ≤ out.length) : (layB out a b).length = out.length := by
  unfold layB
  simp only [la0, List.length_take, List.length_drop]
  omega
theorem layB_nil {out : List UInt8} {a : Nat} : layB out a [] = out := by simp [layB]
theorem layB_next {out b : List UInt8} {a j : Nat} {x : UInt8} (h : a + b.length ≤ out.length) (hx : b[j]? = some x) : (layB out a (b.take j)).set (a + j) x = layB out a (b.take (j + 1)) := by
  have hj : j < b.length := (List.getElem?_eq_some_iff.1 hx).1
  have h1 : (out.take a).length = a := by rw [List.length_take]; omega
  have h2 : (b.take j).length = j := by rw [List.length_take]; omega
  have h3 : (b.take (j + 1)).length = j + 1 := by rw [List.length_take]; omega
  unfold layB
  rw [h2, h3, List.set_append_right _ _ (by rw [la0, h1, h2]; exact Nat.le_refl _), la0, h1, h2, Nat.sub_self]
  have h4 : out.drop (a + j) = out[a + j]'(by omega) :: out.drop (a + (j + 1)) := by rw [← Nat.add_assoc]; exact List.drop_eq_getElem_cons (by omega)
  rw [h4, sz0, List.take_add_one, hx]
  simp
def fillB (ps : Pcs) (out : List UInt8) : List UInt8 := ps.foldl (fun o q => layB o q.1.toNat q.2) out
theorem fillB_len : ∀ {ps : Pcs} {out : List UInt8}, (∀ q ∈ ps, 0 ≤ q.1 ∧ pTo q ≤ (out.length : Int)) → (fillB ps out).length = out.length
  | [], _, _ => rfl
  | q :: ps, out, h => by
    have h0 := h q List.mem_cons_self
    unfold pTo at h0
    have hl : (layB out q.1.toNat q.2).length = out.length := layB_len (by omega)
    show (fillB ps (layB out q.1.toNat q.2)).length = _
    rw [fillB_len (fun r hr => by rw [hl]; exact h r (List.mem_cons_of_mem _ hr)), hl]
theorem fillB_snoc (ps : Pcs) (q : Int × List UInt8) (out : List UInt8) : fillB (ps ++ [q]) out = layB (fillB ps out) q.1.toNat q.2 := by simp [fillB]
theorem fillB_next {ps : Pcs} {out : List UInt8} {k : Nat} {q : Int × List UInt8} (hq : ps[k]? = some q) : fillB (ps.take (k + 1)) out = layB (fillB (ps.take k) out) q.1.toNat q.2 := by
  rw [List.take_add_one, hq]; exact fillB_snoc _ _ _
theorem totP_snoc (ps : Pcs) (q : Int × List UInt8) : totP (ps ++ [q]) = totP ps + q.2.length := by simp [totP]
theorem totP_next {ps : Pcs} {k : Nat} {q : Int × List UInt8} (hq : ps[k]? = some q) : totP (ps.take (k + 1)) = totP (ps.take k) + q.2.length := by
  rw [List.take_add_one, hq]; exact totP_snoc _ _
theorem totP_le {ps : Pcs} {M : Nat} (h : ∀ q ∈ ps, q.2.length ≤ M) : totP ps ≤ ps.length * M := by
  induction ps with
  | nil => simp [totP]
  | cons q ps ih =>
    have h1 := h q List.mem_cons_self
    have h2 := ih fun r hr => h r (List.mem_cons_of_mem _ hr)
    have h3 : totP (q :: ps) = q.2.length + totP ps := by simp [totP]
    rw [h3, lc0, Nat.add_mul, Nat.one_mul]
    omega
def wholeA (m : Ms) (v : IV) : As := if wholeS m = true then byt v (fillB m.ps (List.replicate m.en.toNat 0)) else emp
set_option maxHeartbeats 2000000 in
theorem l06Whole_c {h : IH} {L : List As} {m : Ms} {vps mo mp : IV} {rs : List (List IV)}
    (S : Sp h (sl false 99 2 vps rs :: all2 pcR rs m.ps :: L)) (hs : Small 100001 m.ps m.en) (hin : wholeS m = true → ∀ q ∈ m.ps, pTo q ≤ m.en) (x1 : mo.one = true) (x2 : mp.one = true) :
    ICalls Try.prog 52 [.agg (msRow m vps mo mp)] h fun r h' => ∃ v, r = .tuple [v, .bool (wholeS m)] ∧ Sp h' (wholeA m v :: sl false 99 2 vps rs :: all2 pcR rs m.ps :: L) := by
  refine icalls (.of ok52) (Nat.le_of_ble_eq_true rfl) ?_
  unfold c52 msRow
  have hsn := hs.n
  have hse := hs.e
  have htl : totP m.ps ≤ 100001 * 65535 := Nat.le_trans (totP_le fun q hq => (hs.q q hq).2) (Nat.mul_le_mul_right _ hsn)
  have x0 := (S.slA 0 rfl).one
  refine vc_split 3 (fun e g => ∃ (p1 : Nat), e 1 = .ptr p1 0 0 ∧ e 4 = .int .i64 (totP m.ps : Nat) ∧
    Sp g (box p1 (msO m vps m.en m.ref m.has m.first mo mp) :: sl false 99 2 vps rs :: all2 pcR rs m.ps :: L)) ?_ ?_
  · simp only [CC.split]
    try simp (disch := (first | omega | assumption | (simp only [lc0, ln0, la0]; first | done | omega) | (simp (disch := assumption) only [go_sem, one_as, Nat.reduceBEq]; done) | fail)) only [go_sem, Hold.p, HoldK.k, HoldL.K, HoldL.body, Nat.reduceBEq, Nat.reduceAdd, reduceIte]
    refine Sp.bxA S (by first | rfl | (rw [cells_one (by assumption)]; rfl)) (by first | rfl | simp (disch := assumption) only [go_sem, cells_one, one_as]) fun p1 g1 S E_g1 l_g1 => ?_
    try simp (disch := (first | omega | assumption | (simp only [lc0, ln0, la0]; first | done | omega) | (simp (disch := assumption) only [go_sem, one_as, Nat.reduceBEq]; done) | fail)) only [go_sem, Hold.p, HoldK.k, HoldL.K, HoldL.body, Nat.reduceBEq, Nat.reduceAdd, reduceIte]
    refine loop_at (fun n e g => ∃ (k : Nat), n = m.ps.length - k ∧ k ≤ m.ps.length ∧ e 1 = .ptr p1 0 0 ∧ e 4 = .int .i64 (totP (m.ps.take k) : Nat) ∧ e 5 = .int .i64 (k : Nat) ∧
      Sp g (box p1 (msO m vps m.en m.ref m.has m.first mo mp) :: sl false 99 2 vps rs :: all2 pcR rs m.ps :: L)) m.ps.length ?_ ?_
    · refine ⟨0, by omega, by omega, ?_⟩
      try simp (disch := (first | omega | assumption | (simp only [lc0, ln0, la0]; first | done | omega) | (simp (disch := assumption) only [go_sem, one_as, Nat.reduceBEq]; done) | fail)) only [go_sem, Hold.p, HoldK.k, HoldL.K, HoldL.body, Nat.reduceBEq, Nat.reduceAdd, reduceIte]
      exact ⟨rfl, rfl, S⟩
    · clear S
      rintro n e g ⟨k, rfl, hk, i1, i4, i5, S⟩
      have hrl := a2_len S 2 rfl
      have q0 := (S.bx 0 rfl).eq
      have s1 := S.slA 1 rfl
      have len_s1 := s1.lenF
      have z1 := s1.one
      try simp (disch := (first | omega | assumption | (simp only [lc0, ln0, la0]; first | done | omega) | (simp (disch := assumption) only [go_sem, one_as, Nat.reduceBEq]; done) | fail)) only [q0, len_s1, z1, i1, i4, i5, hrl, go_sem, Hold.p, HoldK.k, HoldL.K, HoldL.body, Nat.reduceBEq, Nat.reduceAdd, reduceIte]
      refine test_dec (fun hb => ?_) (fun hb => ?_)
      · obtain ⟨q, hq⟩ : ∃ q, m.ps[k]? = some q := ⟨_, List.getElem?_eq_getElem (by omega : k < m.ps.length)⟩
        obtain ⟨vd, hrow, hvd⟩ := pcs_at S 2 rfl hq
        obtain ⟨a1, a2, hia, hal, har⟩ := s1.at hrow .i64
        have d2 := hvd.lenF
        rw [strRows_len] at d2
        have hcl := cellO_row har
        have hqs := hs.q q (List.mem_of_getElem? hq)
        have hnx := totP_next hq
        have htk : totP (m.ps.take k) ≤ 100001 * 65535 := Nat.le_trans (totP_le fun q hq => (hs.q q (List.mem_of_mem_take hq)).2) (Nat.mul_le_mul_right _ (by rw [List.length_take]; omega))
        have w1 : wr .i64 ((k : Int) + 1) = ((k + 1 : Nat) : Int) := by rw [wr64 _ (by omega)]; rfl
        have w2 : wr .i64 ((totP (m.ps.take k) : Int) + (q.2.length : Int)) = ((totP (m.ps.take (k + 1)) : Nat) : Int) := by rw [wr64 _ (by omega), hnx]; rfl
        have q0 := (S.bx 0 rfl).eq
        try simp (disch := (first | omega | assumption | (simp only [lc0, ln0, la0]; first | done | omega) | (simp (disch := assumption) only [go_sem, one_as, Nat.reduceBEq]; done) | fail)) only [q0, i1, i4, i5, hia, hcl, d2, w1, w2, go_sem, Hold.p, HoldK.k, HoldL.K, HoldL.body, Nat.reduceBEq, Nat.reduceAdd, reduceIte]
        exact ⟨_, by omega, k + 1, rfl, by omega, rfl, rfl, S⟩
      · rw [List.take_of_length_le (by omega)] at i4
        try simp (disch := (first | omega | assumption | (simp only [lc0, ln0, la0]; first | done | omega) | (simp (disch := assumption) only [go_sem, one_as, Nat.reduceBEq]; done) | fail)) only [i1, i4, i5, go_sem, Hold.p, HoldK.k, HoldL.K, HoldL.body, Nat.reduceBEq, Nat.reduceAdd, reduceIte]
        exact ⟨p1, rfl, S⟩
  clear S
  rintro e g ⟨p1, i1, i4, S⟩
  simp only [CC.split]
  have q0 := (S.bx 0 rfl).eq
  try simp (disch := (first | omega | assumption | (simp only [lc0, ln0, la0]; first | done | omega) | (simp (disch := assumption) only [go_sem, one_as, Nat.reduceBEq]; done) | fail)) only [q0, i1, i4, go_sem, Hold.p, HoldK.k, HoldL.K, HoldL.body, Nat.reduceBEq, Nat.reduceAdd, reduceIte]
  refine test_of (fun hc => ?_) (fun hc => ?_)
  · have hw : wholeS m = false := by
      unfold wholeS
      revert hc
      cases m.ref <;> cases decide (m.en < 0) <;> simp
    try simp (disch := (first | omega | assumption | (simp only [lc0, ln0, la0]; first | done | omega) | (simp (disch := assumption) only [go_sem, one_as, Nat.reduceBEq]; done) | fail)) only [go_sem, Hold.p, HoldK.k, HoldL.K, HoldL.body, Nat.reduceBEq, Nat.reduceAdd, reduceIte]
    rw [hw]
    refine ⟨_, rfl, ?_⟩
    rw [wholeA, if_neg (by simp [hw])]
    exact S.drop.emp
  · have hw : wholeS m = true := by
      unfold wholeS
      revert hc
      cases m.ref <;> cases decide (m.en < 0) <;> simp
    have hen : 0 ≤ m.en := by
      unfold wholeS at hw
      simp only [Bool.and_eq_true, Bool.not_eq_true', decide_eq_false_iff_not] at hw
      omega
    have hin := hin hw
    obtain ⟨en, hen2⟩ : ∃ n : Nat, m.en = n := ⟨m.en.toNat, by omega⟩
    simp only [wholeA, hw, if_true]
    simp only [hen2, Int.toNat_natCast] at S hse hin ⊢
    have q0 := (S.bx 0 rfl).eq
    try simp (disch := (first | omega | assumption | (simp only [lc0, ln0, la0]; first | done | omega) | (simp (disch := assumption) only [go_sem, one_as, Nat.reduceBEq]; done) | fail)) only [q0, i1, i4, go_sem, Hold.p, HoldK.k, HoldL.K, HoldL.body, Nat.reduceBEq, Nat.reduceAdd, reduceIte]
    refine Sp.mks S (by omega) (by omega) ?_
    clear S
    intro v6 g6 S E6 z6
    have hrep : List.replicate en [IV.int .u8 0] = strRows (List.replicate en 0) := by simp [strRows]
    rw [hrep] at S
    try simp (disch := (first | omega | assumption | (simp only [lc0, ln0, la0]; first | done | omega) | (simp (disch := assumption) only [go_sem, one_as, Nat.reduceBEq]; done) | fail)) only [go_sem, Hold.p, HoldK.k, HoldL.K, HoldL.body, Nat.reduceBEq, Nat.reduceAdd, reduceIte]
    have hz : ∀ k, (fillB (m.ps.take k) (List.replicate en 0)).length = en := fun k => by
      rw [fillB_len (fun q hq => ?_), List.length_replicate]
      rw [List.length_replicate]
      exact ⟨(hs.q q (List.mem_of_mem_take hq)).1.1, hin q (List.mem_of_mem_take hq)⟩
    refine loop_at (fun n e g => ∃ (k : Nat), n = m.ps.length - k ∧ k ≤ m.ps.length ∧ e 1 = .ptr p1 0 0 ∧ e 6 = v6 ∧ e 7 = .int .i64 (k : Nat) ∧
      Sp g (byt v6 (fillB (m.ps.take k) (List.replicate en 0)) :: box p1 (msO m vps en m.ref m.has m.first mo mp) :: sl false 99 2 vps rs :: all2 pcR rs m.ps :: L)) m.ps.length ?_ ?_
    · refine ⟨0, by omega, by omega, ?_⟩
      try simp (disch := (first | omega | assumption | (simp only [lc0, ln0, la0]; first | done | omega) | (simp (disch := assumption) only [go_sem, one_as, Nat.reduceBEq]; done) | fail)) only [i1, go_sem, Hold.p, HoldK.k, HoldL.K, HoldL.body, Nat.reduceBEq, Nat.reduceAdd, reduceIte]
      exact ⟨rfl, S⟩
    · clear S
      rintro n e g ⟨k, rfl, hk, i1, i6, i7, S⟩
      have hrl := a2_len S 3 rfl
      have q1 := (S.bx 1 rfl).eq
      have s2 := S.slA 2 rfl
      have len_s2 := s2.lenF
      have z2 := s2.one
      try simp (disch := (first | omega | assumption | (simp only [lc0, ln0, la0]; first | done | omega) | (simp (disch := assumption) only [go_sem, one_as, Nat.reduceBEq]; done) | fail)) only [q1, len_s2, z2, i1, i6, i7, hrl, go_sem, Hold.p, HoldK.k, HoldL.K, HoldL.body, Nat.reduceBEq, Nat.reduceAdd, reduceIte]
      have w1 : wr .i64 ((k : Int) + 1) = ((k + 1 : Nat) : Int) := by rw [wr64 _ (by omega)]; rfl
      refine test_dec (fun hb => ?_) (fun hb => ?_)
      · obtain ⟨q, hq⟩ : ∃ q, m.ps[k]? = some q := ⟨_, List.getElem?_eq_getElem (by omega : k < m.ps.length)⟩
        have hqs := hs.q q (List.mem_of_getElem? hq)
        have hqi := hin q (List.mem_of_getElem? hq)
        unfold pTo at hqi
        have hzk := hz k
        obtain ⟨a, ha⟩ : ∃ a : Nat, q.1 = a := ⟨q.1.toNat, by omega⟩
        have hnx := fillB_next (out := List.replicate en 0) hq
        rw [ha, Int.toNat_natCast] at hnx
        generalize fillB (m.ps.take k) (List.replicate en 0) = O at S hnx hzk
        try simp (disch := (first | omega | assumption | (simp only [lc0, ln0, la0]; first | done | omega) | (simp (disch := assumption) only [go_sem, one_as, Nat.reduceBEq]; done) | fail)) only [i1, i6, i7, go_sem, Hold.p, HoldK.k, HoldL.K, HoldL.body, Nat.reduceBEq, Nat.reduceAdd, reduceIte]
        refine loop_at (fun n e g => ∃ (j : Nat), n = q.2.length - j ∧ j ≤ q.2.length ∧ e 1 = .ptr p1 0 0 ∧ e 6 = v6 ∧ e 7 = .int .i64 (k : Nat) ∧ e 8 = .int .i64 (j : Nat) ∧
          Sp g (byt v6 (layB O a (q.2.take j)) :: box p1 (msO m vps en m.ref m.has m.first mo mp) :: sl false 99 2 vps rs :: all2 pcR rs m.ps :: L)) q.2.length ?_ ?_
        · refine ⟨0, by omega, by omega, ?_⟩
          try simp (disch := (first | omega | assumption | (simp only [lc0, ln0, la0]; first | done | omega) | (simp (disch := assumption) only [go_sem, one_as, Nat.reduceBEq]; done) | fail)) only [i1, i6, i7, go_sem, Hold.p, HoldK.k, HoldL.K, HoldL.body, Nat.reduceBEq, Nat.reduceAdd, reduceIte]
          refine ⟨rfl, ?_⟩
          rw [layB_nil]
          exact S
        · clear S i1 i6 i7
          rintro n e g ⟨j, rfl, hj, i1, i6, i7, i8, S⟩
          obtain ⟨vd, hrow, hvd⟩ := pcs_at S 3 rfl hq
          have s2 := S.slA 2 rfl
          obtain ⟨a1, a2, hia, hal, har⟩ := s2.at hrow .i64
          have d2 := hvd.lenF
          rw [strRows_len] at d2
          have hcl := cellO_row har
          have w2 : wr .i64 ((j : Int) + 1) = ((j + 1 : Nat) : Int) := by rw [wr64 _ (by omega)]; rfl
          have q1 := (S.bx 1 rfl).eq
          try simp (disch := (first | omega | assumption | (simp only [lc0, ln0, la0]; first | done | omega) | (simp (disch := assumption) only [go_sem, one_as, Nat.reduceBEq]; done) | fail)) only [q1, i1, i6, i7, i8, hia, hcl, d2, go_sem, Hold.p, HoldK.k, HoldL.K, HoldL.body, Nat.reduceBEq, Nat.reduceAdd, reduceIte]
          refine test_dec (fun hb2 => ?_) (fun hb2 => ?_)
          · obtain ⟨x, hx⟩ : ∃ x, q.2[j]? = some x := ⟨_, List.getElem?_eq_getElem (by omega : j < q.2.length)⟩
            obtain ⟨b1, b2, hib, hbl, hbr⟩ := hvd.at (m := j) (strRows_at hx) .i64
            have hcb := cellO_row hbr
            have w3 : wr .i64 ((a : Int) + (j : Int)) = ((a + j : Nat) : Int) := by rw [wr64 _ (by omega)]; rfl
            have hll : (layB O a (q.2.take j)).length = en := by
              rw [layB_len (by rw [List.length_take, hzk]; omega), hzk]
            have hlx := layB_next (out := O) (a := a) (by rw [hzk]; omega) hx
            have S0 := S
            clear S
            obtain ⟨l, rfl, S⟩ := S0.slBox (strRows_ne (by omega))
            rw [strRows_len, hll] at i6
            have io : iadrO (IObj.rows (strRows (layB O a (q.2.take j))) 5 1 false) 1 l 0 en ((a + j : Nat) : Int) = some (.ptr l (a + j) 0) := by rw [iadrO_nat (by omega)]; simp
            have q0 := (S.bx 0 rfl).eq
            have q1 := (S.bx 1 rfl).eq
            try simp (disch := (first | omega | assumption | (simp only [lc0, ln0, la0]; first | done | omega) | (simp (disch := assumption) only [go_sem, one_as, Nat.reduceBEq]; done) | fail)) only [q0, q1, i1, i6, i7, i8, hia, hcl, ha, w3, hib, hcb, iadrF_sl, io, go_sem, Hold.p, HoldK.k, HoldL.K, HoldL.body, Nat.reduceBEq, Nat.reduceAdd, reduceIte]
            refine stb_of (by omega) fun g9 hg => ?_
            have S := S.set0 hg
            clear hg
            rw [hlx] at S
            have hl2 : (layB O a (q.2.take (j + 1))).length = en := by
              rw [layB_len (by rw [List.length_take, hzk]; omega), hzk]
            have S := S.boxSl (x := false) (n := en) (by rw [strRows_len, hl2]) (.inr (strRows_ne (by omega)))
            try simp (disch := (first | omega | assumption | (simp only [lc0, ln0, la0]; first | done | omega) | (simp (disch := assumption) only [go_sem, one_as, Nat.reduceBEq]; done) | fail)) only [i1, i6, i7, i8, w2, go_sem, Hold.p, HoldK.k, HoldL.K, HoldL.body, Nat.reduceBEq, Nat.reduceAdd, reduceIte]
            rw [strRows_len, hll]
            exact ⟨_, by omega, j + 1, rfl, by omega, rfl, rfl, S⟩
          · have : j = q.2.length := by omega
            subst this
            rw [List.take_length, ← hnx] at S
            try simp (disch := (first | omega | assumption | (simp only [lc0, ln0, la0]; first | done | omega) | (simp (disch := assumption) only [go_sem, one_as, Nat.reduceBEq]; done) | fail)) only [i1, i6, i7, i8, w1, go_sem, Hold.p, HoldK.k, HoldL.K, HoldL.body, Nat.reduceBEq, Nat.reduceAdd, reduceIte]
            exact ⟨_, by omega, k + 1, rfl, by omega, rfl, S⟩
      · rw [List.take_of_length_le (by omega)] at S
        try simp (disch := (first | omega | assumption | (simp only [lc0, ln0, la0]; first | done | omega) | (simp (disch := assumption) only [go_sem, one_as, Nat.reduceBEq]; done) | fail)) only [i1, i6, i7, go_sem, Hold.p, HoldK.k, HoldL.K, HoldL.body, Nat.reduceBEq, Nat.reduceAdd, reduceIte]
        have S := by simpa only [mc0, mn0, List.getD_cons_zero, List.getD_cons_succ, ds0, dz0, ca0, na0] using Sp.sel S 4 [0, 2, 3] (by simp only [lc0]; omega) (by decide) (by decide)
        exact ⟨v6, rfl, S⟩
end
end Go.Proofs.Ytjmmmmdpkfpojaa
