import Derived.Test.YtaolhgjnlmaooaaDoorL1
import Derived.Test.YtaolhgjnlmaooaaDoorK3
import Derived.Test.YtaolhgjnlmaooaaDoorProg
import Derived.KernelRfl
set_option linter.unusedSimpArgs false
set_option linter.unusedVariables false
set_option maxRecDepth 20000
namespace Go.Proofs.YtaolhgjnlmaooaaDoor
open Go Go.IW
section
attribute [local go_sem] List.getElem?_cons_zero List.getElem?_cons_succ Option.bind_some List.map_cons List.map_nil Nat.zero_add if_true List.getD_cons_zero List.getD_cons_succ List.contains_cons List.contains_nil Bool.or_true Bool.true_or Bool.or_false Bool.false_or Bool.not_true Bool.not_false true_and and_true rowA_whole mid_get stO_mid rowO_rows cellO_rows push_n set_n push_at push_old set_here set_there set_pushT set_pushN set_set upd_ne Nat.add_assoc Nat.add_zero stO_1s stO_ws boxA_s List.all_cons List.all_nil one_bool one_int one_str one_ptr one_nilptr one_slice one_eslice one_nilslice one_func one_iface one_niliface Bool.and_true Bool.and_self List.length_cons List.length_nil Nat.one_ne_zero Nat.succ_ne_zero if_false List.set_cons_zero List.set_cons_succ lay_nil lay_1 lay_w Option.map_some

def kRows : List (List IV) := [[.int .i64 1], [.int .i64 0], [.int .i64 2], [.int .i64 3], [.int .i64 4], [.int .i64 5]]
theorem kRows_at (k : Nat) (hk : k < 6) : kRows[k]? = some [.int .i64 ((flLet.getD k default).1 : Int)] := by
  match k, hk with
  | 0, _ | 1, _ | 2, _ | 3, _ | 4, _ | 5, _ => rfl
  | _ + 6, h => omega
theorem flT_none : ∀ n : Fin 64, (flT (n.val : Int) flLet = []) ↔ n.val = 0 := by decide +kernel
theorem txtRows_len (l : List (List UInt8)) : (txtRows l).length = l.length := by simp [txtRows]
theorem txtRows_app (a b : List (List UInt8)) : txtRows (a ++ b) = txtRows a ++ txtRows b := by simp [txtRows]
theorem txtRows_one (l : List (List UInt8)) : ∀ r ∈ txtRows l, ∀ v ∈ r, v.one = true := by
  intro r hr v hv
  simp only [txtRows, List.mem_map] at hr
  obtain ⟨a, _, rfl⟩ := hr
  simp only [List.mem_singleton] at hv
  subst hv; rfl
theorem hexE (l : List UInt8) : Lib.Hx.encode l = l.flatMap hex2 := by
  unfold Lib.Hx.encode hex2
  congr 1
theorem hexEnc_c (h : IH) (v : IV) (l : List UInt8) (hs : SlR h 1 v (strRows l)) (hne : l ≠ []) (hn : l.length ≤ 4000) :
    ICalls Tryd.prog 37 [v] h fun r h' => r = .str (l.flatMap hex2) ∧ h' = h := by
  rw [← hexE]
  exact hexEnc_calls (Go.Proofs.enters_of Tryd.func37 (by kernel_rfl) rfl) (fun bs os cs l w h1 h2 h3 => Tryd.hex_EncodeToString_bytes bs os cs l w h1 h2 h3) hs hne (by omega)
theorem join_c (h : IH) (v : IV) (ss : List (List UInt8)) (sep : List UInt8) (hs : SlR h 1 v (txtRows ss)) (hn : ss.length ≤ 1000) (hj : (Lib.join ss sep).length ≤ 1000000) :
    ICalls Tryd.prog 38 [v, .str sep] h fun r h' => r = .str (Lib.join ss sep) ∧ h' = h :=
  join_calls (Go.Proofs.enters_of Tryd.func38 (by kernel_rfl) rfl) (fun bk o c xs sep w h1 h2 h3 h4 h5 => Tryd.strings_Join bk o c xs sep w h1 h2 h3 h4 h5)
    (fun a c sep w => Any.strings_Join_none Tryd.lays156 Tryd.Builder_Extra_156 a c sep w) hs (by omega) (by omega)

set_option maxHeartbeats 4000000 in
theorem implShow_c (h : IH) (s : Seg) (vs vd : IV) (hs : SlR h 2 vs (sackRows s.sacks)) (hd : SlR h 1 vd (strRows s.data)) :
    ICalls Tryd.prog 9 [.agg (s.cells vs vd)] h fun r h' => r = .tuple [.str (showSeg s).1, .int .i64 (showSeg s).2] ∧ Ext h h' := by
  refine icalls (.of ok9) (Nat.le_of_ble_eq_true rfl) ?_
  unfold c9 Seg.cells
  have v1 := hs.one
  have v2 := hd.one
  have v3 := hs.lenF
  have v4 := hd.lenF
  rw [sackRows_len] at v3
  rw [strRows_len] at v4
  refine vc_split 2 (fun e g => okSeg s = true ∧ s.data.length ≤ 4000 ∧ e 1 = .ptr h.n 0 0 ∧ At g h.n (segObj s vs vd) ∧ Ext h g) ?_ ?_
  · simp only [CC.split]
    simp (disch := (first | omega | assumption | (simp only [push_n, set_n, put_n, List.length_cons, List.length_nil, List.length_append, Nat.reduceAdd]; done) | (simp only [push_n, set_n, put_n, List.length_cons, List.length_nil, List.length_append]; omega) | (simp only [List.all_cons, List.all_nil, one_bool, one_int, one_str, one_ptr, one_nilptr, one_slice, one_eslice, one_nilslice, one_func, one_iface, one_niliface, Bool.and_true, Bool.true_and, List.getD_cons_zero, List.getD_cons_succ, List.contains_cons, List.contains_nil, Bool.or_true, Bool.true_or, Bool.or_false, Bool.false_or, Nat.reduceBEq, *]; done) | fail)) only [v1, v2, go_sem, Hold.p, HoldK.k, HoldL.K, HoldL.body, Nat.reduceBEq, Nat.reduceAdd, reduceIte]
    generalize hq_g : IH.push h (segObj s vs vd) = g
    have e_g : Ext h g := by rw [← hq_g]; exact (Ext.refl _).push _
    have l_g : g.n = h.n + 1 := by rw [← hq_g]; rfl
    have b : At g h.n (segObj s vs vd) := by rw [← hq_g]; exact At.new _ _
    clear hq_g
    have hs := hs.ext e_g
    have hd := hd.ext e_g
    have q := b.eq
    try simp (disch := (first | omega | assumption | (simp only [push_n, set_n, put_n, List.length_cons, List.length_nil, List.length_append, Nat.reduceAdd]; done) | (simp only [push_n, set_n, put_n, List.length_cons, List.length_nil, List.length_append]; omega) | (simp only [List.all_cons, List.all_nil, one_bool, one_int, one_str, one_ptr, one_nilptr, one_slice, one_eslice, one_nilslice, one_func, one_iface, one_niliface, Bool.and_true, Bool.true_and, List.getD_cons_zero, List.getD_cons_succ, List.contains_cons, List.contains_nil, Bool.or_true, Bool.true_or, Bool.or_false, Bool.false_or, Nat.reduceBEq, *]; done) | fail)) only [q, go_sem, Hold.p, HoldK.k, HoldL.K, HoldL.body, Nat.reduceBEq, Nat.reduceAdd, reduceIte]
    refine callA_of (implOkSegment_c g s vs vd hs hd) ?_
    rintro r g1 ⟨rfl, E1⟩
    have b := b.ext E1
    have hs := hs.ext E1
    have hd := hd.ext E1
    have le_E1 := E1.le
    have q1 := b.eq
    simp (disch := (first | omega | assumption | (simp only [push_n, set_n, put_n, List.length_cons, List.length_nil, List.length_append, Nat.reduceAdd]; done) | (simp only [push_n, set_n, put_n, List.length_cons, List.length_nil, List.length_append]; omega) | (simp only [List.all_cons, List.all_nil, one_bool, one_int, one_str, one_ptr, one_nilptr, one_slice, one_eslice, one_nilslice, one_func, one_iface, one_niliface, Bool.and_true, Bool.true_and, List.getD_cons_zero, List.getD_cons_succ, List.contains_cons, List.contains_nil, Bool.or_true, Bool.true_or, Bool.or_false, Bool.false_or, Nat.reduceBEq, *]; done) | fail)) only [q1, v4, go_sem, Hold.p, HoldK.k, HoldL.K, HoldL.body, Nat.reduceBEq, Nat.reduceAdd, reduceIte]
    refine test_of (fun hc => ?_) (fun hc => ?_)
    · simp (disch := (first | omega | assumption | (simp only [push_n, set_n, put_n, List.length_cons, List.length_nil, List.length_append, Nat.reduceAdd]; done) | (simp only [push_n, set_n, put_n, List.length_cons, List.length_nil, List.length_append]; omega) | (simp only [List.all_cons, List.all_nil, one_bool, one_int, one_str, one_ptr, one_nilptr, one_slice, one_eslice, one_nilslice, one_func, one_iface, one_niliface, Bool.and_true, Bool.true_and, List.getD_cons_zero, List.getD_cons_succ, List.contains_cons, List.contains_nil, Bool.or_true, Bool.true_or, Bool.or_false, Bool.false_or, Nat.reduceBEq, *]; done) | fail)) only [go_sem, Hold.p, HoldK.k, HoldL.K, HoldL.body, Nat.reduceBEq, Nat.reduceAdd, reduceIte]
      have : showSeg s = ([], 1) := by
        unfold showSeg
        rw [if_neg]
        rintro ⟨h1, h2⟩
        rw [h1] at hc
        simp at hc
        omega
      rw [this]
      exact ⟨rfl, e_g.trans E1⟩
    · simp (disch := (first | omega | assumption | (simp only [push_n, set_n, put_n, List.length_cons, List.length_nil, List.length_append, Nat.reduceAdd]; done) | (simp only [push_n, set_n, put_n, List.length_cons, List.length_nil, List.length_append]; omega) | (simp only [List.all_cons, List.all_nil, one_bool, one_int, one_str, one_ptr, one_nilptr, one_slice, one_eslice, one_nilslice, one_func, one_iface, one_niliface, Bool.and_true, Bool.true_and, List.getD_cons_zero, List.getD_cons_succ, List.contains_cons, List.contains_nil, Bool.or_true, Bool.true_or, Bool.or_false, Bool.false_or, Nat.reduceBEq, *]; done) | fail)) only [go_sem, Hold.p, HoldK.k, HoldL.K, HoldL.body, Nat.reduceBEq, Nat.reduceAdd, reduceIte]
      simp at hc
      exact ⟨hc.1, by omega, b, e_g.trans E1⟩
  rintro e g ⟨hok, hdl, i1, b, E⟩
  have hS : showSeg s = (Lib.join (segW s) [32], 0) := by unfold showSeg; rw [if_pos ⟨hok, hdl⟩]
  rw [hS]
  obtain ⟨p1, p2, p3, p4, p5, p6, p7, p8, p9, p10, p11⟩ := okSeg_parts hok
  have n1 := numI_len (n := s.sp) (by omega)
  have n2 := numI_len (n := s.dp) (by omega)
  obtain ⟨fm, hfm⟩ := Int.eq_ofNat_of_zero_le p5.1
  simp only [CC.split]
  refine vc_split 2 (fun e g => e 1 = .ptr h.n 0 0 ∧ e 4 = .str (flT s.fl flLet) ∧ At g h.n (segObj s vs vd) ∧ Ext h g) ?_ ?_
  · simp only [CC.split]
    simp (disch := (first | omega | assumption | (simp only [push_n, set_n, put_n, List.length_cons, List.length_nil, List.length_append, Nat.reduceAdd]; done) | (simp only [push_n, set_n, put_n, List.length_cons, List.length_nil, List.length_append]; omega) | (simp only [List.all_cons, List.all_nil, one_bool, one_int, one_str, one_ptr, one_nilptr, one_slice, one_eslice, one_nilslice, one_func, one_iface, one_niliface, Bool.and_true, Bool.true_and, List.getD_cons_zero, List.getD_cons_succ, List.contains_cons, List.contains_nil, Bool.or_true, Bool.true_or, Bool.or_false, Bool.false_or, Nat.reduceBEq, *]; done) | fail)) only [i1, go_sem, Hold.p, HoldK.k, HoldL.K, HoldL.body, Nat.reduceBEq, Nat.reduceAdd, reduceIte]
    refine bslA_of (rows := kRows) (by decide) rfl (by decide) ?_
    try simp (disch := (first | omega | assumption | (simp only [push_n, set_n, put_n, List.length_cons, List.length_nil, List.length_append, Nat.reduceAdd]; done) | (simp only [push_n, set_n, put_n, List.length_cons, List.length_nil, List.length_append]; omega) | (simp only [List.all_cons, List.all_nil, one_bool, one_int, one_str, one_ptr, one_nilptr, one_slice, one_eslice, one_nilslice, one_func, one_iface, one_niliface, Bool.and_true, Bool.true_and, List.getD_cons_zero, List.getD_cons_succ, List.contains_cons, List.contains_nil, Bool.or_true, Bool.true_or, Bool.or_false, Bool.false_or, Nat.reduceBEq, *]; done) | fail)) only [i1, go_sem, Hold.p, HoldK.k, HoldL.K, HoldL.body, Nat.reduceBEq, Nat.reduceAdd, reduceIte]
    generalize hq_g1 : IH.push g (IObj.rows kRows 3 1 false) = g1
    have e_g1 : Ext g g1 := by rw [← hq_g1]; exact (Ext.refl _).push _
    have l_g1 : g1.n = g.n + 1 := by rw [← hq_g1]; rfl
    have bk : At g1 g.n (IObj.rows kRows 3 1 false) := by rw [← hq_g1]; exact At.new _ _
    clear hq_g1
    have b := b.ext e_g1
    have E := E.trans e_g1
    have sl : SlR g1 1 (.slice g.n 0 6) kRows := SlR.whole bk.eq rfl bk.lt
    have v5 := sl.lenF
    have v6 : (kRows.length : Int) = 6 := rfl
    rw [v6] at v5
    try simp (disch := (first | omega | assumption | (simp only [push_n, set_n, put_n, List.length_cons, List.length_nil, List.length_append, Nat.reduceAdd]; done) | (simp only [push_n, set_n, put_n, List.length_cons, List.length_nil, List.length_append]; omega) | (simp only [List.all_cons, List.all_nil, one_bool, one_int, one_str, one_ptr, one_nilptr, one_slice, one_eslice, one_nilslice, one_func, one_iface, one_niliface, Bool.and_true, Bool.true_and, List.getD_cons_zero, List.getD_cons_succ, List.contains_cons, List.contains_nil, Bool.or_true, Bool.true_or, Bool.or_false, Bool.false_or, Nat.reduceBEq, *]; done) | fail)) only [i1, v5, go_sem, Hold.p, HoldK.k, HoldL.K, HoldL.body, Nat.reduceBEq, Nat.reduceAdd, reduceIte]
    refine loop_at (fun m e g1 => ∃ k : Nat, m = 6 - k ∧ k ≤ 6 ∧ e 1 = .ptr h.n 0 0 ∧ e 4 = .str (flT s.fl (flLet.take k)) ∧ e 19 = .slice g.n 0 6 ∧ e 20 = .int .i64 6 ∧ e 21 = .int .i64 (k : Nat) ∧ SlR g1 1 (.slice g.n 0 6) kRows ∧ At g1 h.n (segObj s vs vd) ∧ Ext h g1) 6 ?_ ?_
    · refine ⟨0, by omega, by omega, ?_⟩
      simp (disch := (first | omega | assumption | (simp only [push_n, set_n, put_n, List.length_cons, List.length_nil, List.length_append, Nat.reduceAdd]; done) | (simp only [push_n, set_n, put_n, List.length_cons, List.length_nil, List.length_append]; omega) | (simp only [List.all_cons, List.all_nil, one_bool, one_int, one_str, one_ptr, one_nilptr, one_slice, one_eslice, one_nilslice, one_func, one_iface, one_niliface, Bool.and_true, Bool.true_and, List.getD_cons_zero, List.getD_cons_succ, List.contains_cons, List.contains_nil, Bool.or_true, Bool.true_or, Bool.or_false, Bool.false_or, Nat.reduceBEq, *]; done) | fail)) only [i1, go_sem, Hold.p, HoldK.k, HoldL.K, HoldL.body, Nat.reduceBEq, Nat.reduceAdd, reduceIte]
      exact ⟨by simp [flT], rfl, rfl, sl, b, E⟩
    · clear i1 b E e sl bk v5
      rintro m e g1 ⟨k, rfl, hk, i1, i4, i19, i20, i21, sl, b, E⟩
      simp (disch := (first | omega | assumption | (simp only [push_n, set_n, put_n, List.length_cons, List.length_nil, List.length_append, Nat.reduceAdd]; done) | (simp only [push_n, set_n, put_n, List.length_cons, List.length_nil, List.length_append]; omega) | (simp only [List.all_cons, List.all_nil, one_bool, one_int, one_str, one_ptr, one_nilptr, one_slice, one_eslice, one_nilslice, one_func, one_iface, one_niliface, Bool.and_true, Bool.true_and, List.getD_cons_zero, List.getD_cons_succ, List.contains_cons, List.contains_nil, Bool.or_true, Bool.true_or, Bool.or_false, Bool.false_or, Nat.reduceBEq, *]; done) | fail)) only [i1, i20, i21, go_sem, Hold.p, HoldK.k, HoldL.K, HoldL.body, Nat.reduceBEq, Nat.reduceAdd, reduceIte]
      refine test_dec (fun hb => ?_) (fun hb => ?_)
      · have hk' : k < 6 := by omega
        have q := b.eq
        obtain ⟨l, j, hia, hll, hrow⟩ := sl.at (kRows_at k hk') .i64
        have hcl := cellO_row hrow
        have w1 : wr .i64 ((k : Int) + 1) = ((k + 1 : Nat) : Int) := by rw [wr64 _ (by omega)]; rfl
        have hsn := flT_snoc (n := s.fl) hk'
        have hb6 : (flLet.getD k default).1 < 6 := by
          match k, hk' with
          | 0, _ | 1, _ | 2, _ | 3, _ | 4, _ | 5, _ => decide
          | _ + 6, h => omega
        have w2 : slcSF (.str [70, 83, 82, 80, 65, 85]) (some (.int .i64 ((flLet.getD k default).1 : Int))) (some (.int .i64 (((flLet.getD k default).1 + 1 : Nat) : Int))) = some (.str [(flLet.getD k default).2]) := by
          match k, hk' with
          | 0, _ | 1, _ | 2, _ | 3, _ | 4, _ | 5, _ => rfl
          | _ + 6, h => omega
        have t3 := flT_len s.fl (flLet.take k)
        have t4 : (flLet.take k).length ≤ 6 := by rw [List.length_take]; exact Nat.min_le_right _ _
        generalize (flLet.getD k default).2 = lt at w2 hsn
        generalize (flLet.getD k default).1 = bk at w2 hsn hb6 hcl
        have w3 : wr .i64 ((bk : Int) + 1) = ((bk + 1 : Nat) : Int) := by rw [wr64 _ (by omega)]; rfl
        have hsh : ibin .shr (.int .i64 s.fl) (.int .i64 (bk : Int)) = some (.int .i64 (s.fl.fdiv (2 ^ bk))) := by
          unfold ibin
          simp only
          rw [if_neg (by omega)]
          have : min (bk : Int).toNat IntKind.i64.bits = bk := by simp [IntKind.bits]; omega
          rw [this]
        have han : ibin .and (.int .i64 (s.fl.fdiv (2 ^ bk))) (.int .i64 1) = some (.int .i64 (if flHas s.fl bk = true then 1 else 0)) := by
          have := shr_bit ⟨fm, by omega⟩ ⟨bk, hb6⟩
          simp only at this
          unfold ibin
          simp only [if_true, hfm]
          rw [this]
          unfold flHas
          simp
        simp (disch := (first | omega | assumption | (simp only [push_n, set_n, put_n, List.length_cons, List.length_nil, List.length_append, Nat.reduceAdd]; done) | (simp only [push_n, set_n, put_n, List.length_cons, List.length_nil, List.length_append]; omega) | (simp only [List.all_cons, List.all_nil, one_bool, one_int, one_str, one_ptr, one_nilptr, one_slice, one_eslice, one_nilslice, one_func, one_iface, one_niliface, Bool.and_true, Bool.true_and, List.getD_cons_zero, List.getD_cons_succ, List.contains_cons, List.contains_nil, Bool.or_true, Bool.true_or, Bool.or_false, Bool.false_or, Nat.reduceBEq, *]; done) | fail)) only [i1, i19, i21, q, hia, hcl, hsh, han, go_sem, Hold.p, HoldK.k, HoldL.K, HoldL.body, Nat.reduceBEq, Nat.reduceAdd, reduceIte]
        generalize flHas s.fl bk = fb at hsn
        have hd1 : decide ((if fb = true then (1 : Int) else 0) = 1) = fb := by cases fb <;> rfl
        simp (disch := (first | omega | assumption | (simp only [push_n, set_n, put_n, List.length_cons, List.length_nil, List.length_append, Nat.reduceAdd]; done) | (simp only [push_n, set_n, put_n, List.length_cons, List.length_nil, List.length_append]; omega) | (simp only [List.all_cons, List.all_nil, one_bool, one_int, one_str, one_ptr, one_nilptr, one_slice, one_eslice, one_nilslice, one_func, one_iface, one_niliface, Bool.and_true, Bool.true_and, List.getD_cons_zero, List.getD_cons_succ, List.contains_cons, List.contains_nil, Bool.or_true, Bool.true_or, Bool.or_false, Bool.false_or, Nat.reduceBEq, *]; done) | fail)) only [hd1, go_sem, Hold.p, HoldK.k, HoldL.K, HoldL.body, Nat.reduceBEq, Nat.reduceAdd, reduceIte]
        refine test_of (fun hc => ?_) (fun hc => ?_)
        · subst hc
          simp (disch := (first | omega | assumption | (simp only [push_n, set_n, put_n, List.length_cons, List.length_nil, List.length_append, Nat.reduceAdd]; done) | (simp only [push_n, set_n, put_n, List.length_cons, List.length_nil, List.length_append]; omega) | (simp only [List.all_cons, List.all_nil, one_bool, one_int, one_str, one_ptr, one_nilptr, one_slice, one_eslice, one_nilslice, one_func, one_iface, one_niliface, Bool.and_true, Bool.true_and, List.getD_cons_zero, List.getD_cons_succ, List.contains_cons, List.contains_nil, Bool.or_true, Bool.true_or, Bool.or_false, Bool.false_or, Nat.reduceBEq, *]; done) | fail)) only [i1, i4, i19, i20, i21, w1, w2, w3, cat3, go_sem, Hold.p, HoldK.k, HoldL.K, HoldL.body, Nat.reduceBEq, Nat.reduceAdd, reduceIte]
          refine ⟨_, ?_, k + 1, rfl, by omega, ?_, rfl, sl, b, E⟩
          · omega
          · rw [hsn]; simp
        · subst hc
          simp (disch := (first | omega | assumption | (simp only [push_n, set_n, put_n, List.length_cons, List.length_nil, List.length_append, Nat.reduceAdd]; done) | (simp only [push_n, set_n, put_n, List.length_cons, List.length_nil, List.length_append]; omega) | (simp only [List.all_cons, List.all_nil, one_bool, one_int, one_str, one_ptr, one_nilptr, one_slice, one_eslice, one_nilslice, one_func, one_iface, one_niliface, Bool.and_true, Bool.true_and, List.getD_cons_zero, List.getD_cons_succ, List.contains_cons, List.contains_nil, Bool.or_true, Bool.true_or, Bool.or_false, Bool.false_or, Nat.reduceBEq, *]; done) | fail)) only [i1, i4, i19, i20, i21, w1, go_sem, Hold.p, HoldK.k, HoldL.K, HoldL.body, Nat.reduceBEq, Nat.reduceAdd, reduceIte]
          refine ⟨_, ?_, k + 1, rfl, by omega, ?_, rfl, sl, b, E⟩
          · omega
          · rw [hsn]; simp
      · have hk' : k = 6 := by omega
        subst hk'
        simp (disch := (first | omega | assumption | (simp only [push_n, set_n, put_n, List.length_cons, List.length_nil, List.length_append, Nat.reduceAdd]; done) | (simp only [push_n, set_n, put_n, List.length_cons, List.length_nil, List.length_append]; omega) | (simp only [List.all_cons, List.all_nil, one_bool, one_int, one_str, one_ptr, one_nilptr, one_slice, one_eslice, one_nilslice, one_func, one_iface, one_niliface, Bool.and_true, Bool.true_and, List.getD_cons_zero, List.getD_cons_succ, List.contains_cons, List.contains_nil, Bool.or_true, Bool.true_or, Bool.or_false, Bool.false_or, Nat.reduceBEq, *]; done) | fail)) only [i1, i4, go_sem, Hold.p, HoldK.k, HoldL.K, HoldL.body, Nat.reduceBEq, Nat.reduceAdd, reduceIte]
        exact ⟨rfl, b, E⟩
  clear i1 b E g e
  rintro e g ⟨i1, i4, b, E⟩
  simp only [CC.split]
  refine vc_split 1 (fun e g => e 1 = .ptr h.n 0 0 ∧ e 4 = .str (flW s.fl) ∧ At g h.n (segObj s vs vd) ∧ Ext h g) ?_ ?_
  · simp only [CC.split]
    have hn := flT_none ⟨fm, by omega⟩
    simp only at hn
    rw [← hfm] at hn
    simp (disch := (first | omega | assumption | (simp only [push_n, set_n, put_n, List.length_cons, List.length_nil, List.length_append, Nat.reduceAdd]; done) | (simp only [push_n, set_n, put_n, List.length_cons, List.length_nil, List.length_append]; omega) | (simp only [List.all_cons, List.all_nil, one_bool, one_int, one_str, one_ptr, one_nilptr, one_slice, one_eslice, one_nilslice, one_func, one_iface, one_niliface, Bool.and_true, Bool.true_and, List.getD_cons_zero, List.getD_cons_succ, List.contains_cons, List.contains_nil, Bool.or_true, Bool.true_or, Bool.or_false, Bool.false_or, Nat.reduceBEq, *]; done) | fail)) only [i1, i4, go_sem, Hold.p, HoldK.k, HoldL.K, HoldL.body, Nat.reduceBEq, Nat.reduceAdd, reduceIte]
    refine test_dec (fun hc => ?_) (fun hc => ?_)
    · have : s.fl = 0 := by have := hn.1 hc; omega
      simp (disch := (first | omega | assumption | (simp only [push_n, set_n, put_n, List.length_cons, List.length_nil, List.length_append, Nat.reduceAdd]; done) | (simp only [push_n, set_n, put_n, List.length_cons, List.length_nil, List.length_append]; omega) | (simp only [List.all_cons, List.all_nil, one_bool, one_int, one_str, one_ptr, one_nilptr, one_slice, one_eslice, one_nilslice, one_func, one_iface, one_niliface, Bool.and_true, Bool.true_and, List.getD_cons_zero, List.getD_cons_succ, List.contains_cons, List.contains_nil, Bool.or_true, Bool.true_or, Bool.or_false, Bool.false_or, Nat.reduceBEq, *]; done) | fail)) only [i1, go_sem, Hold.p, HoldK.k, HoldL.K, HoldL.body, Nat.reduceBEq, Nat.reduceAdd, reduceIte]
      refine ⟨?_, b, E⟩
      unfold flW; rw [if_pos this]
    · have : s.fl ≠ 0 := fun e0 => hc (hn.2 (by omega))
      simp (disch := (first | omega | assumption | (simp only [push_n, set_n, put_n, List.length_cons, List.length_nil, List.length_append, Nat.reduceAdd]; done) | (simp only [push_n, set_n, put_n, List.length_cons, List.length_nil, List.length_append]; omega) | (simp only [List.all_cons, List.all_nil, one_bool, one_int, one_str, one_ptr, one_nilptr, one_slice, one_eslice, one_nilslice, one_func, one_iface, one_niliface, Bool.and_true, Bool.true_and, List.getD_cons_zero, List.getD_cons_succ, List.contains_cons, List.contains_nil, Bool.or_true, Bool.true_or, Bool.or_false, Bool.false_or, Nat.reduceBEq, *]; done) | fail)) only [i1, i4, go_sem, Hold.p, HoldK.k, HoldL.K, HoldL.body, Nat.reduceBEq, Nat.reduceAdd, reduceIte]
      refine ⟨?_, b, E⟩
      unfold flW; rw [if_neg this]
  clear i1 i4 b E g e
  rintro e g ⟨i1, i4, b, E⟩
  simp only [CC.split]
  have n3 := numI_len (n := s.seq) (by omega)
  have n4 := numI_len (n := s.ack) (by omega)
  have n5 := numI_len (n := s.win) (by omega)
  have t3 := flW_len s.fl
  refine vc_split 1 (fun e g => e 1 = .ptr h.n 0 0 ∧ (∃ x lo hi, e 7 = x ∧ Own lo hi g 9 1 x (txtRows (w0 s)) ∧ h.n < lo ∧ hi ≤ g.n) ∧ At g h.n (segObj s vs vd) ∧ Ext h g) ?_ ?_
  · simp only [CC.split]
    have q := b.eq
    simp (disch := (first | omega | assumption | (simp only [push_n, set_n, put_n, List.length_cons, List.length_nil, List.length_append, Nat.reduceAdd]; done) | (simp only [push_n, set_n, put_n, List.length_cons, List.length_nil, List.length_append]; omega) | (simp only [List.all_cons, List.all_nil, one_bool, one_int, one_str, one_ptr, one_nilptr, one_slice, one_eslice, one_nilslice, one_func, one_iface, one_niliface, Bool.and_true, Bool.true_and, List.getD_cons_zero, List.getD_cons_succ, List.contains_cons, List.contains_nil, Bool.or_true, Bool.true_or, Bool.or_false, Bool.false_or, Nat.reduceBEq, *]; done) | fail)) only [i1, i4, q, go_sem, Hold.p, HoldK.k, HoldL.K, HoldL.body, Nat.reduceBEq, Nat.reduceAdd, reduceIte]
    refine callA_of (implNum_c g p1.1 (by omega)) ?_
    rintro r g' ⟨rfl, rfl⟩
    simp (disch := (first | omega | assumption | (simp only [push_n, set_n, put_n, List.length_cons, List.length_nil, List.length_append, Nat.reduceAdd]; done) | (simp only [push_n, set_n, put_n, List.length_cons, List.length_nil, List.length_append]; omega) | (simp only [List.all_cons, List.all_nil, one_bool, one_int, one_str, one_ptr, one_nilptr, one_slice, one_eslice, one_nilslice, one_func, one_iface, one_niliface, Bool.and_true, Bool.true_and, List.getD_cons_zero, List.getD_cons_succ, List.contains_cons, List.contains_nil, Bool.or_true, Bool.true_or, Bool.or_false, Bool.false_or, Nat.reduceBEq, *]; done) | fail)) only [i1, i4, q, cat3, go_sem, Hold.p, HoldK.k, HoldL.K, HoldL.body, Nat.reduceBEq, Nat.reduceAdd, reduceIte]
    refine callA_of (implNum_c _ p2.1 (by omega)) ?_
    rintro r g' ⟨rfl, rfl⟩
    simp (disch := (first | omega | assumption | (simp only [push_n, set_n, put_n, List.length_cons, List.length_nil, List.length_append, Nat.reduceAdd]; done) | (simp only [push_n, set_n, put_n, List.length_cons, List.length_nil, List.length_append]; omega) | (simp only [List.all_cons, List.all_nil, one_bool, one_int, one_str, one_ptr, one_nilptr, one_slice, one_eslice, one_nilslice, one_func, one_iface, one_niliface, Bool.and_true, Bool.true_and, List.getD_cons_zero, List.getD_cons_succ, List.contains_cons, List.contains_nil, Bool.or_true, Bool.true_or, Bool.or_false, Bool.false_or, Nat.reduceBEq, *]; done) | fail)) only [i1, i4, q, cat3, go_sem, Hold.p, HoldK.k, HoldL.K, HoldL.body, Nat.reduceBEq, Nat.reduceAdd, reduceIte]
    refine callA_of (implNum_c _ p3.1 (by omega)) ?_
    rintro r g' ⟨rfl, rfl⟩
    simp (disch := (first | omega | assumption | (simp only [push_n, set_n, put_n, List.length_cons, List.length_nil, List.length_append, Nat.reduceAdd]; done) | (simp only [push_n, set_n, put_n, List.length_cons, List.length_nil, List.length_append]; omega) | (simp only [List.all_cons, List.all_nil, one_bool, one_int, one_str, one_ptr, one_nilptr, one_slice, one_eslice, one_nilslice, one_func, one_iface, one_niliface, Bool.and_true, Bool.true_and, List.getD_cons_zero, List.getD_cons_succ, List.contains_cons, List.contains_nil, Bool.or_true, Bool.true_or, Bool.or_false, Bool.false_or, Nat.reduceBEq, *]; done) | fail)) only [i1, i4, q, cat3, go_sem, Hold.p, HoldK.k, HoldL.K, HoldL.body, Nat.reduceBEq, Nat.reduceAdd, reduceIte]
    refine callA_of (implNum_c _ p4.1 (by omega)) ?_
    rintro r g' ⟨rfl, rfl⟩
    simp (disch := (first | omega | assumption | (simp only [push_n, set_n, put_n, List.length_cons, List.length_nil, List.length_append, Nat.reduceAdd]; done) | (simp only [push_n, set_n, put_n, List.length_cons, List.length_nil, List.length_append]; omega) | (simp only [List.all_cons, List.all_nil, one_bool, one_int, one_str, one_ptr, one_nilptr, one_slice, one_eslice, one_nilslice, one_func, one_iface, one_niliface, Bool.and_true, Bool.true_and, List.getD_cons_zero, List.getD_cons_succ, List.contains_cons, List.contains_nil, Bool.or_true, Bool.true_or, Bool.or_false, Bool.false_or, Nat.reduceBEq, *]; done) | fail)) only [i1, i4, q, cat3, go_sem, Hold.p, HoldK.k, HoldL.K, HoldL.body, Nat.reduceBEq, Nat.reduceAdd, reduceIte]
    refine callA_of (implNum_c _ p6.1 (by omega)) ?_
    rintro r g' ⟨rfl, rfl⟩
    simp (disch := (first | omega | assumption | (simp only [push_n, set_n, put_n, List.length_cons, List.length_nil, List.length_append, Nat.reduceAdd]; done) | (simp only [push_n, set_n, put_n, List.length_cons, List.length_nil, List.length_append]; omega) | (simp only [List.all_cons, List.all_nil, one_bool, one_int, one_str, one_ptr, one_nilptr, one_slice, one_eslice, one_nilslice, one_func, one_iface, one_niliface, Bool.and_true, Bool.true_and, List.getD_cons_zero, List.getD_cons_succ, List.contains_cons, List.contains_nil, Bool.or_true, Bool.true_or, Bool.or_false, Bool.false_or, Nat.reduceBEq, *]; done) | fail)) only [i1, i4, q, cat3, go_sem, Hold.p, HoldK.k, HoldL.K, HoldL.body, Nat.reduceBEq, Nat.reduceAdd, reduceIte]
    refine bslA_of (rows := txtRows (w0 s)) (by decide) rfl (txtRows_one _) ?_
    try simp (disch := (first | omega | assumption | (simp only [push_n, set_n, put_n, List.length_cons, List.length_nil, List.length_append, Nat.reduceAdd]; done) | (simp only [push_n, set_n, put_n, List.length_cons, List.length_nil, List.length_append]; omega) | (simp only [List.all_cons, List.all_nil, one_bool, one_int, one_str, one_ptr, one_nilptr, one_slice, one_eslice, one_nilslice, one_func, one_iface, one_niliface, Bool.and_true, Bool.true_and, List.getD_cons_zero, List.getD_cons_succ, List.contains_cons, List.contains_nil, Bool.or_true, Bool.true_or, Bool.or_false, Bool.false_or, Nat.reduceBEq, *]; done) | fail)) only [i1, i4, q, cat3, go_sem, Hold.p, HoldK.k, HoldL.K, HoldL.body, Nat.reduceBEq, Nat.reduceAdd, reduceIte]
    have b0 := b
    generalize hq_g1 : IH.push g' (IObj.rows (txtRows (w0 s)) 9 1 false) = g1
    have e_g1 : Ext g' g1 := by rw [← hq_g1]; exact (Ext.refl _).push _
    have l_g1 : g1.n = g'.n + 1 := by rw [← hq_g1]; rfl
    have bw : At g1 g'.n (IObj.rows (txtRows (w0 s)) 9 1 false) := by rw [← hq_g1]; exact At.new _ _
    clear hq_g1
    have b := b.ext e_g1
    have E := E.trans e_g1
    have o : Own g'.n (g'.n + 1) g1 9 1 (.slice g'.n 0 (txtRows (w0 s)).length) (txtRows (w0 s)) := Own.mk (by simp [txtRows, w0]) (Nat.le_refl _) (Nat.lt_succ_self _) (by omega) bw.eq
    have hnl : h.n < g'.n := b0.lt
    exact ⟨⟨_, _, _, rfl, o, hnl, by omega⟩, b, E⟩
  clear i1 i4 b E g e
  rintro e g ⟨i1, ⟨x, lo, hi, i7, o, hlo, hhi⟩, b, E⟩
  simp only [CC.split]
  have k1 : (w1 s).length ≤ 2 := by unfold w1; split <;> simp
  have k2 : (w2 s).length ≤ 2 := by unfold w2; split <;> simp
  have k3 : (w3 s).length ≤ 1 := by unfold w3; split <;> simp
  have k0 : (w0 s).length = 5 := rfl
  -- mss
  refine vc_split 1 (fun e g => e 1 = .ptr h.n 0 0 ∧ (∃ x lo hi, e 7 = x ∧ Own lo hi g 9 1 x (txtRows (w0 s ++ w1 s)) ∧ h.n < lo ∧ hi ≤ g.n) ∧ At g h.n (segObj s vs vd) ∧ Ext h g) ?_ ?_
  · simp only [CC.split]
    have q := b.eq
    simp (disch := (first | omega | assumption | (simp only [push_n, set_n, put_n, List.length_cons, List.length_nil, List.length_append, Nat.reduceAdd]; done) | (simp only [push_n, set_n, put_n, List.length_cons, List.length_nil, List.length_append]; omega) | (simp only [List.all_cons, List.all_nil, one_bool, one_int, one_str, one_ptr, one_nilptr, one_slice, one_eslice, one_nilslice, one_func, one_iface, one_niliface, Bool.and_true, Bool.true_and, List.getD_cons_zero, List.getD_cons_succ, List.contains_cons, List.contains_nil, Bool.or_true, Bool.true_or, Bool.or_false, Bool.false_or, Nat.reduceBEq, *]; done) | fail)) only [i1, q, go_sem, Hold.p, HoldK.k, HoldL.K, HoldL.body, Nat.reduceBEq, Nat.reduceAdd, reduceIte]
    by_cases hm : s.mss = 0
    · have hd1 : decide (s.mss = 0) = true := decide_eq_true hm
      simp (disch := (first | omega | assumption | (simp only [push_n, set_n, put_n, List.length_cons, List.length_nil, List.length_append, Nat.reduceAdd]; done) | (simp only [push_n, set_n, put_n, List.length_cons, List.length_nil, List.length_append]; omega) | (simp only [List.all_cons, List.all_nil, one_bool, one_int, one_str, one_ptr, one_nilptr, one_slice, one_eslice, one_nilslice, one_func, one_iface, one_niliface, Bool.and_true, Bool.true_and, List.getD_cons_zero, List.getD_cons_succ, List.contains_cons, List.contains_nil, Bool.or_true, Bool.true_or, Bool.or_false, Bool.false_or, Nat.reduceBEq, *]; done) | fail)) only [hd1, i1, i7, go_sem, Hold.p, HoldK.k, HoldL.K, HoldL.body, Nat.reduceBEq, Nat.reduceAdd, reduceIte]
      refine ⟨⟨_, lo, hi, rfl, ?_, hlo, hhi⟩, b, E⟩
      unfold w1; rw [if_pos hm, List.append_nil]; exact o
    · have hd1 : decide (s.mss = 0) = false := decide_eq_false hm
      simp (disch := (first | omega | assumption | (simp only [push_n, set_n, put_n, List.length_cons, List.length_nil, List.length_append, Nat.reduceAdd]; done) | (simp only [push_n, set_n, put_n, List.length_cons, List.length_nil, List.length_append]; omega) | (simp only [List.all_cons, List.all_nil, one_bool, one_int, one_str, one_ptr, one_nilptr, one_slice, one_eslice, one_nilslice, one_func, one_iface, one_niliface, Bool.and_true, Bool.true_and, List.getD_cons_zero, List.getD_cons_succ, List.contains_cons, List.contains_nil, Bool.or_true, Bool.true_or, Bool.or_false, Bool.false_or, Nat.reduceBEq, *]; done) | fail)) only [hd1, i1, i7, q, go_sem, Hold.p, HoldK.k, HoldL.K, HoldL.body, Nat.reduceBEq, Nat.reduceAdd, reduceIte]
      refine callA_of (implNum_c _ p7.1 (by omega)) ?_
      rintro r g' ⟨rfl, rfl⟩
      simp (disch := (first | omega | assumption | (simp only [push_n, set_n, put_n, List.length_cons, List.length_nil, List.length_append, Nat.reduceAdd]; done) | (simp only [push_n, set_n, put_n, List.length_cons, List.length_nil, List.length_append]; omega) | (simp only [List.all_cons, List.all_nil, one_bool, one_int, one_str, one_ptr, one_nilptr, one_slice, one_eslice, one_nilslice, one_func, one_iface, one_niliface, Bool.and_true, Bool.true_and, List.getD_cons_zero, List.getD_cons_succ, List.contains_cons, List.contains_nil, Bool.or_true, Bool.true_or, Bool.or_false, Bool.false_or, Nat.reduceBEq, *]; done) | fail)) only [i1, i7, go_sem, Hold.p, HoldK.k, HoldL.K, HoldL.body, Nat.reduceBEq, Nat.reduceAdd, reduceIte]
      refine bslA_of (rows := txtRows [mssW, numI s.mss]) (by decide) rfl (txtRows_one _) ?_
      try simp (disch := (first | omega | assumption | (simp only [push_n, set_n, put_n, List.length_cons, List.length_nil, List.length_append, Nat.reduceAdd]; done) | (simp only [push_n, set_n, put_n, List.length_cons, List.length_nil, List.length_append]; omega) | (simp only [List.all_cons, List.all_nil, one_bool, one_int, one_str, one_ptr, one_nilptr, one_slice, one_eslice, one_nilslice, one_func, one_iface, one_niliface, Bool.and_true, Bool.true_and, List.getD_cons_zero, List.getD_cons_succ, List.contains_cons, List.contains_nil, Bool.or_true, Bool.true_or, Bool.or_false, Bool.false_or, Nat.reduceBEq, *]; done) | fail)) only [i1, i7, go_sem, Hold.p, HoldK.k, HoldL.K, HoldL.body, Nat.reduceBEq, Nat.reduceAdd, reduceIte]
      generalize hq_g1 : IH.push g' (IObj.rows (txtRows [mssW, numI s.mss]) 9 1 false) = g1
      have e_g1 : Ext g' g1 := by rw [← hq_g1]; exact (Ext.refl _).push _
      have l_g1 : g1.n = g'.n + 1 := by rw [← hq_g1]; rfl
      have bw : At g1 g'.n (IObj.rows (txtRows [mssW, numI s.mss]) 9 1 false) := by rw [← hq_g1]; exact At.new _ _
      clear hq_g1
      have b := b.ext e_g1
      have o := o.ext e_g1
      have E := E.trans e_g1
      have q1 := bw.eq
      try simp (disch := (first | omega | assumption | (simp only [push_n, set_n, put_n, List.length_cons, List.length_nil, List.length_append, Nat.reduceAdd]; done) | (simp only [push_n, set_n, put_n, List.length_cons, List.length_nil, List.length_append]; omega) | (simp only [List.all_cons, List.all_nil, one_bool, one_int, one_str, one_ptr, one_nilptr, one_slice, one_eslice, one_nilslice, one_func, one_iface, one_niliface, Bool.and_true, Bool.true_and, List.getD_cons_zero, List.getD_cons_succ, List.contains_cons, List.contains_nil, Bool.or_true, Bool.true_or, Bool.or_false, Bool.false_or, Nat.reduceBEq, *]; done) | fail)) only [i1, i7, q1, go_sem, Hold.p, HoldK.k, HoldL.K, HoldL.body, Nat.reduceBEq, Nat.reduceAdd, reduceIte]
      rw [srcO_whole (by simp [txtRows])]
      refine o.app (by simp [txtRows]) (by simp only [txtRows_len, List.length_append, List.length_cons, List.length_nil]; omega) ?_
      intro v6 h6 o6 t6 n6 v6o v6c
      have E6 := E.turn o (by omega) t6
      have b6 := b.turn o (by omega) t6
      rw [← txtRows_app] at o6
      have hnl := b.lt
      simp (disch := (first | omega | assumption | (simp only [push_n, set_n, put_n, List.length_cons, List.length_nil, List.length_append, Nat.reduceAdd]; done) | (simp only [push_n, set_n, put_n, List.length_cons, List.length_nil, List.length_append]; omega) | (simp only [List.all_cons, List.all_nil, one_bool, one_int, one_str, one_ptr, one_nilptr, one_slice, one_eslice, one_nilslice, one_func, one_iface, one_niliface, Bool.and_true, Bool.true_and, List.getD_cons_zero, List.getD_cons_succ, List.contains_cons, List.contains_nil, Bool.or_true, Bool.true_or, Bool.or_false, Bool.false_or, Nat.reduceBEq, *]; done) | fail)) only [i1, go_sem, Hold.p, HoldK.k, HoldL.K, HoldL.body, Nat.reduceBEq, Nat.reduceAdd, reduceIte]
      refine ⟨⟨_, g1.n, g1.n + 1, rfl, ?_, hnl, by omega⟩, b6, E6⟩
      unfold w1; rw [if_neg hm]; exact o6
  clear i1 i7 b E o hlo hhi lo hi x g e
  rintro e g ⟨i1, ⟨x, lo, hi, i7, o, hlo, hhi⟩, b, E⟩
  simp only [CC.split]
  -- scale
  refine vc_split 1 (fun e g => e 1 = .ptr h.n 0 0 ∧ (∃ x lo hi, e 7 = x ∧ Own lo hi g 9 1 x (txtRows (w0 s ++ w1 s ++ w2 s)) ∧ h.n < lo ∧ hi ≤ g.n) ∧ At g h.n (segObj s vs vd) ∧ Ext h g) ?_ ?_
  · simp only [CC.split]
    have q := b.eq
    simp (disch := (first | omega | assumption | (simp only [push_n, set_n, put_n, List.length_cons, List.length_nil, List.length_append, Nat.reduceAdd]; done) | (simp only [push_n, set_n, put_n, List.length_cons, List.length_nil, List.length_append]; omega) | (simp only [List.all_cons, List.all_nil, one_bool, one_int, one_str, one_ptr, one_nilptr, one_slice, one_eslice, one_nilslice, one_func, one_iface, one_niliface, Bool.and_true, Bool.true_and, List.getD_cons_zero, List.getD_cons_succ, List.contains_cons, List.contains_nil, Bool.or_true, Bool.true_or, Bool.or_false, Bool.false_or, Nat.reduceBEq, *]; done) | fail)) only [i1, q, go_sem, Hold.p, HoldK.k, HoldL.K, HoldL.body, Nat.reduceBEq, Nat.reduceAdd, reduceIte]
    refine test_of (fun hm => ?_) (fun hm => ?_)
    · simp (disch := (first | omega | assumption | (simp only [push_n, set_n, put_n, List.length_cons, List.length_nil, List.length_append, Nat.reduceAdd]; done) | (simp only [push_n, set_n, put_n, List.length_cons, List.length_nil, List.length_append]; omega) | (simp only [List.all_cons, List.all_nil, one_bool, one_int, one_str, one_ptr, one_nilptr, one_slice, one_eslice, one_nilslice, one_func, one_iface, one_niliface, Bool.and_true, Bool.true_and, List.getD_cons_zero, List.getD_cons_succ, List.contains_cons, List.contains_nil, Bool.or_true, Bool.true_or, Bool.or_false, Bool.false_or, Nat.reduceBEq, *]; done) | fail)) only [i1, i7, q, go_sem, Hold.p, HoldK.k, HoldL.K, HoldL.body, Nat.reduceBEq, Nat.reduceAdd, reduceIte]
      refine callA_of (implNum_c _ p8.1 (by omega)) ?_
      rintro r g' ⟨rfl, rfl⟩
      simp (disch := (first | omega | assumption | (simp only [push_n, set_n, put_n, List.length_cons, List.length_nil, List.length_append, Nat.reduceAdd]; done) | (simp only [push_n, set_n, put_n, List.length_cons, List.length_nil, List.length_append]; omega) | (simp only [List.all_cons, List.all_nil, one_bool, one_int, one_str, one_ptr, one_nilptr, one_slice, one_eslice, one_nilslice, one_func, one_iface, one_niliface, Bool.and_true, Bool.true_and, List.getD_cons_zero, List.getD_cons_succ, List.contains_cons, List.contains_nil, Bool.or_true, Bool.true_or, Bool.or_false, Bool.false_or, Nat.reduceBEq, *]; done) | fail)) only [i1, i7, go_sem, Hold.p, HoldK.k, HoldL.K, HoldL.body, Nat.reduceBEq, Nat.reduceAdd, reduceIte]
      refine bslA_of (rows := txtRows [scaleW, numI s.sc]) (by decide) rfl (txtRows_one _) ?_
      try simp (disch := (first | omega | assumption | (simp only [push_n, set_n, put_n, List.length_cons, List.length_nil, List.length_append, Nat.reduceAdd]; done) | (simp only [push_n, set_n, put_n, List.length_cons, List.length_nil, List.length_append]; omega) | (simp only [List.all_cons, List.all_nil, one_bool, one_int, one_str, one_ptr, one_nilptr, one_slice, one_eslice, one_nilslice, one_func, one_iface, one_niliface, Bool.and_true, Bool.true_and, List.getD_cons_zero, List.getD_cons_succ, List.contains_cons, List.contains_nil, Bool.or_true, Bool.true_or, Bool.or_false, Bool.false_or, Nat.reduceBEq, *]; done) | fail)) only [i1, i7, go_sem, Hold.p, HoldK.k, HoldL.K, HoldL.body, Nat.reduceBEq, Nat.reduceAdd, reduceIte]
      generalize hq_g1 : IH.push g' (IObj.rows (txtRows [scaleW, numI s.sc]) 9 1 false) = g1
      have e_g1 : Ext g' g1 := by rw [← hq_g1]; exact (Ext.refl _).push _
      have l_g1 : g1.n = g'.n + 1 := by rw [← hq_g1]; rfl
      have bw : At g1 g'.n (IObj.rows (txtRows [scaleW, numI s.sc]) 9 1 false) := by rw [← hq_g1]; exact At.new _ _
      clear hq_g1
      have b := b.ext e_g1
      have o := o.ext e_g1
      have E := E.trans e_g1
      have q1 := bw.eq
      try simp (disch := (first | omega | assumption | (simp only [push_n, set_n, put_n, List.length_cons, List.length_nil, List.length_append, Nat.reduceAdd]; done) | (simp only [push_n, set_n, put_n, List.length_cons, List.length_nil, List.length_append]; omega) | (simp only [List.all_cons, List.all_nil, one_bool, one_int, one_str, one_ptr, one_nilptr, one_slice, one_eslice, one_nilslice, one_func, one_iface, one_niliface, Bool.and_true, Bool.true_and, List.getD_cons_zero, List.getD_cons_succ, List.contains_cons, List.contains_nil, Bool.or_true, Bool.true_or, Bool.or_false, Bool.false_or, Nat.reduceBEq, *]; done) | fail)) only [i1, i7, q1, go_sem, Hold.p, HoldK.k, HoldL.K, HoldL.body, Nat.reduceBEq, Nat.reduceAdd, reduceIte]
      rw [srcO_whole (by simp [txtRows])]
      refine o.app (by simp [txtRows]) (by simp only [txtRows_len, List.length_append, List.length_cons, List.length_nil]; omega) ?_
      intro v6 h6 o6 t6 n6 v6o v6c
      have E6 := E.turn o (by omega) t6
      have b6 := b.turn o (by omega) t6
      rw [← txtRows_app] at o6
      have hnl := b.lt
      simp (disch := (first | omega | assumption | (simp only [push_n, set_n, put_n, List.length_cons, List.length_nil, List.length_append, Nat.reduceAdd]; done) | (simp only [push_n, set_n, put_n, List.length_cons, List.length_nil, List.length_append]; omega) | (simp only [List.all_cons, List.all_nil, one_bool, one_int, one_str, one_ptr, one_nilptr, one_slice, one_eslice, one_nilslice, one_func, one_iface, one_niliface, Bool.and_true, Bool.true_and, List.getD_cons_zero, List.getD_cons_succ, List.contains_cons, List.contains_nil, Bool.or_true, Bool.true_or, Bool.or_false, Bool.false_or, Nat.reduceBEq, *]; done) | fail)) only [i1, go_sem, Hold.p, HoldK.k, HoldL.K, HoldL.body, Nat.reduceBEq, Nat.reduceAdd, reduceIte]
      refine ⟨⟨_, g1.n, g1.n + 1, rfl, ?_, hnl, by omega⟩, b6, E6⟩
      unfold w2; rw [if_pos hm]; exact o6
    · simp (disch := (first | omega | assumption | (simp only [push_n, set_n, put_n, List.length_cons, List.length_nil, List.length_append, Nat.reduceAdd]; done) | (simp only [push_n, set_n, put_n, List.length_cons, List.length_nil, List.length_append]; omega) | (simp only [List.all_cons, List.all_nil, one_bool, one_int, one_str, one_ptr, one_nilptr, one_slice, one_eslice, one_nilslice, one_func, one_iface, one_niliface, Bool.and_true, Bool.true_and, List.getD_cons_zero, List.getD_cons_succ, List.contains_cons, List.contains_nil, Bool.or_true, Bool.true_or, Bool.or_false, Bool.false_or, Nat.reduceBEq, *]; done) | fail)) only [i1, i7, go_sem, Hold.p, HoldK.k, HoldL.K, HoldL.body, Nat.reduceBEq, Nat.reduceAdd, reduceIte]
      refine ⟨⟨_, lo, hi, rfl, ?_, hlo, hhi⟩, b, E⟩
      unfold w2; rw [hm]; simpa using o
  clear i1 i7 b E o hlo hhi lo hi x g e
  rintro e g ⟨i1, ⟨x, lo, hi, i7, o, hlo, hhi⟩, b, E⟩
  simp only [CC.split]
  -- sackok
  refine vc_split 1 (fun e g => e 1 = .ptr h.n 0 0 ∧ (∃ x lo hi, e 7 = x ∧ Own lo hi g 9 1 x (txtRows (w0 s ++ w1 s ++ w2 s ++ w3 s)) ∧ h.n < lo ∧ hi ≤ g.n) ∧ At g h.n (segObj s vs vd) ∧ Ext h g) ?_ ?_
  · simp only [CC.split]
    have q := b.eq
    simp (disch := (first | omega | assumption | (simp only [push_n, set_n, put_n, List.length_cons, List.length_nil, List.length_append, Nat.reduceAdd]; done) | (simp only [push_n, set_n, put_n, List.length_cons, List.length_nil, List.length_append]; omega) | (simp only [List.all_cons, List.all_nil, one_bool, one_int, one_str, one_ptr, one_nilptr, one_slice, one_eslice, one_nilslice, one_func, one_iface, one_niliface, Bool.and_true, Bool.true_and, List.getD_cons_zero, List.getD_cons_succ, List.contains_cons, List.contains_nil, Bool.or_true, Bool.true_or, Bool.or_false, Bool.false_or, Nat.reduceBEq, *]; done) | fail)) only [i1, q, go_sem, Hold.p, HoldK.k, HoldL.K, HoldL.body, Nat.reduceBEq, Nat.reduceAdd, reduceIte]
    refine test_of (fun hm => ?_) (fun hm => ?_)
    · simp (disch := (first | omega | assumption | (simp only [push_n, set_n, put_n, List.length_cons, List.length_nil, List.length_append, Nat.reduceAdd]; done) | (simp only [push_n, set_n, put_n, List.length_cons, List.length_nil, List.length_append]; omega) | (simp only [List.all_cons, List.all_nil, one_bool, one_int, one_str, one_ptr, one_nilptr, one_slice, one_eslice, one_nilslice, one_func, one_iface, one_niliface, Bool.and_true, Bool.true_and, List.getD_cons_zero, List.getD_cons_succ, List.contains_cons, List.contains_nil, Bool.or_true, Bool.true_or, Bool.or_false, Bool.false_or, Nat.reduceBEq, *]; done) | fail)) only [i1, i7, q, go_sem, Hold.p, HoldK.k, HoldL.K, HoldL.body, Nat.reduceBEq, Nat.reduceAdd, reduceIte]
      generalize hq_g1 : IH.push g (IObj.rows [[.str [115, 97, 99, 107, 111, 107]]] 9 1 false) = g1
      have e_g1 : Ext g g1 := by rw [← hq_g1]; exact (Ext.refl _).push _
      have l_g1 : g1.n = g.n + 1 := by rw [← hq_g1]; rfl
      have bw : At g1 g.n (IObj.rows [[.str [115, 97, 99, 107, 111, 107]]] 9 1 false) := by rw [← hq_g1]; exact At.new _ _
      clear hq_g1
      have b := b.ext e_g1
      have o := o.ext e_g1
      have E := E.trans e_g1
      have q1 := bw.eq
      try simp (disch := (first | omega | assumption | (simp only [push_n, set_n, put_n, List.length_cons, List.length_nil, List.length_append, Nat.reduceAdd]; done) | (simp only [push_n, set_n, put_n, List.length_cons, List.length_nil, List.length_append]; omega) | (simp only [List.all_cons, List.all_nil, one_bool, one_int, one_str, one_ptr, one_nilptr, one_slice, one_eslice, one_nilslice, one_func, one_iface, one_niliface, Bool.and_true, Bool.true_and, List.getD_cons_zero, List.getD_cons_succ, List.contains_cons, List.contains_nil, Bool.or_true, Bool.true_or, Bool.or_false, Bool.false_or, Nat.reduceBEq, *]; done) | fail)) only [i1, i7, q1, go_sem, Hold.p, HoldK.k, HoldL.K, HoldL.body, Nat.reduceBEq, Nat.reduceAdd, reduceIte]
      refine o.app (by simp [txtRows]) (by simp only [txtRows_len, List.length_append, List.length_cons, List.length_nil]; omega) ?_
      intro v6 h6 o6 t6 n6 v6o v6c
      have E6 := E.turn o (by omega) t6
      have b6 := b.turn o (by omega) t6
      have o6 : Own g1.n (g1.n + 1) h6 9 1 v6 (txtRows (w0 s ++ w1 s ++ w2 s ++ [sackokW])) := by rw [txtRows_app]; exact o6
      have hnl := b.lt
      simp (disch := (first | omega | assumption | (simp only [push_n, set_n, put_n, List.length_cons, List.length_nil, List.length_append, Nat.reduceAdd]; done) | (simp only [push_n, set_n, put_n, List.length_cons, List.length_nil, List.length_append]; omega) | (simp only [List.all_cons, List.all_nil, one_bool, one_int, one_str, one_ptr, one_nilptr, one_slice, one_eslice, one_nilslice, one_func, one_iface, one_niliface, Bool.and_true, Bool.true_and, List.getD_cons_zero, List.getD_cons_succ, List.contains_cons, List.contains_nil, Bool.or_true, Bool.true_or, Bool.or_false, Bool.false_or, Nat.reduceBEq, *]; done) | fail)) only [i1, go_sem, Hold.p, HoldK.k, HoldL.K, HoldL.body, Nat.reduceBEq, Nat.reduceAdd, reduceIte]
      refine ⟨⟨_, g1.n, g1.n + 1, rfl, ?_, hnl, by omega⟩, b6, E6⟩
      unfold w3; rw [if_pos hm]; exact o6
    · simp (disch := (first | omega | assumption | (simp only [push_n, set_n, put_n, List.length_cons, List.length_nil, List.length_append, Nat.reduceAdd]; done) | (simp only [push_n, set_n, put_n, List.length_cons, List.length_nil, List.length_append]; omega) | (simp only [List.all_cons, List.all_nil, one_bool, one_int, one_str, one_ptr, one_nilptr, one_slice, one_eslice, one_nilslice, one_func, one_iface, one_niliface, Bool.and_true, Bool.true_and, List.getD_cons_zero, List.getD_cons_succ, List.contains_cons, List.contains_nil, Bool.or_true, Bool.true_or, Bool.or_false, Bool.false_or, Nat.reduceBEq, *]; done) | fail)) only [i1, i7, go_sem, Hold.p, HoldK.k, HoldL.K, HoldL.body, Nat.reduceBEq, Nat.reduceAdd, reduceIte]
      refine ⟨⟨_, lo, hi, rfl, ?_, hlo, hhi⟩, b, E⟩
      unfold w3; rw [hm]; simpa using o
  clear i1 i7 b E o hlo hhi lo hi x g e
  rintro e g ⟨i1, ⟨x, lo, hi, i7, o, hlo, hhi⟩, b, E⟩
  simp only [CC.split]
  -- sacks
  refine vc_split 1 (fun e g => e 1 = .ptr h.n 0 0 ∧ (∃ x lo hi, e 7 = x ∧ Own lo hi g 9 1 x (txtRows (w0 s ++ w1 s ++ w2 s ++ w3 s ++ w4 s.sacks)) ∧ h.n < lo ∧ hi ≤ g.n) ∧ At g h.n (segObj s vs vd) ∧ Ext h g) ?_ ?_
  · simp only [CC.split]
    have q := b.eq
    simp (disch := (first | omega | assumption | (simp only [push_n, set_n, put_n, List.length_cons, List.length_nil, List.length_append, Nat.reduceAdd]; done) | (simp only [push_n, set_n, put_n, List.length_cons, List.length_nil, List.length_append]; omega) | (simp only [List.all_cons, List.all_nil, one_bool, one_int, one_str, one_ptr, one_nilptr, one_slice, one_eslice, one_nilslice, one_func, one_iface, one_niliface, Bool.and_true, Bool.true_and, List.getD_cons_zero, List.getD_cons_succ, List.contains_cons, List.contains_nil, Bool.or_true, Bool.true_or, Bool.or_false, Bool.false_or, Nat.reduceBEq, *]; done) | fail)) only [i1, q, v3, go_sem, Hold.p, HoldK.k, HoldL.K, HoldL.body, Nat.reduceBEq, Nat.reduceAdd, reduceIte]
    refine loop_at (fun m e g => ∃ k : Nat, m = s.sacks.length - k ∧ k ≤ s.sacks.length ∧ e 1 = .ptr h.n 0 0 ∧ e 82 = vs ∧ e 83 = .int .i64 (s.sacks.length : Nat) ∧ e 84 = .int .i64 (k : Nat) ∧ (∃ x lo hi, e 7 = x ∧ Own lo hi g 9 1 x (txtRows (w0 s ++ w1 s ++ w2 s ++ w3 s ++ w4 (s.sacks.take k))) ∧ h.n < lo ∧ hi ≤ g.n) ∧ At g h.n (segObj s vs vd) ∧ Ext h g) s.sacks.length ?_ ?_
    · refine ⟨0, by omega, by omega, ?_⟩
      simp (disch := (first | omega | assumption | (simp only [push_n, set_n, put_n, List.length_cons, List.length_nil, List.length_append, Nat.reduceAdd]; done) | (simp only [push_n, set_n, put_n, List.length_cons, List.length_nil, List.length_append]; omega) | (simp only [List.all_cons, List.all_nil, one_bool, one_int, one_str, one_ptr, one_nilptr, one_slice, one_eslice, one_nilslice, one_func, one_iface, one_niliface, Bool.and_true, Bool.true_and, List.getD_cons_zero, List.getD_cons_succ, List.contains_cons, List.contains_nil, Bool.or_true, Bool.true_or, Bool.or_false, Bool.false_or, Nat.reduceBEq, *]; done) | fail)) only [i1, i7, go_sem, Hold.p, HoldK.k, HoldL.K, HoldL.body, Nat.reduceBEq, Nat.reduceAdd, reduceIte]
      refine ⟨rfl, ⟨_, lo, hi, rfl, ?_, hlo, hhi⟩, b, E⟩
      simpa [w4] using o
    · clear i1 i7 b E o hlo hhi lo hi x q g e
      rintro m e g ⟨k, rfl, hk, i1, i82, i83, i84, ⟨x, lo, hi, i7, o, hlo, hhi⟩, b, E⟩
      simp (disch := (first | omega | assumption | (simp only [push_n, set_n, put_n, List.length_cons, List.length_nil, List.length_append, Nat.reduceAdd]; done) | (simp only [push_n, set_n, put_n, List.length_cons, List.length_nil, List.length_append]; omega) | (simp only [List.all_cons, List.all_nil, one_bool, one_int, one_str, one_ptr, one_nilptr, one_slice, one_eslice, one_nilslice, one_func, one_iface, one_niliface, Bool.and_true, Bool.true_and, List.getD_cons_zero, List.getD_cons_succ, List.contains_cons, List.contains_nil, Bool.or_true, Bool.true_or, Bool.or_false, Bool.false_or, Nat.reduceBEq, *]; done) | fail)) only [i1, i83, i84, go_sem, Hold.p, HoldK.k, HoldL.K, HoldL.body, Nat.reduceBEq, Nat.reduceAdd, reduceIte]
      refine test_dec (fun hb => ?_) (fun hb => ?_)
      · have hk' : k < s.sacks.length := by omega
        obtain ⟨y, hy⟩ : ∃ x, s.sacks[k]? = some x := ⟨_, List.getElem?_eq_getElem hk'⟩
        have hxm := p11 y (List.mem_of_getElem? hy)
        have m1 := numI_len (n := y.1) (by omega)
        have m2 := numI_len (n := y.2) (by omega)
        have hsg := hs.ext E
        obtain ⟨l, j, hia, hll, hrow⟩ := hsg.at (m := k) (sackRows_at hy) .i64
        have w1' : wr .i64 ((k : Int) + 1) = ((k + 1 : Nat) : Int) := by rw [wr64 _ (by omega)]; rfl
        have k4 : (w4 (s.sacks.take k)).length = 2 * k := by
          have : ∀ l : List (Int × Int), (w4 l).length = 2 * l.length := by
            intro l
            induction l with
            | nil => rfl
            | cons a l ih => have e1 : w4 (a :: l) = sackW :: sackT a :: w4 l := rfl
                             rw [e1]; simp only [List.length_cons]; omega
          rw [this, List.length_take, Nat.min_eq_left hk]
        simp (disch := (first | omega | assumption | (simp only [push_n, set_n, put_n, List.length_cons, List.length_nil, List.length_append, Nat.reduceAdd]; done) | (simp only [push_n, set_n, put_n, List.length_cons, List.length_nil, List.length_append]; omega) | (simp only [List.all_cons, List.all_nil, one_bool, one_int, one_str, one_ptr, one_nilptr, one_slice, one_eslice, one_nilslice, one_func, one_iface, one_niliface, Bool.and_true, Bool.true_and, List.getD_cons_zero, List.getD_cons_succ, List.contains_cons, List.contains_nil, Bool.or_true, Bool.true_or, Bool.or_false, Bool.false_or, Nat.reduceBEq, *]; done) | fail)) only [i1, i7, i82, i83, i84, hia, hrow, go_sem, Hold.p, HoldK.k, HoldL.K, HoldL.body, Nat.reduceBEq, Nat.reduceAdd, reduceIte]
        generalize hq_g0 : IH.push g (IObj.rows [[.int .i64 y.1, .int .i64 y.2]] 66 2 false) = g0
        have e_g0 : Ext g g0 := by rw [← hq_g0]; exact (Ext.refl _).push _
        have l_g0 : g0.n = g.n + 1 := by rw [← hq_g0]; rfl
        have b2 : At g0 g.n (IObj.rows [[.int .i64 y.1, .int .i64 y.2]] 66 2 false) := by rw [← hq_g0]; exact At.new _ _
        clear hq_g0
        have b := b.ext e_g0
        have o := o.ext e_g0
        have E := E.trans e_g0
        have q2 := b2.eq
        try simp (disch := (first | omega | assumption | (simp only [push_n, set_n, put_n, List.length_cons, List.length_nil, List.length_append, Nat.reduceAdd]; done) | (simp only [push_n, set_n, put_n, List.length_cons, List.length_nil, List.length_append]; omega) | (simp only [List.all_cons, List.all_nil, one_bool, one_int, one_str, one_ptr, one_nilptr, one_slice, one_eslice, one_nilslice, one_func, one_iface, one_niliface, Bool.and_true, Bool.true_and, List.getD_cons_zero, List.getD_cons_succ, List.contains_cons, List.contains_nil, Bool.or_true, Bool.true_or, Bool.or_false, Bool.false_or, Nat.reduceBEq, *]; done) | fail)) only [i1, i7, q2, go_sem, Hold.p, HoldK.k, HoldL.K, HoldL.body, Nat.reduceBEq, Nat.reduceAdd, reduceIte]
        refine callA_of (implNum_c _ hxm.1.1 (by omega)) ?_
        rintro r g' ⟨rfl, rfl⟩
        simp (disch := (first | omega | assumption | (simp only [push_n, set_n, put_n, List.length_cons, List.length_nil, List.length_append, Nat.reduceAdd]; done) | (simp only [push_n, set_n, put_n, List.length_cons, List.length_nil, List.length_append]; omega) | (simp only [List.all_cons, List.all_nil, one_bool, one_int, one_str, one_ptr, one_nilptr, one_slice, one_eslice, one_nilslice, one_func, one_iface, one_niliface, Bool.and_true, Bool.true_and, List.getD_cons_zero, List.getD_cons_succ, List.contains_cons, List.contains_nil, Bool.or_true, Bool.true_or, Bool.or_false, Bool.false_or, Nat.reduceBEq, *]; done) | fail)) only [i1, i7, q2, cat3, go_sem, Hold.p, HoldK.k, HoldL.K, HoldL.body, Nat.reduceBEq, Nat.reduceAdd, reduceIte]
        refine callA_of (implNum_c _ hxm.2.1 (by omega)) ?_
        rintro r g'' ⟨rfl, rfl⟩
        simp (disch := (first | omega | assumption | (simp only [push_n, set_n, put_n, List.length_cons, List.length_nil, List.length_append, Nat.reduceAdd]; done) | (simp only [push_n, set_n, put_n, List.length_cons, List.length_nil, List.length_append]; omega) | (simp only [List.all_cons, List.all_nil, one_bool, one_int, one_str, one_ptr, one_nilptr, one_slice, one_eslice, one_nilslice, one_func, one_iface, one_niliface, Bool.and_true, Bool.true_and, List.getD_cons_zero, List.getD_cons_succ, List.contains_cons, List.contains_nil, Bool.or_true, Bool.true_or, Bool.or_false, Bool.false_or, Nat.reduceBEq, *]; done) | fail)) only [i1, i7, q2, cat3, go_sem, Hold.p, HoldK.k, HoldL.K, HoldL.body, Nat.reduceBEq, Nat.reduceAdd, reduceIte]
        refine bslA_of (rows := txtRows [sackW, sackT y]) (by decide) rfl (txtRows_one _) ?_
        try simp (disch := (first | omega | assumption | (simp only [push_n, set_n, put_n, List.length_cons, List.length_nil, List.length_append, Nat.reduceAdd]; done) | (simp only [push_n, set_n, put_n, List.length_cons, List.length_nil, List.length_append]; omega) | (simp only [List.all_cons, List.all_nil, one_bool, one_int, one_str, one_ptr, one_nilptr, one_slice, one_eslice, one_nilslice, one_func, one_iface, one_niliface, Bool.and_true, Bool.true_and, List.getD_cons_zero, List.getD_cons_succ, List.contains_cons, List.contains_nil, Bool.or_true, Bool.true_or, Bool.or_false, Bool.false_or, Nat.reduceBEq, *]; done) | fail)) only [i1, i7, q2, cat3, go_sem, Hold.p, HoldK.k, HoldL.K, HoldL.body, Nat.reduceBEq, Nat.reduceAdd, reduceIte]
        generalize hq_g1 : IH.push g'' (IObj.rows (txtRows [sackW, sackT y]) 9 1 false) = g1
        have e_g1 : Ext g'' g1 := by rw [← hq_g1]; exact (Ext.refl _).push _
        have l_g1 : g1.n = g''.n + 1 := by rw [← hq_g1]; rfl
        have bw : At g1 g''.n (IObj.rows (txtRows [sackW, sackT y]) 9 1 false) := by rw [← hq_g1]; exact At.new _ _
        clear hq_g1
        have b := b.ext e_g1
        have o := o.ext e_g1
        have E := E.trans e_g1
        have q1 := bw.eq
        try simp (disch := (first | omega | assumption | (simp only [push_n, set_n, put_n, List.length_cons, List.length_nil, List.length_append, Nat.reduceAdd]; done) | (simp only [push_n, set_n, put_n, List.length_cons, List.length_nil, List.length_append]; omega) | (simp only [List.all_cons, List.all_nil, one_bool, one_int, one_str, one_ptr, one_nilptr, one_slice, one_eslice, one_nilslice, one_func, one_iface, one_niliface, Bool.and_true, Bool.true_and, List.getD_cons_zero, List.getD_cons_succ, List.contains_cons, List.contains_nil, Bool.or_true, Bool.true_or, Bool.or_false, Bool.false_or, Nat.reduceBEq, *]; done) | fail)) only [i1, i7, q1, go_sem, Hold.p, HoldK.k, HoldL.K, HoldL.body, Nat.reduceBEq, Nat.reduceAdd, reduceIte]
        rw [srcO_whole (by simp [txtRows])]
        refine o.app (by simp [txtRows]) (by simp only [txtRows_len, List.length_append, List.length_cons, List.length_nil]; omega) ?_
        intro v6 h6 o6 t6 n6 v6o v6c
        have E6 := E.turn o (by omega) t6
        have b6 := b.turn o (by omega) t6
        rw [← txtRows_app] at o6
        have hnl := b.lt
        simp (disch := (first | omega | assumption | (simp only [push_n, set_n, put_n, List.length_cons, List.length_nil, List.length_append, Nat.reduceAdd]; done) | (simp only [push_n, set_n, put_n, List.length_cons, List.length_nil, List.length_append]; omega) | (simp only [List.all_cons, List.all_nil, one_bool, one_int, one_str, one_ptr, one_nilptr, one_slice, one_eslice, one_nilslice, one_func, one_iface, one_niliface, Bool.and_true, Bool.true_and, List.getD_cons_zero, List.getD_cons_succ, List.contains_cons, List.contains_nil, Bool.or_true, Bool.true_or, Bool.or_false, Bool.false_or, Nat.reduceBEq, *]; done) | fail)) only [i1, i82, i83, i84, w1', go_sem, Hold.p, HoldK.k, HoldL.K, HoldL.body, Nat.reduceBEq, Nat.reduceAdd, reduceIte]
        refine ⟨_, ?_, k + 1, rfl, by omega, rfl, ⟨_, g1.n, g1.n + 1, rfl, ?_, hnl, by omega⟩, b6, E6⟩
        · omega
        · rw [w4_snoc hy, ← List.append_assoc]; exact o6
      · have hk' : k = s.sacks.length := by omega
        subst hk'
        simp (disch := (first | omega | assumption | (simp only [push_n, set_n, put_n, List.length_cons, List.length_nil, List.length_append, Nat.reduceAdd]; done) | (simp only [push_n, set_n, put_n, List.length_cons, List.length_nil, List.length_append]; omega) | (simp only [List.all_cons, List.all_nil, one_bool, one_int, one_str, one_ptr, one_nilptr, one_slice, one_eslice, one_nilslice, one_func, one_iface, one_niliface, Bool.and_true, Bool.true_and, List.getD_cons_zero, List.getD_cons_succ, List.contains_cons, List.contains_nil, Bool.or_true, Bool.true_or, Bool.or_false, Bool.false_or, Nat.reduceBEq, *]; done) | fail)) only [i1, i7, go_sem, Hold.p, HoldK.k, HoldL.K, HoldL.body, Nat.reduceBEq, Nat.reduceAdd, reduceIte]
        rw [List.take_length] at o
        exact ⟨⟨_, lo, hi, rfl, o, hlo, hhi⟩, b, E⟩
  clear i1 i7 b E o hlo hhi lo hi x g e
  rintro e g ⟨i1, ⟨x, lo, hi, i7, o, hlo, hhi⟩, b, E⟩
  simp only [CC.split]
  have k5 : (w5 s).length ≤ 2 := by unfold w5; split <;> simp
  have k4 : (w4 s.sacks).length ≤ 2 * s.sacks.length := by
    generalize s.sacks = l
    induction l with
    | nil => simp [w4]
    | cons a l ih => have e1 : w4 (a :: l) = sackW :: sackT a :: w4 l := rfl
                     rw [e1]; simp only [List.length_cons]; omega
  have hh : (s.data.flatMap hex2).length ≤ 2 * s.data.length := by
    generalize s.data = l
    induction l with
    | nil => simp
    | cons a l ih => rw [List.flatMap_cons]; simp only [List.length_append, List.length_cons, hex2, List.length_nil]; omega
  refine vc_split 1 (fun e g => (∃ x lo hi, e 7 = x ∧ Own lo hi g 9 1 x (txtRows (segW s)) ∧ h.n < lo ∧ hi ≤ g.n) ∧ Ext h g) ?_ ?_
  · simp only [CC.split]
    have q := b.eq
    simp (disch := (first | omega | assumption | (simp only [push_n, set_n, put_n, List.length_cons, List.length_nil, List.length_append, Nat.reduceAdd]; done) | (simp only [push_n, set_n, put_n, List.length_cons, List.length_nil, List.length_append]; omega) | (simp only [List.all_cons, List.all_nil, one_bool, one_int, one_str, one_ptr, one_nilptr, one_slice, one_eslice, one_nilslice, one_func, one_iface, one_niliface, Bool.and_true, Bool.true_and, List.getD_cons_zero, List.getD_cons_succ, List.contains_cons, List.contains_nil, Bool.or_true, Bool.true_or, Bool.or_false, Bool.false_or, Nat.reduceBEq, *]; done) | fail)) only [i1, q, v4, go_sem, Hold.p, HoldK.k, HoldL.K, HoldL.body, Nat.reduceBEq, Nat.reduceAdd, reduceIte]
    by_cases hm : s.data = []
    · have hd1 : decide ((0 : Int) < (s.data.length : Int)) = false := by rw [hm]; rfl
      simp (disch := (first | omega | assumption | (simp only [push_n, set_n, put_n, List.length_cons, List.length_nil, List.length_append, Nat.reduceAdd]; done) | (simp only [push_n, set_n, put_n, List.length_cons, List.length_nil, List.length_append]; omega) | (simp only [List.all_cons, List.all_nil, one_bool, one_int, one_str, one_ptr, one_nilptr, one_slice, one_eslice, one_nilslice, one_func, one_iface, one_niliface, Bool.and_true, Bool.true_and, List.getD_cons_zero, List.getD_cons_succ, List.contains_cons, List.contains_nil, Bool.or_true, Bool.true_or, Bool.or_false, Bool.false_or, Nat.reduceBEq, *]; done) | fail)) only [hd1, i7, go_sem, Hold.p, HoldK.k, HoldL.K, HoldL.body, Nat.reduceBEq, Nat.reduceAdd, reduceIte]
      refine ⟨⟨_, lo, hi, rfl, ?_, hlo, hhi⟩, E⟩
      unfold segW w5; rw [if_pos hm, List.append_nil]; exact o
    · have hd1 : decide ((0 : Int) < (s.data.length : Int)) = true := decide_eq_true (by have := List.length_pos_iff.2 hm; omega)
      have hdg := hd.ext E
      simp (disch := (first | omega | assumption | (simp only [push_n, set_n, put_n, List.length_cons, List.length_nil, List.length_append, Nat.reduceAdd]; done) | (simp only [push_n, set_n, put_n, List.length_cons, List.length_nil, List.length_append]; omega) | (simp only [List.all_cons, List.all_nil, one_bool, one_int, one_str, one_ptr, one_nilptr, one_slice, one_eslice, one_nilslice, one_func, one_iface, one_niliface, Bool.and_true, Bool.true_and, List.getD_cons_zero, List.getD_cons_succ, List.contains_cons, List.contains_nil, Bool.or_true, Bool.true_or, Bool.or_false, Bool.false_or, Nat.reduceBEq, *]; done) | fail)) only [hd1, i1, i7, q, go_sem, Hold.p, HoldK.k, HoldL.K, HoldL.body, Nat.reduceBEq, Nat.reduceAdd, reduceIte]
      refine callA_of (hexEnc_c _ vd s.data hdg hm (by omega)) ?_
      rintro r g' ⟨rfl, rfl⟩
      simp (disch := (first | omega | assumption | (simp only [push_n, set_n, put_n, List.length_cons, List.length_nil, List.length_append, Nat.reduceAdd]; done) | (simp only [push_n, set_n, put_n, List.length_cons, List.length_nil, List.length_append]; omega) | (simp only [List.all_cons, List.all_nil, one_bool, one_int, one_str, one_ptr, one_nilptr, one_slice, one_eslice, one_nilslice, one_func, one_iface, one_niliface, Bool.and_true, Bool.true_and, List.getD_cons_zero, List.getD_cons_succ, List.contains_cons, List.contains_nil, Bool.or_true, Bool.true_or, Bool.or_false, Bool.false_or, Nat.reduceBEq, *]; done) | fail)) only [i1, i7, go_sem, Hold.p, HoldK.k, HoldL.K, HoldL.body, Nat.reduceBEq, Nat.reduceAdd, reduceIte]
      refine bslA_of (rows := txtRows [dataW, s.data.flatMap hex2]) (by decide) rfl (txtRows_one _) ?_
      try simp (disch := (first | omega | assumption | (simp only [push_n, set_n, put_n, List.length_cons, List.length_nil, List.length_append, Nat.reduceAdd]; done) | (simp only [push_n, set_n, put_n, List.length_cons, List.length_nil, List.length_append]; omega) | (simp only [List.all_cons, List.all_nil, one_bool, one_int, one_str, one_ptr, one_nilptr, one_slice, one_eslice, one_nilslice, one_func, one_iface, one_niliface, Bool.and_true, Bool.true_and, List.getD_cons_zero, List.getD_cons_succ, List.contains_cons, List.contains_nil, Bool.or_true, Bool.true_or, Bool.or_false, Bool.false_or, Nat.reduceBEq, *]; done) | fail)) only [i1, i7, go_sem, Hold.p, HoldK.k, HoldL.K, HoldL.body, Nat.reduceBEq, Nat.reduceAdd, reduceIte]
      generalize hq_g1 : IH.push g' (IObj.rows (txtRows [dataW, s.data.flatMap hex2]) 9 1 false) = g1
      have e_g1 : Ext g' g1 := by rw [← hq_g1]; exact (Ext.refl _).push _
      have l_g1 : g1.n = g'.n + 1 := by rw [← hq_g1]; rfl
      have bw : At g1 g'.n (IObj.rows (txtRows [dataW, s.data.flatMap hex2]) 9 1 false) := by rw [← hq_g1]; exact At.new _ _
      clear hq_g1
      have b := b.ext e_g1
      have o := o.ext e_g1
      have E := E.trans e_g1
      have q1 := bw.eq
      try simp (disch := (first | omega | assumption | (simp only [push_n, set_n, put_n, List.length_cons, List.length_nil, List.length_append, Nat.reduceAdd]; done) | (simp only [push_n, set_n, put_n, List.length_cons, List.length_nil, List.length_append]; omega) | (simp only [List.all_cons, List.all_nil, one_bool, one_int, one_str, one_ptr, one_nilptr, one_slice, one_eslice, one_nilslice, one_func, one_iface, one_niliface, Bool.and_true, Bool.true_and, List.getD_cons_zero, List.getD_cons_succ, List.contains_cons, List.contains_nil, Bool.or_true, Bool.true_or, Bool.or_false, Bool.false_or, Nat.reduceBEq, *]; done) | fail)) only [i1, i7, q1, go_sem, Hold.p, HoldK.k, HoldL.K, HoldL.body, Nat.reduceBEq, Nat.reduceAdd, reduceIte]
      rw [srcO_whole (by simp [txtRows])]
      refine o.app (by simp [txtRows]) (by simp only [txtRows_len, List.length_append, List.length_cons, List.length_nil]; omega) ?_
      intro v6 h6 o6 t6 n6 v6o v6c
      have E6 := E.turn o (by omega) t6
      rw [← txtRows_app] at o6
      have hnl := b.lt
      simp (disch := (first | omega | assumption | (simp only [push_n, set_n, put_n, List.length_cons, List.length_nil, List.length_append, Nat.reduceAdd]; done) | (simp only [push_n, set_n, put_n, List.length_cons, List.length_nil, List.length_append]; omega) | (simp only [List.all_cons, List.all_nil, one_bool, one_int, one_str, one_ptr, one_nilptr, one_slice, one_eslice, one_nilslice, one_func, one_iface, one_niliface, Bool.and_true, Bool.true_and, List.getD_cons_zero, List.getD_cons_succ, List.contains_cons, List.contains_nil, Bool.or_true, Bool.true_or, Bool.or_false, Bool.false_or, Nat.reduceBEq, *]; done) | fail)) only [i1, go_sem, Hold.p, HoldK.k, HoldL.K, HoldL.body, Nat.reduceBEq, Nat.reduceAdd, reduceIte]
      refine ⟨⟨_, g1.n, g1.n + 1, rfl, ?_, hnl, by omega⟩, E6⟩
      unfold segW w5; rw [if_neg hm]; exact o6
  clear i1 i7 b E o hlo hhi lo hi x g e
  rintro e g ⟨⟨x, lo, hi, i7, o, hlo, hhi⟩, E⟩
  simp only [CC.split]
  simp (disch := (first | omega | assumption | (simp only [push_n, set_n, put_n, List.length_cons, List.length_nil, List.length_append, Nat.reduceAdd]; done) | (simp only [push_n, set_n, put_n, List.length_cons, List.length_nil, List.length_append]; omega) | (simp only [List.all_cons, List.all_nil, one_bool, one_int, one_str, one_ptr, one_nilptr, one_slice, one_eslice, one_nilslice, one_func, one_iface, one_niliface, Bool.and_true, Bool.true_and, List.getD_cons_zero, List.getD_cons_succ, List.contains_cons, List.contains_nil, Bool.or_true, Bool.true_or, Bool.or_false, Bool.false_or, Nat.reduceBEq, *]; done) | fail)) only [i7, go_sem, Hold.p, HoldK.k, HoldL.K, HoldL.body, Nat.reduceBEq, Nat.reduceAdd, reduceIte]
  have u2 := T2_len hok
  have u3 := tl_w1 s (by omega)
  have u4 := tl_w2 s (by omega)
  have u5 := tl_w3 s
  have u6 := tl_w4 s.sacks p11
  have u7 : (tl (w5 s)).length ≤ 9000 := by
    unfold w5
    split
    · simp [tl]
    · simp only [tl, List.flatMap_cons, List.flatMap_nil, List.length_append, List.length_cons, List.length_nil, dataW]
      omega
  have hjl : (Lib.join (segW s) [32]).length ≤ 1000000 := by
    unfold segW
    simp only [List.append_assoc]
    rw [join_T2]
    simp only [tl_app, List.length_append]
    omega
  refine callA_of (join_c g x (segW s) [32] o.sl (by unfold segW; simp only [List.length_append]; omega) hjl) ?_
  rintro r g' ⟨rfl, rfl⟩
  simp (disch := (first | omega | assumption | (simp only [push_n, set_n, put_n, List.length_cons, List.length_nil, List.length_append, Nat.reduceAdd]; done) | (simp only [push_n, set_n, put_n, List.length_cons, List.length_nil, List.length_append]; omega) | (simp only [List.all_cons, List.all_nil, one_bool, one_int, one_str, one_ptr, one_nilptr, one_slice, one_eslice, one_nilslice, one_func, one_iface, one_niliface, Bool.and_true, Bool.true_and, List.getD_cons_zero, List.getD_cons_succ, List.contains_cons, List.contains_nil, Bool.or_true, Bool.true_or, Bool.or_false, Bool.false_or, Nat.reduceBEq, *]; done) | fail)) only [go_sem, Hold.p, HoldK.k, HoldL.K, HoldL.body, Nat.reduceBEq, Nat.reduceAdd, reduceIte]
  exact E
end
end Go.Proofs.YtaolhgjnlmaooaaDoor

set_option maxRecDepth 20000
namespace Go.Proofs.YtaolhgjnlmaooaaDoor
open Go Go.IW
section
attribute [local go_sem] List.getElem?_cons_zero List.getElem?_cons_succ Option.bind_some List.map_cons List.map_nil Nat.zero_add if_true List.getD_cons_zero List.getD_cons_succ List.contains_cons List.contains_nil Bool.or_true Bool.true_or Bool.or_false Bool.false_or Bool.not_true Bool.not_false true_and and_true rowA_whole mid_get stO_mid rowO_rows cellO_rows push_n set_n push_at push_old set_here set_there set_pushT set_pushN set_set upd_ne Nat.add_assoc Nat.add_zero stO_1s stO_ws boxA_s List.all_cons List.all_nil one_bool one_int one_str one_ptr one_nilptr one_slice one_eslice one_nilslice one_func one_iface one_niliface Bool.and_true Bool.and_self List.length_cons List.length_nil Nat.one_ne_zero Nat.succ_ne_zero if_false List.set_cons_zero List.set_cons_succ lay_nil lay_1 lay_w Option.map_some

end
end Go.Proofs.YtaolhgjnlmaooaaDoor

set_option maxRecDepth 20000
namespace Go.Proofs.YtaolhgjnlmaooaaDoor
open Go Go.IW
section
attribute [local go_sem] List.getElem?_cons_zero List.getElem?_cons_succ Option.bind_some List.map_cons List.map_nil Nat.zero_add if_true List.getD_cons_zero List.getD_cons_succ List.contains_cons List.contains_nil Bool.or_true Bool.true_or Bool.or_false Bool.false_or Bool.not_true Bool.not_false true_and and_true rowA_whole mid_get stO_mid rowO_rows cellO_rows push_n set_n push_at push_old set_here set_there set_pushT set_pushN set_set upd_ne Nat.add_assoc Nat.add_zero stO_1s stO_ws boxA_s List.all_cons List.all_nil one_bool one_int one_str one_ptr one_nilptr one_slice one_eslice one_nilslice one_func one_iface one_niliface Bool.and_true Bool.and_self List.length_cons List.length_nil Nat.one_ne_zero Nat.succ_ne_zero if_false List.set_cons_zero List.set_cons_succ lay_nil lay_1 lay_w Option.map_some

end
end Go.Proofs.YtaolhgjnlmaooaaDoor

namespace Go.Proofs.YtaolhgjnlmaooaaDoor
open Go Go.IW
def t_Stretch : Ty := .cat (.int .i64) (.cat (.int .i64) (.nil))
def t_Segment : Ty := .cat (.int .i64) (.cat (.int .i64) (.cat (.int .i64) (.cat (.int .i64) (.cat (.int .i64) (.cat (.int .i64) (.cat (.int .i64) (.cat .bool (.cat (.int .i64) (.cat .bool (.cat (.slice 66 t_Stretch) (.cat (.slice 5 (.int .u8)) (.nil))))))))))))
set_option maxRecDepth 20000 in
theorem eqByteS_f : EqC Tryd.prog 15 (.slice 5 (.int .u8)) := eqSlI_calls (by kernel_rfl) rfl
set_option maxRecDepth 20000 in
theorem eqStretch_f : EqC Tryd.prog 62 t_Stretch := eqSt_calls (N := 15) (a1 := 66) (a2 := 66) (sz := 2) (fs := [(.int .i64, none), (.int .i64, none)]) (by kernel_rfl) (by decide) rfl ⟨rfl, ⟨rfl, trivial⟩⟩
set_option maxRecDepth 20000 in
theorem eqStretchS_f : EqC Tryd.prog 39 (.slice 66 t_Stretch) := eqSl_calls (g := 62) (by kernel_rfl) eqStretch_f
set_option maxRecDepth 20000 in
theorem eqSegment_f : EqC Tryd.prog 10 t_Segment := eqSt_calls (N := 67) (a1 := 31) (a2 := 31) (sz := 12) (fs := [(.int .i64, none), (.int .i64, none), (.int .i64, none), (.int .i64, none), (.int .i64, none), (.int .i64, none), (.int .i64, none), (.bool, none), (.int .i64, none), (.bool, none), (.slice 66 t_Stretch, some 39), (.slice 5 (.int .u8), some 15)]) (by kernel_rfl) (by decide) rfl ⟨rfl, ⟨rfl, ⟨rfl, ⟨rfl, ⟨rfl, ⟨rfl, ⟨rfl, ⟨rfl, ⟨rfl, ⟨rfl, ⟨eqStretchS_f, ⟨eqByteS_f, trivial⟩⟩⟩⟩⟩⟩⟩⟩⟩⟩⟩⟩
set_option maxRecDepth 20000 in
theorem szByteS_f : SzC Tryd.prog 27 (.slice 5 (.int .u8)) := szSlL_calls (by kernel_rfl) (by exact flat_tot (by decide))
set_option maxRecDepth 20000 in
theorem szStretchS_f : SzC Tryd.prog 26 (.slice 66 t_Stretch) := szSlL_calls (by kernel_rfl) (by exact flat_tot (by decide))
set_option maxRecDepth 20000 in
theorem szSegment_f : SzC Tryd.prog 6 t_Segment := szSt_calls (N := 18) (ein := 25) (sz := 12) (fs := [(.int .i64, .no), (.int .i64, .no), (.int .i64, .no), (.int .i64, .no), (.int .i64, .no), (.int .i64, .no), (.int .i64, .no), (.bool, .no), (.int .i64, .no), (.bool, .no), (.slice 66 t_Stretch, .sub 26), (.slice 5 (.int .u8), .sub 27)]) (by kernel_rfl) (by decide) rfl ⟨(by exact flat_tot (by decide)), ⟨(by exact flat_tot (by decide)), ⟨(by exact flat_tot (by decide)), ⟨(by exact flat_tot (by decide)), ⟨(by exact flat_tot (by decide)), ⟨(by exact flat_tot (by decide)), ⟨(by exact flat_tot (by decide)), ⟨(by exact flat_tot (by decide)), ⟨(by exact flat_tot (by decide)), ⟨(by exact flat_tot (by decide)), ⟨szStretchS_f, ⟨szByteS_f, trivial⟩⟩⟩⟩⟩⟩⟩⟩⟩⟩⟩⟩
set_option maxRecDepth 20000 in
theorem toByteS_f : ToC Tryd.prog 34 (.slice 5 (.int .u8)) := toSlI_calls (b := 1) (z := [.int .u8 0]) (by kernel_rfl) rfl (by decide) rfl
set_option maxRecDepth 20000 in
theorem toStretch_f : ToC Tryd.prog 53 t_Stretch := toSt_calls (N := 11) (ein := 86) (eout := 66) (sz := 2) (zs := [.int .i64 0, .int .i64 0]) (fs := [(.int .i64, none), (.int .i64, none)]) (by kernel_rfl) (by decide) rfl rfl rfl ⟨rfl, ⟨rfl, trivial⟩⟩
set_option maxRecDepth 20000 in
theorem toStretchS_f : ToC Tryd.prog 33 (.slice 66 t_Stretch) := toSl_calls (g := 53) (b := 16) (z := [.int .i64 0, .int .i64 0]) (by kernel_rfl) rfl (by decide) toStretch_f
set_option maxRecDepth 20000 in
theorem toSegment_f : ToC Tryd.prog 8 t_Segment := toSt_calls (N := 43) (ein := 25) (eout := 31) (sz := 12) (zs := [.int .i64 0, .int .i64 0, .int .i64 0, .int .i64 0, .int .i64 0, .int .i64 0, .int .i64 0, .bool false, .int .i64 0, .bool false, .nilslice, .nilslice]) (fs := [(.int .i64, none), (.int .i64, none), (.int .i64, none), (.int .i64, none), (.int .i64, none), (.int .i64, none), (.int .i64, none), (.bool, none), (.int .i64, none), (.bool, none), (.slice 66 t_Stretch, some 33), (.slice 5 (.int .u8), some 34)]) (by kernel_rfl) (by decide) rfl rfl rfl ⟨rfl, ⟨rfl, ⟨rfl, ⟨rfl, ⟨rfl, ⟨rfl, ⟨rfl, ⟨rfl, ⟨rfl, ⟨rfl, ⟨toStretchS_f, ⟨toByteS_f, trivial⟩⟩⟩⟩⟩⟩⟩⟩⟩⟩⟩⟩
end Go.Proofs.YtaolhgjnlmaooaaDoor

set_option maxRecDepth 20000
namespace Go.Proofs.YtaolhgjnlmaooaaDoor
open Go Go.IW
section
attribute [local go_sem] List.getElem?_cons_zero List.getElem?_cons_succ Option.bind_some List.map_cons List.map_nil Nat.zero_add if_true List.getD_cons_zero List.getD_cons_succ List.contains_cons List.contains_nil Bool.or_true Bool.true_or Bool.or_false Bool.false_or Bool.not_true Bool.not_false true_and and_true rowA_whole mid_get stO_mid rowO_rows cellO_rows push_n set_n push_at push_old set_here set_there set_pushT set_pushN set_set upd_ne Nat.add_assoc Nat.add_zero stO_1s stO_ws boxA_s List.all_cons List.all_nil one_bool one_int one_str one_ptr one_nilptr one_slice one_eslice one_nilslice one_func one_iface one_niliface Bool.and_true Bool.and_self List.length_cons List.length_nil Nat.one_ne_zero Nat.succ_ne_zero if_false List.set_cons_zero List.set_cons_succ lay_nil lay_1 lay_w Option.map_some

/-! A segment as data. -/
def sackD (x : Int × Int) : Dat := .pair (.int x.1) (.pair (.int x.2) .unit)
theorem sack_vw {S : Nat → Prop} {h : IH} {cs : List IV} {d : Dat} (hv : Rp S h t_Stretch cs d) : ∃ x : Int × Int, cs = [.int .i64 x.1, .int .i64 x.2] ∧ d = sackD x := by
  obtain ⟨_, _, _, _, rfl, rfl, ⟨a1, rfl, rfl⟩, _, _, _, _, rfl, rfl, ⟨a2, rfl, rfl⟩, rfl, rfl⟩ := hv
  exact ⟨(a1, a2), rfl, rfl⟩
theorem sackD_inj {a b : List (Int × Int)} (h : a.map sackD = b.map sackD) : a = b := by
  refine (List.map_inj_right (fun x y e => ?_)).1 h
  obtain ⟨x1, x2⟩ := x
  obtain ⟨y1, y2⟩ := y
  simp [sackD] at e
  simp [e]
def segD (s : Seg) : Dat := .pair (.int s.sp) (.pair (.int s.dp) (.pair (.int s.seq) (.pair (.int s.ack) (.pair (.int s.fl) (.pair (.int s.win) (.pair (.int s.mss) (.pair (.bool s.hs) (.pair (.int s.sc) (.pair (.bool s.so) (.pair (.list (s.sacks.map sackD)) (.pair (bytesD s.data) .unit)))))))))))
theorem seg_any {lo hi : Nat} {h : IH} {cs : List IV} {d : Dat} (hv : Vw lo hi h t_Segment cs d) (hw : wfD t_Segment d) : ∃ s vs vd, cs = Seg.cells s vs vd ∧ d = segD s ∧ SlR h 2 vs (sackRows s.sacks) ∧ SlR h 1 vd (strRows s.data) := by
  obtain ⟨_, _, _, _, rfl, rfl, ⟨a1, rfl, rfl⟩, _, _, _, _, rfl, rfl, ⟨a2, rfl, rfl⟩, _, _, _, _, rfl, rfl, ⟨a3, rfl, rfl⟩, _, _, _, _, rfl, rfl, ⟨a4, rfl, rfl⟩, _, _, _, _, rfl, rfl, ⟨a5, rfl, rfl⟩, _, _, _, _, rfl, rfl, ⟨a6, rfl, rfl⟩,
    _, _, _, _, rfl, rfl, ⟨a7, rfl, rfl⟩, _, _, _, _, rfl, rfl, ⟨a8, rfl, rfl⟩, _, _, _, _, rfl, rfl, ⟨a9, rfl, rfl⟩, _, _, _, _, rfl, rfl, ⟨a10, rfl, rfl⟩, c11, _, d11, _, rfl, rfl, h11, c12, _, d12, _, rfl, rfl, h12, rfl, rfl⟩ := hv
  obtain ⟨vs, rfl⟩ := one_list rfl (Rp.len h11)
  obtain ⟨vd, rfl⟩ := one_list rfl (Rp.len h12)
  obtain ⟨ss, rfl, hs, _⟩ := view_sl (t := t_Stretch) (row := fun x : Int × Int => [.int .i64 x.1, .int .i64 x.2]) (dat := sackD) sack_vw h11
  obtain ⟨_, _, _, _, _, _, _, _, _, _, _, w12, _⟩ := hw
  obtain ⟨bs, rfl, hd⟩ := bytes_any h12 w12
  exact ⟨⟨a1, a2, a3, a4, a5, a6, a7, a8, a9, a10, ss, bs⟩, vs, vd, rfl, rfl, hs, hd⟩
theorem segD_inj {a b : Seg} (h : segD a = segD b) : a = b := by
  cases a; cases b
  simp only [segD, Dat.pair.injEq, Dat.int.injEq, Dat.bool.injEq, Dat.list.injEq, and_true] at h
  obtain ⟨h1, h2, h3, h4, h5, h6, h7, h8, h9, h10, h11, h12⟩ := h
  have := sackD_inj h11
  have := bytesD_inj h12
  simp_all
theorem seg_vw {lo hi : Nat} {h : IH} {cs : List IV} {s : Seg} (hv : Vw lo hi h t_Segment cs (segD s)) (hw : wfD t_Segment (segD s)) : ∃ vs vd, cs = Seg.cells s vs vd ∧ SlR h 2 vs (sackRows s.sacks) ∧ SlR h 1 vd (strRows s.data) := by
  obtain ⟨s', vs, vd, rfl, hd, h1, h2⟩ := seg_any hv hw
  obtain rfl := segD_inj hd
  exact ⟨vs, vd, rfl, h1, h2⟩

set_option maxHeartbeats 2000000 in
theorem lawShowSegment : LawTrue Tryd.prog 3 [(t_Segment.sh, true)] := by
  rintro h ivs ha ⟨iv, r, rfl, ⟨cs, rfl, hf⟩, rfl⟩
  obtain ⟨dS, aS, okS', wS⟩ := fits_vw t_Segment hf
  obtain ⟨s, v1, v2, rfl, rfl, s1, s2⟩ := seg_any aS wS
  refine icalls (.of ok3) (Nat.le_of_ble_eq_true rfl) ?_
  unfold c3
  have o1 := s1.one
  have o2 := s2.one
  unfold Seg.cells at aS ⊢
  simp (disch := (first | omega | assumption | (simp only [push_n, set_n, put_n, List.length_cons, List.length_nil, List.length_append, Nat.reduceAdd]; done) | (simp only [push_n, set_n, put_n, List.length_cons, List.length_nil, List.length_append]; omega) | (simp only [List.all_cons, List.all_nil, one_bool, one_int, one_str, one_ptr, one_nilptr, one_slice, one_eslice, one_nilslice, one_func, one_iface, one_niliface, Bool.and_true, Bool.true_and, List.getD_cons_zero, List.getD_cons_succ, List.contains_cons, List.contains_nil, Bool.or_true, Bool.true_or, Bool.or_false, Bool.false_or, Nat.reduceBEq, *]; done) | fail)) only [o1, o2, go_sem, Hold.p, HoldK.k, HoldL.K, HoldL.body, Nat.reduceBEq, Nat.reduceAdd, reduceIte]
  generalize hq_g0 : IH.push h (IObj.rows [[.int .i64 s.sp, .int .i64 s.dp, .int .i64 s.seq, .int .i64 s.ack, .int .i64 s.fl, .int .i64 s.win, .int .i64 s.mss, .bool s.hs, .int .i64 s.sc, .bool s.so, v1, v2]] 25 12 false) = g0
  have e_g0 : Ext h g0 := by rw [← hq_g0]; exact (Ext.refl _).push _
  have l_g0 : g0.n = h.n + 1 := by rw [← hq_g0]; rfl
  have b0 : At g0 h.n (IObj.rows [[.int .i64 s.sp, .int .i64 s.dp, .int .i64 s.seq, .int .i64 s.ack, .int .i64 s.fl, .int .i64 s.win, .int .i64 s.mss, .bool s.hs, .int .i64 s.sc, .bool s.so, v1, v2]] 25 12 false) := by rw [← hq_g0]; exact At.new _ _
  clear hq_g0
  have aS := aS.ext e_g0
  have q0 := b0.eq
  try simp (disch := (first | omega | assumption | (simp only [push_n, set_n, put_n, List.length_cons, List.length_nil, List.length_append, Nat.reduceAdd]; done) | (simp only [push_n, set_n, put_n, List.length_cons, List.length_nil, List.length_append]; omega) | (simp only [List.all_cons, List.all_nil, one_bool, one_int, one_str, one_ptr, one_nilptr, one_slice, one_eslice, one_nilslice, one_func, one_iface, one_niliface, Bool.and_true, Bool.true_and, List.getD_cons_zero, List.getD_cons_succ, List.contains_cons, List.contains_nil, Bool.or_true, Bool.true_or, Bool.or_false, Bool.false_or, Nat.reduceBEq, *]; done) | fail)) only [q0, go_sem, Hold.p, HoldK.k, HoldL.K, HoldL.body, Nat.reduceBEq, Nat.reduceAdd, reduceIte]
  refine callA_of (SzC.st szSegment_f rfl (aS.up (by omega)) okS' (by omega)) ?_
  rintro r g1 ⟨⟨L, rfl, hL1, hL2⟩, E1⟩
  have b0 := b0.ext E1
  have aS := aS.ext E1
  have le_E1 := E1.le
  by_cases hn1 : L < 0
  · have d1 : decide (L < 0) = true := decide_eq_true hn1
    simp (disch := (first | omega | assumption | (simp only [push_n, set_n, put_n, List.length_cons, List.length_nil, List.length_append, Nat.reduceAdd]; done) | (simp only [push_n, set_n, put_n, List.length_cons, List.length_nil, List.length_append]; omega) | (simp only [List.all_cons, List.all_nil, one_bool, one_int, one_str, one_ptr, one_nilptr, one_slice, one_eslice, one_nilslice, one_func, one_iface, one_niliface, Bool.and_true, Bool.true_and, List.getD_cons_zero, List.getD_cons_succ, List.contains_cons, List.contains_nil, Bool.or_true, Bool.true_or, Bool.or_false, Bool.false_or, Nat.reduceBEq, *]; done) | fail)) only [d1, go_sem, Hold.p, HoldK.k, HoldL.K, HoldL.body, Nat.reduceBEq, Nat.reduceAdd, reduceIte]
  have d1 : decide (L < 0) = false := decide_eq_false hn1
  have tS := hL2 (by omega)
  have q0 := b0.eq
  simp (disch := (first | omega | assumption | (simp only [push_n, set_n, put_n, List.length_cons, List.length_nil, List.length_append, Nat.reduceAdd]; done) | (simp only [push_n, set_n, put_n, List.length_cons, List.length_nil, List.length_append]; omega) | (simp only [List.all_cons, List.all_nil, one_bool, one_int, one_str, one_ptr, one_nilptr, one_slice, one_eslice, one_nilslice, one_func, one_iface, one_niliface, Bool.and_true, Bool.true_and, List.getD_cons_zero, List.getD_cons_succ, List.contains_cons, List.contains_nil, Bool.or_true, Bool.true_or, Bool.or_false, Bool.false_or, Nat.reduceBEq, *]; done) | fail)) only [d1, q0, go_sem, Hold.p, HoldK.k, HoldL.K, HoldL.body, Nat.reduceBEq, Nat.reduceAdd, reduceIte]
  refine callA_of (ToC.st toSegment_f rfl (aS.up (by omega)) (by omega)) ?_
  rintro r g2 ⟨c1, rfl, t1, E2⟩
  have b0 := b0.ext E2
  have aS := aS.ext E2
  have le_E2 := E2.le
  obtain ⟨x1, x2, rfl, sx1, sx2⟩ := seg_vw t1.view wS
  simp (disch := (first | omega | assumption | (simp only [push_n, set_n, put_n, List.length_cons, List.length_nil, List.length_append, Nat.reduceAdd]; done) | (simp only [push_n, set_n, put_n, List.length_cons, List.length_nil, List.length_append]; omega) | (simp only [List.all_cons, List.all_nil, one_bool, one_int, one_str, one_ptr, one_nilptr, one_slice, one_eslice, one_nilslice, one_func, one_iface, one_niliface, Bool.and_true, Bool.true_and, List.getD_cons_zero, List.getD_cons_succ, List.contains_cons, List.contains_nil, Bool.or_true, Bool.true_or, Bool.or_false, Bool.false_or, Nat.reduceBEq, *]; done) | fail)) only [go_sem, Hold.p, HoldK.k, HoldL.K, HoldL.body, Nat.reduceBEq, Nat.reduceAdd, reduceIte]
  refine callA_of (specShow_c g2 s x1 x2 sx1 sx2) ?_
  rintro r g3 ⟨rfl, E3⟩
  have b0 := b0.ext E3
  have aS := aS.ext E3
  have le_E3 := E3.le
  have q0 := b0.eq
  simp (disch := (first | omega | assumption | (simp only [push_n, set_n, put_n, List.length_cons, List.length_nil, List.length_append, Nat.reduceAdd]; done) | (simp only [push_n, set_n, put_n, List.length_cons, List.length_nil, List.length_append]; omega) | (simp only [List.all_cons, List.all_nil, one_bool, one_int, one_str, one_ptr, one_nilptr, one_slice, one_eslice, one_nilslice, one_func, one_iface, one_niliface, Bool.and_true, Bool.true_and, List.getD_cons_zero, List.getD_cons_succ, List.contains_cons, List.contains_nil, Bool.or_true, Bool.true_or, Bool.or_false, Bool.false_or, Nat.reduceBEq, *]; done) | fail)) only [q0, go_sem, Hold.p, HoldK.k, HoldL.K, HoldL.body, Nat.reduceBEq, Nat.reduceAdd, reduceIte]
  refine callA_of (ToC.st toSegment_f rfl (aS.up (by omega)) (by omega)) ?_
  rintro r g4 ⟨c2, rfl, t2, E4⟩
  have b0 := b0.ext E4
  have aS := aS.ext E4
  have le_E4 := E4.le
  obtain ⟨y1, y2, rfl, sy1, sy2⟩ := seg_vw t2.view wS
  have p1 := sy1.one
  have p2 := sy2.one
  unfold Seg.cells at t2 ⊢
  simp (disch := (first | omega | assumption | (simp only [push_n, set_n, put_n, List.length_cons, List.length_nil, List.length_append, Nat.reduceAdd]; done) | (simp only [push_n, set_n, put_n, List.length_cons, List.length_nil, List.length_append]; omega) | (simp only [List.all_cons, List.all_nil, one_bool, one_int, one_str, one_ptr, one_nilptr, one_slice, one_eslice, one_nilslice, one_func, one_iface, one_niliface, Bool.and_true, Bool.true_and, List.getD_cons_zero, List.getD_cons_succ, List.contains_cons, List.contains_nil, Bool.or_true, Bool.true_or, Bool.or_false, Bool.false_or, Nat.reduceBEq, *]; done) | fail)) only [p1, p2, go_sem, Hold.p, HoldK.k, HoldL.K, HoldL.body, Nat.reduceBEq, Nat.reduceAdd, reduceIte]
  generalize hq_g5 : IH.push g4 (IObj.rows [[.int .i64 s.sp, .int .i64 s.dp, .int .i64 s.seq, .int .i64 s.ack, .int .i64 s.fl, .int .i64 s.win, .int .i64 s.mss, .bool s.hs, .int .i64 s.sc, .bool s.so, y1, y2]] 31 12 false) = g5
  have e_g5 : Ext g4 g5 := by rw [← hq_g5]; exact (Ext.refl _).push _
  have l_g5 : g5.n = g4.n + 1 := by rw [← hq_g5]; rfl
  have bX : At g5 g4.n (IObj.rows [[.int .i64 s.sp, .int .i64 s.dp, .int .i64 s.seq, .int .i64 s.ack, .int .i64 s.fl, .int .i64 s.win, .int .i64 s.mss, .bool s.hs, .int .i64 s.sc, .bool s.so, y1, y2]] 31 12 false) := by rw [← hq_g5]; exact At.new _ _
  clear hq_g5
  have b0 := b0.ext e_g5
  have aS := aS.ext e_g5
  have t2 := t2.ext e_g5
  have sy1 := sy1.ext e_g5
  have sy2 := sy2.ext e_g5
  have qX := bX.eq
  try simp (disch := (first | omega | assumption | (simp only [push_n, set_n, put_n, List.length_cons, List.length_nil, List.length_append, Nat.reduceAdd]; done) | (simp only [push_n, set_n, put_n, List.length_cons, List.length_nil, List.length_append]; omega) | (simp only [List.all_cons, List.all_nil, one_bool, one_int, one_str, one_ptr, one_nilptr, one_slice, one_eslice, one_nilslice, one_func, one_iface, one_niliface, Bool.and_true, Bool.true_and, List.getD_cons_zero, List.getD_cons_succ, List.contains_cons, List.contains_nil, Bool.or_true, Bool.true_or, Bool.or_false, Bool.false_or, Nat.reduceBEq, *]; done) | fail)) only [qX, p1, p2, go_sem, Hold.p, HoldK.k, HoldL.K, HoldL.body, Nat.reduceBEq, Nat.reduceAdd, reduceIte]
  refine callA_of (implShow_c g5 s y1 y2 sy1 sy2) ?_
  rintro r g6 ⟨rfl, E6⟩
  have b0 := b0.ext E6
  have bX := bX.ext E6
  have aS := aS.ext E6
  have t2 := t2.ext E6
  have le_E6 := E6.le
  have q0 := b0.eq
  have qX := bX.eq
  simp (disch := (first | omega | assumption | (simp only [push_n, set_n, put_n, List.length_cons, List.length_nil, List.length_append, Nat.reduceAdd]; done) | (simp only [push_n, set_n, put_n, List.length_cons, List.length_nil, List.length_append]; omega) | (simp only [List.all_cons, List.all_nil, one_bool, one_int, one_str, one_ptr, one_nilptr, one_slice, one_eslice, one_nilslice, one_func, one_iface, one_niliface, Bool.and_true, Bool.true_and, List.getD_cons_zero, List.getD_cons_succ, List.contains_cons, List.contains_nil, Bool.or_true, Bool.true_or, Bool.or_false, Bool.false_or, Nat.reduceBEq, *]; done) | fail)) only [q0, qX, decide_true, Bool.or_self, go_sem, Hold.p, HoldK.k, HoldL.K, HoldL.body, Nat.reduceBEq, Nat.reduceAdd, reduceIte]
  refine callA_of (ToC.st toSegment_f rfl (aS.up (by omega)) (by omega)) ?_
  rintro r g7 ⟨c3, rfl, t3, E7⟩
  have b0 := b0.ext E7
  have bX := bX.ext E7
  have aS := aS.ext E7
  have t2 := t2.ext E7
  have le_E7 := E7.le
  have q0 := b0.eq
  have qX := bX.eq
  simp (disch := (first | omega | assumption | (simp only [push_n, set_n, put_n, List.length_cons, List.length_nil, List.length_append, Nat.reduceAdd]; done) | (simp only [push_n, set_n, put_n, List.length_cons, List.length_nil, List.length_append]; omega) | (simp only [List.all_cons, List.all_nil, one_bool, one_int, one_str, one_ptr, one_nilptr, one_slice, one_eslice, one_nilslice, one_func, one_iface, one_niliface, Bool.and_true, Bool.true_and, List.getD_cons_zero, List.getD_cons_succ, List.contains_cons, List.contains_nil, Bool.or_true, Bool.true_or, Bool.or_false, Bool.false_or, Nat.reduceBEq, *]; done) | fail)) only [q0, qX, go_sem, Hold.p, HoldK.k, HoldL.K, HoldL.body, Nat.reduceBEq, Nat.reduceAdd, reduceIte]
  refine callA_of (EqC.st eqSegment_f rfl (t2.up) (t3.up) (by omega)) ?_
  rintro r g8 ⟨rfl, E8⟩
  simp (disch := (first | omega | assumption | (simp only [push_n, set_n, put_n, List.length_cons, List.length_nil, List.length_append, Nat.reduceAdd]; done) | (simp only [push_n, set_n, put_n, List.length_cons, List.length_nil, List.length_append]; omega) | (simp only [List.all_cons, List.all_nil, one_bool, one_int, one_str, one_ptr, one_nilptr, one_slice, one_eslice, one_nilslice, one_func, one_iface, one_niliface, Bool.and_true, Bool.true_and, List.getD_cons_zero, List.getD_cons_succ, List.contains_cons, List.contains_nil, Bool.or_true, Bool.true_or, Bool.or_false, Bool.false_or, Nat.reduceBEq, *]; done) | fail)) only [go_sem, Hold.p, HoldK.k, HoldL.K, HoldL.body, Nat.reduceBEq, Nat.reduceAdd, reduceIte]
end
end Go.Proofs.YtaolhgjnlmaooaaDoor
