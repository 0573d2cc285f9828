import Derived.Test.YtdpaehdolhdjdaaDoorL3
import Derived.Test.YtdpaehdolhdjdaaDoorK3
set_option linter.unusedSimpArgs false
set_option linter.unusedVariables false

namespace Go.Proofs.YtdpaehdolhdjdaaDoor
open Go Go.IW
section
attribute [local go_sem] List.getElem?_cons_zero List.getElem?_cons_succ Option.bind_some List.map_cons List.map_nil Nat.zero_add if_true List.getD_cons_zero List.getD_cons_succ List.contains_cons List.contains_nil Bool.or_true Bool.true_or Bool.or_false Bool.false_or Bool.not_true Bool.not_false true_and and_true rowA_whole mid_get stO_mid rowO_rows cellO_rows push_n set_n push_at push_old set_here set_there set_pushT set_pushN set_set upd_ne Nat.add_assoc Nat.add_zero stO_1s stO_ws boxA_s List.all_cons List.all_nil one_bool one_int one_str one_ptr one_nilptr one_slice one_eslice one_nilslice one_func one_iface one_niliface Bool.and_true Bool.and_self List.length_cons List.length_nil Nat.one_ne_zero Nat.succ_ne_zero if_false List.set_cons_zero List.set_cons_succ lay_nil lay_1 lay_w Option.map_some

set_option maxRecDepth 20000 in
theorem l02Bend_c (h : IH) (p : Nat) (v : IV) (code t : List UInt8) (S : Src h p v code) (hl : code.length ≤ 1048576) (ht : t.length ≤ 1048576) :
    ICalls Tryd.prog 75 [.ptr p 0 0, .str t, .int .i64 1] h fun r h' => ∃ t' : List UInt8, r = .str t' ∧ t'.length ≤ t.length + 1 ∧ Sav p h h' := by
  refine icalls (.of ok75) (Nat.le_of_ble_eq_true rfl) ?_
  unfold c75
  simp (disch := (first | omega | assumption | (simp only [push_n, set_n, put_n, List.length_cons, List.length_nil, List.length_append, Nat.reduceAdd]; done) | (simp only [push_n, set_n, put_n, List.length_cons, List.length_nil, List.length_append]; omega) | (simp only [List.all_cons, List.all_nil, one_bool, one_int, one_str, one_ptr, one_nilptr, one_slice, one_eslice, one_nilslice, one_func, one_iface, one_niliface, Bool.and_true, Bool.true_and, List.getD_cons_zero, List.getD_cons_succ, List.contains_cons, List.contains_nil, Bool.or_true, Bool.true_or, Bool.or_false, Bool.false_or, Nat.reduceBEq, *]; done) | fail)) only [go_sem, Hold.p, HoldK.k, HoldL.K, HoldL.body, Nat.reduceBEq, Nat.reduceAdd, reduceIte]
  refine callA_of (l01Next_c h p v code 1 S (by omega) (by omega) hl) ?_
  rintro r g1 ⟨x, rfl, x0, x1, S1, V1, hn1⟩
  have d0 : decide (0 < x) = false := decide_eq_false (by omega)
  have w1 : wr .i64 ((t.length : Int) + 1) = (t.length : Int) + 1 := wr64 _ (by omega)
  simp (disch := (first | omega | assumption | (simp only [push_n, set_n, put_n, List.length_cons, List.length_nil, List.length_append, Nat.reduceAdd]; done) | (simp only [push_n, set_n, put_n, List.length_cons, List.length_nil, List.length_append]; omega) | (simp only [List.all_cons, List.all_nil, one_bool, one_int, one_str, one_ptr, one_nilptr, one_slice, one_eslice, one_nilslice, one_func, one_iface, one_niliface, Bool.and_true, Bool.true_and, List.getD_cons_zero, List.getD_cons_succ, List.contains_cons, List.contains_nil, Bool.or_true, Bool.true_or, Bool.or_false, Bool.false_or, Nat.reduceBEq, *]; done) | fail)) only [d0, w1, go_sem, Hold.p, HoldK.k, HoldL.K, HoldL.body, Nat.reduceBEq, Nat.reduceAdd, reduceIte]
  refine callA_of (l01Next_c g1 p v code ((t.length : Int) + 1) S1 (by omega) (by omega) hl) ?_
  rintro r g2 ⟨at_, rfl, a0, a1, S2, V2, hn2⟩
  obtain ⟨m, rfl⟩ : ∃ m : Nat, at_ = (m : Int) := ⟨at_.toNat, by omega⟩
  have hll : (([46, 58, 47, 48, 49, 50, 57, 97, 71, 32, 45, 10] : List UInt8).length : Int) = 12 := rfl
  simp (disch := (first | omega | assumption | (simp only [push_n, set_n, put_n, List.length_cons, List.length_nil, List.length_append, Nat.reduceAdd]; done) | (simp only [push_n, set_n, put_n, List.length_cons, List.length_nil, List.length_append]; omega) | (simp only [List.all_cons, List.all_nil, one_bool, one_int, one_str, one_ptr, one_nilptr, one_slice, one_eslice, one_nilslice, one_func, one_iface, one_niliface, Bool.and_true, Bool.true_and, List.getD_cons_zero, List.getD_cons_succ, List.contains_cons, List.contains_nil, Bool.or_true, Bool.true_or, Bool.or_false, Bool.false_or, Nat.reduceBEq, *]; done) | fail)) only [hll, go_sem, Hold.p, HoldK.k, HoldL.K, HoldL.body, Nat.reduceBEq, Nat.reduceAdd, reduceIte]
  refine callA_of (l01Next_c g2 p v code 12 S2 (by omega) (by omega) hl) ?_
  rintro r g3 ⟨k, rfl, k0, k1, S3, V3, hn3⟩
  obtain ⟨k, rfl⟩ : ∃ m : Nat, k = (m : Int) := ⟨k.toNat, by omega⟩
  simp (disch := (first | omega | assumption | (simp only [push_n, set_n, put_n, List.length_cons, List.length_nil, List.length_append, Nat.reduceAdd]; done) | (simp only [push_n, set_n, put_n, List.length_cons, List.length_nil, List.length_append]; omega) | (simp only [List.all_cons, List.all_nil, one_bool, one_int, one_str, one_ptr, one_nilptr, one_slice, one_eslice, one_nilslice, one_func, one_iface, one_niliface, Bool.and_true, Bool.true_and, List.getD_cons_zero, List.getD_cons_succ, List.contains_cons, List.contains_nil, Bool.or_true, Bool.true_or, Bool.or_false, Bool.false_or, Nat.reduceBEq, *]; done) | fail)) only [go_sem, Hold.p, HoldK.k, HoldL.K, HoldL.body, Nat.reduceBEq, Nat.reduceAdd, reduceIte]
  refine callA_of (l01Next_c g3 p v code 3 S3 (by omega) (by omega) hl) ?_
  rintro r g4 ⟨y, rfl, y0, y1, S4, V4, hn4⟩
  have V := ((V1.trans V2).trans V3).trans V4
  have w2 : wr .i64 ((k : Int) + 1) = ((k + 1 : Nat) : Int) := by rw [wr64 _ (by omega)]; rfl
  have w3 : wr .i64 ((m : Int) + 1) = ((m + 1 : Nat) : Int) := by rw [wr64 _ (by omega)]; rfl
  have s1 : slcSF (.str t) none (some (.int .i64 (m : Int))) = some (.str (t.take m)) := slcS_hi (by omega)
  have s2 : slcSF (.str [46, 58, 47, 48, 49, 50, 57, 97, 71, 32, 45, 10]) (some (.int .i64 (k : Int))) (some (.int .i64 ((k + 1 : Nat) : Int))) = some (.str ((([46, 58, 47, 48, 49, 50, 57, 97, 71, 32, 45, 10] : List UInt8).take (k + 1)).drop k)) := slcS_mid (by omega) (by simp; omega)
  have hd : ((([46, 58, 47, 48, 49, 50, 57, 97, 71, 32, 45, 10] : List UInt8).take (k + 1)).drop k).length = 1 := by simp; omega
  generalize ((([46, 58, 47, 48, 49, 50, 57, 97, 71, 32, 45, 10] : List UInt8).take (k + 1)).drop k) = d at s2 hd
  have c1 : ibin .add (.str (t.take m)) (.str d) = some (.str (t.take m ++ d)) := ibs_cat (by simp; omega)
  simp (disch := (first | omega | assumption | (simp only [push_n, set_n, put_n, List.length_cons, List.length_nil, List.length_append, Nat.reduceAdd]; done) | (simp only [push_n, set_n, put_n, List.length_cons, List.length_nil, List.length_append]; omega) | (simp only [List.all_cons, List.all_nil, one_bool, one_int, one_str, one_ptr, one_nilptr, one_slice, one_eslice, one_nilslice, one_func, one_iface, one_niliface, Bool.and_true, Bool.true_and, List.getD_cons_zero, List.getD_cons_succ, List.contains_cons, List.contains_nil, Bool.or_true, Bool.true_or, Bool.or_false, Bool.false_or, Nat.reduceBEq, *]; done) | fail)) only [go_sem, Hold.p, HoldK.k, HoldL.K, HoldL.body, Nat.reduceBEq, Nat.reduceAdd, reduceIte]
  refine test_dec (fun hy => ?_) (fun hy => ?_)
  · simp (disch := (first | omega | assumption | (simp only [push_n, set_n, put_n, List.length_cons, List.length_nil, List.length_append, Nat.reduceAdd]; done) | (simp only [push_n, set_n, put_n, List.length_cons, List.length_nil, List.length_append]; omega) | (simp only [List.all_cons, List.all_nil, one_bool, one_int, one_str, one_ptr, one_nilptr, one_slice, one_eslice, one_nilslice, one_func, one_iface, one_niliface, Bool.and_true, Bool.true_and, List.getD_cons_zero, List.getD_cons_succ, List.contains_cons, List.contains_nil, Bool.or_true, Bool.true_or, Bool.or_false, Bool.false_or, Nat.reduceBEq, *]; done) | fail)) only [s1, Option.map_some, Option.map_none, go_sem, Hold.p, HoldK.k, HoldL.K, HoldL.body, Nat.reduceBEq, Nat.reduceAdd, reduceIte]
    exact ⟨_, rfl, by simp; omega, V⟩
  simp (disch := (first | omega | assumption | (simp only [push_n, set_n, put_n, List.length_cons, List.length_nil, List.length_append, Nat.reduceAdd]; done) | (simp only [push_n, set_n, put_n, List.length_cons, List.length_nil, List.length_append]; omega) | (simp only [List.all_cons, List.all_nil, one_bool, one_int, one_str, one_ptr, one_nilptr, one_slice, one_eslice, one_nilslice, one_func, one_iface, one_niliface, Bool.and_true, Bool.true_and, List.getD_cons_zero, List.getD_cons_succ, List.contains_cons, List.contains_nil, Bool.or_true, Bool.true_or, Bool.or_false, Bool.false_or, Nat.reduceBEq, *]; done) | fail)) only [go_sem, Hold.p, HoldK.k, HoldL.K, HoldL.body, Nat.reduceBEq, Nat.reduceAdd, reduceIte]
  refine test_dec (fun hy2 => ?_) (fun hy2 => ?_)
  · have s3 : slcSF (.str t) (some (.int .i64 (m : Int))) none = some (.str (t.drop m)) := slcS_lo (by omega)
    have c2 : ibin .add (.str (t.take m ++ d)) (.str (t.drop m)) = some (.str ((t.take m ++ d) ++ t.drop m)) := ibs_cat (by simp; omega)
    simp (disch := (first | omega | assumption | (simp only [push_n, set_n, put_n, List.length_cons, List.length_nil, List.length_append, Nat.reduceAdd]; done) | (simp only [push_n, set_n, put_n, List.length_cons, List.length_nil, List.length_append]; omega) | (simp only [List.all_cons, List.all_nil, one_bool, one_int, one_str, one_ptr, one_nilptr, one_slice, one_eslice, one_nilslice, one_func, one_iface, one_niliface, Bool.and_true, Bool.true_and, List.getD_cons_zero, List.getD_cons_succ, List.contains_cons, List.contains_nil, Bool.or_true, Bool.true_or, Bool.or_false, Bool.false_or, Nat.reduceBEq, *]; done) | fail)) only [s1, s2, s3, w2, c1, c2, Option.map_some, Option.map_none, go_sem, Hold.p, HoldK.k, HoldL.K, HoldL.body, Nat.reduceBEq, Nat.reduceAdd, reduceIte]
    exact ⟨_, rfl, by simp; omega, V⟩
  simp (disch := (first | omega | assumption | (simp only [push_n, set_n, put_n, List.length_cons, List.length_nil, List.length_append, Nat.reduceAdd]; done) | (simp only [push_n, set_n, put_n, List.length_cons, List.length_nil, List.length_append]; omega) | (simp only [List.all_cons, List.all_nil, one_bool, one_int, one_str, one_ptr, one_nilptr, one_slice, one_eslice, one_nilslice, one_func, one_iface, one_niliface, Bool.and_true, Bool.true_and, List.getD_cons_zero, List.getD_cons_succ, List.contains_cons, List.contains_nil, Bool.or_true, Bool.true_or, Bool.or_false, Bool.false_or, Nat.reduceBEq, *]; done) | fail)) only [go_sem, Hold.p, HoldK.k, HoldL.K, HoldL.body, Nat.reduceBEq, Nat.reduceAdd, reduceIte]
  refine test_dec (fun hm => ?_) (fun hm => ?_)
  · have s3 : slcSF (.str t) (some (.int .i64 ((m + 1 : Nat) : Int))) none = some (.str (t.drop (m + 1))) := slcS_lo (by omega)
    have c2 : ibin .add (.str (t.take m ++ d)) (.str (t.drop (m + 1))) = some (.str ((t.take m ++ d) ++ t.drop (m + 1))) := ibs_cat (by simp; omega)
    simp (disch := (first | omega | assumption | (simp only [push_n, set_n, put_n, List.length_cons, List.length_nil, List.length_append, Nat.reduceAdd]; done) | (simp only [push_n, set_n, put_n, List.length_cons, List.length_nil, List.length_append]; omega) | (simp only [List.all_cons, List.all_nil, one_bool, one_int, one_str, one_ptr, one_nilptr, one_slice, one_eslice, one_nilslice, one_func, one_iface, one_niliface, Bool.and_true, Bool.true_and, List.getD_cons_zero, List.getD_cons_succ, List.contains_cons, List.contains_nil, Bool.or_true, Bool.true_or, Bool.or_false, Bool.false_or, Nat.reduceBEq, *]; done) | fail)) only [s1, s2, s3, w2, w3, c1, c2, Option.map_some, Option.map_none, go_sem, Hold.p, HoldK.k, HoldL.K, HoldL.body, Nat.reduceBEq, Nat.reduceAdd, reduceIte]
    exact ⟨_, rfl, by simp; omega, V⟩
  · simp (disch := (first | omega | assumption | (simp only [push_n, set_n, put_n, List.length_cons, List.length_nil, List.length_append, Nat.reduceAdd]; done) | (simp only [push_n, set_n, put_n, List.length_cons, List.length_nil, List.length_append]; omega) | (simp only [List.all_cons, List.all_nil, one_bool, one_int, one_str, one_ptr, one_nilptr, one_slice, one_eslice, one_nilslice, one_func, one_iface, one_niliface, Bool.and_true, Bool.true_and, List.getD_cons_zero, List.getD_cons_succ, List.contains_cons, List.contains_nil, Bool.or_true, Bool.true_or, Bool.or_false, Bool.false_or, Nat.reduceBEq, *]; done) | fail)) only [go_sem, Hold.p, HoldK.k, HoldL.K, HoldL.body, Nat.reduceBEq, Nat.reduceAdd, reduceIte]
    exact ⟨_, rfl, by omega, V⟩
end
end Go.Proofs.YtdpaehdolhdjdaaDoor

namespace Go.Proofs.YtdpaehdolhdjdaaDoor
open Go Go.IW
section
attribute [local go_sem] List.getElem?_cons_zero List.getElem?_cons_succ Option.bind_some List.map_cons List.map_nil Nat.zero_add if_true List.getD_cons_zero List.getD_cons_succ List.contains_cons List.contains_nil Bool.or_true Bool.true_or Bool.or_false Bool.false_or Bool.not_true Bool.not_false true_and and_true rowA_whole mid_get stO_mid rowO_rows cellO_rows push_n set_n push_at push_old set_here set_there set_pushT set_pushN set_set upd_ne Nat.add_assoc Nat.add_zero stO_1s stO_ws boxA_s List.all_cons List.all_nil one_bool one_int one_str one_ptr one_nilptr one_slice one_eslice one_nilslice one_func one_iface one_niliface Bool.and_true Bool.and_self List.length_cons List.length_nil Nat.one_ne_zero Nat.succ_ne_zero if_false List.set_cons_zero List.set_cons_succ lay_nil lay_1 lay_w Option.map_some

theorem Src.back {h g g' : IH} {p : Nat} {v : IV} {code : List UInt8} (S0 : Src h p v code) (hp : p < h.n) (S : Src g p v code) (V : Sav p h g') (ho : g'.obj p = g.obj p) : Src g' p v code := by
  obtain ⟨pos, st, a, b, c⟩ := S.at_
  exact ⟨⟨pos, st, ⟨Nat.lt_of_lt_of_le hp V.le, ho.trans a.eq⟩, b, c⟩, V.sl S0.sl S0.ne, S0.ne⟩
set_option maxRecDepth 20000 in
theorem l02Host_c (h : IH) (p : Nat) (v : IV) (code : List UInt8) (S : Src h p v code) (hl : code.length ≤ 1048576) :
    ICalls Tryd.prog 131 [.ptr p 0 0] h fun r h' => ∃ x : Int, r = .int .i64 x ∧ Src h' p v code ∧ Sav p h h' ∧ h'.n = h.n := by
  refine icalls (.of ok131) (Nat.le_of_ble_eq_true rfl) ?_
  unfold c131
  simp (disch := (first | omega | assumption | (simp only [push_n, set_n, put_n, List.length_cons, List.length_nil, List.length_append, Nat.reduceAdd]; done) | (simp only [push_n, set_n, put_n, List.length_cons, List.length_nil, List.length_append]; omega) | (simp only [List.all_cons, List.all_nil, one_bool, one_int, one_str, one_ptr, one_nilptr, one_slice, one_eslice, one_nilslice, one_func, one_iface, one_niliface, Bool.and_true, Bool.true_and, List.getD_cons_zero, List.getD_cons_succ, List.contains_cons, List.contains_nil, Bool.or_true, Bool.true_or, Bool.or_false, Bool.false_or, Nat.reduceBEq, *]; done) | fail)) only [go_sem, Hold.p, HoldK.k, HoldL.K, HoldL.body, Nat.reduceBEq, Nat.reduceAdd, reduceIte]
  refine callA_of (l01Next_c h p v code 2 S (by omega) (by omega) hl) ?_
  rintro r g ⟨x, rfl, x0, x1, S1, V1, hn1⟩
  simp (disch := (first | omega | assumption | (simp only [push_n, set_n, put_n, List.length_cons, List.length_nil, List.length_append, Nat.reduceAdd]; done) | (simp only [push_n, set_n, put_n, List.length_cons, List.length_nil, List.length_append]; omega) | (simp only [List.all_cons, List.all_nil, one_bool, one_int, one_str, one_ptr, one_nilptr, one_slice, one_eslice, one_nilslice, one_func, one_iface, one_niliface, Bool.and_true, Bool.true_and, List.getD_cons_zero, List.getD_cons_succ, List.contains_cons, List.contains_nil, Bool.or_true, Bool.true_or, Bool.or_false, Bool.false_or, Nat.reduceBEq, *]; done) | fail)) only [go_sem, Hold.p, HoldK.k, HoldL.K, HoldL.body, Nat.reduceBEq, Nat.reduceAdd, reduceIte]
  refine callA_of (l01Next_c g p v code 6 S1 (by omega) (by omega) hl) ?_
  rintro r g2 ⟨y, rfl, y0, y1, S2, V2, hn2⟩
  simp (disch := (first | omega | assumption | (simp only [push_n, set_n, put_n, List.length_cons, List.length_nil, List.length_append, Nat.reduceAdd]; done) | (simp only [push_n, set_n, put_n, List.length_cons, List.length_nil, List.length_append]; omega) | (simp only [List.all_cons, List.all_nil, one_bool, one_int, one_str, one_ptr, one_nilptr, one_slice, one_eslice, one_nilslice, one_func, one_iface, one_niliface, Bool.and_true, Bool.true_and, List.getD_cons_zero, List.getD_cons_succ, List.contains_cons, List.contains_nil, Bool.or_true, Bool.true_or, Bool.or_false, Bool.false_or, Nat.reduceBEq, *]; done) | fail)) only [go_sem, Hold.p, HoldK.k, HoldL.K, HoldL.body, Nat.reduceBEq, Nat.reduceAdd, reduceIte]
  exact ⟨_, rfl, S2, V1.trans V2, by omega⟩
set_option maxRecDepth 20000 in
theorem l19Name_c (h : IH) (p : Nat) (v : IV) (code : List UInt8) (S : Src h p v code) (hl : code.length ≤ 1048576) (hpn : p < h.n) :
    ICalls Tryd.prog 127 [.ptr p 0 0] h fun r h' => ∃ s : List UInt8, r = .str s ∧ s.length ≤ 17 ∧ Src h' p v code ∧ Sav p h h' := by
  refine icalls (.of ok127) (Nat.le_of_ble_eq_true rfl) ?_
  unfold c127
  simp (disch := (first | omega | assumption | (simp only [push_n, set_n, put_n, List.length_cons, List.length_nil, List.length_append, Nat.reduceAdd]; done) | (simp only [push_n, set_n, put_n, List.length_cons, List.length_nil, List.length_append]; omega) | (simp only [List.all_cons, List.all_nil, one_bool, one_int, one_str, one_ptr, one_nilptr, one_slice, one_eslice, one_nilslice, one_func, one_iface, one_niliface, Bool.and_true, Bool.true_and, List.getD_cons_zero, List.getD_cons_succ, List.contains_cons, List.contains_nil, Bool.or_true, Bool.true_or, Bool.or_false, Bool.false_or, Nat.reduceBEq, *]; done) | fail)) only [go_sem, Hold.p, HoldK.k, HoldL.K, HoldL.body, Nat.reduceBEq, Nat.reduceAdd, reduceIte]
  refine bslA_of (rows := [[.str [97]], [.str [98, 46, 108, 97, 110]], [.str [102, 105, 108, 101, 115, 46, 108, 97, 110]], [.str [120, 45, 49, 46, 121, 46, 122]], [.str [119, 119, 119, 46, 101, 120, 97, 109, 112, 108, 101, 45, 55, 46, 110, 101, 116]], [.str [113]]]) (by decide) rfl (by decide) ?_
  simp (disch := (first | omega | assumption | (simp only [push_n, set_n, put_n, List.length_cons, List.length_nil, List.length_append, Nat.reduceAdd]; done) | (simp only [push_n, set_n, put_n, List.length_cons, List.length_nil, List.length_append]; omega) | (simp only [List.all_cons, List.all_nil, one_bool, one_int, one_str, one_ptr, one_nilptr, one_slice, one_eslice, one_nilslice, one_func, one_iface, one_niliface, Bool.and_true, Bool.true_and, List.getD_cons_zero, List.getD_cons_succ, List.contains_cons, List.contains_nil, Bool.or_true, Bool.true_or, Bool.or_false, Bool.false_or, Nat.reduceBEq, *]; done) | fail)) only [go_sem, Hold.p, HoldK.k, HoldL.K, HoldL.body, Nat.reduceBEq, Nat.reduceAdd, reduceIte]
  generalize hq_g5 : IH.push h (IObj.rows [[.str [97]], [.str [98, 46, 108, 97, 110]], [.str [102, 105, 108, 101, 115, 46, 108, 97, 110]], [.str [120, 45, 49, 46, 121, 46, 122]], [.str [119, 119, 119, 46, 101, 120, 97, 109, 112, 108, 101, 45, 55, 46, 110, 101, 116]], [.str [113]]] 9 1 false) = g5
  have e_g5 : Ext h g5 := by rw [← hq_g5]; exact (Ext.refl _).push _
  have l_g5 : g5.n = h.n + 1 := by rw [← hq_g5]; rfl
  have b5 : At g5 h.n (IObj.rows [[.str [97]], [.str [98, 46, 108, 97, 110]], [.str [102, 105, 108, 101, 115, 46, 108, 97, 110]], [.str [120, 45, 49, 46, 121, 46, 122]], [.str [119, 119, 119, 46, 101, 120, 97, 109, 112, 108, 101, 45, 55, 46, 110, 101, 116]], [.str [113]]] 9 1 false) := by rw [← hq_g5]; exact At.new _ _
  clear hq_g5
  have S := S.ext e_g5
  refine callA_of (l01Next_c g5 p v code 6 S (by omega) (by omega) hl) ?_
  rintro r g6 ⟨y, rfl, y0, y1, S6, V6, hn6⟩
  have b6 := b5.sav V6 (by omega)
  obtain ⟨y, rfl⟩ : ∃ m : Nat, y = (m : Int) := ⟨y.toNat, by omega⟩
  have hy : y < 6 := by omega
  obtain ⟨z, hz, hzl⟩ : ∃ z : List UInt8, ([[.str [97]], [.str [98, 46, 108, 97, 110]], [.str [102, 105, 108, 101, 115, 46, 108, 97, 110]], [.str [120, 45, 49, 46, 121, 46, 122]], [.str [119, 119, 119, 46, 101, 120, 97, 109, 112, 108, 101, 45, 55, 46, 110, 101, 116]], [.str [113]]] : List (List IV))[y]? = some [.str z] ∧ z.length ≤ 17 := by
    match y, hy with
    | 0, _ => exact ⟨_, rfl, by simp⟩
    | 1, _ => exact ⟨_, rfl, by simp⟩
    | 2, _ => exact ⟨_, rfl, by simp⟩
    | 3, _ => exact ⟨_, rfl, by simp⟩
    | 4, _ => exact ⟨_, rfl, by simp⟩
    | 5, _ => exact ⟨_, rfl, by simp⟩
  have hia : iadrF g6 1 (.slice h.n 0 6) (.int .i64 (y : Int)) = some (.ptr h.n y 0) := by
    rw [iadrF_nat hy (by rw [b6.eq]; rfl), Nat.zero_add]
  have hcc : cellO (g6.obj h.n) y 0 = some (.str z) := by
    rw [b6.eq]
    show (_ : Option (List IV)).bind _ = _
    rw [hz]; rfl
  simp (disch := (first | omega | assumption | (simp only [push_n, set_n, put_n, List.length_cons, List.length_nil, List.length_append, Nat.reduceAdd]; done) | (simp only [push_n, set_n, put_n, List.length_cons, List.length_nil, List.length_append]; omega) | (simp only [List.all_cons, List.all_nil, one_bool, one_int, one_str, one_ptr, one_nilptr, one_slice, one_eslice, one_nilslice, one_func, one_iface, one_niliface, Bool.and_true, Bool.true_and, List.getD_cons_zero, List.getD_cons_succ, List.contains_cons, List.contains_nil, Bool.or_true, Bool.true_or, Bool.or_false, Bool.false_or, Nat.reduceBEq, *]; done) | fail)) only [hia, hcc, go_sem, Hold.p, HoldK.k, HoldL.K, HoldL.body, Nat.reduceBEq, Nat.reduceAdd, reduceIte]
  exact ⟨_, rfl, hzl, S6, (Sav.refl p h).ext e_g5 |>.trans V6⟩
set_option maxRecDepth 20000 in
theorem l19Query_c (h : IH) (p : Nat) (v : IV) (code : List UInt8) (S : Src h p v code) (hl : code.length ≤ 1048576) (hpn : p < h.n) :
    ICalls Tryd.prog 73 [.ptr p 0 0] h fun r h' => ∃ (x : Int) (s : List UInt8), r = .agg [.int .i64 x, .str s] ∧ s.length ≤ 17 ∧ Src h' p v code ∧ Sav p h h' := by
  have S0 := S
  refine icalls (.of ok73) (Nat.le_of_ble_eq_true rfl) ?_
  unfold c73
  simp (disch := (first | omega | assumption | (simp only [push_n, set_n, put_n, List.length_cons, List.length_nil, List.length_append, Nat.reduceAdd]; done) | (simp only [push_n, set_n, put_n, List.length_cons, List.length_nil, List.length_append]; omega) | (simp only [List.all_cons, List.all_nil, one_bool, one_int, one_str, one_ptr, one_nilptr, one_slice, one_eslice, one_nilslice, one_func, one_iface, one_niliface, Bool.and_true, Bool.true_and, List.getD_cons_zero, List.getD_cons_succ, List.contains_cons, List.contains_nil, Bool.or_true, Bool.true_or, Bool.or_false, Bool.false_or, Nat.reduceBEq, *]; done) | fail)) only [go_sem, Hold.p, HoldK.k, HoldL.K, HoldL.body, Nat.reduceBEq, Nat.reduceAdd, reduceIte]
  generalize hq_g : IH.push h (IObj.rows [[.int .i64 0, .str []]] 46 2 false) = g
  have e_g : Ext h g := by rw [← hq_g]; exact (Ext.refl _).push _
  have l_g : g.n = h.n + 1 := by rw [← hq_g]; rfl
  have b : At g h.n (IObj.rows [[.int .i64 0, .str []]] 46 2 false) := by rw [← hq_g]; exact At.new _ _
  clear hq_g
  have S := S.ext e_g
  refine callA_of (l01Next_c g p v code 65536 S (by omega) (by omega) hl) ?_
  rintro r g1 ⟨x, rfl, x0, x1, S1, V1, hn1⟩
  have b1 := b.sav V1 (by omega)
  simp (disch := (first | omega | assumption | (simp only [push_n, set_n, put_n, List.length_cons, List.length_nil, List.length_append, Nat.reduceAdd]; done) | (simp only [push_n, set_n, put_n, List.length_cons, List.length_nil, List.length_append]; omega) | (simp only [List.all_cons, List.all_nil, one_bool, one_int, one_str, one_ptr, one_nilptr, one_slice, one_eslice, one_nilslice, one_func, one_iface, one_niliface, Bool.and_true, Bool.true_and, List.getD_cons_zero, List.getD_cons_succ, List.contains_cons, List.contains_nil, Bool.or_true, Bool.true_or, Bool.or_false, Bool.false_or, Nat.reduceBEq, *]; done) | fail)) only [go_sem, Hold.p, HoldK.k, HoldL.K, HoldL.body, Nat.reduceBEq, Nat.reduceAdd, reduceIte]
  refine callA_of (l19Name_c g1 p v code S1 hl (by omega)) ?_
  rintro r g2 ⟨s, rfl, hs, S2, V2⟩
  have b2 := b1.sav V2 (by omega)
  have l2 := V2.le
  simp (disch := (first | omega | assumption | (simp only [push_n, set_n, put_n, List.length_cons, List.length_nil, List.length_append, Nat.reduceAdd]; done) | (simp only [push_n, set_n, put_n, List.length_cons, List.length_nil, List.length_append]; omega) | (simp only [List.all_cons, List.all_nil, one_bool, one_int, one_str, one_ptr, one_nilptr, one_slice, one_eslice, one_nilslice, one_func, one_iface, one_niliface, Bool.and_true, Bool.true_and, List.getD_cons_zero, List.getD_cons_succ, List.contains_cons, List.contains_nil, Bool.or_true, Bool.true_or, Bool.or_false, Bool.false_or, Nat.reduceBEq, *]; done) | fail)) only [b2.eq, go_sem, Hold.p, HoldK.k, HoldL.K, HoldL.body, Nat.reduceBEq, Nat.reduceAdd, reduceIte]
  generalize hq_g3 : IH.push g2 (IObj.rows [[.int .i64 x, .str s]] 46 2 false) = g3
  have e_g3 : Ext g2 g3 := by rw [← hq_g3]; exact (Ext.refl _).push _
  have l_g3 : g3.n = g2.n + 1 := by rw [← hq_g3]; rfl
  have bq : At g3 g2.n (IObj.rows [[.int .i64 x, .str s]] 46 2 false) := by rw [← hq_g3]; exact At.new _ _
  clear hq_g3
  have S2 := S2.ext e_g3
  have b2 := b2.ext e_g3
  refine callA_of (l01Bool_c g3 p v code S2 hl) ?_
  rintro r g4 ⟨t, rfl, S4, V4, hn4⟩
  have b4 := b2.sav V4 (by omega)
  have bq4 := bq.sav V4 (by omega)
  have V := ((((Sav.refl p h).ext e_g).trans V1).trans V2).ext e_g3 |>.trans V4
  have lv := V.le
  simp (disch := (first | omega | assumption | (simp only [push_n, set_n, put_n, List.length_cons, List.length_nil, List.length_append, Nat.reduceAdd]; done) | (simp only [push_n, set_n, put_n, List.length_cons, List.length_nil, List.length_append]; omega) | (simp only [List.all_cons, List.all_nil, one_bool, one_int, one_str, one_ptr, one_nilptr, one_slice, one_eslice, one_nilslice, one_func, one_iface, one_niliface, Bool.and_true, Bool.true_and, List.getD_cons_zero, List.getD_cons_succ, List.contains_cons, List.contains_nil, Bool.or_true, Bool.true_or, Bool.or_false, Bool.false_or, Nat.reduceBEq, *]; done) | fail)) only [go_sem, Hold.p, HoldK.k, HoldL.K, HoldL.body, Nat.reduceBEq, Nat.reduceAdd, reduceIte]
  refine test_of (fun hb => ?_) (fun hb => ?_)
  · simp (disch := (first | omega | assumption | (simp only [push_n, set_n, put_n, List.length_cons, List.length_nil, List.length_append, Nat.reduceAdd]; done) | (simp only [push_n, set_n, put_n, List.length_cons, List.length_nil, List.length_append]; omega) | (simp only [List.all_cons, List.all_nil, one_bool, one_int, one_str, one_ptr, one_nilptr, one_slice, one_eslice, one_nilslice, one_func, one_iface, one_niliface, Bool.and_true, Bool.true_and, List.getD_cons_zero, List.getD_cons_succ, List.contains_cons, List.contains_nil, Bool.or_true, Bool.true_or, Bool.or_false, Bool.false_or, Nat.reduceBEq, *]; done) | fail)) only [bq4.eq, b4.eq, go_sem, Hold.p, HoldK.k, HoldL.K, HoldL.body, Nat.reduceBEq, Nat.reduceAdd, reduceIte]
    have W : Sav p h ((g4.set g2.n (IObj.rows [[.int .i64 x, .str [102, 105, 108, 101, 115, 46, 108, 97, 110]]] 46 2 false)).set h.n (IObj.rows [[.int .i64 x, .str [102, 105, 108, 101, 115, 46, 108, 97, 110]]] 46 2 false)) := (V.set (.inl (by omega)) _).set (.inl (by omega)) _
    exact ⟨_, _, rfl, by simp, S0.back hpn S4 W (by simp (disch := omega) only [set_there]), W⟩
  · simp (disch := (first | omega | assumption | (simp only [push_n, set_n, put_n, List.length_cons, List.length_nil, List.length_append, Nat.reduceAdd]; done) | (simp only [push_n, set_n, put_n, List.length_cons, List.length_nil, List.length_append]; omega) | (simp only [List.all_cons, List.all_nil, one_bool, one_int, one_str, one_ptr, one_nilptr, one_slice, one_eslice, one_nilslice, one_func, one_iface, one_niliface, Bool.and_true, Bool.true_and, List.getD_cons_zero, List.getD_cons_succ, List.contains_cons, List.contains_nil, Bool.or_true, Bool.true_or, Bool.or_false, Bool.false_or, Nat.reduceBEq, *]; done) | fail)) only [bq4.eq, b4.eq, go_sem, Hold.p, HoldK.k, HoldL.K, HoldL.body, Nat.reduceBEq, Nat.reduceAdd, reduceIte]
    have W : Sav p h (g4.set h.n (IObj.rows [[.int .i64 x, .str s]] 46 2 false)) := V.set (.inl (by omega)) _
    exact ⟨_, _, rfl, hs, S0.back hpn S4 W (by simp (disch := omega) only [set_there]), W⟩
set_option maxRecDepth 20000 in
theorem drawQuery_c (h : IH) (v : IV) (code : List UInt8) (hs : SlR h 1 v (strRows code)) (hl : code.length ≤ 1048576) :
    ICalls Tryd.prog 26 [v] h fun r h' => ∃ (x : Int) (s : List UInt8), r = .agg [.int .i64 x, .str s] ∧ s.length ≤ 18 ∧ Ext h h' := by
  refine icalls (.of ok26) (Nat.le_of_ble_eq_true rfl) ?_
  unfold c26
  simp (disch := (first | omega | assumption | (simp only [push_n, set_n, put_n, List.length_cons, List.length_nil, List.length_append, Nat.reduceAdd]; done) | (simp only [push_n, set_n, put_n, List.length_cons, List.length_nil, List.length_append]; omega) | (simp only [List.all_cons, List.all_nil, one_bool, one_int, one_str, one_ptr, one_nilptr, one_slice, one_eslice, one_nilslice, one_func, one_iface, one_niliface, Bool.and_true, Bool.true_and, List.getD_cons_zero, List.getD_cons_succ, List.contains_cons, List.contains_nil, Bool.or_true, Bool.true_or, Bool.or_false, Bool.false_or, Nat.reduceBEq, *]; done) | fail)) only [go_sem, Hold.p, HoldK.k, HoldL.K, HoldL.body, Nat.reduceBEq, Nat.reduceAdd, reduceIte]
  generalize hq_g0 : IH.push h (IObj.rows [[.int .i64 0, .str []]] 46 2 false) = g0
  have e_g0 : Ext h g0 := by rw [← hq_g0]; exact (Ext.refl _).push _
  have l_g0 : g0.n = h.n + 1 := by rw [← hq_g0]; rfl
  have b0 : At g0 h.n (IObj.rows [[.int .i64 0, .str []]] 46 2 false) := by rw [← hq_g0]; exact At.new _ _
  clear hq_g0
  have hs := hs.ext e_g0
  refine callA_of (l01Begin_c g0 v code hs hl) ?_
  rintro r g ⟨st, rfl, E⟩
  have hv1 := hs.one
  have hEg := E.le
  simp (disch := (first | omega | assumption | (simp only [push_n, set_n, put_n, List.length_cons, List.length_nil, List.length_append, Nat.reduceAdd]; done) | (simp only [push_n, set_n, put_n, List.length_cons, List.length_nil, List.length_append]; omega) | (simp only [List.all_cons, List.all_nil, one_bool, one_int, one_str, one_ptr, one_nilptr, one_slice, one_eslice, one_nilslice, one_func, one_iface, one_niliface, Bool.and_true, Bool.true_and, List.getD_cons_zero, List.getD_cons_succ, List.contains_cons, List.contains_nil, Bool.or_true, Bool.true_or, Bool.or_false, Bool.false_or, Nat.reduceBEq, *]; done) | fail)) only [go_sem, Hold.p, HoldK.k, HoldL.K, HoldL.body, Nat.reduceBEq, Nat.reduceAdd, reduceIte]
  generalize hq_g1 : IH.push g (IObj.rows [[v, .int .i64 0, .int .u64 st]] 118 3 false) = g1
  have e_g1 : Ext g g1 := by rw [← hq_g1]; exact (Ext.refl _).push _
  have l_g1 : g1.n = g.n + 1 := by rw [← hq_g1]; rfl
  have b1 : At g1 g.n (IObj.rows [[v, .int .i64 0, .int .u64 st]] 118 3 false) := by rw [← hq_g1]; exact At.new _ _
  clear hq_g1
  have E := E.ext e_g1
  have S : Src g1 g.n v code := ⟨⟨0, st, b1, by omega, by omega⟩, hs.ext E, fun l i n hv => by have := hs.lt l i n hv; omega⟩
  refine callA_of (l19Query_c g1 g.n v code S hl (by omega)) ?_
  rintro r g2 ⟨x, s, rfl, hsl, S2, V2⟩
  have b2 := (b0.ext E).sav V2 (by omega)
  have l2 := V2.le
  have E2 : Ext h g2 := ⟨by have := E.le; omega, fun l hl => (V2.obj l (by have := E.le; omega) (by omega)).trans ((E.obj l (by omega)).trans (e_g0.obj l hl))⟩
  simp (disch := (first | omega | assumption | (simp only [push_n, set_n, put_n, List.length_cons, List.length_nil, List.length_append, Nat.reduceAdd]; done) | (simp only [push_n, set_n, put_n, List.length_cons, List.length_nil, List.length_append]; omega) | (simp only [List.all_cons, List.all_nil, one_bool, one_int, one_str, one_ptr, one_nilptr, one_slice, one_eslice, one_nilslice, one_func, one_iface, one_niliface, Bool.and_true, Bool.true_and, List.getD_cons_zero, List.getD_cons_succ, List.contains_cons, List.contains_nil, Bool.or_true, Bool.true_or, Bool.or_false, Bool.false_or, Nat.reduceBEq, *]; done) | fail)) only [b2.eq, go_sem, Hold.p, HoldK.k, HoldL.K, HoldL.body, Nat.reduceBEq, Nat.reduceAdd, reduceIte]
  generalize hq_g3 : IH.push g2 (IObj.rows [[.int .i64 x, .str s]] 46 2 false) = g3
  have e_g3 : Ext g2 g3 := by rw [← hq_g3]; exact (Ext.refl _).push _
  have l_g3 : g3.n = g2.n + 1 := by rw [← hq_g3]; rfl
  have b3 : At g3 g2.n (IObj.rows [[.int .i64 x, .str s]] 46 2 false) := by rw [← hq_g3]; exact At.new _ _
  clear hq_g3
  have E2 := E2.ext e_g3
  have S2 := S2.ext e_g3
  have b2 := b2.ext e_g3
  refine callA_of (l01Next_c g3 g.n v code 8 S2 (by omega) (by omega) hl) ?_
  rintro r g4 ⟨k, rfl, _, _, S4, V4, hn4⟩
  have q4 := (b2.sav V4 (by omega)).eq
  have q5 := (b3.sav V4 (by omega)).eq
  have E4 : Ext h g4 := E2.sav V4 (by omega)
  simp (disch := (first | omega | assumption | (simp only [push_n, set_n, put_n, List.length_cons, List.length_nil, List.length_append, Nat.reduceAdd]; done) | (simp only [push_n, set_n, put_n, List.length_cons, List.length_nil, List.length_append]; omega) | (simp only [List.all_cons, List.all_nil, one_bool, one_int, one_str, one_ptr, one_nilptr, one_slice, one_eslice, one_nilslice, one_func, one_iface, one_niliface, Bool.and_true, Bool.true_and, List.getD_cons_zero, List.getD_cons_succ, List.contains_cons, List.contains_nil, Bool.or_true, Bool.true_or, Bool.or_false, Bool.false_or, Nat.reduceBEq, *]; done) | fail)) only [go_sem, Hold.p, HoldK.k, HoldL.K, HoldL.body, Nat.reduceBEq, Nat.reduceAdd, reduceIte]
  refine test_dec (fun hb => ?_) (fun hb => ?_)
  · simp (disch := (first | omega | assumption | (simp only [push_n, set_n, put_n, List.length_cons, List.length_nil, List.length_append, Nat.reduceAdd]; done) | (simp only [push_n, set_n, put_n, List.length_cons, List.length_nil, List.length_append]; omega) | (simp only [List.all_cons, List.all_nil, one_bool, one_int, one_str, one_ptr, one_nilptr, one_slice, one_eslice, one_nilslice, one_func, one_iface, one_niliface, Bool.and_true, Bool.true_and, List.getD_cons_zero, List.getD_cons_succ, List.contains_cons, List.contains_nil, Bool.or_true, Bool.true_or, Bool.or_false, Bool.false_or, Nat.reduceBEq, *]; done) | fail)) only [q4, q5, go_sem, Hold.p, HoldK.k, HoldL.K, HoldL.body, Nat.reduceBEq, Nat.reduceAdd, reduceIte]
    exact ⟨_, _, rfl, by omega, (E4.set _ (by omega) _).set _ (by omega) _⟩
  simp (disch := (first | omega | assumption | (simp only [push_n, set_n, put_n, List.length_cons, List.length_nil, List.length_append, Nat.reduceAdd]; done) | (simp only [push_n, set_n, put_n, List.length_cons, List.length_nil, List.length_append]; omega) | (simp only [List.all_cons, List.all_nil, one_bool, one_int, one_str, one_ptr, one_nilptr, one_slice, one_eslice, one_nilslice, one_func, one_iface, one_niliface, Bool.and_true, Bool.true_and, List.getD_cons_zero, List.getD_cons_succ, List.contains_cons, List.contains_nil, Bool.or_true, Bool.true_or, Bool.or_false, Bool.false_or, Nat.reduceBEq, *]; done) | fail)) only [go_sem, Hold.p, HoldK.k, HoldL.K, HoldL.body, Nat.reduceBEq, Nat.reduceAdd, reduceIte]
  refine test_dec (fun hb => ?_) (fun hb => ?_)
  · simp (disch := (first | omega | assumption | (simp only [push_n, set_n, put_n, List.length_cons, List.length_nil, List.length_append, Nat.reduceAdd]; done) | (simp only [push_n, set_n, put_n, List.length_cons, List.length_nil, List.length_append]; omega) | (simp only [List.all_cons, List.all_nil, one_bool, one_int, one_str, one_ptr, one_nilptr, one_slice, one_eslice, one_nilslice, one_func, one_iface, one_niliface, Bool.and_true, Bool.true_and, List.getD_cons_zero, List.getD_cons_succ, List.contains_cons, List.contains_nil, Bool.or_true, Bool.true_or, Bool.or_false, Bool.false_or, Nat.reduceBEq, *]; done) | fail)) only [q4, q5, go_sem, Hold.p, HoldK.k, HoldL.K, HoldL.body, Nat.reduceBEq, Nat.reduceAdd, reduceIte]
    refine callA_of (l02Bend_c g4 g.n v code s S4 hl (by omega)) ?_
    rintro r g5 ⟨s', rfl, hs', V5⟩
    have q6 := ((b2.sav V4 (by omega)).sav V5 (by omega)).eq
    have q7 := ((b3.sav V4 (by omega)).sav V5 (by omega)).eq
    have l5 := V5.le
    simp (disch := (first | omega | assumption | (simp only [push_n, set_n, put_n, List.length_cons, List.length_nil, List.length_append, Nat.reduceAdd]; done) | (simp only [push_n, set_n, put_n, List.length_cons, List.length_nil, List.length_append]; omega) | (simp only [List.all_cons, List.all_nil, one_bool, one_int, one_str, one_ptr, one_nilptr, one_slice, one_eslice, one_nilslice, one_func, one_iface, one_niliface, Bool.and_true, Bool.true_and, List.getD_cons_zero, List.getD_cons_succ, List.contains_cons, List.contains_nil, Bool.or_true, Bool.true_or, Bool.or_false, Bool.false_or, Nat.reduceBEq, *]; done) | fail)) only [q6, q7, go_sem, Hold.p, HoldK.k, HoldL.K, HoldL.body, Nat.reduceBEq, Nat.reduceAdd, reduceIte]
    exact ⟨_, _, rfl, by omega, ((E4.sav V5 (by omega)).set _ (by omega) _).set _ (by omega) _⟩
  · simp (disch := (first | omega | assumption | (simp only [push_n, set_n, put_n, List.length_cons, List.length_nil, List.length_append, Nat.reduceAdd]; done) | (simp only [push_n, set_n, put_n, List.length_cons, List.length_nil, List.length_append]; omega) | (simp only [List.all_cons, List.all_nil, one_bool, one_int, one_str, one_ptr, one_nilptr, one_slice, one_eslice, one_nilslice, one_func, one_iface, one_niliface, Bool.and_true, Bool.true_and, List.getD_cons_zero, List.getD_cons_succ, List.contains_cons, List.contains_nil, Bool.or_true, Bool.true_or, Bool.or_false, Bool.false_or, Nat.reduceBEq, *]; done) | fail)) only [q4, q5, go_sem, Hold.p, HoldK.k, HoldL.K, HoldL.body, Nat.reduceBEq, Nat.reduceAdd, reduceIte]
    exact ⟨_, _, rfl, by omega, E4.set _ (by omega) _⟩
end
end Go.Proofs.YtdpaehdolhdjdaaDoor

namespace Go.Proofs.YtdpaehdolhdjdaaDoor
open Go Go.IW
section
attribute [local go_sem] List.getElem?_cons_zero List.getElem?_cons_succ Option.bind_some List.map_cons List.map_nil Nat.zero_add if_true List.getD_cons_zero List.getD_cons_succ List.contains_cons List.contains_nil Bool.or_true Bool.true_or Bool.or_false Bool.false_or Bool.not_true Bool.not_false true_and and_true rowA_whole mid_get stO_mid rowO_rows cellO_rows push_n set_n push_at push_old set_here set_there set_pushT set_pushN set_set upd_ne Nat.add_assoc Nat.add_zero stO_1s stO_ws boxA_s List.all_cons List.all_nil one_bool one_int one_str one_ptr one_nilptr one_slice one_eslice one_nilslice one_func one_iface one_niliface Bool.and_true Bool.and_self List.length_cons List.length_nil Nat.one_ne_zero Nat.succ_ne_zero if_false List.set_cons_zero List.set_cons_succ lay_nil lay_1 lay_w Option.map_some

theorem store1 {lo hi : Nat} {h : IH} {v : IV} {bs : List UInt8} {k : Nat} (o : Own lo hi h 5 1 v (strRows bs)) (hk : k < bs.length) :
    ∃ l, lo ≤ l ∧ l < hi ∧ hi ≤ h.n ∧ (∀ q : IntKind, iadrF h 1 v (.int q (k : Nat)) = some (.ptr l k 0)) ∧ (∃ c : UInt8, cellO (h.obj l) k 0 = some (.int .u8 c.toNat)) ∧
      ∀ b : UInt8, (∀ K : HoldK, @stO 1 k 0 [.int .u8 b.toNat] l (h.obj l) h K = K.k (.tuple []) (h.set l (.rows (strRows (bs.set k b)) 5 1 false))) ∧ Own lo hi (h.set l (.rows (strRows (bs.set k b)) 5 1 false)) 5 1 v (strRows (bs.set k b)) := by
  rcases o with ⟨hn, _⟩ | ⟨l, hne, rfl, h1, h2, h3, h4⟩
  · have := congrArg List.length hn
    rw [strRows_len, List.length_nil] at this
    omega
  · have hkp : bs[k]? = some bs[k] := List.getElem?_eq_getElem hk
    generalize bs[k] = c at hkp
    have hr := strRows_at hkp
    have hset : ∀ b : UInt8, (strRows bs).set k [.int .u8 b.toNat] = strRows (bs.set k b) := fun b => by unfold strRows; rw [List.map_set]
    refine ⟨l, h1, h2, h3, fun q => ?_, ⟨c, ?_⟩, fun b => ⟨fun K => ?_, ?_⟩⟩
    · rw [iadrF_nat (by rw [strRows_len]; exact hk) (by rw [h4]; rfl), Nat.zero_add]
    · rw [h4]; show (_ : Option (List IV)).bind _ = _; rw [hr]; rfl
    · rw [h4]
      unfold stO
      simp only [hr, List.length_singleton, List.all_cons, List.all_nil, IV.one, Bool.and_true, true_and, Nat.zero_add, Nat.le_refl, ← hset]
      rfl
    · refine .inr ⟨l, ?_, by rw [strRows_len, strRows_len, List.length_set], h1, h2, h3, set_here _ _ _⟩
      intro hn
      have := congrArg List.length hn
      rw [strRows_len, List.length_set, List.length_nil] at this
      omega
theorem xor_ex (x y : Int) : ∃ c : UInt8, IW.bits .xor .u8 x y = (c.toNat : Int) := ⟨_, by
  unfold IW.bits
  exact wr_u8 _⟩
noncomputable def xorB (x y : Int) : UInt8 := (xor_ex x y).choose
theorem xorB_eq (x y : Int) : IW.bits .xor .u8 x y = ((xorB x y).toNat : Int) := (xor_ex x y).choose_spec
theorem quo8 (k : Nat) (hk : k < 9223372036854775807) : ibin .quo (.int .i64 (k : Int)) (.int .i64 8) = some (.int .i64 ((k / 8 : Nat) : Int)) := by
  have : wr .i64 ((k / 8 : Nat) : Int) = ((k / 8 : Nat) : Int) := wr64 _ (by omega)
  simp [ibin, Int.tdiv_eq_ediv_of_nonneg, this]
  exact this
theorem rem8 (k : Nat) : ibin .rem (.int .i64 (k : Int)) (.int .i64 8) = some (.int .i64 ((k % 8 : Nat) : Int)) := by
  simp only [ibin, if_true, if_neg (show ¬ (8 : Int) = 0 by decide), Int.tmod_eq_emod_of_nonneg (show (0 : Int) ≤ k by omega)]
  rfl
set_option maxRecDepth 20000 in
theorem l03Flip_c (h : IH) (p : Nat) (v w : IV) (code bs : List UInt8) (most : Int) (S : Src h p v code) (hs : SlR h 1 w (strRows bs)) (hl : code.length ≤ 1048576) (hbl : bs.length ≤ 16777216) (m0 : 0 < most) (m1 : most ≤ 1048576) (hpn : p < h.n) :
    ICalls Tryd.prog 135 [.ptr p 0 0, w, .int .i64 most] h fun r h' => ∃ bs' : List UInt8, SlR h' 1 r (strRows bs') ∧ bs'.length = bs.length ∧ Src h' p v code ∧ Sav p h h' ∧ ∀ l i n, r = .slice l i n → h.n ≤ l := by
  refine icalls (.of ok135) (Nat.le_of_ble_eq_true rfl) ?_
  unfold c135
  have S0 := S
  simp (disch := (first | omega | assumption | (simp only [push_n, set_n, put_n, List.length_cons, List.length_nil, List.length_append, Nat.reduceAdd]; done) | (simp only [push_n, set_n, put_n, List.length_cons, List.length_nil, List.length_append]; omega) | (simp only [List.all_cons, List.all_nil, one_bool, one_int, one_str, one_ptr, one_nilptr, one_slice, one_eslice, one_nilslice, one_func, one_iface, one_niliface, Bool.and_true, Bool.true_and, List.getD_cons_zero, List.getD_cons_succ, List.contains_cons, List.contains_nil, Bool.or_true, Bool.true_or, Bool.or_false, Bool.false_or, Nat.reduceBEq, *]; done) | fail)) only [go_sem, Hold.p, HoldK.k, HoldL.K, HoldL.body, Nat.reduceBEq, Nat.reduceAdd, reduceIte]
  refine callA_of (l01Copy_c h w bs hs hbl) ?_
  rintro x g ⟨o, E⟩
  have S := S.ext E
  have hle := E.le
  have ol := o.lenF
  rw [strRows_len] at ol
  have V : Sav p h g := (Sav.refl p h).ext E
  simp (disch := (first | omega | assumption | (simp only [push_n, set_n, put_n, List.length_cons, List.length_nil, List.length_append, Nat.reduceAdd]; done) | (simp only [push_n, set_n, put_n, List.length_cons, List.length_nil, List.length_append]; omega) | (simp only [List.all_cons, List.all_nil, one_bool, one_int, one_str, one_ptr, one_nilptr, one_slice, one_eslice, one_nilslice, one_func, one_iface, one_niliface, Bool.and_true, Bool.true_and, List.getD_cons_zero, List.getD_cons_succ, List.contains_cons, List.contains_nil, Bool.or_true, Bool.true_or, Bool.or_false, Bool.false_or, Nat.reduceBEq, *]; done) | fail)) only [ol, go_sem, Hold.p, HoldK.k, HoldL.K, HoldL.body, Nat.reduceBEq, Nat.reduceAdd, reduceIte]
  refine test_dec (fun hb => ?_) (fun hb => ?_)
  · simp (disch := (first | omega | assumption | (simp only [push_n, set_n, put_n, List.length_cons, List.length_nil, List.length_append, Nat.reduceAdd]; done) | (simp only [push_n, set_n, put_n, List.length_cons, List.length_nil, List.length_append]; omega) | (simp only [List.all_cons, List.all_nil, one_bool, one_int, one_str, one_ptr, one_nilptr, one_slice, one_eslice, one_nilslice, one_func, one_iface, one_niliface, Bool.and_true, Bool.true_and, List.getD_cons_zero, List.getD_cons_succ, List.contains_cons, List.contains_nil, Bool.or_true, Bool.true_or, Bool.or_false, Bool.false_or, Nat.reduceBEq, *]; done) | fail)) only [go_sem, Hold.p, HoldK.k, HoldL.K, HoldL.body, Nat.reduceBEq, Nat.reduceAdd, reduceIte]
    exact ⟨bs, o.sl, rfl, S, V, fun l i n hv => (o.at_ ⟨i, n, hv⟩).1⟩
  have w1 : wr .i64 (8 * (bs.length : Int)) = 8 * (bs.length : Int) := wr64 _ (by omega)
  simp (disch := (first | omega | assumption | (simp only [push_n, set_n, put_n, List.length_cons, List.length_nil, List.length_append, Nat.reduceAdd]; done) | (simp only [push_n, set_n, put_n, List.length_cons, List.length_nil, List.length_append]; omega) | (simp only [List.all_cons, List.all_nil, one_bool, one_int, one_str, one_ptr, one_nilptr, one_slice, one_eslice, one_nilslice, one_func, one_iface, one_niliface, Bool.and_true, Bool.true_and, List.getD_cons_zero, List.getD_cons_succ, List.contains_cons, List.contains_nil, Bool.or_true, Bool.true_or, Bool.or_false, Bool.false_or, Nat.reduceBEq, *]; done) | fail)) only [ol, w1, go_sem, Hold.p, HoldK.k, HoldL.K, HoldL.body, Nat.reduceBEq, Nat.reduceAdd, reduceIte]
  refine callA_of (l01Next_c g p v code (8 * (bs.length : Int)) S (by omega) (by omega) hl) ?_
  rintro r g1 ⟨a, rfl, a0, a1, S1, V1, hn1⟩
  simp (disch := (first | omega | assumption | (simp only [push_n, set_n, put_n, List.length_cons, List.length_nil, List.length_append, Nat.reduceAdd]; done) | (simp only [push_n, set_n, put_n, List.length_cons, List.length_nil, List.length_append]; omega) | (simp only [List.all_cons, List.all_nil, one_bool, one_int, one_str, one_ptr, one_nilptr, one_slice, one_eslice, one_nilslice, one_func, one_iface, one_niliface, Bool.and_true, Bool.true_and, List.getD_cons_zero, List.getD_cons_succ, List.contains_cons, List.contains_nil, Bool.or_true, Bool.true_or, Bool.or_false, Bool.false_or, Nat.reduceBEq, *]; done) | fail)) only [go_sem, Hold.p, HoldK.k, HoldL.K, HoldL.body, Nat.reduceBEq, Nat.reduceAdd, reduceIte]
  refine callA_of (l01Next_c g1 p v code most S1 (by omega) (by omega) hl) ?_
  rintro r g2 ⟨n, rfl, n0, n1, S2, V2, hn2⟩
  have o2 := (o.sav V1 (by omega)).sav V2 (by omega)
  have V := (V.trans V1).trans V2
  obtain ⟨a, rfl⟩ : ∃ m : Nat, a = (m : Int) := ⟨a.toNat, by omega⟩
  have w2 : wr .i64 (1 + n) = 1 + n := wr64 _ (by omega)
  simp (disch := (first | omega | assumption | (simp only [push_n, set_n, put_n, List.length_cons, List.length_nil, List.length_append, Nat.reduceAdd]; done) | (simp only [push_n, set_n, put_n, List.length_cons, List.length_nil, List.length_append]; omega) | (simp only [List.all_cons, List.all_nil, one_bool, one_int, one_str, one_ptr, one_nilptr, one_slice, one_eslice, one_nilslice, one_func, one_iface, one_niliface, Bool.and_true, Bool.true_and, List.getD_cons_zero, List.getD_cons_succ, List.contains_cons, List.contains_nil, Bool.or_true, Bool.true_or, Bool.or_false, Bool.false_or, Nat.reduceBEq, *]; done) | fail)) only [w2, go_sem, Hold.p, HoldK.k, HoldL.K, HoldL.body, Nat.reduceBEq, Nat.reduceAdd, reduceIte]
  refine loop_at (fun m e g => ∃ (k : Nat) (xs : List UInt8), m = 8 * bs.length - k ∧ k ≤ 8 * bs.length ∧ e 0 = .ptr p 0 0 ∧ e 7 = x ∧ e 8 = .int .i64 (a : Nat) ∧ e 9 = .int .i64 (1 + n) ∧ e 10 = .int .i64 (k : Nat) ∧ xs.length = bs.length ∧ Own h.n g2.n g 5 1 x (strRows xs) ∧ Src g p v code ∧ Sav p h g ∧ g.n = g2.n) (8 * bs.length - a) ?_ ?_
  · refine ⟨a, bs, rfl, by omega, ?_⟩
    simp (disch := (first | omega | assumption | (simp only [push_n, set_n, put_n, List.length_cons, List.length_nil, List.length_append, Nat.reduceAdd]; done) | (simp only [push_n, set_n, put_n, List.length_cons, List.length_nil, List.length_append]; omega) | (simp only [List.all_cons, List.all_nil, one_bool, one_int, one_str, one_ptr, one_nilptr, one_slice, one_eslice, one_nilslice, one_func, one_iface, one_niliface, Bool.and_true, Bool.true_and, List.getD_cons_zero, List.getD_cons_succ, List.contains_cons, List.contains_nil, Bool.or_true, Bool.true_or, Bool.or_false, Bool.false_or, Nat.reduceBEq, *]; done) | fail)) only [go_sem, Hold.p, HoldK.k, HoldL.K, HoldL.body, Nat.reduceBEq, Nat.reduceAdd, reduceIte]
    exact ⟨o2.wide (Nat.le_refl _) (by omega) (Nat.le_refl _), S2, V⟩
  · rintro m e g ⟨k, xs, rfl, hk, i0, i7, i8, i9, i10, hxl, o, S, V, hgn⟩
    have ol := o.lenF
    rw [strRows_len, hxl] at ol
    have w3 : wr .i64 ((a : Int) + (1 + n)) = (a : Int) + (1 + n) := wr64 _ (by omega)
    simp (disch := (first | omega | assumption | (simp only [push_n, set_n, put_n, List.length_cons, List.length_nil, List.length_append, Nat.reduceAdd]; done) | (simp only [push_n, set_n, put_n, List.length_cons, List.length_nil, List.length_append]; omega) | (simp only [List.all_cons, List.all_nil, one_bool, one_int, one_str, one_ptr, one_nilptr, one_slice, one_eslice, one_nilslice, one_func, one_iface, one_niliface, Bool.and_true, Bool.true_and, List.getD_cons_zero, List.getD_cons_succ, List.contains_cons, List.contains_nil, Bool.or_true, Bool.true_or, Bool.or_false, Bool.false_or, Nat.reduceBEq, *]; done) | fail)) only [i0, i7, i8, i9, i10, ol, w1, w3, go_sem, Hold.p, HoldK.k, HoldL.K, HoldL.body, Nat.reduceBEq, Nat.reduceAdd, reduceIte]
    refine test_of (fun hb => ?_) (fun hb => ?_)
    · simp only [Bool.and_eq_true, decide_eq_true_eq] at hb
      have hk8 : k / 8 < xs.length := by omega
      have w4 : wr .i64 ((k : Int) + 1) = ((k + 1 : Nat) : Int) := by rw [wr64 _ (by omega)]; rfl
      have w5 : wr .u64 ((k % 8 : Nat) : Int) = ((k % 8 : Nat) : Int) := by rw [wrU]; omega
      have w6 := ib_shl (k := .u8) (a := 1) (b := ((k % 8 : Nat) : Int)) .u64 (by omega)
      by_cases ha : (k : Int) = (a : Int)
      · have d1 : decide ((k : Int) = (a : Int)) = true := decide_eq_true ha
        obtain ⟨l, l1, l2, l3, hia, ⟨c, hcc⟩, hst⟩ := store1 o hk8
        have hst1 := fun b => (hst b).1
        simp (disch := (first | omega | assumption | (simp only [push_n, set_n, put_n, List.length_cons, List.length_nil, List.length_append, Nat.reduceAdd]; done) | (simp only [push_n, set_n, put_n, List.length_cons, List.length_nil, List.length_append]; omega) | (simp only [List.all_cons, List.all_nil, one_bool, one_int, one_str, one_ptr, one_nilptr, one_slice, one_eslice, one_nilslice, one_func, one_iface, one_niliface, Bool.and_true, Bool.true_and, List.getD_cons_zero, List.getD_cons_succ, List.contains_cons, List.contains_nil, Bool.or_true, Bool.true_or, Bool.or_false, Bool.false_or, Nat.reduceBEq, *]; done) | fail)) only [i0, i7, i8, i9, i10, d1, quo8 k (by omega), rem8, w5, w6, hia, hcc, xorB_eq, hst1, w4, go_sem, Hold.p, HoldK.k, HoldL.K, HoldL.body, Nat.reduceBEq, Nat.reduceAdd, reduceIte]
        exact ⟨_, by omega, k + 1, xs.set (k / 8) _, rfl, by omega, rfl, by rw [List.length_set, hxl], (hst _).2, S0.back hpn S (V.set (.inl (by omega)) _) (by simp (disch := omega) only [set_there]), V.set (.inl (by omega)) _, hgn⟩
      · have d1 : decide ((k : Int) = (a : Int)) = false := decide_eq_false ha
        simp (disch := (first | omega | assumption | (simp only [push_n, set_n, put_n, List.length_cons, List.length_nil, List.length_append, Nat.reduceAdd]; done) | (simp only [push_n, set_n, put_n, List.length_cons, List.length_nil, List.length_append]; omega) | (simp only [List.all_cons, List.all_nil, one_bool, one_int, one_str, one_ptr, one_nilptr, one_slice, one_eslice, one_nilslice, one_func, one_iface, one_niliface, Bool.and_true, Bool.true_and, List.getD_cons_zero, List.getD_cons_succ, List.contains_cons, List.contains_nil, Bool.or_true, Bool.true_or, Bool.or_false, Bool.false_or, Nat.reduceBEq, *]; done) | fail)) only [i0, i7, i8, i9, i10, d1, go_sem, Hold.p, HoldK.k, HoldL.K, HoldL.body, Nat.reduceBEq, Nat.reduceAdd, reduceIte]
        refine callA_of (l01Bool_c g p v code S hl) ?_
        rintro r g3 ⟨t, rfl, S3, V3, hn3⟩
        have o3 := o.sav V3 (by omega)
        have V := V.trans V3
        simp (disch := (first | omega | assumption | (simp only [push_n, set_n, put_n, List.length_cons, List.length_nil, List.length_append, Nat.reduceAdd]; done) | (simp only [push_n, set_n, put_n, List.length_cons, List.length_nil, List.length_append]; omega) | (simp only [List.all_cons, List.all_nil, one_bool, one_int, one_str, one_ptr, one_nilptr, one_slice, one_eslice, one_nilslice, one_func, one_iface, one_niliface, Bool.and_true, Bool.true_and, List.getD_cons_zero, List.getD_cons_succ, List.contains_cons, List.contains_nil, Bool.or_true, Bool.true_or, Bool.or_false, Bool.false_or, Nat.reduceBEq, *]; done) | fail)) only [go_sem, Hold.p, HoldK.k, HoldL.K, HoldL.body, Nat.reduceBEq, Nat.reduceAdd, reduceIte]
        refine test_of (fun ht => ?_) (fun ht => ?_)
        · obtain ⟨l, l1, l2, l3, hia, ⟨c, hcc⟩, hst⟩ := store1 o3 hk8
          have hst1 := fun b => (hst b).1
          simp (disch := (first | omega | assumption | (simp only [push_n, set_n, put_n, List.length_cons, List.length_nil, List.length_append, Nat.reduceAdd]; done) | (simp only [push_n, set_n, put_n, List.length_cons, List.length_nil, List.length_append]; omega) | (simp only [List.all_cons, List.all_nil, one_bool, one_int, one_str, one_ptr, one_nilptr, one_slice, one_eslice, one_nilslice, one_func, one_iface, one_niliface, Bool.and_true, Bool.true_and, List.getD_cons_zero, List.getD_cons_succ, List.contains_cons, List.contains_nil, Bool.or_true, Bool.true_or, Bool.or_false, Bool.false_or, Nat.reduceBEq, *]; done) | fail)) only [i0, i7, i8, i9, i10, d1, quo8 k (by omega), rem8, w5, w6, hia, hcc, xorB_eq, hst1, w4, go_sem, Hold.p, HoldK.k, HoldL.K, HoldL.body, Nat.reduceBEq, Nat.reduceAdd, reduceIte]
          exact ⟨_, by omega, k + 1, xs.set (k / 8) _, rfl, by omega, rfl, by rw [List.length_set, hxl], (hst _).2, S0.back hpn S3 (V.set (.inl (by omega)) _) (by simp (disch := omega) only [set_there]), V.set (.inl (by omega)) _, by first | omega | (simp only [set_n]; omega)⟩
        · simp (disch := (first | omega | assumption | (simp only [push_n, set_n, put_n, List.length_cons, List.length_nil, List.length_append, Nat.reduceAdd]; done) | (simp only [push_n, set_n, put_n, List.length_cons, List.length_nil, List.length_append]; omega) | (simp only [List.all_cons, List.all_nil, one_bool, one_int, one_str, one_ptr, one_nilptr, one_slice, one_eslice, one_nilslice, one_func, one_iface, one_niliface, Bool.and_true, Bool.true_and, List.getD_cons_zero, List.getD_cons_succ, List.contains_cons, List.contains_nil, Bool.or_true, Bool.true_or, Bool.or_false, Bool.false_or, Nat.reduceBEq, *]; done) | fail)) only [i0, i7, i8, i9, i10, w4, go_sem, Hold.p, HoldK.k, HoldL.K, HoldL.body, Nat.reduceBEq, Nat.reduceAdd, reduceIte]
          exact ⟨_, by omega, k + 1, xs, rfl, by omega, rfl, hxl, o3, S3, V, by omega⟩
    · simp (disch := (first | omega | assumption | (simp only [push_n, set_n, put_n, List.length_cons, List.length_nil, List.length_append, Nat.reduceAdd]; done) | (simp only [push_n, set_n, put_n, List.length_cons, List.length_nil, List.length_append]; omega) | (simp only [List.all_cons, List.all_nil, one_bool, one_int, one_str, one_ptr, one_nilptr, one_slice, one_eslice, one_nilslice, one_func, one_iface, one_niliface, Bool.and_true, Bool.true_and, List.getD_cons_zero, List.getD_cons_succ, List.contains_cons, List.contains_nil, Bool.or_true, Bool.true_or, Bool.or_false, Bool.false_or, Nat.reduceBEq, *]; done) | fail)) only [i7, go_sem, Hold.p, HoldK.k, HoldL.K, HoldL.body, Nat.reduceBEq, Nat.reduceAdd, reduceIte]
      exact ⟨xs, o.sl, hxl, S, V, fun l i n hv => (o.at_ ⟨i, n, hv⟩).1⟩
end
end Go.Proofs.YtdpaehdolhdjdaaDoor

namespace Go.Proofs.YtdpaehdolhdjdaaDoor
open Go Go.IW
section
attribute [local go_sem] List.getElem?_cons_zero List.getElem?_cons_succ Option.bind_some List.map_cons List.map_nil Nat.zero_add if_true List.getD_cons_zero List.getD_cons_succ List.contains_cons List.contains_nil Bool.or_true Bool.true_or Bool.or_false Bool.false_or Bool.not_true Bool.not_false true_and and_true rowA_whole mid_get stO_mid rowO_rows cellO_rows push_n set_n push_at push_old set_here set_there set_pushT set_pushN set_set upd_ne Nat.add_assoc Nat.add_zero stO_1s stO_ws boxA_s List.all_cons List.all_nil one_bool one_int one_str one_ptr one_nilptr one_slice one_eslice one_nilslice one_func one_iface one_niliface Bool.and_true Bool.and_self List.length_cons List.length_nil Nat.one_ne_zero Nat.succ_ne_zero if_false List.set_cons_zero List.set_cons_succ lay_nil lay_1 lay_w Option.map_some

/-- Nothing old has turned but one object and a stretch of them. -/
structure Sav2 (p lo hi : Nat) (h g : IH) : Prop where
  le : h.n ≤ g.n
  obj : ∀ m, m < h.n → m ≠ p → (m < lo ∨ hi ≤ m) → g.obj m = h.obj m
theorem _root_.Go.IW.Sav.two {p lo hi : Nat} {h g : IH} (V : Sav p h g) : Sav2 p lo hi h g := ⟨V.le, fun m hm hp _ => V.obj m hm hp⟩
set_option maxRecDepth 20000 in
theorem l19Cut_c (h : IH) (p lo hi : Nat) (v w : IV) (code bs : List UInt8) (S : Src h p v code) (o : Own lo hi h 5 1 w (strRows bs)) (hhi : hi ≤ h.n) (hl : code.length ≤ 1048576) (hbl : bs.length ≤ 1048576) (hpn : p < h.n) (hp : p < lo ∨ hi ≤ p) :
    ICalls Tryd.prog 89 [.ptr p 0 0, w] h fun r h' => ∃ bs' : List UInt8, SlR h' 1 r (strRows bs') ∧ bs'.length ≤ bs.length + 1 ∧ Sav2 p lo hi h h' := by
  refine icalls (.of ok89) (Nat.le_of_ble_eq_true rfl) ?_
  unfold c89
  have S0 := S
  simp (disch := (first | omega | assumption | (simp only [push_n, set_n, put_n, List.length_cons, List.length_nil, List.length_append, Nat.reduceAdd]; done) | (simp only [push_n, set_n, put_n, List.length_cons, List.length_nil, List.length_append]; omega) | (simp only [List.all_cons, List.all_nil, one_bool, one_int, one_str, one_ptr, one_nilptr, one_slice, one_eslice, one_nilslice, one_func, one_iface, one_niliface, Bool.and_true, Bool.true_and, List.getD_cons_zero, List.getD_cons_succ, List.contains_cons, List.contains_nil, Bool.or_true, Bool.true_or, Bool.or_false, Bool.false_or, Nat.reduceBEq, *]; done) | fail)) only [go_sem, Hold.p, HoldK.k, HoldL.K, HoldL.body, Nat.reduceBEq, Nat.reduceAdd, reduceIte]
  refine callA_of (l01Next_c h p v code 10 S (by omega) (by omega) hl) ?_
  rintro r g ⟨k, rfl, _, _, S, V, hn⟩
  have o := o.sav V (by omega)
  have ol := o.lenF
  rw [strRows_len] at ol
  have w1 : wr .i64 ((bs.length : Int) + 1) = (bs.length : Int) + 1 := wr64 _ (by omega)
  simp (disch := (first | omega | assumption | (simp only [push_n, set_n, put_n, List.length_cons, List.length_nil, List.length_append, Nat.reduceAdd]; done) | (simp only [push_n, set_n, put_n, List.length_cons, List.length_nil, List.length_append]; omega) | (simp only [List.all_cons, List.all_nil, one_bool, one_int, one_str, one_ptr, one_nilptr, one_slice, one_eslice, one_nilslice, one_func, one_iface, one_niliface, Bool.and_true, Bool.true_and, List.getD_cons_zero, List.getD_cons_succ, List.contains_cons, List.contains_nil, Bool.or_true, Bool.true_or, Bool.or_false, Bool.false_or, Nat.reduceBEq, *]; done) | fail)) only [go_sem, Hold.p, HoldK.k, HoldL.K, HoldL.body, Nat.reduceBEq, Nat.reduceAdd, reduceIte]
  refine test_dec (fun hb => ?_) (fun hb => ?_)
  · simp (disch := (first | omega | assumption | (simp only [push_n, set_n, put_n, List.length_cons, List.length_nil, List.length_append, Nat.reduceAdd]; done) | (simp only [push_n, set_n, put_n, List.length_cons, List.length_nil, List.length_append]; omega) | (simp only [List.all_cons, List.all_nil, one_bool, one_int, one_str, one_ptr, one_nilptr, one_slice, one_eslice, one_nilslice, one_func, one_iface, one_niliface, Bool.and_true, Bool.true_and, List.getD_cons_zero, List.getD_cons_succ, List.contains_cons, List.contains_nil, Bool.or_true, Bool.true_or, Bool.or_false, Bool.false_or, Nat.reduceBEq, *]; done) | fail)) only [ol, w1, go_sem, Hold.p, HoldK.k, HoldL.K, HoldL.body, Nat.reduceBEq, Nat.reduceAdd, reduceIte]
    refine callA_of (l01Next_c g p v code ((bs.length : Int) + 1) S (by omega) (by omega) hl) ?_
    rintro r g2 ⟨y, rfl, y0, y1, S2, V2, hn2⟩
    have o2 := o.sav V2 (by omega)
    obtain ⟨m, rfl⟩ : ∃ m : Nat, y = (m : Int) := ⟨y.toNat, by omega⟩
    obtain ⟨v2, hv2, s3⟩ := o2.sl.hi (b := m) (q := .i64) (by rw [strRows_len]; omega)
    rw [strRows_take] at s3
    simp (disch := (first | omega | assumption | (simp only [push_n, set_n, put_n, List.length_cons, List.length_nil, List.length_append, Nat.reduceAdd]; done) | (simp only [push_n, set_n, put_n, List.length_cons, List.length_nil, List.length_append]; omega) | (simp only [List.all_cons, List.all_nil, one_bool, one_int, one_str, one_ptr, one_nilptr, one_slice, one_eslice, one_nilslice, one_func, one_iface, one_niliface, Bool.and_true, Bool.true_and, List.getD_cons_zero, List.getD_cons_succ, List.contains_cons, List.contains_nil, Bool.or_true, Bool.true_or, Bool.or_false, Bool.false_or, Nat.reduceBEq, *]; done) | fail)) only [hv2, Option.map_some, Option.map_none, go_sem, Hold.p, HoldK.k, HoldL.K, HoldL.body, Nat.reduceBEq, Nat.reduceAdd, reduceIte]
    exact ⟨_, s3, by rw [List.length_take]; omega, (V.trans V2).two⟩
  simp (disch := (first | omega | assumption | (simp only [push_n, set_n, put_n, List.length_cons, List.length_nil, List.length_append, Nat.reduceAdd]; done) | (simp only [push_n, set_n, put_n, List.length_cons, List.length_nil, List.length_append]; omega) | (simp only [List.all_cons, List.all_nil, one_bool, one_int, one_str, one_ptr, one_nilptr, one_slice, one_eslice, one_nilslice, one_func, one_iface, one_niliface, Bool.and_true, Bool.true_and, List.getD_cons_zero, List.getD_cons_succ, List.contains_cons, List.contains_nil, Bool.or_true, Bool.true_or, Bool.or_false, Bool.false_or, Nat.reduceBEq, *]; done) | fail)) only [go_sem, Hold.p, HoldK.k, HoldL.K, HoldL.body, Nat.reduceBEq, Nat.reduceAdd, reduceIte]
  refine test_dec (fun hb => ?_) (fun hb => ?_)
  · simp (disch := (first | omega | assumption | (simp only [push_n, set_n, put_n, List.length_cons, List.length_nil, List.length_append, Nat.reduceAdd]; done) | (simp only [push_n, set_n, put_n, List.length_cons, List.length_nil, List.length_append]; omega) | (simp only [List.all_cons, List.all_nil, one_bool, one_int, one_str, one_ptr, one_nilptr, one_slice, one_eslice, one_nilslice, one_func, one_iface, one_niliface, Bool.and_true, Bool.true_and, List.getD_cons_zero, List.getD_cons_succ, List.contains_cons, List.contains_nil, Bool.or_true, Bool.true_or, Bool.or_false, Bool.false_or, Nat.reduceBEq, *]; done) | fail)) only [bslA_1, go_sem, Hold.p, HoldK.k, HoldL.K, HoldL.body, Nat.reduceBEq, Nat.reduceAdd, reduceIte]
    generalize hq_g2 : IH.push g (IObj.rows [[.int .u8 7]] 5 1 false) = g2
    have e_g2 : Ext g g2 := by rw [← hq_g2]; exact (Ext.refl _).push _
    have l_g2 : g2.n = g.n + 1 := by rw [← hq_g2]; rfl
    have ba : At g2 g.n (IObj.rows [[.int .u8 7]] 5 1 false) := by rw [← hq_g2]; exact At.new _ _
    clear hq_g2
    have o := o.ext e_g2
    try simp (disch := (first | omega | assumption | (simp only [push_n, set_n, put_n, List.length_cons, List.length_nil, List.length_append, Nat.reduceAdd]; done) | (simp only [push_n, set_n, put_n, List.length_cons, List.length_nil, List.length_append]; omega) | (simp only [List.all_cons, List.all_nil, one_bool, one_int, one_str, one_ptr, one_nilptr, one_slice, one_eslice, one_nilslice, one_func, one_iface, one_niliface, Bool.and_true, Bool.true_and, List.getD_cons_zero, List.getD_cons_succ, List.contains_cons, List.contains_nil, Bool.or_true, Bool.true_or, Bool.or_false, Bool.false_or, Nat.reduceBEq, *]; done) | fail)) only [ba.eq, go_sem, Hold.p, HoldK.k, HoldL.K, HoldL.body, Nat.reduceBEq, Nat.reduceAdd, reduceIte]
    refine o.app (by simp) (by rw [strRows_len, List.length_singleton]; omega) ?_
    intro v6 h6 o6 t6 n6 v6o v6c
    have ht6 := t6.le
    simp (disch := (first | omega | assumption | (simp only [push_n, set_n, put_n, List.length_cons, List.length_nil, List.length_append, Nat.reduceAdd]; done) | (simp only [push_n, set_n, put_n, List.length_cons, List.length_nil, List.length_append]; omega) | (simp only [List.all_cons, List.all_nil, one_bool, one_int, one_str, one_ptr, one_nilptr, one_slice, one_eslice, one_nilslice, one_func, one_iface, one_niliface, Bool.and_true, Bool.true_and, List.getD_cons_zero, List.getD_cons_succ, List.contains_cons, List.contains_nil, Bool.or_true, Bool.true_or, Bool.or_false, Bool.false_or, Nat.reduceBEq, *]; done) | fail)) only [go_sem, Hold.p, HoldK.k, HoldL.K, HoldL.body, Nat.reduceBEq, Nat.reduceAdd, reduceIte]
    refine ⟨bs ++ [7], ?_, by simp, ⟨by have := V.le; omega, fun m hm hp hlh => ?_⟩⟩
    · rw [strRows_append]; exact o6.sl
    · exact (t6.obj m (by omega) (fun hv => by have := o.at_ hv; omega)).trans ((e_g2.obj m (by omega)).trans (V.obj m hm hp))
  simp (disch := (first | omega | assumption | (simp only [push_n, set_n, put_n, List.length_cons, List.length_nil, List.length_append, Nat.reduceAdd]; done) | (simp only [push_n, set_n, put_n, List.length_cons, List.length_nil, List.length_append]; omega) | (simp only [List.all_cons, List.all_nil, one_bool, one_int, one_str, one_ptr, one_nilptr, one_slice, one_eslice, one_nilslice, one_func, one_iface, one_niliface, Bool.and_true, Bool.true_and, List.getD_cons_zero, List.getD_cons_succ, List.contains_cons, List.contains_nil, Bool.or_true, Bool.true_or, Bool.or_false, Bool.false_or, Nat.reduceBEq, *]; done) | fail)) only [go_sem, Hold.p, HoldK.k, HoldL.K, HoldL.body, Nat.reduceBEq, Nat.reduceAdd, reduceIte]
  refine test_dec (fun hb => ?_) (fun hb => ?_)
  · simp (disch := (first | omega | assumption | (simp only [push_n, set_n, put_n, List.length_cons, List.length_nil, List.length_append, Nat.reduceAdd]; done) | (simp only [push_n, set_n, put_n, List.length_cons, List.length_nil, List.length_append]; omega) | (simp only [List.all_cons, List.all_nil, one_bool, one_int, one_str, one_ptr, one_nilptr, one_slice, one_eslice, one_nilslice, one_func, one_iface, one_niliface, Bool.and_true, Bool.true_and, List.getD_cons_zero, List.getD_cons_succ, List.contains_cons, List.contains_nil, Bool.or_true, Bool.true_or, Bool.or_false, Bool.false_or, Nat.reduceBEq, *]; done) | fail)) only [go_sem, Hold.p, HoldK.k, HoldL.K, HoldL.body, Nat.reduceBEq, Nat.reduceAdd, reduceIte]
    refine callA_of (l03Flip_c g p v w code bs 6 S o.sl hl (by omega) (by omega) (by omega) (by omega)) ?_
    rintro r g2 ⟨bs', s2, hl2, _, V2, _⟩
    simp (disch := (first | omega | assumption | (simp only [push_n, set_n, put_n, List.length_cons, List.length_nil, List.length_append, Nat.reduceAdd]; done) | (simp only [push_n, set_n, put_n, List.length_cons, List.length_nil, List.length_append]; omega) | (simp only [List.all_cons, List.all_nil, one_bool, one_int, one_str, one_ptr, one_nilptr, one_slice, one_eslice, one_nilslice, one_func, one_iface, one_niliface, Bool.and_true, Bool.true_and, List.getD_cons_zero, List.getD_cons_succ, List.contains_cons, List.contains_nil, Bool.or_true, Bool.true_or, Bool.or_false, Bool.false_or, Nat.reduceBEq, *]; done) | fail)) only [go_sem, Hold.p, HoldK.k, HoldL.K, HoldL.body, Nat.reduceBEq, Nat.reduceAdd, reduceIte]
    exact ⟨bs', s2, by omega, (V.trans V2).two⟩
  simp (disch := (first | omega | assumption | (simp only [push_n, set_n, put_n, List.length_cons, List.length_nil, List.length_append, Nat.reduceAdd]; done) | (simp only [push_n, set_n, put_n, List.length_cons, List.length_nil, List.length_append]; omega) | (simp only [List.all_cons, List.all_nil, one_bool, one_int, one_str, one_ptr, one_nilptr, one_slice, one_eslice, one_nilslice, one_func, one_iface, one_niliface, Bool.and_true, Bool.true_and, List.getD_cons_zero, List.getD_cons_succ, List.contains_cons, List.contains_nil, Bool.or_true, Bool.true_or, Bool.or_false, Bool.false_or, Nat.reduceBEq, *]; done) | fail)) only [go_sem, Hold.p, HoldK.k, HoldL.K, HoldL.body, Nat.reduceBEq, Nat.reduceAdd, reduceIte]
  refine test_dec (fun hb => ?_) (fun hb => ?_)
  · simp (disch := (first | omega | assumption | (simp only [push_n, set_n, put_n, List.length_cons, List.length_nil, List.length_append, Nat.reduceAdd]; done) | (simp only [push_n, set_n, put_n, List.length_cons, List.length_nil, List.length_append]; omega) | (simp only [List.all_cons, List.all_nil, one_bool, one_int, one_str, one_ptr, one_nilptr, one_slice, one_eslice, one_nilslice, one_func, one_iface, one_niliface, Bool.and_true, Bool.true_and, List.getD_cons_zero, List.getD_cons_succ, List.contains_cons, List.contains_nil, Bool.or_true, Bool.true_or, Bool.or_false, Bool.false_or, Nat.reduceBEq, *]; done) | fail)) only [go_sem, Hold.p, HoldK.k, HoldL.K, HoldL.body, Nat.reduceBEq, Nat.reduceAdd, reduceIte]
    refine callA_of (l01Copy_c g w bs o.sl (by omega)) ?_
    rintro x g2 ⟨o2, E2⟩
    have ol2 := o2.lenF
    rw [strRows_len] at ol2
    have le2 := E2.le
    have S2 := S.ext E2
    simp (disch := (first | omega | assumption | (simp only [push_n, set_n, put_n, List.length_cons, List.length_nil, List.length_append, Nat.reduceAdd]; done) | (simp only [push_n, set_n, put_n, List.length_cons, List.length_nil, List.length_append]; omega) | (simp only [List.all_cons, List.all_nil, one_bool, one_int, one_str, one_ptr, one_nilptr, one_slice, one_eslice, one_nilslice, one_func, one_iface, one_niliface, Bool.and_true, Bool.true_and, List.getD_cons_zero, List.getD_cons_succ, List.contains_cons, List.contains_nil, Bool.or_true, Bool.true_or, Bool.or_false, Bool.false_or, Nat.reduceBEq, *]; done) | fail)) only [ol2, go_sem, Hold.p, HoldK.k, HoldL.K, HoldL.body, Nat.reduceBEq, Nat.reduceAdd, reduceIte]
    refine test_dec (fun hb => ?_) (fun hb => ?_)
    · simp (disch := (first | omega | assumption | (simp only [push_n, set_n, put_n, List.length_cons, List.length_nil, List.length_append, Nat.reduceAdd]; done) | (simp only [push_n, set_n, put_n, List.length_cons, List.length_nil, List.length_append]; omega) | (simp only [List.all_cons, List.all_nil, one_bool, one_int, one_str, one_ptr, one_nilptr, one_slice, one_eslice, one_nilslice, one_func, one_iface, one_niliface, Bool.and_true, Bool.true_and, List.getD_cons_zero, List.getD_cons_succ, List.contains_cons, List.contains_nil, Bool.or_true, Bool.true_or, Bool.or_false, Bool.false_or, Nat.reduceBEq, *]; done) | fail)) only [go_sem, Hold.p, HoldK.k, HoldL.K, HoldL.body, Nat.reduceBEq, Nat.reduceAdd, reduceIte]
      refine callA_of (l01Next_c g2 p v code 3 S2 (by omega) (by omega) hl) ?_
      rintro r g3 ⟨y, rfl, y0, y1, S3, V3, hn3⟩
      have o3 := o2.sav V3 (by omega)
      obtain ⟨l, l1, l2, l3, hia, _, hst⟩ := store1 o3 (k := 2) (by omega)
      have hia2 : iadrF g3 1 x (.int .i64 2) = some (.ptr l 2 0) := hia .i64
      have hst1 := fun b => (hst b).1
      simp (disch := (first | omega | assumption | (simp only [push_n, set_n, put_n, List.length_cons, List.length_nil, List.length_append, Nat.reduceAdd]; done) | (simp only [push_n, set_n, put_n, List.length_cons, List.length_nil, List.length_append]; omega) | (simp only [List.all_cons, List.all_nil, one_bool, one_int, one_str, one_ptr, one_nilptr, one_slice, one_eslice, one_nilslice, one_func, one_iface, one_niliface, Bool.and_true, Bool.true_and, List.getD_cons_zero, List.getD_cons_succ, List.contains_cons, List.contains_nil, Bool.or_true, Bool.true_or, Bool.or_false, Bool.false_or, Nat.reduceBEq, *]; done) | fail)) only [hia2, wr_u8, hst1, go_sem, Hold.p, HoldK.k, HoldL.K, HoldL.body, Nat.reduceBEq, Nat.reduceAdd, reduceIte]
      exact ⟨_, (hst _).2.sl, by rw [List.length_set]; omega, (((V.ext E2).trans V3).set (.inl (by have := V.le; omega)) _).two⟩
    · simp (disch := (first | omega | assumption | (simp only [push_n, set_n, put_n, List.length_cons, List.length_nil, List.length_append, Nat.reduceAdd]; done) | (simp only [push_n, set_n, put_n, List.length_cons, List.length_nil, List.length_append]; omega) | (simp only [List.all_cons, List.all_nil, one_bool, one_int, one_str, one_ptr, one_nilptr, one_slice, one_eslice, one_nilslice, one_func, one_iface, one_niliface, Bool.and_true, Bool.true_and, List.getD_cons_zero, List.getD_cons_succ, List.contains_cons, List.contains_nil, Bool.or_true, Bool.true_or, Bool.or_false, Bool.false_or, Nat.reduceBEq, *]; done) | fail)) only [go_sem, Hold.p, HoldK.k, HoldL.K, HoldL.body, Nat.reduceBEq, Nat.reduceAdd, reduceIte]
      exact ⟨bs, o2.sl, by omega, (V.ext E2).two⟩
  · simp (disch := (first | omega | assumption | (simp only [push_n, set_n, put_n, List.length_cons, List.length_nil, List.length_append, Nat.reduceAdd]; done) | (simp only [push_n, set_n, put_n, List.length_cons, List.length_nil, List.length_append]; omega) | (simp only [List.all_cons, List.all_nil, one_bool, one_int, one_str, one_ptr, one_nilptr, one_slice, one_eslice, one_nilslice, one_func, one_iface, one_niliface, Bool.and_true, Bool.true_and, List.getD_cons_zero, List.getD_cons_succ, List.contains_cons, List.contains_nil, Bool.or_true, Bool.true_or, Bool.or_false, Bool.false_or, Nat.reduceBEq, *]; done) | fail)) only [go_sem, Hold.p, HoldK.k, HoldL.K, HoldL.body, Nat.reduceBEq, Nat.reduceAdd, reduceIte]
    exact ⟨bs, o.sl, by omega, V.two⟩
end
end Go.Proofs.YtdpaehdolhdjdaaDoor

namespace Go.Proofs.YtdpaehdolhdjdaaDoor
open Go Go.IW
section
attribute [local go_sem] List.getElem?_cons_zero List.getElem?_cons_succ Option.bind_some List.map_cons List.map_nil Nat.zero_add if_true List.getD_cons_zero List.getD_cons_succ List.contains_cons List.contains_nil Bool.or_true Bool.true_or Bool.or_false Bool.false_or Bool.not_true Bool.not_false true_and and_true rowA_whole mid_get stO_mid rowO_rows cellO_rows push_n set_n push_at push_old set_here set_there set_pushT set_pushN set_set upd_ne Nat.add_assoc Nat.add_zero stO_1s stO_ws boxA_s List.all_cons List.all_nil one_bool one_int one_str one_ptr one_nilptr one_slice one_eslice one_nilslice one_func one_iface one_niliface Bool.and_true Bool.and_self List.length_cons List.length_nil Nat.one_ne_zero Nat.succ_ne_zero if_false List.set_cons_zero List.set_cons_succ lay_nil lay_1 lay_w Option.map_some

def ops85 : List COp := [
   ⟨(some 6), none, .f (.mv (.t 0))⟩,
   ⟨(some 7), none, .x (.call 74 [(.t 6), (.c (.int .i64 65536))])⟩,
   ⟨(some 8), none, .x (.bslice 2 1 [(.int .i64 0)] 4 [(0, (.c (.int .i64 0))), (1, (.c (.int .i64 0))), (2, (.c (.int .i64 20))), (3, (.c (.int .i64 3)))])⟩,
   ⟨(some 9), none, .f (.mv (.t 0))⟩,
   ⟨(some 10), none, .x (.call 74 [(.t 9), (.c (.int .i64 4))])⟩,
   ⟨(some 11), none, .f (.iadr 1 (.t 8) (.t 10))⟩,
   ⟨(some 12), none, .f (.ld (.t 11))⟩,
   ⟨(some 13), none, .f (.mv (.t 0))⟩,
   ⟨(some 14), none, .x (.call 74 [(.t 13), (.c (.int .i64 300))])⟩,
   ⟨(some 15), none, .f (.mv (.t 0))⟩,
   ⟨(some 16), none, .x (.call 127 [(.t 15)])⟩,
   ⟨(some 17), none, .f (.build [(.int .i64 0), (.int .i64 0), (.int .i64 0), (.str []), .nilslice] [(0, 1, (.t 7)), (1, 1, (.t 12)), (2, 1, (.t 14)), (3, 1, (.t 16))])⟩,
   ⟨(some 3), none, .x (.zero 54 5 [(.int .i64 0), (.int .i64 0), (.int .i64 0), (.str []), .nilslice])⟩,
   ⟨none, none, .x (.st 5 (.t 3) (.t 17))⟩]
def anc85 : List (List Nat) := [[], [0], [], [], [3, 1, 0], [2, 4, 3, 1, 0], [5, 2, 4, 3, 1, 0], [], [7, 4, 3, 1, 0], [], [9, 8, 7, 4, 3, 1, 0], [1, 0, 6, 5, 2, 4, 3, 8, 7, 10, 9], [], [12, 11, 1, 0, 6, 5, 2, 4, 3, 8, 7, 10, 9]]
def tree85 : DT := (.fl 0 (.fl 3 (.fl 7 (.fl 9 (.br 1 (.br 2 (.br 4 (.fl 5 (.fl 6 (.br 8 (.br 10 (.fl 11 (.br 12 (.br 13 .fin .stop) .stop)) (.br 12 (.br 10 (.fl 11 (.br 13 .fin .stop)) .stop) .stop)) (.br 12 (.br 8 (.br 10 (.fl 11 (.br 13 .fin .stop)) .stop) .stop) .stop)))) (.br 12 (.br 4 (.fl 5 (.fl 6 (.br 8 (.br 10 (.fl 11 (.br 13 .fin .stop)) .stop) .stop))) .stop) .stop)) (.br 4 (.br 2 (.fl 5 (.fl 6 (.br 8 (.br 10 (.fl 11 (.br 12 (.br 13 .fin .stop) .stop)) (.br 12 (.br 10 (.fl 11 (.br 13 .fin .stop)) .stop) .stop)) (.br 12 (.br 8 (.br 10 (.fl 11 (.br 13 .fin .stop)) .stop) .stop) .stop)))) (.br 8 (.br 2 (.fl 5 (.fl 6 (.br 10 (.fl 11 (.br 12 (.br 13 .fin .stop) .stop)) (.br 12 (.br 10 (.fl 11 (.br 13 .fin .stop)) .stop) .stop)))) (.br 10 (.br 2 (.fl 5 (.fl 6 (.fl 11 (.br 12 (.br 13 .fin .stop) .stop)))) (.br 12 (.br 2 (.fl 5 (.fl 6 (.fl 11 (.br 13 .fin .stop)))) .stop) .stop)) (.br 12 (.br 2 (.fl 5 (.fl 6 (.br 10 (.fl 11 (.br 13 .fin .stop)) .stop))) (.br 10 (.br 2 (.fl 5 (.fl 6 (.fl 11 (.br 13 .fin .stop)))) .stop) .stop)) .stop))) (.br 12 (.br 2 (.fl 5 (.fl 6 (.br 8 (.br 10 (.fl 11 (.br 13 .fin .stop)) .stop) .stop))) (.br 8 (.br 2 (.fl 5 (.fl 6 (.br 10 (.fl 11 (.br 13 .fin .stop)) .stop))) (.br 10 (.br 2 (.fl 5 (.fl 6 (.fl 11 (.br 13 .fin .stop)))) .stop) .stop)) .stop)) .stop))) (.br 12 (.br 2 (.br 4 (.fl 5 (.fl 6 (.br 8 (.br 10 (.fl 11 (.br 13 .fin .stop)) .stop) .stop))) .stop) (.br 4 (.br 2 (.fl 5 (.fl 6 (.br 8 (.br 10 (.fl 11 (.br 13 .fin .stop)) .stop) .stop))) (.br 8 (.br 2 (.fl 5 (.fl 6 (.br 10 (.fl 11 (.br 13 .fin .stop)) .stop))) (.br 10 (.br 2 (.fl 5 (.fl 6 (.fl 11 (.br 13 .fin .stop)))) .stop) .stop)) .stop)) .stop)) .stop))) (.br 2 (.br 1 (.br 4 (.fl 5 (.fl 6 (.br 8 (.br 10 (.fl 11 (.br 12 (.br 13 .fin .stop) .stop)) (.br 12 (.br 10 (.fl 11 (.br 13 .fin .stop)) .stop) .stop)) (.br 12 (.br 8 (.br 10 (.fl 11 (.br 13 .fin .stop)) .stop) .stop) .stop)))) (.br 12 (.br 4 (.fl 5 (.fl 6 (.br 8 (.br 10 (.fl 11 (.br 13 .fin .stop)) .stop) .stop))) .stop) .stop)) (.br 12 (.br 1 (.br 4 (.fl 5 (.fl 6 (.br 8 (.br 10 (.fl 11 (.br 13 .fin .stop)) .stop) .stop))) .stop) .stop) .stop)) (.br 12 (.br 1 (.br 2 (.br 4 (.fl 5 (.fl 6 (.br 8 (.br 10 (.fl 11 (.br 13 .fin .stop)) .stop) .stop))) .stop) (.br 4 (.br 2 (.fl 5 (.fl 6 (.br 8 (.br 10 (.fl 11 (.br 13 .fin .stop)) .stop) .stop))) (.br 8 (.br 2 (.fl 5 (.fl 6 (.br 10 (.fl 11 (.br 13 .fin .stop)) .stop))) (.br 10 (.br 2 (.fl 5 (.fl 6 (.fl 11 (.br 13 .fin .stop)))) .stop) .stop)) .stop)) .stop)) (.br 2 (.br 1 (.br 4 (.fl 5 (.fl 6 (.br 8 (.br 10 (.fl 11 (.br 13 .fin .stop)) .stop) .stop))) .stop) .stop) .stop)) .stop)))))))
def cod85 : IObj := .rows [[.int .i64 0], [.int .i64 0], [.int .i64 20], [.int .i64 3]] 2 1 false
def zer85 : IObj := .rows [[.int .i64 0, .int .i64 0, .int .i64 0, .str [], .nilslice]] 54 5 false
/-- What each operation leaves. -/
def F85 (p b : Nat) : Nat → Env → IH → Prop
  | 0, e, _ => e 0 = .ptr p 0 0 ∧ e 6 = .ptr p 0 0
  | 1, e, _ => ∃ x : Int, e 7 = .int .i64 x
  | 2, e, h => ∃ l, e 8 = .slice l 0 4 ∧ l ≠ p ∧ At h l cod85
  | 3, e, _ => e 0 = .ptr p 0 0 ∧ e 9 = .ptr p 0 0
  | 4, e, _ => ∃ k : Nat, k < 4 ∧ e 10 = .int .i64 (k : Nat)
  | 5, e, h => ∃ l k : Nat, k < 4 ∧ l ≠ p ∧ At h l cod85 ∧ e 8 = .slice l 0 4 ∧ e 10 = .int .i64 (k : Nat) ∧ e 11 = .ptr l k 0
  | 6, e, h => ∃ (l k : Nat) (z : Int), k < 4 ∧ l ≠ p ∧ At h l cod85 ∧ e 11 = .ptr l k 0 ∧ cellO cod85 k 0 = some (.int .i64 z) ∧ e 12 = .int .i64 z
  | 7, e, _ => e 0 = .ptr p 0 0 ∧ e 13 = .ptr p 0 0
  | 8, e, _ => ∃ x : Int, e 14 = .int .i64 x
  | 9, e, _ => e 0 = .ptr p 0 0 ∧ e 15 = .ptr p 0 0
  | 10, e, _ => ∃ s : List UInt8, e 16 = .str s ∧ s.length ≤ 17
  | 11, e, _ => ∃ (x z y : Int) (s : List UInt8), e 7 = .int .i64 x ∧ e 12 = .int .i64 z ∧ e 14 = .int .i64 y ∧ e 16 = .str s ∧ s.length ≤ 17 ∧ e 17 = .agg [.int .i64 x, .int .i64 z, .int .i64 y, .str s, .nilslice]
  | 12, e, h => ∃ q, e 3 = .ptr q 0 0 ∧ b < q ∧ At h q zer85
  | _, _, _ => False
def rd85 : List (List Nat) := [[0, 6], [7], [8], [0, 9], [10], [8, 10, 11], [11, 12], [0, 13], [14], [0, 15], [16], [7, 12, 14, 16, 17], [3]]
def ds85 : List Nat := [6, 7, 8, 9, 10, 11, 12, 13, 14, 15, 16, 17, 3]
theorem disj85 : ∀ i j : Fin 13, j ≠ i → i.val ∉ anc85.getD j.val [] → ds85.getD i.val 0 ∉ rd85.getD j.val [] := by decide
theorem ext85 {p b : Nat} {e e' : Env} {h h' : IH} (hpb : p < b) (V : Sav p h h') : ∀ j, j < 13 → (∀ x ∈ rd85.getD j [], e' x = e x) → F85 p b j e h → F85 p b j e' h'
  | 0, _, hr, hf => by simp only [F85, hr 0 (by decide), hr 6 (by decide)] at hf ⊢; exact hf
  | 1, _, hr, hf => by simp only [F85, hr 7 (by decide)] at hf ⊢; exact hf
  | 2, _, hr, hf => by
    simp only [F85, hr 8 (by decide)] at hf ⊢
    obtain ⟨l, h1, h2, h3⟩ := hf
    exact ⟨l, h1, h2, h3.sav V h2⟩
  | 3, _, hr, hf => by simp only [F85, hr 0 (by decide), hr 9 (by decide)] at hf ⊢; exact hf
  | 4, _, hr, hf => by simp only [F85, hr 10 (by decide)] at hf ⊢; exact hf
  | 5, _, hr, hf => by
    simp only [F85, hr 8 (by decide), hr 10 (by decide), hr 11 (by decide)] at hf ⊢
    obtain ⟨l, k, h1, h2, h3, h4⟩ := hf
    exact ⟨l, k, h1, h2, h3.sav V h2, h4⟩
  | 6, _, hr, hf => by
    simp only [F85, hr 11 (by decide), hr 12 (by decide)] at hf ⊢
    obtain ⟨l, k, z, h1, h2, h3, h4⟩ := hf
    exact ⟨l, k, z, h1, h2, h3.sav V h2, h4⟩
  | 7, _, hr, hf => by simp only [F85, hr 0 (by decide), hr 13 (by decide)] at hf ⊢; exact hf
  | 8, _, hr, hf => by simp only [F85, hr 14 (by decide)] at hf ⊢; exact hf
  | 9, _, hr, hf => by simp only [F85, hr 0 (by decide), hr 15 (by decide)] at hf ⊢; exact hf
  | 10, _, hr, hf => by simp only [F85, hr 16 (by decide)] at hf ⊢; exact hf
  | 11, _, hr, hf => by
    simp only [F85, hr 7 (by decide), hr 12 (by decide), hr 14 (by decide), hr 16 (by decide), hr 17 (by decide)] at hf ⊢
    exact hf
  | 12, _, hr, hf => by
    simp only [F85, hr 3 (by decide)] at hf ⊢
    obtain ⟨q, h1, h2, h3⟩ := hf
    exact ⟨q, h1, h2, h3.sav V (by omega)⟩
  | _ + 13, hj, _, _ => by omega
theorem stab85 {p b : Nat} {e : Env} {h h' : IH} (hpb : p < b) (V : Sav p h h') (i : Nat) (hi : i < 13) (v : IV) : ∀ j, j < 13 → j ≠ i → i ∉ anc85.getD j [] → F85 p b j e h → F85 p b j (upd e (ds85.getD i 0) v) h' := by
  intro j hj hji hn hf
  refine ext85 hpb V j hj (fun x hx => ?_) hf
  have := disj85 ⟨i, hi⟩ ⟨j, hj⟩ (fun hc => hji (Fin.mk.inj hc)) hn
  exact upd_ne _ _ (fun hc => this (hc ▸ hx))
theorem row85 (k : Nat) (hk : k < 4) : ∃ z : Int, cellO cod85 k 0 = some (.int .i64 z) := by
  match k, hk with
  | 0, _ => exact ⟨_, rfl⟩
  | 1, _ => exact ⟨_, rfl⟩
  | 2, _ => exact ⟨_, rfl⟩
  | 3, _ => exact ⟨_, rfl⟩
theorem iad85 {h : IH} {l k : Nat} (hk : k < 4) (a : At h l cod85) : iadrF h 1 (.slice l 0 4) (.int .i64 (k : Nat)) = some (.ptr l k 0) := by
  rw [iadrF_nat hk (by rw [a.eq]; rfl), Nat.zero_add]
theorem again85 {p b : Nat} : ∀ j e h, j < 13 → F85 p b j e h → again (ops85.getD j default) e h
  | 0, e, h, _, hf => by obtain ⟨a, c⟩ := hf; show feval e h (.mv (.t 0)) = some (e 6); simp (disch := (first | omega | assumption | (simp only [push_n, set_n, put_n, List.length_cons, List.length_nil, List.length_append, Nat.reduceAdd]; done) | (simp only [push_n, set_n, put_n, List.length_cons, List.length_nil, List.length_append]; omega) | (simp only [List.all_cons, List.all_nil, one_bool, one_int, one_str, one_ptr, one_nilptr, one_slice, one_eslice, one_nilslice, one_func, one_iface, one_niliface, Bool.and_true, Bool.true_and, List.getD_cons_zero, List.getD_cons_succ, List.contains_cons, List.contains_nil, Bool.or_true, Bool.true_or, Bool.or_false, Bool.false_or, Nat.reduceBEq, *]; done) | fail)) only [a, c, go_sem, Hold.p, HoldK.k, HoldL.K, HoldL.body, Nat.reduceBEq, Nat.reduceAdd, reduceIte]
  | 1, _, _, _, _ => trivial
  | 2, _, _, _, _ => trivial
  | 3, e, h, _, hf => by obtain ⟨a, c⟩ := hf; show feval e h (.mv (.t 0)) = some (e 9); simp (disch := (first | omega | assumption | (simp only [push_n, set_n, put_n, List.length_cons, List.length_nil, List.length_append, Nat.reduceAdd]; done) | (simp only [push_n, set_n, put_n, List.length_cons, List.length_nil, List.length_append]; omega) | (simp only [List.all_cons, List.all_nil, one_bool, one_int, one_str, one_ptr, one_nilptr, one_slice, one_eslice, one_nilslice, one_func, one_iface, one_niliface, Bool.and_true, Bool.true_and, List.getD_cons_zero, List.getD_cons_succ, List.contains_cons, List.contains_nil, Bool.or_true, Bool.true_or, Bool.or_false, Bool.false_or, Nat.reduceBEq, *]; done) | fail)) only [a, c, go_sem, Hold.p, HoldK.k, HoldL.K, HoldL.body, Nat.reduceBEq, Nat.reduceAdd, reduceIte]
  | 4, _, _, _, _ => trivial
  | 5, e, h, _, hf => by
    obtain ⟨l, k, hk, _, a, h8, h10, h11⟩ := hf
    show feval e h (.iadr 1 (.t 8) (.t 10)) = some (e 11)
    have := iad85 hk a
    simp (disch := (first | omega | assumption | (simp only [push_n, set_n, put_n, List.length_cons, List.length_nil, List.length_append, Nat.reduceAdd]; done) | (simp only [push_n, set_n, put_n, List.length_cons, List.length_nil, List.length_append]; omega) | (simp only [List.all_cons, List.all_nil, one_bool, one_int, one_str, one_ptr, one_nilptr, one_slice, one_eslice, one_nilslice, one_func, one_iface, one_niliface, Bool.and_true, Bool.true_and, List.getD_cons_zero, List.getD_cons_succ, List.contains_cons, List.contains_nil, Bool.or_true, Bool.true_or, Bool.or_false, Bool.false_or, Nat.reduceBEq, *]; done) | fail)) only [h8, h10, h11, this, go_sem, Hold.p, HoldK.k, HoldL.K, HoldL.body, Nat.reduceBEq, Nat.reduceAdd, reduceIte]
  | 6, e, h, _, hf => by
    obtain ⟨l, k, z, hk, _, a, h11, hc, h12⟩ := hf
    show feval e h (.ld (.t 11)) = some (e 12)
    have := a.eq
    simp (disch := (first | omega | assumption | (simp only [push_n, set_n, put_n, List.length_cons, List.length_nil, List.length_append, Nat.reduceAdd]; done) | (simp only [push_n, set_n, put_n, List.length_cons, List.length_nil, List.length_append]; omega) | (simp only [List.all_cons, List.all_nil, one_bool, one_int, one_str, one_ptr, one_nilptr, one_slice, one_eslice, one_nilslice, one_func, one_iface, one_niliface, Bool.and_true, Bool.true_and, List.getD_cons_zero, List.getD_cons_succ, List.contains_cons, List.contains_nil, Bool.or_true, Bool.true_or, Bool.or_false, Bool.false_or, Nat.reduceBEq, *]; done) | fail)) only [h11, h12, this, hc, go_sem, Hold.p, HoldK.k, HoldL.K, HoldL.body, Nat.reduceBEq, Nat.reduceAdd, reduceIte]
  | 7, e, h, _, hf => by obtain ⟨a, c⟩ := hf; show feval e h (.mv (.t 0)) = some (e 13); simp (disch := (first | omega | assumption | (simp only [push_n, set_n, put_n, List.length_cons, List.length_nil, List.length_append, Nat.reduceAdd]; done) | (simp only [push_n, set_n, put_n, List.length_cons, List.length_nil, List.length_append]; omega) | (simp only [List.all_cons, List.all_nil, one_bool, one_int, one_str, one_ptr, one_nilptr, one_slice, one_eslice, one_nilslice, one_func, one_iface, one_niliface, Bool.and_true, Bool.true_and, List.getD_cons_zero, List.getD_cons_succ, List.contains_cons, List.contains_nil, Bool.or_true, Bool.true_or, Bool.or_false, Bool.false_or, Nat.reduceBEq, *]; done) | fail)) only [a, c, go_sem, Hold.p, HoldK.k, HoldL.K, HoldL.body, Nat.reduceBEq, Nat.reduceAdd, reduceIte]
  | 8, _, _, _, _ => trivial
  | 9, e, h, _, hf => by obtain ⟨a, c⟩ := hf; show feval e h (.mv (.t 0)) = some (e 15); simp (disch := (first | omega | assumption | (simp only [push_n, set_n, put_n, List.length_cons, List.length_nil, List.length_append, Nat.reduceAdd]; done) | (simp only [push_n, set_n, put_n, List.length_cons, List.length_nil, List.length_append]; omega) | (simp only [List.all_cons, List.all_nil, one_bool, one_int, one_str, one_ptr, one_nilptr, one_slice, one_eslice, one_nilslice, one_func, one_iface, one_niliface, Bool.and_true, Bool.true_and, List.getD_cons_zero, List.getD_cons_succ, List.contains_cons, List.contains_nil, Bool.or_true, Bool.true_or, Bool.or_false, Bool.false_or, Nat.reduceBEq, *]; done) | fail)) only [a, c, go_sem, Hold.p, HoldK.k, HoldL.K, HoldL.body, Nat.reduceBEq, Nat.reduceAdd, reduceIte]
  | 10, _, _, _, _ => trivial
  | 11, e, h, _, hf => by
    obtain ⟨x, z, y, s, h7, h12, h14, h16, _, h17⟩ := hf
    show feval e h (.build [(.int .i64 0), (.int .i64 0), (.int .i64 0), (.str []), .nilslice] [(0, 1, (.t 7)), (1, 1, (.t 12)), (2, 1, (.t 14)), (3, 1, (.t 16))]) = some (e 17)
    simp (disch := (first | omega | assumption | (simp only [push_n, set_n, put_n, List.length_cons, List.length_nil, List.length_append, Nat.reduceAdd]; done) | (simp only [push_n, set_n, put_n, List.length_cons, List.length_nil, List.length_append]; omega) | (simp only [List.all_cons, List.all_nil, one_bool, one_int, one_str, one_ptr, one_nilptr, one_slice, one_eslice, one_nilslice, one_func, one_iface, one_niliface, Bool.and_true, Bool.true_and, List.getD_cons_zero, List.getD_cons_succ, List.contains_cons, List.contains_nil, Bool.or_true, Bool.true_or, Bool.or_false, Bool.false_or, Nat.reduceBEq, *]; done) | fail)) only [h7, h12, h14, h16, h17, go_sem, Hold.p, HoldK.k, HoldL.K, HoldL.body, Nat.reduceBEq, Nat.reduceAdd, reduceIte]
  | 12, _, _, _, _ => trivial
  | _ + 13, _, _, hj, _ => by omega
theorem vo_f {P : Program} {e : Env} {h : IH} {d : Nat} {k : FK} {v : IV} {K : Env → IH → Prop} (hf : feval e h k = some v) (hk : K (upd e d v) h) : vcOp P ⟨some d, none, .f k⟩ K e h := by
  simp only [vcOp, vcK, hf]; exact hk
theorem vo_call {P : Program} {e : Env} {h : IH} {d f : Nat} {cs : List CX} {args : List IV} {Q : IV → IH → Prop} {K : Env → IH → Prop} (ha : cs.map (CX.ev e) = args) (hc : ICalls P f args h Q) (hk : ∀ v h', Q v h' → K (upd e d v) h') : vcOp P ⟨some d, none, .x (.call f cs)⟩ K e h := by
  subst ha
  exact hc.mono hk
theorem op85_2 {e : Env} {h : IH} {K : Env → IH → Prop} (hk : K (upd e 8 (.slice h.n 0 4)) (h.push cod85)) : vcOp Tryd.prog (ops85.getD 2 default) K e h := by
  show vcOp _ ⟨(some 8), none, .x (.bslice 2 1 [(.int .i64 0)] 4 [(0, (.c (.int .i64 0))), (1, (.c (.int .i64 0))), (2, (.c (.int .i64 20))), (3, (.c (.int .i64 3)))])⟩ K e h
  simp (disch := (first | omega | assumption | (simp only [push_n, set_n, put_n, List.length_cons, List.length_nil, List.length_append, Nat.reduceAdd]; done) | (simp only [push_n, set_n, put_n, List.length_cons, List.length_nil, List.length_append]; omega) | (simp only [List.all_cons, List.all_nil, one_bool, one_int, one_str, one_ptr, one_nilptr, one_slice, one_eslice, one_nilslice, one_func, one_iface, one_niliface, Bool.and_true, Bool.true_and, List.getD_cons_zero, List.getD_cons_succ, List.contains_cons, List.contains_nil, Bool.or_true, Bool.true_or, Bool.or_false, Bool.false_or, Nat.reduceBEq, *]; done) | fail)) only [go_sem, Hold.p, HoldK.k, HoldL.K, HoldL.body, Nat.reduceBEq, Nat.reduceAdd, reduceIte]
  refine bslA_of (rows := [[.int .i64 0], [.int .i64 0], [.int .i64 20], [.int .i64 3]]) (by decide) rfl (by decide) ?_
  exact hk
theorem op85_12 {e : Env} {h : IH} {K : Env → IH → Prop} (hk : K (upd e 3 (.ptr h.n 0 0)) (h.push zer85)) : vcOp Tryd.prog (ops85.getD 12 default) K e h := by
  show vcOp _ ⟨(some 3), none, .x (.zero 54 5 [(.int .i64 0), (.int .i64 0), (.int .i64 0), (.str []), .nilslice])⟩ K e h
  simp (disch := (first | omega | assumption | (simp only [push_n, set_n, put_n, List.length_cons, List.length_nil, List.length_append, Nat.reduceAdd]; done) | (simp only [push_n, set_n, put_n, List.length_cons, List.length_nil, List.length_append]; omega) | (simp only [List.all_cons, List.all_nil, one_bool, one_int, one_str, one_ptr, one_nilptr, one_slice, one_eslice, one_nilslice, one_func, one_iface, one_niliface, Bool.and_true, Bool.true_and, List.getD_cons_zero, List.getD_cons_succ, List.contains_cons, List.contains_nil, Bool.or_true, Bool.true_or, Bool.or_false, Bool.false_or, Nat.reduceBEq, *]; done) | fail)) only [go_sem, Hold.p, HoldK.k, HoldL.K, HoldL.body, Nat.reduceBEq, Nat.reduceAdd, reduceIte]
  exact hk
theorem op85_13 {e : Env} {h : IH} {K : Env → IH → Prop} {q : Nat} {x z y : Int} {s : List UInt8} (a3 : e 3 = .ptr q 0 0) (aq : At h q zer85) (a17 : e 17 = .agg [.int .i64 x, .int .i64 z, .int .i64 y, .str s, .nilslice])
    (hk : K e (h.set q (.rows [[.int .i64 x, .int .i64 z, .int .i64 y, .str s, .nilslice]] 54 5 false))) : vcOp Tryd.prog (ops85.getD 13 default) K e h := by
  show vcOp _ ⟨none, none, .x (.st 5 (.t 3) (.t 17))⟩ K e h
  have := aq.eq
  unfold zer85 at this
  simp (disch := (first | omega | assumption | (simp only [push_n, set_n, put_n, List.length_cons, List.length_nil, List.length_append, Nat.reduceAdd]; done) | (simp only [push_n, set_n, put_n, List.length_cons, List.length_nil, List.length_append]; omega) | (simp only [List.all_cons, List.all_nil, one_bool, one_int, one_str, one_ptr, one_nilptr, one_slice, one_eslice, one_nilslice, one_func, one_iface, one_niliface, Bool.and_true, Bool.true_and, List.getD_cons_zero, List.getD_cons_succ, List.contains_cons, List.contains_nil, Bool.or_true, Bool.true_or, Bool.or_false, Bool.false_or, Nat.reduceBEq, *]; done) | fail)) only [a3, a17, this, go_sem, Hold.p, HoldK.k, HoldL.K, HoldL.body, Nat.reduceBEq, Nat.reduceAdd, reduceIte]
  exact hk
def B85 (h0 : IH) (p : Nat) (v : IV) (code : List UInt8) (e : Env) (h : IH) : Prop := e 0 = .ptr p 0 0 ∧ e 2 = .ptr h0.n 0 0 ∧ At h h0.n zer85 ∧ Src h p v code ∧ Sav p h0 h
set_option maxRecDepth 20000 in
theorem step85 (h0 : IH) (p : Nat) (v : IV) (code : List UInt8) (hl : code.length ≤ 1048576) (hpn : p < h0.n) : ∀ i e h, i < 13 → B85 h0 p v code e h → (∀ j ∈ anc85.getD i [], F85 p h0.n j e h) →
    vcOp Tryd.prog (ops85.getD i default) (fun e' h' => B85 h0 p v code e' h' ∧ F85 p h0.n i e' h' ∧ ∀ j, j < 13 → j ≠ i → i ∉ anc85.getD j [] → F85 p h0.n j e h → F85 p h0.n j e' h') e h := by
  have B : ∀ {e : Env} {h h' : IH} (i : Nat) (v' : IV), i < 13 → B85 h0 p v code e h → Src h' p v code → Sav p h h' → B85 h0 p v code (upd e (ds85.getD i 0) v') h' := by
    intro e h h' i v' hi hB S' V
    obtain ⟨b0, b2, ba, _, bv⟩ := hB
    have hd : ∀ i : Fin 13, ds85.getD i.val 0 ≠ 0 ∧ ds85.getD i.val 0 ≠ 2 := by decide
    exact ⟨(upd_ne _ _ (hd ⟨i, hi⟩).1.symm).trans b0, (upd_ne _ _ (hd ⟨i, hi⟩).2.symm).trans b2, ba.sav V (by omega), S', bv.trans V⟩
  intro i e h hi hB hF
  have hB' := hB
  obtain ⟨b0, b2, ba, bs, bv⟩ := hB'
  have hle := bv.le
  have fl : ∀ (v' : IV), F85 p h0.n i (upd e (ds85.getD i 0) v') h → B85 h0 p v code (upd e (ds85.getD i 0) v') h ∧ F85 p h0.n i (upd e (ds85.getD i 0) v') h ∧ ∀ j, j < 13 → j ≠ i → i ∉ anc85.getD j [] → F85 p h0.n j e h → F85 p h0.n j (upd e (ds85.getD i 0) v') h :=
    fun v' hf => ⟨B i v' hi hB bs (Sav.refl _ _), hf, stab85 hpn (Sav.refl _ _) i hi v'⟩
  have ex : ∀ (v' : IV) (h' : IH), Src h' p v code → Sav p h h' → F85 p h0.n i (upd e (ds85.getD i 0) v') h' → B85 h0 p v code (upd e (ds85.getD i 0) v') h' ∧ F85 p h0.n i (upd e (ds85.getD i 0) v') h' ∧ ∀ j, j < 13 → j ≠ i → i ∉ anc85.getD j [] → F85 p h0.n j e h → F85 p h0.n j (upd e (ds85.getD i 0) v') h' :=
    fun v' h' S' V hf => ⟨B i v' hi hB S' V, hf, stab85 hpn V i hi v'⟩
  match i, hi with
  | 0, _ => exact vo_f (v := .ptr p 0 0) (by simp (disch := (first | omega | assumption | (simp only [push_n, set_n, put_n, List.length_cons, List.length_nil, List.length_append, Nat.reduceAdd]; done) | (simp only [push_n, set_n, put_n, List.length_cons, List.length_nil, List.length_append]; omega) | (simp only [List.all_cons, List.all_nil, one_bool, one_int, one_str, one_ptr, one_nilptr, one_slice, one_eslice, one_nilslice, one_func, one_iface, one_niliface, Bool.and_true, Bool.true_and, List.getD_cons_zero, List.getD_cons_succ, List.contains_cons, List.contains_nil, Bool.or_true, Bool.true_or, Bool.or_false, Bool.false_or, Nat.reduceBEq, *]; done) | fail)) only [b0, go_sem, Hold.p, HoldK.k, HoldL.K, HoldL.body, Nat.reduceBEq, Nat.reduceAdd, reduceIte]) (fl _ ⟨(upd_ne _ _ (by decide)).trans b0, upd_eq _ _ _⟩)
  | 1, _ =>
    have h6 : e 6 = .ptr p 0 0 := (hF 0 (by decide)).2
    refine vo_call (args := [.ptr p 0 0, .int .i64 65536]) (by simp (disch := (first | omega | assumption | (simp only [push_n, set_n, put_n, List.length_cons, List.length_nil, List.length_append, Nat.reduceAdd]; done) | (simp only [push_n, set_n, put_n, List.length_cons, List.length_nil, List.length_append]; omega) | (simp only [List.all_cons, List.all_nil, one_bool, one_int, one_str, one_ptr, one_nilptr, one_slice, one_eslice, one_nilslice, one_func, one_iface, one_niliface, Bool.and_true, Bool.true_and, List.getD_cons_zero, List.getD_cons_succ, List.contains_cons, List.contains_nil, Bool.or_true, Bool.true_or, Bool.or_false, Bool.false_or, Nat.reduceBEq, *]; done) | fail)) only [h6, go_sem, Hold.p, HoldK.k, HoldL.K, HoldL.body, Nat.reduceBEq, Nat.reduceAdd, reduceIte]) (l01Next_c h p v code _ bs (by omega) (by omega) hl) ?_
    rintro r h' ⟨x, rfl, _, _, S', V, _⟩
    exact ex _ h' S' V ⟨x, upd_eq _ _ _⟩
  | 2, _ =>
    exact op85_2 (ex _ _ (bs.ext ((Ext.refl _).push _)) ((Sav.refl _ _).ext ((Ext.refl _).push _)) ⟨_, upd_eq _ _ _, by omega, At.new _ _⟩)
  | 3, _ => exact vo_f (v := .ptr p 0 0) (by simp (disch := (first | omega | assumption | (simp only [push_n, set_n, put_n, List.length_cons, List.length_nil, List.length_append, Nat.reduceAdd]; done) | (simp only [push_n, set_n, put_n, List.length_cons, List.length_nil, List.length_append]; omega) | (simp only [List.all_cons, List.all_nil, one_bool, one_int, one_str, one_ptr, one_nilptr, one_slice, one_eslice, one_nilslice, one_func, one_iface, one_niliface, Bool.and_true, Bool.true_and, List.getD_cons_zero, List.getD_cons_succ, List.contains_cons, List.contains_nil, Bool.or_true, Bool.true_or, Bool.or_false, Bool.false_or, Nat.reduceBEq, *]; done) | fail)) only [b0, go_sem, Hold.p, HoldK.k, HoldL.K, HoldL.body, Nat.reduceBEq, Nat.reduceAdd, reduceIte]) (fl _ ⟨(upd_ne _ _ (by decide)).trans b0, upd_eq _ _ _⟩)
  | 4, _ =>
    have h9 : e 9 = .ptr p 0 0 := (hF 3 (by decide)).2
    refine vo_call (args := [.ptr p 0 0, .int .i64 4]) (by simp (disch := (first | omega | assumption | (simp only [push_n, set_n, put_n, List.length_cons, List.length_nil, List.length_append, Nat.reduceAdd]; done) | (simp only [push_n, set_n, put_n, List.length_cons, List.length_nil, List.length_append]; omega) | (simp only [List.all_cons, List.all_nil, one_bool, one_int, one_str, one_ptr, one_nilptr, one_slice, one_eslice, one_nilslice, one_func, one_iface, one_niliface, Bool.and_true, Bool.true_and, List.getD_cons_zero, List.getD_cons_succ, List.contains_cons, List.contains_nil, Bool.or_true, Bool.true_or, Bool.or_false, Bool.false_or, Nat.reduceBEq, *]; done) | fail)) only [h9, go_sem, Hold.p, HoldK.k, HoldL.K, HoldL.body, Nat.reduceBEq, Nat.reduceAdd, reduceIte]) (l01Next_c h p v code _ bs (by omega) (by omega) hl) ?_
    rintro r h' ⟨x, rfl, x0, x1, S', V, _⟩
    obtain ⟨k, rfl⟩ : ∃ m : Nat, x = (m : Int) := ⟨x.toNat, by omega⟩
    exact ex _ h' S' V ⟨k, by omega, upd_eq _ _ _⟩
  | 5, _ =>
    obtain ⟨l, h8, hlp, a⟩ := hF 2 (by decide)
    obtain ⟨k, hk, h10⟩ := hF 4 (by decide)
    have := iad85 hk a
    exact vo_f (v := .ptr l k 0) (by simp (disch := (first | omega | assumption | (simp only [push_n, set_n, put_n, List.length_cons, List.length_nil, List.length_append, Nat.reduceAdd]; done) | (simp only [push_n, set_n, put_n, List.length_cons, List.length_nil, List.length_append]; omega) | (simp only [List.all_cons, List.all_nil, one_bool, one_int, one_str, one_ptr, one_nilptr, one_slice, one_eslice, one_nilslice, one_func, one_iface, one_niliface, Bool.and_true, Bool.true_and, List.getD_cons_zero, List.getD_cons_succ, List.contains_cons, List.contains_nil, Bool.or_true, Bool.true_or, Bool.or_false, Bool.false_or, Nat.reduceBEq, *]; done) | fail)) only [h8, h10, this, go_sem, Hold.p, HoldK.k, HoldL.K, HoldL.body, Nat.reduceBEq, Nat.reduceAdd, reduceIte]) (fl _ ⟨l, k, hk, hlp, a, (upd_ne _ _ (by decide)).trans h8, (upd_ne _ _ (by decide)).trans h10, upd_eq _ _ _⟩)
  | 6, _ =>
    obtain ⟨l, k, hk, hlp, a, h8, h10, h11⟩ := hF 5 (by decide)
    obtain ⟨z, hz⟩ := row85 k hk
    have := a.eq
    exact vo_f (v := .int .i64 z) (by simp (disch := (first | omega | assumption | (simp only [push_n, set_n, put_n, List.length_cons, List.length_nil, List.length_append, Nat.reduceAdd]; done) | (simp only [push_n, set_n, put_n, List.length_cons, List.length_nil, List.length_append]; omega) | (simp only [List.all_cons, List.all_nil, one_bool, one_int, one_str, one_ptr, one_nilptr, one_slice, one_eslice, one_nilslice, one_func, one_iface, one_niliface, Bool.and_true, Bool.true_and, List.getD_cons_zero, List.getD_cons_succ, List.contains_cons, List.contains_nil, Bool.or_true, Bool.true_or, Bool.or_false, Bool.false_or, Nat.reduceBEq, *]; done) | fail)) only [h11, this, hz, go_sem, Hold.p, HoldK.k, HoldL.K, HoldL.body, Nat.reduceBEq, Nat.reduceAdd, reduceIte]) (fl _ ⟨l, k, z, hk, hlp, a, (upd_ne _ _ (by decide)).trans h11, hz, upd_eq _ _ _⟩)
  | 7, _ => exact vo_f (v := .ptr p 0 0) (by simp (disch := (first | omega | assumption | (simp only [push_n, set_n, put_n, List.length_cons, List.length_nil, List.length_append, Nat.reduceAdd]; done) | (simp only [push_n, set_n, put_n, List.length_cons, List.length_nil, List.length_append]; omega) | (simp only [List.all_cons, List.all_nil, one_bool, one_int, one_str, one_ptr, one_nilptr, one_slice, one_eslice, one_nilslice, one_func, one_iface, one_niliface, Bool.and_true, Bool.true_and, List.getD_cons_zero, List.getD_cons_succ, List.contains_cons, List.contains_nil, Bool.or_true, Bool.true_or, Bool.or_false, Bool.false_or, Nat.reduceBEq, *]; done) | fail)) only [b0, go_sem, Hold.p, HoldK.k, HoldL.K, HoldL.body, Nat.reduceBEq, Nat.reduceAdd, reduceIte]) (fl _ ⟨(upd_ne _ _ (by decide)).trans b0, upd_eq _ _ _⟩)
  | 8, _ =>
    have h13 : e 13 = .ptr p 0 0 := (hF 7 (by decide)).2
    refine vo_call (args := [.ptr p 0 0, .int .i64 300]) (by simp (disch := (first | omega | assumption | (simp only [push_n, set_n, put_n, List.length_cons, List.length_nil, List.length_append, Nat.reduceAdd]; done) | (simp only [push_n, set_n, put_n, List.length_cons, List.length_nil, List.length_append]; omega) | (simp only [List.all_cons, List.all_nil, one_bool, one_int, one_str, one_ptr, one_nilptr, one_slice, one_eslice, one_nilslice, one_func, one_iface, one_niliface, Bool.and_true, Bool.true_and, List.getD_cons_zero, List.getD_cons_succ, List.contains_cons, List.contains_nil, Bool.or_true, Bool.true_or, Bool.or_false, Bool.false_or, Nat.reduceBEq, *]; done) | fail)) only [h13, go_sem, Hold.p, HoldK.k, HoldL.K, HoldL.body, Nat.reduceBEq, Nat.reduceAdd, reduceIte]) (l01Next_c h p v code _ bs (by omega) (by omega) hl) ?_
    rintro r h' ⟨x, rfl, _, _, S', V, _⟩
    exact ex _ h' S' V ⟨x, upd_eq _ _ _⟩
  | 9, _ => exact vo_f (v := .ptr p 0 0) (by simp (disch := (first | omega | assumption | (simp only [push_n, set_n, put_n, List.length_cons, List.length_nil, List.length_append, Nat.reduceAdd]; done) | (simp only [push_n, set_n, put_n, List.length_cons, List.length_nil, List.length_append]; omega) | (simp only [List.all_cons, List.all_nil, one_bool, one_int, one_str, one_ptr, one_nilptr, one_slice, one_eslice, one_nilslice, one_func, one_iface, one_niliface, Bool.and_true, Bool.true_and, List.getD_cons_zero, List.getD_cons_succ, List.contains_cons, List.contains_nil, Bool.or_true, Bool.true_or, Bool.or_false, Bool.false_or, Nat.reduceBEq, *]; done) | fail)) only [b0, go_sem, Hold.p, HoldK.k, HoldL.K, HoldL.body, Nat.reduceBEq, Nat.reduceAdd, reduceIte]) (fl _ ⟨(upd_ne _ _ (by decide)).trans b0, upd_eq _ _ _⟩)
  | 10, _ =>
    have h15 : e 15 = .ptr p 0 0 := (hF 9 (by decide)).2
    refine vo_call (args := [.ptr p 0 0]) (by simp (disch := (first | omega | assumption | (simp only [push_n, set_n, put_n, List.length_cons, List.length_nil, List.length_append, Nat.reduceAdd]; done) | (simp only [push_n, set_n, put_n, List.length_cons, List.length_nil, List.length_append]; omega) | (simp only [List.all_cons, List.all_nil, one_bool, one_int, one_str, one_ptr, one_nilptr, one_slice, one_eslice, one_nilslice, one_func, one_iface, one_niliface, Bool.and_true, Bool.true_and, List.getD_cons_zero, List.getD_cons_succ, List.contains_cons, List.contains_nil, Bool.or_true, Bool.true_or, Bool.or_false, Bool.false_or, Nat.reduceBEq, *]; done) | fail)) only [h15, go_sem, Hold.p, HoldK.k, HoldL.K, HoldL.body, Nat.reduceBEq, Nat.reduceAdd, reduceIte]) (l19Name_c h p v code bs hl (by omega)) ?_
    rintro r h' ⟨s, rfl, hs, S', V⟩
    exact ex _ h' S' V ⟨s, upd_eq _ _ _, hs⟩
  | 11, _ =>
    obtain ⟨x, h7⟩ := hF 1 (by decide)
    obtain ⟨l, k, z, _, _, _, _, _, h12⟩ := hF 6 (by decide)
    obtain ⟨y, h14⟩ := hF 8 (by decide)
    obtain ⟨s, h16, hs⟩ := hF 10 (by decide)
    exact vo_f (v := .agg [.int .i64 x, .int .i64 z, .int .i64 y, .str s, .nilslice]) (by simp (disch := (first | omega | assumption | (simp only [push_n, set_n, put_n, List.length_cons, List.length_nil, List.length_append, Nat.reduceAdd]; done) | (simp only [push_n, set_n, put_n, List.length_cons, List.length_nil, List.length_append]; omega) | (simp only [List.all_cons, List.all_nil, one_bool, one_int, one_str, one_ptr, one_nilptr, one_slice, one_eslice, one_nilslice, one_func, one_iface, one_niliface, Bool.and_true, Bool.true_and, List.getD_cons_zero, List.getD_cons_succ, List.contains_cons, List.contains_nil, Bool.or_true, Bool.true_or, Bool.or_false, Bool.false_or, Nat.reduceBEq, *]; done) | fail)) only [h7, h12, h14, h16, go_sem, Hold.p, HoldK.k, HoldL.K, HoldL.body, Nat.reduceBEq, Nat.reduceAdd, reduceIte]) (fl _ ⟨x, z, y, s, (upd_ne _ _ (by decide)).trans h7, (upd_ne _ _ (by decide)).trans h12, (upd_ne _ _ (by decide)).trans h14, (upd_ne _ _ (by decide)).trans h16, hs, upd_eq _ _ _⟩)
  | 12, _ =>
    exact op85_12 (ex _ _ (bs.ext ((Ext.refl _).push _)) ((Sav.refl _ _).ext ((Ext.refl _).push _)) ⟨_, upd_eq _ _ _, by have := ba.lt; omega, At.new _ _⟩)
  | _ + 13, hc => omega
end
end Go.Proofs.YtdpaehdolhdjdaaDoor

namespace Go.Proofs.YtdpaehdolhdjdaaDoor
open Go Go.IW
section
attribute [local go_sem] List.getElem?_cons_zero List.getElem?_cons_succ Option.bind_some List.map_cons List.map_nil Nat.zero_add if_true List.getD_cons_zero List.getD_cons_succ List.contains_cons List.contains_nil Bool.or_true Bool.true_or Bool.or_false Bool.false_or Bool.not_true Bool.not_false true_and and_true rowA_whole mid_get stO_mid rowO_rows cellO_rows push_n set_n push_at push_old set_here set_there set_pushT set_pushN set_set upd_ne Nat.add_assoc Nat.add_zero stO_1s stO_ws boxA_s List.all_cons List.all_nil one_bool one_int one_str one_ptr one_nilptr one_slice one_eslice one_nilslice one_func one_iface one_niliface Bool.and_true Bool.and_self List.length_cons List.length_nil Nat.one_ne_zero Nat.succ_ne_zero if_false List.set_cons_zero List.set_cons_succ lay_nil lay_1 lay_w Option.map_some

set_option maxRecDepth 20000 in
theorem l19Reply_c (h : IH) (p : Nat) (v : IV) (code : List UInt8) (S : Src h p v code) (hl : code.length ≤ 1048576) (hpn : p < h.n) :
    ICalls Tryd.prog 85 [.ptr p 0 0] h fun r h' => ∃ (id cd ttl : Int) (s : List UInt8) (va : IV) (zs : List Int), r = .agg [.int .i64 id, .int .i64 cd, .int .i64 ttl, .str s, va] ∧ s.length ≤ 17 ∧ zs.length ≤ 9 ∧ Own h.n h'.n h' 2 1 va (intRows zs) ∧ Src h' p v code ∧ Sav p h h' := by
  refine icalls (.of ok85) (Nat.le_of_ble_eq_true rfl) ?_
  unfold c85
  have S0 := S
  refine vc_split 1 (fun e g => B85 h p v code e g) ?_ ?_
  · simp only [CC.split]
    simp (disch := (first | omega | assumption | (simp only [push_n, set_n, put_n, List.length_cons, List.length_nil, List.length_append, Nat.reduceAdd]; done) | (simp only [push_n, set_n, put_n, List.length_cons, List.length_nil, List.length_append]; omega) | (simp only [List.all_cons, List.all_nil, one_bool, one_int, one_str, one_ptr, one_nilptr, one_slice, one_eslice, one_nilslice, one_func, one_iface, one_niliface, Bool.and_true, Bool.true_and, List.getD_cons_zero, List.getD_cons_succ, List.contains_cons, List.contains_nil, Bool.or_true, Bool.true_or, Bool.or_false, Bool.false_or, Nat.reduceBEq, *]; done) | fail)) only [go_sem, Hold.p, HoldK.k, HoldL.K, HoldL.body, Nat.reduceBEq, Nat.reduceAdd, reduceIte]
    refine ⟨by simp (disch := (first | omega | assumption | (simp only [push_n, set_n, put_n, List.length_cons, List.length_nil, List.length_append, Nat.reduceAdd]; done) | (simp only [push_n, set_n, put_n, List.length_cons, List.length_nil, List.length_append]; omega) | (simp only [List.all_cons, List.all_nil, one_bool, one_int, one_str, one_ptr, one_nilptr, one_slice, one_eslice, one_nilslice, one_func, one_iface, one_niliface, Bool.and_true, Bool.true_and, List.getD_cons_zero, List.getD_cons_succ, List.contains_cons, List.contains_nil, Bool.or_true, Bool.true_or, Bool.or_false, Bool.false_or, Nat.reduceBEq, *]; done) | fail)) only [go_sem, Hold.p, HoldK.k, HoldL.K, HoldL.body, Nat.reduceBEq, Nat.reduceAdd, reduceIte], by simp (disch := (first | omega | assumption | (simp only [push_n, set_n, put_n, List.length_cons, List.length_nil, List.length_append, Nat.reduceAdd]; done) | (simp only [push_n, set_n, put_n, List.length_cons, List.length_nil, List.length_append]; omega) | (simp only [List.all_cons, List.all_nil, one_bool, one_int, one_str, one_ptr, one_nilptr, one_slice, one_eslice, one_nilslice, one_func, one_iface, one_niliface, Bool.and_true, Bool.true_and, List.getD_cons_zero, List.getD_cons_succ, List.contains_cons, List.contains_nil, Bool.or_true, Bool.true_or, Bool.or_false, Bool.false_or, Nat.reduceBEq, *]; done) | fail)) only [go_sem, Hold.p, HoldK.k, HoldL.K, HoldL.body, Nat.reduceBEq, Nat.reduceAdd, reduceIte], At.new _ _, S.ext ((Ext.refl _).push _), (Sav.refl _ _).ext ((Ext.refl _).push _)⟩
  rintro e0 g0 hB
  simp only [CC.split]
  refine vc_split 1 (fun e g => ∃ (q : Nat) (id cd ttl : Int) (s : List UInt8), B85 h p v code e g ∧ e 3 = .ptr q 0 0 ∧ h.n < q ∧ At g q (.rows [[.int .i64 id, .int .i64 cd, .int .i64 ttl, .str s, .nilslice]] 54 5 false) ∧ s.length ≤ 17) ?_ ?_
  · simp only [CC.split]
    show vcT Tryd.prog ops85 anc85 [] tree85 _ _ _
    refine vcT_facts (n := 13) (B := B85 h p v code) (F := F85 p h.n) (step85 h p v code hl hpn) again85 ?_ tree85 [] e0 g0 (by decide +kernel) hB (by simp)
    intro e g hB hF
    obtain ⟨q, h3, hq, aq⟩ := hF 12 (by decide)
    obtain ⟨x, z, y, s, _, _, _, _, hs, h17⟩ := hF 11 (by decide)
    refine op85_13 h3 aq h17 ?_
    obtain ⟨b0, b2, ba, bs, bv⟩ := hB
    have V := bv.set (l := q) (.inl (by omega)) (.rows [[.int .i64 x, .int .i64 z, .int .i64 y, .str s, .nilslice]] 54 5 false)
    exact ⟨q, x, z, y, s, ⟨b0, b2, ba.set (by omega), S0.back hpn bs V (by simp (disch := omega) only [set_there]), V⟩, h3, hq, aq.here, hs⟩
  rintro e g ⟨q, id, cd, ttl, s, ⟨b0, b2, ba, S, V⟩, e3, hq, aq, hs⟩
  simp only [CC.split]
  have hle := V.le
  have hqn := aq.lt
  simp (disch := (first | omega | assumption | (simp only [push_n, set_n, put_n, List.length_cons, List.length_nil, List.length_append, Nat.reduceAdd]; done) | (simp only [push_n, set_n, put_n, List.length_cons, List.length_nil, List.length_append]; omega) | (simp only [List.all_cons, List.all_nil, one_bool, one_int, one_str, one_ptr, one_nilptr, one_slice, one_eslice, one_nilslice, one_func, one_iface, one_niliface, Bool.and_true, Bool.true_and, List.getD_cons_zero, List.getD_cons_succ, List.contains_cons, List.contains_nil, Bool.or_true, Bool.true_or, Bool.or_false, Bool.false_or, Nat.reduceBEq, *]; done) | fail)) only [b0, b2, e3, go_sem, Hold.p, HoldK.k, HoldL.K, HoldL.body, Nat.reduceBEq, Nat.reduceAdd, reduceIte]
  refine callA_of (l01Next_c g p v code 9 S (by omega) (by omega) hl) ?_
  rintro r g1 ⟨n, rfl, n0, n1, S1, V1, hn1⟩
  have ba1 := ba.sav V1 (by omega)
  have aq1 := aq.sav V1 (by omega)
  simp (disch := (first | omega | assumption | (simp only [push_n, set_n, put_n, List.length_cons, List.length_nil, List.length_append, Nat.reduceAdd]; done) | (simp only [push_n, set_n, put_n, List.length_cons, List.length_nil, List.length_append]; omega) | (simp only [List.all_cons, List.all_nil, one_bool, one_int, one_str, one_ptr, one_nilptr, one_slice, one_eslice, one_nilslice, one_func, one_iface, one_niliface, Bool.and_true, Bool.true_and, List.getD_cons_zero, List.getD_cons_succ, List.contains_cons, List.contains_nil, Bool.or_true, Bool.true_or, Bool.or_false, Bool.false_or, Nat.reduceBEq, *]; done) | fail)) only [b0, b2, e3, go_sem, Hold.p, HoldK.k, HoldL.K, HoldL.body, Nat.reduceBEq, Nat.reduceAdd, reduceIte]
  refine loop_at (fun m e g => ∃ (k lo hi : Nat) (va : IV) (zs : List Int), m = n.toNat - k ∧ (k : Int) ≤ n ∧ e 0 = .ptr p 0 0 ∧ e 2 = .ptr h.n 0 0 ∧ e 3 = .ptr q 0 0 ∧ e 4 = .int .i64 n ∧ e 5 = .int .i64 (k : Nat) ∧ zs.length ≤ k ∧ q < lo ∧ hi ≤ g.n ∧ Own lo hi g 2 1 va (intRows zs) ∧
    At g h.n zer85 ∧ At g q (.rows [[.int .i64 id, .int .i64 cd, .int .i64 ttl, .str s, va]] 54 5 false) ∧ Src g p v code ∧ Sav p h g) n.toNat ?_ ?_
  · refine ⟨0, q + 1, g1.n, .nilslice, [], by omega, by omega, ?_⟩
    simp (disch := (first | omega | assumption | (simp only [push_n, set_n, put_n, List.length_cons, List.length_nil, List.length_append, Nat.reduceAdd]; done) | (simp only [push_n, set_n, put_n, List.length_cons, List.length_nil, List.length_append]; omega) | (simp only [List.all_cons, List.all_nil, one_bool, one_int, one_str, one_ptr, one_nilptr, one_slice, one_eslice, one_nilslice, one_func, one_iface, one_niliface, Bool.and_true, Bool.true_and, List.getD_cons_zero, List.getD_cons_succ, List.contains_cons, List.contains_nil, Bool.or_true, Bool.true_or, Bool.or_false, Bool.false_or, Nat.reduceBEq, *]; done) | fail)) only [b0, b2, e3, go_sem, Hold.p, HoldK.k, HoldL.K, HoldL.body, Nat.reduceBEq, Nat.reduceAdd, reduceIte]
    exact ⟨rfl, by simp, by omega, Nat.le_refl _, Own.nil, ba1, aq1, S1, V.trans V1⟩
  · rintro m e g ⟨k, lo, hi, va, zs, rfl, hk, i0, i2, i3, i4, i5, hzl, hlo, hhi, o, ba, aq, S, V⟩
    have qq := aq.eq
    have qb := ba.eq
    simp (disch := (first | omega | assumption | (simp only [push_n, set_n, put_n, List.length_cons, List.length_nil, List.length_append, Nat.reduceAdd]; done) | (simp only [push_n, set_n, put_n, List.length_cons, List.length_nil, List.length_append]; omega) | (simp only [List.all_cons, List.all_nil, one_bool, one_int, one_str, one_ptr, one_nilptr, one_slice, one_eslice, one_nilslice, one_func, one_iface, one_niliface, Bool.and_true, Bool.true_and, List.getD_cons_zero, List.getD_cons_succ, List.contains_cons, List.contains_nil, Bool.or_true, Bool.true_or, Bool.or_false, Bool.false_or, Nat.reduceBEq, *]; done) | fail)) only [i0, i2, i3, i4, i5, qq, go_sem, Hold.p, HoldK.k, HoldL.K, HoldL.body, Nat.reduceBEq, Nat.reduceAdd, reduceIte]
    refine test_of (fun hb => ?_) (fun hb => ?_)
    · simp only [Bool.and_eq_true, decide_eq_true_eq] at hb
      have w1 : wr .i64 ((k : Int) + 1) = ((k + 1 : Nat) : Int) := by rw [wr64 _ (by omega)]; rfl
      have hle := V.le
      simp (disch := (first | omega | assumption | (simp only [push_n, set_n, put_n, List.length_cons, List.length_nil, List.length_append, Nat.reduceAdd]; done) | (simp only [push_n, set_n, put_n, List.length_cons, List.length_nil, List.length_append]; omega) | (simp only [List.all_cons, List.all_nil, one_bool, one_int, one_str, one_ptr, one_nilptr, one_slice, one_eslice, one_nilslice, one_func, one_iface, one_niliface, Bool.and_true, Bool.true_and, List.getD_cons_zero, List.getD_cons_succ, List.contains_cons, List.contains_nil, Bool.or_true, Bool.true_or, Bool.or_false, Bool.false_or, Nat.reduceBEq, *]; done) | fail)) only [i0, i2, i3, i4, i5, qq, go_sem, Hold.p, HoldK.k, HoldL.K, HoldL.body, Nat.reduceBEq, Nat.reduceAdd, reduceIte]
      refine callA_of (l02Host_c g p v code S hl) ?_
      rintro r g2 ⟨x, rfl, S2, V2, hn2⟩
      have o2 := o.sav V2 (by omega)
      have ba2 := ba.sav V2 (by omega)
      have aq2 := aq.sav V2 (by omega)
      have qq2 := aq2.eq
      simp (disch := (first | omega | assumption | (simp only [push_n, set_n, put_n, List.length_cons, List.length_nil, List.length_append, Nat.reduceAdd]; done) | (simp only [push_n, set_n, put_n, List.length_cons, List.length_nil, List.length_append]; omega) | (simp only [List.all_cons, List.all_nil, one_bool, one_int, one_str, one_ptr, one_nilptr, one_slice, one_eslice, one_nilslice, one_func, one_iface, one_niliface, Bool.and_true, Bool.true_and, List.getD_cons_zero, List.getD_cons_succ, List.contains_cons, List.contains_nil, Bool.or_true, Bool.true_or, Bool.or_false, Bool.false_or, Nat.reduceBEq, *]; done) | fail)) only [i0, i2, i3, i4, i5, qq2, bslA_1, go_sem, Hold.p, HoldK.k, HoldL.K, HoldL.body, Nat.reduceBEq, Nat.reduceAdd, reduceIte]
      generalize hq_g3 : IH.push g2 (IObj.rows [[.int .i64 x]] 2 1 false) = g3
      have e_g3 : Ext g2 g3 := by rw [← hq_g3]; exact (Ext.refl _).push _
      have l_g3 : g3.n = g2.n + 1 := by rw [← hq_g3]; rfl
      have b3 : At g3 g2.n (IObj.rows [[.int .i64 x]] 2 1 false) := by rw [← hq_g3]; exact At.new _ _
      clear hq_g3
      have o2 := o2.ext e_g3
      have ba2 := ba2.ext e_g3
      have aq2 := aq2.ext e_g3
      have S2 := S2.ext e_g3
      have V3 := (V.trans V2).ext e_g3
      have qq3 := aq2.eq
      try simp (disch := (first | omega | assumption | (simp only [push_n, set_n, put_n, List.length_cons, List.length_nil, List.length_append, Nat.reduceAdd]; done) | (simp only [push_n, set_n, put_n, List.length_cons, List.length_nil, List.length_append]; omega) | (simp only [List.all_cons, List.all_nil, one_bool, one_int, one_str, one_ptr, one_nilptr, one_slice, one_eslice, one_nilslice, one_func, one_iface, one_niliface, Bool.and_true, Bool.true_and, List.getD_cons_zero, List.getD_cons_succ, List.contains_cons, List.contains_nil, Bool.or_true, Bool.true_or, Bool.or_false, Bool.false_or, Nat.reduceBEq, *]; done) | fail)) only [qq3, go_sem, Hold.p, HoldK.k, HoldL.K, HoldL.body, Nat.reduceBEq, Nat.reduceAdd, reduceIte]
      refine o2.app (by simp) (by rw [intRows_len, List.length_singleton]; omega) ?_
      intro v6 h6 o6 t6 n6 v6o v6c
      have ht6 := t6.le
      have hV3 := V3.le
      have V6 : Sav p h h6 := ⟨by omega, fun m hm hp => (t6.obj m (by omega) (fun hv => by have := o2.at_ hv; omega)).trans (V3.obj m hm hp)⟩
      have aq6 := aq2.turn o2 (by omega) t6
      have ba6 := ba2.turn o2 (by omega) t6
      have hp6 : h6.obj p = g3.obj p := t6.obj p (by omega) (fun hv => by have := o2.at_ hv; omega)
      have S6 : Src h6 p v code := S0.back hpn S2 V6 hp6
      have qq6 := aq6.eq
      have hv6 := o6.sl.one
      have hv6c := o6.sl.cells
      simp (disch := (first | omega | assumption | (simp only [push_n, set_n, put_n, List.length_cons, List.length_nil, List.length_append, Nat.reduceAdd]; done) | (simp only [push_n, set_n, put_n, List.length_cons, List.length_nil, List.length_append]; omega) | (simp only [List.all_cons, List.all_nil, one_bool, one_int, one_str, one_ptr, one_nilptr, one_slice, one_eslice, one_nilslice, one_func, one_iface, one_niliface, Bool.and_true, Bool.true_and, List.getD_cons_zero, List.getD_cons_succ, List.contains_cons, List.contains_nil, Bool.or_true, Bool.true_or, Bool.or_false, Bool.false_or, Nat.reduceBEq, *]; done) | fail)) only [i0, i2, i3, i4, i5, qq6, w1, hv6, hv6c, go_sem, Hold.p, HoldK.k, HoldL.K, HoldL.body, Nat.reduceBEq, Nat.reduceAdd, reduceIte]
      have hq3 := aq2.lt
      have V7 := V6.set (l := q) (.inl (by omega)) (.rows [[.int .i64 id, .int .i64 cd, .int .i64 ttl, .str s, v6]] 54 5 false)
      refine ⟨_, ?_, k + 1, g3.n, g3.n + 1, v6, zs ++ [x], rfl, by omega, rfl, by simp; omega, by omega, by omega, ?_, ba6.set (by omega), aq6.here, S0.back hpn S6 V7 (by simp (disch := omega) only [set_there]), V7⟩
      · omega
      · rw [intRows_append]; exact o6.set (m := q) (by omega) _
    · simp only [zer85] at qb
      have hv6 := o.sl.one
      simp (disch := (first | omega | assumption | (simp only [push_n, set_n, put_n, List.length_cons, List.length_nil, List.length_append, Nat.reduceAdd]; done) | (simp only [push_n, set_n, put_n, List.length_cons, List.length_nil, List.length_append]; omega) | (simp only [List.all_cons, List.all_nil, one_bool, one_int, one_str, one_ptr, one_nilptr, one_slice, one_eslice, one_nilslice, one_func, one_iface, one_niliface, Bool.and_true, Bool.true_and, List.getD_cons_zero, List.getD_cons_succ, List.contains_cons, List.contains_nil, Bool.or_true, Bool.true_or, Bool.or_false, Bool.false_or, Nat.reduceBEq, *]; done) | fail)) only [i0, i2, i3, i4, i5, qq, qb, hv6, go_sem, Hold.p, HoldK.k, HoldL.K, HoldL.body, Nat.reduceBEq, Nat.reduceAdd, reduceIte]
      have hle := V.le
      have V6 := V.set (l := h.n) (.inl (by omega)) (.rows [[.int .i64 id, .int .i64 cd, .int .i64 ttl, .str s, va]] 54 5 false)
      exact ⟨id, cd, ttl, s, va, zs, rfl, hs, by omega, (o.set (m := h.n) (by omega) _).wide (by omega) (by first | omega | (simp only [set_n]; omega)) (Nat.le_refl _), S0.back hpn S V6 (by simp (disch := omega) only [set_there]), V6⟩
end
end Go.Proofs.YtdpaehdolhdjdaaDoor

namespace Go.Proofs.YtdpaehdolhdjdaaDoor
open Go Go.IW
section
attribute [local go_sem] List.getElem?_cons_zero List.getElem?_cons_succ Option.bind_some List.map_cons List.map_nil Nat.zero_add if_true List.getD_cons_zero List.getD_cons_succ List.contains_cons List.contains_nil Bool.or_true Bool.true_or Bool.or_false Bool.false_or Bool.not_true Bool.not_false true_and and_true rowA_whole mid_get stO_mid rowO_rows cellO_rows push_n set_n push_at push_old set_here set_there set_pushT set_pushN set_set upd_ne Nat.add_assoc Nat.add_zero stO_1s stO_ws boxA_s List.all_cons List.all_nil one_bool one_int one_str one_ptr one_nilptr one_slice one_eslice one_nilslice one_func one_iface one_niliface Bool.and_true Bool.and_self List.length_cons List.length_nil Nat.one_ne_zero Nat.succ_ne_zero if_false List.set_cons_zero List.set_cons_succ lay_nil lay_1 lay_w Option.map_some

set_option maxRecDepth 20000 in
theorem drawReply_c (h : IH) (v : IV) (code : List UInt8) (hs : SlR h 1 v (strRows code)) (hl : code.length ≤ 1048576) :
    ICalls Tryd.prog 30 [v] h fun r h' => ∃ (id cd ttl : Int) (s : List UInt8) (va : IV) (zs : List Int), r = .agg [.int .i64 id, .int .i64 cd, .int .i64 ttl, .str s, va] ∧ s.length ≤ 17 ∧ zs.length ≤ 10 ∧ SlR h' 1 va (intRows zs) ∧ Ext h h' := by
  refine icalls (.of ok30) (Nat.le_of_ble_eq_true rfl) ?_
  unfold c30
  simp (disch := (first | omega | assumption | (simp only [push_n, set_n, put_n, List.length_cons, List.length_nil, List.length_append, Nat.reduceAdd]; done) | (simp only [push_n, set_n, put_n, List.length_cons, List.length_nil, List.length_append]; omega) | (simp only [List.all_cons, List.all_nil, one_bool, one_int, one_str, one_ptr, one_nilptr, one_slice, one_eslice, one_nilslice, one_func, one_iface, one_niliface, Bool.and_true, Bool.true_and, List.getD_cons_zero, List.getD_cons_succ, List.contains_cons, List.contains_nil, Bool.or_true, Bool.true_or, Bool.or_false, Bool.false_or, Nat.reduceBEq, *]; done) | fail)) only [go_sem, Hold.p, HoldK.k, HoldL.K, HoldL.body, Nat.reduceBEq, Nat.reduceAdd, reduceIte]
  generalize hq_g0 : IH.push h (IObj.rows [[.int .i64 0, .int .i64 0, .int .i64 0, .str [], .nilslice]] 54 5 false) = g0
  have e_g0 : Ext h g0 := by rw [← hq_g0]; exact (Ext.refl _).push _
  have l_g0 : g0.n = h.n + 1 := by rw [← hq_g0]; rfl
  have b0 : At g0 h.n (IObj.rows [[.int .i64 0, .int .i64 0, .int .i64 0, .str [], .nilslice]] 54 5 false) := by rw [← hq_g0]; exact At.new _ _
  clear hq_g0
  have hs := hs.ext e_g0
  refine callA_of (l01Begin_c g0 v code hs hl) ?_
  rintro r g ⟨st, rfl, E⟩
  have hv1 := hs.one
  have hEg := E.le
  simp (disch := (first | omega | assumption | (simp only [push_n, set_n, put_n, List.length_cons, List.length_nil, List.length_append, Nat.reduceAdd]; done) | (simp only [push_n, set_n, put_n, List.length_cons, List.length_nil, List.length_append]; omega) | (simp only [List.all_cons, List.all_nil, one_bool, one_int, one_str, one_ptr, one_nilptr, one_slice, one_eslice, one_nilslice, one_func, one_iface, one_niliface, Bool.and_true, Bool.true_and, List.getD_cons_zero, List.getD_cons_succ, List.contains_cons, List.contains_nil, Bool.or_true, Bool.true_or, Bool.or_false, Bool.false_or, Nat.reduceBEq, *]; done) | fail)) only [go_sem, Hold.p, HoldK.k, HoldL.K, HoldL.body, Nat.reduceBEq, Nat.reduceAdd, reduceIte]
  generalize hq_g1 : IH.push g (IObj.rows [[v, .int .i64 0, .int .u64 st]] 118 3 false) = g1
  have e_g1 : Ext g g1 := by rw [← hq_g1]; exact (Ext.refl _).push _
  have l_g1 : g1.n = g.n + 1 := by rw [← hq_g1]; rfl
  have b1 : At g1 g.n (IObj.rows [[v, .int .i64 0, .int .u64 st]] 118 3 false) := by rw [← hq_g1]; exact At.new _ _
  clear hq_g1
  have E := E.ext e_g1
  have S : Src g1 g.n v code := ⟨⟨0, st, b1, by omega, by omega⟩, hs.ext E, fun l i n hv => by have := hs.lt l i n hv; omega⟩
  refine callA_of (l19Reply_c g1 g.n v code S hl (by omega)) ?_
  rintro r g2 ⟨id, cd, ttl, s, va, zs, rfl, hsl, hzl, o, S2, V2⟩
  have b2 := (b0.ext E).sav V2 (by omega)
  have l2 := V2.le
  have E2 : Ext h g2 := ⟨by have := E.le; omega, fun l hl => (V2.obj l (by have := E.le; omega) (by omega)).trans ((E.obj l (by omega)).trans (e_g0.obj l hl))⟩
  have hc := o.sl.cells
  have h1 := o.sl.one
  simp (disch := (first | omega | assumption | (simp only [push_n, set_n, put_n, List.length_cons, List.length_nil, List.length_append, Nat.reduceAdd]; done) | (simp only [push_n, set_n, put_n, List.length_cons, List.length_nil, List.length_append]; omega) | (simp only [List.all_cons, List.all_nil, one_bool, one_int, one_str, one_ptr, one_nilptr, one_slice, one_eslice, one_nilslice, one_func, one_iface, one_niliface, Bool.and_true, Bool.true_and, List.getD_cons_zero, List.getD_cons_succ, List.contains_cons, List.contains_nil, Bool.or_true, Bool.true_or, Bool.or_false, Bool.false_or, Nat.reduceBEq, *]; done) | fail)) only [b2.eq, h1, hc, go_sem, Hold.p, HoldK.k, HoldL.K, HoldL.body, Nat.reduceBEq, Nat.reduceAdd, reduceIte]
  generalize hq_g3 : IH.push g2 (IObj.rows [[.int .i64 id, .int .i64 cd, .int .i64 ttl, .str s, va]] 54 5 false) = g3
  have e_g3 : Ext g2 g3 := by rw [← hq_g3]; exact (Ext.refl _).push _
  have l_g3 : g3.n = g2.n + 1 := by rw [← hq_g3]; rfl
  have b3 : At g3 g2.n (IObj.rows [[.int .i64 id, .int .i64 cd, .int .i64 ttl, .str s, va]] 54 5 false) := by rw [← hq_g3]; exact At.new _ _
  clear hq_g3
  have E2 := E2.ext e_g3
  have S2 := S2.ext e_g3
  have b2 := b2.ext e_g3
  have o := o.ext e_g3
  refine callA_of (l01Next_c g3 g.n v code 16 S2 (by omega) (by omega) hl) ?_
  rintro r g4 ⟨k, rfl, _, _, S4, V4, hn4⟩
  have o4 := o.sav V4 (by omega)
  have b4 := b3.sav V4 (by omega)
  have q4 := (b2.sav V4 (by omega)).eq
  have q5 := (b3.sav V4 (by omega)).eq
  have E4 : Ext h g4 := E2.sav V4 (by omega)
  have fin : ∀ (id cd ttl : Int) (s : List UInt8) (va : IV) (g5 : IH) (zs : List Int), s.length ≤ 17 → zs.length ≤ 10 → Own g1.n g2.n g5 2 1 va (intRows zs) → Ext h g5 → ∀ (o1 o2 : IObj), Own g1.n g2.n ((g5.set g2.n o1).set h.n o2) 2 1 va (intRows zs) ∧ Ext h ((g5.set g2.n o1).set h.n o2) := by
    intro id cd ttl s va g5 zs _ _ o E o1 o2
    exact ⟨(o.set (m := g2.n) (by omega) _).set (m := h.n) (by omega) _, (E.set _ (by omega) _).set _ (by omega) _⟩
  simp (disch := (first | omega | assumption | (simp only [push_n, set_n, put_n, List.length_cons, List.length_nil, List.length_append, Nat.reduceAdd]; done) | (simp only [push_n, set_n, put_n, List.length_cons, List.length_nil, List.length_append]; omega) | (simp only [List.all_cons, List.all_nil, one_bool, one_int, one_str, one_ptr, one_nilptr, one_slice, one_eslice, one_nilslice, one_func, one_iface, one_niliface, Bool.and_true, Bool.true_and, List.getD_cons_zero, List.getD_cons_succ, List.contains_cons, List.contains_nil, Bool.or_true, Bool.true_or, Bool.or_false, Bool.false_or, Nat.reduceBEq, *]; done) | fail)) only [go_sem, Hold.p, HoldK.k, HoldL.K, HoldL.body, Nat.reduceBEq, Nat.reduceAdd, reduceIte]
  refine test_dec (fun hb => ?_) (fun hb => ?_)
  · simp (disch := (first | omega | assumption | (simp only [push_n, set_n, put_n, List.length_cons, List.length_nil, List.length_append, Nat.reduceAdd]; done) | (simp only [push_n, set_n, put_n, List.length_cons, List.length_nil, List.length_append]; omega) | (simp only [List.all_cons, List.all_nil, one_bool, one_int, one_str, one_ptr, one_nilptr, one_slice, one_eslice, one_nilslice, one_func, one_iface, one_niliface, Bool.and_true, Bool.true_and, List.getD_cons_zero, List.getD_cons_succ, List.contains_cons, List.contains_nil, Bool.or_true, Bool.true_or, Bool.or_false, Bool.false_or, Nat.reduceBEq, *]; done) | fail)) only [q4, q5, h1, hc, go_sem, Hold.p, HoldK.k, HoldL.K, HoldL.body, Nat.reduceBEq, Nat.reduceAdd, reduceIte]
    obtain ⟨f1, f2⟩ := fin (-1) cd ttl s va g4 zs hsl (by omega) o4 E4 _ _
    exact ⟨_, _, _, _, _, zs, rfl, by omega, by omega, f1.sl, f2⟩
  simp (disch := (first | omega | assumption | (simp only [push_n, set_n, put_n, List.length_cons, List.length_nil, List.length_append, Nat.reduceAdd]; done) | (simp only [push_n, set_n, put_n, List.length_cons, List.length_nil, List.length_append]; omega) | (simp only [List.all_cons, List.all_nil, one_bool, one_int, one_str, one_ptr, one_nilptr, one_slice, one_eslice, one_nilslice, one_func, one_iface, one_niliface, Bool.and_true, Bool.true_and, List.getD_cons_zero, List.getD_cons_succ, List.contains_cons, List.contains_nil, Bool.or_true, Bool.true_or, Bool.or_false, Bool.false_or, Nat.reduceBEq, *]; done) | fail)) only [go_sem, Hold.p, HoldK.k, HoldL.K, HoldL.body, Nat.reduceBEq, Nat.reduceAdd, reduceIte]
  refine test_dec (fun hb => ?_) (fun hb => ?_)
  · simp (disch := (first | omega | assumption | (simp only [push_n, set_n, put_n, List.length_cons, List.length_nil, List.length_append, Nat.reduceAdd]; done) | (simp only [push_n, set_n, put_n, List.length_cons, List.length_nil, List.length_append]; omega) | (simp only [List.all_cons, List.all_nil, one_bool, one_int, one_str, one_ptr, one_nilptr, one_slice, one_eslice, one_nilslice, one_func, one_iface, one_niliface, Bool.and_true, Bool.true_and, List.getD_cons_zero, List.getD_cons_succ, List.contains_cons, List.contains_nil, Bool.or_true, Bool.true_or, Bool.or_false, Bool.false_or, Nat.reduceBEq, *]; done) | fail)) only [q4, q5, h1, hc, go_sem, Hold.p, HoldK.k, HoldL.K, HoldL.body, Nat.reduceBEq, Nat.reduceAdd, reduceIte]
    obtain ⟨f1, f2⟩ := fin (-1) cd ttl s va g4 zs hsl (by omega) o4 E4 _ _
    exact ⟨_, _, _, _, _, zs, rfl, by omega, by omega, f1.sl, f2⟩
  simp (disch := (first | omega | assumption | (simp only [push_n, set_n, put_n, List.length_cons, List.length_nil, List.length_append, Nat.reduceAdd]; done) | (simp only [push_n, set_n, put_n, List.length_cons, List.length_nil, List.length_append]; omega) | (simp only [List.all_cons, List.all_nil, one_bool, one_int, one_str, one_ptr, one_nilptr, one_slice, one_eslice, one_nilslice, one_func, one_iface, one_niliface, Bool.and_true, Bool.true_and, List.getD_cons_zero, List.getD_cons_succ, List.contains_cons, List.contains_nil, Bool.or_true, Bool.true_or, Bool.or_false, Bool.false_or, Nat.reduceBEq, *]; done) | fail)) only [go_sem, Hold.p, HoldK.k, HoldL.K, HoldL.body, Nat.reduceBEq, Nat.reduceAdd, reduceIte]
  refine test_dec (fun hb => ?_) (fun hb => ?_)
  · simp (disch := (first | omega | assumption | (simp only [push_n, set_n, put_n, List.length_cons, List.length_nil, List.length_append, Nat.reduceAdd]; done) | (simp only [push_n, set_n, put_n, List.length_cons, List.length_nil, List.length_append]; omega) | (simp only [List.all_cons, List.all_nil, one_bool, one_int, one_str, one_ptr, one_nilptr, one_slice, one_eslice, one_nilslice, one_func, one_iface, one_niliface, Bool.and_true, Bool.true_and, List.getD_cons_zero, List.getD_cons_succ, List.contains_cons, List.contains_nil, Bool.or_true, Bool.true_or, Bool.or_false, Bool.false_or, Nat.reduceBEq, *]; done) | fail)) only [go_sem, Hold.p, HoldK.k, HoldL.K, HoldL.body, Nat.reduceBEq, Nat.reduceAdd, reduceIte]
    refine callA_of (l01Next_c g4 g.n v code 2 S4 (by omega) (by omega) hl) ?_
    rintro r g5 ⟨y, rfl, _, _, S5, V5, hn5⟩
    have b5 := b4.sav V5 (by omega)
    have q6 := ((b2.sav V4 (by omega)).sav V5 (by omega)).eq
    have q7 := b5.eq
    have o5 := o4.sav V5 (by omega)
    have E5 : Ext h g5 := E4.sav V5 (by omega)
    have w1 : wr .i64 (86400 + y) = 86400 + y := wr64 _ (by omega)
    simp (disch := (first | omega | assumption | (simp only [push_n, set_n, put_n, List.length_cons, List.length_nil, List.length_append, Nat.reduceAdd]; done) | (simp only [push_n, set_n, put_n, List.length_cons, List.length_nil, List.length_append]; omega) | (simp only [List.all_cons, List.all_nil, one_bool, one_int, one_str, one_ptr, one_nilptr, one_slice, one_eslice, one_nilslice, one_func, one_iface, one_niliface, Bool.and_true, Bool.true_and, List.getD_cons_zero, List.getD_cons_succ, List.contains_cons, List.contains_nil, Bool.or_true, Bool.true_or, Bool.or_false, Bool.false_or, Nat.reduceBEq, *]; done) | fail)) only [q6, q7, h1, hc, w1, go_sem, Hold.p, HoldK.k, HoldL.K, HoldL.body, Nat.reduceBEq, Nat.reduceAdd, reduceIte]
    obtain ⟨f1, f2⟩ := fin (-1) cd ttl s va g5 zs hsl (by omega) o5 E5 _ _
    exact ⟨_, _, _, _, _, zs, rfl, by omega, by omega, f1.sl, f2⟩
  simp (disch := (first | omega | assumption | (simp only [push_n, set_n, put_n, List.length_cons, List.length_nil, List.length_append, Nat.reduceAdd]; done) | (simp only [push_n, set_n, put_n, List.length_cons, List.length_nil, List.length_append]; omega) | (simp only [List.all_cons, List.all_nil, one_bool, one_int, one_str, one_ptr, one_nilptr, one_slice, one_eslice, one_nilslice, one_func, one_iface, one_niliface, Bool.and_true, Bool.true_and, List.getD_cons_zero, List.getD_cons_succ, List.contains_cons, List.contains_nil, Bool.or_true, Bool.true_or, Bool.or_false, Bool.false_or, Nat.reduceBEq, *]; done) | fail)) only [go_sem, Hold.p, HoldK.k, HoldL.K, HoldL.body, Nat.reduceBEq, Nat.reduceAdd, reduceIte]
  refine test_dec (fun hb => ?_) (fun hb => ?_)
  · simp (disch := (first | omega | assumption | (simp only [push_n, set_n, put_n, List.length_cons, List.length_nil, List.length_append, Nat.reduceAdd]; done) | (simp only [push_n, set_n, put_n, List.length_cons, List.length_nil, List.length_append]; omega) | (simp only [List.all_cons, List.all_nil, one_bool, one_int, one_str, one_ptr, one_nilptr, one_slice, one_eslice, one_nilslice, one_func, one_iface, one_niliface, Bool.and_true, Bool.true_and, List.getD_cons_zero, List.getD_cons_succ, List.contains_cons, List.contains_nil, Bool.or_true, Bool.true_or, Bool.or_false, Bool.false_or, Nat.reduceBEq, *]; done) | fail)) only [go_sem, Hold.p, HoldK.k, HoldL.K, HoldL.body, Nat.reduceBEq, Nat.reduceAdd, reduceIte]
    refine callA_of (l01Next_c g4 g.n v code 2 S4 (by omega) (by omega) hl) ?_
    rintro r g5 ⟨y, rfl, y0, y1, S5, V5, hn5⟩
    have b5 := b4.sav V5 (by omega)
    have a5 := (b2.sav V4 (by omega)).sav V5 (by omega)
    have E5 : Ext h g5 := E4.sav V5 (by omega)
    obtain ⟨m, hm⟩ : ∃ m : Nat, 8 + y = (m : Int) := ⟨(8 + y).toNat, by omega⟩
    have w1 : wr .i64 (8 + y) = (m : Int) := by rw [wr64 _ (by omega), hm]
    simp (disch := (first | omega | assumption | (simp only [push_n, set_n, put_n, List.length_cons, List.length_nil, List.length_append, Nat.reduceAdd]; done) | (simp only [push_n, set_n, put_n, List.length_cons, List.length_nil, List.length_append]; omega) | (simp only [List.all_cons, List.all_nil, one_bool, one_int, one_str, one_ptr, one_nilptr, one_slice, one_eslice, one_nilslice, one_func, one_iface, one_niliface, Bool.and_true, Bool.true_and, List.getD_cons_zero, List.getD_cons_succ, List.contains_cons, List.contains_nil, Bool.or_true, Bool.true_or, Bool.or_false, Bool.false_or, Nat.reduceBEq, *]; done) | fail)) only [w1, go_sem, Hold.p, HoldK.k, HoldL.K, HoldL.body, Nat.reduceBEq, Nat.reduceAdd, reduceIte]
    refine mksA_of (by omega) (by omega) (by omega) ?_
    simp (disch := (first | omega | assumption | (simp only [push_n, set_n, put_n, List.length_cons, List.length_nil, List.length_append, Nat.reduceAdd]; done) | (simp only [push_n, set_n, put_n, List.length_cons, List.length_nil, List.length_append]; omega) | (simp only [List.all_cons, List.all_nil, one_bool, one_int, one_str, one_ptr, one_nilptr, one_slice, one_eslice, one_nilslice, one_func, one_iface, one_niliface, Bool.and_true, Bool.true_and, List.getD_cons_zero, List.getD_cons_succ, List.contains_cons, List.contains_nil, Bool.or_true, Bool.true_or, Bool.or_false, Bool.false_or, Nat.reduceBEq, *]; done) | fail)) only [go_sem, Hold.p, HoldK.k, HoldL.K, HoldL.body, Nat.reduceBEq, Nat.reduceAdd, reduceIte]
    have r6 := a5.eq
    have r7 := b5.eq
    generalize hq_g6 : IH.push g5 (IObj.rows (List.replicate m [.int .i64 0]) 2 1 false) = g6
    have e_g6 : Ext g5 g6 := by rw [← hq_g6]; exact (Ext.refl _).push _
    have l_g6 : g6.n = g5.n + 1 := by rw [← hq_g6]; rfl
    have b6 : At g6 g5.n (IObj.rows (List.replicate m [.int .i64 0]) 2 1 false) := by rw [← hq_g6]; exact At.new _ _
    clear hq_g6
    have E5 := E5.ext e_g6
    have a5 := a5.ext e_g6
    have b5 := b5.ext e_g6
    have q6 := a5.eq
    have q7 := b5.eq
    simp (disch := (first | omega | assumption | (simp only [push_n, set_n, put_n, List.length_cons, List.length_nil, List.length_append, Nat.reduceAdd]; done) | (simp only [push_n, set_n, put_n, List.length_cons, List.length_nil, List.length_append]; omega) | (simp only [List.all_cons, List.all_nil, one_bool, one_int, one_str, one_ptr, one_nilptr, one_slice, one_eslice, one_nilslice, one_func, one_iface, one_niliface, Bool.and_true, Bool.true_and, List.getD_cons_zero, List.getD_cons_succ, List.contains_cons, List.contains_nil, Bool.or_true, Bool.true_or, Bool.or_false, Bool.false_or, Nat.reduceBEq, *]; done) | fail)) only [q6, q7, r6, r7, go_sem, Hold.p, HoldK.k, HoldL.K, HoldL.body, Nat.reduceBEq, Nat.reduceAdd, reduceIte]
    refine ⟨_, _, _, _, _, List.replicate m 0, rfl, by omega, by simp; omega, ?_, (E5.set _ (by omega) _).set _ (by omega) _⟩
    have hb6 := b6.lt
    have hg2 := b5.lt
    exact SlR.whole (rs := intRows (List.replicate m 0)) (e := 2) (ro := false) (by simp (disch := omega) only [set_there]; rw [b6.eq]; simp [intRows]) (by simp [intRows]) hb6
  simp (disch := (first | omega | assumption | (simp only [push_n, set_n, put_n, List.length_cons, List.length_nil, List.length_append, Nat.reduceAdd]; done) | (simp only [push_n, set_n, put_n, List.length_cons, List.length_nil, List.length_append]; omega) | (simp only [List.all_cons, List.all_nil, one_bool, one_int, one_str, one_ptr, one_nilptr, one_slice, one_eslice, one_nilslice, one_func, one_iface, one_niliface, Bool.and_true, Bool.true_and, List.getD_cons_zero, List.getD_cons_succ, List.contains_cons, List.contains_nil, Bool.or_true, Bool.true_or, Bool.or_false, Bool.false_or, Nat.reduceBEq, *]; done) | fail)) only [go_sem, Hold.p, HoldK.k, HoldL.K, HoldL.body, Nat.reduceBEq, Nat.reduceAdd, reduceIte]
  refine test_dec (fun hb => ?_) (fun hb => ?_)
  · simp (disch := (first | omega | assumption | (simp only [push_n, set_n, put_n, List.length_cons, List.length_nil, List.length_append, Nat.reduceAdd]; done) | (simp only [push_n, set_n, put_n, List.length_cons, List.length_nil, List.length_append]; omega) | (simp only [List.all_cons, List.all_nil, one_bool, one_int, one_str, one_ptr, one_nilptr, one_slice, one_eslice, one_nilslice, one_func, one_iface, one_niliface, Bool.and_true, Bool.true_and, List.getD_cons_zero, List.getD_cons_succ, List.contains_cons, List.contains_nil, Bool.or_true, Bool.true_or, Bool.or_false, Bool.false_or, Nat.reduceBEq, *]; done) | fail)) only [bslA_1, go_sem, Hold.p, HoldK.k, HoldL.K, HoldL.body, Nat.reduceBEq, Nat.reduceAdd, reduceIte]
    have a4 := b2.sav V4 (by omega)
    have r6 := a4.eq
    have r7 := b4.eq
    generalize hq_g6 : IH.push g4 (IObj.rows [[.int .i64 4294967296]] 2 1 false) = g6
    have e_g6 : Ext g4 g6 := by rw [← hq_g6]; exact (Ext.refl _).push _
    have l_g6 : g6.n = g4.n + 1 := by rw [← hq_g6]; rfl
    have b6 : At g6 g4.n (IObj.rows [[.int .i64 4294967296]] 2 1 false) := by rw [← hq_g6]; exact At.new _ _
    clear hq_g6
    have E4 := E4.ext e_g6
    have a4 := a4.ext e_g6
    have b4 := b4.ext e_g6
    have q6 := a4.eq
    have q7 := b4.eq
    simp (disch := (first | omega | assumption | (simp only [push_n, set_n, put_n, List.length_cons, List.length_nil, List.length_append, Nat.reduceAdd]; done) | (simp only [push_n, set_n, put_n, List.length_cons, List.length_nil, List.length_append]; omega) | (simp only [List.all_cons, List.all_nil, one_bool, one_int, one_str, one_ptr, one_nilptr, one_slice, one_eslice, one_nilslice, one_func, one_iface, one_niliface, Bool.and_true, Bool.true_and, List.getD_cons_zero, List.getD_cons_succ, List.contains_cons, List.contains_nil, Bool.or_true, Bool.true_or, Bool.or_false, Bool.false_or, Nat.reduceBEq, *]; done) | fail)) only [q6, q7, r6, r7, go_sem, Hold.p, HoldK.k, HoldL.K, HoldL.body, Nat.reduceBEq, Nat.reduceAdd, reduceIte]
    refine ⟨_, _, _, _, _, [4294967296], rfl, by omega, by simp, ?_, (E4.set _ (by omega) _).set _ (by omega) _⟩
    have hb6 := b6.lt
    exact SlR.whole (rs := intRows [4294967296]) (e := 2) (ro := false) (by simp (disch := omega) only [set_there]; rw [b6.eq]; simp [intRows]) (by simp [intRows]) hb6
  simp (disch := (first | omega | assumption | (simp only [push_n, set_n, put_n, List.length_cons, List.length_nil, List.length_append, Nat.reduceAdd]; done) | (simp only [push_n, set_n, put_n, List.length_cons, List.length_nil, List.length_append]; omega) | (simp only [List.all_cons, List.all_nil, one_bool, one_int, one_str, one_ptr, one_nilptr, one_slice, one_eslice, one_nilslice, one_func, one_iface, one_niliface, Bool.and_true, Bool.true_and, List.getD_cons_zero, List.getD_cons_succ, List.contains_cons, List.contains_nil, Bool.or_true, Bool.true_or, Bool.or_false, Bool.false_or, Nat.reduceBEq, *]; done) | fail)) only [go_sem, Hold.p, HoldK.k, HoldL.K, HoldL.body, Nat.reduceBEq, Nat.reduceAdd, reduceIte]
  refine test_dec (fun hb => ?_) (fun hb => ?_)
  · simp (disch := (first | omega | assumption | (simp only [push_n, set_n, put_n, List.length_cons, List.length_nil, List.length_append, Nat.reduceAdd]; done) | (simp only [push_n, set_n, put_n, List.length_cons, List.length_nil, List.length_append]; omega) | (simp only [List.all_cons, List.all_nil, one_bool, one_int, one_str, one_ptr, one_nilptr, one_slice, one_eslice, one_nilslice, one_func, one_iface, one_niliface, Bool.and_true, Bool.true_and, List.getD_cons_zero, List.getD_cons_succ, List.contains_cons, List.contains_nil, Bool.or_true, Bool.true_or, Bool.or_false, Bool.false_or, Nat.reduceBEq, *]; done) | fail)) only [q4, q5, h1, hc, go_sem, Hold.p, HoldK.k, HoldL.K, HoldL.body, Nat.reduceBEq, Nat.reduceAdd, reduceIte]
    obtain ⟨f1, f2⟩ := fin (-1) cd ttl s va g4 zs hsl (by omega) o4 E4 _ _
    exact ⟨_, _, _, _, _, zs, rfl, by simp, by omega, f1.sl, f2⟩
  · simp (disch := (first | omega | assumption | (simp only [push_n, set_n, put_n, List.length_cons, List.length_nil, List.length_append, Nat.reduceAdd]; done) | (simp only [push_n, set_n, put_n, List.length_cons, List.length_nil, List.length_append]; omega) | (simp only [List.all_cons, List.all_nil, one_bool, one_int, one_str, one_ptr, one_nilptr, one_slice, one_eslice, one_nilslice, one_func, one_iface, one_niliface, Bool.and_true, Bool.true_and, List.getD_cons_zero, List.getD_cons_succ, List.contains_cons, List.contains_nil, Bool.or_true, Bool.true_or, Bool.or_false, Bool.false_or, Nat.reduceBEq, *]; done) | fail)) only [q4, q5, h1, hc, go_sem, Hold.p, HoldK.k, HoldL.K, HoldL.body, Nat.reduceBEq, Nat.reduceAdd, reduceIte]
    exact ⟨_, _, _, _, _, zs, rfl, by omega, by omega, (o4.set (m := h.n) (by omega) _).sl, E4.set _ (by omega) _⟩
end
end Go.Proofs.YtdpaehdolhdjdaaDoor

namespace Go.Proofs.YtdpaehdolhdjdaaDoor
open Go Go.IW
section
attribute [local go_sem] List.getElem?_cons_zero List.getElem?_cons_succ Option.bind_some List.map_cons List.map_nil Nat.zero_add if_true List.getD_cons_zero List.getD_cons_succ List.contains_cons List.contains_nil Bool.or_true Bool.true_or Bool.or_false Bool.false_or Bool.not_true Bool.not_false true_and and_true rowA_whole mid_get stO_mid rowO_rows cellO_rows push_n set_n push_at push_old set_here set_there set_pushT set_pushN set_set upd_ne Nat.add_assoc Nat.add_zero stO_1s stO_ws boxA_s List.all_cons List.all_nil one_bool one_int one_str one_ptr one_nilptr one_slice one_eslice one_nilslice one_func one_iface one_niliface Bool.and_true Bool.and_self List.length_cons List.length_nil Nat.one_ne_zero Nat.succ_ne_zero if_false List.set_cons_zero List.set_cons_succ lay_nil lay_1 lay_w Option.map_some

theorem entRows_append (a b : List Ent) : entRows (a ++ b) = entRows a ++ entRows b := by simp [entRows]
set_option maxRecDepth 20000 in
set_option maxHeartbeats 1000000 in
theorem l19Zone_c (h : IH) (p : Nat) (v : IV) (code : List UInt8) (S : Src h p v code) (hl : code.length ≤ 1048576) (hpn : p < h.n) :
    ICalls Tryd.prog 88 [.ptr p 0 0] h fun r h' => ∃ es : List Ent, Own h.n h'.n h' 65 3 r (entRows es) ∧ es.length ≤ 14 ∧ Src h' p v code ∧ Sav p h h' := by
  refine icalls (.of ok88) (Nat.le_of_ble_eq_true rfl) ?_
  unfold c88
  have S0 := S
  simp (disch := (first | omega | assumption | (simp only [push_n, set_n, put_n, List.length_cons, List.length_nil, List.length_append, Nat.reduceAdd]; done) | (simp only [push_n, set_n, put_n, List.length_cons, List.length_nil, List.length_append]; omega) | (simp only [List.all_cons, List.all_nil, one_bool, one_int, one_str, one_ptr, one_nilptr, one_slice, one_eslice, one_nilslice, one_func, one_iface, one_niliface, Bool.and_true, Bool.true_and, List.getD_cons_zero, List.getD_cons_succ, List.contains_cons, List.contains_nil, Bool.or_true, Bool.true_or, Bool.or_false, Bool.false_or, Nat.reduceBEq, *]; done) | fail)) only [bslA_0, go_sem, Hold.p, HoldK.k, HoldL.K, HoldL.body, Nat.reduceBEq, Nat.reduceAdd, reduceIte]
  refine callA_of (l01Next_c h p v code 14 S (by omega) (by omega) hl) ?_
  rintro r g1 ⟨n, rfl, n0, n1, S1, V1, hn1⟩
  simp (disch := (first | omega | assumption | (simp only [push_n, set_n, put_n, List.length_cons, List.length_nil, List.length_append, Nat.reduceAdd]; done) | (simp only [push_n, set_n, put_n, List.length_cons, List.length_nil, List.length_append]; omega) | (simp only [List.all_cons, List.all_nil, one_bool, one_int, one_str, one_ptr, one_nilptr, one_slice, one_eslice, one_nilslice, one_func, one_iface, one_niliface, Bool.and_true, Bool.true_and, List.getD_cons_zero, List.getD_cons_succ, List.contains_cons, List.contains_nil, Bool.or_true, Bool.true_or, Bool.or_false, Bool.false_or, Nat.reduceBEq, *]; done) | fail)) only [go_sem, Hold.p, HoldK.k, HoldL.K, HoldL.body, Nat.reduceBEq, Nat.reduceAdd, reduceIte]
  refine loop_at (fun m e g => ∃ (k lo hi : Nat) (va : IV) (es : List Ent), m = n.toNat - k ∧ (k : Int) ≤ n ∧ e 0 = .ptr p 0 0 ∧ e 3 = va ∧ e 4 = .int .i64 n ∧ e 5 = .int .i64 (k : Nat) ∧ es.length ≤ k ∧ h.n ≤ lo ∧ hi ≤ g.n ∧ Own lo hi g 65 3 va (entRows es) ∧ Src g p v code ∧ Sav p h g) n.toNat ?_ ?_
  · refine ⟨0, h.n, h.n, .eslice true, [], by omega, by omega, ?_⟩
    simp (disch := (first | omega | assumption | (simp only [push_n, set_n, put_n, List.length_cons, List.length_nil, List.length_append, Nat.reduceAdd]; done) | (simp only [push_n, set_n, put_n, List.length_cons, List.length_nil, List.length_append]; omega) | (simp only [List.all_cons, List.all_nil, one_bool, one_int, one_str, one_ptr, one_nilptr, one_slice, one_eslice, one_nilslice, one_func, one_iface, one_niliface, Bool.and_true, Bool.true_and, List.getD_cons_zero, List.getD_cons_succ, List.contains_cons, List.contains_nil, Bool.or_true, Bool.true_or, Bool.or_false, Bool.false_or, Nat.reduceBEq, *]; done) | fail)) only [go_sem, Hold.p, HoldK.k, HoldL.K, HoldL.body, Nat.reduceBEq, Nat.reduceAdd, reduceIte]
    exact ⟨rfl, by simp, Nat.le_refl _, by omega, Own.empty, S1, V1⟩
  · rintro m e g ⟨k, lo, hi, va, es, rfl, hk, i0, i3, i4, i5, hel, hlo, hhi, o, S, V⟩
    have hle := V.le
    have w1 : wr .i64 ((k : Int) + 1) = ((k + 1 : Nat) : Int) := by rw [wr64 _ (by omega)]; rfl
    simp (disch := (first | omega | assumption | (simp only [push_n, set_n, put_n, List.length_cons, List.length_nil, List.length_append, Nat.reduceAdd]; done) | (simp only [push_n, set_n, put_n, List.length_cons, List.length_nil, List.length_append]; omega) | (simp only [List.all_cons, List.all_nil, one_bool, one_int, one_str, one_ptr, one_nilptr, one_slice, one_eslice, one_nilslice, one_func, one_iface, one_niliface, Bool.and_true, Bool.true_and, List.getD_cons_zero, List.getD_cons_succ, List.contains_cons, List.contains_nil, Bool.or_true, Bool.true_or, Bool.or_false, Bool.false_or, Nat.reduceBEq, *]; done) | fail)) only [i0, i3, i4, i5, go_sem, Hold.p, HoldK.k, HoldL.K, HoldL.body, Nat.reduceBEq, Nat.reduceAdd, reduceIte]
    refine test_dec (fun hb => ?_) (fun hb => ?_)
    · simp (disch := (first | omega | assumption | (simp only [push_n, set_n, put_n, List.length_cons, List.length_nil, List.length_append, Nat.reduceAdd]; done) | (simp only [push_n, set_n, put_n, List.length_cons, List.length_nil, List.length_append]; omega) | (simp only [List.all_cons, List.all_nil, one_bool, one_int, one_str, one_ptr, one_nilptr, one_slice, one_eslice, one_nilslice, one_func, one_iface, one_niliface, Bool.and_true, Bool.true_and, List.getD_cons_zero, List.getD_cons_succ, List.contains_cons, List.contains_nil, Bool.or_true, Bool.true_or, Bool.or_false, Bool.false_or, Nat.reduceBEq, *]; done) | fail)) only [i0, i3, i4, i5, go_sem, Hold.p, HoldK.k, HoldL.K, HoldL.body, Nat.reduceBEq, Nat.reduceAdd, reduceIte]
      refine callA_of (l19Name_c g p v code S hl (by omega)) ?_
      rintro r g2 ⟨s, rfl, hsl, S, V2⟩
      have o := o.sav V2 (by omega)
      have V := V.trans V2
      have l2 := V2.le
      simp (disch := (first | omega | assumption | (simp only [push_n, set_n, put_n, List.length_cons, List.length_nil, List.length_append, Nat.reduceAdd]; done) | (simp only [push_n, set_n, put_n, List.length_cons, List.length_nil, List.length_append]; omega) | (simp only [List.all_cons, List.all_nil, one_bool, one_int, one_str, one_ptr, one_nilptr, one_slice, one_eslice, one_nilslice, one_func, one_iface, one_niliface, Bool.and_true, Bool.true_and, List.getD_cons_zero, List.getD_cons_succ, List.contains_cons, List.contains_nil, Bool.or_true, Bool.true_or, Bool.or_false, Bool.false_or, Nat.reduceBEq, *]; done) | fail)) only [i0, i3, i4, i5, go_sem, Hold.p, HoldK.k, HoldL.K, HoldL.body, Nat.reduceBEq, Nat.reduceAdd, reduceIte]
      refine callA_of (l02Host_c g2 p v code S hl) ?_
      rintro r g3 ⟨a, rfl, S, V3, hn3⟩
      have o := o.sav V3 (by omega)
      have V := V.trans V3
      simp (disch := (first | omega | assumption | (simp only [push_n, set_n, put_n, List.length_cons, List.length_nil, List.length_append, Nat.reduceAdd]; done) | (simp only [push_n, set_n, put_n, List.length_cons, List.length_nil, List.length_append]; omega) | (simp only [List.all_cons, List.all_nil, one_bool, one_int, one_str, one_ptr, one_nilptr, one_slice, one_eslice, one_nilslice, one_func, one_iface, one_niliface, Bool.and_true, Bool.true_and, List.getD_cons_zero, List.getD_cons_succ, List.contains_cons, List.contains_nil, Bool.or_true, Bool.true_or, Bool.or_false, Bool.false_or, Nat.reduceBEq, *]; done) | fail)) only [i0, i3, i4, i5, go_sem, Hold.p, HoldK.k, HoldL.K, HoldL.body, Nat.reduceBEq, Nat.reduceAdd, reduceIte]
      refine callA_of (l01Next_c g3 p v code 200 S (by omega) (by omega) hl) ?_
      rintro r g4 ⟨t, rfl, t0, t1, S, V4, hn4⟩
      have o := o.sav V4 (by omega)
      have V := V.trans V4
      simp (disch := (first | omega | assumption | (simp only [push_n, set_n, put_n, List.length_cons, List.length_nil, List.length_append, Nat.reduceAdd]; done) | (simp only [push_n, set_n, put_n, List.length_cons, List.length_nil, List.length_append]; omega) | (simp only [List.all_cons, List.all_nil, one_bool, one_int, one_str, one_ptr, one_nilptr, one_slice, one_eslice, one_nilslice, one_func, one_iface, one_niliface, Bool.and_true, Bool.true_and, List.getD_cons_zero, List.getD_cons_succ, List.contains_cons, List.contains_nil, Bool.or_true, Bool.true_or, Bool.or_false, Bool.false_or, Nat.reduceBEq, *]; done) | fail)) only [i0, i3, i4, i5, go_sem, Hold.p, HoldK.k, HoldL.K, HoldL.body, Nat.reduceBEq, Nat.reduceAdd, reduceIte]
      generalize hq_g5 : IH.push g4 (IObj.rows [[.str s, .int .i64 a, .int .i64 t]] 65 3 false) = g5
      have e_g5 : Ext g4 g5 := by rw [← hq_g5]; exact (Ext.refl _).push _
      have l_g5 : g5.n = g4.n + 1 := by rw [← hq_g5]; rfl
      have b : At g5 g4.n (IObj.rows [[.str s, .int .i64 a, .int .i64 t]] 65 3 false) := by rw [← hq_g5]; exact At.new _ _
      clear hq_g5
      have o := o.ext e_g5
      have S := S.ext e_g5
      have V := V.ext e_g5
      obtain ⟨q, hq⟩ : ∃ q, q = g4.n := ⟨_, rfl⟩
      rw [← hq] at b
      rw [← hq]
      refine callA_of (l01Next_c g5 p v code 4 S (by omega) (by omega) hl) ?_
      rintro r g6 ⟨y, rfl, y0, y1, S', V', hn_g6⟩
      have S := S'
      have o := o.sav V' (by omega)
      have b := b.sav V' (by omega)
      have V := V.trans V'
      clear V'
      simp (disch := (first | omega | assumption | (simp only [push_n, set_n, put_n, List.length_cons, List.length_nil, List.length_append, Nat.reduceAdd]; done) | (simp only [push_n, set_n, put_n, List.length_cons, List.length_nil, List.length_append]; omega) | (simp only [List.all_cons, List.all_nil, one_bool, one_int, one_str, one_ptr, one_nilptr, one_slice, one_eslice, one_nilslice, one_func, one_iface, one_niliface, Bool.and_true, Bool.true_and, List.getD_cons_zero, List.getD_cons_succ, List.contains_cons, List.contains_nil, Bool.or_true, Bool.true_or, Bool.or_false, Bool.false_or, Nat.reduceBEq, *]; done) | fail)) only [i0, i3, i4, i5, go_sem, Hold.p, HoldK.k, HoldL.K, HoldL.body, Nat.reduceBEq, Nat.reduceAdd, reduceIte]
      refine test_dec (fun hb => ?_) (fun hb => ?_)
      · have qq := b.eq
        simp (disch := (first | omega | assumption | (simp only [push_n, set_n, put_n, List.length_cons, List.length_nil, List.length_append, Nat.reduceAdd]; done) | (simp only [push_n, set_n, put_n, List.length_cons, List.length_nil, List.length_append]; omega) | (simp only [List.all_cons, List.all_nil, one_bool, one_int, one_str, one_ptr, one_nilptr, one_slice, one_eslice, one_nilslice, one_func, one_iface, one_niliface, Bool.and_true, Bool.true_and, List.getD_cons_zero, List.getD_cons_succ, List.contains_cons, List.contains_nil, Bool.or_true, Bool.true_or, Bool.or_false, Bool.false_or, Nat.reduceBEq, *]; done) | fail)) only [i0, i3, i4, i5, qq, go_sem, Hold.p, HoldK.k, HoldL.K, HoldL.body, Nat.reduceBEq, Nat.reduceAdd, reduceIte]
        generalize hq : IH.set g6 (q) (.rows [[.str [102, 105, 108, 101, 115, 46, 108, 97, 110], .int .i64 a, .int .i64 t]] 65 3 false) = g7
        have l_g7 : g7.n = g6.n := by rw [← hq]; rfl
        have b : At g7 (q) (.rows [[.str [102, 105, 108, 101, 115, 46, 108, 97, 110], .int .i64 a, .int .i64 t]] 65 3 false) := by rw [← hq]; exact b.here
        have o := o.set (m := q) (by omega) (.rows [[.str [102, 105, 108, 101, 115, 46, 108, 97, 110], .int .i64 a, .int .i64 t]] 65 3 false)
        rw [hq] at o
        have V := V.set (l := q) (.inl (by omega)) (.rows [[.str [102, 105, 108, 101, 115, 46, 108, 97, 110], .int .i64 a, .int .i64 t]] 65 3 false)
        rw [hq] at V
        have S := S0.back hpn S V (by rw [← hq]; simp (disch := omega) only [set_there])
        clear hq
        refine callA_of (l01Next_c g7 p v code 12 S (by omega) (by omega) hl) ?_
        rintro r gy ⟨z, rfl, z0, z1, S', V', hn_gy⟩
        have S := S'
        have o := o.sav V' (by omega)
        have b := b.sav V' (by omega)
        have V := V.trans V'
        clear V'
        simp (disch := (first | omega | assumption | (simp only [push_n, set_n, put_n, List.length_cons, List.length_nil, List.length_append, Nat.reduceAdd]; done) | (simp only [push_n, set_n, put_n, List.length_cons, List.length_nil, List.length_append]; omega) | (simp only [List.all_cons, List.all_nil, one_bool, one_int, one_str, one_ptr, one_nilptr, one_slice, one_eslice, one_nilslice, one_func, one_iface, one_niliface, Bool.and_true, Bool.true_and, List.getD_cons_zero, List.getD_cons_succ, List.contains_cons, List.contains_nil, Bool.or_true, Bool.true_or, Bool.or_false, Bool.false_or, Nat.reduceBEq, *]; done) | fail)) only [go_sem, Hold.p, HoldK.k, HoldL.K, HoldL.body, Nat.reduceBEq, Nat.reduceAdd, reduceIte]
        refine test_dec (fun hc => ?_) (fun hc => ?_)
        · have qq := b.eq
          simp (disch := (first | omega | assumption | (simp only [push_n, set_n, put_n, List.length_cons, List.length_nil, List.length_append, Nat.reduceAdd]; done) | (simp only [push_n, set_n, put_n, List.length_cons, List.length_nil, List.length_append]; omega) | (simp only [List.all_cons, List.all_nil, one_bool, one_int, one_str, one_ptr, one_nilptr, one_slice, one_eslice, one_nilslice, one_func, one_iface, one_niliface, Bool.and_true, Bool.true_and, List.getD_cons_zero, List.getD_cons_succ, List.contains_cons, List.contains_nil, Bool.or_true, Bool.true_or, Bool.or_false, Bool.false_or, Nat.reduceBEq, *]; done) | fail)) only [i0, i3, i4, i5, qq, go_sem, Hold.p, HoldK.k, HoldL.K, HoldL.body, Nat.reduceBEq, Nat.reduceAdd, reduceIte]
          generalize hq : IH.set gy (q) (.rows [[.str [102, 105, 108, 101, 115, 46, 108, 97, 110], .int .i64 (-1), .int .i64 t]] 65 3 false) = gx
          have l_gx : gx.n = gy.n := by rw [← hq]; rfl
          have b : At gx (q) (.rows [[.str [102, 105, 108, 101, 115, 46, 108, 97, 110], .int .i64 (-1), .int .i64 t]] 65 3 false) := by rw [← hq]; exact b.here
          have o := o.set (m := q) (by omega) (.rows [[.str [102, 105, 108, 101, 115, 46, 108, 97, 110], .int .i64 (-1), .int .i64 t]] 65 3 false)
          rw [hq] at o
          have V := V.set (l := q) (.inl (by omega)) (.rows [[.str [102, 105, 108, 101, 115, 46, 108, 97, 110], .int .i64 (-1), .int .i64 t]] 65 3 false)
          rw [hq] at V
          have S := S0.back hpn S V (by rw [← hq]; simp (disch := omega) only [set_there])
          clear hq
          have qq := b.eq
          try simp (disch := (first | omega | assumption | (simp only [push_n, set_n, put_n, List.length_cons, List.length_nil, List.length_append, Nat.reduceAdd]; done) | (simp only [push_n, set_n, put_n, List.length_cons, List.length_nil, List.length_append]; omega) | (simp only [List.all_cons, List.all_nil, one_bool, one_int, one_str, one_ptr, one_nilptr, one_slice, one_eslice, one_nilslice, one_func, one_iface, one_niliface, Bool.and_true, Bool.true_and, List.getD_cons_zero, List.getD_cons_succ, List.contains_cons, List.contains_nil, Bool.or_true, Bool.true_or, Bool.or_false, Bool.false_or, Nat.reduceBEq, *]; done) | fail)) only [i0, i3, i4, i5, qq, go_sem, Hold.p, HoldK.k, HoldL.K, HoldL.body, Nat.reduceBEq, Nat.reduceAdd, reduceIte]
          generalize hq_gZ : IH.push gx (IObj.rows [[.str [102, 105, 108, 101, 115, 46, 108, 97, 110], .int .i64 (-1), .int .i64 t]] 65 3 false) = gZ
          have e_gZ : Ext gx gZ := by rw [← hq_gZ]; exact (Ext.refl _).push _
          have l_gZ : gZ.n = gx.n + 1 := by rw [← hq_gZ]; rfl
          have bZ : At gZ gx.n (IObj.rows [[.str [102, 105, 108, 101, 115, 46, 108, 97, 110], .int .i64 (-1), .int .i64 t]] 65 3 false) := by rw [← hq_gZ]; exact At.new _ _
          clear hq_gZ
          have o := o.ext e_gZ
          have S := S.ext e_gZ
          have V := V.ext e_gZ
          try simp (disch := (first | omega | assumption | (simp only [push_n, set_n, put_n, List.length_cons, List.length_nil, List.length_append, Nat.reduceAdd]; done) | (simp only [push_n, set_n, put_n, List.length_cons, List.length_nil, List.length_append]; omega) | (simp only [List.all_cons, List.all_nil, one_bool, one_int, one_str, one_ptr, one_nilptr, one_slice, one_eslice, one_nilslice, one_func, one_iface, one_niliface, Bool.and_true, Bool.true_and, List.getD_cons_zero, List.getD_cons_succ, List.contains_cons, List.contains_nil, Bool.or_true, Bool.true_or, Bool.or_false, Bool.false_or, Nat.reduceBEq, *]; done) | fail)) only [i0, i3, i4, i5, bZ.eq, go_sem, Hold.p, HoldK.k, HoldL.K, HoldL.body, Nat.reduceBEq, Nat.reduceAdd, reduceIte]
          refine o.app (by simp) (by rw [entRows_len, List.length_singleton]; omega) ?_
          intro v6 h6 o6 t6 n6 v6o v6c
          have ht6 := t6.le
          have hVle := V.le
          have V6 : Sav p h h6 := ⟨by omega, fun m hm hp => (t6.obj m (by omega) (fun hv => by have := o.at_ hv; omega)).trans (V.obj m hm hp)⟩
          have S6 : Src h6 p v code := S0.back hpn S V6 (t6.obj p (by omega) (fun hv => by have := o.at_ hv; omega))
          simp (disch := (first | omega | assumption | (simp only [push_n, set_n, put_n, List.length_cons, List.length_nil, List.length_append, Nat.reduceAdd]; done) | (simp only [push_n, set_n, put_n, List.length_cons, List.length_nil, List.length_append]; omega) | (simp only [List.all_cons, List.all_nil, one_bool, one_int, one_str, one_ptr, one_nilptr, one_slice, one_eslice, one_nilslice, one_func, one_iface, one_niliface, Bool.and_true, Bool.true_and, List.getD_cons_zero, List.getD_cons_succ, List.contains_cons, List.contains_nil, Bool.or_true, Bool.true_or, Bool.or_false, Bool.false_or, Nat.reduceBEq, *]; done) | fail)) only [i0, i3, i4, i5, w1, go_sem, Hold.p, HoldK.k, HoldL.K, HoldL.body, Nat.reduceBEq, Nat.reduceAdd, reduceIte]
          refine ⟨_, ?_, k + 1, gZ.n, gZ.n + 1, v6, es ++ [⟨[102, 105, 108, 101, 115, 46, 108, 97, 110], (-1), t⟩], rfl, by omega, rfl, rfl, by simp; omega, by omega, by omega, ?_, S6, V6⟩
          · omega
          · rw [entRows_append]; exact o6
        simp (disch := (first | omega | assumption | (simp only [push_n, set_n, put_n, List.length_cons, List.length_nil, List.length_append, Nat.reduceAdd]; done) | (simp only [push_n, set_n, put_n, List.length_cons, List.length_nil, List.length_append]; omega) | (simp only [List.all_cons, List.all_nil, one_bool, one_int, one_str, one_ptr, one_nilptr, one_slice, one_eslice, one_nilslice, one_func, one_iface, one_niliface, Bool.and_true, Bool.true_and, List.getD_cons_zero, List.getD_cons_succ, List.contains_cons, List.contains_nil, Bool.or_true, Bool.true_or, Bool.or_false, Bool.false_or, Nat.reduceBEq, *]; done) | fail)) only [go_sem, Hold.p, HoldK.k, HoldL.K, HoldL.body, Nat.reduceBEq, Nat.reduceAdd, reduceIte]
        refine test_dec (fun hc => ?_) (fun hc => ?_)
        · simp (disch := (first | omega | assumption | (simp only [push_n, set_n, put_n, List.length_cons, List.length_nil, List.length_append, Nat.reduceAdd]; done) | (simp only [push_n, set_n, put_n, List.length_cons, List.length_nil, List.length_append]; omega) | (simp only [List.all_cons, List.all_nil, one_bool, one_int, one_str, one_ptr, one_nilptr, one_slice, one_eslice, one_nilslice, one_func, one_iface, one_niliface, Bool.and_true, Bool.true_and, List.getD_cons_zero, List.getD_cons_succ, List.contains_cons, List.contains_nil, Bool.or_true, Bool.true_or, Bool.or_false, Bool.false_or, Nat.reduceBEq, *]; done) | fail)) only [i0, i3, i4, i5, go_sem, Hold.p, HoldK.k, HoldL.K, HoldL.body, Nat.reduceBEq, Nat.reduceAdd, reduceIte]
          refine callA_of (l01Next_c gy p v code 2 S (by omega) (by omega) hl) ?_
          rintro r gw ⟨u, rfl, u0, u1, S', V', hn_gw⟩
          have S := S'
          have o := o.sav V' (by omega)
          have b := b.sav V' (by omega)
          have V := V.trans V'
          clear V'
          have qq := b.eq
          have w2 : wr .i64 (86400 + u) = 86400 + u := wr64 _ (by omega)
          simp (disch := (first | omega | assumption | (simp only [push_n, set_n, put_n, List.length_cons, List.length_nil, List.length_append, Nat.reduceAdd]; done) | (simp only [push_n, set_n, put_n, List.length_cons, List.length_nil, List.length_append]; omega) | (simp only [List.all_cons, List.all_nil, one_bool, one_int, one_str, one_ptr, one_nilptr, one_slice, one_eslice, one_nilslice, one_func, one_iface, one_niliface, Bool.and_true, Bool.true_and, List.getD_cons_zero, List.getD_cons_succ, List.contains_cons, List.contains_nil, Bool.or_true, Bool.true_or, Bool.or_false, Bool.false_or, Nat.reduceBEq, *]; done) | fail)) only [i0, i3, i4, i5, qq, w2, go_sem, Hold.p, HoldK.k, HoldL.K, HoldL.body, Nat.reduceBEq, Nat.reduceAdd, reduceIte]
          generalize hq : IH.set gw (q) (.rows [[.str [102, 105, 108, 101, 115, 46, 108, 97, 110], .int .i64 a, .int .i64 (86400 + u)]] 65 3 false) = gx
          have l_gx : gx.n = gw.n := by rw [← hq]; rfl
          have b : At gx (q) (.rows [[.str [102, 105, 108, 101, 115, 46, 108, 97, 110], .int .i64 a, .int .i64 (86400 + u)]] 65 3 false) := by rw [← hq]; exact b.here
          have o := o.set (m := q) (by omega) (.rows [[.str [102, 105, 108, 101, 115, 46, 108, 97, 110], .int .i64 a, .int .i64 (86400 + u)]] 65 3 false)
          rw [hq] at o
          have V := V.set (l := q) (.inl (by omega)) (.rows [[.str [102, 105, 108, 101, 115, 46, 108, 97, 110], .int .i64 a, .int .i64 (86400 + u)]] 65 3 false)
          rw [hq] at V
          have S := S0.back hpn S V (by rw [← hq]; simp (disch := omega) only [set_there])
          clear hq
          have qq := b.eq
          try simp (disch := (first | omega | assumption | (simp only [push_n, set_n, put_n, List.length_cons, List.length_nil, List.length_append, Nat.reduceAdd]; done) | (simp only [push_n, set_n, put_n, List.length_cons, List.length_nil, List.length_append]; omega) | (simp only [List.all_cons, List.all_nil, one_bool, one_int, one_str, one_ptr, one_nilptr, one_slice, one_eslice, one_nilslice, one_func, one_iface, one_niliface, Bool.and_true, Bool.true_and, List.getD_cons_zero, List.getD_cons_succ, List.contains_cons, List.contains_nil, Bool.or_true, Bool.true_or, Bool.or_false, Bool.false_or, Nat.reduceBEq, *]; done) | fail)) only [i0, i3, i4, i5, qq, go_sem, Hold.p, HoldK.k, HoldL.K, HoldL.body, Nat.reduceBEq, Nat.reduceAdd, reduceIte]
          generalize hq_gZ : IH.push gx (IObj.rows [[.str [102, 105, 108, 101, 115, 46, 108, 97, 110], .int .i64 a, .int .i64 (86400 + u)]] 65 3 false) = gZ
          have e_gZ : Ext gx gZ := by rw [← hq_gZ]; exact (Ext.refl _).push _
          have l_gZ : gZ.n = gx.n + 1 := by rw [← hq_gZ]; rfl
          have bZ : At gZ gx.n (IObj.rows [[.str [102, 105, 108, 101, 115, 46, 108, 97, 110], .int .i64 a, .int .i64 (86400 + u)]] 65 3 false) := by rw [← hq_gZ]; exact At.new _ _
          clear hq_gZ
          have o := o.ext e_gZ
          have S := S.ext e_gZ
          have V := V.ext e_gZ
          try simp (disch := (first | omega | assumption | (simp only [push_n, set_n, put_n, List.length_cons, List.length_nil, List.length_append, Nat.reduceAdd]; done) | (simp only [push_n, set_n, put_n, List.length_cons, List.length_nil, List.length_append]; omega) | (simp only [List.all_cons, List.all_nil, one_bool, one_int, one_str, one_ptr, one_nilptr, one_slice, one_eslice, one_nilslice, one_func, one_iface, one_niliface, Bool.and_true, Bool.true_and, List.getD_cons_zero, List.getD_cons_succ, List.contains_cons, List.contains_nil, Bool.or_true, Bool.true_or, Bool.or_false, Bool.false_or, Nat.reduceBEq, *]; done) | fail)) only [i0, i3, i4, i5, bZ.eq, go_sem, Hold.p, HoldK.k, HoldL.K, HoldL.body, Nat.reduceBEq, Nat.reduceAdd, reduceIte]
          refine o.app (by simp) (by rw [entRows_len, List.length_singleton]; omega) ?_
          intro v6 h6 o6 t6 n6 v6o v6c
          have ht6 := t6.le
          have hVle := V.le
          have V6 : Sav p h h6 := ⟨by omega, fun m hm hp => (t6.obj m (by omega) (fun hv => by have := o.at_ hv; omega)).trans (V.obj m hm hp)⟩
          have S6 : Src h6 p v code := S0.back hpn S V6 (t6.obj p (by omega) (fun hv => by have := o.at_ hv; omega))
          simp (disch := (first | omega | assumption | (simp only [push_n, set_n, put_n, List.length_cons, List.length_nil, List.length_append, Nat.reduceAdd]; done) | (simp only [push_n, set_n, put_n, List.length_cons, List.length_nil, List.length_append]; omega) | (simp only [List.all_cons, List.all_nil, one_bool, one_int, one_str, one_ptr, one_nilptr, one_slice, one_eslice, one_nilslice, one_func, one_iface, one_niliface, Bool.and_true, Bool.true_and, List.getD_cons_zero, List.getD_cons_succ, List.contains_cons, List.contains_nil, Bool.or_true, Bool.true_or, Bool.or_false, Bool.false_or, Nat.reduceBEq, *]; done) | fail)) only [i0, i3, i4, i5, w1, go_sem, Hold.p, HoldK.k, HoldL.K, HoldL.body, Nat.reduceBEq, Nat.reduceAdd, reduceIte]
          refine ⟨_, ?_, k + 1, gZ.n, gZ.n + 1, v6, es ++ [⟨[102, 105, 108, 101, 115, 46, 108, 97, 110], a, (86400 + u)⟩], rfl, by omega, rfl, rfl, by simp; omega, by omega, by omega, ?_, S6, V6⟩
          · omega
          · rw [entRows_append]; exact o6
        simp (disch := (first | omega | assumption | (simp only [push_n, set_n, put_n, List.length_cons, List.length_nil, List.length_append, Nat.reduceAdd]; done) | (simp only [push_n, set_n, put_n, List.length_cons, List.length_nil, List.length_append]; omega) | (simp only [List.all_cons, List.all_nil, one_bool, one_int, one_str, one_ptr, one_nilptr, one_slice, one_eslice, one_nilslice, one_func, one_iface, one_niliface, Bool.and_true, Bool.true_and, List.getD_cons_zero, List.getD_cons_succ, List.contains_cons, List.contains_nil, Bool.or_true, Bool.true_or, Bool.or_false, Bool.false_or, Nat.reduceBEq, *]; done) | fail)) only [go_sem, Hold.p, HoldK.k, HoldL.K, HoldL.body, Nat.reduceBEq, Nat.reduceAdd, reduceIte]
        refine test_dec (fun hc => ?_) (fun hc => ?_)
        · have qq := b.eq
          simp (disch := (first | omega | assumption | (simp only [push_n, set_n, put_n, List.length_cons, List.length_nil, List.length_append, Nat.reduceAdd]; done) | (simp only [push_n, set_n, put_n, List.length_cons, List.length_nil, List.length_append]; omega) | (simp only [List.all_cons, List.all_nil, one_bool, one_int, one_str, one_ptr, one_nilptr, one_slice, one_eslice, one_nilslice, one_func, one_iface, one_niliface, Bool.and_true, Bool.true_and, List.getD_cons_zero, List.getD_cons_succ, List.contains_cons, List.contains_nil, Bool.or_true, Bool.true_or, Bool.or_false, Bool.false_or, Nat.reduceBEq, *]; done) | fail)) only [i0, i3, i4, i5, qq, go_sem, Hold.p, HoldK.k, HoldL.K, HoldL.body, Nat.reduceBEq, Nat.reduceAdd, reduceIte]
          generalize hq : IH.set gy (q) (.rows [[.str [102, 105, 108, 101, 115, 46, 108, 97, 110], .int .i64 a, .int .i64 (-1)]] 65 3 false) = gx
          have l_gx : gx.n = gy.n := by rw [← hq]; rfl
          have b : At gx (q) (.rows [[.str [102, 105, 108, 101, 115, 46, 108, 97, 110], .int .i64 a, .int .i64 (-1)]] 65 3 false) := by rw [← hq]; exact b.here
          have o := o.set (m := q) (by omega) (.rows [[.str [102, 105, 108, 101, 115, 46, 108, 97, 110], .int .i64 a, .int .i64 (-1)]] 65 3 false)
          rw [hq] at o
          have V := V.set (l := q) (.inl (by omega)) (.rows [[.str [102, 105, 108, 101, 115, 46, 108, 97, 110], .int .i64 a, .int .i64 (-1)]] 65 3 false)
          rw [hq] at V
          have S := S0.back hpn S V (by rw [← hq]; simp (disch := omega) only [set_there])
          clear hq
          have qq := b.eq
          try simp (disch := (first | omega | assumption | (simp only [push_n, set_n, put_n, List.length_cons, List.length_nil, List.length_append, Nat.reduceAdd]; done) | (simp only [push_n, set_n, put_n, List.length_cons, List.length_nil, List.length_append]; omega) | (simp only [List.all_cons, List.all_nil, one_bool, one_int, one_str, one_ptr, one_nilptr, one_slice, one_eslice, one_nilslice, one_func, one_iface, one_niliface, Bool.and_true, Bool.true_and, List.getD_cons_zero, List.getD_cons_succ, List.contains_cons, List.contains_nil, Bool.or_true, Bool.true_or, Bool.or_false, Bool.false_or, Nat.reduceBEq, *]; done) | fail)) only [i0, i3, i4, i5, qq, go_sem, Hold.p, HoldK.k, HoldL.K, HoldL.body, Nat.reduceBEq, Nat.reduceAdd, reduceIte]
          generalize hq_gZ : IH.push gx (IObj.rows [[.str [102, 105, 108, 101, 115, 46, 108, 97, 110], .int .i64 a, .int .i64 (-1)]] 65 3 false) = gZ
          have e_gZ : Ext gx gZ := by rw [← hq_gZ]; exact (Ext.refl _).push _
          have l_gZ : gZ.n = gx.n + 1 := by rw [← hq_gZ]; rfl
          have bZ : At gZ gx.n (IObj.rows [[.str [102, 105, 108, 101, 115, 46, 108, 97, 110], .int .i64 a, .int .i64 (-1)]] 65 3 false) := by rw [← hq_gZ]; exact At.new _ _
          clear hq_gZ
          have o := o.ext e_gZ
          have S := S.ext e_gZ
          have V := V.ext e_gZ
          try simp (disch := (first | omega | assumption | (simp only [push_n, set_n, put_n, List.length_cons, List.length_nil, List.length_append, Nat.reduceAdd]; done) | (simp only [push_n, set_n, put_n, List.length_cons, List.length_nil, List.length_append]; omega) | (simp only [List.all_cons, List.all_nil, one_bool, one_int, one_str, one_ptr, one_nilptr, one_slice, one_eslice, one_nilslice, one_func, one_iface, one_niliface, Bool.and_true, Bool.true_and, List.getD_cons_zero, List.getD_cons_succ, List.contains_cons, List.contains_nil, Bool.or_true, Bool.true_or, Bool.or_false, Bool.false_or, Nat.reduceBEq, *]; done) | fail)) only [i0, i3, i4, i5, bZ.eq, go_sem, Hold.p, HoldK.k, HoldL.K, HoldL.body, Nat.reduceBEq, Nat.reduceAdd, reduceIte]
          refine o.app (by simp) (by rw [entRows_len, List.length_singleton]; omega) ?_
          intro v6 h6 o6 t6 n6 v6o v6c
          have ht6 := t6.le
          have hVle := V.le
          have V6 : Sav p h h6 := ⟨by omega, fun m hm hp => (t6.obj m (by omega) (fun hv => by have := o.at_ hv; omega)).trans (V.obj m hm hp)⟩
          have S6 : Src h6 p v code := S0.back hpn S V6 (t6.obj p (by omega) (fun hv => by have := o.at_ hv; omega))
          simp (disch := (first | omega | assumption | (simp only [push_n, set_n, put_n, List.length_cons, List.length_nil, List.length_append, Nat.reduceAdd]; done) | (simp only [push_n, set_n, put_n, List.length_cons, List.length_nil, List.length_append]; omega) | (simp only [List.all_cons, List.all_nil, one_bool, one_int, one_str, one_ptr, one_nilptr, one_slice, one_eslice, one_nilslice, one_func, one_iface, one_niliface, Bool.and_true, Bool.true_and, List.getD_cons_zero, List.getD_cons_succ, List.contains_cons, List.contains_nil, Bool.or_true, Bool.true_or, Bool.or_false, Bool.false_or, Nat.reduceBEq, *]; done) | fail)) only [i0, i3, i4, i5, w1, go_sem, Hold.p, HoldK.k, HoldL.K, HoldL.body, Nat.reduceBEq, Nat.reduceAdd, reduceIte]
          refine ⟨_, ?_, k + 1, gZ.n, gZ.n + 1, v6, es ++ [⟨[102, 105, 108, 101, 115, 46, 108, 97, 110], a, (-1)⟩], rfl, by omega, rfl, rfl, by simp; omega, by omega, by omega, ?_, S6, V6⟩
          · omega
          · rw [entRows_append]; exact o6
        · skip
          have qq := b.eq
          try simp (disch := (first | omega | assumption | (simp only [push_n, set_n, put_n, List.length_cons, List.length_nil, List.length_append, Nat.reduceAdd]; done) | (simp only [push_n, set_n, put_n, List.length_cons, List.length_nil, List.length_append]; omega) | (simp only [List.all_cons, List.all_nil, one_bool, one_int, one_str, one_ptr, one_nilptr, one_slice, one_eslice, one_nilslice, one_func, one_iface, one_niliface, Bool.and_true, Bool.true_and, List.getD_cons_zero, List.getD_cons_succ, List.contains_cons, List.contains_nil, Bool.or_true, Bool.true_or, Bool.or_false, Bool.false_or, Nat.reduceBEq, *]; done) | fail)) only [i0, i3, i4, i5, qq, go_sem, Hold.p, HoldK.k, HoldL.K, HoldL.body, Nat.reduceBEq, Nat.reduceAdd, reduceIte]
          generalize hq_gZ : IH.push gy (IObj.rows [[.str [102, 105, 108, 101, 115, 46, 108, 97, 110], .int .i64 a, .int .i64 t]] 65 3 false) = gZ
          have e_gZ : Ext gy gZ := by rw [← hq_gZ]; exact (Ext.refl _).push _
          have l_gZ : gZ.n = gy.n + 1 := by rw [← hq_gZ]; rfl
          have bZ : At gZ gy.n (IObj.rows [[.str [102, 105, 108, 101, 115, 46, 108, 97, 110], .int .i64 a, .int .i64 t]] 65 3 false) := by rw [← hq_gZ]; exact At.new _ _
          clear hq_gZ
          have o := o.ext e_gZ
          have S := S.ext e_gZ
          have V := V.ext e_gZ
          try simp (disch := (first | omega | assumption | (simp only [push_n, set_n, put_n, List.length_cons, List.length_nil, List.length_append, Nat.reduceAdd]; done) | (simp only [push_n, set_n, put_n, List.length_cons, List.length_nil, List.length_append]; omega) | (simp only [List.all_cons, List.all_nil, one_bool, one_int, one_str, one_ptr, one_nilptr, one_slice, one_eslice, one_nilslice, one_func, one_iface, one_niliface, Bool.and_true, Bool.true_and, List.getD_cons_zero, List.getD_cons_succ, List.contains_cons, List.contains_nil, Bool.or_true, Bool.true_or, Bool.or_false, Bool.false_or, Nat.reduceBEq, *]; done) | fail)) only [i0, i3, i4, i5, bZ.eq, go_sem, Hold.p, HoldK.k, HoldL.K, HoldL.body, Nat.reduceBEq, Nat.reduceAdd, reduceIte]
          refine o.app (by simp) (by rw [entRows_len, List.length_singleton]; omega) ?_
          intro v6 h6 o6 t6 n6 v6o v6c
          have ht6 := t6.le
          have hVle := V.le
          have V6 : Sav p h h6 := ⟨by omega, fun m hm hp => (t6.obj m (by omega) (fun hv => by have := o.at_ hv; omega)).trans (V.obj m hm hp)⟩
          have S6 : Src h6 p v code := S0.back hpn S V6 (t6.obj p (by omega) (fun hv => by have := o.at_ hv; omega))
          simp (disch := (first | omega | assumption | (simp only [push_n, set_n, put_n, List.length_cons, List.length_nil, List.length_append, Nat.reduceAdd]; done) | (simp only [push_n, set_n, put_n, List.length_cons, List.length_nil, List.length_append]; omega) | (simp only [List.all_cons, List.all_nil, one_bool, one_int, one_str, one_ptr, one_nilptr, one_slice, one_eslice, one_nilslice, one_func, one_iface, one_niliface, Bool.and_true, Bool.true_and, List.getD_cons_zero, List.getD_cons_succ, List.contains_cons, List.contains_nil, Bool.or_true, Bool.true_or, Bool.or_false, Bool.false_or, Nat.reduceBEq, *]; done) | fail)) only [i0, i3, i4, i5, w1, go_sem, Hold.p, HoldK.k, HoldL.K, HoldL.body, Nat.reduceBEq, Nat.reduceAdd, reduceIte]
          refine ⟨_, ?_, k + 1, gZ.n, gZ.n + 1, v6, es ++ [⟨[102, 105, 108, 101, 115, 46, 108, 97, 110], a, t⟩], rfl, by omega, rfl, rfl, by simp; omega, by omega, by omega, ?_, S6, V6⟩
          · omega
          · rw [entRows_append]; exact o6
      · simp (disch := (first | omega | assumption | (simp only [push_n, set_n, put_n, List.length_cons, List.length_nil, List.length_append, Nat.reduceAdd]; done) | (simp only [push_n, set_n, put_n, List.length_cons, List.length_nil, List.length_append]; omega) | (simp only [List.all_cons, List.all_nil, one_bool, one_int, one_str, one_ptr, one_nilptr, one_slice, one_eslice, one_nilslice, one_func, one_iface, one_niliface, Bool.and_true, Bool.true_and, List.getD_cons_zero, List.getD_cons_succ, List.contains_cons, List.contains_nil, Bool.or_true, Bool.true_or, Bool.or_false, Bool.false_or, Nat.reduceBEq, *]; done) | fail)) only [i0, i3, i4, i5, go_sem, Hold.p, HoldK.k, HoldL.K, HoldL.body, Nat.reduceBEq, Nat.reduceAdd, reduceIte]
        refine callA_of (l01Next_c g6 p v code 12 S (by omega) (by omega) hl) ?_
        rintro r gy ⟨z, rfl, z0, z1, S', V', hn_gy⟩
        have S := S'
        have o := o.sav V' (by omega)
        have b := b.sav V' (by omega)
        have V := V.trans V'
        clear V'
        simp (disch := (first | omega | assumption | (simp only [push_n, set_n, put_n, List.length_cons, List.length_nil, List.length_append, Nat.reduceAdd]; done) | (simp only [push_n, set_n, put_n, List.length_cons, List.length_nil, List.length_append]; omega) | (simp only [List.all_cons, List.all_nil, one_bool, one_int, one_str, one_ptr, one_nilptr, one_slice, one_eslice, one_nilslice, one_func, one_iface, one_niliface, Bool.and_true, Bool.true_and, List.getD_cons_zero, List.getD_cons_succ, List.contains_cons, List.contains_nil, Bool.or_true, Bool.true_or, Bool.or_false, Bool.false_or, Nat.reduceBEq, *]; done) | fail)) only [go_sem, Hold.p, HoldK.k, HoldL.K, HoldL.body, Nat.reduceBEq, Nat.reduceAdd, reduceIte]
        refine test_dec (fun hc => ?_) (fun hc => ?_)
        · have qq := b.eq
          simp (disch := (first | omega | assumption | (simp only [push_n, set_n, put_n, List.length_cons, List.length_nil, List.length_append, Nat.reduceAdd]; done) | (simp only [push_n, set_n, put_n, List.length_cons, List.length_nil, List.length_append]; omega) | (simp only [List.all_cons, List.all_nil, one_bool, one_int, one_str, one_ptr, one_nilptr, one_slice, one_eslice, one_nilslice, one_func, one_iface, one_niliface, Bool.and_true, Bool.true_and, List.getD_cons_zero, List.getD_cons_succ, List.contains_cons, List.contains_nil, Bool.or_true, Bool.true_or, Bool.or_false, Bool.false_or, Nat.reduceBEq, *]; done) | fail)) only [i0, i3, i4, i5, qq, go_sem, Hold.p, HoldK.k, HoldL.K, HoldL.body, Nat.reduceBEq, Nat.reduceAdd, reduceIte]
          generalize hq : IH.set gy (q) (.rows [[.str s, .int .i64 (-1), .int .i64 t]] 65 3 false) = gx
          have l_gx : gx.n = gy.n := by rw [← hq]; rfl
          have b : At gx (q) (.rows [[.str s, .int .i64 (-1), .int .i64 t]] 65 3 false) := by rw [← hq]; exact b.here
          have o := o.set (m := q) (by omega) (.rows [[.str s, .int .i64 (-1), .int .i64 t]] 65 3 false)
          rw [hq] at o
          have V := V.set (l := q) (.inl (by omega)) (.rows [[.str s, .int .i64 (-1), .int .i64 t]] 65 3 false)
          rw [hq] at V
          have S := S0.back hpn S V (by rw [← hq]; simp (disch := omega) only [set_there])
          clear hq
          have qq := b.eq
          try simp (disch := (first | omega | assumption | (simp only [push_n, set_n, put_n, List.length_cons, List.length_nil, List.length_append, Nat.reduceAdd]; done) | (simp only [push_n, set_n, put_n, List.length_cons, List.length_nil, List.length_append]; omega) | (simp only [List.all_cons, List.all_nil, one_bool, one_int, one_str, one_ptr, one_nilptr, one_slice, one_eslice, one_nilslice, one_func, one_iface, one_niliface, Bool.and_true, Bool.true_and, List.getD_cons_zero, List.getD_cons_succ, List.contains_cons, List.contains_nil, Bool.or_true, Bool.true_or, Bool.or_false, Bool.false_or, Nat.reduceBEq, *]; done) | fail)) only [i0, i3, i4, i5, qq, go_sem, Hold.p, HoldK.k, HoldL.K, HoldL.body, Nat.reduceBEq, Nat.reduceAdd, reduceIte]
          generalize hq_gZ : IH.push gx (IObj.rows [[.str s, .int .i64 (-1), .int .i64 t]] 65 3 false) = gZ
          have e_gZ : Ext gx gZ := by rw [← hq_gZ]; exact (Ext.refl _).push _
          have l_gZ : gZ.n = gx.n + 1 := by rw [← hq_gZ]; rfl
          have bZ : At gZ gx.n (IObj.rows [[.str s, .int .i64 (-1), .int .i64 t]] 65 3 false) := by rw [← hq_gZ]; exact At.new _ _
          clear hq_gZ
          have o := o.ext e_gZ
          have S := S.ext e_gZ
          have V := V.ext e_gZ
          try simp (disch := (first | omega | assumption | (simp only [push_n, set_n, put_n, List.length_cons, List.length_nil, List.length_append, Nat.reduceAdd]; done) | (simp only [push_n, set_n, put_n, List.length_cons, List.length_nil, List.length_append]; omega) | (simp only [List.all_cons, List.all_nil, one_bool, one_int, one_str, one_ptr, one_nilptr, one_slice, one_eslice, one_nilslice, one_func, one_iface, one_niliface, Bool.and_true, Bool.true_and, List.getD_cons_zero, List.getD_cons_succ, List.contains_cons, List.contains_nil, Bool.or_true, Bool.true_or, Bool.or_false, Bool.false_or, Nat.reduceBEq, *]; done) | fail)) only [i0, i3, i4, i5, bZ.eq, go_sem, Hold.p, HoldK.k, HoldL.K, HoldL.body, Nat.reduceBEq, Nat.reduceAdd, reduceIte]
          refine o.app (by simp) (by rw [entRows_len, List.length_singleton]; omega) ?_
          intro v6 h6 o6 t6 n6 v6o v6c
          have ht6 := t6.le
          have hVle := V.le
          have V6 : Sav p h h6 := ⟨by omega, fun m hm hp => (t6.obj m (by omega) (fun hv => by have := o.at_ hv; omega)).trans (V.obj m hm hp)⟩
          have S6 : Src h6 p v code := S0.back hpn S V6 (t6.obj p (by omega) (fun hv => by have := o.at_ hv; omega))
          simp (disch := (first | omega | assumption | (simp only [push_n, set_n, put_n, List.length_cons, List.length_nil, List.length_append, Nat.reduceAdd]; done) | (simp only [push_n, set_n, put_n, List.length_cons, List.length_nil, List.length_append]; omega) | (simp only [List.all_cons, List.all_nil, one_bool, one_int, one_str, one_ptr, one_nilptr, one_slice, one_eslice, one_nilslice, one_func, one_iface, one_niliface, Bool.and_true, Bool.true_and, List.getD_cons_zero, List.getD_cons_succ, List.contains_cons, List.contains_nil, Bool.or_true, Bool.true_or, Bool.or_false, Bool.false_or, Nat.reduceBEq, *]; done) | fail)) only [i0, i3, i4, i5, w1, go_sem, Hold.p, HoldK.k, HoldL.K, HoldL.body, Nat.reduceBEq, Nat.reduceAdd, reduceIte]
          refine ⟨_, ?_, k + 1, gZ.n, gZ.n + 1, v6, es ++ [⟨s, (-1), t⟩], rfl, by omega, rfl, rfl, by simp; omega, by omega, by omega, ?_, S6, V6⟩
          · omega
          · rw [entRows_append]; exact o6
        simp (disch := (first | omega | assumption | (simp only [push_n, set_n, put_n, List.length_cons, List.length_nil, List.length_append, Nat.reduceAdd]; done) | (simp only [push_n, set_n, put_n, List.length_cons, List.length_nil, List.length_append]; omega) | (simp only [List.all_cons, List.all_nil, one_bool, one_int, one_str, one_ptr, one_nilptr, one_slice, one_eslice, one_nilslice, one_func, one_iface, one_niliface, Bool.and_true, Bool.true_and, List.getD_cons_zero, List.getD_cons_succ, List.contains_cons, List.contains_nil, Bool.or_true, Bool.true_or, Bool.or_false, Bool.false_or, Nat.reduceBEq, *]; done) | fail)) only [go_sem, Hold.p, HoldK.k, HoldL.K, HoldL.body, Nat.reduceBEq, Nat.reduceAdd, reduceIte]
        refine test_dec (fun hc => ?_) (fun hc => ?_)
        · simp (disch := (first | omega | assumption | (simp only [push_n, set_n, put_n, List.length_cons, List.length_nil, List.length_append, Nat.reduceAdd]; done) | (simp only [push_n, set_n, put_n, List.length_cons, List.length_nil, List.length_append]; omega) | (simp only [List.all_cons, List.all_nil, one_bool, one_int, one_str, one_ptr, one_nilptr, one_slice, one_eslice, one_nilslice, one_func, one_iface, one_niliface, Bool.and_true, Bool.true_and, List.getD_cons_zero, List.getD_cons_succ, List.contains_cons, List.contains_nil, Bool.or_true, Bool.true_or, Bool.or_false, Bool.false_or, Nat.reduceBEq, *]; done) | fail)) only [i0, i3, i4, i5, go_sem, Hold.p, HoldK.k, HoldL.K, HoldL.body, Nat.reduceBEq, Nat.reduceAdd, reduceIte]
          refine callA_of (l01Next_c gy p v code 2 S (by omega) (by omega) hl) ?_
          rintro r gw ⟨u, rfl, u0, u1, S', V', hn_gw⟩
          have S := S'
          have o := o.sav V' (by omega)
          have b := b.sav V' (by omega)
          have V := V.trans V'
          clear V'
          have qq := b.eq
          have w2 : wr .i64 (86400 + u) = 86400 + u := wr64 _ (by omega)
          simp (disch := (first | omega | assumption | (simp only [push_n, set_n, put_n, List.length_cons, List.length_nil, List.length_append, Nat.reduceAdd]; done) | (simp only [push_n, set_n, put_n, List.length_cons, List.length_nil, List.length_append]; omega) | (simp only [List.all_cons, List.all_nil, one_bool, one_int, one_str, one_ptr, one_nilptr, one_slice, one_eslice, one_nilslice, one_func, one_iface, one_niliface, Bool.and_true, Bool.true_and, List.getD_cons_zero, List.getD_cons_succ, List.contains_cons, List.contains_nil, Bool.or_true, Bool.true_or, Bool.or_false, Bool.false_or, Nat.reduceBEq, *]; done) | fail)) only [i0, i3, i4, i5, qq, w2, go_sem, Hold.p, HoldK.k, HoldL.K, HoldL.body, Nat.reduceBEq, Nat.reduceAdd, reduceIte]
          generalize hq : IH.set gw (q) (.rows [[.str s, .int .i64 a, .int .i64 (86400 + u)]] 65 3 false) = gx
          have l_gx : gx.n = gw.n := by rw [← hq]; rfl
          have b : At gx (q) (.rows [[.str s, .int .i64 a, .int .i64 (86400 + u)]] 65 3 false) := by rw [← hq]; exact b.here
          have o := o.set (m := q) (by omega) (.rows [[.str s, .int .i64 a, .int .i64 (86400 + u)]] 65 3 false)
          rw [hq] at o
          have V := V.set (l := q) (.inl (by omega)) (.rows [[.str s, .int .i64 a, .int .i64 (86400 + u)]] 65 3 false)
          rw [hq] at V
          have S := S0.back hpn S V (by rw [← hq]; simp (disch := omega) only [set_there])
          clear hq
          have qq := b.eq
          try simp (disch := (first | omega | assumption | (simp only [push_n, set_n, put_n, List.length_cons, List.length_nil, List.length_append, Nat.reduceAdd]; done) | (simp only [push_n, set_n, put_n, List.length_cons, List.length_nil, List.length_append]; omega) | (simp only [List.all_cons, List.all_nil, one_bool, one_int, one_str, one_ptr, one_nilptr, one_slice, one_eslice, one_nilslice, one_func, one_iface, one_niliface, Bool.and_true, Bool.true_and, List.getD_cons_zero, List.getD_cons_succ, List.contains_cons, List.contains_nil, Bool.or_true, Bool.true_or, Bool.or_false, Bool.false_or, Nat.reduceBEq, *]; done) | fail)) only [i0, i3, i4, i5, qq, go_sem, Hold.p, HoldK.k, HoldL.K, HoldL.body, Nat.reduceBEq, Nat.reduceAdd, reduceIte]
          generalize hq_gZ : IH.push gx (IObj.rows [[.str s, .int .i64 a, .int .i64 (86400 + u)]] 65 3 false) = gZ
          have e_gZ : Ext gx gZ := by rw [← hq_gZ]; exact (Ext.refl _).push _
          have l_gZ : gZ.n = gx.n + 1 := by rw [← hq_gZ]; rfl
          have bZ : At gZ gx.n (IObj.rows [[.str s, .int .i64 a, .int .i64 (86400 + u)]] 65 3 false) := by rw [← hq_gZ]; exact At.new _ _
          clear hq_gZ
          have o := o.ext e_gZ
          have S := S.ext e_gZ
          have V := V.ext e_gZ
          try simp (disch := (first | omega | assumption | (simp only [push_n, set_n, put_n, List.length_cons, List.length_nil, List.length_append, Nat.reduceAdd]; done) | (simp only [push_n, set_n, put_n, List.length_cons, List.length_nil, List.length_append]; omega) | (simp only [List.all_cons, List.all_nil, one_bool, one_int, one_str, one_ptr, one_nilptr, one_slice, one_eslice, one_nilslice, one_func, one_iface, one_niliface, Bool.and_true, Bool.true_and, List.getD_cons_zero, List.getD_cons_succ, List.contains_cons, List.contains_nil, Bool.or_true, Bool.true_or, Bool.or_false, Bool.false_or, Nat.reduceBEq, *]; done) | fail)) only [i0, i3, i4, i5, bZ.eq, go_sem, Hold.p, HoldK.k, HoldL.K, HoldL.body, Nat.reduceBEq, Nat.reduceAdd, reduceIte]
          refine o.app (by simp) (by rw [entRows_len, List.length_singleton]; omega) ?_
          intro v6 h6 o6 t6 n6 v6o v6c
          have ht6 := t6.le
          have hVle := V.le
          have V6 : Sav p h h6 := ⟨by omega, fun m hm hp => (t6.obj m (by omega) (fun hv => by have := o.at_ hv; omega)).trans (V.obj m hm hp)⟩
          have S6 : Src h6 p v code := S0.back hpn S V6 (t6.obj p (by omega) (fun hv => by have := o.at_ hv; omega))
          simp (disch := (first | omega | assumption | (simp only [push_n, set_n, put_n, List.length_cons, List.length_nil, List.length_append, Nat.reduceAdd]; done) | (simp only [push_n, set_n, put_n, List.length_cons, List.length_nil, List.length_append]; omega) | (simp only [List.all_cons, List.all_nil, one_bool, one_int, one_str, one_ptr, one_nilptr, one_slice, one_eslice, one_nilslice, one_func, one_iface, one_niliface, Bool.and_true, Bool.true_and, List.getD_cons_zero, List.getD_cons_succ, List.contains_cons, List.contains_nil, Bool.or_true, Bool.true_or, Bool.or_false, Bool.false_or, Nat.reduceBEq, *]; done) | fail)) only [i0, i3, i4, i5, w1, go_sem, Hold.p, HoldK.k, HoldL.K, HoldL.body, Nat.reduceBEq, Nat.reduceAdd, reduceIte]
          refine ⟨_, ?_, k + 1, gZ.n, gZ.n + 1, v6, es ++ [⟨s, a, (86400 + u)⟩], rfl, by omega, rfl, rfl, by simp; omega, by omega, by omega, ?_, S6, V6⟩
          · omega
          · rw [entRows_append]; exact o6
        simp (disch := (first | omega | assumption | (simp only [push_n, set_n, put_n, List.length_cons, List.length_nil, List.length_append, Nat.reduceAdd]; done) | (simp only [push_n, set_n, put_n, List.length_cons, List.length_nil, List.length_append]; omega) | (simp only [List.all_cons, List.all_nil, one_bool, one_int, one_str, one_ptr, one_nilptr, one_slice, one_eslice, one_nilslice, one_func, one_iface, one_niliface, Bool.and_true, Bool.true_and, List.getD_cons_zero, List.getD_cons_succ, List.contains_cons, List.contains_nil, Bool.or_true, Bool.true_or, Bool.or_false, Bool.false_or, Nat.reduceBEq, *]; done) | fail)) only [go_sem, Hold.p, HoldK.k, HoldL.K, HoldL.body, Nat.reduceBEq, Nat.reduceAdd, reduceIte]
        refine test_dec (fun hc => ?_) (fun hc => ?_)
        · have qq := b.eq
          simp (disch := (first | omega | assumption | (simp only [push_n, set_n, put_n, List.length_cons, List.length_nil, List.length_append, Nat.reduceAdd]; done) | (simp only [push_n, set_n, put_n, List.length_cons, List.length_nil, List.length_append]; omega) | (simp only [List.all_cons, List.all_nil, one_bool, one_int, one_str, one_ptr, one_nilptr, one_slice, one_eslice, one_nilslice, one_func, one_iface, one_niliface, Bool.and_true, Bool.true_and, List.getD_cons_zero, List.getD_cons_succ, List.contains_cons, List.contains_nil, Bool.or_true, Bool.true_or, Bool.or_false, Bool.false_or, Nat.reduceBEq, *]; done) | fail)) only [i0, i3, i4, i5, qq, go_sem, Hold.p, HoldK.k, HoldL.K, HoldL.body, Nat.reduceBEq, Nat.reduceAdd, reduceIte]
          generalize hq : IH.set gy (q) (.rows [[.str s, .int .i64 a, .int .i64 (-1)]] 65 3 false) = gx
          have l_gx : gx.n = gy.n := by rw [← hq]; rfl
          have b : At gx (q) (.rows [[.str s, .int .i64 a, .int .i64 (-1)]] 65 3 false) := by rw [← hq]; exact b.here
          have o := o.set (m := q) (by omega) (.rows [[.str s, .int .i64 a, .int .i64 (-1)]] 65 3 false)
          rw [hq] at o
          have V := V.set (l := q) (.inl (by omega)) (.rows [[.str s, .int .i64 a, .int .i64 (-1)]] 65 3 false)
          rw [hq] at V
          have S := S0.back hpn S V (by rw [← hq]; simp (disch := omega) only [set_there])
          clear hq
          have qq := b.eq
          try simp (disch := (first | omega | assumption | (simp only [push_n, set_n, put_n, List.length_cons, List.length_nil, List.length_append, Nat.reduceAdd]; done) | (simp only [push_n, set_n, put_n, List.length_cons, List.length_nil, List.length_append]; omega) | (simp only [List.all_cons, List.all_nil, one_bool, one_int, one_str, one_ptr, one_nilptr, one_slice, one_eslice, one_nilslice, one_func, one_iface, one_niliface, Bool.and_true, Bool.true_and, List.getD_cons_zero, List.getD_cons_succ, List.contains_cons, List.contains_nil, Bool.or_true, Bool.true_or, Bool.or_false, Bool.false_or, Nat.reduceBEq, *]; done) | fail)) only [i0, i3, i4, i5, qq, go_sem, Hold.p, HoldK.k, HoldL.K, HoldL.body, Nat.reduceBEq, Nat.reduceAdd, reduceIte]
          generalize hq_gZ : IH.push gx (IObj.rows [[.str s, .int .i64 a, .int .i64 (-1)]] 65 3 false) = gZ
          have e_gZ : Ext gx gZ := by rw [← hq_gZ]; exact (Ext.refl _).push _
          have l_gZ : gZ.n = gx.n + 1 := by rw [← hq_gZ]; rfl
          have bZ : At gZ gx.n (IObj.rows [[.str s, .int .i64 a, .int .i64 (-1)]] 65 3 false) := by rw [← hq_gZ]; exact At.new _ _
          clear hq_gZ
          have o := o.ext e_gZ
          have S := S.ext e_gZ
          have V := V.ext e_gZ
          try simp (disch := (first | omega | assumption | (simp only [push_n, set_n, put_n, List.length_cons, List.length_nil, List.length_append, Nat.reduceAdd]; done) | (simp only [push_n, set_n, put_n, List.length_cons, List.length_nil, List.length_append]; omega) | (simp only [List.all_cons, List.all_nil, one_bool, one_int, one_str, one_ptr, one_nilptr, one_slice, one_eslice, one_nilslice, one_func, one_iface, one_niliface, Bool.and_true, Bool.true_and, List.getD_cons_zero, List.getD_cons_succ, List.contains_cons, List.contains_nil, Bool.or_true, Bool.true_or, Bool.or_false, Bool.false_or, Nat.reduceBEq, *]; done) | fail)) only [i0, i3, i4, i5, bZ.eq, go_sem, Hold.p, HoldK.k, HoldL.K, HoldL.body, Nat.reduceBEq, Nat.reduceAdd, reduceIte]
          refine o.app (by simp) (by rw [entRows_len, List.length_singleton]; omega) ?_
          intro v6 h6 o6 t6 n6 v6o v6c
          have ht6 := t6.le
          have hVle := V.le
          have V6 : Sav p h h6 := ⟨by omega, fun m hm hp => (t6.obj m (by omega) (fun hv => by have := o.at_ hv; omega)).trans (V.obj m hm hp)⟩
          have S6 : Src h6 p v code := S0.back hpn S V6 (t6.obj p (by omega) (fun hv => by have := o.at_ hv; omega))
          simp (disch := (first | omega | assumption | (simp only [push_n, set_n, put_n, List.length_cons, List.length_nil, List.length_append, Nat.reduceAdd]; done) | (simp only [push_n, set_n, put_n, List.length_cons, List.length_nil, List.length_append]; omega) | (simp only [List.all_cons, List.all_nil, one_bool, one_int, one_str, one_ptr, one_nilptr, one_slice, one_eslice, one_nilslice, one_func, one_iface, one_niliface, Bool.and_true, Bool.true_and, List.getD_cons_zero, List.getD_cons_succ, List.contains_cons, List.contains_nil, Bool.or_true, Bool.true_or, Bool.or_false, Bool.false_or, Nat.reduceBEq, *]; done) | fail)) only [i0, i3, i4, i5, w1, go_sem, Hold.p, HoldK.k, HoldL.K, HoldL.body, Nat.reduceBEq, Nat.reduceAdd, reduceIte]
          refine ⟨_, ?_, k + 1, gZ.n, gZ.n + 1, v6, es ++ [⟨s, a, (-1)⟩], rfl, by omega, rfl, rfl, by simp; omega, by omega, by omega, ?_, S6, V6⟩
          · omega
          · rw [entRows_append]; exact o6
        · skip
          have qq := b.eq
          try simp (disch := (first | omega | assumption | (simp only [push_n, set_n, put_n, List.length_cons, List.length_nil, List.length_append, Nat.reduceAdd]; done) | (simp only [push_n, set_n, put_n, List.length_cons, List.length_nil, List.length_append]; omega) | (simp only [List.all_cons, List.all_nil, one_bool, one_int, one_str, one_ptr, one_nilptr, one_slice, one_eslice, one_nilslice, one_func, one_iface, one_niliface, Bool.and_true, Bool.true_and, List.getD_cons_zero, List.getD_cons_succ, List.contains_cons, List.contains_nil, Bool.or_true, Bool.true_or, Bool.or_false, Bool.false_or, Nat.reduceBEq, *]; done) | fail)) only [i0, i3, i4, i5, qq, go_sem, Hold.p, HoldK.k, HoldL.K, HoldL.body, Nat.reduceBEq, Nat.reduceAdd, reduceIte]
          generalize hq_gZ : IH.push gy (IObj.rows [[.str s, .int .i64 a, .int .i64 t]] 65 3 false) = gZ
          have e_gZ : Ext gy gZ := by rw [← hq_gZ]; exact (Ext.refl _).push _
          have l_gZ : gZ.n = gy.n + 1 := by rw [← hq_gZ]; rfl
          have bZ : At gZ gy.n (IObj.rows [[.str s, .int .i64 a, .int .i64 t]] 65 3 false) := by rw [← hq_gZ]; exact At.new _ _
          clear hq_gZ
          have o := o.ext e_gZ
          have S := S.ext e_gZ
          have V := V.ext e_gZ
          try simp (disch := (first | omega | assumption | (simp only [push_n, set_n, put_n, List.length_cons, List.length_nil, List.length_append, Nat.reduceAdd]; done) | (simp only [push_n, set_n, put_n, List.length_cons, List.length_nil, List.length_append]; omega) | (simp only [List.all_cons, List.all_nil, one_bool, one_int, one_str, one_ptr, one_nilptr, one_slice, one_eslice, one_nilslice, one_func, one_iface, one_niliface, Bool.and_true, Bool.true_and, List.getD_cons_zero, List.getD_cons_succ, List.contains_cons, List.contains_nil, Bool.or_true, Bool.true_or, Bool.or_false, Bool.false_or, Nat.reduceBEq, *]; done) | fail)) only [i0, i3, i4, i5, bZ.eq, go_sem, Hold.p, HoldK.k, HoldL.K, HoldL.body, Nat.reduceBEq, Nat.reduceAdd, reduceIte]
          refine o.app (by simp) (by rw [entRows_len, List.length_singleton]; omega) ?_
          intro v6 h6 o6 t6 n6 v6o v6c
          have ht6 := t6.le
          have hVle := V.le
          have V6 : Sav p h h6 := ⟨by omega, fun m hm hp => (t6.obj m (by omega) (fun hv => by have := o.at_ hv; omega)).trans (V.obj m hm hp)⟩
          have S6 : Src h6 p v code := S0.back hpn S V6 (t6.obj p (by omega) (fun hv => by have := o.at_ hv; omega))
          simp (disch := (first | omega | assumption | (simp only [push_n, set_n, put_n, List.length_cons, List.length_nil, List.length_append, Nat.reduceAdd]; done) | (simp only [push_n, set_n, put_n, List.length_cons, List.length_nil, List.length_append]; omega) | (simp only [List.all_cons, List.all_nil, one_bool, one_int, one_str, one_ptr, one_nilptr, one_slice, one_eslice, one_nilslice, one_func, one_iface, one_niliface, Bool.and_true, Bool.true_and, List.getD_cons_zero, List.getD_cons_succ, List.contains_cons, List.contains_nil, Bool.or_true, Bool.true_or, Bool.or_false, Bool.false_or, Nat.reduceBEq, *]; done) | fail)) only [i0, i3, i4, i5, w1, go_sem, Hold.p, HoldK.k, HoldL.K, HoldL.body, Nat.reduceBEq, Nat.reduceAdd, reduceIte]
          refine ⟨_, ?_, k + 1, gZ.n, gZ.n + 1, v6, es ++ [⟨s, a, t⟩], rfl, by omega, rfl, rfl, by simp; omega, by omega, by omega, ?_, S6, V6⟩
          · omega
          · rw [entRows_append]; exact o6
    · simp (disch := (first | omega | assumption | (simp only [push_n, set_n, put_n, List.length_cons, List.length_nil, List.length_append, Nat.reduceAdd]; done) | (simp only [push_n, set_n, put_n, List.length_cons, List.length_nil, List.length_append]; omega) | (simp only [List.all_cons, List.all_nil, one_bool, one_int, one_str, one_ptr, one_nilptr, one_slice, one_eslice, one_nilslice, one_func, one_iface, one_niliface, Bool.and_true, Bool.true_and, List.getD_cons_zero, List.getD_cons_succ, List.contains_cons, List.contains_nil, Bool.or_true, Bool.true_or, Bool.or_false, Bool.false_or, Nat.reduceBEq, *]; done) | fail)) only [i0, i3, i4, i5, go_sem, Hold.p, HoldK.k, HoldL.K, HoldL.body, Nat.reduceBEq, Nat.reduceAdd, reduceIte]
      exact ⟨es, o.wide hlo hhi (Nat.le_refl _), by omega, S, V⟩
end
end Go.Proofs.YtdpaehdolhdjdaaDoor

namespace Go.Proofs.YtdpaehdolhdjdaaDoor
open Go Go.IW
section
attribute [local go_sem] List.getElem?_cons_zero List.getElem?_cons_succ Option.bind_some List.map_cons List.map_nil Nat.zero_add if_true List.getD_cons_zero List.getD_cons_succ List.contains_cons List.contains_nil Bool.or_true Bool.true_or Bool.or_false Bool.false_or Bool.not_true Bool.not_false true_and and_true rowA_whole mid_get stO_mid rowO_rows cellO_rows push_n set_n push_at push_old set_here set_there set_pushT set_pushN set_set upd_ne Nat.add_assoc Nat.add_zero stO_1s stO_ws boxA_s List.all_cons List.all_nil one_bool one_int one_str one_ptr one_nilptr one_slice one_eslice one_nilslice one_func one_iface one_niliface Bool.and_true Bool.and_self List.length_cons List.length_nil Nat.one_ne_zero Nat.succ_ne_zero if_false List.set_cons_zero List.set_cons_succ lay_nil lay_1 lay_w Option.map_some

set_option maxRecDepth 20000 in
theorem drawAnswer_c (h : IH) (v : IV) (code : List UInt8) (hs : SlR h 1 v (strRows code)) (hl : code.length ≤ 1048576) :
    ICalls Tryd.prog 35 [v] h fun r h' => ∃ (vz vb : IV) (es : List Ent) (bs : List UInt8), r = .tuple [vz, vb] ∧ SlR h' 3 vz (entRows es) ∧ es.length ≤ 14 ∧ SlR h' 1 vb (strRows bs) ∧ bs.length ≤ 1001 ∧ Ext h h' := by
  refine icalls (.of ok35) (Nat.le_of_ble_eq_true rfl) ?_
  unfold c35
  simp (disch := (first | omega | assumption | (simp only [push_n, set_n, put_n, List.length_cons, List.length_nil, List.length_append, Nat.reduceAdd]; done) | (simp only [push_n, set_n, put_n, List.length_cons, List.length_nil, List.length_append]; omega) | (simp only [List.all_cons, List.all_nil, one_bool, one_int, one_str, one_ptr, one_nilptr, one_slice, one_eslice, one_nilslice, one_func, one_iface, one_niliface, Bool.and_true, Bool.true_and, List.getD_cons_zero, List.getD_cons_succ, List.contains_cons, List.contains_nil, Bool.or_true, Bool.true_or, Bool.or_false, Bool.false_or, Nat.reduceBEq, *]; done) | fail)) only [go_sem, Hold.p, HoldK.k, HoldL.K, HoldL.body, Nat.reduceBEq, Nat.reduceAdd, reduceIte]
  refine callA_of (l01Begin_c h v code hs hl) ?_
  rintro r g ⟨st, rfl, E⟩
  have hv1 := hs.one
  have hEg := E.le
  simp (disch := (first | omega | assumption | (simp only [push_n, set_n, put_n, List.length_cons, List.length_nil, List.length_append, Nat.reduceAdd]; done) | (simp only [push_n, set_n, put_n, List.length_cons, List.length_nil, List.length_append]; omega) | (simp only [List.all_cons, List.all_nil, one_bool, one_int, one_str, one_ptr, one_nilptr, one_slice, one_eslice, one_nilslice, one_func, one_iface, one_niliface, Bool.and_true, Bool.true_and, List.getD_cons_zero, List.getD_cons_succ, List.contains_cons, List.contains_nil, Bool.or_true, Bool.true_or, Bool.or_false, Bool.false_or, Nat.reduceBEq, *]; done) | fail)) only [go_sem, Hold.p, HoldK.k, HoldL.K, HoldL.body, Nat.reduceBEq, Nat.reduceAdd, reduceIte]
  generalize hq_g1 : IH.push g (IObj.rows [[v, .int .i64 0, .int .u64 st]] 118 3 false) = g1
  have e_g1 : Ext g g1 := by rw [← hq_g1]; exact (Ext.refl _).push _
  have l_g1 : g1.n = g.n + 1 := by rw [← hq_g1]; rfl
  have b1 : At g1 g.n (IObj.rows [[v, .int .i64 0, .int .u64 st]] 118 3 false) := by rw [← hq_g1]; exact At.new _ _
  clear hq_g1
  have E := E.ext e_g1
  have S : Src g1 g.n v code := ⟨⟨0, st, b1, by omega, by omega⟩, hs.ext E, fun l i n hv => by have := hs.lt l i n hv; omega⟩
  refine callA_of (l19Query_c g1 g.n v code S hl (by omega)) ?_
  rintro r g2 ⟨x, s, rfl, hsl, S2, V2⟩
  have l2 := V2.le
  simp (disch := (first | omega | assumption | (simp only [push_n, set_n, put_n, List.length_cons, List.length_nil, List.length_append, Nat.reduceAdd]; done) | (simp only [push_n, set_n, put_n, List.length_cons, List.length_nil, List.length_append]; omega) | (simp only [List.all_cons, List.all_nil, one_bool, one_int, one_str, one_ptr, one_nilptr, one_slice, one_eslice, one_nilslice, one_func, one_iface, one_niliface, Bool.and_true, Bool.true_and, List.getD_cons_zero, List.getD_cons_succ, List.contains_cons, List.contains_nil, Bool.or_true, Bool.true_or, Bool.or_false, Bool.false_or, Nat.reduceBEq, *]; done) | fail)) only [go_sem, Hold.p, HoldK.k, HoldL.K, HoldL.body, Nat.reduceBEq, Nat.reduceAdd, reduceIte]
  refine callA_of (specEncodeQuery_c g2 x s (by omega)) ?_
  rintro r g3 ⟨vb, rfl, o, E3⟩
  have hel := encQ_len (id := x) (s := s)
  generalize encQ x s = y at o hel
  obtain ⟨bs, cq⟩ := y
  simp only at o hel ⊢
  have S3 := S2.ext E3
  have l3 := E3.le
  simp (disch := (first | omega | assumption | (simp only [push_n, set_n, put_n, List.length_cons, List.length_nil, List.length_append, Nat.reduceAdd]; done) | (simp only [push_n, set_n, put_n, List.length_cons, List.length_nil, List.length_append]; omega) | (simp only [List.all_cons, List.all_nil, one_bool, one_int, one_str, one_ptr, one_nilptr, one_slice, one_eslice, one_nilslice, one_func, one_iface, one_niliface, Bool.and_true, Bool.true_and, List.getD_cons_zero, List.getD_cons_succ, List.contains_cons, List.contains_nil, Bool.or_true, Bool.true_or, Bool.or_false, Bool.false_or, Nat.reduceBEq, *]; done) | fail)) only [go_sem, Hold.p, HoldK.k, HoldL.K, HoldL.body, Nat.reduceBEq, Nat.reduceAdd, reduceIte]
  refine callA_of (l19Zone_c g3 g.n v code S3 hl (by omega)) ?_
  rintro vz g4 ⟨es, oz, hes, S4, V4⟩
  have l4 := V4.le
  have o4 := o.sav V4 (by omega)
  simp (disch := (first | omega | assumption | (simp only [push_n, set_n, put_n, List.length_cons, List.length_nil, List.length_append, Nat.reduceAdd]; done) | (simp only [push_n, set_n, put_n, List.length_cons, List.length_nil, List.length_append]; omega) | (simp only [List.all_cons, List.all_nil, one_bool, one_int, one_str, one_ptr, one_nilptr, one_slice, one_eslice, one_nilslice, one_func, one_iface, one_niliface, Bool.and_true, Bool.true_and, List.getD_cons_zero, List.getD_cons_succ, List.contains_cons, List.contains_nil, Bool.or_true, Bool.true_or, Bool.or_false, Bool.false_or, Nat.reduceBEq, *]; done) | fail)) only [go_sem, Hold.p, HoldK.k, HoldL.K, HoldL.body, Nat.reduceBEq, Nat.reduceAdd, reduceIte]
  refine callA_of (l19Cut_c g4 g.n g2.n g3.n v vb code bs S4 o4 (by omega) hl (by omega) (by omega) (by omega)) ?_
  rintro vb' g5 ⟨bs', sb, hbl, V5⟩
  have oz5 : SlR g5 3 vz (entRows es) := oz.sl.same V5.le fun l i n hv => V5.obj l (by have := oz.at_ ⟨i, n, hv⟩; omega) (by have := oz.at_ ⟨i, n, hv⟩; omega) (by have := oz.at_ ⟨i, n, hv⟩; omega)
  simp (disch := (first | omega | assumption | (simp only [push_n, set_n, put_n, List.length_cons, List.length_nil, List.length_append, Nat.reduceAdd]; done) | (simp only [push_n, set_n, put_n, List.length_cons, List.length_nil, List.length_append]; omega) | (simp only [List.all_cons, List.all_nil, one_bool, one_int, one_str, one_ptr, one_nilptr, one_slice, one_eslice, one_nilslice, one_func, one_iface, one_niliface, Bool.and_true, Bool.true_and, List.getD_cons_zero, List.getD_cons_succ, List.contains_cons, List.contains_nil, Bool.or_true, Bool.true_or, Bool.or_false, Bool.false_or, Nat.reduceBEq, *]; done) | fail)) only [go_sem, Hold.p, HoldK.k, HoldL.K, HoldL.body, Nat.reduceBEq, Nat.reduceAdd, reduceIte]
  refine ⟨_, _, es, bs', rfl, oz5, hes, sb, by omega, ⟨by have := V5.le; omega, fun l hl => ?_⟩⟩
  have hEs := (E.sav V2 hEg)
  exact (V5.obj l (by omega) (by omega) (by omega)).trans ((V4.obj l (by omega) (by omega)).trans ((E3.obj l (by omega)).trans (hEs.obj l hl)))
set_option maxRecDepth 20000 in
theorem lwReply_c (h : IH) (id cd ttl : Int) (s : List UInt8) (v w : IV) (zs : List Int) (hv : SlR h 1 v (intRows zs)) (hw : SlR h 1 w (intRows zs)) (hz : zs.length ≤ 1048576) :
    ICalls Tryd.prog 34 [.agg [.int .i64 id, .int .i64 cd, .int .i64 ttl, .str s, v], .agg [.int .i64 id, .int .i64 cd, .int .i64 ttl, .str s, w]] h fun r h' => r = .bool true ∧ Ext h h' := by
  refine icalls (.of ok34) (Nat.le_of_ble_eq_true rfl) ?_
  unfold c34
  have lv := hv.lenF
  have lw := hw.lenF
  have ov := hv.one
  have ow := hw.one
  rw [intRows_len] at lv lw
  simp (disch := (first | omega | assumption | (simp only [push_n, set_n, put_n, List.length_cons, List.length_nil, List.length_append, Nat.reduceAdd]; done) | (simp only [push_n, set_n, put_n, List.length_cons, List.length_nil, List.length_append]; omega) | (simp only [List.all_cons, List.all_nil, one_bool, one_int, one_str, one_ptr, one_nilptr, one_slice, one_eslice, one_nilslice, one_func, one_iface, one_niliface, Bool.and_true, Bool.true_and, List.getD_cons_zero, List.getD_cons_succ, List.contains_cons, List.contains_nil, Bool.or_true, Bool.true_or, Bool.or_false, Bool.false_or, Nat.reduceBEq, *]; done) | fail)) only [ov, ow, go_sem, Hold.p, HoldK.k, HoldL.K, HoldL.body, Nat.reduceBEq, Nat.reduceAdd, reduceIte]
  generalize hq_g1 : IH.push h (IObj.rows [[.int .i64 id, .int .i64 cd, .int .i64 ttl, .str s, v]] 54 5 false) = g1
  have e_g1 : Ext h g1 := by rw [← hq_g1]; exact (Ext.refl _).push _
  have l_g1 : g1.n = h.n + 1 := by rw [← hq_g1]; rfl
  have b1 : At g1 h.n (IObj.rows [[.int .i64 id, .int .i64 cd, .int .i64 ttl, .str s, v]] 54 5 false) := by rw [← hq_g1]; exact At.new _ _
  clear hq_g1
  have hv := hv.ext e_g1
  have hw := hw.ext e_g1
  generalize hq_g2 : IH.push g1 (IObj.rows [[.int .i64 id, .int .i64 cd, .int .i64 ttl, .str s, w]] 54 5 false) = g2
  have e_g2 : Ext g1 g2 := by rw [← hq_g2]; exact (Ext.refl _).push _
  have l_g2 : g2.n = g1.n + 1 := by rw [← hq_g2]; rfl
  have b2 : At g2 g1.n (IObj.rows [[.int .i64 id, .int .i64 cd, .int .i64 ttl, .str s, w]] 54 5 false) := by rw [← hq_g2]; exact At.new _ _
  clear hq_g2
  have b1 := b1.ext e_g2
  have hv := hv.ext e_g2
  have hw := hw.ext e_g2
  have q1 := b1.eq
  have q2 := b2.eq
  rw [l_g1] at q2
  have le2 := e_g2.le
  simp (disch := (first | omega | assumption | (simp only [push_n, set_n, put_n, List.length_cons, List.length_nil, List.length_append, Nat.reduceAdd]; done) | (simp only [push_n, set_n, put_n, List.length_cons, List.length_nil, List.length_append]; omega) | (simp only [List.all_cons, List.all_nil, one_bool, one_int, one_str, one_ptr, one_nilptr, one_slice, one_eslice, one_nilslice, one_func, one_iface, one_niliface, Bool.and_true, Bool.true_and, List.getD_cons_zero, List.getD_cons_succ, List.contains_cons, List.contains_nil, Bool.or_true, Bool.true_or, Bool.or_false, Bool.false_or, Nat.reduceBEq, *]; done) | fail)) only [q1, q2, lv, lw, decide_true, go_sem, Hold.p, HoldK.k, HoldL.K, HoldL.body, Nat.reduceBEq, Nat.reduceAdd, reduceIte]
  refine loop_at (fun n e g => ∃ k : Nat, n = zs.length - k ∧ k ≤ zs.length ∧ e 2 = .ptr h.n 0 0 ∧ e 3 = .ptr (h.n + 1) 0 0 ∧ e 5 = .int .i64 (k : Nat) ∧ g = g2) zs.length ?_ ?_
  · refine ⟨0, by omega, by omega, ?_⟩
    simp (disch := (first | omega | assumption | (simp only [push_n, set_n, put_n, List.length_cons, List.length_nil, List.length_append, Nat.reduceAdd]; done) | (simp only [push_n, set_n, put_n, List.length_cons, List.length_nil, List.length_append]; omega) | (simp only [List.all_cons, List.all_nil, one_bool, one_int, one_str, one_ptr, one_nilptr, one_slice, one_eslice, one_nilslice, one_func, one_iface, one_niliface, Bool.and_true, Bool.true_and, List.getD_cons_zero, List.getD_cons_succ, List.contains_cons, List.contains_nil, Bool.or_true, Bool.true_or, Bool.or_false, Bool.false_or, Nat.reduceBEq, *]; done) | fail)) only [go_sem, Hold.p, HoldK.k, HoldL.K, HoldL.body, Nat.reduceBEq, Nat.reduceAdd, reduceIte]
    trivial
  · rintro n e g ⟨k, rfl, hk, i2, i3, i5, rfl⟩
    simp (disch := (first | omega | assumption | (simp only [push_n, set_n, put_n, List.length_cons, List.length_nil, List.length_append, Nat.reduceAdd]; done) | (simp only [push_n, set_n, put_n, List.length_cons, List.length_nil, List.length_append]; omega) | (simp only [List.all_cons, List.all_nil, one_bool, one_int, one_str, one_ptr, one_nilptr, one_slice, one_eslice, one_nilslice, one_func, one_iface, one_niliface, Bool.and_true, Bool.true_and, List.getD_cons_zero, List.getD_cons_succ, List.contains_cons, List.contains_nil, Bool.or_true, Bool.true_or, Bool.or_false, Bool.false_or, Nat.reduceBEq, *]; done) | fail)) only [i2, i3, i5, q1, q2, lv, lw, go_sem, Hold.p, HoldK.k, HoldL.K, HoldL.body, Nat.reduceBEq, Nat.reduceAdd, reduceIte]
    refine test_dec (fun hb => ?_) (fun hb => ?_)
    · have hlt : k < zs.length := by omega
      have hkp : zs[k]? = some zs[k] := List.getElem?_eq_getElem hlt
      generalize zs[k] = z at hkp
      obtain ⟨l, j, hia, hll, hrow⟩ := hv.at (m := k) (intRows_at hkp) .i64
      obtain ⟨l', j', hia', hll', hrow'⟩ := hw.at (m := k) (intRows_at hkp) .i64
      have hcc := cellO_row hrow
      have hcc' := cellO_row hrow'
      have w1 : wr .i64 ((k : Int) + 1) = ((k + 1 : Nat) : Int) := by rw [wr64 _ (by omega)]; rfl
      simp (disch := (first | omega | assumption | (simp only [push_n, set_n, put_n, List.length_cons, List.length_nil, List.length_append, Nat.reduceAdd]; done) | (simp only [push_n, set_n, put_n, List.length_cons, List.length_nil, List.length_append]; omega) | (simp only [List.all_cons, List.all_nil, one_bool, one_int, one_str, one_ptr, one_nilptr, one_slice, one_eslice, one_nilslice, one_func, one_iface, one_niliface, Bool.and_true, Bool.true_and, List.getD_cons_zero, List.getD_cons_succ, List.contains_cons, List.contains_nil, Bool.or_true, Bool.true_or, Bool.or_false, Bool.false_or, Nat.reduceBEq, *]; done) | fail)) only [i2, i3, i5, q1, q2, hia, hia', hcc, hcc', w1, decide_true, go_sem, Hold.p, HoldK.k, HoldL.K, HoldL.body, Nat.reduceBEq, Nat.reduceAdd, reduceIte]
      exact ⟨_, by omega, k + 1, rfl, by omega, rfl⟩
    · simp (disch := (first | omega | assumption | (simp only [push_n, set_n, put_n, List.length_cons, List.length_nil, List.length_append, Nat.reduceAdd]; done) | (simp only [push_n, set_n, put_n, List.length_cons, List.length_nil, List.length_append]; omega) | (simp only [List.all_cons, List.all_nil, one_bool, one_int, one_str, one_ptr, one_nilptr, one_slice, one_eslice, one_nilslice, one_func, one_iface, one_niliface, Bool.and_true, Bool.true_and, List.getD_cons_zero, List.getD_cons_succ, List.contains_cons, List.contains_nil, Bool.or_true, Bool.true_or, Bool.or_false, Bool.false_or, Nat.reduceBEq, *]; done) | fail)) only [i2, i3, i5, go_sem, Hold.p, HoldK.k, HoldL.K, HoldL.body, Nat.reduceBEq, Nat.reduceAdd, reduceIte]
      exact e_g1.trans e_g2
end
end Go.Proofs.YtdpaehdolhdjdaaDoor

namespace Go.Proofs.YtdpaehdolhdjdaaDoor
open Go Go.IW

theorem byteAt_nat (v : Int) (h0 : 0 ≤ v) (i : Nat) : (byteAt v i).toNat = v.toNat / 2 ^ (8 * i) % 256 := by
  unfold byteAt
  obtain ⟨n, rfl⟩ : ∃ n : Nat, v = (n : Int) := ⟨v.toNat, by omega⟩
  have : ((n : Int).fdiv (2 ^ (8 * i)) % 256).toNat = n / 2 ^ (8 * i) % 256 := by
    rw [Int.fdiv_eq_ediv_of_nonneg _ (Int.le_of_lt (Int.pow_pos (by decide)))]
    have h2 : ((2 : Int) ^ (8 * i)) = ((2 ^ (8 * i) : Nat) : Int) := by rw [Int.natCast_pow]; rfl
    rw [h2]
    rw [← Int.natCast_ediv, show (256 : Int) = ((256 : Nat) : Int) from rfl, ← Int.natCast_emod]
    rfl
  rw [this]
  simp
theorem numB_beB2 (v : Int) (h0 : 0 ≤ v) (h1 : v ≤ 65535) : numB (beB 2 v) = v := by
  have a := byteAt_nat v h0 0
  have b := byteAt_nat v h0 1
  simp only [beB, numB, List.foldl_cons, List.foldl_nil]
  omega
theorem numB_beB4 (v : Int) (h0 : 0 ≤ v) (h1 : v ≤ 4294967295) : numB (beB 4 v) = v := by
  have a := byteAt_nat v h0 0
  have b := byteAt_nat v h0 1
  have c := byteAt_nat v h0 2
  have d := byteAt_nat v h0 3
  simp only [beB, numB, List.foldl_cons, List.foldl_nil]
  omega
theorem u8_nat {n : Nat} (h : n ≤ 255) : (UInt8.ofNat n).toNat = n := by simp; omega
/-- A query comes back from its bytes. -/
theorem decQ_encQ {id : Int} {s bs : List UInt8} (h : encQ id s = (bs, 0)) : decQ bs = (id, s, 0) := by
  unfold encQ at h
  split at h
  · rename_i hc
    obtain ⟨⟨h0, h1⟩, hn⟩ := hc
    have hl := (okName_ne hn).2
    have hb : bs = byteAt id 1 :: byteAt id 0 :: 0 :: UInt8.ofNat s.length :: s := by
      have := (Prod.mk.inj h).1
      rw [← this]; simp [beB]
    have hu := u8_nat (n := s.length) (by omega)
    have hg : bs.getD 3 0 = UInt8.ofNat s.length := by rw [hb]; rfl
    have hlen : bs.length = 4 + s.length := by rw [hb]; simp; omega
    have htk : (bs.take (4 + s.length)).drop 4 = s := by
      rw [List.take_of_length_le (by omega), hb]; rfl
    have h2 : bs.getD 2 0 = 0 := by rw [hb]; rfl
    have h3 : bs.take 2 = beB 2 id := by rw [hb]; rfl
    unfold decQ
    rw [hg, hu, if_neg (by omega), if_neg (by omega), h2, if_neg (by decide), htk, if_pos hn, h3, numB_beB2 id h0 h1]
  · simp at h
theorem words_flat : ∀ (zs : List Int), zs.all okAddr = true → (List.range zs.length).map (fun j => numB (((zs.flatMap (beB 4)).drop (4 * j)).take 4)) = zs
  | [], _ => rfl
  | z :: zs, h => by
    simp only [List.all_cons, Bool.and_eq_true] at h
    have ih := words_flat zs h.2
    have hz := h.1
    simp only [okAddr, Bool.and_eq_true, decide_eq_true_eq] at hz
    rw [List.length_cons, List.range_succ_eq_map, List.map_cons, List.map_map]
    congr 1
    · have : ((z :: zs).flatMap (beB 4)).take 4 = beB 4 z := by
        rw [List.flatMap_cons, List.take_append_of_le_length (by rw [beB_len]; omega), List.take_of_length_le (by rw [beB_len]; omega)]
      show numB ((((z :: zs).flatMap (beB 4)).drop 0).take 4) = z
      rw [List.drop_zero, this, numB_beB4 z hz.1 hz.2]
/-- A reply comes back from its bytes. -/
theorem decR_encR {id cd ttl : Int} {nm bs : List UInt8} {zs : List Int} (h : encR id cd ttl nm zs = (bs, 0)) : decR bs = (⟨id, cd, ttl, nm, zs⟩, 0) := by
  unfold encR at h
  split at h
  · rename_i hok
    obtain ⟨⟨i0, i1⟩, hn, ⟨c0, c1⟩, ⟨t0, t1⟩, hz, hza⟩ := okRep_ok hok
    have hl := (okName_ne hn).2
    obtain ⟨F, hF⟩ : ∃ F, F = zs.flatMap (beB 4) := ⟨_, rfl⟩
    have hFl : F.length = 4 * zs.length := by rw [hF, flat_len]
    have hb : bs = byteAt id 1 :: byteAt id 0 :: 1 :: UInt8.ofNat (cd % 256).toNat :: byteAt ttl 3 :: byteAt ttl 2 :: byteAt ttl 1 :: byteAt ttl 0 :: UInt8.ofNat nm.length :: (nm ++ UInt8.ofNat zs.length :: F) := by
      have := (Prod.mk.inj h).1
      rw [← this, hF]; simp [beB, repHead]
    have hd : bs.drop 9 = nm ++ UInt8.ofNat zs.length :: F := by rw [hb]; rfl
    have hm : repM bs = nm.length := by
      unfold repM
      rw [show bs.getD 8 0 = UInt8.ofNat nm.length by rw [hb]; rfl, u8_nat (by omega)]
    have hlen : bs.length = 10 + nm.length + 4 * zs.length := by rw [hb]; simp [hFl]; omega
    have hc : repC bs = zs.length := by
      unfold repC
      rw [hm]
      have : bs[9 + nm.length]? = some (UInt8.ofNat zs.length) := by
        rw [← List.getElem?_drop, hd]; simp
      rw [List.getD_eq_getElem?_getD, this]
      exact u8_nat (by omega)
    have hnm : (bs.take (9 + nm.length)).drop 9 = nm := by
      rw [List.drop_take, hd, show 9 + nm.length - 9 = nm.length by omega, List.take_left']; rfl
    have hF2 : bs.drop (10 + nm.length) = F := by
      rw [show 10 + nm.length = 9 + (nm.length + 1) by omega, ← List.drop_drop, hd]
      simp
    have hw : wordsAt bs (10 + nm.length) zs.length = zs := by
      unfold wordsAt
      conv => rhs; rw [← words_flat zs hza]
      refine List.map_congr_left fun j _ => ?_
      rw [List.drop_take, ← List.drop_drop, hF2, hF, show 10 + nm.length + 4 * j + 4 - (10 + nm.length + 4 * j) = 4 by omega]
    have h2 : bs.take 2 = beB 2 id := by rw [hb]; rfl
    have h4 : (bs.take 8).drop 4 = beB 4 ttl := by rw [hb]; rfl
    have h3 : ((bs.getD 3 0).toNat : Int) = cd := by
      rw [show bs.getD 3 0 = UInt8.ofNat (cd % 256).toNat by rw [hb]; rfl, u8_nat (by omega)]; omega
    have hat : repAt bs = ⟨id, cd, ttl, nm, zs⟩ := by
      unfold repAt
      rw [hm, hc, hnm, hw, h2, h4, h3, numB_beB2 id i0 i1, numB_beB4 ttl t0 (by omega)]
    unfold decR
    rw [hm, hc, if_neg (by omega), if_neg (by omega), show bs.getD 2 0 = 1 by rw [hb]; rfl, if_neg (by decide), hat]
    simp only [hn, RepV.ok, hok]
    rfl
  · simp at h
end Go.Proofs.YtdpaehdolhdjdaaDoor
