import Derived.Test.YtdpaehdolhdjdaaDoorL2
import Derived.Test.YtdpaehdolhdjdaaDoorK3
import Derived.Test.YtdpaehdolhdjdaaDoorProg
import Derived.KernelRfl
set_option linter.unusedSimpArgs false
set_option linter.unusedVariables false
set_option maxRecDepth 20000
namespace Go.Proofs.YtdpaehdolhdjdaaDoor
open Go Go.IW
section
attribute [local go_sem] List.getElem?_cons_zero List.getElem?_cons_succ Option.bind_some List.map_cons List.map_nil Nat.zero_add if_true List.getD_cons_zero List.getD_cons_succ List.contains_cons List.contains_nil Bool.or_true Bool.true_or Bool.or_false Bool.false_or Bool.not_true Bool.not_false true_and and_true rowA_whole mid_get stO_mid rowO_rows cellO_rows push_n set_n push_at push_old set_here set_there set_pushT set_pushN set_set upd_ne Nat.add_assoc Nat.add_zero stO_1s stO_ws boxA_s List.all_cons List.all_nil one_bool one_int one_str one_ptr one_nilptr one_slice one_eslice one_nilslice one_func one_iface one_niliface Bool.and_true Bool.and_self List.length_cons List.length_nil Nat.one_ne_zero Nat.succ_ne_zero if_false List.set_cons_zero List.set_cons_succ lay_nil lay_1 lay_w Option.map_some

abbrev raw0 : IObj := rawObj [] .nilslice .nilslice 0
/-- What oneMessage answers. -/
def OneRes (h h' : IH) (r : IV) : One → Prop
  | .stop c => ∃ c0 c1 c2 c3, r = .tuple [.agg [c0, c1, c2, c3], .bool false, .int .i64 c] ∧ c0.one = true ∧ c1.one = true ∧ c2.one = true ∧ c3.one = true
  | .msg first fs body size => ∃ v w m, r = .tuple [.agg [.str first, v, w, .int .i64 (size : Nat)], .bool true, .int .i64 0] ∧ h.n ≤ m ∧ m ≤ h'.n ∧ Own h.n m h' 163 2 v (fldRows fs) ∧ Own m h'.n h' 5 1 w (strRows body)
theorem _root_.Go.IW.Ext.set1 {h g : IH} (E : Ext h g) {l : Nat} (o : IObj) (hl : h.n ≤ l) : Ext h (g.set l o) := Ext.trn E (Trn.set (lo := l) (hi := l + 1) o ⟨Nat.le_refl _, Nat.lt_succ_self _⟩) hl
/-- A slice of other cells stands elsewhere. -/
theorem _root_.Go.IW.SlR.setp {h : IH} {p sz sz' e' : Nat} {v : IV} {rs rs' : List (List IV)} {ro' : Bool} (hs : SlR h sz v rs) (a : At h p (.rows rs' e' sz' ro')) (hz : sz ≠ sz') (o : IObj) : SlR (h.set p o) sz v rs := by
  refine hs.same (Nat.le_refl _) fun l i n hv => set_there _ _ _ _ fun e => ?_
  subst hv; subst e
  obtain ⟨rs0, e0, ro, ho, _⟩ := srcRows_live hs.src
  have := ho.symm.trans a.eq
  simp only [IObj.rows.injEq] at this
  exact hz this.2.2.1
theorem _root_.Go.IW.Arg.setp {lo : Nat} {h : IH} {p sz sz' e' : Nat} {v : IV} {rs rs' : List (List IV)} {ro' : Bool} (hs : Arg lo h sz v rs) (a : At h p (.rows rs' e' sz' ro')) (hz : sz ≠ sz') (o : IObj) : Arg lo (h.set p o) sz v rs := ⟨hs.sl.setp a hz o, hs.lt⟩
theorem slcF_at1 {h : IH} {sz : Nat} {v v' : IV} {lo hi : Option IV} {B : Nat} (e : slcF h sz v lo hi = some v') (hB : ∀ l i n, v = .slice l i n → l < B) : ∀ l i n, v' = .slice l i n → l < B := by
  intro l i n hv
  subst hv
  obtain ⟨i0, m0, e0⟩ := slcF_at e
  exact hB _ _ _ e0
set_option maxHeartbeats 1000000 in
theorem oneMessage_c (req : Bool) (c p : Nat) (o : IObj) (hG : GoodF req c p o) (mx : mxOn = true) (h : IH) (v : IV) (bs : Txt) (ha : At h p o) (hs : SlR h 1 v (strRows bs)) (hl : bs.length ≤ 1048576) :
    ICalls Tryd.prog 110 [v, .func c [] [.ptr p 0 0]] h fun r h' => OneRes h h' r (oneB req bs) ∧ Ext h h' := by
  refine icalls (.of ok110) (Nat.le_of_ble_eq_true rfl) ?_
  unfold c110
  have hlen := hs.lenF
  rw [strRows_len] at hlen
  refine vc_split 6 (fun e g => ∃ i : Nat, e 0 = v ∧ e 1 = .func c [] [.ptr p 0 0] ∧ e 4 = .ptr h.n 0 0 ∧ e 7 = .ptr (h.n + 1) 0 0 ∧ e 9 = .int .i64 (i : Nat) ∧ bs[0]? ≠ some 10 ∧ atI bs = i ∧ At g h.n raw0 ∧ At g (h.n + 1) raw0 ∧ Ext h g) ?_ ?_
  · simp only [CC.split]
    simp (disch := (first | omega | assumption | (simp only [push_n, set_n, put_n, List.length_cons, List.length_nil, List.length_append, Nat.reduceAdd]; done) | (simp only [push_n, set_n, put_n, List.length_cons, List.length_nil, List.length_append]; omega) | (simp only [List.all_cons, List.all_nil, one_bool, one_int, one_str, one_ptr, one_nilptr, one_slice, one_eslice, one_nilslice, one_func, one_iface, one_niliface, Bool.and_true, Bool.true_and, List.getD_cons_zero, List.getD_cons_succ, List.contains_cons, List.contains_nil, Bool.or_true, Bool.true_or, Bool.or_false, Bool.false_or, Nat.reduceBEq, *]; done) | fail)) only [go_sem, Hold.p, HoldK.k, HoldL.K, HoldL.body, Nat.reduceBEq, Nat.reduceAdd, reduceIte]
    generalize hq_g0 : IH.push h (raw0) = g0
    have e_g0 : Ext h g0 := by rw [← hq_g0]; exact (Ext.refl _).push _
    have l_g0 : g0.n = h.n + 1 := by rw [← hq_g0]; rfl
    have b0 : At g0 h.n (raw0) := by rw [← hq_g0]; exact At.new _ _
    clear hq_g0
    have hs := hs.ext e_g0
    try simp (disch := (first | omega | assumption | (simp only [push_n, set_n, put_n, List.length_cons, List.length_nil, List.length_append, Nat.reduceAdd]; done) | (simp only [push_n, set_n, put_n, List.length_cons, List.length_nil, List.length_append]; omega) | (simp only [List.all_cons, List.all_nil, one_bool, one_int, one_str, one_ptr, one_nilptr, one_slice, one_eslice, one_nilslice, one_func, one_iface, one_niliface, Bool.and_true, Bool.true_and, List.getD_cons_zero, List.getD_cons_succ, List.contains_cons, List.contains_nil, Bool.or_true, Bool.true_or, Bool.or_false, Bool.false_or, Nat.reduceBEq, *]; done) | fail)) only [go_sem, Hold.p, HoldK.k, HoldL.K, HoldL.body, Nat.reduceBEq, Nat.reduceAdd, reduceIte]
    generalize hq_g1 : IH.push g0 (raw0) = g1
    have e_g1 : Ext g0 g1 := by rw [← hq_g1]; exact (Ext.refl _).push _
    have l_g1 : g1.n = g0.n + 1 := by rw [← hq_g1]; rfl
    have b1 : At g1 g0.n (raw0) := by rw [← hq_g1]; exact At.new _ _
    clear hq_g1
    have b0 := b0.ext e_g1
    have hs := hs.ext e_g1
    have hmin : min (bs.length : Int) 8000 = ((min bs.length 8000 : Nat) : Int) := by omega
    obtain ⟨v8, hv8, hs8⟩ := hs.hi (b := min bs.length 8000) (q := .i64) (by rw [strRows_len]; omega)
    rw [strRows_take, List.take_eq_take_iff.2 (show min (min bs.length 8000) bs.length = min 8000 bs.length by omega)] at hs8
    try simp (disch := (first | omega | assumption | (simp only [push_n, set_n, put_n, List.length_cons, List.length_nil, List.length_append, Nat.reduceAdd]; done) | (simp only [push_n, set_n, put_n, List.length_cons, List.length_nil, List.length_append]; omega) | (simp only [List.all_cons, List.all_nil, one_bool, one_int, one_str, one_ptr, one_nilptr, one_slice, one_eslice, one_nilslice, one_func, one_iface, one_niliface, Bool.and_true, Bool.true_and, List.getD_cons_zero, List.getD_cons_succ, List.contains_cons, List.contains_nil, Bool.or_true, Bool.true_or, Bool.or_false, Bool.false_or, Nat.reduceBEq, *]; done) | fail)) only [hlen, hmin, Option.map_none, hv8, bslA_2, go_sem, Hold.p, HoldK.k, HoldL.K, HoldL.body, Nat.reduceBEq, Nat.reduceAdd, reduceIte]
    generalize hq_g2 : IH.push g1 (IObj.rows [[.int .u8 10], [.int .u8 10]] 5 1 false) = g2
    have e_g2 : Ext g1 g2 := by rw [← hq_g2]; exact (Ext.refl _).push _
    have l_g2 : g2.n = g1.n + 1 := by rw [← hq_g2]; rfl
    have b2 : At g2 g1.n (IObj.rows [[.int .u8 10], [.int .u8 10]] 5 1 false) := by rw [← hq_g2]; exact At.new _ _
    clear hq_g2
    have b0 := b0.ext e_g2
    have b1 := b1.ext e_g2
    have hs := hs.ext e_g2
    have hs8 := hs8.ext e_g2
    have q2 := b2.eq
    try simp (disch := (first | omega | assumption | (simp only [push_n, set_n, put_n, List.length_cons, List.length_nil, List.length_append, Nat.reduceAdd]; done) | (simp only [push_n, set_n, put_n, List.length_cons, List.length_nil, List.length_append]; omega) | (simp only [List.all_cons, List.all_nil, one_bool, one_int, one_str, one_ptr, one_nilptr, one_slice, one_eslice, one_nilslice, one_func, one_iface, one_niliface, Bool.and_true, Bool.true_and, List.getD_cons_zero, List.getD_cons_succ, List.contains_cons, List.contains_nil, Bool.or_true, Bool.true_or, Bool.or_false, Bool.false_or, Nat.reduceBEq, *]; done) | fail)) only [q2, go_sem, Hold.p, HoldK.k, HoldL.K, HoldL.body, Nat.reduceBEq, Nat.reduceAdd, reduceIte]
    have s2 : SlR g2 1 (.slice g1.n 0 2) (strRows [10, 10]) := SlR.whole (rs := strRows [10, 10]) q2 rfl b2.lt
    refine callA_of (bIndex_c g2 v8 (.slice g1.n 0 2) (bs.take 8000) [10, 10] hs8 s2 (by rw [List.length_take]; omega) (by simp) (by simp) mx) ?_
    rintro r g3 ⟨rfl, rfl⟩
    have hEx : Ext h g3 := (e_g0.trans e_g1).trans e_g2
    have hat : Lib.index (bs.take 8000) [10, 10] = atI bs := rfl
    rw [hat]
    have q0 := b0.eq
    have q1 := b1.eq
    have n1 : g0.n = h.n + 1 := l_g0
    rw [n1] at q1 b1
    have hcase : bs[0]? = some 10 ∨ bs[0]? ≠ some 10 := Classical.em _
    simp (disch := (first | omega | assumption | (simp only [push_n, set_n, put_n, List.length_cons, List.length_nil, List.length_append, Nat.reduceAdd]; done) | (simp only [push_n, set_n, put_n, List.length_cons, List.length_nil, List.length_append]; omega) | (simp only [List.all_cons, List.all_nil, one_bool, one_int, one_str, one_ptr, one_nilptr, one_slice, one_eslice, one_nilslice, one_func, one_iface, one_niliface, Bool.and_true, Bool.true_and, List.getD_cons_zero, List.getD_cons_succ, List.contains_cons, List.contains_nil, Bool.or_true, Bool.true_or, Bool.or_false, Bool.false_or, Nat.reduceBEq, *]; done) | fail)) only [hlen, go_sem, Hold.p, HoldK.k, HoldL.K, HoldL.body, Nat.reduceBEq, Nat.reduceAdd, reduceIte]
    rcases Classical.em (bs = []) with hbe | hbe
    · have d1 : decide ((0 : Int) < (bs.length : Int)) = false := by rw [hbe]; rfl
      have hat1 : atI bs = -1 := by rw [hbe]; rfl
      have hne : bs[0]? ≠ some 10 := by rw [hbe]; simp
      have h8 : ¬ 8000 ≤ bs.length := by rw [hbe]; simp
      have d2 : decide ((8000 : Int) ≤ (bs.length : Int)) = false := by rw [hbe]; rfl
      rw [one_wait hne (by omega) h8]
      have d3 : decide ((-1 : Int) < 0) = true := rfl
      simp (disch := (first | omega | assumption | (simp only [push_n, set_n, put_n, List.length_cons, List.length_nil, List.length_append, Nat.reduceAdd]; done) | (simp only [push_n, set_n, put_n, List.length_cons, List.length_nil, List.length_append]; omega) | (simp only [List.all_cons, List.all_nil, one_bool, one_int, one_str, one_ptr, one_nilptr, one_slice, one_eslice, one_nilslice, one_func, one_iface, one_niliface, Bool.and_true, Bool.true_and, List.getD_cons_zero, List.getD_cons_succ, List.contains_cons, List.contains_nil, Bool.or_true, Bool.true_or, Bool.or_false, Bool.false_or, Nat.reduceBEq, *]; done) | fail)) only [d1, hat1, d3, hlen, d2, q0, q1, n1, go_sem, Hold.p, HoldK.k, HoldL.K, HoldL.body, Nat.reduceBEq, Nat.reduceAdd, reduceIte]
      exact ⟨⟨_, _, _, _, rfl, rfl, rfl, rfl, rfl⟩, hEx.set1 _ (Nat.le_refl _)⟩
    have hpos := List.length_pos_iff.2 hbe
    have d1 : decide ((0 : Int) < (bs.length : Int)) = true := decide_eq_true (by omega)
    obtain ⟨x, hx⟩ : ∃ b, bs[0]? = some b := ⟨_, List.getElem?_eq_getElem hpos⟩
    obtain ⟨l, j, hia, hll, hrow⟩ := hs.at (m := 0) (strRows_at hx) .i64
    have hia : iadrF g3 1 v (.int .i64 0) = some (.ptr l j 0) := hia
    have hcl := cellO_row hrow
    simp (disch := (first | omega | assumption | (simp only [push_n, set_n, put_n, List.length_cons, List.length_nil, List.length_append, Nat.reduceAdd]; done) | (simp only [push_n, set_n, put_n, List.length_cons, List.length_nil, List.length_append]; omega) | (simp only [List.all_cons, List.all_nil, one_bool, one_int, one_str, one_ptr, one_nilptr, one_slice, one_eslice, one_nilslice, one_func, one_iface, one_niliface, Bool.and_true, Bool.true_and, List.getD_cons_zero, List.getD_cons_succ, List.contains_cons, List.contains_nil, Bool.or_true, Bool.true_or, Bool.or_false, Bool.false_or, Nat.reduceBEq, *]; done) | fail)) only [d1, hia, hcl, go_sem, Hold.p, HoldK.k, HoldL.K, HoldL.body, Nat.reduceBEq, Nat.reduceAdd, reduceIte]
    refine test_dec (fun hc => ?_) (fun hc => ?_)
    · have hx10 : x = 10 := UInt8.toNat_inj.1 (by show x.toNat = 10; omega)
      rw [one_nl (by rw [hx, hx10])]
      simp (disch := (first | omega | assumption | (simp only [push_n, set_n, put_n, List.length_cons, List.length_nil, List.length_append, Nat.reduceAdd]; done) | (simp only [push_n, set_n, put_n, List.length_cons, List.length_nil, List.length_append]; omega) | (simp only [List.all_cons, List.all_nil, one_bool, one_int, one_str, one_ptr, one_nilptr, one_slice, one_eslice, one_nilslice, one_func, one_iface, one_niliface, Bool.and_true, Bool.true_and, List.getD_cons_zero, List.getD_cons_succ, List.contains_cons, List.contains_nil, Bool.or_true, Bool.true_or, Bool.or_false, Bool.false_or, Nat.reduceBEq, *]; done) | fail)) only [q0, q1, n1, go_sem, Hold.p, HoldK.k, HoldL.K, HoldL.body, Nat.reduceBEq, Nat.reduceAdd, reduceIte]
      exact ⟨⟨_, _, _, _, rfl, rfl, rfl, rfl, rfl⟩, hEx.set1 _ (Nat.le_refl _)⟩
    have hne : bs[0]? ≠ some 10 := by rw [hx]; intro e; cases e; exact hc rfl
    rcases atI_cases bs with hm1 | ⟨i, hi, hi1, hi2, hi3, hi4⟩
    · have d3 : decide ((-1 : Int) < 0) = true := rfl
      simp (disch := (first | omega | assumption | (simp only [push_n, set_n, put_n, List.length_cons, List.length_nil, List.length_append, Nat.reduceAdd]; done) | (simp only [push_n, set_n, put_n, List.length_cons, List.length_nil, List.length_append]; omega) | (simp only [List.all_cons, List.all_nil, one_bool, one_int, one_str, one_ptr, one_nilptr, one_slice, one_eslice, one_nilslice, one_func, one_iface, one_niliface, Bool.and_true, Bool.true_and, List.getD_cons_zero, List.getD_cons_succ, List.contains_cons, List.contains_nil, Bool.or_true, Bool.true_or, Bool.or_false, Bool.false_or, Nat.reduceBEq, *]; done) | fail)) only [hm1, d3, hlen, go_sem, Hold.p, HoldK.k, HoldL.K, HoldL.body, Nat.reduceBEq, Nat.reduceAdd, reduceIte]
      refine test_dec (fun hc2 => ?_) (fun hc2 => ?_)
      · rw [one_big hne (by omega) (by omega)]
        simp (disch := (first | omega | assumption | (simp only [push_n, set_n, put_n, List.length_cons, List.length_nil, List.length_append, Nat.reduceAdd]; done) | (simp only [push_n, set_n, put_n, List.length_cons, List.length_nil, List.length_append]; omega) | (simp only [List.all_cons, List.all_nil, one_bool, one_int, one_str, one_ptr, one_nilptr, one_slice, one_eslice, one_nilslice, one_func, one_iface, one_niliface, Bool.and_true, Bool.true_and, List.getD_cons_zero, List.getD_cons_succ, List.contains_cons, List.contains_nil, Bool.or_true, Bool.true_or, Bool.or_false, Bool.false_or, Nat.reduceBEq, *]; done) | fail)) only [q0, q1, n1, go_sem, Hold.p, HoldK.k, HoldL.K, HoldL.body, Nat.reduceBEq, Nat.reduceAdd, reduceIte]
        exact ⟨⟨_, _, _, _, rfl, rfl, rfl, rfl, rfl⟩, hEx.set1 _ (Nat.le_refl _)⟩
      · rw [one_wait hne (by omega) (by omega)]
        simp (disch := (first | omega | assumption | (simp only [push_n, set_n, put_n, List.length_cons, List.length_nil, List.length_append, Nat.reduceAdd]; done) | (simp only [push_n, set_n, put_n, List.length_cons, List.length_nil, List.length_append]; omega) | (simp only [List.all_cons, List.all_nil, one_bool, one_int, one_str, one_ptr, one_nilptr, one_slice, one_eslice, one_nilslice, one_func, one_iface, one_niliface, Bool.and_true, Bool.true_and, List.getD_cons_zero, List.getD_cons_succ, List.contains_cons, List.contains_nil, Bool.or_true, Bool.true_or, Bool.or_false, Bool.false_or, Nat.reduceBEq, *]; done) | fail)) only [q0, q1, n1, go_sem, Hold.p, HoldK.k, HoldL.K, HoldL.body, Nat.reduceBEq, Nat.reduceAdd, reduceIte]
        exact ⟨⟨_, _, _, _, rfl, rfl, rfl, rfl, rfl⟩, hEx.set1 _ (Nat.le_refl _)⟩
    · have d3 : decide ((i : Int) < 0) = false := decide_eq_false (by omega)
      simp (disch := (first | omega | assumption | (simp only [push_n, set_n, put_n, List.length_cons, List.length_nil, List.length_append, Nat.reduceAdd]; done) | (simp only [push_n, set_n, put_n, List.length_cons, List.length_nil, List.length_append]; omega) | (simp only [List.all_cons, List.all_nil, one_bool, one_int, one_str, one_ptr, one_nilptr, one_slice, one_eslice, one_nilslice, one_func, one_iface, one_niliface, Bool.and_true, Bool.true_and, List.getD_cons_zero, List.getD_cons_succ, List.contains_cons, List.contains_nil, Bool.or_true, Bool.true_or, Bool.or_false, Bool.false_or, Nat.reduceBEq, *]; done) | fail)) only [hi, d3, n1, go_sem, Hold.p, HoldK.k, HoldL.K, HoldL.body, Nat.reduceBEq, Nat.reduceAdd, reduceIte]
      exact ⟨i, rfl, hne, rfl, b0, b1, hEx⟩
  rintro e g ⟨i, i0, i1, i4, i7, i9, hne, hat, b0, b1, E⟩
  have hi : i + 2 ≤ bs.length ∧ bs[i]? = some 10 ∧ bs[i + 1]? = some 10 := by
    rcases atI_cases bs with hm1 | ⟨k, hk, k1, k2, k3, k4⟩
    · omega
    · have : i = k := by omega
      subst this; exact ⟨k1, k3, k4⟩
  simp only [CC.split]
  refine vc_split 2 (fun e g => ∃ v10 first L B, cutAt 10 (bs.take i) = first :: L ∧ e 0 = v ∧ e 1 = .func c [] [.ptr p 0 0] ∧ e 4 = .ptr h.n 0 0 ∧ e 7 = .ptr (h.n + 1) 0 0 ∧ e 9 = .int .i64 (i : Nat) ∧ e 10 = v10 ∧ Arg B g 1 v10 ((first :: L).map sRow) ∧ h.n + 2 ≤ B ∧ B ≤ g.n ∧ At g h.n raw0 ∧ At g (h.n + 1) (rawObj first .nilslice .nilslice 0) ∧ Ext h g) ?_ ?_
  · simp only [CC.split]
    have hsg := hs.ext E
    obtain ⟨v8, hv8, hs8⟩ := hsg.hi (b := i) (q := .i64) (by rw [strRows_len]; omega)
    rw [strRows_take] at hs8
    have hb2 := hs8.b2s
    simp (disch := (first | omega | assumption | (simp only [push_n, set_n, put_n, List.length_cons, List.length_nil, List.length_append, Nat.reduceAdd]; done) | (simp only [push_n, set_n, put_n, List.length_cons, List.length_nil, List.length_append]; omega) | (simp only [List.all_cons, List.all_nil, one_bool, one_int, one_str, one_ptr, one_nilptr, one_slice, one_eslice, one_nilslice, one_func, one_iface, one_niliface, Bool.and_true, Bool.true_and, List.getD_cons_zero, List.getD_cons_succ, List.contains_cons, List.contains_nil, Bool.or_true, Bool.true_or, Bool.or_false, Bool.false_or, Nat.reduceBEq, *]; done) | fail)) only [i0, i9, Option.map_none, hv8, hb2, go_sem, Hold.p, HoldK.k, HoldL.K, HoldL.body, Nat.reduceBEq, Nat.reduceAdd, reduceIte]
    refine callA_of (split_c g (bs.take i) 10 (by rw [List.length_take]; omega)) ?_
    rintro r g1 ⟨hr, E1⟩
    have b0 := b0.ext E1
    have b1 := b1.ext E1
    have le_E1 := E1.le
    have q1 := b1.eq
    cases hcut : cutAt 10 (bs.take i) with
    | nil => exact absurd hcut (cutAt_ne 10 _)
    | cons first L =>
      rw [hcut] at hr
      obtain ⟨l, j, hia, hll, hrow⟩ := hr.at (m := 0) (row := sRow first) rfl .i64
      have hia : iadrF g1 1 r (.int .i64 0) = some (.ptr l j 0) := hia
      have hcl := cellO_row hrow
      have hcl0 : cellO (g1.obj l) j 0 = some (.str first) := by rw [hcl]; rfl
      simp (disch := (first | omega | assumption | (simp only [push_n, set_n, put_n, List.length_cons, List.length_nil, List.length_append, Nat.reduceAdd]; done) | (simp only [push_n, set_n, put_n, List.length_cons, List.length_nil, List.length_append]; omega) | (simp only [List.all_cons, List.all_nil, one_bool, one_int, one_str, one_ptr, one_nilptr, one_slice, one_eslice, one_nilslice, one_func, one_iface, one_niliface, Bool.and_true, Bool.true_and, List.getD_cons_zero, List.getD_cons_succ, List.contains_cons, List.contains_nil, Bool.or_true, Bool.true_or, Bool.or_false, Bool.false_or, Nat.reduceBEq, *]; done) | fail)) only [i7, hia, hcl0, q1, go_sem, Hold.p, HoldK.k, HoldL.K, HoldL.body, Nat.reduceBEq, Nat.reduceAdd, reduceIte]
      refine ⟨r, first, L, g1.n, rfl, i0, i1, i4, i9, rfl, ⟨hr.setp b1 (by decide) _, hr.lt⟩, ?_, Nat.le_refl _, b0.set (by omega), b1.here, (E.trans E1).set1 _ (by omega)⟩
      have := b1.lt; omega
  clear i0 i1 i4 i7 i9 b0 b1 E g e
  rintro e g ⟨v10, first, L, B, hcut, i0, i1, i4, i7, i9, i10, a10, hB, hBg, b0, b1, E⟩
  have hone : oneB req bs = bodyO req bs first i (hdOk L) := one_body hne hat hcut
  have hbad : hdOk L = none → oneB req bs = .stop 19 := fun e => by rw [hone, e]; rfl
  have hLl : L.length ≤ i := by
    have := cutAt_len 10 (bs.take i)
    rw [hcut, List.length_cons] at this
    have h2 : (bs.take i).count 10 ≤ (bs.take i).length := List.count_le_length
    rw [List.length_take] at h2
    omega
  have hpl : ∀ q ∈ first :: L, q.length ≤ 1048576 := fun q hq => by
    rw [← hcut] at hq
    have := piece_len 10 _ q hq
    rw [List.length_take] at this
    omega
  have hL10 : lenF v10 = some (.int .i64 ((L.length + 1 : Nat) : Int)) := by
    have := a10.sl.lenF
    rwa [List.length_map, List.length_cons] at this
  simp only [CC.split]
  refine vc_split 2 (fun e g => ∃ fs n vf lo hi, linesF L = some (fs, n) ∧ FldS fs ∧ fs.length ≤ L.length ∧ e 0 = v ∧ e 1 = .func c [] [.ptr p 0 0] ∧ e 4 = .ptr h.n 0 0 ∧ e 7 = .ptr (h.n + 1) 0 0 ∧ e 9 = .int .i64 (i : Nat) ∧ e 11 = .int .i64 (n : Nat) ∧
    Own lo hi g 163 2 vf (fldRows fs) ∧ h.n + 2 ≤ lo ∧ hi ≤ g.n ∧ At g h.n raw0 ∧ At g (h.n + 1) (rawObj first vf .nilslice 0) ∧ Ext h g) ?_ ?_
  · simp only [CC.split]
    obtain ⟨v53, hx53, hs53⟩ := a10.sl.lo (a := 1) (q := .i64) (by simp)
    have hv53 : slcF g 1 v10 (some (.int .i64 1)) none = some v53 := hx53
    clear hx53
    have a53 : Arg B g 1 v53 (L.map sRow) := ⟨by simpa using hs53, slcF_at1 hv53 a10.lt⟩
    clear hs53 a10
    have hL53 : lenF v53 = some (.int .i64 ((L.length : Nat) : Int)) := by
      have := a53.sl.lenF
      rwa [List.length_map] at this
    simp (disch := (first | omega | assumption | (simp only [push_n, set_n, put_n, List.length_cons, List.length_nil, List.length_append, Nat.reduceAdd]; done) | (simp only [push_n, set_n, put_n, List.length_cons, List.length_nil, List.length_append]; omega) | (simp only [List.all_cons, List.all_nil, one_bool, one_int, one_str, one_ptr, one_nilptr, one_slice, one_eslice, one_nilslice, one_func, one_iface, one_niliface, Bool.and_true, Bool.true_and, List.getD_cons_zero, List.getD_cons_succ, List.contains_cons, List.contains_nil, Bool.or_true, Bool.true_or, Bool.or_false, Bool.false_or, Nat.reduceBEq, *]; done) | fail)) only [i10, Option.map_none, hv53, hL53, go_sem, Hold.p, HoldK.k, HoldL.K, HoldL.body, Nat.reduceBEq, Nat.reduceAdd, reduceIte]
    refine loop_at (fun m e g => ∃ (k : Nat) (acc : List Fld) (vf : IV) (lo hi : Nat), m = L.length - k ∧ k ≤ L.length ∧ e 0 = v ∧ e 1 = .func c [] [.ptr p 0 0] ∧ e 4 = .ptr h.n 0 0 ∧ e 7 = .ptr (h.n + 1) 0 0 ∧ e 9 = .int .i64 (i : Nat) ∧ e 10 = v10 ∧ e 11 = .int .i64 0 ∧ e 53 = v53 ∧ e 54 = .int .i64 (L.length : Nat) ∧ e 55 = .int .i64 (k : Nat) ∧
      linesF L = preF acc (linesF (L.drop k)) ∧ FldS acc ∧ acc.length ≤ k ∧ Arg B g 1 v53 (L.map sRow) ∧ Own lo hi g 163 2 vf (fldRows acc) ∧ B ≤ lo ∧ lo ≤ g.n ∧ hi ≤ g.n ∧ At g h.n raw0 ∧ At g (h.n + 1) (rawObj first vf .nilslice 0) ∧ Ext h g) L.length ?_ ?_
    · refine ⟨0, [], .nilslice, g.n, g.n, by omega, by omega, ?_⟩
      simp (disch := (first | omega | assumption | (simp only [push_n, set_n, put_n, List.length_cons, List.length_nil, List.length_append, Nat.reduceAdd]; done) | (simp only [push_n, set_n, put_n, List.length_cons, List.length_nil, List.length_append]; omega) | (simp only [List.all_cons, List.all_nil, one_bool, one_int, one_str, one_ptr, one_nilptr, one_slice, one_eslice, one_nilslice, one_func, one_iface, one_niliface, Bool.and_true, Bool.true_and, List.getD_cons_zero, List.getD_cons_succ, List.contains_cons, List.contains_nil, Bool.or_true, Bool.true_or, Bool.or_false, Bool.false_or, Nat.reduceBEq, *]; done) | fail)) only [i0, i1, i4, i7, i9, i10, go_sem, Hold.p, HoldK.k, HoldL.K, HoldL.body, Nat.reduceBEq, Nat.reduceAdd, reduceIte]
      exact ⟨rfl, (preF_nil _).symm, fun _ h => by simp at h, Nat.le_refl _, a53, Own.nil, hBg, Nat.le_refl _, Nat.le_refl _, b0, b1, E⟩
    · clear i0 i1 i4 i7 i9 i10 b0 b1 E a53 hv53 hBg g e
      rintro m e g ⟨k, acc, vf, lo, hi, rfl, hk, i0, i1, i4, i7, i9, i10, i11, i53, i54, i55, hI, hF, hal, a53, o, hlo, hlg, hhi, b0, b1, E⟩
      have q0 := b0.eq
      have q1 := b1.eq
      simp (disch := (first | omega | assumption | (simp only [push_n, set_n, put_n, List.length_cons, List.length_nil, List.length_append, Nat.reduceAdd]; done) | (simp only [push_n, set_n, put_n, List.length_cons, List.length_nil, List.length_append]; omega) | (simp only [List.all_cons, List.all_nil, one_bool, one_int, one_str, one_ptr, one_nilptr, one_slice, one_eslice, one_nilslice, one_func, one_iface, one_niliface, Bool.and_true, Bool.true_and, List.getD_cons_zero, List.getD_cons_succ, List.contains_cons, List.contains_nil, Bool.or_true, Bool.true_or, Bool.or_false, Bool.false_or, Nat.reduceBEq, *]; done) | fail)) only [i54, i55, go_sem, Hold.p, HoldK.k, HoldL.K, HoldL.body, Nat.reduceBEq, Nat.reduceAdd, reduceIte]
      refine test_dec (fun hb => ?_) (fun hb => ?_)
      · have hk' : k < L.length := by omega
        obtain ⟨t, ht⟩ : ∃ t, L[k]? = some t := ⟨_, List.getElem?_eq_getElem hk'⟩
        have htm := List.mem_of_getElem? ht
        have htl := hpl t (List.mem_cons_of_mem _ htm)
        obtain ⟨l, j, hia, hll, hrow⟩ := a53.sl.at (m := k) (row := sRow t) (by rw [List.getElem?_map, ht]; rfl) .i64
        have hcl0 : cellO (g.obj l) j 0 = some (.str t) := by rw [cellO_row hrow]; rfl
        have w1 : wr .i64 ((k : Int) + 1) = ((k + 1 : Nat) : Int) := by rw [wr64 _ (by omega)]; rfl
        have w2 : wr .i64 (((L.length + 1 : Nat) : Int) - 2) = ((L.length - 1 : Nat) : Int) := by rw [wr64 _ (by omega)]; omega
        simp (disch := (first | omega | assumption | (simp only [push_n, set_n, put_n, List.length_cons, List.length_nil, List.length_append, Nat.reduceAdd]; done) | (simp only [push_n, set_n, put_n, List.length_cons, List.length_nil, List.length_append]; omega) | (simp only [List.all_cons, List.all_nil, one_bool, one_int, one_str, one_ptr, one_nilptr, one_slice, one_eslice, one_nilslice, one_func, one_iface, one_niliface, Bool.and_true, Bool.true_and, List.getD_cons_zero, List.getD_cons_succ, List.contains_cons, List.contains_nil, Bool.or_true, Bool.true_or, Bool.or_false, Bool.false_or, Nat.reduceBEq, *]; done) | fail)) only [i53, i55, hia, hcl0, go_sem, Hold.p, HoldK.k, HoldL.K, HoldL.body, Nat.reduceBEq, Nat.reduceAdd, reduceIte]
        refine callA_of (cut_c g t [58, 32] htl mx) ?_
        rintro r g1 ⟨rfl, rfl⟩
        have hcle := cut_le t [58, 32]
        simp (disch := (first | omega | assumption | (simp only [push_n, set_n, put_n, List.length_cons, List.length_nil, List.length_append, Nat.reduceAdd]; done) | (simp only [push_n, set_n, put_n, List.length_cons, List.length_nil, List.length_append]; omega) | (simp only [List.all_cons, List.all_nil, one_bool, one_int, one_str, one_ptr, one_nilptr, one_slice, one_eslice, one_nilslice, one_func, one_iface, one_niliface, Bool.and_true, Bool.true_and, List.getD_cons_zero, List.getD_cons_succ, List.contains_cons, List.contains_nil, Bool.or_true, Bool.true_or, Bool.or_false, Bool.false_or, Nat.reduceBEq, *]; done) | fail)) only [go_sem, Hold.p, HoldK.k, HoldL.K, HoldL.body, Nat.reduceBEq, Nat.reduceAdd, reduceIte]
        generalize hcut2 : Lib.cut t [58, 32] = ct at hcle
        obtain ⟨nm, vl, okc⟩ := ct
        simp only at hcle ⊢
        have e1 : (Lib.cut t [58, 32]).1 = nm := by rw [hcut2]
        have e2 : (Lib.cut t [58, 32]).2.1 = vl := by rw [hcut2]
        have e3 : (Lib.cut t [58, 32]).2.2 = okc := by rw [hcut2]
        refine test_of (fun hc => ?_) (fun hc => ?_)
        · have hc' : okc = false := by rwa [Bool.not_eq_true'] at hc
          rw [hbad (hdOk_none (linesF_bad hI ht (e3.trans hc')))]
          have vo := o.one
          simp (disch := (first | omega | assumption | (simp only [push_n, set_n, put_n, List.length_cons, List.length_nil, List.length_append, Nat.reduceAdd]; done) | (simp only [push_n, set_n, put_n, List.length_cons, List.length_nil, List.length_append]; omega) | (simp only [List.all_cons, List.all_nil, one_bool, one_int, one_str, one_ptr, one_nilptr, one_slice, one_eslice, one_nilslice, one_func, one_iface, one_niliface, Bool.and_true, Bool.true_and, List.getD_cons_zero, List.getD_cons_succ, List.contains_cons, List.contains_nil, Bool.or_true, Bool.true_or, Bool.or_false, Bool.false_or, Nat.reduceBEq, *]; done) | fail)) only [i7, q1, i4, q0, vo, go_sem, Hold.p, HoldK.k, HoldL.K, HoldL.body, Nat.reduceBEq, Nat.reduceAdd, reduceIte]
          exact ⟨⟨_, _, _, _, rfl, rfl, o.one, rfl, rfl⟩, E.set1 _ (Nat.le_refl _)⟩
        have hc' : okc = true := by rwa [Bool.not_eq_false'] at hc
        simp (disch := (first | omega | assumption | (simp only [push_n, set_n, put_n, List.length_cons, List.length_nil, List.length_append, Nat.reduceAdd]; done) | (simp only [push_n, set_n, put_n, List.length_cons, List.length_nil, List.length_append]; omega) | (simp only [List.all_cons, List.all_nil, one_bool, one_int, one_str, one_ptr, one_nilptr, one_slice, one_eslice, one_nilslice, one_func, one_iface, one_niliface, Bool.and_true, Bool.true_and, List.getD_cons_zero, List.getD_cons_succ, List.contains_cons, List.contains_nil, Bool.or_true, Bool.true_or, Bool.or_false, Bool.false_or, Nat.reduceBEq, *]; done) | fail)) only [i10, i55, hL10, w2, go_sem, Hold.p, HoldK.k, HoldL.K, HoldL.body, Nat.reduceBEq, Nat.reduceAdd, reduceIte]
        refine test_of (fun hc2 => ?_) (fun hc2 => ?_)
        · have hc3 : nm = lengthS ∧ k + 1 = L.length := by
            simp only [Bool.and_eq_true, decide_eq_true_eq] at hc2
            exact ⟨hc2.1, by omega⟩
          have hlen2 := linesF_len hI ht (e3.trans hc') (e1.trans hc3.1) hc3.2
          rw [e2] at hlen2
          simp (disch := (first | omega | assumption | (simp only [push_n, set_n, put_n, List.length_cons, List.length_nil, List.length_append, Nat.reduceAdd]; done) | (simp only [push_n, set_n, put_n, List.length_cons, List.length_nil, List.length_append]; omega) | (simp only [List.all_cons, List.all_nil, one_bool, one_int, one_str, one_ptr, one_nilptr, one_slice, one_eslice, one_nilslice, one_func, one_iface, one_niliface, Bool.and_true, Bool.true_and, List.getD_cons_zero, List.getD_cons_succ, List.contains_cons, List.contains_nil, Bool.or_true, Bool.true_or, Bool.or_false, Bool.false_or, Nat.reduceBEq, *]; done) | fail)) only [go_sem, Hold.p, HoldK.k, HoldL.K, HoldL.body, Nat.reduceBEq, Nat.reduceAdd, reduceIte]
          refine callA_of (decimal_c g1 vl 5 (by omega) (by omega)) ?_
          rintro r g2 ⟨⟨n, rfl, hn⟩, E2⟩
          have b0 := b0.ext E2
          have b1 := b1.ext E2
          have o := o.ext E2
          have le_E2 := E2.le
          have q0 := b0.eq
          have q1 := b1.eq
          simp (disch := (first | omega | assumption | (simp only [push_n, set_n, put_n, List.length_cons, List.length_nil, List.length_append, Nat.reduceAdd]; done) | (simp only [push_n, set_n, put_n, List.length_cons, List.length_nil, List.length_append]; omega) | (simp only [List.all_cons, List.all_nil, one_bool, one_int, one_str, one_ptr, one_nilptr, one_slice, one_eslice, one_nilslice, one_func, one_iface, one_niliface, Bool.and_true, Bool.true_and, List.getD_cons_zero, List.getD_cons_succ, List.contains_cons, List.contains_nil, Bool.or_true, Bool.true_or, Bool.or_false, Bool.false_or, Nat.reduceBEq, *]; done) | fail)) only [go_sem, Hold.p, HoldK.k, HoldL.K, HoldL.body, Nat.reduceBEq, Nat.reduceAdd, reduceIte]
          have hch : (!decOk vl 5 || decide (n < 1) || decide (60000 < n)) = !decide (decOk vl 5 = true ∧ 1 ≤ valD vl ∧ valD vl ≤ 60000) := by
            cases hd : decOk vl 5 with
            | false => simp
            | true =>
              have hv := hn hd
              rw [hv]
              simp only [Bool.not_true, Bool.false_or, true_and]
              rw [lt_not, lt_not, ← Bool.not_and]
              congr 1
              rw [Bool.eq_iff_iff]
              simp only [Bool.and_eq_true, decide_eq_true_eq]
              omega
          rw [hch]
          refine test_of (fun hc4 => ?_) (fun hc4 => ?_)
          · have hc5 : ¬ (decOk vl 5 = true ∧ 1 ≤ valD vl ∧ valD vl ≤ 60000) := of_decide_eq_false (by rwa [Bool.not_eq_true'] at hc4)
            rw [if_neg hc5] at hlen2
            rw [hbad (hdOk_none hlen2)]
            have vo := o.one
            simp (disch := (first | omega | assumption | (simp only [push_n, set_n, put_n, List.length_cons, List.length_nil, List.length_append, Nat.reduceAdd]; done) | (simp only [push_n, set_n, put_n, List.length_cons, List.length_nil, List.length_append]; omega) | (simp only [List.all_cons, List.all_nil, one_bool, one_int, one_str, one_ptr, one_nilptr, one_slice, one_eslice, one_nilslice, one_func, one_iface, one_niliface, Bool.and_true, Bool.true_and, List.getD_cons_zero, List.getD_cons_succ, List.contains_cons, List.contains_nil, Bool.or_true, Bool.true_or, Bool.or_false, Bool.false_or, Nat.reduceBEq, *]; done) | fail)) only [i7, q1, i4, q0, vo, go_sem, Hold.p, HoldK.k, HoldL.K, HoldL.body, Nat.reduceBEq, Nat.reduceAdd, reduceIte]
            exact ⟨⟨_, _, _, _, rfl, rfl, o.one, rfl, rfl⟩, (E.trans E2).set1 _ (Nat.le_refl _)⟩
          · have hc5 : decOk vl 5 = true ∧ 1 ≤ valD vl ∧ valD vl ≤ 60000 := by simpa using hc4
            rw [if_pos hc5] at hlen2
            simp (disch := (first | omega | assumption | (simp only [push_n, set_n, put_n, List.length_cons, List.length_nil, List.length_append, Nat.reduceAdd]; done) | (simp only [push_n, set_n, put_n, List.length_cons, List.length_nil, List.length_append]; omega) | (simp only [List.all_cons, List.all_nil, one_bool, one_int, one_str, one_ptr, one_nilptr, one_slice, one_eslice, one_nilslice, one_func, one_iface, one_niliface, Bool.and_true, Bool.true_and, List.getD_cons_zero, List.getD_cons_succ, List.contains_cons, List.contains_nil, Bool.or_true, Bool.true_or, Bool.or_false, Bool.false_or, Nat.reduceBEq, *]; done) | fail)) only [i0, i1, i4, i7, i9, go_sem, Hold.p, HoldK.k, HoldL.K, HoldL.body, Nat.reduceBEq, Nat.reduceAdd, reduceIte]
            exact ⟨acc, valD vl, vf, lo, hi, hlen2, hF, by omega, by rw [hn hc5.1], o, by omega, by omega, b0, b1, E.trans E2⟩
        · have hc3 : ¬ (nm = lengthS ∧ k + 1 = L.length) := by
            rintro ⟨r1, r2⟩
            rw [Bool.and_eq_false_iff] at hc2
            rcases hc2 with h2 | h2
            · exact of_decide_eq_false h2 r1
            · exact of_decide_eq_false h2 (by omega)
          have hst := linesF_step hI ht (e3.trans hc') (by rw [e1]; exact hc3)
          rw [e1, e2] at hst
          simp (disch := (first | omega | assumption | (simp only [push_n, set_n, put_n, List.length_cons, List.length_nil, List.length_append, Nat.reduceAdd]; done) | (simp only [push_n, set_n, put_n, List.length_cons, List.length_nil, List.length_append]; omega) | (simp only [List.all_cons, List.all_nil, one_bool, one_int, one_str, one_ptr, one_nilptr, one_slice, one_eslice, one_nilslice, one_func, one_iface, one_niliface, Bool.and_true, Bool.true_and, List.getD_cons_zero, List.getD_cons_succ, List.contains_cons, List.contains_nil, Bool.or_true, Bool.true_or, Bool.or_false, Bool.false_or, Nat.reduceBEq, *]; done) | fail)) only [i7, q1, go_sem, Hold.p, HoldK.k, HoldL.K, HoldL.body, Nat.reduceBEq, Nat.reduceAdd, reduceIte]
          generalize hq_g2 : IH.push g1 (IObj.rows [[.str nm, .str vl]] 163 2 false) = g2
          have e_g2 : Ext g1 g2 := by rw [← hq_g2]; exact (Ext.refl _).push _
          have l_g2 : g2.n = g1.n + 1 := by rw [← hq_g2]; rfl
          have b2 : At g2 g1.n (IObj.rows [[.str nm, .str vl]] 163 2 false) := by rw [← hq_g2]; exact At.new _ _
          clear hq_g2
          have o := o.ext e_g2
          have a53 := a53.ext e_g2
          have b0 := b0.ext e_g2
          have b1 := b1.ext e_g2
          have q2 := b2.eq
          try simp (disch := (first | omega | assumption | (simp only [push_n, set_n, put_n, List.length_cons, List.length_nil, List.length_append, Nat.reduceAdd]; done) | (simp only [push_n, set_n, put_n, List.length_cons, List.length_nil, List.length_append]; omega) | (simp only [List.all_cons, List.all_nil, one_bool, one_int, one_str, one_ptr, one_nilptr, one_slice, one_eslice, one_nilslice, one_func, one_iface, one_niliface, Bool.and_true, Bool.true_and, List.getD_cons_zero, List.getD_cons_succ, List.contains_cons, List.contains_nil, Bool.or_true, Bool.true_or, Bool.or_false, Bool.false_or, Nat.reduceBEq, *]; done) | fail)) only [q2, go_sem, Hold.p, HoldK.k, HoldL.K, HoldL.body, Nat.reduceBEq, Nat.reduceAdd, reduceIte]
          refine o.app (by simp) (by simp only [fldRows_len, List.length_singleton]; omega) ?_
          intro v6 h6 o6 t6 n6 v6o v6c
          have E6 := (E.trans e_g2).turn o (by omega) t6
          have o6 : Own g2.n (g2.n + 1) h6 163 2 v6 (fldRows (acc ++ [(nm, vl)])) := by simpa [fldRows] using o6
          have b0 := b0.turn o (by omega) t6
          have b1 := b1.turn o (by omega) t6
          have a53 := a53.turn o hlo t6
          have q1 := b1.eq
          simp (disch := (first | omega | assumption | (simp only [push_n, set_n, put_n, List.length_cons, List.length_nil, List.length_append, Nat.reduceAdd]; done) | (simp only [push_n, set_n, put_n, List.length_cons, List.length_nil, List.length_append]; omega) | (simp only [List.all_cons, List.all_nil, one_bool, one_int, one_str, one_ptr, one_nilptr, one_slice, one_eslice, one_nilslice, one_func, one_iface, one_niliface, Bool.and_true, Bool.true_and, List.getD_cons_zero, List.getD_cons_succ, List.contains_cons, List.contains_nil, Bool.or_true, Bool.true_or, Bool.or_false, Bool.false_or, Nat.reduceBEq, *]; done) | fail)) only [i0, i1, i4, i7, i9, i10, i11, i53, i54, i55, q1, w1, v6o, v6c, go_sem, Hold.p, HoldK.k, HoldL.K, HoldL.body, Nat.reduceBEq, Nat.reduceAdd, reduceIte]
          refine ⟨_, ?_, k + 1, acc ++ [(nm, vl)], v6, g2.n, g2.n + 1, rfl, by omega, rfl, hst, ?_, by simp; omega, a53.setp b1 (by decide) _, o6.set (.inl (by omega)) _, by omega, ?_, ?_, b0.set (by omega), b1.here, E6.set1 _ (by omega)⟩
          · omega
          · intro f hf
            rcases List.mem_append.1 hf with hf | hf
            · exact hF f hf
            · have : f = (nm, vl) := by simpa using hf
              subst this
              exact ⟨by show nm.length ≤ _; omega, by show vl.length ≤ _; omega⟩
          · show g2.n ≤ h6.n
            omega
          · show g2.n + 1 ≤ h6.n
            omega
      · have hk2 : k = L.length := by omega
        subst hk2
        simp (disch := (first | omega | assumption | (simp only [push_n, set_n, put_n, List.length_cons, List.length_nil, List.length_append, Nat.reduceAdd]; done) | (simp only [push_n, set_n, put_n, List.length_cons, List.length_nil, List.length_append]; omega) | (simp only [List.all_cons, List.all_nil, one_bool, one_int, one_str, one_ptr, one_nilptr, one_slice, one_eslice, one_nilslice, one_func, one_iface, one_niliface, Bool.and_true, Bool.true_and, List.getD_cons_zero, List.getD_cons_succ, List.contains_cons, List.contains_nil, Bool.or_true, Bool.true_or, Bool.or_false, Bool.false_or, Nat.reduceBEq, *]; done) | fail)) only [i0, i1, i4, i7, i9, i11, go_sem, Hold.p, HoldK.k, HoldL.K, HoldL.body, Nat.reduceBEq, Nat.reduceAdd, reduceIte]
        exact ⟨acc, 0, vf, lo, hi, linesF_end hI, hF, hal, rfl, o, by omega, hhi, b0, b1, E⟩
  clear i0 i1 i4 i7 i9 i10 b0 b1 E a10 hL10 hBg g e
  rintro e g ⟨fs, n, vf, lo, hi', hlin, hF, hfl, i0, i1, i4, i7, i9, i11, o, hlo, hhi, b0, b1, E⟩
  have hsome := hdOk_some hlin
  have hn6 : n ≤ 60000 := (linesF_le hlin).1
  have hfst := hpl first List.mem_cons_self
  simp only [CC.split]
  refine vc_split 1 (fun e g => hdOk L = some (fs, n) ∧ firstB req first = true ∧ e 0 = v ∧ e 4 = .ptr h.n 0 0 ∧ e 7 = .ptr (h.n + 1) 0 0 ∧ e 9 = .int .i64 (i : Nat) ∧ e 11 = .int .i64 (n : Nat) ∧
    Own lo hi' g 163 2 vf (fldRows fs) ∧ hi' ≤ g.n ∧ At g h.n raw0 ∧ At g (h.n + 1) (rawObj first vf .nilslice 0) ∧ Ext h g) ?_ ?_
  · simp only [CC.split]
    have q1 := b1.eq
    simp (disch := (first | omega | assumption | (simp only [push_n, set_n, put_n, List.length_cons, List.length_nil, List.length_append, Nat.reduceAdd]; done) | (simp only [push_n, set_n, put_n, List.length_cons, List.length_nil, List.length_append]; omega) | (simp only [List.all_cons, List.all_nil, one_bool, one_int, one_str, one_ptr, one_nilptr, one_slice, one_eslice, one_nilslice, one_func, one_iface, one_niliface, Bool.and_true, Bool.true_and, List.getD_cons_zero, List.getD_cons_succ, List.contains_cons, List.contains_nil, Bool.or_true, Bool.true_or, Bool.or_false, Bool.false_or, Nat.reduceBEq, *]; done) | fail)) only [i7, q1, go_sem, Hold.p, HoldK.k, HoldL.K, HoldL.body, Nat.reduceBEq, Nat.reduceAdd, reduceIte]
    refine callA_of (implRest_c g vf .nilslice fs [] o.sl (SlR.nil _ _) (by omega) hF) ?_
    rintro r g1 ⟨rfl, E1⟩
    have b0 := b0.ext E1
    have b1 := b1.ext E1
    have o := o.ext E1
    have le_E1 := E1.le
    have E := E.trans E1
    have q0 := b0.eq
    have q1 := b1.eq
    have vo := o.one
    simp (disch := (first | omega | assumption | (simp only [push_n, set_n, put_n, List.length_cons, List.length_nil, List.length_append, Nat.reduceAdd]; done) | (simp only [push_n, set_n, put_n, List.length_cons, List.length_nil, List.length_append]; omega) | (simp only [List.all_cons, List.all_nil, one_bool, one_int, one_str, one_ptr, one_nilptr, one_slice, one_eslice, one_nilslice, one_func, one_iface, one_niliface, Bool.and_true, Bool.true_and, List.getD_cons_zero, List.getD_cons_succ, List.contains_cons, List.contains_nil, Bool.or_true, Bool.true_or, Bool.or_false, Bool.false_or, Nat.reduceBEq, *]; done) | fail)) only [i1, i7, q1, Bool.not_not, go_sem, Hold.p, HoldK.k, HoldL.K, HoldL.body, Nat.reduceBEq, Nat.reduceAdd, reduceIte]
    refine guard_of (fun hb => ?_) (fun hb => ?_)
    · have hb' : restB fs 0 = true := by simpa using hb
      rw [hb', if_pos rfl] at hsome
      simp (disch := (first | omega | assumption | (simp only [push_n, set_n, put_n, List.length_cons, List.length_nil, List.length_append, Nat.reduceAdd]; done) | (simp only [push_n, set_n, put_n, List.length_cons, List.length_nil, List.length_append]; omega) | (simp only [List.all_cons, List.all_nil, one_bool, one_int, one_str, one_ptr, one_nilptr, one_slice, one_eslice, one_nilslice, one_func, one_iface, one_niliface, Bool.and_true, Bool.true_and, List.getD_cons_zero, List.getD_cons_succ, List.contains_cons, List.contains_nil, Bool.or_true, Bool.true_or, Bool.or_false, Bool.false_or, Nat.reduceBEq, *]; done) | fail)) only [i1, i7, q1, hb, hb', List.nil_append, List.append_nil, List.cons_append, go_sem, Hold.p, HoldK.k, HoldL.K, HoldL.body, Nat.reduceBEq, Nat.reduceAdd, reduceIte]
      refine callA_of (hG g1 first vf fs (ha.ext E) o.sl hfst (by omega) hF) ?_
      rintro r g2 ⟨rfl, E2⟩
      have b0 := b0.ext E2
      have b1 := b1.ext E2
      have o := o.ext E2
      have le_E2 := E2.le
      have E := E.trans E2
      have q0 := b0.eq
      have q1 := b1.eq
      rw [hb', Bool.and_true]
      simp (disch := (first | omega | assumption | (simp only [push_n, set_n, put_n, List.length_cons, List.length_nil, List.length_append, Nat.reduceAdd]; done) | (simp only [push_n, set_n, put_n, List.length_cons, List.length_nil, List.length_append]; omega) | (simp only [List.all_cons, List.all_nil, one_bool, one_int, one_str, one_ptr, one_nilptr, one_slice, one_eslice, one_nilslice, one_func, one_iface, one_niliface, Bool.and_true, Bool.true_and, List.getD_cons_zero, List.getD_cons_succ, List.contains_cons, List.contains_nil, Bool.or_true, Bool.true_or, Bool.or_false, Bool.false_or, Nat.reduceBEq, *]; done) | fail)) only [hb, hb', go_sem, Hold.p, HoldK.k, HoldL.K, HoldL.body, Nat.reduceBEq, Nat.reduceAdd, reduceIte]
      cases hf : firstB req first with
      | false =>
        have : oneB req bs = .stop 19 := by rw [hone, hsome]; unfold bodyO; rw [hf]; rfl
        rw [this]
        simp (disch := (first | omega | assumption | (simp only [push_n, set_n, put_n, List.length_cons, List.length_nil, List.length_append, Nat.reduceAdd]; done) | (simp only [push_n, set_n, put_n, List.length_cons, List.length_nil, List.length_append]; omega) | (simp only [List.all_cons, List.all_nil, one_bool, one_int, one_str, one_ptr, one_nilptr, one_slice, one_eslice, one_nilslice, one_func, one_iface, one_niliface, Bool.and_true, Bool.true_and, List.getD_cons_zero, List.getD_cons_succ, List.contains_cons, List.contains_nil, Bool.or_true, Bool.true_or, Bool.or_false, Bool.false_or, Nat.reduceBEq, *]; done) | fail)) only [i7, q1, i4, q0, vo, go_sem, Hold.p, HoldK.k, HoldL.K, HoldL.body, Nat.reduceBEq, Nat.reduceAdd, reduceIte]
        exact ⟨⟨_, _, _, _, rfl, rfl, vo, rfl, rfl⟩, E.set1 _ (Nat.le_refl _)⟩
      | true =>
        simp (disch := (first | omega | assumption | (simp only [push_n, set_n, put_n, List.length_cons, List.length_nil, List.length_append, Nat.reduceAdd]; done) | (simp only [push_n, set_n, put_n, List.length_cons, List.length_nil, List.length_append]; omega) | (simp only [List.all_cons, List.all_nil, one_bool, one_int, one_str, one_ptr, one_nilptr, one_slice, one_eslice, one_nilslice, one_func, one_iface, one_niliface, Bool.and_true, Bool.true_and, List.getD_cons_zero, List.getD_cons_succ, List.contains_cons, List.contains_nil, Bool.or_true, Bool.true_or, Bool.or_false, Bool.false_or, Nat.reduceBEq, *]; done) | fail)) only [i0, i4, i7, i9, i11, go_sem, Hold.p, HoldK.k, HoldL.K, HoldL.body, Nat.reduceBEq, Nat.reduceAdd, reduceIte]
        exact ⟨hsome, o, by omega, b0, b1, E⟩
    · have hb' : restB fs 0 = false := by simpa using hb
      rw [hb', if_neg (by simp)] at hsome
      rw [hbad hsome]
      simp (disch := (first | omega | assumption | (simp only [push_n, set_n, put_n, List.length_cons, List.length_nil, List.length_append, Nat.reduceAdd]; done) | (simp only [push_n, set_n, put_n, List.length_cons, List.length_nil, List.length_append]; omega) | (simp only [List.all_cons, List.all_nil, one_bool, one_int, one_str, one_ptr, one_nilptr, one_slice, one_eslice, one_nilslice, one_func, one_iface, one_niliface, Bool.and_true, Bool.true_and, List.getD_cons_zero, List.getD_cons_succ, List.contains_cons, List.contains_nil, Bool.or_true, Bool.true_or, Bool.or_false, Bool.false_or, Nat.reduceBEq, *]; done) | fail)) only [hb, hb', i7, q1, i4, q0, vo, go_sem, Hold.p, HoldK.k, HoldL.K, HoldL.body, Nat.reduceBEq, Nat.reduceAdd, reduceIte]
      exact ⟨⟨_, _, _, _, rfl, rfl, vo, rfl, rfl⟩, E.set1 _ (Nat.le_refl _)⟩
  clear i0 i1 i4 i7 i9 i11 b0 b1 E o hhi g e
  rintro e g ⟨hhd, hfb, i0, i4, i7, i9, i11, o, hhi, b0, b1, E⟩
  have wA : wr .i64 ((i : Int) + 2) = ((i + 2 : Nat) : Int) := by rw [wr64 _ (by omega)]; rfl
  have wB : wr .i64 (((i + 2 : Nat) : Int) + (n : Int)) = ((i + 2 + n : Nat) : Int) := by rw [wr64 _ (by omega)]; omega
  have hO : oneB req bs = if i + 2 + n ≤ bs.length then .msg first fs ((bs.take (i + 2 + n)).drop (i + 2)) (i + 2 + n) else .stop 0 := by
    rw [hone, hhd]; unfold bodyO; simp only [hfb, if_true]
  simp only [CC.split]
  refine vc_split 1 (fun e g => e 0 = v ∧ e 4 = .ptr h.n 0 0 ∧ e 7 = .ptr (h.n + 1) 0 0 ∧ e 9 = .int .i64 (i : Nat) ∧
    Own lo hi' g 163 2 vf (fldRows fs) ∧ hi' ≤ g.n ∧ At g h.n raw0 ∧ At g (h.n + 1) (rawObj first vf .nilslice ((i + 2 + n : Nat) : Int)) ∧ Ext h g) ?_ ?_
  · simp only [CC.split]
    have q1 := b1.eq
    simp (disch := (first | omega | assumption | (simp only [push_n, set_n, put_n, List.length_cons, List.length_nil, List.length_append, Nat.reduceAdd]; done) | (simp only [push_n, set_n, put_n, List.length_cons, List.length_nil, List.length_append]; omega) | (simp only [List.all_cons, List.all_nil, one_bool, one_int, one_str, one_ptr, one_nilptr, one_slice, one_eslice, one_nilslice, one_func, one_iface, one_niliface, Bool.and_true, Bool.true_and, List.getD_cons_zero, List.getD_cons_succ, List.contains_cons, List.contains_nil, Bool.or_true, Bool.true_or, Bool.or_false, Bool.false_or, Nat.reduceBEq, *]; done) | fail)) only [i7, i9, i11, q1, wA, wB, i0, i4, go_sem, Hold.p, HoldK.k, HoldL.K, HoldL.body, Nat.reduceBEq, Nat.reduceAdd, reduceIte]
    exact ⟨o.set (.inl (by omega)) _, hhi, b0.set (by omega), b1.here, E.set1 _ (by omega)⟩
  clear i0 i4 i7 i9 i11 b0 b1 E o hhi g e
  rintro e g ⟨i0, i4, i7, i9, o, hhi, b0, b1, E⟩
  have q0 := b0.eq
  have q1 := b1.eq
  have vo := o.one
  simp only [CC.split]
  simp (disch := (first | omega | assumption | (simp only [push_n, set_n, put_n, List.length_cons, List.length_nil, List.length_append, Nat.reduceAdd]; done) | (simp only [push_n, set_n, put_n, List.length_cons, List.length_nil, List.length_append]; omega) | (simp only [List.all_cons, List.all_nil, one_bool, one_int, one_str, one_ptr, one_nilptr, one_slice, one_eslice, one_nilslice, one_func, one_iface, one_niliface, Bool.and_true, Bool.true_and, List.getD_cons_zero, List.getD_cons_succ, List.contains_cons, List.contains_nil, Bool.or_true, Bool.true_or, Bool.or_false, Bool.false_or, Nat.reduceBEq, *]; done) | fail)) only [i0, i7, q1, hlen, go_sem, Hold.p, HoldK.k, HoldL.K, HoldL.body, Nat.reduceBEq, Nat.reduceAdd, reduceIte]
  refine test_dec (fun hb => ?_) (fun hb => ?_)
  · rw [hO, if_neg (by omega)]
    simp (disch := (first | omega | assumption | (simp only [push_n, set_n, put_n, List.length_cons, List.length_nil, List.length_append, Nat.reduceAdd]; done) | (simp only [push_n, set_n, put_n, List.length_cons, List.length_nil, List.length_append]; omega) | (simp only [List.all_cons, List.all_nil, one_bool, one_int, one_str, one_ptr, one_nilptr, one_slice, one_eslice, one_nilslice, one_func, one_iface, one_niliface, Bool.and_true, Bool.true_and, List.getD_cons_zero, List.getD_cons_succ, List.contains_cons, List.contains_nil, Bool.or_true, Bool.true_or, Bool.or_false, Bool.false_or, Nat.reduceBEq, *]; done) | fail)) only [i7, q1, i4, q0, vo, go_sem, Hold.p, HoldK.k, HoldL.K, HoldL.body, Nat.reduceBEq, Nat.reduceAdd, reduceIte]
    exact ⟨⟨_, _, _, _, rfl, rfl, vo, rfl, rfl⟩, E.set1 _ (Nat.le_refl _)⟩
  · have hle : i + 2 + n ≤ bs.length := by omega
    have hgn0 : h.n + 1 < g.n := b1.lt
    rw [hO, if_pos hle]
    obtain ⟨vb, hvb, hsb⟩ := (hs.ext E).lohi (a := i + 2) (b := i + 2 + n) (q := .i64) (q' := .i64) (by omega) (by rw [strRows_len]; omega)
    rw [strRows_take, strRows_drop] at hsb
    have hvb2 : slcF g 1 v (some (.int .i64 ((i + 2 : Nat) : Int))) (some (.int .i64 ((i + (2 + n) : Nat) : Int))) = some vb := by rw [← Nat.add_assoc]; exact hvb
    simp (disch := (first | omega | assumption | (simp only [push_n, set_n, put_n, List.length_cons, List.length_nil, List.length_append, Nat.reduceAdd]; done) | (simp only [push_n, set_n, put_n, List.length_cons, List.length_nil, List.length_append]; omega) | (simp only [List.all_cons, List.all_nil, one_bool, one_int, one_str, one_ptr, one_nilptr, one_slice, one_eslice, one_nilslice, one_func, one_iface, one_niliface, Bool.and_true, Bool.true_and, List.getD_cons_zero, List.getD_cons_succ, List.contains_cons, List.contains_nil, Bool.or_true, Bool.true_or, Bool.or_false, Bool.false_or, Nat.reduceBEq, *]; done) | fail)) only [i0, i7, i9, q1, wA, hvb2, go_sem, Hold.p, HoldK.k, HoldL.K, HoldL.body, Nat.reduceBEq, Nat.reduceAdd, reduceIte]
    refine callA_of (dup_c g vb _ hsb (by rw [List.length_drop, List.length_take]; omega)) ?_
    rintro r g1 ⟨ob, E1⟩
    rw [Nat.add_assoc i 2 n] at ob
    have b0 := b0.ext E1
    have b1 := b1.ext E1
    have o := o.ext E1
    have le_E1 := E1.le
    have q0 := b0.eq
    have q1 := b1.eq
    have vb1 := ob.one
    have vb2 := ob.cells
    simp (disch := (first | omega | assumption | (simp only [push_n, set_n, put_n, List.length_cons, List.length_nil, List.length_append, Nat.reduceAdd]; done) | (simp only [push_n, set_n, put_n, List.length_cons, List.length_nil, List.length_append]; omega) | (simp only [List.all_cons, List.all_nil, one_bool, one_int, one_str, one_ptr, one_nilptr, one_slice, one_eslice, one_nilslice, one_func, one_iface, one_niliface, Bool.and_true, Bool.true_and, List.getD_cons_zero, List.getD_cons_succ, List.contains_cons, List.contains_nil, Bool.or_true, Bool.true_or, Bool.or_false, Bool.false_or, Nat.reduceBEq, *]; done) | fail)) only [i4, i7, q0, q1, vo, vb1, vb2, go_sem, Hold.p, HoldK.k, HoldL.K, HoldL.body, Nat.reduceBEq, Nat.reduceAdd, reduceIte]
    have hgn := b1.lt
    refine ⟨⟨vf, r, g.n, rfl, ?_, ?_, ?_, ?_⟩, ((E.trans E1).set1 _ (by omega)).set1 _ (Nat.le_refl _)⟩
    · exact E.le
    · exact E1.le
    · exact ((o.set (m := h.n + 1) (.inl (by omega)) _).set (m := h.n) (.inl (by omega)) _).wide (by omega) (by omega) (by show g.n ≤ g1.n; omega)
    · exact (ob.set (m := h.n + 1) (.inl (by omega)) _).set (m := h.n) (.inl (by omega)) _
end
end Go.Proofs.YtdpaehdolhdjdaaDoor

namespace Go.Proofs.YtdpaehdolhdjdaaDoor
open Go Go.IW
def t_Field : Ty := .cat .str (.cat .str (.nil))
def t_Reply : Ty := .cat (.int .i64) (.cat (.slice 163 t_Field) (.cat (.slice 5 (.int .u8)) (.nil)))
set_option maxRecDepth 20000 in
theorem eqByteS_f : EqC Tryd.prog 12 (.slice 5 (.int .u8)) := eqSlI_calls (by kernel_rfl) rfl
set_option maxRecDepth 20000 in
theorem eqField_f : EqC Tryd.prog 154 t_Field := eqSt_calls (N := 15) (a1 := 163) (a2 := 163) (sz := 2) (fs := [(.str, none), (.str, none)]) (by kernel_rfl) (by decide) rfl ⟨rfl, ⟨rfl, trivial⟩⟩
set_option maxRecDepth 20000 in
theorem eqFieldS_f : EqC Tryd.prog 114 (.slice 163 t_Field) := eqSl_calls (g := 154) (by kernel_rfl) eqField_f
set_option maxRecDepth 20000 in
theorem eqReply_f : EqC Tryd.prog 48 t_Reply := eqSt_calls (N := 22) (a1 := 81) (a2 := 81) (sz := 3) (fs := [(.int .i64, none), (.slice 163 t_Field, some 114), (.slice 5 (.int .u8), some 12)]) (by kernel_rfl) (by decide) rfl ⟨rfl, ⟨eqFieldS_f, ⟨eqByteS_f, trivial⟩⟩⟩
set_option maxRecDepth 20000 in
theorem eqReplyS_f : EqC Tryd.prog 11 (.slice 81 t_Reply) := eqSl_calls (g := 48) (by kernel_rfl) eqReply_f
set_option maxRecDepth 20000 in
theorem heldByteS_f : HdC Tryd.prog 51 (.slice 5 (.int .u8)) := held_calls (N := 22) (q := []) (by kernel_rfl) (by decide) rfl trivial
set_option maxRecDepth 20000 in
theorem markText_f : MtC Tryd.prog 55 := mtx_calls (el := 5) (by kernel_rfl)
set_option maxRecDepth 20000 in
theorem heldFieldS_f : HdC Tryd.prog 50 (.slice 163 t_Field) := held_calls (N := 33) (q := [55, 55]) (by kernel_rfl) (by decide) rfl ⟨markText_f, ⟨markText_f, trivial⟩⟩
set_option maxRecDepth 20000 in
theorem heldReplyS_f : HdC Tryd.prog 15 (.slice 81 t_Reply) := held_calls (N := 40) (q := [50, 51]) (by kernel_rfl) (by decide) rfl ⟨trivial, ⟨heldFieldS_f, ⟨heldByteS_f, trivial⟩⟩⟩
set_option maxRecDepth 20000 in
theorem markByteS_f : MkC Tryd.prog 13 (.slice 5 (.int .u8)) := mark_calls (N := 20) (q := []) (by kernel_rfl) (by decide) rfl trivial
set_option maxRecDepth 20000 in
theorem markFieldS_f : MkC Tryd.prog 49 (.slice 163 t_Field) := mark_calls (N := 29) (q := [55, 55]) (by kernel_rfl) (by decide) rfl ⟨markText_f, ⟨markText_f, trivial⟩⟩
set_option maxRecDepth 20000 in
theorem markReplyS_f : MkC Tryd.prog 14 (.slice 81 t_Reply) := mark_calls (N := 34) (q := [49, 13]) (by kernel_rfl) (by decide) rfl ⟨trivial, ⟨markFieldS_f, ⟨markByteS_f, trivial⟩⟩⟩
set_option maxRecDepth 20000 in
theorem toByteS_f : ToC Tryd.prog 9 (.slice 5 (.int .u8)) := toSlI_calls (b := 1) (z := [.int .u8 0]) (by kernel_rfl) rfl (by decide) rfl
end Go.Proofs.YtdpaehdolhdjdaaDoor

set_option maxRecDepth 20000
namespace Go.Proofs.YtdpaehdolhdjdaaDoor
open Go Go.IW

theorem fldB_len {f : Fld} (h : fldB f = true) : f.1.length ≤ 40 ∧ f.2.length ≤ 200 := by
  unfold fldB at h
  rw [fieldOK_eq] at h
  simp only [Bool.and_eq_true] at h
  have := headOK_len h.1.1.1
  omega
theorem restB_un {fs : List Fld} {b : Nat} (h : restB fs b = true) : fs.length ≤ 16 ∧ b ≤ 60000 ∧ ∀ f ∈ fs, fldB f = true := by
  unfold restB at h
  simp only [Bool.and_eq_true, decide_eq_true_eq, List.all_eq_true] at h
  exact ⟨by omega, by omega, h.2⟩
/-! Replies and requests as data. -/
def fldD (f : Fld) : Dat := .pair (.str f.1) (.pair (.str f.2) .unit)
theorem fldL_cnt (fs : List Fld) : cntL t_Field (fs.map fldD) = 2 * fs.length := by
  induction fs with
  | nil => rfl
  | cons p r ih => simp only [List.map_cons, cntL, ih]; simp [t_Field, fldD, cntE]; omega
theorem bytes_cntL (bs : List UInt8) : cntL (.int .u8) (bs.map fun b => .int (b.toNat : Int)) = bs.length := by
  induction bs with
  | nil => rfl
  | cons p r ih => simp only [List.map_cons, cntL, ih]; simp [cntE]; omega
theorem bytes_cnt (el : Nat) (bs : List UInt8) : cntW (.slice el (.int .u8)) (bytesD bs) = bs.length := by
  simp [cntW, bytesD, cntE, bytes_cntL]
theorem bytes_ow {lo hi : Nat} {h : IH} {v : IV} {bs : List UInt8} (ho : Own lo hi h 5 1 v (strRows bs)) (hh : hi ≤ h.n) : Ow lo hi h (.slice 5 (.int .u8)) [v] (bytesD bs) :=
  Own.ow (t := .int .u8) (row := fun b : UInt8 => [.int .u8 (b.toNat : Int)]) (dat := fun b : UInt8 => .int (b.toNat : Int)) (fun x => ⟨_, rfl, rfl, rfl⟩) ho hh

def repD (st : Int) (fs : List Fld) (body : List UInt8) : Dat := .pair (.int st) (.pair (.list (fs.map fldD)) (.pair (bytesD body) .unit))
theorem repD_tot (st : Int) (fs : List Fld) (body : List UInt8) : (repD st fs body).tot = (fs.length + totL (fs.map fldD)) + body.length := by
  simp [repD, Dat.tot, bytesD_tot]
theorem flds_ow {lo hi : Nat} {h : IH} {v : IV} {fs : List Fld} (ho : Own lo hi h 163 2 v (fldRows fs)) (hh : hi ≤ h.n) : Ow lo hi h (.slice 163 t_Field) [v] (.list (fs.map fldD)) :=
  Own.ow (t := t_Field) (row := fun x : Fld => [.str x.1, .str x.2]) (dat := fldD) (fun x => ⟨[.str x.1], [.str x.2], .str x.1, .pair (.str x.2) .unit, [], [], rfl, rfl, rfl, ⟨x.1, rfl, rfl, rfl⟩, [.str x.2], [], .str x.2, .unit, [], [], rfl, rfl, rfl, ⟨x.2, rfl, rfl, rfl⟩, rfl, rfl, rfl⟩) ho hh
theorem str_ow (lo hi : Nat) (h : IH) (s : Txt) (hh : hi ≤ h.n) : Ow lo hi h .str [.str s] (.str s) := Ow.flat rfl ⟨s, rfl, rfl, rfl⟩ hh
theorem int_ow (lo hi : Nat) (h : IH) (n : Int) (hh : hi ≤ h.n) : Ow lo hi h (.int .i64) [.int .i64 n] (.int n) := Ow.flat rfl ⟨n, rfl, rfl, rfl⟩ hh
theorem nil_ow (lo hi : Nat) (h : IH) (hh : hi ≤ h.n) : Ow lo hi h .nil [] .unit := Ow.flat rfl ⟨rfl, rfl, rfl⟩ hh
theorem two_ow {lo m hi : Nat} {h : IH} {vf vb : IV} {fs : List Fld} {body : Txt} (hf : Own lo m h 163 2 vf (fldRows fs)) (hb : Own m hi h 5 1 vb (strRows body)) (h1 : lo ≤ m) (h2 : m ≤ hi) (hh : hi ≤ h.n) :
    Ow lo hi h (.cat (.slice 163 t_Field) (.cat (.slice 5 (.int .u8)) .nil)) [vf, vb] (.pair (.list (fs.map fldD)) (.pair (bytesD body) .unit)) :=
  Ow.cat (flds_ow hf (by omega)) (Ow.cat (lo := m) (hi := hi) (bytes_ow hb hh) (nil_ow hi hi h hh) (.inl (Nat.le_refl _)) (Nat.le_refl _) h2 (Nat.le_refl _) (Nat.le_refl _) hh) (.inl (Nat.le_refl _)) (Nat.le_refl _) h1 h2 (Nat.le_refl _) hh
theorem rep_ow {lo m hi : Nat} {h : IH} {vf vb : IV} {fs : List Fld} {body : Txt} (st : Int) (hf : Own lo m h 163 2 vf (fldRows fs)) (hb : Own m hi h 5 1 vb (strRows body)) (h1 : lo ≤ m) (h2 : m ≤ hi) (hh : hi ≤ h.n) : Ow lo hi h t_Reply [.int .i64 st, vf, vb] (repD st fs body) :=
  Ow.cat (lo := lo) (hi := hi) (int_ow lo lo h st (by omega)) (two_ow hf hb h1 h2 hh) (.inl (Nat.le_refl _)) (Nat.le_refl _) (Nat.le_refl _) (by omega) (Nat.le_refl _) hh
def repOf (m : Msg) : Dat := repD (valD (m.1.drop 6) : Nat) m.2.1 m.2.2
end Go.Proofs.YtdpaehdolhdjdaaDoor

set_option maxRecDepth 20000
namespace Go.Proofs.YtdpaehdolhdjdaaDoor
open Go Go.IW
section
attribute [local go_sem] List.getElem?_cons_zero List.getElem?_cons_succ Option.bind_some List.map_cons List.map_nil Nat.zero_add if_true List.getD_cons_zero List.getD_cons_succ List.contains_cons List.contains_nil Bool.or_true Bool.true_or Bool.or_false Bool.false_or Bool.not_true Bool.not_false true_and and_true rowA_whole mid_get stO_mid rowO_rows cellO_rows push_n set_n push_at push_old set_here set_there set_pushT set_pushN set_set upd_ne Nat.add_assoc Nat.add_zero stO_1s stO_ws boxA_s List.all_cons List.all_nil one_bool one_int one_str one_ptr one_nilptr one_slice one_eslice one_nilslice one_func one_iface one_niliface Bool.and_true Bool.and_self List.length_cons List.length_nil Nat.one_ne_zero Nat.succ_ne_zero if_false List.set_cons_zero List.set_cons_succ lay_nil lay_1 lay_w Option.map_some

/-- Lists that are read: each message owned. -/
def ReadRes (h h' : IH) (el : Nat) (t : Ty) (f : Msg → Dat) (r : IV) (R : List Msg × Nat × Int) : Prop := ∃ vl, r = .tuple [vl, .int .i64 (R.2.1 : Nat), .int .i64 R.2.2] ∧ Ow h.n h'.n h' (.slice el t) [vl] (.list (R.1.map f))

set_option maxHeartbeats 1000000 in
theorem readAllRep_c (mx : mxOn = true) (h : IH) (v : IV) (bs : Txt) (hs : SlR h 1 v (strRows bs)) (hl : bs.length ≤ 1048576) :
    ICalls Tryd.prog 46 [v, .func 47 [] []] h fun r h' => ReadRes h h' 81 t_Reply repOf r (readB false bs) ∧ Ext h h' := by
  refine icalls (.of ok46) (Nat.le_of_ble_eq_true rfl) ?_
  unfold c46
  have hs0 := hs
  have vv := hs.one
  simp (disch := (first | omega | assumption | (simp only [push_n, set_n, put_n, List.length_cons, List.length_nil, List.length_append, Nat.reduceAdd]; done) | (simp only [push_n, set_n, put_n, List.length_cons, List.length_nil, List.length_append]; omega) | (simp only [List.all_cons, List.all_nil, one_bool, one_int, one_str, one_ptr, one_nilptr, one_slice, one_eslice, one_nilslice, one_func, one_iface, one_niliface, Bool.and_true, Bool.true_and, List.getD_cons_zero, List.getD_cons_succ, List.contains_cons, List.contains_nil, Bool.or_true, Bool.true_or, Bool.or_false, Bool.false_or, Nat.reduceBEq, *]; done) | fail)) only [go_sem, Hold.p, HoldK.k, HoldL.K, HoldL.body, Nat.reduceBEq, Nat.reduceAdd, reduceIte]
  generalize hq_g : IH.push h (boxRep) = g
  have e_g : Ext h g := by rw [← hq_g]; exact (Ext.refl _).push _
  have l_g : g.n = h.n + 1 := by rw [← hq_g]; rfl
  have b : At g h.n (boxRep) := by rw [← hq_g]; exact At.new _ _
  clear hq_g
  have hs := hs.ext e_g
  try simp (disch := (first | omega | assumption | (simp only [push_n, set_n, put_n, List.length_cons, List.length_nil, List.length_append, Nat.reduceAdd]; done) | (simp only [push_n, set_n, put_n, List.length_cons, List.length_nil, List.length_append]; omega) | (simp only [List.all_cons, List.all_nil, one_bool, one_int, one_str, one_ptr, one_nilptr, one_slice, one_eslice, one_nilslice, one_func, one_iface, one_niliface, Bool.and_true, Bool.true_and, List.getD_cons_zero, List.getD_cons_succ, List.contains_cons, List.contains_nil, Bool.or_true, Bool.true_or, Bool.or_false, Bool.false_or, Nat.reduceBEq, *]; done) | fail)) only [go_sem, Hold.p, HoldK.k, HoldL.K, HoldL.body, Nat.reduceBEq, Nat.reduceAdd, reduceIte]
  refine loop_at (fun m e g => ∃ (at_ : Nat) (acc : List Msg) (vl : IV) (lo hi : Nat), m = bs.length - at_ ∧ at_ ≤ bs.length ∧ e 0 = v ∧ e 3 = .ptr h.n 0 0 ∧ e 7 = vl ∧ e 8 = .int .i64 (at_ : Nat) ∧ 2 * acc.length ≤ at_ ∧
    readB false bs = preR acc at_ (readB false (bs.drop at_)) ∧ At g h.n boxRep ∧ Ow lo hi g (.slice 81 t_Reply) [vl] (.list (acc.map repOf)) ∧ h.n + 1 ≤ lo ∧ lo ≤ g.n ∧ Ext h g) bs.length ?_ ?_
  · refine ⟨0, [], .nilslice, g.n, g.n, by omega, by omega, ?_⟩
    simp (disch := (first | omega | assumption | (simp only [push_n, set_n, put_n, List.length_cons, List.length_nil, List.length_append, Nat.reduceAdd]; done) | (simp only [push_n, set_n, put_n, List.length_cons, List.length_nil, List.length_append]; omega) | (simp only [List.all_cons, List.all_nil, one_bool, one_int, one_str, one_ptr, one_nilptr, one_slice, one_eslice, one_nilslice, one_func, one_iface, one_niliface, Bool.and_true, Bool.true_and, List.getD_cons_zero, List.getD_cons_succ, List.contains_cons, List.contains_nil, Bool.or_true, Bool.true_or, Bool.or_false, Bool.false_or, Nat.reduceBEq, *]; done) | fail)) only [go_sem, Hold.p, HoldK.k, HoldL.K, HoldL.body, Nat.reduceBEq, Nat.reduceAdd, reduceIte]
    refine ⟨rfl, by simp, (preR_nil _).symm, b, Ow.nil0 g, by omega, Nat.le_refl _, e_g⟩
  · clear b e_g l_g hs g
    rintro m e g ⟨at_, acc, vl, lo, hi, rfl, hat, i0, i3, i7, i8, hac, hI, b, o, hlo, hlg, E⟩
    have hsg := hs0.ext E
    have hig : hi ≤ g.n := o.le
    have q := b.eq
    obtain ⟨v17, hv17, hs17⟩ := hsg.lo (a := at_) (q := .i64) (by rw [strRows_len]; omega)
    rw [strRows_drop] at hs17
    simp (disch := (first | omega | assumption | (simp only [push_n, set_n, put_n, List.length_cons, List.length_nil, List.length_append, Nat.reduceAdd]; done) | (simp only [push_n, set_n, put_n, List.length_cons, List.length_nil, List.length_append]; omega) | (simp only [List.all_cons, List.all_nil, one_bool, one_int, one_str, one_ptr, one_nilptr, one_slice, one_eslice, one_nilslice, one_func, one_iface, one_niliface, Bool.and_true, Bool.true_and, List.getD_cons_zero, List.getD_cons_succ, List.contains_cons, List.contains_nil, Bool.or_true, Bool.true_or, Bool.or_false, Bool.false_or, Nat.reduceBEq, *]; done) | fail)) only [i0, i3, i8, Option.map_none, hv17, go_sem, Hold.p, HoldK.k, HoldL.K, HoldL.body, Nat.reduceBEq, Nat.reduceAdd, reduceIte]
    refine callA_of (oneMessage_c false 111 h.n boxRep (goodRep _) mx g v17 (bs.drop at_) b hs17 (by rw [List.length_drop]; omega)) ?_
    rintro r g1 ⟨hr, E1⟩
    cases hone : oneB false (bs.drop at_) with
    | stop c =>
      rw [hone] at hr
      obtain ⟨c0, c1, c2, c3, rfl, o0, o1, o2, o3⟩ := hr
      have hres := readI_stop hI hone
      have b := b.ext E1
      have o := o.ext E1
      have le_E1 := E1.le
      simp (disch := (first | omega | assumption | (simp only [push_n, set_n, put_n, List.length_cons, List.length_nil, List.length_append, Nat.reduceAdd]; done) | (simp only [push_n, set_n, put_n, List.length_cons, List.length_nil, List.length_append]; omega) | (simp only [List.all_cons, List.all_nil, one_bool, one_int, one_str, one_ptr, one_nilptr, one_slice, one_eslice, one_nilslice, one_func, one_iface, one_niliface, Bool.and_true, Bool.true_and, List.getD_cons_zero, List.getD_cons_succ, List.contains_cons, List.contains_nil, Bool.or_true, Bool.true_or, Bool.or_false, Bool.false_or, Nat.reduceBEq, *]; done) | fail)) only [o0, o1, o2, o3, go_sem, Hold.p, HoldK.k, HoldL.K, HoldL.body, Nat.reduceBEq, Nat.reduceAdd, reduceIte]
      generalize hq_g2 : IH.push g1 (IObj.rows [[c0, c1, c2, c3]] 153 4 false) = g2
      have e_g2 : Ext g1 g2 := by rw [← hq_g2]; exact (Ext.refl _).push _
      have l_g2 : g2.n = g1.n + 1 := by rw [← hq_g2]; rfl
      have b2 : At g2 g1.n (IObj.rows [[c0, c1, c2, c3]] 153 4 false) := by rw [← hq_g2]; exact At.new _ _
      clear hq_g2
      have b := b.ext e_g2
      have o := o.ext e_g2
      try simp (disch := (first | omega | assumption | (simp only [push_n, set_n, put_n, List.length_cons, List.length_nil, List.length_append, Nat.reduceAdd]; done) | (simp only [push_n, set_n, put_n, List.length_cons, List.length_nil, List.length_append]; omega) | (simp only [List.all_cons, List.all_nil, one_bool, one_int, one_str, one_ptr, one_nilptr, one_slice, one_eslice, one_nilslice, one_func, one_iface, one_niliface, Bool.and_true, Bool.true_and, List.getD_cons_zero, List.getD_cons_succ, List.contains_cons, List.contains_nil, Bool.or_true, Bool.true_or, Bool.or_false, Bool.false_or, Nat.reduceBEq, *]; done) | fail)) only [i7, i8, go_sem, Hold.p, HoldK.k, HoldL.K, HoldL.body, Nat.reduceBEq, Nat.reduceAdd, reduceIte]
      rw [hres]
      refine ⟨⟨vl, rfl, o.wide (by omega) ?_ (Nat.le_refl _)⟩, (E.trans E1).trans e_g2⟩
      exact o.le
    | msg first fs body size =>
      rw [hone] at hr
      obtain ⟨vf, vb, md, rfl, m1, m2, of_, ob⟩ := hr
      have hok := one_ok hone
      have hsz := hok.hs
      rw [List.length_drop] at hsz
      have hfl : first.length ≤ 1048576 := by have := hok.hl; rw [List.length_drop] at this; omega
      have hrb := restB_un hok.hr
      have hF : FldS fs := fun f hf => by have := fldB_len (hrb.2.2 f hf); omega
      have hres := readI_msg hI hone
      have hob := hok.hb
      have vf1 := of_.one
      have vb1 := ob.one
      have b := b.ext E1
      have o := o.ext E1
      have le_E1 := E1.le
      simp (disch := (first | omega | assumption | (simp only [push_n, set_n, put_n, List.length_cons, List.length_nil, List.length_append, Nat.reduceAdd]; done) | (simp only [push_n, set_n, put_n, List.length_cons, List.length_nil, List.length_append]; omega) | (simp only [List.all_cons, List.all_nil, one_bool, one_int, one_str, one_ptr, one_nilptr, one_slice, one_eslice, one_nilslice, one_func, one_iface, one_niliface, Bool.and_true, Bool.true_and, List.getD_cons_zero, List.getD_cons_succ, List.contains_cons, List.contains_nil, Bool.or_true, Bool.true_or, Bool.or_false, Bool.false_or, Nat.reduceBEq, *]; done) | fail)) only [vf1, vb1, go_sem, Hold.p, HoldK.k, HoldL.K, HoldL.body, Nat.reduceBEq, Nat.reduceAdd, reduceIte]
      generalize hq_g2 : IH.push g1 (rawObj first vf vb (size : Nat)) = g2
      have e_g2 : Ext g1 g2 := by rw [← hq_g2]; exact (Ext.refl _).push _
      have l_g2 : g2.n = g1.n + 1 := by rw [← hq_g2]; rfl
      have b2 : At g2 g1.n (rawObj first vf vb (size : Nat)) := by rw [← hq_g2]; exact At.new _ _
      clear hq_g2
      have b := b.ext e_g2
      have o := o.ext e_g2
      have of_ := of_.ext e_g2
      have ob := ob.ext e_g2
      have q := b.eq
      have q2 := b2.eq
      try simp (disch := (first | omega | assumption | (simp only [push_n, set_n, put_n, List.length_cons, List.length_nil, List.length_append, Nat.reduceAdd]; done) | (simp only [push_n, set_n, put_n, List.length_cons, List.length_nil, List.length_append]; omega) | (simp only [List.all_cons, List.all_nil, one_bool, one_int, one_str, one_ptr, one_nilptr, one_slice, one_eslice, one_nilslice, one_func, one_iface, one_niliface, Bool.and_true, Bool.true_and, List.getD_cons_zero, List.getD_cons_succ, List.contains_cons, List.contains_nil, Bool.or_true, Bool.true_or, Bool.or_false, Bool.false_or, Nat.reduceBEq, *]; done) | fail)) only [i3, q, q2, List.nil_append, List.append_nil, go_sem, Hold.p, HoldK.k, HoldL.K, HoldL.body, Nat.reduceBEq, Nat.reduceAdd, reduceIte]
      refine callA_of (toReply_c g2 first vf vb (size : Nat) fs body of_.sl ob.sl hfl (by omega) hF) ?_
      rintro r g3 ⟨⟨st, rfl, hst⟩, E3⟩
      have hst2 := hst hok.hf
      subst hst2
      have b := b.ext E3
      have b2 := b2.ext E3
      have o := o.ext E3
      have of_ := of_.ext E3
      have ob := ob.ext E3
      have le_E3 := E3.le
      simp (disch := (first | omega | assumption | (simp only [push_n, set_n, put_n, List.length_cons, List.length_nil, List.length_append, Nat.reduceAdd]; done) | (simp only [push_n, set_n, put_n, List.length_cons, List.length_nil, List.length_append]; omega) | (simp only [List.all_cons, List.all_nil, one_bool, one_int, one_str, one_ptr, one_nilptr, one_slice, one_eslice, one_nilslice, one_func, one_iface, one_niliface, Bool.and_true, Bool.true_and, List.getD_cons_zero, List.getD_cons_succ, List.contains_cons, List.contains_nil, Bool.or_true, Bool.true_or, Bool.or_false, Bool.false_or, Nat.reduceBEq, *]; done) | fail)) only [vf1, vb1, go_sem, Hold.p, HoldK.k, HoldL.K, HoldL.body, Nat.reduceBEq, Nat.reduceAdd, reduceIte]
      generalize hq_g4 : IH.push g3 (IObj.rows [[.int .i64 ((valD (first.drop 6) : Nat) : Int), vf, vb]] 81 3 false) = g4
      have e_g4 : Ext g3 g4 := by rw [← hq_g4]; exact (Ext.refl _).push _
      have l_g4 : g4.n = g3.n + 1 := by rw [← hq_g4]; rfl
      have b4 : At g4 g3.n (IObj.rows [[.int .i64 ((valD (first.drop 6) : Nat) : Int), vf, vb]] 81 3 false) := by rw [← hq_g4]; exact At.new _ _
      clear hq_g4
      have b := b.ext e_g4
      have b2 := b2.ext e_g4
      have o := o.ext e_g4
      have of_ := of_.ext e_g4
      have ob := ob.ext e_g4
      have q2 := b2.eq
      have q4 := b4.eq
      have w1 : wr .i64 ((at_ : Int) + (size : Int)) = ((at_ + size : Nat) : Int) := by rw [wr64 _ (by omega)]; omega
      try simp (disch := (first | omega | assumption | (simp only [push_n, set_n, put_n, List.length_cons, List.length_nil, List.length_append, Nat.reduceAdd]; done) | (simp only [push_n, set_n, put_n, List.length_cons, List.length_nil, List.length_append]; omega) | (simp only [List.all_cons, List.all_nil, one_bool, one_int, one_str, one_ptr, one_nilptr, one_slice, one_eslice, one_nilslice, one_func, one_iface, one_niliface, Bool.and_true, Bool.true_and, List.getD_cons_zero, List.getD_cons_succ, List.contains_cons, List.contains_nil, Bool.or_true, Bool.true_or, Bool.or_false, Bool.false_or, Nat.reduceBEq, *]; done) | fail)) only [i7, q4, q2, vf1, vb1, go_sem, Hold.p, HoldK.k, HoldL.K, HoldL.body, Nat.reduceBEq, Nat.reduceAdd, reduceIte]
      generalize hq_g5 : IH.push g4 (IObj.rows [[.int .i64 ((valD (first.drop 6) : Nat) : Int), vf, vb]] 81 3 false) = g5
      have e_g5 : Ext g4 g5 := by rw [← hq_g5]; exact (Ext.refl _).push _
      have l_g5 : g5.n = g4.n + 1 := by rw [← hq_g5]; rfl
      have b5 : At g5 g4.n (IObj.rows [[.int .i64 ((valD (first.drop 6) : Nat) : Int), vf, vb]] 81 3 false) := by rw [← hq_g5]; exact At.new _ _
      clear hq_g5
      have b := b.ext e_g5
      have b2 := b2.ext e_g5
      have o := o.ext e_g5
      have of_ := of_.ext e_g5
      have ob := ob.ext e_g5
      have q2 := b2.eq
      have q5 := b5.eq
      try simp (disch := (first | omega | assumption | (simp only [push_n, set_n, put_n, List.length_cons, List.length_nil, List.length_append, Nat.reduceAdd]; done) | (simp only [push_n, set_n, put_n, List.length_cons, List.length_nil, List.length_append]; omega) | (simp only [List.all_cons, List.all_nil, one_bool, one_int, one_str, one_ptr, one_nilptr, one_slice, one_eslice, one_nilslice, one_func, one_iface, one_niliface, Bool.and_true, Bool.true_and, List.getD_cons_zero, List.getD_cons_succ, List.contains_cons, List.contains_nil, Bool.or_true, Bool.true_or, Bool.or_false, Bool.false_or, Nat.reduceBEq, *]; done) | fail)) only [i7, q5, q2, vf1, vb1, go_sem, Hold.p, HoldK.k, HoldL.K, HoldL.body, Nat.reduceBEq, Nat.reduceAdd, reduceIte]
      have hx := rep_ow ((valD (first.drop 6) : Nat) : Int) of_ ob m1 m2 (show g1.n ≤ g5.n by omega)
      refine Ow.app (lo' := h.n + 1) o hx (.inl hig) (by omega) (by omega) (by omega) (by rw [List.length_map]; omega) ?_
      intro v6 h6 o6 t6 n6 v6o v6c
      have b := b.trn t6 (.inl (by omega))
      have b2 := b2.trn t6 (.inr (by omega))
      have q2 := b2.eq
      have E6 := (((((E.trans E1).trans e_g2).trans E3).trans e_g4).trans e_g5).trn t6 (by omega)
      simp (disch := (first | omega | assumption | (simp only [push_n, set_n, put_n, List.length_cons, List.length_nil, List.length_append, Nat.reduceAdd]; done) | (simp only [push_n, set_n, put_n, List.length_cons, List.length_nil, List.length_append]; omega) | (simp only [List.all_cons, List.all_nil, one_bool, one_int, one_str, one_ptr, one_nilptr, one_slice, one_eslice, one_nilslice, one_func, one_iface, one_niliface, Bool.and_true, Bool.true_and, List.getD_cons_zero, List.getD_cons_succ, List.contains_cons, List.contains_nil, Bool.or_true, Bool.true_or, Bool.or_false, Bool.false_or, Nat.reduceBEq, *]; done) | fail)) only [i0, i3, i8, q2, w1, go_sem, Hold.p, HoldK.k, HoldL.K, HoldL.body, Nat.reduceBEq, Nat.reduceAdd, reduceIte]
      refine ⟨_, ?_, at_ + size, acc ++ [(first, fs, body)], v6, h.n + 1, h6.n, rfl, by omega, rfl, rfl, by simp; omega, hres, b, ?_, Nat.le_refl _, by omega, E6⟩
      · omega
      · rw [List.map_append]; exact o6
end
end Go.Proofs.YtdpaehdolhdjdaaDoor

set_option maxRecDepth 20000
namespace Go.Proofs.YtdpaehdolhdjdaaDoor
open Go Go.IW
section
attribute [local go_sem] List.getElem?_cons_zero List.getElem?_cons_succ Option.bind_some List.map_cons List.map_nil Nat.zero_add if_true List.getD_cons_zero List.getD_cons_succ List.contains_cons List.contains_nil Bool.or_true Bool.true_or Bool.or_false Bool.false_or Bool.not_true Bool.not_false true_and and_true rowA_whole mid_get stO_mid rowO_rows cellO_rows push_n set_n push_at push_old set_here set_there set_pushT set_pushN set_set upd_ne Nat.add_assoc Nat.add_zero stO_1s stO_ws boxA_s List.all_cons List.all_nil one_bool one_int one_str one_ptr one_nilptr one_slice one_eslice one_nilslice one_func one_iface one_niliface Bool.and_true Bool.and_self List.length_cons List.length_nil Nat.one_ne_zero Nat.succ_ne_zero if_false List.set_cons_zero List.set_cons_succ lay_nil lay_1 lay_w Option.map_some

theorem implReadReplies_c (mx : mxOn = true) (h : IH) (v : IV) (bs : Txt) (hs : SlR h 1 v (strRows bs)) (hl : bs.length ≤ 1048576) :
    ICalls Tryd.prog 10 [v] h fun r h' => ReadRes h h' 81 t_Reply repOf r (readB false bs) ∧ Ext h h' := by
  refine icalls (.of ok10) (Nat.le_of_ble_eq_true rfl) ?_
  unfold c10
  simp (disch := (first | omega | assumption | (simp only [push_n, set_n, put_n, List.length_cons, List.length_nil, List.length_append, Nat.reduceAdd]; done) | (simp only [push_n, set_n, put_n, List.length_cons, List.length_nil, List.length_append]; omega) | (simp only [List.all_cons, List.all_nil, one_bool, one_int, one_str, one_ptr, one_nilptr, one_slice, one_eslice, one_nilslice, one_func, one_iface, one_niliface, Bool.and_true, Bool.true_and, List.getD_cons_zero, List.getD_cons_succ, List.contains_cons, List.contains_nil, Bool.or_true, Bool.true_or, Bool.or_false, Bool.false_or, Nat.reduceBEq, *]; done) | fail)) only [go_sem, Hold.p, HoldK.k, HoldL.K, HoldL.body, Nat.reduceBEq, Nat.reduceAdd, reduceIte]
  refine callA_of (readAllRep_c mx h v bs hs hl) ?_
  rintro r g ⟨⟨vl, rfl, o⟩, E⟩
  simp (disch := (first | omega | assumption | (simp only [push_n, set_n, put_n, List.length_cons, List.length_nil, List.length_append, Nat.reduceAdd]; done) | (simp only [push_n, set_n, put_n, List.length_cons, List.length_nil, List.length_append]; omega) | (simp only [List.all_cons, List.all_nil, one_bool, one_int, one_str, one_ptr, one_nilptr, one_slice, one_eslice, one_nilslice, one_func, one_iface, one_niliface, Bool.and_true, Bool.true_and, List.getD_cons_zero, List.getD_cons_succ, List.contains_cons, List.contains_nil, Bool.or_true, Bool.true_or, Bool.or_false, Bool.false_or, Nat.reduceBEq, *]; done) | fail)) only [go_sem, Hold.p, HoldK.k, HoldL.K, HoldL.body, Nat.reduceBEq, Nat.reduceAdd, reduceIte]
  exact ⟨⟨vl, rfl, o⟩, E⟩

theorem u8_ten (x : UInt8) : decide ((x.toNat : Int) = 10) = decide (x = 10) := u8_dec x 10
theorem l20Head_c (h : IH) (v : IV) (bs : Txt) (hs : SlR h 1 v (strRows bs)) (hl : bs.length ≤ 1048576) :
    ICalls Tryd.prog 106 [v] h fun r h' => r = .int .i64 (headI bs) ∧ h' = h := by
  refine icalls (.of ok106) (Nat.le_of_ble_eq_true rfl) ?_
  unfold c106
  have hlen := hs.lenF
  rw [strRows_len] at hlen
  simp (disch := (first | omega | assumption | (simp only [push_n, set_n, put_n, List.length_cons, List.length_nil, List.length_append, Nat.reduceAdd]; done) | (simp only [push_n, set_n, put_n, List.length_cons, List.length_nil, List.length_append]; omega) | (simp only [List.all_cons, List.all_nil, one_bool, one_int, one_str, one_ptr, one_nilptr, one_slice, one_eslice, one_nilslice, one_func, one_iface, one_niliface, Bool.and_true, Bool.true_and, List.getD_cons_zero, List.getD_cons_succ, List.contains_cons, List.contains_nil, Bool.or_true, Bool.true_or, Bool.or_false, Bool.false_or, Nat.reduceBEq, *]; done) | fail)) only [go_sem, Hold.p, HoldK.k, HoldL.K, HoldL.body, Nat.reduceBEq, Nat.reduceAdd, reduceIte]
  refine loop_at (fun m e g => ∃ k : Nat, m = bs.length - k ∧ k ≤ bs.length ∧ k ≤ 8000 ∧ e 0 = v ∧ e 3 = .int .i64 (k : Nat) ∧ (∀ j, j < k → ¬ hitB bs j) ∧ g = h) bs.length ?_ ?_
  · refine ⟨0, by omega, by omega, by omega, ?_⟩
    simp (disch := (first | omega | assumption | (simp only [push_n, set_n, put_n, List.length_cons, List.length_nil, List.length_append, Nat.reduceAdd]; done) | (simp only [push_n, set_n, put_n, List.length_cons, List.length_nil, List.length_append]; omega) | (simp only [List.all_cons, List.all_nil, one_bool, one_int, one_str, one_ptr, one_nilptr, one_slice, one_eslice, one_nilslice, one_func, one_iface, one_niliface, Bool.and_true, Bool.true_and, List.getD_cons_zero, List.getD_cons_succ, List.contains_cons, List.contains_nil, Bool.or_true, Bool.true_or, Bool.or_false, Bool.false_or, Nat.reduceBEq, *]; done) | fail)) only [go_sem, Hold.p, HoldK.k, HoldL.K, HoldL.body, Nat.reduceBEq, Nat.reduceAdd, reduceIte]
    exact ⟨rfl, fun j hj => by omega⟩
  · rintro m e g ⟨k, rfl, hk, hk8, i0, i3, hno, rfl⟩
    simp (disch := (first | omega | assumption | (simp only [push_n, set_n, put_n, List.length_cons, List.length_nil, List.length_append, Nat.reduceAdd]; done) | (simp only [push_n, set_n, put_n, List.length_cons, List.length_nil, List.length_append]; omega) | (simp only [List.all_cons, List.all_nil, one_bool, one_int, one_str, one_ptr, one_nilptr, one_slice, one_eslice, one_nilslice, one_func, one_iface, one_niliface, Bool.and_true, Bool.true_and, List.getD_cons_zero, List.getD_cons_succ, List.contains_cons, List.contains_nil, Bool.or_true, Bool.true_or, Bool.or_false, Bool.false_or, Nat.reduceBEq, *]; done) | fail)) only [i0, i3, hlen, go_sem, Hold.p, HoldK.k, HoldL.K, HoldL.body, Nat.reduceBEq, Nat.reduceAdd, reduceIte]
    refine test_of (fun hb => ?_) (fun hb => ?_)
    · have hb' : k < bs.length ∧ k < 8000 := by
        simp only [Bool.and_eq_true, decide_eq_true_eq] at hb
        omega
      obtain ⟨x, hx⟩ : ∃ b, bs[k]? = some b := ⟨_, List.getElem?_eq_getElem hb'.1⟩
      obtain ⟨l, j, hia, hll, hrow⟩ := hs.at (m := k) (strRows_at hx) .i64
      have hcl := cellO_row hrow
      have w1 : wr .i64 ((k : Int) + 1) = ((k + 1 : Nat) : Int) := by rw [wr64 _ (by omega)]; rfl
      have hret : hitB bs k → headI bs = (k : Int) + 1 := fun hh => head_hit hno hh hb'.2
      by_cases h10 : x = 10
      · have d1 : decide ((x.toNat : Int) = 10) = true := by rw [u8_ten]; exact decide_eq_true h10
        subst h10
        by_cases hz : k = 0
        · subst hz
          have d2 : decide ((((0 : Nat) : Int)) = 0) = true := rfl
          have hh := hret ⟨hx, .inl rfl⟩
          simp (disch := (first | omega | assumption | (simp only [push_n, set_n, put_n, List.length_cons, List.length_nil, List.length_append, Nat.reduceAdd]; done) | (simp only [push_n, set_n, put_n, List.length_cons, List.length_nil, List.length_append]; omega) | (simp only [List.all_cons, List.all_nil, one_bool, one_int, one_str, one_ptr, one_nilptr, one_slice, one_eslice, one_nilslice, one_func, one_iface, one_niliface, Bool.and_true, Bool.true_and, List.getD_cons_zero, List.getD_cons_succ, List.contains_cons, List.contains_nil, Bool.or_true, Bool.true_or, Bool.or_false, Bool.false_or, Nat.reduceBEq, *]; done) | fail)) only [i0, i3, hia, hcl, d1, d2, w1, go_sem, Hold.p, HoldK.k, HoldL.K, HoldL.body, Nat.reduceBEq, Nat.reduceAdd, reduceIte]
          rw [hh]; rfl
        · have d2 : decide ((k : Int) = 0) = false := decide_eq_false (by omega)
          have w2 : wr .i64 ((k : Int) - 1) = ((k - 1 : Nat) : Int) := by rw [wr64 _ (by omega)]; omega
          obtain ⟨y, hy⟩ : ∃ b, bs[k - 1]? = some b := ⟨_, List.getElem?_eq_getElem (by omega)⟩
          obtain ⟨l2, j2, hia2, hll2, hrow2⟩ := hs.at (m := k - 1) (strRows_at hy) .i64
          have hcl2 := cellO_row hrow2
          simp (disch := (first | omega | assumption | (simp only [push_n, set_n, put_n, List.length_cons, List.length_nil, List.length_append, Nat.reduceAdd]; done) | (simp only [push_n, set_n, put_n, List.length_cons, List.length_nil, List.length_append]; omega) | (simp only [List.all_cons, List.all_nil, one_bool, one_int, one_str, one_ptr, one_nilptr, one_slice, one_eslice, one_nilslice, one_func, one_iface, one_niliface, Bool.and_true, Bool.true_and, List.getD_cons_zero, List.getD_cons_succ, List.contains_cons, List.contains_nil, Bool.or_true, Bool.true_or, Bool.or_false, Bool.false_or, Nat.reduceBEq, *]; done) | fail)) only [i0, i3, hia, hcl, d1, d2, w2, hia2, hcl2, go_sem, Hold.p, HoldK.k, HoldL.K, HoldL.body, Nat.reduceBEq, Nat.reduceAdd, reduceIte]
          refine test_dec (fun hc => ?_) (fun hc => ?_)
          · have hy10 : y = 10 := UInt8.toNat_inj.1 (by show y.toNat = 10; omega)
            have hh := hret ⟨hx, .inr (by rw [hy, hy10])⟩
            simp (disch := (first | omega | assumption | (simp only [push_n, set_n, put_n, List.length_cons, List.length_nil, List.length_append, Nat.reduceAdd]; done) | (simp only [push_n, set_n, put_n, List.length_cons, List.length_nil, List.length_append]; omega) | (simp only [List.all_cons, List.all_nil, one_bool, one_int, one_str, one_ptr, one_nilptr, one_slice, one_eslice, one_nilslice, one_func, one_iface, one_niliface, Bool.and_true, Bool.true_and, List.getD_cons_zero, List.getD_cons_succ, List.contains_cons, List.contains_nil, Bool.or_true, Bool.true_or, Bool.or_false, Bool.false_or, Nat.reduceBEq, *]; done) | fail)) only [i3, w1, go_sem, Hold.p, HoldK.k, HoldL.K, HoldL.body, Nat.reduceBEq, Nat.reduceAdd, reduceIte]
            rw [hh]; rfl
          · simp (disch := (first | omega | assumption | (simp only [push_n, set_n, put_n, List.length_cons, List.length_nil, List.length_append, Nat.reduceAdd]; done) | (simp only [push_n, set_n, put_n, List.length_cons, List.length_nil, List.length_append]; omega) | (simp only [List.all_cons, List.all_nil, one_bool, one_int, one_str, one_ptr, one_nilptr, one_slice, one_eslice, one_nilslice, one_func, one_iface, one_niliface, Bool.and_true, Bool.true_and, List.getD_cons_zero, List.getD_cons_succ, List.contains_cons, List.contains_nil, Bool.or_true, Bool.true_or, Bool.or_false, Bool.false_or, Nat.reduceBEq, *]; done) | fail)) only [i0, i3, w1, go_sem, Hold.p, HoldK.k, HoldL.K, HoldL.body, Nat.reduceBEq, Nat.reduceAdd, reduceIte]
            refine ⟨_, ?_, k + 1, rfl, by omega, by omega, rfl, fun j hj => ?_⟩
            · omega
            · rcases Nat.lt_or_ge j k with h' | h'
              · exact hno j h'
              · have : j = k := by omega
                subst this
                rintro ⟨_, e | e⟩
                · exact hz e
                · rw [hy] at e; cases e; exact hc rfl
      · have d1 : decide ((x.toNat : Int) = 10) = false := by rw [u8_ten]; exact decide_eq_false h10
        simp (disch := (first | omega | assumption | (simp only [push_n, set_n, put_n, List.length_cons, List.length_nil, List.length_append, Nat.reduceAdd]; done) | (simp only [push_n, set_n, put_n, List.length_cons, List.length_nil, List.length_append]; omega) | (simp only [List.all_cons, List.all_nil, one_bool, one_int, one_str, one_ptr, one_nilptr, one_slice, one_eslice, one_nilslice, one_func, one_iface, one_niliface, Bool.and_true, Bool.true_and, List.getD_cons_zero, List.getD_cons_succ, List.contains_cons, List.contains_nil, Bool.or_true, Bool.true_or, Bool.or_false, Bool.false_or, Nat.reduceBEq, *]; done) | fail)) only [i0, i3, hia, hcl, d1, w1, go_sem, Hold.p, HoldK.k, HoldL.K, HoldL.body, Nat.reduceBEq, Nat.reduceAdd, reduceIte]
        refine ⟨_, ?_, k + 1, rfl, by omega, by omega, rfl, fun j hj => ?_⟩
        · omega
        · rcases Nat.lt_or_ge j k with h' | h'
          · exact hno j h'
          · have : j = k := by omega
            subst this
            rintro ⟨e, _⟩
            rw [hx] at e; cases e; exact h10 rfl
    · have hnone := head_none (b := bs) fun j h1 h2 => by
        refine hno j ?_
        simp only [Bool.and_eq_false_iff, decide_eq_false_iff_not] at hb
        omega
      have hh : headI bs = if 8000 ≤ bs.length then -1 else 0 := by
        unfold headI
        rw [if_neg hnone.1, hnone.2, if_neg (by omega)]
      simp (disch := (first | omega | assumption | (simp only [push_n, set_n, put_n, List.length_cons, List.length_nil, List.length_append, Nat.reduceAdd]; done) | (simp only [push_n, set_n, put_n, List.length_cons, List.length_nil, List.length_append]; omega) | (simp only [List.all_cons, List.all_nil, one_bool, one_int, one_str, one_ptr, one_nilptr, one_slice, one_eslice, one_nilslice, one_func, one_iface, one_niliface, Bool.and_true, Bool.true_and, List.getD_cons_zero, List.getD_cons_succ, List.contains_cons, List.contains_nil, Bool.or_true, Bool.true_or, Bool.or_false, Bool.false_or, Nat.reduceBEq, *]; done) | fail)) only [i0, hlen, go_sem, Hold.p, HoldK.k, HoldL.K, HoldL.body, Nat.reduceBEq, Nat.reduceAdd, reduceIte]
      refine test_dec (fun hc => ?_) (fun hc => ?_)
      · simp (disch := (first | omega | assumption | (simp only [push_n, set_n, put_n, List.length_cons, List.length_nil, List.length_append, Nat.reduceAdd]; done) | (simp only [push_n, set_n, put_n, List.length_cons, List.length_nil, List.length_append]; omega) | (simp only [List.all_cons, List.all_nil, one_bool, one_int, one_str, one_ptr, one_nilptr, one_slice, one_eslice, one_nilslice, one_func, one_iface, one_niliface, Bool.and_true, Bool.true_and, List.getD_cons_zero, List.getD_cons_succ, List.contains_cons, List.contains_nil, Bool.or_true, Bool.true_or, Bool.or_false, Bool.false_or, Nat.reduceBEq, *]; done) | fail)) only [go_sem, Hold.p, HoldK.k, HoldL.K, HoldL.body, Nat.reduceBEq, Nat.reduceAdd, reduceIte]
        rw [hh, if_pos (by omega)]
      · simp (disch := (first | omega | assumption | (simp only [push_n, set_n, put_n, List.length_cons, List.length_nil, List.length_append, Nat.reduceAdd]; done) | (simp only [push_n, set_n, put_n, List.length_cons, List.length_nil, List.length_append]; omega) | (simp only [List.all_cons, List.all_nil, one_bool, one_int, one_str, one_ptr, one_nilptr, one_slice, one_eslice, one_nilslice, one_func, one_iface, one_niliface, Bool.and_true, Bool.true_and, List.getD_cons_zero, List.getD_cons_succ, List.contains_cons, List.contains_nil, Bool.or_true, Bool.true_or, Bool.or_false, Bool.false_or, Nat.reduceBEq, *]; done) | fail)) only [go_sem, Hold.p, HoldK.k, HoldL.K, HoldL.body, Nat.reduceBEq, Nat.reduceAdd, reduceIte]
        rw [hh, if_neg (by omega)]
theorem l20First_c (h : IH) (s : Txt) (req : Bool) (hl : s.length ≤ 1048576) :
    ICalls Tryd.prog 108 [.str s, .bool req] h fun r h' => r = .bool (firstB req s) ∧ Ext h h' := by
  refine icalls (.of ok108) (Nat.le_of_ble_eq_true rfl) ?_
  unfold c108
  simp (disch := (first | omega | assumption | (simp only [push_n, set_n, put_n, List.length_cons, List.length_nil, List.length_append, Nat.reduceAdd]; done) | (simp only [push_n, set_n, put_n, List.length_cons, List.length_nil, List.length_append]; omega) | (simp only [List.all_cons, List.all_nil, one_bool, one_int, one_str, one_ptr, one_nilptr, one_slice, one_eslice, one_nilslice, one_func, one_iface, one_niliface, Bool.and_true, Bool.true_and, List.getD_cons_zero, List.getD_cons_succ, List.contains_cons, List.contains_nil, Bool.or_true, Bool.true_or, Bool.or_false, Bool.false_or, Nat.reduceBEq, *]; done) | fail)) only [go_sem, Hold.p, HoldK.k, HoldL.K, HoldL.body, Nat.reduceBEq, Nat.reduceAdd, reduceIte]
  refine callA_of (l02Cut_c h s 32 hl) ?_
  rintro r g ⟨hr, E⟩
  rw [← first_eq]
  have hpl : ∀ q ∈ cutAt 32 s, q.length ≤ 1048576 := fun q hq => by have := piece_len 32 s q hq; omega
  generalize hps : cutAt 32 s = ps at hr hpl
  have hlen := hr.lenF
  rw [List.length_map] at hlen
  by_cases h2 : ps.length = 2
  · have d2 : decide ((ps.length : Int) = 2) = true := decide_eq_true (by omega)
    match ps, h2 with
    | [a, b], _ =>
      obtain ⟨l, j, hia, hll, hrow⟩ := hr.at (m := 0) (row := sRow a) rfl .i64
      have hia : iadrF g 1 r (.int .i64 0) = some (.ptr l j 0) := hia
      have hcl : cellO (g.obj l) j 0 = some (.str a) := by rw [cellO_row hrow]; rfl
      obtain ⟨l2, j2, hib, hll2, hrow2⟩ := hr.at (m := 1) (row := sRow b) rfl .i64
      have hib : iadrF g 1 r (.int .i64 1) = some (.ptr l2 j2 0) := hib
      have hcl2 : cellO (g.obj l2) j2 0 = some (.str b) := by rw [cellO_row hrow2]; rfl
      have hal := hpl a (by simp)
      have hbl := hpl b (by simp)
      have d3 : decide (((2 : Nat) : Int) = 2) = true := rfl
      have hlen : lenF r = some (.int .i64 ((2 : Nat) : Int)) := hlen
      cases req with
      | true =>
        simp (disch := (first | omega | assumption | (simp only [push_n, set_n, put_n, List.length_cons, List.length_nil, List.length_append, Nat.reduceAdd]; done) | (simp only [push_n, set_n, put_n, List.length_cons, List.length_nil, List.length_append]; omega) | (simp only [List.all_cons, List.all_nil, one_bool, one_int, one_str, one_ptr, one_nilptr, one_slice, one_eslice, one_nilslice, one_func, one_iface, one_niliface, Bool.and_true, Bool.true_and, List.getD_cons_zero, List.getD_cons_succ, List.contains_cons, List.contains_nil, Bool.or_true, Bool.true_or, Bool.or_false, Bool.false_or, Nat.reduceBEq, *]; done) | fail)) only [hlen, d3, hia, hcl, go_sem, Hold.p, HoldK.k, HoldL.K, HoldL.body, Nat.reduceBEq, Nat.reduceAdd, reduceIte]
        refine callA_of (verbOK_c g a) ?_
        rintro r2 g2 ⟨rfl, rfl⟩
        cases hv : verbB a with
        | false =>
          simp (disch := (first | omega | assumption | (simp only [push_n, set_n, put_n, List.length_cons, List.length_nil, List.length_append, Nat.reduceAdd]; done) | (simp only [push_n, set_n, put_n, List.length_cons, List.length_nil, List.length_append]; omega) | (simp only [List.all_cons, List.all_nil, one_bool, one_int, one_str, one_ptr, one_nilptr, one_slice, one_eslice, one_nilslice, one_func, one_iface, one_niliface, Bool.and_true, Bool.true_and, List.getD_cons_zero, List.getD_cons_succ, List.contains_cons, List.contains_nil, Bool.or_true, Bool.true_or, Bool.or_false, Bool.false_or, Nat.reduceBEq, *]; done) | fail)) only [hib, hcl2, go_sem, Hold.p, HoldK.k, HoldL.K, HoldL.body, Nat.reduceBEq, Nat.reduceAdd, reduceIte]
          refine ⟨?_, E⟩
          simp [firstS, hv]
        | true =>
          simp (disch := (first | omega | assumption | (simp only [push_n, set_n, put_n, List.length_cons, List.length_nil, List.length_append, Nat.reduceAdd]; done) | (simp only [push_n, set_n, put_n, List.length_cons, List.length_nil, List.length_append]; omega) | (simp only [List.all_cons, List.all_nil, one_bool, one_int, one_str, one_ptr, one_nilptr, one_slice, one_eslice, one_nilslice, one_func, one_iface, one_niliface, Bool.and_true, Bool.true_and, List.getD_cons_zero, List.getD_cons_succ, List.contains_cons, List.contains_nil, Bool.or_true, Bool.true_or, Bool.or_false, Bool.false_or, Nat.reduceBEq, *]; done) | fail)) only [hib, hcl2, go_sem, Hold.p, HoldK.k, HoldL.K, HoldL.body, Nat.reduceBEq, Nat.reduceAdd, reduceIte]
          refine callA_of (specPathOK_c g2 b hbl) ?_
          rintro r3 g3 ⟨rfl, rfl⟩
          simp (disch := (first | omega | assumption | (simp only [push_n, set_n, put_n, List.length_cons, List.length_nil, List.length_append, Nat.reduceAdd]; done) | (simp only [push_n, set_n, put_n, List.length_cons, List.length_nil, List.length_append]; omega) | (simp only [List.all_cons, List.all_nil, one_bool, one_int, one_str, one_ptr, one_nilptr, one_slice, one_eslice, one_nilslice, one_func, one_iface, one_niliface, Bool.and_true, Bool.true_and, List.getD_cons_zero, List.getD_cons_succ, List.contains_cons, List.contains_nil, Bool.or_true, Bool.true_or, Bool.or_false, Bool.false_or, Nat.reduceBEq, *]; done) | fail)) only [go_sem, Hold.p, HoldK.k, HoldL.K, HoldL.body, Nat.reduceBEq, Nat.reduceAdd, reduceIte]
          refine ⟨?_, E⟩
          simp [firstS, hv]
      | false =>
        simp (disch := (first | omega | assumption | (simp only [push_n, set_n, put_n, List.length_cons, List.length_nil, List.length_append, Nat.reduceAdd]; done) | (simp only [push_n, set_n, put_n, List.length_cons, List.length_nil, List.length_append]; omega) | (simp only [List.all_cons, List.all_nil, one_bool, one_int, one_str, one_ptr, one_nilptr, one_slice, one_eslice, one_nilslice, one_func, one_iface, one_niliface, Bool.and_true, Bool.true_and, List.getD_cons_zero, List.getD_cons_succ, List.contains_cons, List.contains_nil, Bool.or_true, Bool.true_or, Bool.or_false, Bool.false_or, Nat.reduceBEq, *]; done) | fail)) only [hlen, d3, hib, hcl2, go_sem, Hold.p, HoldK.k, HoldL.K, HoldL.body, Nat.reduceBEq, Nat.reduceAdd, reduceIte]
        refine callA_of (l02Number_c g b 3 (by omega) hbl) ?_
        rintro r2 g2 ⟨⟨n, rfl, hn⟩, E2⟩
        have hr := hr.ext E2
        have le_E2 := E2.le
        have hia := iadr_same hia (E2.obj l hll)
        have hcl : cellO (g2.obj l) j 0 = some (.str a) := by rw [E2.obj l hll]; exact hcl
        simp (disch := (first | omega | assumption | (simp only [push_n, set_n, put_n, List.length_cons, List.length_nil, List.length_append, Nat.reduceAdd]; done) | (simp only [push_n, set_n, put_n, List.length_cons, List.length_nil, List.length_append]; omega) | (simp only [List.all_cons, List.all_nil, one_bool, one_int, one_str, one_ptr, one_nilptr, one_slice, one_eslice, one_nilslice, one_func, one_iface, one_niliface, Bool.and_true, Bool.true_and, List.getD_cons_zero, List.getD_cons_succ, List.contains_cons, List.contains_nil, Bool.or_true, Bool.true_or, Bool.or_false, Bool.false_or, Nat.reduceBEq, *]; done) | fail)) only [hia, hcl, go_sem, Hold.p, HoldK.k, HoldL.K, HoldL.body, Nat.reduceBEq, Nat.reduceAdd, reduceIte]
        refine ⟨?_, E.trans E2⟩
        congr 1
        simp only [firstS, Bool.false_eq_true, if_false, statB]
        cases hd : decOk b 3 with
        | false => simp
        | true =>
          rw [hn hd]
          simp only [Bool.and_true, Bool.true_and]
          show (decide (a = replyP) && decide ((100 : Int) ≤ (valD b : Int))) = _
          congr 1
          rw [Bool.eq_iff_iff]
          simp only [decide_eq_true_eq]
          omega
  · have d2 : decide ((ps.length : Int) = 2) = false := decide_eq_false (by omega)
    simp (disch := (first | omega | assumption | (simp only [push_n, set_n, put_n, List.length_cons, List.length_nil, List.length_append, Nat.reduceAdd]; done) | (simp only [push_n, set_n, put_n, List.length_cons, List.length_nil, List.length_append]; omega) | (simp only [List.all_cons, List.all_nil, one_bool, one_int, one_str, one_ptr, one_nilptr, one_slice, one_eslice, one_nilslice, one_func, one_iface, one_niliface, Bool.and_true, Bool.true_and, List.getD_cons_zero, List.getD_cons_succ, List.contains_cons, List.contains_nil, Bool.or_true, Bool.true_or, Bool.or_false, Bool.false_or, Nat.reduceBEq, *]; done) | fail)) only [hlen, d2, go_sem, Hold.p, HoldK.k, HoldL.K, HoldL.body, Nat.reduceBEq, Nat.reduceAdd, reduceIte]
    refine ⟨?_, E⟩
    congr 1
    match ps, h2 with
    | [], _ => rfl
    | [_], _ => rfl
    | [_, _], h => exact absurd rfl h
    | _ :: _ :: _ :: _, _ => rfl
end
end Go.Proofs.YtdpaehdolhdjdaaDoor

set_option maxRecDepth 20000
namespace Go.Proofs.YtdpaehdolhdjdaaDoor
open Go Go.IW
section
attribute [local go_sem] List.getElem?_cons_zero List.getElem?_cons_succ Option.bind_some List.map_cons List.map_nil Nat.zero_add if_true List.getD_cons_zero List.getD_cons_succ List.contains_cons List.contains_nil Bool.or_true Bool.true_or Bool.or_false Bool.false_or Bool.not_true Bool.not_false true_and and_true rowA_whole mid_get stO_mid rowO_rows cellO_rows push_n set_n push_at push_old set_here set_there set_pushT set_pushN set_set upd_ne Nat.add_assoc Nat.add_zero stO_1s stO_ws boxA_s List.all_cons List.all_nil one_bool one_int one_str one_ptr one_nilptr one_slice one_eslice one_nilslice one_func one_iface one_niliface Bool.and_true Bool.and_self List.length_cons List.length_nil Nat.one_ne_zero Nat.succ_ne_zero if_false List.set_cons_zero List.set_cons_succ lay_nil lay_1 lay_w Option.map_some

abbrev gotObj (first : Txt) (v : IV) (n : Int) (w : IV) : IObj := .rows [[.str first, v, .int .i64 n, w]] 77 4 false
def LinesRes (h h' : IH) (r : IV) (first : Txt) : Option (List Fld × Nat) → Prop
  | none => ∃ c0 c1 c2 c3, r = .tuple [.agg [c0, c1, c2, c3], .bool false] ∧ c0.one = true ∧ c1.one = true ∧ c2.one = true ∧ c3.one = true
  | some (fs, n) => ∃ vf, r = .tuple [.agg [.str first, vf, .int .i64 (n : Nat), .nilslice], .bool true] ∧ Own h.n h'.n h' 163 2 vf (fldRows fs)
theorem l20Lines_short (h : IH) (s : Txt) (hl : s.length ≤ 1048576) (hc : (cutAt 10 s).length < 3) :
    ICalls Tryd.prog 107 [.str s] h fun r h' => LinesRes h h' r [] none ∧ Ext h h' := by
  refine icalls (.of ok107) (Nat.le_of_ble_eq_true rfl) ?_
  unfold c107
  simp (disch := (first | omega | assumption | (simp only [push_n, set_n, put_n, List.length_cons, List.length_nil, List.length_append, Nat.reduceAdd]; done) | (simp only [push_n, set_n, put_n, List.length_cons, List.length_nil, List.length_append]; omega) | (simp only [List.all_cons, List.all_nil, one_bool, one_int, one_str, one_ptr, one_nilptr, one_slice, one_eslice, one_nilslice, one_func, one_iface, one_niliface, Bool.and_true, Bool.true_and, List.getD_cons_zero, List.getD_cons_succ, List.contains_cons, List.contains_nil, Bool.or_true, Bool.true_or, Bool.or_false, Bool.false_or, Nat.reduceBEq, *]; done) | fail)) only [go_sem, Hold.p, HoldK.k, HoldL.K, HoldL.body, Nat.reduceBEq, Nat.reduceAdd, reduceIte]
  generalize hq_g0 : IH.push h (gotObj [] .nilslice 0 .nilslice) = g0
  have e_g0 : Ext h g0 := by rw [← hq_g0]; exact (Ext.refl _).push _
  have l_g0 : g0.n = h.n + 1 := by rw [← hq_g0]; rfl
  have b0 : At g0 h.n (gotObj [] .nilslice 0 .nilslice) := by rw [← hq_g0]; exact At.new _ _
  clear hq_g0
  try simp (disch := (first | omega | assumption | (simp only [push_n, set_n, put_n, List.length_cons, List.length_nil, List.length_append, Nat.reduceAdd]; done) | (simp only [push_n, set_n, put_n, List.length_cons, List.length_nil, List.length_append]; omega) | (simp only [List.all_cons, List.all_nil, one_bool, one_int, one_str, one_ptr, one_nilptr, one_slice, one_eslice, one_nilslice, one_func, one_iface, one_niliface, Bool.and_true, Bool.true_and, List.getD_cons_zero, List.getD_cons_succ, List.contains_cons, List.contains_nil, Bool.or_true, Bool.true_or, Bool.or_false, Bool.false_or, Nat.reduceBEq, *]; done) | fail)) only [go_sem, Hold.p, HoldK.k, HoldL.K, HoldL.body, Nat.reduceBEq, Nat.reduceAdd, reduceIte]
  generalize hq_g1 : IH.push g0 (gotObj [] .nilslice 0 .nilslice) = g1
  have e_g1 : Ext g0 g1 := by rw [← hq_g1]; exact (Ext.refl _).push _
  have l_g1 : g1.n = g0.n + 1 := by rw [← hq_g1]; rfl
  have b1 : At g1 g0.n (gotObj [] .nilslice 0 .nilslice) := by rw [← hq_g1]; exact At.new _ _
  clear hq_g1
  have b0 := b0.ext e_g1
  try simp (disch := (first | omega | assumption | (simp only [push_n, set_n, put_n, List.length_cons, List.length_nil, List.length_append, Nat.reduceAdd]; done) | (simp only [push_n, set_n, put_n, List.length_cons, List.length_nil, List.length_append]; omega) | (simp only [List.all_cons, List.all_nil, one_bool, one_int, one_str, one_ptr, one_nilptr, one_slice, one_eslice, one_nilslice, one_func, one_iface, one_niliface, Bool.and_true, Bool.true_and, List.getD_cons_zero, List.getD_cons_succ, List.contains_cons, List.contains_nil, Bool.or_true, Bool.true_or, Bool.or_false, Bool.false_or, Nat.reduceBEq, *]; done) | fail)) only [go_sem, Hold.p, HoldK.k, HoldL.K, HoldL.body, Nat.reduceBEq, Nat.reduceAdd, reduceIte]
  refine callA_of (l02Cut_c g1 s 10 hl) ?_
  rintro r g2 ⟨hr, E2⟩
  have b0 := b0.ext E2
  have b1 := b1.ext E2
  have le_E2 := E2.le
  have hlen := hr.lenF
  rw [List.length_map] at hlen
  have q0 := b0.eq
  have q1 := b1.eq
  have d1 : decide (((cutAt 10 s).length : Int) < 3) = true := decide_eq_true (by omega)
  simp (disch := (first | omega | assumption | (simp only [push_n, set_n, put_n, List.length_cons, List.length_nil, List.length_append, Nat.reduceAdd]; done) | (simp only [push_n, set_n, put_n, List.length_cons, List.length_nil, List.length_append]; omega) | (simp only [List.all_cons, List.all_nil, one_bool, one_int, one_str, one_ptr, one_nilptr, one_slice, one_eslice, one_nilslice, one_func, one_iface, one_niliface, Bool.and_true, Bool.true_and, List.getD_cons_zero, List.getD_cons_succ, List.contains_cons, List.contains_nil, Bool.or_true, Bool.true_or, Bool.or_false, Bool.false_or, Nat.reduceBEq, *]; done) | fail)) only [hlen, d1, q0, q1, go_sem, Hold.p, HoldK.k, HoldL.K, HoldL.body, Nat.reduceBEq, Nat.reduceAdd, reduceIte]
  exact ⟨⟨_, _, _, _, rfl, rfl, rfl, rfl, rfl⟩, ((e_g0.trans e_g1).trans E2).set1 _ (Nat.le_refl _)⟩
def linesI (L : List Txt) (k nn : Nat) (acc : List Fld) : Prop := (nn = 0 ∧ linesF L = preF acc (linesF (L.drop k))) ∨ (k = L.length ∧ linesF L = some (acc, nn))
set_option maxHeartbeats 1000000 in
theorem l20Lines_c (h : IH) (s first : Txt) (L : List Txt) (hl : s.length ≤ 8000) (hcut : cutAt 10 s = first :: (L ++ [[], []])) :
    ICalls Tryd.prog 107 [.str s] h fun r h' => LinesRes h h' r first (hdOk L) ∧ Ext h h' := by
  refine icalls (.of ok107) (Nat.le_of_ble_eq_true rfl) ?_
  unfold c107
  have hLl : L.length ≤ 8000 := by
    have := cutAt_len 10 s
    rw [hcut] at this
    have h2 : s.count 10 ≤ s.length := List.count_le_length
    simp only [List.length_cons, List.length_append, List.length_nil] at this
    omega
  have hpl : ∀ q ∈ L, q.length ≤ 8000 := fun q hq => by
    have := piece_len 10 s q (by rw [hcut]; simp [hq])
    omega
  refine vc_split 5 (fun e g => ∃ v5 B, e 2 = .ptr h.n 0 0 ∧ e 4 = .ptr (h.n + 1) 0 0 ∧ e 5 = v5 ∧ Arg B g 1 v5 ((first :: (L ++ [[], []])).map sRow) ∧ h.n + 2 ≤ B ∧ B ≤ g.n ∧ At g h.n (gotObj [] .nilslice 0 .nilslice) ∧ At g (h.n + 1) (gotObj first .nilslice 0 .nilslice) ∧ Ext h g) ?_ ?_
  · simp only [CC.split]
    simp (disch := (first | omega | assumption | (simp only [push_n, set_n, put_n, List.length_cons, List.length_nil, List.length_append, Nat.reduceAdd]; done) | (simp only [push_n, set_n, put_n, List.length_cons, List.length_nil, List.length_append]; omega) | (simp only [List.all_cons, List.all_nil, one_bool, one_int, one_str, one_ptr, one_nilptr, one_slice, one_eslice, one_nilslice, one_func, one_iface, one_niliface, Bool.and_true, Bool.true_and, List.getD_cons_zero, List.getD_cons_succ, List.contains_cons, List.contains_nil, Bool.or_true, Bool.true_or, Bool.or_false, Bool.false_or, Nat.reduceBEq, *]; done) | fail)) only [go_sem, Hold.p, HoldK.k, HoldL.K, HoldL.body, Nat.reduceBEq, Nat.reduceAdd, reduceIte]
    generalize hq_g0 : IH.push h (gotObj [] .nilslice 0 .nilslice) = g0
    have e_g0 : Ext h g0 := by rw [← hq_g0]; exact (Ext.refl _).push _
    have l_g0 : g0.n = h.n + 1 := by rw [← hq_g0]; rfl
    have b0 : At g0 h.n (gotObj [] .nilslice 0 .nilslice) := by rw [← hq_g0]; exact At.new _ _
    clear hq_g0
    try simp (disch := (first | omega | assumption | (simp only [push_n, set_n, put_n, List.length_cons, List.length_nil, List.length_append, Nat.reduceAdd]; done) | (simp only [push_n, set_n, put_n, List.length_cons, List.length_nil, List.length_append]; omega) | (simp only [List.all_cons, List.all_nil, one_bool, one_int, one_str, one_ptr, one_nilptr, one_slice, one_eslice, one_nilslice, one_func, one_iface, one_niliface, Bool.and_true, Bool.true_and, List.getD_cons_zero, List.getD_cons_succ, List.contains_cons, List.contains_nil, Bool.or_true, Bool.true_or, Bool.or_false, Bool.false_or, Nat.reduceBEq, *]; done) | fail)) only [go_sem, Hold.p, HoldK.k, HoldL.K, HoldL.body, Nat.reduceBEq, Nat.reduceAdd, reduceIte]
    generalize hq_g1 : IH.push g0 (gotObj [] .nilslice 0 .nilslice) = g1
    have e_g1 : Ext g0 g1 := by rw [← hq_g1]; exact (Ext.refl _).push _
    have l_g1 : g1.n = g0.n + 1 := by rw [← hq_g1]; rfl
    have b1 : At g1 g0.n (gotObj [] .nilslice 0 .nilslice) := by rw [← hq_g1]; exact At.new _ _
    clear hq_g1
    have b0 := b0.ext e_g1
    try simp (disch := (first | omega | assumption | (simp only [push_n, set_n, put_n, List.length_cons, List.length_nil, List.length_append, Nat.reduceAdd]; done) | (simp only [push_n, set_n, put_n, List.length_cons, List.length_nil, List.length_append]; omega) | (simp only [List.all_cons, List.all_nil, one_bool, one_int, one_str, one_ptr, one_nilptr, one_slice, one_eslice, one_nilslice, one_func, one_iface, one_niliface, Bool.and_true, Bool.true_and, List.getD_cons_zero, List.getD_cons_succ, List.contains_cons, List.contains_nil, Bool.or_true, Bool.true_or, Bool.or_false, Bool.false_or, Nat.reduceBEq, *]; done) | fail)) only [go_sem, Hold.p, HoldK.k, HoldL.K, HoldL.body, Nat.reduceBEq, Nat.reduceAdd, reduceIte]
    refine callA_of (l02Cut_c g1 s 10 (by omega)) ?_
    rintro r g2 ⟨hr, E2⟩
    have b0 := b0.ext E2
    have b1 := b1.ext E2
    have le_E2 := E2.le
    rw [hcut] at hr
    have hlen := hr.lenF
    have q0 := b0.eq
    rw [show g0.n = h.n + 1 from l_g0] at b1
    have q1 := b1.eq
    have d1 : decide ((((first :: (L ++ [[], []])).map sRow).length : Int) < 3) = false := decide_eq_false (by simp; omega)
    obtain ⟨l, j, hia, hll, hrow⟩ := hr.at (m := 0) (row := sRow first) rfl .i64
    have hia : iadrF g2 1 r (.int .i64 0) = some (.ptr l j 0) := hia
    have hcl : cellO (g2.obj l) j 0 = some (.str first) := by rw [cellO_row hrow]; rfl
    have n1 : g0.n = h.n + 1 := l_g0
    generalize hLL : ((first :: (L ++ [[], []])).map sRow).length = N at hlen d1
    simp (disch := (first | omega | assumption | (simp only [push_n, set_n, put_n, List.length_cons, List.length_nil, List.length_append, Nat.reduceAdd]; done) | (simp only [push_n, set_n, put_n, List.length_cons, List.length_nil, List.length_append]; omega) | (simp only [List.all_cons, List.all_nil, one_bool, one_int, one_str, one_ptr, one_nilptr, one_slice, one_eslice, one_nilslice, one_func, one_iface, one_niliface, Bool.and_true, Bool.true_and, List.getD_cons_zero, List.getD_cons_succ, List.contains_cons, List.contains_nil, Bool.or_true, Bool.true_or, Bool.or_false, Bool.false_or, Nat.reduceBEq, *]; done) | fail)) only [hlen, d1, q0, q1, n1, hia, hcl, go_sem, Hold.p, HoldK.k, HoldL.K, HoldL.body, Nat.reduceBEq, Nat.reduceAdd, reduceIte]
    have := b1.lt
    refine ⟨r, g2.n, rfl, ⟨hr.setp b1 (by decide) _, hr.lt⟩, by omega, Nat.le_refl _, b0.set (by omega), b1.here, ((e_g0.trans e_g1).trans E2).set1 _ (by omega)⟩
  rintro e g ⟨v5, B, i2, i4, i5, a5, hB, hBg, b0, b1, E⟩
  have hlen : lenF v5 = some (.int .i64 ((L.length + 3 : Nat) : Int)) := by
    have := a5.sl.lenF
    rw [List.length_map, List.length_cons, List.length_append] at this
    exact this
  simp only [CC.split]
  refine vc_split 1 (fun e g => ∃ fs n vf lo hi, linesF L = some (fs, n) ∧ (∀ f ∈ fs, fldB f = true) ∧ e 2 = .ptr h.n 0 0 ∧ e 4 = .ptr (h.n + 1) 0 0 ∧
    Own lo hi g 163 2 vf (fldRows fs) ∧ h.n + 2 ≤ lo ∧ hi ≤ g.n ∧ At g h.n (gotObj [] .nilslice 0 .nilslice) ∧ At g (h.n + 1) (gotObj first vf (n : Nat) .nilslice) ∧ Ext h g) ?_ ?_
  · simp only [CC.split]
    simp (disch := (first | omega | assumption | (simp only [push_n, set_n, put_n, List.length_cons, List.length_nil, List.length_append, Nat.reduceAdd]; done) | (simp only [push_n, set_n, put_n, List.length_cons, List.length_nil, List.length_append]; omega) | (simp only [List.all_cons, List.all_nil, one_bool, one_int, one_str, one_ptr, one_nilptr, one_slice, one_eslice, one_nilslice, one_func, one_iface, one_niliface, Bool.and_true, Bool.true_and, List.getD_cons_zero, List.getD_cons_succ, List.contains_cons, List.contains_nil, Bool.or_true, Bool.true_or, Bool.or_false, Bool.false_or, Nat.reduceBEq, *]; done) | fail)) only [go_sem, Hold.p, HoldK.k, HoldL.K, HoldL.body, Nat.reduceBEq, Nat.reduceAdd, reduceIte]
    refine loop_at (fun m e g => ∃ (k nn : Nat) (acc : List Fld) (vf : IV) (lo hi : Nat), m = L.length - k ∧ k ≤ L.length ∧ e 2 = .ptr h.n 0 0 ∧ e 4 = .ptr (h.n + 1) 0 0 ∧ e 5 = v5 ∧ e 6 = .int .i64 ((k + 1 : Nat) : Int) ∧
      linesI L k nn acc ∧ (∀ f ∈ acc, fldB f = true) ∧ acc.length ≤ k ∧ Arg B g 1 v5 ((first :: (L ++ [[], []])).map sRow) ∧ Own lo hi g 163 2 vf (fldRows acc) ∧ B ≤ lo ∧ lo ≤ g.n ∧ hi ≤ g.n ∧ At g h.n (gotObj [] .nilslice 0 .nilslice) ∧ At g (h.n + 1) (gotObj first vf (nn : Nat) .nilslice) ∧ Ext h g) L.length ?_ ?_
    · refine ⟨0, 0, [], .nilslice, g.n, g.n, by omega, by omega, ?_⟩
      simp (disch := (first | omega | assumption | (simp only [push_n, set_n, put_n, List.length_cons, List.length_nil, List.length_append, Nat.reduceAdd]; done) | (simp only [push_n, set_n, put_n, List.length_cons, List.length_nil, List.length_append]; omega) | (simp only [List.all_cons, List.all_nil, one_bool, one_int, one_str, one_ptr, one_nilptr, one_slice, one_eslice, one_nilslice, one_func, one_iface, one_niliface, Bool.and_true, Bool.true_and, List.getD_cons_zero, List.getD_cons_succ, List.contains_cons, List.contains_nil, Bool.or_true, Bool.true_or, Bool.or_false, Bool.false_or, Nat.reduceBEq, *]; done) | fail)) only [i2, i4, i5, go_sem, Hold.p, HoldK.k, HoldL.K, HoldL.body, Nat.reduceBEq, Nat.reduceAdd, reduceIte]
      exact ⟨rfl, .inl ⟨rfl, (preF_nil _).symm⟩, fun _ h => by simp at h, Nat.le_refl _, a5, Own.nil, hBg, Nat.le_refl _, Nat.le_refl _, b0, b1, E⟩
    · clear i2 i4 i5 b0 b1 E a5 hBg g e
      rintro m e g ⟨k, nn, acc, vf, lo, hi, rfl, hk, i2, i4, i5, i6, hI, hall, hal, a5, o, hlo, hlg, hhi, b0, b1, E⟩
      have q0 := b0.eq
      have q1 := b1.eq
      have vo := o.one
      have w3 : wr .i64 (((k + 1 : Nat) : Int) + 2) = ((k + 3 : Nat) : Int) := by rw [wr64 _ (by omega)]; omega
      simp (disch := (first | omega | assumption | (simp only [push_n, set_n, put_n, List.length_cons, List.length_nil, List.length_append, Nat.reduceAdd]; done) | (simp only [push_n, set_n, put_n, List.length_cons, List.length_nil, List.length_append]; omega) | (simp only [List.all_cons, List.all_nil, one_bool, one_int, one_str, one_ptr, one_nilptr, one_slice, one_eslice, one_nilslice, one_func, one_iface, one_niliface, Bool.and_true, Bool.true_and, List.getD_cons_zero, List.getD_cons_succ, List.contains_cons, List.contains_nil, Bool.or_true, Bool.true_or, Bool.or_false, Bool.false_or, Nat.reduceBEq, *]; done) | fail)) only [i5, i6, hlen, w3, go_sem, Hold.p, HoldK.k, HoldL.K, HoldL.body, Nat.reduceBEq, Nat.reduceAdd, reduceIte]
      refine test_dec (fun hb => ?_) (fun hb => ?_)
      · have hk' : k < L.length := by omega
        have hJ : nn = 0 ∧ linesF L = preF acc (linesF (L.drop k)) := by
          rcases hI with h | h
          · exact h
          · omega
        obtain ⟨rfl, hJ⟩ := hJ
        obtain ⟨t, ht⟩ : ∃ t, L[k]? = some t := ⟨_, List.getElem?_eq_getElem hk'⟩
        have htm := List.mem_of_getElem? ht
        have htl := hpl t htm
        have hrowt : ((first :: (L ++ [[], []])).map sRow)[k + 1]? = some (sRow t) := by
          rw [List.getElem?_map, List.getElem?_cons_succ, List.getElem?_append_left hk', ht]; rfl
        obtain ⟨l, j, hia, hll, hrow⟩ := a5.sl.at (m := k + 1) hrowt .i64
        have hcl : cellO (g.obj l) j 0 = some (.str t) := by rw [cellO_row hrow]; rfl
        have wk : wr .i64 (((k + 1 : Nat) : Int) + 1) = ((k + 2 : Nat) : Int) := by rw [wr64 _ (by omega)]; omega
        have wk3 : wr .i64 (((k + 1 : Nat) : Int) + 3) = ((k + 4 : Nat) : Int) := by rw [wr64 _ (by omega)]; omega
        have hbadc : (Lib.cut t [58, 32]).2.2 = false ∨ 58 ∈ (Lib.cut t [58, 32]).1 → hdOk L = none := hdOk_colon hJ ht
        simp only [Hold.p]
        rw [vc_skip]
        show vc _ _ _ _ _
        rw [vc_seq, vc_block]
        refine vc_split 2 (fun e' g' => ∃ a : Nat, e' 2 = .ptr h.n 0 0 ∧ e' 4 = .ptr (h.n + 1) 0 0 ∧ e' 5 = v5 ∧ e' 6 = .int .i64 ((k + 1 : Nat) : Int) ∧ e' 7 = .int .i64 (a : Nat) ∧ a ≤ t.length ∧ (∀ j, j < a → t[j]? ≠ some 58) ∧ (a = t.length ∨ t[a]? = some 58) ∧ g' = g) ?_ ?_
        · simp only [CC.split]
          simp (disch := (first | omega | assumption | (simp only [push_n, set_n, put_n, List.length_cons, List.length_nil, List.length_append, Nat.reduceAdd]; done) | (simp only [push_n, set_n, put_n, List.length_cons, List.length_nil, List.length_append]; omega) | (simp only [List.all_cons, List.all_nil, one_bool, one_int, one_str, one_ptr, one_nilptr, one_slice, one_eslice, one_nilslice, one_func, one_iface, one_niliface, Bool.and_true, Bool.true_and, List.getD_cons_zero, List.getD_cons_succ, List.contains_cons, List.contains_nil, Bool.or_true, Bool.true_or, Bool.or_false, Bool.false_or, Nat.reduceBEq, *]; done) | fail)) only [go_sem, Hold.p, HoldK.k, HoldL.K, HoldL.body, Nat.reduceBEq, Nat.reduceAdd, reduceIte]
          refine loop_at (fun m e' g' => ∃ a : Nat, m = t.length - a ∧ e' 2 = .ptr h.n 0 0 ∧ e' 4 = .ptr (h.n + 1) 0 0 ∧ e' 5 = v5 ∧ e' 6 = .int .i64 ((k + 1 : Nat) : Int) ∧ e' 7 = .int .i64 (a : Nat) ∧ a ≤ t.length ∧ (∀ j, j < a → t[j]? ≠ some 58) ∧ g' = g) t.length ?_ ?_
          · refine ⟨0, by omega, ?_⟩
            simp (disch := (first | omega | assumption | (simp only [push_n, set_n, put_n, List.length_cons, List.length_nil, List.length_append, Nat.reduceAdd]; done) | (simp only [push_n, set_n, put_n, List.length_cons, List.length_nil, List.length_append]; omega) | (simp only [List.all_cons, List.all_nil, one_bool, one_int, one_str, one_ptr, one_nilptr, one_slice, one_eslice, one_nilslice, one_func, one_iface, one_niliface, Bool.and_true, Bool.true_and, List.getD_cons_zero, List.getD_cons_succ, List.contains_cons, List.contains_nil, Bool.or_true, Bool.true_or, Bool.or_false, Bool.false_or, Nat.reduceBEq, *]; done) | fail)) only [i2, i4, i5, i6, go_sem, Hold.p, HoldK.k, HoldL.K, HoldL.body, Nat.reduceBEq, Nat.reduceAdd, reduceIte]
            exact ⟨rfl, by omega, fun j hj => by omega⟩
          · rintro m2 e2 g2 ⟨a, rfl, j2, j4, j5, j6, j7, ha, hno, rfl⟩
            simp (disch := (first | omega | assumption | (simp only [push_n, set_n, put_n, List.length_cons, List.length_nil, List.length_append, Nat.reduceAdd]; done) | (simp only [push_n, set_n, put_n, List.length_cons, List.length_nil, List.length_append]; omega) | (simp only [List.all_cons, List.all_nil, one_bool, one_int, one_str, one_ptr, one_nilptr, one_slice, one_eslice, one_nilslice, one_func, one_iface, one_niliface, Bool.and_true, Bool.true_and, List.getD_cons_zero, List.getD_cons_succ, List.contains_cons, List.contains_nil, Bool.or_true, Bool.true_or, Bool.or_false, Bool.false_or, Nat.reduceBEq, *]; done) | fail)) only [j5, j6, j7, hia, hcl, go_sem, Hold.p, HoldK.k, HoldL.K, HoldL.body, Nat.reduceBEq, Nat.reduceAdd, reduceIte]
            rcases Nat.lt_or_ge a t.length with hlt | hge
            · have d1 : decide ((a : Int) < (t.length : Int)) = true := decide_eq_true (by omega)
              obtain ⟨x, hx⟩ : ∃ b, t[a]? = some b := ⟨_, List.getElem?_eq_getElem hlt⟩
              have hxx := idxS_at (q := .i64) hx
              have w1 : wr .i64 ((a : Int) + 1) = ((a + 1 : Nat) : Int) := by rw [wr64 _ (by omega)]; rfl
              simp (disch := (first | omega | assumption | (simp only [push_n, set_n, put_n, List.length_cons, List.length_nil, List.length_append, Nat.reduceAdd]; done) | (simp only [push_n, set_n, put_n, List.length_cons, List.length_nil, List.length_append]; omega) | (simp only [List.all_cons, List.all_nil, one_bool, one_int, one_str, one_ptr, one_nilptr, one_slice, one_eslice, one_nilslice, one_func, one_iface, one_niliface, Bool.and_true, Bool.true_and, List.getD_cons_zero, List.getD_cons_succ, List.contains_cons, List.contains_nil, Bool.or_true, Bool.true_or, Bool.or_false, Bool.false_or, Nat.reduceBEq, *]; done) | fail)) only [d1, j5, j6, j7, hia, hcl, hxx, go_sem, Hold.p, HoldK.k, HoldL.K, HoldL.body, Nat.reduceBEq, Nat.reduceAdd, reduceIte]
              refine test_of (fun hc => ?_) (fun hc => ?_)
              · have hx58 : x ≠ 58 := by
                  rintro rfl
                  revert hc
                  simp
                simp (disch := (first | omega | assumption | (simp only [push_n, set_n, put_n, List.length_cons, List.length_nil, List.length_append, Nat.reduceAdd]; done) | (simp only [push_n, set_n, put_n, List.length_cons, List.length_nil, List.length_append]; omega) | (simp only [List.all_cons, List.all_nil, one_bool, one_int, one_str, one_ptr, one_nilptr, one_slice, one_eslice, one_nilslice, one_func, one_iface, one_niliface, Bool.and_true, Bool.true_and, List.getD_cons_zero, List.getD_cons_succ, List.contains_cons, List.contains_nil, Bool.or_true, Bool.true_or, Bool.or_false, Bool.false_or, Nat.reduceBEq, *]; done) | fail)) only [j2, j4, j5, j6, j7, w1, go_sem, Hold.p, HoldK.k, HoldL.K, HoldL.body, Nat.reduceBEq, Nat.reduceAdd, reduceIte]
                refine ⟨_, ?_, a + 1, rfl, rfl, by omega, fun j hj => ?_⟩
                · omega
                · rcases Nat.lt_or_ge j a with h' | h'
                  · exact hno j h'
                  · have : j = a := by omega
                    subst this
                    rw [hx]; intro e; cases e; exact hx58 rfl
              · have hx58 : x = 58 := UInt8.toNat_inj.1 (by
                  show x.toNat = 58
                  have : decide ((x.toNat : Int) = 58) = true := by simpa using hc
                  have := of_decide_eq_true this
                  omega)
                simp (disch := (first | omega | assumption | (simp only [push_n, set_n, put_n, List.length_cons, List.length_nil, List.length_append, Nat.reduceAdd]; done) | (simp only [push_n, set_n, put_n, List.length_cons, List.length_nil, List.length_append]; omega) | (simp only [List.all_cons, List.all_nil, one_bool, one_int, one_str, one_ptr, one_nilptr, one_slice, one_eslice, one_nilslice, one_func, one_iface, one_niliface, Bool.and_true, Bool.true_and, List.getD_cons_zero, List.getD_cons_succ, List.contains_cons, List.contains_nil, Bool.or_true, Bool.true_or, Bool.or_false, Bool.false_or, Nat.reduceBEq, *]; done) | fail)) only [j2, j4, j5, j6, j7, go_sem, Hold.p, HoldK.k, HoldL.K, HoldL.body, Nat.reduceBEq, Nat.reduceAdd, reduceIte]
                exact ⟨a, rfl, ha, hno, .inr (by rw [hx, hx58])⟩
            · have d1 : decide ((a : Int) < (t.length : Int)) = false := decide_eq_false (by omega)
              simp (disch := (first | omega | assumption | (simp only [push_n, set_n, put_n, List.length_cons, List.length_nil, List.length_append, Nat.reduceAdd]; done) | (simp only [push_n, set_n, put_n, List.length_cons, List.length_nil, List.length_append]; omega) | (simp only [List.all_cons, List.all_nil, one_bool, one_int, one_str, one_ptr, one_nilptr, one_slice, one_eslice, one_nilslice, one_func, one_iface, one_niliface, Bool.and_true, Bool.true_and, List.getD_cons_zero, List.getD_cons_succ, List.contains_cons, List.contains_nil, Bool.or_true, Bool.true_or, Bool.or_false, Bool.false_or, Nat.reduceBEq, *]; done) | fail)) only [d1, j2, j4, j5, j6, j7, go_sem, Hold.p, HoldK.k, HoldL.K, HoldL.body, Nat.reduceBEq, Nat.reduceAdd, reduceIte]
              exact ⟨a, rfl, ha, hno, .inl (by omega)⟩
        · clear i2 i4 i5 i6
          rintro e g2 ⟨a, i2, i4, i5, i6, i7, ha, hno, hstop, rfl⟩
          simp only [CC.split]
          have w1 : wr .i64 ((a : Int) + 1) = ((a + 1 : Nat) : Int) := by rw [wr64 _ (by omega)]; rfl
          have w2 : wr .i64 ((a : Int) + 2) = ((a + 2 : Nat) : Int) := by rw [wr64 _ (by omega)]; rfl
          rcases Nat.lt_or_ge (a + 1) t.length with hlt | hge
          · have d1 : decide ((t.length : Int) ≤ ((a + 1 : Nat) : Int)) = false := decide_eq_false (by omega)
            obtain ⟨y, hy⟩ : ∃ b, t[a + 1]? = some b := ⟨_, List.getElem?_eq_getElem hlt⟩
            have hyy := idxS_at (q := .i64) hy
            simp (disch := (first | omega | assumption | (simp only [push_n, set_n, put_n, List.length_cons, List.length_nil, List.length_append, Nat.reduceAdd]; done) | (simp only [push_n, set_n, put_n, List.length_cons, List.length_nil, List.length_append]; omega) | (simp only [List.all_cons, List.all_nil, one_bool, one_int, one_str, one_ptr, one_nilptr, one_slice, one_eslice, one_nilslice, one_func, one_iface, one_niliface, Bool.and_true, Bool.true_and, List.getD_cons_zero, List.getD_cons_succ, List.contains_cons, List.contains_nil, Bool.or_true, Bool.true_or, Bool.or_false, Bool.false_or, Nat.reduceBEq, *]; done) | fail)) only [i5, i6, i7, hia, hcl, w1, d1, hyy, go_sem, Hold.p, HoldK.k, HoldL.K, HoldL.body, Nat.reduceBEq, Nat.reduceAdd, reduceIte]
            refine test_of (fun hc => ?_) (fun hc => ?_)
            · have hy32 : t[a + 1]? ≠ some 32 := by
                rw [hy]; intro e; cases e
                revert hc
                simp
              rw [hbadc (cut_nocolon ha hno hstop hy32)]
              simp (disch := (first | omega | assumption | (simp only [push_n, set_n, put_n, List.length_cons, List.length_nil, List.length_append, Nat.reduceAdd]; done) | (simp only [push_n, set_n, put_n, List.length_cons, List.length_nil, List.length_append]; omega) | (simp only [List.all_cons, List.all_nil, one_bool, one_int, one_str, one_ptr, one_nilptr, one_slice, one_eslice, one_nilslice, one_func, one_iface, one_niliface, Bool.and_true, Bool.true_and, List.getD_cons_zero, List.getD_cons_succ, List.contains_cons, List.contains_nil, Bool.or_true, Bool.true_or, Bool.or_false, Bool.false_or, Nat.reduceBEq, *]; done) | fail)) only [i2, i4, q1, q0, vo, go_sem, Hold.p, HoldK.k, HoldL.K, HoldL.body, Nat.reduceBEq, Nat.reduceAdd, reduceIte]
              exact ⟨⟨_, _, _, _, rfl, rfl, vo, rfl, rfl⟩, E.set1 _ (Nat.le_refl _)⟩
            · have hy32 : y = 32 := UInt8.toNat_inj.1 (by
                show y.toNat = 32
                have : decide ((y.toNat : Int) = 32) = true := by simpa using hc
                have := of_decide_eq_true this
                omega)
              subst hy32
              have h58 : t[a]? = some 58 := by
                rcases hstop with h | h
                · omega
                · exact h
              have hcutt := cut_colon hno h58 hy
              clear hbadc hyy hc
              have hs1 := slcS_hi (s := t) (m := a) (q := .i64) ha
              have hs2 := slcS_lo (s := t) (m := a + 2) (q := .i64) (by omega)
              have e1 : (Lib.cut t [58, 32]).1 = t.take a := by rw [hcutt]
              have e2 : (Lib.cut t [58, 32]).2.1 = t.drop (a + 2) := by rw [hcutt]
              have e3 : (Lib.cut t [58, 32]).2.2 = true := by rw [hcutt]
              have n1 : (t.take a).length ≤ 8000 := by rw [List.length_take]; omega
              have n2 : (t.drop (a + 2)).length ≤ 8000 := by rw [List.length_drop]; omega
              have hiap : ∀ o, iadrF (g2.push o) 1 v5 (.int .i64 ((k + 1 : Nat) : Int)) = some (.ptr l j 0) := fun o => iadr_same hia (push_old _ _ _ hll)
              simp (disch := (first | omega | assumption | (simp only [push_n, set_n, put_n, List.length_cons, List.length_nil, List.length_append, Nat.reduceAdd]; done) | (simp only [push_n, set_n, put_n, List.length_cons, List.length_nil, List.length_append]; omega) | (simp only [List.all_cons, List.all_nil, one_bool, one_int, one_str, one_ptr, one_nilptr, one_slice, one_eslice, one_nilslice, one_func, one_iface, one_niliface, Bool.and_true, Bool.true_and, List.getD_cons_zero, List.getD_cons_succ, List.contains_cons, List.contains_nil, Bool.or_true, Bool.true_or, Bool.or_false, Bool.false_or, Nat.reduceBEq, *]; done) | fail)) only [i5, i6, i7, hia, hiap, hcl, w2, hs1, hs2, Option.map_none, go_sem, Hold.p, HoldK.k, HoldL.K, HoldL.body, Nat.reduceBEq, Nat.reduceAdd, reduceIte]
              generalize t.take a = nm at *
              generalize t.drop (a + 2) = vl at *
              generalize hq_g3 : IH.push g2 (IObj.rows [[.str nm, .str vl]] 163 2 false) = g3
              have e_g3 : Ext g2 g3 := by rw [← hq_g3]; exact (Ext.refl _).push _
              have l_g3 : g3.n = g2.n + 1 := by rw [← hq_g3]; rfl
              have b3 : At g3 g2.n (IObj.rows [[.str nm, .str vl]] 163 2 false) := by rw [← hq_g3]; exact At.new _ _
              clear hq_g3
              have o := o.ext e_g3
              have a5 := a5.ext e_g3
              have b0 := b0.ext e_g3
              have b1 := b1.ext e_g3
              have E := E.trans e_g3
              have q0 := b0.eq
              have q1 := b1.eq
              have q3 := b3.eq
              try simp (disch := (first | omega | assumption | (simp only [push_n, set_n, put_n, List.length_cons, List.length_nil, List.length_append, Nat.reduceAdd]; done) | (simp only [push_n, set_n, put_n, List.length_cons, List.length_nil, List.length_append]; omega) | (simp only [List.all_cons, List.all_nil, one_bool, one_int, one_str, one_ptr, one_nilptr, one_slice, one_eslice, one_nilslice, one_func, one_iface, one_niliface, Bool.and_true, Bool.true_and, List.getD_cons_zero, List.getD_cons_succ, List.contains_cons, List.contains_nil, Bool.or_true, Bool.true_or, Bool.or_false, Bool.false_or, Nat.reduceBEq, *]; done) | fail)) only [q3, i5, i6, hlen, wk3, go_sem, Hold.p, HoldK.k, HoldL.K, HoldL.body, Nat.reduceBEq, Nat.reduceAdd, reduceIte]
              refine test_of (fun hc => ?_) (fun hc => ?_)
              · have hc3 : nm = lengthS ∧ k + 1 = L.length := by
                  simp only [Bool.and_eq_true, decide_eq_true_eq] at hc
                  exact ⟨hc.1, by omega⟩
                have hlen2 := linesF_len hJ ht e3 (e1.trans hc3.1) hc3.2
                rw [e2] at hlen2
                simp (disch := (first | omega | assumption | (simp only [push_n, set_n, put_n, List.length_cons, List.length_nil, List.length_append, Nat.reduceAdd]; done) | (simp only [push_n, set_n, put_n, List.length_cons, List.length_nil, List.length_append]; omega) | (simp only [List.all_cons, List.all_nil, one_bool, one_int, one_str, one_ptr, one_nilptr, one_slice, one_eslice, one_nilslice, one_func, one_iface, one_niliface, Bool.and_true, Bool.true_and, List.getD_cons_zero, List.getD_cons_succ, List.contains_cons, List.contains_nil, Bool.or_true, Bool.true_or, Bool.or_false, Bool.false_or, Nat.reduceBEq, *]; done) | fail)) only [q3, go_sem, Hold.p, HoldK.k, HoldL.K, HoldL.body, Nat.reduceBEq, Nat.reduceAdd, reduceIte]
                refine callA_of (l02Number_c g3 vl 5 (by omega) (by omega)) ?_
                rintro r g4 ⟨⟨n, rfl, hn⟩, E4⟩
                have hg4 := E4.le
                have b0 := b0.ext E4
                have b1 := b1.ext E4
                have o := o.ext E4
                have a5 := a5.ext E4
                have le_E4 := E4.le
                have q0 := b0.eq
                have q1 := b1.eq
                simp (disch := (first | omega | assumption | (simp only [push_n, set_n, put_n, List.length_cons, List.length_nil, List.length_append, Nat.reduceAdd]; done) | (simp only [push_n, set_n, put_n, List.length_cons, List.length_nil, List.length_append]; omega) | (simp only [List.all_cons, List.all_nil, one_bool, one_int, one_str, one_ptr, one_nilptr, one_slice, one_eslice, one_nilslice, one_func, one_iface, one_niliface, Bool.and_true, Bool.true_and, List.getD_cons_zero, List.getD_cons_succ, List.contains_cons, List.contains_nil, Bool.or_true, Bool.true_or, Bool.or_false, Bool.false_or, Nat.reduceBEq, *]; done) | fail)) only [go_sem, Hold.p, HoldK.k, HoldL.K, HoldL.body, Nat.reduceBEq, Nat.reduceAdd, reduceIte]
                have hch : (!decOk vl 5 || decide (n < 1) || decide (60000 < n)) = !decide (decOk vl 5 = true ∧ 1 ≤ valD vl ∧ valD vl ≤ 60000) := by
                  cases hd : decOk vl 5 with
                  | false => simp
                  | true =>
                    have hv := hn hd
                    rw [hv]
                    simp only [Bool.not_true, Bool.false_or, true_and]
                    rw [lt_not, lt_not, ← Bool.not_and]
                    congr 1
                    rw [Bool.eq_iff_iff]
                    simp only [Bool.and_eq_true, decide_eq_true_eq]
                    omega
                rw [hch]
                refine test_of (fun hc4 => ?_) (fun hc4 => ?_)
                · have hc5 : ¬ (decOk vl 5 = true ∧ 1 ≤ valD vl ∧ valD vl ≤ 60000) := of_decide_eq_false (by rwa [Bool.not_eq_true'] at hc4)
                  rw [if_neg hc5] at hlen2
                  rw [hdOk_none hlen2]
                  simp (disch := (first | omega | assumption | (simp only [push_n, set_n, put_n, List.length_cons, List.length_nil, List.length_append, Nat.reduceAdd]; done) | (simp only [push_n, set_n, put_n, List.length_cons, List.length_nil, List.length_append]; omega) | (simp only [List.all_cons, List.all_nil, one_bool, one_int, one_str, one_ptr, one_nilptr, one_slice, one_eslice, one_nilslice, one_func, one_iface, one_niliface, Bool.and_true, Bool.true_and, List.getD_cons_zero, List.getD_cons_succ, List.contains_cons, List.contains_nil, Bool.or_true, Bool.true_or, Bool.or_false, Bool.false_or, Nat.reduceBEq, *]; done) | fail)) only [i2, i4, q1, q0, vo, go_sem, Hold.p, HoldK.k, HoldL.K, HoldL.body, Nat.reduceBEq, Nat.reduceAdd, reduceIte]
                  exact ⟨⟨_, _, _, _, rfl, rfl, vo, rfl, rfl⟩, (E.trans E4).set1 _ (Nat.le_refl _)⟩
                · have hc5 : decOk vl 5 = true ∧ 1 ≤ valD vl ∧ valD vl ≤ 60000 := by simpa using hc4
                  rw [if_pos hc5] at hlen2
                  have hnn := hn hc5.1
                  subst hnn
                  simp (disch := (first | omega | assumption | (simp only [push_n, set_n, put_n, List.length_cons, List.length_nil, List.length_append, Nat.reduceAdd]; done) | (simp only [push_n, set_n, put_n, List.length_cons, List.length_nil, List.length_append]; omega) | (simp only [List.all_cons, List.all_nil, one_bool, one_int, one_str, one_ptr, one_nilptr, one_slice, one_eslice, one_nilslice, one_func, one_iface, one_niliface, Bool.and_true, Bool.true_and, List.getD_cons_zero, List.getD_cons_succ, List.contains_cons, List.contains_nil, Bool.or_true, Bool.true_or, Bool.or_false, Bool.false_or, Nat.reduceBEq, *]; done) | fail)) only [i2, i4, i5, i6, q1, wk, go_sem, Hold.p, HoldK.k, HoldL.K, HoldL.body, Nat.reduceBEq, Nat.reduceAdd, reduceIte]
                  refine ⟨_, ?_, k + 1, valD vl, acc, vf, lo, hi, rfl, by omega, rfl, .inr ⟨hc3.2, hlen2⟩, hall, by omega, a5.setp b1 (by decide) _, o.set (.inl (by omega)) _, hlo, ?_, ?_, b0.set (by omega), b1.here, (E.trans E4).set1 _ (by omega)⟩
                  · omega
                  · show lo ≤ g4.n
                    omega
                  · show hi ≤ g4.n
                    omega
              · have hc3 : ¬ (nm = lengthS ∧ k + 1 = L.length) := by
                  rintro ⟨r1, r2⟩
                  rw [Bool.and_eq_false_iff] at hc
                  rcases hc with h2 | h2
                  · exact of_decide_eq_false h2 r1
                  · exact of_decide_eq_false h2 (by omega)
                have hst := linesF_step hJ ht e3 (by rw [e1]; exact hc3)
                rw [e1, e2] at hst
                simp (disch := (first | omega | assumption | (simp only [push_n, set_n, put_n, List.length_cons, List.length_nil, List.length_append, Nat.reduceAdd]; done) | (simp only [push_n, set_n, put_n, List.length_cons, List.length_nil, List.length_append]; omega) | (simp only [List.all_cons, List.all_nil, one_bool, one_int, one_str, one_ptr, one_nilptr, one_slice, one_eslice, one_nilslice, one_func, one_iface, one_niliface, Bool.and_true, Bool.true_and, List.getD_cons_zero, List.getD_cons_succ, List.contains_cons, List.contains_nil, Bool.or_true, Bool.true_or, Bool.or_false, Bool.false_or, Nat.reduceBEq, *]; done) | fail)) only [q3, go_sem, Hold.p, HoldK.k, HoldL.K, HoldL.body, Nat.reduceBEq, Nat.reduceAdd, reduceIte]
                refine callA_of (specFieldOK_c g3 nm vl (by omega) (by omega)) ?_
                rintro r g4 ⟨rfl, E4⟩
                have hg4 := E4.le
                have b0 := b0.ext E4
                have b1 := b1.ext E4
                have b3 := b3.ext E4
                have o := o.ext E4
                have a5 := a5.ext E4
                have le_E4 := E4.le
                have q0 := b0.eq
                have q1 := b1.eq
                have q3 := b3.eq
                simp (disch := (first | omega | assumption | (simp only [push_n, set_n, put_n, List.length_cons, List.length_nil, List.length_append, Nat.reduceAdd]; done) | (simp only [push_n, set_n, put_n, List.length_cons, List.length_nil, List.length_append]; omega) | (simp only [List.all_cons, List.all_nil, one_bool, one_int, one_str, one_ptr, one_nilptr, one_slice, one_eslice, one_nilslice, one_func, one_iface, one_niliface, Bool.and_true, Bool.true_and, List.getD_cons_zero, List.getD_cons_succ, List.contains_cons, List.contains_nil, Bool.or_true, Bool.true_or, Bool.or_false, Bool.false_or, Nat.reduceBEq, *]; done) | fail)) only [go_sem, Hold.p, HoldK.k, HoldL.K, HoldL.body, Nat.reduceBEq, Nat.reduceAdd, reduceIte]
                refine test_of (fun hc4 => ?_) (fun hc4 => ?_)
                · have hfb : fldB (nm, vl) = false := by rwa [Bool.not_eq_true'] at hc4
                  rw [hdOk_bad hst hfb]
                  simp (disch := (first | omega | assumption | (simp only [push_n, set_n, put_n, List.length_cons, List.length_nil, List.length_append, Nat.reduceAdd]; done) | (simp only [push_n, set_n, put_n, List.length_cons, List.length_nil, List.length_append]; omega) | (simp only [List.all_cons, List.all_nil, one_bool, one_int, one_str, one_ptr, one_nilptr, one_slice, one_eslice, one_nilslice, one_func, one_iface, one_niliface, Bool.and_true, Bool.true_and, List.getD_cons_zero, List.getD_cons_succ, List.contains_cons, List.contains_nil, Bool.or_true, Bool.true_or, Bool.or_false, Bool.false_or, Nat.reduceBEq, *]; done) | fail)) only [i2, i4, q1, q0, vo, go_sem, Hold.p, HoldK.k, HoldL.K, HoldL.body, Nat.reduceBEq, Nat.reduceAdd, reduceIte]
                  exact ⟨⟨_, _, _, _, rfl, rfl, vo, rfl, rfl⟩, (E.trans E4).set1 _ (Nat.le_refl _)⟩
                · have hfb : fldB (nm, vl) = true := by rwa [Bool.not_eq_false'] at hc4
                  simp (disch := (first | omega | assumption | (simp only [push_n, set_n, put_n, List.length_cons, List.length_nil, List.length_append, Nat.reduceAdd]; done) | (simp only [push_n, set_n, put_n, List.length_cons, List.length_nil, List.length_append]; omega) | (simp only [List.all_cons, List.all_nil, one_bool, one_int, one_str, one_ptr, one_nilptr, one_slice, one_eslice, one_nilslice, one_func, one_iface, one_niliface, Bool.and_true, Bool.true_and, List.getD_cons_zero, List.getD_cons_succ, List.contains_cons, List.contains_nil, Bool.or_true, Bool.true_or, Bool.or_false, Bool.false_or, Nat.reduceBEq, *]; done) | fail)) only [i4, q1, q3, go_sem, Hold.p, HoldK.k, HoldL.K, HoldL.body, Nat.reduceBEq, Nat.reduceAdd, reduceIte]
                  generalize hq_g5 : IH.push g4 (IObj.rows [[.str nm, .str vl]] 163 2 false) = g5
                  have e_g5 : Ext g4 g5 := by rw [← hq_g5]; exact (Ext.refl _).push _
                  have l_g5 : g5.n = g4.n + 1 := by rw [← hq_g5]; rfl
                  have b5 : At g5 g4.n (IObj.rows [[.str nm, .str vl]] 163 2 false) := by rw [← hq_g5]; exact At.new _ _
                  clear hq_g5
                  have o := o.ext e_g5
                  have a5 := a5.ext e_g5
                  have b0 := b0.ext e_g5
                  have b1 := b1.ext e_g5
                  have q5 := b5.eq
                  try simp (disch := (first | omega | assumption | (simp only [push_n, set_n, put_n, List.length_cons, List.length_nil, List.length_append, Nat.reduceAdd]; done) | (simp only [push_n, set_n, put_n, List.length_cons, List.length_nil, List.length_append]; omega) | (simp only [List.all_cons, List.all_nil, one_bool, one_int, one_str, one_ptr, one_nilptr, one_slice, one_eslice, one_nilslice, one_func, one_iface, one_niliface, Bool.and_true, Bool.true_and, List.getD_cons_zero, List.getD_cons_succ, List.contains_cons, List.contains_nil, Bool.or_true, Bool.true_or, Bool.or_false, Bool.false_or, Nat.reduceBEq, *]; done) | fail)) only [q5, go_sem, Hold.p, HoldK.k, HoldL.K, HoldL.body, Nat.reduceBEq, Nat.reduceAdd, reduceIte]
                  refine o.app (by simp) (by simp only [fldRows_len, List.length_singleton]; omega) ?_
                  intro v6 h6 o6 t6 n6 v6o v6c
                  have E6 := ((E.trans E4).trans e_g5).turn o (by omega) t6
                  have o6 : Own g5.n (g5.n + 1) h6 163 2 v6 (fldRows (acc ++ [(nm, vl)])) := by simpa [fldRows] using o6
                  have b0 := b0.turn o (by omega) t6
                  have b1 := b1.turn o (by omega) t6
                  have a5 := a5.turn o hlo t6
                  have q1 := b1.eq
                  simp (disch := (first | omega | assumption | (simp only [push_n, set_n, put_n, List.length_cons, List.length_nil, List.length_append, Nat.reduceAdd]; done) | (simp only [push_n, set_n, put_n, List.length_cons, List.length_nil, List.length_append]; omega) | (simp only [List.all_cons, List.all_nil, one_bool, one_int, one_str, one_ptr, one_nilptr, one_slice, one_eslice, one_nilslice, one_func, one_iface, one_niliface, Bool.and_true, Bool.true_and, List.getD_cons_zero, List.getD_cons_succ, List.contains_cons, List.contains_nil, Bool.or_true, Bool.true_or, Bool.or_false, Bool.false_or, Nat.reduceBEq, *]; done) | fail)) only [i2, i4, i5, i6, q1, wk, v6o, v6c, go_sem, Hold.p, HoldK.k, HoldL.K, HoldL.body, Nat.reduceBEq, Nat.reduceAdd, reduceIte]
                  refine ⟨_, ?_, k + 1, 0, acc ++ [(nm, vl)], v6, g5.n, g5.n + 1, rfl, by omega, rfl, .inl ⟨rfl, hst⟩, ?_, by simp; omega, a5.setp b1 (by decide) _, o6.set (.inl (by omega)) _, by omega, ?_, ?_, b0.set (by omega), b1.here, E6.set1 _ (by omega)⟩
                  · omega
                  · intro f hf
                    rcases List.mem_append.1 hf with hf | hf
                    · exact hall f hf
                    · have : f = (nm, vl) := by simpa using hf
                      subst this; exact hfb
                  · show g5.n ≤ h6.n
                    omega
                  · show g5.n + 1 ≤ h6.n
                    omega
          · have d1 : decide ((t.length : Int) ≤ ((a + 1 : Nat) : Int)) = true := decide_eq_true (by omega)
            have hy32 : t[a + 1]? ≠ some 32 := by rw [List.getElem?_eq_none hge]; intro e; cases e
            rw [hbadc (cut_nocolon ha hno hstop hy32)]
            simp (disch := (first | omega | assumption | (simp only [push_n, set_n, put_n, List.length_cons, List.length_nil, List.length_append, Nat.reduceAdd]; done) | (simp only [push_n, set_n, put_n, List.length_cons, List.length_nil, List.length_append]; omega) | (simp only [List.all_cons, List.all_nil, one_bool, one_int, one_str, one_ptr, one_nilptr, one_slice, one_eslice, one_nilslice, one_func, one_iface, one_niliface, Bool.and_true, Bool.true_and, List.getD_cons_zero, List.getD_cons_succ, List.contains_cons, List.contains_nil, Bool.or_true, Bool.true_or, Bool.or_false, Bool.false_or, Nat.reduceBEq, *]; done) | fail)) only [i2, i4, i5, i6, i7, hia, hcl, w1, d1, q1, q0, vo, go_sem, Hold.p, HoldK.k, HoldL.K, HoldL.body, Nat.reduceBEq, Nat.reduceAdd, reduceIte]
            exact ⟨⟨_, _, _, _, rfl, rfl, vo, rfl, rfl⟩, E.set1 _ (Nat.le_refl _)⟩
      · have hk2 : k = L.length := by omega
        subst hk2
        simp (disch := (first | omega | assumption | (simp only [push_n, set_n, put_n, List.length_cons, List.length_nil, List.length_append, Nat.reduceAdd]; done) | (simp only [push_n, set_n, put_n, List.length_cons, List.length_nil, List.length_append]; omega) | (simp only [List.all_cons, List.all_nil, one_bool, one_int, one_str, one_ptr, one_nilptr, one_slice, one_eslice, one_nilslice, one_func, one_iface, one_niliface, Bool.and_true, Bool.true_and, List.getD_cons_zero, List.getD_cons_succ, List.contains_cons, List.contains_nil, Bool.or_true, Bool.true_or, Bool.or_false, Bool.false_or, Nat.reduceBEq, *]; done) | fail)) only [i2, i4, go_sem, Hold.p, HoldK.k, HoldL.K, HoldL.body, Nat.reduceBEq, Nat.reduceAdd, reduceIte]
        refine ⟨acc, nn, vf, lo, hi, ?_, hall, o, by omega, hhi, b0, b1, E⟩
        rcases hI with ⟨rfl, h⟩ | ⟨_, h⟩
        · exact linesF_end h
        · exact h
  clear i2 i4 i5 b0 b1 E a5 hlen hBg g e
  rintro e g ⟨fs, n, vf, lo, hi, hlin, hall, i2, i4, o, hlo, hhi, b0, b1, E⟩
  have q0 := b0.eq
  have q1 := b1.eq
  have vo := o.one
  have vl := o.lenF
  rw [fldRows_len] at vl
  have hsome := hdOk_some hlin
  have hrest : restB fs 0 = decide ((fs.length : Int) ≤ 16) := by
    unfold restB
    have : fs.all fldB = true := List.all_eq_true.2 hall
    rw [this, Bool.and_true, decide_eq_true (p := ((0 : Nat) : Int) ≤ 60000) (by omega), Bool.and_true]
  simp only [CC.split]
  simp (disch := (first | omega | assumption | (simp only [push_n, set_n, put_n, List.length_cons, List.length_nil, List.length_append, Nat.reduceAdd]; done) | (simp only [push_n, set_n, put_n, List.length_cons, List.length_nil, List.length_append]; omega) | (simp only [List.all_cons, List.all_nil, one_bool, one_int, one_str, one_ptr, one_nilptr, one_slice, one_eslice, one_nilslice, one_func, one_iface, one_niliface, Bool.and_true, Bool.true_and, List.getD_cons_zero, List.getD_cons_succ, List.contains_cons, List.contains_nil, Bool.or_true, Bool.true_or, Bool.or_false, Bool.false_or, Nat.reduceBEq, *]; done) | fail)) only [i2, i4, q1, q0, vo, vl, go_sem, Hold.p, HoldK.k, HoldL.K, HoldL.body, Nat.reduceBEq, Nat.reduceAdd, reduceIte]
  rw [hsome, hrest]
  refine ⟨?_, E.set1 _ (Nat.le_refl _)⟩
  by_cases h16 : (fs.length : Int) ≤ 16
  · rw [decide_eq_true h16, if_pos rfl]
    exact ⟨vf, rfl, (o.set (m := h.n) (.inl (by omega)) _).wide (by omega) (by show hi ≤ g.n; exact hhi) (Nat.le_refl _)⟩
  · rw [decide_eq_false h16, if_neg (by simp)]
    exact ⟨_, _, _, _, rfl, rfl, vo, rfl, rfl⟩
end
end Go.Proofs.YtdpaehdolhdjdaaDoor

set_option maxRecDepth 20000
namespace Go.Proofs.YtdpaehdolhdjdaaDoor
open Go Go.IW
section
attribute [local go_sem] List.getElem?_cons_zero List.getElem?_cons_succ Option.bind_some List.map_cons List.map_nil Nat.zero_add if_true List.getD_cons_zero List.getD_cons_succ List.contains_cons List.contains_nil Bool.or_true Bool.true_or Bool.or_false Bool.false_or Bool.not_true Bool.not_false true_and and_true rowA_whole mid_get stO_mid rowO_rows cellO_rows push_n set_n push_at push_old set_here set_there set_pushT set_pushN set_set upd_ne Nat.add_assoc Nat.add_zero stO_1s stO_ws boxA_s List.all_cons List.all_nil one_bool one_int one_str one_ptr one_nilptr one_slice one_eslice one_nilslice one_func one_iface one_niliface Bool.and_true Bool.and_self List.length_cons List.length_nil Nat.one_ne_zero Nat.succ_ne_zero if_false List.set_cons_zero List.set_cons_succ lay_nil lay_1 lay_w Option.map_some

def t_Got : Ty := .cat .str (.cat (.slice 163 t_Field) (.cat (.int .i64) (.cat (.slice 5 (.int .u8)) .nil)))
def gotD (first : Txt) (fs : List Fld) (n : Int) (body : Txt) : Dat := .pair (.str first) (.pair (.list (fs.map fldD)) (.pair (.int n) (.pair (bytesD body) .unit)))
def gotOf (m : Msg) : Dat := gotD m.1 m.2.1 m.2.2.length m.2.2
theorem got_ow {lo m hi : Nat} {h : IH} {vf vb : IV} {fs : List Fld} {body : Txt} (first : Txt) (n : Int) (hf : Own lo m h 163 2 vf (fldRows fs)) (hb : Own m hi h 5 1 vb (strRows body)) (h1 : lo ≤ m) (h2 : m ≤ hi) (hh : hi ≤ h.n) : Ow lo hi h t_Got [.str first, vf, .int .i64 n, vb] (gotD first fs n body) :=
  Ow.cat (lo := lo) (hi := hi) (str_ow lo lo h first (by omega)) (Ow.cat (lo := lo) (hi := hi) (flds_ow hf (by omega)) (Ow.cat (lo := m) (hi := hi) (int_ow m m h n (by omega)) (Ow.cat (lo := m) (hi := hi) (bytes_ow hb hh) (nil_ow hi hi h hh) (.inl (Nat.le_refl _)) (Nat.le_refl _) h2 (Nat.le_refl _) (Nat.le_refl _) hh)
    (.inl (Nat.le_refl _)) (Nat.le_refl _) (Nat.le_refl _) h2 (Nat.le_refl _) hh) (.inl (Nat.le_refl _)) (Nat.le_refl _) h1 h2 (Nat.le_refl _) hh) (.inl (Nat.le_refl _)) (Nat.le_refl _) (Nat.le_refl _) (by omega) (Nat.le_refl _) hh
theorem head_at {c : Txt} {i : Nat} (h0 : c[0]? ≠ some 10) (hi : atI c = i) : headI c = ((i + 2 : Nat) : Int) := by
  unfold headI
  rw [if_neg h0, hi, if_pos (by omega)]; rfl
theorem head_no {c : Txt} (h0 : c[0]? ≠ some 10) (hi : atI c = -1) : headI c = if 8000 ≤ c.length then -1 else 0 := by
  unfold headI
  rw [if_neg h0, hi, if_neg (by omega)]
theorem take_mid (bs : Txt) (a m : Nat) : (bs.take (a + m)).drop a = (bs.drop a).take m := by rw [List.take_drop]
theorem body_mid (bs : Txt) (a k n : Nat) : (bs.take (a + (k + n))).drop (a + k) = ((bs.drop a).take (k + n)).drop k := by rw [← take_mid, List.drop_drop]
set_option maxHeartbeats 1000000 in
theorem l20Read_c (h : IH) (v : IV) (bs : Txt) (req : Bool) (hs : SlR h 1 v (strRows bs)) (hl : bs.length ≤ 1048576) :
    ICalls Tryd.prog 43 [v, .bool req] h fun r h' => ReadRes h h' 77 t_Got gotOf r (readB req bs) ∧ Ext h h' := by
  refine icalls (.of ok43) (Nat.le_of_ble_eq_true rfl) ?_
  unfold c43
  have hs0 := hs
  have hlen := hs.lenF
  rw [strRows_len] at hlen
  refine vc_split 4 (fun e g => ∃ (at_ : Nat) (acc : List Msg) (vl : IV) (lo hi : Nat), e 7 = vl ∧ e 8 = .int .i64 (at_ : Nat) ∧ readB req bs = (acc, at_, 0) ∧ Ow lo hi g (.slice 77 t_Got) [vl] (.list (acc.map gotOf)) ∧ h.n ≤ lo ∧ Ext h g) ?_ ?_
  · simp only [CC.split]
    simp (disch := (first | omega | assumption | (simp only [push_n, set_n, put_n, List.length_cons, List.length_nil, List.length_append, Nat.reduceAdd]; done) | (simp only [push_n, set_n, put_n, List.length_cons, List.length_nil, List.length_append]; omega) | (simp only [List.all_cons, List.all_nil, one_bool, one_int, one_str, one_ptr, one_nilptr, one_slice, one_eslice, one_nilslice, one_func, one_iface, one_niliface, Bool.and_true, Bool.true_and, List.getD_cons_zero, List.getD_cons_succ, List.contains_cons, List.contains_nil, Bool.or_true, Bool.true_or, Bool.or_false, Bool.false_or, Nat.reduceBEq, *]; done) | fail)) only [go_sem, Hold.p, HoldK.k, HoldL.K, HoldL.body, Nat.reduceBEq, Nat.reduceAdd, reduceIte]
    refine loop_at (fun m e g => ∃ (at_ : Nat) (acc : List Msg) (vl : IV) (lo hi : Nat), m = bs.length - at_ ∧ at_ ≤ bs.length ∧ e 0 = v ∧ e 1 = .bool req ∧ e 7 = vl ∧ e 8 = .int .i64 (at_ : Nat) ∧ 2 * acc.length ≤ at_ ∧
      readB req bs = preR acc at_ (readB req (bs.drop at_)) ∧ Ow lo hi g (.slice 77 t_Got) [vl] (.list (acc.map gotOf)) ∧ h.n ≤ lo ∧ lo ≤ g.n ∧ Ext h g) bs.length ?_ ?_
    · refine ⟨0, [], .eslice true, h.n, h.n, by omega, by omega, ?_⟩
      simp (disch := (first | omega | assumption | (simp only [push_n, set_n, put_n, List.length_cons, List.length_nil, List.length_append, Nat.reduceAdd]; done) | (simp only [push_n, set_n, put_n, List.length_cons, List.length_nil, List.length_append]; omega) | (simp only [List.all_cons, List.all_nil, one_bool, one_int, one_str, one_ptr, one_nilptr, one_slice, one_eslice, one_nilslice, one_func, one_iface, one_niliface, Bool.and_true, Bool.true_and, List.getD_cons_zero, List.getD_cons_succ, List.contains_cons, List.contains_nil, Bool.or_true, Bool.true_or, Bool.or_false, Bool.false_or, Nat.reduceBEq, *]; done) | fail)) only [go_sem, Hold.p, HoldK.k, HoldL.K, HoldL.body, Nat.reduceBEq, Nat.reduceAdd, reduceIte]
      refine ⟨rfl, by simp, (preR_nil _).symm, Ow.empty0 h, Nat.le_refl _, Nat.le_refl _, Ext.refl _⟩
    · rintro m e g ⟨at_, acc, vl, lo, hi, rfl, hat, i0, i1, i7, i8, hac, hI, o, hlo, hlg, E⟩
      have hsg := hs0.ext E
      have hig : hi ≤ g.n := o.le
      simp (disch := (first | omega | assumption | (simp only [push_n, set_n, put_n, List.length_cons, List.length_nil, List.length_append, Nat.reduceAdd]; done) | (simp only [push_n, set_n, put_n, List.length_cons, List.length_nil, List.length_append]; omega) | (simp only [List.all_cons, List.all_nil, one_bool, one_int, one_str, one_ptr, one_nilptr, one_slice, one_eslice, one_nilslice, one_func, one_iface, one_niliface, Bool.and_true, Bool.true_and, List.getD_cons_zero, List.getD_cons_succ, List.contains_cons, List.contains_nil, Bool.or_true, Bool.true_or, Bool.or_false, Bool.false_or, Nat.reduceBEq, *]; done) | fail)) only [i0, i8, hlen, go_sem, Hold.p, HoldK.k, HoldL.K, HoldL.body, Nat.reduceBEq, Nat.reduceAdd, reduceIte]
      refine test_dec (fun hb => ?_) (fun hb => ?_)
      · obtain ⟨v17, hv17, hs17⟩ := hsg.lo (a := at_) (q := .i64) (by rw [strRows_len]; omega)
        rw [strRows_drop] at hs17
        have hcl : (bs.drop at_).length = bs.length - at_ := List.length_drop
        simp (disch := (first | omega | assumption | (simp only [push_n, set_n, put_n, List.length_cons, List.length_nil, List.length_append, Nat.reduceAdd]; done) | (simp only [push_n, set_n, put_n, List.length_cons, List.length_nil, List.length_append]; omega) | (simp only [List.all_cons, List.all_nil, one_bool, one_int, one_str, one_ptr, one_nilptr, one_slice, one_eslice, one_nilslice, one_func, one_iface, one_niliface, Bool.and_true, Bool.true_and, List.getD_cons_zero, List.getD_cons_succ, List.contains_cons, List.contains_nil, Bool.or_true, Bool.true_or, Bool.or_false, Bool.false_or, Nat.reduceBEq, *]; done) | fail)) only [i0, i8, Option.map_none, hv17, go_sem, Hold.p, HoldK.k, HoldL.K, HoldL.body, Nat.reduceBEq, Nat.reduceAdd, reduceIte]
        refine callA_of (l20Head_c g v17 (bs.drop at_) hs17 (by omega)) ?_
        rintro r g1 ⟨rfl, rfl⟩
        rcases Classical.em ((bs.drop at_)[0]? = some 10) with h0 | h0
        · have hres := readI_stop hI (one_nl h0)
          have hh : headI (bs.drop at_) = ((1 : Nat) : Int) := if_pos h0
          have d1 : decide (((1 : Nat) : Int) < 0) = false := rfl
          have d2 : decide (((1 : Nat) : Int) = 0) = false := rfl
          have w1 : wr .i64 ((at_ : Int) + ((1 : Nat) : Int)) = ((at_ + 1 : Nat) : Int) := by rw [wr64 _ (by omega)]; rfl
          obtain ⟨vh, hvh, hsh⟩ := hsg.lohi (a := at_) (b := at_ + 1) (q := .i64) (q' := .i64) (by omega) (by rw [strRows_len]; omega)
          rw [strRows_take, strRows_drop, take_mid] at hsh
          have hb2 := hsh.b2s
          rw [hh]
          simp (disch := (first | omega | assumption | (simp only [push_n, set_n, put_n, List.length_cons, List.length_nil, List.length_append, Nat.reduceAdd]; done) | (simp only [push_n, set_n, put_n, List.length_cons, List.length_nil, List.length_append]; omega) | (simp only [List.all_cons, List.all_nil, one_bool, one_int, one_str, one_ptr, one_nilptr, one_slice, one_eslice, one_nilslice, one_func, one_iface, one_niliface, Bool.and_true, Bool.true_and, List.getD_cons_zero, List.getD_cons_succ, List.contains_cons, List.contains_nil, Bool.or_true, Bool.true_or, Bool.or_false, Bool.false_or, Nat.reduceBEq, *]; done) | fail)) only [d1, d2, i0, i8, w1, hvh, hb2, go_sem, Hold.p, HoldK.k, HoldL.K, HoldL.body, Nat.reduceBEq, Nat.reduceAdd, reduceIte]
          refine callA_of (l20Lines_short g1 _ (by rw [List.length_take]; omega) (by rw [take_nl h0]; decide)) ?_
          rintro r g2 ⟨⟨c0, c1, c2, c3, rfl, o0, o1, o2, o3⟩, E2⟩
          have o := o.ext E2
          have le_E2 := E2.le
          simp (disch := (first | omega | assumption | (simp only [push_n, set_n, put_n, List.length_cons, List.length_nil, List.length_append, Nat.reduceAdd]; done) | (simp only [push_n, set_n, put_n, List.length_cons, List.length_nil, List.length_append]; omega) | (simp only [List.all_cons, List.all_nil, one_bool, one_int, one_str, one_ptr, one_nilptr, one_slice, one_eslice, one_nilslice, one_func, one_iface, one_niliface, Bool.and_true, Bool.true_and, List.getD_cons_zero, List.getD_cons_succ, List.contains_cons, List.contains_nil, Bool.or_true, Bool.true_or, Bool.or_false, Bool.false_or, Nat.reduceBEq, *]; done) | fail)) only [o0, o1, o2, o3, go_sem, Hold.p, HoldK.k, HoldL.K, HoldL.body, Nat.reduceBEq, Nat.reduceAdd, reduceIte]
          generalize hq_g3 : IH.push g2 (IObj.rows [[c0, c1, c2, c3]] 77 4 false) = g3
          have e_g3 : Ext g2 g3 := by rw [← hq_g3]; exact (Ext.refl _).push _
          have l_g3 : g3.n = g2.n + 1 := by rw [← hq_g3]; rfl
          have b3 : At g3 g2.n (IObj.rows [[c0, c1, c2, c3]] 77 4 false) := by rw [← hq_g3]; exact At.new _ _
          clear hq_g3
          have o := o.ext e_g3
          try simp (disch := (first | omega | assumption | (simp only [push_n, set_n, put_n, List.length_cons, List.length_nil, List.length_append, Nat.reduceAdd]; done) | (simp only [push_n, set_n, put_n, List.length_cons, List.length_nil, List.length_append]; omega) | (simp only [List.all_cons, List.all_nil, one_bool, one_int, one_str, one_ptr, one_nilptr, one_slice, one_eslice, one_nilslice, one_func, one_iface, one_niliface, Bool.and_true, Bool.true_and, List.getD_cons_zero, List.getD_cons_succ, List.contains_cons, List.contains_nil, Bool.or_true, Bool.true_or, Bool.or_false, Bool.false_or, Nat.reduceBEq, *]; done) | fail)) only [i7, i8, go_sem, Hold.p, HoldK.k, HoldL.K, HoldL.body, Nat.reduceBEq, Nat.reduceAdd, reduceIte]
          rw [hres]
          exact ⟨⟨vl, rfl, o.wide hlo o.le (Nat.le_refl _)⟩, (E.trans E2).trans e_g3⟩
        rcases atI_cases (bs.drop at_) with hm1 | ⟨i, hat2, k1, k2, k3, k4⟩
        · have hh := head_no h0 hm1
          by_cases h8 : 8000 ≤ (bs.drop at_).length
          · have hres := readI_stop hI (one_big h0 (by omega) h8)
            have d1 : decide ((-1 : Int) < 0) = true := rfl
            rw [hh, if_pos h8]
            simp (disch := (first | omega | assumption | (simp only [push_n, set_n, put_n, List.length_cons, List.length_nil, List.length_append, Nat.reduceAdd]; done) | (simp only [push_n, set_n, put_n, List.length_cons, List.length_nil, List.length_append]; omega) | (simp only [List.all_cons, List.all_nil, one_bool, one_int, one_str, one_ptr, one_nilptr, one_slice, one_eslice, one_nilslice, one_func, one_iface, one_niliface, Bool.and_true, Bool.true_and, List.getD_cons_zero, List.getD_cons_succ, List.contains_cons, List.contains_nil, Bool.or_true, Bool.true_or, Bool.or_false, Bool.false_or, Nat.reduceBEq, *]; done) | fail)) only [d1, i7, i8, go_sem, Hold.p, HoldK.k, HoldL.K, HoldL.body, Nat.reduceBEq, Nat.reduceAdd, reduceIte]
            rw [hres]
            exact ⟨⟨vl, rfl, o.wide hlo o.le (Nat.le_refl _)⟩, E⟩
          · have hres := readI_stop hI (one_wait h0 (by omega) h8)
            have d1 : decide ((0 : Int) < 0) = false := rfl
            have d2 : decide ((0 : Int) = 0) = true := rfl
            rw [hh, if_neg h8]
            simp (disch := (first | omega | assumption | (simp only [push_n, set_n, put_n, List.length_cons, List.length_nil, List.length_append, Nat.reduceAdd]; done) | (simp only [push_n, set_n, put_n, List.length_cons, List.length_nil, List.length_append]; omega) | (simp only [List.all_cons, List.all_nil, one_bool, one_int, one_str, one_ptr, one_nilptr, one_slice, one_eslice, one_nilslice, one_func, one_iface, one_niliface, Bool.and_true, Bool.true_and, List.getD_cons_zero, List.getD_cons_succ, List.contains_cons, List.contains_nil, Bool.or_true, Bool.true_or, Bool.or_false, Bool.false_or, Nat.reduceBEq, *]; done) | fail)) only [d1, d2, decide_true, i7, i8, go_sem, Hold.p, HoldK.k, HoldL.K, HoldL.body, Nat.reduceBEq, Nat.reduceAdd, reduceIte]
            exact ⟨at_, acc, vl, lo, hi, rfl, rfl, hres, o, hlo, E⟩
        · have hh := head_at h0 hat2
          obtain ⟨q, hq⟩ : ∃ q, q = i + 2 := ⟨_, rfl⟩
          rw [← hq] at hh
          have d1 : decide ((q : Int) < 0) = false := decide_eq_false (by omega)
          have d2 : decide ((q : Int) = 0) = false := decide_eq_false (by omega)
          have w1 : wr .i64 ((at_ : Int) + (q : Int)) = ((at_ + q : Nat) : Int) := by rw [wr64 _ (by omega)]; rfl
          obtain ⟨vh, hvh, hsh⟩ := hsg.lohi (a := at_) (b := at_ + q) (q := .i64) (q' := .i64) (by omega) (by rw [strRows_len]; omega)
          rw [strRows_take, strRows_drop, take_mid] at hsh
          have hb2 := hsh.b2s
          rw [hh]
          simp (disch := (first | omega | assumption | (simp only [push_n, set_n, put_n, List.length_cons, List.length_nil, List.length_append, Nat.reduceAdd]; done) | (simp only [push_n, set_n, put_n, List.length_cons, List.length_nil, List.length_append]; omega) | (simp only [List.all_cons, List.all_nil, one_bool, one_int, one_str, one_ptr, one_nilptr, one_slice, one_eslice, one_nilslice, one_func, one_iface, one_niliface, Bool.and_true, Bool.true_and, List.getD_cons_zero, List.getD_cons_succ, List.contains_cons, List.contains_nil, Bool.or_true, Bool.true_or, Bool.or_false, Bool.false_or, Nat.reduceBEq, *]; done) | fail)) only [d1, d2, i0, i8, w1, hvh, hb2, go_sem, Hold.p, HoldK.k, HoldL.K, HoldL.body, Nat.reduceBEq, Nat.reduceAdd, reduceIte]
          have hcc : cutAt 10 ((bs.drop at_).take q) = cutAt 10 ((bs.drop at_).take i) ++ [[], []] := by rw [hq]; exact cut_head k3 k4
          cases hcut : cutAt 10 ((bs.drop at_).take i) with
          | nil => exact absurd hcut (cutAt_ne 10 _)
          | cons first L =>
            rw [hcut] at hcc
            have hone : oneB req (bs.drop at_) = bodyO req (bs.drop at_) first i (hdOk L) := one_body h0 hat2 hcut
            have hfst : first.length ≤ 1048576 := by
              have := piece_len 10 _ first (by rw [hcut]; exact List.mem_cons_self)
              rw [List.length_take] at this
              omega
            refine callA_of (l20Lines_c g1 _ first L (by rw [List.length_take]; omega) hcc) ?_
            rintro r g2 ⟨hr, E2⟩
            cases hhd : hdOk L with
            | none =>
              rw [hhd] at hr
              obtain ⟨c0, c1, c2, c3, rfl, o0, o1, o2, o3⟩ := hr
              have hres := readI_stop hI (hone.trans (by rw [hhd]; rfl))
              have o := o.ext E2
              have le_E2 := E2.le
              simp (disch := (first | omega | assumption | (simp only [push_n, set_n, put_n, List.length_cons, List.length_nil, List.length_append, Nat.reduceAdd]; done) | (simp only [push_n, set_n, put_n, List.length_cons, List.length_nil, List.length_append]; omega) | (simp only [List.all_cons, List.all_nil, one_bool, one_int, one_str, one_ptr, one_nilptr, one_slice, one_eslice, one_nilslice, one_func, one_iface, one_niliface, Bool.and_true, Bool.true_and, List.getD_cons_zero, List.getD_cons_succ, List.contains_cons, List.contains_nil, Bool.or_true, Bool.true_or, Bool.or_false, Bool.false_or, Nat.reduceBEq, *]; done) | fail)) only [o0, o1, o2, o3, go_sem, Hold.p, HoldK.k, HoldL.K, HoldL.body, Nat.reduceBEq, Nat.reduceAdd, reduceIte]
              generalize hq_g3 : IH.push g2 (IObj.rows [[c0, c1, c2, c3]] 77 4 false) = g3
              have e_g3 : Ext g2 g3 := by rw [← hq_g3]; exact (Ext.refl _).push _
              have l_g3 : g3.n = g2.n + 1 := by rw [← hq_g3]; rfl
              have b3 : At g3 g2.n (IObj.rows [[c0, c1, c2, c3]] 77 4 false) := by rw [← hq_g3]; exact At.new _ _
              clear hq_g3
              have o := o.ext e_g3
              try simp (disch := (first | omega | assumption | (simp only [push_n, set_n, put_n, List.length_cons, List.length_nil, List.length_append, Nat.reduceAdd]; done) | (simp only [push_n, set_n, put_n, List.length_cons, List.length_nil, List.length_append]; omega) | (simp only [List.all_cons, List.all_nil, one_bool, one_int, one_str, one_ptr, one_nilptr, one_slice, one_eslice, one_nilslice, one_func, one_iface, one_niliface, Bool.and_true, Bool.true_and, List.getD_cons_zero, List.getD_cons_succ, List.contains_cons, List.contains_nil, Bool.or_true, Bool.true_or, Bool.or_false, Bool.false_or, Nat.reduceBEq, *]; done) | fail)) only [i7, i8, go_sem, Hold.p, HoldK.k, HoldL.K, HoldL.body, Nat.reduceBEq, Nat.reduceAdd, reduceIte]
              rw [hres]
              exact ⟨⟨vl, rfl, o.wide hlo o.le (Nat.le_refl _)⟩, (E.trans E2).trans e_g3⟩
            | some fn =>
              obtain ⟨fs, n⟩ := fn
              rw [hhd] at hr hone
              obtain ⟨vf, rfl, of_⟩ := hr
              obtain ⟨hl1, hrest, hn6⟩ := hdOk_un hhd
              have hrb := restB_un hrest
              have vf1 := of_.one
              have o := o.ext E2
              have le_E2 := E2.le
              simp (disch := (first | omega | assumption | (simp only [push_n, set_n, put_n, List.length_cons, List.length_nil, List.length_append, Nat.reduceAdd]; done) | (simp only [push_n, set_n, put_n, List.length_cons, List.length_nil, List.length_append]; omega) | (simp only [List.all_cons, List.all_nil, one_bool, one_int, one_str, one_ptr, one_nilptr, one_slice, one_eslice, one_nilslice, one_func, one_iface, one_niliface, Bool.and_true, Bool.true_and, List.getD_cons_zero, List.getD_cons_succ, List.contains_cons, List.contains_nil, Bool.or_true, Bool.true_or, Bool.or_false, Bool.false_or, Nat.reduceBEq, *]; done) | fail)) only [vf1, go_sem, Hold.p, HoldK.k, HoldL.K, HoldL.body, Nat.reduceBEq, Nat.reduceAdd, reduceIte]
              generalize hq_g3 : IH.push g2 (gotObj first vf (n : Nat) .nilslice) = g3
              have e_g3 : Ext g2 g3 := by rw [← hq_g3]; exact (Ext.refl _).push _
              have l_g3 : g3.n = g2.n + 1 := by rw [← hq_g3]; rfl
              have b3 : At g3 g2.n (gotObj first vf (n : Nat) .nilslice) := by rw [← hq_g3]; exact At.new _ _
              clear hq_g3
              have o := o.ext e_g3
              have of_ := of_.ext e_g3
              have q3 := b3.eq
              try simp (disch := (first | omega | assumption | (simp only [push_n, set_n, put_n, List.length_cons, List.length_nil, List.length_append, Nat.reduceAdd]; done) | (simp only [push_n, set_n, put_n, List.length_cons, List.length_nil, List.length_append]; omega) | (simp only [List.all_cons, List.all_nil, one_bool, one_int, one_str, one_ptr, one_nilptr, one_slice, one_eslice, one_nilslice, one_func, one_iface, one_niliface, Bool.and_true, Bool.true_and, List.getD_cons_zero, List.getD_cons_succ, List.contains_cons, List.contains_nil, Bool.or_true, Bool.true_or, Bool.or_false, Bool.false_or, Nat.reduceBEq, *]; done) | fail)) only [q3, i1, go_sem, Hold.p, HoldK.k, HoldL.K, HoldL.body, Nat.reduceBEq, Nat.reduceAdd, reduceIte]
              refine callA_of (l20First_c g3 first req hfst) ?_
              rintro r g4 ⟨rfl, E4⟩
              have b3 := b3.ext E4
              have o := o.ext E4
              have of_ := of_.ext E4
              have le_E4 := E4.le
              have q3 := b3.eq
              simp (disch := (first | omega | assumption | (simp only [push_n, set_n, put_n, List.length_cons, List.length_nil, List.length_append, Nat.reduceAdd]; done) | (simp only [push_n, set_n, put_n, List.length_cons, List.length_nil, List.length_append]; omega) | (simp only [List.all_cons, List.all_nil, one_bool, one_int, one_str, one_ptr, one_nilptr, one_slice, one_eslice, one_nilslice, one_func, one_iface, one_niliface, Bool.and_true, Bool.true_and, List.getD_cons_zero, List.getD_cons_succ, List.contains_cons, List.contains_nil, Bool.or_true, Bool.true_or, Bool.or_false, Bool.false_or, Nat.reduceBEq, *]; done) | fail)) only [go_sem, Hold.p, HoldK.k, HoldL.K, HoldL.body, Nat.reduceBEq, Nat.reduceAdd, reduceIte]
              refine test_of (fun hc => ?_) (fun hc => ?_)
              · have hf : firstB req first = false := by rwa [Bool.not_eq_true'] at hc
                have hres := readI_stop hI (hone.trans (by unfold bodyO; rw [hf]; rfl))
                simp (disch := (first | omega | assumption | (simp only [push_n, set_n, put_n, List.length_cons, List.length_nil, List.length_append, Nat.reduceAdd]; done) | (simp only [push_n, set_n, put_n, List.length_cons, List.length_nil, List.length_append]; omega) | (simp only [List.all_cons, List.all_nil, one_bool, one_int, one_str, one_ptr, one_nilptr, one_slice, one_eslice, one_nilslice, one_func, one_iface, one_niliface, Bool.and_true, Bool.true_and, List.getD_cons_zero, List.getD_cons_succ, List.contains_cons, List.contains_nil, Bool.or_true, Bool.true_or, Bool.or_false, Bool.false_or, Nat.reduceBEq, *]; done) | fail)) only [i7, i8, go_sem, Hold.p, HoldK.k, HoldL.K, HoldL.body, Nat.reduceBEq, Nat.reduceAdd, reduceIte]
                rw [hres]
                exact ⟨⟨vl, rfl, o.wide hlo o.le (Nat.le_refl _)⟩, ((E.trans E2).trans e_g3).trans E4⟩
              · have hf : firstB req first = true := by rwa [Bool.not_eq_false'] at hc
                have w2 : wr .i64 (((at_ + q : Nat) : Int) + (n : Int)) = ((at_ + (q + n) : Nat) : Int) := by rw [wr64 _ (by omega)]; omega
                simp (disch := (first | omega | assumption | (simp only [push_n, set_n, put_n, List.length_cons, List.length_nil, List.length_append, Nat.reduceAdd]; done) | (simp only [push_n, set_n, put_n, List.length_cons, List.length_nil, List.length_append]; omega) | (simp only [List.all_cons, List.all_nil, one_bool, one_int, one_str, one_ptr, one_nilptr, one_slice, one_eslice, one_nilslice, one_func, one_iface, one_niliface, Bool.and_true, Bool.true_and, List.getD_cons_zero, List.getD_cons_succ, List.contains_cons, List.contains_nil, Bool.or_true, Bool.true_or, Bool.or_false, Bool.false_or, Nat.reduceBEq, *]; done) | fail)) only [i0, i8, w1, w2, q3, hlen, go_sem, Hold.p, HoldK.k, HoldL.K, HoldL.body, Nat.reduceBEq, Nat.reduceAdd, reduceIte]
                refine test_dec (fun hb3 => ?_) (fun hb3 => ?_)
                · have hres := readI_stop hI (hone.trans (by unfold bodyO; simp only [hf, if_true]; rw [if_neg (by omega)]))
                  simp (disch := (first | omega | assumption | (simp only [push_n, set_n, put_n, List.length_cons, List.length_nil, List.length_append, Nat.reduceAdd]; done) | (simp only [push_n, set_n, put_n, List.length_cons, List.length_nil, List.length_append]; omega) | (simp only [List.all_cons, List.all_nil, one_bool, one_int, one_str, one_ptr, one_nilptr, one_slice, one_eslice, one_nilslice, one_func, one_iface, one_niliface, Bool.and_true, Bool.true_and, List.getD_cons_zero, List.getD_cons_succ, List.contains_cons, List.contains_nil, Bool.or_true, Bool.true_or, Bool.or_false, Bool.false_or, Nat.reduceBEq, *]; done) | fail)) only [i7, i8, go_sem, Hold.p, HoldK.k, HoldL.K, HoldL.body, Nat.reduceBEq, Nat.reduceAdd, reduceIte]
                  exact ⟨at_, acc, vl, lo, hi, rfl, rfl, hres, o, hlo, ((E.trans E2).trans e_g3).trans E4⟩
                · have hsz : i + 2 + n = q + n := by omega
                  have hmsg : oneB req (bs.drop at_) = .msg first fs ((bs.take (at_ + (q + n))).drop (at_ + q)) (q + n) := by
                    rw [hone]; unfold bodyO; simp only [hf, if_true]; rw [if_pos (by omega), hsz, body_mid, hq]
                  have hres := readI_msg hI hmsg
                  have hsg4 := hs0.ext (((E.trans E2).trans e_g3).trans E4)
                  obtain ⟨vb, hvb, hsb⟩ := hsg4.lohi (a := at_ + q) (b := at_ + (q + n)) (q := .i64) (q' := .i64) (by omega) (by rw [strRows_len]; omega)
                  rw [strRows_take, strRows_drop] at hsb
                  have hbl : ((bs.take (at_ + (q + n))).drop (at_ + q)).length = n := by rw [List.length_drop, List.length_take]; omega
                  generalize (bs.take (at_ + (q + n))).drop (at_ + q) = body at hsb hres hbl hmsg
                  simp (disch := (first | omega | assumption | (simp only [push_n, set_n, put_n, List.length_cons, List.length_nil, List.length_append, Nat.reduceAdd]; done) | (simp only [push_n, set_n, put_n, List.length_cons, List.length_nil, List.length_append]; omega) | (simp only [List.all_cons, List.all_nil, one_bool, one_int, one_str, one_ptr, one_nilptr, one_slice, one_eslice, one_nilslice, one_func, one_iface, one_niliface, Bool.and_true, Bool.true_and, List.getD_cons_zero, List.getD_cons_succ, List.contains_cons, List.contains_nil, Bool.or_true, Bool.true_or, Bool.or_false, Bool.false_or, Nat.reduceBEq, *]; done) | fail)) only [i0, i8, w1, w2, hvb, go_sem, Hold.p, HoldK.k, HoldL.K, HoldL.body, Nat.reduceBEq, Nat.reduceAdd, reduceIte]
                  refine callA_of (l01Copy_c g4 vb body hsb (by omega)) ?_
                  rintro r g5 ⟨ob, E5⟩
                  have b3 := b3.ext E5
                  have o := o.ext E5
                  have of_ := of_.ext E5
                  have le_E5 := E5.le
                  have q3 := b3.eq
                  have ob1 := ob.one
                  have ob2 := ob.cells
                  simp (disch := (first | omega | assumption | (simp only [push_n, set_n, put_n, List.length_cons, List.length_nil, List.length_append, Nat.reduceAdd]; done) | (simp only [push_n, set_n, put_n, List.length_cons, List.length_nil, List.length_append]; omega) | (simp only [List.all_cons, List.all_nil, one_bool, one_int, one_str, one_ptr, one_nilptr, one_slice, one_eslice, one_nilslice, one_func, one_iface, one_niliface, Bool.and_true, Bool.true_and, List.getD_cons_zero, List.getD_cons_succ, List.contains_cons, List.contains_nil, Bool.or_true, Bool.true_or, Bool.or_false, Bool.false_or, Nat.reduceBEq, *]; done) | fail)) only [q3, vf1, ob1, ob2, Bool.and_self, go_sem, Hold.p, HoldK.k, HoldL.K, HoldL.body, Nat.reduceBEq, Nat.reduceAdd, reduceIte]
                  have hg4 := e_g3.le
                  have o := o.trn (Trn.set (lo := g2.n) (hi := g2.n + 1) (gotObj first vf (n : Nat) r) ⟨Nat.le_refl _, Nat.lt_succ_self _⟩) (.inl (by omega))
                  have E6 := ((((E.trans E2).trans e_g3).trans E4).trans E5).set1 (l := g2.n) (gotObj first vf (n : Nat) r) (by have := E2.le; have := E.le; omega)
                  generalize hq_g6 : IH.set g5 (g2.n) (gotObj first vf (n : Nat) r) = g6
                  have l_g6 : g6.n = g5.n := by rw [← hq_g6]; rfl
                  have b3 : At g6 (g2.n) (gotObj first vf (n : Nat) r) := by rw [← hq_g6]; exact b3.here
                  have of_ := of_.set (m := g2.n) (by omega) (gotObj first vf (n : Nat) r)
                  rw [hq_g6] at of_
                  have ob := ob.set (m := g2.n) (by omega) (gotObj first vf (n : Nat) r)
                  rw [hq_g6] at ob
                  rw [hq_g6] at o
                  rw [hq_g6] at E6
                  clear hq_g6
                  generalize hq_g7 : IH.push g6 (gotObj first vf (n : Nat) r) = g7
                  have e_g7 : Ext g6 g7 := by rw [← hq_g7]; exact (Ext.refl _).push _
                  have l_g7 : g7.n = g6.n + 1 := by rw [← hq_g7]; rfl
                  have b7 : At g7 g6.n (gotObj first vf (n : Nat) r) := by rw [← hq_g7]; exact At.new _ _
                  clear hq_g7
                  have o := o.ext e_g7
                  have of_ := of_.ext e_g7
                  have ob := ob.ext e_g7
                  have q7 := b7.eq
                  try simp (disch := (first | omega | assumption | (simp only [push_n, set_n, put_n, List.length_cons, List.length_nil, List.length_append, Nat.reduceAdd]; done) | (simp only [push_n, set_n, put_n, List.length_cons, List.length_nil, List.length_append]; omega) | (simp only [List.all_cons, List.all_nil, one_bool, one_int, one_str, one_ptr, one_nilptr, one_slice, one_eslice, one_nilslice, one_func, one_iface, one_niliface, Bool.and_true, Bool.true_and, List.getD_cons_zero, List.getD_cons_succ, List.contains_cons, List.contains_nil, Bool.or_true, Bool.true_or, Bool.or_false, Bool.false_or, Nat.reduceBEq, *]; done) | fail)) only [i7, q7, go_sem, Hold.p, HoldK.k, HoldL.K, HoldL.body, Nat.reduceBEq, Nat.reduceAdd, reduceIte]
                  have hx := got_ow (lo := g1.n) (m := g4.n) (hi := g5.n) first (n : Nat) (of_.wide (Nat.le_refl _) (by omega) (by omega)) ob (by omega) (by omega) (by omega)
                  refine Ow.app (lo' := h.n) o hx (.inl hig) (by omega) (by omega) (by omega) (by rw [List.length_map]; omega) ?_
                  intro v8 h8 o8 t8 n8 v8o v8c
                  have E8 := (E6.trans e_g7).trn t8 hlo
                  simp (disch := (first | omega | assumption | (simp only [push_n, set_n, put_n, List.length_cons, List.length_nil, List.length_append, Nat.reduceAdd]; done) | (simp only [push_n, set_n, put_n, List.length_cons, List.length_nil, List.length_append]; omega) | (simp only [List.all_cons, List.all_nil, one_bool, one_int, one_str, one_ptr, one_nilptr, one_slice, one_eslice, one_nilslice, one_func, one_iface, one_niliface, Bool.and_true, Bool.true_and, List.getD_cons_zero, List.getD_cons_succ, List.contains_cons, List.contains_nil, Bool.or_true, Bool.true_or, Bool.or_false, Bool.false_or, Nat.reduceBEq, *]; done) | fail)) only [i0, i1, i8, w1, w2, go_sem, Hold.p, HoldK.k, HoldL.K, HoldL.body, Nat.reduceBEq, Nat.reduceAdd, reduceIte]
                  refine ⟨_, ?_, at_ + (q + n), acc ++ [(first, fs, body)], v8, h.n, h8.n, rfl, by omega, rfl, rfl, by simp; omega, hres, ?_, Nat.le_refl _, by omega, E8⟩
                  · omega
                  · rw [List.map_append]
                    have : gotOf (first, fs, body) = gotD first fs (n : Nat) body := by unfold gotOf; rw [hbl]
                    simp only [List.map_cons, List.map_nil, this]
                    exact o8
      · have hnil : bs.drop at_ = [] := List.drop_eq_nil_of_le (by omega)
        have hres := readI_stop hI (one_wait (by rw [hnil]; simp) (by rw [hnil]; decide) (by rw [hnil]; simp))
        simp (disch := (first | omega | assumption | (simp only [push_n, set_n, put_n, List.length_cons, List.length_nil, List.length_append, Nat.reduceAdd]; done) | (simp only [push_n, set_n, put_n, List.length_cons, List.length_nil, List.length_append]; omega) | (simp only [List.all_cons, List.all_nil, one_bool, one_int, one_str, one_ptr, one_nilptr, one_slice, one_eslice, one_nilslice, one_func, one_iface, one_niliface, Bool.and_true, Bool.true_and, List.getD_cons_zero, List.getD_cons_succ, List.contains_cons, List.contains_nil, Bool.or_true, Bool.true_or, Bool.or_false, Bool.false_or, Nat.reduceBEq, *]; done) | fail)) only [i7, i8, go_sem, Hold.p, HoldK.k, HoldL.K, HoldL.body, Nat.reduceBEq, Nat.reduceAdd, reduceIte]
        exact ⟨at_, acc, vl, lo, hi, rfl, rfl, hres, o, hlo, E⟩
  rintro e g ⟨at_, acc, vl, lo, hi, i7, i8, hres, o, hlo, E⟩
  simp only [CC.split]
  simp (disch := (first | omega | assumption | (simp only [push_n, set_n, put_n, List.length_cons, List.length_nil, List.length_append, Nat.reduceAdd]; done) | (simp only [push_n, set_n, put_n, List.length_cons, List.length_nil, List.length_append]; omega) | (simp only [List.all_cons, List.all_nil, one_bool, one_int, one_str, one_ptr, one_nilptr, one_slice, one_eslice, one_nilslice, one_func, one_iface, one_niliface, Bool.and_true, Bool.true_and, List.getD_cons_zero, List.getD_cons_succ, List.contains_cons, List.contains_nil, Bool.or_true, Bool.true_or, Bool.or_false, Bool.false_or, Nat.reduceBEq, *]; done) | fail)) only [i7, i8, go_sem, Hold.p, HoldK.k, HoldL.K, HoldL.body, Nat.reduceBEq, Nat.reduceAdd, reduceIte]
  rw [hres]
  exact ⟨⟨vl, rfl, o.wide hlo o.le (Nat.le_refl _)⟩, E⟩
end
end Go.Proofs.YtdpaehdolhdjdaaDoor

set_option maxRecDepth 20000
namespace Go.Proofs.YtdpaehdolhdjdaaDoor
open Go Go.IW
section
attribute [local go_sem] List.getElem?_cons_zero List.getElem?_cons_succ Option.bind_some List.map_cons List.map_nil Nat.zero_add if_true List.getD_cons_zero List.getD_cons_succ List.contains_cons List.contains_nil Bool.or_true Bool.true_or Bool.or_false Bool.false_or Bool.not_true Bool.not_false true_and and_true rowA_whole mid_get stO_mid rowO_rows cellO_rows push_n set_n push_at push_old set_here set_there set_pushT set_pushN set_set upd_ne Nat.add_assoc Nat.add_zero stO_1s stO_ws boxA_s List.all_cons List.all_nil one_bool one_int one_str one_ptr one_nilptr one_slice one_eslice one_nilslice one_func one_iface one_niliface Bool.and_true Bool.and_self List.length_cons List.length_nil Nat.one_ne_zero Nat.succ_ne_zero if_false List.set_cons_zero List.set_cons_succ lay_nil lay_1 lay_w Option.map_some

theorem _root_.Go.IW.Turn.trn1 {lo hi el sz : Nat} {h h' : IH} {v : IV} {rs : List (List IV)} (t : Turn v h h') (o : Own lo hi h el sz v rs) : Trn lo hi h h' :=
  ⟨t.le, fun m hm hv => t.obj m hm (fun e => hv (o.at_ e))⟩
theorem got_vw {S : Nat → Prop} {h : IH} {cs : List IV} {m : Msg} (hv : Rp S h t_Got cs (gotOf m)) : ∃ vf vb, cs = [.str m.1, vf, .int .i64 (m.2.2.length : Nat), vb] ∧ Rp S h (.slice 163 t_Field) [vf] (.list (m.2.1.map fldD)) ∧ Rp S h (.slice 5 (.int .u8)) [vb] (bytesD m.2.2) := by
  obtain ⟨_, _, _, _, rfl, e1, ⟨a1, rfl, r1⟩, c2, _, d2, _, rfl, e2, h2, _, _, _, _, rfl, e3, ⟨a3, rfl, r3⟩, c4, _, d4, _, rfl, e4, h4, rfl, r5⟩ := hv
  obtain ⟨vf, rfl⟩ := one_list rfl (Rp.len h2)
  obtain ⟨vb, rfl⟩ := one_list rfl (Rp.len h4)
  subst r1 r3 r5
  simp only [gotOf, gotD, Dat.pair.injEq] at e1
  obtain ⟨f1, rfl⟩ := e1
  simp only [Dat.pair.injEq] at e2
  obtain ⟨rfl, rfl⟩ := e2
  simp only [Dat.pair.injEq] at e3
  obtain ⟨f3, rfl⟩ := e3
  simp only [Dat.pair.injEq, and_true] at e4
  subst e4
  simp only [Dat.str.injEq] at f1
  simp only [Dat.int.injEq] at f3
  subst f1 f3
  exact ⟨vf, vb, rfl, h2, h4⟩
theorem rep_rp {S : Nat → Prop} {h : IH} {vf vb : IV} {fs : List Fld} {body : Txt} (st : Int) (h1 : Rp S h (.slice 163 t_Field) [vf] (.list (fs.map fldD))) (h2 : Rp S h (.slice 5 (.int .u8)) [vb] (bytesD body)) : Rp S h t_Reply [.int .i64 st, vf, vb] (repD st fs body) :=
  ⟨[_], [_, _], _, _, rfl, rfl, ⟨st, rfl, rfl⟩, [_], [_], _, _, rfl, rfl, h1, [_], [], _, _, rfl, rfl, h2, rfl, rfl⟩
/-- Lists that are read: messages seen. -/
def SeenRes (h h' : IH) (el : Nat) (t : Ty) (f : Msg → Dat) (r : IV) (R : List Msg × Nat × Int) : Prop := ∃ vl, r = .tuple [vl, .int .i64 (R.2.1 : Nat), .int .i64 R.2.2] ∧ Vw h.n h'.n h' (.slice el t) [vl] (.list (R.1.map f))

set_option maxHeartbeats 1000000 in
theorem specReadReplies_c (h : IH) (v : IV) (bs : Txt) (hs : SlR h 1 v (strRows bs)) (hl : bs.length ≤ 1048576) :
    ICalls Tryd.prog 8 [v] h fun r h' => SeenRes h h' 81 t_Reply repOf r (readB false bs) ∧ Ext h h' := by
  refine icalls (.of ok8) (Nat.le_of_ble_eq_true rfl) ?_
  unfold c8
  obtain ⟨hms, hcount⟩ := read_all false 1048576 bs hl
  simp (disch := (first | omega | assumption | (simp only [push_n, set_n, put_n, List.length_cons, List.length_nil, List.length_append, Nat.reduceAdd]; done) | (simp only [push_n, set_n, put_n, List.length_cons, List.length_nil, List.length_append]; omega) | (simp only [List.all_cons, List.all_nil, one_bool, one_int, one_str, one_ptr, one_nilptr, one_slice, one_eslice, one_nilslice, one_func, one_iface, one_niliface, Bool.and_true, Bool.true_and, List.getD_cons_zero, List.getD_cons_succ, List.contains_cons, List.contains_nil, Bool.or_true, Bool.true_or, Bool.or_false, Bool.false_or, Nat.reduceBEq, *]; done) | fail)) only [go_sem, Hold.p, HoldK.k, HoldL.K, HoldL.body, Nat.reduceBEq, Nat.reduceAdd, reduceIte]
  refine callA_of (l20Read_c h v bs false hs hl) ?_
  rintro r g ⟨⟨vl, rfl, ol⟩, E⟩
  generalize readB false bs = R at hms hcount ol
  obtain ⟨ms, n, c⟩ := R
  simp only at hms hcount ol ⊢
  have hV0 := ol.view
  obtain ⟨v', rs, ds, e1, e2, hsl, hS, hall⟩ := hV0
  obtain rfl := (List.cons.inj e1).1
  simp only [Dat.list.injEq] at e2
  subst e2
  clear e1 ol
  obtain ⟨B, hB⟩ : ∃ B, B = g.n := ⟨_, rfl⟩
  rw [← hB] at hS hall
  have hln := hall.len
  rw [List.length_map] at hln
  have hlenl := hsl.lenF
  rw [hln] at hlenl
  have al : Arg B g 4 vl rs := ⟨hsl, by rw [hB]; exact hsl.lt⟩
  have hhB : h.n ≤ B := by have := E.le; omega
  clear hsl
  have vlo := al.sl.one
  simp (disch := (first | omega | assumption | (simp only [push_n, set_n, put_n, List.length_cons, List.length_nil, List.length_append, Nat.reduceAdd]; done) | (simp only [push_n, set_n, put_n, List.length_cons, List.length_nil, List.length_append]; omega) | (simp only [List.all_cons, List.all_nil, one_bool, one_int, one_str, one_ptr, one_nilptr, one_slice, one_eslice, one_nilslice, one_func, one_iface, one_niliface, Bool.and_true, Bool.true_and, List.getD_cons_zero, List.getD_cons_succ, List.contains_cons, List.contains_nil, Bool.or_true, Bool.true_or, Bool.or_false, Bool.false_or, Nat.reduceBEq, *]; done) | fail)) only [vlo, go_sem, Hold.p, HoldK.k, HoldL.K, HoldL.body, Nat.reduceBEq, Nat.reduceAdd, reduceIte]
  refine loop_at (fun m e g => ∃ (k : Nat) (x : IV) (rows : List (List IV)) (lo hi : Nat), m = ms.length - k ∧ k ≤ ms.length ∧ e 5 = vl ∧ e 6 = .int .i64 (n : Nat) ∧ e 7 = .int .i64 c ∧ e 8 = x ∧ e 9 = .int .i64 (k : Nat) ∧
    Arg B g 4 vl rs ∧ All2 (Rp (fun l => h.n ≤ l ∧ l < B) g t_Got) rs (ms.map gotOf) ∧ All2 (Rp (fun l => h.n ≤ l ∧ l < B) g t_Reply) rows ((ms.take k).map repOf) ∧ Own lo hi g 81 3 x rows ∧ B ≤ lo ∧ lo ≤ g.n ∧ hi ≤ g.n ∧ Ext h g) ms.length ?_ ?_
  · refine ⟨0, .eslice true, [], g.n, g.n, by omega, by omega, ?_⟩
    simp (disch := (first | omega | assumption | (simp only [push_n, set_n, put_n, List.length_cons, List.length_nil, List.length_append, Nat.reduceAdd]; done) | (simp only [push_n, set_n, put_n, List.length_cons, List.length_nil, List.length_append]; omega) | (simp only [List.all_cons, List.all_nil, one_bool, one_int, one_str, one_ptr, one_nilptr, one_slice, one_eslice, one_nilslice, one_func, one_iface, one_niliface, Bool.and_true, Bool.true_and, List.getD_cons_zero, List.getD_cons_succ, List.contains_cons, List.contains_nil, Bool.or_true, Bool.true_or, Bool.or_false, Bool.false_or, Nat.reduceBEq, *]; done) | fail)) only [go_sem, Hold.p, HoldK.k, HoldL.K, HoldL.body, Nat.reduceBEq, Nat.reduceAdd, reduceIte]
    refine ⟨rfl, al, hall, .nil, Own.empty, by omega, Nat.le_refl _, Nat.le_refl _, E⟩
  · clear al hall E hB g
    rintro m e g ⟨k, x, rows, lo, hi, rfl, hk, i5, i6, i7, i8, i9, al, hall, hrows, o, hlo, hlg, hhi, E⟩
    simp (disch := (first | omega | assumption | (simp only [push_n, set_n, put_n, List.length_cons, List.length_nil, List.length_append, Nat.reduceAdd]; done) | (simp only [push_n, set_n, put_n, List.length_cons, List.length_nil, List.length_append]; omega) | (simp only [List.all_cons, List.all_nil, one_bool, one_int, one_str, one_ptr, one_nilptr, one_slice, one_eslice, one_nilslice, one_func, one_iface, one_niliface, Bool.and_true, Bool.true_and, List.getD_cons_zero, List.getD_cons_succ, List.contains_cons, List.contains_nil, Bool.or_true, Bool.true_or, Bool.or_false, Bool.false_or, Nat.reduceBEq, *]; done) | fail)) only [i5, i9, hlenl, go_sem, Hold.p, HoldK.k, HoldL.K, HoldL.body, Nat.reduceBEq, Nat.reduceAdd, reduceIte]
    refine test_dec (fun hb => ?_) (fun hb => ?_)
    · have hk' : k < ms.length := by omega
      obtain ⟨msg, hm⟩ : ∃ b, ms[k]? = some b := ⟨_, List.getElem?_eq_getElem hk'⟩
      obtain ⟨hf, hrest, hbody, hfl⟩ := hms msg (List.mem_of_getElem? hm)
      obtain ⟨row, hrk, hrp⟩ := hall.at (i := k) (b := gotOf msg) (by rw [List.getElem?_map, hm]; rfl)
      obtain ⟨vf, vb, rfl, hp1, hp2⟩ := got_vw hrp
      have vf1 : vf.one = true := Rp.one hp1 vf List.mem_cons_self
      have vb1 : vb.one = true := Rp.one hp2 vb List.mem_cons_self
      obtain ⟨l, j, hia, hll, hrow⟩ := al.sl.at (m := k) hrk .i64
      have hcl := cellO_row hrow
      have c0 : cellO (g.obj l) j 0 = some (.str msg.1) := by rw [hcl]; rfl
      have w1 : wr .i64 ((k : Int) + 1) = ((k + 1 : Nat) : Int) := by rw [wr64 _ (by omega)]; rfl
      simp (disch := (first | omega | assumption | (simp only [push_n, set_n, put_n, List.length_cons, List.length_nil, List.length_append, Nat.reduceAdd]; done) | (simp only [push_n, set_n, put_n, List.length_cons, List.length_nil, List.length_append]; omega) | (simp only [List.all_cons, List.all_nil, one_bool, one_int, one_str, one_ptr, one_nilptr, one_slice, one_eslice, one_nilslice, one_func, one_iface, one_niliface, Bool.and_true, Bool.true_and, List.getD_cons_zero, List.getD_cons_succ, List.contains_cons, List.contains_nil, Bool.or_true, Bool.true_or, Bool.or_false, Bool.false_or, Nat.reduceBEq, *]; done) | fail)) only [i5, i9, hia, c0, go_sem, Hold.p, HoldK.k, HoldL.K, HoldL.body, Nat.reduceBEq, Nat.reduceAdd, reduceIte]
      refine callA_of (l02Cut_c g msg.1 32 hfl) ?_
      rintro r g1 ⟨hr, E1⟩
      obtain ⟨hcc, hst⟩ := first_rep hf
      rw [hcc] at hr
      have hd3 : decOk (msg.1.drop 6) 3 = true := by unfold statB at hst; simp only [Bool.and_eq_true] at hst; exact hst.1
      have E := E.trans E1
      have hsm_E1 : ∀ l, (h.n ≤ l ∧ l < B) → l < g.n → g1.obj l = g.obj l := fun l _ hln => E1.obj l hln
      have le_E1 := E1.le
      have al := al.ext E1
      have hall := hall.mono fun _ _ _ z => z.same le_E1 hsm_E1 (fun _ hl _ => hl)
      have hrows := hrows.mono fun _ _ _ z => z.same le_E1 hsm_E1 (fun _ hl _ => hl)
      have hp1 := hp1.same le_E1 hsm_E1 (fun _ hl _ => hl)
      have hp2 := hp2.same le_E1 hsm_E1 (fun _ hl _ => hl)
      have o := o.ext E1
      obtain ⟨lb, jb, hib0, hllb, hrowb⟩ := hr.at (m := 1) (row := sRow (msg.1.drop 6)) rfl .i64
      have hib0 : iadrF g1 1 r (.int .i64 1) = some (.ptr lb jb 0) := hib0
      have d1 : cellO (g1.obj lb) jb 0 = some (.str (msg.1.drop 6)) := by rw [cellO_row hrowb]; rfl
      have hia := iadr_same hia (E1.obj l hll)
      have hll1 : l < g1.n := by omega
      have hob1 : g1.obj l = g.obj l := E1.obj l hll
      simp (disch := (first | omega | assumption | (simp only [push_n, set_n, put_n, List.length_cons, List.length_nil, List.length_append, Nat.reduceAdd]; done) | (simp only [push_n, set_n, put_n, List.length_cons, List.length_nil, List.length_append]; omega) | (simp only [List.all_cons, List.all_nil, one_bool, one_int, one_str, one_ptr, one_nilptr, one_slice, one_eslice, one_nilslice, one_func, one_iface, one_niliface, Bool.and_true, Bool.true_and, List.getD_cons_zero, List.getD_cons_succ, List.contains_cons, List.contains_nil, Bool.or_true, Bool.true_or, Bool.or_false, Bool.false_or, Nat.reduceBEq, *]; done) | fail)) only [hib0, d1, go_sem, Hold.p, HoldK.k, HoldL.K, HoldL.body, Nat.reduceBEq, Nat.reduceAdd, reduceIte]
      refine callA_of (l02Number_c g1 (msg.1.drop 6) 3 (by omega) (by rw [List.length_drop]; omega)) ?_
      rintro r2 g3 ⟨⟨st, rfl, hstn⟩, E3⟩
      have hstv := hstn hd3
      subst hstv
      have E := E.trans E3
      have hsm_E3 : ∀ l, (h.n ≤ l ∧ l < B) → l < g1.n → g3.obj l = g1.obj l := fun l _ hln => E3.obj l hln
      have le_E3 := E3.le
      have al := al.ext E3
      have hall := hall.mono fun _ _ _ z => z.same le_E3 hsm_E3 (fun _ hl _ => hl)
      have hrows := hrows.mono fun _ _ _ z => z.same le_E3 hsm_E3 (fun _ hl _ => hl)
      have hp1 := hp1.same le_E3 hsm_E3 (fun _ hl _ => hl)
      have hp2 := hp2.same le_E3 hsm_E3 (fun _ hl _ => hl)
      have o := o.ext E3
      have hia := iadr_same hia (E3.obj l hll1)
      have c1 : cellO (g3.obj l) j 1 = some vf := by rw [E3.obj l hll1, hob1, hcl]; rfl
      have c3 : cellO (g3.obj l) j 3 = some vb := by rw [E3.obj l hll1, hob1, hcl]; rfl
      simp (disch := (first | omega | assumption | (simp only [push_n, set_n, put_n, List.length_cons, List.length_nil, List.length_append, Nat.reduceAdd]; done) | (simp only [push_n, set_n, put_n, List.length_cons, List.length_nil, List.length_append]; omega) | (simp only [List.all_cons, List.all_nil, one_bool, one_int, one_str, one_ptr, one_nilptr, one_slice, one_eslice, one_nilslice, one_func, one_iface, one_niliface, Bool.and_true, Bool.true_and, List.getD_cons_zero, List.getD_cons_succ, List.contains_cons, List.contains_nil, Bool.or_true, Bool.true_or, Bool.or_false, Bool.false_or, Nat.reduceBEq, *]; done) | fail)) only [i5, i9, hia, c1, c3, vf1, vb1, go_sem, Hold.p, HoldK.k, HoldL.K, HoldL.body, Nat.reduceBEq, Nat.reduceAdd, reduceIte]
      generalize hq_g2 : IH.push g3 (IObj.rows [[.int .i64 ((valD (msg.1.drop 6) : Nat) : Int), vf, vb]] 81 3 false) = g2
      have e_g2 : Ext g3 g2 := by rw [← hq_g2]; exact (Ext.refl _).push _
      have l_g2 : g2.n = g3.n + 1 := by rw [← hq_g2]; rfl
      have b2 : At g2 g3.n (IObj.rows [[.int .i64 ((valD (msg.1.drop 6) : Nat) : Int), vf, vb]] 81 3 false) := by rw [← hq_g2]; exact At.new _ _
      clear hq_g2
      have E := E.trans e_g2
      have hsm_e_g2 : ∀ l, (h.n ≤ l ∧ l < B) → l < g3.n → g2.obj l = g3.obj l := fun l _ hln => e_g2.obj l hln
      have le_e_g2 := e_g2.le
      have al := al.ext e_g2
      have hall := hall.mono fun _ _ _ z => z.same le_e_g2 hsm_e_g2 (fun _ hl _ => hl)
      have hrows := hrows.mono fun _ _ _ z => z.same le_e_g2 hsm_e_g2 (fun _ hl _ => hl)
      have hp1 := hp1.same le_e_g2 hsm_e_g2 (fun _ hl _ => hl)
      have hp2 := hp2.same le_e_g2 hsm_e_g2 (fun _ hl _ => hl)
      have o := o.ext e_g2
      have q2 := b2.eq
      try simp (disch := (first | omega | assumption | (simp only [push_n, set_n, put_n, List.length_cons, List.length_nil, List.length_append, Nat.reduceAdd]; done) | (simp only [push_n, set_n, put_n, List.length_cons, List.length_nil, List.length_append]; omega) | (simp only [List.all_cons, List.all_nil, one_bool, one_int, one_str, one_ptr, one_nilptr, one_slice, one_eslice, one_nilslice, one_func, one_iface, one_niliface, Bool.and_true, Bool.true_and, List.getD_cons_zero, List.getD_cons_succ, List.contains_cons, List.contains_nil, Bool.or_true, Bool.true_or, Bool.or_false, Bool.false_or, Nat.reduceBEq, *]; done) | fail)) only [i8, q2, go_sem, Hold.p, HoldK.k, HoldL.K, HoldL.body, Nat.reduceBEq, Nat.reduceAdd, reduceIte]
      have hrl : rows.length ≤ ms.length := by have := hrows.len; rw [List.length_map, List.length_take] at this; omega
      refine o.app (by simp) (by simp only [List.length_singleton]; omega) ?_
      intro v6 h6 o6 t6 n6 v6o v6c
      have E6 := E.turn o (by omega) t6
      simp (disch := (first | omega | assumption | (simp only [push_n, set_n, put_n, List.length_cons, List.length_nil, List.length_append, Nat.reduceAdd]; done) | (simp only [push_n, set_n, put_n, List.length_cons, List.length_nil, List.length_append]; omega) | (simp only [List.all_cons, List.all_nil, one_bool, one_int, one_str, one_ptr, one_nilptr, one_slice, one_eslice, one_nilslice, one_func, one_iface, one_niliface, Bool.and_true, Bool.true_and, List.getD_cons_zero, List.getD_cons_succ, List.contains_cons, List.contains_nil, Bool.or_true, Bool.true_or, Bool.or_false, Bool.false_or, Nat.reduceBEq, *]; done) | fail)) only [i5, i6, i7, i9, w1, go_sem, Hold.p, HoldK.k, HoldL.K, HoldL.body, Nat.reduceBEq, Nat.reduceAdd, reduceIte]
      have hsame : ∀ l, (h.n ≤ l ∧ l < B) → l < g2.n → h6.obj l = g2.obj l := fun l hl hln => (t6.trn1 o).obj l hln (by omega)
      refine ⟨_, ?_, k + 1, v6, rows ++ [[.int .i64 ((valD (msg.1.drop 6) : Nat) : Int), vf, vb]], g2.n, g2.n + 1, rfl, by omega, rfl, rfl, al.turn o hlo t6, hall.mono fun _ _ _ z => z.same (by omega) hsame (fun _ hl _ => hl), ?_, o6, by omega, by omega, by omega, E6⟩
      · omega
      · rw [List.take_add_one, hm, List.map_append]
        refine (hrows.mono fun _ _ _ z => z.same (by omega) hsame (fun _ hl _ => hl)).app (.cons ?_ .nil)
        exact (rep_rp ((valD (msg.1.drop 6) : Nat) : Int) hp1 hp2).same (by omega) hsame (fun _ hl _ => hl)
    · have hk2 : k = ms.length := by omega
      subst hk2
      rw [List.take_length] at hrows
      simp (disch := (first | omega | assumption | (simp only [push_n, set_n, put_n, List.length_cons, List.length_nil, List.length_append, Nat.reduceAdd]; done) | (simp only [push_n, set_n, put_n, List.length_cons, List.length_nil, List.length_append]; omega) | (simp only [List.all_cons, List.all_nil, one_bool, one_int, one_str, one_ptr, one_nilptr, one_slice, one_eslice, one_nilslice, one_func, one_iface, one_niliface, Bool.and_true, Bool.true_and, List.getD_cons_zero, List.getD_cons_succ, List.contains_cons, List.contains_nil, Bool.or_true, Bool.true_or, Bool.or_false, Bool.false_or, Nat.reduceBEq, *]; done) | fail)) only [i6, i7, i8, go_sem, Hold.p, HoldK.k, HoldL.K, HoldL.body, Nat.reduceBEq, Nat.reduceAdd, reduceIte]
      refine ⟨⟨x, rfl, x, rows, _, rfl, rfl, o.sl, fun l i n hv => ?_, ?_⟩, E⟩
      · have := o.at_ (m := l) ⟨i, n, hv⟩
        constructor <;> omega
      · exact hrows.mono fun _ _ _ z => z.same (Nat.le_refl _) (fun _ _ _ => rfl) (fun l hl hn => ⟨hl.1, hn⟩)
end
end Go.Proofs.YtdpaehdolhdjdaaDoor

set_option maxRecDepth 20000
namespace Go.Proofs.YtdpaehdolhdjdaaDoor
open Go Go.IW
section
attribute [local go_sem] List.getElem?_cons_zero List.getElem?_cons_succ Option.bind_some List.map_cons List.map_nil Nat.zero_add if_true List.getD_cons_zero List.getD_cons_succ List.contains_cons List.contains_nil Bool.or_true Bool.true_or Bool.or_false Bool.false_or Bool.not_true Bool.not_false true_and and_true rowA_whole mid_get stO_mid rowO_rows cellO_rows push_n set_n push_at push_old set_here set_there set_pushT set_pushN set_set upd_ne Nat.add_assoc Nat.add_zero stO_1s stO_ws boxA_s List.all_cons List.all_nil one_bool one_int one_str one_ptr one_nilptr one_slice one_eslice one_nilslice one_func one_iface one_niliface Bool.and_true Bool.and_self List.length_cons List.length_nil Nat.one_ne_zero Nat.succ_ne_zero if_false List.set_cons_zero List.set_cons_succ lay_nil lay_1 lay_w Option.map_some

theorem fldL_le : ∀ {fs : List Fld}, (∀ f ∈ fs, fldB f = true) → totL (fs.map fldD) ≤ 240 * fs.length
  | [], _ => by simp [totL]
  | f :: fs, h => by
    have ih := fldL_le (fs := fs) (fun g hg => h g (List.mem_cons_of_mem _ hg))
    have := fldB_len (h f List.mem_cons_self)
    simp only [List.map_cons, totL, fldD, Dat.tot, List.length_cons]
    omega
theorem reps_tot : ∀ {ms : List Msg}, (∀ m ∈ ms, MsgS false 1048576 m) → totL (ms.map repOf) ≤ 3000000 * ms.length ∧ cntL t_Reply (ms.map repOf) ≤ 100000 * ms.length
  | [], _ => by simp [totL, cntL]
  | m :: ms, h => by
    have ih := reps_tot (ms := ms) (fun g hg => h g (List.mem_cons_of_mem _ hg))
    obtain ⟨h1, h2, h3, h4⟩ := h m List.mem_cons_self
    obtain ⟨r1, r2, r3⟩ := restB_un h2
    have ht : (repOf m).tot = _ := repD_tot (valD (m.1.drop 6) : Nat) m.2.1 m.2.2
    have hl := fldL_le r3
    have hn : cntE t_Reply (repOf m) ≤ 100000 := by
      simp only [repOf, repD, t_Reply, cntE, fldL_cnt, bytesD, bytes_cntL]
      omega
    simp only [List.map_cons, totL, cntL, List.length_cons]
    omega

theorem rep_big {bs : Txt} (hl : bs.length ≤ 1048576) : (Dat.list ((readB false bs).1.map repOf)).tot ≤ 10000000000000 ∧ cntW (.slice 81 t_Reply) (Dat.list ((readB false bs).1.map repOf)) ≤ 10000000000000 := by
  obtain ⟨h1, h2⟩ := read_all false 1048576 bs hl
  obtain ⟨h3, h4⟩ := reps_tot h1
  simp only [Dat.tot, cntW, cntE, List.length_map]
  omega
set_option maxHeartbeats 4000000 in
theorem lawReadReplies (mx : mxOn = true) : LawTrue Tryd.prog 3 [(.slice (.int .u8), false)] := by
  rintro h ivs ha ⟨iv, r, rfl, hf, rfl⟩
  obtain ⟨dS, aS, okS', wS⟩ := fits_vw (.slice 5 (.int .u8)) hf
  obtain ⟨bs, rfl, s1⟩ := bytes_any aS wS
  refine icalls (.of ok3) (Nat.le_of_ble_eq_true rfl) ?_
  unfold c3
  have hlen := s1.lenF
  rw [strRows_len] at hlen
  have tS := bytesD_tot bs
  have cS := bytes_cnt 5 bs
  by_cases hbig : (1048576 : Int) < bs.length
  · have hn : decide ((1048576 : Int) < bs.length) = true := decide_eq_true hbig
    simp (disch := (first | omega | assumption | (simp only [push_n, set_n, put_n, List.length_cons, List.length_nil, List.length_append, Nat.reduceAdd]; done) | (simp only [push_n, set_n, put_n, List.length_cons, List.length_nil, List.length_append]; omega) | (simp only [List.all_cons, List.all_nil, one_bool, one_int, one_str, one_ptr, one_nilptr, one_slice, one_eslice, one_nilslice, one_func, one_iface, one_niliface, Bool.and_true, Bool.true_and, List.getD_cons_zero, List.getD_cons_succ, List.contains_cons, List.contains_nil, Bool.or_true, Bool.true_or, Bool.or_false, Bool.false_or, Nat.reduceBEq, *]; done) | fail)) only [hlen, hn, go_sem, Hold.p, HoldK.k, HoldL.K, HoldL.body, Nat.reduceBEq, Nat.reduceAdd, reduceIte]
  have hn : decide ((1048576 : Int) < bs.length) = false := decide_eq_false hbig
  have hl : bs.length ≤ 1048576 := by omega
  simp (disch := (first | omega | assumption | (simp only [push_n, set_n, put_n, List.length_cons, List.length_nil, List.length_append, Nat.reduceAdd]; done) | (simp only [push_n, set_n, put_n, List.length_cons, List.length_nil, List.length_append]; omega) | (simp only [List.all_cons, List.all_nil, one_bool, one_int, one_str, one_ptr, one_nilptr, one_slice, one_eslice, one_nilslice, one_func, one_iface, one_niliface, Bool.and_true, Bool.true_and, List.getD_cons_zero, List.getD_cons_succ, List.contains_cons, List.contains_nil, Bool.or_true, Bool.true_or, Bool.or_false, Bool.false_or, Nat.reduceBEq, *]; done) | fail)) only [hlen, hn, go_sem, Hold.p, HoldK.k, HoldL.K, HoldL.body, Nat.reduceBEq, Nat.reduceAdd, reduceIte]
  refine callA_of (ToC.sl toByteS_f (aS.up (Nat.le_refl _)) (by omega)) ?_
  rintro r g1 ⟨t1, E1⟩
  have aS := aS.ext E1
  have le_E1 := E1.le
  simp (disch := (first | omega | assumption | (simp only [push_n, set_n, put_n, List.length_cons, List.length_nil, List.length_append, Nat.reduceAdd]; done) | (simp only [push_n, set_n, put_n, List.length_cons, List.length_nil, List.length_append]; omega) | (simp only [List.all_cons, List.all_nil, one_bool, one_int, one_str, one_ptr, one_nilptr, one_slice, one_eslice, one_nilslice, one_func, one_iface, one_niliface, Bool.and_true, Bool.true_and, List.getD_cons_zero, List.getD_cons_succ, List.contains_cons, List.contains_nil, Bool.or_true, Bool.true_or, Bool.or_false, Bool.false_or, Nat.reduceBEq, *]; done) | fail)) only [go_sem, Hold.p, HoldK.k, HoldL.K, HoldL.body, Nat.reduceBEq, Nat.reduceAdd, reduceIte]
  refine callA_of (specReadReplies_c g1 r bs (bytes_vw t1.view) hl) ?_
  rintro r g2 ⟨⟨vw, rfl, oW⟩, E2⟩
  have aS := aS.ext E2
  have le_E2 := E2.le
  have hI : ∀ (g : IH) (x : IV), SlR g 1 x (strRows bs) → ICalls Tryd.prog 10 [x] g fun r h' => ReadRes g h' 81 t_Reply repOf r (readB false bs) ∧ Ext g h' := fun g x hx => implReadReplies_c mx g x bs hx hl
  obtain ⟨tX, cX⟩ := rep_big hl
  generalize readB false bs = X at oW hI tX cX
  obtain ⟨ms, at_, cd⟩ := X
  simp only at oW tX cX ⊢
  simp (disch := (first | omega | assumption | (simp only [push_n, set_n, put_n, List.length_cons, List.length_nil, List.length_append, Nat.reduceAdd]; done) | (simp only [push_n, set_n, put_n, List.length_cons, List.length_nil, List.length_append]; omega) | (simp only [List.all_cons, List.all_nil, one_bool, one_int, one_str, one_ptr, one_nilptr, one_slice, one_eslice, one_nilslice, one_func, one_iface, one_niliface, Bool.and_true, Bool.true_and, List.getD_cons_zero, List.getD_cons_succ, List.contains_cons, List.contains_nil, Bool.or_true, Bool.true_or, Bool.or_false, Bool.false_or, Nat.reduceBEq, *]; done) | fail)) only [go_sem, Hold.p, HoldK.k, HoldL.K, HoldL.body, Nat.reduceBEq, Nat.reduceAdd, reduceIte]
  refine callA_of (ToC.sl toByteS_f (aS.up (by omega)) (by omega)) ?_
  rintro r g3 ⟨oX, E3⟩
  have aS := aS.ext E3
  have oW := oW.ext E3
  have le_E3 := E3.le
  simp (disch := (first | omega | assumption | (simp only [push_n, set_n, put_n, List.length_cons, List.length_nil, List.length_append, Nat.reduceAdd]; done) | (simp only [push_n, set_n, put_n, List.length_cons, List.length_nil, List.length_append]; omega) | (simp only [List.all_cons, List.all_nil, one_bool, one_int, one_str, one_ptr, one_nilptr, one_slice, one_eslice, one_nilslice, one_func, one_iface, one_niliface, Bool.and_true, Bool.true_and, List.getD_cons_zero, List.getD_cons_succ, List.contains_cons, List.contains_nil, Bool.or_true, Bool.true_or, Bool.or_false, Bool.false_or, Nat.reduceBEq, *]; done) | fail)) only [go_sem, Hold.p, HoldK.k, HoldL.K, HoldL.body, Nat.reduceBEq, Nat.reduceAdd, reduceIte]
  refine callA_of (hI g3 r (bytes_vw oX.view)) ?_
  rintro r4 g4 ⟨⟨vg, rfl, oG⟩, E4⟩
  have aS := aS.ext E4
  have oW := oW.ext E4
  have oX := oX.ext E4
  have le_E4 := E4.le
  simp only at oG
  simp (disch := (first | omega | assumption | (simp only [push_n, set_n, put_n, List.length_cons, List.length_nil, List.length_append, Nat.reduceAdd]; done) | (simp only [push_n, set_n, put_n, List.length_cons, List.length_nil, List.length_append]; omega) | (simp only [List.all_cons, List.all_nil, one_bool, one_int, one_str, one_ptr, one_nilptr, one_slice, one_eslice, one_nilslice, one_func, one_iface, one_niliface, Bool.and_true, Bool.true_and, List.getD_cons_zero, List.getD_cons_succ, List.contains_cons, List.contains_nil, Bool.or_true, Bool.true_or, Bool.or_false, Bool.false_or, Nat.reduceBEq, *]; done) | fail)) only [go_sem, Hold.p, HoldK.k, HoldL.K, HoldL.body, Nat.reduceBEq, Nat.reduceAdd, reduceIte]
  refine callA_of (EqC.sl eqReplyS_f oG.up (oW.up (by omega)) (by omega)) ?_
  rintro r5 g5 ⟨rfl, E5⟩
  have aS := aS.ext E5
  have oW := oW.ext E5
  have oX := oX.ext E5
  have oG := oG.ext E5
  have le_E5 := E5.le
  simp (disch := (first | omega | assumption | (simp only [push_n, set_n, put_n, List.length_cons, List.length_nil, List.length_append, Nat.reduceAdd]; done) | (simp only [push_n, set_n, put_n, List.length_cons, List.length_nil, List.length_append]; omega) | (simp only [List.all_cons, List.all_nil, one_bool, one_int, one_str, one_ptr, one_nilptr, one_slice, one_eslice, one_nilslice, one_func, one_iface, one_niliface, Bool.and_true, Bool.true_and, List.getD_cons_zero, List.getD_cons_succ, List.contains_cons, List.contains_nil, Bool.or_true, Bool.true_or, Bool.or_false, Bool.false_or, Nat.reduceBEq, *]; done) | fail)) only [decide_true, go_sem, Hold.p, HoldK.k, HoldL.K, HoldL.body, Nat.reduceBEq, Nat.reduceAdd, reduceIte]
  refine callA_of (ToC.sl toByteS_f (aS.up (by omega)) (by omega)) ?_
  rintro r6 g6 ⟨oY, E6⟩
  have aS := aS.ext E6
  have oW := oW.ext E6
  have oX := oX.ext E6
  have oG := oG.ext E6
  have le_E6 := E6.le
  simp (disch := (first | omega | assumption | (simp only [push_n, set_n, put_n, List.length_cons, List.length_nil, List.length_append, Nat.reduceAdd]; done) | (simp only [push_n, set_n, put_n, List.length_cons, List.length_nil, List.length_append]; omega) | (simp only [List.all_cons, List.all_nil, one_bool, one_int, one_str, one_ptr, one_nilptr, one_slice, one_eslice, one_nilslice, one_func, one_iface, one_niliface, Bool.and_true, Bool.true_and, List.getD_cons_zero, List.getD_cons_succ, List.contains_cons, List.contains_nil, Bool.or_true, Bool.true_or, Bool.or_false, Bool.false_or, Nat.reduceBEq, *]; done) | fail)) only [go_sem, Hold.p, HoldK.k, HoldL.K, HoldL.body, Nat.reduceBEq, Nat.reduceAdd, reduceIte]
  refine callA_of (EqC.sl eqByteS_f oX.up oY.up (by omega)) ?_
  rintro r7 g7 ⟨rfl, E7⟩
  have aS := aS.ext E7
  have oW := oW.ext E7
  have oX := oX.ext E7
  have oG := oG.ext E7
  have le_E7 := E7.le
  simp (disch := (first | omega | assumption | (simp only [push_n, set_n, put_n, List.length_cons, List.length_nil, List.length_append, Nat.reduceAdd]; done) | (simp only [push_n, set_n, put_n, List.length_cons, List.length_nil, List.length_append]; omega) | (simp only [List.all_cons, List.all_nil, one_bool, one_int, one_str, one_ptr, one_nilptr, one_slice, one_eslice, one_nilslice, one_func, one_iface, one_niliface, Bool.and_true, Bool.true_and, List.getD_cons_zero, List.getD_cons_succ, List.contains_cons, List.contains_nil, Bool.or_true, Bool.true_or, Bool.or_false, Bool.false_or, Nat.reduceBEq, *]; done) | fail)) only [go_sem, Hold.p, HoldK.k, HoldL.K, HoldL.body, Nat.reduceBEq, Nat.reduceAdd, reduceIte]
  refine callA_of (MkC.sl (k := 1) markByteS_f oX (by omega)) ?_
  rintro r8 g8 ⟨rfl, oX, T8⟩
  have aS := aS.trn T8 (by omega)
  have oW := oW.trn T8 (by omega)
  have oG := oG.trn T8 (by omega)
  have le_T8 := T8.le
  have hk : decide (((1 + cntW (.slice 5 (.int .u8)) (bytesD bs) : Nat) : Int) < 0) = false := decide_eq_false (by omega)
  simp (disch := (first | omega | assumption | (simp only [push_n, set_n, put_n, List.length_cons, List.length_nil, List.length_append, Nat.reduceAdd]; done) | (simp only [push_n, set_n, put_n, List.length_cons, List.length_nil, List.length_append]; omega) | (simp only [List.all_cons, List.all_nil, one_bool, one_int, one_str, one_ptr, one_nilptr, one_slice, one_eslice, one_nilslice, one_func, one_iface, one_niliface, Bool.and_true, Bool.true_and, List.getD_cons_zero, List.getD_cons_succ, List.contains_cons, List.contains_nil, Bool.or_true, Bool.true_or, Bool.or_false, Bool.false_or, Nat.reduceBEq, *]; done) | fail)) only [hk, go_sem, Hold.p, HoldK.k, HoldL.K, HoldL.body, Nat.reduceBEq, Nat.reduceAdd, reduceIte]
  refine callA_of (EqC.sl eqReplyS_f oG.up (oW.up (by omega)) (by omega)) ?_
  rintro r9 g9 ⟨rfl, E9⟩
  have aS := aS.ext E9
  have oW := oW.ext E9
  have oG := oG.ext E9
  have le_E9 := E9.le
  simp (disch := (first | omega | assumption | (simp only [push_n, set_n, put_n, List.length_cons, List.length_nil, List.length_append, Nat.reduceAdd]; done) | (simp only [push_n, set_n, put_n, List.length_cons, List.length_nil, List.length_append]; omega) | (simp only [List.all_cons, List.all_nil, one_bool, one_int, one_str, one_ptr, one_nilptr, one_slice, one_eslice, one_nilslice, one_func, one_iface, one_niliface, Bool.and_true, Bool.true_and, List.getD_cons_zero, List.getD_cons_succ, List.contains_cons, List.contains_nil, Bool.or_true, Bool.true_or, Bool.or_false, Bool.false_or, Nat.reduceBEq, *]; done) | fail)) only [decide_true, go_sem, Hold.p, HoldK.k, HoldL.K, HoldL.body, Nat.reduceBEq, Nat.reduceAdd, reduceIte]
  refine callA_of (MkC.sl (k := 1) markReplyS_f oG (by omega)) ?_
  rintro r10 g10 ⟨rfl, oG, T10⟩
  have aS := aS.trn T10 (by omega)
  have oW := oW.trn T10 (by omega)
  have le_T10 := T10.le
  simp (disch := (first | omega | assumption | (simp only [push_n, set_n, put_n, List.length_cons, List.length_nil, List.length_append, Nat.reduceAdd]; done) | (simp only [push_n, set_n, put_n, List.length_cons, List.length_nil, List.length_append]; omega) | (simp only [List.all_cons, List.all_nil, one_bool, one_int, one_str, one_ptr, one_nilptr, one_slice, one_eslice, one_nilslice, one_func, one_iface, one_niliface, Bool.and_true, Bool.true_and, List.getD_cons_zero, List.getD_cons_succ, List.contains_cons, List.contains_nil, Bool.or_true, Bool.true_or, Bool.or_false, Bool.false_or, Nat.reduceBEq, *]; done) | fail)) only [go_sem, Hold.p, HoldK.k, HoldL.K, HoldL.body, Nat.reduceBEq, Nat.reduceAdd, reduceIte]
  refine callA_of (HdC.sl (k := 1) heldReplyS_f oG.up (by omega)) ?_
  rintro r11 g11 ⟨rfl, E11⟩
  have aS := aS.ext E11
  have oW := oW.ext E11
  have oG := oG.ext E11
  have le_E11 := E11.le
  have hq : decide (((1 + cntW (.slice 81 t_Reply) (Dat.list (ms.map repOf)) : Nat) : Int) < 0) = false := decide_eq_false (by omega)
  simp (disch := (first | omega | assumption | (simp only [push_n, set_n, put_n, List.length_cons, List.length_nil, List.length_append, Nat.reduceAdd]; done) | (simp only [push_n, set_n, put_n, List.length_cons, List.length_nil, List.length_append]; omega) | (simp only [List.all_cons, List.all_nil, one_bool, one_int, one_str, one_ptr, one_nilptr, one_slice, one_eslice, one_nilslice, one_func, one_iface, one_niliface, Bool.and_true, Bool.true_and, List.getD_cons_zero, List.getD_cons_succ, List.contains_cons, List.contains_nil, Bool.or_true, Bool.true_or, Bool.or_false, Bool.false_or, Nat.reduceBEq, *]; done) | fail)) only [hq, decide_true, go_sem, Hold.p, HoldK.k, HoldL.K, HoldL.body, Nat.reduceBEq, Nat.reduceAdd, reduceIte]
  refine callA_of (ToC.sl toByteS_f (aS.up (by omega)) (by omega)) ?_
  rintro r12 g12 ⟨oZ, E12⟩
  have aS := aS.ext E12
  have oW := oW.ext E12
  have oG := oG.ext E12
  have le_E12 := E12.le
  simp (disch := (first | omega | assumption | (simp only [push_n, set_n, put_n, List.length_cons, List.length_nil, List.length_append, Nat.reduceAdd]; done) | (simp only [push_n, set_n, put_n, List.length_cons, List.length_nil, List.length_append]; omega) | (simp only [List.all_cons, List.all_nil, one_bool, one_int, one_str, one_ptr, one_nilptr, one_slice, one_eslice, one_nilslice, one_func, one_iface, one_niliface, Bool.and_true, Bool.true_and, List.getD_cons_zero, List.getD_cons_succ, List.contains_cons, List.contains_nil, Bool.or_true, Bool.true_or, Bool.or_false, Bool.false_or, Nat.reduceBEq, *]; done) | fail)) only [go_sem, Hold.p, HoldK.k, HoldL.K, HoldL.body, Nat.reduceBEq, Nat.reduceAdd, reduceIte]
  refine callA_of (hI g12 r12 (bytes_vw oZ.view)) ?_
  rintro r13 g13 ⟨⟨vh, rfl, oH⟩, E13⟩
  have aS := aS.ext E13
  have oW := oW.ext E13
  have oG := oG.ext E13
  have le_E13 := E13.le
  simp only at oH
  simp (disch := (first | omega | assumption | (simp only [push_n, set_n, put_n, List.length_cons, List.length_nil, List.length_append, Nat.reduceAdd]; done) | (simp only [push_n, set_n, put_n, List.length_cons, List.length_nil, List.length_append]; omega) | (simp only [List.all_cons, List.all_nil, one_bool, one_int, one_str, one_ptr, one_nilptr, one_slice, one_eslice, one_nilslice, one_func, one_iface, one_niliface, Bool.and_true, Bool.true_and, List.getD_cons_zero, List.getD_cons_succ, List.contains_cons, List.contains_nil, Bool.or_true, Bool.true_or, Bool.or_false, Bool.false_or, Nat.reduceBEq, *]; done) | fail)) only [go_sem, Hold.p, HoldK.k, HoldL.K, HoldL.body, Nat.reduceBEq, Nat.reduceAdd, reduceIte]
  refine callA_of (EqC.sl eqReplyS_f oH.up (oW.up (by omega)) (by omega)) ?_
  rintro r14 g14 ⟨rfl, E14⟩
  have oG := oG.ext E14
  have le_E14 := E14.le
  simp (disch := (first | omega | assumption | (simp only [push_n, set_n, put_n, List.length_cons, List.length_nil, List.length_append, Nat.reduceAdd]; done) | (simp only [push_n, set_n, put_n, List.length_cons, List.length_nil, List.length_append]; omega) | (simp only [List.all_cons, List.all_nil, one_bool, one_int, one_str, one_ptr, one_nilptr, one_slice, one_eslice, one_nilslice, one_func, one_iface, one_niliface, Bool.and_true, Bool.true_and, List.getD_cons_zero, List.getD_cons_succ, List.contains_cons, List.contains_nil, Bool.or_true, Bool.true_or, Bool.or_false, Bool.false_or, Nat.reduceBEq, *]; done) | fail)) only [decide_true, go_sem, Hold.p, HoldK.k, HoldL.K, HoldL.body, Nat.reduceBEq, Nat.reduceAdd, reduceIte]
  refine callA_of (HdC.sl (k := 1) heldReplyS_f oG.up (by omega)) ?_
  rintro r15 g15 ⟨rfl, E15⟩
  simp (disch := (first | omega | assumption | (simp only [push_n, set_n, put_n, List.length_cons, List.length_nil, List.length_append, Nat.reduceAdd]; done) | (simp only [push_n, set_n, put_n, List.length_cons, List.length_nil, List.length_append]; omega) | (simp only [List.all_cons, List.all_nil, one_bool, one_int, one_str, one_ptr, one_nilptr, one_slice, one_eslice, one_nilslice, one_func, one_iface, one_niliface, Bool.and_true, Bool.true_and, List.getD_cons_zero, List.getD_cons_succ, List.contains_cons, List.contains_nil, Bool.or_true, Bool.true_or, Bool.or_false, Bool.false_or, Nat.reduceBEq, *]; done) | fail)) only [hq, decide_true, go_sem, Hold.p, HoldK.k, HoldL.K, HoldL.body, Nat.reduceBEq, Nat.reduceAdd, reduceIte]

end
end Go.Proofs.YtdpaehdolhdjdaaDoor
