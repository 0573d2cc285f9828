import Derived.Test.YtjmmmmdpkfpojaaL1
import Derived.Test.YtjmmmmdpkfpojaaK3
import Derived.Shelf.SlicesE.Delete
set_option linter.unusedSimpArgs false
set_option linter.unusedVariables false
set_option maxRecDepth 20000
namespace Go.Proofs.Ytjmmmmdpkfpojaa
open Go Go.IW
section
attribute [local go_sem] List.getElem?_cons_zero List.getElem?_cons_succ Option.bind_some List.map_cons List.map_nil Nat.zero_add if_true List.getD_cons_zero List.getD_cons_succ List.contains_cons List.contains_nil Bool.or_true Bool.true_or Bool.or_false Bool.false_or Bool.not_true Bool.not_false true_and and_true rowA_whole mid_get rowO_rows cellO_rows upd_ne Nat.add_assoc Nat.add_zero List.all_cons List.all_nil one_bool one_int one_str one_ptr one_nilptr one_slice one_eslice one_nilslice one_func one_iface one_niliface Bool.and_true Bool.and_self List.length_cons List.length_nil Nat.one_ne_zero Nat.succ_ne_zero if_false List.set_cons_zero List.set_cons_succ lay_nil lay_1 lay_w Option.map_some cells_one rowA_some List.drop_succ_cons List.drop_zero List.take_succ_cons List.take_zero

/-! ### A packet cut -/
/-- What a packet is cut into from a place on, with room for R bytes in each. -/
inductive Cut (p : Pk) (R : Nat) : Nat → List Pk → Prop
  | last (a : Nat) (h0 : a < p.pay.length) (h1 : p.pay.length ≤ a + R) : Cut p R a [{ p with off := p.off + (a : Int), pay := p.pay.drop a }]
  | more (a : Nat) (h0 : a + R / 8 * 8 < p.pay.length) {r : List Pk} (hr : Cut p R (a + R / 8 * 8) r) :
      Cut p R a ({ p with off := p.off + (a : Int), mf := true, pay := (p.pay.take (a + R / 8 * 8)).drop a } :: r)
/-- A packet's row with what it owns. -/
def pkR (r : List IV) (p : Pk) : As := exA fun v : IV × IV => stars (fact (r = pkRow p v.1 v.2 ∧ v.1.one = true ∧ v.2.one = true)) (stars (byt v.1 p.opts) (byt v.2 p.pay))
theorem pk_un {h : IH} {L : List As} {p : Pk} {vo vp : IV} (S : Sp h (byt vo p.opts :: byt vp p.pay :: L)) (h1 : vo.one = true) (h2 : vp.one = true) : Sp h (pkR (pkRow p vo vp) p :: L) := by
  have S := S.unstar
  have S := S.unfact (p := pkRow p vo vp = pkRow p vo vp ∧ vo.one = true ∧ vp.one = true) ⟨rfl, h1, h2⟩
  exact Sp.unex (F := fun v : IV × IV => stars (fact (pkRow p vo vp = pkRow p v.1 v.2 ∧ v.1.one = true ∧ v.2.one = true)) (stars (byt v.1 p.opts) (byt v.2 p.pay))) (vo, vp) S.unstar
theorem pks_at {h : IH} {L : List As} {rs : List (List IV)} {ps : List Pk} (S : Sp h L) (k : Nat) (hk : L[k]? = some (all2 pkR rs ps)) {i : Nat} {q : Pk} (hi : ps[i]? = some q) : ∃ vo vp, rs[i]? = some (pkRow q vo vp) ∧ PkAt h q vo vp := by
  obtain ⟨f, hf⟩ := S.part k hk
  obtain ⟨r, f', h1, ⟨vo, vp⟩, f1, f2, _, ⟨_, rfl, h4, h5⟩, g1, g2, _, h6, h7⟩ := all2_at hf hi
  refine ⟨vo, vp, h1, ?_, ?_⟩
  · rcases h6 with ⟨h4, _, h5 | h5⟩ | ⟨l, h0, h5, _, h8, h9⟩
    · simp only at h4 h5; rw [h4, h5]; exact SlR.nil _ _
    · simp only at h4 h5; rw [h4, h5]; exact SlR.empty _ _ _
    · simp only at h5; rw [h5]; exact SlR.whole h9 rfl h8
  · rcases h7 with ⟨h4, _, h5 | h5⟩ | ⟨l, h0, h5, _, h8, h9⟩
    · simp only at h4 h5; rw [h4, h5]; exact SlR.nil _ _
    · simp only at h4 h5; rw [h4, h5]; exact SlR.empty _ _ _
    · simp only at h5; rw [h5]; exact SlR.whole h9 rfl h8
set_option maxHeartbeats 1000000 in
theorem _root_.Go.IW.Sp.dn {h : IH} {L : List As} (S : Sp h L) (k : Nat) : Sp h (L.drop k) := by
  induction k generalizing L with
  | zero => exact S
  | succ k ih =>
    cases L with
    | nil => exact S
    | cons a L => exact ih S.drop
set_option maxHeartbeats 1000000 in
theorem frag_c {h : IH} {L : List As} (S : Sp h L) (p : Pk) (vo vp : IV) (ha : ∀ g, Sp g L → PkAt g p vo vp) (hc : codeB p = 0) (hdf : p.df = false) (hp : 1 ≤ p.pay.length) (R : Nat) (hR : 8 ≤ R) (m : Int) (hm : m = 20 + (p.opts.length : Int) + R) (hm1 : 68 ≤ m) (hm2 : m ≤ 65535) :
    ICalls Try.prog 19 [.agg (pkRow p vo vp), .int .i64 m] h fun r h' => ∃ v rs fs, r = .tuple [v, .int .i64 0] ∧ v.one = true ∧ Cut p R 0 fs ∧ Sp h' (sl false 44 11 v rs :: all2 pkR rs fs :: L) := by
  refine icalls (.of ok19) (Nat.le_of_ble_eq_true rfl) ?_
  unfold c19 pkRow
  obtain ⟨c1, c2, c3⟩ := codeB_ok hc
  have a := ha h S
  have v1 := a.o.one
  have v2 := a.p.one
  have l1 := a.o.lenF
  have l2 := a.p.lenF
  rw [strRows_len] at l1 l2
  try simp (disch := (first | omega | assumption | (simp only [List.length_cons, List.length_nil, List.length_append]; first | done | omega) | (simp (disch := assumption) only [go_sem, one_as, Nat.reduceBEq]; done) | fail)) only [go_sem, Hold.p, HoldK.k, HoldL.K, HoldL.body, Nat.reduceBEq, Nat.reduceAdd, reduceIte]
  refine Sp.bxA S (by first | rfl | (rw [cells_one (by assumption)]; rfl)) (by first | rfl | simp (disch := assumption) only [go_sem, cells_one, one_as]) fun p2 g1 S E_g1 l_g1 => ?_
  have q0 := (S.bx 0 rfl).eq
  try simp (disch := (first | omega | assumption | (simp only [List.length_cons, List.length_nil, List.length_append]; first | done | omega) | (simp (disch := assumption) only [go_sem, one_as, Nat.reduceBEq]; done) | fail)) only [q0, go_sem, Hold.p, HoldK.k, HoldL.K, HoldL.body, Nat.reduceBEq, Nat.reduceAdd, reduceIte]
  refine callA_of (codeIP_c g1 p vo vp (ha _ (S.dn 1)) (by omega) (by omega)) ?_
  rintro r2 g2 ⟨rfl, E2⟩
  have S := S.ext E2
  rw [hc]
  have d1 : decide (m < 68) = false := decide_eq_false (by omega)
  have d2 : decide (65535 < m) = false := decide_eq_false (by omega)
  have hok : okIPb p = true := by
    unfold codeB at hc
    split at hc
    · cases hc
    · rename_i h1
      exact Bool.not_eq_false _ ▸ h1
  have q0 := (S.bx 0 rfl).eq
  try simp (disch := (first | omega | assumption | (simp only [List.length_cons, List.length_nil, List.length_append]; first | done | omega) | (simp (disch := assumption) only [go_sem, one_as, Nat.reduceBEq]; done) | fail)) only [q0, d1, d2, decide_true, Bool.not_true, go_sem, Hold.p, HoldK.k, HoldL.K, HoldL.body, Nat.reduceBEq, Nat.reduceAdd, reduceIte]
  refine callA_of (sizeI_c g2 p vo vp (ha _ (S.dn 1)) (by omega)) ?_
  rintro r3 g3 ⟨rfl, E3⟩
  have S := S.ext E3
  rw [if_pos hok]
  have q0 := (S.bx 0 rfl).eq
  try simp (disch := (first | omega | assumption | (simp only [List.length_cons, List.length_nil, List.length_append]; first | done | omega) | (simp (disch := assumption) only [go_sem, one_as, Nat.reduceBEq]; done) | fail)) only [q0, go_sem, Hold.p, HoldK.k, HoldL.K, HoldL.body, Nat.reduceBEq, Nat.reduceAdd, reduceIte]
  refine test_dec (fun hb => ?_) (fun hb => ?_)
  · skip
    have q0 := (S.bx 0 rfl).eq
    try simp (disch := (first | omega | assumption | (simp only [List.length_cons, List.length_nil, List.length_append]; first | done | omega) | (simp (disch := assumption) only [go_sem, one_as, Nat.reduceBEq]; done) | fail)) only [q0, go_sem, Hold.p, HoldK.k, HoldL.K, HoldL.body, Nat.reduceBEq, Nat.reduceAdd, reduceIte]
    refine callA_of (ownPacket_c g3 _ S p vo vp (ha _ (S.dn 1)) (by omega)) ?_
    clear S
    rintro r4 g4 ⟨wo, wp, rfl, S⟩
    have y1 := (S.slA 0 rfl).one
    have y2 := (S.slA 1 rfl).one
    unfold pkRow
    have s0 := S.slA 0 rfl
    have len_s0 := s0.lenF
    have z0 := s0.one
    have s1 := S.slA 1 rfl
    have len_s1 := s1.lenF
    have z1 := s1.one
    have q2 := (S.bx 2 rfl).eq
    try simp (disch := (first | omega | assumption | (simp only [List.length_cons, List.length_nil, List.length_append]; first | done | omega) | (simp (disch := assumption) only [go_sem, one_as, Nat.reduceBEq]; done) | fail)) only [len_s0, z0, len_s1, z1, q2, go_sem, Hold.p, HoldK.k, HoldL.K, HoldL.body, Nat.reduceBEq, Nat.reduceAdd, reduceIte]
    refine Sp.bsl1 S (by first | rfl | (rw [cells_one (by assumption)]; rfl)) (by first | rfl | simp (disch := assumption) only [go_sem, cells_one, one_as]) fun p5 g5 S E_g5 l_g5 => ?_
    try simp only [cells_agg, cells_int, cells_bool, cells_ptr, cells_str] at S
    try simp (disch := (first | omega | assumption | (simp only [List.length_cons, List.length_nil, List.length_append]; first | done | omega) | (simp (disch := assumption) only [go_sem, one_as, Nat.reduceBEq]; done) | fail)) only [go_sem, Hold.p, HoldK.k, HoldL.K, HoldL.body, Nat.reduceBEq, Nat.reduceAdd, reduceIte]
    have S := S.boxSl (x := false) (n := 1) rfl (.inr (by simp))
    have S := by simpa only [List.map_cons, List.map_nil, List.getD_cons_zero, List.getD_cons_succ, List.drop_succ_cons, List.drop_zero, List.cons_append, List.nil_append] using Sp.sel S 4 [0, 1, 2] (by simp only [List.length_cons]; omega) (by decide) (by decide)
    have S : Sp g5 (byt wo p.opts :: byt wp p.pay :: sl false 44 11 (.slice p5 0 1) [pkRow p wo wp] :: L) := by
      have S := by simpa only [List.map_cons, List.map_nil, List.getD_cons_zero, List.getD_cons_succ, List.drop_succ_cons, List.drop_zero, List.cons_append, List.nil_append] using Sp.sel S 3 [1, 2, 0] (by simp only [List.length_cons]; omega) (by decide) (by decide)
      exact S
    have S := (pk_un S y1 y2).a2one
    refine ⟨.slice p5 0 1, [pkRow p wo wp], [p], rfl, rfl, ?_, ?_⟩
    · have := Cut.last (p := p) (R := R) 0 (by omega) (by omega)
      simpa using this
    · skip
      have S := by simpa only [List.map_cons, List.map_nil, List.getD_cons_zero, List.getD_cons_succ, List.drop_succ_cons, List.drop_zero, List.cons_append, List.nil_append] using Sp.sel S 2 [1, 0] (by simp only [List.length_cons]; omega) (by decide) (by decide)
      exact S
  · have e1 : wr .i64 (m - 20) = m - 20 := wr64 _ (by omega)
    have e2 : wr .i64 (m - 20 - (p.opts.length : Int)) = (R : Int) := by rw [wr64 _ (by omega)]; omega
    have e3 : decide ((R : Int) < 8) = false := decide_eq_false (by omega)
    have e4 : ibin .quo (.int .i64 (R : Int)) (.int .i64 8) = some (.int .i64 ((R / 8 : Nat) : Int)) := by
      have : (R : Int).tdiv 8 = ((R / 8 : Nat) : Int) := by rw [Int.tdiv_eq_ediv_of_nonneg (by omega)]; omega
      rw [ib_quo _ _ _ (by decide), this, wr64 _ (by omega)]
    have e5 : wr .i64 (((R / 8 : Nat) : Int) * 8) = ((R / 8 * 8 : Nat) : Int) := by rw [wr64 _ (by omega)]; omega
    have q0 := (S.bx 0 rfl).eq
    try simp (disch := (first | omega | assumption | (simp only [List.length_cons, List.length_nil, List.length_append]; first | done | omega) | (simp (disch := assumption) only [go_sem, one_as, Nat.reduceBEq]; done) | fail)) only [q0, l1, e1, e2, e3, e4, e5, hdf, decide_true, Bool.not_true, go_sem, Hold.p, HoldK.k, HoldL.K, HoldL.body, Nat.reduceBEq, Nat.reduceAdd, reduceIte]
    have hF8 : 8 ≤ R / 8 * 8 := by omega
    have hFR : R / 8 * 8 ≤ R := by omega
    refine loop_at (fun n e g => ∃ (k : Nat) (fs : List Pk) (vl : IV) (rs : List (List IV)), n = p.pay.length - k ∧ k < p.pay.length ∧ e 2 = .ptr p2 0 0 ∧ e 7 = vl ∧ e 8 = .int .i64 ((R / 8 * 8 : Nat) : Int) ∧ e 9 = .int .i64 (k : Nat) ∧ fs.length ≤ k ∧
      (∀ r, Cut p R k r → Cut p R 0 (fs ++ r)) ∧ Sp g (box p2 (pkObj p vo vp) :: sl false 44 11 vl rs :: all2 pkR rs fs :: L)) p.pay.length ?_ ?_
    · refine ⟨0, [], .nilslice, [], by omega, by omega, ?_⟩
      have q0 := (S.bx 0 rfl).eq
      try simp (disch := (first | omega | assumption | (simp only [List.length_cons, List.length_nil, List.length_append]; first | done | omega) | (simp (disch := assumption) only [go_sem, one_as, Nat.reduceBEq]; done) | fail)) only [q0, go_sem, Hold.p, HoldK.k, HoldL.K, HoldL.body, Nat.reduceBEq, Nat.reduceAdd, reduceIte]
      have S := (S.a2nil (R := pkR)).slNil (x := false) (el := 44) (sz := 11)
      have S := by simpa only [List.map_cons, List.map_nil, List.getD_cons_zero, List.getD_cons_succ, List.drop_succ_cons, List.drop_zero, List.cons_append, List.nil_append] using Sp.sel S 3 [2, 0, 1] (by simp only [List.length_cons]; omega) (by decide) (by decide)
      exact ⟨rfl, by simp, fun r hr => hr, S⟩
    · clear S
      rintro n e g ⟨k, fs, vl, rs, rfl, hk, i2, i7, i8, i9, hfl, hcut, S⟩
      have q0 := (S.bx 0 rfl).eq
      have s1 := S.slA 1 rfl
      have len_s1 := s1.lenF
      have z1 := s1.one
      try simp (disch := (first | omega | assumption | (simp only [List.length_cons, List.length_nil, List.length_append]; first | done | omega) | (simp (disch := assumption) only [go_sem, one_as, Nat.reduceBEq]; done) | fail)) only [q0, len_s1, z1, i2, i7, i8, i9, go_sem, Hold.p, HoldK.k, HoldL.K, HoldL.body, Nat.reduceBEq, Nat.reduceAdd, reduceIte]
      refine Sp.zero S fun p10 g10 S E_g10 l_g10 => ?_
      have q0 := (S.bx 0 rfl).eq
      have q1 := (S.bx 1 rfl).eq
      have s2 := S.slA 2 rfl
      have len_s2 := s2.lenF
      have z2 := s2.one
      try simp (disch := (first | omega | assumption | (simp only [List.length_cons, List.length_nil, List.length_append]; first | done | omega) | (simp (disch := assumption) only [go_sem, one_as, Nat.reduceBEq]; done) | fail)) only [q0, q1, len_s2, z2, i2, i7, i8, i9, go_sem, Hold.p, HoldK.k, HoldL.K, HoldL.body, Nat.reduceBEq, Nat.reduceAdd, reduceIte]
      refine stw_of rfl rfl (by first | rfl | simp (disch := assumption) only [go_sem, cells_one, one_as]) fun g11 hg => ?_
      have l_g11 := n_set hg
      have S := S.set0 hg
      clear hg
      have q0 := (S.bx 0 rfl).eq
      have q1 := (S.bx 1 rfl).eq
      have s2 := S.slA 2 rfl
      have len_s2 := s2.lenF
      have z2 := s2.one
      try simp (disch := (first | omega | assumption | (simp only [List.length_cons, List.length_nil, List.length_append]; first | done | omega) | (simp (disch := assumption) only [go_sem, one_as, Nat.reduceBEq]; done) | fail)) only [q0, q1, len_s2, z2, i2, i7, i8, i9, go_sem, Hold.p, HoldK.k, HoldL.K, HoldL.body, Nat.reduceBEq, Nat.reduceAdd, reduceIte]
      refine callA_of (dup_c g11 vo _ (ha _ (S.dn 4)).o (by omega)) ?_
      rintro w12 g12 ⟨o12, E12⟩
      have S := S.own (x := false) E12 o12 (Nat.le_refl _)
      have z12 := o12.one
      have q1 := (S.bx 1 rfl).eq
      have q2 := (S.bx 2 rfl).eq
      have s3 := S.slA 3 rfl
      have len_s3 := s3.lenF
      have z3 := s3.one
      try simp (disch := (first | omega | assumption | (simp only [List.length_cons, List.length_nil, List.length_append]; first | done | omega) | (simp (disch := assumption) only [go_sem, one_as, Nat.reduceBEq]; done) | fail)) only [q1, q2, len_s3, z3, i2, i7, i8, i9, go_sem, Hold.p, HoldK.k, HoldL.K, HoldL.body, Nat.reduceBEq, Nat.reduceAdd, reduceIte]
      refine st1_of (Nat.le_of_ble_eq_true rfl) (by first | rfl | assumption) fun g13 hg => ?_
      have l_g13 := n_set hg
      have S := S.set1 hg
      clear hg
      simp only [List.set_cons_zero, List.set_cons_succ, List.take_succ_cons, List.take_zero, List.drop_succ_cons, List.drop_zero, List.cons_append, List.nil_append, Nat.reduceAdd] at S
      have f1 : wr .i64 (p.off + (k : Int)) = p.off + (k : Int) := wr64 _ (by omega)
      have f2 : wr .i64 ((p.pay.length : Int) - (k : Int)) = (p.pay.length : Int) - (k : Int) := wr64 _ (by omega)
      have f3 : wr .i64 ((k : Int) + ((R / 8 * 8 : Nat) : Int)) = ((k + R / 8 * 8 : Nat) : Int) := by rw [wr64 _ (by omega)]; omega
      have q1 := (S.bx 1 rfl).eq
      have q2 := (S.bx 2 rfl).eq
      have s3 := S.slA 3 rfl
      have len_s3 := s3.lenF
      have z3 := s3.one
      try simp (disch := (first | omega | assumption | (simp only [List.length_cons, List.length_nil, List.length_append]; first | done | omega) | (simp (disch := assumption) only [go_sem, one_as, Nat.reduceBEq]; done) | fail)) only [q1, q2, len_s3, z3, i2, i7, i8, i9, f1, go_sem, Hold.p, HoldK.k, HoldL.K, HoldL.body, Nat.reduceBEq, Nat.reduceAdd, reduceIte]
      refine st1_of (Nat.le_of_ble_eq_true rfl) (by first | rfl | assumption) fun g14 hg => ?_
      have l_g14 := n_set hg
      have S := S.set1 hg
      clear hg
      simp only [List.set_cons_zero, List.set_cons_succ, List.take_succ_cons, List.take_zero, List.drop_succ_cons, List.drop_zero, List.cons_append, List.nil_append, Nat.reduceAdd] at S
      have q1 := (S.bx 1 rfl).eq
      have q2 := (S.bx 2 rfl).eq
      have s3 := S.slA 3 rfl
      have len_s3 := s3.lenF
      have z3 := s3.one
      try simp (disch := (first | omega | assumption | (simp only [List.length_cons, List.length_nil, List.length_append]; first | done | omega) | (simp (disch := assumption) only [go_sem, one_as, Nat.reduceBEq]; done) | fail)) only [q1, q2, len_s3, z3, i2, i7, i8, i9, f2, l2, go_sem, Hold.p, HoldK.k, HoldL.K, HoldL.body, Nat.reduceBEq, Nat.reduceAdd, reduceIte]
      refine test_dec (fun hb2 => ?_) (fun hb2 => ?_)
      · obtain ⟨v15, hx15, hs15⟩ := ((ha _ (S.dn 5)).p).lo (a := k) (q := .i64) (by rw [strRows_len]; omega)
        rw [show (strRows p.pay).drop k = strRows (p.pay.drop k) by simp [strRows]] at hs15
        have q1 := (S.bx 1 rfl).eq
        have q2 := (S.bx 2 rfl).eq
        have s3 := S.slA 3 rfl
        have len_s3 := s3.lenF
        have z3 := s3.one
        try simp (disch := (first | omega | assumption | (simp only [List.length_cons, List.length_nil, List.length_append]; first | done | omega) | (simp (disch := assumption) only [go_sem, one_as, Nat.reduceBEq]; done) | fail)) only [q1, q2, len_s3, z3, i2, i7, i8, i9, Option.map_none, hx15, go_sem, Hold.p, HoldK.k, HoldL.K, HoldL.body, Nat.reduceBEq, Nat.reduceAdd, reduceIte]
        refine callA_of (dup_c g14 v15 _ hs15 (by rw [List.length_drop]; omega)) ?_
        rintro w16 g16 ⟨o16, E16⟩
        have S := S.own (x := false) E16 o16 (Nat.le_refl _)
        have z16 := o16.one
        have q2 := (S.bx 2 rfl).eq
        have q3 := (S.bx 3 rfl).eq
        have s4 := S.slA 4 rfl
        have len_s4 := s4.lenF
        have z4 := s4.one
        try simp (disch := (first | omega | assumption | (simp only [List.length_cons, List.length_nil, List.length_append]; first | done | omega) | (simp (disch := assumption) only [go_sem, one_as, Nat.reduceBEq]; done) | fail)) only [q2, q3, len_s4, z4, i2, i7, i8, i9, go_sem, Hold.p, HoldK.k, HoldL.K, HoldL.body, Nat.reduceBEq, Nat.reduceAdd, reduceIte]
        refine st1_of (Nat.le_of_ble_eq_true rfl) (by first | rfl | assumption) fun g17 hg => ?_
        have l_g17 := n_set hg
        have S := S.set2 hg
        clear hg
        simp only [List.set_cons_zero, List.set_cons_succ, List.take_succ_cons, List.take_zero, List.drop_succ_cons, List.drop_zero, List.cons_append, List.nil_append, Nat.reduceAdd] at S
        have q2 := (S.bx 2 rfl).eq
        have q3 := (S.bx 3 rfl).eq
        have s4 := S.slA 4 rfl
        have len_s4 := s4.lenF
        have z4 := s4.one
        try simp (disch := (first | omega | assumption | (simp only [List.length_cons, List.length_nil, List.length_append]; first | done | omega) | (simp (disch := assumption) only [go_sem, one_as, Nat.reduceBEq]; done) | fail)) only [q2, q3, len_s4, z4, i2, i7, i8, i9, go_sem, Hold.p, HoldK.k, HoldL.K, HoldL.body, Nat.reduceBEq, Nat.reduceAdd, reduceIte]
        refine Sp.bsl1 S (by first | rfl | (rw [cells_one (by assumption)]; rfl)) (by first | rfl | simp (disch := assumption) only [go_sem, cells_one, one_as]) fun p18 g18 S E_g18 l_g18 => ?_
        try simp only [cells_agg, cells_int, cells_bool, cells_ptr, cells_str] at S
        have q0 := (S.bx 0 rfl).eq
        have q3 := (S.bx 3 rfl).eq
        have q4 := (S.bx 4 rfl).eq
        have s5 := S.slA 5 rfl
        have len_s5 := s5.lenF
        have z5 := s5.one
        try simp (disch := (first | omega | assumption | (simp only [List.length_cons, List.length_nil, List.length_append]; first | done | omega) | (simp (disch := assumption) only [go_sem, one_as, Nat.reduceBEq]; done) | fail)) only [q0, q3, q4, len_s5, z5, i2, i7, i8, i9, go_sem, Hold.p, HoldK.k, HoldL.K, HoldL.body, Nat.reduceBEq, Nat.reduceAdd, reduceIte]
        have S := by simpa only [List.map_cons, List.map_nil, List.getD_cons_zero, List.getD_cons_succ, List.drop_succ_cons, List.drop_zero, List.cons_append, List.nil_append] using Sp.sel S 7 [0, 5, 1, 2, 3, 4, 6] (by simp only [List.length_cons]; omega) (by decide) (by decide)
        refine S.app1 (y := false) (b := 112) (by have := a2_len S 6 rfl; omega) ?_
        clear S
        intro v19 g19 S z19
        try simp (disch := (first | omega | assumption | (simp only [List.length_cons, List.length_nil, List.length_append]; first | done | omega) | (simp (disch := assumption) only [go_sem, one_as, Nat.reduceBEq]; done) | fail)) only [i2, i7, i8, i9, go_sem, Hold.p, HoldK.k, HoldL.K, HoldL.body, Nat.reduceBEq, Nat.reduceAdd, reduceIte]
        refine ⟨v19, rs ++ [pkRow { p with off := p.off + (k : Int), pay := p.pay.drop k } w12 w16], fs ++ [{ p with off := p.off + (k : Int), pay := p.pay.drop k }], rfl, z19, hcut _ (Cut.last k hk (by omega)), ?_⟩
        have S := by simpa only [List.map_cons, List.map_nil, List.getD_cons_zero, List.getD_cons_succ, List.drop_succ_cons, List.drop_zero, List.cons_append, List.nil_append] using Sp.sel S 6 [2, 1, 5, 0] (by simp only [List.length_cons]; omega) (by decide) (by decide)
        have S := (pk_un (p := { p with off := p.off + (k : Int), pay := p.pay.drop k }) S z12 z16).a2one
        have S := by simpa only [List.map_cons, List.map_nil, List.getD_cons_zero, List.getD_cons_succ, List.drop_succ_cons, List.drop_zero, List.cons_append, List.nil_append] using Sp.sel S 3 [1, 0, 2] (by simp only [List.length_cons]; omega) (by decide) (by decide)
        have S := S.a2join
        have S := by simpa only [List.map_cons, List.map_nil, List.getD_cons_zero, List.getD_cons_succ, List.drop_succ_cons, List.drop_zero, List.cons_append, List.nil_append] using Sp.sel S 2 [1, 0] (by simp only [List.length_cons]; omega) (by decide) (by decide)
        exact S
      · skip
        have q1 := (S.bx 1 rfl).eq
        have q2 := (S.bx 2 rfl).eq
        have s3 := S.slA 3 rfl
        have len_s3 := s3.lenF
        have z3 := s3.one
        try simp (disch := (first | omega | assumption | (simp only [List.length_cons, List.length_nil, List.length_append]; first | done | omega) | (simp (disch := assumption) only [go_sem, one_as, Nat.reduceBEq]; done) | fail)) only [q1, q2, len_s3, z3, i2, i7, i8, i9, f3, go_sem, Hold.p, HoldK.k, HoldL.K, HoldL.body, Nat.reduceBEq, Nat.reduceAdd, reduceIte]
        refine st1_of (Nat.le_of_ble_eq_true rfl) (by first | rfl | assumption) fun g15 hg => ?_
        have l_g15 := n_set hg
        have S := S.set1 hg
        clear hg
        simp only [List.set_cons_zero, List.set_cons_succ, List.take_succ_cons, List.take_zero, List.drop_succ_cons, List.drop_zero, List.cons_append, List.nil_append, Nat.reduceAdd] at S
        obtain ⟨v15, hx15, hs15⟩ := ((ha _ (S.dn 5)).p).lohi (a := k) (b := k + R / 8 * 8) (q := .i64) (q' := .i64) (by omega) (by rw [strRows_len]; omega)
        rw [show ((strRows p.pay).take (k + R / 8 * 8)).drop k = strRows ((p.pay.take (k + R / 8 * 8)).drop k) by simp [strRows, List.map_drop, List.map_take]] at hs15
        have q1 := (S.bx 1 rfl).eq
        have q2 := (S.bx 2 rfl).eq
        have s3 := S.slA 3 rfl
        have len_s3 := s3.lenF
        have z3 := s3.one
        try simp (disch := (first | omega | assumption | (simp only [List.length_cons, List.length_nil, List.length_append]; first | done | omega) | (simp (disch := assumption) only [go_sem, one_as, Nat.reduceBEq]; done) | fail)) only [q1, q2, len_s3, z3, i2, i7, i8, i9, f3, hx15, go_sem, Hold.p, HoldK.k, HoldL.K, HoldL.body, Nat.reduceBEq, Nat.reduceAdd, reduceIte]
        refine callA_of (dup_c g15 v15 _ hs15 (by rw [List.length_drop, List.length_take]; omega)) ?_
        rintro w16 g16 ⟨o16, E16⟩
        have S := S.own (x := false) E16 o16 (Nat.le_refl _)
        have z16 := o16.one
        have q2 := (S.bx 2 rfl).eq
        have q3 := (S.bx 3 rfl).eq
        have s4 := S.slA 4 rfl
        have len_s4 := s4.lenF
        have z4 := s4.one
        try simp (disch := (first | omega | assumption | (simp only [List.length_cons, List.length_nil, List.length_append]; first | done | omega) | (simp (disch := assumption) only [go_sem, one_as, Nat.reduceBEq]; done) | fail)) only [q2, q3, len_s4, z4, i2, i7, i8, i9, go_sem, Hold.p, HoldK.k, HoldL.K, HoldL.body, Nat.reduceBEq, Nat.reduceAdd, reduceIte]
        refine st1_of (Nat.le_of_ble_eq_true rfl) (by first | rfl | assumption) fun g17 hg => ?_
        have l_g17 := n_set hg
        have S := S.set2 hg
        clear hg
        simp only [List.set_cons_zero, List.set_cons_succ, List.take_succ_cons, List.take_zero, List.drop_succ_cons, List.drop_zero, List.cons_append, List.nil_append, Nat.reduceAdd] at S
        have q2 := (S.bx 2 rfl).eq
        have q3 := (S.bx 3 rfl).eq
        have s4 := S.slA 4 rfl
        have len_s4 := s4.lenF
        have z4 := s4.one
        try simp (disch := (first | omega | assumption | (simp only [List.length_cons, List.length_nil, List.length_append]; first | done | omega) | (simp (disch := assumption) only [go_sem, one_as, Nat.reduceBEq]; done) | fail)) only [q2, q3, len_s4, z4, i2, i7, i8, i9, go_sem, Hold.p, HoldK.k, HoldL.K, HoldL.body, Nat.reduceBEq, Nat.reduceAdd, reduceIte]
        refine Sp.bsl1 S (by first | rfl | (rw [cells_one (by assumption)]; rfl)) (by first | rfl | simp (disch := assumption) only [go_sem, cells_one, one_as]) fun p18 g18 S E_g18 l_g18 => ?_
        try simp only [cells_agg, cells_int, cells_bool, cells_ptr, cells_str] at S
        have q0 := (S.bx 0 rfl).eq
        have q3 := (S.bx 3 rfl).eq
        have q4 := (S.bx 4 rfl).eq
        have s5 := S.slA 5 rfl
        have len_s5 := s5.lenF
        have z5 := s5.one
        try simp (disch := (first | omega | assumption | (simp only [List.length_cons, List.length_nil, List.length_append]; first | done | omega) | (simp (disch := assumption) only [go_sem, one_as, Nat.reduceBEq]; done) | fail)) only [q0, q3, q4, len_s5, z5, i2, i7, i8, i9, go_sem, Hold.p, HoldK.k, HoldL.K, HoldL.body, Nat.reduceBEq, Nat.reduceAdd, reduceIte]
        have S := by simpa only [List.map_cons, List.map_nil, List.getD_cons_zero, List.getD_cons_succ, List.drop_succ_cons, List.drop_zero, List.cons_append, List.nil_append] using Sp.sel S 7 [0, 5, 1, 2, 3, 4, 6] (by simp only [List.length_cons]; omega) (by decide) (by decide)
        refine S.app1 (y := false) (b := 112) (by have := a2_len S 6 rfl; omega) ?_
        clear S
        intro v19 g19 S z19
        try simp (disch := (first | omega | assumption | (simp only [List.length_cons, List.length_nil, List.length_append]; first | done | omega) | (simp (disch := assumption) only [go_sem, one_as, Nat.reduceBEq]; done) | fail)) only [i2, i7, i8, i9, f3, go_sem, Hold.p, HoldK.k, HoldL.K, HoldL.body, Nat.reduceBEq, Nat.reduceAdd, reduceIte]
        refine ⟨_, by omega, k + R / 8 * 8, fs ++ [{ p with off := p.off + (k : Int), mf := true, pay := (p.pay.take (k + R / 8 * 8)).drop k }], v19, rs ++ [pkRow { p with off := p.off + (k : Int), mf := true, pay := (p.pay.take (k + R / 8 * 8)).drop k } w12 w16], rfl, by omega, rfl, rfl, by simp; omega, ?_, ?_⟩
        · intro r hr
          rw [List.append_assoc]
          exact hcut _ (Cut.more k (by omega) hr)
        · skip
          have S := by simpa only [List.map_cons, List.map_nil, List.getD_cons_zero, List.getD_cons_succ, List.drop_succ_cons, List.drop_zero, List.cons_append, List.nil_append] using Sp.sel S 6 [2, 1, 5, 0, 4] (by simp only [List.length_cons]; omega) (by decide) (by decide)
          have S := (pk_un (p := { p with off := p.off + (k : Int), mf := true, pay := (p.pay.take (k + R / 8 * 8)).drop k }) S z12 z16).a2one
          have S := by simpa only [List.map_cons, List.map_nil, List.getD_cons_zero, List.getD_cons_succ, List.drop_succ_cons, List.drop_zero, List.cons_append, List.nil_append] using Sp.sel S 4 [1, 0, 2, 3] (by simp only [List.length_cons]; omega) (by decide) (by decide)
          have S := S.a2join
          have S := by simpa only [List.map_cons, List.map_nil, List.getD_cons_zero, List.getD_cons_succ, List.drop_succ_cons, List.drop_zero, List.cons_append, List.nil_append] using Sp.sel S 3 [2, 1, 0] (by simp only [List.length_cons]; omega) (by decide) (by decide)
          exact S
end
end Go.Proofs.Ytjmmmmdpkfpojaa

set_option maxRecDepth 20000
namespace Go.Proofs.Ytjmmmmdpkfpojaa
open Go Go.IW
section
attribute [local go_sem] List.getElem?_cons_zero List.getElem?_cons_succ Option.bind_some List.map_cons List.map_nil Nat.zero_add if_true List.getD_cons_zero List.getD_cons_succ List.contains_cons List.contains_nil Bool.or_true Bool.true_or Bool.or_false Bool.false_or Bool.not_true Bool.not_false true_and and_true rowA_whole mid_get rowO_rows cellO_rows upd_ne Nat.add_assoc Nat.add_zero List.all_cons List.all_nil one_bool one_int one_str one_ptr one_nilptr one_slice one_eslice one_nilslice one_func one_iface one_niliface Bool.and_true Bool.and_self List.length_cons List.length_nil Nat.one_ne_zero Nat.succ_ne_zero if_false List.set_cons_zero List.set_cons_succ lay_nil lay_1 lay_w Option.map_some cells_one rowA_some List.drop_succ_cons List.drop_zero List.take_succ_cons List.take_zero

/-! ### Lists of packets -/
theorem app_e {h : IH} {L : List As} {el sz b : Nat} {K : HoldK} {rs : List (List IV)} (S : Sp h L) (hb : rs.length * b ≤ 140737488355328) (hk : ∀ v' g, Sp g (sl false el sz v' rs :: L) → v'.one = true → K.k v' g) :
    @appA h el sz b (.eslice true) (some rs) K := by
  by_cases h0 : rs = []
  · subst h0
    exact appA_none rfl (hk _ _ S.slEmpty rfl)
  · exact S.slEmpty.app (x := true) h0 (by simpa using hb) fun v' h' S' h1 _ => hk v' h' S' h1
theorem lwPacket_c (h : IH) (p : Pk) (vo vp wo wp : IV) (a : PkAt h p vo vp) (b : PkAt h p wo wp) : ICalls Try.prog 22 [.agg (pkRow p vo vp), .agg (pkRow p wo wp)] h fun r h' => r = .bool true ∧ Ext h h' := by
  refine icalls (.of ok22) (Nat.le_of_ble_eq_true rfl) ?_
  unfold c22 pkRow
  have v1 := a.o.one
  have v2 := a.p.one
  have v3 := b.o.one
  have v4 := b.p.one
  simp (disch := (first | omega | assumption | (simp only [push_n, set_n, put_n, List.length_cons, List.length_nil, List.length_append, Nat.reduceAdd]; done) | (simp only [push_n, set_n, put_n, List.length_cons, List.length_nil, List.length_append]; omega) | (simp only [List.all_cons, List.all_nil, one_bool, one_int, one_str, one_ptr, one_nilptr, one_slice, one_eslice, one_nilslice, one_func, one_iface, one_niliface, Bool.and_true, Bool.true_and, List.getD_cons_zero, List.getD_cons_succ, List.contains_cons, List.contains_nil, Bool.or_true, Bool.true_or, Bool.or_false, Bool.false_or, Nat.reduceBEq, *]; done) | fail)) only [v1, v2, v3, v4, go_sem, ↓act_zero, boxA_1, boxA_2, boxA_3, bslA_1, Hold.p, HoldK.k, HoldL.K, HoldL.body, Nat.reduceBEq, Nat.reduceAdd, stO_mid, push_n, set_n, push_at, push_old, set_here, set_there, set_pushT, set_pushN, set_set, stO_1s, stO_ws, boxA_s, reduceIte]
  generalize hq_g1 : IH.push h (pkObj p vo vp) = g1
  have e_g1 : Ext h g1 := by rw [← hq_g1]; exact (Ext.refl _).push _
  have l_g1 : g1.n = h.n + 1 := by rw [← hq_g1]; rfl
  have b1 : At g1 h.n (pkObj p vo vp) := by rw [← hq_g1]; exact At.new _ _
  clear hq_g1
  have a := a.ext e_g1
  have b := b.ext e_g1
  generalize hq_g2 : IH.push g1 (pkObj p wo wp) = g2
  have e_g2 : Ext g1 g2 := by rw [← hq_g2]; exact (Ext.refl _).push _
  have l_g2 : g2.n = g1.n + 1 := by rw [← hq_g2]; rfl
  have b2 : At g2 g1.n (pkObj p wo wp) := by rw [← hq_g2]; exact At.new _ _
  clear hq_g2
  have a := a.ext e_g2
  have b := b.ext e_g2
  have b1 := b1.ext e_g2
  have q1 := b1.eq
  have q2 := b2.eq
  have q3 := q2
  rw [l_g1] at q3
  have hh : ∀ x : Bool, ((x == x) != false) = true := by intro x; cases x <;> rfl
  simp (disch := (first | omega | assumption | (simp only [push_n, set_n, put_n, List.length_cons, List.length_nil, List.length_append, Nat.reduceAdd]; done) | (simp only [push_n, set_n, put_n, List.length_cons, List.length_nil, List.length_append]; omega) | (simp only [List.all_cons, List.all_nil, one_bool, one_int, one_str, one_ptr, one_nilptr, one_slice, one_eslice, one_nilslice, one_func, one_iface, one_niliface, Bool.and_true, Bool.true_and, List.getD_cons_zero, List.getD_cons_succ, List.contains_cons, List.contains_nil, Bool.or_true, Bool.true_or, Bool.or_false, Bool.false_or, Nat.reduceBEq, *]; done) | fail)) only [q1, q2, decide_true, hh, go_sem, ↓act_zero, boxA_1, boxA_2, boxA_3, bslA_1, Hold.p, HoldK.k, HoldL.K, HoldL.body, Nat.reduceBEq, Nat.reduceAdd, stO_mid, push_n, set_n, push_at, push_old, set_here, set_there, set_pushT, set_pushN, set_set, stO_1s, stO_ws, boxA_s, reduceIte]
  refine callA_of (lwSame_c g2 vo wo p.opts p.opts a.o b.o) ?_
  rintro r3 g3 ⟨rfl, rfl⟩
  simp (disch := (first | omega | assumption | (simp only [push_n, set_n, put_n, List.length_cons, List.length_nil, List.length_append, Nat.reduceAdd]; done) | (simp only [push_n, set_n, put_n, List.length_cons, List.length_nil, List.length_append]; omega) | (simp only [List.all_cons, List.all_nil, one_bool, one_int, one_str, one_ptr, one_nilptr, one_slice, one_eslice, one_nilslice, one_func, one_iface, one_niliface, Bool.and_true, Bool.true_and, List.getD_cons_zero, List.getD_cons_succ, List.contains_cons, List.contains_nil, Bool.or_true, Bool.true_or, Bool.or_false, Bool.false_or, Nat.reduceBEq, *]; done) | fail)) only [q1, q2, q3, decide_true, hh, Bool.true_and, go_sem, ↓act_zero, boxA_1, boxA_2, boxA_3, bslA_1, Hold.p, HoldK.k, HoldL.K, HoldL.body, Nat.reduceBEq, Nat.reduceAdd, stO_mid, push_n, set_n, push_at, push_old, set_here, set_there, set_pushT, set_pushN, set_set, stO_1s, stO_ws, boxA_s, reduceIte]
  refine callA_of (lwSame_c _ vp wp p.pay p.pay a.p b.p) ?_
  rintro r4 g4 ⟨rfl, rfl⟩
  simp (disch := (first | omega | assumption | (simp only [push_n, set_n, put_n, List.length_cons, List.length_nil, List.length_append, Nat.reduceAdd]; done) | (simp only [push_n, set_n, put_n, List.length_cons, List.length_nil, List.length_append]; omega) | (simp only [List.all_cons, List.all_nil, one_bool, one_int, one_str, one_ptr, one_nilptr, one_slice, one_eslice, one_nilslice, one_func, one_iface, one_niliface, Bool.and_true, Bool.true_and, List.getD_cons_zero, List.getD_cons_succ, List.contains_cons, List.contains_nil, Bool.or_true, Bool.true_or, Bool.or_false, Bool.false_or, Nat.reduceBEq, *]; done) | fail)) only [q1, q2, q3, decide_true, go_sem, ↓act_zero, boxA_1, boxA_2, boxA_3, bslA_1, Hold.p, HoldK.k, HoldL.K, HoldL.body, Nat.reduceBEq, Nat.reduceAdd, stO_mid, push_n, set_n, push_at, push_old, set_here, set_there, set_pushT, set_pushN, set_set, stO_1s, stO_ws, boxA_s, reduceIte]
  exact e_g1.trans e_g2
/-- A list of packets, by rows. -/
structure PksAt (h : IH) (v : IV) (rs : List (List IV)) (ps : List Pk) : Prop where
  s : SlR h 11 v rs
  n : rs.length = ps.length
  r : ∀ (i : Nat) (p : Pk), ps[i]? = some p → ∃ vo vp, rs[i]? = some (pkRow p vo vp) ∧ PkAt h p vo vp
theorem PksAt.pk {h : IH} {v : IV} {rs : List (List IV)} {ps : List Pk} (A : PksAt h v rs ps) {k : Nat} {p : Pk} {vo vp : IV} (hr : rs[k]? = some (pkRow p vo vp)) (hp : ps[k]? = some p) : PkAt h p vo vp := by
  obtain ⟨vo', vp', h1, h2⟩ := A.r k p hp
  rw [hr] at h1
  simp only [pkRow, Option.some.injEq, List.cons.injEq, and_true, true_and] at h1
  rw [h1.1, h1.2]
  exact h2
def takeOp (p : Pk) : Op := ⟨1, 0, p⟩
/-- An operation's row with what it owns. -/
def opR (r : List IV) (o : Op) : As := exA fun v : IV × IV => stars (fact (r = opRow o v.1 v.2 ∧ v.1.one = true ∧ v.2.one = true)) (stars (byt v.1 o.pk.opts) (byt v.2 o.pk.pay))
theorem op_un {h : IH} {L : List As} {o : Op} {vo vp : IV} (S : Sp h (byt vo o.pk.opts :: byt vp o.pk.pay :: L)) (h1 : vo.one = true) (h2 : vp.one = true) : Sp h (opR (opRow o vo vp) o :: L) := by
  have S := S.unstar
  have S := S.unfact (p := opRow o vo vp = opRow o vo vp ∧ vo.one = true ∧ vp.one = true) ⟨rfl, h1, h2⟩
  exact Sp.unex (F := fun v : IV × IV => stars (fact (opRow o vo vp = opRow o v.1 v.2 ∧ v.1.one = true ∧ v.2.one = true)) (stars (byt v.1 o.pk.opts) (byt v.2 o.pk.pay))) (vo, vp) S.unstar
theorem lwTakes_c {h : IH} {L : List As} (S : Sp h L) (vl : IV) (rs : List (List IV)) (ps : List Pk) (hn : ps.length ≤ 1048576) (hz : ∀ p ∈ ps, p.opts.length + p.pay.length ≤ 1048576) (hv : ∀ g, Sp g L → PksAt g vl rs ps) :
    ICalls Try.prog 20 [vl] h fun r h' => ∃ ors, r.one = true ∧ Sp h' (sl false 58 13 r ors :: all2 opR ors (ps.map takeOp) :: L) := by
  refine icalls (.of ok20) (Nat.le_of_ble_eq_true rfl) ?_
  unfold c20
  have hlen := (hv h S).s.lenF
  rw [(hv h S).n] at hlen
  try simp (disch := (first | omega | assumption | (simp only [List.length_cons, List.length_nil, List.length_append]; first | done | omega) | (simp (disch := assumption) only [go_sem, one_as, Nat.reduceBEq]; done) | fail)) only [go_sem, Hold.p, HoldK.k, HoldL.K, HoldL.body, Nat.reduceBEq, Nat.reduceAdd, reduceIte]
  refine loop_at (fun n e g => ∃ (k : Nat) (v : IV) (ors : List (List IV)), n = ps.length - k ∧ k ≤ ps.length ∧ e 0 = vl ∧ e 3 = v ∧ e 4 = .int .i64 (k : Nat) ∧ v.one = true ∧
    Sp g (sl false 58 13 v ors :: all2 opR ors ((ps.take k).map takeOp) :: L)) ps.length ?_ ?_
  · refine ⟨0, .eslice true, [], by omega, by omega, ?_⟩
    try simp (disch := (first | omega | assumption | (simp only [List.length_cons, List.length_nil, List.length_append]; first | done | omega) | (simp (disch := assumption) only [go_sem, one_as, Nat.reduceBEq]; done) | fail)) only [go_sem, Hold.p, HoldK.k, HoldL.K, HoldL.body, Nat.reduceBEq, Nat.reduceAdd, reduceIte]
    exact ⟨rfl, (S.a2nil (R := opR)).slEmpty⟩
  · clear S
    rintro n e g ⟨k, v, ors, rfl, hk, i0, i3, i4, vo1, S⟩
    have s0 := S.slA 0 rfl
    have len_s0 := s0.lenF
    have z0 := s0.one
    try simp (disch := (first | omega | assumption | (simp only [List.length_cons, List.length_nil, List.length_append]; first | done | omega) | (simp (disch := assumption) only [go_sem, one_as, Nat.reduceBEq]; done) | fail)) only [len_s0, z0, i0, i3, i4, hlen, go_sem, Hold.p, HoldK.k, HoldL.K, HoldL.body, Nat.reduceBEq, Nat.reduceAdd, reduceIte]
    refine test_dec (fun hb => ?_) (fun hb => ?_)
    · obtain ⟨p, hp⟩ : ∃ q, ps[k]? = some q := ⟨_, List.getElem?_eq_getElem (by omega : k < ps.length)⟩
      have hzp := hz p (List.mem_of_getElem? hp)
      have w1 : wr .i64 ((k : Int) + 1) = ((k + 1 : Nat) : Int) := by rw [wr64 _ (by omega)]; rfl
      obtain ⟨vo, vp, hr, ha⟩ := (hv g S.drop.drop).r k p hp
      obtain ⟨l, j, hia, hll, hrow⟩ := (hv g S.drop.drop).s.at hr .i64
      unfold pkRow at hrow
      have y1 := ha.o.one
      have y2 := ha.p.one
      have hal := a2_len S 1 rfl
      rw [List.length_map, List.length_take] at hal
      have s0 := S.slA 0 rfl
      have len_s0 := s0.lenF
      have z0 := s0.one
      try simp (disch := (first | omega | assumption | (simp only [List.length_cons, List.length_nil, List.length_append]; first | done | omega) | (simp (disch := assumption) only [go_sem, one_as, Nat.reduceBEq]; done) | fail)) only [len_s0, z0, i0, i3, i4, hia, hrow, go_sem, Hold.p, HoldK.k, HoldL.K, HoldL.body, Nat.reduceBEq, Nat.reduceAdd, reduceIte]
      refine Sp.zero S fun p5 g5 S E_g5 l_g5 => ?_
      have q0 := (S.bx 0 rfl).eq
      have s1 := S.slA 1 rfl
      have len_s1 := s1.lenF
      have z1 := s1.one
      try simp (disch := (first | omega | assumption | (simp only [List.length_cons, List.length_nil, List.length_append]; first | done | omega) | (simp (disch := assumption) only [go_sem, one_as, Nat.reduceBEq]; done) | fail)) only [q0, len_s1, z1, i0, i3, i4, y1, y2, go_sem, Hold.p, HoldK.k, HoldL.K, HoldL.body, Nat.reduceBEq, Nat.reduceAdd, reduceIte]
      refine stw_of rfl rfl (by first | rfl | simp (disch := assumption) only [go_sem, cells_one, one_as]) fun g6 hg => ?_
      have l_g6 := n_set hg
      have S := S.set0 hg
      clear hg
      have a6 := (hv g6 S.drop.drop.drop).pk hr hp
      have c6 := a6.p.src
      have q0 := (S.bx 0 rfl).eq
      have s1 := S.slA 1 rfl
      have len_s1 := s1.lenF
      have z1 := s1.one
      try simp (disch := (first | omega | assumption | (simp only [List.length_cons, List.length_nil, List.length_append]; first | done | omega) | (simp (disch := assumption) only [go_sem, one_as, Nat.reduceBEq]; done) | fail)) only [q0, len_s1, z1, i0, i3, i4, c6, go_sem, Hold.p, HoldK.k, HoldL.K, HoldL.body, Nat.reduceBEq, Nat.reduceAdd, reduceIte]
      refine app_e S (by rw [strRows_len]; omega) ?_
      clear S
      intro w7 g7 S z7
      have q1 := (S.bx 1 rfl).eq
      have s2 := S.slA 2 rfl
      have len_s2 := s2.lenF
      have z2 := s2.one
      try simp (disch := (first | omega | assumption | (simp only [List.length_cons, List.length_nil, List.length_append]; first | done | omega) | (simp (disch := assumption) only [go_sem, one_as, Nat.reduceBEq]; done) | fail)) only [q1, len_s2, z2, i0, i3, i4, go_sem, Hold.p, HoldK.k, HoldL.K, HoldL.body, Nat.reduceBEq, Nat.reduceAdd, reduceIte]
      refine st1_of (Nat.le_of_ble_eq_true rfl) (by first | rfl | assumption) fun g8 hg => ?_
      have l_g8 := n_set hg
      have S := S.set1 hg
      clear hg
      simp only [List.set_cons_zero, List.set_cons_succ, List.take_succ_cons, List.take_zero, List.drop_succ_cons, List.drop_zero, List.cons_append, List.nil_append, Nat.reduceAdd] at S
      have a8 := (hv g8 S.drop.drop.drop.drop).pk hr hp
      have c8 := a8.o.src
      have q1 := (S.bx 1 rfl).eq
      have s2 := S.slA 2 rfl
      have len_s2 := s2.lenF
      have z2 := s2.one
      try simp (disch := (first | omega | assumption | (simp only [List.length_cons, List.length_nil, List.length_append]; first | done | omega) | (simp (disch := assumption) only [go_sem, one_as, Nat.reduceBEq]; done) | fail)) only [q1, len_s2, z2, i0, i3, i4, c8, go_sem, Hold.p, HoldK.k, HoldL.K, HoldL.body, Nat.reduceBEq, Nat.reduceAdd, reduceIte]
      refine app_e S (by rw [strRows_len]; omega) ?_
      clear S
      intro w9 g9 S z9
      have q2 := (S.bx 2 rfl).eq
      have s3 := S.slA 3 rfl
      have len_s3 := s3.lenF
      have z3 := s3.one
      try simp (disch := (first | omega | assumption | (simp only [List.length_cons, List.length_nil, List.length_append]; first | done | omega) | (simp (disch := assumption) only [go_sem, one_as, Nat.reduceBEq]; done) | fail)) only [q2, len_s3, z3, i0, i3, i4, go_sem, Hold.p, HoldK.k, HoldL.K, HoldL.body, Nat.reduceBEq, Nat.reduceAdd, reduceIte]
      refine st1_of (Nat.le_of_ble_eq_true rfl) (by first | rfl | assumption) fun g10 hg => ?_
      have l_g10 := n_set hg
      have S := S.set2 hg
      clear hg
      simp only [List.set_cons_zero, List.set_cons_succ, List.take_succ_cons, List.take_zero, List.drop_succ_cons, List.drop_zero, List.cons_append, List.nil_append, Nat.reduceAdd] at S
      have q2 := (S.bx 2 rfl).eq
      have s3 := S.slA 3 rfl
      have len_s3 := s3.lenF
      have z3 := s3.one
      try simp (disch := (first | omega | assumption | (simp only [List.length_cons, List.length_nil, List.length_append]; first | done | omega) | (simp (disch := assumption) only [go_sem, one_as, Nat.reduceBEq]; done) | fail)) only [q2, len_s3, z3, i0, i3, i4, lay_p, List.cons_append, List.nil_append, go_sem, Hold.p, HoldK.k, HoldL.K, HoldL.body, Nat.reduceBEq, Nat.reduceAdd, reduceIte]
      refine Sp.bsl1 S (by first | rfl | (rw [cells_one (by assumption)]; rfl)) (by first | rfl | simp (disch := assumption) only [go_sem, cells_one, one_as]) fun p11 g11 S E_g11 l_g11 => ?_
      try simp only [cells_agg, cells_int, cells_bool, cells_ptr, cells_str] at S
      have q0 := (S.bx 0 rfl).eq
      have q3 := (S.bx 3 rfl).eq
      have s4 := S.slA 4 rfl
      have len_s4 := s4.lenF
      have z4 := s4.one
      try simp (disch := (first | omega | assumption | (simp only [List.length_cons, List.length_nil, List.length_append]; first | done | omega) | (simp (disch := assumption) only [go_sem, one_as, Nat.reduceBEq]; done) | fail)) only [q0, q3, len_s4, z4, i0, i3, i4, go_sem, Hold.p, HoldK.k, HoldL.K, HoldL.body, Nat.reduceBEq, Nat.reduceAdd, reduceIte]
      have S := by simpa only [List.map_cons, List.map_nil, List.getD_cons_zero, List.getD_cons_succ, List.drop_succ_cons, List.drop_zero, List.cons_append, List.nil_append] using Sp.sel S 6 [0, 4, 1, 2, 3, 5] (by simp only [List.length_cons]; omega) (by decide) (by decide)
      refine S.app1 (y := false) (b := 128) (by omega) ?_
      clear S
      intro v12 g12 S z12
      try simp (disch := (first | omega | assumption | (simp only [List.length_cons, List.length_nil, List.length_append]; first | done | omega) | (simp (disch := assumption) only [go_sem, one_as, Nat.reduceBEq]; done) | fail)) only [i0, i3, i4, w1, go_sem, Hold.p, HoldK.k, HoldL.K, HoldL.body, Nat.reduceBEq, Nat.reduceAdd, reduceIte]
      refine ⟨_, by omega, k + 1, v12, ors ++ [opRow (takeOp p) w9 w7], rfl, by omega, rfl, rfl, z12, ?_⟩
      rw [List.take_add_one, hp, Option.toList, List.map_append]
      have S := by simpa only [List.map_cons, List.map_nil, List.getD_cons_zero, List.getD_cons_succ, List.drop_succ_cons, List.drop_zero, List.cons_append, List.nil_append] using Sp.sel S 5 [1, 2, 4, 0] (by simp only [List.length_cons]; omega) (by decide) (by decide)
      have S := (op_un (o := takeOp p) S z9 z7).a2one
      have S := by simpa only [List.map_cons, List.map_nil, List.getD_cons_zero, List.getD_cons_succ, List.drop_succ_cons, List.drop_zero, List.cons_append, List.nil_append] using Sp.sel S 3 [1, 0, 2] (by simp only [List.length_cons]; omega) (by decide) (by decide)
      have S := S.a2join
      have S := by simpa only [List.map_cons, List.map_nil, List.getD_cons_zero, List.getD_cons_succ, List.drop_succ_cons, List.drop_zero, List.cons_append, List.nil_append] using Sp.sel S 2 [1, 0] (by simp only [List.length_cons]; omega) (by decide) (by decide)
      exact S
    · skip
      try simp (disch := (first | omega | assumption | (simp only [List.length_cons, List.length_nil, List.length_append]; first | done | omega) | (simp (disch := assumption) only [go_sem, one_as, Nat.reduceBEq]; done) | fail)) only [i0, i3, i4, go_sem, Hold.p, HoldK.k, HoldL.K, HoldL.body, Nat.reduceBEq, Nat.reduceAdd, reduceIte]
      rw [List.take_of_length_le (by omega)] at S
      exact ⟨ors, vo1, S⟩
end
end Go.Proofs.Ytjmmmmdpkfpojaa

set_option maxRecDepth 20000
namespace Go.Proofs.Ytjmmmmdpkfpojaa
open Go Go.IW
section
attribute [local go_sem] List.getElem?_cons_zero List.getElem?_cons_succ Option.bind_some List.map_cons List.map_nil Nat.zero_add if_true List.getD_cons_zero List.getD_cons_succ List.contains_cons List.contains_nil Bool.or_true Bool.true_or Bool.or_false Bool.false_or Bool.not_true Bool.not_false true_and and_true rowA_whole mid_get rowO_rows cellO_rows upd_ne Nat.add_assoc Nat.add_zero List.all_cons List.all_nil one_bool one_int one_str one_ptr one_nilptr one_slice one_eslice one_nilslice one_func one_iface one_niliface Bool.and_true Bool.and_self List.length_cons List.length_nil Nat.one_ne_zero Nat.succ_ne_zero if_false List.set_cons_zero List.set_cons_succ lay_nil lay_1 lay_w Option.map_some cells_one rowA_some List.drop_succ_cons List.drop_zero List.take_succ_cons List.take_zero

/-! ### A drawn order -/
theorem pkRow_one {p : Pk} {vo vp : IV} (h1 : vo.one = true) (h2 : vp.one = true) : (pkRow p vo vp).all IV.one = true := all_cons_one rfl (all_cons_one rfl (all_cons_one rfl (all_cons_one rfl (all_cons_one rfl (all_cons_one rfl (all_cons_one rfl (all_cons_one rfl (all_cons_one rfl (all_cons_one h1 (all_cons_one h2 rfl))))))))))
theorem lwShuffle_c {h h0 : IH} {L : List As} {b : Nat} {v : IV} {bs : Txt} (W : SrcAt h b v bs.length (old h0 :: L)) (hv : SlR h0 1 v (strRows bs)) (hl : bs.length ≤ 1048576) (vl : IV) (rs : List (List IV)) (hs : SlR h 11 vl rs)
    (hn : rs.length ≤ 1048576) (hr : ∀ r ∈ rs, ∃ p vo vp, r = pkRow p vo vp ∧ vo.one = true ∧ vp.one = true) :
    ICalls Try.prog 21 [.ptr b 0 0, vl] h fun r h' => ∃ rs', r.one = true ∧ rs'.Perm rs ∧ SrcAt h' b v bs.length (old h0 :: sl false 44 11 r rs' :: L) := by
  refine icalls (.of ok21) (Nat.le_of_ble_eq_true rfl) ?_
  unfold c21
  have hs1 := hs.one
  have hsrc := hs.src
  obtain ⟨pos, st, w1, w2, w3, S⟩ := W
  have q0 := (S.bx 0 rfl).eq
  try simp (disch := (first | omega | assumption | (simp only [List.length_cons, List.length_nil, List.length_append]; first | done | omega) | (simp (disch := assumption) only [go_sem, one_as, Nat.reduceBEq]; done) | fail)) only [q0, hsrc, go_sem, Hold.p, HoldK.k, HoldL.K, HoldL.body, Nat.reduceBEq, Nat.reduceAdd, reduceIte]
  refine app_e S (by omega) ?_
  clear S
  intro v5 g5 S z5
  have m1 : wr .i64 ((rs.length : Int) - 1) = (rs.length : Int) - 1 := wr64 _ (by omega)
  by_cases h0' : rs = []
  · subst h0'
    have s0 := S.slA 0 rfl
    have len_s0 := s0.lenF
    have z0 := s0.one
    have q1 := (S.bx 1 rfl).eq
    try simp (disch := (first | omega | assumption | (simp only [List.length_cons, List.length_nil, List.length_append]; first | done | omega) | (simp (disch := assumption) only [go_sem, one_as, Nat.reduceBEq]; done) | fail)) only [len_s0, z0, q1, m1, go_sem, Hold.p, HoldK.k, HoldL.K, HoldL.body, Nat.reduceBEq, Nat.reduceAdd, reduceIte]
    refine loop_at (fun n e g => e 5 = v5 ∧ e 6 = .int .i64 (-1) ∧ g = g5) 0 ?_ ?_
    · skip
      try simp (disch := (first | omega | assumption | (simp only [List.length_cons, List.length_nil, List.length_append]; first | done | omega) | (simp (disch := assumption) only [go_sem, one_as, Nat.reduceBEq]; done) | fail)) only [go_sem, Hold.p, HoldK.k, HoldL.K, HoldL.body, Nat.reduceBEq, Nat.reduceAdd, reduceIte]
      exact rfl
    · rintro n e g ⟨i5, i6, rfl⟩
      have s0 := S.slA 0 rfl
      have len_s0 := s0.lenF
      have z0 := s0.one
      have q1 := (S.bx 1 rfl).eq
      try simp (disch := (first | omega | assumption | (simp only [List.length_cons, List.length_nil, List.length_append]; first | done | omega) | (simp (disch := assumption) only [go_sem, one_as, Nat.reduceBEq]; done) | fail)) only [len_s0, z0, q1, i5, i6, go_sem, Hold.p, HoldK.k, HoldL.K, HoldL.body, Nat.reduceBEq, Nat.reduceAdd, reduceIte]
      refine test_dec (fun hb => by omega) (fun hb => ?_)
      have s0 := S.slA 0 rfl
      have len_s0 := s0.lenF
      have z0 := s0.one
      have q1 := (S.bx 1 rfl).eq
      try simp (disch := (first | omega | assumption | (simp only [List.length_cons, List.length_nil, List.length_append]; first | done | omega) | (simp (disch := assumption) only [go_sem, one_as, Nat.reduceBEq]; done) | fail)) only [len_s0, z0, q1, i5, i6, go_sem, Hold.p, HoldK.k, HoldL.K, HoldL.body, Nat.reduceBEq, Nat.reduceAdd, reduceIte]
      have S := by simpa only [List.map_cons, List.map_nil, List.getD_cons_zero, List.getD_cons_succ, List.drop_succ_cons, List.drop_zero, List.cons_append, List.nil_append] using Sp.sel S 3 [1, 2, 0] (by simp only [List.length_cons]; omega) (by decide) (by decide)
      exact ⟨[], .refl _, pos, st, w1, w2, w3, S⟩
  · have S0 := S
    clear S
    obtain ⟨lo, rfl, S⟩ := S0.slBox h0'
    have hpos : 0 < rs.length := List.length_pos_iff.2 h0'
    have q0 := (S.bx 0 rfl).eq
    have q1 := (S.bx 1 rfl).eq
    try simp (disch := (first | omega | assumption | (simp only [List.length_cons, List.length_nil, List.length_append]; first | done | omega) | (simp (disch := assumption) only [go_sem, one_as, Nat.reduceBEq]; done) | fail)) only [q0, q1, m1, go_sem, Hold.p, HoldK.k, HoldL.K, HoldL.body, Nat.reduceBEq, Nat.reduceAdd, reduceIte]
    refine loop_at (fun n e g => ∃ (i : Nat) (R : List (List IV)), i = n ∧ i < rs.length ∧ e 0 = .ptr b 0 0 ∧ e 5 = .slice lo 0 rs.length ∧ e 6 = .int .i64 (i : Nat) ∧ R.Perm rs ∧
      SrcAt g b v bs.length (old h0 :: box lo (.rows R 44 11 false) :: L)) (rs.length - 1) ?_ ?_
    · refine ⟨rs.length - 1, rs, rfl, by omega, ?_⟩
      have q0 := (S.bx 0 rfl).eq
      have q1 := (S.bx 1 rfl).eq
      try simp (disch := (first | omega | assumption | (simp only [List.length_cons, List.length_nil, List.length_append]; first | done | omega) | (simp (disch := assumption) only [go_sem, one_as, Nat.reduceBEq]; done) | fail)) only [q0, q1, go_sem, Hold.p, HoldK.k, HoldL.K, HoldL.body, Nat.reduceBEq, Nat.reduceAdd, reduceIte]
      refine ⟨by congr 1; omega, .refl _, pos, st, w1, w2, w3, ?_⟩
      have S := by simpa only [List.map_cons, List.map_nil, List.getD_cons_zero, List.getD_cons_succ, List.drop_succ_cons, List.drop_zero, List.cons_append, List.nil_append] using Sp.sel S 3 [1, 2, 0] (by simp only [List.length_cons]; omega) (by decide) (by decide)
      exact S
    · clear S
      rintro n e g ⟨i, R, rfl, hi, i0, i5, i6, hp, W⟩
      have hRl := hp.length_eq
      try simp (disch := (first | omega | assumption | (simp only [List.length_cons, List.length_nil, List.length_append]; first | done | omega) | (simp (disch := assumption) only [go_sem, one_as, Nat.reduceBEq]; done) | fail)) only [i0, i5, i6, go_sem, Hold.p, HoldK.k, HoldL.K, HoldL.body, Nat.reduceBEq, Nat.reduceAdd, reduceIte]
      refine test_dec (fun hb => ?_) (fun hb => ?_)
      · have x1 : wr .i64 ((i : Int) + 1) = (i : Int) + 1 := wr64 _ (by omega)
        have x2 : wr .i64 ((i : Int) - 1) = ((i - 1 : Nat) : Int) := by rw [wr64 _ (by omega)]; omega
        try simp (disch := (first | omega | assumption | (simp only [List.length_cons, List.length_nil, List.length_append]; first | done | omega) | (simp (disch := assumption) only [go_sem, one_as, Nat.reduceBEq]; done) | fail)) only [i0, i5, i6, x1, go_sem, Hold.p, HoldK.k, HoldL.K, HoldL.body, Nat.reduceBEq, Nat.reduceAdd, reduceIte]
        refine callA_of (lwNext_c W hv hl ((i : Int) + 1) (by omega)) ?_
        clear W
        rintro r7 g7 ⟨x, rfl, a7, b7, W⟩
        obtain ⟨k, rfl⟩ := Int.eq_ofNat_of_zero_le a7
        have hk : k < rs.length := by have := b7 (by omega); omega
        obtain ⟨pos, st, w1, w2, w3, S⟩ := W
        have ioi : iadrO (IObj.rows R 44 11 false) 11 lo 0 rs.length (i : Int) = some (.ptr lo i 0) := by rw [iadrO_nat (by omega)]; simp
        have iok : iadrO (IObj.rows R 44 11 false) 11 lo 0 rs.length (k : Int) = some (.ptr lo k 0) := by rw [iadrO_nat (by omega)]; simp
        obtain ⟨p1, vo1, vp1, e1, y1, y2⟩ := hr R[i] (hp.mem_iff.1 (List.getElem_mem _))
        obtain ⟨p2, vo2, vp2, e2, y3, y4⟩ := hr R[k] (hp.mem_iff.1 (List.getElem_mem _))
        have hri : R[i]? = some (pkRow p1 vo1 vp1) := by rw [List.getElem?_eq_getElem (by omega), e1]
        have hrk : R[k]? = some (pkRow p2 vo2 vp2) := by rw [List.getElem?_eq_getElem (by omega), e2]
        have hperm : ((R.set i (pkRow p2 vo2 vp2)).set k (pkRow p1 vo1 vp1)).Perm R := by
          have := @List.set_set_perm (List IV) R i k (by omega) (by omega)
          rwa [e1, e2] at this
        unfold pkRow at hri hrk
        have q0 := (S.bx 0 rfl).eq
        have q2 := (S.bx 2 rfl).eq
        try simp (disch := (first | omega | assumption | (simp only [List.length_cons, List.length_nil, List.length_append]; first | done | omega) | (simp (disch := assumption) only [go_sem, one_as, Nat.reduceBEq]; done) | fail)) only [q0, q2, i0, i5, i6, iadrF_sl, ioi, hri, go_sem, Hold.p, HoldK.k, HoldL.K, HoldL.body, Nat.reduceBEq, Nat.reduceAdd, reduceIte]
        refine Sp.zero S fun p8 g8 S E_g8 l_g8 => ?_
        have q0 := (S.bx 0 rfl).eq
        have q1 := (S.bx 1 rfl).eq
        have q3 := (S.bx 3 rfl).eq
        try simp (disch := (first | omega | assumption | (simp only [List.length_cons, List.length_nil, List.length_append]; first | done | omega) | (simp (disch := assumption) only [go_sem, one_as, Nat.reduceBEq]; done) | fail)) only [q0, q1, q3, i0, i5, i6, y1, y2, go_sem, Hold.p, HoldK.k, HoldL.K, HoldL.body, Nat.reduceBEq, Nat.reduceAdd, reduceIte]
        refine stw_of rfl rfl (by first | rfl | simp (disch := assumption) only [go_sem, cells_one, one_as]) fun g9 hg => ?_
        have l_g9 := n_set hg
        have S := S.set0 hg
        clear hg
        have q0 := (S.bx 0 rfl).eq
        have q1 := (S.bx 1 rfl).eq
        have q3 := (S.bx 3 rfl).eq
        try simp (disch := (first | omega | assumption | (simp only [List.length_cons, List.length_nil, List.length_append]; first | done | omega) | (simp (disch := assumption) only [go_sem, one_as, Nat.reduceBEq]; done) | fail)) only [q0, q1, q3, i0, i5, i6, iadrF_sl, iok, hrk, go_sem, Hold.p, HoldK.k, HoldL.K, HoldL.body, Nat.reduceBEq, Nat.reduceAdd, reduceIte]
        refine Sp.zero S fun p9 g10 S E_g10 l_g10 => ?_
        have q0 := (S.bx 0 rfl).eq
        have q1 := (S.bx 1 rfl).eq
        have q2 := (S.bx 2 rfl).eq
        have q4 := (S.bx 4 rfl).eq
        try simp (disch := (first | omega | assumption | (simp only [List.length_cons, List.length_nil, List.length_append]; first | done | omega) | (simp (disch := assumption) only [go_sem, one_as, Nat.reduceBEq]; done) | fail)) only [q0, q1, q2, q4, i0, i5, i6, y3, y4, go_sem, Hold.p, HoldK.k, HoldL.K, HoldL.body, Nat.reduceBEq, Nat.reduceAdd, reduceIte]
        refine stw_of rfl rfl (by first | rfl | simp (disch := assumption) only [go_sem, cells_one, one_as]) fun g11 hg => ?_
        have l_g11 := n_set hg
        have S := S.set0 hg
        clear hg
        have q0 := (S.bx 0 rfl).eq
        have q1 := (S.bx 1 rfl).eq
        have q2 := (S.bx 2 rfl).eq
        have q4 := (S.bx 4 rfl).eq
        try simp (disch := (first | omega | assumption | (simp only [List.length_cons, List.length_nil, List.length_append]; first | done | omega) | (simp (disch := assumption) only [go_sem, one_as, Nat.reduceBEq]; done) | fail)) only [q0, q1, q2, q4, i0, i5, i6, iadrF_sl, ioi, go_sem, Hold.p, HoldK.k, HoldL.K, HoldL.body, Nat.reduceBEq, Nat.reduceAdd, reduceIte]
        refine str_of hri rfl rfl (pkRow_one (p := p2) y3 y4) fun g12 hg => ?_
        have S := S.set4 hg
        clear hg
        have hrk2 : ∃ row, (R.set i (pkRow p2 vo2 vp2))[k]? = some row ∧ row.length = 11 := by
          rw [List.getElem?_set]
          split
          · rw [if_pos (by omega)]; exact ⟨_, rfl, rfl⟩
          · rw [hrk]; exact ⟨_, rfl, rfl⟩
        obtain ⟨row, hrk2, hrl⟩ := hrk2
        have iok2 : iadrO (IObj.rows (R.set i (pkRow p2 vo2 vp2)) 44 11 false) 11 lo 0 rs.length (k : Int) = some (.ptr lo k 0) := by rw [iadrO_nat (by omega)]; simp
        unfold pkRow at hrk2 iok2 hperm
        have q0 := (S.bx 0 rfl).eq
        have q1 := (S.bx 1 rfl).eq
        have q2 := (S.bx 2 rfl).eq
        have q4 := (S.bx 4 rfl).eq
        try simp (disch := (first | omega | assumption | (simp only [List.length_cons, List.length_nil, List.length_append]; first | done | omega) | (simp (disch := assumption) only [go_sem, one_as, Nat.reduceBEq]; done) | fail)) only [q0, q1, q2, q4, i0, i5, i6, iadrF_sl, iok2, go_sem, Hold.p, HoldK.k, HoldL.K, HoldL.body, Nat.reduceBEq, Nat.reduceAdd, reduceIte]
        refine str_of hrk2 rfl hrl (pkRow_one (p := p1) y1 y2) fun g13 hg => ?_
        have S := S.set4 hg
        clear hg
        have q0 := (S.bx 0 rfl).eq
        have q1 := (S.bx 1 rfl).eq
        have q2 := (S.bx 2 rfl).eq
        have q4 := (S.bx 4 rfl).eq
        try simp (disch := (first | omega | assumption | (simp only [List.length_cons, List.length_nil, List.length_append]; first | done | omega) | (simp (disch := assumption) only [go_sem, one_as, Nat.reduceBEq]; done) | fail)) only [q0, q1, q2, q4, i0, i5, i6, x2, go_sem, Hold.p, HoldK.k, HoldL.K, HoldL.body, Nat.reduceBEq, Nat.reduceAdd, reduceIte]
        have S := by simpa only [List.map_cons, List.map_nil, List.getD_cons_zero, List.getD_cons_succ, List.drop_succ_cons, List.drop_zero, List.cons_append, List.nil_append] using Sp.sel S 5 [2, 3, 4] (by simp only [List.length_cons]; omega) (by decide) (by decide)
        exact ⟨i - 1, by omega, i - 1, _, rfl, by omega, rfl, hperm.trans hp, pos, st, w1, w2, w3, S⟩
      · obtain ⟨pos, st, w1, w2, w3, S⟩ := W
        have S := by simpa only [List.map_cons, List.map_nil, List.getD_cons_zero, List.getD_cons_succ, List.drop_succ_cons, List.drop_zero, List.cons_append, List.nil_append] using Sp.sel S 3 [2, 0, 1] (by simp only [List.length_cons]; omega) (by decide) (by decide)
        have S := S.boxSl (x := false) (n := rs.length) hRl (.inr (by intro e; rw [e] at hRl; simp at hRl; omega))
        have s0 := S.slA 0 rfl
        have len_s0 := s0.lenF
        have z0 := s0.one
        have q1 := (S.bx 1 rfl).eq
        try simp (disch := (first | omega | assumption | (simp only [List.length_cons, List.length_nil, List.length_append]; first | done | omega) | (simp (disch := assumption) only [go_sem, one_as, Nat.reduceBEq]; done) | fail)) only [len_s0, z0, q1, i0, i5, i6, go_sem, Hold.p, HoldK.k, HoldL.K, HoldL.body, Nat.reduceBEq, Nat.reduceAdd, reduceIte]
        have S := by simpa only [List.map_cons, List.map_nil, List.getD_cons_zero, List.getD_cons_succ, List.drop_succ_cons, List.drop_zero, List.cons_append, List.nil_append] using Sp.sel S 3 [1, 2, 0] (by simp only [List.length_cons]; omega) (by decide) (by decide)
        exact ⟨R, hp, pos, st, w1, w2, w3, S⟩
end
end Go.Proofs.Ytjmmmmdpkfpojaa

set_option maxRecDepth 20000
namespace Go.Proofs
open Go.Shelf
def Try.delRen : Go.Shelf.Ren := ⟨fun | 45 => 72 | n => n, fun | 22 => 74 | 23 => 105 | n => n, fun | n => n⟩
theorem Try.delLays : SlLaysE.n45 Try.prog Try.delRen := {
  mixed := by kernel_rfl
  f45 := ⟨Try.f72.name, by kernel_rfl, Try.func72.trans (congrArg some (by kernel_rfl))⟩
  t0 := Try.underlying0
  a0 := Try.isAgg0
  z0 := Try.sizeOf0
  v0 := Try.zeroValue0
  t3 := Try.underlying3
  a3 := Try.isAgg3
  z3 := Try.sizeOf3
  v3 := Try.zeroValue3
  t4 := Try.underlying4
  a4 := Try.isAgg4
  z4 := Try.sizeOf4
  v4 := Try.zeroValue4
  t22 := Try.underlying74
  a22 := Try.isAgg74
  z22 := Try.sizeOf74
  v22 := Try.zeroValue74
  a23 := Try.isAgg105
  z23 := Try.sizeOf105 }
end Go.Proofs
namespace Go.Proofs.Ytjmmmmdpkfpojaa
open Go Go.IW
theorem mkInfo : ∃ i0, Try.prog.info? 105 = some i0 ∧ i0.size = 1 := by
  have h : tsz Try.prog 105 = some 1 := by kernel_rfl
  unfold tsz at h
  rw [Option.map_eq_some_iff] at h
  exact h
theorem delete_c {x : Bool} {h : IH} {L : List As} {v : IV} {rs : List (List IV)} {i j : Nat} (S : Sp h (sl x 105 1 v rs :: L)) (hne : rs ≠ []) (hij : i ≤ j) (hj : j ≤ rs.length) :
    ICalls Try.prog 72 [v, .int .i64 (i : Nat), .int .i64 (j : Nat)] h fun r h' => Sp h' (sl true 105 1 r (rs.take i ++ rs.drop j) :: L) ∧ r.one = true :=
  S.delete (Go.Proofs.enters_of Try.func72 (by kernel_rfl) rfl) ⟨.pointer none, rfl⟩
    (fun blk cap i j d w h1 h2 h3 h4 h5 => Go.Proofs.AnyE.slices_Delete Try.delLays V1.enc (fun x => x.2) ⟨.pointer none, rfl⟩ Try.zeroValue105 _ mkInfo.choose_spec.1 mkInfo.choose_spec.2 blk 0 cap i j d w h1 h2 h3 h4 h5) hne hij hj
end Go.Proofs.Ytjmmmmdpkfpojaa

set_option maxRecDepth 20000
namespace Go.Proofs.Ytjmmmmdpkfpojaa
open Go Go.IW
section
attribute [local go_sem] List.getElem?_cons_zero List.getElem?_cons_succ Option.bind_some List.map_cons List.map_nil Nat.zero_add if_true List.getD_cons_zero List.getD_cons_succ List.contains_cons List.contains_nil Bool.or_true Bool.true_or Bool.or_false Bool.false_or Bool.not_true Bool.not_false true_and and_true rowA_whole mid_get rowO_rows cellO_rows upd_ne Nat.add_assoc Nat.add_zero List.all_cons List.all_nil one_bool one_int one_str one_ptr one_nilptr one_slice one_eslice one_nilslice one_func one_iface one_niliface Bool.and_true Bool.and_self List.length_cons List.length_nil Nat.one_ne_zero Nat.succ_ne_zero if_false List.set_cons_zero List.set_cons_succ lay_nil lay_1 lay_w Option.map_some cells_one rowA_some List.drop_succ_cons List.drop_zero List.take_succ_cons List.take_zero

/-! ### impl's state in memory -/
abbrev mkO (m : Mk) (vps : IV) (en : Int) (vf : IV) (ref : Bool) : IObj := .rows [[.int .i64 m.src, .int .i64 m.dst, .int .i64 m.proto, .int .i64 m.id, vps, .int .i64 en, vf, .int .i64 m.begun, .bool ref]] 111 9 false
/-- The first packet of a datagram, or none. -/
def firstP (vf : IV) : Option Pk → As
  | none => fact (vf = .nilptr)
  | some p => exA fun v : Nat × IV × IV => stars (fact (vf = .ptr v.1 0 0)) (stars (box v.1 (pkObj p v.2.1 v.2.2)) (stars (byt v.2.1 p.opts) (byt v.2.2 p.pay)))
theorem first_some {h : IH} {L : List As} {vf : IV} {p : Pk} (S : Sp h (firstP vf (some p) :: L)) : ∃ q vo vp, vf = .ptr q 0 0 ∧ Sp h (box q (pkObj p vo vp) :: byt vo p.opts :: byt vp p.pay :: L) := by
  obtain ⟨⟨q, vo, vp⟩, S⟩ := S.ex
  obtain ⟨hv, S⟩ := S.star.fact
  have S := S.star
  have S := S.p1.star
  have S := by simpa only [List.map_cons, List.map_nil, List.getD_cons_zero, List.getD_cons_succ, List.drop_succ_cons, List.drop_zero, List.cons_append, List.nil_append] using Sp.sel S 3 [2, 0, 1] (by simp only [List.length_cons]; omega) (by decide) (by decide)
  exact ⟨q, vo, vp, hv, S⟩
theorem first_mk {h : IH} {L : List As} {p : Pk} {q : Nat} {vo vp : IV} (S : Sp h (box q (pkObj p vo vp) :: byt vo p.opts :: byt vp p.pay :: L)) : Sp h (firstP (.ptr q 0 0) (some p) :: L) := by
  have S := by simpa only [List.map_cons, List.map_nil, List.getD_cons_zero, List.getD_cons_succ, List.drop_succ_cons, List.drop_zero, List.cons_append, List.nil_append] using Sp.sel S 3 [1, 2, 0] (by simp only [List.length_cons]; omega) (by decide) (by decide)
  have S := (S.unstar.p1.unstar.unfact (p := IV.ptr q 0 0 = .ptr q 0 0) rfl).unstar
  exact Sp.unex (F := fun v : Nat × IV × IV => stars (fact (IV.ptr q 0 0 = .ptr v.1 0 0)) (stars (box v.1 (pkObj p v.2.1 v.2.2)) (stars (byt v.2.1 p.opts) (byt v.2.2 p.pay)))) (q, vo, vp) S
theorem first_none {h : IH} {L : List As} (S : Sp h L) : Sp h (firstP .nilptr none :: L) := S.unfact rfl
theorem first_nil {h : IH} {L : List As} {vf : IV} {o : Option Pk} (S : Sp h L) (k : Nat) (hk : L[k]? = some (firstP vf o)) : isNil .ptr vf = some o.isNone ∧ vf.one = true := by
  obtain ⟨f, hf⟩ := S.part k hk
  cases o with
  | none => obtain ⟨_, rfl⟩ := hf; exact ⟨rfl, rfl⟩
  | some p => obtain ⟨⟨q, vo, vp⟩, f1, f2, _, ⟨_, rfl⟩, _⟩ := hf; exact ⟨rfl, rfl⟩
/-- A datagram in the making, on impl's side. -/
def mkR (r : List IV) (m : Mk) : As := exA fun v : Nat × IV × IV × List (List IV) => stars (fact (r = [.ptr v.1 0 0])) (stars (box v.1 (mkO m v.2.1 m.en v.2.2.1 m.ref)) (stars (sl false 116 2 v.2.1 v.2.2.2) (stars (all2 pcR v.2.2.2 m.ps) (firstP v.2.2.1 m.first))))
theorem mk_open {h : IH} {L : List As} {r : List IV} {m : Mk} (S : Sp h (mkR r m :: L)) : ∃ q vps vf prs, r = [.ptr q 0 0] ∧ Sp h (box q (mkO m vps m.en vf m.ref) :: sl false 116 2 vps prs :: all2 pcR prs m.ps :: firstP vf m.first :: L) := by
  obtain ⟨⟨q, vps, vf, prs⟩, S⟩ := S.ex
  obtain ⟨hr, S⟩ := S.star.fact
  have S := S.star
  have S := S.p1.star
  have S := S.p1.star
  have S := by simpa only [List.map_cons, List.map_nil, List.getD_cons_zero, List.getD_cons_succ, List.drop_succ_cons, List.drop_zero, List.cons_append, List.nil_append] using Sp.sel S 4 [3, 2, 0, 1] (by simp only [List.length_cons]; omega) (by decide) (by decide)
  exact ⟨q, vps, vf, prs, hr, S⟩
theorem mk_mk {h : IH} {L : List As} {m : Mk} {q : Nat} {vps vf : IV} {prs : List (List IV)} (S : Sp h (box q (mkO m vps m.en vf m.ref) :: sl false 116 2 vps prs :: all2 pcR prs m.ps :: firstP vf m.first :: L)) : Sp h (mkR [.ptr q 0 0] m :: L) := by
  have S := by simpa only [List.map_cons, List.map_nil, List.getD_cons_zero, List.getD_cons_succ, List.drop_succ_cons, List.drop_zero, List.cons_append, List.nil_append] using Sp.sel S 4 [2, 3, 1, 0] (by simp only [List.length_cons]; omega) (by decide) (by decide)
  have S := S.unstar.p1.unstar.p1.unstar
  have S := (S.unfact (p := [IV.ptr q 0 0] = [.ptr q 0 0]) rfl).unstar
  exact Sp.unex (F := fun v : Nat × IV × IV × List (List IV) => stars (fact ([IV.ptr q 0 0] = [.ptr v.1 0 0])) (stars (box v.1 (mkO m v.2.1 m.en v.2.2.1 m.ref)) (stars (sl false 116 2 v.2.1 v.2.2.2) (stars (all2 pcR v.2.2.2 m.ps) (firstP v.2.2.1 m.first))))) (q, vps, vf, prs) S
/-- What is known of one of them. -/
theorem mk_at {h : IH} {L : List As} {rs : List (List IV)} {l : List Mk} (S : Sp h L) (k : Nat) (hk : L[k]? = some (all2 mkR rs l)) {i : Nat} {m : Mk} (hi : l[i]? = some m) :
    ∃ q vps vf, rs[i]? = some [.ptr q 0 0] ∧ At h q (mkO m vps m.en vf m.ref) ∧ vps.one = true ∧ isNil .ptr vf = some m.first.isNone ∧ vf.one = true := by
  obtain ⟨f, hf⟩ := S.part k hk
  obtain ⟨r, f', h1, ⟨q, vps, vf, prs⟩, f1, f2, _, ⟨_, rfl⟩, g1, g2, _, ⟨_, h5, h6⟩, g3, g4, _, h7, g5, g6, _, _, h8⟩ := all2_at hf hi
  refine ⟨q, vps, vf, h1, ⟨h5, h6⟩, ?_, ?_, ?_⟩
  · rcases h7 with ⟨_, _, h7 | h7⟩ | ⟨l, _, h7, _⟩ <;> · simp only at h7; rw [h7]; rfl
  · generalize m.first = o at h8 ⊢
    cases o with
    | none => obtain ⟨_, h8⟩ := h8; simp only at h8; rw [h8]; rfl
    | some p => obtain ⟨⟨q, vo, vp⟩, f1, f2, _, ⟨_, h8⟩, _⟩ := h8; simp only at h8; rw [h8]; rfl
  · generalize m.first = o at h8
    cases o with
    | none => obtain ⟨_, h8⟩ := h8; simp only at h8; rw [h8]; rfl
    | some p => obtain ⟨⟨q, vo, vp⟩, f1, f2, _, ⟨_, h8⟩, _⟩ := h8; simp only at h8; rw [h8]; rfl
def toldI (m : Mk) : En := ⟨m.src, m.dst, m.proto, m.id, m.first.isSome⟩
def keyI (p : Pk) (m : Mk) : Bool := decide (m.src = p.src) && decide (m.dst = p.dst) && decide (m.proto = p.proto) && decide (m.id = p.id)
theorem told_c {h : IH} {L : List As} (S : Sp h L) {q : Nat} {m : Mk} {vps vf : IV} {en : Int} {ref : Bool} (hb : At h q (mkO m vps en vf ref)) (hf : isNil .ptr vf = some m.first.isNone) :
    ICalls Try.prog 57 [.ptr q 0 0] h fun r h' => r = .agg (enRow (toldI m)) ∧ Sp h' L := by
  refine icalls (.of ok57) (Nat.le_of_ble_eq_true rfl) ?_
  unfold c57
  try simp (disch := (first | omega | assumption | (simp only [List.length_cons, List.length_nil, List.length_append]; first | done | omega) | (simp (disch := assumption) only [go_sem, one_as, Nat.reduceBEq]; done) | fail)) only [go_sem, Hold.p, HoldK.k, HoldL.K, HoldL.body, Nat.reduceBEq, Nat.reduceAdd, reduceIte]
  refine Sp.zero S fun p2 g1 S E_g1 l_g1 => ?_
  have qq := (hb.ext E_g1).eq
  have hs : (m.first.isNone != true) = m.first.isSome := by cases m.first <;> rfl
  have q0 := (S.bx 0 rfl).eq
  try simp (disch := (first | omega | assumption | (simp only [List.length_cons, List.length_nil, List.length_append]; first | done | omega) | (simp (disch := assumption) only [go_sem, one_as, Nat.reduceBEq]; done) | fail)) only [q0, qq, hf, hs, go_sem, Hold.p, HoldK.k, HoldL.K, HoldL.body, Nat.reduceBEq, Nat.reduceAdd, reduceIte]
  refine stw_of rfl rfl (by first | rfl | simp (disch := assumption) only [go_sem, cells_one, one_as]) fun g2 hg => ?_
  have l_g2 := n_set hg
  have S := S.set0 hg
  clear hg
  have q0 := (S.bx 0 rfl).eq
  try simp (disch := (first | omega | assumption | (simp only [List.length_cons, List.length_nil, List.length_append]; first | done | omega) | (simp (disch := assumption) only [go_sem, one_as, Nat.reduceBEq]; done) | fail)) only [q0, go_sem, Hold.p, HoldK.k, HoldL.K, HoldL.body, Nat.reduceBEq, Nat.reduceAdd, reduceIte]
  exact ⟨rfl, S.drop⟩
theorem closure_c {h : IH} {L : List As} {q k : Nat} {m : Mk} {vps vf : IV} {p : Pk} (hb : At h q (mkO m vps m.en vf m.ref)) (hk : At h k (.rows [[.int .i64 p.src, .int .i64 p.dst, .int .i64 p.proto, .int .i64 p.id]] 107 4 false)) :
    ICalls Try.prog 71 [.ptr q 0 0, .ptr k 0 0] h fun r h' => r = .bool (keyI p m) ∧ h' = h := by
  refine icalls (.of ok71) (Nat.le_of_ble_eq_true rfl) ?_
  unfold c71
  have q1 := hb.eq
  have q2 := hk.eq
  try simp (disch := (first | omega | assumption | (simp only [List.length_cons, List.length_nil, List.length_append]; first | done | omega) | (simp (disch := assumption) only [go_sem, one_as, Nat.reduceBEq]; done) | fail)) only [q1, q2, go_sem, Hold.p, HoldK.k, HoldL.K, HoldL.body, Nat.reduceBEq, Nat.reduceAdd, reduceIte]
  congr 1
  simp [keyI, Bool.and_assoc]
abbrev keyO (p : Pk) : IObj := .rows [[.int .i64 p.src, .int .i64 p.dst, .int .i64 p.proto, .int .i64 p.id]] 107 4 false
theorem index_c {h : IH} {L : List As} {x : Bool} {vl : IV} {rs : List (List IV)} {l : List Mk} {k : Nat} {p : Pk} (S : Sp h (box k (keyO p) :: sl x 105 1 vl rs :: all2 mkR rs l :: L)) (hl : l.length ≤ 1000) :
    ICalls Try.prog 70 [vl, .func 71 [] [.ptr k 0 0]] h fun r h' => r = .int .i64 (findI (keyI p) l) ∧ Sp h' (box k (keyO p) :: sl x 105 1 vl rs :: all2 mkR rs l :: L) := by
  refine icalls (.of ok70) (Nat.le_of_ble_eq_true rfl) ?_
  unfold c70
  have hrl := a2_len S 2 rfl
  have s1 := S.slA 1 rfl
  have len_s1 := s1.lenF
  have z1 := s1.one
  try simp (disch := (first | omega | assumption | (simp only [List.length_cons, List.length_nil, List.length_append]; first | done | omega) | (simp (disch := assumption) only [go_sem, one_as, Nat.reduceBEq]; done) | fail)) only [len_s1, z1, hrl, go_sem, Hold.p, HoldK.k, HoldL.K, HoldL.body, Nat.reduceBEq, Nat.reduceAdd, reduceIte]
  refine loop_at (fun m e g => ∃ j : Nat, m = l.length - j ∧ j ≤ l.length ∧ e 0 = vl ∧ e 1 = .func 71 [] [.ptr k 0 0] ∧ e 7 = .int .i64 (l.length : Nat) ∧ e 8 = .int .i64 (j : Nat) ∧ (∀ y ∈ l.take j, keyI p y = false) ∧
    Sp g (box k (keyO p) :: sl x 105 1 vl rs :: all2 mkR rs l :: L)) l.length ?_ ?_
  · refine ⟨0, by omega, by omega, ?_⟩
    try simp (disch := (first | omega | assumption | (simp only [List.length_cons, List.length_nil, List.length_append]; first | done | omega) | (simp (disch := assumption) only [go_sem, one_as, Nat.reduceBEq]; done) | fail)) only [go_sem, Hold.p, HoldK.k, HoldL.K, HoldL.body, Nat.reduceBEq, Nat.reduceAdd, reduceIte]
    exact ⟨rfl, by simp, S⟩
  · clear S len_s1 z1 s1
    rintro m e g ⟨j, rfl, hj, i0, i1, i7, i8, hno, S⟩
    try simp (disch := (first | omega | assumption | (simp only [List.length_cons, List.length_nil, List.length_append]; first | done | omega) | (simp (disch := assumption) only [go_sem, one_as, Nat.reduceBEq]; done) | fail)) only [i0, i1, i7, i8, go_sem, Hold.p, HoldK.k, HoldL.K, HoldL.body, Nat.reduceBEq, Nat.reduceAdd, reduceIte]
    refine test_dec (fun hb => ?_) (fun hb => ?_)
    · obtain ⟨mm, hm⟩ : ∃ m, l[j]? = some m := ⟨_, List.getElem?_eq_getElem (by omega : j < l.length)⟩
      obtain ⟨q, vps, vf, hrow, hbq, _, _, _⟩ := mk_at S 2 rfl hm
      have s1 := S.slA 1 rfl
      obtain ⟨a1, a2, hia, hal, har⟩ := s1.at hrow .i64
      have hcl := cellO_row har
      have w1 : wr .i64 ((j : Int) + 1) = ((j + 1 : Nat) : Int) := by rw [wr64 _ (by omega)]; rfl
      try simp (disch := (first | omega | assumption | (simp only [List.length_cons, List.length_nil, List.length_append]; first | done | omega) | (simp (disch := assumption) only [go_sem, one_as, Nat.reduceBEq]; done) | fail)) only [i0, i1, i7, i8, hia, hcl, go_sem, Hold.p, HoldK.k, HoldL.K, HoldL.body, Nat.reduceBEq, Nat.reduceAdd, reduceIte]
      refine callA_of (closure_c (h := g) (L := L) hbq (S.bx 0 rfl)) ?_
      rintro r g2 ⟨rfl, rfl⟩
      try simp (disch := (first | omega | assumption | (simp only [List.length_cons, List.length_nil, List.length_append]; first | done | omega) | (simp (disch := assumption) only [go_sem, one_as, Nat.reduceBEq]; done) | fail)) only [i0, i1, i7, i8, go_sem, Hold.p, HoldK.k, HoldL.K, HoldL.body, Nat.reduceBEq, Nat.reduceAdd, reduceIte]
      refine test_of (fun hc => ?_) (fun hc => ?_)
      · skip
        try simp (disch := (first | omega | assumption | (simp only [List.length_cons, List.length_nil, List.length_append]; first | done | omega) | (simp (disch := assumption) only [go_sem, one_as, Nat.reduceBEq]; done) | fail)) only [i0, i1, i7, i8, go_sem, Hold.p, HoldK.k, HoldL.K, HoldL.body, Nat.reduceBEq, Nat.reduceAdd, reduceIte]
        exact ⟨by rw [findI_hit hno hm hc], S⟩
      · skip
        try simp (disch := (first | omega | assumption | (simp only [List.length_cons, List.length_nil, List.length_append]; first | done | omega) | (simp (disch := assumption) only [go_sem, one_as, Nat.reduceBEq]; done) | fail)) only [i0, i1, i7, i8, w1, go_sem, Hold.p, HoldK.k, HoldL.K, HoldL.body, Nat.reduceBEq, Nat.reduceAdd, reduceIte]
        exact ⟨_, by omega, j + 1, rfl, by omega, rfl, take_all hno hm hc, S⟩
    · skip
      try simp (disch := (first | omega | assumption | (simp only [List.length_cons, List.length_nil, List.length_append]; first | done | omega) | (simp (disch := assumption) only [go_sem, one_as, Nat.reduceBEq]; done) | fail)) only [go_sem, Hold.p, HoldK.k, HoldL.K, HoldL.body, Nat.reduceBEq, Nat.reduceAdd, reduceIte]
      rw [List.take_of_length_le (by omega)] at hno
      exact ⟨by rw [findI_none hno], S⟩
theorem refuse_c {h : IH} {L : List As} {q : Nat} {m : Mk} {vps vf : IV} {en : Int} {ref : Bool} (S : Sp h (box q (mkO m vps en vf ref) :: L)) :
    ICalls Try.prog 74 [.ptr q 0 0] h fun r h' => Sp h' (box q (mkO m .nilslice (-1) .nilptr true) :: L) := by
  refine icalls (.of ok74) (Nat.le_of_ble_eq_true rfl) ?_
  unfold c74
  have q0 := (S.bx 0 rfl).eq
  try simp (disch := (first | omega | assumption | (simp only [List.length_cons, List.length_nil, List.length_append]; first | done | omega) | (simp (disch := assumption) only [go_sem, one_as, Nat.reduceBEq]; done) | fail)) only [q0, go_sem, Hold.p, HoldK.k, HoldL.K, HoldL.body, Nat.reduceBEq, Nat.reduceAdd, reduceIte]
  refine st1_of (Nat.le_of_ble_eq_true rfl) (by first | rfl | assumption) fun g1 hg => ?_
  have l_g1 := n_set hg
  have S := S.set0 hg
  clear hg
  simp only [List.set_cons_zero, List.set_cons_succ, List.take_succ_cons, List.take_zero, List.drop_succ_cons, List.drop_zero, List.cons_append, List.nil_append, Nat.reduceAdd] at S
  have q0 := (S.bx 0 rfl).eq
  try simp (disch := (first | omega | assumption | (simp only [List.length_cons, List.length_nil, List.length_append]; first | done | omega) | (simp (disch := assumption) only [go_sem, one_as, Nat.reduceBEq]; done) | fail)) only [q0, go_sem, Hold.p, HoldK.k, HoldL.K, HoldL.body, Nat.reduceBEq, Nat.reduceAdd, reduceIte]
  refine st1_of (Nat.le_of_ble_eq_true rfl) (by first | rfl | assumption) fun g2 hg => ?_
  have l_g2 := n_set hg
  have S := S.set0 hg
  clear hg
  simp only [List.set_cons_zero, List.set_cons_succ, List.take_succ_cons, List.take_zero, List.drop_succ_cons, List.drop_zero, List.cons_append, List.nil_append, Nat.reduceAdd] at S
  have q0 := (S.bx 0 rfl).eq
  try simp (disch := (first | omega | assumption | (simp only [List.length_cons, List.length_nil, List.length_append]; first | done | omega) | (simp (disch := assumption) only [go_sem, one_as, Nat.reduceBEq]; done) | fail)) only [q0, go_sem, Hold.p, HoldK.k, HoldL.K, HoldL.body, Nat.reduceBEq, Nat.reduceAdd, reduceIte]
  refine st1_of (Nat.le_of_ble_eq_true rfl) (by first | rfl | assumption) fun g3 hg => ?_
  have l_g3 := n_set hg
  have S := S.set0 hg
  clear hg
  simp only [List.set_cons_zero, List.set_cons_succ, List.take_succ_cons, List.take_zero, List.drop_succ_cons, List.drop_zero, List.cons_append, List.nil_append, Nat.reduceAdd] at S
  have q0 := (S.bx 0 rfl).eq
  try simp (disch := (first | omega | assumption | (simp only [List.length_cons, List.length_nil, List.length_append]; first | done | omega) | (simp (disch := assumption) only [go_sem, one_as, Nat.reduceBEq]; done) | fail)) only [q0, go_sem, Hold.p, HoldK.k, HoldL.K, HoldL.body, Nat.reduceBEq, Nat.reduceAdd, reduceIte]
  refine st1_of (Nat.le_of_ble_eq_true rfl) (by first | rfl | assumption) fun g4 hg => ?_
  have l_g4 := n_set hg
  have S := S.set0 hg
  clear hg
  simp only [List.set_cons_zero, List.set_cons_succ, List.take_succ_cons, List.take_zero, List.drop_succ_cons, List.drop_zero, List.cons_append, List.nil_append, Nat.reduceAdd] at S
  have q0 := (S.bx 0 rfl).eq
  try simp (disch := (first | omega | assumption | (simp only [List.length_cons, List.length_nil, List.length_append]; first | done | omega) | (simp (disch := assumption) only [go_sem, one_as, Nat.reduceBEq]; done) | fail)) only [q0, go_sem, Hold.p, HoldK.k, HoldL.K, HoldL.body, Nat.reduceBEq, Nat.reduceAdd, reduceIte]
  exact S
theorem refused_mk {h : IH} {L : List As} {q : Nat} {m : Mk} (S : Sp h (box q (mkO m .nilslice (-1) .nilptr true) :: L)) : Sp h (mkR [.ptr q 0 0] m.refuse :: L) := by
  have S := ((first_none S).a2nil (R := pcR)).slNil (x := false) (el := 116) (sz := 2)
  have S := by simpa only [List.map_cons, List.map_nil, List.getD_cons_zero, List.getD_cons_succ, List.drop_succ_cons, List.drop_zero, List.cons_append, List.nil_append] using Sp.sel S 4 [3, 0, 1, 2] (by simp only [List.length_cons]; omega) (by decide) (by decide)
  exact mk_mk (m := m.refuse) S
def goneI (now : Int) (m : Mk) : Bool := decide (m.begun + 30000 ≤ now)
set_option maxHeartbeats 1000000 in
theorem past_c {h : IH} {L : List As} {x : Nat} {b : Bool} {now : Int} {vl : IV} {rs : List (List IV)} {l : List Mk} (S : Sp h (box x (.rows [[.int .i64 now, vl]] 76 2 false) :: sl b 105 1 vl rs :: all2 mkR rs l :: L)) (hl : l.length ≤ 1000) (hb : ∀ m ∈ l, 0 ≤ m.begun ∧ m.begun ≤ 1000000000) :
    ICalls Try.prog 56 [.ptr x 0 0] h fun r h' => ∃ vn rg rn, Sp h' (sl false 105 1 r rg :: all2 mkR rg (l.filter (goneI now)) :: box x (.rows [[.int .i64 now, vn]] 76 2 false) :: sl false 105 1 vn rn :: all2 mkR rn (l.filter fun m => !goneI now m) :: L) := by
  refine icalls (.of ok56) (Nat.le_of_ble_eq_true rfl) ?_
  unfold c56
  have hrl := a2_len S 2 rfl
  have q0 := (S.bx 0 rfl).eq
  have s1 := S.slA 1 rfl
  have len_s1 := s1.lenF
  have z1 := s1.one
  try simp (disch := (first | omega | assumption | (simp only [List.length_cons, List.length_nil, List.length_append]; first | done | omega) | (simp (disch := assumption) only [go_sem, one_as, Nat.reduceBEq]; done) | fail)) only [q0, len_s1, z1, hrl, go_sem, Hold.p, HoldK.k, HoldL.K, HoldL.body, Nat.reduceBEq, Nat.reduceAdd, reduceIte]
  refine loop_at (fun n e g => ∃ (k : Nat) (vg vn : IV) (rg rn : List (List IV)), n = l.length - k ∧ k ≤ l.length ∧ e 0 = .ptr x 0 0 ∧ e 3 = vg ∧ e 4 = vn ∧ e 10 = vl ∧ e 11 = .int .i64 (l.length : Nat) ∧ e 12 = .int .i64 (k : Nat) ∧ rg.length ≤ k ∧ rn.length ≤ k ∧
    Sp g (all2 mkR (rs.drop k) (l.drop k) :: sl false 105 1 vg rg :: all2 mkR rg ((l.take k).filter (goneI now)) :: sl false 105 1 vn rn :: all2 mkR rn ((l.take k).filter fun m => !goneI now m) :: box x (.rows [[.int .i64 now, vl]] 76 2 false) :: sl b 105 1 vl rs :: L)) l.length ?_ ?_
  · refine ⟨0, .nilslice, .nilslice, [], [], by omega, by omega, ?_⟩
    try simp (disch := (first | omega | assumption | (simp only [List.length_cons, List.length_nil, List.length_append]; first | done | omega) | (simp (disch := assumption) only [go_sem, one_as, Nat.reduceBEq]; done) | fail)) only [go_sem, Hold.p, HoldK.k, HoldL.K, HoldL.body, Nat.reduceBEq, Nat.reduceAdd, reduceIte]
    refine ⟨rfl, Nat.le_refl _, Nat.le_refl _, ?_⟩
    have S := (((S.a2nil (R := mkR)).slNil (x := false) (el := 105) (sz := 1)).a2nil (R := mkR)).slNil (x := false) (el := 105) (sz := 1)
    have S := by simpa only [List.map_cons, List.map_nil, List.getD_cons_zero, List.getD_cons_succ, List.drop_succ_cons, List.drop_zero, List.cons_append, List.nil_append] using Sp.sel S 7 [6, 0, 1, 2, 3, 4, 5] (by simp only [List.length_cons]; omega) (by decide) (by decide)
    exact S
  · clear S len_s1 z1 s1
    rintro n e g ⟨k, vg, vn, rg, rn, rfl, hk, i0, i3, i4, i10, i11, i12, hg1, hn1, S⟩
    try simp (disch := (first | omega | assumption | (simp only [List.length_cons, List.length_nil, List.length_append]; first | done | omega) | (simp (disch := assumption) only [go_sem, one_as, Nat.reduceBEq]; done) | fail)) only [i0, i3, i4, i10, i11, i12, go_sem, Hold.p, HoldK.k, HoldL.K, HoldL.body, Nat.reduceBEq, Nat.reduceAdd, reduceIte]
    refine test_dec (fun hb2 => ?_) (fun hb2 => ?_)
    · obtain ⟨m, hm⟩ : ∃ m, l[k]? = some m := ⟨_, List.getElem?_eq_getElem (by omega : k < l.length)⟩
      obtain ⟨row, hrk⟩ : ∃ m, rs[k]? = some m := ⟨_, List.getElem?_eq_getElem (by omega : k < rs.length)⟩
      rw [drop_at hm, drop_at hrk] at S
      have S0 := S
      clear S
      obtain ⟨q, vps, vf, prs, rfl, S⟩ := mk_open S0.star
      have s9 := S.slA 10 rfl
      obtain ⟨a1, a2, hia, hal, har⟩ := s9.at hrk .i64
      have hcl := cellO_row har
      have hbm := hb m (List.mem_of_getElem? hm)
      have w1 : wr .i64 ((k : Int) + 1) = ((k + 1 : Nat) : Int) := by rw [wr64 _ (by omega)]; rfl
      have w2 : wr .i64 (m.begun + 30000) = m.begun + 30000 := wr64 _ (by omega)
      have ht : l.take (k + 1) = l.take k ++ [m] := by rw [List.take_add_one, hm]; rfl
      have q0 := (S.bx 0 rfl).eq
      have q9 := (S.bx 9 rfl).eq
      try simp (disch := (first | omega | assumption | (simp only [List.length_cons, List.length_nil, List.length_append]; first | done | omega) | (simp (disch := assumption) only [go_sem, one_as, Nat.reduceBEq]; done) | fail)) only [q0, q9, i0, i3, i4, i10, i11, i12, hia, hcl, w2, go_sem, Hold.p, HoldK.k, HoldL.K, HoldL.body, Nat.reduceBEq, Nat.reduceAdd, reduceIte]
      refine test_dec (fun hc => ?_) (fun hc => ?_)
      · have hgi : goneI now m = true := decide_eq_true hc
        try simp (disch := (first | omega | assumption | (simp only [List.length_cons, List.length_nil, List.length_append]; first | done | omega) | (simp (disch := assumption) only [go_sem, one_as, Nat.reduceBEq]; done) | fail)) only [i0, i3, i4, i10, i11, i12, go_sem, Hold.p, HoldK.k, HoldL.K, HoldL.body, Nat.reduceBEq, Nat.reduceAdd, reduceIte]
        refine Sp.bsl1 S (by first | rfl | (rw [cells_one (by assumption)]; rfl)) (by first | rfl | simp (disch := assumption) only [go_sem, cells_one, one_as]) fun p13 g13 S E_g13 l_g13 => ?_
        try simp only [cells_agg, cells_int, cells_bool, cells_ptr, cells_str] at S
        have q0 := (S.bx 0 rfl).eq
        try simp (disch := (first | omega | assumption | (simp only [List.length_cons, List.length_nil, List.length_append]; first | done | omega) | (simp (disch := assumption) only [go_sem, one_as, Nat.reduceBEq]; done) | fail)) only [q0, i0, i3, i4, i10, i11, i12, go_sem, Hold.p, HoldK.k, HoldL.K, HoldL.body, Nat.reduceBEq, Nat.reduceAdd, reduceIte]
        have S := by simpa only [List.map_cons, List.map_nil, List.getD_cons_zero, List.getD_cons_succ, List.drop_succ_cons, List.drop_zero, List.cons_append, List.nil_append] using Sp.sel S 12 [0, 6, 1, 2, 3, 4, 5, 7, 8, 9, 10, 11] (by simp only [List.length_cons]; omega) (by decide) (by decide)
        refine S.app1 (y := false) (by omega) ?_
        clear S
        intro v14 g14 S z14
        have S := by simpa only [List.map_cons, List.map_nil, List.getD_cons_zero, List.getD_cons_succ, List.drop_succ_cons, List.drop_zero, List.cons_append, List.nil_append] using Sp.sel S 11 [1, 2, 3, 4, 0, 5, 6, 7, 8, 9, 10] (by simp only [List.length_cons]; omega) (by decide) (by decide)
        have S := (mk_mk S).a2one
        have S := by simpa only [List.map_cons, List.map_nil, List.getD_cons_zero, List.getD_cons_succ, List.drop_succ_cons, List.drop_zero, List.cons_append, List.nil_append] using Sp.sel S 8 [3, 0, 1, 2, 4, 5, 6, 7] (by simp only [List.length_cons]; omega) (by decide) (by decide)
        have S := S.a2join
        have S := by simpa only [List.map_cons, List.map_nil, List.getD_cons_zero, List.getD_cons_succ, List.drop_succ_cons, List.drop_zero, List.cons_append, List.nil_append] using Sp.sel S 7 [2, 1, 0, 3, 4, 5, 6] (by simp only [List.length_cons]; omega) (by decide) (by decide)
        have hf1 : (l.take (k + 1)).filter (goneI now) = (l.take k).filter (goneI now) ++ [m] := by rw [ht, List.filter_append]; simp [hgi]
        have hf2 : ((l.take (k + 1)).filter fun m => !goneI now m) = (l.take k).filter fun m => !goneI now m := by rw [ht, List.filter_append]; simp [hgi]
        rw [← hf1, ← hf2] at S
        try simp (disch := (first | omega | assumption | (simp only [List.length_cons, List.length_nil, List.length_append]; first | done | omega) | (simp (disch := assumption) only [go_sem, one_as, Nat.reduceBEq]; done) | fail)) only [i0, i3, i4, i10, i11, i12, w1, go_sem, Hold.p, HoldK.k, HoldL.K, HoldL.body, Nat.reduceBEq, Nat.reduceAdd, reduceIte]
        exact ⟨_, by omega, k + 1, v14, vn, rg ++ [[.ptr q 0 0]], rn, rfl, by omega, rfl, rfl, rfl, by simp; omega, by omega, S⟩
      · have hgi : goneI now m = false := decide_eq_false hc
        try simp (disch := (first | omega | assumption | (simp only [List.length_cons, List.length_nil, List.length_append]; first | done | omega) | (simp (disch := assumption) only [go_sem, one_as, Nat.reduceBEq]; done) | fail)) only [i0, i3, i4, i10, i11, i12, go_sem, Hold.p, HoldK.k, HoldL.K, HoldL.body, Nat.reduceBEq, Nat.reduceAdd, reduceIte]
        refine Sp.bsl1 S (by first | rfl | (rw [cells_one (by assumption)]; rfl)) (by first | rfl | simp (disch := assumption) only [go_sem, cells_one, one_as]) fun p13 g13 S E_g13 l_g13 => ?_
        try simp only [cells_agg, cells_int, cells_bool, cells_ptr, cells_str] at S
        have q0 := (S.bx 0 rfl).eq
        try simp (disch := (first | omega | assumption | (simp only [List.length_cons, List.length_nil, List.length_append]; first | done | omega) | (simp (disch := assumption) only [go_sem, one_as, Nat.reduceBEq]; done) | fail)) only [q0, i0, i3, i4, i10, i11, i12, go_sem, Hold.p, HoldK.k, HoldL.K, HoldL.body, Nat.reduceBEq, Nat.reduceAdd, reduceIte]
        have S := by simpa only [List.map_cons, List.map_nil, List.getD_cons_zero, List.getD_cons_succ, List.drop_succ_cons, List.drop_zero, List.cons_append, List.nil_append] using Sp.sel S 12 [0, 8, 1, 2, 3, 4, 5, 6, 7, 9, 10, 11] (by simp only [List.length_cons]; omega) (by decide) (by decide)
        refine S.app1 (y := false) (by omega) ?_
        clear S
        intro v14 g14 S z14
        have S := by simpa only [List.map_cons, List.map_nil, List.getD_cons_zero, List.getD_cons_succ, List.drop_succ_cons, List.drop_zero, List.cons_append, List.nil_append] using Sp.sel S 11 [1, 2, 3, 4, 0, 5, 6, 7, 8, 9, 10] (by simp only [List.length_cons]; omega) (by decide) (by decide)
        have S := (mk_mk S).a2one
        have S := by simpa only [List.map_cons, List.map_nil, List.getD_cons_zero, List.getD_cons_succ, List.drop_succ_cons, List.drop_zero, List.cons_append, List.nil_append] using Sp.sel S 8 [5, 0, 1, 2, 3, 4, 6, 7] (by simp only [List.length_cons]; omega) (by decide) (by decide)
        have S := S.a2join
        have S := by simpa only [List.map_cons, List.map_nil, List.getD_cons_zero, List.getD_cons_succ, List.drop_succ_cons, List.drop_zero, List.cons_append, List.nil_append] using Sp.sel S 7 [2, 3, 4, 1, 0, 5, 6] (by simp only [List.length_cons]; omega) (by decide) (by decide)
        have hf1 : (l.take (k + 1)).filter (goneI now) = (l.take k).filter (goneI now) := by rw [ht, List.filter_append]; simp [hgi]
        have hf2 : ((l.take (k + 1)).filter fun m => !goneI now m) = ((l.take k).filter fun m => !goneI now m) ++ [m] := by rw [ht, List.filter_append]; simp [hgi]
        rw [← hf1, ← hf2] at S
        try simp (disch := (first | omega | assumption | (simp only [List.length_cons, List.length_nil, List.length_append]; first | done | omega) | (simp (disch := assumption) only [go_sem, one_as, Nat.reduceBEq]; done) | fail)) only [i0, i3, i4, i10, i11, i12, w1, go_sem, Hold.p, HoldK.k, HoldL.K, HoldL.body, Nat.reduceBEq, Nat.reduceAdd, reduceIte]
        exact ⟨_, by omega, k + 1, vg, v14, rg, rn ++ [[.ptr q 0 0]], rfl, by omega, rfl, rfl, rfl, by omega, by simp; omega, S⟩
    · rw [List.take_of_length_le (by omega)] at S
      have z3 := (S.slA 3 rfl).one
      have q5 := (S.bx 5 rfl).eq
      try simp (disch := (first | omega | assumption | (simp only [List.length_cons, List.length_nil, List.length_append]; first | done | omega) | (simp (disch := assumption) only [go_sem, one_as, Nat.reduceBEq]; done) | fail)) only [q5, i0, i3, i4, i10, i11, i12, go_sem, Hold.p, HoldK.k, HoldL.K, HoldL.body, Nat.reduceBEq, Nat.reduceAdd, reduceIte]
      refine st1_of (Nat.le_of_ble_eq_true rfl) (by first | rfl | assumption) fun g15 hg => ?_
      have l_g15 := n_set hg
      have S := S.set5 hg
      clear hg
      simp only [List.set_cons_zero, List.set_cons_succ, List.take_succ_cons, List.take_zero, List.drop_succ_cons, List.drop_zero, List.cons_append, List.nil_append, Nat.reduceAdd] at S
      try simp (disch := (first | omega | assumption | (simp only [List.length_cons, List.length_nil, List.length_append]; first | done | omega) | (simp (disch := assumption) only [go_sem, one_as, Nat.reduceBEq]; done) | fail)) only [i0, i3, i4, i10, i11, i12, go_sem, Hold.p, HoldK.k, HoldL.K, HoldL.body, Nat.reduceBEq, Nat.reduceAdd, reduceIte]
      refine ⟨vn, rg, rn, ?_⟩
      have S := by simpa only [List.map_cons, List.map_nil, List.getD_cons_zero, List.getD_cons_succ, List.drop_succ_cons, List.drop_zero, List.cons_append, List.nil_append] using Sp.sel S 7 [1, 2, 5, 3, 4] (by simp only [List.length_cons]; omega) (by decide) (by decide)
      exact S
end
end Go.Proofs.Ytjmmmmdpkfpojaa

set_option maxRecDepth 20000
namespace Go.Proofs.Ytjmmmmdpkfpojaa
open Go Go.IW
theorem strRows_drop' (b : Txt) (n : Nat) : (strRows b).drop n = strRows (b.drop n) := by simp [strRows, List.map_drop]
theorem strRows_take' (b : Txt) (n : Nat) : (strRows b).take n = strRows (b.take n) := by simp [strRows, List.map_take]
/-- Bytes are copied into bytes of one's own. -/
theorem copyB {h : IH} {L : List As} {x : Bool} {v : IV} {O b : Txt} {a : Nat} (S : Sp h (sl x 5 1 v (strRows O) :: L)) (hab : a + b.length ≤ O.length) :
    ∃ v', slcF h 1 v (some (.int .i64 (a : Int))) none = some v' ∧ ∀ K : HoldK, (∀ h', Sp h' (sl x 5 1 v (strRows (layB O a b)) :: L) → K.k (.int .i64 (b.length : Nat)) h') → @copyA h 1 v' (some (strRows b)) K := by
  by_cases hb : b = []
  · subst hb
    obtain ⟨v', h1, h2⟩ := S.slR.lo (a := a) (q := .i64) (by rw [strRows_len]; simp at hab; omega)
    refine ⟨v', h1, fun K hk => ?_⟩
    have hk0 := hk h (by rw [layB_nil]; exact S)
    have h3 := h2.len
    unfold copyA copyK
    cases v' with
    | slice l i n => simp only [strRows, List.map_nil, List.length_nil, Nat.zero_min, if_true]; exact hk0
    | nilslice => exact hk0
    | eslice z => exact hk0
    | _ => simp [ilen] at h3
  · have hbl : 0 < b.length := List.length_pos_iff.2 hb
    have S0 := S
    clear S
    obtain ⟨l, rfl, S⟩ := S0.slBox (strRows_ne (by omega))
    have hq := (S.bx 0 rfl).eq
    rw [strRows_len]
    refine ⟨.slice l a (O.length - a), ?_, fun K hk => ?_⟩
    · rw [slcF_of (h := h) (sz := 1) (n := O.length) (a := a) (b := O.length) (x := .slice l 0 O.length) rfl rfl (by have := boundF_of (len := O.length) (d := 0) (k := .i64) (n := (a : Int)) (by omega) (by omega); simpa using this)]
      have := islc_some (h := h) (sz := 1) (l := l) (i := 0) (n := O.length) (a := a) (b := O.length) (by omega) (Nat.le_refl _) (by rw [size_eq, hq]; rfl)
      simpa using this
    · unfold copyA copyK
      simp only [strRows_len, hq]
      have hmin : min b.length (O.length - a) = b.length := by omega
      rw [hmin, if_neg (by omega)]
      refine ⟨trivial, by omega, ?_⟩
      have hrow : (strRows O).take a ++ (strRows b).take (O.length - a) ++ (strRows O).drop (a + b.length) = strRows (layB O a b) := by
        rw [strRows_take', strRows_take', strRows_drop', List.take_of_length_le (l := b) (by omega), ← strRows_append, ← strRows_append]
        rfl
      rw [hrow]
      have hll : (layB O a b).length = O.length := layB_len hab
      have S := (S.set0 (o' := .rows (strRows (layB O a b)) 5 1 false) rfl).boxSl (x := x) (n := O.length) (by rw [strRows_len, hll]) (.inr (strRows_ne (by omega)))
      have := hk _ S
      simpa using this
end Go.Proofs.Ytjmmmmdpkfpojaa

set_option maxRecDepth 20000
namespace Go.Proofs.Ytjmmmmdpkfpojaa
open Go Go.IW
section
attribute [local go_sem] List.getElem?_cons_zero List.getElem?_cons_succ Option.bind_some List.map_cons List.map_nil Nat.zero_add if_true List.getD_cons_zero List.getD_cons_succ List.contains_cons List.contains_nil Bool.or_true Bool.true_or Bool.or_false Bool.false_or Bool.not_true Bool.not_false true_and and_true rowA_whole mid_get rowO_rows cellO_rows upd_ne Nat.add_assoc Nat.add_zero List.all_cons List.all_nil one_bool one_int one_str one_ptr one_nilptr one_slice one_eslice one_nilslice one_func one_iface one_niliface Bool.and_true Bool.and_self List.length_cons List.length_nil Nat.one_ne_zero Nat.succ_ne_zero if_false List.set_cons_zero List.set_cons_succ lay_nil lay_1 lay_w Option.map_some cells_one rowA_some List.drop_succ_cons List.drop_zero List.take_succ_cons List.take_zero

/-! ### impl's take -/
def mkNew (p : Pk) (now : Int) : Mk := ⟨p.src, p.dst, p.proto, p.id, [], -1, none, now, false⟩
def addEnd (m2 : Mk) : Option Pk → Mk × Bool
  | none => (m2, false)
  | some f => if m2.en < 0 then (m2, false) else if 65535 < 20 + (f.opts.length : Int) + m2.en then (m2.refuse, false) else (m2, !decide ((totP m2.ps : Int) < m2.en))
def goneOI (o : Ot) (m : Mk) : Ot := if m.ref = true then o else { o with ended := o.ended ++ [toldI m] }
def openI (now : Int) (l : List Mk) (o : Ot) (p : Pk) : List Mk × Ot × Nat :=
  match l.findIdx? (keyI p) with
  | some k => (l, o, k)
  | none => if 16 ≤ l.length then (l.eraseIdx 0 ++ [mkNew p now], goneOI o (l.headD default), l.length - 1) else (l ++ [mkNew p now], o, l.length)
def wholeI (m : Mk) : Pk := { m.first.getD pk0 with mf := false, pay := fillB m.ps (List.replicate m.en.toNat 0) }
def stepI (l : List Mk) (o : Ot) (i : Nat) (p : Pk) : List Mk × Ot :=
  let m := l.getD i default
  if m.ref = true then (l, o) else
    let r := addI m p
    if r.2 = true then (l.eraseIdx i, { o with done := true, pk := wholeI r.1 }) else (l.set i r.1, o)
def takeI (now : Int) (l : List Mk) (o : Ot) (p : Pk) : List Mk × Ot :=
  if p.off = 0 ∧ p.mf = false then (l, { o with done := true, pk := p }) else
  if p.pay = [] ∨ (p.mf = true ∧ (p.pay.length : Int).tmod 8 ≠ 0) then (l, { o with code := 5 }) else
    let r := openI now l o p
    stepI r.1 r.2.1 r.2.2 p
abbrev outO (o : Ot) (vo vp ve : IV) : IObj := .rows [outRow o vo vp ve] 52 16 false
abbrev xO (now : Int) (vl : IV) : IObj := .rows [[.int .i64 now, vl]] 76 2 false
def ISt (h : IH) (x : Nat) (now : Int) (l : List Mk) (po : Nat) (o : Ot) (L : List As) : Prop := ∃ vl rs vo vp ve,
  Sp h (box x (xO now vl) :: sl true 105 1 vl rs :: all2 mkR rs l :: box po (outO o vo vp ve) :: byt vo o.pk.opts :: byt vp o.pk.pay :: endP ve o.ended :: L)
structure OkI (N : Nat) (m : Mk) : Prop where
  s : Small N m.ps m.en
  o : ∀ f, m.first = some f → f.opts.length ≤ 100
theorem i_close {h : IH} {L : List As} {q : Nat} {m : Mk} {vps vf : IV} {prs a0 bs : List (List IV)} {xs ys : List Mk} {A B C D E F : As}
    (S : Sp h (box q (mkO m vps m.en vf m.ref) :: sl false 116 2 vps prs :: all2 pcR prs m.ps :: firstP vf m.first :: all2 mkR a0 xs :: all2 mkR bs ys :: A :: B :: C :: D :: E :: F :: L)) :
    Sp h (A :: B :: all2 mkR (a0 ++ [.ptr q 0 0] :: bs) (xs ++ m :: ys) :: C :: D :: E :: F :: L) := by
  have S := (mk_mk S).a2mid
  have S := by simpa only [List.map_cons, List.map_nil, List.getD_cons_zero, List.getD_cons_succ, List.drop_succ_cons, List.drop_zero, List.cons_append, List.nil_append] using Sp.sel S 7 [1, 2, 0, 3, 4, 5, 6] (by simp only [List.length_cons]; omega) (by decide) (by decide)
  exact S
theorem i_closeR {h : IH} {L : List As} {q : Nat} {m : Mk} {a0 bs : List (List IV)} {xs ys : List Mk} {X Y Z A B C D E F : As}
    (S : Sp h (box q (mkO m .nilslice (-1) .nilptr true) :: X :: Y :: Z :: all2 mkR a0 xs :: all2 mkR bs ys :: A :: B :: C :: D :: E :: F :: L)) :
    Sp h (A :: B :: all2 mkR (a0 ++ [.ptr q 0 0] :: bs) (xs ++ m.refuse :: ys) :: C :: D :: E :: F :: L) := by
  have S := by simpa only [List.map_cons, List.map_nil, List.getD_cons_zero, List.getD_cons_succ, List.drop_succ_cons, List.drop_zero, List.cons_append, List.nil_append] using Sp.sel S 12 [0, 4, 5, 6, 7, 8, 9, 10, 11] (by simp only [List.length_cons]; omega) (by decide) (by decide)
  have S := (refused_mk S).a2mid
  have S := by simpa only [List.map_cons, List.map_nil, List.getD_cons_zero, List.getD_cons_succ, List.drop_succ_cons, List.drop_zero, List.cons_append, List.nil_append] using Sp.sel S 7 [1, 2, 0, 3, 4, 5, 6] (by simp only [List.length_cons]; omega) (by decide) (by decide)
  exact S
set_option maxHeartbeats 4000000 in
theorem take_c {h h0 : IH} {L : List As} {x po N : Nat} {now : Int} {l : List Mk} {o : Ot} {p : Pk} {po' pp : IV} (W : ISt h x now l po o (old h0 :: L)) (a : PkAt h0 p po' pp) (hN : N ≤ 90000) (hl : l.length ≤ 16) (he : o.ended.length ≤ 100000) (hok : ∀ m ∈ l, OkI N m)
    (ho : 0 ≤ p.off ∧ p.off ≤ 65535) (hp : p.pay.length ≤ 65535) (hpo : p.opts.length ≤ 100) (hwh : p.pay ≠ [] → ∀ m ∈ (openI now l o p).1, m.ref = false → (addI m p).2 = true → ∀ q ∈ (addI m p).1.ps, pTo q ≤ (addI m p).1.en) :
    ICalls Try.prog 54 [.ptr x 0 0, .agg (pkRow p po' pp), .ptr po 0 0] h fun r h' => ISt h' x now (takeI now l o p).1 po (takeI now l o p).2 (old h0 :: L) := by
  refine icalls (.of ok54) (Nat.le_of_ble_eq_true rfl) ?_
  unfold c54 pkRow
  have y1 := a.o.one
  have y2 := a.p.one
  have yl := a.p.lenF
  rw [strRows_len] at yl
  have r8 := ib_rem .i64 (p.pay.length : Int) 8 (by decide)
  refine vc_split 4 (fun e g => ∃ (p4 : Nat), e 0 = .ptr x 0 0 ∧ e 2 = .ptr po 0 0 ∧ e 4 = .ptr p4 0 0 ∧ e 6 = .int .i64 (p.pay.length : Nat) ∧ ¬ (p.off = 0 ∧ p.mf = false) ∧ ¬ (p.pay = [] ∨ (p.mf = true ∧ (p.pay.length : Int).tmod 8 ≠ 0)) ∧ ISt g x now l po o (old h0 :: box p4 (pkObj p po' pp) :: L)) ?_ ?_
  · simp only [CC.split]
    obtain ⟨vl, rs, vo, vp, ve, S⟩ := W
    have x1 := (S.slA 4 rfl).one
    have x2 := (S.slA 5 rfl).one
    have x3 := (S.slA 6 rfl).one
    try simp (disch := (first | omega | assumption | (simp only [List.length_cons, List.length_nil, List.length_append]; first | done | omega) | (simp (disch := assumption) only [go_sem, one_as, Nat.reduceBEq]; done) | fail)) only [go_sem, Hold.p, HoldK.k, HoldL.K, HoldL.body, Nat.reduceBEq, Nat.reduceAdd, reduceIte]
    refine Sp.bxA S (by first | rfl | (rw [cells_one (by assumption)]; rfl)) (by first | rfl | simp (disch := assumption) only [go_sem, cells_one, one_as]) fun p4 g1 S E_g1 l_g1 => ?_
    have q0 := (S.bx 0 rfl).eq
    have q4 := (S.bx 4 rfl).eq
    try simp (disch := (first | omega | assumption | (simp only [List.length_cons, List.length_nil, List.length_append]; first | done | omega) | (simp (disch := assumption) only [go_sem, one_as, Nat.reduceBEq]; done) | fail)) only [q0, q4, go_sem, Hold.p, HoldK.k, HoldL.K, HoldL.body, Nat.reduceBEq, Nat.reduceAdd, reduceIte]
    refine test_of (fun hc => ?_) (fun hc => ?_)
    · have hc' : p.off = 0 ∧ p.mf = false := by simpa using hc
      have ht : takeI now l o p = (l, { o with done := true, pk := p }) := if_pos hc'
      rw [ht]
      have q0 := (S.bx 0 rfl).eq
      have q4 := (S.bx 4 rfl).eq
      try simp (disch := (first | omega | assumption | (simp only [List.length_cons, List.length_nil, List.length_append]; first | done | omega) | (simp (disch := assumption) only [go_sem, one_as, Nat.reduceBEq]; done) | fail)) only [q0, q4, go_sem, Hold.p, HoldK.k, HoldL.K, HoldL.body, Nat.reduceBEq, Nat.reduceAdd, reduceIte]
      refine callA_of (ownPacket_c g1 _ S p po' pp (a.ext (S.ol 8 rfl)) (by omega)) ?_
      clear S
      rintro r3 g3 ⟨wo, wp, rfl, S⟩
      unfold pkRow
      have zo := (S.slA 0 rfl).one
      have zp := (S.slA 1 rfl).one
      have q6 := (S.bx 6 rfl).eq
      try simp (disch := (first | omega | assumption | (simp only [List.length_cons, List.length_nil, List.length_append]; first | done | omega) | (simp (disch := assumption) only [go_sem, one_as, Nat.reduceBEq]; done) | fail)) only [q6, go_sem, Hold.p, HoldK.k, HoldL.K, HoldL.body, Nat.reduceBEq, Nat.reduceAdd, reduceIte]
      refine st1_of (Nat.le_of_ble_eq_true rfl) (by first | rfl | assumption) fun g4 hg => ?_
      have l_g4 := n_set hg
      have S := S.set6 hg
      clear hg
      simp only [List.set_cons_zero, List.set_cons_succ, List.take_succ_cons, List.take_zero, List.drop_succ_cons, List.drop_zero, List.cons_append, List.nil_append, Nat.reduceAdd] at S
      have q6 := (S.bx 6 rfl).eq
      try simp (disch := (first | omega | assumption | (simp only [List.length_cons, List.length_nil, List.length_append]; first | done | omega) | (simp (disch := assumption) only [go_sem, one_as, Nat.reduceBEq]; done) | fail)) only [q6, go_sem, Hold.p, HoldK.k, HoldL.K, HoldL.body, Nat.reduceBEq, Nat.reduceAdd, reduceIte]
      refine stp_of rfl (Nat.le_of_ble_eq_true rfl) (by first | rfl | simp (disch := assumption) only [go_sem, cells_one, one_as]) fun g5 hg => ?_
      have l_g5 := n_set hg
      have S := S.set6 hg
      clear hg
      simp only [List.set_cons_zero, List.set_cons_succ, List.take_succ_cons, List.take_zero, List.drop_succ_cons, List.drop_zero, List.cons_append, List.nil_append, Nat.reduceAdd] at S
      try simp (disch := (first | omega | assumption | (simp only [List.length_cons, List.length_nil, List.length_append]; first | done | omega) | (simp (disch := assumption) only [go_sem, one_as, Nat.reduceBEq]; done) | fail)) only [go_sem, Hold.p, HoldK.k, HoldL.K, HoldL.body, Nat.reduceBEq, Nat.reduceAdd, reduceIte]
      refine ⟨vl, rs, wo, wp, ve, ?_⟩
      have S := by simpa only [List.map_cons, List.map_nil, List.getD_cons_zero, List.getD_cons_succ, List.drop_succ_cons, List.drop_zero, List.cons_append, List.nil_append] using Sp.sel S 11 [3, 4, 5, 6, 0, 1, 9, 10] (by simp only [List.length_cons]; omega) (by decide) (by decide)
      exact S
    · have hc' : ¬ (p.off = 0 ∧ p.mf = false) := by simpa using hc
      have q0 := (S.bx 0 rfl).eq
      have q4 := (S.bx 4 rfl).eq
      try simp (disch := (first | omega | assumption | (simp only [List.length_cons, List.length_nil, List.length_append]; first | done | omega) | (simp (disch := assumption) only [go_sem, one_as, Nat.reduceBEq]; done) | fail)) only [q0, q4, yl, r8, go_sem, Hold.p, HoldK.k, HoldL.K, HoldL.body, Nat.reduceBEq, Nat.reduceAdd, reduceIte]
      refine test_of (fun hd => ?_) (fun hd => ?_)
      · have hd' : p.pay = [] ∨ (p.mf = true ∧ (p.pay.length : Int).tmod 8 ≠ 0) := by simpa using hd
        have ht : takeI now l o p = (l, { o with code := 5 }) := (if_neg hc').trans (if_pos hd')
        rw [ht]
        have q4 := (S.bx 4 rfl).eq
        try simp (disch := (first | omega | assumption | (simp only [List.length_cons, List.length_nil, List.length_append]; first | done | omega) | (simp (disch := assumption) only [go_sem, one_as, Nat.reduceBEq]; done) | fail)) only [q4, go_sem, Hold.p, HoldK.k, HoldL.K, HoldL.body, Nat.reduceBEq, Nat.reduceAdd, reduceIte]
        refine st1_of (Nat.le_of_ble_eq_true rfl) (by first | rfl | assumption) fun g2 hg => ?_
        have l_g2 := n_set hg
        have S := S.set4 hg
        clear hg
        simp only [List.set_cons_zero, List.set_cons_succ, List.take_succ_cons, List.take_zero, List.drop_succ_cons, List.drop_zero, List.cons_append, List.nil_append, Nat.reduceAdd] at S
        try simp (disch := (first | omega | assumption | (simp only [List.length_cons, List.length_nil, List.length_append]; first | done | omega) | (simp (disch := assumption) only [go_sem, one_as, Nat.reduceBEq]; done) | fail)) only [go_sem, Hold.p, HoldK.k, HoldL.K, HoldL.body, Nat.reduceBEq, Nat.reduceAdd, reduceIte]
        refine ⟨vl, rs, vo, vp, ve, ?_⟩
        have S := by simpa only [List.map_cons, List.map_nil, List.getD_cons_zero, List.getD_cons_succ, List.drop_succ_cons, List.drop_zero, List.cons_append, List.nil_append] using Sp.sel S 9 [1, 2, 3, 4, 5, 6, 7, 8] (by simp only [List.length_cons]; omega) (by decide) (by decide)
        exact S
      · have hd' : ¬ (p.pay = [] ∨ (p.mf = true ∧ (p.pay.length : Int).tmod 8 ≠ 0)) := by simpa using hd
        try simp (disch := (first | omega | assumption | (simp only [List.length_cons, List.length_nil, List.length_append]; first | done | omega) | (simp (disch := assumption) only [go_sem, one_as, Nat.reduceBEq]; done) | fail)) only [go_sem, Hold.p, HoldK.k, HoldL.K, HoldL.body, Nat.reduceBEq, Nat.reduceAdd, reduceIte]
        refine ⟨p4, rfl, hc', hd', vl, rs, vo, vp, ve, ?_⟩
        have S := by simpa only [List.map_cons, List.map_nil, List.getD_cons_zero, List.getD_cons_succ, List.drop_succ_cons, List.drop_zero, List.cons_append, List.nil_append] using Sp.sel S 9 [1, 2, 3, 4, 5, 6, 7, 8, 0] (by simp only [List.length_cons]; omega) (by decide) (by decide)
        exact S
  clear W
  rintro e g ⟨p4, i0, i2, i4, i6, hc1, hc2, W⟩
  replace hwh := hwh (fun e => hc2 (.inl e))
  have ht : takeI now l o p = stepI (openI now l o p).1 (openI now l o p).2.1 (openI now l o p).2.2 p := (if_neg hc1).trans (if_neg hc2)
  rw [ht]
  simp only [CC.split]
  refine vc_split 3 (fun e g => ∃ (i : Nat), e 0 = .ptr x 0 0 ∧ e 2 = .ptr po 0 0 ∧ e 4 = .ptr p4 0 0 ∧ e 6 = .int .i64 (p.pay.length : Nat) ∧ e 8 = .int .i64 (i : Nat) ∧ (openI now l o p).2.2 = i ∧ i < (openI now l o p).1.length ∧ (openI now l o p).1.length ≤ 17 ∧ (∀ m ∈ (openI now l o p).1, OkI N m) ∧ (openI now l o p).2.1.ended.length ≤ 100001 ∧
    ISt g x now (openI now l o p).1 po (openI now l o p).2.1 (old h0 :: box p4 (pkObj p po' pp) :: L)) ?_ ?_
  · simp only [CC.split]
    obtain ⟨vl, rs, vo, vp, ve, S⟩ := W
    have q8 := (S.bx 8 rfl).eq
    try simp (disch := (first | omega | assumption | (simp only [List.length_cons, List.length_nil, List.length_append]; first | done | omega) | (simp (disch := assumption) only [go_sem, one_as, Nat.reduceBEq]; done) | fail)) only [i0, i2, i4, i6, q8, go_sem, Hold.p, HoldK.k, HoldL.K, HoldL.body, Nat.reduceBEq, Nat.reduceAdd, reduceIte]
    refine Sp.zero S fun p7 g1 S E_g1 l_g1 => ?_
    have q0 := (S.bx 0 rfl).eq
    try simp (disch := (first | omega | assumption | (simp only [List.length_cons, List.length_nil, List.length_append]; first | done | omega) | (simp (disch := assumption) only [go_sem, one_as, Nat.reduceBEq]; done) | fail)) only [q0, i0, i2, i4, i6, go_sem, Hold.p, HoldK.k, HoldL.K, HoldL.body, Nat.reduceBEq, Nat.reduceAdd, reduceIte]
    refine stw_of rfl rfl (by first | rfl | simp (disch := assumption) only [go_sem, cells_one, one_as]) fun g2 hg => ?_
    have l_g2 := n_set hg
    have S := S.set0 hg
    clear hg
    have q1 := (S.bx 1 rfl).eq
    try simp (disch := (first | omega | assumption | (simp only [List.length_cons, List.length_nil, List.length_append]; first | done | omega) | (simp (disch := assumption) only [go_sem, one_as, Nat.reduceBEq]; done) | fail)) only [q1, i0, i2, i4, i6, go_sem, Hold.p, HoldK.k, HoldL.K, HoldL.body, Nat.reduceBEq, Nat.reduceAdd, reduceIte]
    have S := by simpa only [List.map_cons, List.map_nil, List.getD_cons_zero, List.getD_cons_succ, List.drop_succ_cons, List.drop_zero, List.cons_append, List.nil_append] using Sp.sel S 10 [0, 2, 3, 1, 4, 5, 6, 7, 8, 9] (by simp only [List.length_cons]; omega) (by decide) (by decide)
    refine callA_of (index_c (p := p) S (by omega)) ?_
    clear S q8
    rintro r2 g3 ⟨rfl, S⟩
    have hrl := a2_len S 2 rfl
    try simp (disch := (first | omega | assumption | (simp only [List.length_cons, List.length_nil, List.length_append]; first | done | omega) | (simp (disch := assumption) only [go_sem, one_as, Nat.reduceBEq]; done) | fail)) only [i0, i2, i4, i6, go_sem, Hold.p, HoldK.k, HoldL.K, HoldL.body, Nat.reduceBEq, Nat.reduceAdd, reduceIte]
    cases hfi : l.findIdx? (keyI p) with
    | some k =>
      have hop : openI now l o p = (l, o, k) := by unfold openI; rw [hfi]
      have hfd : findI (keyI p) l = (k : Int) := by unfold findI; rw [hfi]
      have hk : k < l.length := by
        rw [List.findIdx?_eq_some_iff_getElem] at hfi
        exact hfi.1
      rw [hop, hfd]
      have d1 : decide ((k : Int) < 0) = false := decide_eq_false (by omega)
      try simp (disch := (first | omega | assumption | (simp only [List.length_cons, List.length_nil, List.length_append]; first | done | omega) | (simp (disch := assumption) only [go_sem, one_as, Nat.reduceBEq]; done) | fail)) only [d1, i0, i2, i4, i6, go_sem, Hold.p, HoldK.k, HoldL.K, HoldL.body, Nat.reduceBEq, Nat.reduceAdd, reduceIte]
      refine ⟨k, rfl, rfl, hk, by omega, hok, by omega, vl, rs, vo, vp, ve, ?_⟩
      have S := by simpa only [List.map_cons, List.map_nil, List.getD_cons_zero, List.getD_cons_succ, List.drop_succ_cons, List.drop_zero, List.cons_append, List.nil_append] using Sp.sel S 10 [3, 1, 2, 4, 5, 6, 7, 8, 9] (by simp only [List.length_cons]; omega) (by decide) (by decide)
      exact S
    | none =>
      have hfd : findI (keyI p) l = -1 := by unfold findI; rw [hfi]
      rw [hfd]
      have hnew : OkI N (mkNew p now) := ⟨⟨by simp [mkNew], by simp [mkNew], by simp [mkNew]⟩, by simp [mkNew]⟩
      refine test_dec (fun hb => ?_) (fun hb => absurd (by decide) hb)
      simp only [Hold.p]
      refine vc_split 1 (fun e g => ∃ (l1 : List Mk) (o1 : Ot), e 0 = .ptr x 0 0 ∧ e 2 = .ptr po 0 0 ∧ e 4 = .ptr p4 0 0 ∧ e 6 = .int .i64 (p.pay.length : Nat) ∧ e 7 = .ptr p7 0 0 ∧ openI now l o p = (l1 ++ [mkNew p now], o1, l1.length) ∧ l1.length ≤ 16 ∧ (∀ m ∈ l1, OkI N m) ∧ o1.ended.length ≤ 100001 ∧ ISt g x now l1 po o1 (old h0 :: box p4 (pkObj p po' pp) :: box p7 (keyO p) :: L)) ?_ ?_
      · simp only [CC.split]
        have q3 := (S.bx 3 rfl).eq
        have s1 := S.slA 1 rfl
        have len_s1 := s1.lenF
        have z1 := s1.one
        try simp (disch := (first | omega | assumption | (simp only [List.length_cons, List.length_nil, List.length_append]; first | done | omega) | (simp (disch := assumption) only [go_sem, one_as, Nat.reduceBEq]; done) | fail)) only [q3, len_s1, z1, i0, i2, i4, i6, hrl, go_sem, Hold.p, HoldK.k, HoldL.K, HoldL.body, Nat.reduceBEq, Nat.reduceAdd, reduceIte]
        refine test_dec (fun hb => ?_) (fun hb => ?_)
        · obtain ⟨m0, hm0⟩ : ∃ m, l[0]? = some m := ⟨_, List.getElem?_eq_getElem (by omega : 0 < l.length)⟩
          have hop : openI now l o p = (l.eraseIdx 0 ++ [mkNew p now], goneOI o m0, l.length - 1) := by
            unfold openI
            rw [hfi]
            simp only
            rw [if_pos (by omega)]
            have : l.headD default = m0 := by
              cases l with
              | nil => simp at hm0
              | cons a b => simpa using hm0
            rw [this]
          obtain ⟨q, vps, vf, hrow, hbq, k1, k2, k3⟩ := mk_at S 2 rfl hm0
          have hne : rs ≠ [] := by intro e; rw [e] at hrl; simp at hrl; omega
          have qq := hbq.eq
          have S := by simpa only [List.map_cons, List.map_nil, List.getD_cons_zero, List.getD_cons_succ, List.drop_succ_cons, List.drop_zero, List.cons_append, List.nil_append] using Sp.sel S 10 [1, 0, 2, 3, 4, 5, 6, 7, 8, 9] (by simp only [List.length_cons]; omega) (by decide) (by decide)
          have S0 := S
          clear S
          obtain ⟨lv, rfl, S⟩ := S0.slBox hne
          have io : iadrO (IObj.rows rs 105 1 false) 1 lv 0 rs.length 0 = some (.ptr lv 0 0) := iadrO_0 (by omega)
          simp only [Hold.p]
          refine vc_split 1 (fun e g => e 0 = .ptr x 0 0 ∧ e 2 = .ptr po 0 0 ∧ e 4 = .ptr p4 0 0 ∧ e 6 = .int .i64 (p.pay.length : Nat) ∧ e 7 = .ptr p7 0 0 ∧ ∃ ve, Sp g (box lv (.rows rs 105 1 false) :: box p7 (keyO p) :: all2 mkR rs l :: box x (xO now (.slice lv 0 rs.length)) :: box po (outO (goneOI o m0) vo vp ve) :: byt vo o.pk.opts :: byt vp o.pk.pay :: endP ve (goneOI o m0).ended :: old h0 :: box p4 (pkObj p po' pp) :: L)) ?_ ?_
          · simp only [CC.split]
            have q0 := (S.bx 0 rfl).eq
            have q3 := (S.bx 3 rfl).eq
            try simp (disch := (first | omega | assumption | (simp only [List.length_cons, List.length_nil, List.length_append]; first | done | omega) | (simp (disch := assumption) only [go_sem, one_as, Nat.reduceBEq]; done) | fail)) only [q0, q3, i0, i2, i4, i6, iadrF_sl, io, hrow, qq, go_sem, Hold.p, HoldK.k, HoldL.K, HoldL.body, Nat.reduceBEq, Nat.reduceAdd, reduceIte]
            refine test_of (fun hr => ?_) (fun hr => ?_)
            · have hr' : m0.ref = false := by rwa [Bool.not_eq_true'] at hr
              have hgo : goneOI o m0 = { o with ended := o.ended ++ [toldI m0] } := if_neg (by simp [hr'])
              have q0 := (S.bx 0 rfl).eq
              have q3 := (S.bx 3 rfl).eq
              have q4 := (S.bx 4 rfl).eq
              try simp (disch := (first | omega | assumption | (simp only [List.length_cons, List.length_nil, List.length_append]; first | done | omega) | (simp (disch := assumption) only [go_sem, one_as, Nat.reduceBEq]; done) | fail)) only [q0, q3, q4, i0, i2, i4, i6, iadrF_sl, io, hrow, qq, go_sem, Hold.p, HoldK.k, HoldL.K, HoldL.body, Nat.reduceBEq, Nat.reduceAdd, reduceIte]
              refine callA_of (told_c S hbq k2) ?_
              clear S
              rintro r4 g4 ⟨rfl, S⟩
              obtain ⟨q', vps', vf', hrow', hbq', _⟩ := mk_at S 2 rfl hm0
              unfold enRow toldI
              have q0 := (S.bx 0 rfl).eq
              have q3 := (S.bx 3 rfl).eq
              have q4 := (S.bx 4 rfl).eq
              try simp (disch := (first | omega | assumption | (simp only [List.length_cons, List.length_nil, List.length_append]; first | done | omega) | (simp (disch := assumption) only [go_sem, one_as, Nat.reduceBEq]; done) | fail)) only [q0, q3, q4, i0, i2, i4, i6, iadrF_sl, io, hrow, go_sem, Hold.p, HoldK.k, HoldL.K, HoldL.body, Nat.reduceBEq, Nat.reduceAdd, reduceIte]
              refine Sp.bsl1 S (by first | rfl | (rw [cells_one (by assumption)]; rfl)) (by first | rfl | simp (disch := assumption) only [go_sem, cells_one, one_as]) fun p14 g14 S E_g14 l_g14 => ?_
              try simp only [cells_agg, cells_int, cells_bool, cells_ptr, cells_str] at S
              have q0 := (S.bx 0 rfl).eq
              have q1 := (S.bx 1 rfl).eq
              have q4 := (S.bx 4 rfl).eq
              have q5 := (S.bx 5 rfl).eq
              try simp (disch := (first | omega | assumption | (simp only [List.length_cons, List.length_nil, List.length_append]; first | done | omega) | (simp (disch := assumption) only [go_sem, one_as, Nat.reduceBEq]; done) | fail)) only [q0, q1, q4, q5, i0, i2, i4, i6, iadrF_sl, io, hrow, go_sem, Hold.p, HoldK.k, HoldL.K, HoldL.body, Nat.reduceBEq, Nat.reduceAdd, reduceIte]
              have S := by simpa only [List.map_cons, List.map_nil, List.getD_cons_zero, List.getD_cons_succ, List.drop_succ_cons, List.drop_zero, List.cons_append, List.nil_append] using Sp.sel S 11 [0, 8, 1, 2, 3, 4, 5, 6, 7, 9, 10] (by simp only [List.length_cons]; omega) (by decide) (by decide)
              refine S.app1 (y := false) (by simp; omega) ?_
              clear S
              intro v15 g15 S z15
              have q4 := (S.bx 4 rfl).eq
              have q5 := (S.bx 5 rfl).eq
              try simp (disch := (first | omega | assumption | (simp only [List.length_cons, List.length_nil, List.length_append]; first | done | omega) | (simp (disch := assumption) only [go_sem, one_as, Nat.reduceBEq]; done) | fail)) only [q4, q5, i0, i2, i4, i6, go_sem, Hold.p, HoldK.k, HoldL.K, HoldL.body, Nat.reduceBEq, Nat.reduceAdd, reduceIte]
              refine st1_of (Nat.le_of_ble_eq_true rfl) (by first | rfl | assumption) fun g16 hg => ?_
              have l_g16 := n_set hg
              have S := S.set5 hg
              clear hg
              simp only [List.set_cons_zero, List.set_cons_succ, List.take_succ_cons, List.take_zero, List.drop_succ_cons, List.drop_zero, List.cons_append, List.nil_append, Nat.reduceAdd] at S
              try simp (disch := (first | omega | assumption | (simp only [List.length_cons, List.length_nil, List.length_append]; first | done | omega) | (simp (disch := assumption) only [go_sem, one_as, Nat.reduceBEq]; done) | fail)) only [i0, i2, i4, i6, go_sem, Hold.p, HoldK.k, HoldL.K, HoldL.body, Nat.reduceBEq, Nat.reduceAdd, reduceIte]
              refine ⟨v15, ?_⟩
              rw [hgo]
              simp only [endP, List.map_append, List.map_cons, List.map_nil]
              have S := by simpa only [List.map_cons, List.map_nil, List.getD_cons_zero, List.getD_cons_succ, List.drop_succ_cons, List.drop_zero, List.cons_append, List.nil_append] using Sp.sel S 10 [1, 2, 3, 4, 5, 6, 7, 0, 8, 9] (by simp only [List.length_cons]; omega) (by decide) (by decide)
              exact S
            · have hr' : m0.ref = true := by rwa [Bool.not_eq_false'] at hr
              have hgo : goneOI o m0 = o := if_pos hr'
              try simp (disch := (first | omega | assumption | (simp only [List.length_cons, List.length_nil, List.length_append]; first | done | omega) | (simp (disch := assumption) only [go_sem, one_as, Nat.reduceBEq]; done) | fail)) only [i0, i2, i4, i6, go_sem, Hold.p, HoldK.k, HoldL.K, HoldL.body, Nat.reduceBEq, Nat.reduceAdd, reduceIte]
              rw [hgo]
              exact ⟨ve, S⟩
          · clear S i0 i2 i4 i6
            rintro e g ⟨i0, i2, i4, i6, i7, ve, S⟩
            simp only [CC.split]
            have S := S.boxSl (x := true) (n := rs.length) rfl (.inl rfl)
            have q3 := (S.bx 3 rfl).eq
            try simp (disch := (first | omega | assumption | (simp only [List.length_cons, List.length_nil, List.length_append]; first | done | omega) | (simp (disch := assumption) only [go_sem, one_as, Nat.reduceBEq]; done) | fail)) only [q3, i0, i2, i4, i6, i7, go_sem, Hold.p, HoldK.k, HoldL.K, HoldL.body, Nat.reduceBEq, Nat.reduceAdd, reduceIte]
            refine callA_of (delete_c (i := 0) (j := 1) S hne (by omega) (by omega)) ?_
            clear S
            rintro r5 g5 ⟨S, z5⟩
            have q3 := (S.bx 3 rfl).eq
            try simp (disch := (first | omega | assumption | (simp only [List.length_cons, List.length_nil, List.length_append]; first | done | omega) | (simp (disch := assumption) only [go_sem, one_as, Nat.reduceBEq]; done) | fail)) only [q3, i0, i2, i4, i6, i7, go_sem, Hold.p, HoldK.k, HoldL.K, HoldL.body, Nat.reduceBEq, Nat.reduceAdd, reduceIte]
            refine st1_of (Nat.le_of_ble_eq_true rfl) (by first | rfl | assumption) fun g6 hg => ?_
            have l_g6 := n_set hg
            have S := S.set3 hg
            clear hg
            simp only [List.set_cons_zero, List.set_cons_succ, List.take_succ_cons, List.take_zero, List.drop_succ_cons, List.drop_zero, List.cons_append, List.nil_append, Nat.reduceAdd] at S
            try simp (disch := (first | omega | assumption | (simp only [List.length_cons, List.length_nil, List.length_append]; first | done | omega) | (simp (disch := assumption) only [go_sem, one_as, Nat.reduceBEq]; done) | fail)) only [i0, i2, i4, i6, i7, go_sem, Hold.p, HoldK.k, HoldL.K, HoldL.body, Nat.reduceBEq, Nat.reduceAdd, reduceIte]
            have he0 : rs.drop 1 = rs.eraseIdx 0 := by cases rs with
              | nil => rfl
              | cons a b => rfl
            rw [he0] at S
            refine ⟨l.eraseIdx 0, goneOI o m0, by rw [hop, List.length_eraseIdx_of_lt (by omega)], ?_, fun m hm => hok m (List.mem_of_mem_eraseIdx hm), ?_, ?_⟩
            · rw [List.length_eraseIdx_of_lt (by omega)]; omega
            · unfold goneOI; split
              · omega
              · simp; omega
            · have hpk : (goneOI o m0).pk = o.pk := by unfold goneOI; split <;> rfl
              refine ⟨r5, rs.eraseIdx 0, vo, vp, ve, ?_⟩
              rw [hpk]
              have S := by simpa only [List.map_cons, List.map_nil, List.getD_cons_zero, List.getD_cons_succ, List.drop_succ_cons, List.drop_zero, List.cons_append, List.nil_append] using Sp.sel S 10 [2, 0, 1, 3, 4, 5, 6, 7, 8, 9] (by simp only [List.length_cons]; omega) (by decide) (by decide)
              have S := a2_erase S hm0
              have S := by simpa only [List.map_cons, List.map_nil, List.getD_cons_zero, List.getD_cons_succ, List.drop_succ_cons, List.drop_zero, List.cons_append, List.nil_append] using Sp.sel S 10 [3, 1, 0, 4, 5, 6, 7, 8, 9, 2] (by simp only [List.length_cons]; omega) (by decide) (by decide)
              exact S
        · have hop : openI now l o p = (l ++ [mkNew p now], o, l.length) := by
            unfold openI
            rw [hfi]
            simp only
            rw [if_neg (by omega)]
          try simp (disch := (first | omega | assumption | (simp only [List.length_cons, List.length_nil, List.length_append]; first | done | omega) | (simp (disch := assumption) only [go_sem, one_as, Nat.reduceBEq]; done) | fail)) only [i0, i2, i4, i6, go_sem, Hold.p, HoldK.k, HoldL.K, HoldL.body, Nat.reduceBEq, Nat.reduceAdd, reduceIte]
          refine ⟨l, o, hop, hl, hok, by omega, vl, rs, vo, vp, ve, ?_⟩
          have S := by simpa only [List.map_cons, List.map_nil, List.getD_cons_zero, List.getD_cons_succ, List.drop_succ_cons, List.drop_zero, List.cons_append, List.nil_append] using Sp.sel S 10 [3, 1, 2, 4, 5, 6, 7, 8, 9, 0] (by simp only [List.length_cons]; omega) (by decide) (by decide)
          exact S
      · clear S
        rintro e g ⟨l1, o1, i0, i2, i4, i6, i7, hop, hl1, hok1, he1, vl, rs, vo, vp, ve, S⟩
        rw [hop]
        have hrl := a2_len S 2 rfl
        simp only [CC.split]
        have q0 := (S.bx 0 rfl).eq
        have q9 := (S.bx 9 rfl).eq
        have s1 := S.slA 1 rfl
        have len_s1 := s1.lenF
        have z1 := s1.one
        try simp (disch := (first | omega | assumption | (simp only [List.length_cons, List.length_nil, List.length_append]; first | done | omega) | (simp (disch := assumption) only [go_sem, one_as, Nat.reduceBEq]; done) | fail)) only [q0, q9, len_s1, z1, i0, i2, i4, i6, i7, hrl, lay_p, List.cons_append, List.nil_append, go_sem, Hold.p, HoldK.k, HoldL.K, HoldL.body, Nat.reduceBEq, Nat.reduceAdd, reduceIte]
        refine Sp.bxA S (by first | rfl | (rw [cells_one (by assumption)]; rfl)) (by first | rfl | simp (disch := assumption) only [go_sem, cells_one, one_as]) fun p10 g10 S E_g10 l_g10 => ?_
        have q1 := (S.bx 1 rfl).eq
        have q10 := (S.bx 10 rfl).eq
        try simp (disch := (first | omega | assumption | (simp only [List.length_cons, List.length_nil, List.length_append]; first | done | omega) | (simp (disch := assumption) only [go_sem, one_as, Nat.reduceBEq]; done) | fail)) only [q1, q10, i0, i2, i4, i6, i7, go_sem, Hold.p, HoldK.k, HoldL.K, HoldL.body, Nat.reduceBEq, Nat.reduceAdd, reduceIte]
        refine Sp.bsl1 S (by first | rfl | (rw [cells_one (by assumption)]; rfl)) (by first | rfl | simp (disch := assumption) only [go_sem, cells_one, one_as]) fun p11 g11 S E_g11 l_g11 => ?_
        try simp only [cells_agg, cells_int, cells_bool, cells_ptr, cells_str] at S
        have q0 := (S.bx 0 rfl).eq
        have q2 := (S.bx 2 rfl).eq
        have s3 := S.slA 3 rfl
        have len_s3 := s3.lenF
        have z3 := s3.one
        try simp (disch := (first | omega | assumption | (simp only [List.length_cons, List.length_nil, List.length_append]; first | done | omega) | (simp (disch := assumption) only [go_sem, one_as, Nat.reduceBEq]; done) | fail)) only [q0, q2, len_s3, z3, i0, i2, i4, i6, i7, go_sem, Hold.p, HoldK.k, HoldL.K, HoldL.body, Nat.reduceBEq, Nat.reduceAdd, reduceIte]
        have S := by simpa only [List.map_cons, List.map_nil, List.getD_cons_zero, List.getD_cons_succ, List.drop_succ_cons, List.drop_zero, List.cons_append, List.nil_append] using Sp.sel S 12 [0, 3, 1, 2, 4, 5, 6, 7, 8, 9, 10, 11] (by simp only [List.length_cons]; omega) (by decide) (by decide)
        refine S.app1 (y := true) (by omega) ?_
        clear S
        intro v12 g12 S z12
        have q2 := (S.bx 2 rfl).eq
        try simp (disch := (first | omega | assumption | (simp only [List.length_cons, List.length_nil, List.length_append]; first | done | omega) | (simp (disch := assumption) only [go_sem, one_as, Nat.reduceBEq]; done) | fail)) only [q2, i0, i2, i4, i6, i7, go_sem, Hold.p, HoldK.k, HoldL.K, HoldL.body, Nat.reduceBEq, Nat.reduceAdd, reduceIte]
        refine st1_of (Nat.le_of_ble_eq_true rfl) (by first | rfl | assumption) fun g13 hg => ?_
        have l_g13 := n_set hg
        have S := S.set2 hg
        clear hg
        simp only [List.set_cons_zero, List.set_cons_succ, List.take_succ_cons, List.take_zero, List.drop_succ_cons, List.drop_zero, List.cons_append, List.nil_append, Nat.reduceAdd] at S
        have q2 := (S.bx 2 rfl).eq
        have s0 := S.slA 0 rfl
        have len_s0 := s0.lenF
        have z0 := s0.one
        try simp (disch := (first | omega | assumption | (simp only [List.length_cons, List.length_nil, List.length_append]; first | done | omega) | (simp (disch := assumption) only [go_sem, one_as, Nat.reduceBEq]; done) | fail)) only [q2, len_s0, z0, i0, i2, i4, i6, i7, go_sem, Hold.p, HoldK.k, HoldL.K, HoldL.body, Nat.reduceBEq, Nat.reduceAdd, reduceIte]
        have w1 : wr .i64 (((rs ++ [[IV.ptr p10 0 0]]).length : Int) - 1) = (l1.length : Nat) := by
          rw [List.length_append, List.length_singleton, hrl, wr64 _ (by omega)]; omega
        try simp (disch := (first | omega | assumption | (simp only [List.length_cons, List.length_nil, List.length_append]; first | done | omega) | (simp (disch := assumption) only [go_sem, one_as, Nat.reduceBEq]; done) | fail)) only [w1, i0, i2, i4, i6, i7, go_sem, Hold.p, HoldK.k, HoldL.K, HoldL.body, Nat.reduceBEq, Nat.reduceAdd, reduceIte]
        refine ⟨l1.length, rfl, rfl, by simp, by simp; omega, ?_, he1, v12, rs ++ [[.ptr p10 0 0]], vo, vp, ve, ?_⟩
        · intro m hm
          rcases List.mem_append.1 hm with hm | hm
          · exact hok1 m hm
          · rw [List.mem_singleton.1 hm]; exact hnew
        · have S := ((first_none S).a2nil (R := pcR)).slNil (x := false) (el := 116) (sz := 2)
          have S := by simpa only [List.map_cons, List.map_nil, List.getD_cons_zero, List.getD_cons_succ, List.drop_succ_cons, List.drop_zero, List.cons_append, List.nil_append] using Sp.sel S 14 [4, 0, 1, 2, 3, 5, 6, 7, 8, 9, 10, 11, 12] (by simp only [List.length_cons]; omega) (by decide) (by decide)
          have S := (mk_mk (m := mkNew p now) S).a2one
          have S := by simpa only [List.map_cons, List.map_nil, List.getD_cons_zero, List.getD_cons_succ, List.drop_succ_cons, List.drop_zero, List.cons_append, List.nil_append] using Sp.sel S 10 [3, 0, 1, 2, 4, 5, 6, 7, 8, 9] (by simp only [List.length_cons]; omega) (by decide) (by decide)
          have S := S.a2join
          have S := by simpa only [List.map_cons, List.map_nil, List.getD_cons_zero, List.getD_cons_succ, List.drop_succ_cons, List.drop_zero, List.cons_append, List.nil_append] using Sp.sel S 9 [2, 1, 0, 3, 4, 5, 6, 7, 8] (by simp only [List.length_cons]; omega) (by decide) (by decide)
          exact S
  clear W
  rintro e g ⟨i, i0, i2, i4, i6, i8, hri, hil, hlen, hok1, he1, W⟩
  generalize openI now l o p = rr at hri hil hlen hok1 he1 W hwh ⊢
  obtain ⟨l1, o1, i'⟩ := rr
  simp only at hri hil hlen hok1 he1 W hwh ⊢
  subst hri
  clear hok hl he hc1 hc2 ht
  obtain ⟨vl, rs, vo, vp, ve, S⟩ := W
  simp only [CC.split]
  obtain ⟨m, hm⟩ : ∃ m, l1[i']? = some m := ⟨_, List.getElem?_eq_getElem hil⟩
  have hmd : l1.getD i' default = m := by rw [List.getD_eq_getElem?_getD, hm]; rfl
  have hokm := hok1 m (List.mem_of_getElem? hm)
  have hrl := a2_len S 2 rfl
  have S := by simpa only [List.map_cons, List.map_nil, List.getD_cons_zero, List.getD_cons_succ, List.drop_succ_cons, List.drop_zero, List.cons_append, List.nil_append] using Sp.sel S 9 [2, 0, 1, 3, 4, 5, 6, 7, 8] (by simp only [List.length_cons]; omega) (by decide) (by decide)
  obtain ⟨a0, r, bs, xs1, ys, hrs, hl1, ha0, hx1, S⟩ := S.a2at hm
  obtain ⟨q, vps, vf, prs, hr, S⟩ := mk_open S
  rw [hr] at hrs
  rw [hrs] at S
  have hrow : (a0 ++ [IV.ptr q 0 0] :: bs)[i']? = some [.ptr q 0 0] := by rw [← ha0]; simp
  have hsl : ∀ m', l1.set i' m' = xs1 ++ m' :: ys := fun m' => by rw [hl1, ← hx1]; simp
  have hst : stepI l1 o1 i' p = if m.ref = true then (l1, o1) else if (addI m p).2 = true then (l1.eraseIdx i', { o1 with done := true, pk := wholeI (addI m p).1 }) else (l1.set i' (addI m p).1, o1) := by
    unfold stepI; simp only [hmd]
  obtain ⟨hn0, hq0, hen0⟩ := hokm.s
  have hfo := hokm.o
  have z9 := (S.slA 9 rfl).one
  have z10 := (S.slA 10 rfl).one
  have z11 := (S.slA 11 rfl).one
  refine vc_split 2 (fun e g => m.ref = false ∧ e 0 = .ptr x 0 0 ∧ e 2 = .ptr po 0 0 ∧ e 4 = .ptr p4 0 0 ∧ e 6 = .int .i64 (p.pay.length : Nat) ∧ e 8 = .int .i64 (i' : Nat) ∧ e 9 = .ptr q 0 0 ∧
    Sp g (box q (mkO m vps m.en vf m.ref) :: sl false 116 2 vps prs :: all2 pcR prs m.ps :: firstP vf m.first :: all2 mkR a0 xs1 :: all2 mkR bs ys :: box x (xO now vl) :: sl true 105 1 vl (a0 ++ [.ptr q 0 0] :: bs) :: box po (outO o1 vo vp ve) :: byt vo o1.pk.opts :: byt vp o1.pk.pay :: endP ve o1.ended :: old h0 :: box p4 (pkObj p po' pp) :: L)) ?_ ?_
  · simp only [CC.split]
    have s7 := S.slA 7 rfl
    obtain ⟨a1, a2, hia, hal, har⟩ := s7.at hrow .i64
    have hcl := cellO_row har
    have q6 := (S.bx 6 rfl).eq
    have q0 := (S.bx 0 rfl).eq
    try simp (disch := (first | omega | assumption | (simp only [List.length_cons, List.length_nil, List.length_append]; first | done | omega) | (simp (disch := assumption) only [go_sem, one_as, Nat.reduceBEq]; done) | fail)) only [q6, q0, i0, i2, i4, i6, i8, hia, hcl, go_sem, Hold.p, HoldK.k, HoldL.K, HoldL.body, Nat.reduceBEq, Nat.reduceAdd, reduceIte]
    refine test_of (fun hc => ?_) (fun hc => ?_)
    · skip
      try simp (disch := (first | omega | assumption | (simp only [List.length_cons, List.length_nil, List.length_append]; first | done | omega) | (simp (disch := assumption) only [go_sem, one_as, Nat.reduceBEq]; done) | fail)) only [go_sem, Hold.p, HoldK.k, HoldL.K, HoldL.body, Nat.reduceBEq, Nat.reduceAdd, reduceIte]
      rw [hst, if_pos hc]
      refine ⟨vl, a0 ++ [.ptr q 0 0] :: bs, vo, vp, ve, ?_⟩
      have S := i_close S
      rw [← hl1] at S
      have S := by simpa only [List.map_cons, List.map_nil, List.getD_cons_zero, List.getD_cons_succ, List.drop_succ_cons, List.drop_zero, List.cons_append, List.nil_append] using Sp.sel S 9 [0, 1, 2, 3, 4, 5, 6, 7] (by simp only [List.length_cons]; omega) (by decide) (by decide)
      exact S
    · skip
      try simp (disch := (first | omega | assumption | (simp only [List.length_cons, List.length_nil, List.length_append]; first | done | omega) | (simp (disch := assumption) only [go_sem, one_as, Nat.reduceBEq]; done) | fail)) only [i0, i2, i4, i6, i8, go_sem, Hold.p, HoldK.k, HoldL.K, HoldL.body, Nat.reduceBEq, Nat.reduceAdd, reduceIte]
      exact ⟨hc, S⟩
  clear S i0 i2 i4 i6 i8
  rintro e g ⟨hmr, i0, i2, i4, i6, i8, i9, S⟩
  have hwhm := hwh m (List.mem_of_getElem? hm) hmr
  rw [if_neg (by simp [hmr])] at hst
  simp only [CC.split]
  generalize hen : p.off + (p.pay.length : Int) = en
  have w0 : wr .i64 (p.off + (p.pay.length : Int)) = en := by rw [wr64 _ (by omega)]; exact hen
  have hfin : ∀ {g : IH} {m' : Mk} {vps vf : IV} {prs : List (List IV)}, addI m p = (m', false) → Sp g (box q (mkO m' vps m'.en vf m'.ref) :: sl false 116 2 vps prs :: all2 pcR prs m'.ps :: firstP vf m'.first :: all2 mkR a0 xs1 :: all2 mkR bs ys :: box x (xO now vl) :: sl true 105 1 vl (a0 ++ [.ptr q 0 0] :: bs) :: box po (outO o1 vo vp ve) :: byt vo o1.pk.opts :: byt vp o1.pk.pay :: endP ve o1.ended :: old h0 :: box p4 (pkObj p po' pp) :: L) →
      ISt g x now (stepI l1 o1 i' p).1 po (stepI l1 o1 i' p).2 (old h0 :: L) := by
    intro g m' vps vf prs hX S
    rw [hst, hX]
    simp only [Bool.false_eq_true, if_false]
    rw [hsl]
    refine ⟨vl, a0 ++ [.ptr q 0 0] :: bs, vo, vp, ve, ?_⟩
    have S := i_close S
    have S := by simpa only [List.map_cons, List.map_nil, List.getD_cons_zero, List.getD_cons_succ, List.drop_succ_cons, List.drop_zero, List.cons_append, List.nil_append] using Sp.sel S 9 [0, 1, 2, 3, 4, 5, 6, 7] (by simp only [List.length_cons]; omega) (by decide) (by decide)
    exact S
  have hfinR : ∀ {g : IH} {m' : Mk} {A B C : As}, addI m p = (m'.refuse, false) → Sp g (box q (mkO m' .nilslice (-1) .nilptr true) :: A :: B :: C :: all2 mkR a0 xs1 :: all2 mkR bs ys :: box x (xO now vl) :: sl true 105 1 vl (a0 ++ [.ptr q 0 0] :: bs) :: box po (outO o1 vo vp ve) :: byt vo o1.pk.opts :: byt vp o1.pk.pay :: endP ve o1.ended :: old h0 :: box p4 (pkObj p po' pp) :: L) →
      ISt g x now (stepI l1 o1 i' p).1 po (stepI l1 o1 i' p).2 (old h0 :: L) := by
    intro g m' A B C hX S
    rw [hst, hX]
    simp only [Bool.false_eq_true, if_false]
    rw [hsl]
    refine ⟨vl, a0 ++ [.ptr q 0 0] :: bs, vo, vp, ve, ?_⟩
    have S := i_closeR S
    have S := by simpa only [List.map_cons, List.map_nil, List.getD_cons_zero, List.getD_cons_succ, List.drop_succ_cons, List.drop_zero, List.cons_append, List.nil_append] using Sp.sel S 9 [0, 1, 2, 3, 4, 5, 6, 7] (by simp only [List.length_cons]; omega) (by decide) (by decide)
    exact S
  have hi20 : i' ≤ 20 := by omega
  clear hmd hlen hok1 he1
  refine vc_split 3 (fun e g => ∃ same : Bool, scanI p.off en p.mf p.pay m.ps false = some same ∧ e 0 = .ptr x 0 0 ∧ e 2 = .ptr po 0 0 ∧ e 4 = .ptr p4 0 0 ∧ e 8 = .int .i64 (i' : Nat) ∧ e 9 = .ptr q 0 0 ∧ e 10 = .int .i64 en ∧ e 11 = .bool same ∧
    Sp g (box q (mkO m vps m.en vf m.ref) :: sl false 116 2 vps prs :: all2 pcR prs m.ps :: firstP vf m.first :: all2 mkR a0 xs1 :: all2 mkR bs ys :: box x (xO now vl) :: sl true 105 1 vl (a0 ++ [.ptr q 0 0] :: bs) :: box po (outO o1 vo vp ve) :: byt vo o1.pk.opts :: byt vp o1.pk.pay :: endP ve o1.ended :: old h0 :: box p4 (pkObj p po' pp) :: L)) ?_ ?_
  · simp only [CC.split]
    have hpl := a2_len S 2 rfl
    have q0 := (S.bx 0 rfl).eq
    have q13 := (S.bx 13 rfl).eq
    have s1 := S.slA 1 rfl
    have len_s1 := s1.lenF
    have z1 := s1.one
    try simp (disch := (first | omega | assumption | (simp only [List.length_cons, List.length_nil, List.length_append]; first | done | omega) | (simp (disch := assumption) only [go_sem, one_as, Nat.reduceBEq]; done) | fail)) only [q0, q13, len_s1, z1, i0, i2, i4, i6, i8, i9, w0, hpl, go_sem, Hold.p, HoldK.k, HoldL.K, HoldL.body, Nat.reduceBEq, Nat.reduceAdd, reduceIte]
    refine loop_at (fun n e g => ∃ (k : Nat) (same : Bool), n = m.ps.length - k ∧ k ≤ m.ps.length ∧ scanI p.off en p.mf p.pay m.ps false = scanI p.off en p.mf p.pay (m.ps.drop k) same ∧ e 0 = .ptr x 0 0 ∧ e 2 = .ptr po 0 0 ∧ e 4 = .ptr p4 0 0 ∧ e 8 = .int .i64 (i' : Nat) ∧ e 9 = .ptr q 0 0 ∧ e 10 = .int .i64 en ∧ e 11 = .bool same ∧ e 151 = vps ∧ e 152 = .int .i64 (m.ps.length : Nat) ∧ e 153 = .int .i64 (k : Nat) ∧
      Sp g (box q (mkO m vps m.en vf m.ref) :: sl false 116 2 vps prs :: all2 pcR prs m.ps :: firstP vf m.first :: all2 mkR a0 xs1 :: all2 mkR bs ys :: box x (xO now vl) :: sl true 105 1 vl (a0 ++ [.ptr q 0 0] :: bs) :: box po (outO o1 vo vp ve) :: byt vo o1.pk.opts :: byt vp o1.pk.pay :: endP ve o1.ended :: old h0 :: box p4 (pkObj p po' pp) :: L)) m.ps.length ?_ ?_
    · refine ⟨0, false, by omega, by omega, rfl, ?_⟩
      try simp (disch := (first | omega | assumption | (simp only [List.length_cons, List.length_nil, List.length_append]; first | done | omega) | (simp (disch := assumption) only [go_sem, one_as, Nat.reduceBEq]; done) | fail)) only [i0, i2, i4, i6, i8, i9, go_sem, Hold.p, HoldK.k, HoldL.K, HoldL.body, Nat.reduceBEq, Nat.reduceAdd, reduceIte]
      exact ⟨rfl, S⟩
    · clear S i0 i2 i4 i6 i8 i9 s1 len_s1 z1
      rintro n e g ⟨k, same, rfl, hk, hsc, i0, i2, i4, i8, i9, i10, i11, i151, i152, i153, S⟩
      try simp (disch := (first | omega | assumption | (simp only [List.length_cons, List.length_nil, List.length_append]; first | done | omega) | (simp (disch := assumption) only [go_sem, one_as, Nat.reduceBEq]; done) | fail)) only [i0, i2, i4, i8, i9, i10, i11, i151, i152, i153, go_sem, Hold.p, HoldK.k, HoldL.K, HoldL.body, Nat.reduceBEq, Nat.reduceAdd, reduceIte]
      refine test_dec (fun hb => ?_) (fun hb => ?_)
      · obtain ⟨qq, hq⟩ : ∃ q, m.ps[k]? = some q := ⟨_, List.getElem?_eq_getElem (by omega : k < m.ps.length)⟩
        have hqs := hq0 qq (List.mem_of_getElem? hq)
        obtain ⟨vd, hrw, hvd⟩ := pcs_at S 2 rfl hq
        have s1 := S.slA 1 rfl
        obtain ⟨a1, a2, hia, hal, har⟩ := s1.at hrw .i64
        have d1 := hvd.one
        have d2 := hvd.lenF
        rw [strRows_len] at d2
        have w1 : wr .i64 ((k : Int) + 1) = ((k + 1 : Nat) : Int) := by rw [wr64 _ (by omega)]; rfl
        have w2 : wr .i64 (qq.1 + (qq.2.length : Int)) = pTo qq := by rw [wr64 _ (by omega)]; rfl
        have hd := drop_at hq
        try simp (disch := (first | omega | assumption | (simp only [List.length_cons, List.length_nil, List.length_append]; first | done | omega) | (simp (disch := assumption) only [go_sem, one_as, Nat.reduceBEq]; done) | fail)) only [i0, i2, i4, i8, i9, i10, i11, i151, i152, i153, hia, har, d1, go_sem, Hold.p, HoldK.k, HoldL.K, HoldL.body, Nat.reduceBEq, Nat.reduceAdd, reduceIte]
        refine Sp.zero S fun p13 g13 S E_g13 l_g13 => ?_
        have q0 := (S.bx 0 rfl).eq
        try simp (disch := (first | omega | assumption | (simp only [List.length_cons, List.length_nil, List.length_append]; first | done | omega) | (simp (disch := assumption) only [go_sem, one_as, Nat.reduceBEq]; done) | fail)) only [q0, d1, go_sem, Hold.p, HoldK.k, HoldL.K, HoldL.body, Nat.reduceBEq, Nat.reduceAdd, reduceIte]
        refine stw_of rfl rfl (by first | rfl | simp (disch := assumption) only [go_sem, cells_one, one_as]) fun g14 hg => ?_
        have l_g14 := n_set hg
        have S := S.set0 hg
        clear hg
        obtain ⟨vd', hrow', hvd'⟩ := pcs_at S 3 rfl hq
        have hvv : vd' = vd := by rw [hrw] at hrow'; simpa using hrow'.symm
        subst hvv
        have q0 := (S.bx 0 rfl).eq
        have q14 := (S.bx 14 rfl).eq
        try simp (disch := (first | omega | assumption | (simp only [List.length_cons, List.length_nil, List.length_append]; first | done | omega) | (simp (disch := assumption) only [go_sem, one_as, Nat.reduceBEq]; done) | fail)) only [q0, q14, i0, i2, i4, i8, i9, i10, i11, i151, i152, i153, d2, w2, go_sem, Hold.p, HoldK.k, HoldL.K, HoldL.body, Nat.reduceBEq, Nat.reduceAdd, reduceIte]
        refine guard_pureT (v := .bool (decide (qq.2 = p.pay))) (fun hb => ?_) ?_
        · simp (disch := (first | omega | assumption | (simp only [push_n, set_n, put_n, List.length_cons, List.length_nil, List.length_append, Nat.reduceAdd]; done) | (simp only [push_n, set_n, put_n, List.length_cons, List.length_nil, List.length_append]; omega) | (simp only [List.all_cons, List.all_nil, one_bool, one_int, one_str, one_ptr, one_nilptr, one_slice, one_eslice, one_nilslice, one_func, one_iface, one_niliface, Bool.and_true, Bool.true_and, List.getD_cons_zero, List.getD_cons_succ, List.contains_cons, List.contains_nil, Bool.or_true, Bool.true_or, Bool.or_false, Bool.false_or, Nat.reduceBEq, *]; done) | fail)) only [hb, go_sem, ↓act_zero, boxA_1, boxA_2, boxA_3, bslA_1, Hold.p, HoldK.k, HoldL.K, HoldL.body, Nat.reduceBEq, Nat.reduceAdd, stO_mid, push_n, set_n, push_at, push_old, set_here, set_there, set_pushT, set_pushN, set_set, stO_1s, stO_ws, boxA_s, reduceIte]
          exact bEqual_c g14 _ _ _ _ hvd' (a.ext (S.ol 13 rfl)).p
        simp (disch := (first | omega | assumption | (simp only [push_n, set_n, put_n, List.length_cons, List.length_nil, List.length_append, Nat.reduceAdd]; done) | (simp only [push_n, set_n, put_n, List.length_cons, List.length_nil, List.length_append]; omega) | (simp only [List.all_cons, List.all_nil, one_bool, one_int, one_str, one_ptr, one_nilptr, one_slice, one_eslice, one_nilslice, one_func, one_iface, one_niliface, Bool.and_true, Bool.true_and, List.getD_cons_zero, List.getD_cons_succ, List.contains_cons, List.contains_nil, Bool.or_true, Bool.true_or, Bool.or_false, Bool.false_or, Nat.reduceBEq, *]; done) | fail)) only [i10, i11, go_sem, ↓act_zero, boxA_1, boxA_2, boxA_3, bslA_1, Hold.p, HoldK.k, HoldL.K, HoldL.body, Nat.reduceBEq, Nat.reduceAdd, stO_mid, push_n, set_n, push_at, push_old, set_here, set_there, set_pushT, set_pushN, set_set, stO_1s, stO_ws, boxA_s, reduceIte]
        refine test_of (fun hc => ?_) (fun hc => ?_)
        · have hc' : qq.1 = p.off ∧ pTo qq = en ∧ qq.2 = p.pay := by
            have : (qq.1 = p.off ∧ pTo qq = en) ∧ qq.2 = p.pay := by simpa using hc
            exact ⟨this.1.1, this.1.2, this.2⟩
          try simp (disch := (first | omega | assumption | (simp only [List.length_cons, List.length_nil, List.length_append]; first | done | omega) | (simp (disch := assumption) only [go_sem, one_as, Nat.reduceBEq]; done) | fail)) only [i0, i2, i4, i8, i9, i10, i11, i151, i152, i153, w1, go_sem, Hold.p, HoldK.k, HoldL.K, HoldL.body, Nat.reduceBEq, Nat.reduceAdd, reduceIte]
          have S := by simpa only [List.map_cons, List.map_nil, List.getD_cons_zero, List.getD_cons_succ, List.drop_succ_cons, List.drop_zero, List.cons_append, List.nil_append] using Sp.sel S 15 [1, 2, 3, 4, 5, 6, 7, 8, 9, 10, 11, 12, 13, 14] (by simp only [List.length_cons]; omega) (by decide) (by decide)
          refine ⟨_, by omega, k + 1, true, rfl, by omega, ?_, rfl, rfl, S⟩
          rw [hsc, hd, scanI, if_pos hc']
        · have hc' : ¬ (qq.1 = p.off ∧ pTo qq = en ∧ qq.2 = p.pay) := by
            have : ¬ ((qq.1 = p.off ∧ pTo qq = en) ∧ qq.2 = p.pay) := by simpa using hc
            exact fun x => this ⟨⟨x.1, x.2.1⟩, x.2.2⟩
          have q0 := (S.bx 0 rfl).eq
          have q14 := (S.bx 14 rfl).eq
          try simp (disch := (first | omega | assumption | (simp only [List.length_cons, List.length_nil, List.length_append]; first | done | omega) | (simp (disch := assumption) only [go_sem, one_as, Nat.reduceBEq]; done) | fail)) only [q0, q14, i0, i2, i4, i8, i9, i10, i11, i151, i152, i153, d2, w2, go_sem, Hold.p, HoldK.k, HoldL.K, HoldL.body, Nat.reduceBEq, Nat.reduceAdd, reduceIte]
          refine test_of (fun hc2 => ?_) (fun hc2 => ?_)
          · have hc2' : (qq.1 < en ∧ p.off < pTo qq) ∨ (p.mf = false ∧ en < pTo qq) := by simpa using hc2
            have hX : addI m p = (m.refuse, false) := by
              have hs2 : scanI p.off en p.mf p.pay m.ps false = none := by rw [hsc, hd, scanI, if_neg hc', if_pos hc2']
              unfold addI
              simp only [hen, hs2]
            try simp (disch := (first | omega | assumption | (simp only [List.length_cons, List.length_nil, List.length_append]; first | done | omega) | (simp (disch := assumption) only [go_sem, one_as, Nat.reduceBEq]; done) | fail)) only [i0, i2, i4, i8, i9, i10, i11, i151, i152, i153, go_sem, Hold.p, HoldK.k, HoldL.K, HoldL.body, Nat.reduceBEq, Nat.reduceAdd, reduceIte]
            have S := by simpa only [List.map_cons, List.map_nil, List.getD_cons_zero, List.getD_cons_succ, List.drop_succ_cons, List.drop_zero, List.cons_append, List.nil_append] using Sp.sel S 15 [1, 2, 3, 4, 5, 6, 7, 8, 9, 10, 11, 12, 13, 14] (by simp only [List.length_cons]; omega) (by decide) (by decide)
            refine callA_of (refuse_c S) ?_
            clear S
            rintro r15 g15 S
            try simp (disch := (first | omega | assumption | (simp only [List.length_cons, List.length_nil, List.length_append]; first | done | omega) | (simp (disch := assumption) only [go_sem, one_as, Nat.reduceBEq]; done) | fail)) only [go_sem, Hold.p, HoldK.k, HoldL.K, HoldL.body, Nat.reduceBEq, Nat.reduceAdd, reduceIte]
            exact hfinR hX S
          · have hc2' : ¬ ((qq.1 < en ∧ p.off < pTo qq) ∨ (p.mf = false ∧ en < pTo qq)) := by simpa using hc2
            try simp (disch := (first | omega | assumption | (simp only [List.length_cons, List.length_nil, List.length_append]; first | done | omega) | (simp (disch := assumption) only [go_sem, one_as, Nat.reduceBEq]; done) | fail)) only [i0, i2, i4, i8, i9, i10, i11, i151, i152, i153, w1, go_sem, Hold.p, HoldK.k, HoldL.K, HoldL.body, Nat.reduceBEq, Nat.reduceAdd, reduceIte]
            have S := by simpa only [List.map_cons, List.map_nil, List.getD_cons_zero, List.getD_cons_succ, List.drop_succ_cons, List.drop_zero, List.cons_append, List.nil_append] using Sp.sel S 15 [1, 2, 3, 4, 5, 6, 7, 8, 9, 10, 11, 12, 13, 14] (by simp only [List.length_cons]; omega) (by decide) (by decide)
            refine ⟨_, by omega, k + 1, same, rfl, by omega, ?_, rfl, rfl, S⟩
            rw [hsc, hd, scanI, if_neg hc', if_neg hc2']
      · have hd : m.ps.drop k = [] := List.drop_eq_nil_of_le (by omega)
        rw [hd, scanI] at hsc
        try simp (disch := (first | omega | assumption | (simp only [List.length_cons, List.length_nil, List.length_append]; first | done | omega) | (simp (disch := assumption) only [go_sem, one_as, Nat.reduceBEq]; done) | fail)) only [i0, i2, i4, i8, i9, i10, i11, go_sem, Hold.p, HoldK.k, HoldL.K, HoldL.body, Nat.reduceBEq, Nat.reduceAdd, reduceIte]
        exact ⟨same, hsc, rfl, S⟩
  clear S i0 i2 i4 i6 i8 i9
  rintro e g ⟨same, hsc, i0, i2, i4, i8, i9, i10, i11, S⟩
  simp only [CC.split]
  refine vc_split 1 (fun e g => ¬ ((p.mf = false ∧ 0 ≤ m.en ∧ m.en ≠ en) ∨ (0 ≤ m.en ∧ m.en < en)) ∧ e 0 = .ptr x 0 0 ∧ e 2 = .ptr po 0 0 ∧ e 4 = .ptr p4 0 0 ∧ e 8 = .int .i64 (i' : Nat) ∧ e 9 = .ptr q 0 0 ∧ e 10 = .int .i64 en ∧ e 11 = .bool same ∧
    Sp g (box q (mkO m vps m.en vf m.ref) :: sl false 116 2 vps prs :: all2 pcR prs m.ps :: firstP vf m.first :: all2 mkR a0 xs1 :: all2 mkR bs ys :: box x (xO now vl) :: sl true 105 1 vl (a0 ++ [.ptr q 0 0] :: bs) :: box po (outO o1 vo vp ve) :: byt vo o1.pk.opts :: byt vp o1.pk.pay :: endP ve o1.ended :: old h0 :: box p4 (pkObj p po' pp) :: L)) ?_ ?_
  · simp only [CC.split]
    have q0 := (S.bx 0 rfl).eq
    have q13 := (S.bx 13 rfl).eq
    try simp (disch := (first | omega | assumption | (simp only [List.length_cons, List.length_nil, List.length_append]; first | done | omega) | (simp (disch := assumption) only [go_sem, one_as, Nat.reduceBEq]; done) | fail)) only [q0, q13, i0, i2, i4, i8, i9, i10, i11, go_sem, Hold.p, HoldK.k, HoldL.K, HoldL.body, Nat.reduceBEq, Nat.reduceAdd, reduceIte]
    refine test_of (fun hc => ?_) (fun hc => ?_)
    · have hc' : (p.mf = false ∧ 0 ≤ m.en ∧ m.en ≠ en) ∨ (0 ≤ m.en ∧ m.en < en) := by
        have : ((p.mf = false ∧ 0 ≤ m.en) ∧ ¬ m.en = en) ∨ (0 ≤ m.en ∧ m.en < en) := by simpa using hc
        rcases this with h | h
        · exact .inl ⟨h.1.1, h.1.2, h.2⟩
        · exact .inr h
      have hX : addI m p = (m.refuse, false) := by
        unfold addI
        simp only [hen, hsc]
        rw [if_pos hc']
      try simp (disch := (first | omega | assumption | (simp only [List.length_cons, List.length_nil, List.length_append]; first | done | omega) | (simp (disch := assumption) only [go_sem, one_as, Nat.reduceBEq]; done) | fail)) only [i0, i2, i4, i8, i9, i10, i11, go_sem, Hold.p, HoldK.k, HoldL.K, HoldL.body, Nat.reduceBEq, Nat.reduceAdd, reduceIte]
      refine callA_of (refuse_c S) ?_
      clear S
      rintro r15 g15 S
      try simp (disch := (first | omega | assumption | (simp only [List.length_cons, List.length_nil, List.length_append]; first | done | omega) | (simp (disch := assumption) only [go_sem, one_as, Nat.reduceBEq]; done) | fail)) only [go_sem, Hold.p, HoldK.k, HoldL.K, HoldL.body, Nat.reduceBEq, Nat.reduceAdd, reduceIte]
      exact hfinR hX S
    · have hc' : ¬ ((p.mf = false ∧ 0 ≤ m.en ∧ m.en ≠ en) ∨ (0 ≤ m.en ∧ m.en < en)) := by
        have : ¬ (((p.mf = false ∧ 0 ≤ m.en) ∧ ¬ m.en = en) ∨ (0 ≤ m.en ∧ m.en < en)) := by simpa using hc
        intro h
        apply this
        rcases h with h | h
        · exact .inl ⟨⟨h.1, h.2.1⟩, h.2.2⟩
        · exact .inr h
      try simp (disch := (first | omega | assumption | (simp only [List.length_cons, List.length_nil, List.length_append]; first | done | omega) | (simp (disch := assumption) only [go_sem, one_as, Nat.reduceBEq]; done) | fail)) only [i0, i2, i4, i8, i9, i10, i11, go_sem, Hold.p, HoldK.k, HoldL.K, HoldL.body, Nat.reduceBEq, Nat.reduceAdd, reduceIte]
      exact ⟨hc', S⟩
  clear S i0 i2 i4 i8 i9 i10 i11
  rintro e g ⟨hnc, i0, i2, i4, i8, i9, i10, i11, S⟩
  simp only [CC.split]
  obtain ⟨e2, he2⟩ : ∃ r, r = (if p.mf = false then en else m.en) := ⟨_, rfl⟩
  have he2b : -1 ≤ e2 ∧ e2 ≤ 200000 := by rw [he2]; split <;> omega
  refine vc_split 1 (fun e g => e 0 = .ptr x 0 0 ∧ e 2 = .ptr po 0 0 ∧ e 4 = .ptr p4 0 0 ∧ e 8 = .int .i64 (i' : Nat) ∧ e 9 = .ptr q 0 0 ∧ e 11 = .bool same ∧
    Sp g (box q (mkO m vps e2 vf m.ref) :: sl false 116 2 vps prs :: all2 pcR prs m.ps :: firstP vf m.first :: all2 mkR a0 xs1 :: all2 mkR bs ys :: box x (xO now vl) :: sl true 105 1 vl (a0 ++ [.ptr q 0 0] :: bs) :: box po (outO o1 vo vp ve) :: byt vo o1.pk.opts :: byt vp o1.pk.pay :: endP ve o1.ended :: old h0 :: box p4 (pkObj p po' pp) :: L)) ?_ ?_
  · simp only [CC.split]
    have q13 := (S.bx 13 rfl).eq
    try simp (disch := (first | omega | assumption | (simp only [List.length_cons, List.length_nil, List.length_append]; first | done | omega) | (simp (disch := assumption) only [go_sem, one_as, Nat.reduceBEq]; done) | fail)) only [q13, i0, i2, i4, i8, i9, i10, i11, go_sem, Hold.p, HoldK.k, HoldL.K, HoldL.body, Nat.reduceBEq, Nat.reduceAdd, reduceIte]
    refine test_of (fun hc => ?_) (fun hc => ?_)
    · have hc' : p.mf = false := by rwa [Bool.not_eq_true'] at hc
      rw [if_pos hc'] at he2
      rw [he2]
      have q0 := (S.bx 0 rfl).eq
      try simp (disch := (first | omega | assumption | (simp only [List.length_cons, List.length_nil, List.length_append]; first | done | omega) | (simp (disch := assumption) only [go_sem, one_as, Nat.reduceBEq]; done) | fail)) only [q0, i0, i2, i4, i8, i9, i10, i11, go_sem, Hold.p, HoldK.k, HoldL.K, HoldL.body, Nat.reduceBEq, Nat.reduceAdd, reduceIte]
      refine st1_of (Nat.le_of_ble_eq_true rfl) (by first | rfl | assumption) fun g16 hg => ?_
      have l_g16 := n_set hg
      have S := S.set0 hg
      clear hg
      simp only [List.set_cons_zero, List.set_cons_succ, List.take_succ_cons, List.take_zero, List.drop_succ_cons, List.drop_zero, List.cons_append, List.nil_append, Nat.reduceAdd] at S
      try simp (disch := (first | omega | assumption | (simp only [List.length_cons, List.length_nil, List.length_append]; first | done | omega) | (simp (disch := assumption) only [go_sem, one_as, Nat.reduceBEq]; done) | fail)) only [i0, i2, i4, i8, i9, i10, i11, go_sem, Hold.p, HoldK.k, HoldL.K, HoldL.body, Nat.reduceBEq, Nat.reduceAdd, reduceIte]
      exact S
    · have hc' : ¬ p.mf = false := by rw [Bool.not_eq_false'] at hc; simp [hc]
      rw [if_neg hc'] at he2
      rw [he2]
      try simp (disch := (first | omega | assumption | (simp only [List.length_cons, List.length_nil, List.length_append]; first | done | omega) | (simp (disch := assumption) only [go_sem, one_as, Nat.reduceBEq]; done) | fail)) only [i0, i2, i4, i8, i9, i10, i11, go_sem, Hold.p, HoldK.k, HoldL.K, HoldL.body, Nat.reduceBEq, Nat.reduceAdd, reduceIte]
      exact S
  clear S i0 i2 i4 i8 i9 i10 i11
  rintro e g ⟨i0, i2, i4, i8, i9, i11, S⟩
  simp only [CC.split]
  obtain ⟨ps2, hps2⟩ : ∃ r, r = (if same = true then m.ps else m.ps ++ [(p.off, p.pay)]) := ⟨_, rfl⟩
  obtain ⟨f2, hf2⟩ : ∃ r, r = (if same = true then m.first else if p.off = 0 then some p else m.first) := ⟨_, rfl⟩
  refine vc_split 1 (fun e g => ∃ (vps vf : IV) (prs : List (List IV)), e 0 = .ptr x 0 0 ∧ e 2 = .ptr po 0 0 ∧ e 8 = .int .i64 (i' : Nat) ∧ e 9 = .ptr q 0 0 ∧
    Sp g (box q (mkO m vps e2 vf m.ref) :: sl false 116 2 vps prs :: all2 pcR prs ps2 :: firstP vf f2 :: all2 mkR a0 xs1 :: all2 mkR bs ys :: box x (xO now vl) :: sl true 105 1 vl (a0 ++ [.ptr q 0 0] :: bs) :: box po (outO o1 vo vp ve) :: byt vo o1.pk.opts :: byt vp o1.pk.pay :: endP ve o1.ended :: old h0 :: box p4 (pkObj p po' pp) :: L)) ?_ ?_
  · simp only [CC.split]
    cases same with
    | true =>
      rw [if_pos rfl] at hps2 hf2
      rw [hps2, hf2]
      try simp (disch := (first | omega | assumption | (simp only [List.length_cons, List.length_nil, List.length_append]; first | done | omega) | (simp (disch := assumption) only [go_sem, one_as, Nat.reduceBEq]; done) | fail)) only [i0, i2, i4, i8, i9, i11, go_sem, Hold.p, HoldK.k, HoldL.K, HoldL.body, Nat.reduceBEq, Nat.reduceAdd, reduceIte]
      exact ⟨vps, vf, prs, S⟩
    | false =>
      rw [if_neg (by simp)] at hps2 hf2
      rw [hps2]
      have hpl := a2_len S 2 rfl
      have q0 := (S.bx 0 rfl).eq
      have q13 := (S.bx 13 rfl).eq
      try simp (disch := (first | omega | assumption | (simp only [List.length_cons, List.length_nil, List.length_append]; first | done | omega) | (simp (disch := assumption) only [go_sem, one_as, Nat.reduceBEq]; done) | fail)) only [q0, q13, i0, i2, i4, i8, i9, i11, go_sem, Hold.p, HoldK.k, HoldL.K, HoldL.body, Nat.reduceBEq, Nat.reduceAdd, reduceIte]
      refine callA_of (dup_c _ pp _ (a.ext (S.ol 12 rfl)).p (by omega)) ?_
      rintro w17 g17 ⟨o17, E17⟩
      have S := S.own (x := false) E17 o17 (Nat.le_refl _)
      have z17 := o17.one
      have q1 := (S.bx 1 rfl).eq
      have q14 := (S.bx 14 rfl).eq
      try simp (disch := (first | omega | assumption | (simp only [List.length_cons, List.length_nil, List.length_append]; first | done | omega) | (simp (disch := assumption) only [go_sem, one_as, Nat.reduceBEq]; done) | fail)) only [q1, q14, i0, i2, i4, i8, i9, i11, go_sem, Hold.p, HoldK.k, HoldL.K, HoldL.body, Nat.reduceBEq, Nat.reduceAdd, reduceIte]
      refine Sp.bsl1 S (by first | rfl | (rw [cells_one (by assumption)]; rfl)) (by first | rfl | simp (disch := assumption) only [go_sem, cells_one, one_as]) fun p18 g18 S E_g18 l_g18 => ?_
      try simp only [cells_agg, cells_int, cells_bool, cells_ptr, cells_str] at S
      have q0 := (S.bx 0 rfl).eq
      have q2 := (S.bx 2 rfl).eq
      have q15 := (S.bx 15 rfl).eq
      try simp (disch := (first | omega | assumption | (simp only [List.length_cons, List.length_nil, List.length_append]; first | done | omega) | (simp (disch := assumption) only [go_sem, one_as, Nat.reduceBEq]; done) | fail)) only [q0, q2, q15, i0, i2, i4, i8, i9, i11, go_sem, Hold.p, HoldK.k, HoldL.K, HoldL.body, Nat.reduceBEq, Nat.reduceAdd, reduceIte]
      have S := by simpa only [List.map_cons, List.map_nil, List.getD_cons_zero, List.getD_cons_succ, List.drop_succ_cons, List.drop_zero, List.cons_append, List.nil_append] using Sp.sel S 16 [0, 3, 1, 2, 4, 5, 6, 7, 8, 9, 10, 11, 12, 13, 14, 15] (by simp only [List.length_cons]; omega) (by decide) (by decide)
      refine S.app1 (y := false) (by omega) ?_
      clear S
      intro v19 g19 S z19
      have q2 := (S.bx 2 rfl).eq
      have q14 := (S.bx 14 rfl).eq
      try simp (disch := (first | omega | assumption | (simp only [List.length_cons, List.length_nil, List.length_append]; first | done | omega) | (simp (disch := assumption) only [go_sem, one_as, Nat.reduceBEq]; done) | fail)) only [q2, q14, i0, i2, i4, i8, i9, i11, go_sem, Hold.p, HoldK.k, HoldL.K, HoldL.body, Nat.reduceBEq, Nat.reduceAdd, reduceIte]
      refine st1_of (Nat.le_of_ble_eq_true rfl) (by first | rfl | assumption) fun g20 hg => ?_
      have l_g20 := n_set hg
      have S := S.set2 hg
      clear hg
      simp only [List.set_cons_zero, List.set_cons_succ, List.take_succ_cons, List.take_zero, List.drop_succ_cons, List.drop_zero, List.cons_append, List.nil_append, Nat.reduceAdd] at S
      have S := by simpa only [List.map_cons, List.map_nil, List.getD_cons_zero, List.getD_cons_succ, List.drop_succ_cons, List.drop_zero, List.cons_append, List.nil_append] using Sp.sel S 15 [1, 3, 0, 2, 4, 5, 6, 7, 8, 9, 10, 11, 12, 13, 14] (by simp only [List.length_cons]; omega) (by decide) (by decide)
      have S := pcs_add (a := p.off) S
      have S := by simpa only [List.map_cons, List.map_nil, List.getD_cons_zero, List.getD_cons_succ, List.drop_succ_cons, List.drop_zero, List.cons_append, List.nil_append] using Sp.sel S 14 [2, 1, 0, 3, 4, 5, 6, 7, 8, 9, 10, 11, 12, 13] (by simp only [List.length_cons]; omega) (by decide) (by decide)
      have q13 := (S.bx 13 rfl).eq
      try simp (disch := (first | omega | assumption | (simp only [List.length_cons, List.length_nil, List.length_append]; first | done | omega) | (simp (disch := assumption) only [go_sem, one_as, Nat.reduceBEq]; done) | fail)) only [q13, i0, i2, i4, i8, i9, i11, go_sem, Hold.p, HoldK.k, HoldL.K, HoldL.body, Nat.reduceBEq, Nat.reduceAdd, reduceIte]
      refine test_dec (fun hc => ?_) (fun hc => ?_)
      · rw [if_pos hc] at hf2
        rw [hf2]
        have q13 := (S.bx 13 rfl).eq
        try simp (disch := (first | omega | assumption | (simp only [List.length_cons, List.length_nil, List.length_append]; first | done | omega) | (simp (disch := assumption) only [go_sem, one_as, Nat.reduceBEq]; done) | fail)) only [q13, i0, i2, i4, i8, i9, go_sem, Hold.p, HoldK.k, HoldL.K, HoldL.body, Nat.reduceBEq, Nat.reduceAdd, reduceIte]
        refine callA_of (ownPacket_c _ _ S p po' pp (a.ext (S.ol 12 rfl)) (by omega)) ?_
        clear S
        rintro r21 g21 ⟨wo, wp, rfl, S⟩
        unfold pkRow
        have zo := (S.slA 0 rfl).one
        have zp := (S.slA 1 rfl).one
        try simp (disch := (first | omega | assumption | (simp only [List.length_cons, List.length_nil, List.length_append]; first | done | omega) | (simp (disch := assumption) only [go_sem, one_as, Nat.reduceBEq]; done) | fail)) only [i0, i2, i4, i8, i9, go_sem, Hold.p, HoldK.k, HoldL.K, HoldL.body, Nat.reduceBEq, Nat.reduceAdd, reduceIte]
        refine Sp.zero S fun p22 g22 S E_g22 l_g22 => ?_
        have q0 := (S.bx 0 rfl).eq
        try simp (disch := (first | omega | assumption | (simp only [List.length_cons, List.length_nil, List.length_append]; first | done | omega) | (simp (disch := assumption) only [go_sem, one_as, Nat.reduceBEq]; done) | fail)) only [q0, i0, i2, i4, i8, i9, go_sem, Hold.p, HoldK.k, HoldL.K, HoldL.body, Nat.reduceBEq, Nat.reduceAdd, reduceIte]
        refine stw_of rfl rfl (by first | rfl | simp (disch := assumption) only [go_sem, cells_one, one_as]) fun g23 hg => ?_
        have l_g23 := n_set hg
        have S := S.set0 hg
        clear hg
        have q3 := (S.bx 3 rfl).eq
        try simp (disch := (first | omega | assumption | (simp only [List.length_cons, List.length_nil, List.length_append]; first | done | omega) | (simp (disch := assumption) only [go_sem, one_as, Nat.reduceBEq]; done) | fail)) only [q3, i0, i2, i4, i8, i9, go_sem, Hold.p, HoldK.k, HoldL.K, HoldL.body, Nat.reduceBEq, Nat.reduceAdd, reduceIte]
        refine st1_of (Nat.le_of_ble_eq_true rfl) (by first | rfl | assumption) fun g24 hg => ?_
        have l_g24 := n_set hg
        have S := S.set3 hg
        clear hg
        simp only [List.set_cons_zero, List.set_cons_succ, List.take_succ_cons, List.take_zero, List.drop_succ_cons, List.drop_zero, List.cons_append, List.nil_append, Nat.reduceAdd] at S
        try simp (disch := (first | omega | assumption | (simp only [List.length_cons, List.length_nil, List.length_append]; first | done | omega) | (simp (disch := assumption) only [go_sem, one_as, Nat.reduceBEq]; done) | fail)) only [i0, i2, i4, i8, i9, go_sem, Hold.p, HoldK.k, HoldL.K, HoldL.body, Nat.reduceBEq, Nat.reduceAdd, reduceIte]
        have S := by simpa only [List.map_cons, List.map_nil, List.getD_cons_zero, List.getD_cons_succ, List.drop_succ_cons, List.drop_zero, List.cons_append, List.nil_append] using Sp.sel S 17 [0, 1, 2, 3, 4, 5, 7, 8, 9, 10, 11, 12, 13, 14, 15, 16] (by simp only [List.length_cons]; omega) (by decide) (by decide)
        have S := first_mk S
        have S := by simpa only [List.map_cons, List.map_nil, List.getD_cons_zero, List.getD_cons_succ, List.drop_succ_cons, List.drop_zero, List.cons_append, List.nil_append] using Sp.sel S 14 [1, 2, 3, 0, 4, 5, 6, 7, 8, 9, 10, 11, 12, 13] (by simp only [List.length_cons]; omega) (by decide) (by decide)
        exact ⟨v19, .ptr p22 0 0, prs ++ [[.int .i64 p.off, w17]], S⟩
      · rw [if_neg hc] at hf2
        rw [hf2]
        try simp (disch := (first | omega | assumption | (simp only [List.length_cons, List.length_nil, List.length_append]; first | done | omega) | (simp (disch := assumption) only [go_sem, one_as, Nat.reduceBEq]; done) | fail)) only [i0, i2, i4, i8, i9, go_sem, Hold.p, HoldK.k, HoldL.K, HoldL.body, Nat.reduceBEq, Nat.reduceAdd, reduceIte]
        exact ⟨v19, vf, prs ++ [[.int .i64 p.off, w17]], S⟩
  obtain ⟨m2, hm2⟩ : ∃ r : Mk, r = { m with en := e2, ps := ps2, first := f2 } := ⟨_, rfl⟩
  have hX2 : addI m p = addEnd m2 f2 := by
    have h2 : (if same = true then (if p.mf = false then { m with en := en } else m) else { (if p.mf = false then { m with en := en } else m) with ps := (if p.mf = false then { m with en := en } else m).ps ++ [(p.off, p.pay)], first := if p.off = 0 then some p else (if p.mf = false then { m with en := en } else m).first }) = m2 := by
      rw [hm2, he2, hps2, hf2]
      cases same <;> cases p.mf <;> simp
    unfold addI
    simp only [hen, hsc]
    rw [if_neg hnc]
    simp only [h2]
    have hf : m2.first = f2 := by rw [hm2]
    rw [← hf]
    unfold addEnd
    cases m2.first <;> rfl
  have hm2e : m2.en = e2 := by rw [hm2]
  have hm2p : m2.ps = ps2 := by rw [hm2]
  have hm2r : m2.ref = m.ref := by rw [hm2]
  have hps2' : Small 100002 ps2 e2 := by
    refine ⟨?_, ?_, he2b⟩
    · rw [hps2]; split
      · omega
      · rw [List.length_append, List.length_singleton]; omega
    · intro qx hqx
      rw [hps2] at hqx
      split at hqx
      · exact hq0 qx hqx
      · rcases List.mem_append.1 hqx with hqx | hqx
        · exact hq0 qx hqx
        · have : qx = (p.off, p.pay) := by simpa using hqx
          subst this
          exact ⟨ho, hp⟩
  have hfo2 : ∀ f, f2 = some f → f.opts.length ≤ 100 := by
    intro f hf
    rw [hf2] at hf
    split at hf
    · exact hfo f hf
    · split at hf
      · cases hf; exact hpo
      · exact hfo f hf
  have hfin2 : ∀ {g : IH} {vps vf : IV} {prs : List (List IV)}, addI m p = (m2, false) → Sp g (box q (mkO m vps e2 vf m.ref) :: sl false 116 2 vps prs :: all2 pcR prs ps2 :: firstP vf f2 :: all2 mkR a0 xs1 :: all2 mkR bs ys :: box x (xO now vl) :: sl true 105 1 vl (a0 ++ [.ptr q 0 0] :: bs) :: box po (outO o1 vo vp ve) :: byt vo o1.pk.opts :: byt vp o1.pk.pay :: endP ve o1.ended :: old h0 :: box p4 (pkObj p po' pp) :: L) →
      ISt g x now (stepI l1 o1 i' p).1 po (stepI l1 o1 i' p).2 (old h0 :: L) := by
    intro g vps vf prs hX S
    refine hfin (m' := m2) (vps := vps) (vf := vf) (prs := prs) hX ?_
    rw [hm2]
    exact S
  clear hfin hsc hnc hps2 hf2 he2 hen w0
  clear S i0 i2 i4 i8 i9 i11
  rintro e g ⟨vps, vf, prs, i0, i2, i8, i9, S⟩
  simp only [CC.split]
  obtain ⟨nf, onf⟩ := first_nil S 3 rfl
  refine vc_split 1 (fun e g => ∃ f, f2 = some f ∧ ¬ e2 < 0 ∧ e 0 = .ptr x 0 0 ∧ e 2 = .ptr po 0 0 ∧ e 8 = .int .i64 (i' : Nat) ∧ e 9 = .ptr q 0 0 ∧
    Sp g (box q (mkO m vps e2 vf m.ref) :: sl false 116 2 vps prs :: all2 pcR prs ps2 :: firstP vf (some f) :: all2 mkR a0 xs1 :: all2 mkR bs ys :: box x (xO now vl) :: sl true 105 1 vl (a0 ++ [.ptr q 0 0] :: bs) :: box po (outO o1 vo vp ve) :: byt vo o1.pk.opts :: byt vp o1.pk.pay :: endP ve o1.ended :: old h0 :: box p4 (pkObj p po' pp) :: L)) ?_ ?_
  · simp only [CC.split]
    have q0 := (S.bx 0 rfl).eq
    try simp (disch := (first | omega | assumption | (simp only [List.length_cons, List.length_nil, List.length_append]; first | done | omega) | (simp (disch := assumption) only [go_sem, one_as, Nat.reduceBEq]; done) | fail)) only [q0, i0, i2, i8, i9, nf, go_sem, Hold.p, HoldK.k, HoldL.K, HoldL.body, Nat.reduceBEq, Nat.reduceAdd, reduceIte]
    cases hff : f2 with
    | none =>
      have hb1 : (true != false) = true := rfl
      try simp (disch := (first | omega | assumption | (simp only [List.length_cons, List.length_nil, List.length_append]; first | done | omega) | (simp (disch := assumption) only [go_sem, one_as, Nat.reduceBEq]; done) | fail)) only [hff, Option.isNone_none, hb1, go_sem, Hold.p, HoldK.k, HoldL.K, HoldL.body, Nat.reduceBEq, Nat.reduceAdd, reduceIte]
      refine hfin2 (vps := vps) (vf := vf) (prs := prs) ?_ (by rw [hff] at S ⊢; exact S)
      rw [hX2, hff]; rfl
    | some f =>
      have hX3 := hX2
      rw [hff] at hX3 S
      unfold addEnd at hX3
      simp only [hm2e, hm2p] at hX3
      try simp (disch := (first | omega | assumption | (simp only [List.length_cons, List.length_nil, List.length_append]; first | done | omega) | (simp (disch := assumption) only [go_sem, one_as, Nat.reduceBEq]; done) | fail)) only [hff, Option.isNone_some, go_sem, Hold.p, HoldK.k, HoldL.K, HoldL.body, Nat.reduceBEq, Nat.reduceAdd, reduceIte]
      refine test_dec (fun hc => ?_) (fun hc => ?_)
      · rw [if_pos hc] at hX3
        try simp (disch := (first | omega | assumption | (simp only [List.length_cons, List.length_nil, List.length_append]; first | done | omega) | (simp (disch := assumption) only [go_sem, one_as, Nat.reduceBEq]; done) | fail)) only [go_sem, Hold.p, HoldK.k, HoldL.K, HoldL.body, Nat.reduceBEq, Nat.reduceAdd, reduceIte]
        refine hfin2 (vps := vps) (vf := vf) (prs := prs) hX3 (by rw [hff]; exact S)
      · skip
        try simp (disch := (first | omega | assumption | (simp only [List.length_cons, List.length_nil, List.length_append]; first | done | omega) | (simp (disch := assumption) only [go_sem, one_as, Nat.reduceBEq]; done) | fail)) only [i0, i2, i8, i9, go_sem, Hold.p, HoldK.k, HoldL.K, HoldL.body, Nat.reduceBEq, Nat.reduceAdd, reduceIte]
        exact ⟨f, rfl, hc, S⟩
  clear S i0 i2 i8 i9 nf onf
  rintro e g ⟨f, hff, hc0, i0, i2, i8, i9, S⟩
  have hfl := hfo2 f hff
  rw [hff] at hX2
  unfold addEnd at hX2
  simp only [hm2e, hm2p] at hX2
  rw [if_neg hc0] at hX2
  simp only [CC.split]
  have S := by simpa only [List.map_cons, List.map_nil, List.getD_cons_zero, List.getD_cons_succ, List.drop_succ_cons, List.drop_zero, List.cons_append, List.nil_append] using Sp.sel S 14 [3, 0, 1, 2, 4, 5, 6, 7, 8, 9, 10, 11, 12, 13] (by simp only [List.length_cons]; omega) (by decide) (by decide)
  obtain ⟨qf, fo, fp, hvf, S⟩ := first_some S
  have xo := (S.slA 1 rfl).lenF
  rw [strRows_len] at xo
  rw [hvf] at S
  have w3 : wr .i64 (20 + (f.opts.length : Int)) = 20 + f.opts.length := wr64 _ (by omega)
  have w4 : wr .i64 (20 + (f.opts.length : Int) + e2) = 20 + f.opts.length + e2 := wr64 _ (by omega)
  refine vc_split 1 (fun e g => ¬ (65535 < 20 + (f.opts.length : Int) + e2) ∧ e 0 = .ptr x 0 0 ∧ e 2 = .ptr po 0 0 ∧ e 8 = .int .i64 (i' : Nat) ∧ e 9 = .ptr q 0 0 ∧
    Sp g (box qf (pkObj f fo fp) :: byt fo f.opts :: byt fp f.pay :: box q (mkO m vps e2 (.ptr qf 0 0) m.ref) :: sl false 116 2 vps prs :: all2 pcR prs ps2 :: all2 mkR a0 xs1 :: all2 mkR bs ys :: box x (xO now vl) :: sl true 105 1 vl (a0 ++ [.ptr q 0 0] :: bs) :: box po (outO o1 vo vp ve) :: byt vo o1.pk.opts :: byt vp o1.pk.pay :: endP ve o1.ended :: old h0 :: box p4 (pkObj p po' pp) :: L)) ?_ ?_
  · simp only [CC.split]
    have q0 := (S.bx 0 rfl).eq
    have q3 := (S.bx 3 rfl).eq
    try simp (disch := (first | omega | assumption | (simp only [List.length_cons, List.length_nil, List.length_append]; first | done | omega) | (simp (disch := assumption) only [go_sem, one_as, Nat.reduceBEq]; done) | fail)) only [q0, q3, i0, i2, i8, i9, xo, w3, w4, go_sem, Hold.p, HoldK.k, HoldL.K, HoldL.body, Nat.reduceBEq, Nat.reduceAdd, reduceIte]
    refine test_dec (fun hc => ?_) (fun hc => ?_)
    · rw [if_pos hc] at hX2
      try simp (disch := (first | omega | assumption | (simp only [List.length_cons, List.length_nil, List.length_append]; first | done | omega) | (simp (disch := assumption) only [go_sem, one_as, Nat.reduceBEq]; done) | fail)) only [i0, i2, i8, i9, go_sem, Hold.p, HoldK.k, HoldL.K, HoldL.body, Nat.reduceBEq, Nat.reduceAdd, reduceIte]
      have S := by simpa only [List.map_cons, List.map_nil, List.getD_cons_zero, List.getD_cons_succ, List.drop_succ_cons, List.drop_zero, List.cons_append, List.nil_append] using Sp.sel S 16 [3, 4, 5, 0, 6, 7, 8, 9, 10, 11, 12, 13, 14, 15] (by simp only [List.length_cons]; omega) (by decide) (by decide)
      refine callA_of (refuse_c S) ?_
      clear S
      rintro r25 g25 S
      try simp (disch := (first | omega | assumption | (simp only [List.length_cons, List.length_nil, List.length_append]; first | done | omega) | (simp (disch := assumption) only [go_sem, one_as, Nat.reduceBEq]; done) | fail)) only [go_sem, Hold.p, HoldK.k, HoldL.K, HoldL.body, Nat.reduceBEq, Nat.reduceAdd, reduceIte]
      have S' := S
      rw [show (mkO m .nilslice (-1) .nilptr true : IObj) = mkO m2 .nilslice (-1) .nilptr true by rw [hm2]] at S'
      exact hfinR hX2 S'
    · skip
      try simp (disch := (first | omega | assumption | (simp only [List.length_cons, List.length_nil, List.length_append]; first | done | omega) | (simp (disch := assumption) only [go_sem, one_as, Nat.reduceBEq]; done) | fail)) only [i0, i2, i8, i9, go_sem, Hold.p, HoldK.k, HoldL.K, HoldL.body, Nat.reduceBEq, Nat.reduceAdd, reduceIte]
      exact ⟨hc, S⟩
  clear S i0 i2 i8 i9 w3 w4 hfinR
  rintro e g ⟨hc1, i0, i2, i8, i9, S⟩
  rw [if_neg hc1] at hX2
  simp only [CC.split]
  have hpn := hps2'.n
  have htl : totP ps2 ≤ 100002 * 65535 := Nat.le_trans (totP_le fun q hq => (hps2'.q q hq).2) (Nat.mul_le_mul_right _ hpn)
  refine vc_split 2 (fun e g => e 16 = .int .i64 (totP ps2 : Nat) ∧ e 0 = .ptr x 0 0 ∧ e 2 = .ptr po 0 0 ∧ e 8 = .int .i64 (i' : Nat) ∧ e 9 = .ptr q 0 0 ∧
    Sp g (box qf (pkObj f fo fp) :: byt fo f.opts :: byt fp f.pay :: box q (mkO m vps e2 (.ptr qf 0 0) m.ref) :: sl false 116 2 vps prs :: all2 pcR prs ps2 :: all2 mkR a0 xs1 :: all2 mkR bs ys :: box x (xO now vl) :: sl true 105 1 vl (a0 ++ [.ptr q 0 0] :: bs) :: box po (outO o1 vo vp ve) :: byt vo o1.pk.opts :: byt vp o1.pk.pay :: endP ve o1.ended :: old h0 :: box p4 (pkObj p po' pp) :: L)) ?_ ?_
  · simp only [CC.split]
    have hpl := a2_len S 5 rfl
    have q3 := (S.bx 3 rfl).eq
    have s4 := S.slA 4 rfl
    have len_s4 := s4.lenF
    have z4 := s4.one
    try simp (disch := (first | omega | assumption | (simp only [List.length_cons, List.length_nil, List.length_append]; first | done | omega) | (simp (disch := assumption) only [go_sem, one_as, Nat.reduceBEq]; done) | fail)) only [q3, len_s4, z4, i0, i2, i8, i9, hpl, go_sem, Hold.p, HoldK.k, HoldL.K, HoldL.body, Nat.reduceBEq, Nat.reduceAdd, reduceIte]
    refine loop_at (fun n e g => ∃ (k : Nat), n = ps2.length - k ∧ k ≤ ps2.length ∧ e 16 = .int .i64 (totP (ps2.take k) : Nat) ∧ e 0 = .ptr x 0 0 ∧ e 2 = .ptr po 0 0 ∧ e 8 = .int .i64 (i' : Nat) ∧ e 9 = .ptr q 0 0 ∧ e 302 = vps ∧ e 303 = .int .i64 (ps2.length : Nat) ∧ e 304 = .int .i64 (k : Nat) ∧
      Sp g (box qf (pkObj f fo fp) :: byt fo f.opts :: byt fp f.pay :: box q (mkO m vps e2 (.ptr qf 0 0) m.ref) :: sl false 116 2 vps prs :: all2 pcR prs ps2 :: all2 mkR a0 xs1 :: all2 mkR bs ys :: box x (xO now vl) :: sl true 105 1 vl (a0 ++ [.ptr q 0 0] :: bs) :: box po (outO o1 vo vp ve) :: byt vo o1.pk.opts :: byt vp o1.pk.pay :: endP ve o1.ended :: old h0 :: box p4 (pkObj p po' pp) :: L)) ps2.length ?_ ?_
    · refine ⟨0, by omega, by omega, ?_⟩
      try simp (disch := (first | omega | assumption | (simp only [List.length_cons, List.length_nil, List.length_append]; first | done | omega) | (simp (disch := assumption) only [go_sem, one_as, Nat.reduceBEq]; done) | fail)) only [i0, i2, i8, i9, go_sem, Hold.p, HoldK.k, HoldL.K, HoldL.body, Nat.reduceBEq, Nat.reduceAdd, reduceIte]
      exact ⟨rfl, rfl, S⟩
    · clear S i0 i2 i8 i9 s4 len_s4 z4
      rintro n e g ⟨k, rfl, hk, i16, i0, i2, i8, i9, i302, i303, i304, S⟩
      try simp (disch := (first | omega | assumption | (simp only [List.length_cons, List.length_nil, List.length_append]; first | done | omega) | (simp (disch := assumption) only [go_sem, one_as, Nat.reduceBEq]; done) | fail)) only [i16, i0, i2, i8, i9, i302, i303, i304, go_sem, Hold.p, HoldK.k, HoldL.K, HoldL.body, Nat.reduceBEq, Nat.reduceAdd, reduceIte]
      refine test_dec (fun hb => ?_) (fun hb => ?_)
      · obtain ⟨qq, hq⟩ : ∃ q, ps2[k]? = some q := ⟨_, List.getElem?_eq_getElem (by omega : k < ps2.length)⟩
        have hqs := hps2'.q qq (List.mem_of_getElem? hq)
        obtain ⟨vd, hrw, hvd⟩ := pcs_at S 5 rfl hq
        have s4 := S.slA 4 rfl
        obtain ⟨a1, a2, hia, hal, har⟩ := s4.at hrw .i64
        have d1 := hvd.one
        have d2 := hvd.lenF
        rw [strRows_len] at d2
        have w1 : wr .i64 ((k : Int) + 1) = ((k + 1 : Nat) : Int) := by rw [wr64 _ (by omega)]; rfl
        have htk : totP (ps2.take k) ≤ 100002 * 65535 := Nat.le_trans (totP_le fun q hq => (hps2'.q q (List.mem_of_mem_take hq)).2) (Nat.mul_le_mul_right _ (by rw [List.length_take]; omega))
        have hnx := totP_next hq
        have w2 : wr .i64 ((totP (ps2.take k) : Int) + (qq.2.length : Int)) = ((totP (ps2.take (k + 1)) : Nat) : Int) := by rw [wr64 _ (by omega), hnx]; rfl
        try simp (disch := (first | omega | assumption | (simp only [List.length_cons, List.length_nil, List.length_append]; first | done | omega) | (simp (disch := assumption) only [go_sem, one_as, Nat.reduceBEq]; done) | fail)) only [i16, i0, i2, i8, i9, i302, i303, i304, hia, har, d1, go_sem, Hold.p, HoldK.k, HoldL.K, HoldL.body, Nat.reduceBEq, Nat.reduceAdd, reduceIte]
        refine Sp.zero S fun p18 g18 S E_g18 l_g18 => ?_
        have q0 := (S.bx 0 rfl).eq
        try simp (disch := (first | omega | assumption | (simp only [List.length_cons, List.length_nil, List.length_append]; first | done | omega) | (simp (disch := assumption) only [go_sem, one_as, Nat.reduceBEq]; done) | fail)) only [q0, d1, go_sem, Hold.p, HoldK.k, HoldL.K, HoldL.body, Nat.reduceBEq, Nat.reduceAdd, reduceIte]
        refine stw_of rfl rfl (by first | rfl | simp (disch := assumption) only [go_sem, cells_one, one_as]) fun g19 hg => ?_
        have l_g19 := n_set hg
        have S := S.set0 hg
        clear hg
        have q0 := (S.bx 0 rfl).eq
        try simp (disch := (first | omega | assumption | (simp only [List.length_cons, List.length_nil, List.length_append]; first | done | omega) | (simp (disch := assumption) only [go_sem, one_as, Nat.reduceBEq]; done) | fail)) only [q0, i16, i0, i2, i8, i9, i302, i303, i304, d2, w1, w2, go_sem, Hold.p, HoldK.k, HoldL.K, HoldL.body, Nat.reduceBEq, Nat.reduceAdd, reduceIte]
        exact ⟨_, by omega, k + 1, rfl, by omega, rfl, rfl, S.drop⟩
      · rw [List.take_of_length_le (by omega)] at i16
        try simp (disch := (first | omega | assumption | (simp only [List.length_cons, List.length_nil, List.length_append]; first | done | omega) | (simp (disch := assumption) only [go_sem, one_as, Nat.reduceBEq]; done) | fail)) only [i16, i0, i2, i8, i9, go_sem, Hold.p, HoldK.k, HoldL.K, HoldL.body, Nat.reduceBEq, Nat.reduceAdd, reduceIte]
        exact S
  clear S i0 i2 i8 i9
  rintro e g ⟨i16, i0, i2, i8, i9, S⟩
  simp only [CC.split]
  refine vc_split 1 (fun e g => ¬ ((totP ps2 : Int) < e2) ∧ e 0 = .ptr x 0 0 ∧ e 2 = .ptr po 0 0 ∧ e 8 = .int .i64 (i' : Nat) ∧ e 9 = .ptr q 0 0 ∧
    Sp g (box qf (pkObj f fo fp) :: byt fo f.opts :: byt fp f.pay :: box q (mkO m vps e2 (.ptr qf 0 0) m.ref) :: sl false 116 2 vps prs :: all2 pcR prs ps2 :: all2 mkR a0 xs1 :: all2 mkR bs ys :: box x (xO now vl) :: sl true 105 1 vl (a0 ++ [.ptr q 0 0] :: bs) :: box po (outO o1 vo vp ve) :: byt vo o1.pk.opts :: byt vp o1.pk.pay :: endP ve o1.ended :: old h0 :: box p4 (pkObj p po' pp) :: L)) ?_ ?_
  · simp only [CC.split]
    have q3 := (S.bx 3 rfl).eq
    try simp (disch := (first | omega | assumption | (simp only [List.length_cons, List.length_nil, List.length_append]; first | done | omega) | (simp (disch := assumption) only [go_sem, one_as, Nat.reduceBEq]; done) | fail)) only [q3, i16, i0, i2, i8, i9, go_sem, Hold.p, HoldK.k, HoldL.K, HoldL.body, Nat.reduceBEq, Nat.reduceAdd, reduceIte]
    refine test_dec (fun hc => ?_) (fun hc => ?_)
    · rw [decide_eq_true hc] at hX2
      try simp (disch := (first | omega | assumption | (simp only [List.length_cons, List.length_nil, List.length_append]; first | done | omega) | (simp (disch := assumption) only [go_sem, one_as, Nat.reduceBEq]; done) | fail)) only [go_sem, Hold.p, HoldK.k, HoldL.K, HoldL.body, Nat.reduceBEq, Nat.reduceAdd, reduceIte]
      have S := first_mk S
      have S := by simpa only [List.map_cons, List.map_nil, List.getD_cons_zero, List.getD_cons_succ, List.drop_succ_cons, List.drop_zero, List.cons_append, List.nil_append] using Sp.sel S 14 [1, 2, 3, 0, 4, 5, 6, 7, 8, 9, 10, 11, 12, 13] (by simp only [List.length_cons]; omega) (by decide) (by decide)
      exact hfin2 (vps := vps) (vf := .ptr qf 0 0) (prs := prs) hX2 (by rw [hff]; exact S)
    · skip
      try simp (disch := (first | omega | assumption | (simp only [List.length_cons, List.length_nil, List.length_append]; first | done | omega) | (simp (disch := assumption) only [go_sem, one_as, Nat.reduceBEq]; done) | fail)) only [i0, i2, i8, i9, go_sem, Hold.p, HoldK.k, HoldL.K, HoldL.body, Nat.reduceBEq, Nat.reduceAdd, reduceIte]
      exact ⟨hc, S⟩
  clear S i0 i2 i8 i9 i16 hfin2
  rintro e g ⟨hc2, i0, i2, i8, i9, S⟩
  rw [decide_eq_false hc2] at hX2
  simp only [CC.split]
  have hin : ∀ q ∈ ps2, pTo q ≤ e2 := by
    have := hwhm (by rw [hX2]; rfl)
    rw [hX2] at this
    simp only [hm2e, hm2p] at this
    exact this
  have hstw : stepI l1 o1 i' p = (l1.eraseIdx i', { o1 with done := true, pk := wholeI m2 }) := by rw [hst, hX2]; rfl
  have hwp : wholeI m2 = { f with mf := false, pay := fillB ps2 (List.replicate e2.toNat 0) } := by unfold wholeI; rw [hm2, hff]; rfl
  rw [hstw, hwp]
  obtain ⟨n2, hn2⟩ : ∃ n : Nat, e2 = n := ⟨e2.toNat, by omega⟩
  rw [hn2] at S hin hps2'
  have he2n : n2 ≤ 200000 := by have := hps2'.e; omega
  rw [hn2]
  simp only [Int.toNat_natCast]
  have hz : ∀ k, (fillB (ps2.take k) (List.replicate n2 0)).length = n2 := fun k => by
    rw [fillB_len (fun q hq => ?_), List.length_replicate]
    rw [List.length_replicate]
    exact ⟨(hps2'.q q (List.mem_of_mem_take hq)).1.1, hin q (List.mem_of_mem_take hq)⟩
  have zfo := (S.slA 1 rfl).one
  have zfp := (S.slA 2 rfl).one
  refine vc_split 4 (fun e g => ∃ v31, e 0 = .ptr x 0 0 ∧ e 2 = .ptr po 0 0 ∧ e 8 = .int .i64 (i' : Nat) ∧ e 9 = .ptr q 0 0 ∧
    Sp g (sl false 5 1 v31 (strRows (List.replicate n2 0)) :: byt fo f.opts :: box q (mkO m vps n2 (.ptr qf 0 0) m.ref) :: sl false 116 2 vps prs :: all2 pcR prs ps2 :: all2 mkR a0 xs1 :: all2 mkR bs ys :: box x (xO now vl) :: sl true 105 1 vl (a0 ++ [.ptr q 0 0] :: bs) :: box po (outO { o1 with done := true, pk := { f with mf := false } } fo v31 ve) :: endP ve o1.ended :: old h0 :: L)) ?_ ?_
  · simp only [CC.split]
    have q10 := (S.bx 10 rfl).eq
    try simp (disch := (first | omega | assumption | (simp only [List.length_cons, List.length_nil, List.length_append]; first | done | omega) | (simp (disch := assumption) only [go_sem, one_as, Nat.reduceBEq]; done) | fail)) only [q10, i0, i2, i8, i9, go_sem, Hold.p, HoldK.k, HoldL.K, HoldL.body, Nat.reduceBEq, Nat.reduceAdd, reduceIte]
    refine st1_of (Nat.le_of_ble_eq_true rfl) (by first | rfl | assumption) fun g30 hg => ?_
    have l_g30 := n_set hg
    have S := S.set10 hg
    clear hg
    simp only [List.set_cons_zero, List.set_cons_succ, List.take_succ_cons, List.take_zero, List.drop_succ_cons, List.drop_zero, List.cons_append, List.nil_append, Nat.reduceAdd] at S
    have q0 := (S.bx 0 rfl).eq
    have q3 := (S.bx 3 rfl).eq
    have q10 := (S.bx 10 rfl).eq
    try simp (disch := (first | omega | assumption | (simp only [List.length_cons, List.length_nil, List.length_append]; first | done | omega) | (simp (disch := assumption) only [go_sem, one_as, Nat.reduceBEq]; done) | fail)) only [q0, q3, q10, i0, i2, i8, i9, go_sem, Hold.p, HoldK.k, HoldL.K, HoldL.body, Nat.reduceBEq, Nat.reduceAdd, reduceIte]
    refine stp_of rfl (Nat.le_of_ble_eq_true rfl) (by first | rfl | simp (disch := assumption) only [go_sem, cells_one, one_as]) fun g31 hg => ?_
    have l_g31 := n_set hg
    have S := S.set10 hg
    clear hg
    simp only [List.set_cons_zero, List.set_cons_succ, List.take_succ_cons, List.take_zero, List.drop_succ_cons, List.drop_zero, List.cons_append, List.nil_append, Nat.reduceAdd] at S
    have q10 := (S.bx 10 rfl).eq
    try simp (disch := (first | omega | assumption | (simp only [List.length_cons, List.length_nil, List.length_append]; first | done | omega) | (simp (disch := assumption) only [go_sem, one_as, Nat.reduceBEq]; done) | fail)) only [q10, i0, i2, i8, i9, go_sem, Hold.p, HoldK.k, HoldL.K, HoldL.body, Nat.reduceBEq, Nat.reduceAdd, reduceIte]
    refine st1_of (Nat.le_of_ble_eq_true rfl) (by first | rfl | assumption) fun g32 hg => ?_
    have l_g32 := n_set hg
    have S := S.set10 hg
    clear hg
    simp only [List.set_cons_zero, List.set_cons_succ, List.take_succ_cons, List.take_zero, List.drop_succ_cons, List.drop_zero, List.cons_append, List.nil_append, Nat.reduceAdd] at S
    have q3 := (S.bx 3 rfl).eq
    have q10 := (S.bx 10 rfl).eq
    try simp (disch := (first | omega | assumption | (simp only [List.length_cons, List.length_nil, List.length_append]; first | done | omega) | (simp (disch := assumption) only [go_sem, one_as, Nat.reduceBEq]; done) | fail)) only [q3, q10, i0, i2, i8, i9, go_sem, Hold.p, HoldK.k, HoldL.K, HoldL.body, Nat.reduceBEq, Nat.reduceAdd, reduceIte]
    refine Sp.mks S (by omega) (by omega) ?_
    clear S
    intro v33 g33 S E33 z33
    have hrep : List.replicate n2 [IV.int .u8 0] = strRows (List.replicate n2 0) := by simp [strRows]
    rw [hrep] at S
    have q11 := (S.bx 11 rfl).eq
    try simp (disch := (first | omega | assumption | (simp only [List.length_cons, List.length_nil, List.length_append]; first | done | omega) | (simp (disch := assumption) only [go_sem, one_as, Nat.reduceBEq]; done) | fail)) only [q11, i0, i2, i8, i9, go_sem, Hold.p, HoldK.k, HoldL.K, HoldL.body, Nat.reduceBEq, Nat.reduceAdd, reduceIte]
    refine st1_of (Nat.le_of_ble_eq_true rfl) (by first | rfl | assumption) fun g34 hg => ?_
    have l_g34 := n_set hg
    have S := S.set11 hg
    clear hg
    simp only [List.set_cons_zero, List.set_cons_succ, List.take_succ_cons, List.take_zero, List.drop_succ_cons, List.drop_zero, List.cons_append, List.nil_append, Nat.reduceAdd] at S
    try simp (disch := (first | omega | assumption | (simp only [List.length_cons, List.length_nil, List.length_append]; first | done | omega) | (simp (disch := assumption) only [go_sem, one_as, Nat.reduceBEq]; done) | fail)) only [i0, i2, i8, i9, go_sem, Hold.p, HoldK.k, HoldL.K, HoldL.body, Nat.reduceBEq, Nat.reduceAdd, reduceIte]
    refine ⟨v33, ?_⟩
    have S := by simpa only [List.map_cons, List.map_nil, List.getD_cons_zero, List.getD_cons_succ, List.drop_succ_cons, List.drop_zero, List.cons_append, List.nil_append] using Sp.sel S 17 [0, 2, 4, 5, 6, 7, 8, 9, 10, 11, 14, 15] (by simp only [List.length_cons]; omega) (by decide) (by decide)
    exact S
  clear S i0 i2 i8 i9 hX2
  rintro e g ⟨v31, i0, i2, i8, i9, S⟩
  simp only [CC.split]
  have z31 := (S.slA 0 rfl).one
  refine vc_split 1 (fun e g => e 0 = .ptr x 0 0 ∧ e 8 = .int .i64 (i' : Nat) ∧
    Sp g (sl false 5 1 v31 (strRows (fillB ps2 (List.replicate n2 0))) :: byt fo f.opts :: all2 mkR a0 xs1 :: all2 mkR bs ys :: box x (xO now vl) :: sl true 105 1 vl (a0 ++ [.ptr q 0 0] :: bs) :: box po (outO { o1 with done := true, pk := { f with mf := false } } fo v31 ve) :: endP ve o1.ended :: old h0 :: L)) ?_ ?_
  · simp only [CC.split]
    have hpl := a2_len S 4 rfl
    have q2 := (S.bx 2 rfl).eq
    have s3 := S.slA 3 rfl
    have len_s3 := s3.lenF
    have z3 := s3.one
    try simp (disch := (first | omega | assumption | (simp only [List.length_cons, List.length_nil, List.length_append]; first | done | omega) | (simp (disch := assumption) only [go_sem, one_as, Nat.reduceBEq]; done) | fail)) only [q2, len_s3, z3, i0, i2, i8, i9, hpl, go_sem, Hold.p, HoldK.k, HoldL.K, HoldL.body, Nat.reduceBEq, Nat.reduceAdd, reduceIte]
    refine loop_at (fun n e g => ∃ (k : Nat), n = ps2.length - k ∧ k ≤ ps2.length ∧ e 0 = .ptr x 0 0 ∧ e 2 = .ptr po 0 0 ∧ e 8 = .int .i64 (i' : Nat) ∧ e 348 = vps ∧ e 349 = .int .i64 (ps2.length : Nat) ∧ e 350 = .int .i64 (k : Nat) ∧
      Sp g (sl false 5 1 v31 (strRows (fillB (ps2.take k) (List.replicate n2 0))) :: byt fo f.opts :: box q (mkO m vps n2 (.ptr qf 0 0) m.ref) :: sl false 116 2 vps prs :: all2 pcR prs ps2 :: all2 mkR a0 xs1 :: all2 mkR bs ys :: box x (xO now vl) :: sl true 105 1 vl (a0 ++ [.ptr q 0 0] :: bs) :: box po (outO { o1 with done := true, pk := { f with mf := false } } fo v31 ve) :: endP ve o1.ended :: old h0 :: L)) ps2.length ?_ ?_
    · refine ⟨0, by omega, by omega, ?_⟩
      try simp (disch := (first | omega | assumption | (simp only [List.length_cons, List.length_nil, List.length_append]; first | done | omega) | (simp (disch := assumption) only [go_sem, one_as, Nat.reduceBEq]; done) | fail)) only [i0, i2, i8, i9, go_sem, Hold.p, HoldK.k, HoldL.K, HoldL.body, Nat.reduceBEq, Nat.reduceAdd, reduceIte]
      exact ⟨rfl, S⟩
    · clear S i0 i2 i8 i9 s3 len_s3 z3
      rintro n e g ⟨k, rfl, hk, i0, i2, i8, i348, i349, i350, S⟩
      try simp (disch := (first | omega | assumption | (simp only [List.length_cons, List.length_nil, List.length_append]; first | done | omega) | (simp (disch := assumption) only [go_sem, one_as, Nat.reduceBEq]; done) | fail)) only [i0, i2, i8, i348, i349, i350, go_sem, Hold.p, HoldK.k, HoldL.K, HoldL.body, Nat.reduceBEq, Nat.reduceAdd, reduceIte]
      refine test_dec (fun hb => ?_) (fun hb => ?_)
      · obtain ⟨qq, hq⟩ : ∃ q, ps2[k]? = some q := ⟨_, List.getElem?_eq_getElem (by omega : k < ps2.length)⟩
        have hqs := hps2'.q qq (List.mem_of_getElem? hq)
        have hqi := hin qq (List.mem_of_getElem? hq)
        unfold pTo at hqi
        obtain ⟨vd, hrw, hvd⟩ := pcs_at S 4 rfl hq
        have s3 := S.slA 3 rfl
        obtain ⟨a1, a2, hia, hal, har⟩ := s3.at hrw .i64
        have d1 := hvd.one
        have w1 : wr .i64 ((k : Int) + 1) = ((k + 1 : Nat) : Int) := by rw [wr64 _ (by omega)]; rfl
        obtain ⟨aa, haa⟩ : ∃ a : Nat, qq.1 = a := ⟨qq.1.toNat, by omega⟩
        have hnx := fillB_next (out := List.replicate n2 0) hq
        rw [haa, Int.toNat_natCast] at hnx
        try simp (disch := (first | omega | assumption | (simp only [List.length_cons, List.length_nil, List.length_append]; first | done | omega) | (simp (disch := assumption) only [go_sem, one_as, Nat.reduceBEq]; done) | fail)) only [i0, i2, i8, i348, i349, i350, hia, har, d1, go_sem, Hold.p, HoldK.k, HoldL.K, HoldL.body, Nat.reduceBEq, Nat.reduceAdd, reduceIte]
        refine Sp.zero S fun p20 g20 S E_g20 l_g20 => ?_
        have q0 := (S.bx 0 rfl).eq
        try simp (disch := (first | omega | assumption | (simp only [List.length_cons, List.length_nil, List.length_append]; first | done | omega) | (simp (disch := assumption) only [go_sem, one_as, Nat.reduceBEq]; done) | fail)) only [q0, d1, go_sem, Hold.p, HoldK.k, HoldL.K, HoldL.body, Nat.reduceBEq, Nat.reduceAdd, reduceIte]
        refine stw_of rfl rfl (by first | rfl | simp (disch := assumption) only [go_sem, cells_one, one_as]) fun g21 hg => ?_
        have l_g21 := n_set hg
        have S := S.set0 hg
        clear hg
        obtain ⟨vd', hrow', hvd'⟩ := pcs_at S 5 rfl hq
        have hvv : vd' = vd := by rw [hrw] at hrow'; simpa using hrow'.symm
        subst hvv
        have q0 := (S.bx 0 rfl).eq
        have q10 := (S.bx 10 rfl).eq
        have hsrc := hvd'.src
        have S := by simpa only [List.map_cons, List.map_nil, List.getD_cons_zero, List.getD_cons_succ, List.drop_succ_cons, List.drop_zero, List.cons_append, List.nil_append] using Sp.sel S 13 [1, 0, 2, 3, 4, 5, 6, 7, 8, 9, 10, 11, 12] (by simp only [List.length_cons]; omega) (by decide) (by decide)
        obtain ⟨vc, hvc, hcp⟩ := copyB (a := aa) (b := qq.2) S (by rw [hz]; omega)
        try simp (disch := (first | omega | assumption | (simp only [List.length_cons, List.length_nil, List.length_append]; first | done | omega) | (simp (disch := assumption) only [go_sem, one_as, Nat.reduceBEq]; done) | fail)) only [i0, i2, i8, i348, i349, i350, q0, q10, haa, Option.map_none, hvc, hsrc, go_sem, Hold.p, HoldK.k, HoldL.K, HoldL.body, Nat.reduceBEq, Nat.reduceAdd, reduceIte]
        refine hcp _ fun g22 S => ?_
        rw [← hnx] at S
        try simp (disch := (first | omega | assumption | (simp only [List.length_cons, List.length_nil, List.length_append]; first | done | omega) | (simp (disch := assumption) only [go_sem, one_as, Nat.reduceBEq]; done) | fail)) only [i0, i2, i8, i348, i349, i350, w1, go_sem, Hold.p, HoldK.k, HoldL.K, HoldL.body, Nat.reduceBEq, Nat.reduceAdd, reduceIte]
        have S := by simpa only [List.map_cons, List.map_nil, List.getD_cons_zero, List.getD_cons_succ, List.drop_succ_cons, List.drop_zero, List.cons_append, List.nil_append] using Sp.sel S 13 [0, 2, 3, 4, 5, 6, 7, 8, 9, 10, 11, 12] (by simp only [List.length_cons]; omega) (by decide) (by decide)
        exact ⟨_, by omega, k + 1, rfl, by omega, rfl, S⟩
      · rw [List.take_of_length_le (by omega)] at S
        try simp (disch := (first | omega | assumption | (simp only [List.length_cons, List.length_nil, List.length_append]; first | done | omega) | (simp (disch := assumption) only [go_sem, one_as, Nat.reduceBEq]; done) | fail)) only [i0, i2, i8, go_sem, Hold.p, HoldK.k, HoldL.K, HoldL.body, Nat.reduceBEq, Nat.reduceAdd, reduceIte]
        have S := by simpa only [List.map_cons, List.map_nil, List.getD_cons_zero, List.getD_cons_succ, List.drop_succ_cons, List.drop_zero, List.cons_append, List.nil_append] using Sp.sel S 12 [0, 1, 5, 6, 7, 8, 9, 10, 11] (by simp only [List.length_cons]; omega) (by decide) (by decide)
        exact S
  clear S i0 i2 i8 i9
  rintro e g ⟨i0, i8, S⟩
  simp only [CC.split]
  have w2 : wr .i64 ((i' : Int) + 1) = ((i' + 1 : Nat) : Int) := by rw [wr64 _ (by omega)]; rfl
  have q4 := (S.bx 4 rfl).eq
  try simp (disch := (first | omega | assumption | (simp only [List.length_cons, List.length_nil, List.length_append]; first | done | omega) | (simp (disch := assumption) only [go_sem, one_as, Nat.reduceBEq]; done) | fail)) only [q4, i0, i8, w2, go_sem, Hold.p, HoldK.k, HoldL.K, HoldL.body, Nat.reduceBEq, Nat.reduceAdd, reduceIte]
  have S := by simpa only [List.map_cons, List.map_nil, List.getD_cons_zero, List.getD_cons_succ, List.drop_succ_cons, List.drop_zero, List.cons_append, List.nil_append] using Sp.sel S 9 [5, 0, 1, 2, 3, 4, 6, 7, 8] (by simp only [List.length_cons]; omega) (by decide) (by decide)
  refine callA_of (delete_c (i := i') (j := i' + 1) S (by simp) (by omega) (by rw [← ha0]; simp)) ?_
  clear S
  rintro r40 g40 ⟨S, z40⟩
  have q5 := (S.bx 5 rfl).eq
  try simp (disch := (first | omega | assumption | (simp only [List.length_cons, List.length_nil, List.length_append]; first | done | omega) | (simp (disch := assumption) only [go_sem, one_as, Nat.reduceBEq]; done) | fail)) only [q5, i0, i8, go_sem, Hold.p, HoldK.k, HoldL.K, HoldL.body, Nat.reduceBEq, Nat.reduceAdd, reduceIte]
  refine st1_of (Nat.le_of_ble_eq_true rfl) (by first | rfl | assumption) fun g41 hg => ?_
  have l_g41 := n_set hg
  have S := S.set5 hg
  clear hg
  simp only [List.set_cons_zero, List.set_cons_succ, List.take_succ_cons, List.take_zero, List.drop_succ_cons, List.drop_zero, List.cons_append, List.nil_append, Nat.reduceAdd] at S
  try simp (disch := (first | omega | assumption | (simp only [List.length_cons, List.length_nil, List.length_append]; first | done | omega) | (simp (disch := assumption) only [go_sem, one_as, Nat.reduceBEq]; done) | fail)) only [i0, i8, go_sem, Hold.p, HoldK.k, HoldL.K, HoldL.body, Nat.reduceBEq, Nat.reduceAdd, reduceIte]
  have e1 : (a0 ++ [IV.ptr q 0 0] :: bs).take i' ++ (a0 ++ [IV.ptr q 0 0] :: bs).drop (i' + 1) = a0 ++ bs := by rw [← ha0]; simp
  have e2' : l1.eraseIdx i' = xs1 ++ ys := by rw [hl1, List.eraseIdx_append_of_length_le (by omega), hx1, Nat.sub_self]; rfl
  rw [e1] at S
  rw [e2']
  have S := by simpa only [List.map_cons, List.map_nil, List.getD_cons_zero, List.getD_cons_succ, List.drop_succ_cons, List.drop_zero, List.cons_append, List.nil_append] using Sp.sel S 9 [3, 4, 0, 1, 2, 5, 6, 7, 8] (by simp only [List.length_cons]; omega) (by decide) (by decide)
  have S := S.a2join
  have S := by simpa only [List.map_cons, List.map_nil, List.getD_cons_zero, List.getD_cons_succ, List.drop_succ_cons, List.drop_zero, List.cons_append, List.nil_append] using Sp.sel S 8 [4, 1, 0, 5, 3, 2, 6, 7] (by simp only [List.length_cons]; omega) (by decide) (by decide)
  exact ⟨r40, a0 ++ bs, fo, v31, ve, S⟩
end
end Go.Proofs.Ytjmmmmdpkfpojaa
