import Derived.Test.YtjmmmmdpkfpojaaL2
import Derived.Test.YtjmmmmdpkfpojaaK3
import Derived.Shelf.SlicesE.Delete
set_option linter.unusedSimpArgs false
set_option linter.unusedVariables false
set_option maxRecDepth 20000
namespace Go.Proofs.Ytjmmmmdpkfpojaa
open Go Go.IW
section
attribute [local go_sem] List.getElem?_cons_zero List.getElem?_cons_succ Option.bind_some List.map_cons List.map_nil Nat.zero_add if_true List.getD_cons_zero List.getD_cons_succ List.contains_cons List.contains_nil Bool.or_true Bool.true_or Bool.or_false Bool.false_or Bool.not_true Bool.not_false true_and and_true rowA_whole mid_get rowO_rows cellO_rows upd_ne Nat.add_assoc Nat.add_zero List.all_cons List.all_nil one_bool one_int one_str one_ptr one_nilptr one_slice one_eslice one_nilslice one_func one_iface one_niliface Bool.and_true Bool.and_self List.length_cons List.length_nil Nat.one_ne_zero Nat.succ_ne_zero if_false List.set_cons_zero List.set_cons_succ lay_nil lay_1 lay_w Option.map_some cells_one rowA_some List.drop_succ_cons List.drop_zero List.take_succ_cons List.take_zero

def msNew (p : Pk) (now : Int) : Ms := ⟨p.src, p.dst, p.proto, p.id, now, [], -1, false, false, pk0⟩
def openS (now : Int) (l : List Ms) (o : Ot) (p : Pk) : List Ms × Ot × Nat :=
  match l.findIdx? (keyS p) with
  | some k => (l, o, k)
  | none => if 16 ≤ l.length then (l.eraseIdx 0 ++ [msNew p now], goneO o (l.headD default) true, l.length - 1) else (l ++ [msNew p now], o, l.length)
def wholePk (m : Ms) : Pk := { m.first with off := 0, mf := false, pay := fillB m.ps (List.replicate m.en.toNat 0) }
def stepS (l : List Ms) (o : Ot) (i : Nat) (p : Pk) : List Ms × Ot :=
  let m := l.getD i default
  if m.ref = true then (l, o) else
    let m' := addS m p
    if wholeS m' = true then (l.eraseIdx i, { o with done := true, pk := wholePk m' }) else (l.set i m', o)
def takeS (now : Int) (l : List Ms) (o : Ot) (p : Pk) : List Ms × Ot :=
  if p.off = 0 ∧ p.mf = false then (l, { o with done := true, pk := p }) else
  if p.pay = [] ∨ (p.mf = true ∧ (p.pay.length : Int).tmod 8 ≠ 0) then (l, { o with code := 5 }) else
    let r := openS now l o p
    stepS r.1 r.2.1 r.2.2 p
structure OkM (N : Nat) (m : Ms) : Prop where
  s : Small N m.ps m.en
  o : m.first.opts.length ≤ 100
theorem addS_shape (m : Ms) (p : Pk) : ∃ (ref has : Bool) (e2 : Int) (ps : Pcs) (f : Pk), (e2 = p.off + p.pay.length ∨ e2 = m.en) ∧ (ps = m.ps ∨ ps = m.ps ++ [(p.off, p.pay)]) ∧ (f = p ∨ f = m.first) ∧ (ref = false → 0 ≤ e2 → ∀ q ∈ ps, pTo q ≤ e2) ∧
    addS m p = if ref = true then { m with ps := [], en := e2, ref := true, has := false, first := f } else { m with ps := ps, en := e2, ref := false, has := has, first := f } := by
  refine ⟨_, _, _, _, _, ?_, ?_, ?_, ?_, rfl⟩
  · split
    · exact .inl rfl
    · exact .inr rfl
  · split
    · exact .inl rfl
    · exact .inr rfl
  · split
    · exact .inl rfl
    · exact .inr rfl
  · intro hr h0 q hq
    rw [Bool.or_eq_false_iff, Bool.or_eq_false_iff] at hr
    have h1 := hr.1.2
    rw [decide_eq_true h0, Bool.true_and, List.any_eq_false] at h1
    have := h1 q hq
    simp only [decide_eq_true_eq] at this
    omega
theorem addS_in {m : Ms} {p : Pk} (h : wholeS (addS m p) = true) : ∀ q ∈ (addS m p).ps, pTo q ≤ (addS m p).en := by
  obtain ⟨ref, has, e2, ps, f, _, _, _, h4, e⟩ := addS_shape m p
  unfold wholeS at h
  simp only [Bool.and_eq_true, Bool.not_eq_true', decide_eq_false_iff_not, decide_eq_true_eq] at h
  rw [e] at h ⊢
  cases ref with
  | true => simp at h
  | false =>
    simp only [Bool.false_eq_true, if_false] at h ⊢
    exact h4 rfl (by omega)
theorem addS_ok {N : Nat} {m : Ms} {p : Pk} (hm : OkM N m) (ho : 0 ≤ p.off ∧ p.off ≤ 65535) (hp : p.pay.length ≤ 65535) (hpo : p.opts.length ≤ 100) : OkM (N + 1) (addS m p) := by
  have h1 := hm.s.n
  have h2 := hm.s.e
  have h3 := hm.o
  obtain ⟨ref, has, e2, ps, f, he, hps, hf, _, e⟩ := addS_shape m p
  have hf' : f.opts.length ≤ 100 := by rcases hf with rfl | rfl <;> omega
  have he' : -1 ≤ e2 ∧ e2 ≤ 200000 := by rcases he with rfl | rfl <;> omega
  rw [e]
  cases ref with
  | true => exact ⟨⟨by simp, by simp, he'⟩, hf'⟩
  | false =>
    refine ⟨⟨?_, ?_, he'⟩, hf'⟩
    · show ps.length ≤ _
      rcases hps with rfl | rfl
      · omega
      · rw [la0, List.length_singleton]; omega
    · intro q hq
      replace hq : q ∈ ps := hq
      rcases hps with rfl | rfl
      · exact hm.s.q q hq
      · rcases List.mem_append.1 hq with hq | hq
        · exact hm.s.q q hq
        · have : q = (p.off, p.pay) := by simpa using hq
          subst this
          exact ⟨ho, hp⟩
theorem made_open {h : IH} {L : List As} {r : List IV} {m : Ms} (S : Sp h (madeR r m :: L)) : ∃ vps vo vp rs, r = msRow m vps vo vp ∧ Sp h (sl false 99 2 vps rs :: all2 pcR rs m.ps :: byt vo m.first.opts :: byt vp m.first.pay :: L) := by
  obtain ⟨⟨vps, vo, vp, rs⟩, S⟩ := S.ex
  obtain ⟨⟨hr, _, _⟩, S⟩ := S.star.fact
  have S := S.star
  have S := S.p1.star
  have S := (S.p1).star
  have S := by simpa only [mc0, mn0, List.getD_cons_zero, List.getD_cons_succ, ds0, dz0, ca0, na0] using Sp.sel S 4 [3, 2, 0, 1] (by simp only [lc0]; omega) (by decide) (by decide)
  exact ⟨vps, vo, vp, rs, hr, S⟩
def WSt (h : IH) (w : Nat) (now : Int) (l : List Ms) (o : Ot) (L : List As) : Prop := ∃ vl rs vo vp ve,
  Sp h (box w (wO now vl o vo vp ve) :: sl false 94 20 vl rs :: all2 madeR rs l :: byt vo o.pk.opts :: byt vp o.pk.pay :: endP ve o.ended :: L)
set_option maxHeartbeats 2000000 in
theorem l06Take_c {h h0 : IH} {L : List As} {w N : Nat} {now : Int} {l : List Ms} {o : Ot} {p : Pk} {po pp : IV} (W : WSt h w now l o (old h0 :: L)) (a : PkAt h0 p po pp) (hN : N ≤ 90000) (hl : l.length ≤ 16) (he : o.ended.length ≤ 100000) (hok : ∀ m ∈ l, OkM N m)
    (ho : 0 ≤ p.off ∧ p.off ≤ 65535) (hp : p.pay.length ≤ 65535) (hpo : p.opts.length ≤ 100) :
    ICalls Try.prog 28 [.ptr w 0 0, .agg (pkRow p po pp)] h fun r h' => WSt h' w now (takeS now l o p).1 (takeS now l o p).2 (old h0 :: L) := by
  refine icalls (.of ok28) (Nat.le_of_ble_eq_true rfl) ?_
  unfold c28 pkRow
  have y1 := a.o.one
  have y2 := a.p.one
  have yl := a.p.lenF
  rw [strRows_len] at yl
  have r8 := ib_rem .i64 (p.pay.length : Int) 8 (by decide)
  refine vc_split 3 (fun e g => ∃ (p3 : Nat), e 0 = .ptr w 0 0 ∧ e 3 = .ptr p3 0 0 ∧ ¬ (p.off = 0 ∧ p.mf = false) ∧ ¬ (p.pay = [] ∨ (p.mf = true ∧ (p.pay.length : Int).tmod 8 ≠ 0)) ∧ WSt g w now l o (old h0 :: box p3 (pkObj p po pp) :: L)) ?_ ?_
  · simp only [CC.split]
    obtain ⟨vl, rs, vo, vp, ve, S⟩ := W
    have x1 := (S.slA 3 rfl).one
    have x2 := (S.slA 4 rfl).one
    have x3 := (S.slA 5 rfl).one
    try simp (disch := (first | omega | assumption | (simp only [lc0, ln0, la0]; first | done | omega) | (simp (disch := assumption) only [go_sem, one_as, Nat.reduceBEq]; done) | fail)) only [go_sem, Hold.p, HoldK.k, HoldL.K, HoldL.body, Nat.reduceBEq, Nat.reduceAdd, reduceIte]
    refine Sp.bxA S (by first | rfl | (rw [cells_one (by assumption)]; rfl)) (by first | rfl | simp (disch := assumption) only [go_sem, cells_one, one_as]) fun p3 g1 S E_g1 l_g1 => ?_
    have q0 := (S.bx 0 rfl).eq
    have q1 := (S.bx 1 rfl).eq
    try simp (disch := (first | omega | assumption | (simp only [lc0, ln0, la0]; first | done | omega) | (simp (disch := assumption) only [go_sem, one_as, Nat.reduceBEq]; done) | fail)) only [q0, q1, go_sem, Hold.p, HoldK.k, HoldL.K, HoldL.body, Nat.reduceBEq, Nat.reduceAdd, reduceIte]
    refine test_of (fun hc => ?_) (fun hc => ?_)
    · have hc' : p.off = 0 ∧ p.mf = false := by simpa using hc
      have ht : takeS now l o p = (l, { o with done := true, pk := p }) := if_pos hc'
      rw [ht]
      have q0 := (S.bx 0 rfl).eq
      have q1 := (S.bx 1 rfl).eq
      try simp (disch := (first | omega | assumption | (simp only [lc0, ln0, la0]; first | done | omega) | (simp (disch := assumption) only [go_sem, one_as, Nat.reduceBEq]; done) | fail)) only [q0, q1, go_sem, Hold.p, HoldK.k, HoldL.K, HoldL.body, Nat.reduceBEq, Nat.reduceAdd, reduceIte]
      refine st1_of (Nat.le_of_ble_eq_true rfl) (by first | rfl | assumption) fun g2 hg => ?_
      have l_g2 := n_set hg
      have S := S.set1 hg
      clear hg
      simp only [sz0, ss0, ts0, tz0, ds0, dz0, ca0, na0, Nat.reduceAdd] at S
      have q0 := (S.bx 0 rfl).eq
      have q1 := (S.bx 1 rfl).eq
      try simp (disch := (first | omega | assumption | (simp only [lc0, ln0, la0]; first | done | omega) | (simp (disch := assumption) only [go_sem, one_as, Nat.reduceBEq]; done) | fail)) only [q0, q1, go_sem, Hold.p, HoldK.k, HoldL.K, HoldL.body, Nat.reduceBEq, Nat.reduceAdd, reduceIte]
      have S := by simpa only [mc0, mn0, List.getD_cons_zero, List.getD_cons_succ, ds0, dz0, ca0, na0] using Sp.sel S 8 [7, 0, 1, 2, 3, 4, 5, 6] (by simp only [lc0]; omega) (by decide) (by decide)
      refine callA_of (copyPacket_c g2 h0 _ S p po pp a (by omega)) ?_
      clear S
      rintro r3 g3 ⟨wo, wp, rfl, S⟩
      unfold pkRow
      have zo := (S.slA 0 rfl).one
      have zp := (S.slA 1 rfl).one
      have q4 := (S.bx 4 rfl).eq
      try simp (disch := (first | omega | assumption | (simp only [lc0, ln0, la0]; first | done | omega) | (simp (disch := assumption) only [go_sem, one_as, Nat.reduceBEq]; done) | fail)) only [q4, go_sem, Hold.p, HoldK.k, HoldL.K, HoldL.body, Nat.reduceBEq, Nat.reduceAdd, reduceIte]
      refine stp_of rfl (Nat.le_of_ble_eq_true rfl) (by first | rfl | simp (disch := assumption) only [go_sem, cells_one, one_as]) fun g4 hg => ?_
      have l_g4 := n_set hg
      have S := S.set4 hg
      clear hg
      simp only [sz0, ss0, ts0, tz0, ds0, dz0, ca0, na0, Nat.reduceAdd] at S
      try simp (disch := (first | omega | assumption | (simp only [lc0, ln0, la0]; first | done | omega) | (simp (disch := assumption) only [go_sem, one_as, Nat.reduceBEq]; done) | fail)) only [go_sem, Hold.p, HoldK.k, HoldL.K, HoldL.body, Nat.reduceBEq, Nat.reduceAdd, reduceIte]
      refine ⟨vl, rs, wo, wp, ve, ?_⟩
      have S := by simpa only [mc0, mn0, List.getD_cons_zero, List.getD_cons_succ, ds0, dz0, ca0, na0] using Sp.sel S 10 [4, 5, 6, 0, 1, 9, 2] (by simp only [lc0]; omega) (by decide) (by decide)
      exact S
    · have hc' : ¬ (p.off = 0 ∧ p.mf = false) := by simpa using hc
      have q0 := (S.bx 0 rfl).eq
      have q1 := (S.bx 1 rfl).eq
      try simp (disch := (first | omega | assumption | (simp only [lc0, ln0, la0]; first | done | omega) | (simp (disch := assumption) only [go_sem, one_as, Nat.reduceBEq]; done) | fail)) only [q0, q1, yl, r8, go_sem, Hold.p, HoldK.k, HoldL.K, HoldL.body, Nat.reduceBEq, Nat.reduceAdd, reduceIte]
      refine test_of (fun hd => ?_) (fun hd => ?_)
      · have hd' : p.pay = [] ∨ (p.mf = true ∧ (p.pay.length : Int).tmod 8 ≠ 0) := by simpa using hd
        have ht : takeS now l o p = (l, { o with code := 5 }) := (if_neg hc').trans (if_pos hd')
        rw [ht]
        have q1 := (S.bx 1 rfl).eq
        try simp (disch := (first | omega | assumption | (simp only [lc0, ln0, la0]; first | done | omega) | (simp (disch := assumption) only [go_sem, one_as, Nat.reduceBEq]; done) | fail)) only [q1, go_sem, Hold.p, HoldK.k, HoldL.K, HoldL.body, Nat.reduceBEq, Nat.reduceAdd, reduceIte]
        refine st1_of (Nat.le_of_ble_eq_true rfl) (by first | rfl | assumption) fun g2 hg => ?_
        have l_g2 := n_set hg
        have S := S.set1 hg
        clear hg
        simp only [sz0, ss0, ts0, tz0, ds0, dz0, ca0, na0, Nat.reduceAdd] at S
        try simp (disch := (first | omega | assumption | (simp only [lc0, ln0, la0]; first | done | omega) | (simp (disch := assumption) only [go_sem, one_as, Nat.reduceBEq]; done) | fail)) only [go_sem, Hold.p, HoldK.k, HoldL.K, HoldL.body, Nat.reduceBEq, Nat.reduceAdd, reduceIte]
        refine ⟨vl, rs, vo, vp, ve, ?_⟩
        have S := by simpa only [mc0, mn0, List.getD_cons_zero, List.getD_cons_succ, ds0, dz0, ca0, na0] using Sp.sel S 8 [1, 2, 3, 4, 5, 6, 7] (by simp only [lc0]; omega) (by decide) (by decide)
        exact S
      · have hd' : ¬ (p.pay = [] ∨ (p.mf = true ∧ (p.pay.length : Int).tmod 8 ≠ 0)) := by simpa using hd
        try simp (disch := (first | omega | assumption | (simp only [lc0, ln0, la0]; first | done | omega) | (simp (disch := assumption) only [go_sem, one_as, Nat.reduceBEq]; done) | fail)) only [go_sem, Hold.p, HoldK.k, HoldL.K, HoldL.body, Nat.reduceBEq, Nat.reduceAdd, reduceIte]
        refine ⟨p3, rfl, hc', hd', vl, rs, vo, vp, ve, ?_⟩
        have S := by simpa only [mc0, mn0, List.getD_cons_zero, List.getD_cons_succ, ds0, dz0, ca0, na0] using Sp.sel S 8 [1, 2, 3, 4, 5, 6, 7, 0] (by simp only [lc0]; omega) (by decide) (by decide)
        exact S
  clear W
  rintro e g ⟨p3, i0, i3, hc1, hc2, W⟩
  have ht : takeS now l o p = stepS (openS now l o p).1 (openS now l o p).2.1 (openS now l o p).2.2 p := (if_neg hc1).trans (if_neg hc2)
  rw [ht]
  simp only [CC.split]
  refine vc_split 2 (fun e g => ∃ (i : Nat), e 0 = .ptr w 0 0 ∧ e 3 = .ptr p3 0 0 ∧ e 4 = .int .i64 (i : Nat) ∧ (openS now l o p).2.2 = i ∧ i < (openS now l o p).1.length ∧ (openS now l o p).1.length ≤ 17 ∧ (∀ m ∈ (openS now l o p).1, OkM N m) ∧ (openS now l o p).2.1.ended.length ≤ 100001 ∧
    WSt g w now (openS now l o p).1 (openS now l o p).2.1 (old h0 :: box p3 (pkObj p po pp) :: L)) ?_ ?_
  · simp only [CC.split]
    obtain ⟨vl, rs, vo, vp, ve, S⟩ := W
    have x1 := (S.slA 3 rfl).one
    have x2 := (S.slA 4 rfl).one
    have q7 := (S.bx 7 rfl).eq
    try simp (disch := (first | omega | assumption | (simp only [lc0, ln0, la0]; first | done | omega) | (simp (disch := assumption) only [go_sem, one_as, Nat.reduceBEq]; done) | fail)) only [q7, i0, i3, go_sem, Hold.p, HoldK.k, HoldL.K, HoldL.body, Nat.reduceBEq, Nat.reduceAdd, reduceIte]
    refine callA_of (l06Find_c S (by omega) p po pp y1 y2) ?_
    clear S
    rintro r2 g2 ⟨rfl, S⟩
    try simp (disch := (first | omega | assumption | (simp only [lc0, ln0, la0]; first | done | omega) | (simp (disch := assumption) only [go_sem, one_as, Nat.reduceBEq]; done) | fail)) only [i0, i3, go_sem, Hold.p, HoldK.k, HoldL.K, HoldL.body, Nat.reduceBEq, Nat.reduceAdd, reduceIte]
    cases hfi : l.findIdx? (keyS p) with
    | some k =>
      have hop : openS now l o p = (l, o, k) := by unfold openS; rw [hfi]
      have hfd : findI (keyS p) l = (k : Int) := by unfold findI; rw [hfi]
      have hk : k < l.length := by
        rw [List.findIdx?_eq_some_iff_getElem] at hfi
        exact hfi.1
      rw [hop, hfd]
      have d1 : decide ((k : Int) < 0) = false := decide_eq_false (by omega)
      try simp (disch := (first | omega | assumption | (simp only [lc0, ln0, la0]; first | done | omega) | (simp (disch := assumption) only [go_sem, one_as, Nat.reduceBEq]; done) | fail)) only [d1, i0, i3, go_sem, Hold.p, HoldK.k, HoldL.K, HoldL.body, Nat.reduceBEq, Nat.reduceAdd, reduceIte]
      exact ⟨k, rfl, rfl, hk, by omega, hok, by omega, vl, rs, vo, vp, ve, S⟩
    | none =>
      have hfd : findI (keyS p) l = -1 := by unfold findI; rw [hfi]
      rw [hfd]
      have d1 : decide ((-1 : Int) < 0) = true := by decide
      have hrl := a2_len S 2 rfl
      have hnew : OkM N (msNew p now) := ⟨⟨by simp [msNew], by simp [msNew], by simp [msNew]⟩, by simp [msNew, pk0]⟩
      refine test_dec (fun hb => ?_) (fun hb => absurd (by decide) hb)
      simp only [Hold.p]
      refine vc_split 1 (fun e g => ∃ (l1 : List Ms) (o1 : Ot), e 0 = .ptr w 0 0 ∧ e 3 = .ptr p3 0 0 ∧ openS now l o p = (l1 ++ [msNew p now], o1, l1.length) ∧ l1.length ≤ 16 ∧ (∀ m ∈ l1, OkM N m) ∧ o1.ended.length ≤ 100001 ∧ WSt g w now l1 o1 (old h0 :: box p3 (pkObj p po pp) :: L)) ?_ ?_
      · simp only [CC.split]
        have q0 := (S.bx 0 rfl).eq
        have s1 := S.slA 1 rfl
        have len_s1 := s1.lenF
        have z1 := s1.one
        try simp (disch := (first | omega | assumption | (simp only [lc0, ln0, la0]; first | done | omega) | (simp (disch := assumption) only [go_sem, one_as, Nat.reduceBEq]; done) | fail)) only [q0, len_s1, z1, i0, i3, hrl, go_sem, Hold.p, HoldK.k, HoldL.K, HoldL.body, Nat.reduceBEq, Nat.reduceAdd, reduceIte]
        refine test_dec (fun hb => ?_) (fun hb => ?_)
        · obtain ⟨m0, hm0⟩ : ∃ m, l[0]? = some m := ⟨_, List.getElem?_eq_getElem (by omega : 0 < l.length)⟩
          have hop : openS now l o p = (l.eraseIdx 0 ++ [msNew p now], goneO o m0 true, l.length - 1) := by
            unfold openS
            rw [hfi]
            simp only
            rw [if_pos (by omega)]
            have : l.headD default = m0 := by
              cases l with
              | nil => simp at hm0
              | cons a b => simpa using hm0
            rw [this]
          obtain ⟨vps, mo, mp, hrow, k1, k2, k3⟩ := made_at S 2 rfl hm0
          have hones := made_rows S 2 rfl
          try simp (disch := (first | omega | assumption | (simp only [lc0, ln0, la0]; first | done | omega) | (simp (disch := assumption) only [go_sem, one_as, Nat.reduceBEq]; done) | fail)) only [i0, i3, go_sem, Hold.p, HoldK.k, HoldL.K, HoldL.body, Nat.reduceBEq, Nat.reduceAdd, reduceIte]
          have S := by simpa only [mc0, mn0, List.getD_cons_zero, List.getD_cons_succ, ds0, dz0, ca0, na0] using Sp.sel S 8 [0, 1, 5, 2, 3, 4, 6, 7] (by simp only [lc0]; omega) (by decide) (by decide)
          refine callA_of (l06Gone_c S (by omega) (by omega) (i := 0) hrow k1 k2 k3 hones true x1 x2) ?_
          clear S
          rintro r4 g4 ⟨vl', ve', S⟩
          try simp (disch := (first | omega | assumption | (simp only [lc0, ln0, la0]; first | done | omega) | (simp (disch := assumption) only [go_sem, one_as, Nat.reduceBEq]; done) | fail)) only [i0, i3, go_sem, Hold.p, HoldK.k, HoldL.K, HoldL.body, Nat.reduceBEq, Nat.reduceAdd, reduceIte]
          refine ⟨l.eraseIdx 0, goneO o m0 true, by rw [hop, List.length_eraseIdx_of_lt (by omega)], ?_, ?_, ?_, ?_⟩
          · rw [List.length_eraseIdx_of_lt (by omega)]; omega
          · exact fun m hm => hok m (List.mem_of_mem_eraseIdx hm)
          · unfold goneO; split
            · simp; omega
            · omega
          · skip
            have S := by simpa only [mc0, mn0, List.getD_cons_zero, List.getD_cons_succ, ds0, dz0, ca0, na0] using Sp.sel S 8 [3, 0, 1, 2, 4, 5, 6, 7] (by simp only [lc0]; omega) (by decide) (by decide)
            have S := a2_erase S hm0
            have hgo : (goneO o m0 true).pk = o.pk := by unfold goneO; split <;> rfl
            refine ⟨vl', rs.eraseIdx 0, vo, vp, ve', ?_⟩
            rw [hgo]
            have S := by simpa only [mc0, mn0, List.getD_cons_zero, List.getD_cons_succ, ds0, dz0, ca0, na0] using Sp.sel S 8 [1, 2, 0, 4, 5, 3, 6, 7] (by simp only [lc0]; omega) (by decide) (by decide)
            exact S
        · have hop : openS now l o p = (l ++ [msNew p now], o, l.length) := by
            unfold openS
            rw [hfi]
            simp only
            rw [if_neg (by omega)]
          try simp (disch := (first | omega | assumption | (simp only [lc0, ln0, la0]; first | done | omega) | (simp (disch := assumption) only [go_sem, one_as, Nat.reduceBEq]; done) | fail)) only [i0, i3, go_sem, Hold.p, HoldK.k, HoldL.K, HoldL.body, Nat.reduceBEq, Nat.reduceAdd, reduceIte]
          exact ⟨l, o, hop, hl, hok, by omega, vl, rs, vo, vp, ve, S⟩
      · clear S
        rintro e g ⟨l1, o1, i0, i3, hop, hl1, hok1, he1, vl, rs, vo, vp, ve, S⟩
        rw [hop]
        have hrl := a2_len S 2 rfl
        have x1 := (S.slA 3 rfl).one
        have x2 := (S.slA 4 rfl).one
        simp only [CC.split]
        have q0 := (S.bx 0 rfl).eq
        have q7 := (S.bx 7 rfl).eq
        have s1 := S.slA 1 rfl
        have len_s1 := s1.lenF
        have z1 := s1.one
        have s5 := S.slA 5 rfl
        have len_s5 := s5.lenF
        have z5 := s5.one
        try simp (disch := (first | omega | assumption | (simp only [lc0, ln0, la0]; first | done | omega) | (simp (disch := assumption) only [go_sem, one_as, Nat.reduceBEq]; done) | fail)) only [q0, q7, len_s1, z1, len_s5, z5, i0, i3, hrl, go_sem, Hold.p, HoldK.k, HoldL.K, HoldL.body, Nat.reduceBEq, Nat.reduceAdd, reduceIte]
        refine Sp.bsl1 S (by first | rfl | (rw [cells_one (by assumption)]; rfl)) (by first | rfl | simp (disch := assumption) only [go_sem, cells_one, one_as]) fun p5 g5 S E_g5 l_g5 => ?_
        try simp only [cells_agg, cells_int, cells_bool, cells_ptr, cells_str] at S
        have q0 := (S.bx 0 rfl).eq
        have q1 := (S.bx 1 rfl).eq
        have s2 := S.slA 2 rfl
        have len_s2 := s2.lenF
        have z2 := s2.one
        try simp (disch := (first | omega | assumption | (simp only [lc0, ln0, la0]; first | done | omega) | (simp (disch := assumption) only [go_sem, one_as, Nat.reduceBEq]; done) | fail)) only [q0, q1, len_s2, z2, i0, i3, go_sem, Hold.p, HoldK.k, HoldL.K, HoldL.body, Nat.reduceBEq, Nat.reduceAdd, reduceIte]
        have S := by simpa only [mc0, mn0, List.getD_cons_zero, List.getD_cons_succ, ds0, dz0, ca0, na0] using Sp.sel S 9 [0, 2, 1, 3, 4, 5, 6, 7, 8] (by simp only [lc0]; omega) (by decide) (by decide)
        refine S.app1 (y := false) (by omega) ?_
        clear S
        intro v6 g6 S z6
        have q1 := (S.bx 1 rfl).eq
        have q7 := (S.bx 7 rfl).eq
        try simp (disch := (first | omega | assumption | (simp only [lc0, ln0, la0]; first | done | omega) | (simp (disch := assumption) only [go_sem, one_as, Nat.reduceBEq]; done) | fail)) only [q1, q7, i0, i3, go_sem, Hold.p, HoldK.k, HoldL.K, HoldL.body, Nat.reduceBEq, Nat.reduceAdd, reduceIte]
        refine st1_of (Nat.le_of_ble_eq_true rfl) (by first | rfl | assumption) fun g7 hg => ?_
        have l_g7 := n_set hg
        have S := S.set1 hg
        clear hg
        simp only [sz0, ss0, ts0, tz0, ds0, dz0, ca0, na0, Nat.reduceAdd] at S
        have q1 := (S.bx 1 rfl).eq
        have s0 := S.slA 0 rfl
        have len_s0 := s0.lenF
        have z0 := s0.one
        try simp (disch := (first | omega | assumption | (simp only [lc0, ln0, la0]; first | done | omega) | (simp (disch := assumption) only [go_sem, one_as, Nat.reduceBEq]; done) | fail)) only [q1, len_s0, z0, i0, i3, go_sem, Hold.p, HoldK.k, HoldL.K, HoldL.body, Nat.reduceBEq, Nat.reduceAdd, reduceIte]
        have w1 : wr .i64 (((rs ++ [msRow (msNew p now) .nilslice .nilslice .nilslice]).length : Int) - 1) = (l1.length : Nat) := by
          rw [la0, List.length_singleton, hrl, wr64 _ (by omega)]; omega
        unfold msRow msNew pk0 at w1
        try simp (disch := (first | omega | assumption | (simp only [lc0, ln0, la0]; first | done | omega) | (simp (disch := assumption) only [go_sem, one_as, Nat.reduceBEq]; done) | fail)) only [w1, i0, i3, go_sem, Hold.p, HoldK.k, HoldL.K, HoldL.body, Nat.reduceBEq, Nat.reduceAdd, reduceIte]
        refine ⟨l1.length, rfl, rfl, by simp, by simp; omega, ?_, he1, v6, rs ++ [msRow (msNew p now) .nilslice .nilslice .nilslice], vo, vp, ve, ?_⟩
        · intro m hm
          rcases List.mem_append.1 hm with hm | hm
          · exact hok1 m hm
          · have : m = msNew p now := by simpa using hm
            rw [this]; exact hnew
        · have S := ((((S.slNil (x := false) (el := 5) (sz := 1)).slNil (x := false) (el := 5) (sz := 1)).a2nil (R := pcR)).slNil (x := false) (el := 99) (sz := 2))
          have S := (made_mk (m := msNew p now) S).a2one
          have S := by simpa only [mc0, mn0, List.getD_cons_zero, List.getD_cons_succ, ds0, dz0, ca0, na0] using Sp.sel S 4 [3, 0, 1, 2] (by simp only [lc0]; omega) (by decide) (by decide)
          have S := S.a2join
          have S := by simpa only [mc0, mn0, List.getD_cons_zero, List.getD_cons_succ, ds0, dz0, ca0, na0] using Sp.sel S 8 [2, 1, 0, 3, 4, 5, 6, 7] (by simp only [lc0]; omega) (by decide) (by decide)
          exact S
  clear W
  rintro e g ⟨i, i0, i3, i4, hri, hil, hlen, hok1, he1, W⟩
  generalize openS now l o p = rr at hri hil hlen hok1 he1 W ⊢
  obtain ⟨l1, o1, i'⟩ := rr
  simp only at hri hil hlen hok1 he1 W ⊢
  subst hri
  clear hok hl he hc1 hc2 ht
  obtain ⟨vl, rs, vo, vp, ve, S⟩ := W
  simp only [CC.split]
  obtain ⟨m, hm⟩ : ∃ m, l1[i']? = some m := ⟨_, List.getElem?_eq_getElem hil⟩
  have hmd : l1.getD i' default = m := by rw [List.getD_eq_getElem?_getD, hm]; rfl
  have hokm := hok1 m (List.mem_of_getElem? hm)
  have hrl := a2_len S 2 rfl
  have hones := made_rows S 2 rfl
  have S := by simpa only [mc0, mn0, List.getD_cons_zero, List.getD_cons_succ, ds0, dz0, ca0, na0] using Sp.sel S 8 [2, 0, 1, 3, 4, 5, 6, 7] (by simp only [lc0]; omega) (by decide) (by decide)
  obtain ⟨a0, r, bs, xs1, ys, hrs, hl1, ha0, hx1, S⟩ := S.a2at hm
  obtain ⟨vps, mo, mp, prs, hr, S⟩ := made_open S
  have hrow : rs[i']? = some (msRow m vps mo mp) := by rw [hrs, ← ha0, hr]; simp
  have k1 := (S.slA 0 rfl).one
  have k2 := (S.slA 2 rfl).one
  have k3 := (S.slA 3 rfl).one
  have z8 := (S.slA 8 rfl).one
  have z9 := (S.slA 9 rfl).one
  have z10 := (S.slA 10 rfl).one
  have s7 := S.slA 7 rfl
  obtain ⟨a1, a2, hia, hal, har⟩ := s7.at hrow .i64
  unfold msRow at har
  have hcl := cellO_row har
  have q6 := (S.bx 6 rfl).eq
  try simp (disch := (first | omega | assumption | (simp only [lc0, ln0, la0]; first | done | omega) | (simp (disch := assumption) only [go_sem, one_as, Nat.reduceBEq]; done) | fail)) only [q6, i0, i3, i4, hia, hcl, go_sem, Hold.p, HoldK.k, HoldL.K, HoldL.body, Nat.reduceBEq, Nat.reduceAdd, reduceIte]
  have hst : stepS l1 o1 i' p = if m.ref = true then (l1, o1) else if wholeS (addS m p) = true then (l1.eraseIdx i', { o1 with done := true, pk := wholePk (addS m p) }) else (l1.set i' (addS m p), o1) := by
    unfold stepS; simp only [hmd]
  rw [hst]
  refine test_of (fun hc => ?_) (fun hc => ?_)
  · skip
    try simp (disch := (first | omega | assumption | (simp only [lc0, ln0, la0]; first | done | omega) | (simp (disch := assumption) only [go_sem, one_as, Nat.reduceBEq]; done) | fail)) only [go_sem, Hold.p, HoldK.k, HoldL.K, HoldL.body, Nat.reduceBEq, Nat.reduceAdd, reduceIte]
    simp only [hc, if_true]
    have S := (made_mk S).a2mid
    rw [← hr, ← hrs, ← hl1] at S
    refine ⟨vl, rs, vo, vp, ve, ?_⟩
    have S := by simpa only [mc0, mn0, List.getD_cons_zero, List.getD_cons_succ, ds0, dz0, ca0, na0] using Sp.sel S 8 [1, 2, 0, 3, 4, 5, 6] (by simp only [lc0]; omega) (by decide) (by decide)
    exact S
  · simp only [hc, Bool.false_eq_true, if_false]
    have q12 := (S.bx 12 rfl).eq
    have q6 := (S.bx 6 rfl).eq
    have q12 := (S.bx 12 rfl).eq
    try simp (disch := (first | omega | assumption | (simp only [lc0, ln0, la0]; first | done | omega) | (simp (disch := assumption) only [go_sem, one_as, Nat.reduceBEq]; done) | fail)) only [q6, q12, i0, i3, i4, hia, har, go_sem, Hold.p, HoldK.k, HoldL.K, HoldL.body, Nat.reduceBEq, Nat.reduceAdd, reduceIte]
    have S := by simpa only [mc0, mn0, List.getD_cons_zero, List.getD_cons_succ, ds0, dz0, ca0, na0] using Sp.sel S 13 [0, 1, 2, 3, 11, 4, 5, 6, 7, 8, 9, 10, 12] (by simp only [lc0]; omega) (by decide) (by decide)
    refine callA_of (l06Add_c S a (by have := hokm.s; exact ⟨by have := this.n; omega, this.q, this.e⟩) ho hp hpo hokm.o) ?_
    clear S
    rintro r5 g5 ⟨r', rfl, S⟩
    obtain ⟨wps, no, np, prs', hr', S⟩ := made_open S
    have c1 := (S.slA 0 rfl).one
    have c2 := (S.slA 2 rfl).one
    have c3 := (S.slA 3 rfl).one
    have hok' := addS_ok hokm ho hp hpo
    have hin' := addS_in (m := m) (p := p)
    generalize addS m p = m' at S hr' hok' hin' ⊢
    have hrok := msRow_ok (m := m') c1 c2 c3
    rw [← hr'] at hrok
    have hne : rs ≠ [] := by rw [hrs]; simp
    have S := by simpa only [mc0, mn0, List.getD_cons_zero, List.getD_cons_succ, ds0, dz0, ca0, na0] using Sp.sel S 13 [8, 0, 1, 2, 3, 4, 5, 6, 7, 9, 10, 11, 12] (by simp only [lc0]; omega) (by decide) (by decide)
    have S0 := S
    clear S
    obtain ⟨lo, hvl, S⟩ := S0.slBox hne
    have io : iadrO (IObj.rows rs 94 20 false) 20 lo 0 rs.length (i' : Int) = some (.ptr lo i' 0) := by rw [iadrO_nat (by omega)]; simp
    subst hvl
    have q0 := (S.bx 0 rfl).eq
    have q8 := (S.bx 8 rfl).eq
    try simp (disch := (first | omega | assumption | (simp only [lc0, ln0, la0]; first | done | omega) | (simp (disch := assumption) only [go_sem, one_as, Nat.reduceBEq]; done) | fail)) only [q0, q8, i0, i3, i4, iadrF_sl, io, go_sem, Hold.p, HoldK.k, HoldL.K, HoldL.body, Nat.reduceBEq, Nat.reduceAdd, reduceIte]
    refine str_of hrow hrok.1 rfl hrok.2 fun g6 hg => ?_
    have S := S.set0 hg
    clear hg
    have hset : rs.set i' r' = a0 ++ r' :: bs := by rw [hrs, ← ha0]; simp
    have hsl : l1.set i' m' = xs1 ++ m' :: ys := by rw [hl1, ← hx1]; simp
    rw [hset] at S
    have hlen2 : rs.length = (a0 ++ r' :: bs).length := by rw [hrs]; simp
    have S := S.boxSl (x := false) (n := rs.length) hlen2.symm (.inr (by simp))
    generalize IV.slice lo 0 rs.length = vn at S
    have hrow2 : (a0 ++ r' :: bs)[i']? = some r' := by rw [← ha0]; simp
    have s0 := S.slA 0 rfl
    obtain ⟨a1, a2, hia, hal, har⟩ := s0.at hrow2 .i64
    rw [hr'] at har
    unfold msRow at har
    have q8 := (S.bx 8 rfl).eq
    try simp (disch := (first | omega | assumption | (simp only [lc0, ln0, la0]; first | done | omega) | (simp (disch := assumption) only [go_sem, one_as, Nat.reduceBEq]; done) | fail)) only [q8, i0, i3, i4, hia, har, go_sem, Hold.p, HoldK.k, HoldL.K, HoldL.body, Nat.reduceBEq, Nat.reduceAdd, reduceIte]
    have S := by simpa only [mc0, mn0, List.getD_cons_zero, List.getD_cons_succ, ds0, dz0, ca0, na0] using Sp.sel S 13 [1, 2, 3, 4, 5, 0, 6, 7, 8, 9, 10, 11, 12] (by simp only [lc0]; omega) (by decide) (by decide)
    refine callA_of (l06Whole_c S ⟨Nat.le_trans hok'.s.n (by omega), hok'.s.q, hok'.s.e⟩ hin' c2 c3) ?_
    clear S
    rintro r7 g7 ⟨v7, rfl, S⟩
    try simp (disch := (first | omega | assumption | (simp only [lc0, ln0, la0]; first | done | omega) | (simp (disch := assumption) only [go_sem, one_as, Nat.reduceBEq]; done) | fail)) only [i0, i3, i4, go_sem, Hold.p, HoldK.k, HoldL.K, HoldL.body, Nat.reduceBEq, Nat.reduceAdd, reduceIte]
    cases hw : wholeS m' with
    | false =>
      try simp (disch := (first | omega | assumption | (simp only [lc0, ln0, la0]; first | done | omega) | (simp (disch := assumption) only [go_sem, one_as, Nat.reduceBEq]; done) | fail)) only [go_sem, Hold.p, HoldK.k, HoldL.K, HoldL.body, Nat.reduceBEq, Nat.reduceAdd, reduceIte]
      try simp only [Bool.false_eq_true, if_false]
      rw [wholeA, if_neg (by simp [hw])] at S
      have S := S.drop
      have S := made_mk S
      have S := by simpa only [mc0, mn0, List.getD_cons_zero, List.getD_cons_succ, ds0, dz0, ca0, na0] using Sp.sel S 10 [0, 3, 4, 1, 2, 5, 6, 7, 8] (by simp only [lc0]; omega) (by decide) (by decide)
      have S := S.a2mid
      rw [← hr', ← hsl] at S
      refine ⟨vn, a0 ++ r' :: bs, vo, vp, ve, ?_⟩
      have S := by simpa only [mc0, mn0, List.getD_cons_zero, List.getD_cons_succ, ds0, dz0, ca0, na0] using Sp.sel S 7 [3, 2, 0, 4, 5, 6, 1] (by simp only [lc0]; omega) (by decide) (by decide)
      exact S
    | true =>
      try simp only [if_true]
      rw [wholeA, if_pos hw] at S
      have z7 := (S.slA 0 rfl).one
      have hones2 : ∀ r ∈ a0 ++ r' :: bs, r.length = 20 ∧ r.all IV.one = true := by
        intro x hx
        rcases List.mem_append.1 hx with hx | hx
        · exact hones x (by rw [hrs]; exact List.mem_append_left _ hx)
        · rcases List.mem_cons.1 hx with rfl | hx
          · exact hrok
          · exact hones x (by rw [hrs]; exact List.mem_append_right _ (List.mem_cons_of_mem _ hx))
      have s6 := S.slA 6 rfl
      obtain ⟨a1, a2, hia, hal, har⟩ := s6.at hrow2 .i64
      have hx : rowA (some (msRow m' wps no np)) 9 11 = some (.agg (pkRow m'.first no np)) := rfl
      rw [hr'] at har
      unfold msRow pkRow at hx
      unfold msRow at har
      have q9 := (S.bx 9 rfl).eq
      try simp (disch := (first | omega | assumption | (simp only [lc0, ln0, la0]; first | done | omega) | (simp (disch := assumption) only [go_sem, one_as, Nat.reduceBEq]; done) | fail)) only [q9, i0, i3, i4, hia, har, hx, go_sem, Hold.p, HoldK.k, HoldL.K, HoldL.body, Nat.reduceBEq, Nat.reduceAdd, reduceIte]
      refine Sp.zero S fun p7 g8 S E_g8 l_g8 => ?_
      have q0 := (S.bx 0 rfl).eq
      try simp (disch := (first | omega | assumption | (simp only [lc0, ln0, la0]; first | done | omega) | (simp (disch := assumption) only [go_sem, one_as, Nat.reduceBEq]; done) | fail)) only [q0, i0, i3, i4, go_sem, Hold.p, HoldK.k, HoldL.K, HoldL.body, Nat.reduceBEq, Nat.reduceAdd, reduceIte]
      refine stw_of rfl rfl (by first | rfl | simp (disch := assumption) only [go_sem, cells_one, one_as]) fun g9 hg => ?_
      have l_g9 := n_set hg
      have S := S.set0 hg
      clear hg
      have q0 := (S.bx 0 rfl).eq
      try simp (disch := (first | omega | assumption | (simp only [lc0, ln0, la0]; first | done | omega) | (simp (disch := assumption) only [go_sem, one_as, Nat.reduceBEq]; done) | fail)) only [q0, i0, i3, i4, go_sem, Hold.p, HoldK.k, HoldL.K, HoldL.body, Nat.reduceBEq, Nat.reduceAdd, reduceIte]
      refine st1_of (Nat.le_of_ble_eq_true rfl) (by first | rfl | assumption) fun g10 hg => ?_
      have l_g10 := n_set hg
      have S := S.set0 hg
      clear hg
      simp only [sz0, ss0, ts0, tz0, ds0, dz0, ca0, na0, Nat.reduceAdd] at S
      have q0 := (S.bx 0 rfl).eq
      try simp (disch := (first | omega | assumption | (simp only [lc0, ln0, la0]; first | done | omega) | (simp (disch := assumption) only [go_sem, one_as, Nat.reduceBEq]; done) | fail)) only [q0, i0, i3, i4, go_sem, Hold.p, HoldK.k, HoldL.K, HoldL.body, Nat.reduceBEq, Nat.reduceAdd, reduceIte]
      refine st1_of (Nat.le_of_ble_eq_true rfl) (by first | rfl | assumption) fun g11 hg => ?_
      have l_g11 := n_set hg
      have S := S.set0 hg
      clear hg
      simp only [sz0, ss0, ts0, tz0, ds0, dz0, ca0, na0, Nat.reduceAdd] at S
      have q0 := (S.bx 0 rfl).eq
      try simp (disch := (first | omega | assumption | (simp only [lc0, ln0, la0]; first | done | omega) | (simp (disch := assumption) only [go_sem, one_as, Nat.reduceBEq]; done) | fail)) only [q0, i0, i3, i4, go_sem, Hold.p, HoldK.k, HoldL.K, HoldL.body, Nat.reduceBEq, Nat.reduceAdd, reduceIte]
      refine st1_of (Nat.le_of_ble_eq_true rfl) (by first | rfl | assumption) fun g12 hg => ?_
      have l_g12 := n_set hg
      have S := S.set0 hg
      clear hg
      simp only [sz0, ss0, ts0, tz0, ds0, dz0, ca0, na0, Nat.reduceAdd] at S
      have q0 := (S.bx 0 rfl).eq
      have q10 := (S.bx 10 rfl).eq
      try simp (disch := (first | omega | assumption | (simp only [lc0, ln0, la0]; first | done | omega) | (simp (disch := assumption) only [go_sem, one_as, Nat.reduceBEq]; done) | fail)) only [q0, q10, i0, i3, i4, go_sem, Hold.p, HoldK.k, HoldL.K, HoldL.body, Nat.reduceBEq, Nat.reduceAdd, reduceIte]
      refine st1_of (Nat.le_of_ble_eq_true rfl) (by first | rfl | assumption) fun g13 hg => ?_
      have l_g13 := n_set hg
      have S := S.set10 hg
      clear hg
      simp only [sz0, ss0, ts0, tz0, ds0, dz0, ca0, na0, Nat.reduceAdd] at S
      have q0 := (S.bx 0 rfl).eq
      have q10 := (S.bx 10 rfl).eq
      try simp (disch := (first | omega | assumption | (simp only [lc0, ln0, la0]; first | done | omega) | (simp (disch := assumption) only [go_sem, one_as, Nat.reduceBEq]; done) | fail)) only [q0, q10, i0, i3, i4, go_sem, Hold.p, HoldK.k, HoldL.K, HoldL.body, Nat.reduceBEq, Nat.reduceAdd, reduceIte]
      refine stp_of rfl (Nat.le_of_ble_eq_true rfl) (by first | rfl | simp (disch := assumption) only [go_sem, cells_one, one_as]) fun g14 hg => ?_
      have l_g14 := n_set hg
      have S := S.set10 hg
      clear hg
      simp only [sz0, ss0, ts0, tz0, ds0, dz0, ca0, na0, Nat.reduceAdd] at S
      try simp (disch := (first | omega | assumption | (simp only [lc0, ln0, la0]; first | done | omega) | (simp (disch := assumption) only [go_sem, one_as, Nat.reduceBEq]; done) | fail)) only [i0, i3, i4, go_sem, Hold.p, HoldK.k, HoldL.K, HoldL.body, Nat.reduceBEq, Nat.reduceAdd, reduceIte]
      have S := by simpa only [mc0, mn0, List.getD_cons_zero, List.getD_cons_succ, ds0, dz0, ca0, na0] using Sp.sel S 15 [10, 7, 13, 1, 8, 9, 6, 4, 14] (by simp only [lc0]; omega) (by decide) (by decide)
      have hgo : goneO { o1 with done := true, pk := wholePk m' } m' false = { o1 with done := true, pk := wholePk m' } := if_neg (by simp)
      refine callA_of (l06Gone_c (o := { o1 with done := true, pk := wholePk m' }) (m := m') (vo := no) (vp := v7) (vps := wps) (mo := no) (mp := np) S (by rw [← hlen2]; omega) (show o1.ended.length ≤ 1000000 by omega) (i := i') (by rw [hrow2, hr']) c1 c2 c3 hones2 false c2 z7) ?_
      rw [hgo]
      clear S
      rintro r8 g15 ⟨vl', ve', S⟩
      try simp (disch := (first | omega | assumption | (simp only [lc0, ln0, la0]; first | done | omega) | (simp (disch := assumption) only [go_sem, one_as, Nat.reduceBEq]; done) | fail)) only [go_sem, Hold.p, HoldK.k, HoldL.K, HoldL.body, Nat.reduceBEq, Nat.reduceAdd, reduceIte]
      have e1 : (a0 ++ r' :: bs).eraseIdx i' = a0 ++ bs := by rw [List.eraseIdx_append_of_length_le (by omega), ha0, Nat.sub_self]; rfl
      have e2 : l1.eraseIdx i' = xs1 ++ ys := by rw [hl1, List.eraseIdx_append_of_length_le (by omega), hx1, Nat.sub_self]; rfl
      rw [e1] at S
      rw [e2]
      have S := by simpa only [mc0, mn0, List.getD_cons_zero, List.getD_cons_succ, ds0, dz0, ca0, na0] using Sp.sel S 9 [4, 5, 0, 1, 7, 3, 2, 6] (by simp only [lc0]; omega) (by decide) (by decide)
      have S := S.a2join
      have S := by simpa only [mc0, mn0, List.getD_cons_zero, List.getD_cons_succ, ds0, dz0, ca0, na0] using Sp.sel S 7 [1, 2, 0, 3, 4, 5, 6] (by simp only [lc0]; omega) (by decide) (by decide)
      exact ⟨vl', a0 ++ bs, no, v7, ve', S⟩
end
end Go.Proofs.Ytjmmmmdpkfpojaa

set_option maxRecDepth 20000
namespace Go.Proofs.Ytjmmmmdpkfpojaa
open Go Go.IW
section
attribute [local go_sem] List.getElem?_cons_zero List.getElem?_cons_succ Option.bind_some List.map_cons List.map_nil Nat.zero_add if_true List.getD_cons_zero List.getD_cons_succ List.contains_cons List.contains_nil Bool.or_true Bool.true_or Bool.or_false Bool.false_or Bool.not_true Bool.not_false true_and and_true rowA_whole mid_get rowO_rows cellO_rows upd_ne Nat.add_assoc Nat.add_zero List.all_cons List.all_nil one_bool one_int one_str one_ptr one_nilptr one_slice one_eslice one_nilslice one_func one_iface one_niliface Bool.and_true Bool.and_self List.length_cons List.length_nil Nat.one_ne_zero Nat.succ_ne_zero if_false List.set_cons_zero List.set_cons_succ lay_nil lay_1 lay_w Option.map_some cells_one rowA_some List.drop_succ_cons List.drop_zero List.take_succ_cons List.take_zero

def passS (now : Int) : List Ms → Ot → List Ms × Ot
  | [], o => ([], o)
  | m :: l, o => if m.born + 30000 ≤ now then passS now l (goneO o m true) else (m :: l, o)
def bytesS (l : List Ms) : Nat := (l.map fun m => totP m.ps).sum
def tellS (l : List Ms) (o : Ot) : Ot := { o with held := l.length, bytes := o.bytes + bytesS l }
theorem goneO_len (o : Ot) (m : Ms) (b : Bool) : (goneO o m b).ended.length ≤ o.ended.length + 1 := by
  unfold goneO; split
  · simp
  · omega
theorem goneO_pk (o : Ot) (m : Ms) (b : Bool) : (goneO o m b).pk = o.pk := by unfold goneO; split <;> rfl
set_option maxHeartbeats 1000000 in
theorem l06Pass_c {h : IH} {L : List As} {w : Nat} {now n : Int} {l : List Ms} {o : Ot} (W : WSt h w now l o L) (hl : l.length ≤ 100) (he : o.ended.length ≤ 1000) (hb : ∀ m ∈ l, 0 ≤ m.born ∧ m.born ≤ 1000000000) (hn : 0 ≤ now ∧ now ≤ 1000000000 ∧ 0 ≤ n ∧ n ≤ 1000000000) :
    ICalls Try.prog 29 [.ptr w 0 0, .int .i64 n] h fun r h' => WSt h' w (now + n) (passS (now + n) l o).1 (passS (now + n) l o).2 L := by
  refine icalls (.of ok29) (Nat.le_of_ble_eq_true rfl) ?_
  unfold c29
  obtain ⟨vl, rs, vo, vp, ve, S⟩ := W
  have w1 : wr .i64 (now + n) = now + n := wr64 _ (by omega)
  have q0 := (S.bx 0 rfl).eq
  try simp (disch := (first | omega | assumption | (simp only [lc0, ln0, la0]; first | done | omega) | (simp (disch := assumption) only [go_sem, one_as, Nat.reduceBEq]; done) | fail)) only [q0, w1, go_sem, Hold.p, HoldK.k, HoldL.K, HoldL.body, Nat.reduceBEq, Nat.reduceAdd, reduceIte]
  refine st1_of (Nat.le_of_ble_eq_true rfl) (by first | rfl | assumption) fun g1 hg => ?_
  have l_g1 := n_set hg
  have S := S.set0 hg
  clear hg
  simp only [sz0, ss0, ts0, tz0, ds0, dz0, ca0, na0, Nat.reduceAdd] at S
  try simp (disch := (first | omega | assumption | (simp only [lc0, ln0, la0]; first | done | omega) | (simp (disch := assumption) only [go_sem, one_as, Nat.reduceBEq]; done) | fail)) only [go_sem, Hold.p, HoldK.k, HoldL.K, HoldL.body, Nat.reduceBEq, Nat.reduceAdd, reduceIte]
  refine loop_at (fun k e g => ∃ (l1 : List Ms) (o1 : Ot), k = l1.length ∧ l1.length ≤ 100 ∧ o1.ended.length + l1.length ≤ 2000 ∧ (∀ m ∈ l1, 0 ≤ m.born ∧ m.born ≤ 1000000000) ∧ passS (now + n) l o = passS (now + n) l1 o1 ∧ e 0 = .ptr w 0 0 ∧ WSt g w (now + n) l1 o1 L) l.length ?_ ?_
  · refine ⟨l, o, rfl, hl, by omega, hb, rfl, ?_⟩
    try simp (disch := (first | omega | assumption | (simp only [lc0, ln0, la0]; first | done | omega) | (simp (disch := assumption) only [go_sem, one_as, Nat.reduceBEq]; done) | fail)) only [go_sem, Hold.p, HoldK.k, HoldL.K, HoldL.body, Nat.reduceBEq, Nat.reduceAdd, reduceIte]
    exact ⟨vl, rs, vo, vp, ve, S⟩
  · clear S
    rintro k e g ⟨l1, o1, rfl, hl1, he1, hb1, hp, i0, vl, rs, vo, vp, ve, S⟩
    have hrl := a2_len S 2 rfl
    have x1 := (S.slA 3 rfl).one
    have x2 := (S.slA 4 rfl).one
    cases l1 with
    | nil =>
      have hz : rs.length = 0 := hrl
      have hd0 : decide ((0 : Int) < ((0 : Nat) : Int)) = false := rfl
      have q0 := (S.bx 0 rfl).eq
      have s1 := S.slA 1 rfl
      have len_s1 := s1.lenF
      have z1 := s1.one
      try simp (disch := (first | omega | assumption | (simp only [lc0, ln0, la0]; first | done | omega) | (simp (disch := assumption) only [go_sem, one_as, Nat.reduceBEq]; done) | fail)) only [q0, len_s1, z1, i0, hz, hd0, go_sem, Hold.p, HoldK.k, HoldL.K, HoldL.body, Nat.reduceBEq, Nat.reduceAdd, reduceIte]
      rw [hp]
      exact ⟨vl, rs, vo, vp, ve, S⟩
    | cons m l2 =>
      have hm0 : (m :: l2)[0]? = some m := rfl
      obtain ⟨vps, mo, mp, hrow, k1, k2, k3⟩ := made_at S 2 rfl hm0
      have hones := made_rows S 2 rfl
      have hbm := hb1 m List.mem_cons_self
      have s1 := S.slA 1 rfl
      obtain ⟨a1, a2, hia, hal, har⟩ := s1.at hrow .i64
      unfold msRow at har
      have hcl := cellO_row har
      have hpos : decide ((rs.length : Int) > 0) = true := decide_eq_true (by rw [hrl, lc0]; omega)
      have hpos' : decide ((0 : Int) < (rs.length : Int)) = true := hpos
      have w2 : wr .i64 (m.born + 30000) = m.born + 30000 := wr64 _ (by omega)
      have hia' : iadrF g 20 vl (.int .i64 0) = some (.ptr a1 a2 0) := hia
      have q0 := (S.bx 0 rfl).eq
      have s1 := S.slA 1 rfl
      have len_s1 := s1.lenF
      have z1 := s1.one
      try simp (disch := (first | omega | assumption | (simp only [lc0, ln0, la0]; first | done | omega) | (simp (disch := assumption) only [go_sem, one_as, Nat.reduceBEq]; done) | fail)) only [q0, len_s1, z1, i0, hpos', hia', hcl, w2, go_sem, Hold.p, HoldK.k, HoldL.K, HoldL.body, Nat.reduceBEq, Nat.reduceAdd, reduceIte]
      refine test_dec (fun hc => ?_) (fun hc => ?_)
      · skip
        try simp (disch := (first | omega | assumption | (simp only [lc0, ln0, la0]; first | done | omega) | (simp (disch := assumption) only [go_sem, one_as, Nat.reduceBEq]; done) | fail)) only [i0, go_sem, Hold.p, HoldK.k, HoldL.K, HoldL.body, Nat.reduceBEq, Nat.reduceAdd, reduceIte]
        rw [lc0] at hrl
        have S := by simpa only [mc0, mn0, List.getD_cons_zero, List.getD_cons_succ, ds0, dz0, ca0, na0] using Sp.sel S 6 [0, 1, 5, 2, 3, 4] (by simp only [lc0]; omega) (by decide) (by decide)
        refine callA_of (l06Gone_c S (by simp at hl1; omega) (by simp at he1; omega) (i := 0) hrow k1 k2 k3 hones true x1 x2) ?_
        clear S
        rintro r4 g4 ⟨vl', ve', S⟩
        try simp (disch := (first | omega | assumption | (simp only [lc0, ln0, la0]; first | done | omega) | (simp (disch := assumption) only [go_sem, one_as, Nat.reduceBEq]; done) | fail)) only [i0, go_sem, Hold.p, HoldK.k, HoldL.K, HoldL.body, Nat.reduceBEq, Nat.reduceAdd, reduceIte]
        refine ⟨_, by simp, l2, goneO o1 m true, rfl, by simp at hl1; omega, ?_, fun x hx => hb1 x (List.mem_cons_of_mem _ hx), by rw [hp]; exact if_pos hc, ?_⟩
        · have := goneO_len o1 m true
          simp at he1; omega
        · refine ⟨vl', rs.eraseIdx 0, vo, vp, ve', ?_⟩
          rw [goneO_pk]
          have S := by simpa only [mc0, mn0, List.getD_cons_zero, List.getD_cons_succ, ds0, dz0, ca0, na0] using Sp.sel S 6 [3, 0, 1, 2, 4, 5] (by simp only [lc0]; omega) (by decide) (by decide)
          have S := a2_erase S hm0
          have S := by simpa only [mc0, mn0, List.getD_cons_zero, List.getD_cons_succ, ds0, dz0, ca0, na0] using Sp.sel S 6 [1, 2, 0, 4, 5, 3] (by simp only [lc0]; omega) (by decide) (by decide)
          exact S
      · skip
        try simp (disch := (first | omega | assumption | (simp only [lc0, ln0, la0]; first | done | omega) | (simp (disch := assumption) only [go_sem, one_as, Nat.reduceBEq]; done) | fail)) only [go_sem, Hold.p, HoldK.k, HoldL.K, HoldL.body, Nat.reduceBEq, Nat.reduceAdd, reduceIte]
        rw [hp, passS, if_neg hc]
        exact ⟨vl, rs, vo, vp, ve, S⟩
theorem made_pcs {h : IH} {L : List As} {rs : List (List IV)} {l : List Ms} (S : Sp h L) (k : Nat) (hk : L[k]? = some (all2 madeR rs l)) {i : Nat} {m : Ms} (hi : l[i]? = some m) :
    ∃ vps vo vp prs, rs[i]? = some (msRow m vps vo vp) ∧ vps.one = true ∧ vo.one = true ∧ vp.one = true ∧ SlR h 2 vps prs ∧ prs.length = m.ps.length ∧ ∀ (j : Nat) (q : Int × List UInt8), m.ps[j]? = some q → ∃ vd, prs[j]? = some [.int .i64 q.1, vd] ∧ SlR h 1 vd (strRows q.2) := by
  obtain ⟨f, hf⟩ := S.part k hk
  obtain ⟨r, f', h1, ⟨vps, vo, vp, rs'⟩, f1, f2, _, ⟨_, rfl, h4, h5⟩, g1, g2, _, h6, g3, g4, _, h7, _⟩ := all2_at hf hi
  have hs : SlR h 2 vps rs' := by
    rcases h6 with ⟨h8, _, h9 | h9⟩ | ⟨l, _, h9, _, h10, h11⟩
    · simp only at h8 h9; rw [h8, h9]; exact SlR.nil _ _
    · simp only at h8 h9; rw [h8, h9]; exact SlR.empty _ _ _
    · simp only at h9 h11; rw [h9]; exact SlR.whole h11 rfl h10
  refine ⟨vps, vo, vp, rs', h1, hs.one, h4, h5, hs, all2_len h7, fun j q hq => ?_⟩
  obtain ⟨r, f', h1, vd, f1, f2, _, ⟨_, rfl⟩, h3⟩ := all2_at h7 hq
  refine ⟨vd, h1, ?_⟩
  rcases h3 with ⟨h4, _, rfl | rfl⟩ | ⟨l, h0, rfl, _, h5, h6⟩
  · rw [h4]; exact SlR.nil _ _
  · rw [h4]; exact SlR.empty _ _ _
  · exact SlR.whole h6 rfl h5
abbrev outRow (o : Ot) (vo vp ve : IV) : List IV := [.int .i64 o.code, .bool o.done, .int .i64 o.pk.tos, .int .i64 o.pk.id, .bool o.pk.df, .bool o.pk.mf, .int .i64 o.pk.off, .int .i64 o.pk.ttl, .int .i64 o.pk.proto, .int .i64 o.pk.src, .int .i64 o.pk.dst, vo, vp, ve, .int .i64 o.held, .int .i64 o.bytes]
theorem bytesS_next {l : List Ms} {k : Nat} {m : Ms} (hm : l[k]? = some m) : bytesS (l.take (k + 1)) = bytesS (l.take k) + totP m.ps := by
  rw [List.take_add_one, hm]; simp [bytesS]
theorem bytesS_le {l : List Ms} {M : Nat} (h : ∀ m ∈ l, totP m.ps ≤ M) : bytesS l ≤ l.length * M := by
  induction l with
  | nil => simp [bytesS]
  | cons q ps ih =>
    have h1 := h q List.mem_cons_self
    have h2 := ih fun r hr => h r (List.mem_cons_of_mem _ hr)
    have h3 : bytesS (q :: ps) = totP q.ps + bytesS ps := by simp [bytesS]
    rw [h3, lc0, Nat.add_mul, Nat.one_mul]
    omega
set_option maxHeartbeats 1000000 in
theorem l06Tell_c {h : IH} {L : List As} {w N : Nat} {now : Int} {l : List Ms} {o : Ot} (W : WSt h w now l o L) (hl : l.length ≤ 100) (hob : o.bytes = 0) (hok : ∀ m ∈ l, OkM N m) (hN : N ≤ 90001) :
    ICalls Try.prog 30 [.ptr w 0 0] h fun r h' => ∃ vl rs vo vp ve, r = .agg (outRow (tellS l o) vo vp ve) ∧ Sp h' (box w (wO now vl (tellS l o) vo vp ve) :: sl false 94 20 vl rs :: all2 madeR rs l :: byt vo o.pk.opts :: byt vp o.pk.pay :: endP ve o.ended :: L) := by
  refine icalls (.of ok30) (Nat.le_of_ble_eq_true rfl) ?_
  unfold c30
  obtain ⟨vl, rs, vo, vp, ve, S⟩ := W
  have hrl := a2_len S 2 rfl
  have x1 := (S.slA 3 rfl).one
  have x2 := (S.slA 4 rfl).one
  have x3 := (S.slA 5 rfl).one
  have htm : ∀ m ∈ l, ∀ k, totP (m.ps.take k) ≤ 90001 * 65535 := fun m hm k => Nat.le_trans (totP_le fun q hq => ((hok m hm).s.q q (List.mem_of_mem_take hq)).2) (Nat.mul_le_mul_right _ (by have := (hok m hm).s.n; rw [List.length_take]; omega))
  have htm' : ∀ m ∈ l, totP m.ps ≤ 90001 * 65535 := fun m hm => by have := htm m hm m.ps.length; rwa [List.take_length] at this
  have hbl : ∀ k, bytesS (l.take k) ≤ 100 * (90001 * 65535) := fun k => Nat.le_trans (bytesS_le fun m hm => htm' m (List.mem_of_mem_take hm)) (Nat.mul_le_mul_right _ (by rw [List.length_take]; omega))
  try simp (disch := (first | omega | assumption | (simp only [lc0, ln0, la0]; first | done | omega) | (simp (disch := assumption) only [go_sem, one_as, Nat.reduceBEq]; done) | fail)) only [go_sem, Hold.p, HoldK.k, HoldL.K, HoldL.body, Nat.reduceBEq, Nat.reduceAdd, reduceIte]
  refine Sp.zero S fun p2 g1 S E_g1 l_g1 => ?_
  have q1 := (S.bx 1 rfl).eq
  have s2 := S.slA 2 rfl
  have len_s2 := s2.lenF
  have z2 := s2.one
  try simp (disch := (first | omega | assumption | (simp only [lc0, ln0, la0]; first | done | omega) | (simp (disch := assumption) only [go_sem, one_as, Nat.reduceBEq]; done) | fail)) only [q1, len_s2, z2, hrl, go_sem, Hold.p, HoldK.k, HoldL.K, HoldL.body, Nat.reduceBEq, Nat.reduceAdd, reduceIte]
  refine st1_of (Nat.le_of_ble_eq_true rfl) (by first | rfl | assumption) fun g2 hg => ?_
  have l_g2 := n_set hg
  have S := S.set1 hg
  clear hg
  simp only [sz0, ss0, ts0, tz0, ds0, dz0, ca0, na0, Nat.reduceAdd] at S
  try simp (disch := (first | omega | assumption | (simp only [lc0, ln0, la0]; first | done | omega) | (simp (disch := assumption) only [go_sem, one_as, Nat.reduceBEq]; done) | fail)) only [go_sem, Hold.p, HoldK.k, HoldL.K, HoldL.body, Nat.reduceBEq, Nat.reduceAdd, reduceIte]
  refine loop_at (fun n e g => ∃ (k : Nat), n = l.length - k ∧ k ≤ l.length ∧ e 0 = .ptr w 0 0 ∧ e 2 = .ptr p2 0 0 ∧ e 3 = .int .i64 (k : Nat) ∧
    Sp g (box p2 (.rows [outRow ot0 .nilslice .nilslice .nilslice] 52 16 false) :: box w (wO now vl { o with held := l.length, bytes := (bytesS (l.take k) : Nat) } vo vp ve) :: sl false 94 20 vl rs :: all2 madeR rs l :: byt vo o.pk.opts :: byt vp o.pk.pay :: endP ve o.ended :: L)) l.length ?_ ?_
  · refine ⟨0, by omega, by omega, ?_⟩
    try simp (disch := (first | omega | assumption | (simp only [lc0, ln0, la0]; first | done | omega) | (simp (disch := assumption) only [go_sem, one_as, Nat.reduceBEq]; done) | fail)) only [go_sem, Hold.p, HoldK.k, HoldL.K, HoldL.body, Nat.reduceBEq, Nat.reduceAdd, reduceIte]
    refine ⟨rfl, ?_⟩
    rw [hob] at S
    exact S
  · clear S
    rintro n e g ⟨k, rfl, hk, i0, i2, i3, S⟩
    have q1 := (S.bx 1 rfl).eq
    have s2 := S.slA 2 rfl
    have len_s2 := s2.lenF
    have z2 := s2.one
    try simp (disch := (first | omega | assumption | (simp only [lc0, ln0, la0]; first | done | omega) | (simp (disch := assumption) only [go_sem, one_as, Nat.reduceBEq]; done) | fail)) only [q1, len_s2, z2, i0, i2, i3, hrl, go_sem, Hold.p, HoldK.k, HoldL.K, HoldL.body, Nat.reduceBEq, Nat.reduceAdd, reduceIte]
    refine test_dec (fun hb => ?_) (fun hb => ?_)
    · obtain ⟨m, hm⟩ : ∃ m, l[k]? = some m := ⟨_, List.getElem?_eq_getElem (by omega : k < l.length)⟩
      have hokm := hok m (List.mem_of_getElem? hm)
      have hmn := hokm.s.n
      have w1 : wr .i64 ((k : Int) + 1) = ((k + 1 : Nat) : Int) := by rw [wr64 _ (by omega)]; rfl
      try simp (disch := (first | omega | assumption | (simp only [lc0, ln0, la0]; first | done | omega) | (simp (disch := assumption) only [go_sem, one_as, Nat.reduceBEq]; done) | fail)) only [i0, i2, i3, go_sem, Hold.p, HoldK.k, HoldL.K, HoldL.body, Nat.reduceBEq, Nat.reduceAdd, reduceIte]
      refine loop_at (fun n e g => ∃ (j : Nat), n = m.ps.length - j ∧ j ≤ m.ps.length ∧ e 0 = .ptr w 0 0 ∧ e 2 = .ptr p2 0 0 ∧ e 3 = .int .i64 (k : Nat) ∧ e 4 = .int .i64 (j : Nat) ∧
        Sp g (box p2 (.rows [outRow ot0 .nilslice .nilslice .nilslice] 52 16 false) :: box w (wO now vl { o with held := l.length, bytes := (bytesS (l.take k) + totP (m.ps.take j) : Nat) } vo vp ve) :: sl false 94 20 vl rs :: all2 madeR rs l :: byt vo o.pk.opts :: byt vp o.pk.pay :: endP ve o.ended :: L)) m.ps.length ?_ ?_
      · refine ⟨0, by omega, by omega, ?_⟩
        try simp (disch := (first | omega | assumption | (simp only [lc0, ln0, la0]; first | done | omega) | (simp (disch := assumption) only [go_sem, one_as, Nat.reduceBEq]; done) | fail)) only [i0, i2, i3, go_sem, Hold.p, HoldK.k, HoldL.K, HoldL.body, Nat.reduceBEq, Nat.reduceAdd, reduceIte]
        exact ⟨rfl, S⟩
      · clear S i0 i2 i3
        rintro n e g ⟨j, rfl, hj, i0, i2, i3, i4, S⟩
        obtain ⟨vps, mo, mp, prs, hrow, k1, k2, k3, hsp, hpl, hpc⟩ := made_pcs S 3 rfl hm
        have s2 := S.slA 2 rfl
        obtain ⟨a1, a2, hia, hal, har⟩ := s2.at hrow .i64
        unfold msRow at har
        have hcl := cellO_row har
        have hpl2 := hsp.lenF
        rw [hpl] at hpl2
        have q1 := (S.bx 1 rfl).eq
        try simp (disch := (first | omega | assumption | (simp only [lc0, ln0, la0]; first | done | omega) | (simp (disch := assumption) only [go_sem, one_as, Nat.reduceBEq]; done) | fail)) only [q1, i0, i2, i3, i4, hia, hcl, hpl2, go_sem, Hold.p, HoldK.k, HoldL.K, HoldL.body, Nat.reduceBEq, Nat.reduceAdd, reduceIte]
        refine test_dec (fun hb2 => ?_) (fun hb2 => ?_)
        · obtain ⟨q, hq⟩ : ∃ q, m.ps[j]? = some q := ⟨_, List.getElem?_eq_getElem (by omega : j < m.ps.length)⟩
          have hqs := hokm.s.q q (List.mem_of_getElem? hq)
          obtain ⟨vd, hpr, hvd⟩ := hpc j q hq
          obtain ⟨b1, b2, hib, hbl2, hbr⟩ := hsp.at hpr .i64
          have hcb := cellO_row hbr
          have d2 := hvd.lenF
          rw [strRows_len] at d2
          have hnx := totP_next hq
          have t1 := htm m (List.mem_of_getElem? hm) j
          have t2 := hbl k
          have w2 : wr .i64 (((bytesS (l.take k) + totP (m.ps.take j) : Nat) : Int) + (q.2.length : Int)) = ((bytesS (l.take k) + totP (m.ps.take (j + 1)) : Nat) : Int) := by rw [wr64 _ (by omega), hnx]; omega
          have w3 : wr .i64 ((j : Int) + 1) = ((j + 1 : Nat) : Int) := by rw [wr64 _ (by omega)]; rfl
          have q1 := (S.bx 1 rfl).eq
          try simp (disch := (first | omega | assumption | (simp only [lc0, ln0, la0]; first | done | omega) | (simp (disch := assumption) only [go_sem, one_as, Nat.reduceBEq]; done) | fail)) only [q1, i0, i2, i3, i4, hia, hcl, hib, hcb, d2, w2, go_sem, Hold.p, HoldK.k, HoldL.K, HoldL.body, Nat.reduceBEq, Nat.reduceAdd, reduceIte]
          refine st1_of (Nat.le_of_ble_eq_true rfl) (by first | rfl | assumption) fun g9 hg => ?_
          have l_g9 := n_set hg
          have S := S.set1 hg
          clear hg
          simp only [sz0, ss0, ts0, tz0, ds0, dz0, ca0, na0, Nat.reduceAdd] at S
          try simp (disch := (first | omega | assumption | (simp only [lc0, ln0, la0]; first | done | omega) | (simp (disch := assumption) only [go_sem, one_as, Nat.reduceBEq]; done) | fail)) only [i0, i2, i3, i4, w3, go_sem, Hold.p, HoldK.k, HoldL.K, HoldL.body, Nat.reduceBEq, Nat.reduceAdd, reduceIte]
          exact ⟨_, by omega, j + 1, rfl, by omega, rfl, S⟩
        · have : j = m.ps.length := by omega
          subst this
          have hnx := bytesS_next hm
          rw [List.take_length, ← hnx] at S
          try simp (disch := (first | omega | assumption | (simp only [lc0, ln0, la0]; first | done | omega) | (simp (disch := assumption) only [go_sem, one_as, Nat.reduceBEq]; done) | fail)) only [i0, i2, i3, i4, w1, go_sem, Hold.p, HoldK.k, HoldL.K, HoldL.body, Nat.reduceBEq, Nat.reduceAdd, reduceIte]
          exact ⟨_, by omega, k + 1, rfl, by omega, rfl, S⟩
    · have : k = l.length := by omega
      subst this
      rw [List.take_length] at S
      have q0 := (S.bx 0 rfl).eq
      have q1 := (S.bx 1 rfl).eq
      try simp (disch := (first | omega | assumption | (simp only [lc0, ln0, la0]; first | done | omega) | (simp (disch := assumption) only [go_sem, one_as, Nat.reduceBEq]; done) | fail)) only [q0, q1, i0, i2, i3, rowA_some, ds0, dz0, ts0, tz0, go_sem, Hold.p, HoldK.k, HoldL.K, HoldL.body, Nat.reduceBEq, Nat.reduceAdd, reduceIte]
      refine stw_of rfl rfl (by first | rfl | simp (disch := assumption) only [go_sem, cells_one, one_as]) fun g10 hg => ?_
      have l_g10 := n_set hg
      have S := S.set0 hg
      clear hg
      have q0 := (S.bx 0 rfl).eq
      try simp (disch := (first | omega | assumption | (simp only [lc0, ln0, la0]; first | done | omega) | (simp (disch := assumption) only [go_sem, one_as, Nat.reduceBEq]; done) | fail)) only [q0, i0, i2, i3, go_sem, Hold.p, HoldK.k, HoldL.K, HoldL.body, Nat.reduceBEq, Nat.reduceAdd, reduceIte]
      have ht : tellS l o = { o with held := l.length, bytes := (bytesS l : Nat) } := by unfold tellS; rw [hob, Int.zero_add]
      rw [ht]
      exact ⟨vl, rs, vo, vp, ve, rfl, S.drop⟩
end
end Go.Proofs.Ytjmmmmdpkfpojaa

set_option maxRecDepth 20000
namespace Go.Proofs.Ytjmmmmdpkfpojaa
open Go Go.IW

def pkD (p : Pk) : Dat := .pair (.int p.tos) (.pair (.int p.id) (.pair (.bool p.df) (.pair (.bool p.mf) (.pair (.int p.off) (.pair (.int p.ttl) (.pair (.int p.proto) (.pair (.int p.src) (.pair (.int p.dst) (.pair (bytesD p.opts) (.pair (bytesD p.pay) (.unit)))))))))))
def I64 (n : Int) : Prop := -9223372036854775808 ≤ n ∧ n ≤ 9223372036854775807
structure PkI (p : Pk) : Prop where
  off : I64 p.off
  id : I64 p.id
structure Op where
  kind : Int
  wait : Int
  pk : Pk
  deriving Inhabited
def opRow (o : Op) (vo vp : IV) : List IV := .int .i64 o.kind :: .int .i64 o.wait :: pkRow o.pk vo vp
structure OpsAt (h : IH) (v : IV) (ops : List Op) : Prop where
  sl : ∃ rs, SlR h 13 v rs ∧ rs.length = ops.length ∧ ∀ (i : Nat) (o : Op), ops[i]? = some o → ∃ vo vp, rs[i]? = some (opRow o vo vp) ∧ PkAt h o.pk vo vp
  i : ∀ o ∈ ops, I64 o.wait ∧ PkI o.pk
theorem OpsAt.ext {h h' : IH} {v : IV} {ops : List Op} (a : OpsAt h v ops) (E : Ext h h') : OpsAt h' v ops := by
  obtain ⟨⟨rs, h1, h2, h3⟩, h4⟩ := a
  exact ⟨⟨rs, h1.ext E, h2, fun i o ho => by obtain ⟨vo, vp, e, p⟩ := h3 i o ho; exact ⟨vo, vp, e, p.ext E⟩⟩, h4⟩
def enD (e : En) : Dat := .pair (.int e.src) (.pair (.int e.dst) (.pair (.int e.proto) (.pair (.int e.id) (.pair (.bool e.first) .unit))))
def outD (o : Ot) : Dat := .pair (.int o.code) (.pair (.bool o.done) (.pair (pkD o.pk) (.pair (.list (o.ended.map enD)) (.pair (.int o.held) (.pair (.int o.bytes) .unit)))))
theorem byt_dat {h : IH} {L : List As} {v : IV} {bs : Txt} (S : Sp h (byt v bs :: L)) : Sp h (dat (.slice 5 (.int .u8)) [v] (bytesD bs) :: L) :=
  Sp.flatD (t := .int .u8) (row := fun b : UInt8 => [IV.int .u8 (b.toNat : Int)]) (df := fun b => .int (b.toNat : Int)) (fun b => ⟨_, rfl, rfl, rfl⟩) S
theorem end_dat {h : IH} {L : List As} {v : IV} {es : List En} (S : Sp h (endP v es :: L)) : Sp h (dat (.slice 113 t_ReasmEnd) [v] (.list (es.map enD)) :: L) :=
  Sp.flatD (t := t_ReasmEnd) (row := enRow) (df := enD) (fun e => ⟨[_], _, _, _, [], [], rfl, rfl, rfl, ⟨_, rfl, rfl, rfl⟩, [_], _, _, _, [], [], rfl, rfl, rfl, ⟨_, rfl, rfl, rfl⟩, [_], _, _, _, [], [], rfl, rfl, rfl, ⟨_, rfl, rfl, rfl⟩, [_], _, _, _, [], [], rfl, rfl, rfl, ⟨_, rfl, rfl, rfl⟩, [_], _, _, _, [], [], rfl, rfl, rfl, ⟨_, rfl, rfl, rfl⟩, rfl, rfl, rfl⟩) S
theorem pk_dat {h : IH} {L : List As} {p : Pk} {vo vp : IV} (S : Sp h (byt vo p.opts :: byt vp p.pay :: L)) : Sp h (dat t_Packet (pkRow p vo vp) (pkD p) :: L) := by
  have S := (byt_dat S).p1
  have S := (byt_dat S).dunit.p1.dcat
  exact S.p1.dcat.icat.icat.icat.icat.icat.bcat.bcat.icat.icat
theorem out_dat {h : IH} {L : List As} {o : Ot} {vo vp ve : IV} (S : Sp h (byt vo o.pk.opts :: byt vp o.pk.pay :: endP ve o.ended :: L)) : Sp h (dat t_ReasmOut (outRow o vo vp ve) (outD o) :: L) := by
  have S := (pk_dat S).p1
  have S := (end_dat S)
  have S := (((S.dunit).icat (k := .i64) (n := o.bytes)).icat (k := .i64) (n := o.held)).p1.dcat
  exact S.p1.dcat.bcat.icat
end Go.Proofs.Ytjmmmmdpkfpojaa

set_option maxRecDepth 20000
namespace Go.Proofs.Ytjmmmmdpkfpojaa
open Go Go.IW
section
attribute [local go_sem] List.getElem?_cons_zero List.getElem?_cons_succ Option.bind_some List.map_cons List.map_nil Nat.zero_add if_true List.getD_cons_zero List.getD_cons_succ List.contains_cons List.contains_nil Bool.or_true Bool.true_or Bool.or_false Bool.false_or Bool.not_true Bool.not_false true_and and_true rowA_whole mid_get rowO_rows cellO_rows upd_ne Nat.add_assoc Nat.add_zero List.all_cons List.all_nil one_bool one_int one_str one_ptr one_nilptr one_slice one_eslice one_nilslice one_func one_iface one_niliface Bool.and_true Bool.and_self List.length_cons List.length_nil Nat.one_ne_zero Nat.succ_ne_zero if_false List.set_cons_zero List.set_cons_succ lay_nil lay_1 lay_w Option.map_some cells_one rowA_some List.drop_succ_cons List.drop_zero List.take_succ_cons List.take_zero

def opS (now : Int) (l : List Ms) (op : Op) : Int × List Ms × Ot :=
  if op.kind = 1 ∧ codeB op.pk = 0 then (now, (takeS now l ot0 op.pk).1, tellS (takeS now l ot0 op.pk).1 (takeS now l ot0 op.pk).2)
  else if op.kind = 2 ∧ 0 ≤ op.wait ∧ op.wait ≤ 1000000000 - now then (now + op.wait, (passS (now + op.wait) l ot0).1, tellS (passS (now + op.wait) l ot0).1 (passS (now + op.wait) l ot0).2)
  else (now, l, tellS l { ot0 with code := 1 })
def runSt : Int → List Ms → List Op → List Ot
  | _, _, [] => []
  | now, l, op :: ops => (opS now l op).2.2 :: runSt (opS now l op).1 (opS now l op).2.1 ops
def runS (ops : List Op) : List Ot × Int := if 2000 < ops.length then ([], 8) else (runSt 0 [] ops, 0)
theorem OkM.mono {N M : Nat} {m : Ms} (h : OkM N m) (hn : N ≤ M) : OkM M m := ⟨⟨Nat.le_trans h.s.n hn, h.s.q, h.s.e⟩, h.o⟩
theorem codeB_ok {p : Pk} (h : codeB p = 0) : (0 ≤ p.off ∧ p.off ≤ 65535) ∧ p.pay.length ≤ 65535 ∧ p.opts.length ≤ 100 := by
  unfold codeB at h
  split at h
  · cases h
  · rename_i h1
    have h2 := okIPb_off (Bool.not_eq_false _ ▸ h1 : okIPb p = true)
    have h3 : p.opts.length ≤ 40 := by
      have h4 : okIPb p = true := Bool.not_eq_false _ ▸ h1
      unfold okIPb at h4
      simp only [Bool.and_eq_true, decide_eq_true_eq] at h4
      omega
    split at h
    · cases h
    · omega
structure LOk (N : Nat) (now : Int) (l : List Ms) : Prop where
  n : l.length ≤ 16
  m : ∀ m ∈ l, OkM N m
  b : ∀ m ∈ l, 0 ≤ m.born ∧ m.born ≤ now
theorem msNew_ok (N : Nat) (p : Pk) (now : Int) : OkM N (msNew p now) := ⟨⟨by simp [msNew], by simp [msNew], by simp [msNew]⟩, by simp [msNew, pk0]⟩
theorem addS_born (m : Ms) (p : Pk) : (addS m p).born = m.born := by
  obtain ⟨ref, has, e2, ps, f, _, _, _, _, e⟩ := addS_shape m p
  rw [e]
  cases ref <;> rfl
theorem openS_ok {N : Nat} {now : Int} {l : List Ms} {o : Ot} {p : Pk} (h : LOk N now l) (hn : 0 ≤ now) : LOk N now (openS now l o p).1 ∧ (openS now l o p).2.2 < (openS now l o p).1.length ∧ ((openS now l o p).2.1 = o ∨ ∃ m, (openS now l o p).2.1 = goneO o m true) := by
  have h0 := h.n
  unfold openS
  split
  · rename_i k hk
    rw [List.findIdx?_eq_some_iff_getElem] at hk
    exact ⟨h, hk.1, .inl rfl⟩
  · split
    · refine ⟨⟨?_, ?_, ?_⟩, ?_, .inr ⟨_, rfl⟩⟩
      · simp only [la0, List.length_singleton, List.length_eraseIdx_of_lt (show 0 < l.length by omega)]; omega
      · intro m hm
        rcases List.mem_append.1 hm with hm | hm
        · exact h.m m (List.mem_of_mem_eraseIdx hm)
        · rw [List.mem_singleton.1 hm]; exact msNew_ok N p now
      · intro m hm
        rcases List.mem_append.1 hm with hm | hm
        · exact h.b m (List.mem_of_mem_eraseIdx hm)
        · rw [List.mem_singleton.1 hm]; exact ⟨hn, Int.le_refl _⟩
      · simp only [la0, List.length_singleton, List.length_eraseIdx_of_lt (show 0 < l.length by omega)]; omega
    · refine ⟨⟨?_, ?_, ?_⟩, by simp, .inl rfl⟩
      · simp only [la0, List.length_singleton]; omega
      · intro m hm
        rcases List.mem_append.1 hm with hm | hm
        · exact h.m m hm
        · rw [List.mem_singleton.1 hm]; exact msNew_ok N p now
      · intro m hm
        rcases List.mem_append.1 hm with hm | hm
        · exact h.b m hm
        · rw [List.mem_singleton.1 hm]; exact ⟨hn, Int.le_refl _⟩
theorem LOk.mono {N M : Nat} {now now' : Int} {l : List Ms} (h : LOk N now l) (hn : N ≤ M) (ht : now ≤ now') : LOk M now' l :=
  ⟨h.n, fun m hm => (h.m m hm).mono hn, fun m hm => by have := h.b m hm; omega⟩
theorem goneO_bytes (o : Ot) (m : Ms) (b : Bool) : (goneO o m b).bytes = o.bytes := by unfold goneO; split <;> rfl
theorem takeS_ok {N : Nat} {now : Int} {l : List Ms} {o : Ot} {p : Pk} (h : LOk N now l) (hn : 0 ≤ now) (hp : codeB p = 0) : LOk (N + 1) now (takeS now l o p).1 ∧ (takeS now l o p).2.bytes = o.bytes := by
  obtain ⟨c1, c2, c3⟩ := codeB_ok hp
  unfold takeS
  split
  · exact ⟨h.mono (by omega) (by omega), rfl⟩
  · split
    · exact ⟨h.mono (by omega) (by omega), rfl⟩
    · obtain ⟨h1, h2, h3⟩ := openS_ok (o := o) (p := p) h hn
      generalize openS now l o p = r at h1 h2 h3 ⊢
      obtain ⟨l1, o1, i⟩ := r
      simp only at h1 h2 h3 ⊢
      have hb : o1.bytes = o.bytes := by
        rcases h3 with rfl | ⟨m, rfl⟩
        · rfl
        · exact goneO_bytes _ _ _
      have hmem : l1.getD i default ∈ l1 := by rw [List.getD_eq_getElem?_getD, List.getElem?_eq_getElem h2]; exact List.getElem_mem h2
      unfold stepS
      simp only
      split
      · exact ⟨h1.mono (by omega) (by omega), hb⟩
      · split
        · refine ⟨⟨?_, fun m hm => (h1.m m (List.mem_of_mem_eraseIdx hm)).mono (by omega), fun m hm => h1.b m (List.mem_of_mem_eraseIdx hm)⟩, hb⟩
          have := List.length_eraseIdx_le l1 i
          have := h1.n
          simp only
          omega
        · refine ⟨⟨by simp only [List.length_set]; exact h1.n, ?_, ?_⟩, hb⟩
          · intro m hm
            rcases List.mem_or_eq_of_mem_set hm with hm | rfl
            · exact (h1.m m hm).mono (by omega)
            · exact addS_ok (h1.m _ hmem) c1 c2 c3
          · intro m hm
            rcases List.mem_or_eq_of_mem_set hm with hm | rfl
            · exact h1.b m hm
            · rw [addS_born]; exact h1.b _ hmem
theorem passS_ok {N : Nat} {now t : Int} : ∀ {l : List Ms} {o : Ot}, LOk N now l → LOk N now (passS t l o).1 ∧ (passS t l o).2.bytes = o.bytes
  | [], o, h => ⟨h, rfl⟩
  | m :: l, o, h => by
    unfold passS
    split
    · have := passS_ok (t := t) (l := l) (o := goneO o m true) ⟨by have := h.n; simp at this; omega, fun x hx => h.m x (List.mem_cons_of_mem _ hx), fun x hx => h.b x (List.mem_cons_of_mem _ hx)⟩
      exact ⟨this.1, this.2.trans (goneO_bytes _ _ _)⟩
    · exact ⟨h, rfl⟩
def RunRes (h h' : IH) (r : IV) (X : List Ot × Int) : Prop := ∃ v, r = .tuple [v, .int .i64 X.2] ∧ Ow h.n h'.n h' (.slice 52 t_ReasmOut) [v] (.list (X.1.map outD))
set_option maxHeartbeats 2000000 in
theorem specRun_c (h : IH) (v : IV) (ops : List Op) (a : OpsAt h v ops) (hn : ops.length ≤ 1048576) (hsz : ∀ o ∈ ops, o.pk.opts.length + o.pk.pay.length ≤ 1048576) :
    ICalls Try.prog 8 [v] h fun r h' => RunRes h h' r (runS ops) ∧ Ext h h' := by
  refine icalls (.of ok8) (Nat.le_of_ble_eq_true rfl) ?_
  unfold c8
  obtain ⟨⟨rs, hsl, hrl, hrow⟩, hI⟩ := a
  have hlen := hsl.lenF
  rw [hrl] at hlen
  try simp (disch := (first | omega | assumption | (simp only [lc0, ln0, la0]; first | done | omega) | (simp (disch := assumption) only [go_sem, one_as, Nat.reduceBEq]; done) | fail)) only [hlen, go_sem, Hold.p, HoldK.k, HoldL.K, HoldL.body, Nat.reduceBEq, Nat.reduceAdd, reduceIte]
  refine test_dec (fun hb => ?_) (fun hb => ?_)
  · have hr : runS ops = ([], 8) := if_pos (by omega)
    try simp (disch := (first | omega | assumption | (simp only [lc0, ln0, la0]; first | done | omega) | (simp (disch := assumption) only [go_sem, one_as, Nat.reduceBEq]; done) | fail)) only [go_sem, Hold.p, HoldK.k, HoldL.K, HoldL.body, Nat.reduceBEq, Nat.reduceAdd, reduceIte]
    rw [hr]
    exact ⟨⟨_, rfl, (Ow.nil0 h)⟩, Ext.refl _⟩
  have hr : runS ops = (runSt 0 [] ops, 0) := if_neg (by omega)
  rw [hr]
  have S := Sp.start h
  try simp (disch := (first | omega | assumption | (simp only [lc0, ln0, la0]; first | done | omega) | (simp (disch := assumption) only [go_sem, one_as, Nat.reduceBEq]; done) | fail)) only [go_sem, Hold.p, HoldK.k, HoldL.K, HoldL.body, Nat.reduceBEq, Nat.reduceAdd, reduceIte]
  refine Sp.zero S fun w g1 S E_g1 l_g1 => ?_
  have q0 := (S.bx 0 rfl).eq
  try simp (disch := (first | omega | assumption | (simp only [lc0, ln0, la0]; first | done | omega) | (simp (disch := assumption) only [go_sem, one_as, Nat.reduceBEq]; done) | fail)) only [q0, go_sem, Hold.p, HoldK.k, HoldL.K, HoldL.body, Nat.reduceBEq, Nat.reduceAdd, reduceIte]
  refine stw_of rfl rfl (by first | rfl | simp (disch := assumption) only [go_sem, cells_one, one_as]) fun g2 hg => ?_
  have l_g2 := n_set hg
  have S := S.set0 hg
  clear hg
  try simp (disch := (first | omega | assumption | (simp only [lc0, ln0, la0]; first | done | omega) | (simp (disch := assumption) only [go_sem, one_as, Nat.reduceBEq]; done) | fail)) only [go_sem, Hold.p, HoldK.k, HoldL.K, HoldL.body, Nat.reduceBEq, Nat.reduceAdd, reduceIte]
  refine loop_at (fun n e g => ∃ (k : Nat) (now : Int) (l : List Ms) (vx : IV) (outs : List Ot) (o : Ot) (vo vp ve vl : IV) (rl : List (List IV)), n = ops.length - k ∧ k ≤ ops.length ∧ e 0 = v ∧ e 4 = .ptr w 0 0 ∧ e 5 = vx ∧ e 6 = .int .i64 (k : Nat) ∧ outs.length = k ∧
    runSt 0 [] ops = outs ++ runSt now l (ops.drop k) ∧ LOk k now l ∧ 0 ≤ now ∧ now ≤ 1000000000 ∧
    Sp g (box w (wO now vl o vo vp ve) :: sl false 94 20 vl rl :: all2 madeR rl l :: dat (.slice 52 t_ReasmOut) [vx] (.list (outs.map outD)) :: [old h])) ops.length ?_ ?_
  · refine ⟨0, 0, [], .eslice true, [], ot0, .nilslice, .nilslice, .nilslice, .nilslice, [], by omega, by omega, ?_⟩
    try simp (disch := (first | omega | assumption | (simp only [lc0, ln0, la0]; first | done | omega) | (simp (disch := assumption) only [go_sem, one_as, Nat.reduceBEq]; done) | fail)) only [go_sem, Hold.p, HoldK.k, HoldL.K, HoldL.body, Nat.reduceBEq, Nat.reduceAdd, reduceIte]
    refine ⟨rfl, rfl, ⟨by simp, by simp, by simp⟩, by omega, by omega, ?_⟩
    have S := ((S.a2nil (R := madeR)).slNil (x := false) (el := 94) (sz := 20))
    have S := S.new (Ext.refl _) (f := []) (A := dat (.slice 52 t_ReasmOut) [.eslice true] (.list [])) ⟨_, [], rfl, rfl, .inl ⟨rfl, rfl, .inr rfl⟩⟩ (by simp) (by simp)
    have S := by simpa only [mc0, mn0, List.getD_cons_zero, List.getD_cons_succ, ds0, dz0, ca0, na0] using Sp.sel S 5 [3, 1, 2, 0, 4] (by simp only [lc0]; omega) (by decide) (by decide)
    exact S
  · clear S
    rintro n e g ⟨k, now, l, vx, outs, o, vo, vp, ve, vl, rl, rfl, hk, i0, i4, i5, i6, hol, hru, hL, hn0, hn1, S⟩
    have q0 := (S.bx 0 rfl).eq
    try simp (disch := (first | omega | assumption | (simp only [lc0, ln0, la0]; first | done | omega) | (simp (disch := assumption) only [go_sem, one_as, Nat.reduceBEq]; done) | fail)) only [q0, i0, i4, i5, i6, hlen, go_sem, Hold.p, HoldK.k, HoldL.K, HoldL.body, Nat.reduceBEq, Nat.reduceAdd, reduceIte]
    refine test_dec (fun hb2 => ?_) (fun hb2 => ?_)
    · obtain ⟨op, hop⟩ : ∃ q, ops[k]? = some q := ⟨_, List.getElem?_eq_getElem (by omega : k < ops.length)⟩
      obtain ⟨po, pp, hrk, ha⟩ := hrow k op hop
      obtain ⟨hIw, hIp⟩ := hI op (List.mem_of_getElem? hop)
      have hszo := hsz op (List.mem_of_getElem? hop)
      have y1 := ha.o.one
      have y2 := ha.p.one
      have w1 : wr .i64 ((k : Int) + 1) = ((k + 1 : Nat) : Int) := by rw [wr64 _ (by omega)]; rfl
      rw [drop_at hop, runSt] at hru
      simp only [Hold.p]
      rw [vc_skip]
      show vc _ _ _ _ _
      rw [vc_seq, vc_block]
      refine vc_split 4 (fun e g => ∃ (now' : Int) (l' : List Ms) (o' : Ot), e 0 = v ∧ e 4 = .ptr w 0 0 ∧ e 5 = vx ∧ e 6 = .int .i64 (k : Nat) ∧ opS now l op = (now', l', tellS l' o') ∧ o'.bytes = 0 ∧ LOk (k + 1) now' l' ∧ 0 ≤ now' ∧ now' ≤ 1000000000 ∧
        WSt g w now' l' o' (old h :: [dat (.slice 52 t_ReasmOut) [vx] (.list (outs.map outD))])) ?_ ?_
      · simp only [CC.split]
        have hsg := hsl.ext (S.ol 4 rfl)
        obtain ⟨a1, a2, hia, hal, har⟩ := hsg.at hrk .i64
        unfold opRow pkRow at har
        have q0 := (S.bx 0 rfl).eq
        try simp (disch := (first | omega | assumption | (simp only [lc0, ln0, la0]; first | done | omega) | (simp (disch := assumption) only [go_sem, one_as, Nat.reduceBEq]; done) | fail)) only [q0, i0, i4, i5, i6, hia, har, go_sem, Hold.p, HoldK.k, HoldL.K, HoldL.body, Nat.reduceBEq, Nat.reduceAdd, reduceIte]
        refine Sp.zero S fun p7 g8 S E_g8 l_g8 => ?_
        have q0 := (S.bx 0 rfl).eq
        have q1 := (S.bx 1 rfl).eq
        try simp (disch := (first | omega | assumption | (simp only [lc0, ln0, la0]; first | done | omega) | (simp (disch := assumption) only [go_sem, one_as, Nat.reduceBEq]; done) | fail)) only [q0, q1, i0, i4, i5, i6, go_sem, Hold.p, HoldK.k, HoldL.K, HoldL.body, Nat.reduceBEq, Nat.reduceAdd, reduceIte]
        refine stw_of rfl rfl (by first | rfl | simp (disch := assumption) only [go_sem, cells_one, one_as]) fun g9 hg => ?_
        have l_g9 := n_set hg
        have S := S.set0 hg
        clear hg
        have q0 := (S.bx 0 rfl).eq
        have q1 := (S.bx 1 rfl).eq
        try simp (disch := (first | omega | assumption | (simp only [lc0, ln0, la0]; first | done | omega) | (simp (disch := assumption) only [go_sem, one_as, Nat.reduceBEq]; done) | fail)) only [q0, q1, i0, i4, i5, i6, go_sem, Hold.p, HoldK.k, HoldL.K, HoldL.body, Nat.reduceBEq, Nat.reduceAdd, reduceIte]
        refine stp_of rfl (Nat.le_of_ble_eq_true rfl) (by first | rfl | simp (disch := assumption) only [go_sem, cells_one, one_as]) fun g10 hg => ?_
        have l_g10 := n_set hg
        have S := S.set1 hg
        clear hg
        simp only [sz0, ss0, ts0, tz0, ds0, dz0, ca0, na0, Nat.reduceAdd] at S
        have q0 := (S.bx 0 rfl).eq
        have q1 := (S.bx 1 rfl).eq
        try simp (disch := (first | omega | assumption | (simp only [lc0, ln0, la0]; first | done | omega) | (simp (disch := assumption) only [go_sem, one_as, Nat.reduceBEq]; done) | fail)) only [q0, q1, i0, i4, i5, i6, go_sem, Hold.p, HoldK.k, HoldL.K, HoldL.body, Nat.reduceBEq, Nat.reduceAdd, reduceIte]
        refine callA_of (encIP_c g10 op.pk po pp (ha.ext (S.ol 5 rfl)) (by omega)) ?_
        rintro r11 g11 ⟨⟨v11, rfl, z11⟩, E11⟩
        have S := S.ext E11
        have q0 := (S.bx 0 rfl).eq
        try simp (disch := (first | omega | assumption | (simp only [lc0, ln0, la0]; first | done | omega) | (simp (disch := assumption) only [go_sem, one_as, Nat.reduceBEq]; done) | fail)) only [q0, i0, i4, i5, i6, go_sem, Hold.p, HoldK.k, HoldL.K, HoldL.body, Nat.reduceBEq, Nat.reduceAdd, reduceIte]
        have W : WSt g11 w now l ot0 (old h :: box p7 (.rows [opRow op po pp] 58 13 false) :: [dat (.slice 52 t_ReasmOut) [vx] (.list (outs.map outD))]) := by
          have S := ((S.slNil (x := false) (el := 5) (sz := 1)).slNil (x := false) (el := 5) (sz := 1)).slNil (x := false) (el := 113) (sz := 5)
          refine ⟨vl, rl, .nilslice, .nilslice, .nilslice, ?_⟩
          have S := by simpa only [mc0, mn0, List.getD_cons_zero, List.getD_cons_succ, ds0, dz0, ca0, na0] using Sp.sel S 9 [4, 5, 6, 1, 2, 0, 8, 3, 7] (by simp only [lc0]; omega) (by decide) (by decide)
          exact S
        have hdrop : ∀ {g : IH} {now' : Int} {l' : List Ms} {o' : Ot}, WSt g w now' l' o' (old h :: box p7 (.rows [opRow op po pp] 58 13 false) :: [dat (.slice 52 t_ReasmOut) [vx] (.list (outs.map outD))]) → WSt g w now' l' o' (old h :: [dat (.slice 52 t_ReasmOut) [vx] (.list (outs.map outD))]) := by
          rintro g now' l' o' ⟨vl, rl, vo, vp, ve, S⟩
          refine ⟨vl, rl, vo, vp, ve, ?_⟩
          have S := by simpa only [mc0, mn0, List.getD_cons_zero, List.getD_cons_succ, ds0, dz0, ca0, na0] using Sp.sel S 9 [0, 1, 2, 3, 4, 5, 6, 8] (by simp only [lc0]; omega) (by decide) (by decide)
          exact S
        refine test_of (fun hc => ?_) (fun hc => ?_)
        · have hc' : op.kind = 1 ∧ codeB op.pk = 0 := by simpa using hc
          obtain ⟨c1, c2, c3⟩ := codeB_ok hc'.2
          obtain ⟨t1, t2⟩ := takeS_ok (o := ot0) hL hn0 hc'.2
          have q0 := (S.bx 0 rfl).eq
          try simp (disch := (first | omega | assumption | (simp only [lc0, ln0, la0]; first | done | omega) | (simp (disch := assumption) only [go_sem, one_as, Nat.reduceBEq]; done) | fail)) only [q0, i0, i4, i5, i6, go_sem, Hold.p, HoldK.k, HoldL.K, HoldL.body, Nat.reduceBEq, Nat.reduceAdd, reduceIte]
          refine callA_of (l06Take_c W (ha.ext (Ext.refl _)) (N := k) (by omega) hL.n (by simp [ot0]) hL.m c1 c2 c3) ?_
          clear S W
          rintro r12 g12 W
          try simp (disch := (first | omega | assumption | (simp only [lc0, ln0, la0]; first | done | omega) | (simp (disch := assumption) only [go_sem, one_as, Nat.reduceBEq]; done) | fail)) only [i0, i4, i5, i6, go_sem, Hold.p, HoldK.k, HoldL.K, HoldL.body, Nat.reduceBEq, Nat.reduceAdd, reduceIte]
          exact ⟨now, _, _, if_pos hc', t2, t1, hn0, hn1, hdrop W⟩
        · have hc' : ¬ (op.kind = 1 ∧ codeB op.pk = 0) := by simpa using hc
          have w2 : wr .i64 (1000000000 - now) = 1000000000 - now := wr64 _ (by omega)
          have q0 := (S.bx 0 rfl).eq
          have q1 := (S.bx 1 rfl).eq
          try simp (disch := (first | omega | assumption | (simp only [lc0, ln0, la0]; first | done | omega) | (simp (disch := assumption) only [go_sem, one_as, Nat.reduceBEq]; done) | fail)) only [q0, q1, i0, i4, i5, i6, w2, go_sem, Hold.p, HoldK.k, HoldL.K, HoldL.body, Nat.reduceBEq, Nat.reduceAdd, reduceIte]
          refine test_of (fun hc2 => ?_) (fun hc2 => ?_)
          · have hc2' : op.kind = 2 ∧ 0 ≤ op.wait ∧ op.wait ≤ 1000000000 - now := by
              have : (op.kind = 2 ∧ 0 ≤ op.wait) ∧ op.wait ≤ 1000000000 - now := by simpa using hc2
              exact ⟨this.1.1, this.1.2, this.2⟩
            obtain ⟨t1, t2⟩ := passS_ok (t := now + op.wait) (o := ot0) (hL.mono (M := k + 1) (now' := now + op.wait) (by omega) (by omega))
            have q0 := (S.bx 0 rfl).eq
            try simp (disch := (first | omega | assumption | (simp only [lc0, ln0, la0]; first | done | omega) | (simp (disch := assumption) only [go_sem, one_as, Nat.reduceBEq]; done) | fail)) only [q0, i0, i4, i5, i6, go_sem, Hold.p, HoldK.k, HoldL.K, HoldL.body, Nat.reduceBEq, Nat.reduceAdd, reduceIte]
            refine callA_of (l06Pass_c W (by have := hL.n; omega) (by simp [ot0]) (fun m hm => by have := hL.b m hm; omega) ⟨hn0, hn1, hc2'.2.1, by omega⟩) ?_
            clear S W
            rintro r12 g12 W
            try simp (disch := (first | omega | assumption | (simp only [lc0, ln0, la0]; first | done | omega) | (simp (disch := assumption) only [go_sem, one_as, Nat.reduceBEq]; done) | fail)) only [i0, i4, i5, i6, go_sem, Hold.p, HoldK.k, HoldL.K, HoldL.body, Nat.reduceBEq, Nat.reduceAdd, reduceIte]
            exact ⟨now + op.wait, _, _, (if_neg hc').trans (if_pos hc2'), t2, t1, by omega, by omega, hdrop W⟩
          · have hc2' : ¬ (op.kind = 2 ∧ 0 ≤ op.wait ∧ op.wait ≤ 1000000000 - now) := by
              have : ¬ ((op.kind = 2 ∧ 0 ≤ op.wait) ∧ op.wait ≤ 1000000000 - now) := by simpa using hc2
              exact fun x => this ⟨⟨x.1, x.2.1⟩, x.2.2⟩
            clear S
            obtain ⟨vl, rl, vo, vp, ve, S⟩ := W
            have q0 := (S.bx 0 rfl).eq
            try simp (disch := (first | omega | assumption | (simp only [lc0, ln0, la0]; first | done | omega) | (simp (disch := assumption) only [go_sem, one_as, Nat.reduceBEq]; done) | fail)) only [q0, i0, i4, i5, i6, go_sem, Hold.p, HoldK.k, HoldL.K, HoldL.body, Nat.reduceBEq, Nat.reduceAdd, reduceIte]
            refine st1_of (Nat.le_of_ble_eq_true rfl) (by first | rfl | assumption) fun g12 hg => ?_
            have l_g12 := n_set hg
            have S := S.set0 hg
            clear hg
            simp only [sz0, ss0, ts0, tz0, ds0, dz0, ca0, na0, Nat.reduceAdd] at S
            try simp (disch := (first | omega | assumption | (simp only [lc0, ln0, la0]; first | done | omega) | (simp (disch := assumption) only [go_sem, one_as, Nat.reduceBEq]; done) | fail)) only [i0, i4, i5, i6, go_sem, Hold.p, HoldK.k, HoldL.K, HoldL.body, Nat.reduceBEq, Nat.reduceAdd, reduceIte]
            exact ⟨now, l, { ot0 with code := 1 }, (if_neg hc').trans (if_neg hc2'), rfl, hL.mono (by omega) (by omega), hn0, hn1, hdrop ⟨vl, rl, vo, vp, ve, S⟩⟩
      · clear S
        rintro e g ⟨now', l', o', i0, i4, i5, i6, hst, hob, hL', hn0', hn1', W⟩
        simp only [CC.split]
        try simp (disch := (first | omega | assumption | (simp only [lc0, ln0, la0]; first | done | omega) | (simp (disch := assumption) only [go_sem, one_as, Nat.reduceBEq]; done) | fail)) only [i0, i4, i5, i6, go_sem, Hold.p, HoldK.k, HoldL.K, HoldL.body, Nat.reduceBEq, Nat.reduceAdd, reduceIte]
        refine callA_of (l06Tell_c W (by have := hL'.n; omega) hob hL'.m (by omega)) ?_
        clear W
        rintro r12 g12 ⟨vl, rl, vo, vp, ve, rfl, S⟩
        have z1 := (S.slA 1 rfl).one
        have z3 := (S.slA 3 rfl).one
        have z4 := (S.slA 4 rfl).one
        have z5 := (S.slA 5 rfl).one
        try simp (disch := (first | omega | assumption | (simp only [lc0, ln0, la0]; first | done | omega) | (simp (disch := assumption) only [go_sem, one_as, Nat.reduceBEq]; done) | fail)) only [i0, i4, i5, i6, go_sem, Hold.p, HoldK.k, HoldL.K, HoldL.body, Nat.reduceBEq, Nat.reduceAdd, reduceIte]
        refine Sp.bsl1 S (by first | rfl | (rw [cells_one (by assumption)]; rfl)) (by first | rfl | simp (disch := assumption) only [go_sem, cells_one, one_as]) fun p13 g13 S E_g13 l_g13 => ?_
        try simp only [cells_agg, cells_int, cells_bool, cells_ptr, cells_str] at S
        have q0 := (S.bx 0 rfl).eq
        try simp (disch := (first | omega | assumption | (simp only [lc0, ln0, la0]; first | done | omega) | (simp (disch := assumption) only [go_sem, one_as, Nat.reduceBEq]; done) | fail)) only [q0, i0, i4, i5, i6, go_sem, Hold.p, HoldK.k, HoldL.K, HoldL.body, Nat.reduceBEq, Nat.reduceAdd, reduceIte]
        have S := by simpa only [mc0, mn0, List.getD_cons_zero, List.getD_cons_succ, ds0, dz0, ca0, na0] using Sp.sel S 9 [4, 5, 6, 8, 1, 2, 3, 7] (by simp only [lc0]; omega) (by decide) (by decide)
        have S := out_dat (o := tellS l' o') S
        have S := S.p1
        refine Sp.dapp S (by rw [List.length_map]; omega) ?_
        clear S
        intro v14 g14 S z14 c14
        try simp (disch := (first | omega | assumption | (simp only [lc0, ln0, la0]; first | done | omega) | (simp (disch := assumption) only [go_sem, one_as, Nat.reduceBEq]; done) | fail)) only [i0, i4, i5, i6, w1, go_sem, Hold.p, HoldK.k, HoldL.K, HoldL.body, Nat.reduceBEq, Nat.reduceAdd, reduceIte]
        rw [hst] at hru
        have S := by simpa only [mc0, mn0, List.getD_cons_zero, List.getD_cons_succ, ds0, dz0, ca0, na0] using Sp.sel S 5 [1, 2, 3, 0, 4] (by simp only [lc0]; omega) (by decide) (by decide)
        refine ⟨_, by omega, k + 1, now', l', v14, outs ++ [tellS l' o'], tellS l' o', vo, vp, ve, vl, rl, rfl, by omega, rfl, rfl, by simp [hol], ?_, hL', hn0', hn1', ?_⟩
        · rw [hru]; simp
        · rw [List.map_append]; exact S
    · have hd : ops.drop k = [] := List.drop_eq_nil_of_le (by omega)
      rw [hd, runSt, List.append_nil] at hru
      rw [hru]
      try simp (disch := (first | omega | assumption | (simp only [lc0, ln0, la0]; first | done | omega) | (simp (disch := assumption) only [go_sem, one_as, Nat.reduceBEq]; done) | fail)) only [i0, i4, i5, i6, go_sem, Hold.p, HoldK.k, HoldL.K, HoldL.body, Nat.reduceBEq, Nat.reduceAdd, reduceIte]
      have S := by simpa only [mc0, mn0, List.getD_cons_zero, List.getD_cons_succ, ds0, dz0, ca0, na0] using Sp.sel S 5 [3, 4] (by simp only [lc0]; omega) (by decide) (by decide)
      exact ⟨⟨vx, rfl, S.toOw⟩, S.drop.oldE⟩
end
end Go.Proofs.Ytjmmmmdpkfpojaa

set_option maxRecDepth 20000
namespace Go.Proofs.Ytjmmmmdpkfpojaa
open Go Go.IW
section
attribute [local go_sem] List.getElem?_cons_zero List.getElem?_cons_succ Option.bind_some List.map_cons List.map_nil Nat.zero_add if_true List.getD_cons_zero List.getD_cons_succ List.contains_cons List.contains_nil Bool.or_true Bool.true_or Bool.or_false Bool.false_or Bool.not_true Bool.not_false true_and and_true rowA_whole mid_get rowO_rows cellO_rows upd_ne Nat.add_assoc Nat.add_zero List.all_cons List.all_nil one_bool one_int one_str one_ptr one_nilptr one_slice one_eslice one_nilslice one_func one_iface one_niliface Bool.and_true Bool.and_self List.length_cons List.length_nil Nat.one_ne_zero Nat.succ_ne_zero if_false List.set_cons_zero List.set_cons_succ lay_nil lay_1 lay_w Option.map_some cells_one rowA_some List.drop_succ_cons List.drop_zero List.take_succ_cons List.take_zero

inductive Cut (p : Pk) (R : Nat) : Nat → List Pk → Prop
  | last (a : Nat) (h0 : a < p.pay.length) (h1 : p.pay.length ≤ a + R) : Cut p R a [{ p with off := p.off + (a : Int), pay := p.pay.drop a }]
  | more (a : Nat) (h0 : a + R / 8 * 8 < p.pay.length) {r : List Pk} (hr : Cut p R (a + R / 8 * 8) r) :
      Cut p R a ({ p with off := p.off + (a : Int), mf := true, pay := (p.pay.take (a + R / 8 * 8)).drop a } :: r)
def pkR (r : List IV) (p : Pk) : As := exA fun v : IV × IV => stars (fact (r = pkRow p v.1 v.2 ∧ v.1.one = true ∧ v.2.one = true)) (stars (byt v.1 p.opts) (byt v.2 p.pay))
theorem pk_un {h : IH} {L : List As} {p : Pk} {vo vp : IV} (S : Sp h (byt vo p.opts :: byt vp p.pay :: L)) (h1 : vo.one = true) (h2 : vp.one = true) : Sp h (pkR (pkRow p vo vp) p :: L) := by
  have S := S.unstar
  have S := S.unfact (p := pkRow p vo vp = pkRow p vo vp ∧ vo.one = true ∧ vp.one = true) ⟨rfl, h1, h2⟩
  exact Sp.unex (F := fun v : IV × IV => stars (fact (pkRow p vo vp = pkRow p v.1 v.2 ∧ v.1.one = true ∧ v.2.one = true)) (stars (byt v.1 p.opts) (byt v.2 p.pay))) (vo, vp) S.unstar
theorem pks_at {h : IH} {L : List As} {rs : List (List IV)} {ps : List Pk} (S : Sp h L) (k : Nat) (hk : L[k]? = some (all2 pkR rs ps)) {i : Nat} {q : Pk} (hi : ps[i]? = some q) : ∃ vo vp, rs[i]? = some (pkRow q vo vp) ∧ PkAt h q vo vp := by
  obtain ⟨f, hf⟩ := S.part k hk
  obtain ⟨r, f', h1, ⟨vo, vp⟩, f1, f2, _, ⟨_, rfl, h4, h5⟩, g1, g2, _, h6, h7⟩ := all2_at hf hi
  refine ⟨vo, vp, h1, ?_, ?_⟩
  · rcases h6 with ⟨h4, _, h5 | h5⟩ | ⟨l, h0, h5, _, h8, h9⟩
    · simp only at h4 h5; rw [h4, h5]; exact SlR.nil _ _
    · simp only at h4 h5; rw [h4, h5]; exact SlR.empty _ _ _
    · simp only at h5; rw [h5]; exact SlR.whole h9 rfl h8
  · rcases h7 with ⟨h4, _, h5 | h5⟩ | ⟨l, h0, h5, _, h8, h9⟩
    · simp only at h4 h5; rw [h4, h5]; exact SlR.nil _ _
    · simp only at h4 h5; rw [h4, h5]; exact SlR.empty _ _ _
    · simp only at h5; rw [h5]; exact SlR.whole h9 rfl h8
set_option maxHeartbeats 1000000 in
theorem _root_.Go.IW.Sp.dn {h : IH} {L : List As} (S : Sp h L) (k : Nat) : Sp h (L.drop k) := by
  induction k generalizing L with
  | zero => exact S
  | succ k ih =>
    cases L with
    | nil => exact S
    | cons a L => exact ih S.drop
set_option maxHeartbeats 1000000 in
theorem frag_c {h : IH} {L : List As} (S : Sp h L) (p : Pk) (vo vp : IV) (ha : ∀ g, Sp g L → PkAt g p vo vp) (hc : codeB p = 0) (hdf : p.df = false) (hp : 1 ≤ p.pay.length) (R : Nat) (hR : 8 ≤ R) (m : Int) (hm : m = 20 + (p.opts.length : Int) + R) (hm1 : 68 ≤ m) (hm2 : m ≤ 65535) :
    ICalls Try.prog 19 [.agg (pkRow p vo vp), .int .i64 m] h fun r h' => ∃ v rs fs, r = .tuple [v, .int .i64 0] ∧ v.one = true ∧ Cut p R 0 fs ∧ Sp h' (sl false 44 11 v rs :: all2 pkR rs fs :: L) := by
  refine icalls (.of ok19) (Nat.le_of_ble_eq_true rfl) ?_
  unfold c19 pkRow
  obtain ⟨c1, c2, c3⟩ := codeB_ok hc
  have a := ha h S
  have v1 := a.o.one
  have v2 := a.p.one
  have l1 := a.o.lenF
  have l2 := a.p.lenF
  rw [strRows_len] at l1 l2
  try simp (disch := (first | omega | assumption | (simp only [lc0, ln0, la0]; first | done | omega) | (simp (disch := assumption) only [go_sem, one_as, Nat.reduceBEq]; done) | fail)) only [go_sem, Hold.p, HoldK.k, HoldL.K, HoldL.body, Nat.reduceBEq, Nat.reduceAdd, reduceIte]
  refine Sp.bxA S (by first | rfl | (rw [cells_one (by assumption)]; rfl)) (by first | rfl | simp (disch := assumption) only [go_sem, cells_one, one_as]) fun p2 g1 S E_g1 l_g1 => ?_
  have q0 := (S.bx 0 rfl).eq
  try simp (disch := (first | omega | assumption | (simp only [lc0, ln0, la0]; first | done | omega) | (simp (disch := assumption) only [go_sem, one_as, Nat.reduceBEq]; done) | fail)) only [q0, go_sem, Hold.p, HoldK.k, HoldL.K, HoldL.body, Nat.reduceBEq, Nat.reduceAdd, reduceIte]
  refine callA_of (codeIP_c g1 p vo vp (ha _ (S.dn 1)) (by omega) (by omega)) ?_
  rintro r2 g2 ⟨rfl, E2⟩
  have S := S.ext E2
  rw [hc]
  have d1 : decide (m < 68) = false := decide_eq_false (by omega)
  have d2 : decide (65535 < m) = false := decide_eq_false (by omega)
  have hok : okIPb p = true := by
    unfold codeB at hc
    split at hc
    · cases hc
    · rename_i h1
      exact Bool.not_eq_false _ ▸ h1
  have q0 := (S.bx 0 rfl).eq
  try simp (disch := (first | omega | assumption | (simp only [lc0, ln0, la0]; first | done | omega) | (simp (disch := assumption) only [go_sem, one_as, Nat.reduceBEq]; done) | fail)) only [q0, d1, d2, decide_true, Bool.not_true, go_sem, Hold.p, HoldK.k, HoldL.K, HoldL.body, Nat.reduceBEq, Nat.reduceAdd, reduceIte]
  refine callA_of (sizeI_c g2 p vo vp (ha _ (S.dn 1)) (by omega)) ?_
  rintro r3 g3 ⟨rfl, E3⟩
  have S := S.ext E3
  rw [if_pos hok]
  have q0 := (S.bx 0 rfl).eq
  try simp (disch := (first | omega | assumption | (simp only [lc0, ln0, la0]; first | done | omega) | (simp (disch := assumption) only [go_sem, one_as, Nat.reduceBEq]; done) | fail)) only [q0, go_sem, Hold.p, HoldK.k, HoldL.K, HoldL.body, Nat.reduceBEq, Nat.reduceAdd, reduceIte]
  refine test_dec (fun hb => ?_) (fun hb => ?_)
  · skip
    have q0 := (S.bx 0 rfl).eq
    try simp (disch := (first | omega | assumption | (simp only [lc0, ln0, la0]; first | done | omega) | (simp (disch := assumption) only [go_sem, one_as, Nat.reduceBEq]; done) | fail)) only [q0, go_sem, Hold.p, HoldK.k, HoldL.K, HoldL.body, Nat.reduceBEq, Nat.reduceAdd, reduceIte]
    refine callA_of (ownPacket_c g3 _ S p vo vp (ha _ (S.dn 1)) (by omega)) ?_
    clear S
    rintro r4 g4 ⟨wo, wp, rfl, S⟩
    have y1 := (S.slA 0 rfl).one
    have y2 := (S.slA 1 rfl).one
    unfold pkRow
    have s0 := S.slA 0 rfl
    have len_s0 := s0.lenF
    have z0 := s0.one
    have s1 := S.slA 1 rfl
    have len_s1 := s1.lenF
    have z1 := s1.one
    have q2 := (S.bx 2 rfl).eq
    try simp (disch := (first | omega | assumption | (simp only [lc0, ln0, la0]; first | done | omega) | (simp (disch := assumption) only [go_sem, one_as, Nat.reduceBEq]; done) | fail)) only [len_s0, z0, len_s1, z1, q2, go_sem, Hold.p, HoldK.k, HoldL.K, HoldL.body, Nat.reduceBEq, Nat.reduceAdd, reduceIte]
    refine Sp.bsl1 S (by first | rfl | (rw [cells_one (by assumption)]; rfl)) (by first | rfl | simp (disch := assumption) only [go_sem, cells_one, one_as]) fun p5 g5 S E_g5 l_g5 => ?_
    try simp only [cells_agg, cells_int, cells_bool, cells_ptr, cells_str] at S
    try simp (disch := (first | omega | assumption | (simp only [lc0, ln0, la0]; first | done | omega) | (simp (disch := assumption) only [go_sem, one_as, Nat.reduceBEq]; done) | fail)) only [go_sem, Hold.p, HoldK.k, HoldL.K, HoldL.body, Nat.reduceBEq, Nat.reduceAdd, reduceIte]
    have S := S.boxSl (x := false) (n := 1) rfl (.inr (by simp))
    have S := by simpa only [mc0, mn0, List.getD_cons_zero, List.getD_cons_succ, ds0, dz0, ca0, na0] using Sp.sel S 4 [0, 1, 2] (by simp only [lc0]; omega) (by decide) (by decide)
    have S : Sp g5 (byt wo p.opts :: byt wp p.pay :: sl false 44 11 (.slice p5 0 1) [pkRow p wo wp] :: L) := by
      have S := by simpa only [mc0, mn0, List.getD_cons_zero, List.getD_cons_succ, ds0, dz0, ca0, na0] using Sp.sel S 3 [1, 2, 0] (by simp only [lc0]; omega) (by decide) (by decide)
      exact S
    have S := (pk_un S y1 y2).a2one
    refine ⟨.slice p5 0 1, [pkRow p wo wp], [p], rfl, rfl, ?_, ?_⟩
    · have := Cut.last (p := p) (R := R) 0 (by omega) (by omega)
      simpa using this
    · skip
      have S := by simpa only [mc0, mn0, List.getD_cons_zero, List.getD_cons_succ, ds0, dz0, ca0, na0] using Sp.sel S 2 [1, 0] (by simp only [lc0]; omega) (by decide) (by decide)
      exact S
  · have e1 : wr .i64 (m - 20) = m - 20 := wr64 _ (by omega)
    have e2 : wr .i64 (m - 20 - (p.opts.length : Int)) = (R : Int) := by rw [wr64 _ (by omega)]; omega
    have e3 : decide ((R : Int) < 8) = false := decide_eq_false (by omega)
    have e4 : ibin .quo (.int .i64 (R : Int)) (.int .i64 8) = some (.int .i64 ((R / 8 : Nat) : Int)) := by
      have : (R : Int).tdiv 8 = ((R / 8 : Nat) : Int) := by rw [Int.tdiv_eq_ediv_of_nonneg (by omega)]; omega
      rw [ib_quo _ _ _ (by decide), this, wr64 _ (by omega)]
    have e5 : wr .i64 (((R / 8 : Nat) : Int) * 8) = ((R / 8 * 8 : Nat) : Int) := by rw [wr64 _ (by omega)]; omega
    have q0 := (S.bx 0 rfl).eq
    try simp (disch := (first | omega | assumption | (simp only [lc0, ln0, la0]; first | done | omega) | (simp (disch := assumption) only [go_sem, one_as, Nat.reduceBEq]; done) | fail)) only [q0, l1, e1, e2, e3, e4, e5, hdf, decide_true, Bool.not_true, go_sem, Hold.p, HoldK.k, HoldL.K, HoldL.body, Nat.reduceBEq, Nat.reduceAdd, reduceIte]
    have hF8 : 8 ≤ R / 8 * 8 := by omega
    have hFR : R / 8 * 8 ≤ R := by omega
    refine loop_at (fun n e g => ∃ (k : Nat) (fs : List Pk) (vl : IV) (rs : List (List IV)), n = p.pay.length - k ∧ k < p.pay.length ∧ e 2 = .ptr p2 0 0 ∧ e 7 = vl ∧ e 8 = .int .i64 ((R / 8 * 8 : Nat) : Int) ∧ e 9 = .int .i64 (k : Nat) ∧ fs.length ≤ k ∧
      (∀ r, Cut p R k r → Cut p R 0 (fs ++ r)) ∧ Sp g (box p2 (pkObj p vo vp) :: sl false 44 11 vl rs :: all2 pkR rs fs :: L)) p.pay.length ?_ ?_
    · refine ⟨0, [], .nilslice, [], by omega, by omega, ?_⟩
      have q0 := (S.bx 0 rfl).eq
      try simp (disch := (first | omega | assumption | (simp only [lc0, ln0, la0]; first | done | omega) | (simp (disch := assumption) only [go_sem, one_as, Nat.reduceBEq]; done) | fail)) only [q0, go_sem, Hold.p, HoldK.k, HoldL.K, HoldL.body, Nat.reduceBEq, Nat.reduceAdd, reduceIte]
      have S := (S.a2nil (R := pkR)).slNil (x := false) (el := 44) (sz := 11)
      have S := by simpa only [mc0, mn0, List.getD_cons_zero, List.getD_cons_succ, ds0, dz0, ca0, na0] using Sp.sel S 3 [2, 0, 1] (by simp only [lc0]; omega) (by decide) (by decide)
      exact ⟨rfl, by simp, fun r hr => hr, S⟩
    · clear S
      rintro n e g ⟨k, fs, vl, rs, rfl, hk, i2, i7, i8, i9, hfl, hcut, S⟩
      have q0 := (S.bx 0 rfl).eq
      have s1 := S.slA 1 rfl
      have len_s1 := s1.lenF
      have z1 := s1.one
      try simp (disch := (first | omega | assumption | (simp only [lc0, ln0, la0]; first | done | omega) | (simp (disch := assumption) only [go_sem, one_as, Nat.reduceBEq]; done) | fail)) only [q0, len_s1, z1, i2, i7, i8, i9, go_sem, Hold.p, HoldK.k, HoldL.K, HoldL.body, Nat.reduceBEq, Nat.reduceAdd, reduceIte]
      refine Sp.zero S fun p10 g10 S E_g10 l_g10 => ?_
      have q0 := (S.bx 0 rfl).eq
      have q1 := (S.bx 1 rfl).eq
      have s2 := S.slA 2 rfl
      have len_s2 := s2.lenF
      have z2 := s2.one
      try simp (disch := (first | omega | assumption | (simp only [lc0, ln0, la0]; first | done | omega) | (simp (disch := assumption) only [go_sem, one_as, Nat.reduceBEq]; done) | fail)) only [q0, q1, len_s2, z2, i2, i7, i8, i9, go_sem, Hold.p, HoldK.k, HoldL.K, HoldL.body, Nat.reduceBEq, Nat.reduceAdd, reduceIte]
      refine stw_of rfl rfl (by first | rfl | simp (disch := assumption) only [go_sem, cells_one, one_as]) fun g11 hg => ?_
      have l_g11 := n_set hg
      have S := S.set0 hg
      clear hg
      have q0 := (S.bx 0 rfl).eq
      have q1 := (S.bx 1 rfl).eq
      have s2 := S.slA 2 rfl
      have len_s2 := s2.lenF
      have z2 := s2.one
      try simp (disch := (first | omega | assumption | (simp only [lc0, ln0, la0]; first | done | omega) | (simp (disch := assumption) only [go_sem, one_as, Nat.reduceBEq]; done) | fail)) only [q0, q1, len_s2, z2, i2, i7, i8, i9, go_sem, Hold.p, HoldK.k, HoldL.K, HoldL.body, Nat.reduceBEq, Nat.reduceAdd, reduceIte]
      refine callA_of (dup_c g11 vo _ (ha _ (S.dn 4)).o (by omega)) ?_
      rintro w12 g12 ⟨o12, E12⟩
      have S := S.own (x := false) E12 o12 (Nat.le_refl _)
      have z12 := o12.one
      have q1 := (S.bx 1 rfl).eq
      have q2 := (S.bx 2 rfl).eq
      have s3 := S.slA 3 rfl
      have len_s3 := s3.lenF
      have z3 := s3.one
      try simp (disch := (first | omega | assumption | (simp only [lc0, ln0, la0]; first | done | omega) | (simp (disch := assumption) only [go_sem, one_as, Nat.reduceBEq]; done) | fail)) only [q1, q2, len_s3, z3, i2, i7, i8, i9, go_sem, Hold.p, HoldK.k, HoldL.K, HoldL.body, Nat.reduceBEq, Nat.reduceAdd, reduceIte]
      refine st1_of (Nat.le_of_ble_eq_true rfl) (by first | rfl | assumption) fun g13 hg => ?_
      have l_g13 := n_set hg
      have S := S.set1 hg
      clear hg
      simp only [sz0, ss0, ts0, tz0, ds0, dz0, ca0, na0, Nat.reduceAdd] at S
      have f1 : wr .i64 (p.off + (k : Int)) = p.off + (k : Int) := wr64 _ (by omega)
      have f2 : wr .i64 ((p.pay.length : Int) - (k : Int)) = (p.pay.length : Int) - (k : Int) := wr64 _ (by omega)
      have f3 : wr .i64 ((k : Int) + ((R / 8 * 8 : Nat) : Int)) = ((k + R / 8 * 8 : Nat) : Int) := by rw [wr64 _ (by omega)]; omega
      have q1 := (S.bx 1 rfl).eq
      have q2 := (S.bx 2 rfl).eq
      have s3 := S.slA 3 rfl
      have len_s3 := s3.lenF
      have z3 := s3.one
      try simp (disch := (first | omega | assumption | (simp only [lc0, ln0, la0]; first | done | omega) | (simp (disch := assumption) only [go_sem, one_as, Nat.reduceBEq]; done) | fail)) only [q1, q2, len_s3, z3, i2, i7, i8, i9, f1, go_sem, Hold.p, HoldK.k, HoldL.K, HoldL.body, Nat.reduceBEq, Nat.reduceAdd, reduceIte]
      refine st1_of (Nat.le_of_ble_eq_true rfl) (by first | rfl | assumption) fun g14 hg => ?_
      have l_g14 := n_set hg
      have S := S.set1 hg
      clear hg
      simp only [sz0, ss0, ts0, tz0, ds0, dz0, ca0, na0, Nat.reduceAdd] at S
      have q1 := (S.bx 1 rfl).eq
      have q2 := (S.bx 2 rfl).eq
      have s3 := S.slA 3 rfl
      have len_s3 := s3.lenF
      have z3 := s3.one
      try simp (disch := (first | omega | assumption | (simp only [lc0, ln0, la0]; first | done | omega) | (simp (disch := assumption) only [go_sem, one_as, Nat.reduceBEq]; done) | fail)) only [q1, q2, len_s3, z3, i2, i7, i8, i9, f2, l2, go_sem, Hold.p, HoldK.k, HoldL.K, HoldL.body, Nat.reduceBEq, Nat.reduceAdd, reduceIte]
      refine test_dec (fun hb2 => ?_) (fun hb2 => ?_)
      · obtain ⟨v15, hx15, hs15⟩ := ((ha _ (S.dn 5)).p).lo (a := k) (q := .i64) (by rw [strRows_len]; omega)
        rw [show (strRows p.pay).drop k = strRows (p.pay.drop k) by simp [strRows]] at hs15
        have q1 := (S.bx 1 rfl).eq
        have q2 := (S.bx 2 rfl).eq
        have s3 := S.slA 3 rfl
        have len_s3 := s3.lenF
        have z3 := s3.one
        try simp (disch := (first | omega | assumption | (simp only [lc0, ln0, la0]; first | done | omega) | (simp (disch := assumption) only [go_sem, one_as, Nat.reduceBEq]; done) | fail)) only [q1, q2, len_s3, z3, i2, i7, i8, i9, Option.map_none, hx15, go_sem, Hold.p, HoldK.k, HoldL.K, HoldL.body, Nat.reduceBEq, Nat.reduceAdd, reduceIte]
        refine callA_of (dup_c g14 v15 _ hs15 (by rw [List.length_drop]; omega)) ?_
        rintro w16 g16 ⟨o16, E16⟩
        have S := S.own (x := false) E16 o16 (Nat.le_refl _)
        have z16 := o16.one
        have q2 := (S.bx 2 rfl).eq
        have q3 := (S.bx 3 rfl).eq
        have s4 := S.slA 4 rfl
        have len_s4 := s4.lenF
        have z4 := s4.one
        try simp (disch := (first | omega | assumption | (simp only [lc0, ln0, la0]; first | done | omega) | (simp (disch := assumption) only [go_sem, one_as, Nat.reduceBEq]; done) | fail)) only [q2, q3, len_s4, z4, i2, i7, i8, i9, go_sem, Hold.p, HoldK.k, HoldL.K, HoldL.body, Nat.reduceBEq, Nat.reduceAdd, reduceIte]
        refine st1_of (Nat.le_of_ble_eq_true rfl) (by first | rfl | assumption) fun g17 hg => ?_
        have l_g17 := n_set hg
        have S := S.set2 hg
        clear hg
        simp only [sz0, ss0, ts0, tz0, ds0, dz0, ca0, na0, Nat.reduceAdd] at S
        have q2 := (S.bx 2 rfl).eq
        have q3 := (S.bx 3 rfl).eq
        have s4 := S.slA 4 rfl
        have len_s4 := s4.lenF
        have z4 := s4.one
        try simp (disch := (first | omega | assumption | (simp only [lc0, ln0, la0]; first | done | omega) | (simp (disch := assumption) only [go_sem, one_as, Nat.reduceBEq]; done) | fail)) only [q2, q3, len_s4, z4, i2, i7, i8, i9, go_sem, Hold.p, HoldK.k, HoldL.K, HoldL.body, Nat.reduceBEq, Nat.reduceAdd, reduceIte]
        refine Sp.bsl1 S (by first | rfl | (rw [cells_one (by assumption)]; rfl)) (by first | rfl | simp (disch := assumption) only [go_sem, cells_one, one_as]) fun p18 g18 S E_g18 l_g18 => ?_
        try simp only [cells_agg, cells_int, cells_bool, cells_ptr, cells_str] at S
        have q0 := (S.bx 0 rfl).eq
        have q3 := (S.bx 3 rfl).eq
        have q4 := (S.bx 4 rfl).eq
        have s5 := S.slA 5 rfl
        have len_s5 := s5.lenF
        have z5 := s5.one
        try simp (disch := (first | omega | assumption | (simp only [lc0, ln0, la0]; first | done | omega) | (simp (disch := assumption) only [go_sem, one_as, Nat.reduceBEq]; done) | fail)) only [q0, q3, q4, len_s5, z5, i2, i7, i8, i9, go_sem, Hold.p, HoldK.k, HoldL.K, HoldL.body, Nat.reduceBEq, Nat.reduceAdd, reduceIte]
        have S := by simpa only [mc0, mn0, List.getD_cons_zero, List.getD_cons_succ, ds0, dz0, ca0, na0] using Sp.sel S 7 [0, 5, 1, 2, 3, 4, 6] (by simp only [lc0]; omega) (by decide) (by decide)
        refine S.app1 (y := false) (b := 112) (by have := a2_len S 6 rfl; omega) ?_
        clear S
        intro v19 g19 S z19
        try simp (disch := (first | omega | assumption | (simp only [lc0, ln0, la0]; first | done | omega) | (simp (disch := assumption) only [go_sem, one_as, Nat.reduceBEq]; done) | fail)) only [i2, i7, i8, i9, go_sem, Hold.p, HoldK.k, HoldL.K, HoldL.body, Nat.reduceBEq, Nat.reduceAdd, reduceIte]
        refine ⟨v19, rs ++ [pkRow { p with off := p.off + (k : Int), pay := p.pay.drop k } w12 w16], fs ++ [{ p with off := p.off + (k : Int), pay := p.pay.drop k }], rfl, z19, hcut _ (Cut.last k hk (by omega)), ?_⟩
        have S := by simpa only [mc0, mn0, List.getD_cons_zero, List.getD_cons_succ, ds0, dz0, ca0, na0] using Sp.sel S 6 [2, 1, 5, 0] (by simp only [lc0]; omega) (by decide) (by decide)
        have S := (pk_un (p := { p with off := p.off + (k : Int), pay := p.pay.drop k }) S z12 z16).a2one
        have S := by simpa only [mc0, mn0, List.getD_cons_zero, List.getD_cons_succ, ds0, dz0, ca0, na0] using Sp.sel S 3 [1, 0, 2] (by simp only [lc0]; omega) (by decide) (by decide)
        have S := S.a2join
        have S := by simpa only [mc0, mn0, List.getD_cons_zero, List.getD_cons_succ, ds0, dz0, ca0, na0] using Sp.sel S 2 [1, 0] (by simp only [lc0]; omega) (by decide) (by decide)
        exact S
      · skip
        have q1 := (S.bx 1 rfl).eq
        have q2 := (S.bx 2 rfl).eq
        have s3 := S.slA 3 rfl
        have len_s3 := s3.lenF
        have z3 := s3.one
        try simp (disch := (first | omega | assumption | (simp only [lc0, ln0, la0]; first | done | omega) | (simp (disch := assumption) only [go_sem, one_as, Nat.reduceBEq]; done) | fail)) only [q1, q2, len_s3, z3, i2, i7, i8, i9, f3, go_sem, Hold.p, HoldK.k, HoldL.K, HoldL.body, Nat.reduceBEq, Nat.reduceAdd, reduceIte]
        refine st1_of (Nat.le_of_ble_eq_true rfl) (by first | rfl | assumption) fun g15 hg => ?_
        have l_g15 := n_set hg
        have S := S.set1 hg
        clear hg
        simp only [sz0, ss0, ts0, tz0, ds0, dz0, ca0, na0, Nat.reduceAdd] at S
        obtain ⟨v15, hx15, hs15⟩ := ((ha _ (S.dn 5)).p).lohi (a := k) (b := k + R / 8 * 8) (q := .i64) (q' := .i64) (by omega) (by rw [strRows_len]; omega)
        rw [show ((strRows p.pay).take (k + R / 8 * 8)).drop k = strRows ((p.pay.take (k + R / 8 * 8)).drop k) by simp [strRows, List.map_drop, List.map_take]] at hs15
        have q1 := (S.bx 1 rfl).eq
        have q2 := (S.bx 2 rfl).eq
        have s3 := S.slA 3 rfl
        have len_s3 := s3.lenF
        have z3 := s3.one
        try simp (disch := (first | omega | assumption | (simp only [lc0, ln0, la0]; first | done | omega) | (simp (disch := assumption) only [go_sem, one_as, Nat.reduceBEq]; done) | fail)) only [q1, q2, len_s3, z3, i2, i7, i8, i9, f3, hx15, go_sem, Hold.p, HoldK.k, HoldL.K, HoldL.body, Nat.reduceBEq, Nat.reduceAdd, reduceIte]
        refine callA_of (dup_c g15 v15 _ hs15 (by rw [List.length_drop, List.length_take]; omega)) ?_
        rintro w16 g16 ⟨o16, E16⟩
        have S := S.own (x := false) E16 o16 (Nat.le_refl _)
        have z16 := o16.one
        have q2 := (S.bx 2 rfl).eq
        have q3 := (S.bx 3 rfl).eq
        have s4 := S.slA 4 rfl
        have len_s4 := s4.lenF
        have z4 := s4.one
        try simp (disch := (first | omega | assumption | (simp only [lc0, ln0, la0]; first | done | omega) | (simp (disch := assumption) only [go_sem, one_as, Nat.reduceBEq]; done) | fail)) only [q2, q3, len_s4, z4, i2, i7, i8, i9, go_sem, Hold.p, HoldK.k, HoldL.K, HoldL.body, Nat.reduceBEq, Nat.reduceAdd, reduceIte]
        refine st1_of (Nat.le_of_ble_eq_true rfl) (by first | rfl | assumption) fun g17 hg => ?_
        have l_g17 := n_set hg
        have S := S.set2 hg
        clear hg
        simp only [sz0, ss0, ts0, tz0, ds0, dz0, ca0, na0, Nat.reduceAdd] at S
        have q2 := (S.bx 2 rfl).eq
        have q3 := (S.bx 3 rfl).eq
        have s4 := S.slA 4 rfl
        have len_s4 := s4.lenF
        have z4 := s4.one
        try simp (disch := (first | omega | assumption | (simp only [lc0, ln0, la0]; first | done | omega) | (simp (disch := assumption) only [go_sem, one_as, Nat.reduceBEq]; done) | fail)) only [q2, q3, len_s4, z4, i2, i7, i8, i9, go_sem, Hold.p, HoldK.k, HoldL.K, HoldL.body, Nat.reduceBEq, Nat.reduceAdd, reduceIte]
        refine Sp.bsl1 S (by first | rfl | (rw [cells_one (by assumption)]; rfl)) (by first | rfl | simp (disch := assumption) only [go_sem, cells_one, one_as]) fun p18 g18 S E_g18 l_g18 => ?_
        try simp only [cells_agg, cells_int, cells_bool, cells_ptr, cells_str] at S
        have q0 := (S.bx 0 rfl).eq
        have q3 := (S.bx 3 rfl).eq
        have q4 := (S.bx 4 rfl).eq
        have s5 := S.slA 5 rfl
        have len_s5 := s5.lenF
        have z5 := s5.one
        try simp (disch := (first | omega | assumption | (simp only [lc0, ln0, la0]; first | done | omega) | (simp (disch := assumption) only [go_sem, one_as, Nat.reduceBEq]; done) | fail)) only [q0, q3, q4, len_s5, z5, i2, i7, i8, i9, go_sem, Hold.p, HoldK.k, HoldL.K, HoldL.body, Nat.reduceBEq, Nat.reduceAdd, reduceIte]
        have S := by simpa only [mc0, mn0, List.getD_cons_zero, List.getD_cons_succ, ds0, dz0, ca0, na0] using Sp.sel S 7 [0, 5, 1, 2, 3, 4, 6] (by simp only [lc0]; omega) (by decide) (by decide)
        refine S.app1 (y := false) (b := 112) (by have := a2_len S 6 rfl; omega) ?_
        clear S
        intro v19 g19 S z19
        try simp (disch := (first | omega | assumption | (simp only [lc0, ln0, la0]; first | done | omega) | (simp (disch := assumption) only [go_sem, one_as, Nat.reduceBEq]; done) | fail)) only [i2, i7, i8, i9, f3, go_sem, Hold.p, HoldK.k, HoldL.K, HoldL.body, Nat.reduceBEq, Nat.reduceAdd, reduceIte]
        refine ⟨_, by omega, k + R / 8 * 8, fs ++ [{ p with off := p.off + (k : Int), mf := true, pay := (p.pay.take (k + R / 8 * 8)).drop k }], v19, rs ++ [pkRow { p with off := p.off + (k : Int), mf := true, pay := (p.pay.take (k + R / 8 * 8)).drop k } w12 w16], rfl, by omega, rfl, rfl, by simp; omega, ?_, ?_⟩
        · intro r hr
          rw [List.append_assoc]
          exact hcut _ (Cut.more k (by omega) hr)
        · skip
          have S := by simpa only [mc0, mn0, List.getD_cons_zero, List.getD_cons_succ, ds0, dz0, ca0, na0] using Sp.sel S 6 [2, 1, 5, 0, 4] (by simp only [lc0]; omega) (by decide) (by decide)
          have S := (pk_un (p := { p with off := p.off + (k : Int), mf := true, pay := (p.pay.take (k + R / 8 * 8)).drop k }) S z12 z16).a2one
          have S := by simpa only [mc0, mn0, List.getD_cons_zero, List.getD_cons_succ, ds0, dz0, ca0, na0] using Sp.sel S 4 [1, 0, 2, 3] (by simp only [lc0]; omega) (by decide) (by decide)
          have S := S.a2join
          have S := by simpa only [mc0, mn0, List.getD_cons_zero, List.getD_cons_succ, ds0, dz0, ca0, na0] using Sp.sel S 3 [2, 1, 0] (by simp only [lc0]; omega) (by decide) (by decide)
          exact S
end
end Go.Proofs.Ytjmmmmdpkfpojaa

set_option maxRecDepth 20000
namespace Go.Proofs.Ytjmmmmdpkfpojaa
open Go Go.IW
section
attribute [local go_sem] List.getElem?_cons_zero List.getElem?_cons_succ Option.bind_some List.map_cons List.map_nil Nat.zero_add if_true List.getD_cons_zero List.getD_cons_succ List.contains_cons List.contains_nil Bool.or_true Bool.true_or Bool.or_false Bool.false_or Bool.not_true Bool.not_false true_and and_true rowA_whole mid_get rowO_rows cellO_rows upd_ne Nat.add_assoc Nat.add_zero List.all_cons List.all_nil one_bool one_int one_str one_ptr one_nilptr one_slice one_eslice one_nilslice one_func one_iface one_niliface Bool.and_true Bool.and_self List.length_cons List.length_nil Nat.one_ne_zero Nat.succ_ne_zero if_false List.set_cons_zero List.set_cons_succ lay_nil lay_1 lay_w Option.map_some cells_one rowA_some List.drop_succ_cons List.drop_zero List.take_succ_cons List.take_zero

theorem app_e {h : IH} {L : List As} {el sz b : Nat} {K : HoldK} {rs : List (List IV)} (S : Sp h L) (hb : rs.length * b ≤ 140737488355328) (hk : ∀ v' g, Sp g (sl false el sz v' rs :: L) → v'.one = true → K.k v' g) :
    @appA h el sz b (.eslice true) (some rs) K := by
  by_cases h0 : rs = []
  · subst h0
    exact appA_none rfl (hk _ _ S.slEmpty rfl)
  · exact S.slEmpty.app (x := true) h0 (by simpa using hb) fun v' h' S' h1 _ => hk v' h' S' h1
theorem lwPacket_c (h : IH) (p : Pk) (vo vp wo wp : IV) (a : PkAt h p vo vp) (b : PkAt h p wo wp) : ICalls Try.prog 22 [.agg (pkRow p vo vp), .agg (pkRow p wo wp)] h fun r h' => r = .bool true ∧ Ext h h' := by
  refine icalls (.of ok22) (Nat.le_of_ble_eq_true rfl) ?_
  unfold c22 pkRow
  have v1 := a.o.one
  have v2 := a.p.one
  have v3 := b.o.one
  have v4 := b.p.one
  simp (disch := (first | omega | assumption | (simp only [push_n, set_n, put_n, lc0, ln0, la0, Nat.reduceAdd]; done) | (simp only [push_n, set_n, put_n, lc0, ln0, la0]; omega) | (simp only [List.all_cons, List.all_nil, one_bool, one_int, one_str, one_ptr, one_nilptr, one_slice, one_eslice, one_nilslice, one_func, one_iface, one_niliface, Bool.and_true, Bool.true_and, List.getD_cons_zero, List.getD_cons_succ, List.contains_cons, List.contains_nil, Bool.or_true, Bool.true_or, Bool.or_false, Bool.false_or, Nat.reduceBEq, *]; done) | fail)) only [v1, v2, v3, v4, go_sem, ↓act_zero, boxA_1, boxA_2, boxA_3, bslA_1, Hold.p, HoldK.k, HoldL.K, HoldL.body, Nat.reduceBEq, Nat.reduceAdd, stO_mid, push_n, set_n, push_at, push_old, set_here, set_there, set_pushT, set_pushN, set_set, stO_1s, stO_ws, boxA_s, reduceIte]
  generalize hq_g1 : IH.push h (pkObj p vo vp) = g1
  have e_g1 : Ext h g1 := by rw [← hq_g1]; exact (Ext.refl _).push _
  have l_g1 : g1.n = h.n + 1 := by rw [← hq_g1]; rfl
  have b1 : At g1 h.n (pkObj p vo vp) := by rw [← hq_g1]; exact At.new _ _
  clear hq_g1
  have a := a.ext e_g1
  have b := b.ext e_g1
  generalize hq_g2 : IH.push g1 (pkObj p wo wp) = g2
  have e_g2 : Ext g1 g2 := by rw [← hq_g2]; exact (Ext.refl _).push _
  have l_g2 : g2.n = g1.n + 1 := by rw [← hq_g2]; rfl
  have b2 : At g2 g1.n (pkObj p wo wp) := by rw [← hq_g2]; exact At.new _ _
  clear hq_g2
  have a := a.ext e_g2
  have b := b.ext e_g2
  have b1 := b1.ext e_g2
  have q1 := b1.eq
  have q2 := b2.eq
  have q3 := q2
  rw [l_g1] at q3
  have hh : ∀ x : Bool, ((x == x) != false) = true := by intro x; cases x <;> rfl
  simp (disch := (first | omega | assumption | (simp only [push_n, set_n, put_n, lc0, ln0, la0, Nat.reduceAdd]; done) | (simp only [push_n, set_n, put_n, lc0, ln0, la0]; omega) | (simp only [List.all_cons, List.all_nil, one_bool, one_int, one_str, one_ptr, one_nilptr, one_slice, one_eslice, one_nilslice, one_func, one_iface, one_niliface, Bool.and_true, Bool.true_and, List.getD_cons_zero, List.getD_cons_succ, List.contains_cons, List.contains_nil, Bool.or_true, Bool.true_or, Bool.or_false, Bool.false_or, Nat.reduceBEq, *]; done) | fail)) only [q1, q2, decide_true, hh, go_sem, ↓act_zero, boxA_1, boxA_2, boxA_3, bslA_1, Hold.p, HoldK.k, HoldL.K, HoldL.body, Nat.reduceBEq, Nat.reduceAdd, stO_mid, push_n, set_n, push_at, push_old, set_here, set_there, set_pushT, set_pushN, set_set, stO_1s, stO_ws, boxA_s, reduceIte]
  refine callA_of (lwSame_c g2 vo wo p.opts p.opts a.o b.o) ?_
  rintro r3 g3 ⟨rfl, rfl⟩
  simp (disch := (first | omega | assumption | (simp only [push_n, set_n, put_n, lc0, ln0, la0, Nat.reduceAdd]; done) | (simp only [push_n, set_n, put_n, lc0, ln0, la0]; omega) | (simp only [List.all_cons, List.all_nil, one_bool, one_int, one_str, one_ptr, one_nilptr, one_slice, one_eslice, one_nilslice, one_func, one_iface, one_niliface, Bool.and_true, Bool.true_and, List.getD_cons_zero, List.getD_cons_succ, List.contains_cons, List.contains_nil, Bool.or_true, Bool.true_or, Bool.or_false, Bool.false_or, Nat.reduceBEq, *]; done) | fail)) only [q1, q2, q3, decide_true, hh, Bool.true_and, go_sem, ↓act_zero, boxA_1, boxA_2, boxA_3, bslA_1, Hold.p, HoldK.k, HoldL.K, HoldL.body, Nat.reduceBEq, Nat.reduceAdd, stO_mid, push_n, set_n, push_at, push_old, set_here, set_there, set_pushT, set_pushN, set_set, stO_1s, stO_ws, boxA_s, reduceIte]
  refine callA_of (lwSame_c _ vp wp p.pay p.pay a.p b.p) ?_
  rintro r4 g4 ⟨rfl, rfl⟩
  simp (disch := (first | omega | assumption | (simp only [push_n, set_n, put_n, lc0, ln0, la0, Nat.reduceAdd]; done) | (simp only [push_n, set_n, put_n, lc0, ln0, la0]; omega) | (simp only [List.all_cons, List.all_nil, one_bool, one_int, one_str, one_ptr, one_nilptr, one_slice, one_eslice, one_nilslice, one_func, one_iface, one_niliface, Bool.and_true, Bool.true_and, List.getD_cons_zero, List.getD_cons_succ, List.contains_cons, List.contains_nil, Bool.or_true, Bool.true_or, Bool.or_false, Bool.false_or, Nat.reduceBEq, *]; done) | fail)) only [q1, q2, q3, decide_true, go_sem, ↓act_zero, boxA_1, boxA_2, boxA_3, bslA_1, Hold.p, HoldK.k, HoldL.K, HoldL.body, Nat.reduceBEq, Nat.reduceAdd, stO_mid, push_n, set_n, push_at, push_old, set_here, set_there, set_pushT, set_pushN, set_set, stO_1s, stO_ws, boxA_s, reduceIte]
  exact e_g1.trans e_g2
structure PksAt (h : IH) (v : IV) (rs : List (List IV)) (ps : List Pk) : Prop where
  s : SlR h 11 v rs
  n : rs.length = ps.length
  r : ∀ (i : Nat) (p : Pk), ps[i]? = some p → ∃ vo vp, rs[i]? = some (pkRow p vo vp) ∧ PkAt h p vo vp
theorem PksAt.pk {h : IH} {v : IV} {rs : List (List IV)} {ps : List Pk} (A : PksAt h v rs ps) {k : Nat} {p : Pk} {vo vp : IV} (hr : rs[k]? = some (pkRow p vo vp)) (hp : ps[k]? = some p) : PkAt h p vo vp := by
  obtain ⟨vo', vp', h1, h2⟩ := A.r k p hp
  rw [hr] at h1
  simp only [pkRow, Option.some.injEq, List.cons.injEq, and_true, true_and] at h1
  rw [h1.1, h1.2]
  exact h2
def takeOp (p : Pk) : Op := ⟨1, 0, p⟩
def opR (r : List IV) (o : Op) : As := exA fun v : IV × IV => stars (fact (r = opRow o v.1 v.2 ∧ v.1.one = true ∧ v.2.one = true)) (stars (byt v.1 o.pk.opts) (byt v.2 o.pk.pay))
theorem op_un {h : IH} {L : List As} {o : Op} {vo vp : IV} (S : Sp h (byt vo o.pk.opts :: byt vp o.pk.pay :: L)) (h1 : vo.one = true) (h2 : vp.one = true) : Sp h (opR (opRow o vo vp) o :: L) := by
  have S := S.unstar
  have S := S.unfact (p := opRow o vo vp = opRow o vo vp ∧ vo.one = true ∧ vp.one = true) ⟨rfl, h1, h2⟩
  exact Sp.unex (F := fun v : IV × IV => stars (fact (opRow o vo vp = opRow o v.1 v.2 ∧ v.1.one = true ∧ v.2.one = true)) (stars (byt v.1 o.pk.opts) (byt v.2 o.pk.pay))) (vo, vp) S.unstar
theorem lwTakes_c {h : IH} {L : List As} (S : Sp h L) (vl : IV) (rs : List (List IV)) (ps : List Pk) (hn : ps.length ≤ 1048576) (hz : ∀ p ∈ ps, p.opts.length + p.pay.length ≤ 1048576) (hv : ∀ g, Sp g L → PksAt g vl rs ps) :
    ICalls Try.prog 20 [vl] h fun r h' => ∃ ors, r.one = true ∧ Sp h' (sl false 58 13 r ors :: all2 opR ors (ps.map takeOp) :: L) := by
  refine icalls (.of ok20) (Nat.le_of_ble_eq_true rfl) ?_
  unfold c20
  have hlen := (hv h S).s.lenF
  rw [(hv h S).n] at hlen
  try simp (disch := (first | omega | assumption | (simp only [lc0, ln0, la0]; first | done | omega) | (simp (disch := assumption) only [go_sem, one_as, Nat.reduceBEq]; done) | fail)) only [go_sem, Hold.p, HoldK.k, HoldL.K, HoldL.body, Nat.reduceBEq, Nat.reduceAdd, reduceIte]
  refine loop_at (fun n e g => ∃ (k : Nat) (v : IV) (ors : List (List IV)), n = ps.length - k ∧ k ≤ ps.length ∧ e 0 = vl ∧ e 3 = v ∧ e 4 = .int .i64 (k : Nat) ∧ v.one = true ∧
    Sp g (sl false 58 13 v ors :: all2 opR ors ((ps.take k).map takeOp) :: L)) ps.length ?_ ?_
  · refine ⟨0, .eslice true, [], by omega, by omega, ?_⟩
    try simp (disch := (first | omega | assumption | (simp only [lc0, ln0, la0]; first | done | omega) | (simp (disch := assumption) only [go_sem, one_as, Nat.reduceBEq]; done) | fail)) only [go_sem, Hold.p, HoldK.k, HoldL.K, HoldL.body, Nat.reduceBEq, Nat.reduceAdd, reduceIte]
    exact ⟨rfl, (S.a2nil (R := opR)).slEmpty⟩
  · clear S
    rintro n e g ⟨k, v, ors, rfl, hk, i0, i3, i4, vo1, S⟩
    have s0 := S.slA 0 rfl
    have len_s0 := s0.lenF
    have z0 := s0.one
    try simp (disch := (first | omega | assumption | (simp only [lc0, ln0, la0]; first | done | omega) | (simp (disch := assumption) only [go_sem, one_as, Nat.reduceBEq]; done) | fail)) only [len_s0, z0, i0, i3, i4, hlen, go_sem, Hold.p, HoldK.k, HoldL.K, HoldL.body, Nat.reduceBEq, Nat.reduceAdd, reduceIte]
    refine test_dec (fun hb => ?_) (fun hb => ?_)
    · obtain ⟨p, hp⟩ : ∃ q, ps[k]? = some q := ⟨_, List.getElem?_eq_getElem (by omega : k < ps.length)⟩
      have hzp := hz p (List.mem_of_getElem? hp)
      have w1 : wr .i64 ((k : Int) + 1) = ((k + 1 : Nat) : Int) := by rw [wr64 _ (by omega)]; rfl
      obtain ⟨vo, vp, hr, ha⟩ := (hv g S.drop.drop).r k p hp
      obtain ⟨l, j, hia, hll, hrow⟩ := (hv g S.drop.drop).s.at hr .i64
      unfold pkRow at hrow
      have y1 := ha.o.one
      have y2 := ha.p.one
      have hal := a2_len S 1 rfl
      rw [List.length_map, List.length_take] at hal
      have s0 := S.slA 0 rfl
      have len_s0 := s0.lenF
      have z0 := s0.one
      try simp (disch := (first | omega | assumption | (simp only [lc0, ln0, la0]; first | done | omega) | (simp (disch := assumption) only [go_sem, one_as, Nat.reduceBEq]; done) | fail)) only [len_s0, z0, i0, i3, i4, hia, hrow, go_sem, Hold.p, HoldK.k, HoldL.K, HoldL.body, Nat.reduceBEq, Nat.reduceAdd, reduceIte]
      refine Sp.zero S fun p5 g5 S E_g5 l_g5 => ?_
      have q0 := (S.bx 0 rfl).eq
      have s1 := S.slA 1 rfl
      have len_s1 := s1.lenF
      have z1 := s1.one
      try simp (disch := (first | omega | assumption | (simp only [lc0, ln0, la0]; first | done | omega) | (simp (disch := assumption) only [go_sem, one_as, Nat.reduceBEq]; done) | fail)) only [q0, len_s1, z1, i0, i3, i4, y1, y2, go_sem, Hold.p, HoldK.k, HoldL.K, HoldL.body, Nat.reduceBEq, Nat.reduceAdd, reduceIte]
      refine stw_of rfl rfl (by first | rfl | simp (disch := assumption) only [go_sem, cells_one, one_as]) fun g6 hg => ?_
      have l_g6 := n_set hg
      have S := S.set0 hg
      clear hg
      have a6 := (hv g6 S.drop.drop.drop).pk hr hp
      have c6 := a6.p.src
      have q0 := (S.bx 0 rfl).eq
      have s1 := S.slA 1 rfl
      have len_s1 := s1.lenF
      have z1 := s1.one
      try simp (disch := (first | omega | assumption | (simp only [lc0, ln0, la0]; first | done | omega) | (simp (disch := assumption) only [go_sem, one_as, Nat.reduceBEq]; done) | fail)) only [q0, len_s1, z1, i0, i3, i4, c6, go_sem, Hold.p, HoldK.k, HoldL.K, HoldL.body, Nat.reduceBEq, Nat.reduceAdd, reduceIte]
      refine app_e S (by rw [strRows_len]; omega) ?_
      clear S
      intro w7 g7 S z7
      have q1 := (S.bx 1 rfl).eq
      have s2 := S.slA 2 rfl
      have len_s2 := s2.lenF
      have z2 := s2.one
      try simp (disch := (first | omega | assumption | (simp only [lc0, ln0, la0]; first | done | omega) | (simp (disch := assumption) only [go_sem, one_as, Nat.reduceBEq]; done) | fail)) only [q1, len_s2, z2, i0, i3, i4, go_sem, Hold.p, HoldK.k, HoldL.K, HoldL.body, Nat.reduceBEq, Nat.reduceAdd, reduceIte]
      refine st1_of (Nat.le_of_ble_eq_true rfl) (by first | rfl | assumption) fun g8 hg => ?_
      have l_g8 := n_set hg
      have S := S.set1 hg
      clear hg
      simp only [sz0, ss0, ts0, tz0, ds0, dz0, ca0, na0, Nat.reduceAdd] at S
      have a8 := (hv g8 S.drop.drop.drop.drop).pk hr hp
      have c8 := a8.o.src
      have q1 := (S.bx 1 rfl).eq
      have s2 := S.slA 2 rfl
      have len_s2 := s2.lenF
      have z2 := s2.one
      try simp (disch := (first | omega | assumption | (simp only [lc0, ln0, la0]; first | done | omega) | (simp (disch := assumption) only [go_sem, one_as, Nat.reduceBEq]; done) | fail)) only [q1, len_s2, z2, i0, i3, i4, c8, go_sem, Hold.p, HoldK.k, HoldL.K, HoldL.body, Nat.reduceBEq, Nat.reduceAdd, reduceIte]
      refine app_e S (by rw [strRows_len]; omega) ?_
      clear S
      intro w9 g9 S z9
      have q2 := (S.bx 2 rfl).eq
      have s3 := S.slA 3 rfl
      have len_s3 := s3.lenF
      have z3 := s3.one
      try simp (disch := (first | omega | assumption | (simp only [lc0, ln0, la0]; first | done | omega) | (simp (disch := assumption) only [go_sem, one_as, Nat.reduceBEq]; done) | fail)) only [q2, len_s3, z3, i0, i3, i4, go_sem, Hold.p, HoldK.k, HoldL.K, HoldL.body, Nat.reduceBEq, Nat.reduceAdd, reduceIte]
      refine st1_of (Nat.le_of_ble_eq_true rfl) (by first | rfl | assumption) fun g10 hg => ?_
      have l_g10 := n_set hg
      have S := S.set2 hg
      clear hg
      simp only [sz0, ss0, ts0, tz0, ds0, dz0, ca0, na0, Nat.reduceAdd] at S
      have q2 := (S.bx 2 rfl).eq
      have s3 := S.slA 3 rfl
      have len_s3 := s3.lenF
      have z3 := s3.one
      try simp (disch := (first | omega | assumption | (simp only [lc0, ln0, la0]; first | done | omega) | (simp (disch := assumption) only [go_sem, one_as, Nat.reduceBEq]; done) | fail)) only [q2, len_s3, z3, i0, i3, i4, lay_p, ca0, na0, go_sem, Hold.p, HoldK.k, HoldL.K, HoldL.body, Nat.reduceBEq, Nat.reduceAdd, reduceIte]
      refine Sp.bsl1 S (by first | rfl | (rw [cells_one (by assumption)]; rfl)) (by first | rfl | simp (disch := assumption) only [go_sem, cells_one, one_as]) fun p11 g11 S E_g11 l_g11 => ?_
      try simp only [cells_agg, cells_int, cells_bool, cells_ptr, cells_str] at S
      have q0 := (S.bx 0 rfl).eq
      have q3 := (S.bx 3 rfl).eq
      have s4 := S.slA 4 rfl
      have len_s4 := s4.lenF
      have z4 := s4.one
      try simp (disch := (first | omega | assumption | (simp only [lc0, ln0, la0]; first | done | omega) | (simp (disch := assumption) only [go_sem, one_as, Nat.reduceBEq]; done) | fail)) only [q0, q3, len_s4, z4, i0, i3, i4, go_sem, Hold.p, HoldK.k, HoldL.K, HoldL.body, Nat.reduceBEq, Nat.reduceAdd, reduceIte]
      have S := by simpa only [mc0, mn0, List.getD_cons_zero, List.getD_cons_succ, ds0, dz0, ca0, na0] using Sp.sel S 6 [0, 4, 1, 2, 3, 5] (by simp only [lc0]; omega) (by decide) (by decide)
      refine S.app1 (y := false) (b := 128) (by omega) ?_
      clear S
      intro v12 g12 S z12
      try simp (disch := (first | omega | assumption | (simp only [lc0, ln0, la0]; first | done | omega) | (simp (disch := assumption) only [go_sem, one_as, Nat.reduceBEq]; done) | fail)) only [i0, i3, i4, w1, go_sem, Hold.p, HoldK.k, HoldL.K, HoldL.body, Nat.reduceBEq, Nat.reduceAdd, reduceIte]
      refine ⟨_, by omega, k + 1, v12, ors ++ [opRow (takeOp p) w9 w7], rfl, by omega, rfl, rfl, z12, ?_⟩
      rw [List.take_add_one, hp, Option.toList, List.map_append]
      have S := by simpa only [mc0, mn0, List.getD_cons_zero, List.getD_cons_succ, ds0, dz0, ca0, na0] using Sp.sel S 5 [1, 2, 4, 0] (by simp only [lc0]; omega) (by decide) (by decide)
      have S := (op_un (o := takeOp p) S z9 z7).a2one
      have S := by simpa only [mc0, mn0, List.getD_cons_zero, List.getD_cons_succ, ds0, dz0, ca0, na0] using Sp.sel S 3 [1, 0, 2] (by simp only [lc0]; omega) (by decide) (by decide)
      have S := S.a2join
      have S := by simpa only [mc0, mn0, List.getD_cons_zero, List.getD_cons_succ, ds0, dz0, ca0, na0] using Sp.sel S 2 [1, 0] (by simp only [lc0]; omega) (by decide) (by decide)
      exact S
    · skip
      try simp (disch := (first | omega | assumption | (simp only [lc0, ln0, la0]; first | done | omega) | (simp (disch := assumption) only [go_sem, one_as, Nat.reduceBEq]; done) | fail)) only [i0, i3, i4, go_sem, Hold.p, HoldK.k, HoldL.K, HoldL.body, Nat.reduceBEq, Nat.reduceAdd, reduceIte]
      rw [List.take_of_length_le (by omega)] at S
      exact ⟨ors, vo1, S⟩
end
end Go.Proofs.Ytjmmmmdpkfpojaa

set_option maxRecDepth 20000
namespace Go.Proofs.Ytjmmmmdpkfpojaa
open Go Go.IW
section
attribute [local go_sem] List.getElem?_cons_zero List.getElem?_cons_succ Option.bind_some List.map_cons List.map_nil Nat.zero_add if_true List.getD_cons_zero List.getD_cons_succ List.contains_cons List.contains_nil Bool.or_true Bool.true_or Bool.or_false Bool.false_or Bool.not_true Bool.not_false true_and and_true rowA_whole mid_get rowO_rows cellO_rows upd_ne Nat.add_assoc Nat.add_zero List.all_cons List.all_nil one_bool one_int one_str one_ptr one_nilptr one_slice one_eslice one_nilslice one_func one_iface one_niliface Bool.and_true Bool.and_self List.length_cons List.length_nil Nat.one_ne_zero Nat.succ_ne_zero if_false List.set_cons_zero List.set_cons_succ lay_nil lay_1 lay_w Option.map_some cells_one rowA_some List.drop_succ_cons List.drop_zero List.take_succ_cons List.take_zero

theorem pkRow_one {p : Pk} {vo vp : IV} (h1 : vo.one = true) (h2 : vp.one = true) : (pkRow p vo vp).all IV.one = true := all_cons_one rfl (all_cons_one rfl (all_cons_one rfl (all_cons_one rfl (all_cons_one rfl (all_cons_one rfl (all_cons_one rfl (all_cons_one rfl (all_cons_one rfl (all_cons_one h1 (all_cons_one h2 rfl))))))))))
theorem lwShuffle_c {h h0 : IH} {L : List As} {b : Nat} {v : IV} {bs : Txt} (W : SrcAt h b v bs.length (old h0 :: L)) (hv : SlR h0 1 v (strRows bs)) (hl : bs.length ≤ 1048576) (vl : IV) (rs : List (List IV)) (hs : SlR h 11 vl rs)
    (hn : rs.length ≤ 1048576) (hr : ∀ r ∈ rs, ∃ p vo vp, r = pkRow p vo vp ∧ vo.one = true ∧ vp.one = true) :
    ICalls Try.prog 21 [.ptr b 0 0, vl] h fun r h' => ∃ rs', r.one = true ∧ rs'.Perm rs ∧ SrcAt h' b v bs.length (old h0 :: sl false 44 11 r rs' :: L) := by
  refine icalls (.of ok21) (Nat.le_of_ble_eq_true rfl) ?_
  unfold c21
  have hs1 := hs.one
  have hsrc := hs.src
  obtain ⟨pos, st, w1, w2, w3, S⟩ := W
  have q0 := (S.bx 0 rfl).eq
  try simp (disch := (first | omega | assumption | (simp only [lc0, ln0, la0]; first | done | omega) | (simp (disch := assumption) only [go_sem, one_as, Nat.reduceBEq]; done) | fail)) only [q0, hsrc, go_sem, Hold.p, HoldK.k, HoldL.K, HoldL.body, Nat.reduceBEq, Nat.reduceAdd, reduceIte]
  refine app_e S (by omega) ?_
  clear S
  intro v5 g5 S z5
  have m1 : wr .i64 ((rs.length : Int) - 1) = (rs.length : Int) - 1 := wr64 _ (by omega)
  by_cases h0' : rs = []
  · subst h0'
    have s0 := S.slA 0 rfl
    have len_s0 := s0.lenF
    have z0 := s0.one
    have q1 := (S.bx 1 rfl).eq
    try simp (disch := (first | omega | assumption | (simp only [lc0, ln0, la0]; first | done | omega) | (simp (disch := assumption) only [go_sem, one_as, Nat.reduceBEq]; done) | fail)) only [len_s0, z0, q1, m1, go_sem, Hold.p, HoldK.k, HoldL.K, HoldL.body, Nat.reduceBEq, Nat.reduceAdd, reduceIte]
    refine loop_at (fun n e g => e 5 = v5 ∧ e 6 = .int .i64 (-1) ∧ g = g5) 0 ?_ ?_
    · skip
      try simp (disch := (first | omega | assumption | (simp only [lc0, ln0, la0]; first | done | omega) | (simp (disch := assumption) only [go_sem, one_as, Nat.reduceBEq]; done) | fail)) only [go_sem, Hold.p, HoldK.k, HoldL.K, HoldL.body, Nat.reduceBEq, Nat.reduceAdd, reduceIte]
      exact rfl
    · rintro n e g ⟨i5, i6, rfl⟩
      have s0 := S.slA 0 rfl
      have len_s0 := s0.lenF
      have z0 := s0.one
      have q1 := (S.bx 1 rfl).eq
      try simp (disch := (first | omega | assumption | (simp only [lc0, ln0, la0]; first | done | omega) | (simp (disch := assumption) only [go_sem, one_as, Nat.reduceBEq]; done) | fail)) only [len_s0, z0, q1, i5, i6, go_sem, Hold.p, HoldK.k, HoldL.K, HoldL.body, Nat.reduceBEq, Nat.reduceAdd, reduceIte]
      refine test_dec (fun hb => by omega) (fun hb => ?_)
      have s0 := S.slA 0 rfl
      have len_s0 := s0.lenF
      have z0 := s0.one
      have q1 := (S.bx 1 rfl).eq
      try simp (disch := (first | omega | assumption | (simp only [lc0, ln0, la0]; first | done | omega) | (simp (disch := assumption) only [go_sem, one_as, Nat.reduceBEq]; done) | fail)) only [len_s0, z0, q1, i5, i6, go_sem, Hold.p, HoldK.k, HoldL.K, HoldL.body, Nat.reduceBEq, Nat.reduceAdd, reduceIte]
      have S := by simpa only [mc0, mn0, List.getD_cons_zero, List.getD_cons_succ, ds0, dz0, ca0, na0] using Sp.sel S 3 [1, 2, 0] (by simp only [lc0]; omega) (by decide) (by decide)
      exact ⟨[], .refl _, pos, st, w1, w2, w3, S⟩
  · have S0 := S
    clear S
    obtain ⟨lo, rfl, S⟩ := S0.slBox h0'
    have hpos : 0 < rs.length := List.length_pos_iff.2 h0'
    have q0 := (S.bx 0 rfl).eq
    have q1 := (S.bx 1 rfl).eq
    try simp (disch := (first | omega | assumption | (simp only [lc0, ln0, la0]; first | done | omega) | (simp (disch := assumption) only [go_sem, one_as, Nat.reduceBEq]; done) | fail)) only [q0, q1, m1, go_sem, Hold.p, HoldK.k, HoldL.K, HoldL.body, Nat.reduceBEq, Nat.reduceAdd, reduceIte]
    refine loop_at (fun n e g => ∃ (i : Nat) (R : List (List IV)), i = n ∧ i < rs.length ∧ e 0 = .ptr b 0 0 ∧ e 5 = .slice lo 0 rs.length ∧ e 6 = .int .i64 (i : Nat) ∧ R.Perm rs ∧
      SrcAt g b v bs.length (old h0 :: box lo (.rows R 44 11 false) :: L)) (rs.length - 1) ?_ ?_
    · refine ⟨rs.length - 1, rs, rfl, by omega, ?_⟩
      have q0 := (S.bx 0 rfl).eq
      have q1 := (S.bx 1 rfl).eq
      try simp (disch := (first | omega | assumption | (simp only [lc0, ln0, la0]; first | done | omega) | (simp (disch := assumption) only [go_sem, one_as, Nat.reduceBEq]; done) | fail)) only [q0, q1, go_sem, Hold.p, HoldK.k, HoldL.K, HoldL.body, Nat.reduceBEq, Nat.reduceAdd, reduceIte]
      refine ⟨by congr 1; omega, .refl _, pos, st, w1, w2, w3, ?_⟩
      have S := by simpa only [mc0, mn0, List.getD_cons_zero, List.getD_cons_succ, ds0, dz0, ca0, na0] using Sp.sel S 3 [1, 2, 0] (by simp only [lc0]; omega) (by decide) (by decide)
      exact S
    · clear S
      rintro n e g ⟨i, R, rfl, hi, i0, i5, i6, hp, W⟩
      have hRl := hp.length_eq
      try simp (disch := (first | omega | assumption | (simp only [lc0, ln0, la0]; first | done | omega) | (simp (disch := assumption) only [go_sem, one_as, Nat.reduceBEq]; done) | fail)) only [i0, i5, i6, go_sem, Hold.p, HoldK.k, HoldL.K, HoldL.body, Nat.reduceBEq, Nat.reduceAdd, reduceIte]
      refine test_dec (fun hb => ?_) (fun hb => ?_)
      · have x1 : wr .i64 ((i : Int) + 1) = (i : Int) + 1 := wr64 _ (by omega)
        have x2 : wr .i64 ((i : Int) - 1) = ((i - 1 : Nat) : Int) := by rw [wr64 _ (by omega)]; omega
        try simp (disch := (first | omega | assumption | (simp only [lc0, ln0, la0]; first | done | omega) | (simp (disch := assumption) only [go_sem, one_as, Nat.reduceBEq]; done) | fail)) only [i0, i5, i6, x1, go_sem, Hold.p, HoldK.k, HoldL.K, HoldL.body, Nat.reduceBEq, Nat.reduceAdd, reduceIte]
        refine callA_of (lwNext_c W hv hl ((i : Int) + 1) (by omega)) ?_
        clear W
        rintro r7 g7 ⟨x, rfl, a7, b7, W⟩
        obtain ⟨k, rfl⟩ := Int.eq_ofNat_of_zero_le a7
        have hk : k < rs.length := by have := b7 (by omega); omega
        obtain ⟨pos, st, w1, w2, w3, S⟩ := W
        have ioi : iadrO (IObj.rows R 44 11 false) 11 lo 0 rs.length (i : Int) = some (.ptr lo i 0) := by rw [iadrO_nat (by omega)]; simp
        have iok : iadrO (IObj.rows R 44 11 false) 11 lo 0 rs.length (k : Int) = some (.ptr lo k 0) := by rw [iadrO_nat (by omega)]; simp
        obtain ⟨p1, vo1, vp1, e1, y1, y2⟩ := hr R[i] (hp.mem_iff.1 (List.getElem_mem _))
        obtain ⟨p2, vo2, vp2, e2, y3, y4⟩ := hr R[k] (hp.mem_iff.1 (List.getElem_mem _))
        have hri : R[i]? = some (pkRow p1 vo1 vp1) := by rw [List.getElem?_eq_getElem (by omega), e1]
        have hrk : R[k]? = some (pkRow p2 vo2 vp2) := by rw [List.getElem?_eq_getElem (by omega), e2]
        have hperm : ((R.set i (pkRow p2 vo2 vp2)).set k (pkRow p1 vo1 vp1)).Perm R := by
          have := @List.set_set_perm (List IV) R i k (by omega) (by omega)
          rwa [e1, e2] at this
        unfold pkRow at hri hrk
        have q0 := (S.bx 0 rfl).eq
        have q2 := (S.bx 2 rfl).eq
        try simp (disch := (first | omega | assumption | (simp only [lc0, ln0, la0]; first | done | omega) | (simp (disch := assumption) only [go_sem, one_as, Nat.reduceBEq]; done) | fail)) only [q0, q2, i0, i5, i6, iadrF_sl, ioi, hri, go_sem, Hold.p, HoldK.k, HoldL.K, HoldL.body, Nat.reduceBEq, Nat.reduceAdd, reduceIte]
        refine Sp.zero S fun p8 g8 S E_g8 l_g8 => ?_
        have q0 := (S.bx 0 rfl).eq
        have q1 := (S.bx 1 rfl).eq
        have q3 := (S.bx 3 rfl).eq
        try simp (disch := (first | omega | assumption | (simp only [lc0, ln0, la0]; first | done | omega) | (simp (disch := assumption) only [go_sem, one_as, Nat.reduceBEq]; done) | fail)) only [q0, q1, q3, i0, i5, i6, y1, y2, go_sem, Hold.p, HoldK.k, HoldL.K, HoldL.body, Nat.reduceBEq, Nat.reduceAdd, reduceIte]
        refine stw_of rfl rfl (by first | rfl | simp (disch := assumption) only [go_sem, cells_one, one_as]) fun g9 hg => ?_
        have l_g9 := n_set hg
        have S := S.set0 hg
        clear hg
        have q0 := (S.bx 0 rfl).eq
        have q1 := (S.bx 1 rfl).eq
        have q3 := (S.bx 3 rfl).eq
        try simp (disch := (first | omega | assumption | (simp only [lc0, ln0, la0]; first | done | omega) | (simp (disch := assumption) only [go_sem, one_as, Nat.reduceBEq]; done) | fail)) only [q0, q1, q3, i0, i5, i6, iadrF_sl, iok, hrk, go_sem, Hold.p, HoldK.k, HoldL.K, HoldL.body, Nat.reduceBEq, Nat.reduceAdd, reduceIte]
        refine Sp.zero S fun p9 g10 S E_g10 l_g10 => ?_
        have q0 := (S.bx 0 rfl).eq
        have q1 := (S.bx 1 rfl).eq
        have q2 := (S.bx 2 rfl).eq
        have q4 := (S.bx 4 rfl).eq
        try simp (disch := (first | omega | assumption | (simp only [lc0, ln0, la0]; first | done | omega) | (simp (disch := assumption) only [go_sem, one_as, Nat.reduceBEq]; done) | fail)) only [q0, q1, q2, q4, i0, i5, i6, y3, y4, go_sem, Hold.p, HoldK.k, HoldL.K, HoldL.body, Nat.reduceBEq, Nat.reduceAdd, reduceIte]
        refine stw_of rfl rfl (by first | rfl | simp (disch := assumption) only [go_sem, cells_one, one_as]) fun g11 hg => ?_
        have l_g11 := n_set hg
        have S := S.set0 hg
        clear hg
        have q0 := (S.bx 0 rfl).eq
        have q1 := (S.bx 1 rfl).eq
        have q2 := (S.bx 2 rfl).eq
        have q4 := (S.bx 4 rfl).eq
        try simp (disch := (first | omega | assumption | (simp only [lc0, ln0, la0]; first | done | omega) | (simp (disch := assumption) only [go_sem, one_as, Nat.reduceBEq]; done) | fail)) only [q0, q1, q2, q4, i0, i5, i6, iadrF_sl, ioi, go_sem, Hold.p, HoldK.k, HoldL.K, HoldL.body, Nat.reduceBEq, Nat.reduceAdd, reduceIte]
        refine str_of hri rfl rfl (pkRow_one (p := p2) y3 y4) fun g12 hg => ?_
        have S := S.set4 hg
        clear hg
        have hrk2 : ∃ row, (R.set i (pkRow p2 vo2 vp2))[k]? = some row ∧ row.length = 11 := by
          rw [List.getElem?_set]
          split
          · rw [if_pos (by omega)]; exact ⟨_, rfl, rfl⟩
          · rw [hrk]; exact ⟨_, rfl, rfl⟩
        obtain ⟨row, hrk2, hrl⟩ := hrk2
        have iok2 : iadrO (IObj.rows (R.set i (pkRow p2 vo2 vp2)) 44 11 false) 11 lo 0 rs.length (k : Int) = some (.ptr lo k 0) := by rw [iadrO_nat (by omega)]; simp
        unfold pkRow at hrk2 iok2 hperm
        have q0 := (S.bx 0 rfl).eq
        have q1 := (S.bx 1 rfl).eq
        have q2 := (S.bx 2 rfl).eq
        have q4 := (S.bx 4 rfl).eq
        try simp (disch := (first | omega | assumption | (simp only [lc0, ln0, la0]; first | done | omega) | (simp (disch := assumption) only [go_sem, one_as, Nat.reduceBEq]; done) | fail)) only [q0, q1, q2, q4, i0, i5, i6, iadrF_sl, iok2, go_sem, Hold.p, HoldK.k, HoldL.K, HoldL.body, Nat.reduceBEq, Nat.reduceAdd, reduceIte]
        refine str_of hrk2 rfl hrl (pkRow_one (p := p1) y1 y2) fun g13 hg => ?_
        have S := S.set4 hg
        clear hg
        have q0 := (S.bx 0 rfl).eq
        have q1 := (S.bx 1 rfl).eq
        have q2 := (S.bx 2 rfl).eq
        have q4 := (S.bx 4 rfl).eq
        try simp (disch := (first | omega | assumption | (simp only [lc0, ln0, la0]; first | done | omega) | (simp (disch := assumption) only [go_sem, one_as, Nat.reduceBEq]; done) | fail)) only [q0, q1, q2, q4, i0, i5, i6, x2, go_sem, Hold.p, HoldK.k, HoldL.K, HoldL.body, Nat.reduceBEq, Nat.reduceAdd, reduceIte]
        have S := by simpa only [mc0, mn0, List.getD_cons_zero, List.getD_cons_succ, ds0, dz0, ca0, na0] using Sp.sel S 5 [2, 3, 4] (by simp only [lc0]; omega) (by decide) (by decide)
        exact ⟨i - 1, by omega, i - 1, _, rfl, by omega, rfl, hperm.trans hp, pos, st, w1, w2, w3, S⟩
      · obtain ⟨pos, st, w1, w2, w3, S⟩ := W
        have S := by simpa only [mc0, mn0, List.getD_cons_zero, List.getD_cons_succ, ds0, dz0, ca0, na0] using Sp.sel S 3 [2, 0, 1] (by simp only [lc0]; omega) (by decide) (by decide)
        have S := S.boxSl (x := false) (n := rs.length) hRl (.inr (by intro e; rw [e] at hRl; simp at hRl; omega))
        have s0 := S.slA 0 rfl
        have len_s0 := s0.lenF
        have z0 := s0.one
        have q1 := (S.bx 1 rfl).eq
        try simp (disch := (first | omega | assumption | (simp only [lc0, ln0, la0]; first | done | omega) | (simp (disch := assumption) only [go_sem, one_as, Nat.reduceBEq]; done) | fail)) only [len_s0, z0, q1, i0, i5, i6, go_sem, Hold.p, HoldK.k, HoldL.K, HoldL.body, Nat.reduceBEq, Nat.reduceAdd, reduceIte]
        have S := by simpa only [mc0, mn0, List.getD_cons_zero, List.getD_cons_succ, ds0, dz0, ca0, na0] using Sp.sel S 3 [1, 2, 0] (by simp only [lc0]; omega) (by decide) (by decide)
        exact ⟨R, hp, pos, st, w1, w2, w3, S⟩
end
end Go.Proofs.Ytjmmmmdpkfpojaa

set_option maxRecDepth 20000
namespace Go.Proofs
open Go.Shelf
def Try.delRen : Go.Shelf.Ren := ⟨fun | 45 => 72 | n => n, fun | 22 => 74 | 23 => 105 | n => n, fun | n => n⟩
theorem Try.delLays : SlLaysE.n45 Try.prog Try.delRen := {
  mixed := by kernel_rfl
  f45 := ⟨Try.f72.name, by kernel_rfl, Try.func72.trans (congrArg some (by kernel_rfl))⟩
  t0 := Try.underlying0
  a0 := Try.isAgg0
  z0 := Try.sizeOf0
  v0 := Try.zeroValue0
  t3 := Try.underlying3
  a3 := Try.isAgg3
  z3 := Try.sizeOf3
  v3 := Try.zeroValue3
  t4 := Try.underlying4
  a4 := Try.isAgg4
  z4 := Try.sizeOf4
  v4 := Try.zeroValue4
  t22 := Try.underlying74
  a22 := Try.isAgg74
  z22 := Try.sizeOf74
  v22 := Try.zeroValue74
  a23 := Try.isAgg105
  z23 := Try.sizeOf105 }
end Go.Proofs
namespace Go.Proofs.Ytjmmmmdpkfpojaa
open Go Go.IW
theorem mkInfo : ∃ i0, Try.prog.info? 105 = some i0 ∧ i0.size = 1 := by
  have h : tsz Try.prog 105 = some 1 := by kernel_rfl
  unfold tsz at h
  rw [Option.map_eq_some_iff] at h
  exact h
theorem delete_c {x : Bool} {h : IH} {L : List As} {v : IV} {rs : List (List IV)} {i j : Nat} (S : Sp h (sl x 105 1 v rs :: L)) (hne : rs ≠ []) (hij : i ≤ j) (hj : j ≤ rs.length) :
    ICalls Try.prog 72 [v, .int .i64 (i : Nat), .int .i64 (j : Nat)] h fun r h' => Sp h' (sl true 105 1 r (rs.take i ++ rs.drop j) :: L) ∧ r.one = true :=
  S.delete (Go.Proofs.enters_of Try.func72 (by kernel_rfl) rfl) ⟨.pointer none, rfl⟩
    (fun blk cap i j d w h1 h2 h3 h4 h5 => Go.Proofs.AnyE.slices_Delete Try.delLays V1.enc (fun x => x.2) ⟨.pointer none, rfl⟩ Try.zeroValue105 _ mkInfo.choose_spec.1 mkInfo.choose_spec.2 blk 0 cap i j d w h1 h2 h3 h4 h5) hne hij hj
end Go.Proofs.Ytjmmmmdpkfpojaa

set_option maxRecDepth 20000
namespace Go.Proofs.Ytjmmmmdpkfpojaa
open Go Go.IW
section
attribute [local go_sem] List.getElem?_cons_zero List.getElem?_cons_succ Option.bind_some List.map_cons List.map_nil Nat.zero_add if_true List.getD_cons_zero List.getD_cons_succ List.contains_cons List.contains_nil Bool.or_true Bool.true_or Bool.or_false Bool.false_or Bool.not_true Bool.not_false true_and and_true rowA_whole mid_get rowO_rows cellO_rows upd_ne Nat.add_assoc Nat.add_zero List.all_cons List.all_nil one_bool one_int one_str one_ptr one_nilptr one_slice one_eslice one_nilslice one_func one_iface one_niliface Bool.and_true Bool.and_self List.length_cons List.length_nil Nat.one_ne_zero Nat.succ_ne_zero if_false List.set_cons_zero List.set_cons_succ lay_nil lay_1 lay_w Option.map_some cells_one rowA_some List.drop_succ_cons List.drop_zero List.take_succ_cons List.take_zero

abbrev mkO (m : Mk) (vps : IV) (en : Int) (vf : IV) (ref : Bool) : IObj := .rows [[.int .i64 m.src, .int .i64 m.dst, .int .i64 m.proto, .int .i64 m.id, vps, .int .i64 en, vf, .int .i64 m.begun, .bool ref]] 111 9 false
def firstP (vf : IV) : Option Pk → As
  | none => fact (vf = .nilptr)
  | some p => exA fun v : Nat × IV × IV => stars (fact (vf = .ptr v.1 0 0)) (stars (box v.1 (pkObj p v.2.1 v.2.2)) (stars (byt v.2.1 p.opts) (byt v.2.2 p.pay)))
theorem first_some {h : IH} {L : List As} {vf : IV} {p : Pk} (S : Sp h (firstP vf (some p) :: L)) : ∃ q vo vp, vf = .ptr q 0 0 ∧ Sp h (box q (pkObj p vo vp) :: byt vo p.opts :: byt vp p.pay :: L) := by
  obtain ⟨⟨q, vo, vp⟩, S⟩ := S.ex
  obtain ⟨hv, S⟩ := S.star.fact
  have S := S.star
  have S := S.p1.star
  have S := by simpa only [mc0, mn0, List.getD_cons_zero, List.getD_cons_succ, ds0, dz0, ca0, na0] using Sp.sel S 3 [2, 0, 1] (by simp only [lc0]; omega) (by decide) (by decide)
  exact ⟨q, vo, vp, hv, S⟩
theorem first_mk {h : IH} {L : List As} {p : Pk} {q : Nat} {vo vp : IV} (S : Sp h (box q (pkObj p vo vp) :: byt vo p.opts :: byt vp p.pay :: L)) : Sp h (firstP (.ptr q 0 0) (some p) :: L) := by
  have S := by simpa only [mc0, mn0, List.getD_cons_zero, List.getD_cons_succ, ds0, dz0, ca0, na0] using Sp.sel S 3 [1, 2, 0] (by simp only [lc0]; omega) (by decide) (by decide)
  have S := (S.unstar.p1.unstar.unfact (p := IV.ptr q 0 0 = .ptr q 0 0) rfl).unstar
  exact Sp.unex (F := fun v : Nat × IV × IV => stars (fact (IV.ptr q 0 0 = .ptr v.1 0 0)) (stars (box v.1 (pkObj p v.2.1 v.2.2)) (stars (byt v.2.1 p.opts) (byt v.2.2 p.pay)))) (q, vo, vp) S
theorem first_none {h : IH} {L : List As} (S : Sp h L) : Sp h (firstP .nilptr none :: L) := S.unfact rfl
theorem first_nil {h : IH} {L : List As} {vf : IV} {o : Option Pk} (S : Sp h L) (k : Nat) (hk : L[k]? = some (firstP vf o)) : isNil .ptr vf = some o.isNone ∧ vf.one = true := by
  obtain ⟨f, hf⟩ := S.part k hk
  cases o with
  | none => obtain ⟨_, rfl⟩ := hf; exact ⟨rfl, rfl⟩
  | some p => obtain ⟨⟨q, vo, vp⟩, f1, f2, _, ⟨_, rfl⟩, _⟩ := hf; exact ⟨rfl, rfl⟩
def mkR (r : List IV) (m : Mk) : As := exA fun v : Nat × IV × IV × List (List IV) => stars (fact (r = [.ptr v.1 0 0])) (stars (box v.1 (mkO m v.2.1 m.en v.2.2.1 m.ref)) (stars (sl false 116 2 v.2.1 v.2.2.2) (stars (all2 pcR v.2.2.2 m.ps) (firstP v.2.2.1 m.first))))
theorem mk_open {h : IH} {L : List As} {r : List IV} {m : Mk} (S : Sp h (mkR r m :: L)) : ∃ q vps vf prs, r = [.ptr q 0 0] ∧ Sp h (box q (mkO m vps m.en vf m.ref) :: sl false 116 2 vps prs :: all2 pcR prs m.ps :: firstP vf m.first :: L) := by
  obtain ⟨⟨q, vps, vf, prs⟩, S⟩ := S.ex
  obtain ⟨hr, S⟩ := S.star.fact
  have S := S.star
  have S := S.p1.star
  have S := S.p1.star
  have S := by simpa only [mc0, mn0, List.getD_cons_zero, List.getD_cons_succ, ds0, dz0, ca0, na0] using Sp.sel S 4 [3, 2, 0, 1] (by simp only [lc0]; omega) (by decide) (by decide)
  exact ⟨q, vps, vf, prs, hr, S⟩
theorem mk_mk {h : IH} {L : List As} {m : Mk} {q : Nat} {vps vf : IV} {prs : List (List IV)} (S : Sp h (box q (mkO m vps m.en vf m.ref) :: sl false 116 2 vps prs :: all2 pcR prs m.ps :: firstP vf m.first :: L)) : Sp h (mkR [.ptr q 0 0] m :: L) := by
  have S := by simpa only [mc0, mn0, List.getD_cons_zero, List.getD_cons_succ, ds0, dz0, ca0, na0] using Sp.sel S 4 [2, 3, 1, 0] (by simp only [lc0]; omega) (by decide) (by decide)
  have S := S.unstar.p1.unstar.p1.unstar
  have S := (S.unfact (p := [IV.ptr q 0 0] = [.ptr q 0 0]) rfl).unstar
  exact Sp.unex (F := fun v : Nat × IV × IV × List (List IV) => stars (fact ([IV.ptr q 0 0] = [.ptr v.1 0 0])) (stars (box v.1 (mkO m v.2.1 m.en v.2.2.1 m.ref)) (stars (sl false 116 2 v.2.1 v.2.2.2) (stars (all2 pcR v.2.2.2 m.ps) (firstP v.2.2.1 m.first))))) (q, vps, vf, prs) S
theorem mk_at {h : IH} {L : List As} {rs : List (List IV)} {l : List Mk} (S : Sp h L) (k : Nat) (hk : L[k]? = some (all2 mkR rs l)) {i : Nat} {m : Mk} (hi : l[i]? = some m) :
    ∃ q vps vf, rs[i]? = some [.ptr q 0 0] ∧ At h q (mkO m vps m.en vf m.ref) ∧ vps.one = true ∧ isNil .ptr vf = some m.first.isNone ∧ vf.one = true := by
  obtain ⟨f, hf⟩ := S.part k hk
  obtain ⟨r, f', h1, ⟨q, vps, vf, prs⟩, f1, f2, _, ⟨_, rfl⟩, g1, g2, _, ⟨_, h5, h6⟩, g3, g4, _, h7, g5, g6, _, _, h8⟩ := all2_at hf hi
  refine ⟨q, vps, vf, h1, ⟨h5, h6⟩, ?_, ?_, ?_⟩
  · rcases h7 with ⟨_, _, h7 | h7⟩ | ⟨l, _, h7, _⟩ <;> · simp only at h7; rw [h7]; rfl
  · generalize m.first = o at h8 ⊢
    cases o with
    | none => obtain ⟨_, h8⟩ := h8; simp only at h8; rw [h8]; rfl
    | some p => obtain ⟨⟨q, vo, vp⟩, f1, f2, _, ⟨_, h8⟩, _⟩ := h8; simp only at h8; rw [h8]; rfl
  · generalize m.first = o at h8
    cases o with
    | none => obtain ⟨_, h8⟩ := h8; simp only at h8; rw [h8]; rfl
    | some p => obtain ⟨⟨q, vo, vp⟩, f1, f2, _, ⟨_, h8⟩, _⟩ := h8; simp only at h8; rw [h8]; rfl
def toldI (m : Mk) : En := ⟨m.src, m.dst, m.proto, m.id, m.first.isSome⟩
def keyI (p : Pk) (m : Mk) : Bool := decide (m.src = p.src) && decide (m.dst = p.dst) && decide (m.proto = p.proto) && decide (m.id = p.id)
theorem told_c {h : IH} {L : List As} (S : Sp h L) {q : Nat} {m : Mk} {vps vf : IV} {en : Int} {ref : Bool} (hb : At h q (mkO m vps en vf ref)) (hf : isNil .ptr vf = some m.first.isNone) :
    ICalls Try.prog 57 [.ptr q 0 0] h fun r h' => r = .agg (enRow (toldI m)) ∧ Sp h' L := by
  refine icalls (.of ok57) (Nat.le_of_ble_eq_true rfl) ?_
  unfold c57
  try simp (disch := (first | omega | assumption | (simp only [lc0, ln0, la0]; first | done | omega) | (simp (disch := assumption) only [go_sem, one_as, Nat.reduceBEq]; done) | fail)) only [go_sem, Hold.p, HoldK.k, HoldL.K, HoldL.body, Nat.reduceBEq, Nat.reduceAdd, reduceIte]
  refine Sp.zero S fun p2 g1 S E_g1 l_g1 => ?_
  have qq := (hb.ext E_g1).eq
  have hs : (m.first.isNone != true) = m.first.isSome := by cases m.first <;> rfl
  have q0 := (S.bx 0 rfl).eq
  try simp (disch := (first | omega | assumption | (simp only [lc0, ln0, la0]; first | done | omega) | (simp (disch := assumption) only [go_sem, one_as, Nat.reduceBEq]; done) | fail)) only [q0, qq, hf, hs, go_sem, Hold.p, HoldK.k, HoldL.K, HoldL.body, Nat.reduceBEq, Nat.reduceAdd, reduceIte]
  refine stw_of rfl rfl (by first | rfl | simp (disch := assumption) only [go_sem, cells_one, one_as]) fun g2 hg => ?_
  have l_g2 := n_set hg
  have S := S.set0 hg
  clear hg
  have q0 := (S.bx 0 rfl).eq
  try simp (disch := (first | omega | assumption | (simp only [lc0, ln0, la0]; first | done | omega) | (simp (disch := assumption) only [go_sem, one_as, Nat.reduceBEq]; done) | fail)) only [q0, go_sem, Hold.p, HoldK.k, HoldL.K, HoldL.body, Nat.reduceBEq, Nat.reduceAdd, reduceIte]
  exact ⟨rfl, S.drop⟩
theorem closure_c {h : IH} {L : List As} {q k : Nat} {m : Mk} {vps vf : IV} {p : Pk} (hb : At h q (mkO m vps m.en vf m.ref)) (hk : At h k (.rows [[.int .i64 p.src, .int .i64 p.dst, .int .i64 p.proto, .int .i64 p.id]] 107 4 false)) :
    ICalls Try.prog 71 [.ptr q 0 0, .ptr k 0 0] h fun r h' => r = .bool (keyI p m) ∧ h' = h := by
  refine icalls (.of ok71) (Nat.le_of_ble_eq_true rfl) ?_
  unfold c71
  have q1 := hb.eq
  have q2 := hk.eq
  try simp (disch := (first | omega | assumption | (simp only [lc0, ln0, la0]; first | done | omega) | (simp (disch := assumption) only [go_sem, one_as, Nat.reduceBEq]; done) | fail)) only [q1, q2, go_sem, Hold.p, HoldK.k, HoldL.K, HoldL.body, Nat.reduceBEq, Nat.reduceAdd, reduceIte]
  congr 1
  simp [keyI, Bool.and_assoc]
abbrev keyO (p : Pk) : IObj := .rows [[.int .i64 p.src, .int .i64 p.dst, .int .i64 p.proto, .int .i64 p.id]] 107 4 false
theorem index_c {h : IH} {L : List As} {x : Bool} {vl : IV} {rs : List (List IV)} {l : List Mk} {k : Nat} {p : Pk} (S : Sp h (box k (keyO p) :: sl x 105 1 vl rs :: all2 mkR rs l :: L)) (hl : l.length ≤ 1000) :
    ICalls Try.prog 70 [vl, .func 71 [] [.ptr k 0 0]] h fun r h' => r = .int .i64 (findI (keyI p) l) ∧ Sp h' (box k (keyO p) :: sl x 105 1 vl rs :: all2 mkR rs l :: L) := by
  refine icalls (.of ok70) (Nat.le_of_ble_eq_true rfl) ?_
  unfold c70
  have hrl := a2_len S 2 rfl
  have s1 := S.slA 1 rfl
  have len_s1 := s1.lenF
  have z1 := s1.one
  try simp (disch := (first | omega | assumption | (simp only [lc0, ln0, la0]; first | done | omega) | (simp (disch := assumption) only [go_sem, one_as, Nat.reduceBEq]; done) | fail)) only [len_s1, z1, hrl, go_sem, Hold.p, HoldK.k, HoldL.K, HoldL.body, Nat.reduceBEq, Nat.reduceAdd, reduceIte]
  refine loop_at (fun m e g => ∃ j : Nat, m = l.length - j ∧ j ≤ l.length ∧ e 0 = vl ∧ e 1 = .func 71 [] [.ptr k 0 0] ∧ e 7 = .int .i64 (l.length : Nat) ∧ e 8 = .int .i64 (j : Nat) ∧ (∀ y ∈ l.take j, keyI p y = false) ∧
    Sp g (box k (keyO p) :: sl x 105 1 vl rs :: all2 mkR rs l :: L)) l.length ?_ ?_
  · refine ⟨0, by omega, by omega, ?_⟩
    try simp (disch := (first | omega | assumption | (simp only [lc0, ln0, la0]; first | done | omega) | (simp (disch := assumption) only [go_sem, one_as, Nat.reduceBEq]; done) | fail)) only [go_sem, Hold.p, HoldK.k, HoldL.K, HoldL.body, Nat.reduceBEq, Nat.reduceAdd, reduceIte]
    exact ⟨rfl, by simp, S⟩
  · clear S len_s1 z1 s1
    rintro m e g ⟨j, rfl, hj, i0, i1, i7, i8, hno, S⟩
    try simp (disch := (first | omega | assumption | (simp only [lc0, ln0, la0]; first | done | omega) | (simp (disch := assumption) only [go_sem, one_as, Nat.reduceBEq]; done) | fail)) only [i0, i1, i7, i8, go_sem, Hold.p, HoldK.k, HoldL.K, HoldL.body, Nat.reduceBEq, Nat.reduceAdd, reduceIte]
    refine test_dec (fun hb => ?_) (fun hb => ?_)
    · obtain ⟨mm, hm⟩ : ∃ m, l[j]? = some m := ⟨_, List.getElem?_eq_getElem (by omega : j < l.length)⟩
      obtain ⟨q, vps, vf, hrow, hbq, _, _, _⟩ := mk_at S 2 rfl hm
      have s1 := S.slA 1 rfl
      obtain ⟨a1, a2, hia, hal, har⟩ := s1.at hrow .i64
      have hcl := cellO_row har
      have w1 : wr .i64 ((j : Int) + 1) = ((j + 1 : Nat) : Int) := by rw [wr64 _ (by omega)]; rfl
      try simp (disch := (first | omega | assumption | (simp only [lc0, ln0, la0]; first | done | omega) | (simp (disch := assumption) only [go_sem, one_as, Nat.reduceBEq]; done) | fail)) only [i0, i1, i7, i8, hia, hcl, go_sem, Hold.p, HoldK.k, HoldL.K, HoldL.body, Nat.reduceBEq, Nat.reduceAdd, reduceIte]
      refine callA_of (closure_c (h := g) (L := L) hbq (S.bx 0 rfl)) ?_
      rintro r g2 ⟨rfl, rfl⟩
      try simp (disch := (first | omega | assumption | (simp only [lc0, ln0, la0]; first | done | omega) | (simp (disch := assumption) only [go_sem, one_as, Nat.reduceBEq]; done) | fail)) only [i0, i1, i7, i8, go_sem, Hold.p, HoldK.k, HoldL.K, HoldL.body, Nat.reduceBEq, Nat.reduceAdd, reduceIte]
      refine test_of (fun hc => ?_) (fun hc => ?_)
      · skip
        try simp (disch := (first | omega | assumption | (simp only [lc0, ln0, la0]; first | done | omega) | (simp (disch := assumption) only [go_sem, one_as, Nat.reduceBEq]; done) | fail)) only [i0, i1, i7, i8, go_sem, Hold.p, HoldK.k, HoldL.K, HoldL.body, Nat.reduceBEq, Nat.reduceAdd, reduceIte]
        exact ⟨by rw [findI_hit hno hm hc], S⟩
      · skip
        try simp (disch := (first | omega | assumption | (simp only [lc0, ln0, la0]; first | done | omega) | (simp (disch := assumption) only [go_sem, one_as, Nat.reduceBEq]; done) | fail)) only [i0, i1, i7, i8, w1, go_sem, Hold.p, HoldK.k, HoldL.K, HoldL.body, Nat.reduceBEq, Nat.reduceAdd, reduceIte]
        exact ⟨_, by omega, j + 1, rfl, by omega, rfl, take_all hno hm hc, S⟩
    · skip
      try simp (disch := (first | omega | assumption | (simp only [lc0, ln0, la0]; first | done | omega) | (simp (disch := assumption) only [go_sem, one_as, Nat.reduceBEq]; done) | fail)) only [go_sem, Hold.p, HoldK.k, HoldL.K, HoldL.body, Nat.reduceBEq, Nat.reduceAdd, reduceIte]
      rw [List.take_of_length_le (by omega)] at hno
      exact ⟨by rw [findI_none hno], S⟩
theorem refuse_c {h : IH} {L : List As} {q : Nat} {m : Mk} {vps vf : IV} {en : Int} {ref : Bool} (S : Sp h (box q (mkO m vps en vf ref) :: L)) :
    ICalls Try.prog 74 [.ptr q 0 0] h fun r h' => Sp h' (box q (mkO m .nilslice (-1) .nilptr true) :: L) := by
  refine icalls (.of ok74) (Nat.le_of_ble_eq_true rfl) ?_
  unfold c74
  have q0 := (S.bx 0 rfl).eq
  try simp (disch := (first | omega | assumption | (simp only [lc0, ln0, la0]; first | done | omega) | (simp (disch := assumption) only [go_sem, one_as, Nat.reduceBEq]; done) | fail)) only [q0, go_sem, Hold.p, HoldK.k, HoldL.K, HoldL.body, Nat.reduceBEq, Nat.reduceAdd, reduceIte]
  refine st1_of (Nat.le_of_ble_eq_true rfl) (by first | rfl | assumption) fun g1 hg => ?_
  have l_g1 := n_set hg
  have S := S.set0 hg
  clear hg
  simp only [sz0, ss0, ts0, tz0, ds0, dz0, ca0, na0, Nat.reduceAdd] at S
  have q0 := (S.bx 0 rfl).eq
  try simp (disch := (first | omega | assumption | (simp only [lc0, ln0, la0]; first | done | omega) | (simp (disch := assumption) only [go_sem, one_as, Nat.reduceBEq]; done) | fail)) only [q0, go_sem, Hold.p, HoldK.k, HoldL.K, HoldL.body, Nat.reduceBEq, Nat.reduceAdd, reduceIte]
  refine st1_of (Nat.le_of_ble_eq_true rfl) (by first | rfl | assumption) fun g2 hg => ?_
  have l_g2 := n_set hg
  have S := S.set0 hg
  clear hg
  simp only [sz0, ss0, ts0, tz0, ds0, dz0, ca0, na0, Nat.reduceAdd] at S
  have q0 := (S.bx 0 rfl).eq
  try simp (disch := (first | omega | assumption | (simp only [lc0, ln0, la0]; first | done | omega) | (simp (disch := assumption) only [go_sem, one_as, Nat.reduceBEq]; done) | fail)) only [q0, go_sem, Hold.p, HoldK.k, HoldL.K, HoldL.body, Nat.reduceBEq, Nat.reduceAdd, reduceIte]
  refine st1_of (Nat.le_of_ble_eq_true rfl) (by first | rfl | assumption) fun g3 hg => ?_
  have l_g3 := n_set hg
  have S := S.set0 hg
  clear hg
  simp only [sz0, ss0, ts0, tz0, ds0, dz0, ca0, na0, Nat.reduceAdd] at S
  have q0 := (S.bx 0 rfl).eq
  try simp (disch := (first | omega | assumption | (simp only [lc0, ln0, la0]; first | done | omega) | (simp (disch := assumption) only [go_sem, one_as, Nat.reduceBEq]; done) | fail)) only [q0, go_sem, Hold.p, HoldK.k, HoldL.K, HoldL.body, Nat.reduceBEq, Nat.reduceAdd, reduceIte]
  refine st1_of (Nat.le_of_ble_eq_true rfl) (by first | rfl | assumption) fun g4 hg => ?_
  have l_g4 := n_set hg
  have S := S.set0 hg
  clear hg
  simp only [sz0, ss0, ts0, tz0, ds0, dz0, ca0, na0, Nat.reduceAdd] at S
  have q0 := (S.bx 0 rfl).eq
  try simp (disch := (first | omega | assumption | (simp only [lc0, ln0, la0]; first | done | omega) | (simp (disch := assumption) only [go_sem, one_as, Nat.reduceBEq]; done) | fail)) only [q0, go_sem, Hold.p, HoldK.k, HoldL.K, HoldL.body, Nat.reduceBEq, Nat.reduceAdd, reduceIte]
  exact S
theorem refused_mk {h : IH} {L : List As} {q : Nat} {m : Mk} (S : Sp h (box q (mkO m .nilslice (-1) .nilptr true) :: L)) : Sp h (mkR [.ptr q 0 0] m.refuse :: L) := by
  have S := ((first_none S).a2nil (R := pcR)).slNil (x := false) (el := 116) (sz := 2)
  have S := by simpa only [mc0, mn0, List.getD_cons_zero, List.getD_cons_succ, ds0, dz0, ca0, na0] using Sp.sel S 4 [3, 0, 1, 2] (by simp only [lc0]; omega) (by decide) (by decide)
  exact mk_mk (m := m.refuse) S
def goneI (now : Int) (m : Mk) : Bool := decide (m.begun + 30000 ≤ now)
set_option maxHeartbeats 1000000 in
theorem past_c {h : IH} {L : List As} {x : Nat} {b : Bool} {now : Int} {vl : IV} {rs : List (List IV)} {l : List Mk} (S : Sp h (box x (.rows [[.int .i64 now, vl]] 76 2 false) :: sl b 105 1 vl rs :: all2 mkR rs l :: L)) (hl : l.length ≤ 1000) (hb : ∀ m ∈ l, 0 ≤ m.begun ∧ m.begun ≤ 1000000000) :
    ICalls Try.prog 56 [.ptr x 0 0] h fun r h' => ∃ vn rg rn, Sp h' (sl false 105 1 r rg :: all2 mkR rg (l.filter (goneI now)) :: box x (.rows [[.int .i64 now, vn]] 76 2 false) :: sl false 105 1 vn rn :: all2 mkR rn (l.filter fun m => !goneI now m) :: L) := by
  refine icalls (.of ok56) (Nat.le_of_ble_eq_true rfl) ?_
  unfold c56
  have hrl := a2_len S 2 rfl
  have q0 := (S.bx 0 rfl).eq
  have s1 := S.slA 1 rfl
  have len_s1 := s1.lenF
  have z1 := s1.one
  try simp (disch := (first | omega | assumption | (simp only [lc0, ln0, la0]; first | done | omega) | (simp (disch := assumption) only [go_sem, one_as, Nat.reduceBEq]; done) | fail)) only [q0, len_s1, z1, hrl, go_sem, Hold.p, HoldK.k, HoldL.K, HoldL.body, Nat.reduceBEq, Nat.reduceAdd, reduceIte]
  refine loop_at (fun n e g => ∃ (k : Nat) (vg vn : IV) (rg rn : List (List IV)), n = l.length - k ∧ k ≤ l.length ∧ e 0 = .ptr x 0 0 ∧ e 3 = vg ∧ e 4 = vn ∧ e 10 = vl ∧ e 11 = .int .i64 (l.length : Nat) ∧ e 12 = .int .i64 (k : Nat) ∧ rg.length ≤ k ∧ rn.length ≤ k ∧
    Sp g (all2 mkR (rs.drop k) (l.drop k) :: sl false 105 1 vg rg :: all2 mkR rg ((l.take k).filter (goneI now)) :: sl false 105 1 vn rn :: all2 mkR rn ((l.take k).filter fun m => !goneI now m) :: box x (.rows [[.int .i64 now, vl]] 76 2 false) :: sl b 105 1 vl rs :: L)) l.length ?_ ?_
  · refine ⟨0, .nilslice, .nilslice, [], [], by omega, by omega, ?_⟩
    try simp (disch := (first | omega | assumption | (simp only [lc0, ln0, la0]; first | done | omega) | (simp (disch := assumption) only [go_sem, one_as, Nat.reduceBEq]; done) | fail)) only [go_sem, Hold.p, HoldK.k, HoldL.K, HoldL.body, Nat.reduceBEq, Nat.reduceAdd, reduceIte]
    refine ⟨rfl, Nat.le_refl _, Nat.le_refl _, ?_⟩
    have S := (((S.a2nil (R := mkR)).slNil (x := false) (el := 105) (sz := 1)).a2nil (R := mkR)).slNil (x := false) (el := 105) (sz := 1)
    have S := by simpa only [mc0, mn0, List.getD_cons_zero, List.getD_cons_succ, ds0, dz0, ca0, na0] using Sp.sel S 7 [6, 0, 1, 2, 3, 4, 5] (by simp only [lc0]; omega) (by decide) (by decide)
    exact S
  · clear S len_s1 z1 s1
    rintro n e g ⟨k, vg, vn, rg, rn, rfl, hk, i0, i3, i4, i10, i11, i12, hg1, hn1, S⟩
    try simp (disch := (first | omega | assumption | (simp only [lc0, ln0, la0]; first | done | omega) | (simp (disch := assumption) only [go_sem, one_as, Nat.reduceBEq]; done) | fail)) only [i0, i3, i4, i10, i11, i12, go_sem, Hold.p, HoldK.k, HoldL.K, HoldL.body, Nat.reduceBEq, Nat.reduceAdd, reduceIte]
    refine test_dec (fun hb2 => ?_) (fun hb2 => ?_)
    · obtain ⟨m, hm⟩ : ∃ m, l[k]? = some m := ⟨_, List.getElem?_eq_getElem (by omega : k < l.length)⟩
      obtain ⟨row, hrk⟩ : ∃ m, rs[k]? = some m := ⟨_, List.getElem?_eq_getElem (by omega : k < rs.length)⟩
      rw [drop_at hm, drop_at hrk] at S
      have S0 := S
      clear S
      obtain ⟨q, vps, vf, prs, rfl, S⟩ := mk_open S0.star
      have s9 := S.slA 10 rfl
      obtain ⟨a1, a2, hia, hal, har⟩ := s9.at hrk .i64
      have hcl := cellO_row har
      have hbm := hb m (List.mem_of_getElem? hm)
      have w1 : wr .i64 ((k : Int) + 1) = ((k + 1 : Nat) : Int) := by rw [wr64 _ (by omega)]; rfl
      have w2 : wr .i64 (m.begun + 30000) = m.begun + 30000 := wr64 _ (by omega)
      have ht : l.take (k + 1) = l.take k ++ [m] := by rw [List.take_add_one, hm]; rfl
      have q0 := (S.bx 0 rfl).eq
      have q9 := (S.bx 9 rfl).eq
      try simp (disch := (first | omega | assumption | (simp only [lc0, ln0, la0]; first | done | omega) | (simp (disch := assumption) only [go_sem, one_as, Nat.reduceBEq]; done) | fail)) only [q0, q9, i0, i3, i4, i10, i11, i12, hia, hcl, w2, go_sem, Hold.p, HoldK.k, HoldL.K, HoldL.body, Nat.reduceBEq, Nat.reduceAdd, reduceIte]
      refine test_dec (fun hc => ?_) (fun hc => ?_)
      · have hgi : goneI now m = true := decide_eq_true hc
        try simp (disch := (first | omega | assumption | (simp only [lc0, ln0, la0]; first | done | omega) | (simp (disch := assumption) only [go_sem, one_as, Nat.reduceBEq]; done) | fail)) only [i0, i3, i4, i10, i11, i12, go_sem, Hold.p, HoldK.k, HoldL.K, HoldL.body, Nat.reduceBEq, Nat.reduceAdd, reduceIte]
        refine Sp.bsl1 S (by first | rfl | (rw [cells_one (by assumption)]; rfl)) (by first | rfl | simp (disch := assumption) only [go_sem, cells_one, one_as]) fun p13 g13 S E_g13 l_g13 => ?_
        try simp only [cells_agg, cells_int, cells_bool, cells_ptr, cells_str] at S
        have q0 := (S.bx 0 rfl).eq
        try simp (disch := (first | omega | assumption | (simp only [lc0, ln0, la0]; first | done | omega) | (simp (disch := assumption) only [go_sem, one_as, Nat.reduceBEq]; done) | fail)) only [q0, i0, i3, i4, i10, i11, i12, go_sem, Hold.p, HoldK.k, HoldL.K, HoldL.body, Nat.reduceBEq, Nat.reduceAdd, reduceIte]
        have S := by simpa only [mc0, mn0, List.getD_cons_zero, List.getD_cons_succ, ds0, dz0, ca0, na0] using Sp.sel S 12 [0, 6, 1, 2, 3, 4, 5, 7, 8, 9, 10, 11] (by simp only [lc0]; omega) (by decide) (by decide)
        refine S.app1 (y := false) (by omega) ?_
        clear S
        intro v14 g14 S z14
        have S := by simpa only [mc0, mn0, List.getD_cons_zero, List.getD_cons_succ, ds0, dz0, ca0, na0] using Sp.sel S 11 [1, 2, 3, 4, 0, 5, 6, 7, 8, 9, 10] (by simp only [lc0]; omega) (by decide) (by decide)
        have S := (mk_mk S).a2one
        have S := by simpa only [mc0, mn0, List.getD_cons_zero, List.getD_cons_succ, ds0, dz0, ca0, na0] using Sp.sel S 8 [3, 0, 1, 2, 4, 5, 6, 7] (by simp only [lc0]; omega) (by decide) (by decide)
        have S := S.a2join
        have S := by simpa only [mc0, mn0, List.getD_cons_zero, List.getD_cons_succ, ds0, dz0, ca0, na0] using Sp.sel S 7 [2, 1, 0, 3, 4, 5, 6] (by simp only [lc0]; omega) (by decide) (by decide)
        have hf1 : (l.take (k + 1)).filter (goneI now) = (l.take k).filter (goneI now) ++ [m] := by rw [ht, List.filter_append]; simp [hgi]
        have hf2 : ((l.take (k + 1)).filter fun m => !goneI now m) = (l.take k).filter fun m => !goneI now m := by rw [ht, List.filter_append]; simp [hgi]
        rw [← hf1, ← hf2] at S
        try simp (disch := (first | omega | assumption | (simp only [lc0, ln0, la0]; first | done | omega) | (simp (disch := assumption) only [go_sem, one_as, Nat.reduceBEq]; done) | fail)) only [i0, i3, i4, i10, i11, i12, w1, go_sem, Hold.p, HoldK.k, HoldL.K, HoldL.body, Nat.reduceBEq, Nat.reduceAdd, reduceIte]
        exact ⟨_, by omega, k + 1, v14, vn, rg ++ [[.ptr q 0 0]], rn, rfl, by omega, rfl, rfl, rfl, by simp; omega, by omega, S⟩
      · have hgi : goneI now m = false := decide_eq_false hc
        try simp (disch := (first | omega | assumption | (simp only [lc0, ln0, la0]; first | done | omega) | (simp (disch := assumption) only [go_sem, one_as, Nat.reduceBEq]; done) | fail)) only [i0, i3, i4, i10, i11, i12, go_sem, Hold.p, HoldK.k, HoldL.K, HoldL.body, Nat.reduceBEq, Nat.reduceAdd, reduceIte]
        refine Sp.bsl1 S (by first | rfl | (rw [cells_one (by assumption)]; rfl)) (by first | rfl | simp (disch := assumption) only [go_sem, cells_one, one_as]) fun p13 g13 S E_g13 l_g13 => ?_
        try simp only [cells_agg, cells_int, cells_bool, cells_ptr, cells_str] at S
        have q0 := (S.bx 0 rfl).eq
        try simp (disch := (first | omega | assumption | (simp only [lc0, ln0, la0]; first | done | omega) | (simp (disch := assumption) only [go_sem, one_as, Nat.reduceBEq]; done) | fail)) only [q0, i0, i3, i4, i10, i11, i12, go_sem, Hold.p, HoldK.k, HoldL.K, HoldL.body, Nat.reduceBEq, Nat.reduceAdd, reduceIte]
        have S := by simpa only [mc0, mn0, List.getD_cons_zero, List.getD_cons_succ, ds0, dz0, ca0, na0] using Sp.sel S 12 [0, 8, 1, 2, 3, 4, 5, 6, 7, 9, 10, 11] (by simp only [lc0]; omega) (by decide) (by decide)
        refine S.app1 (y := false) (by omega) ?_
        clear S
        intro v14 g14 S z14
        have S := by simpa only [mc0, mn0, List.getD_cons_zero, List.getD_cons_succ, ds0, dz0, ca0, na0] using Sp.sel S 11 [1, 2, 3, 4, 0, 5, 6, 7, 8, 9, 10] (by simp only [lc0]; omega) (by decide) (by decide)
        have S := (mk_mk S).a2one
        have S := by simpa only [mc0, mn0, List.getD_cons_zero, List.getD_cons_succ, ds0, dz0, ca0, na0] using Sp.sel S 8 [5, 0, 1, 2, 3, 4, 6, 7] (by simp only [lc0]; omega) (by decide) (by decide)
        have S := S.a2join
        have S := by simpa only [mc0, mn0, List.getD_cons_zero, List.getD_cons_succ, ds0, dz0, ca0, na0] using Sp.sel S 7 [2, 3, 4, 1, 0, 5, 6] (by simp only [lc0]; omega) (by decide) (by decide)
        have hf1 : (l.take (k + 1)).filter (goneI now) = (l.take k).filter (goneI now) := by rw [ht, List.filter_append]; simp [hgi]
        have hf2 : ((l.take (k + 1)).filter fun m => !goneI now m) = ((l.take k).filter fun m => !goneI now m) ++ [m] := by rw [ht, List.filter_append]; simp [hgi]
        rw [← hf1, ← hf2] at S
        try simp (disch := (first | omega | assumption | (simp only [lc0, ln0, la0]; first | done | omega) | (simp (disch := assumption) only [go_sem, one_as, Nat.reduceBEq]; done) | fail)) only [i0, i3, i4, i10, i11, i12, w1, go_sem, Hold.p, HoldK.k, HoldL.K, HoldL.body, Nat.reduceBEq, Nat.reduceAdd, reduceIte]
        exact ⟨_, by omega, k + 1, vg, v14, rg, rn ++ [[.ptr q 0 0]], rfl, by omega, rfl, rfl, rfl, by omega, by simp; omega, S⟩
    · rw [List.take_of_length_le (by omega)] at S
      have z3 := (S.slA 3 rfl).one
      have q5 := (S.bx 5 rfl).eq
      try simp (disch := (first | omega | assumption | (simp only [lc0, ln0, la0]; first | done | omega) | (simp (disch := assumption) only [go_sem, one_as, Nat.reduceBEq]; done) | fail)) only [q5, i0, i3, i4, i10, i11, i12, go_sem, Hold.p, HoldK.k, HoldL.K, HoldL.body, Nat.reduceBEq, Nat.reduceAdd, reduceIte]
      refine st1_of (Nat.le_of_ble_eq_true rfl) (by first | rfl | assumption) fun g15 hg => ?_
      have l_g15 := n_set hg
      have S := S.set5 hg
      clear hg
      simp only [sz0, ss0, ts0, tz0, ds0, dz0, ca0, na0, Nat.reduceAdd] at S
      try simp (disch := (first | omega | assumption | (simp only [lc0, ln0, la0]; first | done | omega) | (simp (disch := assumption) only [go_sem, one_as, Nat.reduceBEq]; done) | fail)) only [i0, i3, i4, i10, i11, i12, go_sem, Hold.p, HoldK.k, HoldL.K, HoldL.body, Nat.reduceBEq, Nat.reduceAdd, reduceIte]
      refine ⟨vn, rg, rn, ?_⟩
      have S := by simpa only [mc0, mn0, List.getD_cons_zero, List.getD_cons_succ, ds0, dz0, ca0, na0] using Sp.sel S 7 [1, 2, 5, 3, 4] (by simp only [lc0]; omega) (by decide) (by decide)
      exact S
end
end Go.Proofs.Ytjmmmmdpkfpojaa

set_option maxRecDepth 20000
namespace Go.Proofs.Ytjmmmmdpkfpojaa
open Go Go.IW
theorem strRows_drop' (b : Txt) (n : Nat) : (strRows b).drop n = strRows (b.drop n) := by simp [strRows, List.map_drop]
theorem strRows_take' (b : Txt) (n : Nat) : (strRows b).take n = strRows (b.take n) := by simp [strRows, List.map_take]
theorem copyB {h : IH} {L : List As} {x : Bool} {v : IV} {O b : Txt} {a : Nat} (S : Sp h (sl x 5 1 v (strRows O) :: L)) (hab : a + b.length ≤ O.length) :
    ∃ v', slcF h 1 v (some (.int .i64 (a : Int))) none = some v' ∧ ∀ K : HoldK, (∀ h', Sp h' (sl x 5 1 v (strRows (layB O a b)) :: L) → K.k (.int .i64 (b.length : Nat)) h') → @copyA h 1 v' (some (strRows b)) K := by
  by_cases hb : b = []
  · subst hb
    obtain ⟨v', h1, h2⟩ := S.slR.lo (a := a) (q := .i64) (by rw [strRows_len]; simp at hab; omega)
    refine ⟨v', h1, fun K hk => ?_⟩
    have hk0 := hk h (by rw [layB_nil]; exact S)
    have h3 := h2.len
    unfold copyA copyK
    cases v' with
    | slice l i n => simp only [strRows, mn0, ln0, Nat.zero_min, if_true]; exact hk0
    | nilslice => exact hk0
    | eslice z => exact hk0
    | _ => simp [ilen] at h3
  · have hbl : 0 < b.length := List.length_pos_iff.2 hb
    have S0 := S
    clear S
    obtain ⟨l, rfl, S⟩ := S0.slBox (strRows_ne (by omega))
    have hq := (S.bx 0 rfl).eq
    rw [strRows_len]
    refine ⟨.slice l a (O.length - a), ?_, fun K hk => ?_⟩
    · rw [slcF_of (h := h) (sz := 1) (n := O.length) (a := a) (b := O.length) (x := .slice l 0 O.length) rfl rfl (by have := boundF_of (len := O.length) (d := 0) (k := .i64) (n := (a : Int)) (by omega) (by omega); simpa using this)]
      have := islc_some (h := h) (sz := 1) (l := l) (i := 0) (n := O.length) (a := a) (b := O.length) (by omega) (Nat.le_refl _) (by rw [size_eq, hq]; rfl)
      simpa using this
    · unfold copyA copyK
      simp only [strRows_len, hq]
      have hmin : min b.length (O.length - a) = b.length := by omega
      rw [hmin, if_neg (by omega)]
      refine ⟨trivial, by omega, ?_⟩
      have hrow : (strRows O).take a ++ (strRows b).take (O.length - a) ++ (strRows O).drop (a + b.length) = strRows (layB O a b) := by
        rw [strRows_take', strRows_take', strRows_drop', List.take_of_length_le (l := b) (by omega), ← strRows_append, ← strRows_append]
        rfl
      rw [hrow]
      have hll : (layB O a b).length = O.length := layB_len hab
      have S := (S.set0 (o' := .rows (strRows (layB O a b)) 5 1 false) rfl).boxSl (x := x) (n := O.length) (by rw [strRows_len, hll]) (.inr (strRows_ne (by omega)))
      have := hk _ S
      simpa using this
end Go.Proofs.Ytjmmmmdpkfpojaa
