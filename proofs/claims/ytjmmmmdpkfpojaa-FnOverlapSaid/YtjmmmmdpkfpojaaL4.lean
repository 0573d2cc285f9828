import Derived.Test.YtjmmmmdpkfpojaaL3
import Derived.Test.YtjmmmmdpkfpojaaK2
import Derived.Test.YtjmmmmdpkfpojaaProg
import Derived.KernelRfl
import Derived.Test.YtjmmmmdpkfpojaaK3
set_option linter.unusedSimpArgs false
set_option linter.unusedVariables false
set_option maxRecDepth 20000
namespace Go.Proofs.Ytjmmmmdpkfpojaa
open Go Go.IW
section
attribute [local go_sem] List.getElem?_cons_zero List.getElem?_cons_succ Option.bind_some List.map_cons List.map_nil Nat.zero_add if_true List.getD_cons_zero List.getD_cons_succ List.contains_cons List.contains_nil Bool.or_true Bool.true_or Bool.or_false Bool.false_or Bool.not_true Bool.not_false true_and and_true rowA_whole mid_get rowO_rows cellO_rows upd_ne Nat.add_assoc Nat.add_zero List.all_cons List.all_nil one_bool one_int one_str one_ptr one_nilptr one_slice one_eslice one_nilslice one_func one_iface one_niliface Bool.and_true Bool.and_self List.length_cons List.length_nil Nat.one_ne_zero Nat.succ_ne_zero if_false List.set_cons_zero List.set_cons_succ lay_nil lay_1 lay_w Option.map_some cells_one rowA_some List.drop_succ_cons List.drop_zero List.take_succ_cons List.take_zero

def mkNew (p : Pk) (now : Int) : Mk := ⟨p.src, p.dst, p.proto, p.id, [], -1, none, now, false⟩
def addEnd (m2 : Mk) : Option Pk → Mk × Bool
  | none => (m2, false)
  | some f => if m2.en < 0 then (m2, false) else if 65535 < 20 + (f.opts.length : Int) + m2.en then (m2.refuse, false) else (m2, !decide ((totP m2.ps : Int) < m2.en))
def goneOI (o : Ot) (m : Mk) : Ot := if m.ref = true then o else { o with ended := o.ended ++ [toldI m] }
def openI (now : Int) (l : List Mk) (o : Ot) (p : Pk) : List Mk × Ot × Nat :=
  match l.findIdx? (keyI p) with
  | some k => (l, o, k)
  | none => if 16 ≤ l.length then (l.eraseIdx 0 ++ [mkNew p now], goneOI o (l.headD default), l.length - 1) else (l ++ [mkNew p now], o, l.length)
def wholeI (m : Mk) : Pk := { m.first.getD pk0 with mf := false, pay := fillB m.ps (List.replicate m.en.toNat 0) }
def stepI (l : List Mk) (o : Ot) (i : Nat) (p : Pk) : List Mk × Ot :=
  let m := l.getD i default
  if m.ref = true then (l, o) else
    let r := addI m p
    if r.2 = true then (l.eraseIdx i, { o with done := true, pk := wholeI r.1 }) else (l.set i r.1, o)
def takeI (now : Int) (l : List Mk) (o : Ot) (p : Pk) : List Mk × Ot :=
  if p.off = 0 ∧ p.mf = false then (l, { o with done := true, pk := p }) else
  if p.pay = [] ∨ (p.mf = true ∧ (p.pay.length : Int).tmod 8 ≠ 0) then (l, { o with code := 5 }) else
    let r := openI now l o p
    stepI r.1 r.2.1 r.2.2 p
abbrev outO (o : Ot) (vo vp ve : IV) : IObj := .rows [outRow o vo vp ve] 52 16 false
abbrev xO (now : Int) (vl : IV) : IObj := .rows [[.int .i64 now, vl]] 76 2 false
def ISt (h : IH) (x : Nat) (now : Int) (l : List Mk) (po : Nat) (o : Ot) (L : List As) : Prop := ∃ vl rs vo vp ve,
  Sp h (box x (xO now vl) :: sl true 105 1 vl rs :: all2 mkR rs l :: box po (outO o vo vp ve) :: byt vo o.pk.opts :: byt vp o.pk.pay :: endP ve o.ended :: L)
structure OkI (N : Nat) (m : Mk) : Prop where
  s : Small N m.ps m.en
  o : ∀ f, m.first = some f → f.opts.length ≤ 100
theorem i_close {h : IH} {L : List As} {q : Nat} {m : Mk} {vps vf : IV} {prs a0 bs : List (List IV)} {xs ys : List Mk} {A B C D E F : As}
    (S : Sp h (box q (mkO m vps m.en vf m.ref) :: sl false 116 2 vps prs :: all2 pcR prs m.ps :: firstP vf m.first :: all2 mkR a0 xs :: all2 mkR bs ys :: A :: B :: C :: D :: E :: F :: L)) :
    Sp h (A :: B :: all2 mkR (a0 ++ [.ptr q 0 0] :: bs) (xs ++ m :: ys) :: C :: D :: E :: F :: L) := by
  have S := (mk_mk S).a2mid
  have S := by simpa only [mc0, mn0, List.getD_cons_zero, List.getD_cons_succ, ds0, dz0, ca0, na0] using Sp.sel S 7 [1, 2, 0, 3, 4, 5, 6] (by simp only [lc0]; omega) (by decide) (by decide)
  exact S
theorem i_closeR {h : IH} {L : List As} {q : Nat} {m : Mk} {a0 bs : List (List IV)} {xs ys : List Mk} {X Y Z A B C D E F : As}
    (S : Sp h (box q (mkO m .nilslice (-1) .nilptr true) :: X :: Y :: Z :: all2 mkR a0 xs :: all2 mkR bs ys :: A :: B :: C :: D :: E :: F :: L)) :
    Sp h (A :: B :: all2 mkR (a0 ++ [.ptr q 0 0] :: bs) (xs ++ m.refuse :: ys) :: C :: D :: E :: F :: L) := by
  have S := by simpa only [mc0, mn0, List.getD_cons_zero, List.getD_cons_succ, ds0, dz0, ca0, na0] using Sp.sel S 12 [0, 4, 5, 6, 7, 8, 9, 10, 11] (by simp only [lc0]; omega) (by decide) (by decide)
  have S := (refused_mk S).a2mid
  have S := by simpa only [mc0, mn0, List.getD_cons_zero, List.getD_cons_succ, ds0, dz0, ca0, na0] using Sp.sel S 7 [1, 2, 0, 3, 4, 5, 6] (by simp only [lc0]; omega) (by decide) (by decide)
  exact S
set_option maxHeartbeats 4000000 in
theorem take_c {h h0 : IH} {L : List As} {x po N : Nat} {now : Int} {l : List Mk} {o : Ot} {p : Pk} {po' pp : IV} (W : ISt h x now l po o (old h0 :: L)) (a : PkAt h0 p po' pp) (hN : N ≤ 90000) (hl : l.length ≤ 16) (he : o.ended.length ≤ 100000) (hok : ∀ m ∈ l, OkI N m)
    (ho : 0 ≤ p.off ∧ p.off ≤ 65535) (hp : p.pay.length ≤ 65535) (hpo : p.opts.length ≤ 100) (hwh : p.pay ≠ [] → ∀ m ∈ (openI now l o p).1, m.ref = false → (addI m p).2 = true → ∀ q ∈ (addI m p).1.ps, pTo q ≤ (addI m p).1.en) :
    ICalls Try.prog 54 [.ptr x 0 0, .agg (pkRow p po' pp), .ptr po 0 0] h fun r h' => ISt h' x now (takeI now l o p).1 po (takeI now l o p).2 (old h0 :: L) := by
  refine icalls (.of ok54) (Nat.le_of_ble_eq_true rfl) ?_
  unfold c54 pkRow
  have y1 := a.o.one
  have y2 := a.p.one
  have yl := a.p.lenF
  rw [strRows_len] at yl
  have r8 := ib_rem .i64 (p.pay.length : Int) 8 (by decide)
  refine vc_split 4 (fun e g => ∃ (p4 : Nat), e 0 = .ptr x 0 0 ∧ e 2 = .ptr po 0 0 ∧ e 4 = .ptr p4 0 0 ∧ e 6 = .int .i64 (p.pay.length : Nat) ∧ ¬ (p.off = 0 ∧ p.mf = false) ∧ ¬ (p.pay = [] ∨ (p.mf = true ∧ (p.pay.length : Int).tmod 8 ≠ 0)) ∧ ISt g x now l po o (old h0 :: box p4 (pkObj p po' pp) :: L)) ?_ ?_
  · simp only [CC.split]
    obtain ⟨vl, rs, vo, vp, ve, S⟩ := W
    have x1 := (S.slA 4 rfl).one
    have x2 := (S.slA 5 rfl).one
    have x3 := (S.slA 6 rfl).one
    try simp (disch := (first | omega | assumption | (simp only [lc0, ln0, la0]; first | done | omega) | (simp (disch := assumption) only [go_sem, one_as, Nat.reduceBEq]; done) | fail)) only [go_sem, Hold.p, HoldK.k, HoldL.K, HoldL.body, Nat.reduceBEq, Nat.reduceAdd, reduceIte]
    refine Sp.bxA S (by first | rfl | (rw [cells_one (by assumption)]; rfl)) (by first | rfl | simp (disch := assumption) only [go_sem, cells_one, one_as]) fun p4 g1 S E_g1 l_g1 => ?_
    have q0 := (S.bx 0 rfl).eq
    have q4 := (S.bx 4 rfl).eq
    try simp (disch := (first | omega | assumption | (simp only [lc0, ln0, la0]; first | done | omega) | (simp (disch := assumption) only [go_sem, one_as, Nat.reduceBEq]; done) | fail)) only [q0, q4, go_sem, Hold.p, HoldK.k, HoldL.K, HoldL.body, Nat.reduceBEq, Nat.reduceAdd, reduceIte]
    refine test_of (fun hc => ?_) (fun hc => ?_)
    · have hc' : p.off = 0 ∧ p.mf = false := by simpa using hc
      have ht : takeI now l o p = (l, { o with done := true, pk := p }) := if_pos hc'
      rw [ht]
      have q0 := (S.bx 0 rfl).eq
      have q4 := (S.bx 4 rfl).eq
      try simp (disch := (first | omega | assumption | (simp only [lc0, ln0, la0]; first | done | omega) | (simp (disch := assumption) only [go_sem, one_as, Nat.reduceBEq]; done) | fail)) only [q0, q4, go_sem, Hold.p, HoldK.k, HoldL.K, HoldL.body, Nat.reduceBEq, Nat.reduceAdd, reduceIte]
      refine callA_of (ownPacket_c g1 _ S p po' pp (a.ext (S.ol 8 rfl)) (by omega)) ?_
      clear S
      rintro r3 g3 ⟨wo, wp, rfl, S⟩
      unfold pkRow
      have zo := (S.slA 0 rfl).one
      have zp := (S.slA 1 rfl).one
      have q6 := (S.bx 6 rfl).eq
      try simp (disch := (first | omega | assumption | (simp only [lc0, ln0, la0]; first | done | omega) | (simp (disch := assumption) only [go_sem, one_as, Nat.reduceBEq]; done) | fail)) only [q6, go_sem, Hold.p, HoldK.k, HoldL.K, HoldL.body, Nat.reduceBEq, Nat.reduceAdd, reduceIte]
      refine st1_of (Nat.le_of_ble_eq_true rfl) (by first | rfl | assumption) fun g4 hg => ?_
      have l_g4 := n_set hg
      have S := S.set6 hg
      clear hg
      simp only [sz0, ss0, ts0, tz0, ds0, dz0, ca0, na0, Nat.reduceAdd] at S
      have q6 := (S.bx 6 rfl).eq
      try simp (disch := (first | omega | assumption | (simp only [lc0, ln0, la0]; first | done | omega) | (simp (disch := assumption) only [go_sem, one_as, Nat.reduceBEq]; done) | fail)) only [q6, go_sem, Hold.p, HoldK.k, HoldL.K, HoldL.body, Nat.reduceBEq, Nat.reduceAdd, reduceIte]
      refine stp_of rfl (Nat.le_of_ble_eq_true rfl) (by first | rfl | simp (disch := assumption) only [go_sem, cells_one, one_as]) fun g5 hg => ?_
      have l_g5 := n_set hg
      have S := S.set6 hg
      clear hg
      simp only [sz0, ss0, ts0, tz0, ds0, dz0, ca0, na0, Nat.reduceAdd] at S
      try simp (disch := (first | omega | assumption | (simp only [lc0, ln0, la0]; first | done | omega) | (simp (disch := assumption) only [go_sem, one_as, Nat.reduceBEq]; done) | fail)) only [go_sem, Hold.p, HoldK.k, HoldL.K, HoldL.body, Nat.reduceBEq, Nat.reduceAdd, reduceIte]
      refine ⟨vl, rs, wo, wp, ve, ?_⟩
      have S := by simpa only [mc0, mn0, List.getD_cons_zero, List.getD_cons_succ, ds0, dz0, ca0, na0] using Sp.sel S 11 [3, 4, 5, 6, 0, 1, 9, 10] (by simp only [lc0]; omega) (by decide) (by decide)
      exact S
    · have hc' : ¬ (p.off = 0 ∧ p.mf = false) := by simpa using hc
      have q0 := (S.bx 0 rfl).eq
      have q4 := (S.bx 4 rfl).eq
      try simp (disch := (first | omega | assumption | (simp only [lc0, ln0, la0]; first | done | omega) | (simp (disch := assumption) only [go_sem, one_as, Nat.reduceBEq]; done) | fail)) only [q0, q4, yl, r8, go_sem, Hold.p, HoldK.k, HoldL.K, HoldL.body, Nat.reduceBEq, Nat.reduceAdd, reduceIte]
      refine test_of (fun hd => ?_) (fun hd => ?_)
      · have hd' : p.pay = [] ∨ (p.mf = true ∧ (p.pay.length : Int).tmod 8 ≠ 0) := by simpa using hd
        have ht : takeI now l o p = (l, { o with code := 5 }) := (if_neg hc').trans (if_pos hd')
        rw [ht]
        have q4 := (S.bx 4 rfl).eq
        try simp (disch := (first | omega | assumption | (simp only [lc0, ln0, la0]; first | done | omega) | (simp (disch := assumption) only [go_sem, one_as, Nat.reduceBEq]; done) | fail)) only [q4, go_sem, Hold.p, HoldK.k, HoldL.K, HoldL.body, Nat.reduceBEq, Nat.reduceAdd, reduceIte]
        refine st1_of (Nat.le_of_ble_eq_true rfl) (by first | rfl | assumption) fun g2 hg => ?_
        have l_g2 := n_set hg
        have S := S.set4 hg
        clear hg
        simp only [sz0, ss0, ts0, tz0, ds0, dz0, ca0, na0, Nat.reduceAdd] at S
        try simp (disch := (first | omega | assumption | (simp only [lc0, ln0, la0]; first | done | omega) | (simp (disch := assumption) only [go_sem, one_as, Nat.reduceBEq]; done) | fail)) only [go_sem, Hold.p, HoldK.k, HoldL.K, HoldL.body, Nat.reduceBEq, Nat.reduceAdd, reduceIte]
        refine ⟨vl, rs, vo, vp, ve, ?_⟩
        have S := by simpa only [mc0, mn0, List.getD_cons_zero, List.getD_cons_succ, ds0, dz0, ca0, na0] using Sp.sel S 9 [1, 2, 3, 4, 5, 6, 7, 8] (by simp only [lc0]; omega) (by decide) (by decide)
        exact S
      · have hd' : ¬ (p.pay = [] ∨ (p.mf = true ∧ (p.pay.length : Int).tmod 8 ≠ 0)) := by simpa using hd
        try simp (disch := (first | omega | assumption | (simp only [lc0, ln0, la0]; first | done | omega) | (simp (disch := assumption) only [go_sem, one_as, Nat.reduceBEq]; done) | fail)) only [go_sem, Hold.p, HoldK.k, HoldL.K, HoldL.body, Nat.reduceBEq, Nat.reduceAdd, reduceIte]
        refine ⟨p4, rfl, hc', hd', vl, rs, vo, vp, ve, ?_⟩
        have S := by simpa only [mc0, mn0, List.getD_cons_zero, List.getD_cons_succ, ds0, dz0, ca0, na0] using Sp.sel S 9 [1, 2, 3, 4, 5, 6, 7, 8, 0] (by simp only [lc0]; omega) (by decide) (by decide)
        exact S
  clear W
  rintro e g ⟨p4, i0, i2, i4, i6, hc1, hc2, W⟩
  replace hwh := hwh (fun e => hc2 (.inl e))
  have ht : takeI now l o p = stepI (openI now l o p).1 (openI now l o p).2.1 (openI now l o p).2.2 p := (if_neg hc1).trans (if_neg hc2)
  rw [ht]
  simp only [CC.split]
  refine vc_split 3 (fun e g => ∃ (i : Nat), e 0 = .ptr x 0 0 ∧ e 2 = .ptr po 0 0 ∧ e 4 = .ptr p4 0 0 ∧ e 6 = .int .i64 (p.pay.length : Nat) ∧ e 8 = .int .i64 (i : Nat) ∧ (openI now l o p).2.2 = i ∧ i < (openI now l o p).1.length ∧ (openI now l o p).1.length ≤ 17 ∧ (∀ m ∈ (openI now l o p).1, OkI N m) ∧ (openI now l o p).2.1.ended.length ≤ 100001 ∧
    ISt g x now (openI now l o p).1 po (openI now l o p).2.1 (old h0 :: box p4 (pkObj p po' pp) :: L)) ?_ ?_
  · simp only [CC.split]
    obtain ⟨vl, rs, vo, vp, ve, S⟩ := W
    have q8 := (S.bx 8 rfl).eq
    try simp (disch := (first | omega | assumption | (simp only [lc0, ln0, la0]; first | done | omega) | (simp (disch := assumption) only [go_sem, one_as, Nat.reduceBEq]; done) | fail)) only [i0, i2, i4, i6, q8, go_sem, Hold.p, HoldK.k, HoldL.K, HoldL.body, Nat.reduceBEq, Nat.reduceAdd, reduceIte]
    refine Sp.zero S fun p7 g1 S E_g1 l_g1 => ?_
    have q0 := (S.bx 0 rfl).eq
    try simp (disch := (first | omega | assumption | (simp only [lc0, ln0, la0]; first | done | omega) | (simp (disch := assumption) only [go_sem, one_as, Nat.reduceBEq]; done) | fail)) only [q0, i0, i2, i4, i6, go_sem, Hold.p, HoldK.k, HoldL.K, HoldL.body, Nat.reduceBEq, Nat.reduceAdd, reduceIte]
    refine stw_of rfl rfl (by first | rfl | simp (disch := assumption) only [go_sem, cells_one, one_as]) fun g2 hg => ?_
    have l_g2 := n_set hg
    have S := S.set0 hg
    clear hg
    have q1 := (S.bx 1 rfl).eq
    try simp (disch := (first | omega | assumption | (simp only [lc0, ln0, la0]; first | done | omega) | (simp (disch := assumption) only [go_sem, one_as, Nat.reduceBEq]; done) | fail)) only [q1, i0, i2, i4, i6, go_sem, Hold.p, HoldK.k, HoldL.K, HoldL.body, Nat.reduceBEq, Nat.reduceAdd, reduceIte]
    have S := by simpa only [mc0, mn0, List.getD_cons_zero, List.getD_cons_succ, ds0, dz0, ca0, na0] using Sp.sel S 10 [0, 2, 3, 1, 4, 5, 6, 7, 8, 9] (by simp only [lc0]; omega) (by decide) (by decide)
    refine callA_of (index_c (p := p) S (by omega)) ?_
    clear S q8
    rintro r2 g3 ⟨rfl, S⟩
    have hrl := a2_len S 2 rfl
    try simp (disch := (first | omega | assumption | (simp only [lc0, ln0, la0]; first | done | omega) | (simp (disch := assumption) only [go_sem, one_as, Nat.reduceBEq]; done) | fail)) only [i0, i2, i4, i6, go_sem, Hold.p, HoldK.k, HoldL.K, HoldL.body, Nat.reduceBEq, Nat.reduceAdd, reduceIte]
    cases hfi : l.findIdx? (keyI p) with
    | some k =>
      have hop : openI now l o p = (l, o, k) := by unfold openI; rw [hfi]
      have hfd : findI (keyI p) l = (k : Int) := by unfold findI; rw [hfi]
      have hk : k < l.length := by
        rw [List.findIdx?_eq_some_iff_getElem] at hfi
        exact hfi.1
      rw [hop, hfd]
      have d1 : decide ((k : Int) < 0) = false := decide_eq_false (by omega)
      try simp (disch := (first | omega | assumption | (simp only [lc0, ln0, la0]; first | done | omega) | (simp (disch := assumption) only [go_sem, one_as, Nat.reduceBEq]; done) | fail)) only [d1, i0, i2, i4, i6, go_sem, Hold.p, HoldK.k, HoldL.K, HoldL.body, Nat.reduceBEq, Nat.reduceAdd, reduceIte]
      refine ⟨k, rfl, rfl, hk, by omega, hok, by omega, vl, rs, vo, vp, ve, ?_⟩
      have S := by simpa only [mc0, mn0, List.getD_cons_zero, List.getD_cons_succ, ds0, dz0, ca0, na0] using Sp.sel S 10 [3, 1, 2, 4, 5, 6, 7, 8, 9] (by simp only [lc0]; omega) (by decide) (by decide)
      exact S
    | none =>
      have hfd : findI (keyI p) l = -1 := by unfold findI; rw [hfi]
      rw [hfd]
      have hnew : OkI N (mkNew p now) := ⟨⟨by simp [mkNew], by simp [mkNew], by simp [mkNew]⟩, by simp [mkNew]⟩
      refine test_dec (fun hb => ?_) (fun hb => absurd (by decide) hb)
      simp only [Hold.p]
      refine vc_split 1 (fun e g => ∃ (l1 : List Mk) (o1 : Ot), e 0 = .ptr x 0 0 ∧ e 2 = .ptr po 0 0 ∧ e 4 = .ptr p4 0 0 ∧ e 6 = .int .i64 (p.pay.length : Nat) ∧ e 7 = .ptr p7 0 0 ∧ openI now l o p = (l1 ++ [mkNew p now], o1, l1.length) ∧ l1.length ≤ 16 ∧ (∀ m ∈ l1, OkI N m) ∧ o1.ended.length ≤ 100001 ∧ ISt g x now l1 po o1 (old h0 :: box p4 (pkObj p po' pp) :: box p7 (keyO p) :: L)) ?_ ?_
      · simp only [CC.split]
        have q3 := (S.bx 3 rfl).eq
        have s1 := S.slA 1 rfl
        have len_s1 := s1.lenF
        have z1 := s1.one
        try simp (disch := (first | omega | assumption | (simp only [lc0, ln0, la0]; first | done | omega) | (simp (disch := assumption) only [go_sem, one_as, Nat.reduceBEq]; done) | fail)) only [q3, len_s1, z1, i0, i2, i4, i6, hrl, go_sem, Hold.p, HoldK.k, HoldL.K, HoldL.body, Nat.reduceBEq, Nat.reduceAdd, reduceIte]
        refine test_dec (fun hb => ?_) (fun hb => ?_)
        · obtain ⟨m0, hm0⟩ : ∃ m, l[0]? = some m := ⟨_, List.getElem?_eq_getElem (by omega : 0 < l.length)⟩
          have hop : openI now l o p = (l.eraseIdx 0 ++ [mkNew p now], goneOI o m0, l.length - 1) := by
            unfold openI
            rw [hfi]
            simp only
            rw [if_pos (by omega)]
            have : l.headD default = m0 := by
              cases l with
              | nil => simp at hm0
              | cons a b => simpa using hm0
            rw [this]
          obtain ⟨q, vps, vf, hrow, hbq, k1, k2, k3⟩ := mk_at S 2 rfl hm0
          have hne : rs ≠ [] := by intro e; rw [e] at hrl; simp at hrl; omega
          have qq := hbq.eq
          have S := by simpa only [mc0, mn0, List.getD_cons_zero, List.getD_cons_succ, ds0, dz0, ca0, na0] using Sp.sel S 10 [1, 0, 2, 3, 4, 5, 6, 7, 8, 9] (by simp only [lc0]; omega) (by decide) (by decide)
          have S0 := S
          clear S
          obtain ⟨lv, rfl, S⟩ := S0.slBox hne
          have io : iadrO (IObj.rows rs 105 1 false) 1 lv 0 rs.length 0 = some (.ptr lv 0 0) := iadrO_0 (by omega)
          simp only [Hold.p]
          refine vc_split 1 (fun e g => e 0 = .ptr x 0 0 ∧ e 2 = .ptr po 0 0 ∧ e 4 = .ptr p4 0 0 ∧ e 6 = .int .i64 (p.pay.length : Nat) ∧ e 7 = .ptr p7 0 0 ∧ ∃ ve, Sp g (box lv (.rows rs 105 1 false) :: box p7 (keyO p) :: all2 mkR rs l :: box x (xO now (.slice lv 0 rs.length)) :: box po (outO (goneOI o m0) vo vp ve) :: byt vo o.pk.opts :: byt vp o.pk.pay :: endP ve (goneOI o m0).ended :: old h0 :: box p4 (pkObj p po' pp) :: L)) ?_ ?_
          · simp only [CC.split]
            have q0 := (S.bx 0 rfl).eq
            have q3 := (S.bx 3 rfl).eq
            try simp (disch := (first | omega | assumption | (simp only [lc0, ln0, la0]; first | done | omega) | (simp (disch := assumption) only [go_sem, one_as, Nat.reduceBEq]; done) | fail)) only [q0, q3, i0, i2, i4, i6, iadrF_sl, io, hrow, qq, go_sem, Hold.p, HoldK.k, HoldL.K, HoldL.body, Nat.reduceBEq, Nat.reduceAdd, reduceIte]
            refine test_of (fun hr => ?_) (fun hr => ?_)
            · have hr' : m0.ref = false := by rwa [Bool.not_eq_true'] at hr
              have hgo : goneOI o m0 = { o with ended := o.ended ++ [toldI m0] } := if_neg (by simp [hr'])
              have q0 := (S.bx 0 rfl).eq
              have q3 := (S.bx 3 rfl).eq
              have q4 := (S.bx 4 rfl).eq
              try simp (disch := (first | omega | assumption | (simp only [lc0, ln0, la0]; first | done | omega) | (simp (disch := assumption) only [go_sem, one_as, Nat.reduceBEq]; done) | fail)) only [q0, q3, q4, i0, i2, i4, i6, iadrF_sl, io, hrow, qq, go_sem, Hold.p, HoldK.k, HoldL.K, HoldL.body, Nat.reduceBEq, Nat.reduceAdd, reduceIte]
              refine callA_of (told_c S hbq k2) ?_
              clear S
              rintro r4 g4 ⟨rfl, S⟩
              obtain ⟨q', vps', vf', hrow', hbq', _⟩ := mk_at S 2 rfl hm0
              unfold enRow toldI
              have q0 := (S.bx 0 rfl).eq
              have q3 := (S.bx 3 rfl).eq
              have q4 := (S.bx 4 rfl).eq
              try simp (disch := (first | omega | assumption | (simp only [lc0, ln0, la0]; first | done | omega) | (simp (disch := assumption) only [go_sem, one_as, Nat.reduceBEq]; done) | fail)) only [q0, q3, q4, i0, i2, i4, i6, iadrF_sl, io, hrow, go_sem, Hold.p, HoldK.k, HoldL.K, HoldL.body, Nat.reduceBEq, Nat.reduceAdd, reduceIte]
              refine Sp.bsl1 S (by first | rfl | (rw [cells_one (by assumption)]; rfl)) (by first | rfl | simp (disch := assumption) only [go_sem, cells_one, one_as]) fun p14 g14 S E_g14 l_g14 => ?_
              try simp only [cells_agg, cells_int, cells_bool, cells_ptr, cells_str] at S
              have q0 := (S.bx 0 rfl).eq
              have q1 := (S.bx 1 rfl).eq
              have q4 := (S.bx 4 rfl).eq
              have q5 := (S.bx 5 rfl).eq
              try simp (disch := (first | omega | assumption | (simp only [lc0, ln0, la0]; first | done | omega) | (simp (disch := assumption) only [go_sem, one_as, Nat.reduceBEq]; done) | fail)) only [q0, q1, q4, q5, i0, i2, i4, i6, iadrF_sl, io, hrow, go_sem, Hold.p, HoldK.k, HoldL.K, HoldL.body, Nat.reduceBEq, Nat.reduceAdd, reduceIte]
              have S := by simpa only [mc0, mn0, List.getD_cons_zero, List.getD_cons_succ, ds0, dz0, ca0, na0] using Sp.sel S 11 [0, 8, 1, 2, 3, 4, 5, 6, 7, 9, 10] (by simp only [lc0]; omega) (by decide) (by decide)
              refine S.app1 (y := false) (by simp; omega) ?_
              clear S
              intro v15 g15 S z15
              have q4 := (S.bx 4 rfl).eq
              have q5 := (S.bx 5 rfl).eq
              try simp (disch := (first | omega | assumption | (simp only [lc0, ln0, la0]; first | done | omega) | (simp (disch := assumption) only [go_sem, one_as, Nat.reduceBEq]; done) | fail)) only [q4, q5, i0, i2, i4, i6, go_sem, Hold.p, HoldK.k, HoldL.K, HoldL.body, Nat.reduceBEq, Nat.reduceAdd, reduceIte]
              refine st1_of (Nat.le_of_ble_eq_true rfl) (by first | rfl | assumption) fun g16 hg => ?_
              have l_g16 := n_set hg
              have S := S.set5 hg
              clear hg
              simp only [sz0, ss0, ts0, tz0, ds0, dz0, ca0, na0, Nat.reduceAdd] at S
              try simp (disch := (first | omega | assumption | (simp only [lc0, ln0, la0]; first | done | omega) | (simp (disch := assumption) only [go_sem, one_as, Nat.reduceBEq]; done) | fail)) only [i0, i2, i4, i6, go_sem, Hold.p, HoldK.k, HoldL.K, HoldL.body, Nat.reduceBEq, Nat.reduceAdd, reduceIte]
              refine ⟨v15, ?_⟩
              rw [hgo]
              simp only [endP, List.map_append, mc0, mn0]
              have S := by simpa only [mc0, mn0, List.getD_cons_zero, List.getD_cons_succ, ds0, dz0, ca0, na0] using Sp.sel S 10 [1, 2, 3, 4, 5, 6, 7, 0, 8, 9] (by simp only [lc0]; omega) (by decide) (by decide)
              exact S
            · have hr' : m0.ref = true := by rwa [Bool.not_eq_false'] at hr
              have hgo : goneOI o m0 = o := if_pos hr'
              try simp (disch := (first | omega | assumption | (simp only [lc0, ln0, la0]; first | done | omega) | (simp (disch := assumption) only [go_sem, one_as, Nat.reduceBEq]; done) | fail)) only [i0, i2, i4, i6, go_sem, Hold.p, HoldK.k, HoldL.K, HoldL.body, Nat.reduceBEq, Nat.reduceAdd, reduceIte]
              rw [hgo]
              exact ⟨ve, S⟩
          · clear S i0 i2 i4 i6
            rintro e g ⟨i0, i2, i4, i6, i7, ve, S⟩
            simp only [CC.split]
            have S := S.boxSl (x := true) (n := rs.length) rfl (.inl rfl)
            have q3 := (S.bx 3 rfl).eq
            try simp (disch := (first | omega | assumption | (simp only [lc0, ln0, la0]; first | done | omega) | (simp (disch := assumption) only [go_sem, one_as, Nat.reduceBEq]; done) | fail)) only [q3, i0, i2, i4, i6, i7, go_sem, Hold.p, HoldK.k, HoldL.K, HoldL.body, Nat.reduceBEq, Nat.reduceAdd, reduceIte]
            refine callA_of (delete_c (i := 0) (j := 1) S hne (by omega) (by omega)) ?_
            clear S
            rintro r5 g5 ⟨S, z5⟩
            have q3 := (S.bx 3 rfl).eq
            try simp (disch := (first | omega | assumption | (simp only [lc0, ln0, la0]; first | done | omega) | (simp (disch := assumption) only [go_sem, one_as, Nat.reduceBEq]; done) | fail)) only [q3, i0, i2, i4, i6, i7, go_sem, Hold.p, HoldK.k, HoldL.K, HoldL.body, Nat.reduceBEq, Nat.reduceAdd, reduceIte]
            refine st1_of (Nat.le_of_ble_eq_true rfl) (by first | rfl | assumption) fun g6 hg => ?_
            have l_g6 := n_set hg
            have S := S.set3 hg
            clear hg
            simp only [sz0, ss0, ts0, tz0, ds0, dz0, ca0, na0, Nat.reduceAdd] at S
            try simp (disch := (first | omega | assumption | (simp only [lc0, ln0, la0]; first | done | omega) | (simp (disch := assumption) only [go_sem, one_as, Nat.reduceBEq]; done) | fail)) only [i0, i2, i4, i6, i7, go_sem, Hold.p, HoldK.k, HoldL.K, HoldL.body, Nat.reduceBEq, Nat.reduceAdd, reduceIte]
            have he0 : rs.drop 1 = rs.eraseIdx 0 := by cases rs with
              | nil => rfl
              | cons a b => rfl
            rw [he0] at S
            refine ⟨l.eraseIdx 0, goneOI o m0, by rw [hop, List.length_eraseIdx_of_lt (by omega)], ?_, fun m hm => hok m (List.mem_of_mem_eraseIdx hm), ?_, ?_⟩
            · rw [List.length_eraseIdx_of_lt (by omega)]; omega
            · unfold goneOI; split
              · omega
              · simp; omega
            · have hpk : (goneOI o m0).pk = o.pk := by unfold goneOI; split <;> rfl
              refine ⟨r5, rs.eraseIdx 0, vo, vp, ve, ?_⟩
              rw [hpk]
              have S := by simpa only [mc0, mn0, List.getD_cons_zero, List.getD_cons_succ, ds0, dz0, ca0, na0] using Sp.sel S 10 [2, 0, 1, 3, 4, 5, 6, 7, 8, 9] (by simp only [lc0]; omega) (by decide) (by decide)
              have S := a2_erase S hm0
              have S := by simpa only [mc0, mn0, List.getD_cons_zero, List.getD_cons_succ, ds0, dz0, ca0, na0] using Sp.sel S 10 [3, 1, 0, 4, 5, 6, 7, 8, 9, 2] (by simp only [lc0]; omega) (by decide) (by decide)
              exact S
        · have hop : openI now l o p = (l ++ [mkNew p now], o, l.length) := by
            unfold openI
            rw [hfi]
            simp only
            rw [if_neg (by omega)]
          try simp (disch := (first | omega | assumption | (simp only [lc0, ln0, la0]; first | done | omega) | (simp (disch := assumption) only [go_sem, one_as, Nat.reduceBEq]; done) | fail)) only [i0, i2, i4, i6, go_sem, Hold.p, HoldK.k, HoldL.K, HoldL.body, Nat.reduceBEq, Nat.reduceAdd, reduceIte]
          refine ⟨l, o, hop, hl, hok, by omega, vl, rs, vo, vp, ve, ?_⟩
          have S := by simpa only [mc0, mn0, List.getD_cons_zero, List.getD_cons_succ, ds0, dz0, ca0, na0] using Sp.sel S 10 [3, 1, 2, 4, 5, 6, 7, 8, 9, 0] (by simp only [lc0]; omega) (by decide) (by decide)
          exact S
      · clear S
        rintro e g ⟨l1, o1, i0, i2, i4, i6, i7, hop, hl1, hok1, he1, vl, rs, vo, vp, ve, S⟩
        rw [hop]
        have hrl := a2_len S 2 rfl
        simp only [CC.split]
        have q0 := (S.bx 0 rfl).eq
        have q9 := (S.bx 9 rfl).eq
        have s1 := S.slA 1 rfl
        have len_s1 := s1.lenF
        have z1 := s1.one
        try simp (disch := (first | omega | assumption | (simp only [lc0, ln0, la0]; first | done | omega) | (simp (disch := assumption) only [go_sem, one_as, Nat.reduceBEq]; done) | fail)) only [q0, q9, len_s1, z1, i0, i2, i4, i6, i7, hrl, lay_p, ca0, na0, go_sem, Hold.p, HoldK.k, HoldL.K, HoldL.body, Nat.reduceBEq, Nat.reduceAdd, reduceIte]
        refine Sp.bxA S (by first | rfl | (rw [cells_one (by assumption)]; rfl)) (by first | rfl | simp (disch := assumption) only [go_sem, cells_one, one_as]) fun p10 g10 S E_g10 l_g10 => ?_
        have q1 := (S.bx 1 rfl).eq
        have q10 := (S.bx 10 rfl).eq
        try simp (disch := (first | omega | assumption | (simp only [lc0, ln0, la0]; first | done | omega) | (simp (disch := assumption) only [go_sem, one_as, Nat.reduceBEq]; done) | fail)) only [q1, q10, i0, i2, i4, i6, i7, go_sem, Hold.p, HoldK.k, HoldL.K, HoldL.body, Nat.reduceBEq, Nat.reduceAdd, reduceIte]
        refine Sp.bsl1 S (by first | rfl | (rw [cells_one (by assumption)]; rfl)) (by first | rfl | simp (disch := assumption) only [go_sem, cells_one, one_as]) fun p11 g11 S E_g11 l_g11 => ?_
        try simp only [cells_agg, cells_int, cells_bool, cells_ptr, cells_str] at S
        have q0 := (S.bx 0 rfl).eq
        have q2 := (S.bx 2 rfl).eq
        have s3 := S.slA 3 rfl
        have len_s3 := s3.lenF
        have z3 := s3.one
        try simp (disch := (first | omega | assumption | (simp only [lc0, ln0, la0]; first | done | omega) | (simp (disch := assumption) only [go_sem, one_as, Nat.reduceBEq]; done) | fail)) only [q0, q2, len_s3, z3, i0, i2, i4, i6, i7, go_sem, Hold.p, HoldK.k, HoldL.K, HoldL.body, Nat.reduceBEq, Nat.reduceAdd, reduceIte]
        have S := by simpa only [mc0, mn0, List.getD_cons_zero, List.getD_cons_succ, ds0, dz0, ca0, na0] using Sp.sel S 12 [0, 3, 1, 2, 4, 5, 6, 7, 8, 9, 10, 11] (by simp only [lc0]; omega) (by decide) (by decide)
        refine S.app1 (y := true) (by omega) ?_
        clear S
        intro v12 g12 S z12
        have q2 := (S.bx 2 rfl).eq
        try simp (disch := (first | omega | assumption | (simp only [lc0, ln0, la0]; first | done | omega) | (simp (disch := assumption) only [go_sem, one_as, Nat.reduceBEq]; done) | fail)) only [q2, i0, i2, i4, i6, i7, go_sem, Hold.p, HoldK.k, HoldL.K, HoldL.body, Nat.reduceBEq, Nat.reduceAdd, reduceIte]
        refine st1_of (Nat.le_of_ble_eq_true rfl) (by first | rfl | assumption) fun g13 hg => ?_
        have l_g13 := n_set hg
        have S := S.set2 hg
        clear hg
        simp only [sz0, ss0, ts0, tz0, ds0, dz0, ca0, na0, Nat.reduceAdd] at S
        have q2 := (S.bx 2 rfl).eq
        have s0 := S.slA 0 rfl
        have len_s0 := s0.lenF
        have z0 := s0.one
        try simp (disch := (first | omega | assumption | (simp only [lc0, ln0, la0]; first | done | omega) | (simp (disch := assumption) only [go_sem, one_as, Nat.reduceBEq]; done) | fail)) only [q2, len_s0, z0, i0, i2, i4, i6, i7, go_sem, Hold.p, HoldK.k, HoldL.K, HoldL.body, Nat.reduceBEq, Nat.reduceAdd, reduceIte]
        have w1 : wr .i64 (((rs ++ [[IV.ptr p10 0 0]]).length : Int) - 1) = (l1.length : Nat) := by
          rw [la0, List.length_singleton, hrl, wr64 _ (by omega)]; omega
        try simp (disch := (first | omega | assumption | (simp only [lc0, ln0, la0]; first | done | omega) | (simp (disch := assumption) only [go_sem, one_as, Nat.reduceBEq]; done) | fail)) only [w1, i0, i2, i4, i6, i7, go_sem, Hold.p, HoldK.k, HoldL.K, HoldL.body, Nat.reduceBEq, Nat.reduceAdd, reduceIte]
        refine ⟨l1.length, rfl, rfl, by simp, by simp; omega, ?_, he1, v12, rs ++ [[.ptr p10 0 0]], vo, vp, ve, ?_⟩
        · intro m hm
          rcases List.mem_append.1 hm with hm | hm
          · exact hok1 m hm
          · rw [List.mem_singleton.1 hm]; exact hnew
        · have S := ((first_none S).a2nil (R := pcR)).slNil (x := false) (el := 116) (sz := 2)
          have S := by simpa only [mc0, mn0, List.getD_cons_zero, List.getD_cons_succ, ds0, dz0, ca0, na0] using Sp.sel S 14 [4, 0, 1, 2, 3, 5, 6, 7, 8, 9, 10, 11, 12] (by simp only [lc0]; omega) (by decide) (by decide)
          have S := (mk_mk (m := mkNew p now) S).a2one
          have S := by simpa only [mc0, mn0, List.getD_cons_zero, List.getD_cons_succ, ds0, dz0, ca0, na0] using Sp.sel S 10 [3, 0, 1, 2, 4, 5, 6, 7, 8, 9] (by simp only [lc0]; omega) (by decide) (by decide)
          have S := S.a2join
          have S := by simpa only [mc0, mn0, List.getD_cons_zero, List.getD_cons_succ, ds0, dz0, ca0, na0] using Sp.sel S 9 [2, 1, 0, 3, 4, 5, 6, 7, 8] (by simp only [lc0]; omega) (by decide) (by decide)
          exact S
  clear W
  rintro e g ⟨i, i0, i2, i4, i6, i8, hri, hil, hlen, hok1, he1, W⟩
  generalize openI now l o p = rr at hri hil hlen hok1 he1 W hwh ⊢
  obtain ⟨l1, o1, i'⟩ := rr
  simp only at hri hil hlen hok1 he1 W hwh ⊢
  subst hri
  clear hok hl he hc1 hc2 ht
  obtain ⟨vl, rs, vo, vp, ve, S⟩ := W
  simp only [CC.split]
  obtain ⟨m, hm⟩ : ∃ m, l1[i']? = some m := ⟨_, List.getElem?_eq_getElem hil⟩
  have hmd : l1.getD i' default = m := by rw [List.getD_eq_getElem?_getD, hm]; rfl
  have hokm := hok1 m (List.mem_of_getElem? hm)
  have hrl := a2_len S 2 rfl
  have S := by simpa only [mc0, mn0, List.getD_cons_zero, List.getD_cons_succ, ds0, dz0, ca0, na0] using Sp.sel S 9 [2, 0, 1, 3, 4, 5, 6, 7, 8] (by simp only [lc0]; omega) (by decide) (by decide)
  obtain ⟨a0, r, bs, xs1, ys, hrs, hl1, ha0, hx1, S⟩ := S.a2at hm
  obtain ⟨q, vps, vf, prs, hr, S⟩ := mk_open S
  rw [hr] at hrs
  rw [hrs] at S
  have hrow : (a0 ++ [IV.ptr q 0 0] :: bs)[i']? = some [.ptr q 0 0] := by rw [← ha0]; simp
  have hsl : ∀ m', l1.set i' m' = xs1 ++ m' :: ys := fun m' => by rw [hl1, ← hx1]; simp
  have hst : stepI l1 o1 i' p = if m.ref = true then (l1, o1) else if (addI m p).2 = true then (l1.eraseIdx i', { o1 with done := true, pk := wholeI (addI m p).1 }) else (l1.set i' (addI m p).1, o1) := by
    unfold stepI; simp only [hmd]
  obtain ⟨hn0, hq0, hen0⟩ := hokm.s
  have hfo := hokm.o
  have z9 := (S.slA 9 rfl).one
  have z10 := (S.slA 10 rfl).one
  have z11 := (S.slA 11 rfl).one
  refine vc_split 2 (fun e g => m.ref = false ∧ e 0 = .ptr x 0 0 ∧ e 2 = .ptr po 0 0 ∧ e 4 = .ptr p4 0 0 ∧ e 6 = .int .i64 (p.pay.length : Nat) ∧ e 8 = .int .i64 (i' : Nat) ∧ e 9 = .ptr q 0 0 ∧
    Sp g (box q (mkO m vps m.en vf m.ref) :: sl false 116 2 vps prs :: all2 pcR prs m.ps :: firstP vf m.first :: all2 mkR a0 xs1 :: all2 mkR bs ys :: box x (xO now vl) :: sl true 105 1 vl (a0 ++ [.ptr q 0 0] :: bs) :: box po (outO o1 vo vp ve) :: byt vo o1.pk.opts :: byt vp o1.pk.pay :: endP ve o1.ended :: old h0 :: box p4 (pkObj p po' pp) :: L)) ?_ ?_
  · simp only [CC.split]
    have s7 := S.slA 7 rfl
    obtain ⟨a1, a2, hia, hal, har⟩ := s7.at hrow .i64
    have hcl := cellO_row har
    have q6 := (S.bx 6 rfl).eq
    have q0 := (S.bx 0 rfl).eq
    try simp (disch := (first | omega | assumption | (simp only [lc0, ln0, la0]; first | done | omega) | (simp (disch := assumption) only [go_sem, one_as, Nat.reduceBEq]; done) | fail)) only [q6, q0, i0, i2, i4, i6, i8, hia, hcl, go_sem, Hold.p, HoldK.k, HoldL.K, HoldL.body, Nat.reduceBEq, Nat.reduceAdd, reduceIte]
    refine test_of (fun hc => ?_) (fun hc => ?_)
    · skip
      try simp (disch := (first | omega | assumption | (simp only [lc0, ln0, la0]; first | done | omega) | (simp (disch := assumption) only [go_sem, one_as, Nat.reduceBEq]; done) | fail)) only [go_sem, Hold.p, HoldK.k, HoldL.K, HoldL.body, Nat.reduceBEq, Nat.reduceAdd, reduceIte]
      rw [hst, if_pos hc]
      refine ⟨vl, a0 ++ [.ptr q 0 0] :: bs, vo, vp, ve, ?_⟩
      have S := i_close S
      rw [← hl1] at S
      have S := by simpa only [mc0, mn0, List.getD_cons_zero, List.getD_cons_succ, ds0, dz0, ca0, na0] using Sp.sel S 9 [0, 1, 2, 3, 4, 5, 6, 7] (by simp only [lc0]; omega) (by decide) (by decide)
      exact S
    · skip
      try simp (disch := (first | omega | assumption | (simp only [lc0, ln0, la0]; first | done | omega) | (simp (disch := assumption) only [go_sem, one_as, Nat.reduceBEq]; done) | fail)) only [i0, i2, i4, i6, i8, go_sem, Hold.p, HoldK.k, HoldL.K, HoldL.body, Nat.reduceBEq, Nat.reduceAdd, reduceIte]
      exact ⟨hc, S⟩
  clear S i0 i2 i4 i6 i8
  rintro e g ⟨hmr, i0, i2, i4, i6, i8, i9, S⟩
  have hwhm := hwh m (List.mem_of_getElem? hm) hmr
  rw [if_neg (by simp [hmr])] at hst
  simp only [CC.split]
  generalize hen : p.off + (p.pay.length : Int) = en
  have w0 : wr .i64 (p.off + (p.pay.length : Int)) = en := by rw [wr64 _ (by omega)]; exact hen
  have hfin : ∀ {g : IH} {m' : Mk} {vps vf : IV} {prs : List (List IV)}, addI m p = (m', false) → Sp g (box q (mkO m' vps m'.en vf m'.ref) :: sl false 116 2 vps prs :: all2 pcR prs m'.ps :: firstP vf m'.first :: all2 mkR a0 xs1 :: all2 mkR bs ys :: box x (xO now vl) :: sl true 105 1 vl (a0 ++ [.ptr q 0 0] :: bs) :: box po (outO o1 vo vp ve) :: byt vo o1.pk.opts :: byt vp o1.pk.pay :: endP ve o1.ended :: old h0 :: box p4 (pkObj p po' pp) :: L) →
      ISt g x now (stepI l1 o1 i' p).1 po (stepI l1 o1 i' p).2 (old h0 :: L) := by
    intro g m' vps vf prs hX S
    rw [hst, hX]
    simp only [Bool.false_eq_true, if_false]
    rw [hsl]
    refine ⟨vl, a0 ++ [.ptr q 0 0] :: bs, vo, vp, ve, ?_⟩
    have S := i_close S
    have S := by simpa only [mc0, mn0, List.getD_cons_zero, List.getD_cons_succ, ds0, dz0, ca0, na0] using Sp.sel S 9 [0, 1, 2, 3, 4, 5, 6, 7] (by simp only [lc0]; omega) (by decide) (by decide)
    exact S
  have hfinR : ∀ {g : IH} {m' : Mk} {A B C : As}, addI m p = (m'.refuse, false) → Sp g (box q (mkO m' .nilslice (-1) .nilptr true) :: A :: B :: C :: all2 mkR a0 xs1 :: all2 mkR bs ys :: box x (xO now vl) :: sl true 105 1 vl (a0 ++ [.ptr q 0 0] :: bs) :: box po (outO o1 vo vp ve) :: byt vo o1.pk.opts :: byt vp o1.pk.pay :: endP ve o1.ended :: old h0 :: box p4 (pkObj p po' pp) :: L) →
      ISt g x now (stepI l1 o1 i' p).1 po (stepI l1 o1 i' p).2 (old h0 :: L) := by
    intro g m' A B C hX S
    rw [hst, hX]
    simp only [Bool.false_eq_true, if_false]
    rw [hsl]
    refine ⟨vl, a0 ++ [.ptr q 0 0] :: bs, vo, vp, ve, ?_⟩
    have S := i_closeR S
    have S := by simpa only [mc0, mn0, List.getD_cons_zero, List.getD_cons_succ, ds0, dz0, ca0, na0] using Sp.sel S 9 [0, 1, 2, 3, 4, 5, 6, 7] (by simp only [lc0]; omega) (by decide) (by decide)
    exact S
  have hi20 : i' ≤ 20 := by omega
  clear hmd hlen hok1 he1
  refine vc_split 3 (fun e g => ∃ same : Bool, scanI p.off en p.mf p.pay m.ps false = some same ∧ e 0 = .ptr x 0 0 ∧ e 2 = .ptr po 0 0 ∧ e 4 = .ptr p4 0 0 ∧ e 8 = .int .i64 (i' : Nat) ∧ e 9 = .ptr q 0 0 ∧ e 10 = .int .i64 en ∧ e 11 = .bool same ∧
    Sp g (box q (mkO m vps m.en vf m.ref) :: sl false 116 2 vps prs :: all2 pcR prs m.ps :: firstP vf m.first :: all2 mkR a0 xs1 :: all2 mkR bs ys :: box x (xO now vl) :: sl true 105 1 vl (a0 ++ [.ptr q 0 0] :: bs) :: box po (outO o1 vo vp ve) :: byt vo o1.pk.opts :: byt vp o1.pk.pay :: endP ve o1.ended :: old h0 :: box p4 (pkObj p po' pp) :: L)) ?_ ?_
  · simp only [CC.split]
    have hpl := a2_len S 2 rfl
    have q0 := (S.bx 0 rfl).eq
    have q13 := (S.bx 13 rfl).eq
    have s1 := S.slA 1 rfl
    have len_s1 := s1.lenF
    have z1 := s1.one
    try simp (disch := (first | omega | assumption | (simp only [lc0, ln0, la0]; first | done | omega) | (simp (disch := assumption) only [go_sem, one_as, Nat.reduceBEq]; done) | fail)) only [q0, q13, len_s1, z1, i0, i2, i4, i6, i8, i9, w0, hpl, go_sem, Hold.p, HoldK.k, HoldL.K, HoldL.body, Nat.reduceBEq, Nat.reduceAdd, reduceIte]
    refine loop_at (fun n e g => ∃ (k : Nat) (same : Bool), n = m.ps.length - k ∧ k ≤ m.ps.length ∧ scanI p.off en p.mf p.pay m.ps false = scanI p.off en p.mf p.pay (m.ps.drop k) same ∧ e 0 = .ptr x 0 0 ∧ e 2 = .ptr po 0 0 ∧ e 4 = .ptr p4 0 0 ∧ e 8 = .int .i64 (i' : Nat) ∧ e 9 = .ptr q 0 0 ∧ e 10 = .int .i64 en ∧ e 11 = .bool same ∧ e 151 = vps ∧ e 152 = .int .i64 (m.ps.length : Nat) ∧ e 153 = .int .i64 (k : Nat) ∧
      Sp g (box q (mkO m vps m.en vf m.ref) :: sl false 116 2 vps prs :: all2 pcR prs m.ps :: firstP vf m.first :: all2 mkR a0 xs1 :: all2 mkR bs ys :: box x (xO now vl) :: sl true 105 1 vl (a0 ++ [.ptr q 0 0] :: bs) :: box po (outO o1 vo vp ve) :: byt vo o1.pk.opts :: byt vp o1.pk.pay :: endP ve o1.ended :: old h0 :: box p4 (pkObj p po' pp) :: L)) m.ps.length ?_ ?_
    · refine ⟨0, false, by omega, by omega, rfl, ?_⟩
      try simp (disch := (first | omega | assumption | (simp only [lc0, ln0, la0]; first | done | omega) | (simp (disch := assumption) only [go_sem, one_as, Nat.reduceBEq]; done) | fail)) only [i0, i2, i4, i6, i8, i9, go_sem, Hold.p, HoldK.k, HoldL.K, HoldL.body, Nat.reduceBEq, Nat.reduceAdd, reduceIte]
      exact ⟨rfl, S⟩
    · clear S i0 i2 i4 i6 i8 i9 s1 len_s1 z1
      rintro n e g ⟨k, same, rfl, hk, hsc, i0, i2, i4, i8, i9, i10, i11, i151, i152, i153, S⟩
      try simp (disch := (first | omega | assumption | (simp only [lc0, ln0, la0]; first | done | omega) | (simp (disch := assumption) only [go_sem, one_as, Nat.reduceBEq]; done) | fail)) only [i0, i2, i4, i8, i9, i10, i11, i151, i152, i153, go_sem, Hold.p, HoldK.k, HoldL.K, HoldL.body, Nat.reduceBEq, Nat.reduceAdd, reduceIte]
      refine test_dec (fun hb => ?_) (fun hb => ?_)
      · obtain ⟨qq, hq⟩ : ∃ q, m.ps[k]? = some q := ⟨_, List.getElem?_eq_getElem (by omega : k < m.ps.length)⟩
        have hqs := hq0 qq (List.mem_of_getElem? hq)
        obtain ⟨vd, hrw, hvd⟩ := pcs_at S 2 rfl hq
        have s1 := S.slA 1 rfl
        obtain ⟨a1, a2, hia, hal, har⟩ := s1.at hrw .i64
        have d1 := hvd.one
        have d2 := hvd.lenF
        rw [strRows_len] at d2
        have w1 : wr .i64 ((k : Int) + 1) = ((k + 1 : Nat) : Int) := by rw [wr64 _ (by omega)]; rfl
        have w2 : wr .i64 (qq.1 + (qq.2.length : Int)) = pTo qq := by rw [wr64 _ (by omega)]; rfl
        have hd := drop_at hq
        try simp (disch := (first | omega | assumption | (simp only [lc0, ln0, la0]; first | done | omega) | (simp (disch := assumption) only [go_sem, one_as, Nat.reduceBEq]; done) | fail)) only [i0, i2, i4, i8, i9, i10, i11, i151, i152, i153, hia, har, d1, go_sem, Hold.p, HoldK.k, HoldL.K, HoldL.body, Nat.reduceBEq, Nat.reduceAdd, reduceIte]
        refine Sp.zero S fun p13 g13 S E_g13 l_g13 => ?_
        have q0 := (S.bx 0 rfl).eq
        try simp (disch := (first | omega | assumption | (simp only [lc0, ln0, la0]; first | done | omega) | (simp (disch := assumption) only [go_sem, one_as, Nat.reduceBEq]; done) | fail)) only [q0, d1, go_sem, Hold.p, HoldK.k, HoldL.K, HoldL.body, Nat.reduceBEq, Nat.reduceAdd, reduceIte]
        refine stw_of rfl rfl (by first | rfl | simp (disch := assumption) only [go_sem, cells_one, one_as]) fun g14 hg => ?_
        have l_g14 := n_set hg
        have S := S.set0 hg
        clear hg
        obtain ⟨vd', hrow', hvd'⟩ := pcs_at S 3 rfl hq
        have hvv : vd' = vd := by rw [hrw] at hrow'; simpa using hrow'.symm
        subst hvv
        have q0 := (S.bx 0 rfl).eq
        have q14 := (S.bx 14 rfl).eq
        try simp (disch := (first | omega | assumption | (simp only [lc0, ln0, la0]; first | done | omega) | (simp (disch := assumption) only [go_sem, one_as, Nat.reduceBEq]; done) | fail)) only [q0, q14, i0, i2, i4, i8, i9, i10, i11, i151, i152, i153, d2, w2, go_sem, Hold.p, HoldK.k, HoldL.K, HoldL.body, Nat.reduceBEq, Nat.reduceAdd, reduceIte]
        refine guard_pureT (v := .bool (decide (qq.2 = p.pay))) (fun hb => ?_) ?_
        · simp (disch := (first | omega | assumption | (simp only [push_n, set_n, put_n, lc0, ln0, la0, Nat.reduceAdd]; done) | (simp only [push_n, set_n, put_n, lc0, ln0, la0]; omega) | (simp only [List.all_cons, List.all_nil, one_bool, one_int, one_str, one_ptr, one_nilptr, one_slice, one_eslice, one_nilslice, one_func, one_iface, one_niliface, Bool.and_true, Bool.true_and, List.getD_cons_zero, List.getD_cons_succ, List.contains_cons, List.contains_nil, Bool.or_true, Bool.true_or, Bool.or_false, Bool.false_or, Nat.reduceBEq, *]; done) | fail)) only [hb, go_sem, ↓act_zero, boxA_1, boxA_2, boxA_3, bslA_1, Hold.p, HoldK.k, HoldL.K, HoldL.body, Nat.reduceBEq, Nat.reduceAdd, stO_mid, push_n, set_n, push_at, push_old, set_here, set_there, set_pushT, set_pushN, set_set, stO_1s, stO_ws, boxA_s, reduceIte]
          exact bEqual_c g14 _ _ _ _ hvd' (a.ext (S.ol 13 rfl)).p
        simp (disch := (first | omega | assumption | (simp only [push_n, set_n, put_n, lc0, ln0, la0, Nat.reduceAdd]; done) | (simp only [push_n, set_n, put_n, lc0, ln0, la0]; omega) | (simp only [List.all_cons, List.all_nil, one_bool, one_int, one_str, one_ptr, one_nilptr, one_slice, one_eslice, one_nilslice, one_func, one_iface, one_niliface, Bool.and_true, Bool.true_and, List.getD_cons_zero, List.getD_cons_succ, List.contains_cons, List.contains_nil, Bool.or_true, Bool.true_or, Bool.or_false, Bool.false_or, Nat.reduceBEq, *]; done) | fail)) only [i10, i11, go_sem, ↓act_zero, boxA_1, boxA_2, boxA_3, bslA_1, Hold.p, HoldK.k, HoldL.K, HoldL.body, Nat.reduceBEq, Nat.reduceAdd, stO_mid, push_n, set_n, push_at, push_old, set_here, set_there, set_pushT, set_pushN, set_set, stO_1s, stO_ws, boxA_s, reduceIte]
        refine test_of (fun hc => ?_) (fun hc => ?_)
        · have hc' : qq.1 = p.off ∧ pTo qq = en ∧ qq.2 = p.pay := by
            have : (qq.1 = p.off ∧ pTo qq = en) ∧ qq.2 = p.pay := by simpa using hc
            exact ⟨this.1.1, this.1.2, this.2⟩
          try simp (disch := (first | omega | assumption | (simp only [lc0, ln0, la0]; first | done | omega) | (simp (disch := assumption) only [go_sem, one_as, Nat.reduceBEq]; done) | fail)) only [i0, i2, i4, i8, i9, i10, i11, i151, i152, i153, w1, go_sem, Hold.p, HoldK.k, HoldL.K, HoldL.body, Nat.reduceBEq, Nat.reduceAdd, reduceIte]
          have S := by simpa only [mc0, mn0, List.getD_cons_zero, List.getD_cons_succ, ds0, dz0, ca0, na0] using Sp.sel S 15 [1, 2, 3, 4, 5, 6, 7, 8, 9, 10, 11, 12, 13, 14] (by simp only [lc0]; omega) (by decide) (by decide)
          refine ⟨_, by omega, k + 1, true, rfl, by omega, ?_, rfl, rfl, S⟩
          rw [hsc, hd, scanI, if_pos hc']
        · have hc' : ¬ (qq.1 = p.off ∧ pTo qq = en ∧ qq.2 = p.pay) := by
            have : ¬ ((qq.1 = p.off ∧ pTo qq = en) ∧ qq.2 = p.pay) := by simpa using hc
            exact fun x => this ⟨⟨x.1, x.2.1⟩, x.2.2⟩
          have q0 := (S.bx 0 rfl).eq
          have q14 := (S.bx 14 rfl).eq
          try simp (disch := (first | omega | assumption | (simp only [lc0, ln0, la0]; first | done | omega) | (simp (disch := assumption) only [go_sem, one_as, Nat.reduceBEq]; done) | fail)) only [q0, q14, i0, i2, i4, i8, i9, i10, i11, i151, i152, i153, d2, w2, go_sem, Hold.p, HoldK.k, HoldL.K, HoldL.body, Nat.reduceBEq, Nat.reduceAdd, reduceIte]
          refine test_of (fun hc2 => ?_) (fun hc2 => ?_)
          · have hc2' : (qq.1 < en ∧ p.off < pTo qq) ∨ (p.mf = false ∧ en < pTo qq) := by simpa using hc2
            have hX : addI m p = (m.refuse, false) := by
              have hs2 : scanI p.off en p.mf p.pay m.ps false = none := by rw [hsc, hd, scanI, if_neg hc', if_pos hc2']
              unfold addI
              simp only [hen, hs2]
            try simp (disch := (first | omega | assumption | (simp only [lc0, ln0, la0]; first | done | omega) | (simp (disch := assumption) only [go_sem, one_as, Nat.reduceBEq]; done) | fail)) only [i0, i2, i4, i8, i9, i10, i11, i151, i152, i153, go_sem, Hold.p, HoldK.k, HoldL.K, HoldL.body, Nat.reduceBEq, Nat.reduceAdd, reduceIte]
            have S := by simpa only [mc0, mn0, List.getD_cons_zero, List.getD_cons_succ, ds0, dz0, ca0, na0] using Sp.sel S 15 [1, 2, 3, 4, 5, 6, 7, 8, 9, 10, 11, 12, 13, 14] (by simp only [lc0]; omega) (by decide) (by decide)
            refine callA_of (refuse_c S) ?_
            clear S
            rintro r15 g15 S
            try simp (disch := (first | omega | assumption | (simp only [lc0, ln0, la0]; first | done | omega) | (simp (disch := assumption) only [go_sem, one_as, Nat.reduceBEq]; done) | fail)) only [go_sem, Hold.p, HoldK.k, HoldL.K, HoldL.body, Nat.reduceBEq, Nat.reduceAdd, reduceIte]
            exact hfinR hX S
          · have hc2' : ¬ ((qq.1 < en ∧ p.off < pTo qq) ∨ (p.mf = false ∧ en < pTo qq)) := by simpa using hc2
            try simp (disch := (first | omega | assumption | (simp only [lc0, ln0, la0]; first | done | omega) | (simp (disch := assumption) only [go_sem, one_as, Nat.reduceBEq]; done) | fail)) only [i0, i2, i4, i8, i9, i10, i11, i151, i152, i153, w1, go_sem, Hold.p, HoldK.k, HoldL.K, HoldL.body, Nat.reduceBEq, Nat.reduceAdd, reduceIte]
            have S := by simpa only [mc0, mn0, List.getD_cons_zero, List.getD_cons_succ, ds0, dz0, ca0, na0] using Sp.sel S 15 [1, 2, 3, 4, 5, 6, 7, 8, 9, 10, 11, 12, 13, 14] (by simp only [lc0]; omega) (by decide) (by decide)
            refine ⟨_, by omega, k + 1, same, rfl, by omega, ?_, rfl, rfl, S⟩
            rw [hsc, hd, scanI, if_neg hc', if_neg hc2']
      · have hd : m.ps.drop k = [] := List.drop_eq_nil_of_le (by omega)
        rw [hd, scanI] at hsc
        try simp (disch := (first | omega | assumption | (simp only [lc0, ln0, la0]; first | done | omega) | (simp (disch := assumption) only [go_sem, one_as, Nat.reduceBEq]; done) | fail)) only [i0, i2, i4, i8, i9, i10, i11, go_sem, Hold.p, HoldK.k, HoldL.K, HoldL.body, Nat.reduceBEq, Nat.reduceAdd, reduceIte]
        exact ⟨same, hsc, rfl, S⟩
  clear S i0 i2 i4 i6 i8 i9
  rintro e g ⟨same, hsc, i0, i2, i4, i8, i9, i10, i11, S⟩
  simp only [CC.split]
  refine vc_split 1 (fun e g => ¬ ((p.mf = false ∧ 0 ≤ m.en ∧ m.en ≠ en) ∨ (0 ≤ m.en ∧ m.en < en)) ∧ e 0 = .ptr x 0 0 ∧ e 2 = .ptr po 0 0 ∧ e 4 = .ptr p4 0 0 ∧ e 8 = .int .i64 (i' : Nat) ∧ e 9 = .ptr q 0 0 ∧ e 10 = .int .i64 en ∧ e 11 = .bool same ∧
    Sp g (box q (mkO m vps m.en vf m.ref) :: sl false 116 2 vps prs :: all2 pcR prs m.ps :: firstP vf m.first :: all2 mkR a0 xs1 :: all2 mkR bs ys :: box x (xO now vl) :: sl true 105 1 vl (a0 ++ [.ptr q 0 0] :: bs) :: box po (outO o1 vo vp ve) :: byt vo o1.pk.opts :: byt vp o1.pk.pay :: endP ve o1.ended :: old h0 :: box p4 (pkObj p po' pp) :: L)) ?_ ?_
  · simp only [CC.split]
    have q0 := (S.bx 0 rfl).eq
    have q13 := (S.bx 13 rfl).eq
    try simp (disch := (first | omega | assumption | (simp only [lc0, ln0, la0]; first | done | omega) | (simp (disch := assumption) only [go_sem, one_as, Nat.reduceBEq]; done) | fail)) only [q0, q13, i0, i2, i4, i8, i9, i10, i11, go_sem, Hold.p, HoldK.k, HoldL.K, HoldL.body, Nat.reduceBEq, Nat.reduceAdd, reduceIte]
    refine test_of (fun hc => ?_) (fun hc => ?_)
    · have hc' : (p.mf = false ∧ 0 ≤ m.en ∧ m.en ≠ en) ∨ (0 ≤ m.en ∧ m.en < en) := by
        have : ((p.mf = false ∧ 0 ≤ m.en) ∧ ¬ m.en = en) ∨ (0 ≤ m.en ∧ m.en < en) := by simpa using hc
        rcases this with h | h
        · exact .inl ⟨h.1.1, h.1.2, h.2⟩
        · exact .inr h
      have hX : addI m p = (m.refuse, false) := by
        unfold addI
        simp only [hen, hsc]
        rw [if_pos hc']
      try simp (disch := (first | omega | assumption | (simp only [lc0, ln0, la0]; first | done | omega) | (simp (disch := assumption) only [go_sem, one_as, Nat.reduceBEq]; done) | fail)) only [i0, i2, i4, i8, i9, i10, i11, go_sem, Hold.p, HoldK.k, HoldL.K, HoldL.body, Nat.reduceBEq, Nat.reduceAdd, reduceIte]
      refine callA_of (refuse_c S) ?_
      clear S
      rintro r15 g15 S
      try simp (disch := (first | omega | assumption | (simp only [lc0, ln0, la0]; first | done | omega) | (simp (disch := assumption) only [go_sem, one_as, Nat.reduceBEq]; done) | fail)) only [go_sem, Hold.p, HoldK.k, HoldL.K, HoldL.body, Nat.reduceBEq, Nat.reduceAdd, reduceIte]
      exact hfinR hX S
    · have hc' : ¬ ((p.mf = false ∧ 0 ≤ m.en ∧ m.en ≠ en) ∨ (0 ≤ m.en ∧ m.en < en)) := by
        have : ¬ (((p.mf = false ∧ 0 ≤ m.en) ∧ ¬ m.en = en) ∨ (0 ≤ m.en ∧ m.en < en)) := by simpa using hc
        intro h
        apply this
        rcases h with h | h
        · exact .inl ⟨⟨h.1, h.2.1⟩, h.2.2⟩
        · exact .inr h
      try simp (disch := (first | omega | assumption | (simp only [lc0, ln0, la0]; first | done | omega) | (simp (disch := assumption) only [go_sem, one_as, Nat.reduceBEq]; done) | fail)) only [i0, i2, i4, i8, i9, i10, i11, go_sem, Hold.p, HoldK.k, HoldL.K, HoldL.body, Nat.reduceBEq, Nat.reduceAdd, reduceIte]
      exact ⟨hc', S⟩
  clear S i0 i2 i4 i8 i9 i10 i11
  rintro e g ⟨hnc, i0, i2, i4, i8, i9, i10, i11, S⟩
  simp only [CC.split]
  obtain ⟨e2, he2⟩ : ∃ r, r = (if p.mf = false then en else m.en) := ⟨_, rfl⟩
  have he2b : -1 ≤ e2 ∧ e2 ≤ 200000 := by rw [he2]; split <;> omega
  refine vc_split 1 (fun e g => e 0 = .ptr x 0 0 ∧ e 2 = .ptr po 0 0 ∧ e 4 = .ptr p4 0 0 ∧ e 8 = .int .i64 (i' : Nat) ∧ e 9 = .ptr q 0 0 ∧ e 11 = .bool same ∧
    Sp g (box q (mkO m vps e2 vf m.ref) :: sl false 116 2 vps prs :: all2 pcR prs m.ps :: firstP vf m.first :: all2 mkR a0 xs1 :: all2 mkR bs ys :: box x (xO now vl) :: sl true 105 1 vl (a0 ++ [.ptr q 0 0] :: bs) :: box po (outO o1 vo vp ve) :: byt vo o1.pk.opts :: byt vp o1.pk.pay :: endP ve o1.ended :: old h0 :: box p4 (pkObj p po' pp) :: L)) ?_ ?_
  · simp only [CC.split]
    have q13 := (S.bx 13 rfl).eq
    try simp (disch := (first | omega | assumption | (simp only [lc0, ln0, la0]; first | done | omega) | (simp (disch := assumption) only [go_sem, one_as, Nat.reduceBEq]; done) | fail)) only [q13, i0, i2, i4, i8, i9, i10, i11, go_sem, Hold.p, HoldK.k, HoldL.K, HoldL.body, Nat.reduceBEq, Nat.reduceAdd, reduceIte]
    refine test_of (fun hc => ?_) (fun hc => ?_)
    · have hc' : p.mf = false := by rwa [Bool.not_eq_true'] at hc
      rw [if_pos hc'] at he2
      rw [he2]
      have q0 := (S.bx 0 rfl).eq
      try simp (disch := (first | omega | assumption | (simp only [lc0, ln0, la0]; first | done | omega) | (simp (disch := assumption) only [go_sem, one_as, Nat.reduceBEq]; done) | fail)) only [q0, i0, i2, i4, i8, i9, i10, i11, go_sem, Hold.p, HoldK.k, HoldL.K, HoldL.body, Nat.reduceBEq, Nat.reduceAdd, reduceIte]
      refine st1_of (Nat.le_of_ble_eq_true rfl) (by first | rfl | assumption) fun g16 hg => ?_
      have l_g16 := n_set hg
      have S := S.set0 hg
      clear hg
      simp only [sz0, ss0, ts0, tz0, ds0, dz0, ca0, na0, Nat.reduceAdd] at S
      try simp (disch := (first | omega | assumption | (simp only [lc0, ln0, la0]; first | done | omega) | (simp (disch := assumption) only [go_sem, one_as, Nat.reduceBEq]; done) | fail)) only [i0, i2, i4, i8, i9, i10, i11, go_sem, Hold.p, HoldK.k, HoldL.K, HoldL.body, Nat.reduceBEq, Nat.reduceAdd, reduceIte]
      exact S
    · have hc' : ¬ p.mf = false := by rw [Bool.not_eq_false'] at hc; simp [hc]
      rw [if_neg hc'] at he2
      rw [he2]
      try simp (disch := (first | omega | assumption | (simp only [lc0, ln0, la0]; first | done | omega) | (simp (disch := assumption) only [go_sem, one_as, Nat.reduceBEq]; done) | fail)) only [i0, i2, i4, i8, i9, i10, i11, go_sem, Hold.p, HoldK.k, HoldL.K, HoldL.body, Nat.reduceBEq, Nat.reduceAdd, reduceIte]
      exact S
  clear S i0 i2 i4 i8 i9 i10 i11
  rintro e g ⟨i0, i2, i4, i8, i9, i11, S⟩
  simp only [CC.split]
  obtain ⟨ps2, hps2⟩ : ∃ r, r = (if same = true then m.ps else m.ps ++ [(p.off, p.pay)]) := ⟨_, rfl⟩
  obtain ⟨f2, hf2⟩ : ∃ r, r = (if same = true then m.first else if p.off = 0 then some p else m.first) := ⟨_, rfl⟩
  refine vc_split 1 (fun e g => ∃ (vps vf : IV) (prs : List (List IV)), e 0 = .ptr x 0 0 ∧ e 2 = .ptr po 0 0 ∧ e 8 = .int .i64 (i' : Nat) ∧ e 9 = .ptr q 0 0 ∧
    Sp g (box q (mkO m vps e2 vf m.ref) :: sl false 116 2 vps prs :: all2 pcR prs ps2 :: firstP vf f2 :: all2 mkR a0 xs1 :: all2 mkR bs ys :: box x (xO now vl) :: sl true 105 1 vl (a0 ++ [.ptr q 0 0] :: bs) :: box po (outO o1 vo vp ve) :: byt vo o1.pk.opts :: byt vp o1.pk.pay :: endP ve o1.ended :: old h0 :: box p4 (pkObj p po' pp) :: L)) ?_ ?_
  · simp only [CC.split]
    cases same with
    | true =>
      rw [if_pos rfl] at hps2 hf2
      rw [hps2, hf2]
      try simp (disch := (first | omega | assumption | (simp only [lc0, ln0, la0]; first | done | omega) | (simp (disch := assumption) only [go_sem, one_as, Nat.reduceBEq]; done) | fail)) only [i0, i2, i4, i8, i9, i11, go_sem, Hold.p, HoldK.k, HoldL.K, HoldL.body, Nat.reduceBEq, Nat.reduceAdd, reduceIte]
      exact ⟨vps, vf, prs, S⟩
    | false =>
      rw [if_neg (by simp)] at hps2 hf2
      rw [hps2]
      have hpl := a2_len S 2 rfl
      have q0 := (S.bx 0 rfl).eq
      have q13 := (S.bx 13 rfl).eq
      try simp (disch := (first | omega | assumption | (simp only [lc0, ln0, la0]; first | done | omega) | (simp (disch := assumption) only [go_sem, one_as, Nat.reduceBEq]; done) | fail)) only [q0, q13, i0, i2, i4, i8, i9, i11, go_sem, Hold.p, HoldK.k, HoldL.K, HoldL.body, Nat.reduceBEq, Nat.reduceAdd, reduceIte]
      refine callA_of (dup_c _ pp _ (a.ext (S.ol 12 rfl)).p (by omega)) ?_
      rintro w17 g17 ⟨o17, E17⟩
      have S := S.own (x := false) E17 o17 (Nat.le_refl _)
      have z17 := o17.one
      have q1 := (S.bx 1 rfl).eq
      have q14 := (S.bx 14 rfl).eq
      try simp (disch := (first | omega | assumption | (simp only [lc0, ln0, la0]; first | done | omega) | (simp (disch := assumption) only [go_sem, one_as, Nat.reduceBEq]; done) | fail)) only [q1, q14, i0, i2, i4, i8, i9, i11, go_sem, Hold.p, HoldK.k, HoldL.K, HoldL.body, Nat.reduceBEq, Nat.reduceAdd, reduceIte]
      refine Sp.bsl1 S (by first | rfl | (rw [cells_one (by assumption)]; rfl)) (by first | rfl | simp (disch := assumption) only [go_sem, cells_one, one_as]) fun p18 g18 S E_g18 l_g18 => ?_
      try simp only [cells_agg, cells_int, cells_bool, cells_ptr, cells_str] at S
      have q0 := (S.bx 0 rfl).eq
      have q2 := (S.bx 2 rfl).eq
      have q15 := (S.bx 15 rfl).eq
      try simp (disch := (first | omega | assumption | (simp only [lc0, ln0, la0]; first | done | omega) | (simp (disch := assumption) only [go_sem, one_as, Nat.reduceBEq]; done) | fail)) only [q0, q2, q15, i0, i2, i4, i8, i9, i11, go_sem, Hold.p, HoldK.k, HoldL.K, HoldL.body, Nat.reduceBEq, Nat.reduceAdd, reduceIte]
      have S := by simpa only [mc0, mn0, List.getD_cons_zero, List.getD_cons_succ, ds0, dz0, ca0, na0] using Sp.sel S 16 [0, 3, 1, 2, 4, 5, 6, 7, 8, 9, 10, 11, 12, 13, 14, 15] (by simp only [lc0]; omega) (by decide) (by decide)
      refine S.app1 (y := false) (by omega) ?_
      clear S
      intro v19 g19 S z19
      have q2 := (S.bx 2 rfl).eq
      have q14 := (S.bx 14 rfl).eq
      try simp (disch := (first | omega | assumption | (simp only [lc0, ln0, la0]; first | done | omega) | (simp (disch := assumption) only [go_sem, one_as, Nat.reduceBEq]; done) | fail)) only [q2, q14, i0, i2, i4, i8, i9, i11, go_sem, Hold.p, HoldK.k, HoldL.K, HoldL.body, Nat.reduceBEq, Nat.reduceAdd, reduceIte]
      refine st1_of (Nat.le_of_ble_eq_true rfl) (by first | rfl | assumption) fun g20 hg => ?_
      have l_g20 := n_set hg
      have S := S.set2 hg
      clear hg
      simp only [sz0, ss0, ts0, tz0, ds0, dz0, ca0, na0, Nat.reduceAdd] at S
      have S := by simpa only [mc0, mn0, List.getD_cons_zero, List.getD_cons_succ, ds0, dz0, ca0, na0] using Sp.sel S 15 [1, 3, 0, 2, 4, 5, 6, 7, 8, 9, 10, 11, 12, 13, 14] (by simp only [lc0]; omega) (by decide) (by decide)
      have S := pcs_add (a := p.off) S
      have S := by simpa only [mc0, mn0, List.getD_cons_zero, List.getD_cons_succ, ds0, dz0, ca0, na0] using Sp.sel S 14 [2, 1, 0, 3, 4, 5, 6, 7, 8, 9, 10, 11, 12, 13] (by simp only [lc0]; omega) (by decide) (by decide)
      have q13 := (S.bx 13 rfl).eq
      try simp (disch := (first | omega | assumption | (simp only [lc0, ln0, la0]; first | done | omega) | (simp (disch := assumption) only [go_sem, one_as, Nat.reduceBEq]; done) | fail)) only [q13, i0, i2, i4, i8, i9, i11, go_sem, Hold.p, HoldK.k, HoldL.K, HoldL.body, Nat.reduceBEq, Nat.reduceAdd, reduceIte]
      refine test_dec (fun hc => ?_) (fun hc => ?_)
      · rw [if_pos hc] at hf2
        rw [hf2]
        have q13 := (S.bx 13 rfl).eq
        try simp (disch := (first | omega | assumption | (simp only [lc0, ln0, la0]; first | done | omega) | (simp (disch := assumption) only [go_sem, one_as, Nat.reduceBEq]; done) | fail)) only [q13, i0, i2, i4, i8, i9, go_sem, Hold.p, HoldK.k, HoldL.K, HoldL.body, Nat.reduceBEq, Nat.reduceAdd, reduceIte]
        refine callA_of (ownPacket_c _ _ S p po' pp (a.ext (S.ol 12 rfl)) (by omega)) ?_
        clear S
        rintro r21 g21 ⟨wo, wp, rfl, S⟩
        unfold pkRow
        have zo := (S.slA 0 rfl).one
        have zp := (S.slA 1 rfl).one
        try simp (disch := (first | omega | assumption | (simp only [lc0, ln0, la0]; first | done | omega) | (simp (disch := assumption) only [go_sem, one_as, Nat.reduceBEq]; done) | fail)) only [i0, i2, i4, i8, i9, go_sem, Hold.p, HoldK.k, HoldL.K, HoldL.body, Nat.reduceBEq, Nat.reduceAdd, reduceIte]
        refine Sp.zero S fun p22 g22 S E_g22 l_g22 => ?_
        have q0 := (S.bx 0 rfl).eq
        try simp (disch := (first | omega | assumption | (simp only [lc0, ln0, la0]; first | done | omega) | (simp (disch := assumption) only [go_sem, one_as, Nat.reduceBEq]; done) | fail)) only [q0, i0, i2, i4, i8, i9, go_sem, Hold.p, HoldK.k, HoldL.K, HoldL.body, Nat.reduceBEq, Nat.reduceAdd, reduceIte]
        refine stw_of rfl rfl (by first | rfl | simp (disch := assumption) only [go_sem, cells_one, one_as]) fun g23 hg => ?_
        have l_g23 := n_set hg
        have S := S.set0 hg
        clear hg
        have q3 := (S.bx 3 rfl).eq
        try simp (disch := (first | omega | assumption | (simp only [lc0, ln0, la0]; first | done | omega) | (simp (disch := assumption) only [go_sem, one_as, Nat.reduceBEq]; done) | fail)) only [q3, i0, i2, i4, i8, i9, go_sem, Hold.p, HoldK.k, HoldL.K, HoldL.body, Nat.reduceBEq, Nat.reduceAdd, reduceIte]
        refine st1_of (Nat.le_of_ble_eq_true rfl) (by first | rfl | assumption) fun g24 hg => ?_
        have l_g24 := n_set hg
        have S := S.set3 hg
        clear hg
        simp only [sz0, ss0, ts0, tz0, ds0, dz0, ca0, na0, Nat.reduceAdd] at S
        try simp (disch := (first | omega | assumption | (simp only [lc0, ln0, la0]; first | done | omega) | (simp (disch := assumption) only [go_sem, one_as, Nat.reduceBEq]; done) | fail)) only [i0, i2, i4, i8, i9, go_sem, Hold.p, HoldK.k, HoldL.K, HoldL.body, Nat.reduceBEq, Nat.reduceAdd, reduceIte]
        have S := by simpa only [mc0, mn0, List.getD_cons_zero, List.getD_cons_succ, ds0, dz0, ca0, na0] using Sp.sel S 17 [0, 1, 2, 3, 4, 5, 7, 8, 9, 10, 11, 12, 13, 14, 15, 16] (by simp only [lc0]; omega) (by decide) (by decide)
        have S := first_mk S
        have S := by simpa only [mc0, mn0, List.getD_cons_zero, List.getD_cons_succ, ds0, dz0, ca0, na0] using Sp.sel S 14 [1, 2, 3, 0, 4, 5, 6, 7, 8, 9, 10, 11, 12, 13] (by simp only [lc0]; omega) (by decide) (by decide)
        exact ⟨v19, .ptr p22 0 0, prs ++ [[.int .i64 p.off, w17]], S⟩
      · rw [if_neg hc] at hf2
        rw [hf2]
        try simp (disch := (first | omega | assumption | (simp only [lc0, ln0, la0]; first | done | omega) | (simp (disch := assumption) only [go_sem, one_as, Nat.reduceBEq]; done) | fail)) only [i0, i2, i4, i8, i9, go_sem, Hold.p, HoldK.k, HoldL.K, HoldL.body, Nat.reduceBEq, Nat.reduceAdd, reduceIte]
        exact ⟨v19, vf, prs ++ [[.int .i64 p.off, w17]], S⟩
  obtain ⟨m2, hm2⟩ : ∃ r : Mk, r = { m with en := e2, ps := ps2, first := f2 } := ⟨_, rfl⟩
  have hX2 : addI m p = addEnd m2 f2 := by
    have h2 : (if same = true then (if p.mf = false then { m with en := en } else m) else { (if p.mf = false then { m with en := en } else m) with ps := (if p.mf = false then { m with en := en } else m).ps ++ [(p.off, p.pay)], first := if p.off = 0 then some p else (if p.mf = false then { m with en := en } else m).first }) = m2 := by
      rw [hm2, he2, hps2, hf2]
      cases same <;> cases p.mf <;> simp
    unfold addI
    simp only [hen, hsc]
    rw [if_neg hnc]
    simp only [h2]
    have hf : m2.first = f2 := by rw [hm2]
    rw [← hf]
    unfold addEnd
    cases m2.first <;> rfl
  have hm2e : m2.en = e2 := by rw [hm2]
  have hm2p : m2.ps = ps2 := by rw [hm2]
  have hm2r : m2.ref = m.ref := by rw [hm2]
  have hps2' : Small 100002 ps2 e2 := by
    refine ⟨?_, ?_, he2b⟩
    · rw [hps2]; split
      · omega
      · rw [la0, List.length_singleton]; omega
    · intro qx hqx
      rw [hps2] at hqx
      split at hqx
      · exact hq0 qx hqx
      · rcases List.mem_append.1 hqx with hqx | hqx
        · exact hq0 qx hqx
        · have : qx = (p.off, p.pay) := by simpa using hqx
          subst this
          exact ⟨ho, hp⟩
  have hfo2 : ∀ f, f2 = some f → f.opts.length ≤ 100 := by
    intro f hf
    rw [hf2] at hf
    split at hf
    · exact hfo f hf
    · split at hf
      · cases hf; exact hpo
      · exact hfo f hf
  have hfin2 : ∀ {g : IH} {vps vf : IV} {prs : List (List IV)}, addI m p = (m2, false) → Sp g (box q (mkO m vps e2 vf m.ref) :: sl false 116 2 vps prs :: all2 pcR prs ps2 :: firstP vf f2 :: all2 mkR a0 xs1 :: all2 mkR bs ys :: box x (xO now vl) :: sl true 105 1 vl (a0 ++ [.ptr q 0 0] :: bs) :: box po (outO o1 vo vp ve) :: byt vo o1.pk.opts :: byt vp o1.pk.pay :: endP ve o1.ended :: old h0 :: box p4 (pkObj p po' pp) :: L) →
      ISt g x now (stepI l1 o1 i' p).1 po (stepI l1 o1 i' p).2 (old h0 :: L) := by
    intro g vps vf prs hX S
    refine hfin (m' := m2) (vps := vps) (vf := vf) (prs := prs) hX ?_
    rw [hm2]
    exact S
  clear hfin hsc hnc hps2 hf2 he2 hen w0
  clear S i0 i2 i4 i8 i9 i11
  rintro e g ⟨vps, vf, prs, i0, i2, i8, i9, S⟩
  simp only [CC.split]
  obtain ⟨nf, onf⟩ := first_nil S 3 rfl
  refine vc_split 1 (fun e g => ∃ f, f2 = some f ∧ ¬ e2 < 0 ∧ e 0 = .ptr x 0 0 ∧ e 2 = .ptr po 0 0 ∧ e 8 = .int .i64 (i' : Nat) ∧ e 9 = .ptr q 0 0 ∧
    Sp g (box q (mkO m vps e2 vf m.ref) :: sl false 116 2 vps prs :: all2 pcR prs ps2 :: firstP vf (some f) :: all2 mkR a0 xs1 :: all2 mkR bs ys :: box x (xO now vl) :: sl true 105 1 vl (a0 ++ [.ptr q 0 0] :: bs) :: box po (outO o1 vo vp ve) :: byt vo o1.pk.opts :: byt vp o1.pk.pay :: endP ve o1.ended :: old h0 :: box p4 (pkObj p po' pp) :: L)) ?_ ?_
  · simp only [CC.split]
    have q0 := (S.bx 0 rfl).eq
    try simp (disch := (first | omega | assumption | (simp only [lc0, ln0, la0]; first | done | omega) | (simp (disch := assumption) only [go_sem, one_as, Nat.reduceBEq]; done) | fail)) only [q0, i0, i2, i8, i9, nf, go_sem, Hold.p, HoldK.k, HoldL.K, HoldL.body, Nat.reduceBEq, Nat.reduceAdd, reduceIte]
    cases hff : f2 with
    | none =>
      have hb1 : (true != false) = true := rfl
      try simp (disch := (first | omega | assumption | (simp only [lc0, ln0, la0]; first | done | omega) | (simp (disch := assumption) only [go_sem, one_as, Nat.reduceBEq]; done) | fail)) only [hff, Option.isNone_none, hb1, go_sem, Hold.p, HoldK.k, HoldL.K, HoldL.body, Nat.reduceBEq, Nat.reduceAdd, reduceIte]
      refine hfin2 (vps := vps) (vf := vf) (prs := prs) ?_ (by rw [hff] at S ⊢; exact S)
      rw [hX2, hff]; rfl
    | some f =>
      have hX3 := hX2
      rw [hff] at hX3 S
      unfold addEnd at hX3
      simp only [hm2e, hm2p] at hX3
      try simp (disch := (first | omega | assumption | (simp only [lc0, ln0, la0]; first | done | omega) | (simp (disch := assumption) only [go_sem, one_as, Nat.reduceBEq]; done) | fail)) only [hff, Option.isNone_some, go_sem, Hold.p, HoldK.k, HoldL.K, HoldL.body, Nat.reduceBEq, Nat.reduceAdd, reduceIte]
      refine test_dec (fun hc => ?_) (fun hc => ?_)
      · rw [if_pos hc] at hX3
        try simp (disch := (first | omega | assumption | (simp only [lc0, ln0, la0]; first | done | omega) | (simp (disch := assumption) only [go_sem, one_as, Nat.reduceBEq]; done) | fail)) only [go_sem, Hold.p, HoldK.k, HoldL.K, HoldL.body, Nat.reduceBEq, Nat.reduceAdd, reduceIte]
        refine hfin2 (vps := vps) (vf := vf) (prs := prs) hX3 (by rw [hff]; exact S)
      · skip
        try simp (disch := (first | omega | assumption | (simp only [lc0, ln0, la0]; first | done | omega) | (simp (disch := assumption) only [go_sem, one_as, Nat.reduceBEq]; done) | fail)) only [i0, i2, i8, i9, go_sem, Hold.p, HoldK.k, HoldL.K, HoldL.body, Nat.reduceBEq, Nat.reduceAdd, reduceIte]
        exact ⟨f, rfl, hc, S⟩
  clear S i0 i2 i8 i9 nf onf
  rintro e g ⟨f, hff, hc0, i0, i2, i8, i9, S⟩
  have hfl := hfo2 f hff
  rw [hff] at hX2
  unfold addEnd at hX2
  simp only [hm2e, hm2p] at hX2
  rw [if_neg hc0] at hX2
  simp only [CC.split]
  have S := by simpa only [mc0, mn0, List.getD_cons_zero, List.getD_cons_succ, ds0, dz0, ca0, na0] using Sp.sel S 14 [3, 0, 1, 2, 4, 5, 6, 7, 8, 9, 10, 11, 12, 13] (by simp only [lc0]; omega) (by decide) (by decide)
  obtain ⟨qf, fo, fp, hvf, S⟩ := first_some S
  have xo := (S.slA 1 rfl).lenF
  rw [strRows_len] at xo
  rw [hvf] at S
  have w3 : wr .i64 (20 + (f.opts.length : Int)) = 20 + f.opts.length := wr64 _ (by omega)
  have w4 : wr .i64 (20 + (f.opts.length : Int) + e2) = 20 + f.opts.length + e2 := wr64 _ (by omega)
  refine vc_split 1 (fun e g => ¬ (65535 < 20 + (f.opts.length : Int) + e2) ∧ e 0 = .ptr x 0 0 ∧ e 2 = .ptr po 0 0 ∧ e 8 = .int .i64 (i' : Nat) ∧ e 9 = .ptr q 0 0 ∧
    Sp g (box qf (pkObj f fo fp) :: byt fo f.opts :: byt fp f.pay :: box q (mkO m vps e2 (.ptr qf 0 0) m.ref) :: sl false 116 2 vps prs :: all2 pcR prs ps2 :: all2 mkR a0 xs1 :: all2 mkR bs ys :: box x (xO now vl) :: sl true 105 1 vl (a0 ++ [.ptr q 0 0] :: bs) :: box po (outO o1 vo vp ve) :: byt vo o1.pk.opts :: byt vp o1.pk.pay :: endP ve o1.ended :: old h0 :: box p4 (pkObj p po' pp) :: L)) ?_ ?_
  · simp only [CC.split]
    have q0 := (S.bx 0 rfl).eq
    have q3 := (S.bx 3 rfl).eq
    try simp (disch := (first | omega | assumption | (simp only [lc0, ln0, la0]; first | done | omega) | (simp (disch := assumption) only [go_sem, one_as, Nat.reduceBEq]; done) | fail)) only [q0, q3, i0, i2, i8, i9, xo, w3, w4, go_sem, Hold.p, HoldK.k, HoldL.K, HoldL.body, Nat.reduceBEq, Nat.reduceAdd, reduceIte]
    refine test_dec (fun hc => ?_) (fun hc => ?_)
    · rw [if_pos hc] at hX2
      try simp (disch := (first | omega | assumption | (simp only [lc0, ln0, la0]; first | done | omega) | (simp (disch := assumption) only [go_sem, one_as, Nat.reduceBEq]; done) | fail)) only [i0, i2, i8, i9, go_sem, Hold.p, HoldK.k, HoldL.K, HoldL.body, Nat.reduceBEq, Nat.reduceAdd, reduceIte]
      have S := by simpa only [mc0, mn0, List.getD_cons_zero, List.getD_cons_succ, ds0, dz0, ca0, na0] using Sp.sel S 16 [3, 4, 5, 0, 6, 7, 8, 9, 10, 11, 12, 13, 14, 15] (by simp only [lc0]; omega) (by decide) (by decide)
      refine callA_of (refuse_c S) ?_
      clear S
      rintro r25 g25 S
      try simp (disch := (first | omega | assumption | (simp only [lc0, ln0, la0]; first | done | omega) | (simp (disch := assumption) only [go_sem, one_as, Nat.reduceBEq]; done) | fail)) only [go_sem, Hold.p, HoldK.k, HoldL.K, HoldL.body, Nat.reduceBEq, Nat.reduceAdd, reduceIte]
      have S' := S
      rw [show (mkO m .nilslice (-1) .nilptr true : IObj) = mkO m2 .nilslice (-1) .nilptr true by rw [hm2]] at S'
      exact hfinR hX2 S'
    · skip
      try simp (disch := (first | omega | assumption | (simp only [lc0, ln0, la0]; first | done | omega) | (simp (disch := assumption) only [go_sem, one_as, Nat.reduceBEq]; done) | fail)) only [i0, i2, i8, i9, go_sem, Hold.p, HoldK.k, HoldL.K, HoldL.body, Nat.reduceBEq, Nat.reduceAdd, reduceIte]
      exact ⟨hc, S⟩
  clear S i0 i2 i8 i9 w3 w4 hfinR
  rintro e g ⟨hc1, i0, i2, i8, i9, S⟩
  rw [if_neg hc1] at hX2
  simp only [CC.split]
  have hpn := hps2'.n
  have htl : totP ps2 ≤ 100002 * 65535 := Nat.le_trans (totP_le fun q hq => (hps2'.q q hq).2) (Nat.mul_le_mul_right _ hpn)
  refine vc_split 2 (fun e g => e 16 = .int .i64 (totP ps2 : Nat) ∧ e 0 = .ptr x 0 0 ∧ e 2 = .ptr po 0 0 ∧ e 8 = .int .i64 (i' : Nat) ∧ e 9 = .ptr q 0 0 ∧
    Sp g (box qf (pkObj f fo fp) :: byt fo f.opts :: byt fp f.pay :: box q (mkO m vps e2 (.ptr qf 0 0) m.ref) :: sl false 116 2 vps prs :: all2 pcR prs ps2 :: all2 mkR a0 xs1 :: all2 mkR bs ys :: box x (xO now vl) :: sl true 105 1 vl (a0 ++ [.ptr q 0 0] :: bs) :: box po (outO o1 vo vp ve) :: byt vo o1.pk.opts :: byt vp o1.pk.pay :: endP ve o1.ended :: old h0 :: box p4 (pkObj p po' pp) :: L)) ?_ ?_
  · simp only [CC.split]
    have hpl := a2_len S 5 rfl
    have q3 := (S.bx 3 rfl).eq
    have s4 := S.slA 4 rfl
    have len_s4 := s4.lenF
    have z4 := s4.one
    try simp (disch := (first | omega | assumption | (simp only [lc0, ln0, la0]; first | done | omega) | (simp (disch := assumption) only [go_sem, one_as, Nat.reduceBEq]; done) | fail)) only [q3, len_s4, z4, i0, i2, i8, i9, hpl, go_sem, Hold.p, HoldK.k, HoldL.K, HoldL.body, Nat.reduceBEq, Nat.reduceAdd, reduceIte]
    refine loop_at (fun n e g => ∃ (k : Nat), n = ps2.length - k ∧ k ≤ ps2.length ∧ e 16 = .int .i64 (totP (ps2.take k) : Nat) ∧ e 0 = .ptr x 0 0 ∧ e 2 = .ptr po 0 0 ∧ e 8 = .int .i64 (i' : Nat) ∧ e 9 = .ptr q 0 0 ∧ e 302 = vps ∧ e 303 = .int .i64 (ps2.length : Nat) ∧ e 304 = .int .i64 (k : Nat) ∧
      Sp g (box qf (pkObj f fo fp) :: byt fo f.opts :: byt fp f.pay :: box q (mkO m vps e2 (.ptr qf 0 0) m.ref) :: sl false 116 2 vps prs :: all2 pcR prs ps2 :: all2 mkR a0 xs1 :: all2 mkR bs ys :: box x (xO now vl) :: sl true 105 1 vl (a0 ++ [.ptr q 0 0] :: bs) :: box po (outO o1 vo vp ve) :: byt vo o1.pk.opts :: byt vp o1.pk.pay :: endP ve o1.ended :: old h0 :: box p4 (pkObj p po' pp) :: L)) ps2.length ?_ ?_
    · refine ⟨0, by omega, by omega, ?_⟩
      try simp (disch := (first | omega | assumption | (simp only [lc0, ln0, la0]; first | done | omega) | (simp (disch := assumption) only [go_sem, one_as, Nat.reduceBEq]; done) | fail)) only [i0, i2, i8, i9, go_sem, Hold.p, HoldK.k, HoldL.K, HoldL.body, Nat.reduceBEq, Nat.reduceAdd, reduceIte]
      exact ⟨rfl, rfl, S⟩
    · clear S i0 i2 i8 i9 s4 len_s4 z4
      rintro n e g ⟨k, rfl, hk, i16, i0, i2, i8, i9, i302, i303, i304, S⟩
      try simp (disch := (first | omega | assumption | (simp only [lc0, ln0, la0]; first | done | omega) | (simp (disch := assumption) only [go_sem, one_as, Nat.reduceBEq]; done) | fail)) only [i16, i0, i2, i8, i9, i302, i303, i304, go_sem, Hold.p, HoldK.k, HoldL.K, HoldL.body, Nat.reduceBEq, Nat.reduceAdd, reduceIte]
      refine test_dec (fun hb => ?_) (fun hb => ?_)
      · obtain ⟨qq, hq⟩ : ∃ q, ps2[k]? = some q := ⟨_, List.getElem?_eq_getElem (by omega : k < ps2.length)⟩
        have hqs := hps2'.q qq (List.mem_of_getElem? hq)
        obtain ⟨vd, hrw, hvd⟩ := pcs_at S 5 rfl hq
        have s4 := S.slA 4 rfl
        obtain ⟨a1, a2, hia, hal, har⟩ := s4.at hrw .i64
        have d1 := hvd.one
        have d2 := hvd.lenF
        rw [strRows_len] at d2
        have w1 : wr .i64 ((k : Int) + 1) = ((k + 1 : Nat) : Int) := by rw [wr64 _ (by omega)]; rfl
        have htk : totP (ps2.take k) ≤ 100002 * 65535 := Nat.le_trans (totP_le fun q hq => (hps2'.q q (List.mem_of_mem_take hq)).2) (Nat.mul_le_mul_right _ (by rw [List.length_take]; omega))
        have hnx := totP_next hq
        have w2 : wr .i64 ((totP (ps2.take k) : Int) + (qq.2.length : Int)) = ((totP (ps2.take (k + 1)) : Nat) : Int) := by rw [wr64 _ (by omega), hnx]; rfl
        try simp (disch := (first | omega | assumption | (simp only [lc0, ln0, la0]; first | done | omega) | (simp (disch := assumption) only [go_sem, one_as, Nat.reduceBEq]; done) | fail)) only [i16, i0, i2, i8, i9, i302, i303, i304, hia, har, d1, go_sem, Hold.p, HoldK.k, HoldL.K, HoldL.body, Nat.reduceBEq, Nat.reduceAdd, reduceIte]
        refine Sp.zero S fun p18 g18 S E_g18 l_g18 => ?_
        have q0 := (S.bx 0 rfl).eq
        try simp (disch := (first | omega | assumption | (simp only [lc0, ln0, la0]; first | done | omega) | (simp (disch := assumption) only [go_sem, one_as, Nat.reduceBEq]; done) | fail)) only [q0, d1, go_sem, Hold.p, HoldK.k, HoldL.K, HoldL.body, Nat.reduceBEq, Nat.reduceAdd, reduceIte]
        refine stw_of rfl rfl (by first | rfl | simp (disch := assumption) only [go_sem, cells_one, one_as]) fun g19 hg => ?_
        have l_g19 := n_set hg
        have S := S.set0 hg
        clear hg
        have q0 := (S.bx 0 rfl).eq
        try simp (disch := (first | omega | assumption | (simp only [lc0, ln0, la0]; first | done | omega) | (simp (disch := assumption) only [go_sem, one_as, Nat.reduceBEq]; done) | fail)) only [q0, i16, i0, i2, i8, i9, i302, i303, i304, d2, w1, w2, go_sem, Hold.p, HoldK.k, HoldL.K, HoldL.body, Nat.reduceBEq, Nat.reduceAdd, reduceIte]
        exact ⟨_, by omega, k + 1, rfl, by omega, rfl, rfl, S.drop⟩
      · rw [List.take_of_length_le (by omega)] at i16
        try simp (disch := (first | omega | assumption | (simp only [lc0, ln0, la0]; first | done | omega) | (simp (disch := assumption) only [go_sem, one_as, Nat.reduceBEq]; done) | fail)) only [i16, i0, i2, i8, i9, go_sem, Hold.p, HoldK.k, HoldL.K, HoldL.body, Nat.reduceBEq, Nat.reduceAdd, reduceIte]
        exact S
  clear S i0 i2 i8 i9
  rintro e g ⟨i16, i0, i2, i8, i9, S⟩
  simp only [CC.split]
  refine vc_split 1 (fun e g => ¬ ((totP ps2 : Int) < e2) ∧ e 0 = .ptr x 0 0 ∧ e 2 = .ptr po 0 0 ∧ e 8 = .int .i64 (i' : Nat) ∧ e 9 = .ptr q 0 0 ∧
    Sp g (box qf (pkObj f fo fp) :: byt fo f.opts :: byt fp f.pay :: box q (mkO m vps e2 (.ptr qf 0 0) m.ref) :: sl false 116 2 vps prs :: all2 pcR prs ps2 :: all2 mkR a0 xs1 :: all2 mkR bs ys :: box x (xO now vl) :: sl true 105 1 vl (a0 ++ [.ptr q 0 0] :: bs) :: box po (outO o1 vo vp ve) :: byt vo o1.pk.opts :: byt vp o1.pk.pay :: endP ve o1.ended :: old h0 :: box p4 (pkObj p po' pp) :: L)) ?_ ?_
  · simp only [CC.split]
    have q3 := (S.bx 3 rfl).eq
    try simp (disch := (first | omega | assumption | (simp only [lc0, ln0, la0]; first | done | omega) | (simp (disch := assumption) only [go_sem, one_as, Nat.reduceBEq]; done) | fail)) only [q3, i16, i0, i2, i8, i9, go_sem, Hold.p, HoldK.k, HoldL.K, HoldL.body, Nat.reduceBEq, Nat.reduceAdd, reduceIte]
    refine test_dec (fun hc => ?_) (fun hc => ?_)
    · rw [decide_eq_true hc] at hX2
      try simp (disch := (first | omega | assumption | (simp only [lc0, ln0, la0]; first | done | omega) | (simp (disch := assumption) only [go_sem, one_as, Nat.reduceBEq]; done) | fail)) only [go_sem, Hold.p, HoldK.k, HoldL.K, HoldL.body, Nat.reduceBEq, Nat.reduceAdd, reduceIte]
      have S := first_mk S
      have S := by simpa only [mc0, mn0, List.getD_cons_zero, List.getD_cons_succ, ds0, dz0, ca0, na0] using Sp.sel S 14 [1, 2, 3, 0, 4, 5, 6, 7, 8, 9, 10, 11, 12, 13] (by simp only [lc0]; omega) (by decide) (by decide)
      exact hfin2 (vps := vps) (vf := .ptr qf 0 0) (prs := prs) hX2 (by rw [hff]; exact S)
    · skip
      try simp (disch := (first | omega | assumption | (simp only [lc0, ln0, la0]; first | done | omega) | (simp (disch := assumption) only [go_sem, one_as, Nat.reduceBEq]; done) | fail)) only [i0, i2, i8, i9, go_sem, Hold.p, HoldK.k, HoldL.K, HoldL.body, Nat.reduceBEq, Nat.reduceAdd, reduceIte]
      exact ⟨hc, S⟩
  clear S i0 i2 i8 i9 i16 hfin2
  rintro e g ⟨hc2, i0, i2, i8, i9, S⟩
  rw [decide_eq_false hc2] at hX2
  simp only [CC.split]
  have hin : ∀ q ∈ ps2, pTo q ≤ e2 := by
    have := hwhm (by rw [hX2]; rfl)
    rw [hX2] at this
    simp only [hm2e, hm2p] at this
    exact this
  have hstw : stepI l1 o1 i' p = (l1.eraseIdx i', { o1 with done := true, pk := wholeI m2 }) := by rw [hst, hX2]; rfl
  have hwp : wholeI m2 = { f with mf := false, pay := fillB ps2 (List.replicate e2.toNat 0) } := by unfold wholeI; rw [hm2, hff]; rfl
  rw [hstw, hwp]
  obtain ⟨n2, hn2⟩ : ∃ n : Nat, e2 = n := ⟨e2.toNat, by omega⟩
  rw [hn2] at S hin hps2'
  have he2n : n2 ≤ 200000 := by have := hps2'.e; omega
  rw [hn2]
  simp only [Int.toNat_natCast]
  have hz : ∀ k, (fillB (ps2.take k) (List.replicate n2 0)).length = n2 := fun k => by
    rw [fillB_len (fun q hq => ?_), List.length_replicate]
    rw [List.length_replicate]
    exact ⟨(hps2'.q q (List.mem_of_mem_take hq)).1.1, hin q (List.mem_of_mem_take hq)⟩
  have zfo := (S.slA 1 rfl).one
  have zfp := (S.slA 2 rfl).one
  refine vc_split 4 (fun e g => ∃ v31, e 0 = .ptr x 0 0 ∧ e 2 = .ptr po 0 0 ∧ e 8 = .int .i64 (i' : Nat) ∧ e 9 = .ptr q 0 0 ∧
    Sp g (sl false 5 1 v31 (strRows (List.replicate n2 0)) :: byt fo f.opts :: box q (mkO m vps n2 (.ptr qf 0 0) m.ref) :: sl false 116 2 vps prs :: all2 pcR prs ps2 :: all2 mkR a0 xs1 :: all2 mkR bs ys :: box x (xO now vl) :: sl true 105 1 vl (a0 ++ [.ptr q 0 0] :: bs) :: box po (outO { o1 with done := true, pk := { f with mf := false } } fo v31 ve) :: endP ve o1.ended :: old h0 :: L)) ?_ ?_
  · simp only [CC.split]
    have q10 := (S.bx 10 rfl).eq
    try simp (disch := (first | omega | assumption | (simp only [lc0, ln0, la0]; first | done | omega) | (simp (disch := assumption) only [go_sem, one_as, Nat.reduceBEq]; done) | fail)) only [q10, i0, i2, i8, i9, go_sem, Hold.p, HoldK.k, HoldL.K, HoldL.body, Nat.reduceBEq, Nat.reduceAdd, reduceIte]
    refine st1_of (Nat.le_of_ble_eq_true rfl) (by first | rfl | assumption) fun g30 hg => ?_
    have l_g30 := n_set hg
    have S := S.set10 hg
    clear hg
    simp only [sz0, ss0, ts0, tz0, ds0, dz0, ca0, na0, Nat.reduceAdd] at S
    have q0 := (S.bx 0 rfl).eq
    have q3 := (S.bx 3 rfl).eq
    have q10 := (S.bx 10 rfl).eq
    try simp (disch := (first | omega | assumption | (simp only [lc0, ln0, la0]; first | done | omega) | (simp (disch := assumption) only [go_sem, one_as, Nat.reduceBEq]; done) | fail)) only [q0, q3, q10, i0, i2, i8, i9, go_sem, Hold.p, HoldK.k, HoldL.K, HoldL.body, Nat.reduceBEq, Nat.reduceAdd, reduceIte]
    refine stp_of rfl (Nat.le_of_ble_eq_true rfl) (by first | rfl | simp (disch := assumption) only [go_sem, cells_one, one_as]) fun g31 hg => ?_
    have l_g31 := n_set hg
    have S := S.set10 hg
    clear hg
    simp only [sz0, ss0, ts0, tz0, ds0, dz0, ca0, na0, Nat.reduceAdd] at S
    have q10 := (S.bx 10 rfl).eq
    try simp (disch := (first | omega | assumption | (simp only [lc0, ln0, la0]; first | done | omega) | (simp (disch := assumption) only [go_sem, one_as, Nat.reduceBEq]; done) | fail)) only [q10, i0, i2, i8, i9, go_sem, Hold.p, HoldK.k, HoldL.K, HoldL.body, Nat.reduceBEq, Nat.reduceAdd, reduceIte]
    refine st1_of (Nat.le_of_ble_eq_true rfl) (by first | rfl | assumption) fun g32 hg => ?_
    have l_g32 := n_set hg
    have S := S.set10 hg
    clear hg
    simp only [sz0, ss0, ts0, tz0, ds0, dz0, ca0, na0, Nat.reduceAdd] at S
    have q3 := (S.bx 3 rfl).eq
    have q10 := (S.bx 10 rfl).eq
    try simp (disch := (first | omega | assumption | (simp only [lc0, ln0, la0]; first | done | omega) | (simp (disch := assumption) only [go_sem, one_as, Nat.reduceBEq]; done) | fail)) only [q3, q10, i0, i2, i8, i9, go_sem, Hold.p, HoldK.k, HoldL.K, HoldL.body, Nat.reduceBEq, Nat.reduceAdd, reduceIte]
    refine Sp.mks S (by omega) (by omega) ?_
    clear S
    intro v33 g33 S E33 z33
    have hrep : List.replicate n2 [IV.int .u8 0] = strRows (List.replicate n2 0) := by simp [strRows]
    rw [hrep] at S
    have q11 := (S.bx 11 rfl).eq
    try simp (disch := (first | omega | assumption | (simp only [lc0, ln0, la0]; first | done | omega) | (simp (disch := assumption) only [go_sem, one_as, Nat.reduceBEq]; done) | fail)) only [q11, i0, i2, i8, i9, go_sem, Hold.p, HoldK.k, HoldL.K, HoldL.body, Nat.reduceBEq, Nat.reduceAdd, reduceIte]
    refine st1_of (Nat.le_of_ble_eq_true rfl) (by first | rfl | assumption) fun g34 hg => ?_
    have l_g34 := n_set hg
    have S := S.set11 hg
    clear hg
    simp only [sz0, ss0, ts0, tz0, ds0, dz0, ca0, na0, Nat.reduceAdd] at S
    try simp (disch := (first | omega | assumption | (simp only [lc0, ln0, la0]; first | done | omega) | (simp (disch := assumption) only [go_sem, one_as, Nat.reduceBEq]; done) | fail)) only [i0, i2, i8, i9, go_sem, Hold.p, HoldK.k, HoldL.K, HoldL.body, Nat.reduceBEq, Nat.reduceAdd, reduceIte]
    refine ⟨v33, ?_⟩
    have S := by simpa only [mc0, mn0, List.getD_cons_zero, List.getD_cons_succ, ds0, dz0, ca0, na0] using Sp.sel S 17 [0, 2, 4, 5, 6, 7, 8, 9, 10, 11, 14, 15] (by simp only [lc0]; omega) (by decide) (by decide)
    exact S
  clear S i0 i2 i8 i9 hX2
  rintro e g ⟨v31, i0, i2, i8, i9, S⟩
  simp only [CC.split]
  have z31 := (S.slA 0 rfl).one
  refine vc_split 1 (fun e g => e 0 = .ptr x 0 0 ∧ e 8 = .int .i64 (i' : Nat) ∧
    Sp g (sl false 5 1 v31 (strRows (fillB ps2 (List.replicate n2 0))) :: byt fo f.opts :: all2 mkR a0 xs1 :: all2 mkR bs ys :: box x (xO now vl) :: sl true 105 1 vl (a0 ++ [.ptr q 0 0] :: bs) :: box po (outO { o1 with done := true, pk := { f with mf := false } } fo v31 ve) :: endP ve o1.ended :: old h0 :: L)) ?_ ?_
  · simp only [CC.split]
    have hpl := a2_len S 4 rfl
    have q2 := (S.bx 2 rfl).eq
    have s3 := S.slA 3 rfl
    have len_s3 := s3.lenF
    have z3 := s3.one
    try simp (disch := (first | omega | assumption | (simp only [lc0, ln0, la0]; first | done | omega) | (simp (disch := assumption) only [go_sem, one_as, Nat.reduceBEq]; done) | fail)) only [q2, len_s3, z3, i0, i2, i8, i9, hpl, go_sem, Hold.p, HoldK.k, HoldL.K, HoldL.body, Nat.reduceBEq, Nat.reduceAdd, reduceIte]
    refine loop_at (fun n e g => ∃ (k : Nat), n = ps2.length - k ∧ k ≤ ps2.length ∧ e 0 = .ptr x 0 0 ∧ e 2 = .ptr po 0 0 ∧ e 8 = .int .i64 (i' : Nat) ∧ e 348 = vps ∧ e 349 = .int .i64 (ps2.length : Nat) ∧ e 350 = .int .i64 (k : Nat) ∧
      Sp g (sl false 5 1 v31 (strRows (fillB (ps2.take k) (List.replicate n2 0))) :: byt fo f.opts :: box q (mkO m vps n2 (.ptr qf 0 0) m.ref) :: sl false 116 2 vps prs :: all2 pcR prs ps2 :: all2 mkR a0 xs1 :: all2 mkR bs ys :: box x (xO now vl) :: sl true 105 1 vl (a0 ++ [.ptr q 0 0] :: bs) :: box po (outO { o1 with done := true, pk := { f with mf := false } } fo v31 ve) :: endP ve o1.ended :: old h0 :: L)) ps2.length ?_ ?_
    · refine ⟨0, by omega, by omega, ?_⟩
      try simp (disch := (first | omega | assumption | (simp only [lc0, ln0, la0]; first | done | omega) | (simp (disch := assumption) only [go_sem, one_as, Nat.reduceBEq]; done) | fail)) only [i0, i2, i8, i9, go_sem, Hold.p, HoldK.k, HoldL.K, HoldL.body, Nat.reduceBEq, Nat.reduceAdd, reduceIte]
      exact ⟨rfl, S⟩
    · clear S i0 i2 i8 i9 s3 len_s3 z3
      rintro n e g ⟨k, rfl, hk, i0, i2, i8, i348, i349, i350, S⟩
      try simp (disch := (first | omega | assumption | (simp only [lc0, ln0, la0]; first | done | omega) | (simp (disch := assumption) only [go_sem, one_as, Nat.reduceBEq]; done) | fail)) only [i0, i2, i8, i348, i349, i350, go_sem, Hold.p, HoldK.k, HoldL.K, HoldL.body, Nat.reduceBEq, Nat.reduceAdd, reduceIte]
      refine test_dec (fun hb => ?_) (fun hb => ?_)
      · obtain ⟨qq, hq⟩ : ∃ q, ps2[k]? = some q := ⟨_, List.getElem?_eq_getElem (by omega : k < ps2.length)⟩
        have hqs := hps2'.q qq (List.mem_of_getElem? hq)
        have hqi := hin qq (List.mem_of_getElem? hq)
        unfold pTo at hqi
        obtain ⟨vd, hrw, hvd⟩ := pcs_at S 4 rfl hq
        have s3 := S.slA 3 rfl
        obtain ⟨a1, a2, hia, hal, har⟩ := s3.at hrw .i64
        have d1 := hvd.one
        have w1 : wr .i64 ((k : Int) + 1) = ((k + 1 : Nat) : Int) := by rw [wr64 _ (by omega)]; rfl
        obtain ⟨aa, haa⟩ : ∃ a : Nat, qq.1 = a := ⟨qq.1.toNat, by omega⟩
        have hnx := fillB_next (out := List.replicate n2 0) hq
        rw [haa, Int.toNat_natCast] at hnx
        try simp (disch := (first | omega | assumption | (simp only [lc0, ln0, la0]; first | done | omega) | (simp (disch := assumption) only [go_sem, one_as, Nat.reduceBEq]; done) | fail)) only [i0, i2, i8, i348, i349, i350, hia, har, d1, go_sem, Hold.p, HoldK.k, HoldL.K, HoldL.body, Nat.reduceBEq, Nat.reduceAdd, reduceIte]
        refine Sp.zero S fun p20 g20 S E_g20 l_g20 => ?_
        have q0 := (S.bx 0 rfl).eq
        try simp (disch := (first | omega | assumption | (simp only [lc0, ln0, la0]; first | done | omega) | (simp (disch := assumption) only [go_sem, one_as, Nat.reduceBEq]; done) | fail)) only [q0, d1, go_sem, Hold.p, HoldK.k, HoldL.K, HoldL.body, Nat.reduceBEq, Nat.reduceAdd, reduceIte]
        refine stw_of rfl rfl (by first | rfl | simp (disch := assumption) only [go_sem, cells_one, one_as]) fun g21 hg => ?_
        have l_g21 := n_set hg
        have S := S.set0 hg
        clear hg
        obtain ⟨vd', hrow', hvd'⟩ := pcs_at S 5 rfl hq
        have hvv : vd' = vd := by rw [hrw] at hrow'; simpa using hrow'.symm
        subst hvv
        have q0 := (S.bx 0 rfl).eq
        have q10 := (S.bx 10 rfl).eq
        have hsrc := hvd'.src
        have S := by simpa only [mc0, mn0, List.getD_cons_zero, List.getD_cons_succ, ds0, dz0, ca0, na0] using Sp.sel S 13 [1, 0, 2, 3, 4, 5, 6, 7, 8, 9, 10, 11, 12] (by simp only [lc0]; omega) (by decide) (by decide)
        obtain ⟨vc, hvc, hcp⟩ := copyB (a := aa) (b := qq.2) S (by rw [hz]; omega)
        try simp (disch := (first | omega | assumption | (simp only [lc0, ln0, la0]; first | done | omega) | (simp (disch := assumption) only [go_sem, one_as, Nat.reduceBEq]; done) | fail)) only [i0, i2, i8, i348, i349, i350, q0, q10, haa, Option.map_none, hvc, hsrc, go_sem, Hold.p, HoldK.k, HoldL.K, HoldL.body, Nat.reduceBEq, Nat.reduceAdd, reduceIte]
        refine hcp _ fun g22 S => ?_
        rw [← hnx] at S
        try simp (disch := (first | omega | assumption | (simp only [lc0, ln0, la0]; first | done | omega) | (simp (disch := assumption) only [go_sem, one_as, Nat.reduceBEq]; done) | fail)) only [i0, i2, i8, i348, i349, i350, w1, go_sem, Hold.p, HoldK.k, HoldL.K, HoldL.body, Nat.reduceBEq, Nat.reduceAdd, reduceIte]
        have S := by simpa only [mc0, mn0, List.getD_cons_zero, List.getD_cons_succ, ds0, dz0, ca0, na0] using Sp.sel S 13 [0, 2, 3, 4, 5, 6, 7, 8, 9, 10, 11, 12] (by simp only [lc0]; omega) (by decide) (by decide)
        exact ⟨_, by omega, k + 1, rfl, by omega, rfl, S⟩
      · rw [List.take_of_length_le (by omega)] at S
        try simp (disch := (first | omega | assumption | (simp only [lc0, ln0, la0]; first | done | omega) | (simp (disch := assumption) only [go_sem, one_as, Nat.reduceBEq]; done) | fail)) only [i0, i2, i8, go_sem, Hold.p, HoldK.k, HoldL.K, HoldL.body, Nat.reduceBEq, Nat.reduceAdd, reduceIte]
        have S := by simpa only [mc0, mn0, List.getD_cons_zero, List.getD_cons_succ, ds0, dz0, ca0, na0] using Sp.sel S 12 [0, 1, 5, 6, 7, 8, 9, 10, 11] (by simp only [lc0]; omega) (by decide) (by decide)
        exact S
  clear S i0 i2 i8 i9
  rintro e g ⟨i0, i8, S⟩
  simp only [CC.split]
  have w2 : wr .i64 ((i' : Int) + 1) = ((i' + 1 : Nat) : Int) := by rw [wr64 _ (by omega)]; rfl
  have q4 := (S.bx 4 rfl).eq
  try simp (disch := (first | omega | assumption | (simp only [lc0, ln0, la0]; first | done | omega) | (simp (disch := assumption) only [go_sem, one_as, Nat.reduceBEq]; done) | fail)) only [q4, i0, i8, w2, go_sem, Hold.p, HoldK.k, HoldL.K, HoldL.body, Nat.reduceBEq, Nat.reduceAdd, reduceIte]
  have S := by simpa only [mc0, mn0, List.getD_cons_zero, List.getD_cons_succ, ds0, dz0, ca0, na0] using Sp.sel S 9 [5, 0, 1, 2, 3, 4, 6, 7, 8] (by simp only [lc0]; omega) (by decide) (by decide)
  refine callA_of (delete_c (i := i') (j := i' + 1) S (by simp) (by omega) (by rw [← ha0]; simp)) ?_
  clear S
  rintro r40 g40 ⟨S, z40⟩
  have q5 := (S.bx 5 rfl).eq
  try simp (disch := (first | omega | assumption | (simp only [lc0, ln0, la0]; first | done | omega) | (simp (disch := assumption) only [go_sem, one_as, Nat.reduceBEq]; done) | fail)) only [q5, i0, i8, go_sem, Hold.p, HoldK.k, HoldL.K, HoldL.body, Nat.reduceBEq, Nat.reduceAdd, reduceIte]
  refine st1_of (Nat.le_of_ble_eq_true rfl) (by first | rfl | assumption) fun g41 hg => ?_
  have l_g41 := n_set hg
  have S := S.set5 hg
  clear hg
  simp only [sz0, ss0, ts0, tz0, ds0, dz0, ca0, na0, Nat.reduceAdd] at S
  try simp (disch := (first | omega | assumption | (simp only [lc0, ln0, la0]; first | done | omega) | (simp (disch := assumption) only [go_sem, one_as, Nat.reduceBEq]; done) | fail)) only [i0, i8, go_sem, Hold.p, HoldK.k, HoldL.K, HoldL.body, Nat.reduceBEq, Nat.reduceAdd, reduceIte]
  have e1 : (a0 ++ [IV.ptr q 0 0] :: bs).take i' ++ (a0 ++ [IV.ptr q 0 0] :: bs).drop (i' + 1) = a0 ++ bs := by rw [← ha0]; simp
  have e2' : l1.eraseIdx i' = xs1 ++ ys := by rw [hl1, List.eraseIdx_append_of_length_le (by omega), hx1, Nat.sub_self]; rfl
  rw [e1] at S
  rw [e2']
  have S := by simpa only [mc0, mn0, List.getD_cons_zero, List.getD_cons_succ, ds0, dz0, ca0, na0] using Sp.sel S 9 [3, 4, 0, 1, 2, 5, 6, 7, 8] (by simp only [lc0]; omega) (by decide) (by decide)
  have S := S.a2join
  have S := by simpa only [mc0, mn0, List.getD_cons_zero, List.getD_cons_succ, ds0, dz0, ca0, na0] using Sp.sel S 8 [4, 1, 0, 5, 3, 2, 6, 7] (by simp only [lc0]; omega) (by decide) (by decide)
  exact ⟨r40, a0 ++ bs, fo, v31, ve, S⟩
end
end Go.Proofs.Ytjmmmmdpkfpojaa

set_option maxRecDepth 20000
namespace Go.Proofs.Ytjmmmmdpkfpojaa
open Go Go.IW
section
attribute [local go_sem] List.getElem?_cons_zero List.getElem?_cons_succ Option.bind_some List.map_cons List.map_nil Nat.zero_add if_true List.getD_cons_zero List.getD_cons_succ List.contains_cons List.contains_nil Bool.or_true Bool.true_or Bool.or_false Bool.false_or Bool.not_true Bool.not_false true_and and_true rowA_whole mid_get rowO_rows cellO_rows upd_ne Nat.add_assoc Nat.add_zero List.all_cons List.all_nil one_bool one_int one_str one_ptr one_nilptr one_slice one_eslice one_nilslice one_func one_iface one_niliface Bool.and_true Bool.and_self List.length_cons List.length_nil Nat.one_ne_zero Nat.succ_ne_zero if_false List.set_cons_zero List.set_cons_succ lay_nil lay_1 lay_w Option.map_some cells_one rowA_some List.drop_succ_cons List.drop_zero List.take_succ_cons List.take_zero

def bytesI (l : List Mk) : Nat := (l.map fun m => totP m.ps).sum
def tellI (l : List Mk) (o : Ot) : Ot := { o with held := l.length, bytes := o.bytes + bytesI l }
def endsI (l : List Mk) : List En := (l.filter fun m => !m.ref).map toldI
def passI (now : Int) (l : List Mk) : List Mk × Ot := (l.filter fun m => !goneI now m, { ot0 with ended := endsI (l.filter (goneI now)) })
def doI (now : Int) (l : List Mk) (op : Op) : Int × List Mk × Ot :=
  if op.kind = 1 ∧ codeB op.pk = 0 then (now, (takeI now l ot0 op.pk).1, tellI (takeI now l ot0 op.pk).1 (takeI now l ot0 op.pk).2)
  else if op.kind = 2 ∧ 0 ≤ op.wait ∧ op.wait ≤ 1000000000 - now then (now + op.wait, (passI (now + op.wait) l).1, tellI (passI (now + op.wait) l).1 (passI (now + op.wait) l).2)
  else (now, l, tellI l { ot0 with code := 1 })
theorem bytesI_next {l : List Mk} {k : Nat} {m : Mk} (hm : l[k]? = some m) : bytesI (l.take (k + 1)) = bytesI (l.take k) + totP m.ps := by
  rw [List.take_add_one, hm]; simp [bytesI]
theorem bytesI_le {l : List Mk} {M : Nat} (h : ∀ m ∈ l, totP m.ps ≤ M) : bytesI l ≤ l.length * M := by
  induction l with
  | nil => simp [bytesI]
  | cons q ps ih =>
    have h1 := h q List.mem_cons_self
    have h2 := ih fun r hr => h r (List.mem_cons_of_mem _ hr)
    have h3 : bytesI (q :: ps) = totP q.ps + bytesI ps := by simp [bytesI]
    rw [h3, lc0, Nat.add_mul, Nat.one_mul]
    omega
theorem endsI_next {l : List Mk} {k : Nat} {m : Mk} (hm : l[k]? = some m) : endsI (l.take (k + 1)) = if m.ref = true then endsI (l.take k) else endsI (l.take k) ++ [toldI m] := by
  rw [List.take_add_one, hm]
  unfold endsI
  rw [List.filter_append, List.map_append]
  cases hr : m.ref <;> simp [hr]
theorem endsI_len (l : List Mk) : (endsI l).length ≤ l.length := by
  unfold endsI
  rw [List.length_map]
  exact List.length_filter_le _ _
theorem openI_bytes (now : Int) (l : List Mk) (o : Ot) (p : Pk) : (openI now l o p).2.1.bytes = o.bytes := by
  unfold openI
  split
  · rfl
  · split
    · unfold goneOI; split <;> rfl
    · rfl
theorem takeI_bytes (now : Int) (l : List Mk) (o : Ot) (p : Pk) : (takeI now l o p).2.bytes = o.bytes := by
  unfold takeI
  split
  · rfl
  · split
    · rfl
    · simp only
      rw [← openI_bytes now l o p]
      unfold stepI
      simp only
      split
      · rfl
      · split <;> rfl
abbrev opO (o : Op) (vo vp : IV) : IObj := .rows [[.int .i64 o.kind, .int .i64 o.wait, .int .i64 o.pk.tos, .int .i64 o.pk.id, .bool o.pk.df, .bool o.pk.mf, .int .i64 o.pk.off, .int .i64 o.pk.ttl, .int .i64 o.pk.proto, .int .i64 o.pk.src, .int .i64 o.pk.dst, vo, vp]] 58 13 false
abbrev oZ : IObj := .rows [outRow ot0 .nilslice .nilslice .nilslice] 52 16 false
set_option maxHeartbeats 2000000 in
theorem do_c {h h0 : IH} {L : List As} {x N : Nat} {now : Int} {vl : IV} {rs : List (List IV)} {l : List Mk} {op : Op} {po pp : IV} (S : Sp h (box x (xO now vl) :: sl true 105 1 vl rs :: all2 mkR rs l :: old h0 :: L)) (a : PkAt h0 op.pk po pp) (hN : N ≤ 90000) (hl : l.length ≤ 16) (hok : ∀ m ∈ l, OkI N m) (hb : ∀ m ∈ l, 0 ≤ m.begun ∧ m.begun ≤ 1000000000)
    (hn : 0 ≤ now ∧ now ≤ 1000000000) (hsz : op.pk.opts.length + op.pk.pay.length ≤ 1048576) (hI : PkI op.pk) (hres : (doI now l op).2.1.length ≤ 16 ∧ ∀ m ∈ (doI now l op).2.1, OkI (N + 1) m)
    (hwh : codeB op.pk = 0 → op.pk.pay ≠ [] → ∀ m ∈ (openI now l ot0 op.pk).1, m.ref = false → (addI m op.pk).2 = true → ∀ q ∈ (addI m op.pk).1.ps, pTo q ≤ (addI m op.pk).1.en) :
    ICalls Try.prog 32 [.ptr x 0 0, .agg (opRow op po pp)] h fun r h' => ∃ vl rs vo vp ve, r = .agg (outRow (doI now l op).2.2 vo vp ve) ∧ Sp h' (box x (xO (doI now l op).1 vl) :: sl true 105 1 vl rs :: all2 mkR rs (doI now l op).2.1 :: byt vo (doI now l op).2.2.pk.opts :: byt vp (doI now l op).2.2.pk.pay :: endP ve (doI now l op).2.2.ended :: old h0 :: L) := by
  refine icalls (.of ok32) (Nat.le_of_ble_eq_true rfl) ?_
  unfold c32 opRow pkRow
  have y1 := a.o.one
  have y2 := a.p.one
  refine vc_split 3 (fun e g => ∃ (p4 p5 : Nat) (o' : Ot), e 0 = .ptr x 0 0 ∧ e 4 = .ptr p4 0 0 ∧ e 5 = .ptr p5 0 0 ∧ (doI now l op).2.2 = tellI (doI now l op).2.1 o' ∧ o'.bytes = 0 ∧ ISt g x (doI now l op).1 (doI now l op).2.1 p5 o' (old h0 :: box p4 oZ :: L)) ?_ ?_
  · simp only [CC.split]
    try simp (disch := (first | omega | assumption | (simp only [lc0, ln0, la0]; first | done | omega) | (simp (disch := assumption) only [go_sem, one_as, Nat.reduceBEq]; done) | fail)) only [go_sem, Hold.p, HoldK.k, HoldL.K, HoldL.body, Nat.reduceBEq, Nat.reduceAdd, reduceIte]
    refine Sp.bxA S (by first | rfl | (rw [cells_one (by assumption)]; rfl)) (by first | rfl | simp (disch := assumption) only [go_sem, cells_one, one_as]) fun p3 g1 S E_g1 l_g1 => ?_
    try simp (disch := (first | omega | assumption | (simp only [lc0, ln0, la0]; first | done | omega) | (simp (disch := assumption) only [go_sem, one_as, Nat.reduceBEq]; done) | fail)) only [go_sem, Hold.p, HoldK.k, HoldL.K, HoldL.body, Nat.reduceBEq, Nat.reduceAdd, reduceIte]
    refine Sp.zero S fun p4 g2 S E_g2 l_g2 => ?_
    try simp (disch := (first | omega | assumption | (simp only [lc0, ln0, la0]; first | done | omega) | (simp (disch := assumption) only [go_sem, one_as, Nat.reduceBEq]; done) | fail)) only [go_sem, Hold.p, HoldK.k, HoldL.K, HoldL.body, Nat.reduceBEq, Nat.reduceAdd, reduceIte]
    refine Sp.zero S fun p5 g3 S E_g3 l_g3 => ?_
    have W : ISt g3 x now l p5 ot0 (old h0 :: box p3 (opO op po pp) :: box p4 oZ :: L) := by
      have S := ((S.slNil (x := false) (el := 5) (sz := 1)).slNil (x := false) (el := 5) (sz := 1)).slNil (x := false) (el := 113) (sz := 5)
      refine ⟨vl, rs, .nilslice, .nilslice, .nilslice, ?_⟩
      have S := by simpa only [mc0, mn0, List.getD_cons_zero, List.getD_cons_succ, ds0, dz0, ca0, na0] using Sp.sel S 10 [6, 7, 8, 3, 2, 1, 0, 9, 5, 4] (by simp only [lc0]; omega) (by decide) (by decide)
      exact S
    have hdrop : ∀ {g : IH} {now' : Int} {l' : List Mk} {o' : Ot}, ISt g x now' l' p5 o' (old h0 :: box p3 (opO op po pp) :: box p4 oZ :: L) → ISt g x now' l' p5 o' (old h0 :: box p4 oZ :: L) := by
      rintro g now' l' o' ⟨vl, rs, vo, vp, ve, S⟩
      refine ⟨vl, rs, vo, vp, ve, ?_⟩
      have S := by simpa only [mc0, mn0, List.getD_cons_zero, List.getD_cons_succ, ds0, dz0, ca0, na0] using Sp.sel S 10 [0, 1, 2, 3, 4, 5, 6, 7, 9] (by simp only [lc0]; omega) (by decide) (by decide)
      exact S
    have q2 := (S.bx 2 rfl).eq
    try simp (disch := (first | omega | assumption | (simp only [lc0, ln0, la0]; first | done | omega) | (simp (disch := assumption) only [go_sem, one_as, Nat.reduceBEq]; done) | fail)) only [q2, go_sem, Hold.p, HoldK.k, HoldL.K, HoldL.body, Nat.reduceBEq, Nat.reduceAdd, reduceIte]
    have ag := a.ext (S.ol 6 rfl)
    refine guard_extT (v := .int .i64 (codeB op.pk)) (fun hk => ?_) (fun g4 E4 => ?_)
    · skip
      try simp (disch := (first | omega | assumption | (simp only [lc0, ln0, la0]; first | done | omega) | (simp (disch := assumption) only [go_sem, one_as, Nat.reduceBEq]; done) | fail)) only [hk, go_sem, Hold.p, HoldK.k, HoldL.K, HoldL.body, Nat.reduceBEq, Nat.reduceAdd, reduceIte]
      exact codeIP_c g3 op.pk po pp ag (by omega) hI.off.1
    clear S
    obtain ⟨vl, rs, vo, vp, ve, S⟩ := W
    have S := S.ext E4
    try simp (disch := (first | omega | assumption | (simp only [lc0, ln0, la0]; first | done | omega) | (simp (disch := assumption) only [go_sem, one_as, Nat.reduceBEq]; done) | fail)) only [go_sem, Hold.p, HoldK.k, HoldL.K, HoldL.body, Nat.reduceBEq, Nat.reduceAdd, reduceIte]
    refine test_of (fun hc => ?_) (fun hc => ?_)
    · have hc' : op.kind = 1 ∧ codeB op.pk = 0 := by simpa using hc
      obtain ⟨c1, c2, c3⟩ := codeB_ok hc'.2
      have hdo : doI now l op = (now, (takeI now l ot0 op.pk).1, tellI (takeI now l ot0 op.pk).1 (takeI now l ot0 op.pk).2) := if_pos hc'
      have q8 := (S.bx 8 rfl).eq
      try simp (disch := (first | omega | assumption | (simp only [lc0, ln0, la0]; first | done | omega) | (simp (disch := assumption) only [go_sem, one_as, Nat.reduceBEq]; done) | fail)) only [q8, go_sem, Hold.p, HoldK.k, HoldL.K, HoldL.body, Nat.reduceBEq, Nat.reduceAdd, reduceIte]
      refine callA_of (take_c (o := ot0) ⟨vl, rs, vo, vp, ve, S⟩ a hN hl (by simp [ot0]) hok c1 c2 c3 (hwh hc'.2)) ?_
      clear S
      rintro r5 g5 W
      try simp (disch := (first | omega | assumption | (simp only [lc0, ln0, la0]; first | done | omega) | (simp (disch := assumption) only [go_sem, one_as, Nat.reduceBEq]; done) | fail)) only [go_sem, Hold.p, HoldK.k, HoldL.K, HoldL.body, Nat.reduceBEq, Nat.reduceAdd, reduceIte]
      rw [hdo]
      refine ⟨p4, p5, (takeI now l ot0 op.pk).2, rfl, rfl, rfl, takeI_bytes _ _ _ _, hdrop W⟩
    · have hc' : ¬ (op.kind = 1 ∧ codeB op.pk = 0) := by simpa using hc
      have q0 := (S.bx 0 rfl).eq
      have q8 := (S.bx 8 rfl).eq
      try simp (disch := (first | omega | assumption | (simp only [lc0, ln0, la0]; first | done | omega) | (simp (disch := assumption) only [go_sem, one_as, Nat.reduceBEq]; done) | fail)) only [q0, q8, go_sem, Hold.p, HoldK.k, HoldL.K, HoldL.body, Nat.reduceBEq, Nat.reduceAdd, reduceIte]
      refine guard_of (fun hk => ?_) (fun hk => ?_)
      · have hk' : op.kind = 2 := by simpa using hk
        have q0 := (S.bx 0 rfl).eq
        have q8 := (S.bx 8 rfl).eq
        try simp (disch := (first | omega | assumption | (simp only [lc0, ln0, la0]; first | done | omega) | (simp (disch := assumption) only [go_sem, one_as, Nat.reduceBEq]; done) | fail)) only [q0, q8, hk, go_sem, Hold.p, HoldK.k, HoldL.K, HoldL.body, Nat.reduceBEq, Nat.reduceAdd, reduceIte]
        refine callA_of (isTime_c _ _ _ hn) ?_
        rintro r9 g9 ⟨rfl, rfl⟩
        have q0 := (S.bx 0 rfl).eq
        have q8 := (S.bx 8 rfl).eq
        try simp (disch := (first | omega | assumption | (simp only [lc0, ln0, la0]; first | done | omega) | (simp (disch := assumption) only [go_sem, one_as, Nat.reduceBEq]; done) | fail)) only [q0, q8, hk, go_sem, Hold.p, HoldK.k, HoldL.K, HoldL.body, Nat.reduceBEq, Nat.reduceAdd, reduceIte]
        refine test_of (fun hw => ?_) (fun hw => ?_)
        · have hw' : 0 ≤ op.wait ∧ op.wait ≤ 1000000000 - now := by simpa using hw
          obtain ⟨now', hnow⟩ : ∃ n, n = now + op.wait := ⟨_, rfl⟩
          have w1 : wr .i64 (now + op.wait) = now' := by rw [wr64 _ (by omega), hnow]
          have hdo : doI now l op = (now', (passI now' l).1, tellI (passI now' l).1 (passI now' l).2) := by rw [hnow]; exact (if_neg hc').trans (if_pos ⟨hk', hw'.1, hw'.2⟩)
          rw [hdo]
          have q0 := (S.bx 0 rfl).eq
          have q8 := (S.bx 8 rfl).eq
          try simp (disch := (first | omega | assumption | (simp only [lc0, ln0, la0]; first | done | omega) | (simp (disch := assumption) only [go_sem, one_as, Nat.reduceBEq]; done) | fail)) only [q0, q8, w1, go_sem, Hold.p, HoldK.k, HoldL.K, HoldL.body, Nat.reduceBEq, Nat.reduceAdd, reduceIte]
          refine st1_of (Nat.le_of_ble_eq_true rfl) (by first | rfl | assumption) fun g10 hg => ?_
          have l_g10 := n_set hg
          have S := S.set0 hg
          clear hg
          simp only [sz0, ss0, ts0, tz0, ds0, dz0, ca0, na0, Nat.reduceAdd] at S
          try simp (disch := (first | omega | assumption | (simp only [lc0, ln0, la0]; first | done | omega) | (simp (disch := assumption) only [go_sem, one_as, Nat.reduceBEq]; done) | fail)) only [go_sem, Hold.p, HoldK.k, HoldL.K, HoldL.body, Nat.reduceBEq, Nat.reduceAdd, reduceIte]
          refine callA_of (past_c S (by omega) hb) ?_
          clear S
          rintro r11 g11 ⟨vn, rg, rn, S⟩
          have hrl := a2_len S 1 rfl
          have z0 := (S.slA 0 rfl).one
          have len0 := (S.slA 0 rfl).lenF
          rw [hrl] at len0
          have hgl : (l.filter (goneI now')).length ≤ 16 := Nat.le_trans (List.length_filter_le _ _) hl
          obtain ⟨gone, hgone⟩ : ∃ g, g = l.filter (goneI now') := ⟨_, rfl⟩
          have hpas : passI now' l = (l.filter (fun m => !goneI now' m), { ot0 with ended := endsI gone }) := by rw [hgone]; rfl
          rw [hpas]
          rw [← hgone] at S hrl len0 hgl
          try simp (disch := (first | omega | assumption | (simp only [lc0, ln0, la0]; first | done | omega) | (simp (disch := assumption) only [go_sem, one_as, Nat.reduceBEq]; done) | fail)) only [len0, go_sem, Hold.p, HoldK.k, HoldL.K, HoldL.body, Nat.reduceBEq, Nat.reduceAdd, reduceIte]
          refine loop_at (fun n e g => ∃ (k : Nat) (ve : IV), n = gone.length - k ∧ k ≤ gone.length ∧ e 0 = .ptr x 0 0 ∧ e 4 = .ptr p4 0 0 ∧ e 5 = .ptr p5 0 0 ∧ e 50 = r11 ∧ e 51 = .int .i64 (gone.length : Nat) ∧ e 52 = .int .i64 (k : Nat) ∧
            Sp g (sl false 105 1 r11 rg :: all2 mkR rg gone :: box x (xO now' vn) :: sl false 105 1 vn rn :: all2 mkR rn (l.filter fun m => !goneI now' m) :: box p5 (outO { ot0 with ended := endsI (gone.take k) } vo vp ve) :: byt vo ot0.pk.opts :: byt vp ot0.pk.pay :: endP ve (endsI (gone.take k)) :: old h0 :: box p4 oZ :: L)) gone.length ?_ ?_
          · refine ⟨0, ve, by omega, by omega, ?_⟩
            try simp (disch := (first | omega | assumption | (simp only [lc0, ln0, la0]; first | done | omega) | (simp (disch := assumption) only [go_sem, one_as, Nat.reduceBEq]; done) | fail)) only [go_sem, Hold.p, HoldK.k, HoldL.K, HoldL.body, Nat.reduceBEq, Nat.reduceAdd, reduceIte]
            refine ⟨rfl, ?_⟩
            have S := by simpa only [mc0, mn0, List.getD_cons_zero, List.getD_cons_succ, ds0, dz0, ca0, na0] using Sp.sel S 12 [0, 1, 2, 3, 4, 5, 6, 7, 8, 9, 11] (by simp only [lc0]; omega) (by decide) (by decide)
            exact S
          · clear S
            rintro n e g ⟨k, ve, rfl, hk2, i0, i4, i5, i50, i51, i52, S⟩
            try simp (disch := (first | omega | assumption | (simp only [lc0, ln0, la0]; first | done | omega) | (simp (disch := assumption) only [go_sem, one_as, Nat.reduceBEq]; done) | fail)) only [i0, i4, i5, i50, i51, i52, go_sem, Hold.p, HoldK.k, HoldL.K, HoldL.body, Nat.reduceBEq, Nat.reduceAdd, reduceIte]
            refine test_dec (fun hb2 => ?_) (fun hb2 => ?_)
            · obtain ⟨m, hm⟩ : ∃ m, gone[k]? = some m := ⟨_, List.getElem?_eq_getElem (by omega : k < gone.length)⟩
              obtain ⟨q, vps, vf, hrow, hbq, k1, k2, k3⟩ := mk_at S 1 rfl hm
              have s0 := S.slA 0 rfl
              obtain ⟨a1, a2, hia, hal, har⟩ := s0.at hrow .i64
              have hcl := cellO_row har
              have qq := hbq.eq
              have hnx := endsI_next hm
              have hel := endsI_len (gone.take k)
              have hel2 : (gone.take k).length ≤ 16 := by rw [List.length_take]; omega
              have w2 : wr .i64 ((k : Int) + 1) = ((k + 1 : Nat) : Int) := by rw [wr64 _ (by omega)]; rfl
              have z8 := (S.slA 8 rfl).one
              try simp (disch := (first | omega | assumption | (simp only [lc0, ln0, la0]; first | done | omega) | (simp (disch := assumption) only [go_sem, one_as, Nat.reduceBEq]; done) | fail)) only [i0, i4, i5, i50, i51, i52, hia, hcl, qq, go_sem, Hold.p, HoldK.k, HoldL.K, HoldL.body, Nat.reduceBEq, Nat.reduceAdd, reduceIte]
              refine test_of (fun hr => ?_) (fun hr => ?_)
              · have hr' : m.ref = false := by rwa [Bool.not_eq_true'] at hr
                rw [if_neg (by simp [hr'])] at hnx
                have q5 := (S.bx 5 rfl).eq
                try simp (disch := (first | omega | assumption | (simp only [lc0, ln0, la0]; first | done | omega) | (simp (disch := assumption) only [go_sem, one_as, Nat.reduceBEq]; done) | fail)) only [q5, i0, i4, i5, i50, i51, i52, go_sem, Hold.p, HoldK.k, HoldL.K, HoldL.body, Nat.reduceBEq, Nat.reduceAdd, reduceIte]
                refine callA_of (told_c S hbq k2) ?_
                clear S
                rintro r12 g12 ⟨rfl, S⟩
                unfold enRow toldI
                have q5 := (S.bx 5 rfl).eq
                try simp (disch := (first | omega | assumption | (simp only [lc0, ln0, la0]; first | done | omega) | (simp (disch := assumption) only [go_sem, one_as, Nat.reduceBEq]; done) | fail)) only [q5, i0, i4, i5, i50, i51, i52, go_sem, Hold.p, HoldK.k, HoldL.K, HoldL.body, Nat.reduceBEq, Nat.reduceAdd, reduceIte]
                refine Sp.bsl1 S (by first | rfl | (rw [cells_one (by assumption)]; rfl)) (by first | rfl | simp (disch := assumption) only [go_sem, cells_one, one_as]) fun p13 g13 S E_g13 l_g13 => ?_
                try simp only [cells_agg, cells_int, cells_bool, cells_ptr, cells_str] at S
                have q0 := (S.bx 0 rfl).eq
                have q6 := (S.bx 6 rfl).eq
                try simp (disch := (first | omega | assumption | (simp only [lc0, ln0, la0]; first | done | omega) | (simp (disch := assumption) only [go_sem, one_as, Nat.reduceBEq]; done) | fail)) only [q0, q6, i0, i4, i5, i50, i51, i52, go_sem, Hold.p, HoldK.k, HoldL.K, HoldL.body, Nat.reduceBEq, Nat.reduceAdd, reduceIte]
                have S := by simpa only [mc0, mn0, List.getD_cons_zero, List.getD_cons_succ, ds0, dz0, ca0, na0] using Sp.sel S 12 [0, 9, 1, 2, 3, 4, 5, 6, 7, 8, 10, 11] (by simp only [lc0]; omega) (by decide) (by decide)
                refine S.app1 (y := false) (by simp; omega) ?_
                clear S
                intro v14 g14 S z14
                have q6 := (S.bx 6 rfl).eq
                try simp (disch := (first | omega | assumption | (simp only [lc0, ln0, la0]; first | done | omega) | (simp (disch := assumption) only [go_sem, one_as, Nat.reduceBEq]; done) | fail)) only [q6, i0, i4, i5, i50, i51, i52, go_sem, Hold.p, HoldK.k, HoldL.K, HoldL.body, Nat.reduceBEq, Nat.reduceAdd, reduceIte]
                refine st1_of (Nat.le_of_ble_eq_true rfl) (by first | rfl | assumption) fun g15 hg => ?_
                have l_g15 := n_set hg
                have S := S.set6 hg
                clear hg
                simp only [sz0, ss0, ts0, tz0, ds0, dz0, ca0, na0, Nat.reduceAdd] at S
                try simp (disch := (first | omega | assumption | (simp only [lc0, ln0, la0]; first | done | omega) | (simp (disch := assumption) only [go_sem, one_as, Nat.reduceBEq]; done) | fail)) only [i0, i4, i5, i50, i51, i52, w2, go_sem, Hold.p, HoldK.k, HoldL.K, HoldL.body, Nat.reduceBEq, Nat.reduceAdd, reduceIte]
                have S := by simpa only [mc0, mn0, List.getD_cons_zero, List.getD_cons_succ, ds0, dz0, ca0, na0] using Sp.sel S 11 [1, 2, 3, 4, 5, 6, 7, 8, 0, 9, 10] (by simp only [lc0]; omega) (by decide) (by decide)
                refine ⟨_, by omega, k + 1, v14, rfl, by omega, rfl, ?_⟩
                rw [hnx]
                simp only [endP, List.map_append, mc0, mn0]
                exact S
              · have hr' : m.ref = true := by rwa [Bool.not_eq_false'] at hr
                rw [if_pos hr'] at hnx
                try simp (disch := (first | omega | assumption | (simp only [lc0, ln0, la0]; first | done | omega) | (simp (disch := assumption) only [go_sem, one_as, Nat.reduceBEq]; done) | fail)) only [i0, i4, i5, i50, i51, i52, w2, go_sem, Hold.p, HoldK.k, HoldL.K, HoldL.body, Nat.reduceBEq, Nat.reduceAdd, reduceIte]
                refine ⟨_, by omega, k + 1, ve, rfl, by omega, rfl, ?_⟩
                rw [hnx]
                exact S
            · rw [List.take_of_length_le (by omega)] at S
              try simp (disch := (first | omega | assumption | (simp only [lc0, ln0, la0]; first | done | omega) | (simp (disch := assumption) only [go_sem, one_as, Nat.reduceBEq]; done) | fail)) only [i0, i4, i5, i50, i51, i52, go_sem, Hold.p, HoldK.k, HoldL.K, HoldL.body, Nat.reduceBEq, Nat.reduceAdd, reduceIte]
              refine ⟨p4, p5, { ot0 with ended := endsI gone }, rfl, rfl, rfl, rfl, vn, rn, vo, vp, ve, ?_⟩
              have S := by simpa only [mc0, mn0, List.getD_cons_zero, List.getD_cons_succ, ds0, dz0, ca0, na0] using Sp.sel S 11 [3, 2, 4, 5, 6, 7, 8, 9, 10] (by simp only [lc0]; omega) (by decide) (by decide)
              have S := S.lax
              have S := by simpa only [mc0, mn0, List.getD_cons_zero, List.getD_cons_succ, ds0, dz0, ca0, na0] using Sp.sel S 9 [1, 0, 2, 3, 4, 5, 6, 7, 8] (by simp only [lc0]; omega) (by decide) (by decide)
              exact S
        · have hw' : ¬ (0 ≤ op.wait ∧ op.wait ≤ 1000000000 - now) := by simpa using hw
          have hc2 : ¬ (op.kind = 2 ∧ 0 ≤ op.wait ∧ op.wait ≤ 1000000000 - now) := fun h => hw' h.2
          have hdo : doI now l op = (now, l, tellI l { ot0 with code := 1 }) := (if_neg hc').trans (if_neg hc2)
          have q3 := (S.bx 3 rfl).eq
          try simp (disch := (first | omega | assumption | (simp only [lc0, ln0, la0]; first | done | omega) | (simp (disch := assumption) only [go_sem, one_as, Nat.reduceBEq]; done) | fail)) only [q3, hk, go_sem, Hold.p, HoldK.k, HoldL.K, HoldL.body, Nat.reduceBEq, Nat.reduceAdd, reduceIte]
          refine st1_of (Nat.le_of_ble_eq_true rfl) (by first | rfl | assumption) fun g10 hg => ?_
          have l_g10 := n_set hg
          have S := S.set3 hg
          clear hg
          simp only [sz0, ss0, ts0, tz0, ds0, dz0, ca0, na0, Nat.reduceAdd] at S
          try simp (disch := (first | omega | assumption | (simp only [lc0, ln0, la0]; first | done | omega) | (simp (disch := assumption) only [go_sem, one_as, Nat.reduceBEq]; done) | fail)) only [go_sem, Hold.p, HoldK.k, HoldL.K, HoldL.body, Nat.reduceBEq, Nat.reduceAdd, reduceIte]
          rw [hdo]
          exact ⟨p4, p5, { ot0 with code := 1 }, rfl, rfl, rfl, rfl, hdrop ⟨vl, rs, vo, vp, ve, S⟩⟩
      · have hk' : ¬ op.kind = 2 := by simpa using hk
        have hc2 : ¬ (op.kind = 2 ∧ 0 ≤ op.wait ∧ op.wait ≤ 1000000000 - now) := fun h => hk' h.1
        have hdo : doI now l op = (now, l, tellI l { ot0 with code := 1 }) := (if_neg hc').trans (if_neg hc2)
        have q3 := (S.bx 3 rfl).eq
        try simp (disch := (first | omega | assumption | (simp only [lc0, ln0, la0]; first | done | omega) | (simp (disch := assumption) only [go_sem, one_as, Nat.reduceBEq]; done) | fail)) only [q3, hk, go_sem, Hold.p, HoldK.k, HoldL.K, HoldL.body, Nat.reduceBEq, Nat.reduceAdd, reduceIte]
        refine st1_of (Nat.le_of_ble_eq_true rfl) (by first | rfl | assumption) fun g10 hg => ?_
        have l_g10 := n_set hg
        have S := S.set3 hg
        clear hg
        simp only [sz0, ss0, ts0, tz0, ds0, dz0, ca0, na0, Nat.reduceAdd] at S
        try simp (disch := (first | omega | assumption | (simp only [lc0, ln0, la0]; first | done | omega) | (simp (disch := assumption) only [go_sem, one_as, Nat.reduceBEq]; done) | fail)) only [go_sem, Hold.p, HoldK.k, HoldL.K, HoldL.body, Nat.reduceBEq, Nat.reduceAdd, reduceIte]
        rw [hdo]
        exact ⟨p4, p5, { ot0 with code := 1 }, rfl, rfl, rfl, rfl, hdrop ⟨vl, rs, vo, vp, ve, S⟩⟩
  clear S hb hwh hok hl
  generalize doI now l op = D at hres ⊢
  obtain ⟨now', l', od⟩ := D
  simp only at hres ⊢
  obtain ⟨hl, hok⟩ := hres
  rintro e g ⟨p4, p5, o', i0, i4, i5, hod, hob, vl, rs, vo, vp, ve, S⟩
  simp only [CC.split]
  rw [hod]
  have x1 := (S.slA 4 rfl).one
  have x2 := (S.slA 5 rfl).one
  have x3 := (S.slA 6 rfl).one
  have hrl := a2_len S 2 rfl
  have htm : ∀ m ∈ l', ∀ k, totP (m.ps.take k) ≤ 90001 * 65535 := fun m hm k => Nat.le_trans (totP_le fun q hq => ((hok m hm).s.q q (List.mem_of_mem_take hq)).2) (Nat.mul_le_mul_right _ (by have := (hok m hm).s.n; rw [List.length_take]; omega))
  have htm' : ∀ m ∈ l', totP m.ps ≤ 90001 * 65535 := fun m hm => by have := htm m hm m.ps.length; rwa [List.take_length] at this
  have hbl : ∀ k, bytesI (l'.take k) ≤ 100 * (90001 * 65535) := fun k => Nat.le_trans (bytesI_le fun m hm => htm' m (List.mem_of_mem_take hm)) (Nat.mul_le_mul_right _ (by rw [List.length_take]; omega))
  have q0 := (S.bx 0 rfl).eq
  have q3 := (S.bx 3 rfl).eq
  have s1 := S.slA 1 rfl
  have len_s1 := s1.lenF
  have z1 := s1.one
  try simp (disch := (first | omega | assumption | (simp only [lc0, ln0, la0]; first | done | omega) | (simp (disch := assumption) only [go_sem, one_as, Nat.reduceBEq]; done) | fail)) only [q0, q3, len_s1, z1, i0, i4, i5, hrl, go_sem, Hold.p, HoldK.k, HoldL.K, HoldL.body, Nat.reduceBEq, Nat.reduceAdd, reduceIte]
  refine st1_of (Nat.le_of_ble_eq_true rfl) (by first | rfl | assumption) fun g2 hg => ?_
  have l_g2 := n_set hg
  have S := S.set3 hg
  clear hg
  simp only [sz0, ss0, ts0, tz0, ds0, dz0, ca0, na0, Nat.reduceAdd] at S
  have q0 := (S.bx 0 rfl).eq
  have s1 := S.slA 1 rfl
  have len_s1 := s1.lenF
  have z1 := s1.one
  try simp (disch := (first | omega | assumption | (simp only [lc0, ln0, la0]; first | done | omega) | (simp (disch := assumption) only [go_sem, one_as, Nat.reduceBEq]; done) | fail)) only [q0, len_s1, z1, i0, i4, i5, hrl, go_sem, Hold.p, HoldK.k, HoldL.K, HoldL.body, Nat.reduceBEq, Nat.reduceAdd, reduceIte]
  refine loop_at (fun n e g => ∃ (k : Nat), n = l'.length - k ∧ k ≤ l'.length ∧ e 4 = .ptr p4 0 0 ∧ e 5 = .ptr p5 0 0 ∧ e 78 = vl ∧ e 79 = .int .i64 (l'.length : Nat) ∧ e 80 = .int .i64 (k : Nat) ∧
    Sp g (box x (xO now' vl) :: sl true 105 1 vl rs :: all2 mkR rs l' :: box p5 (outO { o' with held := l'.length, bytes := (bytesI (l'.take k) : Nat) } vo vp ve) :: byt vo o'.pk.opts :: byt vp o'.pk.pay :: endP ve o'.ended :: old h0 :: box p4 oZ :: L)) l'.length ?_ ?_
  · refine ⟨0, by omega, by omega, ?_⟩
    try simp (disch := (first | omega | assumption | (simp only [lc0, ln0, la0]; first | done | omega) | (simp (disch := assumption) only [go_sem, one_as, Nat.reduceBEq]; done) | fail)) only [i4, i5, go_sem, Hold.p, HoldK.k, HoldL.K, HoldL.body, Nat.reduceBEq, Nat.reduceAdd, reduceIte]
    refine ⟨rfl, ?_⟩
    rw [hob] at S
    exact S
  · clear S i0 i4 i5
    rintro n e g ⟨k, rfl, hk, i4, i5, i78, i79, i80, S⟩
    try simp (disch := (first | omega | assumption | (simp only [lc0, ln0, la0]; first | done | omega) | (simp (disch := assumption) only [go_sem, one_as, Nat.reduceBEq]; done) | fail)) only [i4, i5, i78, i79, i80, go_sem, Hold.p, HoldK.k, HoldL.K, HoldL.body, Nat.reduceBEq, Nat.reduceAdd, reduceIte]
    refine test_dec (fun hb => ?_) (fun hb => ?_)
    · obtain ⟨m, hm⟩ : ∃ m, l'[k]? = some m := ⟨_, List.getElem?_eq_getElem (by omega : k < l'.length)⟩
      have hokm := hok m (List.mem_of_getElem? hm)
      have hmn := hokm.s.n
      have w1 : wr .i64 ((k : Int) + 1) = ((k + 1 : Nat) : Int) := by rw [wr64 _ (by omega)]; rfl
      have S := by simpa only [mc0, mn0, List.getD_cons_zero, List.getD_cons_succ, ds0, dz0, ca0, na0] using Sp.sel S 9 [2, 0, 1, 3, 4, 5, 6, 7, 8] (by simp only [lc0]; omega) (by decide) (by decide)
      obtain ⟨a0, r, bs, xs1, ys, hrs, hl1, ha0, hx1, S⟩ := S.a2at hm
      obtain ⟨q, vps, vf, prs, hr, S⟩ := mk_open S
      rw [hr] at hrs
      have hrow : rs[k]? = some [.ptr q 0 0] := by rw [hrs, ← ha0]; simp
      have s7 := S.slA 7 rfl
      obtain ⟨a1, a2, hia, hal, har⟩ := s7.at hrow .i64
      have hcl := cellO_row har
      have hpl := a2_len S 2 rfl
      have q0 := (S.bx 0 rfl).eq
      have s1 := S.slA 1 rfl
      have len_s1 := s1.lenF
      have z1 := s1.one
      try simp (disch := (first | omega | assumption | (simp only [lc0, ln0, la0]; first | done | omega) | (simp (disch := assumption) only [go_sem, one_as, Nat.reduceBEq]; done) | fail)) only [q0, len_s1, z1, i4, i5, i78, i79, i80, hia, hcl, hpl, go_sem, Hold.p, HoldK.k, HoldL.K, HoldL.body, Nat.reduceBEq, Nat.reduceAdd, reduceIte]
      refine loop_at (fun n e g => ∃ (j : Nat), n = m.ps.length - j ∧ j ≤ m.ps.length ∧ e 4 = .ptr p4 0 0 ∧ e 5 = .ptr p5 0 0 ∧ e 78 = vl ∧ e 79 = .int .i64 (l'.length : Nat) ∧ e 80 = .int .i64 (k : Nat) ∧ e 87 = vps ∧ e 88 = .int .i64 (m.ps.length : Nat) ∧ e 89 = .int .i64 (j : Nat) ∧
        Sp g (box q (mkO m vps m.en vf m.ref) :: sl false 116 2 vps prs :: all2 pcR prs m.ps :: firstP vf m.first :: all2 mkR a0 xs1 :: all2 mkR bs ys :: box x (xO now' vl) :: sl true 105 1 vl rs :: box p5 (outO { o' with held := l'.length, bytes := (bytesI (l'.take k) + totP (m.ps.take j) : Nat) } vo vp ve) :: byt vo o'.pk.opts :: byt vp o'.pk.pay :: endP ve o'.ended :: old h0 :: box p4 oZ :: L)) m.ps.length ?_ ?_
      · refine ⟨0, by omega, by omega, ?_⟩
        try simp (disch := (first | omega | assumption | (simp only [lc0, ln0, la0]; first | done | omega) | (simp (disch := assumption) only [go_sem, one_as, Nat.reduceBEq]; done) | fail)) only [i4, i5, i78, i79, i80, go_sem, Hold.p, HoldK.k, HoldL.K, HoldL.body, Nat.reduceBEq, Nat.reduceAdd, reduceIte]
        exact ⟨rfl, S⟩
      · clear S i4 i5 i78 i79 i80 s7 hal hia har hcl s1 len_s1 z1
        rintro n e g ⟨j, rfl, hj, i4, i5, i78, i79, i80, i87, i88, i89, S⟩
        try simp (disch := (first | omega | assumption | (simp only [lc0, ln0, la0]; first | done | omega) | (simp (disch := assumption) only [go_sem, one_as, Nat.reduceBEq]; done) | fail)) only [i4, i5, i78, i79, i80, i87, i88, i89, go_sem, Hold.p, HoldK.k, HoldL.K, HoldL.body, Nat.reduceBEq, Nat.reduceAdd, reduceIte]
        refine test_dec (fun hb2 => ?_) (fun hb2 => ?_)
        · obtain ⟨x', hx'⟩ : ∃ q, m.ps[j]? = some q := ⟨_, List.getElem?_eq_getElem (by omega : j < m.ps.length)⟩
          have hqs := hokm.s.q x' (List.mem_of_getElem? hx')
          obtain ⟨vd, hrw, hvd⟩ := pcs_at S 2 rfl hx'
          have s1 := S.slA 1 rfl
          obtain ⟨a1, a2, hia, hal, har⟩ := s1.at hrw .i64
          have d1 := hvd.one
          have d2 := hvd.lenF
          rw [strRows_len] at d2
          have w3 : wr .i64 ((j : Int) + 1) = ((j + 1 : Nat) : Int) := by rw [wr64 _ (by omega)]; rfl
          have hnx := totP_next hx'
          have t1 := htm m (List.mem_of_getElem? hm) j
          have t2 := hbl k
          have w2 : wr .i64 (((bytesI (l'.take k) + totP (m.ps.take j) : Nat) : Int) + (x'.2.length : Int)) = ((bytesI (l'.take k) + totP (m.ps.take (j + 1)) : Nat) : Int) := by rw [wr64 _ (by omega), hnx]; omega
          try simp (disch := (first | omega | assumption | (simp only [lc0, ln0, la0]; first | done | omega) | (simp (disch := assumption) only [go_sem, one_as, Nat.reduceBEq]; done) | fail)) only [i4, i5, i78, i79, i80, i87, i88, i89, hia, har, d1, go_sem, Hold.p, HoldK.k, HoldL.K, HoldL.body, Nat.reduceBEq, Nat.reduceAdd, reduceIte]
          refine Sp.zero S fun p11 g11 S E_g11 l_g11 => ?_
          have q0 := (S.bx 0 rfl).eq
          try simp (disch := (first | omega | assumption | (simp only [lc0, ln0, la0]; first | done | omega) | (simp (disch := assumption) only [go_sem, one_as, Nat.reduceBEq]; done) | fail)) only [q0, d1, go_sem, Hold.p, HoldK.k, HoldL.K, HoldL.body, Nat.reduceBEq, Nat.reduceAdd, reduceIte]
          refine stw_of rfl rfl (by first | rfl | simp (disch := assumption) only [go_sem, cells_one, one_as]) fun g12 hg => ?_
          have l_g12 := n_set hg
          have S := S.set0 hg
          clear hg
          have q0 := (S.bx 0 rfl).eq
          have q9 := (S.bx 9 rfl).eq
          try simp (disch := (first | omega | assumption | (simp only [lc0, ln0, la0]; first | done | omega) | (simp (disch := assumption) only [go_sem, one_as, Nat.reduceBEq]; done) | fail)) only [q0, q9, i4, i5, i78, i79, i80, i87, i88, i89, d2, w2, go_sem, Hold.p, HoldK.k, HoldL.K, HoldL.body, Nat.reduceBEq, Nat.reduceAdd, reduceIte]
          refine st1_of (Nat.le_of_ble_eq_true rfl) (by first | rfl | assumption) fun g13 hg => ?_
          have l_g13 := n_set hg
          have S := S.set9 hg
          clear hg
          simp only [sz0, ss0, ts0, tz0, ds0, dz0, ca0, na0, Nat.reduceAdd] at S
          try simp (disch := (first | omega | assumption | (simp only [lc0, ln0, la0]; first | done | omega) | (simp (disch := assumption) only [go_sem, one_as, Nat.reduceBEq]; done) | fail)) only [i4, i5, i78, i79, i80, i87, i88, i89, w3, go_sem, Hold.p, HoldK.k, HoldL.K, HoldL.body, Nat.reduceBEq, Nat.reduceAdd, reduceIte]
          exact ⟨_, by omega, j + 1, rfl, by omega, rfl, S.drop⟩
        · have : j = m.ps.length := by omega
          subst this
          have hnx := bytesI_next hm
          rw [List.take_length, ← hnx] at S
          have S := i_close S
          rw [← hl1, ← hrs] at S
          try simp (disch := (first | omega | assumption | (simp only [lc0, ln0, la0]; first | done | omega) | (simp (disch := assumption) only [go_sem, one_as, Nat.reduceBEq]; done) | fail)) only [i4, i5, i78, i79, i80, w1, go_sem, Hold.p, HoldK.k, HoldL.K, HoldL.body, Nat.reduceBEq, Nat.reduceAdd, reduceIte]
          exact ⟨_, by omega, k + 1, rfl, by omega, rfl, S⟩
    · have : k = l'.length := by omega
      subst this
      rw [List.take_length] at S
      have q3 := (S.bx 3 rfl).eq
      have q8 := (S.bx 8 rfl).eq
      try simp (disch := (first | omega | assumption | (simp only [lc0, ln0, la0]; first | done | omega) | (simp (disch := assumption) only [go_sem, one_as, Nat.reduceBEq]; done) | fail)) only [q3, q8, i4, i5, go_sem, Hold.p, HoldK.k, HoldL.K, HoldL.body, Nat.reduceBEq, Nat.reduceAdd, reduceIte]
      refine stw_of rfl rfl (by first | rfl | simp (disch := assumption) only [go_sem, cells_one, one_as]) fun g10 hg => ?_
      have l_g10 := n_set hg
      have S := S.set8 hg
      clear hg
      have q8 := (S.bx 8 rfl).eq
      try simp (disch := (first | omega | assumption | (simp only [lc0, ln0, la0]; first | done | omega) | (simp (disch := assumption) only [go_sem, one_as, Nat.reduceBEq]; done) | fail)) only [q8, i4, i5, go_sem, Hold.p, HoldK.k, HoldL.K, HoldL.body, Nat.reduceBEq, Nat.reduceAdd, reduceIte]
      have ht : tellI l' o' = { o' with held := l'.length, bytes := (bytesI l' : Nat) } := by unfold tellI; rw [hob, Int.zero_add]
      rw [ht]
      refine ⟨vl, rs, vo, vp, ve, rfl, ?_⟩
      have S := by simpa only [mc0, mn0, List.getD_cons_zero, List.getD_cons_succ, ds0, dz0, ca0, na0] using Sp.sel S 9 [0, 1, 2, 4, 5, 6, 7] (by simp only [lc0]; omega) (by decide) (by decide)
      exact S
end
end Go.Proofs.Ytjmmmmdpkfpojaa

set_option maxRecDepth 20000
namespace Go.Proofs.Ytjmmmmdpkfpojaa
open Go Go.IW

structure B1 (m : Mk) (s : Ms) : Prop where
  b : Both m s
  z : s.has = true → s.first.off = 0
  e : m.ref = true → m.en = -1
section
variable {α β : Type} {R : α → β → Prop} {l : List α} {s : List β}
theorem a2_find {f : α → Bool} {g : β → Bool} (h : All2 R l s) (hf : ∀ a b, R a b → f a = g b) : l.findIdx? f = s.findIdx? g := by
  induction h with
  | nil => rfl
  | cons h _ ih =>
    rw [List.findIdx?_cons, List.findIdx?_cons, hf _ _ h, ih]
theorem a2_eraseIdx (h : All2 R l s) (i : Nat) : All2 R (l.eraseIdx i) (s.eraseIdx i) := by
  induction h generalizing i with
  | nil => exact .nil
  | cons h t ih => cases i with
    | zero => exact t
    | succ i => exact .cons h (ih i)
theorem a2_set (h : All2 R l s) (i : Nat) {a : α} {b : β} (hr : R a b) : All2 R (l.set i a) (s.set i b) := by
  induction h generalizing i with
  | nil => exact .nil
  | cons h t ih => cases i with
    | zero => exact .cons hr t
    | succ i => exact .cons h (ih i)
theorem a2_get (h : All2 R l s) {i : Nat} {a : α} (ha : l[i]? = some a) : ∃ b, s[i]? = some b ∧ R a b := by
  induction h generalizing i with
  | nil => simp at ha
  | cons h t ih => cases i with
    | zero => simp at ha; subst ha; exact ⟨_, rfl, h⟩
    | succ i => simpa using ih (by simpa using ha)
end
theorem addI_shape (m : Mk) (p : Pk) : ∃ m2 : Mk, m2.ref = m.ref ∧ (addI m p = (m.refuse, false) ∨ addI m p = addEnd m2 m2.first) := by
  unfold addI
  simp only
  split
  · exact ⟨m, rfl, .inl rfl⟩
  · split
    · exact ⟨m, rfl, .inl rfl⟩
    · rename_i same _ _
      obtain ⟨m1, hm1⟩ : ∃ m1 : Mk, m1 = if p.mf = false then { m with en := p.off + (p.pay.length : Int) } else m := ⟨_, rfl⟩
      have h1 : m1.ref = m.ref := by rw [hm1]; split <;> rfl
      rw [← hm1]
      obtain ⟨m2, hm2⟩ : ∃ m2 : Mk, m2 = if same = true then m1 else { m1 with ps := m1.ps ++ [(p.off, p.pay)], first := if p.off = 0 then some p else m1.first } := ⟨_, rfl⟩
      have h2 : m2.ref = m.ref := by rw [hm2]; split <;> exact h1
      rw [← hm2]
      refine ⟨m2, h2, .inr ?_⟩
      unfold addEnd
      cases m2.first <;> rfl
theorem addI_ref {m : Mk} {p : Pk} (h : m.ref = false) : (addI m p).1.ref = true → (addI m p).1.en = -1 := by
  obtain ⟨m2, h2, h3 | h3⟩ := addI_shape m p
  · rw [h3]; intro _; rfl
  · rw [h3]
    cases m2.first with
    | none =>
      intro h4
      have h4' : m2.ref = true := h4
      rw [h2, h] at h4'; cases h4'
    | some f =>
      simp only [addEnd]
      split
      · intro h4
        have h4' : m2.ref = true := h4
        rw [h2, h] at h4'; cases h4'
      · split
        · intro _; rfl
        · intro h4
          have h4' : m2.ref = true := h4
          rw [h2, h] at h4'; cases h4'
theorem addS_shape2 (m : Ms) (p : Pk) : ∃ (ref : Bool) (e2 : Int) (ps : Pcs), addS m p = if ref = true then { m with ps := [], en := e2, ref := true, has := false, first := if p.off = 0 ∧ m.has = false then p else m.first } else { m with ps := ps, en := e2, ref := false, has := decide (p.off = 0) || m.has, first := if p.off = 0 ∧ m.has = false then p else m.first } := ⟨_, _, _, rfl⟩
theorem addS_zero {s : Ms} {p : Pk} (h : s.has = true → s.first.off = 0) : (addS s p).has = true → (addS s p).first.off = 0 := by
  obtain ⟨ref, e2, ps, e⟩ := addS_shape2 s p
  rw [e]
  cases ref with
  | true => intro h1; cases h1
  | false =>
    intro h1
    have h1' : (decide (p.off = 0) || s.has) = true := h1
    show (if p.off = 0 ∧ s.has = false then p else s.first).off = 0
    by_cases h2 : p.off = 0 ∧ s.has = false
    · rw [if_pos h2]; exact h2.1
    · rw [if_neg h2]
      by_cases h3 : s.has = true
      · exact h h3
      · exfalso
        have h4 : s.has = false := by simpa using h3
        rw [h4, Bool.or_false] at h1'
        exact h2 ⟨by simpa using h1', h4⟩
theorem b1_add {m : Mk} {s : Ms} {p : Pk} (hb : B1 m s) (hr : m.ref = false) (ho : 0 ≤ p.off) (hp : p.pay ≠ []) : B1 (addI m p).1 (addS s p) ∧ (addI m p).2 = wholeS (addS s p) ∧ ((addI m p).2 = true → wholeI (addI m p).1 = wholePk (addS s p)) := by
  obtain ⟨h1, h2, h3⟩ := add_both hb.b hr ho hp
  refine ⟨⟨h1, addS_zero hb.z, addI_ref hr⟩, h2, fun hw => ?_⟩
  obtain ⟨h4, h5⟩ := h3 hw
  obtain ⟨e1, e2, e3, _⟩ := h1.on h4
  have hhas : (addS s p).has = true := by
    cases hh : (addS s p).has with
    | true => rfl
    | false => rw [hh, h5] at e3; simp at e3
  have hz := addS_zero hb.z hhas
  unfold wholeI wholePk
  rw [h5, e1, e2]
  simp only [Option.getD_some]
  rw [← hz]
theorem b1_new (p : Pk) (now : Int) : B1 (mkNew p now) (msNew p now) :=
  ⟨⟨rfl, rfl, rfl, rfl, rfl, rfl, fun h => by simp [mkNew] at h, fun _ => ⟨rfl, rfl, rfl, ⟨by simp [msNew], by simp [msNew], by simp [msNew], by simp [msNew], by simp [msNew], .inl rfl⟩⟩⟩, fun h => by simp [msNew] at h, fun h => by simp [mkNew] at h⟩
theorem b1_told {m : Mk} {s : Ms} (hb : B1 m s) (o : Ot) : goneOI o m = goneO o s true := by
  have h1 := hb.b
  have h2 := hb.b.ref
  unfold goneOI goneO
  cases hr : m.ref with
  | true => rw [← h2, hr]; simp
  | false =>
    rw [← h2, hr]
    have h3 := (h1.on hr).2.2.1
    have h4 : toldI m = toldS s := by
      unfold toldI toldS
      rw [h1.src, h1.dst, h1.proto, h1.id, h3]
      cases s.has <;> rfl
    simp [h4]
theorem b1_key {m : Mk} {s : Ms} (p : Pk) (hb : B1 m s) : keyI p m = keyS p s := by
  unfold keyI keyS
  rw [hb.b.src, hb.b.dst, hb.b.proto, hb.b.id]
theorem b1_ok {N : Nat} {m : Mk} {s : Ms} (hb : B1 m s) (hs : OkM N s) : OkI N m := by
  cases hr : m.ref with
  | true =>
    obtain ⟨h1, h2, _⟩ := hb.b.off hr
    exact ⟨⟨by rw [h1]; simp, by rw [h1]; simp, by rw [hb.e hr]; omega⟩, fun f hf => by rw [h2] at hf; cases hf⟩
  | false =>
    obtain ⟨h1, h2, h3, _⟩ := hb.b.on hr
    refine ⟨⟨by rw [h1]; exact hs.s.n, by rw [h1]; exact hs.s.q, by rw [h2]; exact hs.s.e⟩, fun f hf => ?_⟩
    rw [h3] at hf
    split at hf
    · cases hf; exact hs.o
    · cases hf
theorem b1_tot {m : Mk} {s : Ms} (hb : B1 m s) : m.ps = s.ps := by
  cases hr : m.ref with
  | true => obtain ⟨h1, _, h2, _⟩ := hb.b.off hr; rw [h1, h2]
  | false => exact (hb.b.on hr).1
theorem tell_both {l : List Mk} {s : List Ms} (h : All2 B1 l s) (o : Ot) : tellI l o = tellS s o := by
  have h1 : bytesI l = bytesS s := by
    induction h with
    | nil => rfl
    | cons h _ ih => unfold bytesI bytesS at *; simp only [mc0, List.sum_cons, ih, b1_tot h]
  unfold tellI tellS
  rw [h1, h.len]
theorem open_both {l : List Mk} {s : List Ms} (h : All2 B1 l s) (now : Int) (o : Ot) (p : Pk) : All2 B1 (openI now l o p).1 (openS now s o p).1 ∧ (openI now l o p).2 = (openS now s o p).2 := by
  unfold openI openS
  rw [a2_find h fun a b => b1_key p]
  cases s.findIdx? (keyS p) with
  | some k => exact ⟨h, rfl⟩
  | none =>
    simp only [h.len]
    split
    · rename_i h16
      refine ⟨(a2_eraseIdx h 0).app (.cons (b1_new p now) .nil), ?_⟩
      cases h with
      | nil => simp at h16
      | cons h _ => simp only [List.headD_cons, b1_told h]
    · exact ⟨h.app (.cons (b1_new p now) .nil), rfl⟩
theorem take_both {l : List Mk} {s : List Ms} {N : Nat} {now : Int} (h : All2 B1 l s) (hL : LOk N now s) (hn : 0 ≤ now) (o : Ot) (p : Pk) (ho : 0 ≤ p.off) : All2 B1 (takeI now l o p).1 (takeS now s o p).1 ∧ (takeI now l o p).2 = (takeS now s o p).2 := by
  unfold takeI takeS
  split
  · exact ⟨h, rfl⟩
  · split
    · exact ⟨h, rfl⟩
    · rename_i h1 h2
      obtain ⟨a, b⟩ := open_both h now o p
      obtain ⟨_, c, _⟩ := openS_ok (o := o) (p := p) hL hn
      generalize openI now l o p = ri at a b ⊢
      generalize openS now s o p = rs at a b c ⊢
      obtain ⟨l1, o1, i⟩ := ri
      obtain ⟨s1, o2, j⟩ := rs
      simp only [Prod.mk.injEq] at a b c
      obtain ⟨rfl, rfl⟩ := b
      obtain ⟨t, ht⟩ : ∃ t, s1[i]? = some t := ⟨_, List.getElem?_eq_getElem c⟩
      obtain ⟨m, hm, hmt⟩ := a.at ht
      unfold stepI stepS
      simp only [List.getD_eq_getElem?_getD, hm, ht, Option.getD_some]
      rw [hmt.b.ref]
      cases hr : t.ref with
      | true => simp only [if_true]; exact ⟨a, trivial⟩
      | false =>
        simp only [Bool.false_eq_true, if_false]
        have hmr : m.ref = false := hmt.b.ref.trans hr
        obtain ⟨k1, k2, k3⟩ := b1_add hmt hmr ho (fun e => h2 (.inl e))
        rw [k2]
        cases hw : wholeS (addS t p) with
        | true =>
          simp only [if_true]
          exact ⟨a2_eraseIdx a i, by rw [k3 (k2.trans hw)]⟩
        | false =>
          simp only [Bool.false_eq_true, if_false]
          exact ⟨a2_set a i k1, trivial⟩
theorem pass_both {t : Int} : ∀ {l : List Mk} {s : List Ms}, All2 B1 l s → s.Pairwise (fun a b => a.born ≤ b.born) → ∀ o, All2 B1 (l.filter fun m => !goneI t m) (passS t s o).1 ∧ (passS t s o).2 = { o with ended := o.ended ++ endsI (l.filter (goneI t)) }
  | _, _, .nil, _, o => ⟨.nil, by simp [passS, endsI]⟩
  | m :: l, x :: s, .cons h hs, hp, o => by
    rw [List.pairwise_cons] at hp
    have hg : goneI t m = decide (x.born + 30000 ≤ t) := by unfold goneI; rw [h.b.begun]
    by_cases hc : x.born + 30000 ≤ t
    · have hgt : goneI t m = true := by rw [hg]; exact decide_eq_true hc
      obtain ⟨a, b⟩ := pass_both hs hp.2 (goneO o x true)
      rw [passS, if_pos hc]
      refine ⟨by rw [List.filter_cons_of_neg (by simp [hgt])]; exact a, ?_⟩
      rw [b, List.filter_cons_of_pos hgt, ← b1_told h]
      unfold goneOI endsI
      cases hr : m.ref <;> simp [hr]
    · have hgf : goneI t m = false := by rw [hg]; exact decide_eq_false hc
      have hall : ∀ y ∈ l, goneI t y = false := by
        intro y hy
        obtain ⟨i, hi⟩ := List.getElem?_of_mem hy
        obtain ⟨z, hz, hb⟩ := a2_get hs hi
        have := hp.1 z (List.mem_of_getElem? hz)
        unfold goneI
        rw [hb.b.begun]
        exact decide_eq_false (by omega)
      rw [passS, if_neg hc]
      have e1 : (m :: l).filter (fun m => !goneI t m) = m :: l := List.filter_eq_self.2 (by
        intro y hy
        rcases List.mem_cons.1 hy with rfl | hy
        · simp [hgf]
        · simp [hall y hy])
      have e2 : (m :: l).filter (goneI t) = [] := List.filter_eq_nil_iff.2 (by
        intro y hy
        rcases List.mem_cons.1 hy with rfl | hy
        · simp [hgf]
        · simp [hall y hy])
      rw [e1, e2]
      exact ⟨.cons h hs, by simp [endsI]⟩
end Go.Proofs.Ytjmmmmdpkfpojaa

set_option maxRecDepth 20000
namespace Go.Proofs.Ytjmmmmdpkfpojaa
open Go Go.IW
section
attribute [local go_sem] List.getElem?_cons_zero List.getElem?_cons_succ Option.bind_some List.map_cons List.map_nil Nat.zero_add if_true List.getD_cons_zero List.getD_cons_succ List.contains_cons List.contains_nil Bool.or_true Bool.true_or Bool.or_false Bool.false_or Bool.not_true Bool.not_false true_and and_true rowA_whole mid_get rowO_rows cellO_rows upd_ne Nat.add_assoc Nat.add_zero List.all_cons List.all_nil one_bool one_int one_str one_ptr one_nilptr one_slice one_eslice one_nilslice one_func one_iface one_niliface Bool.and_true Bool.and_self List.length_cons List.length_nil Nat.one_ne_zero Nat.succ_ne_zero if_false List.set_cons_zero List.set_cons_succ lay_nil lay_1 lay_w Option.map_some cells_one rowA_some List.drop_succ_cons List.drop_zero List.take_succ_cons List.take_zero

abbrev SB (s : List Ms) : Prop := s.Pairwise fun a b => a.born ≤ b.born
theorem sb_snoc {s : List Ms} {m : Ms} (h : SB s) (hm : ∀ x ∈ s, x.born ≤ m.born) : SB (s ++ [m]) := by
  refine List.pairwise_append.2 ⟨h, List.pairwise_singleton _ _, fun a ha b hb => ?_⟩
  rw [List.mem_singleton.1 hb]; exact hm a ha
theorem sb_erase {s : List Ms} (h : SB s) (i : Nat) : SB (s.eraseIdx i) := h.sublist (List.eraseIdx_sublist _ _)
theorem open_sb {N : Nat} {now : Int} {s : List Ms} {o : Ot} {p : Pk} (h : SB s) (hL : LOk N now s) : SB (openS now s o p).1 := by
  unfold openS
  split
  · exact h
  · split
    · exact sb_snoc (sb_erase h 0) fun x hx => (hL.b x (List.mem_of_mem_eraseIdx hx)).2
    · exact sb_snoc h fun x hx => (hL.b x hx).2
theorem set_sb {s : List Ms} {i : Nat} {m m' : Ms} (h : SB s) (hm : s[i]? = some m) (hb : m'.born = m.born) : SB (s.set i m') := by
  have e : (s.set i m').map Ms.born = s.map Ms.born := by
    rw [List.map_set]
    refine List.ext_getElem? fun j => ?_
    rw [List.getElem?_set]
    split
    · rename_i hij
      subst hij
      split
      · rw [List.getElem?_map, hm, hb]; rfl
      · rw [List.getElem?_eq_none (by omega)]
    · rfl
  have h1 : (s.map Ms.born).Pairwise (· ≤ ·) := List.pairwise_map.2 h
  rw [← e] at h1
  exact List.pairwise_map.1 h1
theorem take_sb {N : Nat} {now : Int} {s : List Ms} {o : Ot} {p : Pk} (h : SB s) (hL : LOk N now s) (hn : 0 ≤ now) : SB (takeS now s o p).1 := by
  unfold takeS
  split
  · exact h
  · split
    · exact h
    · have h1 := open_sb (o := o) (p := p) h hL
      obtain ⟨_, h2, _⟩ := openS_ok (o := o) (p := p) hL hn
      generalize openS now s o p = r at h1 h2 ⊢
      obtain ⟨s1, o1, i⟩ := r
      simp only at h1 h2 ⊢
      obtain ⟨t, ht⟩ : ∃ t, s1[i]? = some t := ⟨_, List.getElem?_eq_getElem h2⟩
      unfold stepS
      simp only [List.getD_eq_getElem?_getD, ht, Option.getD_some]
      split
      · exact h1
      · split
        · exact sb_erase h1 i
        · exact set_sb h1 ht (addS_born t p)
theorem pass_sb {t : Int} : ∀ {s : List Ms} {o : Ot}, SB s → SB (passS t s o).1
  | [], _, h => h
  | m :: s, o, h => by
    unfold passS
    split
    · exact pass_sb (List.pairwise_cons.1 h).2
    · exact h
theorem op_both {l : List Mk} {s : List Ms} {N : Nat} {now : Int} {op : Op} (h : All2 B1 l s) (hL : LOk N now s) (hS : SB s) (hn : 0 ≤ now ∧ now ≤ 1000000000) :
    (doI now l op).1 = (opS now s op).1 ∧ All2 B1 (doI now l op).2.1 (opS now s op).2.1 ∧ (doI now l op).2.2 = (opS now s op).2.2 ∧ LOk (N + 1) (opS now s op).1 (opS now s op).2.1 ∧ SB (opS now s op).2.1 ∧ 0 ≤ (opS now s op).1 ∧ (opS now s op).1 ≤ 1000000000 := by
  unfold doI opS
  by_cases h1 : op.kind = 1 ∧ codeB op.pk = 0
  · rw [if_pos h1, if_pos h1]
    obtain ⟨c1, c2, c3⟩ := codeB_ok h1.2
    obtain ⟨a, b⟩ := take_both h hL hn.1 ot0 op.pk c1.1
    exact ⟨rfl, a, by rw [b]; exact tell_both a _, (takeS_ok hL hn.1 h1.2).1, take_sb hS hL hn.1, hn.1, hn.2⟩
  · rw [if_neg h1, if_neg h1]
    by_cases h2 : op.kind = 2 ∧ 0 ≤ op.wait ∧ op.wait ≤ 1000000000 - now
    · rw [if_pos h2, if_pos h2]
      obtain ⟨a, b⟩ := pass_both (t := now + op.wait) h hS ot0
      refine ⟨rfl, a, ?_, (passS_ok (hL.mono (M := N + 1) (now' := now + op.wait) (by omega) (by omega))).1, pass_sb hS, by simp only; omega, by simp only; omega⟩
      simp only
      rw [b, ← tell_both a]
      rfl
    · rw [if_neg h2, if_neg h2]
      exact ⟨rfl, h, tell_both h _, hL.mono (by omega) (Int.le_refl _), hS, hn.1, hn.2⟩
set_option maxHeartbeats 2000000 in
theorem implRun_c (h : IH) (v : IV) (ops : List Op) (a : OpsAt h v ops) (hn : ops.length ≤ 1048576) (hsz : ∀ o ∈ ops, o.pk.opts.length + o.pk.pay.length ≤ 1048576) :
    ICalls Try.prog 10 [v] h fun r h' => RunRes h h' r (runS ops) ∧ Ext h h' := by
  refine icalls (.of ok10) (Nat.le_of_ble_eq_true rfl) ?_
  unfold c10
  obtain ⟨⟨rs, hsl, hrl, hrow⟩, hI⟩ := a
  have hlen := hsl.lenF
  rw [hrl] at hlen
  try simp (disch := (first | omega | assumption | (simp only [lc0, ln0, la0]; first | done | omega) | (simp (disch := assumption) only [go_sem, one_as, Nat.reduceBEq]; done) | fail)) only [hlen, go_sem, Hold.p, HoldK.k, HoldL.K, HoldL.body, Nat.reduceBEq, Nat.reduceAdd, reduceIte]
  refine test_dec (fun hb => ?_) (fun hb => ?_)
  · have hr : runS ops = ([], 8) := if_pos (by omega)
    try simp (disch := (first | omega | assumption | (simp only [lc0, ln0, la0]; first | done | omega) | (simp (disch := assumption) only [go_sem, one_as, Nat.reduceBEq]; done) | fail)) only [go_sem, Hold.p, HoldK.k, HoldL.K, HoldL.body, Nat.reduceBEq, Nat.reduceAdd, reduceIte]
    rw [hr]
    exact ⟨⟨_, rfl, (Ow.nil0 h)⟩, Ext.refl _⟩
  have hr : runS ops = (runSt 0 [] ops, 0) := if_neg (by omega)
  rw [hr]
  have S := Sp.start h
  try simp (disch := (first | omega | assumption | (simp only [lc0, ln0, la0]; first | done | omega) | (simp (disch := assumption) only [go_sem, one_as, Nat.reduceBEq]; done) | fail)) only [go_sem, Hold.p, HoldK.k, HoldL.K, HoldL.body, Nat.reduceBEq, Nat.reduceAdd, reduceIte]
  refine Sp.bxA S (by first | rfl | (rw [cells_one (by assumption)]; rfl)) (by first | rfl | simp (disch := assumption) only [go_sem, cells_one, one_as]) fun x g1 S E_g1 l_g1 => ?_
  try simp (disch := (first | omega | assumption | (simp only [lc0, ln0, la0]; first | done | omega) | (simp (disch := assumption) only [go_sem, one_as, Nat.reduceBEq]; done) | fail)) only [hlen, go_sem, Hold.p, HoldK.k, HoldL.K, HoldL.body, Nat.reduceBEq, Nat.reduceAdd, reduceIte]
  refine loop_at (fun n e g => ∃ (k : Nat) (now : Int) (l : List Mk) (s : List Ms) (vx vl : IV) (outs : List Ot) (rl : List (List IV)), n = ops.length - k ∧ k ≤ ops.length ∧ e 4 = .ptr x 0 0 ∧ e 5 = vx ∧ e 13 = v ∧ e 14 = .int .i64 (ops.length : Nat) ∧ e 15 = .int .i64 (k : Nat) ∧ outs.length = k ∧
    runSt 0 [] ops = outs ++ runSt now s (ops.drop k) ∧ All2 B1 l s ∧ LOk k now s ∧ SB s ∧ 0 ≤ now ∧ now ≤ 1000000000 ∧
    Sp g (box x (xO now vl) :: sl true 105 1 vl rl :: all2 mkR rl l :: dat (.slice 52 t_ReasmOut) [vx] (.list (outs.map outD)) :: [old h])) ops.length ?_ ?_
  · refine ⟨0, 0, [], [], .nilslice, .nilslice, [], [], by omega, by omega, ?_⟩
    try simp (disch := (first | omega | assumption | (simp only [lc0, ln0, la0]; first | done | omega) | (simp (disch := assumption) only [go_sem, one_as, Nat.reduceBEq]; done) | fail)) only [go_sem, Hold.p, HoldK.k, HoldL.K, HoldL.body, Nat.reduceBEq, Nat.reduceAdd, reduceIte]
    refine ⟨rfl, rfl, .nil, ⟨by simp, by simp, by simp⟩, List.Pairwise.nil, by omega, by omega, ?_⟩
    have S := ((S.a2nil (R := mkR)).slNil (x := true) (el := 105) (sz := 1))
    have S := S.new (Ext.refl _) (f := []) (A := dat (.slice 52 t_ReasmOut) [.nilslice] (.list [])) ⟨_, [], rfl, rfl, .inl ⟨rfl, rfl, .inl rfl⟩⟩ (by simp) (by simp)
    have S := by simpa only [mc0, mn0, List.getD_cons_zero, List.getD_cons_succ, ds0, dz0, ca0, na0] using Sp.sel S 5 [3, 1, 2, 0, 4] (by simp only [lc0]; omega) (by decide) (by decide)
    exact S
  · clear S
    rintro n e g ⟨k, now, l, s, vx, vl, outs, rl, rfl, hk, i4, i5, i13, i14, i15, hol, hru, hB, hL, hS, hn0, hn1, S⟩
    try simp (disch := (first | omega | assumption | (simp only [lc0, ln0, la0]; first | done | omega) | (simp (disch := assumption) only [go_sem, one_as, Nat.reduceBEq]; done) | fail)) only [i4, i5, i13, i14, i15, go_sem, Hold.p, HoldK.k, HoldL.K, HoldL.body, Nat.reduceBEq, Nat.reduceAdd, reduceIte]
    refine test_dec (fun hb2 => ?_) (fun hb2 => ?_)
    · obtain ⟨op, hop⟩ : ∃ q, ops[k]? = some q := ⟨_, List.getElem?_eq_getElem (by omega : k < ops.length)⟩
      obtain ⟨po, pp, hrk, ha⟩ := hrow k op hop
      obtain ⟨hIw, hIp⟩ := hI op (List.mem_of_getElem? hop)
      have hszo := hsz op (List.mem_of_getElem? hop)
      have y1 := ha.o.one
      have y2 := ha.p.one
      have w1 : wr .i64 ((k : Int) + 1) = ((k + 1 : Nat) : Int) := by rw [wr64 _ (by omega)]; rfl
      rw [drop_at hop, runSt] at hru
      have hsg := hsl.ext (S.ol 4 rfl)
      obtain ⟨a1, a2, hia, hal, har⟩ := hsg.at hrk .i64
      unfold opRow pkRow at har
      try simp (disch := (first | omega | assumption | (simp only [lc0, ln0, la0]; first | done | omega) | (simp (disch := assumption) only [go_sem, one_as, Nat.reduceBEq]; done) | fail)) only [i4, i5, i13, i14, i15, hia, har, go_sem, Hold.p, HoldK.k, HoldL.K, HoldL.body, Nat.reduceBEq, Nat.reduceAdd, reduceIte]
      refine Sp.zero S fun p7 g7 S E_g7 l_g7 => ?_
      have q0 := (S.bx 0 rfl).eq
      try simp (disch := (first | omega | assumption | (simp only [lc0, ln0, la0]; first | done | omega) | (simp (disch := assumption) only [go_sem, one_as, Nat.reduceBEq]; done) | fail)) only [q0, go_sem, Hold.p, HoldK.k, HoldL.K, HoldL.body, Nat.reduceBEq, Nat.reduceAdd, reduceIte]
      refine stw_of rfl rfl (by first | rfl | simp (disch := assumption) only [go_sem, cells_one, one_as]) fun g8 hg => ?_
      have l_g8 := n_set hg
      have S := S.set0 hg
      clear hg
      have q0 := (S.bx 0 rfl).eq
      try simp (disch := (first | omega | assumption | (simp only [lc0, ln0, la0]; first | done | omega) | (simp (disch := assumption) only [go_sem, one_as, Nat.reduceBEq]; done) | fail)) only [q0, i4, i5, i13, i14, i15, go_sem, Hold.p, HoldK.k, HoldL.K, HoldL.body, Nat.reduceBEq, Nat.reduceAdd, reduceIte]
      obtain ⟨d1, d2, d3, d4, d5, d6, d7⟩ := op_both (op := op) hB hL hS ⟨hn0, hn1⟩
      have hle : l.length ≤ 16 := by rw [hB.len]; exact hL.n
      have hokl : ∀ {N : Nat} {l : List Mk} {s : List Ms}, All2 B1 l s → (∀ m ∈ s, OkM N m) → ∀ m ∈ l, OkI N m := by
        intro N l s hB hs m hm
        obtain ⟨i, hi⟩ := List.getElem?_of_mem hm
        obtain ⟨t, ht, hb⟩ := a2_get hB hi
        exact b1_ok hb (hs t (List.mem_of_getElem? ht))
      have S := by simpa only [mc0, mn0, List.getD_cons_zero, List.getD_cons_succ, ds0, dz0, ca0, na0] using Sp.sel S 6 [1, 2, 3, 5, 4, 0] (by simp only [lc0]; omega) (by decide) (by decide)
      refine callA_of (do_c S ha (N := k) (by omega) hle (hokl hB hL.m) (fun m hm => ?_) ⟨hn0, hn1⟩ hszo hIp ⟨?_, hokl d2 d4.m⟩ ?_) ?_
      · obtain ⟨i, hi⟩ := List.getElem?_of_mem hm
        obtain ⟨t, ht, hb⟩ := a2_get hB hi
        have := hL.b t (List.mem_of_getElem? ht)
        rw [hb.b.begun]
        omega
      · rw [d2.len]; exact d4.n
      · intro hcd hpay m hm hmr hw q hq
        obtain ⟨oa, ob⟩ := open_both hB now ot0 op.pk
        obtain ⟨i, hi⟩ := List.getElem?_of_mem hm
        obtain ⟨t, ht, hb⟩ := a2_get oa hi
        obtain ⟨c1, c2, c3⟩ := codeB_ok hcd
        obtain ⟨e1, e2, e3⟩ := add_both hb.b hmr c1.1 hpay
        obtain ⟨e4, _⟩ := e3 hw
        obtain ⟨e5, e6, _⟩ := e1.on e4
        rw [e5] at hq
        rw [e6]
        exact addS_in (e2 ▸ hw) q hq
      clear S
      rintro r9 g9 ⟨vl', rl', vo, vp, ve, rfl, S⟩
      have z1 := (S.slA 3 rfl).one
      have z2 := (S.slA 4 rfl).one
      have z3 := (S.slA 5 rfl).one
      try simp (disch := (first | omega | assumption | (simp only [lc0, ln0, la0]; first | done | omega) | (simp (disch := assumption) only [go_sem, one_as, Nat.reduceBEq]; done) | fail)) only [i4, i5, i13, i14, i15, go_sem, Hold.p, HoldK.k, HoldL.K, HoldL.body, Nat.reduceBEq, Nat.reduceAdd, reduceIte]
      refine Sp.bsl1 S (by first | rfl | (rw [cells_one (by assumption)]; rfl)) (by first | rfl | simp (disch := assumption) only [go_sem, cells_one, one_as]) fun p10 g10 S E_g10 l_g10 => ?_
      try simp only [cells_agg, cells_int, cells_bool, cells_ptr, cells_str] at S
      have q0 := (S.bx 0 rfl).eq
      try simp (disch := (first | omega | assumption | (simp only [lc0, ln0, la0]; first | done | omega) | (simp (disch := assumption) only [go_sem, one_as, Nat.reduceBEq]; done) | fail)) only [q0, i4, i5, i13, i14, i15, go_sem, Hold.p, HoldK.k, HoldL.K, HoldL.body, Nat.reduceBEq, Nat.reduceAdd, reduceIte]
      have S := by simpa only [mc0, mn0, List.getD_cons_zero, List.getD_cons_succ, ds0, dz0, ca0, na0] using Sp.sel S 10 [4, 5, 6, 8, 1, 2, 3, 7] (by simp only [lc0]; omega) (by decide) (by decide)
      have S := out_dat S
      have S := S.p1
      refine Sp.dapp S (by rw [List.length_map]; omega) ?_
      clear S
      intro v14 g14 S z14 c14
      try simp (disch := (first | omega | assumption | (simp only [lc0, ln0, la0]; first | done | omega) | (simp (disch := assumption) only [go_sem, one_as, Nat.reduceBEq]; done) | fail)) only [i4, i5, i13, i14, i15, w1, go_sem, Hold.p, HoldK.k, HoldL.K, HoldL.body, Nat.reduceBEq, Nat.reduceAdd, reduceIte]
      have S := by simpa only [mc0, mn0, List.getD_cons_zero, List.getD_cons_succ, ds0, dz0, ca0, na0] using Sp.sel S 5 [1, 2, 3, 0, 4] (by simp only [lc0]; omega) (by decide) (by decide)
      rw [d1, d3] at S
      refine ⟨_, by omega, k + 1, (opS now s op).1, (doI now l op).2.1, (opS now s op).2.1, v14, vl', outs ++ [(opS now s op).2.2], rl', rfl, by omega, rfl, rfl, by simp [hol], ?_, d2, d4, d5, d6, d7, ?_⟩
      · rw [hru]; simp
      · rw [List.map_append]; exact S
    · have hd : ops.drop k = [] := List.drop_eq_nil_of_le (by omega)
      rw [hd, runSt, List.append_nil] at hru
      rw [hru]
      try simp (disch := (first | omega | assumption | (simp only [lc0, ln0, la0]; first | done | omega) | (simp (disch := assumption) only [go_sem, one_as, Nat.reduceBEq]; done) | fail)) only [i4, i5, i13, i14, i15, go_sem, Hold.p, HoldK.k, HoldL.K, HoldL.body, Nat.reduceBEq, Nat.reduceAdd, reduceIte]
      have S := by simpa only [mc0, mn0, List.getD_cons_zero, List.getD_cons_succ, ds0, dz0, ca0, na0] using Sp.sel S 5 [3, 4] (by simp only [lc0]; omega) (by decide) (by decide)
      exact ⟨⟨vx, rfl, S.toOw⟩, S.drop.oldE⟩
end
end Go.Proofs.Ytjmmmmdpkfpojaa

namespace Go.Proofs.Ytjmmmmdpkfpojaa
open Go Go.IW

inductive Lay (P : Pk) : Nat → List Pk → Prop
  | last (a : Nat) (h0 : a < P.pay.length) : Lay P a [{ P with off := (a : Int), mf := false, pay := P.pay.drop a }]
  | more (a b : Nat) (h0 : a < b) (h1 : b < P.pay.length) (h8 : (b - a) % 8 = 0) {r : List Pk} (hr : Lay P b r) : Lay P a ({ P with off := (a : Int), mf := true, pay := (P.pay.take b).drop a } :: r)
structure Frag (P : Pk) (a b : Nat) (f : Pk) : Prop where
  e : f = { P with off := (a : Int), mf := decide (b < P.pay.length), pay := (P.pay.take b).drop a }
  ab : a < b
  hb : b ≤ P.pay.length
  m : b < P.pay.length → (b - a) % 8 = 0
theorem Frag.len {P f : Pk} {a b : Nat} (h : Frag P a b f) : f.pay.length = b - a := by
  rw [h.e]; simp only [List.length_drop, List.length_take]; have := h.hb; omega
theorem Lay.lt {P : Pk} {a : Nat} {F : List Pk} (h : Lay P a F) : a < P.pay.length := by
  cases h with
  | last _ h0 => exact h0
  | more _ b h0 h1 h8 hr => exact Nat.lt_trans h0 h1
theorem Lay.frag {P : Pk} {a : Nat} {F : List Pk} (h : Lay P a F) : ∀ f ∈ F, ∃ c d, a ≤ c ∧ Frag P c d f := by
  induction h with
  | last a h0 =>
    intro f hf
    obtain rfl := List.mem_singleton.1 hf
    exact ⟨a, P.pay.length, Nat.le_refl _, ⟨by simp, h0, Nat.le_refl _, fun h => absurd h (Nat.lt_irrefl _)⟩⟩
  | more a b h0 h1 h8 hr ih =>
    intro f hf
    rcases List.mem_cons.1 hf with rfl | hf
    · exact ⟨a, b, Nat.le_refl _, ⟨by simp [h1], h0, by omega, fun _ => h8⟩⟩
    · obtain ⟨c, d, hc, hF⟩ := ih f hf
      exact ⟨c, d, by omega, hF⟩
theorem Lay.apart {P : Pk} {a : Nat} {F : List Pk} (h : Lay P a F) : F.Pairwise fun f g => f.off + (f.pay.length : Int) ≤ g.off := by
  induction h with
  | last a h0 => simp
  | more a b h0 h1 h8 hr ih =>
    refine List.pairwise_cons.2 ⟨fun g hg => ?_, ih⟩
    obtain ⟨c, d, hc, hF⟩ := hr.frag g hg
    rw [hF.e]
    simp only [List.length_drop, List.length_take]
    omega
theorem Lay.tot {P : Pk} {a : Nat} {F : List Pk} (h : Lay P a F) : (F.map fun f => f.pay.length).sum = P.pay.length - a := by
  induction h with
  | last a h0 => simp
  | more a b h0 h1 h8 hr ih =>
    simp only [mc0, List.sum_cons, ih, List.length_drop, List.length_take]
    omega
theorem Lay.cover {P : Pk} {a : Nat} {F : List Pk} (h : Lay P a F) : ∀ j, a ≤ j → j < P.pay.length → ∃ f ∈ F, f.off ≤ (j : Int) ∧ (j : Int) < f.off + (f.pay.length : Int) := by
  induction h with
  | last a h0 =>
    intro j h1 h2
    refine ⟨_, List.mem_singleton.2 rfl, ?_⟩
    simp only [List.length_drop]
    omega
  | more a b h0 h1 h8 hr ih =>
    intro j h2 h3
    by_cases hj : j < b
    · refine ⟨_, List.mem_cons_self, ?_⟩
      simp only [List.length_drop, List.length_take]
      omega
    · obtain ⟨f, hf, h4⟩ := ih j (by omega) h3
      exact ⟨f, List.mem_cons_of_mem _ hf, h4⟩
theorem Cut.lay {P : Pk} {R : Nat} (h0 : P.off = 0) (hm : P.mf = false) (hR : 8 ≤ R) {a : Nat} {F : List Pk} (h : Cut P R a F) : Lay P a F := by
  induction h with
  | last a h1 h2 =>
    have := Lay.last (P := P) a h1
    rwa [show ({ P with off := (a : Int), mf := false, pay := P.pay.drop a } : Pk) = { P with off := P.off + (a : Int), pay := P.pay.drop a } by rw [h0, ← hm]; simp] at this
  | more a h1 hr ih =>
    have := Lay.more (P := P) a (a + R / 8 * 8) (by omega) h1 (by omega) ih
    rwa [show ({ P with off := (a : Int), mf := true, pay := (P.pay.take (a + R / 8 * 8)).drop a } : Pk) = { P with off := P.off + (a : Int), mf := true, pay := (P.pay.take (a + R / 8 * 8)).drop a } by rw [h0]; simp] at this
end Go.Proofs.Ytjmmmmdpkfpojaa

namespace Go.Proofs.Ytjmmmmdpkfpojaa
open Go Go.IW

theorem scan_ok {off en : Int} {pay : List UInt8} : ∀ {ps : Pcs} {same ref : Bool}, (∀ q ∈ ps, (q.1 = off ∧ q.2 = pay) ∨ ¬ (q.1 < en ∧ off < pTo q)) → scanS off en pay ps same ref = (same || ps.any fun q => decide (q.1 = off ∧ q.2 = pay), ref)
  | [], same, ref, _ => by simp [scanS]
  | q :: r, same, ref, h => by
    have hr := fun x hx => h x (List.mem_cons_of_mem _ hx)
    unfold scanS
    by_cases h1 : q.1 = off ∧ q.2 = pay
    · rw [if_pos h1, scan_ok hr, List.any_cons, decide_eq_true h1]
      simp
    · have h2 := (h q List.mem_cons_self).resolve_left h1
      rw [if_neg h1, if_neg h2, scan_ok hr, List.any_cons, decide_eq_false h1, Bool.false_or]
theorem pw_any {α : Type} {R : α → α → Prop} : ∀ {l : List α}, l.Pairwise R → ∀ f ∈ l, ∀ g ∈ l, f = g ∨ R f g ∨ R g f
  | [], _, f, hf, _, _ => nomatch hf
  | a :: l, h, f, hf, g, hg => by
    obtain ⟨h1, h2⟩ := List.pairwise_cons.1 h
    rcases List.mem_cons.1 hf with e1 | hf' <;> rcases List.mem_cons.1 hg with e2 | hg'
    · exact .inl (e1.trans e2.symm)
    · exact .inr (.inl (e1 ▸ h1 g hg'))
    · exact .inr (.inr (e2 ▸ h1 f hf'))
    · exact pw_any h2 f hf' g hg'
def hasQ (Q : List Pk) (p : Pk) : Bool := Q.any fun f => decide (f.off = p.off ∧ f.pay = p.pay)
def addQ (Q : List Pk) (p : Pk) : List Pk := if hasQ Q p = true then Q else Q ++ [p]
structure Fam (P : Pk) (F : List Pk) : Prop where
  off : P.off = 0
  mf : P.mf = false
  c : codeB P = 0
  lay : Lay P 0 F
theorem Fam.pos {P : Pk} {F : List Pk} (h : Fam P F) : 0 < P.pay.length := h.lay.lt
theorem Fam.sep {P : Pk} {F : List Pk} (h : Fam P F) {f g : Pk} (hf : f ∈ F) (hg : g ∈ F) : f = g ∨ f.off + (f.pay.length : Int) ≤ g.off ∨ g.off + (g.pay.length : Int) ≤ f.off := pw_any h.lay.apart f hf g hg
theorem Fam.ne {P : Pk} {F : List Pk} (h : Fam P F) {f : Pk} (hf : f ∈ F) : 0 < f.pay.length := by
  obtain ⟨a, b, _, hF⟩ := h.lay.frag f hf
  have := hF.len
  have := hF.ab
  omega
theorem Fam.has {P : Pk} {F Q : List Pk} (h : Fam P F) {p : Pk} (hp : p ∈ F) (hQ : ∀ f ∈ Q, f ∈ F) : hasQ Q p = true ↔ p ∈ Q := by
  unfold hasQ
  rw [List.any_eq_true]
  constructor
  · rintro ⟨f, hf, he⟩
    obtain ⟨e1, e2⟩ := of_decide_eq_true he
    have h1 := h.ne hp
    rcases h.sep (hQ f hf) hp with rfl | h2 | h2
    · exact hf
    · rw [e1, e2] at h2; omega
    · rw [e1] at h2; omega
  · intro hq
    exact ⟨p, hq, by simp⟩
theorem Fam.add_mem {P : Pk} {F Q : List Pk} (h : Fam P F) {p : Pk} (hp : p ∈ F) (hQ : ∀ f ∈ Q, f ∈ F) : ∀ f, f ∈ addQ Q p ↔ f ∈ Q ∨ f = p := by
  intro f
  unfold addQ
  split
  · rename_i h1
    rw [h.has hp hQ] at h1
    constructor
    · exact .inl
    · rintro (h2 | rfl)
      · exact h2
      · exact h1
  · simp
theorem Fam.add_any {P : Pk} {F Q : List Pk} (h : Fam P F) {p : Pk} (hp : p ∈ F) (hQ : ∀ f ∈ Q, f ∈ F) (u : Pk → Bool) : (addQ Q p).any u = (Q.any u || u p) := by
  rw [Bool.eq_iff_iff, List.any_eq_true, Bool.or_eq_true, List.any_eq_true]
  constructor
  · rintro ⟨f, hf, hu⟩
    rcases (h.add_mem hp hQ f).1 hf with h1 | rfl
    · exact .inl ⟨f, h1, hu⟩
    · exact .inr hu
  · rintro (⟨f, hf, hu⟩ | hu)
    · exact ⟨f, (h.add_mem hp hQ f).2 (.inl hf), hu⟩
    · exact ⟨p, (h.add_mem hp hQ p).2 (.inr rfl), hu⟩
structure MkOf (P : Pk) (m : Ms) (Q : List Pk) : Prop where
  key : m.src = P.src ∧ m.dst = P.dst ∧ m.proto = P.proto ∧ m.id = P.id
  ref : m.ref = false
  ps : m.ps = Q.map fun f => (f.off, f.pay)
  en : m.en = if Q.any (fun f => !f.mf) = true then (P.pay.length : Int) else -1
  has : m.has = Q.any fun f => decide (f.off = 0)
  first : m.has = true → m.first = { P with off := 0, mf := m.first.mf, pay := m.first.pay }
theorem add_frag {P : Pk} {F Q : List Pk} {m : Ms} {p : Pk} (h : Fam P F) (hQ : ∀ f ∈ Q, f ∈ F) (hm : MkOf P m Q) (hp : p ∈ F) : MkOf P (addS m p) (addQ Q p) := by
  obtain ⟨c, d, _, hf⟩ := h.lay.frag p hp
  have hl := hf.len
  have hab := hf.ab
  have hb := hf.hb
  have hoff : p.off = (c : Int) := by rw [hf.e]
  have hmf : p.mf = decide (d < P.pay.length) := by rw [hf.e]
  have hopt : p.opts = P.opts := by rw [hf.e]
  have hen : p.off + (p.pay.length : Int) = d := by omega
  have hscan : scanS p.off (p.off + p.pay.length) p.pay m.ps false m.ref = (hasQ Q p, false) := by
    rw [scan_ok, hm.ref]
    · rw [hm.ps, List.any_map]; rfl
    · intro q hq
      rw [hm.ps] at hq
      obtain ⟨f, hfQ, rfl⟩ := List.mem_map.1 hq
      rcases h.sep (hQ f hfQ) hp with rfl | h1 | h1
      · exact .inl ⟨rfl, rfl⟩
      · refine .inr fun h2 => ?_
        have := h2.2
        simp only [pTo] at this
        omega
      · refine .inr fun h2 => ?_
        have := h2.1
        simp only at this
        omega
  have hend : ∀ f ∈ F, f.off + (f.pay.length : Int) ≤ P.pay.length := by
    intro f hf
    obtain ⟨a, b, _, hF⟩ := h.lay.frag f hf
    have h1 := hF.len
    have h2 := hF.hb
    have h3 := hF.ab
    have h4 : f.off = (a : Int) := by rw [hF.e]
    omega
  have hP : 20 + (P.opts.length : Int) + P.pay.length ≤ 65535 := by
    have := h.c
    unfold codeB at this
    split at this
    · cases this
    · split at this
      · cases this
      · omega
  have hA : m.en = if Q.any (fun f => !f.mf) = true then (P.pay.length : Int) else -1 := hm.en
  have hpos := h.pos
  have hu1 := h.add_any hp hQ fun f => !f.mf
  have hu2 := h.add_any hp hQ fun f => decide (f.off = 0)
  have hps : (if hasQ Q p = true then m.ps else m.ps ++ [(p.off, p.pay)]) = (addQ Q p).map fun f => (f.off, f.pay) := by
    unfold addQ
    rw [hm.ps]
    split <;> simp
  have hr1 : (!p.mf && decide (0 ≤ m.en) && !decide (m.en = p.off + (p.pay.length : Int))) = false := by
    rw [hmf, hA, hen]
    by_cases h1 : d < P.pay.length
    · rw [decide_eq_true h1]; rfl
    · have : d = P.pay.length := by omega
      subst this
      split
      · simp
      · simp
  have he2 : (if p.mf = false ∧ m.en < 0 then p.off + (p.pay.length : Int) else m.en) = if (addQ Q p).any (fun f => !f.mf) = true then (P.pay.length : Int) else -1 := by
    rw [hu1, hmf, hA, hen]
    by_cases h1 : d < P.pay.length
    · rw [decide_eq_true h1, if_neg (by simp)]; simp
    · have : d = P.pay.length := by omega
      subst this
      rw [decide_eq_false h1]
      by_cases h3 : Q.any (fun f => !f.mf) = true
      · rw [if_pos h3, if_neg (by omega)]; simp [h3]
      · simp [h3]
  have hr2 : ∀ e2 : Int, e2 = (if (addQ Q p).any (fun f => !f.mf) = true then (P.pay.length : Int) else -1) → (decide (0 ≤ e2) && ((addQ Q p).map fun f => (f.off, f.pay)).any fun q => decide (e2 < pTo q)) = false := by
    intro e2 he
    by_cases hz : (addQ Q p).any (fun f => !f.mf) = true
    · rw [if_pos hz] at he
      rw [Bool.and_eq_false_iff]
      right
      rw [List.any_eq_false]
      intro q hq
      obtain ⟨f, hfQ, rfl⟩ := List.mem_map.1 hq
      have hfF : f ∈ F := by
        rcases (h.add_mem hp hQ f).1 hfQ with h1 | rfl
        · exact hQ f h1
        · exact hp
      have := hend f hfF
      intro hx
      have hx : e2 < f.off + (f.pay.length : Int) := of_decide_eq_true hx
      omega
    · rw [if_neg hz] at he
      rw [he]; rfl
  have hhas : (decide (p.off = 0) || m.has) = (addQ Q p).any fun f => decide (f.off = 0) := by rw [hu2, hm.has, Bool.or_comm]
  have hfirst : ((decide (p.off = 0) || m.has) = true) → (if p.off = 0 ∧ m.has = false then p else m.first) = { P with off := 0, mf := (if p.off = 0 ∧ m.has = false then p else m.first).mf, pay := (if p.off = 0 ∧ m.has = false then p else m.first).pay } := by
    intro hx
    split
    · rename_i h1
      rw [hf.e]
      rw [hoff] at h1
      simp [h1.1]
    · rename_i h1
      refine hm.first ?_
      cases hh : m.has with
      | true => rfl
      | false =>
        rw [hh, Bool.or_false] at hx
        exact absurd ⟨of_decide_eq_true hx, hh⟩ h1
  have hr3 : ∀ e2 : Int, e2 = (if (addQ Q p).any (fun f => !f.mf) = true then (P.pay.length : Int) else -1) → ((decide (p.off = 0) || m.has) && decide (0 ≤ e2) && decide (65535 < 20 + ((if p.off = 0 ∧ m.has = false then p else m.first).opts.length : Int) + e2)) = false := by
    rintro e2 rfl
    cases hx : (decide (p.off = 0) || m.has) with
    | false => rfl
    | true =>
      rw [hfirst hx]
      by_cases hz : (addQ Q p).any (fun f => !f.mf) = true
      · rw [if_pos hz]; simp; omega
      · rw [if_neg hz]; simp
  have hadd : addS m p = { m with ps := (addQ Q p).map fun f => (f.off, f.pay), en := (if (addQ Q p).any (fun f => !f.mf) = true then (P.pay.length : Int) else -1), ref := false, has := (decide (p.off = 0) || m.has), first := (if p.off = 0 ∧ m.has = false then p else m.first) } := by
    unfold addS
    simp only [hscan, hr1, he2, hps]
    rw [hr2 _ rfl, hr3 _ rfl]
    rfl
  rw [hadd]
  exact ⟨hm.key, rfl, rfl, rfl, hhas, hfirst⟩
end Go.Proofs.Ytjmmmmdpkfpojaa

namespace Go.Proofs.Ytjmmmmdpkfpojaa
open Go Go.IW

theorem sum_le {α : Type} (g : α → Nat) : ∀ {Q F : List α}, Q.Nodup → (∀ f ∈ Q, f ∈ F) → (Q.map g).sum ≤ (F.map g).sum
  | [], _, _, _ => by simp
  | q :: Q, F, hn, hs => by
    obtain ⟨h1, h2⟩ := List.nodup_cons.1 hn
    obtain ⟨s, t, rfl⟩ := List.append_of_mem (hs q List.mem_cons_self)
    have := sum_le g (Q := Q) (F := s ++ t) h2 fun f hf => by
      have h3 := hs f (List.mem_cons_of_mem _ hf)
      rcases List.mem_append.1 h3 with h4 | h4
      · exact List.mem_append_left _ h4
      · rcases List.mem_cons.1 h4 with rfl | h4
        · exact absurd hf h1
        · exact List.mem_append_right _ h4
    simp only [List.map_append, mc0, List.sum_append, List.sum_cons] at this ⊢
    omega
theorem Fam.nd {P : Pk} {F : List Pk} (h : Fam P F) : F.Nodup := by
  refine (h.lay.apart.imp_of_mem ?_ : F.Pairwise (· ≠ ·))
  rintro f g hf hg h1 rfl
  have := h.ne hf
  omega
theorem Lay.ex_last {P : Pk} {a : Nat} {F : List Pk} (h : Lay P a F) : ∃ f ∈ F, f.mf = false := by
  induction h with
  | last a h0 => exact ⟨_, List.mem_singleton.2 rfl, rfl⟩
  | more a b h0 h1 h8 hr ih =>
    obtain ⟨f, hf, h2⟩ := ih
    exact ⟨f, List.mem_cons_of_mem _ hf, h2⟩
theorem totP_map (Q : List Pk) : totP (Q.map fun f => (f.off, f.pay)) = (Q.map fun f => f.pay.length).sum := by
  simp [totP, Function.comp_def]
theorem whole_iff {P : Pk} {F Q : List Pk} {m : Ms} (h : Fam P F) (hQ : ∀ f ∈ Q, f ∈ F) (hn : Q.Nodup) (hm : MkOf P m Q) : wholeS m = true ↔ ∀ f ∈ F, f ∈ Q := by
  have hF := h.lay.tot
  unfold wholeS
  rw [hm.ref, hm.ps, totP_map, hm.en]
  constructor
  · intro hw f hf
    simp only [Bool.not_false, Bool.true_and, Bool.and_eq_true, Bool.not_eq_true', decide_eq_false_iff_not, decide_eq_true_eq] at hw
    obtain ⟨h1, h2⟩ := hw
    by_cases hz : Q.any (fun f => !f.mf) = true
    · rw [if_pos hz] at h2
      by_cases hfQ : f ∈ Q
      · exact hfQ
      · have hsum := sum_le (fun f : Pk => f.pay.length) (Q := f :: Q) (F := F) (List.nodup_cons.2 ⟨hfQ, hn⟩) (fun x hx => by
          rcases List.mem_cons.1 hx with rfl | hx
          · exact hf
          · exact hQ x hx)
        have := h.ne hf
        simp only [mc0, List.sum_cons] at hsum
        omega
    · rw [if_neg hz] at h1
      omega
  · intro ha
    have h1 := sum_le (fun f : Pk => f.pay.length) hn hQ
    have h2 := sum_le (fun f : Pk => f.pay.length) h.nd ha
    obtain ⟨f, hf, hl⟩ := h.lay.ex_last
    have hz : Q.any (fun f => !f.mf) = true := List.any_eq_true.2 ⟨f, ha f hf, by rw [hl]; rfl⟩
    rw [if_pos hz]
    have : (Q.map fun f => f.pay.length).sum = P.pay.length := by omega
    rw [this]
    simp
theorem lay_at {pay out : List UInt8} {a b j : Nat} (hab : a ≤ b) (hb : b ≤ pay.length) (hl : out.length = pay.length) : (layB out a ((pay.take b).drop a))[j]? = if a ≤ j ∧ j < b then pay[j]? else out[j]? := by
  unfold layB
  have e1 : (out.take a).length = a := by rw [List.length_take]; omega
  have e2 : ((pay.take b).drop a).length = b - a := by rw [List.length_drop, List.length_take]; omega
  by_cases h1 : j < a
  · rw [if_neg (by omega), List.append_assoc, List.getElem?_append_left (by omega), List.getElem?_take, if_pos h1]
  · by_cases h2 : j < b
    · rw [if_pos ⟨by omega, h2⟩, List.append_assoc, List.getElem?_append_right (by omega), List.getElem?_append_left (by omega), e1, List.getElem?_drop, show a + (j - a) = j by omega, List.getElem?_take, if_pos h2]
    · rw [if_neg (by omega), List.getElem?_append_right (by rw [la0]; omega), la0, e1, e2, List.getElem?_drop]
      congr 1
      omega
theorem fill_ok {P : Pk} : ∀ {Q : List Pk} {out : List UInt8} (C : Nat → Prop), out.length = P.pay.length → (∀ j, C j → out[j]? = P.pay[j]?) → (∀ f ∈ Q, ∃ a b, Frag P a b f) →
    (fillB (Q.map fun f => (f.off, f.pay)) out).length = P.pay.length ∧ ∀ j, (C j ∨ ∃ f ∈ Q, f.off ≤ (j : Int) ∧ (j : Int) < f.off + (f.pay.length : Int)) → (fillB (Q.map fun f => (f.off, f.pay)) out)[j]? = P.pay[j]?
  | [], out, C, hl, hC, _ => by
    refine ⟨hl, fun j hj => ?_⟩
    rcases hj with h1 | ⟨f, hf, _⟩
    · exact hC j h1
    · cases hf
  | f :: Q, out, C, hl, hC, hQ => by
    obtain ⟨a, b, hF⟩ := hQ f List.mem_cons_self
    have hlen := hF.len
    have hab := hF.ab
    have hb := hF.hb
    have hoff : f.off = (a : Int) := by rw [hF.e]
    have hpay : f.pay = (P.pay.take b).drop a := by rw [hF.e]
    have e : fillB ((f :: Q).map fun f => (f.off, f.pay)) out = fillB (Q.map fun f => (f.off, f.pay)) (layB out a ((P.pay.take b).drop a)) := by
      simp only [fillB, mc0, List.foldl_cons, hoff, hpay]
      rfl
    rw [e]
    have hl' : (layB out a ((P.pay.take b).drop a)).length = P.pay.length := by
      rw [layB_len (by rw [← hpay]; omega), hl]
    obtain ⟨r1, r2⟩ := fill_ok (Q := Q) (out := layB out a ((P.pay.take b).drop a)) (fun j => C j ∨ (a ≤ j ∧ j < b)) hl' (fun j hj => by
      rw [lay_at (by omega) hb hl]
      split
      · rfl
      · rename_i h1
        exact hC j (hj.resolve_right h1)) (fun g hg => hQ g (List.mem_cons_of_mem _ hg))
    refine ⟨r1, fun j hj => r2 j ?_⟩
    rcases hj with h1 | ⟨g, hg, h1⟩
    · exact .inl (.inl h1)
    · rcases List.mem_cons.1 hg with rfl | hg
      · exact .inl (.inr (by omega))
      · exact .inr ⟨g, hg, h1⟩
theorem whole_pk {P : Pk} {F Q : List Pk} {m : Ms} (h : Fam P F) (hQ : ∀ f ∈ Q, f ∈ F) (hn : Q.Nodup) (hm : MkOf P m Q) (ha : ∀ f ∈ F, f ∈ Q) : wholePk m = P := by
  obtain ⟨f, hf, hl⟩ := h.lay.ex_last
  have hz : Q.any (fun f => !f.mf) = true := List.any_eq_true.2 ⟨f, ha f hf, by rw [hl]; rfl⟩
  have hen : m.en = P.pay.length := by rw [hm.en, if_pos hz]
  obtain ⟨g, hg, hg1, hg2⟩ := h.lay.cover 0 (Nat.le_refl _) h.pos
  have hgo : g.off = 0 := by
    obtain ⟨a, b, _, hF⟩ := h.lay.frag g hg
    have : g.off = (a : Int) := by rw [hF.e]
    omega
  have hhas : m.has = true := by
    rw [hm.has, List.any_eq_true]
    exact ⟨g, ha g hg, by simp [hgo]⟩
  have hfr : ∀ f ∈ Q, ∃ a b, Frag P a b f := fun f hf => by
    obtain ⟨a, b, _, hF⟩ := h.lay.frag f (hQ f hf)
    exact ⟨a, b, hF⟩
  obtain ⟨r1, r2⟩ := fill_ok (P := P) (Q := Q) (out := List.replicate m.en.toNat 0) (fun _ => False) (by rw [List.length_replicate, hen]; rfl) (fun _ hx => hx.elim) hfr
  have hpay : fillB m.ps (List.replicate m.en.toNat 0) = P.pay := by
    rw [hm.ps]
    apply List.ext_getElem?
    intro j
    by_cases hj : j < P.pay.length
    · obtain ⟨f, hf, h1⟩ := h.lay.cover j (Nat.zero_le _) hj
      exact r2 j (.inr ⟨f, ha f hf, h1⟩)
    · rw [List.getElem?_eq_none (by omega), List.getElem?_eq_none (by omega)]
  unfold wholePk
  rw [hpay, hm.first hhas]
  have h1 := h.off
  have h2 := h.mf
  cases P
  simp only at h1 h2 ⊢
  rw [h1, h2]
end Go.Proofs.Ytjmmmmdpkfpojaa

namespace Go.Proofs.Ytjmmmmdpkfpojaa
open Go Go.IW

structure Fams (n : Nat) (P : Nat → Pk) (F : Nat → List Pk) : Prop where
  le : n ≤ 16
  fam : ∀ i, i < n → Fam (P i) (F i)
  id : ∀ i j, i < n → j < n → (P i).id = (P j).id → i = j
  key : ∀ i j, i < n → j < n → (P i).src = (P j).src ∧ (P i).dst = (P j).dst
structure Rst (n : Nat) (P : Nat → Pk) (F : Nat → List Pk) (l : List Ms) (cur : Nat → List Pk) : Prop where
  ids : (l.map (·.id)).Nodup
  mks : ∀ m ∈ l, ∃ i, i < n ∧ cur i ≠ [] ∧ MkOf (P i) m (cur i)
  here : ∀ i, i < n → cur i ≠ [] → ∃ m ∈ l, m.id = (P i).id
  sub : ∀ i, i < n → ∀ f ∈ cur i, f ∈ F i
  nd : ∀ i, i < n → (cur i).Nodup
  inc : ∀ i, i < n → ¬ ∀ f ∈ F i, f ∈ cur i
theorem Rst.nil {n : Nat} {P : Nat → Pk} {F : Nat → List Pk} (hF : Fams n P F) : Rst n P F [] fun _ => [] := by
  refine ⟨by simp, by simp, fun i _ h => absurd rfl h, by simp, by simp, fun i hi h => ?_⟩
  obtain ⟨f, hf, _⟩ := (hF.fam i hi).lay.ex_last
  exact absurd (h f hf) (by simp)
theorem sum_one {α : Type} (l : List α) : (l.map fun _ => 1).sum = l.length := by
  induction l with
  | nil => rfl
  | cons a l ih => simp only [mc0, List.sum_cons, ih, lc0]; omega
theorem Rst.len {n : Nat} {P : Nat → Pk} {F : Nat → List Pk} {l : List Ms} {cur : Nat → List Pk} (h : Rst n P F l cur) : l.length ≤ n := by
  have := sum_le (fun _ => 1) (Q := l.map (·.id)) (F := (List.range n).map fun i => (P i).id) h.ids (fun x hx => by
    obtain ⟨m, hm, rfl⟩ := List.mem_map.1 hx
    obtain ⟨i, hi, _, hk⟩ := h.mks m hm
    exact List.mem_map.2 ⟨i, List.mem_range.2 hi, hk.key.2.2.2.symm⟩)
  rw [sum_one, sum_one] at this
  simpa using this
theorem Rst.lenx {n : Nat} {P : Nat → Pk} {F : Nat → List Pk} {l : List Ms} {cur : Nat → List Pk} (h : Rst n P F l cur) {i : Nat} (hi : i < n) (hx : ∀ m ∈ l, m.id ≠ (P i).id) : l.length < n := by
  have := sum_le (fun _ => 1) (Q := (P i).id :: l.map (·.id)) (F := (List.range n).map fun i => (P i).id) (List.nodup_cons.2 ⟨fun hm => by
    obtain ⟨m, hm, e⟩ := List.mem_map.1 hm
    exact hx m hm e, h.ids⟩) (fun x hx => by
    rcases List.mem_cons.1 hx with rfl | hx
    · exact List.mem_map.2 ⟨i, List.mem_range.2 hi, rfl⟩
    · obtain ⟨m, hm, rfl⟩ := List.mem_map.1 hx
      obtain ⟨i, hi, _, hk⟩ := h.mks m hm
      exact List.mem_map.2 ⟨i, List.mem_range.2 hi, hk.key.2.2.2.symm⟩)
  rw [sum_one, sum_one] at this
  simp only [lc0, List.length_map, List.length_range] at this
  omega
def upd1 {α : Type} (c : Nat → α) (i : Nat) (x : α) : Nat → α := fun j => if j = i then x else c j
theorem addQ_nd {P : Pk} {F Q : List Pk} (h : Fam P F) {p : Pk} (hp : p ∈ F) (hQ : ∀ f ∈ Q, f ∈ F) (hn : Q.Nodup) : (addQ Q p).Nodup := by
  unfold addQ
  split
  · exact hn
  · rename_i h1
    rw [h.has hp hQ] at h1
    rw [List.nodup_append]
    refine ⟨hn, by simp, ?_⟩
    rintro a ha b hb rfl
    obtain rfl := List.mem_singleton.1 hb
    exact h1 ha
theorem addQ_ne (Q : List Pk) (p : Pk) : addQ Q p ≠ [] := by
  unfold addQ hasQ
  cases Q with
  | nil => simp
  | cons a r => split <;> simp
theorem key_iff {P p : Pk} {F : List Pk} (h : Fam P F) (hp : p ∈ F) {P' : Pk} {m : Ms} {Q : List Pk} (hm : MkOf P' m Q) (hk : P.src = P'.src ∧ P.dst = P'.dst) (hpr : P.id = P'.id → P.proto = P'.proto) : keyS p m = true ↔ m.id = P.id := by
  obtain ⟨a, b, _, hF⟩ := h.lay.frag p hp
  obtain ⟨k1, k2, k3, k4⟩ := hm.key
  have e1 : p.src = P.src := by rw [hF.e]
  have e2 : p.dst = P.dst := by rw [hF.e]
  have e3 : p.proto = P.proto := by rw [hF.e]
  have e4 : p.id = P.id := by rw [hF.e]
  unfold keyS
  rw [e1, e2, e3, e4, k1, k2, k3, k4]
  simp only [Bool.and_eq_true, decide_eq_true_eq]
  constructor
  · rintro ⟨_, h⟩; exact h
  · intro h
    exact ⟨⟨⟨hk.1.symm, hk.2.symm⟩, (hpr h.symm).symm⟩, h⟩
theorem open_step {n : Nat} {P : Nat → Pk} {F : Nat → List Pk} {l : List Ms} {cur : Nat → List Pk} {now : Int} (hF : Fams n P F) (h : Rst n P F l cur) {i : Nat} (hi : i < n) {p : Pk} (hp : p ∈ F i) :
    ∃ s m t, openS now l ot0 p = (s ++ m :: t, ot0, s.length) ∧ MkOf (P i) m (cur i) ∧ (∀ x ∈ s ++ t, x ∈ l ∧ x.id ≠ (P i).id) ∧ (∀ x ∈ l, x.id ≠ (P i).id → x ∈ s ++ t) ∧ ((s ++ t).map (·.id)).Nodup := by
  have hkey : ∀ m ∈ l, keyS p m = true ↔ m.id = (P i).id := by
    intro m hm
    obtain ⟨j, hj, _, hk⟩ := h.mks m hm
    exact key_iff (hF.fam i hi) hp hk (hF.key i j hi hj) fun e => by rw [hF.id i j hi hj e]
  unfold openS
  cases hfi : l.findIdx? (keyS p) with
  | some k =>
    obtain ⟨hk1, hk2, _⟩ := List.findIdx?_eq_some_iff_getElem.1 hfi
    obtain ⟨s, t, hl, hs⟩ : ∃ s t, l = s ++ l[k] :: t ∧ s.length = k := ⟨l.take k, l.drop (k + 1), by rw [List.getElem_cons_drop, List.take_append_drop], by rw [List.length_take]; omega⟩
    have hmem : l[k] ∈ l := List.getElem_mem _
    generalize l[k] = m at hk2 hl hmem
    have hid := (hkey m hmem).1 hk2
    have hnd := h.ids
    rw [hl, List.map_append, mc0, List.nodup_append, List.nodup_cons] at hnd
    obtain ⟨n1, ⟨n2, n3⟩, n4⟩ := hnd
    have hno : ∀ x ∈ s ++ t, x.id ≠ m.id := by
      intro x hx
      rcases List.mem_append.1 hx with hx | hx
      · exact n4 x.id (List.mem_map.2 ⟨x, hx, rfl⟩) m.id List.mem_cons_self
      · intro e
        exact n2 (by rw [← e]; exact List.mem_map.2 ⟨x, hx, rfl⟩)
    refine ⟨s, m, t, by simp only [hl, hs], ?_, ?_, ?_, ?_⟩
    · obtain ⟨j, hj, _, hk⟩ := h.mks m hmem
      have := hF.id i j hi hj (by rw [← hid, hk.key.2.2.2])
      rw [this]
      exact hk
    · intro x hx
      refine ⟨?_, by rw [← hid]; exact hno x hx⟩
      rw [hl]
      rcases List.mem_append.1 hx with hx | hx
      · exact List.mem_append_left _ hx
      · exact List.mem_append_right _ (List.mem_cons_of_mem _ hx)
    · intro x hx hne
      rw [hl] at hx
      rcases List.mem_append.1 hx with hx | hx
      · exact List.mem_append_left _ hx
      · rcases List.mem_cons.1 hx with rfl | hx
        · exact absurd hid hne
        · exact List.mem_append_right _ hx
    · rw [List.map_append, List.nodup_append]
      exact ⟨n1, n3, fun a ha b hb => n4 a ha b (List.mem_cons_of_mem _ hb)⟩
  | none =>
    have hno : ∀ m ∈ l, m.id ≠ (P i).id := by
      intro m hm e
      have := (List.findIdx?_eq_none_iff.1 hfi) m hm
      rw [(hkey m hm).2 e] at this
      cases this
    have hlen := h.lenx hi hno
    have hle := hF.le
    have hcur : cur i = [] := by
      by_cases hz : cur i = []
      · exact hz
      · obtain ⟨m, hm, e⟩ := h.here i hi hz
        exact absurd e (hno m hm)
    obtain ⟨a, b, _, hf⟩ := (hF.fam i hi).lay.frag p hp
    refine ⟨l, msNew p now, [], by simp only; rw [if_neg (by omega)], ?_, ?_, ?_, ?_⟩
    · rw [hcur]
      refine ⟨⟨by rw [hf.e]; rfl, by rw [hf.e]; rfl, by rw [hf.e]; rfl, by rw [hf.e]; rfl⟩, rfl, rfl, rfl, rfl, fun hx => by cases hx⟩
    · intro x hx
      rw [List.append_nil] at hx
      exact ⟨hx, hno x hx⟩
    · intro x hx _
      rw [List.append_nil]
      exact hx
    · rw [List.append_nil]
      exact h.ids
theorem take_step {n : Nat} {P : Nat → Pk} {F : Nat → List Pk} {l : List Ms} {cur : Nat → List Pk} {now : Int} (hF : Fams n P F) (h : Rst n P F l cur) {i : Nat} (hi : i < n) {p : Pk} (hp : p ∈ F i) :
    ∃ b : Bool, (b = true ↔ ∀ f ∈ F i, f ∈ addQ (cur i) p) ∧ (takeS now l ot0 p).2 = (if b = true then { ot0 with done := true, pk := P i } else ot0) ∧
      Rst n P F (takeS now l ot0 p).1 (upd1 cur i (if b = true then [] else addQ (cur i) p)) := by
  have fam := hF.fam i hi
  obtain ⟨c, d, _, hf⟩ := fam.lay.frag p hp
  have hl := hf.len
  have hab := hf.ab
  have hb := hf.hb
  have hoff : p.off = (c : Int) := by rw [hf.e]
  have hmf : p.mf = decide (d < (P i).pay.length) := by rw [hf.e]
  by_cases hone : p.off = 0 ∧ p.mf = false
  · have hc : c = 0 := by omega
    have hd : d = (P i).pay.length := by
      have := hone.2
      rw [hmf, decide_eq_false_iff_not] at this
      omega
    have hpP : p = P i := by
      rw [hf.e, hc, hd]
      have h1 := fam.off
      have h2 := fam.mf
      generalize P i = Q at h1 h2
      cases Q
      simp only at h1 h2
      simp [h1, h2]
    have hall : ∀ f ∈ F i, f = p := by
      intro f hfF
      rcases fam.sep hfF hp with e | e | e
      · exact e
      · obtain ⟨a', b', _, hF'⟩ := fam.lay.frag f hfF
        have := hF'.len
        have := hF'.ab
        have : f.off = (a' : Int) := by rw [hF'.e]
        omega
      · obtain ⟨a', b', _, hF'⟩ := fam.lay.frag f hfF
        have := hF'.hb
        have := hF'.ab
        have : f.off = (a' : Int) := by rw [hF'.e]
        omega
    have hcur : cur i = [] := by
      by_cases hz : cur i = []
      · exact hz
      · exfalso
        refine h.inc i hi fun f hfF => ?_
        obtain ⟨g, hg⟩ := List.exists_mem_of_ne_nil _ hz
        rw [hall f hfF, ← hall g (h.sub i hi g hg)]
        exact hg
    have ht : takeS now l ot0 p = (l, { ot0 with done := true, pk := p }) := by
      unfold takeS
      rw [if_pos hone]
    refine ⟨true, ?_, by rw [ht, ← hpP]; rfl, ?_⟩
    · simp only [true_iff]
      intro f hfF
      rw [hall f hfF]
      exact (fam.add_mem hp (h.sub i hi) p).2 (.inr rfl)
    · rw [ht]
      have : upd1 cur i (if true = true then [] else addQ (cur i) p) = cur := by
        funext j
        unfold upd1
        split
        · rename_i e; rw [e, hcur]; rfl
        · rfl
      rw [this]
      exact h
  · have hne : ¬ (p.pay = [] ∨ (p.mf = true ∧ (p.pay.length : Int).tmod 8 ≠ 0)) := by
      rintro (e | ⟨e1, e2⟩)
      · rw [e] at hl; simp at hl; omega
      · rw [hmf, decide_eq_true_eq] at e1
        have := hf.m e1
        apply e2
        rw [hl, Int.tmod_eq_emod_of_nonneg (by omega)]
        omega
    obtain ⟨s, m, t, ho, hm, hst, hts, hnd⟩ := open_step (now := now) hF h hi hp
    have hsub := h.sub i hi
    have hm' := add_frag fam hsub hm hp
    have hmem := fam.add_mem hp hsub
    have hsub' : ∀ f ∈ addQ (cur i) p, f ∈ F i := fun f hf => by
      rcases (hmem f).1 hf with h1 | rfl
      · exact hsub f h1
      · exact hp
    have hnd' := addQ_nd fam hp hsub (h.nd i hi)
    have hw := whole_iff fam hsub' hnd' hm'
    have ht : takeS now l ot0 p = if wholeS (addS m p) = true then (s ++ t, { ot0 with done := true, pk := wholePk (addS m p) }) else (s ++ addS m p :: t, ot0) := by
      unfold takeS
      rw [if_neg hone, if_neg hne]
      simp only [ho]
      unfold stepS
      have hg : (s ++ m :: t).getD s.length default = m := by simp [List.getD_eq_getElem?_getD]
      simp only [hg, hm.ref, Bool.false_eq_true, if_false]
      split
      · rw [List.eraseIdx_append_of_length_le (Nat.le_refl _), Nat.sub_self]; rfl
      · simp
    have hoth : ∀ x ∈ s ++ t, ∃ j, j < n ∧ j ≠ i ∧ cur j ≠ [] ∧ MkOf (P j) x (cur j) := by
      intro x hx
      obtain ⟨h1, h2⟩ := hst x hx
      obtain ⟨j, hj, h3, h4⟩ := h.mks x h1
      refine ⟨j, hj, ?_, h3, h4⟩
      rintro rfl
      exact h2 h4.key.2.2.2
    have hhere : ∀ j, j < n → j ≠ i → cur j ≠ [] → ∃ x ∈ s ++ t, x.id = (P j).id := by
      intro j hj hji hc
      obtain ⟨x, hx, e⟩ := h.here j hj hc
      refine ⟨x, hts x hx ?_, e⟩
      rw [e]
      intro e2
      exact hji (hF.id j i hj hi e2)
    refine ⟨wholeS (addS m p), hw, ?_, ?_⟩
    · rw [ht]
      split
      · rename_i hwt
        rw [whole_pk fam hsub' hnd' hm' (hw.1 hwt)]
      · rfl
    · rw [ht]
      split
      · rename_i hb
        refine ⟨hnd, ?_, ?_, ?_, ?_, ?_⟩
        · intro x hx
          obtain ⟨j, hj, hji, h3, h4⟩ := hoth x hx
          exact ⟨j, hj, by unfold upd1; rw [if_neg hji]; exact h3, by unfold upd1; rw [if_neg hji]; exact h4⟩
        · intro j hj hc
          by_cases hji : j = i
          · subst hji; exact absurd (by unfold upd1; rw [if_pos rfl]) hc
          · unfold upd1 at hc; rw [if_neg hji] at hc; exact hhere j hj hji hc
        · intro j hj f hf
          unfold upd1 at hf
          split at hf
          · cases hf
          · exact h.sub j hj f hf
        · intro j hj
          unfold upd1
          split
          · exact List.nodup_nil
          · exact h.nd j hj
        · intro j hj hall
          unfold upd1 at hall
          split at hall
          · obtain ⟨f, hf, _⟩ := (hF.fam j hj).lay.ex_last
            exact absurd (hall f hf) (by simp)
          · exact h.inc j hj hall
      · rename_i hwf
        have hnid : ∀ x ∈ s ++ t, x.id ≠ (addS m p).id := fun x hx => by rw [hm'.key.2.2.2]; exact (hst x hx).2
        refine ⟨?_, ?_, ?_, ?_, ?_, ?_⟩
        · rw [List.map_append, List.nodup_append] at hnd
          obtain ⟨n1, n2, n3⟩ := hnd
          rw [List.map_append, mc0, List.nodup_append, List.nodup_cons]
          refine ⟨n1, ⟨?_, n2⟩, ?_⟩
          · intro hx
            obtain ⟨x, hx, e⟩ := List.mem_map.1 hx
            exact hnid x (List.mem_append_right _ hx) e
          · intro a ha b hb
            rcases List.mem_cons.1 hb with rfl | hb
            · obtain ⟨x, hx, rfl⟩ := List.mem_map.1 ha
              exact hnid x (List.mem_append_left _ hx)
            · exact n3 a ha b hb
        · intro x hx
          have hx' : x = addS m p ∨ x ∈ s ++ t := by
            rcases List.mem_append.1 hx with hx | hx
            · exact .inr (List.mem_append_left _ hx)
            · rcases List.mem_cons.1 hx with rfl | hx
              · exact .inl rfl
              · exact .inr (List.mem_append_right _ hx)
          rcases hx' with rfl | hx'
          · exact ⟨i, hi, by unfold upd1; rw [if_pos rfl]; exact addQ_ne _ _, by unfold upd1; rw [if_pos rfl]; exact hm'⟩
          · obtain ⟨j, hj, hji, h3, h4⟩ := hoth x hx'
            exact ⟨j, hj, by unfold upd1; rw [if_neg hji]; exact h3, by unfold upd1; rw [if_neg hji]; exact h4⟩
        · intro j hj hc
          by_cases hji : j = i
          · subst hji; exact ⟨addS m p, List.mem_append_right _ List.mem_cons_self, hm'.key.2.2.2⟩
          · unfold upd1 at hc; rw [if_neg hji] at hc
            obtain ⟨x, hx, e⟩ := hhere j hj hji hc
            refine ⟨x, ?_, e⟩
            rcases List.mem_append.1 hx with hx | hx
            · exact List.mem_append_left _ hx
            · exact List.mem_append_right _ (List.mem_cons_of_mem _ hx)
        · intro j hj f hf
          unfold upd1 at hf
          split at hf
          · rename_i e; rw [e]; exact hsub' f hf
          · exact h.sub j hj f hf
        · intro j hj
          unfold upd1
          split
          · exact hnd'
          · exact h.nd j hj
        · intro j hj hall
          unfold upd1 at hall
          split at hall
          · rename_i e
            subst e
            exact hwf (hw.2 hall)
          · exact h.inc j hj hall
end Go.Proofs.Ytjmmmmdpkfpojaa

namespace Go.Proofs.Ytjmmmmdpkfpojaa
open Go Go.IW

theorem Lay.m8 {P : Pk} {a : Nat} {F : List Pk} (h : Lay P a F) : a % 8 = 0 → ∀ f ∈ F, ∃ c : Nat, f.off = (c : Int) ∧ c % 8 = 0 := by
  induction h with
  | last a h0 =>
    intro h8 f hf
    obtain rfl := List.mem_singleton.1 hf
    exact ⟨a, rfl, h8⟩
  | more a b h0 h1 h8 hr ih =>
    intro ha f hf
    rcases List.mem_cons.1 hf with rfl | hf
    · exact ⟨a, rfl, ha⟩
    · exact ih (by omega) f hf
theorem Fam.code {P p : Pk} {F : List Pk} (h : Fam P F) (hp : p ∈ F) : codeB p = 0 := by
  obtain ⟨a, b, _, hf⟩ := h.lay.frag p hp
  obtain ⟨c, hc, h8⟩ := h.lay.m8 (by rfl) p hp
  have hl := hf.len
  have hab := hf.ab
  have hb := hf.hb
  have hoff : p.off = (a : Int) := by rw [hf.e]
  have hP := h.c
  unfold codeB at hP
  split at hP
  · cases hP
  · rename_i h1
    have h1 : okIPb P = true := Bool.not_eq_false _ ▸ h1
    split at hP
    · cases hP
    · rename_i h2
      have hca : c = a := by omega
      subst hca
      have h3 : okIPb p = true := by
        unfold okIPb at h1 ⊢
        simp only [Bool.and_eq_true, decide_eq_true_eq] at h1 ⊢
        have e : (p.off).tmod 8 = 0 := by rw [hoff, Int.tmod_eq_emod_of_nonneg (by omega)]; omega
        have e1 : p.tos = P.tos ∧ p.ttl = P.ttl ∧ p.proto = P.proto ∧ p.id = P.id ∧ p.src = P.src ∧ p.dst = P.dst ∧ p.opts = P.opts := by rw [hf.e]; exact ⟨rfl, rfl, rfl, rfl, rfl, rfl, rfl⟩
        obtain ⟨e1, e2, e3, e4, e5, e6, e7⟩ := e1
        rw [e1, e2, e3, e4, e5, e6, e7]
        obtain ⟨⟨⟨⟨⟨⟨⟨⟨⟨⟨⟨⟨⟨⟨a1, a2⟩, a3⟩, a4⟩, a5⟩, a6⟩, a7⟩, a8⟩, a9⟩, a10⟩, a11⟩, a12⟩, a13⟩, a14⟩, a15⟩ := h1
        exact ⟨⟨⟨⟨⟨⟨⟨⟨⟨⟨⟨⟨⟨⟨a1, a2⟩, a3⟩, a4⟩, a5⟩, a6⟩, a7⟩, a8⟩, by omega⟩, by omega⟩, e⟩, a12⟩, a13⟩, a14⟩, a15⟩
      have e7 : p.opts = P.opts := by rw [hf.e]
      unfold codeB
      rw [if_neg (by simp [h3]), if_neg (by rw [e7]; omega)]
theorem op_step {n : Nat} {P : Nat → Pk} {F : Nat → List Pk} {l : List Ms} {cur : Nat → List Pk} {now : Int} (hF : Fams n P F) (h : Rst n P F l cur) {i : Nat} (hi : i < n) {p : Pk} (hp : p ∈ F i) :
    ∃ (b : Bool) (l' : List Ms) (o : Ot), opS now l (takeOp p) = (now, l', o) ∧ (b = true ↔ ∀ f ∈ F i, f ∈ addQ (cur i) p) ∧ o.code = 0 ∧ o.done = b ∧ (b = true → o.pk = P i) ∧ o.held = (l'.length : Int) ∧ o.bytes = (bytesS l' : Nat) ∧
      Rst n P F l' (upd1 cur i (if b = true then [] else addQ (cur i) p)) := by
  obtain ⟨b, h1, h2, h3⟩ := take_step (now := now) hF h hi hp
  refine ⟨b, (takeS now l ot0 p).1, tellS (takeS now l ot0 p).1 (takeS now l ot0 p).2, ?_, h1, ?_, ?_, ?_, rfl, ?_, h3⟩
  · unfold opS
    rw [if_pos ⟨rfl, (hF.fam i hi).code hp⟩]
    rfl
  · rw [h2]; cases b <;> rfl
  · rw [h2]; cases b <;> rfl
  · intro hb; rw [h2, hb]; rfl
  · rw [h2]; cases b <;> simp [tellS, ot0]
theorem Rst.empty {n : Nat} {P : Nat → Pk} {F : Nat → List Pk} {l : List Ms} {cur : Nat → List Pk} (h : Rst n P F l cur) (hc : ∀ i, i < n → cur i = []) : l = [] := by
  cases l with
  | nil => rfl
  | cons m l =>
    obtain ⟨i, hi, h1, _⟩ := h.mks m List.mem_cons_self
    exact absurd (hc i hi) h1
theorem cut_run {P : Nat → Pk} {F : Nat → List Pk} (hF : Fams 1 P F) {now : Int} : ∀ (ps : List Pk) {l : List Ms} {cur : Nat → List Pk}, Rst 1 P F l cur → (cur 0 ++ ps).Perm (F 0) →
    ∀ (k : Nat) (o : Ot), (runSt now l (ps.map takeOp))[k]? = some o → o.code = 0 ∧ o.done = decide (k + 1 = ps.length) ∧ (k + 1 = ps.length → o.pk = P 0 ∧ o.held = 0 ∧ o.bytes = 0)
  | [], l, cur, h, hp => by
    intro k o ho
    simp [runSt] at ho
  | p :: ps, l, cur, h, hp => by
    have h0 : (0 : Nat) < 1 := Nat.lt_succ_self 0
    have fam := hF.fam 0 h0
    have hpF : p ∈ F 0 := hp.mem_iff.1 (by simp)
    obtain ⟨b, l', o', e, hb, c1, c2, c3, c4, c5, h'⟩ := op_step (now := now) hF h h0 hpF
    have hnd : (cur 0 ++ p :: ps).Nodup := hp.symm.nodup fam.nd
    have hpn : p ∉ cur 0 := by
      intro hx
      rw [List.nodup_append] at hnd
      exact hnd.2.2 p hx p List.mem_cons_self rfl
    have hadd : addQ (cur 0) p = cur 0 ++ [p] := by
      unfold addQ
      rw [if_neg]
      intro hx
      exact hpn ((fam.has hpF (h.sub 0 h0)).1 hx)
    have hbl : b = decide (ps = []) := by
      rw [Bool.eq_iff_iff, hb, decide_eq_true_eq, hadd]
      constructor
      · intro ha
        cases ps with
        | nil => rfl
        | cons q r =>
          exfalso
          have hq := ha q (hp.mem_iff.1 (by simp))
          rw [List.nodup_append, List.nodup_cons] at hnd
          rcases List.mem_append.1 hq with hq | hq
          · exact hnd.2.2 q hq q (by simp) rfl
          · obtain rfl := List.mem_singleton.1 hq
            exact hnd.2.1.1 List.mem_cons_self
      · rintro rfl f hf
        exact hp.mem_iff.2 hf
    intro k o ho
    simp only [mc0, runSt, e] at ho
    cases k with
    | zero =>
      simp only [List.getElem?_cons_zero, Option.some.injEq] at ho
      subst ho
      refine ⟨c1, ?_, ?_⟩
      · rw [c2, hbl, Bool.eq_iff_iff, decide_eq_true_eq, decide_eq_true_eq, lc0]
        constructor
        · rintro rfl; rfl
        · intro hx; exact List.length_eq_zero_iff.1 (by omega)
      · intro hx
        have hps : ps = [] := List.length_eq_zero_iff.1 (by rw [lc0] at hx; omega)
        have hbt : b = true := by rw [hbl, hps]; rfl
        have hl' : l' = [] := by
          refine h'.empty fun i hi => ?_
          have : i = 0 := by omega
          subst this
          unfold upd1
          rw [if_pos rfl, if_pos hbt]
        refine ⟨c3 hbt, by rw [c4, hl']; rfl, by rw [c5, hl']; rfl⟩
    | succ k =>
      simp only [List.getElem?_cons_succ] at ho
      have hne : ps ≠ [] := by
        rintro rfl
        simp [runSt] at ho
      have hbf : b = false := by rw [hbl]; exact decide_eq_false hne
      rw [hbf] at h'
      have := cut_run hF (now := now) ps h' (by
        unfold upd1
        rw [if_pos rfl, if_neg (by simp), hadd, List.append_assoc]
        exact hp) k o ho
      rw [lc0]
      refine ⟨this.1, ?_, fun hx => this.2.2 (by omega)⟩
      rw [this.2.1, Bool.eq_iff_iff, decide_eq_true_eq, decide_eq_true_eq]
      omega
end Go.Proofs.Ytjmmmmdpkfpojaa

set_option maxRecDepth 20000
namespace Go.Proofs.Ytjmmmmdpkfpojaa
open Go Go.IW

theorem PksAt.ext {h h' : IH} {v : IV} {rs : List (List IV)} {ps : List Pk} (A : PksAt h v rs ps) (E : Ext h h') : PksAt h' v rs ps :=
  ⟨A.s.ext E, A.n, fun i p hp => by obtain ⟨vo, vp, e, a⟩ := A.r i p hp; exact ⟨vo, vp, e, a.ext E⟩⟩
theorem pks_of {g : IH} {L : List As} {x : Bool} {v : IV} {rs : List (List IV)} {ps : List Pk} (S : Sp g L) (i j : Nat) (hi : L[i]? = some (sl x 44 11 v rs)) (hj : L[j]? = some (all2 pkR rs ps)) : PksAt g v rs ps :=
  ⟨S.slA i hi, a2_len S j hj, fun k p hp => pks_at S j hj hp⟩
theorem perm_rel {α β : Type} {R : α → β → Prop} {xa xb : List α} (hp : xa.Perm xb) : ∀ {ys : List β}, All2 R xb ys → ∃ xs : List β, xs.Perm ys ∧ All2 R xa xs := by
  induction hp with
  | nil => intro ys h; exact ⟨ys, .refl _, h⟩
  | cons a _ ih =>
    intro ys h
    cases h with
    | cons h1 h2 =>
      obtain ⟨xs, p, r⟩ := ih h2
      exact ⟨_ :: xs, p.cons _, .cons h1 r⟩
  | swap a b l =>
    intro ys h
    cases h with
    | cons h1 h2 =>
      cases h2 with
      | cons h3 h4 => exact ⟨_ :: _ :: _, .swap _ _ _, .cons h3 (.cons h1 h4)⟩
  | trans _ _ ih1 ih2 =>
    intro ys h
    obtain ⟨xs, p, r⟩ := ih2 h
    obtain ⟨zs, p', r'⟩ := ih1 r
    exact ⟨zs, p'.trans p, r'⟩
def RowAt (g : IH) (r : List IV) (p : Pk) : Prop := ∃ vo vp, r = pkRow p vo vp ∧ PkAt g p vo vp
theorem rows_all2 {g : IH} : ∀ {rs : List (List IV)} {ps : List Pk}, rs.length = ps.length → (∀ (i : Nat) (p : Pk), ps[i]? = some p → ∃ vo vp, rs[i]? = some (pkRow p vo vp) ∧ PkAt g p vo vp) → All2 (RowAt g) rs ps
  | [], [], _, _ => .nil
  | r :: rs, p :: ps, hl, h => by
    obtain ⟨vo, vp, e, a⟩ := h 0 p rfl
    refine .cons ⟨vo, vp, by simpa using e, a⟩ (rows_all2 (by simpa using hl) fun i q hq => ?_)
    have := h (i + 1) q (by simpa using hq)
    simpa using this
theorem all2_rows {g : IH} {rs : List (List IV)} {ps : List Pk} (h : All2 (RowAt g) rs ps) : rs.length = ps.length ∧ ∀ (i : Nat) (p : Pk), ps[i]? = some p → ∃ vo vp, rs[i]? = some (pkRow p vo vp) ∧ PkAt g p vo vp := by
  induction h with
  | nil => exact ⟨rfl, by simp⟩
  | cons h1 h2 ih =>
    obtain ⟨vo, vp, rfl, a⟩ := h1
    refine ⟨by simp [ih.1], fun i q hq => ?_⟩
    cases i with
    | zero => simp at hq; subst hq; exact ⟨vo, vp, rfl, a⟩
    | succ i => simpa using ih.2 i q (by simpa using hq)
theorem PksAt.perm {g : IH} {v v' : IV} {rs rs' : List (List IV)} {ps : List Pk} (A : PksAt g v rs ps) (hs : SlR g 11 v' rs') (hp : rs'.Perm rs) : ∃ ps', ps'.Perm ps ∧ PksAt g v' rs' ps' := by
  obtain ⟨ps', p, r⟩ := perm_rel hp (rows_all2 A.n A.r)
  obtain ⟨h1, h2⟩ := all2_rows r
  exact ⟨ps', p, hs, h1, h2⟩
theorem PksAt.rows {g : IH} {v : IV} {rs : List (List IV)} {ps : List Pk} (A : PksAt g v rs ps) : ∀ r ∈ rs, ∃ p vo vp, r = pkRow p vo vp ∧ vo.one = true ∧ vp.one = true := by
  intro r hr
  obtain ⟨i, hi, rfl⟩ := List.mem_iff_getElem.1 hr
  have hi' : i < ps.length := by rw [← A.n]; exact hi
  obtain ⟨vo, vp, e, a⟩ := A.r i ps[i] (List.getElem?_eq_getElem hi')
  rw [List.getElem?_eq_getElem hi] at e
  exact ⟨ps[i], vo, vp, Option.some.inj e, a.o.one, a.p.one⟩
theorem ops_of {g : IH} {L : List As} {x : Bool} {v : IV} {rs : List (List IV)} {ops : List Op} (S : Sp g L) (i j : Nat) (hi : L[i]? = some (sl x 58 13 v rs)) (hj : L[j]? = some (all2 opR rs ops)) (hI : ∀ o ∈ ops, I64 o.wait ∧ PkI o.pk) : OpsAt g v ops := by
  refine ⟨⟨rs, S.slA i hi, a2_len S j hj, fun k o ho => ?_⟩, hI⟩
  obtain ⟨f, hf⟩ := S.part j hj
  obtain ⟨r, f', h1, ⟨vo, vp⟩, f1, f2, _, ⟨_, rfl, h4, h5⟩, g1, g2, _, h6, h7⟩ := all2_at hf ho
  refine ⟨vo, vp, h1, ?_, ?_⟩
  · rcases h6 with ⟨h4, _, h5 | h5⟩ | ⟨l, h0, h5, _, h8, h9⟩
    · simp only at h4 h5; rw [h4, h5]; exact SlR.nil _ _
    · simp only at h4 h5; rw [h4, h5]; exact SlR.empty _ _ _
    · simp only at h5; rw [h5]; exact SlR.whole h9 rfl h8
  · rcases h7 with ⟨h4, _, h5 | h5⟩ | ⟨l, h0, h5, _, h8, h9⟩
    · simp only at h4 h5; rw [h4, h5]; exact SlR.nil _ _
    · simp only at h4 h5; rw [h4, h5]; exact SlR.empty _ _ _
    · simp only at h5; rw [h5]; exact SlR.whole h9 rfl h8
theorem pk_vw2 {lo hi : Nat} {h : IH} {cs : List IV} {p : Pk} (hv : Vw lo hi h t_Packet cs (pkD p)) : ∃ vo vp, cs = pkRow p vo vp ∧ PkAt h p vo vp := by
  unfold Vw pkD t_Packet at hv
  obtain ⟨_, _, _, _, rfl, e, ⟨n0, rfl, e'⟩, hv⟩ := hv
  cases e; cases e'
  obtain ⟨_, _, _, _, rfl, e, ⟨n1, rfl, e'⟩, hv⟩ := hv
  cases e; cases e'
  obtain ⟨_, _, _, _, rfl, e, ⟨n2, rfl, e'⟩, hv⟩ := hv
  cases e; cases e'
  obtain ⟨_, _, _, _, rfl, e, ⟨n3, rfl, e'⟩, hv⟩ := hv
  cases e; cases e'
  obtain ⟨_, _, _, _, rfl, e, ⟨n4, rfl, e'⟩, hv⟩ := hv
  cases e; cases e'
  obtain ⟨_, _, _, _, rfl, e, ⟨n5, rfl, e'⟩, hv⟩ := hv
  cases e; cases e'
  obtain ⟨_, _, _, _, rfl, e, ⟨n6, rfl, e'⟩, hv⟩ := hv
  cases e; cases e'
  obtain ⟨_, _, _, _, rfl, e, ⟨n7, rfl, e'⟩, hv⟩ := hv
  cases e; cases e'
  obtain ⟨_, _, _, _, rfl, e, ⟨n8, rfl, e'⟩, hv⟩ := hv
  cases e; cases e'
  obtain ⟨_, _, _, _, rfl, e, ho, hv⟩ := hv
  cases e
  obtain ⟨_, _, _, _, rfl, e, hp, hv⟩ := hv
  cases e
  obtain ⟨rfl, _⟩ := hv
  obtain ⟨vo, _, _, rfl, _⟩ := id ho
  obtain ⟨vp, _, _, rfl, _⟩ := id hp
  exact ⟨vo, vp, rfl, bytes_vw ho, bytes_vw hp⟩
theorem out_vw2 {lo hi : Nat} {h : IH} {cs : List IV} {o : Ot} (hv : Vw lo hi h t_ReasmOut cs (outD o)) : ∃ vo vp ve, cs = outRow o vo vp ve ∧ PkAt h o.pk vo vp ∧ ve.one = true := by
  unfold Vw outD t_ReasmOut at hv
  obtain ⟨_, _, _, _, rfl, e, ⟨n0, rfl, e'⟩, hv⟩ := hv
  cases e; cases e'
  obtain ⟨_, _, _, _, rfl, e, ⟨n1, rfl, e'⟩, hv⟩ := hv
  cases e; cases e'
  obtain ⟨_, _, _, _, rfl, e, hp, hv⟩ := hv
  cases e
  obtain ⟨_, _, _, _, rfl, e, he, hv⟩ := hv
  cases e
  obtain ⟨_, _, _, _, rfl, e, ⟨n2, rfl, e'⟩, hv⟩ := hv
  cases e; cases e'
  obtain ⟨_, _, _, _, rfl, e, ⟨n3, rfl, e'⟩, hv⟩ := hv
  cases e; cases e'
  obtain ⟨rfl, _⟩ := hv
  obtain ⟨vo, vp, rfl, ha⟩ := pk_vw2 hp
  obtain ⟨ve, _, _, rfl, _, hs, _⟩ := he
  exact ⟨vo, vp, ve, rfl, ha, hs.one⟩
structure OutsAt (h : IH) (v : IV) (os : List Ot) : Prop where
  sl : ∃ rs, SlR h 16 v rs ∧ rs.length = os.length ∧ ∀ (i : Nat) (o : Ot), os[i]? = some o → ∃ vo vp ve, rs[i]? = some (outRow o vo vp ve) ∧ PkAt h o.pk vo vp ∧ ve.one = true
theorem outs_vw {lo hi : Nat} {h : IH} {v : IV} {os : List Ot} (hv : Vw lo hi h (.slice 52 t_ReasmOut) [v] (.list (os.map outD))) : OutsAt h v os := by
  obtain ⟨v', rs, ds, e1, e2, hs, hS, ha⟩ := hv
  obtain rfl := (List.cons.inj e1).1
  cases e2
  refine ⟨rs, hs, ?_⟩
  clear hs hS
  generalize hd : os.map outD = ds at ha
  induction ha generalizing os with
  | nil =>
    cases os with
    | nil => exact ⟨rfl, by simp⟩
    | cons o os => cases hd
  | cons h1 h2 ih =>
    cases os with
    | nil => cases hd
    | cons o os =>
      cases hd
      obtain ⟨vo, vp, ve, rfl, a, z⟩ := out_vw2 h1
      obtain ⟨i1, i2⟩ := ih rfl
      refine ⟨by simp [i1], fun i q hq => ?_⟩
      cases i with
      | zero => simp at hq; subst hq; exact ⟨vo, vp, ve, rfl, a, z⟩
      | succ i => simpa using i2 i q (by simpa using hq)
theorem OutsAt.ext {h h' : IH} {v : IV} {os : List Ot} (a : OutsAt h v os) (E : Ext h h') : OutsAt h' v os := by
  obtain ⟨rs, h1, h2, h3⟩ := a.sl
  exact ⟨rs, h1.ext E, h2, fun i o ho => by obtain ⟨vo, vp, ve, e, p, z⟩ := h3 i o ho; exact ⟨vo, vp, ve, e, p.ext E, z⟩⟩
theorem Cut.len {p : Pk} {R a : Nat} {F : List Pk} (h : Cut p R a F) : ∀ f ∈ F, f.pay.length ≤ R ∧ f.opts = p.opts := by
  induction h with
  | last a h0 h1 =>
    intro f hf
    obtain rfl := List.mem_singleton.1 hf
    exact ⟨by simp only [List.length_drop]; omega, rfl⟩
  | more a h0 hr ih =>
    intro f hf
    rcases List.mem_cons.1 hf with rfl | hf
    · exact ⟨by simp only [List.length_drop, List.length_take]; omega, rfl⟩
    · exact ih f hf
end Go.Proofs.Ytjmmmmdpkfpojaa

namespace Go.Proofs.Ytjmmmmdpkfpojaa
open Go Go.IW
def c3 : CC :=
 (.seq (.reg [
   ⟨(some 2), none, .f (.mv (.c (.bool false)))⟩])
 (.seq (.reg [
   ⟨(some 3), none, .f (.mv (.c (.int .i64 1048576)))⟩])
 (.seq (.reg [
   ⟨(some 14), none, .f (.mv (.t 0))⟩,
   ⟨(some 15), none, .f (.mv (.t 3))⟩,
   ⟨(some 16), none, .x (.call 7 [(.t 14), (.t 15)])⟩,
   ⟨(some 3), none, .f (.mv (.t 16))⟩])
 (.seq (.seq (.reg [
   ⟨(some 17), none, .f (.mv (.t 3))⟩,
   ⟨(some 18), none, .f (.bin .lss (.t 17) (.c (.int .i64 0)))⟩])
 (.cond (.t 18)
  (.seq (.reg [
    ⟨(some 2), none, .f (.mv (.c (.bool true)))⟩])
  .ret)
  .skip))
 (.seq (.reg [
   ⟨(some 20), none, .f (.mv (.t 0))⟩,
   ⟨(some 21), none, .x (.call 9 [(.t 20)])⟩,
   ⟨(some 22), none, .x (.call 8 [(.t 21)])⟩,
   ⟨(some 19), none, .f (.mv (.t 22))⟩,
   ⟨(some 23), none, .f (.ext 0 (.t 19))⟩,
   ⟨(some 24), none, .f (.ext 1 (.t 19))⟩,
   ⟨(some 4), none, .f (.mv (.t 23))⟩,
   ⟨(some 5), none, .f (.mv (.t 24))⟩])
 (.seq (.reg [
   ⟨(some 25), none, .f (.mv (.t 0))⟩,
   ⟨(some 26), none, .x (.call 9 [(.t 25)])⟩,
   ⟨(some 6), none, .f (.mv (.t 26))⟩])
 (.seq (.reg [
   ⟨(some 28), none, .f (.mv (.t 6))⟩,
   ⟨(some 29), none, .x (.call 10 [(.t 28)])⟩,
   ⟨(some 27), none, .f (.mv (.t 29))⟩,
   ⟨(some 30), none, .f (.ext 0 (.t 27))⟩,
   ⟨(some 31), none, .f (.ext 1 (.t 27))⟩,
   ⟨(some 7), none, .f (.mv (.t 30))⟩,
   ⟨(some 8), none, .f (.mv (.t 31))⟩])
 (.seq (.seq (.reg [
   ⟨(some 32), none, .f (.mv (.t 7))⟩,
   ⟨(some 33), none, .f (.mv (.t 4))⟩,
   ⟨(some 34), none, .x (.call 11 [(.t 32), (.t 33)])⟩,
   ⟨(some 35), none, .f (.un .not (.t 34))⟩,
   ⟨(some 36), none, .f (.mv (.t 35))⟩,
   ⟨(some 37), (some (36, false)), .f (.mv (.t 8))⟩,
   ⟨(some 38), (some (36, false)), .f (.mv (.t 5))⟩,
   ⟨(some 39), (some (36, false)), .f (.bin .neq (.t 37) (.t 38))⟩,
   ⟨(some 40), none, .f (.pick (.t 36) (.c (.bool true)) (.t 39))⟩])
 (.cond (.t 40)
  (.seq (.reg [
    ⟨(some 2), none, .f (.mv (.c (.bool false)))⟩])
  .ret)
  .skip))
 (.seq (.seq (.reg [
   ⟨(some 41), none, .f (.mv (.t 6))⟩,
   ⟨(some 42), none, .f (.mv (.t 0))⟩,
   ⟨(some 43), none, .x (.call 9 [(.t 42)])⟩,
   ⟨(some 44), none, .x (.call 12 [(.t 41), (.t 43)])⟩,
   ⟨(some 45), none, .f (.un .not (.t 44))⟩])
 (.cond (.t 45)
  (.seq (.reg [
    ⟨(some 2), none, .f (.mv (.c (.bool false)))⟩])
  .ret)
  .skip))
 (.seq (.reg [
   ⟨(some 9), none, .f (.mv (.c (.int .i64 1)))⟩])
 (.seq (.reg [
   ⟨(some 46), none, .f (.mv (.t 6))⟩,
   ⟨(some 47), none, .f (.mv (.t 9))⟩,
   ⟨(some 48), none, .x (.call 13 [(.t 46), (.t 47)])⟩,
   ⟨(some 9), none, .f (.mv (.t 48))⟩])
 (.seq (.seq (.reg [
   ⟨(some 49), none, .f (.mv (.t 9))⟩,
   ⟨(some 50), none, .f (.bin .lss (.t 49) (.c (.int .i64 0)))⟩,
   ⟨(some 51), none, .f (.mv (.t 50))⟩,
   ⟨(some 52), (some (51, false)), .f (.mv (.t 7))⟩,
   ⟨(some 53), (some (51, false)), .f (.mv (.t 4))⟩,
   ⟨(some 54), (some (51, false)), .x (.call 11 [(.t 52), (.t 53)])⟩,
   ⟨(some 55), (some (51, false)), .f (.un .not (.t 54))⟩,
   ⟨(some 56), none, .f (.pick (.t 51) (.c (.bool true)) (.t 55))⟩,
   ⟨(some 57), none, .f (.mv (.t 56))⟩,
   ⟨(some 58), (some (57, false)), .f (.mv (.t 8))⟩,
   ⟨(some 59), (some (57, false)), .f (.mv (.t 5))⟩,
   ⟨(some 60), (some (57, false)), .f (.bin .neq (.t 58) (.t 59))⟩,
   ⟨(some 61), none, .f (.pick (.t 57) (.c (.bool true)) (.t 60))⟩])
 (.cond (.t 61)
  (.seq (.reg [
    ⟨(some 2), none, .f (.mv (.c (.bool false)))⟩])
  .ret)
  .skip))
 (.seq (.reg [
   ⟨(some 10), none, .f (.mv (.c (.int .i64 1)))⟩])
 (.seq (.reg [
   ⟨(some 62), none, .f (.mv (.t 7))⟩,
   ⟨(some 63), none, .f (.mv (.t 10))⟩,
   ⟨(some 64), none, .x (.call 14 [(.t 62), (.t 63)])⟩,
   ⟨(some 10), none, .f (.mv (.t 64))⟩])
 (.seq (.reg [
   ⟨(some 11), none, .f (.mv (.c (.int .i64 1)))⟩])
 (.seq (.reg [
   ⟨(some 65), none, .f (.mv (.t 7))⟩,
   ⟨(some 66), none, .f (.mv (.t 11))⟩,
   ⟨(some 67), none, .x (.call 15 [(.t 65), (.t 66)])⟩,
   ⟨(some 11), none, .f (.mv (.t 67))⟩])
 (.seq (.seq (.reg [
   ⟨(some 68), none, .f (.mv (.t 11))⟩,
   ⟨(some 69), none, .f (.bin .lss (.t 68) (.c (.int .i64 0)))⟩])
 (.cond (.t 69)
  (.seq (.reg [
    ⟨(some 2), none, .f (.mv (.c (.bool false)))⟩])
  .ret)
  .skip))
 (.seq (.seq (.reg [
   ⟨(some 70), none, .f (.mv (.t 11))⟩,
   ⟨(some 71), none, .f (.mv (.t 10))⟩,
   ⟨(some 72), none, .f (.bin .neq (.t 70) (.t 71))⟩])
 (.cond (.t 72)
  (.seq (.reg [
    ⟨(some 2), none, .f (.mv (.c (.bool false)))⟩])
  .ret)
  .skip))
 (.seq (.reg [
   ⟨(some 74), none, .f (.mv (.t 0))⟩,
   ⟨(some 75), none, .x (.call 9 [(.t 74)])⟩,
   ⟨(some 76), none, .x (.call 10 [(.t 75)])⟩,
   ⟨(some 73), none, .f (.mv (.t 76))⟩,
   ⟨(some 77), none, .f (.ext 0 (.t 73))⟩,
   ⟨(some 78), none, .f (.ext 1 (.t 73))⟩,
   ⟨(some 12), none, .f (.mv (.t 77))⟩,
   ⟨(some 13), none, .f (.mv (.t 78))⟩])
 (.seq (.seq (.reg [
   ⟨(some 79), none, .f (.mv (.t 12))⟩,
   ⟨(some 80), none, .f (.mv (.t 4))⟩,
   ⟨(some 81), none, .x (.call 11 [(.t 79), (.t 80)])⟩,
   ⟨(some 82), none, .f (.un .not (.t 81))⟩,
   ⟨(some 83), none, .f (.mv (.t 82))⟩,
   ⟨(some 84), (some (83, false)), .f (.mv (.t 13))⟩,
   ⟨(some 85), (some (83, false)), .f (.mv (.t 5))⟩,
   ⟨(some 86), (some (83, false)), .f (.bin .neq (.t 84) (.t 85))⟩,
   ⟨(some 87), none, .f (.pick (.t 83) (.c (.bool true)) (.t 86))⟩])
 (.cond (.t 87)
  (.seq (.reg [
    ⟨(some 2), none, .f (.mv (.c (.bool false)))⟩])
  .ret)
  .skip))
 (.seq (.reg [
   ⟨(some 11), none, .f (.mv (.c (.int .i64 1)))⟩])
 (.seq (.reg [
   ⟨(some 88), none, .f (.mv (.t 7))⟩,
   ⟨(some 89), none, .f (.mv (.t 11))⟩,
   ⟨(some 90), none, .x (.call 15 [(.t 88), (.t 89)])⟩,
   ⟨(some 11), none, .f (.mv (.t 90))⟩])
 (.seq (.seq (.reg [
   ⟨(some 91), none, .f (.mv (.t 11))⟩,
   ⟨(some 92), none, .f (.bin .lss (.t 91) (.c (.int .i64 0)))⟩])
 (.cond (.t 92)
  (.seq (.reg [
    ⟨(some 2), none, .f (.mv (.c (.bool false)))⟩])
  .ret)
  .skip))
 (.seq (.seq (.reg [
   ⟨(some 93), none, .f (.mv (.t 11))⟩,
   ⟨(some 94), none, .f (.mv (.t 10))⟩,
   ⟨(some 95), none, .f (.bin .neq (.t 93) (.t 94))⟩])
 (.cond (.t 95)
  (.seq (.reg [
    ⟨(some 2), none, .f (.mv (.c (.bool false)))⟩])
  .ret)
  .skip))
 (.seq (.reg [
   ⟨(some 2), none, .f (.mv (.c (.bool true)))⟩])
 .ret)))))))))))))))))))))))))
end Go.Proofs.Ytjmmmmdpkfpojaa

set_option maxRecDepth 20000
namespace Go.Proofs.Ytjmmmmdpkfpojaa
open Go Go.IW
section
attribute [local go_sem] boxA_1 boxA_2 boxA_3 bslA_1 List.getElem?_cons_zero List.getElem?_cons_succ Option.bind_some List.map_cons List.map_nil Nat.zero_add if_true List.getD_cons_zero List.getD_cons_succ List.contains_cons List.contains_nil Bool.or_true Bool.true_or Bool.or_false Bool.false_or Bool.not_true Bool.not_false true_and and_true rowA_whole mid_get stO_mid rowO_rows cellO_rows push_n set_n push_at push_old set_here set_there set_pushT set_pushN set_set upd_ne Nat.add_assoc Nat.add_zero stO_1s stO_ws boxA_s List.all_cons List.all_nil one_bool one_int one_str one_ptr one_nilptr one_slice one_eslice one_nilslice one_func one_iface one_niliface Bool.and_true Bool.and_self List.length_cons List.length_nil Nat.one_ne_zero Nat.succ_ne_zero if_false List.set_cons_zero List.set_cons_succ lay_nil lay_1 lay_w Option.map_some

structure OtB (x : Ot) : Prop where
  o : x.pk.opts.length ≤ 1048576
  p : x.pk.pay.length ≤ 1048576
  e : x.ended.length ≤ 1000
end
end Go.Proofs.Ytjmmmmdpkfpojaa

namespace Go.Proofs.Ytjmmmmdpkfpojaa
open Go Go.IW

theorem stepS_born {now : Int} {l : List Ms} {o : Ot} {i : Nat} {p : Pk} (h : ∀ m ∈ l, m.born ≤ now) : ∀ m ∈ (stepS l o i p).1, m.born ≤ now := by
  intro m hm
  unfold stepS at hm
  simp only at hm
  split at hm
  · exact h m hm
  · split at hm
    · exact h m (List.mem_of_mem_eraseIdx hm)
    · by_cases hi : i < l.length
      · rcases List.mem_or_eq_of_mem_set hm with h1 | h1
        · exact h m h1
        · rw [h1, addS_born]
          refine h _ ?_
          rw [List.getD_eq_getElem?_getD, List.getElem?_eq_getElem hi]
          exact List.getElem_mem hi
      · rw [List.set_eq_of_length_le (by omega)] at hm
        exact h m hm
theorem openS_born {now : Int} {l : List Ms} {o : Ot} {p : Pk} (h : ∀ m ∈ l, m.born ≤ now) : ∀ m ∈ (openS now l o p).1, m.born ≤ now := by
  intro m hm
  unfold openS at hm
  split at hm
  · exact h m hm
  · have hnew : ∀ x ∈ [msNew p now], x.born ≤ now := by
      intro x hx
      rw [List.mem_singleton.1 hx]
      exact Int.le_refl _
    split at hm
    · rcases List.mem_append.1 hm with h1 | h1
      · exact h m (List.mem_of_mem_eraseIdx h1)
      · exact hnew m h1
    · rcases List.mem_append.1 hm with h1 | h1
      · exact h m h1
      · exact hnew m h1
theorem takeS_born {now : Int} {l : List Ms} {o : Ot} {p : Pk} (h : ∀ m ∈ l, m.born ≤ now) : ∀ m ∈ (takeS now l o p).1, m.born ≤ now := by
  unfold takeS
  split
  · exact h
  · split
    · exact h
    · exact stepS_born (openS_born h)
theorem cut_pre {P : Nat → Pk} {F : Nat → List Pk} (hF : Fams 1 P F) {now : Int} (rest : List Op) : ∀ (ps : List Pk) {l : List Ms} {cur : Nat → List Pk}, Rst 1 P F l cur → (∀ m ∈ l, m.born ≤ now) → (cur 0 ++ ps).Nodup → (∀ f ∈ ps, f ∈ F 0) → (∃ f ∈ F 0, f ∉ cur 0 ++ ps) →
    ∃ OS l' cur', runSt now l (ps.map takeOp ++ rest) = OS ++ runSt now l' rest ∧ OS.length = ps.length ∧ (∀ o ∈ OS, o.done = false) ∧ Rst 1 P F l' cur' ∧ cur' 0 = cur 0 ++ ps ∧ ∀ m ∈ l', m.born ≤ now
  | [], l, cur, h, hb, _, _, _ => ⟨[], l, cur, rfl, rfl, by simp, h, by simp, hb⟩
  | p :: ps, l, cur, h, hbo, hn, hs, ho => by
    have h0 : (0 : Nat) < 1 := Nat.lt_succ_self 0
    have fam := hF.fam 0 h0
    have hpF : p ∈ F 0 := hs p List.mem_cons_self
    obtain ⟨b, l', o', e, hb, c1, c2, c3, c4, c5, h'⟩ := op_step (now := now) hF h h0 hpF
    have hpn : p ∉ cur 0 := by
      intro hx
      rw [List.nodup_append] at hn
      exact hn.2.2 p hx p List.mem_cons_self rfl
    have hadd : addQ (cur 0) p = cur 0 ++ [p] := by
      unfold addQ
      rw [if_neg]
      intro hx
      exact hpn ((fam.has hpF (h.sub 0 h0)).1 hx)
    have hbf : b = false := by
      cases b with
      | false => rfl
      | true =>
        exfalso
        obtain ⟨f, hf, hfn⟩ := ho
        have := hb.1 rfl f hf
        rw [hadd] at this
        apply hfn
        rcases List.mem_append.1 this with h1 | h1
        · exact List.mem_append_left _ h1
        · rw [List.mem_singleton.1 h1]; simp
    subst hbf
    have hl' : l' = (takeS now l ot0 p).1 := by
      have e2 : (opS now l (takeOp p)).2.1 = (takeS now l ot0 p).1 := by
        unfold opS
        rw [if_pos ⟨rfl, fam.code hpF⟩]
        rfl
      rw [e] at e2
      exact e2
    have hc : upd1 cur 0 (if false = true then [] else addQ (cur 0) p) 0 = cur 0 ++ [p] := by
      unfold upd1
      rw [if_pos rfl, if_neg (by simp), hadd]
    have hca : upd1 cur 0 (if false = true then [] else addQ (cur 0) p) 0 ++ ps = cur 0 ++ p :: ps := by rw [hc, List.append_assoc]; rfl
    obtain ⟨OS, l2, cur2, r1, r2, r3, r4, r5, r6⟩ := cut_pre hF (now := now) rest ps h' (by rw [hl']; exact takeS_born hbo) (by rw [hca]; exact hn) (fun f hf => hs f (List.mem_cons_of_mem _ hf)) (by rw [hca]; exact ho)
    refine ⟨o' :: OS, l2, cur2, ?_, by simp [r2], ?_, r4, by rw [r5, hca], r6⟩
    · simp only [mc0, ca0, runSt, e]
      rw [r1]
    · intro o ho
      rcases List.mem_cons.1 ho with rfl | ho
      · exact c2
      · exact r3 o ho
theorem Rst.single {P : Nat → Pk} {F : Nat → List Pk} {l : List Ms} {cur : Nat → List Pk} (h : Rst 1 P F l cur) (hc : cur 0 ≠ []) : ∃ m, l = [m] ∧ MkOf (P 0) m (cur 0) := by
  obtain ⟨m0, hm0, _⟩ := h.here 0 (by omega) hc
  have hall : ∀ m ∈ l, MkOf (P 0) m (cur 0) := by
    intro m hm
    obtain ⟨i, hi, _, h2⟩ := h.mks m hm
    have : i = 0 := by omega
    subst this
    exact h2
  match l, h.ids, hm0, hall with
  | [m], _, _, hall => exact ⟨m, rfl, hall m (by simp)⟩
  | a :: b :: t, hn, _, hall =>
    exfalso
    have e1 := (hall a (by simp)).key.2.2.2
    have e2 := (hall b (by simp)).key.2.2.2
    simp only [mc0, List.nodup_cons, List.mem_cons, not_or] at hn
    exact hn.1.1 (e1.trans e2.symm)
theorem scan_ref {off en : Int} {pay : List UInt8} : ∀ {ps : Pcs} {same : Bool}, (scanS off en pay ps same true).2 = true
  | [], same => rfl
  | q :: r, same => by
    unfold scanS
    split
    · exact scan_ref
    · split <;> exact scan_ref
theorem scan_over {off en : Int} {pay : List UInt8} : ∀ {ps : Pcs} {same ref : Bool}, (∃ q ∈ ps, ¬ (q.1 = off ∧ q.2 = pay) ∧ q.1 < en ∧ off < pTo q) → (scanS off en pay ps same ref).2 = true
  | [], _, _, h => by obtain ⟨q, hq, _⟩ := h; cases hq
  | q :: r, same, ref, h => by
    unfold scanS
    obtain ⟨x, hx, h1, h2⟩ := h
    rcases List.mem_cons.1 hx with rfl | hx
    · rw [if_neg h1, if_pos h2]
      exact scan_ref
    · have := fun {same ref} => scan_over (off := off) (en := en) (pay := pay) (ps := r) (same := same) (ref := ref) ⟨x, hx, h1, h2⟩
      split
      · exact this
      · split <;> exact this
theorem addS_over {m : Ms} {p : Pk} (h : ∃ q ∈ m.ps, ¬ (q.1 = p.off ∧ q.2 = p.pay) ∧ q.1 < p.off + p.pay.length ∧ p.off < pTo q) : ∃ (e2 : Int) (f : Pk), addS m p = { m with ps := [], en := e2, ref := true, has := false, first := f } := by
  have hs := scan_over (same := false) (ref := m.ref) h
  unfold addS
  simp only [hs, Bool.true_or, if_true]
  exact ⟨_, _, rfl⟩
theorem keyS_of {P p : Pk} {m : Ms} (k : m.src = P.src ∧ m.dst = P.dst ∧ m.proto = P.proto ∧ m.id = P.id) (h : p.src = P.src ∧ p.dst = P.dst ∧ p.proto = P.proto ∧ p.id = P.id) : keyS p m = true := by
  unfold keyS
  simp [k.1, k.2.1, k.2.2.1, k.2.2.2, h.1, h.2.1, h.2.2.1, h.2.2.2]
theorem openS_one {now : Int} {m : Ms} {o : Ot} {p : Pk} (h : keyS p m = true) : openS now [m] o p = ([m], o, 0) := by
  unfold openS
  rw [List.findIdx?_cons, if_pos h]
theorem take_over {now : Int} {m : Ms} {p : Pk} (hk : keyS p m = true) (hr : m.ref = false) (h1 : ¬ (p.off = 0 ∧ p.mf = false)) (h2 : ¬ (p.pay = [] ∨ (p.mf = true ∧ (p.pay.length : Int).tmod 8 ≠ 0)))
    (h : ∃ q ∈ m.ps, ¬ (q.1 = p.off ∧ q.2 = p.pay) ∧ q.1 < p.off + p.pay.length ∧ p.off < pTo q) : ∃ (e2 : Int) (f : Pk), takeS now [m] ot0 p = ([{ m with ps := [], en := e2, ref := true, has := false, first := f }], ot0) := by
  obtain ⟨e2, f, e⟩ := addS_over h
  refine ⟨e2, f, ?_⟩
  unfold takeS
  rw [if_neg h1, if_neg h2]
  simp only [openS_one hk]
  unfold stepS
  simp only [List.getD_cons_zero, hr, Bool.false_eq_true, if_false, e]
  rw [if_neg (by simp [wholeS])]
  rfl
theorem take_ref {now : Int} {m : Ms} {p : Pk} (hk : keyS p m = true) (hr : m.ref = true) (h1 : ¬ (p.off = 0 ∧ p.mf = false)) (h2 : ¬ (p.pay = [] ∨ (p.mf = true ∧ (p.pay.length : Int).tmod 8 ≠ 0))) : takeS now [m] ot0 p = ([m], ot0) := by
  unfold takeS
  rw [if_neg h1, if_neg h2]
  simp only [openS_one hk]
  unfold stepS
  simp only [List.getD_cons_zero, hr, if_true]
theorem Fam.part {P : Pk} {F : List Pk} (h : Fam P F) {p q : Pk} (hp : p ∈ F) (hq : q ∈ F) (hne : p ≠ q) : ¬ (p.off = 0 ∧ p.mf = false) ∧ ¬ (p.pay = [] ∨ (p.mf = true ∧ (p.pay.length : Int).tmod 8 ≠ 0)) := by
  obtain ⟨c, d, _, hf⟩ := h.lay.frag p hp
  obtain ⟨c', d', _, hf'⟩ := h.lay.frag q hq
  have hl := hf.len
  have hab := hf.ab
  have hl' := hf'.len
  have hab' := hf'.ab
  have hb' := hf'.hb
  have hoff : p.off = (c : Int) := by rw [hf.e]
  have hoff' : q.off = (c' : Int) := by rw [hf'.e]
  have hmf : p.mf = decide (d < P.pay.length) := by rw [hf.e]
  constructor
  · rintro ⟨h1, h2⟩
    rw [hmf, decide_eq_false_iff_not] at h2
    have h3 := hf.hb
    rcases h.sep hp hq with e | e | e
    · exact hne e
    · omega
    · omega
  · rintro (e | ⟨e1, e2⟩)
    · rw [e] at hl; simp at hl; omega
    · rw [hmf, decide_eq_true_eq] at e1
      have := hf.m e1
      apply e2
      rw [hl, Int.tmod_eq_emod_of_nonneg (by omega)]
      omega
def passOp : Op := ⟨2, 30000, pk0⟩
set_option maxHeartbeats 1000000 in
theorem overlap_run {P bad last : Pk} {F init : List Pk} (hfam : Fam P F) (hpm : (init ++ [last]).Perm F) (hkey : bad.src = P.src ∧ bad.dst = P.dst ∧ bad.proto = P.proto ∧ bad.id = P.id) (hc : codeB bad = 0)
    (h1 : ¬ (bad.off = 0 ∧ bad.mf = false)) (h2 : ¬ (bad.pay = [] ∨ (bad.mf = true ∧ (bad.pay.length : Int).tmod 8 ≠ 0)))
    (ho : ∃ f ∈ init, ¬ (f.off = bad.off ∧ f.pay = bad.pay) ∧ f.off < bad.off + bad.pay.length ∧ bad.off < f.off + (f.pay.length : Int)) :
    ∀ (k : Nat) (o : Ot), (runSt 0 [] (init.map takeOp ++ (takeOp bad :: takeOp last :: passOp :: (init ++ [last]).map takeOp)))[k]? = some o →
      (k + 1 ≠ 2 * init.length + 4 → o.done = false) ∧ (k = init.length + 1 → o.bytes = 0) ∧ (k = init.length + 2 → o.held = 0) ∧ (k + 1 = 2 * init.length + 4 → o.done = true ∧ o.pk = P) := by
  have hF : Fams 1 (fun _ => P) (fun _ => F) := ⟨by omega, fun _ _ => hfam, fun i j hi hj _ => by omega, fun _ _ _ _ => ⟨rfl, rfl⟩⟩
  have hnd : (init ++ [last]).Nodup := hpm.symm.nodup hfam.nd
  have hnl : ∀ f ∈ init, f ≠ last := by
    intro f hf e
    rw [List.nodup_append] at hnd
    exact hnd.2.2 f hf last (by simp) e
  have hlF : last ∈ F := hpm.mem_iff.1 (by simp)
  have hiF : ∀ f ∈ init, f ∈ F := fun f hf => hpm.mem_iff.1 (List.mem_append_left _ hf)
  obtain ⟨f0, hf0, ho1, ho2, ho3⟩ := ho
  obtain ⟨OS, l', cur', r1, r2, r3, r4, r5, r6⟩ := cut_pre hF (now := 0) (takeOp bad :: takeOp last :: passOp :: (init ++ [last]).map takeOp) init (Rst.nil hF) (by simp)
    (by rw [List.nodup_append] at hnd; simpa using hnd.1) hiF ⟨last, hlF, fun hx => hnl last (by simpa using hx) rfl⟩
  simp only [na0] at r5
  obtain ⟨m, rfl, hm⟩ := r4.single (by rw [r5]; exact List.ne_nil_of_mem hf0)
  rw [r5] at hm
  have hb := r6 m (by simp)
  obtain ⟨e2, f2, t1⟩ := take_over (now := 0) (p := bad) (keyS_of hm.key hkey) hm.ref h1 h2 ⟨(f0.off, f0.pay), by rw [hm.ps]; exact List.mem_map.2 ⟨f0, hf0, rfl⟩, ho1, ho2, ho3⟩
  obtain ⟨q1, q2⟩ := hfam.part hlF (hiF f0 hf0) (fun e => hnl f0 hf0 e.symm)
  have hlk : last.src = P.src ∧ last.dst = P.dst ∧ last.proto = P.proto ∧ last.id = P.id := by
    obtain ⟨a, b, _, hFr⟩ := hfam.lay.frag last hlF
    rw [hFr.e]
    exact ⟨rfl, rfl, rfl, rfl⟩
  generalize hm2 : ({ m with ps := [], en := e2, ref := true, has := false, first := f2 } : Ms) = m2 at t1
  have hk2 : keyS last m2 = true := by rw [← hm2]; exact keyS_of hm.key hlk
  have hr2 : m2.ref = true := by rw [← hm2]
  have hp2 : m2.ps = [] := by rw [← hm2]
  have hb2 : m2.born ≤ 0 := by rw [← hm2]; exact hb
  have t2 := take_ref (now := 0) hk2 hr2 q1 q2
  have s1 : opS 0 [m] (takeOp bad) = (0, [m2], tellS [m2] ot0) := by
    unfold opS
    rw [if_pos ⟨rfl, hc⟩]
    show (0, (takeS 0 [m] ot0 bad).1, tellS (takeS 0 [m] ot0 bad).1 (takeS 0 [m] ot0 bad).2) = _
    rw [t1]
  have s2 : opS 0 [m2] (takeOp last) = (0, [m2], tellS [m2] ot0) := by
    unfold opS
    rw [if_pos ⟨rfl, hfam.code hlF⟩]
    show (0, (takeS 0 [m2] ot0 last).1, tellS (takeS 0 [m2] ot0 last).1 (takeS 0 [m2] ot0 last).2) = _
    rw [t2]
  have s3 : opS 0 [m2] passOp = (30000, [], tellS [] ot0) := by
    have : passS (0 + 30000) [m2] ot0 = ([], ot0) := by
      unfold passS
      rw [if_pos (by omega)]
      unfold passS goneO
      rw [if_neg (by simp [hr2])]
    unfold opS
    rw [if_neg (by simp [passOp]), if_pos (by simp [passOp])]
    show (0 + 30000, (passS (0 + 30000) [m2] ot0).1, tellS (passS (0 + 30000) [m2] ot0).1 (passS (0 + 30000) [m2] ot0).2) = _
    rw [this]
    rfl
  have hcr := cut_run hF (now := 30000) (init ++ [last]) (Rst.nil hF) (by simpa using hpm)
  rw [r1]
  simp only [runSt, s1, s2, s3]
  intro k o hk
  rw [la0, List.length_singleton] at hcr
  by_cases k1 : k < init.length
  · rw [List.getElem?_append_left (by omega)] at hk
    exact ⟨fun _ => r3 o (List.mem_of_getElem? hk), fun h => by omega, fun h => by omega, fun h => by omega⟩
  · rw [List.getElem?_append_right (by omega), r2] at hk
    obtain ⟨j, hj⟩ : ∃ j, k = init.length + j := ⟨k - init.length, by omega⟩
    subst hj
    rw [Nat.add_sub_cancel_left] at hk
    match j, hk with
    | 0, hk =>
      simp only [List.getElem?_cons_zero, Option.some.injEq] at hk
      subst hk
      exact ⟨fun _ => rfl, fun h => by omega, fun h => by omega, fun h => by omega⟩
    | 1, hk =>
      simp only [List.getElem?_cons_zero, List.getElem?_cons_succ, Option.some.injEq] at hk
      subst hk
      exact ⟨fun _ => rfl, fun _ => by simp [tellS, bytesS, hp2, totP, ot0], fun h => by omega, fun h => by omega⟩
    | 2, hk =>
      simp only [List.getElem?_cons_zero, List.getElem?_cons_succ, Option.some.injEq] at hk
      subst hk
      exact ⟨fun _ => rfl, fun h => by omega, fun _ => rfl, fun h => by omega⟩
    | j + 3, hk =>
      simp only [List.getElem?_cons_succ] at hk
      obtain ⟨_, t3, t4⟩ := hcr j o hk
      refine ⟨fun h => by rw [t3]; exact decide_eq_false (by omega), fun h => by omega, fun h => by omega, fun h => ⟨by rw [t3]; exact decide_eq_true (by omega), (t4 (by omega)).1⟩⟩
end Go.Proofs.Ytjmmmmdpkfpojaa
