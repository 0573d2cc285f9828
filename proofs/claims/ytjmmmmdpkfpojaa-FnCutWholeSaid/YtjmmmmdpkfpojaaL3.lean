import Derived.Test.YtjmmmmdpkfpojaaL2
import Derived.Test.YtjmmmmdpkfpojaaK2
import Derived.Test.YtjmmmmdpkfpojaaProg
import Derived.KernelRfl
set_option linter.unusedSimpArgs false
set_option linter.unusedVariables false
set_option maxRecDepth 20000
namespace Go.Proofs.Ytjmmmmdpkfpojaa
open Go Go.IW
section
attribute [local go_sem] List.getElem?_cons_zero List.getElem?_cons_succ Option.bind_some List.map_cons List.map_nil Nat.zero_add if_true List.getD_cons_zero List.getD_cons_succ List.contains_cons List.contains_nil Bool.or_true Bool.true_or Bool.or_false Bool.false_or Bool.not_true Bool.not_false true_and and_true rowA_whole mid_get rowO_rows cellO_rows upd_ne Nat.add_assoc Nat.add_zero List.all_cons List.all_nil one_bool one_int one_str one_ptr one_nilptr one_slice one_eslice one_nilslice one_func one_iface one_niliface Bool.and_true Bool.and_self List.length_cons List.length_nil Nat.one_ne_zero Nat.succ_ne_zero if_false List.set_cons_zero List.set_cons_succ lay_nil lay_1 lay_w Option.map_some cells_one rowA_some List.drop_succ_cons List.drop_zero List.take_succ_cons List.take_zero

/-! ### impl's do -/
def bytesI (l : List Mk) : Nat := (l.map fun m => totP m.ps).sum
def tellI (l : List Mk) (o : Ot) : Ot := { o with held := l.length, bytes := o.bytes + bytesI l }
def endsI (l : List Mk) : List En := (l.filter fun m => !m.ref).map toldI
def passI (now : Int) (l : List Mk) : List Mk × Ot := (l.filter fun m => !goneI now m, { ot0 with ended := endsI (l.filter (goneI now)) })
def doI (now : Int) (l : List Mk) (op : Op) : Int × List Mk × Ot :=
  if op.kind = 1 ∧ codeB op.pk = 0 then (now, (takeI now l ot0 op.pk).1, tellI (takeI now l ot0 op.pk).1 (takeI now l ot0 op.pk).2)
  else if op.kind = 2 ∧ 0 ≤ op.wait ∧ op.wait ≤ 1000000000 - now then (now + op.wait, (passI (now + op.wait) l).1, tellI (passI (now + op.wait) l).1 (passI (now + op.wait) l).2)
  else (now, l, tellI l { ot0 with code := 1 })
theorem bytesI_next {l : List Mk} {k : Nat} {m : Mk} (hm : l[k]? = some m) : bytesI (l.take (k + 1)) = bytesI (l.take k) + totP m.ps := by
  rw [List.take_add_one, hm]; simp [bytesI]
theorem bytesI_le {l : List Mk} {M : Nat} (h : ∀ m ∈ l, totP m.ps ≤ M) : bytesI l ≤ l.length * M := by
  induction l with
  | nil => simp [bytesI]
  | cons q ps ih =>
    have h1 := h q List.mem_cons_self
    have h2 := ih fun r hr => h r (List.mem_cons_of_mem _ hr)
    have h3 : bytesI (q :: ps) = totP q.ps + bytesI ps := by simp [bytesI]
    rw [h3, List.length_cons, Nat.add_mul, Nat.one_mul]
    omega
theorem endsI_next {l : List Mk} {k : Nat} {m : Mk} (hm : l[k]? = some m) : endsI (l.take (k + 1)) = if m.ref = true then endsI (l.take k) else endsI (l.take k) ++ [toldI m] := by
  rw [List.take_add_one, hm]
  unfold endsI
  rw [List.filter_append, List.map_append]
  cases hr : m.ref <;> simp [hr]
theorem endsI_len (l : List Mk) : (endsI l).length ≤ l.length := by
  unfold endsI
  rw [List.length_map]
  exact List.length_filter_le _ _
theorem openI_bytes (now : Int) (l : List Mk) (o : Ot) (p : Pk) : (openI now l o p).2.1.bytes = o.bytes := by
  unfold openI
  split
  · rfl
  · split
    · unfold goneOI; split <;> rfl
    · rfl
theorem takeI_bytes (now : Int) (l : List Mk) (o : Ot) (p : Pk) : (takeI now l o p).2.bytes = o.bytes := by
  unfold takeI
  split
  · rfl
  · split
    · rfl
    · simp only
      rw [← openI_bytes now l o p]
      unfold stepI
      simp only
      split
      · rfl
      · split <;> rfl
abbrev opO (o : Op) (vo vp : IV) : IObj := .rows [[.int .i64 o.kind, .int .i64 o.wait, .int .i64 o.pk.tos, .int .i64 o.pk.id, .bool o.pk.df, .bool o.pk.mf, .int .i64 o.pk.off, .int .i64 o.pk.ttl, .int .i64 o.pk.proto, .int .i64 o.pk.src, .int .i64 o.pk.dst, vo, vp]] 58 13 false
abbrev oZ : IObj := .rows [outRow ot0 .nilslice .nilslice .nilslice] 52 16 false
set_option maxHeartbeats 2000000 in
theorem do_c {h h0 : IH} {L : List As} {x N : Nat} {now : Int} {vl : IV} {rs : List (List IV)} {l : List Mk} {op : Op} {po pp : IV} (S : Sp h (box x (xO now vl) :: sl true 105 1 vl rs :: all2 mkR rs l :: old h0 :: L)) (a : PkAt h0 op.pk po pp) (hN : N ≤ 90000) (hl : l.length ≤ 16) (hok : ∀ m ∈ l, OkI N m) (hb : ∀ m ∈ l, 0 ≤ m.begun ∧ m.begun ≤ 1000000000)
    (hn : 0 ≤ now ∧ now ≤ 1000000000) (hsz : op.pk.opts.length + op.pk.pay.length ≤ 1048576) (hI : PkI op.pk) (hres : (doI now l op).2.1.length ≤ 16 ∧ ∀ m ∈ (doI now l op).2.1, OkI (N + 1) m)
    (hwh : codeB op.pk = 0 → op.pk.pay ≠ [] → ∀ m ∈ (openI now l ot0 op.pk).1, m.ref = false → (addI m op.pk).2 = true → ∀ q ∈ (addI m op.pk).1.ps, pTo q ≤ (addI m op.pk).1.en) :
    ICalls Try.prog 32 [.ptr x 0 0, .agg (opRow op po pp)] h fun r h' => ∃ vl rs vo vp ve, r = .agg (outRow (doI now l op).2.2 vo vp ve) ∧ Sp h' (box x (xO (doI now l op).1 vl) :: sl true 105 1 vl rs :: all2 mkR rs (doI now l op).2.1 :: byt vo (doI now l op).2.2.pk.opts :: byt vp (doI now l op).2.2.pk.pay :: endP ve (doI now l op).2.2.ended :: old h0 :: L) := by
  refine icalls (.of ok32) (Nat.le_of_ble_eq_true rfl) ?_
  unfold c32 opRow pkRow
  have y1 := a.o.one
  have y2 := a.p.one
  refine vc_split 3 (fun e g => ∃ (p4 p5 : Nat) (o' : Ot), e 0 = .ptr x 0 0 ∧ e 4 = .ptr p4 0 0 ∧ e 5 = .ptr p5 0 0 ∧ (doI now l op).2.2 = tellI (doI now l op).2.1 o' ∧ o'.bytes = 0 ∧ ISt g x (doI now l op).1 (doI now l op).2.1 p5 o' (old h0 :: box p4 oZ :: L)) ?_ ?_
  · simp only [CC.split]
    try simp (disch := (first | omega | assumption | (simp only [List.length_cons, List.length_nil, List.length_append]; first | done | omega) | (simp (disch := assumption) only [go_sem, one_as, Nat.reduceBEq]; done) | fail)) only [go_sem, Hold.p, HoldK.k, HoldL.K, HoldL.body, Nat.reduceBEq, Nat.reduceAdd, reduceIte]
    refine Sp.bxA S (by first | rfl | (rw [cells_one (by assumption)]; rfl)) (by first | rfl | simp (disch := assumption) only [go_sem, cells_one, one_as]) fun p3 g1 S E_g1 l_g1 => ?_
    try simp (disch := (first | omega | assumption | (simp only [List.length_cons, List.length_nil, List.length_append]; first | done | omega) | (simp (disch := assumption) only [go_sem, one_as, Nat.reduceBEq]; done) | fail)) only [go_sem, Hold.p, HoldK.k, HoldL.K, HoldL.body, Nat.reduceBEq, Nat.reduceAdd, reduceIte]
    refine Sp.zero S fun p4 g2 S E_g2 l_g2 => ?_
    try simp (disch := (first | omega | assumption | (simp only [List.length_cons, List.length_nil, List.length_append]; first | done | omega) | (simp (disch := assumption) only [go_sem, one_as, Nat.reduceBEq]; done) | fail)) only [go_sem, Hold.p, HoldK.k, HoldL.K, HoldL.body, Nat.reduceBEq, Nat.reduceAdd, reduceIte]
    refine Sp.zero S fun p5 g3 S E_g3 l_g3 => ?_
    have W : ISt g3 x now l p5 ot0 (old h0 :: box p3 (opO op po pp) :: box p4 oZ :: L) := by
      have S := ((S.slNil (x := false) (el := 5) (sz := 1)).slNil (x := false) (el := 5) (sz := 1)).slNil (x := false) (el := 113) (sz := 5)
      refine ⟨vl, rs, .nilslice, .nilslice, .nilslice, ?_⟩
      have S := by simpa only [List.map_cons, List.map_nil, List.getD_cons_zero, List.getD_cons_succ, List.drop_succ_cons, List.drop_zero, List.cons_append, List.nil_append] using Sp.sel S 10 [6, 7, 8, 3, 2, 1, 0, 9, 5, 4] (by simp only [List.length_cons]; omega) (by decide) (by decide)
      exact S
    have hdrop : ∀ {g : IH} {now' : Int} {l' : List Mk} {o' : Ot}, ISt g x now' l' p5 o' (old h0 :: box p3 (opO op po pp) :: box p4 oZ :: L) → ISt g x now' l' p5 o' (old h0 :: box p4 oZ :: L) := by
      rintro g now' l' o' ⟨vl, rs, vo, vp, ve, S⟩
      refine ⟨vl, rs, vo, vp, ve, ?_⟩
      have S := by simpa only [List.map_cons, List.map_nil, List.getD_cons_zero, List.getD_cons_succ, List.drop_succ_cons, List.drop_zero, List.cons_append, List.nil_append] using Sp.sel S 10 [0, 1, 2, 3, 4, 5, 6, 7, 9] (by simp only [List.length_cons]; omega) (by decide) (by decide)
      exact S
    have q2 := (S.bx 2 rfl).eq
    try simp (disch := (first | omega | assumption | (simp only [List.length_cons, List.length_nil, List.length_append]; first | done | omega) | (simp (disch := assumption) only [go_sem, one_as, Nat.reduceBEq]; done) | fail)) only [q2, go_sem, Hold.p, HoldK.k, HoldL.K, HoldL.body, Nat.reduceBEq, Nat.reduceAdd, reduceIte]
    have ag := a.ext (S.ol 6 rfl)
    refine guard_extT (v := .int .i64 (codeB op.pk)) (fun hk => ?_) (fun g4 E4 => ?_)
    · skip
      try simp (disch := (first | omega | assumption | (simp only [List.length_cons, List.length_nil, List.length_append]; first | done | omega) | (simp (disch := assumption) only [go_sem, one_as, Nat.reduceBEq]; done) | fail)) only [hk, go_sem, Hold.p, HoldK.k, HoldL.K, HoldL.body, Nat.reduceBEq, Nat.reduceAdd, reduceIte]
      exact codeIP_c g3 op.pk po pp ag (by omega) hI.off.1
    clear S
    obtain ⟨vl, rs, vo, vp, ve, S⟩ := W
    have S := S.ext E4
    try simp (disch := (first | omega | assumption | (simp only [List.length_cons, List.length_nil, List.length_append]; first | done | omega) | (simp (disch := assumption) only [go_sem, one_as, Nat.reduceBEq]; done) | fail)) only [go_sem, Hold.p, HoldK.k, HoldL.K, HoldL.body, Nat.reduceBEq, Nat.reduceAdd, reduceIte]
    refine test_of (fun hc => ?_) (fun hc => ?_)
    · have hc' : op.kind = 1 ∧ codeB op.pk = 0 := by simpa using hc
      obtain ⟨c1, c2, c3⟩ := codeB_ok hc'.2
      have hdo : doI now l op = (now, (takeI now l ot0 op.pk).1, tellI (takeI now l ot0 op.pk).1 (takeI now l ot0 op.pk).2) := if_pos hc'
      have q8 := (S.bx 8 rfl).eq
      try simp (disch := (first | omega | assumption | (simp only [List.length_cons, List.length_nil, List.length_append]; first | done | omega) | (simp (disch := assumption) only [go_sem, one_as, Nat.reduceBEq]; done) | fail)) only [q8, go_sem, Hold.p, HoldK.k, HoldL.K, HoldL.body, Nat.reduceBEq, Nat.reduceAdd, reduceIte]
      refine callA_of (take_c (o := ot0) ⟨vl, rs, vo, vp, ve, S⟩ a hN hl (by simp [ot0]) hok c1 c2 c3 (hwh hc'.2)) ?_
      clear S
      rintro r5 g5 W
      try simp (disch := (first | omega | assumption | (simp only [List.length_cons, List.length_nil, List.length_append]; first | done | omega) | (simp (disch := assumption) only [go_sem, one_as, Nat.reduceBEq]; done) | fail)) only [go_sem, Hold.p, HoldK.k, HoldL.K, HoldL.body, Nat.reduceBEq, Nat.reduceAdd, reduceIte]
      rw [hdo]
      refine ⟨p4, p5, (takeI now l ot0 op.pk).2, rfl, rfl, rfl, takeI_bytes _ _ _ _, hdrop W⟩
    · have hc' : ¬ (op.kind = 1 ∧ codeB op.pk = 0) := by simpa using hc
      have q0 := (S.bx 0 rfl).eq
      have q8 := (S.bx 8 rfl).eq
      try simp (disch := (first | omega | assumption | (simp only [List.length_cons, List.length_nil, List.length_append]; first | done | omega) | (simp (disch := assumption) only [go_sem, one_as, Nat.reduceBEq]; done) | fail)) only [q0, q8, go_sem, Hold.p, HoldK.k, HoldL.K, HoldL.body, Nat.reduceBEq, Nat.reduceAdd, reduceIte]
      refine guard_of (fun hk => ?_) (fun hk => ?_)
      · have hk' : op.kind = 2 := by simpa using hk
        have q0 := (S.bx 0 rfl).eq
        have q8 := (S.bx 8 rfl).eq
        try simp (disch := (first | omega | assumption | (simp only [List.length_cons, List.length_nil, List.length_append]; first | done | omega) | (simp (disch := assumption) only [go_sem, one_as, Nat.reduceBEq]; done) | fail)) only [q0, q8, hk, go_sem, Hold.p, HoldK.k, HoldL.K, HoldL.body, Nat.reduceBEq, Nat.reduceAdd, reduceIte]
        refine callA_of (isTime_c _ _ _ hn) ?_
        rintro r9 g9 ⟨rfl, rfl⟩
        have q0 := (S.bx 0 rfl).eq
        have q8 := (S.bx 8 rfl).eq
        try simp (disch := (first | omega | assumption | (simp only [List.length_cons, List.length_nil, List.length_append]; first | done | omega) | (simp (disch := assumption) only [go_sem, one_as, Nat.reduceBEq]; done) | fail)) only [q0, q8, hk, go_sem, Hold.p, HoldK.k, HoldL.K, HoldL.body, Nat.reduceBEq, Nat.reduceAdd, reduceIte]
        refine test_of (fun hw => ?_) (fun hw => ?_)
        · have hw' : 0 ≤ op.wait ∧ op.wait ≤ 1000000000 - now := by simpa using hw
          obtain ⟨now', hnow⟩ : ∃ n, n = now + op.wait := ⟨_, rfl⟩
          have w1 : wr .i64 (now + op.wait) = now' := by rw [wr64 _ (by omega), hnow]
          have hdo : doI now l op = (now', (passI now' l).1, tellI (passI now' l).1 (passI now' l).2) := by rw [hnow]; exact (if_neg hc').trans (if_pos ⟨hk', hw'.1, hw'.2⟩)
          rw [hdo]
          have q0 := (S.bx 0 rfl).eq
          have q8 := (S.bx 8 rfl).eq
          try simp (disch := (first | omega | assumption | (simp only [List.length_cons, List.length_nil, List.length_append]; first | done | omega) | (simp (disch := assumption) only [go_sem, one_as, Nat.reduceBEq]; done) | fail)) only [q0, q8, w1, go_sem, Hold.p, HoldK.k, HoldL.K, HoldL.body, Nat.reduceBEq, Nat.reduceAdd, reduceIte]
          refine st1_of (Nat.le_of_ble_eq_true rfl) (by first | rfl | assumption) fun g10 hg => ?_
          have l_g10 := n_set hg
          have S := S.set0 hg
          clear hg
          simp only [List.set_cons_zero, List.set_cons_succ, List.take_succ_cons, List.take_zero, List.drop_succ_cons, List.drop_zero, List.cons_append, List.nil_append, Nat.reduceAdd] at S
          try simp (disch := (first | omega | assumption | (simp only [List.length_cons, List.length_nil, List.length_append]; first | done | omega) | (simp (disch := assumption) only [go_sem, one_as, Nat.reduceBEq]; done) | fail)) only [go_sem, Hold.p, HoldK.k, HoldL.K, HoldL.body, Nat.reduceBEq, Nat.reduceAdd, reduceIte]
          refine callA_of (past_c S (by omega) hb) ?_
          clear S
          rintro r11 g11 ⟨vn, rg, rn, S⟩
          have hrl := a2_len S 1 rfl
          have z0 := (S.slA 0 rfl).one
          have len0 := (S.slA 0 rfl).lenF
          rw [hrl] at len0
          have hgl : (l.filter (goneI now')).length ≤ 16 := Nat.le_trans (List.length_filter_le _ _) hl
          obtain ⟨gone, hgone⟩ : ∃ g, g = l.filter (goneI now') := ⟨_, rfl⟩
          have hpas : passI now' l = (l.filter (fun m => !goneI now' m), { ot0 with ended := endsI gone }) := by rw [hgone]; rfl
          rw [hpas]
          rw [← hgone] at S hrl len0 hgl
          try simp (disch := (first | omega | assumption | (simp only [List.length_cons, List.length_nil, List.length_append]; first | done | omega) | (simp (disch := assumption) only [go_sem, one_as, Nat.reduceBEq]; done) | fail)) only [len0, go_sem, Hold.p, HoldK.k, HoldL.K, HoldL.body, Nat.reduceBEq, Nat.reduceAdd, reduceIte]
          refine loop_at (fun n e g => ∃ (k : Nat) (ve : IV), n = gone.length - k ∧ k ≤ gone.length ∧ e 0 = .ptr x 0 0 ∧ e 4 = .ptr p4 0 0 ∧ e 5 = .ptr p5 0 0 ∧ e 50 = r11 ∧ e 51 = .int .i64 (gone.length : Nat) ∧ e 52 = .int .i64 (k : Nat) ∧
            Sp g (sl false 105 1 r11 rg :: all2 mkR rg gone :: box x (xO now' vn) :: sl false 105 1 vn rn :: all2 mkR rn (l.filter fun m => !goneI now' m) :: box p5 (outO { ot0 with ended := endsI (gone.take k) } vo vp ve) :: byt vo ot0.pk.opts :: byt vp ot0.pk.pay :: endP ve (endsI (gone.take k)) :: old h0 :: box p4 oZ :: L)) gone.length ?_ ?_
          · refine ⟨0, ve, by omega, by omega, ?_⟩
            try simp (disch := (first | omega | assumption | (simp only [List.length_cons, List.length_nil, List.length_append]; first | done | omega) | (simp (disch := assumption) only [go_sem, one_as, Nat.reduceBEq]; done) | fail)) only [go_sem, Hold.p, HoldK.k, HoldL.K, HoldL.body, Nat.reduceBEq, Nat.reduceAdd, reduceIte]
            refine ⟨rfl, ?_⟩
            have S := by simpa only [List.map_cons, List.map_nil, List.getD_cons_zero, List.getD_cons_succ, List.drop_succ_cons, List.drop_zero, List.cons_append, List.nil_append] using Sp.sel S 12 [0, 1, 2, 3, 4, 5, 6, 7, 8, 9, 11] (by simp only [List.length_cons]; omega) (by decide) (by decide)
            exact S
          · clear S
            rintro n e g ⟨k, ve, rfl, hk2, i0, i4, i5, i50, i51, i52, S⟩
            try simp (disch := (first | omega | assumption | (simp only [List.length_cons, List.length_nil, List.length_append]; first | done | omega) | (simp (disch := assumption) only [go_sem, one_as, Nat.reduceBEq]; done) | fail)) only [i0, i4, i5, i50, i51, i52, go_sem, Hold.p, HoldK.k, HoldL.K, HoldL.body, Nat.reduceBEq, Nat.reduceAdd, reduceIte]
            refine test_dec (fun hb2 => ?_) (fun hb2 => ?_)
            · obtain ⟨m, hm⟩ : ∃ m, gone[k]? = some m := ⟨_, List.getElem?_eq_getElem (by omega : k < gone.length)⟩
              obtain ⟨q, vps, vf, hrow, hbq, k1, k2, k3⟩ := mk_at S 1 rfl hm
              have s0 := S.slA 0 rfl
              obtain ⟨a1, a2, hia, hal, har⟩ := s0.at hrow .i64
              have hcl := cellO_row har
              have qq := hbq.eq
              have hnx := endsI_next hm
              have hel := endsI_len (gone.take k)
              have hel2 : (gone.take k).length ≤ 16 := by rw [List.length_take]; omega
              have w2 : wr .i64 ((k : Int) + 1) = ((k + 1 : Nat) : Int) := by rw [wr64 _ (by omega)]; rfl
              have z8 := (S.slA 8 rfl).one
              try simp (disch := (first | omega | assumption | (simp only [List.length_cons, List.length_nil, List.length_append]; first | done | omega) | (simp (disch := assumption) only [go_sem, one_as, Nat.reduceBEq]; done) | fail)) only [i0, i4, i5, i50, i51, i52, hia, hcl, qq, go_sem, Hold.p, HoldK.k, HoldL.K, HoldL.body, Nat.reduceBEq, Nat.reduceAdd, reduceIte]
              refine test_of (fun hr => ?_) (fun hr => ?_)
              · have hr' : m.ref = false := by rwa [Bool.not_eq_true'] at hr
                rw [if_neg (by simp [hr'])] at hnx
                have q5 := (S.bx 5 rfl).eq
                try simp (disch := (first | omega | assumption | (simp only [List.length_cons, List.length_nil, List.length_append]; first | done | omega) | (simp (disch := assumption) only [go_sem, one_as, Nat.reduceBEq]; done) | fail)) only [q5, i0, i4, i5, i50, i51, i52, go_sem, Hold.p, HoldK.k, HoldL.K, HoldL.body, Nat.reduceBEq, Nat.reduceAdd, reduceIte]
                refine callA_of (told_c S hbq k2) ?_
                clear S
                rintro r12 g12 ⟨rfl, S⟩
                unfold enRow toldI
                have q5 := (S.bx 5 rfl).eq
                try simp (disch := (first | omega | assumption | (simp only [List.length_cons, List.length_nil, List.length_append]; first | done | omega) | (simp (disch := assumption) only [go_sem, one_as, Nat.reduceBEq]; done) | fail)) only [q5, i0, i4, i5, i50, i51, i52, go_sem, Hold.p, HoldK.k, HoldL.K, HoldL.body, Nat.reduceBEq, Nat.reduceAdd, reduceIte]
                refine Sp.bsl1 S (by first | rfl | (rw [cells_one (by assumption)]; rfl)) (by first | rfl | simp (disch := assumption) only [go_sem, cells_one, one_as]) fun p13 g13 S E_g13 l_g13 => ?_
                try simp only [cells_agg, cells_int, cells_bool, cells_ptr, cells_str] at S
                have q0 := (S.bx 0 rfl).eq
                have q6 := (S.bx 6 rfl).eq
                try simp (disch := (first | omega | assumption | (simp only [List.length_cons, List.length_nil, List.length_append]; first | done | omega) | (simp (disch := assumption) only [go_sem, one_as, Nat.reduceBEq]; done) | fail)) only [q0, q6, i0, i4, i5, i50, i51, i52, go_sem, Hold.p, HoldK.k, HoldL.K, HoldL.body, Nat.reduceBEq, Nat.reduceAdd, reduceIte]
                have S := by simpa only [List.map_cons, List.map_nil, List.getD_cons_zero, List.getD_cons_succ, List.drop_succ_cons, List.drop_zero, List.cons_append, List.nil_append] using Sp.sel S 12 [0, 9, 1, 2, 3, 4, 5, 6, 7, 8, 10, 11] (by simp only [List.length_cons]; omega) (by decide) (by decide)
                refine S.app1 (y := false) (by simp; omega) ?_
                clear S
                intro v14 g14 S z14
                have q6 := (S.bx 6 rfl).eq
                try simp (disch := (first | omega | assumption | (simp only [List.length_cons, List.length_nil, List.length_append]; first | done | omega) | (simp (disch := assumption) only [go_sem, one_as, Nat.reduceBEq]; done) | fail)) only [q6, i0, i4, i5, i50, i51, i52, go_sem, Hold.p, HoldK.k, HoldL.K, HoldL.body, Nat.reduceBEq, Nat.reduceAdd, reduceIte]
                refine st1_of (Nat.le_of_ble_eq_true rfl) (by first | rfl | assumption) fun g15 hg => ?_
                have l_g15 := n_set hg
                have S := S.set6 hg
                clear hg
                simp only [List.set_cons_zero, List.set_cons_succ, List.take_succ_cons, List.take_zero, List.drop_succ_cons, List.drop_zero, List.cons_append, List.nil_append, Nat.reduceAdd] at S
                try simp (disch := (first | omega | assumption | (simp only [List.length_cons, List.length_nil, List.length_append]; first | done | omega) | (simp (disch := assumption) only [go_sem, one_as, Nat.reduceBEq]; done) | fail)) only [i0, i4, i5, i50, i51, i52, w2, go_sem, Hold.p, HoldK.k, HoldL.K, HoldL.body, Nat.reduceBEq, Nat.reduceAdd, reduceIte]
                have S := by simpa only [List.map_cons, List.map_nil, List.getD_cons_zero, List.getD_cons_succ, List.drop_succ_cons, List.drop_zero, List.cons_append, List.nil_append] using Sp.sel S 11 [1, 2, 3, 4, 5, 6, 7, 8, 0, 9, 10] (by simp only [List.length_cons]; omega) (by decide) (by decide)
                refine ⟨_, by omega, k + 1, v14, rfl, by omega, rfl, ?_⟩
                rw [hnx]
                simp only [endP, List.map_append, List.map_cons, List.map_nil]
                exact S
              · have hr' : m.ref = true := by rwa [Bool.not_eq_false'] at hr
                rw [if_pos hr'] at hnx
                try simp (disch := (first | omega | assumption | (simp only [List.length_cons, List.length_nil, List.length_append]; first | done | omega) | (simp (disch := assumption) only [go_sem, one_as, Nat.reduceBEq]; done) | fail)) only [i0, i4, i5, i50, i51, i52, w2, go_sem, Hold.p, HoldK.k, HoldL.K, HoldL.body, Nat.reduceBEq, Nat.reduceAdd, reduceIte]
                refine ⟨_, by omega, k + 1, ve, rfl, by omega, rfl, ?_⟩
                rw [hnx]
                exact S
            · rw [List.take_of_length_le (by omega)] at S
              try simp (disch := (first | omega | assumption | (simp only [List.length_cons, List.length_nil, List.length_append]; first | done | omega) | (simp (disch := assumption) only [go_sem, one_as, Nat.reduceBEq]; done) | fail)) only [i0, i4, i5, i50, i51, i52, go_sem, Hold.p, HoldK.k, HoldL.K, HoldL.body, Nat.reduceBEq, Nat.reduceAdd, reduceIte]
              refine ⟨p4, p5, { ot0 with ended := endsI gone }, rfl, rfl, rfl, rfl, vn, rn, vo, vp, ve, ?_⟩
              have S := by simpa only [List.map_cons, List.map_nil, List.getD_cons_zero, List.getD_cons_succ, List.drop_succ_cons, List.drop_zero, List.cons_append, List.nil_append] using Sp.sel S 11 [3, 2, 4, 5, 6, 7, 8, 9, 10] (by simp only [List.length_cons]; omega) (by decide) (by decide)
              have S := S.lax
              have S := by simpa only [List.map_cons, List.map_nil, List.getD_cons_zero, List.getD_cons_succ, List.drop_succ_cons, List.drop_zero, List.cons_append, List.nil_append] using Sp.sel S 9 [1, 0, 2, 3, 4, 5, 6, 7, 8] (by simp only [List.length_cons]; omega) (by decide) (by decide)
              exact S
        · have hw' : ¬ (0 ≤ op.wait ∧ op.wait ≤ 1000000000 - now) := by simpa using hw
          have hc2 : ¬ (op.kind = 2 ∧ 0 ≤ op.wait ∧ op.wait ≤ 1000000000 - now) := fun h => hw' h.2
          have hdo : doI now l op = (now, l, tellI l { ot0 with code := 1 }) := (if_neg hc').trans (if_neg hc2)
          have q3 := (S.bx 3 rfl).eq
          try simp (disch := (first | omega | assumption | (simp only [List.length_cons, List.length_nil, List.length_append]; first | done | omega) | (simp (disch := assumption) only [go_sem, one_as, Nat.reduceBEq]; done) | fail)) only [q3, hk, go_sem, Hold.p, HoldK.k, HoldL.K, HoldL.body, Nat.reduceBEq, Nat.reduceAdd, reduceIte]
          refine st1_of (Nat.le_of_ble_eq_true rfl) (by first | rfl | assumption) fun g10 hg => ?_
          have l_g10 := n_set hg
          have S := S.set3 hg
          clear hg
          simp only [List.set_cons_zero, List.set_cons_succ, List.take_succ_cons, List.take_zero, List.drop_succ_cons, List.drop_zero, List.cons_append, List.nil_append, Nat.reduceAdd] at S
          try simp (disch := (first | omega | assumption | (simp only [List.length_cons, List.length_nil, List.length_append]; first | done | omega) | (simp (disch := assumption) only [go_sem, one_as, Nat.reduceBEq]; done) | fail)) only [go_sem, Hold.p, HoldK.k, HoldL.K, HoldL.body, Nat.reduceBEq, Nat.reduceAdd, reduceIte]
          rw [hdo]
          exact ⟨p4, p5, { ot0 with code := 1 }, rfl, rfl, rfl, rfl, hdrop ⟨vl, rs, vo, vp, ve, S⟩⟩
      · have hk' : ¬ op.kind = 2 := by simpa using hk
        have hc2 : ¬ (op.kind = 2 ∧ 0 ≤ op.wait ∧ op.wait ≤ 1000000000 - now) := fun h => hk' h.1
        have hdo : doI now l op = (now, l, tellI l { ot0 with code := 1 }) := (if_neg hc').trans (if_neg hc2)
        have q3 := (S.bx 3 rfl).eq
        try simp (disch := (first | omega | assumption | (simp only [List.length_cons, List.length_nil, List.length_append]; first | done | omega) | (simp (disch := assumption) only [go_sem, one_as, Nat.reduceBEq]; done) | fail)) only [q3, hk, go_sem, Hold.p, HoldK.k, HoldL.K, HoldL.body, Nat.reduceBEq, Nat.reduceAdd, reduceIte]
        refine st1_of (Nat.le_of_ble_eq_true rfl) (by first | rfl | assumption) fun g10 hg => ?_
        have l_g10 := n_set hg
        have S := S.set3 hg
        clear hg
        simp only [List.set_cons_zero, List.set_cons_succ, List.take_succ_cons, List.take_zero, List.drop_succ_cons, List.drop_zero, List.cons_append, List.nil_append, Nat.reduceAdd] at S
        try simp (disch := (first | omega | assumption | (simp only [List.length_cons, List.length_nil, List.length_append]; first | done | omega) | (simp (disch := assumption) only [go_sem, one_as, Nat.reduceBEq]; done) | fail)) only [go_sem, Hold.p, HoldK.k, HoldL.K, HoldL.body, Nat.reduceBEq, Nat.reduceAdd, reduceIte]
        rw [hdo]
        exact ⟨p4, p5, { ot0 with code := 1 }, rfl, rfl, rfl, rfl, hdrop ⟨vl, rs, vo, vp, ve, S⟩⟩
  clear S hb hwh hok hl
  generalize doI now l op = D at hres ⊢
  obtain ⟨now', l', od⟩ := D
  simp only at hres ⊢
  obtain ⟨hl, hok⟩ := hres
  rintro e g ⟨p4, p5, o', i0, i4, i5, hod, hob, vl, rs, vo, vp, ve, S⟩
  simp only [CC.split]
  rw [hod]
  have x1 := (S.slA 4 rfl).one
  have x2 := (S.slA 5 rfl).one
  have x3 := (S.slA 6 rfl).one
  have hrl := a2_len S 2 rfl
  have htm : ∀ m ∈ l', ∀ k, totP (m.ps.take k) ≤ 90001 * 65535 := fun m hm k => Nat.le_trans (totP_le fun q hq => ((hok m hm).s.q q (List.mem_of_mem_take hq)).2) (Nat.mul_le_mul_right _ (by have := (hok m hm).s.n; rw [List.length_take]; omega))
  have htm' : ∀ m ∈ l', totP m.ps ≤ 90001 * 65535 := fun m hm => by have := htm m hm m.ps.length; rwa [List.take_length] at this
  have hbl : ∀ k, bytesI (l'.take k) ≤ 100 * (90001 * 65535) := fun k => Nat.le_trans (bytesI_le fun m hm => htm' m (List.mem_of_mem_take hm)) (Nat.mul_le_mul_right _ (by rw [List.length_take]; omega))
  have q0 := (S.bx 0 rfl).eq
  have q3 := (S.bx 3 rfl).eq
  have s1 := S.slA 1 rfl
  have len_s1 := s1.lenF
  have z1 := s1.one
  try simp (disch := (first | omega | assumption | (simp only [List.length_cons, List.length_nil, List.length_append]; first | done | omega) | (simp (disch := assumption) only [go_sem, one_as, Nat.reduceBEq]; done) | fail)) only [q0, q3, len_s1, z1, i0, i4, i5, hrl, go_sem, Hold.p, HoldK.k, HoldL.K, HoldL.body, Nat.reduceBEq, Nat.reduceAdd, reduceIte]
  refine st1_of (Nat.le_of_ble_eq_true rfl) (by first | rfl | assumption) fun g2 hg => ?_
  have l_g2 := n_set hg
  have S := S.set3 hg
  clear hg
  simp only [List.set_cons_zero, List.set_cons_succ, List.take_succ_cons, List.take_zero, List.drop_succ_cons, List.drop_zero, List.cons_append, List.nil_append, Nat.reduceAdd] at S
  have q0 := (S.bx 0 rfl).eq
  have s1 := S.slA 1 rfl
  have len_s1 := s1.lenF
  have z1 := s1.one
  try simp (disch := (first | omega | assumption | (simp only [List.length_cons, List.length_nil, List.length_append]; first | done | omega) | (simp (disch := assumption) only [go_sem, one_as, Nat.reduceBEq]; done) | fail)) only [q0, len_s1, z1, i0, i4, i5, hrl, go_sem, Hold.p, HoldK.k, HoldL.K, HoldL.body, Nat.reduceBEq, Nat.reduceAdd, reduceIte]
  refine loop_at (fun n e g => ∃ (k : Nat), n = l'.length - k ∧ k ≤ l'.length ∧ e 4 = .ptr p4 0 0 ∧ e 5 = .ptr p5 0 0 ∧ e 78 = vl ∧ e 79 = .int .i64 (l'.length : Nat) ∧ e 80 = .int .i64 (k : Nat) ∧
    Sp g (box x (xO now' vl) :: sl true 105 1 vl rs :: all2 mkR rs l' :: box p5 (outO { o' with held := l'.length, bytes := (bytesI (l'.take k) : Nat) } vo vp ve) :: byt vo o'.pk.opts :: byt vp o'.pk.pay :: endP ve o'.ended :: old h0 :: box p4 oZ :: L)) l'.length ?_ ?_
  · refine ⟨0, by omega, by omega, ?_⟩
    try simp (disch := (first | omega | assumption | (simp only [List.length_cons, List.length_nil, List.length_append]; first | done | omega) | (simp (disch := assumption) only [go_sem, one_as, Nat.reduceBEq]; done) | fail)) only [i4, i5, go_sem, Hold.p, HoldK.k, HoldL.K, HoldL.body, Nat.reduceBEq, Nat.reduceAdd, reduceIte]
    refine ⟨rfl, ?_⟩
    rw [hob] at S
    exact S
  · clear S i0 i4 i5
    rintro n e g ⟨k, rfl, hk, i4, i5, i78, i79, i80, S⟩
    try simp (disch := (first | omega | assumption | (simp only [List.length_cons, List.length_nil, List.length_append]; first | done | omega) | (simp (disch := assumption) only [go_sem, one_as, Nat.reduceBEq]; done) | fail)) only [i4, i5, i78, i79, i80, go_sem, Hold.p, HoldK.k, HoldL.K, HoldL.body, Nat.reduceBEq, Nat.reduceAdd, reduceIte]
    refine test_dec (fun hb => ?_) (fun hb => ?_)
    · obtain ⟨m, hm⟩ : ∃ m, l'[k]? = some m := ⟨_, List.getElem?_eq_getElem (by omega : k < l'.length)⟩
      have hokm := hok m (List.mem_of_getElem? hm)
      have hmn := hokm.s.n
      have w1 : wr .i64 ((k : Int) + 1) = ((k + 1 : Nat) : Int) := by rw [wr64 _ (by omega)]; rfl
      have S := by simpa only [List.map_cons, List.map_nil, List.getD_cons_zero, List.getD_cons_succ, List.drop_succ_cons, List.drop_zero, List.cons_append, List.nil_append] using Sp.sel S 9 [2, 0, 1, 3, 4, 5, 6, 7, 8] (by simp only [List.length_cons]; omega) (by decide) (by decide)
      obtain ⟨a0, r, bs, xs1, ys, hrs, hl1, ha0, hx1, S⟩ := S.a2at hm
      obtain ⟨q, vps, vf, prs, hr, S⟩ := mk_open S
      rw [hr] at hrs
      have hrow : rs[k]? = some [.ptr q 0 0] := by rw [hrs, ← ha0]; simp
      have s7 := S.slA 7 rfl
      obtain ⟨a1, a2, hia, hal, har⟩ := s7.at hrow .i64
      have hcl := cellO_row har
      have hpl := a2_len S 2 rfl
      have q0 := (S.bx 0 rfl).eq
      have s1 := S.slA 1 rfl
      have len_s1 := s1.lenF
      have z1 := s1.one
      try simp (disch := (first | omega | assumption | (simp only [List.length_cons, List.length_nil, List.length_append]; first | done | omega) | (simp (disch := assumption) only [go_sem, one_as, Nat.reduceBEq]; done) | fail)) only [q0, len_s1, z1, i4, i5, i78, i79, i80, hia, hcl, hpl, go_sem, Hold.p, HoldK.k, HoldL.K, HoldL.body, Nat.reduceBEq, Nat.reduceAdd, reduceIte]
      refine loop_at (fun n e g => ∃ (j : Nat), n = m.ps.length - j ∧ j ≤ m.ps.length ∧ e 4 = .ptr p4 0 0 ∧ e 5 = .ptr p5 0 0 ∧ e 78 = vl ∧ e 79 = .int .i64 (l'.length : Nat) ∧ e 80 = .int .i64 (k : Nat) ∧ e 87 = vps ∧ e 88 = .int .i64 (m.ps.length : Nat) ∧ e 89 = .int .i64 (j : Nat) ∧
        Sp g (box q (mkO m vps m.en vf m.ref) :: sl false 116 2 vps prs :: all2 pcR prs m.ps :: firstP vf m.first :: all2 mkR a0 xs1 :: all2 mkR bs ys :: box x (xO now' vl) :: sl true 105 1 vl rs :: box p5 (outO { o' with held := l'.length, bytes := (bytesI (l'.take k) + totP (m.ps.take j) : Nat) } vo vp ve) :: byt vo o'.pk.opts :: byt vp o'.pk.pay :: endP ve o'.ended :: old h0 :: box p4 oZ :: L)) m.ps.length ?_ ?_
      · refine ⟨0, by omega, by omega, ?_⟩
        try simp (disch := (first | omega | assumption | (simp only [List.length_cons, List.length_nil, List.length_append]; first | done | omega) | (simp (disch := assumption) only [go_sem, one_as, Nat.reduceBEq]; done) | fail)) only [i4, i5, i78, i79, i80, go_sem, Hold.p, HoldK.k, HoldL.K, HoldL.body, Nat.reduceBEq, Nat.reduceAdd, reduceIte]
        exact ⟨rfl, S⟩
      · clear S i4 i5 i78 i79 i80 s7 hal hia har hcl s1 len_s1 z1
        rintro n e g ⟨j, rfl, hj, i4, i5, i78, i79, i80, i87, i88, i89, S⟩
        try simp (disch := (first | omega | assumption | (simp only [List.length_cons, List.length_nil, List.length_append]; first | done | omega) | (simp (disch := assumption) only [go_sem, one_as, Nat.reduceBEq]; done) | fail)) only [i4, i5, i78, i79, i80, i87, i88, i89, go_sem, Hold.p, HoldK.k, HoldL.K, HoldL.body, Nat.reduceBEq, Nat.reduceAdd, reduceIte]
        refine test_dec (fun hb2 => ?_) (fun hb2 => ?_)
        · obtain ⟨x', hx'⟩ : ∃ q, m.ps[j]? = some q := ⟨_, List.getElem?_eq_getElem (by omega : j < m.ps.length)⟩
          have hqs := hokm.s.q x' (List.mem_of_getElem? hx')
          obtain ⟨vd, hrw, hvd⟩ := pcs_at S 2 rfl hx'
          have s1 := S.slA 1 rfl
          obtain ⟨a1, a2, hia, hal, har⟩ := s1.at hrw .i64
          have d1 := hvd.one
          have d2 := hvd.lenF
          rw [strRows_len] at d2
          have w3 : wr .i64 ((j : Int) + 1) = ((j + 1 : Nat) : Int) := by rw [wr64 _ (by omega)]; rfl
          have hnx := totP_next hx'
          have t1 := htm m (List.mem_of_getElem? hm) j
          have t2 := hbl k
          have w2 : wr .i64 (((bytesI (l'.take k) + totP (m.ps.take j) : Nat) : Int) + (x'.2.length : Int)) = ((bytesI (l'.take k) + totP (m.ps.take (j + 1)) : Nat) : Int) := by rw [wr64 _ (by omega), hnx]; omega
          try simp (disch := (first | omega | assumption | (simp only [List.length_cons, List.length_nil, List.length_append]; first | done | omega) | (simp (disch := assumption) only [go_sem, one_as, Nat.reduceBEq]; done) | fail)) only [i4, i5, i78, i79, i80, i87, i88, i89, hia, har, d1, go_sem, Hold.p, HoldK.k, HoldL.K, HoldL.body, Nat.reduceBEq, Nat.reduceAdd, reduceIte]
          refine Sp.zero S fun p11 g11 S E_g11 l_g11 => ?_
          have q0 := (S.bx 0 rfl).eq
          try simp (disch := (first | omega | assumption | (simp only [List.length_cons, List.length_nil, List.length_append]; first | done | omega) | (simp (disch := assumption) only [go_sem, one_as, Nat.reduceBEq]; done) | fail)) only [q0, d1, go_sem, Hold.p, HoldK.k, HoldL.K, HoldL.body, Nat.reduceBEq, Nat.reduceAdd, reduceIte]
          refine stw_of rfl rfl (by first | rfl | simp (disch := assumption) only [go_sem, cells_one, one_as]) fun g12 hg => ?_
          have l_g12 := n_set hg
          have S := S.set0 hg
          clear hg
          have q0 := (S.bx 0 rfl).eq
          have q9 := (S.bx 9 rfl).eq
          try simp (disch := (first | omega | assumption | (simp only [List.length_cons, List.length_nil, List.length_append]; first | done | omega) | (simp (disch := assumption) only [go_sem, one_as, Nat.reduceBEq]; done) | fail)) only [q0, q9, i4, i5, i78, i79, i80, i87, i88, i89, d2, w2, go_sem, Hold.p, HoldK.k, HoldL.K, HoldL.body, Nat.reduceBEq, Nat.reduceAdd, reduceIte]
          refine st1_of (Nat.le_of_ble_eq_true rfl) (by first | rfl | assumption) fun g13 hg => ?_
          have l_g13 := n_set hg
          have S := S.set9 hg
          clear hg
          simp only [List.set_cons_zero, List.set_cons_succ, List.take_succ_cons, List.take_zero, List.drop_succ_cons, List.drop_zero, List.cons_append, List.nil_append, Nat.reduceAdd] at S
          try simp (disch := (first | omega | assumption | (simp only [List.length_cons, List.length_nil, List.length_append]; first | done | omega) | (simp (disch := assumption) only [go_sem, one_as, Nat.reduceBEq]; done) | fail)) only [i4, i5, i78, i79, i80, i87, i88, i89, w3, go_sem, Hold.p, HoldK.k, HoldL.K, HoldL.body, Nat.reduceBEq, Nat.reduceAdd, reduceIte]
          exact ⟨_, by omega, j + 1, rfl, by omega, rfl, S.drop⟩
        · have : j = m.ps.length := by omega
          subst this
          have hnx := bytesI_next hm
          rw [List.take_length, ← hnx] at S
          have S := i_close S
          rw [← hl1, ← hrs] at S
          try simp (disch := (first | omega | assumption | (simp only [List.length_cons, List.length_nil, List.length_append]; first | done | omega) | (simp (disch := assumption) only [go_sem, one_as, Nat.reduceBEq]; done) | fail)) only [i4, i5, i78, i79, i80, w1, go_sem, Hold.p, HoldK.k, HoldL.K, HoldL.body, Nat.reduceBEq, Nat.reduceAdd, reduceIte]
          exact ⟨_, by omega, k + 1, rfl, by omega, rfl, S⟩
    · have : k = l'.length := by omega
      subst this
      rw [List.take_length] at S
      have q3 := (S.bx 3 rfl).eq
      have q8 := (S.bx 8 rfl).eq
      try simp (disch := (first | omega | assumption | (simp only [List.length_cons, List.length_nil, List.length_append]; first | done | omega) | (simp (disch := assumption) only [go_sem, one_as, Nat.reduceBEq]; done) | fail)) only [q3, q8, i4, i5, go_sem, Hold.p, HoldK.k, HoldL.K, HoldL.body, Nat.reduceBEq, Nat.reduceAdd, reduceIte]
      refine stw_of rfl rfl (by first | rfl | simp (disch := assumption) only [go_sem, cells_one, one_as]) fun g10 hg => ?_
      have l_g10 := n_set hg
      have S := S.set8 hg
      clear hg
      have q8 := (S.bx 8 rfl).eq
      try simp (disch := (first | omega | assumption | (simp only [List.length_cons, List.length_nil, List.length_append]; first | done | omega) | (simp (disch := assumption) only [go_sem, one_as, Nat.reduceBEq]; done) | fail)) only [q8, i4, i5, go_sem, Hold.p, HoldK.k, HoldL.K, HoldL.body, Nat.reduceBEq, Nat.reduceAdd, reduceIte]
      have ht : tellI l' o' = { o' with held := l'.length, bytes := (bytesI l' : Nat) } := by unfold tellI; rw [hob, Int.zero_add]
      rw [ht]
      refine ⟨vl, rs, vo, vp, ve, rfl, ?_⟩
      have S := by simpa only [List.map_cons, List.map_nil, List.getD_cons_zero, List.getD_cons_succ, List.drop_succ_cons, List.drop_zero, List.cons_append, List.nil_append] using Sp.sel S 9 [0, 1, 2, 4, 5, 6, 7] (by simp only [List.length_cons]; omega) (by decide) (by decide)
      exact S
end
end Go.Proofs.Ytjmmmmdpkfpojaa

set_option maxRecDepth 20000
namespace Go.Proofs.Ytjmmmmdpkfpojaa
open Go Go.IW

/-! ### The two sides put together alike -/
structure B1 (m : Mk) (s : Ms) : Prop where
  b : Both m s
  z : s.has = true → s.first.off = 0
  e : m.ref = true → m.en = -1
section
variable {α β : Type} {R : α → β → Prop} {l : List α} {s : List β}
theorem a2_find {f : α → Bool} {g : β → Bool} (h : All2 R l s) (hf : ∀ a b, R a b → f a = g b) : l.findIdx? f = s.findIdx? g := by
  induction h with
  | nil => rfl
  | cons h _ ih =>
    rw [List.findIdx?_cons, List.findIdx?_cons, hf _ _ h, ih]
theorem a2_eraseIdx (h : All2 R l s) (i : Nat) : All2 R (l.eraseIdx i) (s.eraseIdx i) := by
  induction h generalizing i with
  | nil => exact .nil
  | cons h t ih => cases i with
    | zero => exact t
    | succ i => exact .cons h (ih i)
theorem a2_set (h : All2 R l s) (i : Nat) {a : α} {b : β} (hr : R a b) : All2 R (l.set i a) (s.set i b) := by
  induction h generalizing i with
  | nil => exact .nil
  | cons h t ih => cases i with
    | zero => exact .cons hr t
    | succ i => exact .cons h (ih i)
theorem a2_get (h : All2 R l s) {i : Nat} {a : α} (ha : l[i]? = some a) : ∃ b, s[i]? = some b ∧ R a b := by
  induction h generalizing i with
  | nil => simp at ha
  | cons h t ih => cases i with
    | zero => simp at ha; subst ha; exact ⟨_, rfl, h⟩
    | succ i => simpa using ih (by simpa using ha)
end
theorem addI_shape (m : Mk) (p : Pk) : ∃ m2 : Mk, m2.ref = m.ref ∧ (addI m p = (m.refuse, false) ∨ addI m p = addEnd m2 m2.first) := by
  unfold addI
  simp only
  split
  · exact ⟨m, rfl, .inl rfl⟩
  · split
    · exact ⟨m, rfl, .inl rfl⟩
    · rename_i same _ _
      obtain ⟨m1, hm1⟩ : ∃ m1 : Mk, m1 = if p.mf = false then { m with en := p.off + (p.pay.length : Int) } else m := ⟨_, rfl⟩
      have h1 : m1.ref = m.ref := by rw [hm1]; split <;> rfl
      rw [← hm1]
      obtain ⟨m2, hm2⟩ : ∃ m2 : Mk, m2 = if same = true then m1 else { m1 with ps := m1.ps ++ [(p.off, p.pay)], first := if p.off = 0 then some p else m1.first } := ⟨_, rfl⟩
      have h2 : m2.ref = m.ref := by rw [hm2]; split <;> exact h1
      rw [← hm2]
      refine ⟨m2, h2, .inr ?_⟩
      unfold addEnd
      cases m2.first <;> rfl
theorem addI_ref {m : Mk} {p : Pk} (h : m.ref = false) : (addI m p).1.ref = true → (addI m p).1.en = -1 := by
  obtain ⟨m2, h2, h3 | h3⟩ := addI_shape m p
  · rw [h3]; intro _; rfl
  · rw [h3]
    cases m2.first with
    | none =>
      intro h4
      have h4' : m2.ref = true := h4
      rw [h2, h] at h4'; cases h4'
    | some f =>
      simp only [addEnd]
      split
      · intro h4
        have h4' : m2.ref = true := h4
        rw [h2, h] at h4'; cases h4'
      · split
        · intro _; rfl
        · intro h4
          have h4' : m2.ref = true := h4
          rw [h2, h] at h4'; cases h4'
theorem addS_shape2 (m : Ms) (p : Pk) : ∃ (ref : Bool) (e2 : Int) (ps : Pcs), addS m p = if ref = true then { m with ps := [], en := e2, ref := true, has := false, first := if p.off = 0 ∧ m.has = false then p else m.first } else { m with ps := ps, en := e2, ref := false, has := decide (p.off = 0) || m.has, first := if p.off = 0 ∧ m.has = false then p else m.first } := ⟨_, _, _, rfl⟩
theorem addS_zero {s : Ms} {p : Pk} (h : s.has = true → s.first.off = 0) : (addS s p).has = true → (addS s p).first.off = 0 := by
  obtain ⟨ref, e2, ps, e⟩ := addS_shape2 s p
  rw [e]
  cases ref with
  | true => intro h1; cases h1
  | false =>
    intro h1
    have h1' : (decide (p.off = 0) || s.has) = true := h1
    show (if p.off = 0 ∧ s.has = false then p else s.first).off = 0
    by_cases h2 : p.off = 0 ∧ s.has = false
    · rw [if_pos h2]; exact h2.1
    · rw [if_neg h2]
      by_cases h3 : s.has = true
      · exact h h3
      · exfalso
        have h4 : s.has = false := by simpa using h3
        rw [h4, Bool.or_false] at h1'
        exact h2 ⟨by simpa using h1', h4⟩
theorem b1_add {m : Mk} {s : Ms} {p : Pk} (hb : B1 m s) (hr : m.ref = false) (ho : 0 ≤ p.off) (hp : p.pay ≠ []) : B1 (addI m p).1 (addS s p) ∧ (addI m p).2 = wholeS (addS s p) ∧ ((addI m p).2 = true → wholeI (addI m p).1 = wholePk (addS s p)) := by
  obtain ⟨h1, h2, h3⟩ := add_both hb.b hr ho hp
  refine ⟨⟨h1, addS_zero hb.z, addI_ref hr⟩, h2, fun hw => ?_⟩
  obtain ⟨h4, h5⟩ := h3 hw
  obtain ⟨e1, e2, e3, _⟩ := h1.on h4
  have hhas : (addS s p).has = true := by
    cases hh : (addS s p).has with
    | true => rfl
    | false => rw [hh, h5] at e3; simp at e3
  have hz := addS_zero hb.z hhas
  unfold wholeI wholePk
  rw [h5, e1, e2]
  simp only [Option.getD_some]
  rw [← hz]
theorem b1_new (p : Pk) (now : Int) : B1 (mkNew p now) (msNew p now) :=
  ⟨⟨rfl, rfl, rfl, rfl, rfl, rfl, fun h => by simp [mkNew] at h, fun _ => ⟨rfl, rfl, rfl, ⟨by simp [msNew], by simp [msNew], by simp [msNew], by simp [msNew], by simp [msNew], .inl rfl⟩⟩⟩, fun h => by simp [msNew] at h, fun h => by simp [mkNew] at h⟩
theorem b1_told {m : Mk} {s : Ms} (hb : B1 m s) (o : Ot) : goneOI o m = goneO o s true := by
  have h1 := hb.b
  have h2 := hb.b.ref
  unfold goneOI goneO
  cases hr : m.ref with
  | true => rw [← h2, hr]; simp
  | false =>
    rw [← h2, hr]
    have h3 := (h1.on hr).2.2.1
    have h4 : toldI m = toldS s := by
      unfold toldI toldS
      rw [h1.src, h1.dst, h1.proto, h1.id, h3]
      cases s.has <;> rfl
    simp [h4]
theorem b1_key {m : Mk} {s : Ms} (p : Pk) (hb : B1 m s) : keyI p m = keyS p s := by
  unfold keyI keyS
  rw [hb.b.src, hb.b.dst, hb.b.proto, hb.b.id]
theorem b1_ok {N : Nat} {m : Mk} {s : Ms} (hb : B1 m s) (hs : OkM N s) : OkI N m := by
  cases hr : m.ref with
  | true =>
    obtain ⟨h1, h2, _⟩ := hb.b.off hr
    exact ⟨⟨by rw [h1]; simp, by rw [h1]; simp, by rw [hb.e hr]; omega⟩, fun f hf => by rw [h2] at hf; cases hf⟩
  | false =>
    obtain ⟨h1, h2, h3, _⟩ := hb.b.on hr
    refine ⟨⟨by rw [h1]; exact hs.s.n, by rw [h1]; exact hs.s.q, by rw [h2]; exact hs.s.e⟩, fun f hf => ?_⟩
    rw [h3] at hf
    split at hf
    · cases hf; exact hs.o
    · cases hf
theorem b1_tot {m : Mk} {s : Ms} (hb : B1 m s) : m.ps = s.ps := by
  cases hr : m.ref with
  | true => obtain ⟨h1, _, h2, _⟩ := hb.b.off hr; rw [h1, h2]
  | false => exact (hb.b.on hr).1
theorem tell_both {l : List Mk} {s : List Ms} (h : All2 B1 l s) (o : Ot) : tellI l o = tellS s o := by
  have h1 : bytesI l = bytesS s := by
    induction h with
    | nil => rfl
    | cons h _ ih => unfold bytesI bytesS at *; simp only [List.map_cons, List.sum_cons, ih, b1_tot h]
  unfold tellI tellS
  rw [h1, h.len]
theorem open_both {l : List Mk} {s : List Ms} (h : All2 B1 l s) (now : Int) (o : Ot) (p : Pk) : All2 B1 (openI now l o p).1 (openS now s o p).1 ∧ (openI now l o p).2 = (openS now s o p).2 := by
  unfold openI openS
  rw [a2_find h fun a b => b1_key p]
  cases s.findIdx? (keyS p) with
  | some k => exact ⟨h, rfl⟩
  | none =>
    simp only [h.len]
    split
    · rename_i h16
      refine ⟨(a2_eraseIdx h 0).app (.cons (b1_new p now) .nil), ?_⟩
      cases h with
      | nil => simp at h16
      | cons h _ => simp only [List.headD_cons, b1_told h]
    · exact ⟨h.app (.cons (b1_new p now) .nil), rfl⟩
theorem take_both {l : List Mk} {s : List Ms} {N : Nat} {now : Int} (h : All2 B1 l s) (hL : LOk N now s) (hn : 0 ≤ now) (o : Ot) (p : Pk) (ho : 0 ≤ p.off) : All2 B1 (takeI now l o p).1 (takeS now s o p).1 ∧ (takeI now l o p).2 = (takeS now s o p).2 := by
  unfold takeI takeS
  split
  · exact ⟨h, rfl⟩
  · split
    · exact ⟨h, rfl⟩
    · rename_i h1 h2
      obtain ⟨a, b⟩ := open_both h now o p
      obtain ⟨_, c, _⟩ := openS_ok (o := o) (p := p) hL hn
      generalize openI now l o p = ri at a b ⊢
      generalize openS now s o p = rs at a b c ⊢
      obtain ⟨l1, o1, i⟩ := ri
      obtain ⟨s1, o2, j⟩ := rs
      simp only [Prod.mk.injEq] at a b c
      obtain ⟨rfl, rfl⟩ := b
      obtain ⟨t, ht⟩ : ∃ t, s1[i]? = some t := ⟨_, List.getElem?_eq_getElem c⟩
      obtain ⟨m, hm, hmt⟩ := a.at ht
      unfold stepI stepS
      simp only [List.getD_eq_getElem?_getD, hm, ht, Option.getD_some]
      rw [hmt.b.ref]
      cases hr : t.ref with
      | true => simp only [if_true]; exact ⟨a, trivial⟩
      | false =>
        simp only [Bool.false_eq_true, if_false]
        have hmr : m.ref = false := hmt.b.ref.trans hr
        obtain ⟨k1, k2, k3⟩ := b1_add hmt hmr ho (fun e => h2 (.inl e))
        rw [k2]
        cases hw : wholeS (addS t p) with
        | true =>
          simp only [if_true]
          exact ⟨a2_eraseIdx a i, by rw [k3 (k2.trans hw)]⟩
        | false =>
          simp only [Bool.false_eq_true, if_false]
          exact ⟨a2_set a i k1, trivial⟩
theorem pass_both {t : Int} : ∀ {l : List Mk} {s : List Ms}, All2 B1 l s → s.Pairwise (fun a b => a.born ≤ b.born) → ∀ o, All2 B1 (l.filter fun m => !goneI t m) (passS t s o).1 ∧ (passS t s o).2 = { o with ended := o.ended ++ endsI (l.filter (goneI t)) }
  | _, _, .nil, _, o => ⟨.nil, by simp [passS, endsI]⟩
  | m :: l, x :: s, .cons h hs, hp, o => by
    rw [List.pairwise_cons] at hp
    have hg : goneI t m = decide (x.born + 30000 ≤ t) := by unfold goneI; rw [h.b.begun]
    by_cases hc : x.born + 30000 ≤ t
    · have hgt : goneI t m = true := by rw [hg]; exact decide_eq_true hc
      obtain ⟨a, b⟩ := pass_both hs hp.2 (goneO o x true)
      rw [passS, if_pos hc]
      refine ⟨by rw [List.filter_cons_of_neg (by simp [hgt])]; exact a, ?_⟩
      rw [b, List.filter_cons_of_pos hgt, ← b1_told h]
      unfold goneOI endsI
      cases hr : m.ref <;> simp [hr]
    · have hgf : goneI t m = false := by rw [hg]; exact decide_eq_false hc
      have hall : ∀ y ∈ l, goneI t y = false := by
        intro y hy
        obtain ⟨i, hi⟩ := List.getElem?_of_mem hy
        obtain ⟨z, hz, hb⟩ := a2_get hs hi
        have := hp.1 z (List.mem_of_getElem? hz)
        unfold goneI
        rw [hb.b.begun]
        exact decide_eq_false (by omega)
      rw [passS, if_neg hc]
      have e1 : (m :: l).filter (fun m => !goneI t m) = m :: l := List.filter_eq_self.2 (by
        intro y hy
        rcases List.mem_cons.1 hy with rfl | hy
        · simp [hgf]
        · simp [hall y hy])
      have e2 : (m :: l).filter (goneI t) = [] := List.filter_eq_nil_iff.2 (by
        intro y hy
        rcases List.mem_cons.1 hy with rfl | hy
        · simp [hgf]
        · simp [hall y hy])
      rw [e1, e2]
      exact ⟨.cons h hs, by simp [endsI]⟩
end Go.Proofs.Ytjmmmmdpkfpojaa

set_option maxRecDepth 20000
namespace Go.Proofs.Ytjmmmmdpkfpojaa
open Go Go.IW
section
attribute [local go_sem] List.getElem?_cons_zero List.getElem?_cons_succ Option.bind_some List.map_cons List.map_nil Nat.zero_add if_true List.getD_cons_zero List.getD_cons_succ List.contains_cons List.contains_nil Bool.or_true Bool.true_or Bool.or_false Bool.false_or Bool.not_true Bool.not_false true_and and_true rowA_whole mid_get rowO_rows cellO_rows upd_ne Nat.add_assoc Nat.add_zero List.all_cons List.all_nil one_bool one_int one_str one_ptr one_nilptr one_slice one_eslice one_nilslice one_func one_iface one_niliface Bool.and_true Bool.and_self List.length_cons List.length_nil Nat.one_ne_zero Nat.succ_ne_zero if_false List.set_cons_zero List.set_cons_succ lay_nil lay_1 lay_w Option.map_some cells_one rowA_some List.drop_succ_cons List.drop_zero List.take_succ_cons List.take_zero

/-! ### impl.RunReasm -/
abbrev SB (s : List Ms) : Prop := s.Pairwise fun a b => a.born ≤ b.born
theorem sb_snoc {s : List Ms} {m : Ms} (h : SB s) (hm : ∀ x ∈ s, x.born ≤ m.born) : SB (s ++ [m]) := by
  refine List.pairwise_append.2 ⟨h, List.pairwise_singleton _ _, fun a ha b hb => ?_⟩
  rw [List.mem_singleton.1 hb]; exact hm a ha
theorem sb_erase {s : List Ms} (h : SB s) (i : Nat) : SB (s.eraseIdx i) := h.sublist (List.eraseIdx_sublist _ _)
theorem open_sb {N : Nat} {now : Int} {s : List Ms} {o : Ot} {p : Pk} (h : SB s) (hL : LOk N now s) : SB (openS now s o p).1 := by
  unfold openS
  split
  · exact h
  · split
    · exact sb_snoc (sb_erase h 0) fun x hx => (hL.b x (List.mem_of_mem_eraseIdx hx)).2
    · exact sb_snoc h fun x hx => (hL.b x hx).2
theorem set_sb {s : List Ms} {i : Nat} {m m' : Ms} (h : SB s) (hm : s[i]? = some m) (hb : m'.born = m.born) : SB (s.set i m') := by
  have e : (s.set i m').map Ms.born = s.map Ms.born := by
    rw [List.map_set]
    refine List.ext_getElem? fun j => ?_
    rw [List.getElem?_set]
    split
    · rename_i hij
      subst hij
      split
      · rw [List.getElem?_map, hm, hb]; rfl
      · rw [List.getElem?_eq_none (by omega)]
    · rfl
  have h1 : (s.map Ms.born).Pairwise (· ≤ ·) := List.pairwise_map.2 h
  rw [← e] at h1
  exact List.pairwise_map.1 h1
theorem take_sb {N : Nat} {now : Int} {s : List Ms} {o : Ot} {p : Pk} (h : SB s) (hL : LOk N now s) (hn : 0 ≤ now) : SB (takeS now s o p).1 := by
  unfold takeS
  split
  · exact h
  · split
    · exact h
    · have h1 := open_sb (o := o) (p := p) h hL
      obtain ⟨_, h2, _⟩ := openS_ok (o := o) (p := p) hL hn
      generalize openS now s o p = r at h1 h2 ⊢
      obtain ⟨s1, o1, i⟩ := r
      simp only at h1 h2 ⊢
      obtain ⟨t, ht⟩ : ∃ t, s1[i]? = some t := ⟨_, List.getElem?_eq_getElem h2⟩
      unfold stepS
      simp only [List.getD_eq_getElem?_getD, ht, Option.getD_some]
      split
      · exact h1
      · split
        · exact sb_erase h1 i
        · exact set_sb h1 ht (addS_born t p)
theorem pass_sb {t : Int} : ∀ {s : List Ms} {o : Ot}, SB s → SB (passS t s o).1
  | [], _, h => h
  | m :: s, o, h => by
    unfold passS
    split
    · exact pass_sb (List.pairwise_cons.1 h).2
    · exact h
theorem op_both {l : List Mk} {s : List Ms} {N : Nat} {now : Int} {op : Op} (h : All2 B1 l s) (hL : LOk N now s) (hS : SB s) (hn : 0 ≤ now ∧ now ≤ 1000000000) :
    (doI now l op).1 = (opS now s op).1 ∧ All2 B1 (doI now l op).2.1 (opS now s op).2.1 ∧ (doI now l op).2.2 = (opS now s op).2.2 ∧ LOk (N + 1) (opS now s op).1 (opS now s op).2.1 ∧ SB (opS now s op).2.1 ∧ 0 ≤ (opS now s op).1 ∧ (opS now s op).1 ≤ 1000000000 := by
  unfold doI opS
  by_cases h1 : op.kind = 1 ∧ codeB op.pk = 0
  · rw [if_pos h1, if_pos h1]
    obtain ⟨c1, c2, c3⟩ := codeB_ok h1.2
    obtain ⟨a, b⟩ := take_both h hL hn.1 ot0 op.pk c1.1
    exact ⟨rfl, a, by rw [b]; exact tell_both a _, (takeS_ok hL hn.1 h1.2).1, take_sb hS hL hn.1, hn.1, hn.2⟩
  · rw [if_neg h1, if_neg h1]
    by_cases h2 : op.kind = 2 ∧ 0 ≤ op.wait ∧ op.wait ≤ 1000000000 - now
    · rw [if_pos h2, if_pos h2]
      obtain ⟨a, b⟩ := pass_both (t := now + op.wait) h hS ot0
      refine ⟨rfl, a, ?_, (passS_ok (hL.mono (M := N + 1) (now' := now + op.wait) (by omega) (by omega))).1, pass_sb hS, by simp only; omega, by simp only; omega⟩
      simp only
      rw [b, ← tell_both a]
      rfl
    · rw [if_neg h2, if_neg h2]
      exact ⟨rfl, h, tell_both h _, hL.mono (by omega) (Int.le_refl _), hS, hn.1, hn.2⟩
set_option maxHeartbeats 2000000 in
theorem implRun_c (h : IH) (v : IV) (ops : List Op) (a : OpsAt h v ops) (hn : ops.length ≤ 1048576) (hsz : ∀ o ∈ ops, o.pk.opts.length + o.pk.pay.length ≤ 1048576) :
    ICalls Try.prog 10 [v] h fun r h' => RunRes h h' r (runS ops) ∧ Ext h h' := by
  refine icalls (.of ok10) (Nat.le_of_ble_eq_true rfl) ?_
  unfold c10
  obtain ⟨⟨rs, hsl, hrl, hrow⟩, hI⟩ := a
  have hlen := hsl.lenF
  rw [hrl] at hlen
  try simp (disch := (first | omega | assumption | (simp only [List.length_cons, List.length_nil, List.length_append]; first | done | omega) | (simp (disch := assumption) only [go_sem, one_as, Nat.reduceBEq]; done) | fail)) only [hlen, go_sem, Hold.p, HoldK.k, HoldL.K, HoldL.body, Nat.reduceBEq, Nat.reduceAdd, reduceIte]
  refine test_dec (fun hb => ?_) (fun hb => ?_)
  · have hr : runS ops = ([], 8) := if_pos (by omega)
    try simp (disch := (first | omega | assumption | (simp only [List.length_cons, List.length_nil, List.length_append]; first | done | omega) | (simp (disch := assumption) only [go_sem, one_as, Nat.reduceBEq]; done) | fail)) only [go_sem, Hold.p, HoldK.k, HoldL.K, HoldL.body, Nat.reduceBEq, Nat.reduceAdd, reduceIte]
    rw [hr]
    exact ⟨⟨_, rfl, (Ow.nil0 h)⟩, Ext.refl _⟩
  have hr : runS ops = (runSt 0 [] ops, 0) := if_neg (by omega)
  rw [hr]
  have S := Sp.start h
  try simp (disch := (first | omega | assumption | (simp only [List.length_cons, List.length_nil, List.length_append]; first | done | omega) | (simp (disch := assumption) only [go_sem, one_as, Nat.reduceBEq]; done) | fail)) only [go_sem, Hold.p, HoldK.k, HoldL.K, HoldL.body, Nat.reduceBEq, Nat.reduceAdd, reduceIte]
  refine Sp.bxA S (by first | rfl | (rw [cells_one (by assumption)]; rfl)) (by first | rfl | simp (disch := assumption) only [go_sem, cells_one, one_as]) fun x g1 S E_g1 l_g1 => ?_
  try simp (disch := (first | omega | assumption | (simp only [List.length_cons, List.length_nil, List.length_append]; first | done | omega) | (simp (disch := assumption) only [go_sem, one_as, Nat.reduceBEq]; done) | fail)) only [hlen, go_sem, Hold.p, HoldK.k, HoldL.K, HoldL.body, Nat.reduceBEq, Nat.reduceAdd, reduceIte]
  refine loop_at (fun n e g => ∃ (k : Nat) (now : Int) (l : List Mk) (s : List Ms) (vx vl : IV) (outs : List Ot) (rl : List (List IV)), n = ops.length - k ∧ k ≤ ops.length ∧ e 4 = .ptr x 0 0 ∧ e 5 = vx ∧ e 13 = v ∧ e 14 = .int .i64 (ops.length : Nat) ∧ e 15 = .int .i64 (k : Nat) ∧ outs.length = k ∧
    runSt 0 [] ops = outs ++ runSt now s (ops.drop k) ∧ All2 B1 l s ∧ LOk k now s ∧ SB s ∧ 0 ≤ now ∧ now ≤ 1000000000 ∧
    Sp g (box x (xO now vl) :: sl true 105 1 vl rl :: all2 mkR rl l :: dat (.slice 52 t_ReasmOut) [vx] (.list (outs.map outD)) :: [old h])) ops.length ?_ ?_
  · refine ⟨0, 0, [], [], .nilslice, .nilslice, [], [], by omega, by omega, ?_⟩
    try simp (disch := (first | omega | assumption | (simp only [List.length_cons, List.length_nil, List.length_append]; first | done | omega) | (simp (disch := assumption) only [go_sem, one_as, Nat.reduceBEq]; done) | fail)) only [go_sem, Hold.p, HoldK.k, HoldL.K, HoldL.body, Nat.reduceBEq, Nat.reduceAdd, reduceIte]
    refine ⟨rfl, rfl, .nil, ⟨by simp, by simp, by simp⟩, List.Pairwise.nil, by omega, by omega, ?_⟩
    have S := ((S.a2nil (R := mkR)).slNil (x := true) (el := 105) (sz := 1))
    have S := S.new (Ext.refl _) (f := []) (A := dat (.slice 52 t_ReasmOut) [.nilslice] (.list [])) ⟨_, [], rfl, rfl, .inl ⟨rfl, rfl, .inl rfl⟩⟩ (by simp) (by simp)
    have S := by simpa only [List.map_cons, List.map_nil, List.getD_cons_zero, List.getD_cons_succ, List.drop_succ_cons, List.drop_zero, List.cons_append, List.nil_append] using Sp.sel S 5 [3, 1, 2, 0, 4] (by simp only [List.length_cons]; omega) (by decide) (by decide)
    exact S
  · clear S
    rintro n e g ⟨k, now, l, s, vx, vl, outs, rl, rfl, hk, i4, i5, i13, i14, i15, hol, hru, hB, hL, hS, hn0, hn1, S⟩
    try simp (disch := (first | omega | assumption | (simp only [List.length_cons, List.length_nil, List.length_append]; first | done | omega) | (simp (disch := assumption) only [go_sem, one_as, Nat.reduceBEq]; done) | fail)) only [i4, i5, i13, i14, i15, go_sem, Hold.p, HoldK.k, HoldL.K, HoldL.body, Nat.reduceBEq, Nat.reduceAdd, reduceIte]
    refine test_dec (fun hb2 => ?_) (fun hb2 => ?_)
    · obtain ⟨op, hop⟩ : ∃ q, ops[k]? = some q := ⟨_, List.getElem?_eq_getElem (by omega : k < ops.length)⟩
      obtain ⟨po, pp, hrk, ha⟩ := hrow k op hop
      obtain ⟨hIw, hIp⟩ := hI op (List.mem_of_getElem? hop)
      have hszo := hsz op (List.mem_of_getElem? hop)
      have y1 := ha.o.one
      have y2 := ha.p.one
      have w1 : wr .i64 ((k : Int) + 1) = ((k + 1 : Nat) : Int) := by rw [wr64 _ (by omega)]; rfl
      rw [drop_at hop, runSt] at hru
      have hsg := hsl.ext (S.ol 4 rfl)
      obtain ⟨a1, a2, hia, hal, har⟩ := hsg.at hrk .i64
      unfold opRow pkRow at har
      try simp (disch := (first | omega | assumption | (simp only [List.length_cons, List.length_nil, List.length_append]; first | done | omega) | (simp (disch := assumption) only [go_sem, one_as, Nat.reduceBEq]; done) | fail)) only [i4, i5, i13, i14, i15, hia, har, go_sem, Hold.p, HoldK.k, HoldL.K, HoldL.body, Nat.reduceBEq, Nat.reduceAdd, reduceIte]
      refine Sp.zero S fun p7 g7 S E_g7 l_g7 => ?_
      have q0 := (S.bx 0 rfl).eq
      try simp (disch := (first | omega | assumption | (simp only [List.length_cons, List.length_nil, List.length_append]; first | done | omega) | (simp (disch := assumption) only [go_sem, one_as, Nat.reduceBEq]; done) | fail)) only [q0, go_sem, Hold.p, HoldK.k, HoldL.K, HoldL.body, Nat.reduceBEq, Nat.reduceAdd, reduceIte]
      refine stw_of rfl rfl (by first | rfl | simp (disch := assumption) only [go_sem, cells_one, one_as]) fun g8 hg => ?_
      have l_g8 := n_set hg
      have S := S.set0 hg
      clear hg
      have q0 := (S.bx 0 rfl).eq
      try simp (disch := (first | omega | assumption | (simp only [List.length_cons, List.length_nil, List.length_append]; first | done | omega) | (simp (disch := assumption) only [go_sem, one_as, Nat.reduceBEq]; done) | fail)) only [q0, i4, i5, i13, i14, i15, go_sem, Hold.p, HoldK.k, HoldL.K, HoldL.body, Nat.reduceBEq, Nat.reduceAdd, reduceIte]
      obtain ⟨d1, d2, d3, d4, d5, d6, d7⟩ := op_both (op := op) hB hL hS ⟨hn0, hn1⟩
      have hle : l.length ≤ 16 := by rw [hB.len]; exact hL.n
      have hokl : ∀ {N : Nat} {l : List Mk} {s : List Ms}, All2 B1 l s → (∀ m ∈ s, OkM N m) → ∀ m ∈ l, OkI N m := by
        intro N l s hB hs m hm
        obtain ⟨i, hi⟩ := List.getElem?_of_mem hm
        obtain ⟨t, ht, hb⟩ := a2_get hB hi
        exact b1_ok hb (hs t (List.mem_of_getElem? ht))
      have S := by simpa only [List.map_cons, List.map_nil, List.getD_cons_zero, List.getD_cons_succ, List.drop_succ_cons, List.drop_zero, List.cons_append, List.nil_append] using Sp.sel S 6 [1, 2, 3, 5, 4, 0] (by simp only [List.length_cons]; omega) (by decide) (by decide)
      refine callA_of (do_c S ha (N := k) (by omega) hle (hokl hB hL.m) (fun m hm => ?_) ⟨hn0, hn1⟩ hszo hIp ⟨?_, hokl d2 d4.m⟩ ?_) ?_
      · obtain ⟨i, hi⟩ := List.getElem?_of_mem hm
        obtain ⟨t, ht, hb⟩ := a2_get hB hi
        have := hL.b t (List.mem_of_getElem? ht)
        rw [hb.b.begun]
        omega
      · rw [d2.len]; exact d4.n
      · intro hcd hpay m hm hmr hw q hq
        obtain ⟨oa, ob⟩ := open_both hB now ot0 op.pk
        obtain ⟨i, hi⟩ := List.getElem?_of_mem hm
        obtain ⟨t, ht, hb⟩ := a2_get oa hi
        obtain ⟨c1, c2, c3⟩ := codeB_ok hcd
        obtain ⟨e1, e2, e3⟩ := add_both hb.b hmr c1.1 hpay
        obtain ⟨e4, _⟩ := e3 hw
        obtain ⟨e5, e6, _⟩ := e1.on e4
        rw [e5] at hq
        rw [e6]
        exact addS_in (e2 ▸ hw) q hq
      clear S
      rintro r9 g9 ⟨vl', rl', vo, vp, ve, rfl, S⟩
      have z1 := (S.slA 3 rfl).one
      have z2 := (S.slA 4 rfl).one
      have z3 := (S.slA 5 rfl).one
      try simp (disch := (first | omega | assumption | (simp only [List.length_cons, List.length_nil, List.length_append]; first | done | omega) | (simp (disch := assumption) only [go_sem, one_as, Nat.reduceBEq]; done) | fail)) only [i4, i5, i13, i14, i15, go_sem, Hold.p, HoldK.k, HoldL.K, HoldL.body, Nat.reduceBEq, Nat.reduceAdd, reduceIte]
      refine Sp.bsl1 S (by first | rfl | (rw [cells_one (by assumption)]; rfl)) (by first | rfl | simp (disch := assumption) only [go_sem, cells_one, one_as]) fun p10 g10 S E_g10 l_g10 => ?_
      try simp only [cells_agg, cells_int, cells_bool, cells_ptr, cells_str] at S
      have q0 := (S.bx 0 rfl).eq
      try simp (disch := (first | omega | assumption | (simp only [List.length_cons, List.length_nil, List.length_append]; first | done | omega) | (simp (disch := assumption) only [go_sem, one_as, Nat.reduceBEq]; done) | fail)) only [q0, i4, i5, i13, i14, i15, go_sem, Hold.p, HoldK.k, HoldL.K, HoldL.body, Nat.reduceBEq, Nat.reduceAdd, reduceIte]
      have S := by simpa only [List.map_cons, List.map_nil, List.getD_cons_zero, List.getD_cons_succ, List.drop_succ_cons, List.drop_zero, List.cons_append, List.nil_append] using Sp.sel S 10 [4, 5, 6, 8, 1, 2, 3, 7] (by simp only [List.length_cons]; omega) (by decide) (by decide)
      have S := out_dat S
      have S := S.p1
      refine Sp.dapp S (by rw [List.length_map]; omega) ?_
      clear S
      intro v14 g14 S z14 c14
      try simp (disch := (first | omega | assumption | (simp only [List.length_cons, List.length_nil, List.length_append]; first | done | omega) | (simp (disch := assumption) only [go_sem, one_as, Nat.reduceBEq]; done) | fail)) only [i4, i5, i13, i14, i15, w1, go_sem, Hold.p, HoldK.k, HoldL.K, HoldL.body, Nat.reduceBEq, Nat.reduceAdd, reduceIte]
      have S := by simpa only [List.map_cons, List.map_nil, List.getD_cons_zero, List.getD_cons_succ, List.drop_succ_cons, List.drop_zero, List.cons_append, List.nil_append] using Sp.sel S 5 [1, 2, 3, 0, 4] (by simp only [List.length_cons]; omega) (by decide) (by decide)
      rw [d1, d3] at S
      refine ⟨_, by omega, k + 1, (opS now s op).1, (doI now l op).2.1, (opS now s op).2.1, v14, vl', outs ++ [(opS now s op).2.2], rl', rfl, by omega, rfl, rfl, by simp [hol], ?_, d2, d4, d5, d6, d7, ?_⟩
      · rw [hru]; simp
      · rw [List.map_append]; exact S
    · have hd : ops.drop k = [] := List.drop_eq_nil_of_le (by omega)
      rw [hd, runSt, List.append_nil] at hru
      rw [hru]
      try simp (disch := (first | omega | assumption | (simp only [List.length_cons, List.length_nil, List.length_append]; first | done | omega) | (simp (disch := assumption) only [go_sem, one_as, Nat.reduceBEq]; done) | fail)) only [i4, i5, i13, i14, i15, go_sem, Hold.p, HoldK.k, HoldL.K, HoldL.body, Nat.reduceBEq, Nat.reduceAdd, reduceIte]
      have S := by simpa only [List.map_cons, List.map_nil, List.getD_cons_zero, List.getD_cons_succ, List.drop_succ_cons, List.drop_zero, List.cons_append, List.nil_append] using Sp.sel S 5 [3, 4] (by simp only [List.length_cons]; omega) (by decide) (by decide)
      exact ⟨⟨vx, rfl, S.toOw⟩, S.drop.oldE⟩
end
end Go.Proofs.Ytjmmmmdpkfpojaa

namespace Go.Proofs.Ytjmmmmdpkfpojaa
open Go Go.IW

/-! ### What is cut comes together again: plain -/
/-- The pieces of a packet from a place on. -/
inductive Lay (P : Pk) : Nat → List Pk → Prop
  | last (a : Nat) (h0 : a < P.pay.length) : Lay P a [{ P with off := (a : Int), mf := false, pay := P.pay.drop a }]
  | more (a b : Nat) (h0 : a < b) (h1 : b < P.pay.length) (h8 : (b - a) % 8 = 0) {r : List Pk} (hr : Lay P b r) : Lay P a ({ P with off := (a : Int), mf := true, pay := (P.pay.take b).drop a } :: r)
/-- One piece of a packet. -/
structure Frag (P : Pk) (a b : Nat) (f : Pk) : Prop where
  e : f = { P with off := (a : Int), mf := decide (b < P.pay.length), pay := (P.pay.take b).drop a }
  ab : a < b
  hb : b ≤ P.pay.length
  m : b < P.pay.length → (b - a) % 8 = 0
theorem Frag.len {P f : Pk} {a b : Nat} (h : Frag P a b f) : f.pay.length = b - a := by
  rw [h.e]; simp only [List.length_drop, List.length_take]; have := h.hb; omega
theorem Lay.lt {P : Pk} {a : Nat} {F : List Pk} (h : Lay P a F) : a < P.pay.length := by
  cases h with
  | last _ h0 => exact h0
  | more _ b h0 h1 h8 hr => exact Nat.lt_trans h0 h1
theorem Lay.frag {P : Pk} {a : Nat} {F : List Pk} (h : Lay P a F) : ∀ f ∈ F, ∃ c d, a ≤ c ∧ Frag P c d f := by
  induction h with
  | last a h0 =>
    intro f hf
    obtain rfl := List.mem_singleton.1 hf
    exact ⟨a, P.pay.length, Nat.le_refl _, ⟨by simp, h0, Nat.le_refl _, fun h => absurd h (Nat.lt_irrefl _)⟩⟩
  | more a b h0 h1 h8 hr ih =>
    intro f hf
    rcases List.mem_cons.1 hf with rfl | hf
    · exact ⟨a, b, Nat.le_refl _, ⟨by simp [h1], h0, by omega, fun _ => h8⟩⟩
    · obtain ⟨c, d, hc, hF⟩ := ih f hf
      exact ⟨c, d, by omega, hF⟩
/-- No two of them overlap. -/
theorem Lay.apart {P : Pk} {a : Nat} {F : List Pk} (h : Lay P a F) : F.Pairwise fun f g => f.off + (f.pay.length : Int) ≤ g.off := by
  induction h with
  | last a h0 => simp
  | more a b h0 h1 h8 hr ih =>
    refine List.pairwise_cons.2 ⟨fun g hg => ?_, ih⟩
    obtain ⟨c, d, hc, hF⟩ := hr.frag g hg
    rw [hF.e]
    simp only [List.length_drop, List.length_take]
    omega
theorem Lay.tot {P : Pk} {a : Nat} {F : List Pk} (h : Lay P a F) : (F.map fun f => f.pay.length).sum = P.pay.length - a := by
  induction h with
  | last a h0 => simp
  | more a b h0 h1 h8 hr ih =>
    simp only [List.map_cons, List.sum_cons, ih, List.length_drop, List.length_take]
    omega
/-- Each byte is in one of them. -/
theorem Lay.cover {P : Pk} {a : Nat} {F : List Pk} (h : Lay P a F) : ∀ j, a ≤ j → j < P.pay.length → ∃ f ∈ F, f.off ≤ (j : Int) ∧ (j : Int) < f.off + (f.pay.length : Int) := by
  induction h with
  | last a h0 =>
    intro j h1 h2
    refine ⟨_, List.mem_singleton.2 rfl, ?_⟩
    simp only [List.length_drop]
    omega
  | more a b h0 h1 h8 hr ih =>
    intro j h2 h3
    by_cases hj : j < b
    · refine ⟨_, List.mem_cons_self, ?_⟩
      simp only [List.length_drop, List.length_take]
      omega
    · obtain ⟨f, hf, h4⟩ := ih j (by omega) h3
      exact ⟨f, List.mem_cons_of_mem _ hf, h4⟩
theorem Cut.lay {P : Pk} {R : Nat} (h0 : P.off = 0) (hm : P.mf = false) (hR : 8 ≤ R) {a : Nat} {F : List Pk} (h : Cut P R a F) : Lay P a F := by
  induction h with
  | last a h1 h2 =>
    have := Lay.last (P := P) a h1
    rwa [show ({ P with off := (a : Int), mf := false, pay := P.pay.drop a } : Pk) = { P with off := P.off + (a : Int), pay := P.pay.drop a } by rw [h0, ← hm]; simp] at this
  | more a h1 hr ih =>
    have := Lay.more (P := P) a (a + R / 8 * 8) (by omega) h1 (by omega) ih
    rwa [show ({ P with off := (a : Int), mf := true, pay := (P.pay.take (a + R / 8 * 8)).drop a } : Pk) = { P with off := P.off + (a : Int), mf := true, pay := (P.pay.take (a + R / 8 * 8)).drop a } by rw [h0]; simp] at this
end Go.Proofs.Ytjmmmmdpkfpojaa

namespace Go.Proofs.Ytjmmmmdpkfpojaa
open Go Go.IW

theorem scan_ok {off en : Int} {pay : List UInt8} : ∀ {ps : Pcs} {same ref : Bool}, (∀ q ∈ ps, (q.1 = off ∧ q.2 = pay) ∨ ¬ (q.1 < en ∧ off < pTo q)) → scanS off en pay ps same ref = (same || ps.any fun q => decide (q.1 = off ∧ q.2 = pay), ref)
  | [], same, ref, _ => by simp [scanS]
  | q :: r, same, ref, h => by
    have hr := fun x hx => h x (List.mem_cons_of_mem _ hx)
    unfold scanS
    by_cases h1 : q.1 = off ∧ q.2 = pay
    · rw [if_pos h1, scan_ok hr, List.any_cons, decide_eq_true h1]
      simp
    · have h2 := (h q List.mem_cons_self).resolve_left h1
      rw [if_neg h1, if_neg h2, scan_ok hr, List.any_cons, decide_eq_false h1, Bool.false_or]
theorem pw_any {α : Type} {R : α → α → Prop} : ∀ {l : List α}, l.Pairwise R → ∀ f ∈ l, ∀ g ∈ l, f = g ∨ R f g ∨ R g f
  | [], _, f, hf, _, _ => nomatch hf
  | a :: l, h, f, hf, g, hg => by
    obtain ⟨h1, h2⟩ := List.pairwise_cons.1 h
    rcases List.mem_cons.1 hf with e1 | hf' <;> rcases List.mem_cons.1 hg with e2 | hg'
    · exact .inl (e1.trans e2.symm)
    · exact .inr (.inl (e1 ▸ h1 g hg'))
    · exact .inr (.inr (e2 ▸ h1 f hf'))
    · exact pw_any h2 f hf' g hg'
def hasQ (Q : List Pk) (p : Pk) : Bool := Q.any fun f => decide (f.off = p.off ∧ f.pay = p.pay)
def addQ (Q : List Pk) (p : Pk) : List Pk := if hasQ Q p = true then Q else Q ++ [p]
/-- A whole packet that is cut into F. -/
structure Fam (P : Pk) (F : List Pk) : Prop where
  off : P.off = 0
  mf : P.mf = false
  c : codeB P = 0
  lay : Lay P 0 F
theorem Fam.pos {P : Pk} {F : List Pk} (h : Fam P F) : 0 < P.pay.length := h.lay.lt
theorem Fam.sep {P : Pk} {F : List Pk} (h : Fam P F) {f g : Pk} (hf : f ∈ F) (hg : g ∈ F) : f = g ∨ f.off + (f.pay.length : Int) ≤ g.off ∨ g.off + (g.pay.length : Int) ≤ f.off := pw_any h.lay.apart f hf g hg
theorem Fam.ne {P : Pk} {F : List Pk} (h : Fam P F) {f : Pk} (hf : f ∈ F) : 0 < f.pay.length := by
  obtain ⟨a, b, _, hF⟩ := h.lay.frag f hf
  have := hF.len
  have := hF.ab
  omega
theorem Fam.has {P : Pk} {F Q : List Pk} (h : Fam P F) {p : Pk} (hp : p ∈ F) (hQ : ∀ f ∈ Q, f ∈ F) : hasQ Q p = true ↔ p ∈ Q := by
  unfold hasQ
  rw [List.any_eq_true]
  constructor
  · rintro ⟨f, hf, he⟩
    obtain ⟨e1, e2⟩ := of_decide_eq_true he
    have h1 := h.ne hp
    rcases h.sep (hQ f hf) hp with rfl | h2 | h2
    · exact hf
    · rw [e1, e2] at h2; omega
    · rw [e1] at h2; omega
  · intro hq
    exact ⟨p, hq, by simp⟩
theorem Fam.add_mem {P : Pk} {F Q : List Pk} (h : Fam P F) {p : Pk} (hp : p ∈ F) (hQ : ∀ f ∈ Q, f ∈ F) : ∀ f, f ∈ addQ Q p ↔ f ∈ Q ∨ f = p := by
  intro f
  unfold addQ
  split
  · rename_i h1
    rw [h.has hp hQ] at h1
    constructor
    · exact .inl
    · rintro (h2 | rfl)
      · exact h2
      · exact h1
  · simp
theorem Fam.add_any {P : Pk} {F Q : List Pk} (h : Fam P F) {p : Pk} (hp : p ∈ F) (hQ : ∀ f ∈ Q, f ∈ F) (u : Pk → Bool) : (addQ Q p).any u = (Q.any u || u p) := by
  rw [Bool.eq_iff_iff, List.any_eq_true, Bool.or_eq_true, List.any_eq_true]
  constructor
  · rintro ⟨f, hf, hu⟩
    rcases (h.add_mem hp hQ f).1 hf with h1 | rfl
    · exact .inl ⟨f, h1, hu⟩
    · exact .inr hu
  · rintro (⟨f, hf, hu⟩ | hu)
    · exact ⟨f, (h.add_mem hp hQ f).2 (.inl hf), hu⟩
    · exact ⟨p, (h.add_mem hp hQ p).2 (.inr rfl), hu⟩
/-- A datagram in the making holds just Q of a packet's pieces. -/
structure MkOf (P : Pk) (m : Ms) (Q : List Pk) : Prop where
  key : m.src = P.src ∧ m.dst = P.dst ∧ m.proto = P.proto ∧ m.id = P.id
  ref : m.ref = false
  ps : m.ps = Q.map fun f => (f.off, f.pay)
  en : m.en = if Q.any (fun f => !f.mf) = true then (P.pay.length : Int) else -1
  has : m.has = Q.any fun f => decide (f.off = 0)
  first : m.has = true → m.first = { P with off := 0, mf := m.first.mf, pay := m.first.pay }
theorem add_frag {P : Pk} {F Q : List Pk} {m : Ms} {p : Pk} (h : Fam P F) (hQ : ∀ f ∈ Q, f ∈ F) (hm : MkOf P m Q) (hp : p ∈ F) : MkOf P (addS m p) (addQ Q p) := by
  obtain ⟨c, d, _, hf⟩ := h.lay.frag p hp
  have hl := hf.len
  have hab := hf.ab
  have hb := hf.hb
  have hoff : p.off = (c : Int) := by rw [hf.e]
  have hmf : p.mf = decide (d < P.pay.length) := by rw [hf.e]
  have hopt : p.opts = P.opts := by rw [hf.e]
  have hen : p.off + (p.pay.length : Int) = d := by omega
  have hscan : scanS p.off (p.off + p.pay.length) p.pay m.ps false m.ref = (hasQ Q p, false) := by
    rw [scan_ok, hm.ref]
    · rw [hm.ps, List.any_map]; rfl
    · intro q hq
      rw [hm.ps] at hq
      obtain ⟨f, hfQ, rfl⟩ := List.mem_map.1 hq
      rcases h.sep (hQ f hfQ) hp with rfl | h1 | h1
      · exact .inl ⟨rfl, rfl⟩
      · refine .inr fun h2 => ?_
        have := h2.2
        simp only [pTo] at this
        omega
      · refine .inr fun h2 => ?_
        have := h2.1
        simp only at this
        omega
  have hend : ∀ f ∈ F, f.off + (f.pay.length : Int) ≤ P.pay.length := by
    intro f hf
    obtain ⟨a, b, _, hF⟩ := h.lay.frag f hf
    have h1 := hF.len
    have h2 := hF.hb
    have h3 := hF.ab
    have h4 : f.off = (a : Int) := by rw [hF.e]
    omega
  have hP : 20 + (P.opts.length : Int) + P.pay.length ≤ 65535 := by
    have := h.c
    unfold codeB at this
    split at this
    · cases this
    · split at this
      · cases this
      · omega
  have hA : m.en = if Q.any (fun f => !f.mf) = true then (P.pay.length : Int) else -1 := hm.en
  have hpos := h.pos
  have hu1 := h.add_any hp hQ fun f => !f.mf
  have hu2 := h.add_any hp hQ fun f => decide (f.off = 0)
  have hps : (if hasQ Q p = true then m.ps else m.ps ++ [(p.off, p.pay)]) = (addQ Q p).map fun f => (f.off, f.pay) := by
    unfold addQ
    rw [hm.ps]
    split <;> simp
  have hr1 : (!p.mf && decide (0 ≤ m.en) && !decide (m.en = p.off + (p.pay.length : Int))) = false := by
    rw [hmf, hA, hen]
    by_cases h1 : d < P.pay.length
    · rw [decide_eq_true h1]; rfl
    · have : d = P.pay.length := by omega
      subst this
      split
      · simp
      · simp
  have he2 : (if p.mf = false ∧ m.en < 0 then p.off + (p.pay.length : Int) else m.en) = if (addQ Q p).any (fun f => !f.mf) = true then (P.pay.length : Int) else -1 := by
    rw [hu1, hmf, hA, hen]
    by_cases h1 : d < P.pay.length
    · rw [decide_eq_true h1, if_neg (by simp)]; simp
    · have : d = P.pay.length := by omega
      subst this
      rw [decide_eq_false h1]
      by_cases h3 : Q.any (fun f => !f.mf) = true
      · rw [if_pos h3, if_neg (by omega)]; simp [h3]
      · simp [h3]
  have hr2 : ∀ e2 : Int, e2 = (if (addQ Q p).any (fun f => !f.mf) = true then (P.pay.length : Int) else -1) → (decide (0 ≤ e2) && ((addQ Q p).map fun f => (f.off, f.pay)).any fun q => decide (e2 < pTo q)) = false := by
    intro e2 he
    by_cases hz : (addQ Q p).any (fun f => !f.mf) = true
    · rw [if_pos hz] at he
      rw [Bool.and_eq_false_iff]
      right
      rw [List.any_eq_false]
      intro q hq
      obtain ⟨f, hfQ, rfl⟩ := List.mem_map.1 hq
      have hfF : f ∈ F := by
        rcases (h.add_mem hp hQ f).1 hfQ with h1 | rfl
        · exact hQ f h1
        · exact hp
      have := hend f hfF
      intro hx
      have hx : e2 < f.off + (f.pay.length : Int) := of_decide_eq_true hx
      omega
    · rw [if_neg hz] at he
      rw [he]; rfl
  have hhas : (decide (p.off = 0) || m.has) = (addQ Q p).any fun f => decide (f.off = 0) := by rw [hu2, hm.has, Bool.or_comm]
  have hfirst : ((decide (p.off = 0) || m.has) = true) → (if p.off = 0 ∧ m.has = false then p else m.first) = { P with off := 0, mf := (if p.off = 0 ∧ m.has = false then p else m.first).mf, pay := (if p.off = 0 ∧ m.has = false then p else m.first).pay } := by
    intro hx
    split
    · rename_i h1
      rw [hf.e]
      rw [hoff] at h1
      simp [h1.1]
    · rename_i h1
      refine hm.first ?_
      cases hh : m.has with
      | true => rfl
      | false =>
        rw [hh, Bool.or_false] at hx
        exact absurd ⟨of_decide_eq_true hx, hh⟩ h1
  have hr3 : ∀ e2 : Int, e2 = (if (addQ Q p).any (fun f => !f.mf) = true then (P.pay.length : Int) else -1) → ((decide (p.off = 0) || m.has) && decide (0 ≤ e2) && decide (65535 < 20 + ((if p.off = 0 ∧ m.has = false then p else m.first).opts.length : Int) + e2)) = false := by
    rintro e2 rfl
    cases hx : (decide (p.off = 0) || m.has) with
    | false => rfl
    | true =>
      rw [hfirst hx]
      by_cases hz : (addQ Q p).any (fun f => !f.mf) = true
      · rw [if_pos hz]; simp; omega
      · rw [if_neg hz]; simp
  have hadd : addS m p = { m with ps := (addQ Q p).map fun f => (f.off, f.pay), en := (if (addQ Q p).any (fun f => !f.mf) = true then (P.pay.length : Int) else -1), ref := false, has := (decide (p.off = 0) || m.has), first := (if p.off = 0 ∧ m.has = false then p else m.first) } := by
    unfold addS
    simp only [hscan, hr1, he2, hps]
    rw [hr2 _ rfl, hr3 _ rfl]
    rfl
  rw [hadd]
  exact ⟨hm.key, rfl, rfl, rfl, hhas, hfirst⟩
end Go.Proofs.Ytjmmmmdpkfpojaa

namespace Go.Proofs.Ytjmmmmdpkfpojaa
open Go Go.IW

theorem sum_le {α : Type} (g : α → Nat) : ∀ {Q F : List α}, Q.Nodup → (∀ f ∈ Q, f ∈ F) → (Q.map g).sum ≤ (F.map g).sum
  | [], _, _, _ => by simp
  | q :: Q, F, hn, hs => by
    obtain ⟨h1, h2⟩ := List.nodup_cons.1 hn
    obtain ⟨s, t, rfl⟩ := List.append_of_mem (hs q List.mem_cons_self)
    have := sum_le g (Q := Q) (F := s ++ t) h2 fun f hf => by
      have h3 := hs f (List.mem_cons_of_mem _ hf)
      rcases List.mem_append.1 h3 with h4 | h4
      · exact List.mem_append_left _ h4
      · rcases List.mem_cons.1 h4 with rfl | h4
        · exact absurd hf h1
        · exact List.mem_append_right _ h4
    simp only [List.map_append, List.map_cons, List.sum_append, List.sum_cons] at this ⊢
    omega
theorem Fam.nd {P : Pk} {F : List Pk} (h : Fam P F) : F.Nodup := by
  refine (h.lay.apart.imp_of_mem ?_ : F.Pairwise (· ≠ ·))
  rintro f g hf hg h1 rfl
  have := h.ne hf
  omega
theorem Lay.ex_last {P : Pk} {a : Nat} {F : List Pk} (h : Lay P a F) : ∃ f ∈ F, f.mf = false := by
  induction h with
  | last a h0 => exact ⟨_, List.mem_singleton.2 rfl, rfl⟩
  | more a b h0 h1 h8 hr ih =>
    obtain ⟨f, hf, h2⟩ := ih
    exact ⟨f, List.mem_cons_of_mem _ hf, h2⟩
theorem totP_map (Q : List Pk) : totP (Q.map fun f => (f.off, f.pay)) = (Q.map fun f => f.pay.length).sum := by
  simp [totP, Function.comp_def]
theorem whole_iff {P : Pk} {F Q : List Pk} {m : Ms} (h : Fam P F) (hQ : ∀ f ∈ Q, f ∈ F) (hn : Q.Nodup) (hm : MkOf P m Q) : wholeS m = true ↔ ∀ f ∈ F, f ∈ Q := by
  have hF := h.lay.tot
  unfold wholeS
  rw [hm.ref, hm.ps, totP_map, hm.en]
  constructor
  · intro hw f hf
    simp only [Bool.not_false, Bool.true_and, Bool.and_eq_true, Bool.not_eq_true', decide_eq_false_iff_not, decide_eq_true_eq] at hw
    obtain ⟨h1, h2⟩ := hw
    by_cases hz : Q.any (fun f => !f.mf) = true
    · rw [if_pos hz] at h2
      by_cases hfQ : f ∈ Q
      · exact hfQ
      · have hsum := sum_le (fun f : Pk => f.pay.length) (Q := f :: Q) (F := F) (List.nodup_cons.2 ⟨hfQ, hn⟩) (fun x hx => by
          rcases List.mem_cons.1 hx with rfl | hx
          · exact hf
          · exact hQ x hx)
        have := h.ne hf
        simp only [List.map_cons, List.sum_cons] at hsum
        omega
    · rw [if_neg hz] at h1
      omega
  · intro ha
    have h1 := sum_le (fun f : Pk => f.pay.length) hn hQ
    have h2 := sum_le (fun f : Pk => f.pay.length) h.nd ha
    obtain ⟨f, hf, hl⟩ := h.lay.ex_last
    have hz : Q.any (fun f => !f.mf) = true := List.any_eq_true.2 ⟨f, ha f hf, by rw [hl]; rfl⟩
    rw [if_pos hz]
    have : (Q.map fun f => f.pay.length).sum = P.pay.length := by omega
    rw [this]
    simp
theorem lay_at {pay out : List UInt8} {a b j : Nat} (hab : a ≤ b) (hb : b ≤ pay.length) (hl : out.length = pay.length) : (layB out a ((pay.take b).drop a))[j]? = if a ≤ j ∧ j < b then pay[j]? else out[j]? := by
  unfold layB
  have e1 : (out.take a).length = a := by rw [List.length_take]; omega
  have e2 : ((pay.take b).drop a).length = b - a := by rw [List.length_drop, List.length_take]; omega
  by_cases h1 : j < a
  · rw [if_neg (by omega), List.append_assoc, List.getElem?_append_left (by omega), List.getElem?_take, if_pos h1]
  · by_cases h2 : j < b
    · rw [if_pos ⟨by omega, h2⟩, List.append_assoc, List.getElem?_append_right (by omega), List.getElem?_append_left (by omega), e1, List.getElem?_drop, show a + (j - a) = j by omega, List.getElem?_take, if_pos h2]
    · rw [if_neg (by omega), List.getElem?_append_right (by rw [List.length_append]; omega), List.length_append, e1, e2, List.getElem?_drop]
      congr 1
      omega
theorem fill_ok {P : Pk} : ∀ {Q : List Pk} {out : List UInt8} (C : Nat → Prop), out.length = P.pay.length → (∀ j, C j → out[j]? = P.pay[j]?) → (∀ f ∈ Q, ∃ a b, Frag P a b f) →
    (fillB (Q.map fun f => (f.off, f.pay)) out).length = P.pay.length ∧ ∀ j, (C j ∨ ∃ f ∈ Q, f.off ≤ (j : Int) ∧ (j : Int) < f.off + (f.pay.length : Int)) → (fillB (Q.map fun f => (f.off, f.pay)) out)[j]? = P.pay[j]?
  | [], out, C, hl, hC, _ => by
    refine ⟨hl, fun j hj => ?_⟩
    rcases hj with h1 | ⟨f, hf, _⟩
    · exact hC j h1
    · cases hf
  | f :: Q, out, C, hl, hC, hQ => by
    obtain ⟨a, b, hF⟩ := hQ f List.mem_cons_self
    have hlen := hF.len
    have hab := hF.ab
    have hb := hF.hb
    have hoff : f.off = (a : Int) := by rw [hF.e]
    have hpay : f.pay = (P.pay.take b).drop a := by rw [hF.e]
    have e : fillB ((f :: Q).map fun f => (f.off, f.pay)) out = fillB (Q.map fun f => (f.off, f.pay)) (layB out a ((P.pay.take b).drop a)) := by
      simp only [fillB, List.map_cons, List.foldl_cons, hoff, hpay]
      rfl
    rw [e]
    have hl' : (layB out a ((P.pay.take b).drop a)).length = P.pay.length := by
      rw [layB_len (by rw [← hpay]; omega), hl]
    obtain ⟨r1, r2⟩ := fill_ok (Q := Q) (out := layB out a ((P.pay.take b).drop a)) (fun j => C j ∨ (a ≤ j ∧ j < b)) hl' (fun j hj => by
      rw [lay_at (by omega) hb hl]
      split
      · rfl
      · rename_i h1
        exact hC j (hj.resolve_right h1)) (fun g hg => hQ g (List.mem_cons_of_mem _ hg))
    refine ⟨r1, fun j hj => r2 j ?_⟩
    rcases hj with h1 | ⟨g, hg, h1⟩
    · exact .inl (.inl h1)
    · rcases List.mem_cons.1 hg with rfl | hg
      · exact .inl (.inr (by omega))
      · exact .inr ⟨g, hg, h1⟩
theorem whole_pk {P : Pk} {F Q : List Pk} {m : Ms} (h : Fam P F) (hQ : ∀ f ∈ Q, f ∈ F) (hn : Q.Nodup) (hm : MkOf P m Q) (ha : ∀ f ∈ F, f ∈ Q) : wholePk m = P := by
  obtain ⟨f, hf, hl⟩ := h.lay.ex_last
  have hz : Q.any (fun f => !f.mf) = true := List.any_eq_true.2 ⟨f, ha f hf, by rw [hl]; rfl⟩
  have hen : m.en = P.pay.length := by rw [hm.en, if_pos hz]
  obtain ⟨g, hg, hg1, hg2⟩ := h.lay.cover 0 (Nat.le_refl _) h.pos
  have hgo : g.off = 0 := by
    obtain ⟨a, b, _, hF⟩ := h.lay.frag g hg
    have : g.off = (a : Int) := by rw [hF.e]
    omega
  have hhas : m.has = true := by
    rw [hm.has, List.any_eq_true]
    exact ⟨g, ha g hg, by simp [hgo]⟩
  have hfr : ∀ f ∈ Q, ∃ a b, Frag P a b f := fun f hf => by
    obtain ⟨a, b, _, hF⟩ := h.lay.frag f (hQ f hf)
    exact ⟨a, b, hF⟩
  obtain ⟨r1, r2⟩ := fill_ok (P := P) (Q := Q) (out := List.replicate m.en.toNat 0) (fun _ => False) (by rw [List.length_replicate, hen]; rfl) (fun _ hx => hx.elim) hfr
  have hpay : fillB m.ps (List.replicate m.en.toNat 0) = P.pay := by
    rw [hm.ps]
    apply List.ext_getElem?
    intro j
    by_cases hj : j < P.pay.length
    · obtain ⟨f, hf, h1⟩ := h.lay.cover j (Nat.zero_le _) hj
      exact r2 j (.inr ⟨f, ha f hf, h1⟩)
    · rw [List.getElem?_eq_none (by omega), List.getElem?_eq_none (by omega)]
  unfold wholePk
  rw [hpay, hm.first hhas]
  have h1 := h.off
  have h2 := h.mf
  cases P
  simp only at h1 h2 ⊢
  rw [h1, h2]
end Go.Proofs.Ytjmmmmdpkfpojaa

namespace Go.Proofs.Ytjmmmmdpkfpojaa
open Go Go.IW

/-- Packets with their pieces; no two bear the same number. -/
structure Fams (n : Nat) (P : Nat → Pk) (F : Nat → List Pk) : Prop where
  le : n ≤ 16
  fam : ∀ i, i < n → Fam (P i) (F i)
  id : ∀ i j, i < n → j < n → (P i).id = (P j).id → i = j
  key : ∀ i j, i < n → j < n → (P i).src = (P j).src ∧ (P i).dst = (P j).dst
/-- What is in the making is what came of each packet since it was last whole. -/
structure Rst (n : Nat) (P : Nat → Pk) (F : Nat → List Pk) (l : List Ms) (cur : Nat → List Pk) : Prop where
  ids : (l.map (·.id)).Nodup
  mks : ∀ m ∈ l, ∃ i, i < n ∧ cur i ≠ [] ∧ MkOf (P i) m (cur i)
  here : ∀ i, i < n → cur i ≠ [] → ∃ m ∈ l, m.id = (P i).id
  sub : ∀ i, i < n → ∀ f ∈ cur i, f ∈ F i
  nd : ∀ i, i < n → (cur i).Nodup
  inc : ∀ i, i < n → ¬ ∀ f ∈ F i, f ∈ cur i
theorem Rst.nil {n : Nat} {P : Nat → Pk} {F : Nat → List Pk} (hF : Fams n P F) : Rst n P F [] fun _ => [] := by
  refine ⟨by simp, by simp, fun i _ h => absurd rfl h, by simp, by simp, fun i hi h => ?_⟩
  obtain ⟨f, hf, _⟩ := (hF.fam i hi).lay.ex_last
  exact absurd (h f hf) (by simp)
theorem sum_one {α : Type} (l : List α) : (l.map fun _ => 1).sum = l.length := by
  induction l with
  | nil => rfl
  | cons a l ih => simp only [List.map_cons, List.sum_cons, ih, List.length_cons]; omega
theorem Rst.len {n : Nat} {P : Nat → Pk} {F : Nat → List Pk} {l : List Ms} {cur : Nat → List Pk} (h : Rst n P F l cur) : l.length ≤ n := by
  have := sum_le (fun _ => 1) (Q := l.map (·.id)) (F := (List.range n).map fun i => (P i).id) h.ids (fun x hx => by
    obtain ⟨m, hm, rfl⟩ := List.mem_map.1 hx
    obtain ⟨i, hi, _, hk⟩ := h.mks m hm
    exact List.mem_map.2 ⟨i, List.mem_range.2 hi, hk.key.2.2.2.symm⟩)
  rw [sum_one, sum_one] at this
  simpa using this
theorem Rst.lenx {n : Nat} {P : Nat → Pk} {F : Nat → List Pk} {l : List Ms} {cur : Nat → List Pk} (h : Rst n P F l cur) {i : Nat} (hi : i < n) (hx : ∀ m ∈ l, m.id ≠ (P i).id) : l.length < n := by
  have := sum_le (fun _ => 1) (Q := (P i).id :: l.map (·.id)) (F := (List.range n).map fun i => (P i).id) (List.nodup_cons.2 ⟨fun hm => by
    obtain ⟨m, hm, e⟩ := List.mem_map.1 hm
    exact hx m hm e, h.ids⟩) (fun x hx => by
    rcases List.mem_cons.1 hx with rfl | hx
    · exact List.mem_map.2 ⟨i, List.mem_range.2 hi, rfl⟩
    · obtain ⟨m, hm, rfl⟩ := List.mem_map.1 hx
      obtain ⟨i, hi, _, hk⟩ := h.mks m hm
      exact List.mem_map.2 ⟨i, List.mem_range.2 hi, hk.key.2.2.2.symm⟩)
  rw [sum_one, sum_one] at this
  simp only [List.length_cons, List.length_map, List.length_range] at this
  omega
def upd1 {α : Type} (c : Nat → α) (i : Nat) (x : α) : Nat → α := fun j => if j = i then x else c j
theorem addQ_nd {P : Pk} {F Q : List Pk} (h : Fam P F) {p : Pk} (hp : p ∈ F) (hQ : ∀ f ∈ Q, f ∈ F) (hn : Q.Nodup) : (addQ Q p).Nodup := by
  unfold addQ
  split
  · exact hn
  · rename_i h1
    rw [h.has hp hQ] at h1
    rw [List.nodup_append]
    refine ⟨hn, by simp, ?_⟩
    rintro a ha b hb rfl
    obtain rfl := List.mem_singleton.1 hb
    exact h1 ha
theorem addQ_ne (Q : List Pk) (p : Pk) : addQ Q p ≠ [] := by
  unfold addQ hasQ
  cases Q with
  | nil => simp
  | cons a r => split <;> simp
theorem key_iff {P p : Pk} {F : List Pk} (h : Fam P F) (hp : p ∈ F) {P' : Pk} {m : Ms} {Q : List Pk} (hm : MkOf P' m Q) (hk : P.src = P'.src ∧ P.dst = P'.dst) (hpr : P.id = P'.id → P.proto = P'.proto) : keyS p m = true ↔ m.id = P.id := by
  obtain ⟨a, b, _, hF⟩ := h.lay.frag p hp
  obtain ⟨k1, k2, k3, k4⟩ := hm.key
  have e1 : p.src = P.src := by rw [hF.e]
  have e2 : p.dst = P.dst := by rw [hF.e]
  have e3 : p.proto = P.proto := by rw [hF.e]
  have e4 : p.id = P.id := by rw [hF.e]
  unfold keyS
  rw [e1, e2, e3, e4, k1, k2, k3, k4]
  simp only [Bool.and_eq_true, decide_eq_true_eq]
  constructor
  · rintro ⟨_, h⟩; exact h
  · intro h
    exact ⟨⟨⟨hk.1.symm, hk.2.symm⟩, (hpr h.symm).symm⟩, h⟩
/-- The datagram in the making that a piece belongs to. -/
theorem open_step {n : Nat} {P : Nat → Pk} {F : Nat → List Pk} {l : List Ms} {cur : Nat → List Pk} {now : Int} (hF : Fams n P F) (h : Rst n P F l cur) {i : Nat} (hi : i < n) {p : Pk} (hp : p ∈ F i) :
    ∃ s m t, openS now l ot0 p = (s ++ m :: t, ot0, s.length) ∧ MkOf (P i) m (cur i) ∧ (∀ x ∈ s ++ t, x ∈ l ∧ x.id ≠ (P i).id) ∧ (∀ x ∈ l, x.id ≠ (P i).id → x ∈ s ++ t) ∧ ((s ++ t).map (·.id)).Nodup := by
  have hkey : ∀ m ∈ l, keyS p m = true ↔ m.id = (P i).id := by
    intro m hm
    obtain ⟨j, hj, _, hk⟩ := h.mks m hm
    exact key_iff (hF.fam i hi) hp hk (hF.key i j hi hj) fun e => by rw [hF.id i j hi hj e]
  unfold openS
  cases hfi : l.findIdx? (keyS p) with
  | some k =>
    obtain ⟨hk1, hk2, _⟩ := List.findIdx?_eq_some_iff_getElem.1 hfi
    obtain ⟨s, t, hl, hs⟩ : ∃ s t, l = s ++ l[k] :: t ∧ s.length = k := ⟨l.take k, l.drop (k + 1), by rw [List.getElem_cons_drop, List.take_append_drop], by rw [List.length_take]; omega⟩
    have hmem : l[k] ∈ l := List.getElem_mem _
    generalize l[k] = m at hk2 hl hmem
    have hid := (hkey m hmem).1 hk2
    have hnd := h.ids
    rw [hl, List.map_append, List.map_cons, List.nodup_append, List.nodup_cons] at hnd
    obtain ⟨n1, ⟨n2, n3⟩, n4⟩ := hnd
    have hno : ∀ x ∈ s ++ t, x.id ≠ m.id := by
      intro x hx
      rcases List.mem_append.1 hx with hx | hx
      · exact n4 x.id (List.mem_map.2 ⟨x, hx, rfl⟩) m.id List.mem_cons_self
      · intro e
        exact n2 (by rw [← e]; exact List.mem_map.2 ⟨x, hx, rfl⟩)
    refine ⟨s, m, t, by simp only [hl, hs], ?_, ?_, ?_, ?_⟩
    · obtain ⟨j, hj, _, hk⟩ := h.mks m hmem
      have := hF.id i j hi hj (by rw [← hid, hk.key.2.2.2])
      rw [this]
      exact hk
    · intro x hx
      refine ⟨?_, by rw [← hid]; exact hno x hx⟩
      rw [hl]
      rcases List.mem_append.1 hx with hx | hx
      · exact List.mem_append_left _ hx
      · exact List.mem_append_right _ (List.mem_cons_of_mem _ hx)
    · intro x hx hne
      rw [hl] at hx
      rcases List.mem_append.1 hx with hx | hx
      · exact List.mem_append_left _ hx
      · rcases List.mem_cons.1 hx with rfl | hx
        · exact absurd hid hne
        · exact List.mem_append_right _ hx
    · rw [List.map_append, List.nodup_append]
      exact ⟨n1, n3, fun a ha b hb => n4 a ha b (List.mem_cons_of_mem _ hb)⟩
  | none =>
    have hno : ∀ m ∈ l, m.id ≠ (P i).id := by
      intro m hm e
      have := (List.findIdx?_eq_none_iff.1 hfi) m hm
      rw [(hkey m hm).2 e] at this
      cases this
    have hlen := h.lenx hi hno
    have hle := hF.le
    have hcur : cur i = [] := by
      by_cases hz : cur i = []
      · exact hz
      · obtain ⟨m, hm, e⟩ := h.here i hi hz
        exact absurd e (hno m hm)
    obtain ⟨a, b, _, hf⟩ := (hF.fam i hi).lay.frag p hp
    refine ⟨l, msNew p now, [], by simp only; rw [if_neg (by omega)], ?_, ?_, ?_, ?_⟩
    · rw [hcur]
      refine ⟨⟨by rw [hf.e]; rfl, by rw [hf.e]; rfl, by rw [hf.e]; rfl, by rw [hf.e]; rfl⟩, rfl, rfl, rfl, rfl, fun hx => by cases hx⟩
    · intro x hx
      rw [List.append_nil] at hx
      exact ⟨hx, hno x hx⟩
    · intro x hx _
      rw [List.append_nil]
      exact hx
    · rw [List.append_nil]
      exact h.ids
/-- How a piece is taken. -/
theorem take_step {n : Nat} {P : Nat → Pk} {F : Nat → List Pk} {l : List Ms} {cur : Nat → List Pk} {now : Int} (hF : Fams n P F) (h : Rst n P F l cur) {i : Nat} (hi : i < n) {p : Pk} (hp : p ∈ F i) :
    ∃ b : Bool, (b = true ↔ ∀ f ∈ F i, f ∈ addQ (cur i) p) ∧ (takeS now l ot0 p).2 = (if b = true then { ot0 with done := true, pk := P i } else ot0) ∧
      Rst n P F (takeS now l ot0 p).1 (upd1 cur i (if b = true then [] else addQ (cur i) p)) := by
  have fam := hF.fam i hi
  obtain ⟨c, d, _, hf⟩ := fam.lay.frag p hp
  have hl := hf.len
  have hab := hf.ab
  have hb := hf.hb
  have hoff : p.off = (c : Int) := by rw [hf.e]
  have hmf : p.mf = decide (d < (P i).pay.length) := by rw [hf.e]
  by_cases hone : p.off = 0 ∧ p.mf = false
  · have hc : c = 0 := by omega
    have hd : d = (P i).pay.length := by
      have := hone.2
      rw [hmf, decide_eq_false_iff_not] at this
      omega
    have hpP : p = P i := by
      rw [hf.e, hc, hd]
      have h1 := fam.off
      have h2 := fam.mf
      generalize P i = Q at h1 h2
      cases Q
      simp only at h1 h2
      simp [h1, h2]
    have hall : ∀ f ∈ F i, f = p := by
      intro f hfF
      rcases fam.sep hfF hp with e | e | e
      · exact e
      · obtain ⟨a', b', _, hF'⟩ := fam.lay.frag f hfF
        have := hF'.len
        have := hF'.ab
        have : f.off = (a' : Int) := by rw [hF'.e]
        omega
      · obtain ⟨a', b', _, hF'⟩ := fam.lay.frag f hfF
        have := hF'.hb
        have := hF'.ab
        have : f.off = (a' : Int) := by rw [hF'.e]
        omega
    have hcur : cur i = [] := by
      by_cases hz : cur i = []
      · exact hz
      · exfalso
        refine h.inc i hi fun f hfF => ?_
        obtain ⟨g, hg⟩ := List.exists_mem_of_ne_nil _ hz
        rw [hall f hfF, ← hall g (h.sub i hi g hg)]
        exact hg
    have ht : takeS now l ot0 p = (l, { ot0 with done := true, pk := p }) := by
      unfold takeS
      rw [if_pos hone]
    refine ⟨true, ?_, by rw [ht, ← hpP]; rfl, ?_⟩
    · simp only [true_iff]
      intro f hfF
      rw [hall f hfF]
      exact (fam.add_mem hp (h.sub i hi) p).2 (.inr rfl)
    · rw [ht]
      have : upd1 cur i (if true = true then [] else addQ (cur i) p) = cur := by
        funext j
        unfold upd1
        split
        · rename_i e; rw [e, hcur]; rfl
        · rfl
      rw [this]
      exact h
  · have hne : ¬ (p.pay = [] ∨ (p.mf = true ∧ (p.pay.length : Int).tmod 8 ≠ 0)) := by
      rintro (e | ⟨e1, e2⟩)
      · rw [e] at hl; simp at hl; omega
      · rw [hmf, decide_eq_true_eq] at e1
        have := hf.m e1
        apply e2
        rw [hl, Int.tmod_eq_emod_of_nonneg (by omega)]
        omega
    obtain ⟨s, m, t, ho, hm, hst, hts, hnd⟩ := open_step (now := now) hF h hi hp
    have hsub := h.sub i hi
    have hm' := add_frag fam hsub hm hp
    have hmem := fam.add_mem hp hsub
    have hsub' : ∀ f ∈ addQ (cur i) p, f ∈ F i := fun f hf => by
      rcases (hmem f).1 hf with h1 | rfl
      · exact hsub f h1
      · exact hp
    have hnd' := addQ_nd fam hp hsub (h.nd i hi)
    have hw := whole_iff fam hsub' hnd' hm'
    have ht : takeS now l ot0 p = if wholeS (addS m p) = true then (s ++ t, { ot0 with done := true, pk := wholePk (addS m p) }) else (s ++ addS m p :: t, ot0) := by
      unfold takeS
      rw [if_neg hone, if_neg hne]
      simp only [ho]
      unfold stepS
      have hg : (s ++ m :: t).getD s.length default = m := by simp [List.getD_eq_getElem?_getD]
      simp only [hg, hm.ref, Bool.false_eq_true, if_false]
      split
      · rw [List.eraseIdx_append_of_length_le (Nat.le_refl _), Nat.sub_self]; rfl
      · simp
    have hoth : ∀ x ∈ s ++ t, ∃ j, j < n ∧ j ≠ i ∧ cur j ≠ [] ∧ MkOf (P j) x (cur j) := by
      intro x hx
      obtain ⟨h1, h2⟩ := hst x hx
      obtain ⟨j, hj, h3, h4⟩ := h.mks x h1
      refine ⟨j, hj, ?_, h3, h4⟩
      rintro rfl
      exact h2 h4.key.2.2.2
    have hhere : ∀ j, j < n → j ≠ i → cur j ≠ [] → ∃ x ∈ s ++ t, x.id = (P j).id := by
      intro j hj hji hc
      obtain ⟨x, hx, e⟩ := h.here j hj hc
      refine ⟨x, hts x hx ?_, e⟩
      rw [e]
      intro e2
      exact hji (hF.id j i hj hi e2)
    refine ⟨wholeS (addS m p), hw, ?_, ?_⟩
    · rw [ht]
      split
      · rename_i hwt
        rw [whole_pk fam hsub' hnd' hm' (hw.1 hwt)]
      · rfl
    · rw [ht]
      split
      · rename_i hb
        refine ⟨hnd, ?_, ?_, ?_, ?_, ?_⟩
        · intro x hx
          obtain ⟨j, hj, hji, h3, h4⟩ := hoth x hx
          exact ⟨j, hj, by unfold upd1; rw [if_neg hji]; exact h3, by unfold upd1; rw [if_neg hji]; exact h4⟩
        · intro j hj hc
          by_cases hji : j = i
          · subst hji; exact absurd (by unfold upd1; rw [if_pos rfl]) hc
          · unfold upd1 at hc; rw [if_neg hji] at hc; exact hhere j hj hji hc
        · intro j hj f hf
          unfold upd1 at hf
          split at hf
          · cases hf
          · exact h.sub j hj f hf
        · intro j hj
          unfold upd1
          split
          · exact List.nodup_nil
          · exact h.nd j hj
        · intro j hj hall
          unfold upd1 at hall
          split at hall
          · obtain ⟨f, hf, _⟩ := (hF.fam j hj).lay.ex_last
            exact absurd (hall f hf) (by simp)
          · exact h.inc j hj hall
      · rename_i hwf
        have hnid : ∀ x ∈ s ++ t, x.id ≠ (addS m p).id := fun x hx => by rw [hm'.key.2.2.2]; exact (hst x hx).2
        refine ⟨?_, ?_, ?_, ?_, ?_, ?_⟩
        · rw [List.map_append, List.nodup_append] at hnd
          obtain ⟨n1, n2, n3⟩ := hnd
          rw [List.map_append, List.map_cons, List.nodup_append, List.nodup_cons]
          refine ⟨n1, ⟨?_, n2⟩, ?_⟩
          · intro hx
            obtain ⟨x, hx, e⟩ := List.mem_map.1 hx
            exact hnid x (List.mem_append_right _ hx) e
          · intro a ha b hb
            rcases List.mem_cons.1 hb with rfl | hb
            · obtain ⟨x, hx, rfl⟩ := List.mem_map.1 ha
              exact hnid x (List.mem_append_left _ hx)
            · exact n3 a ha b hb
        · intro x hx
          have hx' : x = addS m p ∨ x ∈ s ++ t := by
            rcases List.mem_append.1 hx with hx | hx
            · exact .inr (List.mem_append_left _ hx)
            · rcases List.mem_cons.1 hx with rfl | hx
              · exact .inl rfl
              · exact .inr (List.mem_append_right _ hx)
          rcases hx' with rfl | hx'
          · exact ⟨i, hi, by unfold upd1; rw [if_pos rfl]; exact addQ_ne _ _, by unfold upd1; rw [if_pos rfl]; exact hm'⟩
          · obtain ⟨j, hj, hji, h3, h4⟩ := hoth x hx'
            exact ⟨j, hj, by unfold upd1; rw [if_neg hji]; exact h3, by unfold upd1; rw [if_neg hji]; exact h4⟩
        · intro j hj hc
          by_cases hji : j = i
          · subst hji; exact ⟨addS m p, List.mem_append_right _ List.mem_cons_self, hm'.key.2.2.2⟩
          · unfold upd1 at hc; rw [if_neg hji] at hc
            obtain ⟨x, hx, e⟩ := hhere j hj hji hc
            refine ⟨x, ?_, e⟩
            rcases List.mem_append.1 hx with hx | hx
            · exact List.mem_append_left _ hx
            · exact List.mem_append_right _ (List.mem_cons_of_mem _ hx)
        · intro j hj f hf
          unfold upd1 at hf
          split at hf
          · rename_i e; rw [e]; exact hsub' f hf
          · exact h.sub j hj f hf
        · intro j hj
          unfold upd1
          split
          · exact hnd'
          · exact h.nd j hj
        · intro j hj hall
          unfold upd1 at hall
          split at hall
          · rename_i e
            subst e
            exact hwf (hw.2 hall)
          · exact h.inc j hj hall
end Go.Proofs.Ytjmmmmdpkfpojaa

namespace Go.Proofs.Ytjmmmmdpkfpojaa
open Go Go.IW

theorem Lay.m8 {P : Pk} {a : Nat} {F : List Pk} (h : Lay P a F) : a % 8 = 0 → ∀ f ∈ F, ∃ c : Nat, f.off = (c : Int) ∧ c % 8 = 0 := by
  induction h with
  | last a h0 =>
    intro h8 f hf
    obtain rfl := List.mem_singleton.1 hf
    exact ⟨a, rfl, h8⟩
  | more a b h0 h1 h8 hr ih =>
    intro ha f hf
    rcases List.mem_cons.1 hf with rfl | hf
    · exact ⟨a, rfl, ha⟩
    · exact ih (by omega) f hf
theorem Fam.code {P p : Pk} {F : List Pk} (h : Fam P F) (hp : p ∈ F) : codeB p = 0 := by
  obtain ⟨a, b, _, hf⟩ := h.lay.frag p hp
  obtain ⟨c, hc, h8⟩ := h.lay.m8 (by rfl) p hp
  have hl := hf.len
  have hab := hf.ab
  have hb := hf.hb
  have hoff : p.off = (a : Int) := by rw [hf.e]
  have hP := h.c
  unfold codeB at hP
  split at hP
  · cases hP
  · rename_i h1
    have h1 : okIPb P = true := Bool.not_eq_false _ ▸ h1
    split at hP
    · cases hP
    · rename_i h2
      have hca : c = a := by omega
      subst hca
      have h3 : okIPb p = true := by
        unfold okIPb at h1 ⊢
        simp only [Bool.and_eq_true, decide_eq_true_eq] at h1 ⊢
        have e : (p.off).tmod 8 = 0 := by rw [hoff, Int.tmod_eq_emod_of_nonneg (by omega)]; omega
        have e1 : p.tos = P.tos ∧ p.ttl = P.ttl ∧ p.proto = P.proto ∧ p.id = P.id ∧ p.src = P.src ∧ p.dst = P.dst ∧ p.opts = P.opts := by rw [hf.e]; exact ⟨rfl, rfl, rfl, rfl, rfl, rfl, rfl⟩
        obtain ⟨e1, e2, e3, e4, e5, e6, e7⟩ := e1
        rw [e1, e2, e3, e4, e5, e6, e7]
        obtain ⟨⟨⟨⟨⟨⟨⟨⟨⟨⟨⟨⟨⟨⟨a1, a2⟩, a3⟩, a4⟩, a5⟩, a6⟩, a7⟩, a8⟩, a9⟩, a10⟩, a11⟩, a12⟩, a13⟩, a14⟩, a15⟩ := h1
        exact ⟨⟨⟨⟨⟨⟨⟨⟨⟨⟨⟨⟨⟨⟨a1, a2⟩, a3⟩, a4⟩, a5⟩, a6⟩, a7⟩, a8⟩, by omega⟩, by omega⟩, e⟩, a12⟩, a13⟩, a14⟩, a15⟩
      have e7 : p.opts = P.opts := by rw [hf.e]
      unfold codeB
      rw [if_neg (by simp [h3]), if_neg (by rw [e7]; omega)]
/-- What comes of a piece. -/
theorem op_step {n : Nat} {P : Nat → Pk} {F : Nat → List Pk} {l : List Ms} {cur : Nat → List Pk} {now : Int} (hF : Fams n P F) (h : Rst n P F l cur) {i : Nat} (hi : i < n) {p : Pk} (hp : p ∈ F i) :
    ∃ (b : Bool) (l' : List Ms) (o : Ot), opS now l (takeOp p) = (now, l', o) ∧ (b = true ↔ ∀ f ∈ F i, f ∈ addQ (cur i) p) ∧ o.code = 0 ∧ o.done = b ∧ (b = true → o.pk = P i) ∧ o.held = (l'.length : Int) ∧ o.bytes = (bytesS l' : Nat) ∧
      Rst n P F l' (upd1 cur i (if b = true then [] else addQ (cur i) p)) := by
  obtain ⟨b, h1, h2, h3⟩ := take_step (now := now) hF h hi hp
  refine ⟨b, (takeS now l ot0 p).1, tellS (takeS now l ot0 p).1 (takeS now l ot0 p).2, ?_, h1, ?_, ?_, ?_, rfl, ?_, h3⟩
  · unfold opS
    rw [if_pos ⟨rfl, (hF.fam i hi).code hp⟩]
    rfl
  · rw [h2]; cases b <;> rfl
  · rw [h2]; cases b <;> rfl
  · intro hb; rw [h2, hb]; rfl
  · rw [h2]; cases b <;> simp [tellS, ot0]
theorem Rst.empty {n : Nat} {P : Nat → Pk} {F : Nat → List Pk} {l : List Ms} {cur : Nat → List Pk} (h : Rst n P F l cur) (hc : ∀ i, i < n → cur i = []) : l = [] := by
  cases l with
  | nil => rfl
  | cons m l =>
    obtain ⟨i, hi, h1, _⟩ := h.mks m List.mem_cons_self
    exact absurd (hc i hi) h1
/-- The pieces of one packet, in whatever order: with the last one, and not ahead of it, it is whole. -/
theorem cut_run {P : Nat → Pk} {F : Nat → List Pk} (hF : Fams 1 P F) {now : Int} : ∀ (ps : List Pk) {l : List Ms} {cur : Nat → List Pk}, Rst 1 P F l cur → (cur 0 ++ ps).Perm (F 0) →
    ∀ (k : Nat) (o : Ot), (runSt now l (ps.map takeOp))[k]? = some o → o.code = 0 ∧ o.done = decide (k + 1 = ps.length) ∧ (k + 1 = ps.length → o.pk = P 0 ∧ o.held = 0 ∧ o.bytes = 0)
  | [], l, cur, h, hp => by
    intro k o ho
    simp [runSt] at ho
  | p :: ps, l, cur, h, hp => by
    have h0 : (0 : Nat) < 1 := Nat.lt_succ_self 0
    have fam := hF.fam 0 h0
    have hpF : p ∈ F 0 := hp.mem_iff.1 (by simp)
    obtain ⟨b, l', o', e, hb, c1, c2, c3, c4, c5, h'⟩ := op_step (now := now) hF h h0 hpF
    have hnd : (cur 0 ++ p :: ps).Nodup := hp.symm.nodup fam.nd
    have hpn : p ∉ cur 0 := by
      intro hx
      rw [List.nodup_append] at hnd
      exact hnd.2.2 p hx p List.mem_cons_self rfl
    have hadd : addQ (cur 0) p = cur 0 ++ [p] := by
      unfold addQ
      rw [if_neg]
      intro hx
      exact hpn ((fam.has hpF (h.sub 0 h0)).1 hx)
    have hbl : b = decide (ps = []) := by
      rw [Bool.eq_iff_iff, hb, decide_eq_true_eq, hadd]
      constructor
      · intro ha
        cases ps with
        | nil => rfl
        | cons q r =>
          exfalso
          have hq := ha q (hp.mem_iff.1 (by simp))
          rw [List.nodup_append, List.nodup_cons] at hnd
          rcases List.mem_append.1 hq with hq | hq
          · exact hnd.2.2 q hq q (by simp) rfl
          · obtain rfl := List.mem_singleton.1 hq
            exact hnd.2.1.1 List.mem_cons_self
      · rintro rfl f hf
        exact hp.mem_iff.2 hf
    intro k o ho
    simp only [List.map_cons, runSt, e] at ho
    cases k with
    | zero =>
      simp only [List.getElem?_cons_zero, Option.some.injEq] at ho
      subst ho
      refine ⟨c1, ?_, ?_⟩
      · rw [c2, hbl, Bool.eq_iff_iff, decide_eq_true_eq, decide_eq_true_eq, List.length_cons]
        constructor
        · rintro rfl; rfl
        · intro hx; exact List.length_eq_zero_iff.1 (by omega)
      · intro hx
        have hps : ps = [] := List.length_eq_zero_iff.1 (by rw [List.length_cons] at hx; omega)
        have hbt : b = true := by rw [hbl, hps]; rfl
        have hl' : l' = [] := by
          refine h'.empty fun i hi => ?_
          have : i = 0 := by omega
          subst this
          unfold upd1
          rw [if_pos rfl, if_pos hbt]
        refine ⟨c3 hbt, by rw [c4, hl']; rfl, by rw [c5, hl']; rfl⟩
    | succ k =>
      simp only [List.getElem?_cons_succ] at ho
      have hne : ps ≠ [] := by
        rintro rfl
        simp [runSt] at ho
      have hbf : b = false := by rw [hbl]; exact decide_eq_false hne
      rw [hbf] at h'
      have := cut_run hF (now := now) ps h' (by
        unfold upd1
        rw [if_pos rfl, if_neg (by simp), hadd, List.append_assoc]
        exact hp) k o ho
      rw [List.length_cons]
      refine ⟨this.1, ?_, fun hx => this.2.2 (by omega)⟩
      rw [this.2.1, Bool.eq_iff_iff, decide_eq_true_eq, decide_eq_true_eq]
      omega
end Go.Proofs.Ytjmmmmdpkfpojaa

set_option maxRecDepth 20000
namespace Go.Proofs.Ytjmmmmdpkfpojaa
open Go Go.IW

/-! ### Lists of packets, operations and answers, read -/
theorem PksAt.ext {h h' : IH} {v : IV} {rs : List (List IV)} {ps : List Pk} (A : PksAt h v rs ps) (E : Ext h h') : PksAt h' v rs ps :=
  ⟨A.s.ext E, A.n, fun i p hp => by obtain ⟨vo, vp, e, a⟩ := A.r i p hp; exact ⟨vo, vp, e, a.ext E⟩⟩
theorem pks_of {g : IH} {L : List As} {x : Bool} {v : IV} {rs : List (List IV)} {ps : List Pk} (S : Sp g L) (i j : Nat) (hi : L[i]? = some (sl x 44 11 v rs)) (hj : L[j]? = some (all2 pkR rs ps)) : PksAt g v rs ps :=
  ⟨S.slA i hi, a2_len S j hj, fun k p hp => pks_at S j hj hp⟩
theorem pks_pk {g : IH} {L : List As} {rs : List (List IV)} {ps : List Pk} {k : Nat} {q : Pk} {vo vp : IV} (S : Sp g L) (j : Nat) (hj : L[j]? = some (all2 pkR rs ps)) (hr : rs[k]? = some (pkRow q vo vp)) (hq : ps[k]? = some q) : PkAt g q vo vp := by
  obtain ⟨vo', vp', h1, h2⟩ := pks_at S j hj hq
  rw [hr] at h1
  simp only [pkRow, Option.some.injEq, List.cons.injEq, and_true, true_and] at h1
  rw [h1.1, h1.2]
  exact h2
theorem perm_rel {α β : Type} {R : α → β → Prop} {xa xb : List α} (hp : xa.Perm xb) : ∀ {ys : List β}, All2 R xb ys → ∃ xs : List β, xs.Perm ys ∧ All2 R xa xs := by
  induction hp with
  | nil => intro ys h; exact ⟨ys, .refl _, h⟩
  | cons a _ ih =>
    intro ys h
    cases h with
    | cons h1 h2 =>
      obtain ⟨xs, p, r⟩ := ih h2
      exact ⟨_ :: xs, p.cons _, .cons h1 r⟩
  | swap a b l =>
    intro ys h
    cases h with
    | cons h1 h2 =>
      cases h2 with
      | cons h3 h4 => exact ⟨_ :: _ :: _, .swap _ _ _, .cons h3 (.cons h1 h4)⟩
  | trans _ _ ih1 ih2 =>
    intro ys h
    obtain ⟨xs, p, r⟩ := ih2 h
    obtain ⟨zs, p', r'⟩ := ih1 r
    exact ⟨zs, p'.trans p, r'⟩
def RowAt (g : IH) (r : List IV) (p : Pk) : Prop := ∃ vo vp, r = pkRow p vo vp ∧ PkAt g p vo vp
theorem rows_all2 {g : IH} : ∀ {rs : List (List IV)} {ps : List Pk}, rs.length = ps.length → (∀ (i : Nat) (p : Pk), ps[i]? = some p → ∃ vo vp, rs[i]? = some (pkRow p vo vp) ∧ PkAt g p vo vp) → All2 (RowAt g) rs ps
  | [], [], _, _ => .nil
  | r :: rs, p :: ps, hl, h => by
    obtain ⟨vo, vp, e, a⟩ := h 0 p rfl
    refine .cons ⟨vo, vp, by simpa using e, a⟩ (rows_all2 (by simpa using hl) fun i q hq => ?_)
    have := h (i + 1) q (by simpa using hq)
    simpa using this
theorem all2_rows {g : IH} {rs : List (List IV)} {ps : List Pk} (h : All2 (RowAt g) rs ps) : rs.length = ps.length ∧ ∀ (i : Nat) (p : Pk), ps[i]? = some p → ∃ vo vp, rs[i]? = some (pkRow p vo vp) ∧ PkAt g p vo vp := by
  induction h with
  | nil => exact ⟨rfl, by simp⟩
  | cons h1 h2 ih =>
    obtain ⟨vo, vp, rfl, a⟩ := h1
    refine ⟨by simp [ih.1], fun i q hq => ?_⟩
    cases i with
    | zero => simp at hq; subst hq; exact ⟨vo, vp, rfl, a⟩
    | succ i => simpa using ih.2 i q (by simpa using hq)
theorem PksAt.perm {g : IH} {v v' : IV} {rs rs' : List (List IV)} {ps : List Pk} (A : PksAt g v rs ps) (hs : SlR g 11 v' rs') (hp : rs'.Perm rs) : ∃ ps', ps'.Perm ps ∧ PksAt g v' rs' ps' := by
  obtain ⟨ps', p, r⟩ := perm_rel hp (rows_all2 A.n A.r)
  obtain ⟨h1, h2⟩ := all2_rows r
  exact ⟨ps', p, hs, h1, h2⟩
theorem PksAt.rows {g : IH} {v : IV} {rs : List (List IV)} {ps : List Pk} (A : PksAt g v rs ps) : ∀ r ∈ rs, ∃ p vo vp, r = pkRow p vo vp ∧ vo.one = true ∧ vp.one = true := by
  intro r hr
  obtain ⟨i, hi, rfl⟩ := List.mem_iff_getElem.1 hr
  have hi' : i < ps.length := by rw [← A.n]; exact hi
  obtain ⟨vo, vp, e, a⟩ := A.r i ps[i] (List.getElem?_eq_getElem hi')
  rw [List.getElem?_eq_getElem hi] at e
  exact ⟨ps[i], vo, vp, Option.some.inj e, a.o.one, a.p.one⟩
theorem ops_of {g : IH} {L : List As} {x : Bool} {v : IV} {rs : List (List IV)} {ops : List Op} (S : Sp g L) (i j : Nat) (hi : L[i]? = some (sl x 58 13 v rs)) (hj : L[j]? = some (all2 opR rs ops)) (hI : ∀ o ∈ ops, I64 o.wait ∧ PkI o.pk) : OpsAt g v ops := by
  refine ⟨⟨rs, S.slA i hi, a2_len S j hj, fun k o ho => ?_⟩, hI⟩
  obtain ⟨f, hf⟩ := S.part j hj
  obtain ⟨r, f', h1, ⟨vo, vp⟩, f1, f2, _, ⟨_, rfl, h4, h5⟩, g1, g2, _, h6, h7⟩ := all2_at hf ho
  refine ⟨vo, vp, h1, ?_, ?_⟩
  · rcases h6 with ⟨h4, _, h5 | h5⟩ | ⟨l, h0, h5, _, h8, h9⟩
    · simp only at h4 h5; rw [h4, h5]; exact SlR.nil _ _
    · simp only at h4 h5; rw [h4, h5]; exact SlR.empty _ _ _
    · simp only at h5; rw [h5]; exact SlR.whole h9 rfl h8
  · rcases h7 with ⟨h4, _, h5 | h5⟩ | ⟨l, h0, h5, _, h8, h9⟩
    · simp only at h4 h5; rw [h4, h5]; exact SlR.nil _ _
    · simp only at h4 h5; rw [h4, h5]; exact SlR.empty _ _ _
    · simp only at h5; rw [h5]; exact SlR.whole h9 rfl h8
theorem pk_vw2 {lo hi : Nat} {h : IH} {cs : List IV} {p : Pk} (hv : Vw lo hi h t_Packet cs (pkD p)) : ∃ vo vp, cs = pkRow p vo vp ∧ PkAt h p vo vp := by
  unfold Vw pkD t_Packet at hv
  obtain ⟨_, _, _, _, rfl, e, ⟨n0, rfl, e'⟩, hv⟩ := hv
  cases e; cases e'
  obtain ⟨_, _, _, _, rfl, e, ⟨n1, rfl, e'⟩, hv⟩ := hv
  cases e; cases e'
  obtain ⟨_, _, _, _, rfl, e, ⟨n2, rfl, e'⟩, hv⟩ := hv
  cases e; cases e'
  obtain ⟨_, _, _, _, rfl, e, ⟨n3, rfl, e'⟩, hv⟩ := hv
  cases e; cases e'
  obtain ⟨_, _, _, _, rfl, e, ⟨n4, rfl, e'⟩, hv⟩ := hv
  cases e; cases e'
  obtain ⟨_, _, _, _, rfl, e, ⟨n5, rfl, e'⟩, hv⟩ := hv
  cases e; cases e'
  obtain ⟨_, _, _, _, rfl, e, ⟨n6, rfl, e'⟩, hv⟩ := hv
  cases e; cases e'
  obtain ⟨_, _, _, _, rfl, e, ⟨n7, rfl, e'⟩, hv⟩ := hv
  cases e; cases e'
  obtain ⟨_, _, _, _, rfl, e, ⟨n8, rfl, e'⟩, hv⟩ := hv
  cases e; cases e'
  obtain ⟨_, _, _, _, rfl, e, ho, hv⟩ := hv
  cases e
  obtain ⟨_, _, _, _, rfl, e, hp, hv⟩ := hv
  cases e
  obtain ⟨rfl, _⟩ := hv
  obtain ⟨vo, _, _, rfl, _⟩ := id ho
  obtain ⟨vp, _, _, rfl, _⟩ := id hp
  exact ⟨vo, vp, rfl, bytes_vw ho, bytes_vw hp⟩
theorem out_vw2 {lo hi : Nat} {h : IH} {cs : List IV} {o : Ot} (hv : Vw lo hi h t_ReasmOut cs (outD o)) : ∃ vo vp ve, cs = outRow o vo vp ve ∧ PkAt h o.pk vo vp ∧ ve.one = true := by
  unfold Vw outD t_ReasmOut at hv
  obtain ⟨_, _, _, _, rfl, e, ⟨n0, rfl, e'⟩, hv⟩ := hv
  cases e; cases e'
  obtain ⟨_, _, _, _, rfl, e, ⟨n1, rfl, e'⟩, hv⟩ := hv
  cases e; cases e'
  obtain ⟨_, _, _, _, rfl, e, hp, hv⟩ := hv
  cases e
  obtain ⟨_, _, _, _, rfl, e, he, hv⟩ := hv
  cases e
  obtain ⟨_, _, _, _, rfl, e, ⟨n2, rfl, e'⟩, hv⟩ := hv
  cases e; cases e'
  obtain ⟨_, _, _, _, rfl, e, ⟨n3, rfl, e'⟩, hv⟩ := hv
  cases e; cases e'
  obtain ⟨rfl, _⟩ := hv
  obtain ⟨vo, vp, rfl, ha⟩ := pk_vw2 hp
  obtain ⟨ve, _, _, rfl, _, hs, _⟩ := he
  exact ⟨vo, vp, ve, rfl, ha, hs.one⟩
/-- The answers that a slice holds. -/
structure OutsAt (h : IH) (v : IV) (os : List Ot) : Prop where
  sl : ∃ rs, SlR h 16 v rs ∧ rs.length = os.length ∧ ∀ (i : Nat) (o : Ot), os[i]? = some o → ∃ vo vp ve, rs[i]? = some (outRow o vo vp ve) ∧ PkAt h o.pk vo vp ∧ ve.one = true
theorem outs_vw {lo hi : Nat} {h : IH} {v : IV} {os : List Ot} (hv : Vw lo hi h (.slice 52 t_ReasmOut) [v] (.list (os.map outD))) : OutsAt h v os := by
  obtain ⟨v', rs, ds, e1, e2, hs, hS, ha⟩ := hv
  obtain rfl := (List.cons.inj e1).1
  cases e2
  refine ⟨rs, hs, ?_⟩
  clear hs hS
  generalize hd : os.map outD = ds at ha
  induction ha generalizing os with
  | nil =>
    cases os with
    | nil => exact ⟨rfl, by simp⟩
    | cons o os => cases hd
  | cons h1 h2 ih =>
    cases os with
    | nil => cases hd
    | cons o os =>
      cases hd
      obtain ⟨vo, vp, ve, rfl, a, z⟩ := out_vw2 h1
      obtain ⟨i1, i2⟩ := ih rfl
      refine ⟨by simp [i1], fun i q hq => ?_⟩
      cases i with
      | zero => simp at hq; subst hq; exact ⟨vo, vp, ve, rfl, a, z⟩
      | succ i => simpa using i2 i q (by simpa using hq)
theorem OutsAt.ext {h h' : IH} {v : IV} {os : List Ot} (a : OutsAt h v os) (E : Ext h h') : OutsAt h' v os := by
  obtain ⟨rs, h1, h2, h3⟩ := a.sl
  exact ⟨rs, h1.ext E, h2, fun i o ho => by obtain ⟨vo, vp, ve, e, p, z⟩ := h3 i o ho; exact ⟨vo, vp, ve, e, p.ext E, z⟩⟩
/-! ### What a cut is made of -/
theorem Cut.len {p : Pk} {R a : Nat} {F : List Pk} (h : Cut p R a F) : ∀ f ∈ F, f.pay.length ≤ R ∧ f.opts = p.opts := by
  induction h with
  | last a h0 h1 =>
    intro f hf
    obtain rfl := List.mem_singleton.1 hf
    exact ⟨by simp only [List.length_drop]; omega, rfl⟩
  | more a h0 hr ih =>
    intro f hf
    rcases List.mem_cons.1 hf with rfl | hf
    · exact ⟨by simp only [List.length_drop, List.length_take]; omega, rfl⟩
    · exact ih f hf
/-- A piece cut again. -/
theorem Cut.join {P f : Pk} {R c a b : Nat} {G : List Pk} (h : Cut f R c G) (hR : 8 ≤ R) (hc : c % 8 = 0) (hf : Frag P a b f) : (b < P.pay.length → ∀ r, Lay P b r → Lay P (a + c) (G ++ r)) ∧ (b = P.pay.length → Lay P (a + c) G) := by
  have hl := hf.len
  have hab := hf.ab
  have hb := hf.hb
  have hoff : f.off = (a : Int) := by rw [hf.e]
  induction h with
  | last c h0 h1 =>
    have e : ({ f with off := f.off + (c : Int), pay := f.pay.drop c } : Pk) = { P with off := ((a + c : Nat) : Int), mf := decide (b < P.pay.length), pay := (P.pay.take b).drop (a + c) } := by
      rw [hf.e]
      simp [List.drop_drop]
    rw [e]
    constructor
    · intro hb2 r hr
      rw [decide_eq_true hb2]
      exact .more (a + c) b (by omega) hb2 (by have := hf.m hb2; omega) hr
    · intro hb2
      have := Lay.last (P := P) (a + c) (by omega)
      rw [decide_eq_false (by omega), hb2, List.take_length]
      exact this
  | more c h0 hr ih =>
    obtain ⟨i1, i2⟩ := ih (by omega)
    have e : ({ f with off := f.off + (c : Int), mf := true, pay := (f.pay.take (c + R / 8 * 8)).drop c } : Pk) = { P with off := ((a + c : Nat) : Int), mf := true, pay := (P.pay.take (a + c + R / 8 * 8)).drop (a + c) } := by
      have h2 : (f.pay.take (c + R / 8 * 8)).drop c = (P.pay.take (a + c + R / 8 * 8)).drop (a + c) := by
        rw [hf.e]
        simp only
        rw [List.take_drop, List.drop_drop, List.take_take, show min (a + (c + R / 8 * 8)) b = a + c + R / 8 * 8 by omega]
      rw [h2, hf.e]
      simp
    rw [e]
    rw [show a + (c + R / 8 * 8) = a + c + R / 8 * 8 by omega] at i1 i2
    constructor
    · intro hb2 r hr2
      exact .more (a + c) (a + c + R / 8 * 8) (by omega) (by omega) (by omega) (i1 hb2 r hr2)
    · intro hb2
      exact .more (a + c) (a + c + R / 8 * 8) (by omega) (by omega) (by omega) (i2 hb2)
end Go.Proofs.Ytjmmmmdpkfpojaa

namespace Go.Proofs.Ytjmmmmdpkfpojaa
open Go Go.IW
/-- loop.example/g00003/laws.FnNoOthers -/
def c4 : CC :=
 (.seq (.reg [
   ⟨(some 2), none, .f (.mv (.c (.bool false)))⟩])
 (.seq (.seq (.reg [
   ⟨(some 19), none, .f (.mv (.t 0))⟩,
   ⟨(some 20), none, .f (.len (.t 19))⟩,
   ⟨(some 21), none, .f (.bin .gtr (.t 20) (.c (.int .i64 1048576)))⟩])
 (.cond (.t 21)
  (.seq (.reg [
    ⟨(some 2), none, .f (.mv (.c (.bool true)))⟩])
  .ret)
  .skip))
 (.seq (.reg [
   ⟨(some 22), none, .f (.mv (.t 0))⟩,
   ⟨(some 23), none, .x (.call 16 [(.t 22), (.c (.int .u64 8))])⟩,
   ⟨(some 3), none, .x (.zero 37 3 [.nilslice, (.int .i64 0), (.int .u64 0)])⟩,
   ⟨none, none, .x (.st 3 (.t 3) (.t 23))⟩])
 (.seq (.reg [
   ⟨(some 24), none, .x (.call 17 [(.t 3), (.c (.int .i64 14))])⟩,
   ⟨(some 25), none, .f (.bin .add (.c (.int .i64 1)) (.t 24))⟩,
   ⟨(some 4), none, .f (.mv (.t 25))⟩])
 (.seq (.reg [
   ⟨(some 26), none, .x (.bslice 44 11 [(.int .i64 0), (.int .i64 0), (.bool false), (.bool false), (.int .i64 0), (.int .i64 0), (.int .i64 0), (.int .i64 0), (.int .i64 0), .nilslice, .nilslice] 0 [])⟩,
   ⟨(some 5), none, .f (.mv (.t 26))⟩])
 (.seq (.reg [
   ⟨(some 27), none, .x (.bslice 44 11 [(.int .i64 0), (.int .i64 0), (.bool false), (.bool false), (.int .i64 0), (.int .i64 0), (.int .i64 0), (.int .i64 0), (.int .i64 0), .nilslice, .nilslice] 0 [])⟩,
   ⟨(some 6), none, .f (.mv (.t 27))⟩])
 (.seq (.reg [
   ⟨(some 28), none, .f (.mv (.t 4))⟩,
   ⟨(some 29), none, .x (.mks 4 1 1 [(.bool false)] (.t 28) (.t 28))⟩,
   ⟨(some 7), none, .f (.mv (.t 29))⟩])
 (.seq (.seq (.reg [
   ⟨(some 8), none, .f (.mv (.c (.int .i64 0)))⟩])
 (.block 0 (.loop (.seq (.seq (.reg [
     ⟨(some 30), none, .f (.mv (.t 8))⟩,
     ⟨(some 31), none, .f (.mv (.t 4))⟩,
     ⟨(some 32), none, .f (.bin .lss (.t 30) (.t 31))⟩])
   (.cond (.t 32)
    .skip
    (.exit 0)))
   (.seq (.block 1 (.seq (.reg [
      ⟨(some 35), none, .f (.mv (.t 8))⟩,
      ⟨(some 36), none, .x (.call 18 [(.t 3), (.t 35)])⟩,
      ⟨(some 9), none, .x (.zero 44 11 [(.int .i64 0), (.int .i64 0), (.bool false), (.bool false), (.int .i64 0), (.int .i64 0), (.int .i64 0), (.int .i64 0), (.int .i64 0), .nilslice, .nilslice])⟩,
      ⟨none, none, .x (.st 11 (.t 9) (.t 36))⟩])
    (.seq (.reg [
      ⟨(some 37), none, .f (.mv (.t 5))⟩,
      ⟨(some 38), none, .f (.ldA 11 (.t 9))⟩,
      ⟨(some 39), none, .x (.bslice 44 11 [(.int .i64 0), (.int .i64 0), (.bool false), (.bool false), (.int .i64 0), (.int .i64 0), (.int .i64 0), (.int .i64 0), (.int .i64 0), .nilslice, .nilslice] 1 [(0, (.t 38))])⟩,
      ⟨(some 40), none, .x (.app 44 11 112 (.t 37) (.t 39))⟩,
      ⟨(some 5), none, .f (.mv (.t 40))⟩])
    (.seq (.dreg [
      ⟨(some 42), none, .f (.ldA 11 (.t 9))⟩,
      ⟨(some 43), none, .x (.call 17 [(.t 3), (.c (.int .i64 200))])⟩,
      ⟨(some 44), none, .f (.bin .add (.c (.int .i64 80)) (.t 43))⟩,
      ⟨(some 45), none, .x (.call 19 [(.t 42), (.t 44)])⟩,
      ⟨(some 41), none, .f (.mv (.t 45))⟩,
      ⟨(some 46), none, .f (.ext 0 (.t 41))⟩,
      ⟨(some 47), none, .f (.ext 1 (.t 41))⟩,
      ⟨(some 10), none, .f (.mv (.t 46))⟩,
      ⟨(some 11), none, .f (.mv (.t 47))⟩]
      [false, true, false, true, false, false, false, false, false] [[], [], [1], [0, 2, 1], [3, 0, 2, 1], [4, 3, 0, 2, 1], [4, 3, 0, 2, 1], [5, 4, 3, 0, 2, 1], [6, 4, 3, 0, 2, 1, 7, 5]] [0, 1, 2, 3, 4, 5, 6, 7, 8])
    (.seq (.seq (.reg [
      ⟨(some 48), none, .f (.mv (.t 11))⟩,
      ⟨(some 49), none, .f (.bin .neq (.t 48) (.c (.int .i64 0)))⟩])
    (.cond (.t 49)
     (.seq (.reg [
       ⟨(some 2), none, .f (.mv (.c (.bool false)))⟩])
     .ret)
     .skip))
    (.seq (.reg [
      ⟨(some 12), none, .f (.mv (.c (.int .i64 0)))⟩])
    (.block 2 (.loop (.seq (.seq (.reg [
        ⟨(some 50), none, .f (.mv (.t 12))⟩,
        ⟨(some 51), none, .f (.mv (.t 10))⟩,
        ⟨(some 52), none, .f (.len (.t 51))⟩,
        ⟨(some 53), none, .f (.bin .lss (.t 50) (.t 52))⟩])
      (.cond (.t 53)
       .skip
       (.exit 2)))
      (.seq (.block 3 (.seq (.reg [
         ⟨(some 56), none, .x (.call 17 [(.t 3), (.c (.int .i64 12))])⟩])
       (.block 4 (.seq (.reg [
          ⟨(some 65), none, .f (.bin .eql (.t 56) (.c (.int .i64 0)))⟩,
          ⟨(some 64), none, .f (.mv (.t 65))⟩])
        (.cond (.t 64)
         (.reg [
           ⟨(some 66), none, .f (.mv (.t 7))⟩,
           ⟨(some 67), none, .f (.mv (.t 8))⟩,
           ⟨(some 68), none, .f (.iadr 1 (.t 66) (.t 67))⟩,
           ⟨none, none, .x (.st 1 (.t 68) (.c (.bool true)))⟩])
         (.seq (.reg [
           ⟨(some 70), none, .f (.bin .eql (.t 56) (.c (.int .i64 1)))⟩,
           ⟨(some 69), none, .f (.mv (.t 70))⟩])
         (.cond (.t 69)
          (.dreg [
            ⟨(some 71), none, .f (.mv (.t 6))⟩,
            ⟨(some 72), none, .f (.mv (.t 10))⟩,
            ⟨(some 73), none, .f (.mv (.t 12))⟩,
            ⟨(some 74), none, .f (.iadr 11 (.t 72) (.t 73))⟩,
            ⟨(some 75), none, .f (.ldA 11 (.t 74))⟩,
            ⟨(some 76), none, .f (.mv (.t 10))⟩,
            ⟨(some 77), none, .f (.mv (.t 12))⟩,
            ⟨(some 78), none, .f (.iadr 11 (.t 76) (.t 77))⟩,
            ⟨(some 79), none, .f (.ldA 11 (.t 78))⟩,
            ⟨(some 80), none, .x (.bslice 44 11 [(.int .i64 0), (.int .i64 0), (.bool false), (.bool false), (.int .i64 0), (.int .i64 0), (.int .i64 0), (.int .i64 0), (.int .i64 0), .nilslice, .nilslice] 2 [(0, (.t 75)), (1, (.t 79))])⟩,
            ⟨(some 81), none, .x (.app 44 11 112 (.t 71) (.t 80))⟩,
            ⟨(some 6), none, .f (.mv (.t 81))⟩]
            [false, false, false, false, false, false, false, false, false, true, true, true] [[], [], [], [1, 2], [3, 1, 2], [], [], [5, 6], [7, 5, 6], [4, 3, 1, 2, 8, 7, 5, 6], [0, 9, 4, 3, 1, 2, 8, 7, 5, 6], [10, 0, 9, 4, 3, 1, 2, 8, 7, 5, 6]] [0, 1, 2, 3, 4, 5, 6, 7, 8, 9, 10, 11])
          (.reg [
            ⟨(some 57), none, .f (.mv (.t 6))⟩,
            ⟨(some 58), none, .f (.mv (.t 10))⟩,
            ⟨(some 59), none, .f (.mv (.t 12))⟩,
            ⟨(some 60), none, .f (.iadr 11 (.t 58) (.t 59))⟩,
            ⟨(some 61), none, .f (.ldA 11 (.t 60))⟩,
            ⟨(some 62), none, .x (.bslice 44 11 [(.int .i64 0), (.int .i64 0), (.bool false), (.bool false), (.int .i64 0), (.int .i64 0), (.int .i64 0), (.int .i64 0), (.int .i64 0), .nilslice, .nilslice] 1 [(0, (.t 61))])⟩,
            ⟨(some 63), none, .x (.app 44 11 112 (.t 57) (.t 62))⟩,
            ⟨(some 6), none, .f (.mv (.t 63))⟩]))))))))
      (.reg [
        ⟨(some 54), none, .f (.mv (.t 12))⟩,
        ⟨(some 55), none, .f (.bin .add (.t 54) (.c (.int .i64 1)))⟩,
        ⟨(some 12), none, .f (.mv (.t 55))⟩])))))))))))
   (.reg [
     ⟨(some 33), none, .f (.mv (.t 8))⟩,
     ⟨(some 34), none, .f (.bin .add (.t 33) (.c (.int .i64 1)))⟩,
     ⟨(some 8), none, .f (.mv (.t 34))⟩]))))))
 (.seq (.reg [
   ⟨(some 83), none, .f (.mv (.t 6))⟩,
   ⟨(some 84), none, .x (.call 21 [(.t 3), (.t 83)])⟩,
   ⟨(some 85), none, .x (.call 20 [(.t 84)])⟩,
   ⟨(some 86), none, .x (.call 10 [(.t 85)])⟩,
   ⟨(some 82), none, .f (.mv (.t 86))⟩,
   ⟨(some 87), none, .f (.ext 0 (.t 82))⟩,
   ⟨(some 88), none, .f (.ext 1 (.t 82))⟩,
   ⟨(some 13), none, .f (.mv (.t 87))⟩,
   ⟨(some 14), none, .f (.mv (.t 88))⟩])
 (.seq (.seq (.reg [
   ⟨(some 89), none, .f (.mv (.t 14))⟩,
   ⟨(some 90), none, .f (.bin .neq (.t 89) (.c (.int .i64 0)))⟩,
   ⟨(some 91), none, .f (.mv (.t 90))⟩,
   ⟨(some 92), (some (91, false)), .f (.mv (.t 13))⟩,
   ⟨(some 93), (some (91, false)), .f (.len (.t 92))⟩,
   ⟨(some 94), (some (91, false)), .f (.mv (.t 6))⟩,
   ⟨(some 95), (some (91, false)), .f (.len (.t 94))⟩,
   ⟨(some 96), (some (91, false)), .f (.bin .neq (.t 93) (.t 95))⟩,
   ⟨(some 97), none, .f (.pick (.t 91) (.c (.bool true)) (.t 96))⟩])
 (.cond (.t 97)
  (.seq (.reg [
    ⟨(some 2), none, .f (.mv (.c (.bool false)))⟩])
  .ret)
  .skip))
 (.seq (.reg [
   ⟨(some 98), none, .f (.mv (.t 4))⟩,
   ⟨(some 99), none, .x (.mks 4 1 1 [(.bool false)] (.t 98) (.t 98))⟩,
   ⟨(some 15), none, .f (.mv (.t 99))⟩])
 (.seq (.seq (.reg [
   ⟨(some 16), none, .f (.mv (.c (.int .i64 0)))⟩])
 (.block 5 (.loop (.seq (.seq (.reg [
     ⟨(some 100), none, .f (.mv (.t 16))⟩,
     ⟨(some 101), none, .f (.mv (.t 13))⟩,
     ⟨(some 102), none, .f (.len (.t 101))⟩,
     ⟨(some 103), none, .f (.bin .lss (.t 100) (.t 102))⟩])
   (.cond (.t 103)
    .skip
    (.exit 5)))
   (.seq (.block 6 (.seq (.seq (.reg [
      ⟨(some 106), none, .f (.mv (.t 13))⟩,
      ⟨(some 107), none, .f (.mv (.t 16))⟩,
      ⟨(some 108), none, .f (.iadr 16 (.t 106) (.t 107))⟩,
      ⟨(some 109), none, .f (.fadr 14 (.t 108))⟩,
      ⟨(some 110), none, .f (.ld (.t 109))⟩,
      ⟨(some 111), none, .f (.bin .gtr (.t 110) (.c (.int .i64 16)))⟩])
    (.cond (.t 111)
     (.seq (.reg [
       ⟨(some 2), none, .f (.mv (.c (.bool false)))⟩])
     .ret)
     .skip))
    (.seq (.seq (.reg [
      ⟨(some 112), none, .f (.mv (.t 13))⟩,
      ⟨(some 113), none, .f (.mv (.t 16))⟩,
      ⟨(some 114), none, .f (.iadr 16 (.t 112) (.t 113))⟩,
      ⟨(some 115), none, .f (.fadr 1 (.t 114))⟩,
      ⟨(some 116), none, .f (.ld (.t 115))⟩,
      ⟨(some 117), none, .f (.un .not (.t 116))⟩])
    (.cond (.t 117)
     (.exit 6)
     .skip))
    (.seq (.reg [
      ⟨(some 118), none, .f (.mv (.t 13))⟩,
      ⟨(some 119), none, .f (.mv (.t 16))⟩,
      ⟨(some 120), none, .f (.iadr 16 (.t 118) (.t 119))⟩,
      ⟨(some 121), none, .f (.fadr 2 (.t 120))⟩,
      ⟨(some 122), none, .f (.fadr 1 (.t 121))⟩,
      ⟨(some 123), none, .f (.ld (.t 122))⟩,
      ⟨(some 17), none, .f (.mv (.t 123))⟩])
    (.seq (.seq (.dreg [
      ⟨(some 124), none, .f (.mv (.t 17))⟩,
      ⟨(some 125), none, .f (.bin .lss (.t 124) (.c (.int .i64 0)))⟩,
      ⟨(some 126), none, .f (.mv (.t 125))⟩,
      ⟨(some 127), (some (126, false)), .f (.mv (.t 17))⟩,
      ⟨(some 128), (some (126, false)), .f (.mv (.t 4))⟩,
      ⟨(some 129), (some (126, false)), .f (.bin .geq (.t 127) (.t 128))⟩,
      ⟨(some 130), none, .f (.pick (.t 126) (.c (.bool true)) (.t 129))⟩,
      ⟨(some 131), none, .f (.mv (.t 130))⟩,
      ⟨(some 132), (some (131, false)), .f (.mv (.t 13))⟩,
      ⟨(some 133), (some (131, false)), .f (.mv (.t 16))⟩,
      ⟨(some 134), (some (131, false)), .f (.iadr 16 (.t 132) (.t 133))⟩,
      ⟨(some 135), (some (131, false)), .f (.fadr 2 (.t 134))⟩,
      ⟨(some 136), (some (131, false)), .f (.ldA 11 (.t 135))⟩,
      ⟨(some 137), (some (131, false)), .f (.mv (.t 5))⟩,
      ⟨(some 138), (some (131, false)), .f (.mv (.t 17))⟩,
      ⟨(some 139), (some (131, false)), .f (.iadr 11 (.t 137) (.t 138))⟩,
      ⟨(some 140), (some (131, false)), .f (.ldA 11 (.t 139))⟩,
      ⟨(some 141), (some (131, false)), .x (.call 22 [(.t 136), (.t 140)])⟩,
      ⟨(some 142), (some (131, false)), .f (.un .not (.t 141))⟩,
      ⟨(some 143), none, .f (.pick (.t 131) (.c (.bool true)) (.t 142))⟩]
      [false, false, false, false, false, false, false, false, false, false, false, false, false, false, false, false, false, true, false, false] [[], [0], [1, 0], [2, 1, 0], [2, 1, 0], [3, 2, 1, 0, 4], [2, 1, 0, 5, 3, 4], [6, 2, 1, 0, 5, 3, 4], [7, 6, 2, 1, 0, 5, 3, 4], [7, 6, 2, 1, 0, 5, 3, 4], [8, 7, 6, 2, 1, 0, 5, 3, 4, 9], [10, 8, 7, 6, 2, 1, 0, 5, 3, 4, 9], [11, 10, 8, 7, 6, 2, 1, 0, 5, 3, 4, 9], [7, 6, 2, 1, 0, 5, 3, 4], [7, 6, 2, 1, 0, 5, 3, 4], [13, 7, 6, 2, 1, 0, 5, 3, 4, 14], [15, 13, 7, 6, 2, 1, 0, 5, 3, 4, 14], [12, 11, 10, 8, 7, 6, 2, 1, 0, 5, 3, 4, 9, 16, 15, 13, 14], [17, 12, 11, 10, 8, 7, 6, 2, 1, 0, 5, 3, 4, 9, 16, 15, 13, 14], [7, 6, 2, 1, 0, 5, 3, 4, 18, 17, 12, 11, 10, 8, 9, 16, 15, 13, 14]] [0, 1, 2, 3, 4, 5, 6, 7, 8, 9, 10, 11, 12, 13, 14, 15, 16, 17, 18, 19])
    (.cond (.t 143)
     (.seq (.reg [
       ⟨(some 2), none, .f (.mv (.c (.bool false)))⟩])
     .ret)
     .skip))
    (.reg [
      ⟨(some 144), none, .f (.mv (.t 15))⟩,
      ⟨(some 145), none, .f (.mv (.t 17))⟩,
      ⟨(some 146), none, .f (.iadr 1 (.t 144) (.t 145))⟩,
      ⟨none, none, .x (.st 1 (.t 146) (.c (.bool true)))⟩]))))))
   (.reg [
     ⟨(some 104), none, .f (.mv (.t 16))⟩,
     ⟨(some 105), none, .f (.bin .add (.t 104) (.c (.int .i64 1)))⟩,
     ⟨(some 16), none, .f (.mv (.t 105))⟩]))))))
 (.seq (.seq (.reg [
   ⟨(some 18), none, .f (.mv (.c (.int .i64 0)))⟩])
 (.block 7 (.loop (.seq (.seq (.reg [
     ⟨(some 147), none, .f (.mv (.t 18))⟩,
     ⟨(some 148), none, .f (.mv (.t 4))⟩,
     ⟨(some 149), none, .f (.bin .lss (.t 147) (.t 148))⟩])
   (.cond (.t 149)
    .skip
    (.exit 7)))
   (.seq (.block 8 (.seq (.reg [
      ⟨(some 152), none, .f (.mv (.t 15))⟩,
      ⟨(some 153), none, .f (.mv (.t 18))⟩,
      ⟨(some 154), none, .f (.iadr 1 (.t 152) (.t 153))⟩,
      ⟨(some 155), none, .f (.ld (.t 154))⟩,
      ⟨(some 156), none, .f (.un .not (.t 155))⟩,
      ⟨(some 157), none, .f (.mv (.t 156))⟩,
      ⟨(some 158), (some (157, true)), .f (.mv (.t 7))⟩,
      ⟨(some 159), (some (157, true)), .f (.mv (.t 18))⟩,
      ⟨(some 160), (some (157, true)), .f (.iadr 1 (.t 158) (.t 159))⟩,
      ⟨(some 161), (some (157, true)), .f (.ld (.t 160))⟩,
      ⟨(some 162), (some (157, true)), .f (.un .not (.t 161))⟩,
      ⟨(some 163), none, .f (.pick (.t 157) (.t 162) (.c (.bool false)))⟩,
      ⟨(some 164), none, .f (.mv (.t 163))⟩,
      ⟨(some 165), (some (164, false)), .f (.mv (.t 15))⟩,
      ⟨(some 166), (some (164, false)), .f (.mv (.t 18))⟩,
      ⟨(some 167), (some (164, false)), .f (.iadr 1 (.t 165) (.t 166))⟩,
      ⟨(some 168), (some (164, false)), .f (.ld (.t 167))⟩,
      ⟨(some 169), (some (164, false)), .f (.mv (.t 168))⟩,
      ⟨(some 170), (some (169, true)), .f (.mv (.t 7))⟩,
      ⟨(some 171), (some (169, true)), .f (.mv (.t 18))⟩,
      ⟨(some 172), (some (169, true)), .f (.iadr 1 (.t 170) (.t 171))⟩,
      ⟨(some 173), (some (169, true)), .f (.ld (.t 172))⟩,
      ⟨(some 174), (some (164, false)), .f (.pick (.t 169) (.t 173) (.c (.bool false)))⟩,
      ⟨(some 175), none, .f (.pick (.t 164) (.c (.bool true)) (.t 174))⟩])
    (.cond (.t 175)
     (.seq (.reg [
       ⟨(some 2), none, .f (.mv (.c (.bool false)))⟩])
     .ret)
     .skip)))
   (.reg [
     ⟨(some 150), none, .f (.mv (.t 18))⟩,
     ⟨(some 151), none, .f (.bin .add (.t 150) (.c (.int .i64 1)))⟩,
     ⟨(some 18), none, .f (.mv (.t 151))⟩]))))))
 (.seq (.reg [
   ⟨(some 2), none, .f (.mv (.c (.bool true)))⟩])
 .ret))))))))))))))
/-- loop.example/g00003/laws.FnCutWhole -/
def c5 : CC :=
 (.seq (.reg [
   ⟨(some 2), none, .f (.mv (.c (.bool false)))⟩])
 (.seq (.seq (.reg [
   ⟨(some 17), none, .f (.mv (.t 0))⟩,
   ⟨(some 18), none, .f (.len (.t 17))⟩,
   ⟨(some 19), none, .f (.bin .gtr (.t 18) (.c (.int .i64 1048576)))⟩])
 (.cond (.t 19)
  (.seq (.reg [
    ⟨(some 2), none, .f (.mv (.c (.bool true)))⟩])
  .ret)
  .skip))
 (.seq (.reg [
   ⟨(some 20), none, .f (.mv (.t 0))⟩,
   ⟨(some 21), none, .x (.call 16 [(.t 20), (.c (.int .u64 7))])⟩,
   ⟨(some 3), none, .x (.zero 37 3 [.nilslice, (.int .i64 0), (.int .u64 0)])⟩,
   ⟨none, none, .x (.st 3 (.t 3) (.t 21))⟩])
 (.seq (.reg [
   ⟨(some 22), none, .x (.call 18 [(.t 3), (.c (.int .i64 5))])⟩,
   ⟨(some 4), none, .x (.zero 44 11 [(.int .i64 0), (.int .i64 0), (.bool false), (.bool false), (.int .i64 0), (.int .i64 0), (.int .i64 0), (.int .i64 0), (.int .i64 0), .nilslice, .nilslice])⟩,
   ⟨none, none, .x (.st 11 (.t 4) (.t 22))⟩])
 (.seq (.reg [
   ⟨(some 23), none, .x (.call 17 [(.t 3), (.c (.int .i64 288))])⟩,
   ⟨(some 24), none, .f (.bin .add (.c (.int .i64 80)) (.t 23))⟩,
   ⟨(some 5), none, .f (.mv (.t 24))⟩])
 (.seq (.reg [
   ⟨(some 26), none, .f (.ldA 11 (.t 4))⟩,
   ⟨(some 27), none, .f (.mv (.t 5))⟩,
   ⟨(some 28), none, .x (.call 19 [(.t 26), (.t 27)])⟩,
   ⟨(some 25), none, .f (.mv (.t 28))⟩,
   ⟨(some 29), none, .f (.ext 0 (.t 25))⟩,
   ⟨(some 30), none, .f (.ext 1 (.t 25))⟩,
   ⟨(some 6), none, .f (.mv (.t 29))⟩,
   ⟨(some 7), none, .f (.mv (.t 30))⟩])
 (.seq (.seq (.reg [
   ⟨(some 31), none, .f (.mv (.t 7))⟩,
   ⟨(some 32), none, .f (.bin .neq (.t 31) (.c (.int .i64 0)))⟩])
 (.cond (.t 32)
  (.seq (.reg [
    ⟨(some 2), none, .f (.mv (.c (.bool false)))⟩])
  .ret)
  .skip))
 (.seq (.reg [
   ⟨(some 33), none, .f (.mv (.t 5))⟩,
   ⟨(some 34), none, .f (.bin .sub (.t 33) (.c (.int .i64 67)))⟩,
   ⟨(some 35), none, .x (.call 17 [(.t 3), (.t 34)])⟩,
   ⟨(some 36), none, .f (.bin .add (.c (.int .i64 68)) (.t 35))⟩,
   ⟨(some 8), none, .f (.mv (.t 36))⟩])
 (.seq (.reg [
   ⟨(some 37), none, .x (.bslice 44 11 [(.int .i64 0), (.int .i64 0), (.bool false), (.bool false), (.int .i64 0), (.int .i64 0), (.int .i64 0), (.int .i64 0), (.int .i64 0), .nilslice, .nilslice] 0 [])⟩,
   ⟨(some 9), none, .f (.mv (.t 37))⟩])
 (.seq (.seq (.reg [
   ⟨(some 10), none, .f (.mv (.c (.int .i64 0)))⟩])
 (.block 0 (.loop (.seq (.seq (.reg [
     ⟨(some 38), none, .f (.mv (.t 10))⟩,
     ⟨(some 39), none, .f (.mv (.t 6))⟩,
     ⟨(some 40), none, .f (.len (.t 39))⟩,
     ⟨(some 41), none, .f (.bin .lss (.t 38) (.t 40))⟩])
   (.cond (.t 41)
    .skip
    (.exit 0)))
   (.seq (.block 1 (.seq (.seq (.dreg [
      ⟨(some 44), none, .f (.mv (.t 6))⟩,
      ⟨(some 45), none, .f (.mv (.t 10))⟩,
      ⟨(some 46), none, .f (.iadr 11 (.t 44) (.t 45))⟩,
      ⟨(some 47), none, .f (.ldA 11 (.t 46))⟩,
      ⟨(some 48), none, .x (.call 23 [(.t 47)])⟩,
      ⟨(some 49), none, .f (.mv (.t 5))⟩,
      ⟨(some 50), none, .f (.bin .gtr (.t 48) (.t 49))⟩,
      ⟨(some 51), none, .f (.mv (.t 50))⟩,
      ⟨(some 52), (some (51, false)), .f (.mv (.t 6))⟩,
      ⟨(some 53), (some (51, false)), .f (.mv (.t 10))⟩,
      ⟨(some 54), (some (51, false)), .f (.iadr 11 (.t 52) (.t 53))⟩,
      ⟨(some 55), (some (51, false)), .f (.ldA 11 (.t 54))⟩,
      ⟨(some 56), (some (51, false)), .x (.call 23 [(.t 55)])⟩,
      ⟨(some 57), (some (51, false)), .f (.mv (.t 6))⟩,
      ⟨(some 58), (some (51, false)), .f (.mv (.t 10))⟩,
      ⟨(some 59), (some (51, false)), .f (.iadr 11 (.t 57) (.t 58))⟩,
      ⟨(some 60), (some (51, false)), .f (.ldA 11 (.t 59))⟩,
      ⟨(some 61), (some (51, false)), .x (.call 24 [(.t 60)])⟩,
      ⟨(some 62), (some (51, false)), .f (.bin .neq (.t 56) (.t 61))⟩,
      ⟨(some 63), none, .f (.pick (.t 51) (.c (.bool true)) (.t 62))⟩]
      [false, false, false, false, true, false, false, false, false, false, false, false, true, false, false, false, false, true, false, false] [[], [], [0, 1], [2, 0, 1], [3, 2, 0, 1], [], [4, 3, 2, 0, 1, 5], [6, 4, 3, 2, 0, 1, 5], [7, 6, 4, 3, 2, 0, 1, 5], [7, 6, 4, 3, 2, 0, 1, 5], [8, 7, 6, 4, 3, 2, 0, 1, 5, 9], [10, 8, 7, 6, 4, 3, 2, 0, 1, 5, 9], [11, 10, 8, 7, 6, 4, 3, 2, 0, 1, 5, 9], [7, 6, 4, 3, 2, 0, 1, 5], [7, 6, 4, 3, 2, 0, 1, 5], [13, 7, 6, 4, 3, 2, 0, 1, 5, 14], [15, 13, 7, 6, 4, 3, 2, 0, 1, 5, 14], [16, 15, 13, 7, 6, 4, 3, 2, 0, 1, 5, 14, 12, 11, 10, 8, 9], [12, 11, 10, 8, 7, 6, 4, 3, 2, 0, 1, 5, 9, 17, 16, 15, 13, 14], [7, 6, 4, 3, 2, 0, 1, 5, 18, 12, 11, 10, 8, 9, 17, 16, 15, 13, 14]] [0, 1, 2, 3, 5, 4, 6, 7, 8, 9, 10, 11, 13, 14, 15, 16, 12, 17, 18, 19])
    (.cond (.t 63)
     (.seq (.reg [
       ⟨(some 2), none, .f (.mv (.c (.bool false)))⟩])
     .ret)
     .skip))
    (.seq (.reg [
      ⟨(some 65), none, .f (.mv (.t 6))⟩,
      ⟨(some 66), none, .f (.mv (.t 10))⟩,
      ⟨(some 67), none, .f (.iadr 11 (.t 65) (.t 66))⟩,
      ⟨(some 68), none, .f (.ldA 11 (.t 67))⟩,
      ⟨(some 69), none, .f (.mv (.t 8))⟩,
      ⟨(some 70), none, .x (.call 19 [(.t 68), (.t 69)])⟩,
      ⟨(some 64), none, .f (.mv (.t 70))⟩,
      ⟨(some 71), none, .f (.ext 0 (.t 64))⟩,
      ⟨(some 72), none, .f (.ext 1 (.t 64))⟩,
      ⟨(some 11), none, .f (.mv (.t 71))⟩,
      ⟨(some 12), none, .f (.mv (.t 72))⟩])
    (.seq (.seq (.reg [
      ⟨(some 73), none, .f (.mv (.t 12))⟩,
      ⟨(some 74), none, .f (.bin .neq (.t 73) (.c (.int .i64 0)))⟩])
    (.cond (.t 74)
     (.seq (.reg [
       ⟨(some 2), none, .f (.mv (.c (.bool false)))⟩])
     .ret)
     .skip))
    (.reg [
      ⟨(some 75), none, .f (.mv (.t 9))⟩,
      ⟨(some 76), none, .f (.mv (.t 11))⟩,
      ⟨(some 77), none, .x (.app 44 11 112 (.t 75) (.t 76))⟩,
      ⟨(some 9), none, .f (.mv (.t 77))⟩])))))
   (.reg [
     ⟨(some 42), none, .f (.mv (.t 10))⟩,
     ⟨(some 43), none, .f (.bin .add (.t 42) (.c (.int .i64 1)))⟩,
     ⟨(some 10), none, .f (.mv (.t 43))⟩]))))))
 (.seq (.reg [
   ⟨(some 78), none, .f (.mv (.t 9))⟩,
   ⟨(some 79), none, .x (.call 21 [(.t 3), (.t 78)])⟩,
   ⟨(some 9), none, .f (.mv (.t 79))⟩])
 (.seq (.reg [
   ⟨(some 81), none, .f (.mv (.t 9))⟩,
   ⟨(some 82), none, .x (.call 20 [(.t 81)])⟩,
   ⟨(some 83), none, .x (.call 10 [(.t 82)])⟩,
   ⟨(some 80), none, .f (.mv (.t 83))⟩,
   ⟨(some 84), none, .f (.ext 0 (.t 80))⟩,
   ⟨(some 85), none, .f (.ext 1 (.t 80))⟩,
   ⟨(some 13), none, .f (.mv (.t 84))⟩,
   ⟨(some 14), none, .f (.mv (.t 85))⟩])
 (.seq (.seq (.reg [
   ⟨(some 86), none, .f (.mv (.t 14))⟩,
   ⟨(some 87), none, .f (.bin .neq (.t 86) (.c (.int .i64 0)))⟩,
   ⟨(some 88), none, .f (.mv (.t 87))⟩,
   ⟨(some 89), (some (88, false)), .f (.mv (.t 13))⟩,
   ⟨(some 90), (some (88, false)), .f (.len (.t 89))⟩,
   ⟨(some 91), (some (88, false)), .f (.mv (.t 9))⟩,
   ⟨(some 92), (some (88, false)), .f (.len (.t 91))⟩,
   ⟨(some 93), (some (88, false)), .f (.bin .neq (.t 90) (.t 92))⟩,
   ⟨(some 94), none, .f (.pick (.t 88) (.c (.bool true)) (.t 93))⟩,
   ⟨(some 95), none, .f (.mv (.t 94))⟩,
   ⟨(some 96), (some (95, false)), .f (.mv (.t 9))⟩,
   ⟨(some 97), (some (95, false)), .f (.len (.t 96))⟩,
   ⟨(some 98), (some (95, false)), .f (.bin .eql (.t 97) (.c (.int .i64 0)))⟩,
   ⟨(some 99), none, .f (.pick (.t 95) (.c (.bool true)) (.t 98))⟩])
 (.cond (.t 99)
  (.seq (.reg [
    ⟨(some 2), none, .f (.mv (.c (.bool false)))⟩])
  .ret)
  .skip))
 (.seq (.seq (.reg [
   ⟨(some 15), none, .f (.mv (.c (.int .i64 0)))⟩])
 (.block 2 (.loop (.seq (.seq (.reg [
     ⟨(some 100), none, .f (.mv (.t 15))⟩,
     ⟨(some 101), none, .f (.mv (.t 13))⟩,
     ⟨(some 102), none, .f (.len (.t 101))⟩,
     ⟨(some 103), none, .f (.bin .lss (.t 100) (.t 102))⟩])
   (.cond (.t 103)
    .skip
    (.exit 2)))
   (.seq (.block 3 (.seq (.reg [
      ⟨(some 106), none, .f (.mv (.t 13))⟩,
      ⟨(some 107), none, .f (.mv (.t 15))⟩,
      ⟨(some 108), none, .f (.iadr 16 (.t 106) (.t 107))⟩,
      ⟨(some 109), none, .f (.fadr 0 (.t 108))⟩,
      ⟨(some 110), none, .f (.ld (.t 109))⟩,
      ⟨(some 111), none, .f (.bin .neq (.t 110) (.c (.int .i64 0)))⟩,
      ⟨(some 112), none, .f (.mv (.t 111))⟩,
      ⟨(some 113), (some (112, false)), .f (.mv (.t 13))⟩,
      ⟨(some 114), (some (112, false)), .f (.mv (.t 15))⟩,
      ⟨(some 115), (some (112, false)), .f (.iadr 16 (.t 113) (.t 114))⟩,
      ⟨(some 116), (some (112, false)), .f (.fadr 1 (.t 115))⟩,
      ⟨(some 117), (some (112, false)), .f (.ld (.t 116))⟩,
      ⟨(some 118), (some (112, false)), .f (.mv (.t 15))⟩,
      ⟨(some 119), (some (112, false)), .f (.mv (.t 13))⟩,
      ⟨(some 120), (some (112, false)), .f (.len (.t 119))⟩,
      ⟨(some 121), (some (112, false)), .f (.bin .sub (.t 120) (.c (.int .i64 1)))⟩,
      ⟨(some 122), (some (112, false)), .f (.bin .eql (.t 118) (.t 121))⟩,
      ⟨(some 123), (some (112, false)), .f (.binB true (.t 117) (.t 122))⟩,
      ⟨(some 124), none, .f (.pick (.t 112) (.c (.bool true)) (.t 123))⟩])
    (.cond (.t 124)
     (.seq (.reg [
       ⟨(some 2), none, .f (.mv (.c (.bool false)))⟩])
     .ret)
     .skip)))
   (.reg [
     ⟨(some 104), none, .f (.mv (.t 15))⟩,
     ⟨(some 105), none, .f (.bin .add (.t 104) (.c (.int .i64 1)))⟩,
     ⟨(some 15), none, .f (.mv (.t 105))⟩]))))))
 (.seq (.reg [
   ⟨(some 125), none, .f (.mv (.t 13))⟩,
   ⟨(some 126), none, .f (.mv (.t 13))⟩,
   ⟨(some 127), none, .f (.len (.t 126))⟩,
   ⟨(some 128), none, .f (.bin .sub (.t 127) (.c (.int .i64 1)))⟩,
   ⟨(some 129), none, .f (.iadr 16 (.t 125) (.t 128))⟩,
   ⟨(some 130), none, .f (.ldA 16 (.t 129))⟩,
   ⟨(some 16), none, .x (.zero 52 16 [(.int .i64 0), (.bool false), (.int .i64 0), (.int .i64 0), (.bool false), (.bool false), (.int .i64 0), (.int .i64 0), (.int .i64 0), (.int .i64 0), (.int .i64 0), .nilslice, .nilslice, .nilslice, (.int .i64 0), (.int .i64 0)])⟩,
   ⟨none, none, .x (.st 16 (.t 16) (.t 130))⟩])
 (.seq (.reg [
   ⟨(some 131), none, .f (.fadr 2 (.t 16))⟩,
   ⟨(some 132), none, .f (.ldA 11 (.t 131))⟩,
   ⟨(some 133), none, .f (.ldA 11 (.t 4))⟩,
   ⟨(some 134), none, .x (.call 22 [(.t 132), (.t 133)])⟩,
   ⟨(some 135), none, .f (.mv (.t 134))⟩,
   ⟨(some 136), (some (135, true)), .f (.fadr 14 (.t 16))⟩,
   ⟨(some 137), (some (135, true)), .f (.ld (.t 136))⟩,
   ⟨(some 138), (some (135, true)), .f (.bin .eql (.t 137) (.c (.int .i64 0)))⟩,
   ⟨(some 139), none, .f (.pick (.t 135) (.t 138) (.c (.bool false)))⟩,
   ⟨(some 140), none, .f (.mv (.t 139))⟩,
   ⟨(some 141), (some (140, true)), .f (.fadr 15 (.t 16))⟩,
   ⟨(some 142), (some (140, true)), .f (.ld (.t 141))⟩,
   ⟨(some 143), (some (140, true)), .f (.bin .eql (.t 142) (.c (.int .i64 0)))⟩,
   ⟨(some 144), none, .f (.pick (.t 140) (.t 143) (.c (.bool false)))⟩,
   ⟨(some 2), none, .f (.mv (.t 144))⟩])
 .ret))))))))))))))))
theorem ok5 : fnComp Try.prog 5 = some (145, c5, [(.mv (.t 2))]) := by kernel_rfl

/-- loop.example/g00003/laws.FnOverlap -/
def c6 : CC :=
 (.seq (.reg [
   ⟨(some 2), none, .f (.mv (.c (.bool false)))⟩])
 (.seq (.seq (.reg [
   ⟨(some 15), none, .f (.mv (.t 0))⟩,
   ⟨(some 16), none, .f (.len (.t 15))⟩,
   ⟨(some 17), none, .f (.bin .gtr (.t 16) (.c (.int .i64 1048576)))⟩])
 (.cond (.t 17)
  (.seq (.reg [
    ⟨(some 2), none, .f (.mv (.c (.bool true)))⟩])
  .ret)
  .skip))
 (.seq (.reg [
   ⟨(some 18), none, .f (.mv (.t 0))⟩,
   ⟨(some 19), none, .x (.call 16 [(.t 18), (.c (.int .u64 9))])⟩,
   ⟨(some 3), none, .x (.zero 37 3 [.nilslice, (.int .i64 0), (.int .u64 0)])⟩,
   ⟨none, none, .x (.st 3 (.t 3) (.t 19))⟩])
 (.seq (.reg [
   ⟨(some 20), none, .x (.call 18 [(.t 3), (.c (.int .i64 5))])⟩,
   ⟨(some 4), none, .x (.zero 44 11 [(.int .i64 0), (.int .i64 0), (.bool false), (.bool false), (.int .i64 0), (.int .i64 0), (.int .i64 0), (.int .i64 0), (.int .i64 0), .nilslice, .nilslice])⟩,
   ⟨none, none, .x (.st 11 (.t 4) (.t 20))⟩])
 (.seq (.reg [
   ⟨(some 21), none, .f (.fadr 9 (.t 4))⟩,
   ⟨none, none, .x (.st 1 (.t 21) (.c .nilslice))⟩])
 (.seq (.reg [
   ⟨(some 22), none, .x (.call 17 [(.t 3), (.c (.int .i64 999))])⟩,
   ⟨(some 23), none, .x (.call 17 [(.t 3), (.c (.int .i64 300))])⟩,
   ⟨(some 24), none, .f (.bin .add (.c (.int .i64 120)) (.t 23))⟩,
   ⟨(some 25), none, .x (.call 25 [(.t 22), (.t 24)])⟩,
   ⟨(some 26), none, .f (.fadr 10 (.t 4))⟩,
   ⟨none, none, .x (.st 1 (.t 26) (.t 25))⟩])
 (.seq (.dreg [
   ⟨(some 28), none, .f (.ldA 11 (.t 4))⟩,
   ⟨(some 29), none, .x (.call 17 [(.t 3), (.c (.int .i64 30))])⟩,
   ⟨(some 30), none, .f (.bin .add (.c (.int .i64 68)) (.t 29))⟩,
   ⟨(some 31), none, .x (.call 19 [(.t 28), (.t 30)])⟩,
   ⟨(some 27), none, .f (.mv (.t 31))⟩,
   ⟨(some 32), none, .f (.ext 0 (.t 27))⟩,
   ⟨(some 33), none, .f (.ext 1 (.t 27))⟩,
   ⟨(some 5), none, .f (.mv (.t 32))⟩,
   ⟨(some 6), none, .f (.mv (.t 33))⟩]
   [false, true, false, true, false, false, false, false, false] [[], [], [1], [0, 2, 1], [3, 0, 2, 1], [4, 3, 0, 2, 1], [4, 3, 0, 2, 1], [5, 4, 3, 0, 2, 1], [6, 4, 3, 0, 2, 1, 7, 5]] [0, 1, 2, 3, 4, 5, 6, 7, 8])
 (.seq (.seq (.reg [
   ⟨(some 34), none, .f (.mv (.t 6))⟩,
   ⟨(some 35), none, .f (.bin .neq (.t 34) (.c (.int .i64 0)))⟩,
   ⟨(some 36), none, .f (.mv (.t 35))⟩,
   ⟨(some 37), (some (36, false)), .f (.mv (.t 5))⟩,
   ⟨(some 38), (some (36, false)), .f (.len (.t 37))⟩,
   ⟨(some 39), (some (36, false)), .f (.bin .lss (.t 38) (.c (.int .i64 2)))⟩,
   ⟨(some 40), none, .f (.pick (.t 36) (.c (.bool true)) (.t 39))⟩])
 (.cond (.t 40)
  (.seq (.reg [
    ⟨(some 2), none, .f (.mv (.c (.bool false)))⟩])
  .ret)
  .skip))
 (.seq (.reg [
   ⟨(some 41), none, .f (.mv (.t 5))⟩,
   ⟨(some 42), none, .x (.call 21 [(.t 3), (.t 41)])⟩,
   ⟨(some 5), none, .f (.mv (.t 42))⟩])
 (.seq (.reg [
   ⟨(some 43), none, .f (.mv (.t 5))⟩,
   ⟨(some 44), none, .f (.mv (.t 5))⟩,
   ⟨(some 45), none, .f (.len (.t 44))⟩,
   ⟨(some 46), none, .f (.bin .sub (.t 45) (.c (.int .i64 1)))⟩,
   ⟨(some 47), none, .x (.call 17 [(.t 3), (.t 46)])⟩,
   ⟨(some 48), none, .f (.iadr 11 (.t 43) (.t 47))⟩,
   ⟨(some 49), none, .f (.ldA 11 (.t 48))⟩,
   ⟨(some 7), none, .x (.zero 44 11 [(.int .i64 0), (.int .i64 0), (.bool false), (.bool false), (.int .i64 0), (.int .i64 0), (.int .i64 0), (.int .i64 0), (.int .i64 0), .nilslice, .nilslice])⟩,
   ⟨none, none, .x (.st 11 (.t 7) (.t 49))⟩])
 (.seq (.reg [
   ⟨(some 50), none, .x (.bslice 5 1 [(.int .u8 0)] 0 [])⟩,
   ⟨(some 51), none, .f (.fadr 10 (.t 7))⟩,
   ⟨(some 52), none, .f (.ld (.t 51))⟩,
   ⟨(some 53), none, .f (.fadr 10 (.t 7))⟩,
   ⟨(some 54), none, .f (.ld (.t 53))⟩,
   ⟨(some 55), none, .f (.len (.t 54))⟩,
   ⟨(some 56), none, .f (.bin .sub (.t 55) (.c (.int .i64 1)))⟩,
   ⟨(some 57), none, .f (.slc 1 (.t 52) none (some (.t 56)) none)⟩,
   ⟨(some 58), none, .x (.app 5 1 1 (.t 50) (.t 57))⟩,
   ⟨(some 59), none, .f (.fadr 10 (.t 7))⟩,
   ⟨none, none, .x (.st 1 (.t 59) (.t 58))⟩])
 (.seq (.reg [
   ⟨(some 60), none, .f (.fadr 3 (.t 7))⟩,
   ⟨none, none, .x (.st 1 (.t 60) (.c (.bool false)))⟩])
 (.seq (.seq (.reg [
   ⟨(some 61), none, .x (.call 17 [(.t 3), (.c (.int .i64 2))])⟩,
   ⟨(some 62), none, .f (.bin .eql (.t 61) (.c (.int .i64 0)))⟩,
   ⟨(some 63), none, .f (.mv (.t 62))⟩,
   ⟨(some 64), (some (63, false)), .f (.fadr 10 (.t 7))⟩,
   ⟨(some 65), (some (63, false)), .f (.ld (.t 64))⟩,
   ⟨(some 66), (some (63, false)), .f (.len (.t 65))⟩,
   ⟨(some 67), (some (63, false)), .f (.bin .eql (.t 66) (.c (.int .i64 0)))⟩,
   ⟨(some 68), none, .f (.pick (.t 63) (.c (.bool true)) (.t 67))⟩,
   ⟨(some 69), none, .f (.mv (.t 68))⟩,
   ⟨(some 70), (some (69, false)), .f (.fadr 4 (.t 7))⟩,
   ⟨(some 71), (some (69, false)), .f (.ld (.t 70))⟩,
   ⟨(some 72), (some (69, false)), .f (.bin .eql (.t 71) (.c (.int .i64 0)))⟩,
   ⟨(some 73), none, .f (.pick (.t 69) (.c (.bool true)) (.t 72))⟩])
 (.cond (.t 73)
  (.seq (.reg [
    ⟨(some 74), none, .f (.fadr 10 (.t 7))⟩,
    ⟨(some 75), none, .f (.ld (.t 74))⟩,
    ⟨(some 76), none, .f (.len (.t 75))⟩,
    ⟨(some 77), none, .f (.bin .quo (.t 76) (.c (.int .i64 8)))⟩,
    ⟨(some 78), none, .f (.bin .mul (.c (.int .i64 8)) (.t 77))⟩,
    ⟨(some 79), none, .f (.bin .add (.t 78) (.c (.int .i64 8)))⟩,
    ⟨(some 80), none, .x (.call 25 [(.c (.int .i64 0)), (.t 79)])⟩,
    ⟨(some 81), none, .f (.fadr 10 (.t 7))⟩,
    ⟨none, none, .x (.st 1 (.t 81) (.t 80))⟩])
  (.seq (.reg [
    ⟨(some 82), none, .f (.fadr 3 (.t 7))⟩,
    ⟨none, none, .x (.st 1 (.t 82) (.c (.bool true)))⟩])
  (.seq (.reg [
    ⟨(some 83), none, .f (.fadr 4 (.t 7))⟩,
    ⟨(some 84), none, .f (.ld (.t 83))⟩,
    ⟨(some 85), none, .f (.bin .add (.t 84) (.c (.int .i64 8)))⟩,
    ⟨(some 86), none, .f (.fadr 4 (.t 7))⟩,
    ⟨none, none, .x (.st 1 (.t 86) (.t 85))⟩])
  (.seq (.reg [
    ⟨(some 87), none, .f (.fadr 10 (.t 7))⟩,
    ⟨(some 88), none, .f (.ld (.t 87))⟩,
    ⟨(some 89), none, .f (.len (.t 88))⟩,
    ⟨(some 90), none, .f (.bin .lss (.t 89) (.c (.int .i64 16)))⟩])
  (.cond (.t 90)
   (.seq (.reg [
     ⟨(some 91), none, .x (.call 25 [(.c (.int .i64 0)), (.c (.int .i64 16))])⟩,
     ⟨(some 92), none, .f (.fadr 10 (.t 7))⟩,
     ⟨none, none, .x (.st 1 (.t 92) (.t 91))⟩])
   (.reg [
     ⟨(some 93), none, .f (.fadr 4 (.t 7))⟩,
     ⟨(some 94), none, .f (.ld (.t 93))⟩,
     ⟨(some 95), none, .f (.bin .sub (.t 94) (.c (.int .i64 16)))⟩,
     ⟨(some 96), none, .f (.fadr 4 (.t 7))⟩,
     ⟨none, none, .x (.st 1 (.t 96) (.t 95))⟩]))
   .skip)))))
  .skip))
 (.seq (.seq (.reg [
   ⟨(some 97), none, .f (.fadr 4 (.t 7))⟩,
   ⟨(some 98), none, .f (.ld (.t 97))⟩,
   ⟨(some 99), none, .f (.bin .lss (.t 98) (.c (.int .i64 0)))⟩])
 (.cond (.t 99)
  (.seq (.reg [
    ⟨(some 100), none, .f (.fadr 4 (.t 7))⟩,
    ⟨none, none, .x (.st 1 (.t 100) (.c (.int .i64 0)))⟩])
  (.reg [
    ⟨(some 101), none, .x (.call 25 [(.c (.int .i64 0)), (.c (.int .i64 16))])⟩,
    ⟨(some 102), none, .f (.fadr 10 (.t 7))⟩,
    ⟨none, none, .x (.st 1 (.t 102) (.t 101))⟩]))
  .skip))
 (.seq (.reg [
   ⟨(some 103), none, .f (.mv (.t 5))⟩,
   ⟨(some 104), none, .f (.mv (.t 5))⟩,
   ⟨(some 105), none, .f (.len (.t 104))⟩,
   ⟨(some 106), none, .f (.bin .sub (.t 105) (.c (.int .i64 1)))⟩,
   ⟨(some 107), none, .f (.slc 11 (.t 103) none (some (.t 106)) none)⟩,
   ⟨(some 108), none, .x (.call 20 [(.t 107)])⟩,
   ⟨(some 8), none, .f (.mv (.t 108))⟩])
 (.seq (.reg [
   ⟨(some 109), none, .f (.mv (.t 8))⟩,
   ⟨(some 110), none, .f (.ldA 11 (.t 7))⟩,
   ⟨(some 111), none, .x (.bslice 44 11 [(.int .i64 0), (.int .i64 0), (.bool false), (.bool false), (.int .i64 0), (.int .i64 0), (.int .i64 0), (.int .i64 0), (.int .i64 0), .nilslice, .nilslice] 1 [(0, (.t 110))])⟩,
   ⟨(some 112), none, .x (.call 20 [(.t 111)])⟩,
   ⟨(some 113), none, .x (.app 58 13 128 (.t 109) (.t 112))⟩,
   ⟨(some 8), none, .f (.mv (.t 113))⟩])
 (.seq (.reg [
   ⟨(some 114), none, .f (.mv (.t 8))⟩,
   ⟨(some 115), none, .f (.mv (.t 5))⟩,
   ⟨(some 116), none, .f (.mv (.t 5))⟩,
   ⟨(some 117), none, .f (.len (.t 116))⟩,
   ⟨(some 118), none, .f (.bin .sub (.t 117) (.c (.int .i64 1)))⟩,
   ⟨(some 119), none, .f (.slc 11 (.t 115) (some (.t 118)) none none)⟩,
   ⟨(some 120), none, .x (.call 20 [(.t 119)])⟩,
   ⟨(some 121), none, .x (.app 58 13 128 (.t 114) (.t 120))⟩,
   ⟨(some 8), none, .f (.mv (.t 121))⟩])
 (.seq (.reg [
   ⟨(some 122), none, .f (.mv (.t 8))⟩,
   ⟨(some 123), none, .f (.build [(.int .i64 0), (.int .i64 0), (.int .i64 0), (.int .i64 0), (.bool false), (.bool false), (.int .i64 0), (.int .i64 0), (.int .i64 0), (.int .i64 0), (.int .i64 0), .nilslice, .nilslice] [(0, 1, (.c (.int .i64 2))), (1, 1, (.c (.int .i64 30000)))])⟩,
   ⟨(some 124), none, .x (.bslice 58 13 [(.int .i64 0), (.int .i64 0), (.int .i64 0), (.int .i64 0), (.bool false), (.bool false), (.int .i64 0), (.int .i64 0), (.int .i64 0), (.int .i64 0), (.int .i64 0), .nilslice, .nilslice] 1 [(0, (.t 123))])⟩,
   ⟨(some 125), none, .x (.app 58 13 128 (.t 122) (.t 124))⟩,
   ⟨(some 8), none, .f (.mv (.t 125))⟩])
 (.seq (.reg [
   ⟨(some 126), none, .f (.mv (.t 8))⟩,
   ⟨(some 127), none, .f (.mv (.t 5))⟩,
   ⟨(some 128), none, .x (.call 20 [(.t 127)])⟩,
   ⟨(some 129), none, .x (.app 58 13 128 (.t 126) (.t 128))⟩,
   ⟨(some 8), none, .f (.mv (.t 129))⟩])
 (.seq (.reg [
   ⟨(some 131), none, .f (.mv (.t 8))⟩,
   ⟨(some 132), none, .x (.call 8 [(.t 131)])⟩,
   ⟨(some 130), none, .f (.mv (.t 132))⟩,
   ⟨(some 133), none, .f (.ext 0 (.t 130))⟩,
   ⟨(some 134), none, .f (.ext 1 (.t 130))⟩,
   ⟨(some 9), none, .f (.mv (.t 133))⟩,
   ⟨(some 10), none, .f (.mv (.t 134))⟩])
 (.seq (.reg [
   ⟨(some 136), none, .f (.mv (.t 8))⟩,
   ⟨(some 137), none, .x (.call 10 [(.t 136)])⟩,
   ⟨(some 135), none, .f (.mv (.t 137))⟩,
   ⟨(some 138), none, .f (.ext 0 (.t 135))⟩,
   ⟨(some 139), none, .f (.ext 1 (.t 135))⟩,
   ⟨(some 11), none, .f (.mv (.t 138))⟩,
   ⟨(some 12), none, .f (.mv (.t 139))⟩])
 (.seq (.seq (.reg [
   ⟨(some 140), none, .f (.mv (.t 12))⟩,
   ⟨(some 141), none, .f (.bin .neq (.t 140) (.c (.int .i64 0)))⟩,
   ⟨(some 142), none, .f (.mv (.t 141))⟩,
   ⟨(some 143), (some (142, false)), .f (.mv (.t 11))⟩,
   ⟨(some 144), (some (142, false)), .f (.len (.t 143))⟩,
   ⟨(some 145), (some (142, false)), .f (.mv (.t 8))⟩,
   ⟨(some 146), (some (142, false)), .f (.len (.t 145))⟩,
   ⟨(some 147), (some (142, false)), .f (.bin .neq (.t 144) (.t 146))⟩,
   ⟨(some 148), none, .f (.pick (.t 142) (.c (.bool true)) (.t 147))⟩])
 (.cond (.t 148)
  (.seq (.reg [
    ⟨(some 2), none, .f (.mv (.c (.bool false)))⟩])
  .ret)
  .skip))
 (.seq (.seq (.reg [
   ⟨(some 13), none, .f (.mv (.c (.int .i64 0)))⟩])
 (.block 0 (.loop (.seq (.seq (.reg [
     ⟨(some 149), none, .f (.mv (.t 13))⟩,
     ⟨(some 150), none, .f (.mv (.t 11))⟩,
     ⟨(some 151), none, .f (.len (.t 150))⟩,
     ⟨(some 152), none, .f (.bin .sub (.t 151) (.c (.int .i64 1)))⟩,
     ⟨(some 153), none, .f (.bin .lss (.t 149) (.t 152))⟩])
   (.cond (.t 153)
    .skip
    (.exit 0)))
   (.seq (.block 1 (.seq (.dreg [
      ⟨(some 156), none, .f (.mv (.t 11))⟩,
      ⟨(some 157), none, .f (.mv (.t 13))⟩,
      ⟨(some 158), none, .f (.iadr 16 (.t 156) (.t 157))⟩,
      ⟨(some 159), none, .f (.fadr 1 (.t 158))⟩,
      ⟨(some 160), none, .f (.ld (.t 159))⟩,
      ⟨(some 161), none, .f (.mv (.t 160))⟩,
      ⟨(some 162), (some (161, false)), .f (.mv (.t 11))⟩,
      ⟨(some 163), (some (161, false)), .f (.mv (.t 13))⟩,
      ⟨(some 164), (some (161, false)), .f (.iadr 16 (.t 162) (.t 163))⟩,
      ⟨(some 165), (some (161, false)), .f (.fadr 15 (.t 164))⟩,
      ⟨(some 166), (some (161, false)), .f (.ld (.t 165))⟩,
      ⟨(some 167), (some (161, false)), .f (.mv (.t 9))⟩,
      ⟨(some 168), (some (161, false)), .f (.mv (.t 13))⟩,
      ⟨(some 169), (some (161, false)), .f (.iadr 16 (.t 167) (.t 168))⟩,
      ⟨(some 170), (some (161, false)), .f (.fadr 15 (.t 169))⟩,
      ⟨(some 171), (some (161, false)), .f (.ld (.t 170))⟩,
      ⟨(some 172), (some (161, false)), .f (.bin .neq (.t 166) (.t 171))⟩,
      ⟨(some 173), none, .f (.pick (.t 161) (.c (.bool true)) (.t 172))⟩,
      ⟨(some 174), none, .f (.mv (.t 173))⟩,
      ⟨(some 175), (some (174, false)), .f (.mv (.t 11))⟩,
      ⟨(some 176), (some (174, false)), .f (.mv (.t 13))⟩,
      ⟨(some 177), (some (174, false)), .f (.iadr 16 (.t 175) (.t 176))⟩,
      ⟨(some 178), (some (174, false)), .f (.fadr 14 (.t 177))⟩,
      ⟨(some 179), (some (174, false)), .f (.ld (.t 178))⟩,
      ⟨(some 180), (some (174, false)), .f (.mv (.t 9))⟩,
      ⟨(some 181), (some (174, false)), .f (.mv (.t 13))⟩,
      ⟨(some 182), (some (174, false)), .f (.iadr 16 (.t 180) (.t 181))⟩,
      ⟨(some 183), (some (174, false)), .f (.fadr 14 (.t 182))⟩,
      ⟨(some 184), (some (174, false)), .f (.ld (.t 183))⟩,
      ⟨(some 185), (some (174, false)), .f (.bin .neq (.t 179) (.t 184))⟩,
      ⟨(some 186), none, .f (.pick (.t 174) (.c (.bool true)) (.t 185))⟩]
      [false, false, false, false, false, false, false, false, false, false, false, false, false, false, false, false, false, false, false, false, false, false, false, false, false, false, false, false, false, false, false] [[], [], [0, 1], [2, 0, 1], [3, 2, 0, 1], [4, 3, 2, 0, 1], [5, 4, 3, 2, 0, 1], [5, 4, 3, 2, 0, 1], [6, 5, 4, 3, 2, 0, 1, 7], [8, 6, 5, 4, 3, 2, 0, 1, 7], [9, 8, 6, 5, 4, 3, 2, 0, 1, 7], [5, 4, 3, 2, 0, 1], [5, 4, 3, 2, 0, 1], [11, 5, 4, 3, 2, 0, 1, 12], [13, 11, 5, 4, 3, 2, 0, 1, 12], [14, 13, 11, 5, 4, 3, 2, 0, 1, 12], [10, 9, 8, 6, 5, 4, 3, 2, 0, 1, 7, 15, 14, 13, 11, 12], [5, 4, 3, 2, 0, 1, 16, 10, 9, 8, 6, 7, 15, 14, 13, 11, 12], [17, 5, 4, 3, 2, 0, 1, 16, 10, 9, 8, 6, 7, 15, 14, 13, 11, 12], [18, 17, 5, 4, 3, 2, 0, 1, 16, 10, 9, 8, 6, 7, 15, 14, 13, 11, 12], [18, 17, 5, 4, 3, 2, 0, 1, 16, 10, 9, 8, 6, 7, 15, 14, 13, 11, 12], [19, 18, 17, 5, 4, 3, 2, 0, 1, 16, 10, 9, 8, 6, 7, 15, 14, 13, 11, 12, 20], [21, 19, 18, 17, 5, 4, 3, 2, 0, 1, 16, 10, 9, 8, 6, 7, 15, 14, 13, 11, 12, 20], [22, 21, 19, 18, 17, 5, 4, 3, 2, 0, 1, 16, 10, 9, 8, 6, 7, 15, 14, 13, 11, 12, 20], [18, 17, 5, 4, 3, 2, 0, 1, 16, 10, 9, 8, 6, 7, 15, 14, 13, 11, 12], [18, 17, 5, 4, 3, 2, 0, 1, 16, 10, 9, 8, 6, 7, 15, 14, 13, 11, 12], [24, 18, 17, 5, 4, 3, 2, 0, 1, 16, 10, 9, 8, 6, 7, 15, 14, 13, 11, 12, 25], [26, 24, 18, 17, 5, 4, 3, 2, 0, 1, 16, 10, 9, 8, 6, 7, 15, 14, 13, 11, 12, 25], [27, 26, 24, 18, 17, 5, 4, 3, 2, 0, 1, 16, 10, 9, 8, 6, 7, 15, 14, 13, 11, 12, 25], [23, 22, 21, 19, 18, 17, 5, 4, 3, 2, 0, 1, 16, 10, 9, 8, 6, 7, 15, 14, 13, 11, 12, 20, 28, 27, 26, 24, 25], [18, 17, 5, 4, 3, 2, 0, 1, 16, 10, 9, 8, 6, 7, 15, 14, 13, 11, 12, 29, 23, 22, 21, 19, 20, 28, 27, 26, 24, 25]] [0, 1, 2, 3, 4, 5, 6, 7, 8, 9, 10, 11, 12, 13, 14, 15, 16, 17, 18, 19, 20, 21, 22, 23, 24, 25, 26, 27, 28, 29, 30])
    (.cond (.t 186)
     (.seq (.reg [
       ⟨(some 2), none, .f (.mv (.c (.bool false)))⟩])
     .ret)
     .skip)))
   (.reg [
     ⟨(some 154), none, .f (.mv (.t 13))⟩,
     ⟨(some 155), none, .f (.bin .add (.t 154) (.c (.int .i64 1)))⟩,
     ⟨(some 13), none, .f (.mv (.t 155))⟩]))))))
 (.seq (.reg [
   ⟨(some 187), none, .f (.mv (.t 5))⟩,
   ⟨(some 188), none, .f (.len (.t 187))⟩,
   ⟨(some 14), none, .f (.mv (.t 188))⟩])
 (.seq (.dreg [
   ⟨(some 189), none, .f (.mv (.t 11))⟩,
   ⟨(some 190), none, .f (.mv (.t 14))⟩,
   ⟨(some 191), none, .f (.iadr 16 (.t 189) (.t 190))⟩,
   ⟨(some 192), none, .f (.fadr 15 (.t 191))⟩,
   ⟨(some 193), none, .f (.ld (.t 192))⟩,
   ⟨(some 194), none, .f (.bin .eql (.t 193) (.c (.int .i64 0)))⟩,
   ⟨(some 195), none, .f (.mv (.t 194))⟩,
   ⟨(some 196), (some (195, true)), .f (.mv (.t 11))⟩,
   ⟨(some 197), (some (195, true)), .f (.mv (.t 14))⟩,
   ⟨(some 198), (some (195, true)), .f (.bin .add (.t 197) (.c (.int .i64 1)))⟩,
   ⟨(some 199), (some (195, true)), .f (.iadr 16 (.t 196) (.t 198))⟩,
   ⟨(some 200), (some (195, true)), .f (.fadr 14 (.t 199))⟩,
   ⟨(some 201), (some (195, true)), .f (.ld (.t 200))⟩,
   ⟨(some 202), (some (195, true)), .f (.bin .eql (.t 201) (.c (.int .i64 0)))⟩,
   ⟨(some 203), none, .f (.pick (.t 195) (.t 202) (.c (.bool false)))⟩,
   ⟨(some 204), none, .f (.mv (.t 203))⟩,
   ⟨(some 205), (some (204, true)), .f (.mv (.t 11))⟩,
   ⟨(some 206), (some (204, true)), .f (.mv (.t 11))⟩,
   ⟨(some 207), (some (204, true)), .f (.len (.t 206))⟩,
   ⟨(some 208), (some (204, true)), .f (.bin .sub (.t 207) (.c (.int .i64 1)))⟩,
   ⟨(some 209), (some (204, true)), .f (.iadr 16 (.t 205) (.t 208))⟩,
   ⟨(some 210), (some (204, true)), .f (.fadr 1 (.t 209))⟩,
   ⟨(some 211), (some (204, true)), .f (.ld (.t 210))⟩,
   ⟨(some 212), none, .f (.pick (.t 204) (.t 211) (.c (.bool false)))⟩,
   ⟨(some 213), none, .f (.mv (.t 212))⟩,
   ⟨(some 214), (some (213, true)), .f (.mv (.t 11))⟩,
   ⟨(some 215), (some (213, true)), .f (.mv (.t 11))⟩,
   ⟨(some 216), (some (213, true)), .f (.len (.t 215))⟩,
   ⟨(some 217), (some (213, true)), .f (.bin .sub (.t 216) (.c (.int .i64 1)))⟩,
   ⟨(some 218), (some (213, true)), .f (.iadr 16 (.t 214) (.t 217))⟩,
   ⟨(some 219), (some (213, true)), .f (.fadr 2 (.t 218))⟩,
   ⟨(some 220), (some (213, true)), .f (.ldA 11 (.t 219))⟩,
   ⟨(some 221), (some (213, true)), .f (.ldA 11 (.t 4))⟩,
   ⟨(some 222), (some (213, true)), .x (.call 22 [(.t 220), (.t 221)])⟩,
   ⟨(some 223), none, .f (.pick (.t 213) (.t 222) (.c (.bool false)))⟩,
   ⟨(some 2), none, .f (.mv (.t 223))⟩]
   [false, false, false, false, false, false, false, false, false, false, false, false, false, false, false, false, false, false, false, false, false, false, false, false, false, false, false, false, false, false, false, false, false, true, false, false] [[], [], [0, 1], [2, 0, 1], [3, 2, 0, 1], [4, 3, 2, 0, 1], [5, 4, 3, 2, 0, 1], [6, 5, 4, 3, 2, 0, 1], [6, 5, 4, 3, 2, 0, 1], [8, 6, 5, 4, 3, 2, 0, 1], [7, 6, 5, 4, 3, 2, 0, 1, 9, 8], [10, 7, 6, 5, 4, 3, 2, 0, 1, 9, 8], [11, 10, 7, 6, 5, 4, 3, 2, 0, 1, 9, 8], [12, 11, 10, 7, 6, 5, 4, 3, 2, 0, 1, 9, 8], [6, 5, 4, 3, 2, 0, 1, 13, 12, 11, 10, 7, 9, 8], [14, 6, 5, 4, 3, 2, 0, 1, 13, 12, 11, 10, 7, 9, 8], [15, 14, 6, 5, 4, 3, 2, 0, 1, 13, 12, 11, 10, 7, 9, 8], [15, 14, 6, 5, 4, 3, 2, 0, 1, 13, 12, 11, 10, 7, 9, 8], [17, 15, 14, 6, 5, 4, 3, 2, 0, 1, 13, 12, 11, 10, 7, 9, 8], [18, 17, 15, 14, 6, 5, 4, 3, 2, 0, 1, 13, 12, 11, 10, 7, 9, 8], [16, 15, 14, 6, 5, 4, 3, 2, 0, 1, 13, 12, 11, 10, 7, 9, 8, 19, 18, 17], [20, 16, 15, 14, 6, 5, 4, 3, 2, 0, 1, 13, 12, 11, 10, 7, 9, 8, 19, 18, 17], [21, 20, 16, 15, 14, 6, 5, 4, 3, 2, 0, 1, 13, 12, 11, 10, 7, 9, 8, 19, 18, 17], [15, 14, 6, 5, 4, 3, 2, 0, 1, 13, 12, 11, 10, 7, 9, 8, 22, 21, 20, 16, 19, 18, 17], [23, 15, 14, 6, 5, 4, 3, 2, 0, 1, 13, 12, 11, 10, 7, 9, 8, 22, 21, 20, 16, 19, 18, 17], [24, 23, 15, 14, 6, 5, 4, 3, 2, 0, 1, 13, 12, 11, 10, 7, 9, 8, 22, 21, 20, 16, 19, 18, 17], [24, 23, 15, 14, 6, 5, 4, 3, 2, 0, 1, 13, 12, 11, 10, 7, 9, 8, 22, 21, 20, 16, 19, 18, 17], [26, 24, 23, 15, 14, 6, 5, 4, 3, 2, 0, 1, 13, 12, 11, 10, 7, 9, 8, 22, 21, 20, 16, 19, 18, 17], [27, 26, 24, 23, 15, 14, 6, 5, 4, 3, 2, 0, 1, 13, 12, 11, 10, 7, 9, 8, 22, 21, 20, 16, 19, 18, 17], [25, 24, 23, 15, 14, 6, 5, 4, 3, 2, 0, 1, 13, 12, 11, 10, 7, 9, 8, 22, 21, 20, 16, 19, 18, 17, 28, 27, 26], [29, 25, 24, 23, 15, 14, 6, 5, 4, 3, 2, 0, 1, 13, 12, 11, 10, 7, 9, 8, 22, 21, 20, 16, 19, 18, 17, 28, 27, 26], [30, 29, 25, 24, 23, 15, 14, 6, 5, 4, 3, 2, 0, 1, 13, 12, 11, 10, 7, 9, 8, 22, 21, 20, 16, 19, 18, 17, 28, 27, 26], [24, 23, 15, 14, 6, 5, 4, 3, 2, 0, 1, 13, 12, 11, 10, 7, 9, 8, 22, 21, 20, 16, 19, 18, 17], [31, 30, 29, 25, 24, 23, 15, 14, 6, 5, 4, 3, 2, 0, 1, 13, 12, 11, 10, 7, 9, 8, 22, 21, 20, 16, 19, 18, 17, 28, 27, 26, 32], [24, 23, 15, 14, 6, 5, 4, 3, 2, 0, 1, 13, 12, 11, 10, 7, 9, 8, 22, 21, 20, 16, 19, 18, 17, 33, 31, 30, 29, 25, 28, 27, 26, 32], [34, 24, 23, 15, 14, 6, 5, 4, 3, 2, 0, 1, 13, 12, 11, 10, 7, 9, 8, 22, 21, 20, 16, 19, 18, 17, 33, 31, 30, 29, 25, 28, 27, 26, 32]] [0, 1, 2, 3, 4, 5, 6, 7, 8, 9, 10, 11, 12, 13, 14, 15, 16, 17, 18, 19, 20, 21, 22, 23, 24, 25, 26, 27, 28, 29, 30, 31, 32, 33, 34, 35])
 .ret)))))))))))))))))))))))))
end Go.Proofs.Ytjmmmmdpkfpojaa

set_option maxRecDepth 20000
namespace Go.Proofs.Ytjmmmmdpkfpojaa
open Go Go.IW
section
attribute [local go_sem] List.getElem?_cons_zero List.getElem?_cons_succ Option.bind_some List.map_cons List.map_nil Nat.zero_add if_true List.getD_cons_zero List.getD_cons_succ List.contains_cons List.contains_nil Bool.or_true Bool.true_or Bool.or_false Bool.false_or Bool.not_true Bool.not_false true_and and_true rowA_whole mid_get rowO_rows cellO_rows upd_ne Nat.add_assoc Nat.add_zero List.all_cons List.all_nil one_bool one_int one_str one_ptr one_nilptr one_slice one_eslice one_nilslice one_func one_iface one_niliface Bool.and_true Bool.and_self List.length_cons List.length_nil Nat.one_ne_zero Nat.succ_ne_zero if_false List.set_cons_zero List.set_cons_succ lay_nil lay_1 lay_w Option.map_some cells_one rowA_some List.drop_succ_cons List.drop_zero List.take_succ_cons List.take_zero

theorem WholeP.code {p : Pk} {id : Int} (h : WholeP p id) (h0 : 0 ≤ id) (h1 : id ≤ 65535) : codeB p = 0 := by
  have a1 := h.tos
  have a2 := h.id
  have a3 := h.off
  have a4 := h.ttl
  have a5 := h.proto
  have a6 := h.src
  have a7 := h.dst
  have a8 := h.o1
  have a9 := h.o2
  have a10 := h.p2
  have e : okIPb p = true := by
    unfold okIPb
    have e4 : ((p.opts.length : Int).tmod 4) = 0 := by rw [Int.tmod_eq_emod_of_nonneg (by omega)]; omega
    rw [a3, a6, a7, e4]
    simp only [Bool.and_eq_true, decide_eq_true_eq]
    refine ⟨⟨⟨⟨⟨⟨⟨⟨⟨⟨⟨⟨⟨⟨?_, ?_⟩, ?_⟩, ?_⟩, ?_⟩, ?_⟩, ?_⟩, ?_⟩, ?_⟩, ?_⟩, ?_⟩, ?_⟩, ?_⟩, ?_⟩, ?_⟩ <;> first | omega | rfl | trivial
  unfold codeB
  rw [if_neg (by simp [e]), if_neg (by omega)]
theorem okIPb_of {p : Pk} (h : codeB p = 0) : okIPb p = true := by
  unfold codeB at h
  split at h
  · cases h
  · rename_i h1
    exact Bool.not_eq_false _ ▸ h1
theorem Lay.step {P f : Pk} {a : Nat} {r acc G : List Pk} {R : Nat} (h : Lay P a (f :: r)) (hacc : ∀ r, Lay P a r → Lay P 0 (acc ++ r)) (hR : 8 ≤ R) (hc : Cut f R 0 G) :
    (r = [] ∧ Lay P 0 (acc ++ G)) ∨ ∃ b, Lay P b r ∧ ∀ r, Lay P b r → Lay P 0 (acc ++ G ++ r) := by
  cases h with
  | last _ h0 =>
    have hF : Frag P a P.pay.length { P with off := (a : Int), mf := false, pay := P.pay.drop a } := ⟨by simp, h0, Nat.le_refl _, fun h => absurd h (Nat.lt_irrefl _)⟩
    exact .inl ⟨rfl, hacc _ ((hc.join hR rfl hF).2 rfl)⟩
  | more _ b h0 h1 h8 hr =>
    have hF : Frag P a b { P with off := (a : Int), mf := true, pay := (P.pay.take b).drop a } := ⟨by simp [h1], h0, by omega, fun _ => h8⟩
    refine .inr ⟨b, hr, fun r hr => ?_⟩
    rw [List.append_assoc]
    exact hacc _ ((hc.join hR rfl hF).1 h1 r hr)
theorem Lay.count {P : Pk} {a : Nat} {F : List Pk} (h : Lay P a F) : F.length + a ≤ P.pay.length := by
  induction h with
  | last a h0 => simp only [List.length_cons, List.length_nil]; omega
  | more a b h0 h1 h8 hr ih => simp only [List.length_cons]; omega
theorem runSt_len : ∀ (ops : List Op) (now : Int) (l : List Ms), (runSt now l ops).length = ops.length
  | [], _, _ => rfl
  | op :: ops, now, l => by simp only [runSt, List.length_cons, runSt_len ops]
theorem Cut.ne {p : Pk} {R a : Nat} {F : List Pk} (h : Cut p R a F) : F ≠ [] := by cases h <;> simp
set_option maxHeartbeats 4000000 in
theorem lawCutWhole : LawTrue Try.prog 5 [(.slice (.int .u8), false)] := by
  rintro h ivs ha ⟨iv, r, rfl, hf, rfl⟩
  obtain ⟨dS, aS, okS', wS⟩ := fits_vw (.slice 5 (.int .u8)) hf
  obtain ⟨bs, rfl, s1⟩ := bytes_any aS wS
  refine icalls (.of ok5) (Nat.le_of_ble_eq_true rfl) ?_
  unfold c5
  have v1 := s1.one
  have hlen := s1.lenF
  rw [strRows_len] at hlen
  by_cases hbig : (1048576 : Int) < bs.length
  · have hn : decide ((1048576 : Int) < bs.length) = true := decide_eq_true hbig
    simp (disch := (first | omega | assumption | (simp only [push_n, set_n, put_n, List.length_cons, List.length_nil, List.length_append, Nat.reduceAdd]; done) | (simp only [push_n, set_n, put_n, List.length_cons, List.length_nil, List.length_append]; omega) | (simp only [List.all_cons, List.all_nil, one_bool, one_int, one_str, one_ptr, one_nilptr, one_slice, one_eslice, one_nilslice, one_func, one_iface, one_niliface, Bool.and_true, Bool.true_and, List.getD_cons_zero, List.getD_cons_succ, List.contains_cons, List.contains_nil, Bool.or_true, Bool.true_or, Bool.or_false, Bool.false_or, Nat.reduceBEq, *]; done) | fail)) only [hlen, hn, go_sem, ↓act_zero, boxA_1, boxA_2, boxA_3, bslA_1, Hold.p, HoldK.k, HoldL.K, HoldL.body, Nat.reduceBEq, Nat.reduceAdd, stO_mid, push_n, set_n, push_at, push_old, set_here, set_there, set_pushT, set_pushN, set_set, stO_1s, stO_ws, boxA_s, reduceIte]
  have hn : decide ((1048576 : Int) < bs.length) = false := decide_eq_false hbig
  have hl : bs.length ≤ 1048576 := by omega
  have S := Sp.start h
  try simp (disch := (first | omega | assumption | (simp only [List.length_cons, List.length_nil, List.length_append]; first | done | omega) | (simp (disch := assumption) only [go_sem, one_as, Nat.reduceBEq]; done) | fail)) only [hlen, hn, go_sem, Hold.p, HoldK.k, HoldL.K, HoldL.body, Nat.reduceBEq, Nat.reduceAdd, reduceIte]
  refine callA_of (lwBegin_c S iv bs s1 hl 7) ?_
  clear S
  rintro r1 g1 ⟨st1, rfl, hst, S⟩
  try simp (disch := (first | omega | assumption | (simp only [List.length_cons, List.length_nil, List.length_append]; first | done | omega) | (simp (disch := assumption) only [go_sem, one_as, Nat.reduceBEq]; done) | fail)) only [go_sem, Hold.p, HoldK.k, HoldL.K, HoldL.body, Nat.reduceBEq, Nat.reduceAdd, reduceIte]
  refine Sp.zero S fun p3 g2 S E_g2 l_g2 => ?_
  have q0 := (S.bx 0 rfl).eq
  try simp (disch := (first | omega | assumption | (simp only [List.length_cons, List.length_nil, List.length_append]; first | done | omega) | (simp (disch := assumption) only [go_sem, one_as, Nat.reduceBEq]; done) | fail)) only [q0, go_sem, Hold.p, HoldK.k, HoldL.K, HoldL.body, Nat.reduceBEq, Nat.reduceAdd, reduceIte]
  refine stw_of rfl rfl (by first | rfl | simp (disch := assumption) only [go_sem, cells_one, one_as]) fun g3 hg => ?_
  have l_g3 := n_set hg
  have S := S.set0 hg
  clear hg
  have W : SrcAt g3 p3 iv bs.length (old h :: []) := ⟨0, st1, by omega, by omega, hst, S⟩
  clear S
  try simp (disch := (first | omega | assumption | (simp only [List.length_cons, List.length_nil, List.length_append]; first | done | omega) | (simp (disch := assumption) only [go_sem, one_as, Nat.reduceBEq]; done) | fail)) only [go_sem, Hold.p, HoldK.k, HoldL.K, HoldL.body, Nat.reduceBEq, Nat.reduceAdd, reduceIte]
  refine callA_of (lwWhole_c W s1 hl 5) ?_
  clear W
  rintro r4 g4 ⟨p, vo, vp, rfl, y1, y2, hP, W⟩
  obtain ⟨pos, st, w1, w2, w3, S⟩ := W
  unfold pkRow
  try simp (disch := (first | omega | assumption | (simp only [List.length_cons, List.length_nil, List.length_append]; first | done | omega) | (simp (disch := assumption) only [go_sem, one_as, Nat.reduceBEq]; done) | fail)) only [y1, y2, go_sem, Hold.p, HoldK.k, HoldL.K, HoldL.body, Nat.reduceBEq, Nat.reduceAdd, reduceIte]
  refine Sp.zero S fun p4 g5 S E_g5 l_g5 => ?_
  have q0 := (S.bx 0 rfl).eq
  try simp (disch := (first | omega | assumption | (simp only [List.length_cons, List.length_nil, List.length_append]; first | done | omega) | (simp (disch := assumption) only [go_sem, one_as, Nat.reduceBEq]; done) | fail)) only [q0, y1, y2, go_sem, Hold.p, HoldK.k, HoldL.K, HoldL.body, Nat.reduceBEq, Nat.reduceAdd, reduceIte]
  refine stw_of rfl rfl (by first | rfl | simp (disch := assumption) only [go_sem, cells_one, one_as]) fun g6 hg => ?_
  have l_g6 := n_set hg
  have S := S.set0 hg
  clear hg
  have q0 := (S.bx 0 rfl).eq
  try simp (disch := (first | omega | assumption | (simp only [List.length_cons, List.length_nil, List.length_append]; first | done | omega) | (simp (disch := assumption) only [go_sem, one_as, Nat.reduceBEq]; done) | fail)) only [q0, go_sem, Hold.p, HoldK.k, HoldL.K, HoldL.body, Nat.reduceBEq, Nat.reduceAdd, reduceIte]
  have W : SrcAt g6 p3 iv bs.length (old h :: [box p4 (pkObj p vo vp), byt vo p.opts, byt vp p.pay]) := ⟨pos, st, w1, w2, w3, by
    have S := by simpa only [List.map_cons, List.map_nil, List.getD_cons_zero, List.getD_cons_succ, List.drop_succ_cons, List.drop_zero, List.cons_append, List.nil_append] using Sp.sel S 5 [1, 2, 0, 3, 4] (by simp only [List.length_cons]; omega) (by decide) (by decide)
    exact S⟩
  clear S
  refine callA_of (lwNext_c W s1 hl 288 (by omega)) ?_
  clear W
  rintro r7 g7 ⟨x7, rfl, a7, b7, W⟩
  have b7 := b7 (by omega)
  have e7 : wr .i64 (80 + x7) = 80 + x7 := wr64 _ (by omega)
  obtain ⟨pos, st, w1, w2, w3, S⟩ := W
  have q2 := (S.bx 2 rfl).eq
  try simp (disch := (first | omega | assumption | (simp only [List.length_cons, List.length_nil, List.length_append]; first | done | omega) | (simp (disch := assumption) only [go_sem, one_as, Nat.reduceBEq]; done) | fail)) only [q2, e7, go_sem, Hold.p, HoldK.k, HoldL.K, HoldL.body, Nat.reduceBEq, Nat.reduceAdd, reduceIte]
  obtain ⟨R, hR⟩ : ∃ R : Nat, 80 + x7 = 20 + (p.opts.length : Int) + R := ⟨(80 + x7 - 20 - p.opts.length).toNat, by have := hP.o1; omega⟩
  have hcP := hP.code (by omega) (by omega)
  have hPk : ∀ {g : IH} {L : List As}, Sp g L → ∀ i j, L[i]? = some (byt vo p.opts) → L[j]? = some (byt vp p.pay) → PkAt g p vo vp := fun S i j hi hj => ⟨S.slA i hi, S.slA j hj⟩
  refine callA_of (frag_c S p vo vp (fun g S => hPk S 3 4 rfl rfl) hcP hP.df hP.p1 R (by have := hP.o1; omega) (80 + x7) hR (by omega) (by omega)) ?_
  clear S
  rintro r8 g8 ⟨v8, rs8, fs, rfl, z8, hcut, S⟩
  have m67 : wr .i64 (80 + x7 - 67) = 13 + x7 := by rw [wr64 _ (by omega)]; omega
  have s0 := S.slA 0 rfl
  have len_s0 := s0.lenF
  have z0 := s0.one
  try simp (disch := (first | omega | assumption | (simp only [List.length_cons, List.length_nil, List.length_append]; first | done | omega) | (simp (disch := assumption) only [go_sem, one_as, Nat.reduceBEq]; done) | fail)) only [len_s0, z0, decide_true, Bool.not_true, m67, go_sem, Hold.p, HoldK.k, HoldL.K, HoldL.body, Nat.reduceBEq, Nat.reduceAdd, reduceIte]
  have W : SrcAt g8 p3 iv bs.length (old h :: [sl false 44 11 v8 rs8, all2 pkR rs8 fs, box p4 (pkObj p vo vp), byt vo p.opts, byt vp p.pay]) := ⟨pos, st, w1, w2, w3, by
    have S := by simpa only [List.map_cons, List.map_nil, List.getD_cons_zero, List.getD_cons_succ, List.drop_succ_cons, List.drop_zero, List.cons_append, List.nil_append] using Sp.sel S 7 [2, 3, 0, 1, 4, 5, 6] (by simp only [List.length_cons]; omega) (by decide) (by decide)
    exact S⟩
  clear S
  refine callA_of (lwNext_c W s1 hl (13 + x7) (by omega)) ?_
  clear W
  rintro r9 g9 ⟨x9, rfl, a9, b9, W⟩
  have b9 := b9 (by omega)
  have e9 : wr .i64 (68 + x9) = 68 + x9 := wr64 _ (by omega)
  obtain ⟨R2, hR2⟩ : ∃ R : Nat, 68 + x9 = 20 + (p.opts.length : Int) + R := ⟨(68 + x9 - 20 - p.opts.length).toNat, by have := hP.o1; omega⟩
  obtain ⟨pos, st, w1, w2, w3, S⟩ := W
  have hfl := a2_len S 3 rfl
  have hne : rs8 ≠ [] := by
    rintro rfl
    exact hcut.ne (List.length_eq_zero_iff.1 hfl.symm)
  have S := by simpa only [List.map_cons, List.map_nil, List.getD_cons_zero, List.getD_cons_succ, List.drop_succ_cons, List.drop_zero, List.cons_append, List.nil_append] using Sp.sel S 7 [2, 3, 0, 1, 4, 5, 6] (by simp only [List.length_cons]; omega) (by decide) (by decide)
  have S0 := S
  clear S
  obtain ⟨lo, hvl, S⟩ := S0.slBox hne
  have q0 := (S.bx 0 rfl).eq
  have q2 := (S.bx 2 rfl).eq
  try simp (disch := (first | omega | assumption | (simp only [List.length_cons, List.length_nil, List.length_append]; first | done | omega) | (simp (disch := assumption) only [go_sem, one_as, Nat.reduceBEq]; done) | fail)) only [q0, q2, e9, hvl, go_sem, Hold.p, HoldK.k, HoldL.K, HoldL.body, Nat.reduceBEq, Nat.reduceAdd, reduceIte]
  have hfam : Fam p fs := ⟨hP.off, hP.mf, hcP, hcut.lay hP.off hP.mf (by have := hP.o1; omega)⟩
  refine loop_at (fun n e g => ∃ (k : Nat) (acc : List Pk) (v9 : IV) (rs9 : List (List IV)), n = fs.length - k ∧ k ≤ fs.length ∧ e 3 = .ptr p3 0 0 ∧ e 4 = .ptr p4 0 0 ∧ e 5 = .int .i64 (80 + x7) ∧ e 6 = .slice lo 0 rs8.length ∧ e 8 = .int .i64 (68 + x9) ∧ e 9 = v9 ∧ e 10 = .int .i64 (k : Nat) ∧ v9.one = true ∧
    ((k = fs.length ∧ Lay p 0 acc) ∨ ∃ a, Lay p a (fs.drop k) ∧ ∀ r, Lay p a r → Lay p 0 (acc ++ r)) ∧
    Sp g (sl false 44 11 v9 rs9 :: all2 pkR rs9 acc :: box lo (.rows rs8 44 11 false) :: all2 pkR rs8 fs :: box p3 (srcO iv pos st) :: old h :: [box p4 (pkObj p vo vp), byt vo p.opts, byt vp p.pay])) fs.length ?_ ?_
  · refine ⟨0, [], .eslice true, [], by omega, by omega, ?_⟩
    have q0 := (S.bx 0 rfl).eq
    have q2 := (S.bx 2 rfl).eq
    try simp (disch := (first | omega | assumption | (simp only [List.length_cons, List.length_nil, List.length_append]; first | done | omega) | (simp (disch := assumption) only [go_sem, one_as, Nat.reduceBEq]; done) | fail)) only [q0, q2, hvl, go_sem, Hold.p, HoldK.k, HoldL.K, HoldL.body, Nat.reduceBEq, Nat.reduceAdd, reduceIte]
    have S := (S.a2nil (R := pkR)).slEmpty (x := false) (el := 44) (sz := 11)
    refine ⟨rfl, .inr ⟨0, hfam.lay, fun r hr => hr⟩, ?_⟩
    exact S
  · clear S
    rintro n e g ⟨k, acc, v9, rs9, rfl, hk, i3, i4, i5, i6, i8, i9, i10, z9, hlay, S⟩
    have s0 := S.slA 0 rfl
    have len_s0 := s0.lenF
    have z0 := s0.one
    have q2 := (S.bx 2 rfl).eq
    try simp (disch := (first | omega | assumption | (simp only [List.length_cons, List.length_nil, List.length_append]; first | done | omega) | (simp (disch := assumption) only [go_sem, one_as, Nat.reduceBEq]; done) | fail)) only [len_s0, z0, q2, i3, i4, i5, i6, i8, i9, i10, hfl, go_sem, Hold.p, HoldK.k, HoldL.K, HoldL.body, Nat.reduceBEq, Nat.reduceAdd, reduceIte]
    refine test_dec (fun hb => ?_) (fun hb => ?_)
    · obtain ⟨q, hq⟩ : ∃ q, fs[k]? = some q := ⟨_, List.getElem?_eq_getElem (by omega : k < fs.length)⟩
      obtain ⟨wo, wp, hrow, hqa⟩ := pks_at S 3 rfl hq
      have hrow0 := hrow
      have hqF : q ∈ fs := List.mem_of_getElem? hq
      have hqc := hfam.code hqF
      have hqk := okIPb_of hqc
      obtain ⟨hl1, hl2⟩ := hcut.len q hqF
      have hpo := hP.o1
      have hpp := hP.p2
      have hfc := hfam.lay.count
      have hq1 := hfam.ne hqF
      have hqs : q.opts.length + q.pay.length ≤ 700 := by
        obtain ⟨a1, b1, _, hF⟩ := hfam.lay.frag q hqF
        have := hF.len
        have := hF.hb
        rw [hl2]
        omega
      have hdq : q.df = false := by
        obtain ⟨a1, b1, _, hF⟩ := hfam.lay.frag q hqF
        rw [hF.e]
        exact hP.df
      have y3 := hqa.o.one
      have y4 := hqa.p.one
      have w1 : wr .i64 ((k : Int) + 1) = ((k + 1 : Nat) : Int) := by rw [wr64 _ (by omega)]; rfl
      have io : iadrO (IObj.rows rs8 44 11 false) 11 lo 0 rs8.length (k : Int) = some (.ptr lo k 0) := by rw [iadrO_nat (by omega)]; simp
      have d1 : decide (80 + x7 < 20 + (q.opts.length : Int) + q.pay.length) = false := decide_eq_false (by rw [hl2]; omega)
      unfold pkRow at hrow
      have s0 := S.slA 0 rfl
      have len_s0 := s0.lenF
      have z0 := s0.one
      have q2 := (S.bx 2 rfl).eq
      try simp (disch := (first | omega | assumption | (simp only [List.length_cons, List.length_nil, List.length_append]; first | done | omega) | (simp (disch := assumption) only [go_sem, one_as, Nat.reduceBEq]; done) | fail)) only [len_s0, z0, q2, i3, i4, i5, i6, i8, i9, i10, iadrF_sl, io, hrow, go_sem, Hold.p, HoldK.k, HoldL.K, HoldL.body, Nat.reduceBEq, Nat.reduceAdd, reduceIte]
      refine callA_of (sizeI_c g q wo wp hqa (by omega)) ?_
      rintro r10 g10 ⟨rfl, E10⟩
      have S := S.ext E10
      rw [if_pos hqk]
      have s0 := S.slA 0 rfl
      have len_s0 := s0.lenF
      have z0 := s0.one
      have q2 := (S.bx 2 rfl).eq
      try simp (disch := (first | omega | assumption | (simp only [List.length_cons, List.length_nil, List.length_append]; first | done | omega) | (simp (disch := assumption) only [go_sem, one_as, Nat.reduceBEq]; done) | fail)) only [len_s0, z0, q2, i3, i4, i5, i6, i8, i9, i10, iadrF_sl, io, hrow, d1, go_sem, Hold.p, HoldK.k, HoldL.K, HoldL.body, Nat.reduceBEq, Nat.reduceAdd, reduceIte]
      refine callA_of (sizeI_c g10 q wo wp (hqa.ext E10) (by omega)) ?_
      rintro r11 g11 ⟨rfl, E11⟩
      have S := S.ext E11
      rw [if_pos hqk]
      have s0 := S.slA 0 rfl
      have len_s0 := s0.lenF
      have z0 := s0.one
      have q2 := (S.bx 2 rfl).eq
      try simp (disch := (first | omega | assumption | (simp only [List.length_cons, List.length_nil, List.length_append]; first | done | omega) | (simp (disch := assumption) only [go_sem, one_as, Nat.reduceBEq]; done) | fail)) only [len_s0, z0, q2, i3, i4, i5, i6, i8, i9, i10, iadrF_sl, io, hrow, d1, go_sem, Hold.p, HoldK.k, HoldL.K, HoldL.body, Nat.reduceBEq, Nat.reduceAdd, reduceIte]
      refine callA_of (sizeS_c g11 q wo wp ((hqa.ext E10).ext E11) (by omega)) ?_
      rintro r12 g12 ⟨rfl, E12⟩
      have S := S.ext E12
      rw [if_pos hqk]
      have s0 := S.slA 0 rfl
      have len_s0 := s0.lenF
      have z0 := s0.one
      have q2 := (S.bx 2 rfl).eq
      try simp (disch := (first | omega | assumption | (simp only [List.length_cons, List.length_nil, List.length_append]; first | done | omega) | (simp (disch := assumption) only [go_sem, one_as, Nat.reduceBEq]; done) | fail)) only [len_s0, z0, q2, i3, i4, i5, i6, i8, i9, i10, iadrF_sl, io, hrow, d1, decide_true, Bool.not_true, go_sem, Hold.p, HoldK.k, HoldL.K, HoldL.body, Nat.reduceBEq, Nat.reduceAdd, reduceIte]
      refine callA_of (frag_c S q wo wp (fun g S => pks_pk S 3 rfl hrow0 hq) hqc hdq hq1 R2 (by omega) (68 + x9) (by rw [hl2]; exact hR2) (by omega) (by omega)) ?_
      clear S
      rintro r13 g13 ⟨v13, rs13, G, rfl, z13, hcutG, S⟩
      have hGl := a2_len S 1 rfl
      have hal := a2_len S 3 rfl
      have hne13 : rs13 ≠ [] := by
        rintro rfl
        exact hcutG.ne (List.length_eq_zero_iff.1 hGl.symm)
      have hdrop : fs.drop k = q :: fs.drop (k + 1) := by
        obtain ⟨h1, h2⟩ := List.getElem?_eq_some_iff.1 hq
        rw [← h2, List.drop_eq_getElem_cons h1]
      have hlay' : (k + 1 = fs.length ∧ Lay p 0 (acc ++ G)) ∨ ∃ a, Lay p a (fs.drop (k + 1)) ∧ ∀ r, Lay p a r → Lay p 0 (acc ++ G ++ r) := by
        rcases hlay with ⟨e, _⟩ | ⟨a, h1, h2⟩
        · omega
        · rw [hdrop] at h1
          rcases h1.step h2 (by omega) hcutG with ⟨e, h3⟩ | h3
          · exact .inl ⟨by have := List.drop_eq_nil_iff.1 e; omega, h3⟩
          · exact .inr h3
      have hcnt : acc.length + G.length ≤ 600 := by
        rcases hlay' with ⟨_, h3⟩ | ⟨a, h3, h4⟩
        · have := h3.count; rw [List.length_append] at this; omega
        · have := (h4 _ h3).count; rw [List.length_append, List.length_append] at this; omega
      have hsrc := (S.slA 0 rfl).src
      have s0 := S.slA 0 rfl
      have len_s0 := s0.lenF
      have z0 := s0.one
      have s2 := S.slA 2 rfl
      have len_s2 := s2.lenF
      have z2 := s2.one
      try simp (disch := (first | omega | assumption | (simp only [List.length_cons, List.length_nil, List.length_append]; first | done | omega) | (simp (disch := assumption) only [go_sem, one_as, Nat.reduceBEq]; done) | fail)) only [len_s0, z0, len_s2, z2, i3, i4, i5, i6, i8, i9, i10, decide_true, Bool.not_true, hsrc, go_sem, Hold.p, HoldK.k, HoldL.K, HoldL.body, Nat.reduceBEq, Nat.reduceAdd, reduceIte]
      have S := by simpa only [List.map_cons, List.map_nil, List.getD_cons_zero, List.getD_cons_succ, List.drop_succ_cons, List.drop_zero, List.cons_append, List.nil_append] using Sp.sel S 4 [2, 0, 1, 3] (by simp only [List.length_cons]; omega) (by decide) (by decide)
      refine S.app (y := false) (b := 112) hne13 (by omega) fun v14 g14 S z14 _ => ?_
      try simp (disch := (first | omega | assumption | (simp only [List.length_cons, List.length_nil, List.length_append]; first | done | omega) | (simp (disch := assumption) only [go_sem, one_as, Nat.reduceBEq]; done) | fail)) only [i3, i4, i5, i6, i8, i9, i10, w1, go_sem, Hold.p, HoldK.k, HoldL.K, HoldL.body, Nat.reduceBEq, Nat.reduceAdd, reduceIte]
      have S := by simpa only [List.map_cons, List.map_nil, List.getD_cons_zero, List.getD_cons_succ, List.drop_succ_cons, List.drop_zero, List.cons_append, List.nil_append] using Sp.sel S 4 [3, 2, 0] (by simp only [List.length_cons]; omega) (by decide) (by decide)
      have S := S.a2join
      have S := by simpa only [List.map_cons, List.map_nil, List.getD_cons_zero, List.getD_cons_succ, List.drop_succ_cons, List.drop_zero, List.cons_append, List.nil_append] using Sp.sel S 2 [1, 0] (by simp only [List.length_cons]; omega) (by decide) (by decide)
      exact ⟨_, by omega, k + 1, acc ++ G, v14, rs9 ++ rs13, rfl, by omega, rfl, rfl, z14, hlay', S⟩
    · have hlay2 : Lay p 0 acc := by
        rcases hlay with ⟨_, h1⟩ | ⟨a, h1, _⟩
        · exact h1
        · rw [List.drop_eq_nil_of_le (by omega)] at h1
          cases h1
      have hfam2 : Fam p acc := ⟨hP.off, hP.mf, hcP, hlay2⟩
      have hac := hlay2.count
      have hpp := hP.p2
      have hpo := hP.o1
      have A := pks_of S 0 1 rfl rfl
      have hAn := A.n
      have s0 := S.slA 0 rfl
      have len_s0 := s0.lenF
      have z0 := s0.one
      have q2 := (S.bx 2 rfl).eq
      try simp (disch := (first | omega | assumption | (simp only [List.length_cons, List.length_nil, List.length_append]; first | done | omega) | (simp (disch := assumption) only [go_sem, one_as, Nat.reduceBEq]; done) | fail)) only [len_s0, z0, q2, i3, i4, i5, i6, i8, i9, i10, go_sem, Hold.p, HoldK.k, HoldL.K, HoldL.body, Nat.reduceBEq, Nat.reduceAdd, reduceIte]
      have W : SrcAt g p3 iv bs.length (old h :: [sl false 44 11 v9 rs9, all2 pkR rs9 acc, box p4 (pkObj p vo vp), byt vo p.opts, byt vp p.pay]) := ⟨pos, st, w1, w2, w3, by
        have S := by simpa only [List.map_cons, List.map_nil, List.getD_cons_zero, List.getD_cons_succ, List.drop_succ_cons, List.drop_zero, List.cons_append, List.nil_append] using Sp.sel S 9 [4, 5, 0, 1, 6, 7, 8] (by simp only [List.length_cons]; omega) (by decide) (by decide)
        exact S⟩
      clear S
      refine callA_of (lwShuffle_c W s1 hl v9 rs9 A.s (by omega) A.rows) ?_
      clear W
      rintro r15 g15 ⟨rs15, z15, hperm, W⟩
      obtain ⟨pos2, st2, w4, w5, w6, S⟩ := W
      obtain ⟨ps, hps, A3⟩ := (pks_of S 3 4 rfl rfl).perm (S.slA 2 rfl) hperm
      have b4 := S.bx 5 rfl
      have ap := hPk S 6 7 rfl rfl
      have hpl := hps.length_eq
      have hsz : ∀ q ∈ ps, q.opts.length + q.pay.length ≤ 700 := by
        intro q hq
        have hqF := hps.mem_iff.1 hq
        obtain ⟨a1, b1, _, hF⟩ := hlay2.frag q hqF
        have h1 := hF.len
        have h2 := hF.hb
        have h3 : q.opts = p.opts := by rw [hF.e]
        rw [h3]
        omega
      clear S
      have S := Sp.start g15
      have hl15 := A3.s.lenF
      rw [A3.n] at hl15
      try simp (disch := (first | omega | assumption | (simp only [List.length_cons, List.length_nil, List.length_append]; first | done | omega) | (simp (disch := assumption) only [go_sem, one_as, Nat.reduceBEq]; done) | fail)) only [i3, i4, i5, i6, i8, i9, i10, hl15, go_sem, Hold.p, HoldK.k, HoldL.K, HoldL.body, Nat.reduceBEq, Nat.reduceAdd, reduceIte]
      refine callA_of (lwTakes_c S r15 rs15 ps (by omega) (fun q hq => by have := hsz q hq; omega) (fun g S => A3.ext (S.ol 0 rfl))) ?_
      clear S
      rintro r16 g16 ⟨ors, z16, S⟩
      have hI : ∀ o ∈ ps.map takeOp, I64 o.wait ∧ PkI o.pk := by
        intro o ho
        obtain ⟨q, hq, rfl⟩ := List.mem_map.1 ho
        have hc := hfam2.code (hps.mem_iff.1 hq)
        obtain ⟨c1, c2, c3⟩ := codeB_ok hc
        obtain ⟨a1, b1, _, hF⟩ := hlay2.frag q (hps.mem_iff.1 hq)
        refine ⟨⟨by show -9223372036854775808 ≤ (0 : Int); omega, by show (0 : Int) ≤ 9223372036854775807; omega⟩, ⟨⟨by show -9223372036854775808 ≤ q.off; omega, by show q.off ≤ 9223372036854775807; omega⟩, ?_⟩⟩
        have : q.id = 5 := by rw [hF.e]; exact hP.id
        exact ⟨by show -9223372036854775808 ≤ q.id; omega, by show q.id ≤ 9223372036854775807; omega⟩
      have O := ops_of S 0 1 rfl rfl hI
      have E16 := S.ol 2 rfl
      clear S
      try simp (disch := (first | omega | assumption | (simp only [List.length_cons, List.length_nil, List.length_append]; first | done | omega) | (simp (disch := assumption) only [go_sem, one_as, Nat.reduceBEq]; done) | fail)) only [i3, i4, i5, i6, i8, i9, i10, hl15, go_sem, Hold.p, HoldK.k, HoldL.K, HoldL.body, Nat.reduceBEq, Nat.reduceAdd, reduceIte]
      refine callA_of (implRun_c g16 r16 _ O (by rw [List.length_map]; omega) (fun o ho => by
        obtain ⟨q, hq, rfl⟩ := List.mem_map.1 ho
        have := hsz q hq
        show q.opts.length + q.pay.length ≤ 1048576
        omega)) ?_
      rintro r17 g17 ⟨⟨v17, rfl, oW⟩, E17⟩
      have hrun : runS (ps.map takeOp) = (runSt 0 [] (ps.map takeOp), 0) := if_neg (by rw [List.length_map]; omega)
      rw [hrun] at oW ⊢
      have os := outs_vw oW.up
      have hF : Fams 1 (fun _ => p) (fun _ => acc) := ⟨by omega, fun _ _ => hfam2, fun i j hi hj _ => by omega, fun _ _ _ _ => ⟨rfl, rfl⟩⟩
      have hcr := cut_run hF (now := 0) ps (Rst.nil hF) (by simpa using hps)
      have hol := runSt_len (ps.map takeOp) 0 []
      rw [List.length_map] at hol
      have hb4 := (b4.ext E16).ext E17
      have ap17 := (ap.ext E16).ext E17
      have hl15' := hl15
      generalize runSt 0 [] (ps.map takeOp) = OS at os hcr hol
      obtain ⟨rsO, hsO, hlO, hrO⟩ := os.sl
      have h13 := hsO.one
      have l13 := hsO.lenF
      rw [hlO, hol] at l13
      have hps0 : 0 < ps.length := by
        obtain ⟨f, hf, _⟩ := hlay2.ex_last
        rw [hpl]
        exact List.length_pos_of_mem hf
      have d0 : decide ((ps.length : Int) = 0) = false := decide_eq_false (by omega)
      dsimp only
      clear S oW hrun
      simp (disch := (first | omega | assumption | (simp only [push_n, set_n, put_n, List.length_cons, List.length_nil, List.length_append, Nat.reduceAdd]; done) | (simp only [push_n, set_n, put_n, List.length_cons, List.length_nil, List.length_append]; omega) | (simp only [List.all_cons, List.all_nil, one_bool, one_int, one_str, one_ptr, one_nilptr, one_slice, one_eslice, one_nilslice, one_func, one_iface, one_niliface, Bool.and_true, Bool.true_and, List.getD_cons_zero, List.getD_cons_succ, List.contains_cons, List.contains_nil, Bool.or_true, Bool.true_or, Bool.or_false, Bool.false_or, Nat.reduceBEq, *]; done) | fail)) only [i3, i4, i5, i6, i8, i9, i10, hl15, l13, h13, z15, decide_true, Bool.not_true, d0, go_sem, ↓act_zero, boxA_1, boxA_2, boxA_3, bslA_1, Hold.p, HoldK.k, HoldL.K, HoldL.body, Nat.reduceBEq, Nat.reduceAdd, stO_mid, push_n, set_n, push_at, push_old, set_here, set_there, set_pushT, set_pushN, set_set, stO_1s, stO_ws, boxA_s, reduceIte]
      have l1 : wr .i64 ((ps.length : Int) - 1) = ((ps.length - 1 : Nat) : Int) := by rw [wr64 _ (by omega)]; omega
      have hh : ∀ x : Bool, ((x == x) != true) = false := by intro x; cases x <;> rfl
      refine loop_at (fun n e g => ∃ k : Nat, n = ps.length - k ∧ k ≤ ps.length ∧ e 4 = .ptr p4 0 0 ∧ e 13 = v17 ∧ e 15 = .int .i64 (k : Nat) ∧ g = g17) ps.length ?_ ?_
      · refine ⟨0, by omega, by omega, ?_⟩
        simp (disch := (first | omega | assumption | (simp only [push_n, set_n, put_n, List.length_cons, List.length_nil, List.length_append, Nat.reduceAdd]; done) | (simp only [push_n, set_n, put_n, List.length_cons, List.length_nil, List.length_append]; omega) | (simp only [List.all_cons, List.all_nil, one_bool, one_int, one_str, one_ptr, one_nilptr, one_slice, one_eslice, one_nilslice, one_func, one_iface, one_niliface, Bool.and_true, Bool.true_and, List.getD_cons_zero, List.getD_cons_succ, List.contains_cons, List.contains_nil, Bool.or_true, Bool.true_or, Bool.or_false, Bool.false_or, Nat.reduceBEq, *]; done) | fail)) only [i4, go_sem, ↓act_zero, boxA_1, boxA_2, boxA_3, bslA_1, Hold.p, HoldK.k, HoldL.K, HoldL.body, Nat.reduceBEq, Nat.reduceAdd, stO_mid, push_n, set_n, push_at, push_old, set_here, set_there, set_pushT, set_pushN, set_set, stO_1s, stO_ws, boxA_s, reduceIte]
        rfl
      · rintro n e g ⟨k, rfl, hk2, j4, j13, j15, rfl⟩
        simp (disch := (first | omega | assumption | (simp only [push_n, set_n, put_n, List.length_cons, List.length_nil, List.length_append, Nat.reduceAdd]; done) | (simp only [push_n, set_n, put_n, List.length_cons, List.length_nil, List.length_append]; omega) | (simp only [List.all_cons, List.all_nil, one_bool, one_int, one_str, one_ptr, one_nilptr, one_slice, one_eslice, one_nilslice, one_func, one_iface, one_niliface, Bool.and_true, Bool.true_and, List.getD_cons_zero, List.getD_cons_succ, List.contains_cons, List.contains_nil, Bool.or_true, Bool.true_or, Bool.or_false, Bool.false_or, Nat.reduceBEq, *]; done) | fail)) only [j4, j13, j15, l13, go_sem, ↓act_zero, boxA_1, boxA_2, boxA_3, bslA_1, Hold.p, HoldK.k, HoldL.K, HoldL.body, Nat.reduceBEq, Nat.reduceAdd, stO_mid, push_n, set_n, push_at, push_old, set_here, set_there, set_pushT, set_pushN, set_set, stO_1s, stO_ws, boxA_s, reduceIte]
        refine test_dec (fun hb3 => ?_) (fun hb3 => ?_)
        · obtain ⟨o, ho⟩ : ∃ o, OS[k]? = some o := ⟨_, List.getElem?_eq_getElem (by omega : k < OS.length)⟩
          obtain ⟨xo, xp, xe, hr, _, _⟩ := hrO k o ho
          obtain ⟨l, j, hia, hll, har⟩ := hsO.at hr .i64
          have hc := cellO_row har
          obtain ⟨t1, t2, _⟩ := hcr k o ho
          have t3 : o.done = decide ((k : Int) = ((ps.length - 1 : Nat) : Int)) := by
            rw [t2, Bool.eq_iff_iff, decide_eq_true_eq, decide_eq_true_eq]
            omega
          have w1 : wr .i64 ((k : Int) + 1) = ((k + 1 : Nat) : Int) := by rw [wr64 _ (by omega)]; rfl
          simp (disch := (first | omega | assumption | (simp only [push_n, set_n, put_n, List.length_cons, List.length_nil, List.length_append, Nat.reduceAdd]; done) | (simp only [push_n, set_n, put_n, List.length_cons, List.length_nil, List.length_append]; omega) | (simp only [List.all_cons, List.all_nil, one_bool, one_int, one_str, one_ptr, one_nilptr, one_slice, one_eslice, one_nilslice, one_func, one_iface, one_niliface, Bool.and_true, Bool.true_and, List.getD_cons_zero, List.getD_cons_succ, List.contains_cons, List.contains_nil, Bool.or_true, Bool.true_or, Bool.or_false, Bool.false_or, Nat.reduceBEq, *]; done) | fail)) only [j4, j13, j15, l13, hia, hc, t1, t3, l1, hh, decide_true, Bool.not_true, w1, go_sem, ↓act_zero, boxA_1, boxA_2, boxA_3, bslA_1, Hold.p, HoldK.k, HoldL.K, HoldL.body, Nat.reduceBEq, Nat.reduceAdd, stO_mid, push_n, set_n, push_at, push_old, set_here, set_there, set_pushT, set_pushN, set_set, stO_1s, stO_ws, boxA_s, reduceIte]
          exact ⟨_, by omega, k + 1, rfl, by omega, rfl⟩
        · obtain ⟨o, ho⟩ : ∃ o, OS[ps.length - 1]? = some o := ⟨_, List.getElem?_eq_getElem (by omega : ps.length - 1 < OS.length)⟩
          obtain ⟨xo, xp, xe, hr, hap, z⟩ := hrO _ o ho
          obtain ⟨l, j, hia, hll, har⟩ := hsO.at hr .i64
          obtain ⟨t1, t2, t3⟩ := hcr _ o ho
          obtain ⟨t4, t5, t6⟩ := t3 (by omega)
          have yo := hap.o.one
          have yp := hap.p.one
          have t4 : o.pk = p := t4
          rw [t4] at hap
          unfold outRow at har
          rw [t4, t5, t6] at har
          simp (disch := (first | omega | assumption | (simp only [push_n, set_n, put_n, List.length_cons, List.length_nil, List.length_append, Nat.reduceAdd]; done) | (simp only [push_n, set_n, put_n, List.length_cons, List.length_nil, List.length_append]; omega) | (simp only [List.all_cons, List.all_nil, one_bool, one_int, one_str, one_ptr, one_nilptr, one_slice, one_eslice, one_nilslice, one_func, one_iface, one_niliface, Bool.and_true, Bool.true_and, List.getD_cons_zero, List.getD_cons_succ, List.contains_cons, List.contains_nil, Bool.or_true, Bool.true_or, Bool.or_false, Bool.false_or, Nat.reduceBEq, *]; done) | fail)) only [j4, j13, j15, l13, l1, hia, har, yo, yp, z, go_sem, ↓act_zero, boxA_1, boxA_2, boxA_3, bslA_1, Hold.p, HoldK.k, HoldL.K, HoldL.body, Nat.reduceBEq, Nat.reduceAdd, stO_mid, push_n, set_n, push_at, push_old, set_here, set_there, set_pushT, set_pushN, set_set, stO_1s, stO_ws, boxA_s, reduceIte]
          generalize hq_g18 : IH.push g (.rows [[.int .i64 o.code, .bool o.done, .int .i64 p.tos, .int .i64 p.id, .bool p.df, .bool p.mf, .int .i64 p.off, .int .i64 p.ttl, .int .i64 p.proto, .int .i64 p.src, .int .i64 p.dst, xo, xp, xe, .int .i64 0, .int .i64 0]] 52 16 false) = g18
          have e_g18 : Ext g g18 := by rw [← hq_g18]; exact (Ext.refl _).push _
          have l_g18 : g18.n = g.n + 1 := by rw [← hq_g18]; rfl
          have b18 : At g18 g.n (.rows [[.int .i64 o.code, .bool o.done, .int .i64 p.tos, .int .i64 p.id, .bool p.df, .bool p.mf, .int .i64 p.off, .int .i64 p.ttl, .int .i64 p.proto, .int .i64 p.src, .int .i64 p.dst, xo, xp, xe, .int .i64 0, .int .i64 0]] 52 16 false) := by rw [← hq_g18]; exact At.new _ _
          clear hq_g18
          have hb4 := hb4.ext e_g18
          have ap17 := ap17.ext e_g18
          have hap := hap.ext e_g18
          have q18 := b18.eq
          have q4 := hb4.eq
          have yo2 := ap17.o.one
          have yp2 := ap17.p.one
          simp (disch := (first | omega | assumption | (simp only [push_n, set_n, put_n, List.length_cons, List.length_nil, List.length_append, Nat.reduceAdd]; done) | (simp only [push_n, set_n, put_n, List.length_cons, List.length_nil, List.length_append]; omega) | (simp only [List.all_cons, List.all_nil, one_bool, one_int, one_str, one_ptr, one_nilptr, one_slice, one_eslice, one_nilslice, one_func, one_iface, one_niliface, Bool.and_true, Bool.true_and, List.getD_cons_zero, List.getD_cons_succ, List.contains_cons, List.contains_nil, Bool.or_true, Bool.true_or, Bool.or_false, Bool.false_or, Nat.reduceBEq, *]; done) | fail)) only [q18, q4, yo, yp, yo2, yp2, go_sem, ↓act_zero, boxA_1, boxA_2, boxA_3, bslA_1, Hold.p, HoldK.k, HoldL.K, HoldL.body, Nat.reduceBEq, Nat.reduceAdd, stO_mid, push_n, set_n, push_at, push_old, set_here, set_there, set_pushT, set_pushN, set_set, stO_1s, stO_ws, boxA_s, reduceIte]
          refine callA_of (lwPacket_c g18 p xo xp vo vp hap ap17) ?_
          rintro r19 g19 ⟨rfl, E19⟩
          have q18 := (b18.ext E19).eq
          simp (disch := (first | omega | assumption | (simp only [push_n, set_n, put_n, List.length_cons, List.length_nil, List.length_append, Nat.reduceAdd]; done) | (simp only [push_n, set_n, put_n, List.length_cons, List.length_nil, List.length_append]; omega) | (simp only [List.all_cons, List.all_nil, one_bool, one_int, one_str, one_ptr, one_nilptr, one_slice, one_eslice, one_nilslice, one_func, one_iface, one_niliface, Bool.and_true, Bool.true_and, List.getD_cons_zero, List.getD_cons_succ, List.contains_cons, List.contains_nil, Bool.or_true, Bool.true_or, Bool.or_false, Bool.false_or, Nat.reduceBEq, *]; done) | fail)) only [q18, decide_true, go_sem, ↓act_zero, boxA_1, boxA_2, boxA_3, bslA_1, Hold.p, HoldK.k, HoldL.K, HoldL.body, Nat.reduceBEq, Nat.reduceAdd, stO_mid, push_n, set_n, push_at, push_old, set_here, set_there, set_pushT, set_pushN, set_set, stO_1s, stO_ws, boxA_s, reduceIte]
end
end Go.Proofs.Ytjmmmmdpkfpojaa
