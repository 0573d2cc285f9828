import Derived.Test.YtjmmmmdpkfpojaaL2
import Derived.Test.YtjmmmmdpkfpojaaL1
import Derived.Test.YtjmmmmdpkfpojaaK2
import Derived.Test.YtjmmmmdpkfpojaaProg
import Derived.KernelRfl
set_option linter.unusedSimpArgs false
set_option linter.unusedVariables false
set_option maxRecDepth 20000
namespace Go.Proofs.Ytjmmmmdpkfpojaa
open Go Go.IW
section
attribute [local go_sem] List.getElem?_cons_zero List.getElem?_cons_succ Option.bind_some List.map_cons List.map_nil Nat.zero_add if_true List.getD_cons_zero List.getD_cons_succ List.contains_cons List.contains_nil Bool.or_true Bool.true_or Bool.or_false Bool.false_or Bool.not_true Bool.not_false true_and and_true rowA_whole mid_get rowO_rows cellO_rows upd_ne Nat.add_assoc Nat.add_zero List.all_cons List.all_nil one_bool one_int one_str one_ptr one_nilptr one_slice one_eslice one_nilslice one_func one_iface one_niliface Bool.and_true Bool.and_self List.length_cons List.length_nil Nat.one_ne_zero Nat.succ_ne_zero if_false List.set_cons_zero List.set_cons_succ lay_nil lay_1 lay_w Option.map_some cells_one rowA_some List.drop_succ_cons List.drop_zero List.take_succ_cons List.take_zero

/-! ### impl's do -/
def bytesI (l : List Mk) : Nat := (l.map fun m => totP m.ps).sum
def tellI (l : List Mk) (o : Ot) : Ot := { o with held := l.length, bytes := o.bytes + bytesI l }
def endsI (l : List Mk) : List En := (l.filter fun m => !m.ref).map toldI
def passI (now : Int) (l : List Mk) : List Mk × Ot := (l.filter fun m => !goneI now m, { ot0 with ended := endsI (l.filter (goneI now)) })
def doI (now : Int) (l : List Mk) (op : Op) : Int × List Mk × Ot :=
  if op.kind = 1 ∧ codeB op.pk = 0 then (now, (takeI now l ot0 op.pk).1, tellI (takeI now l ot0 op.pk).1 (takeI now l ot0 op.pk).2)
  else if op.kind = 2 ∧ 0 ≤ op.wait ∧ op.wait ≤ 1000000000 - now then (now + op.wait, (passI (now + op.wait) l).1, tellI (passI (now + op.wait) l).1 (passI (now + op.wait) l).2)
  else (now, l, tellI l { ot0 with code := 1 })
theorem bytesI_next {l : List Mk} {k : Nat} {m : Mk} (hm : l[k]? = some m) : bytesI (l.take (k + 1)) = bytesI (l.take k) + totP m.ps := by
  rw [List.take_add_one, hm]; simp [bytesI]
theorem bytesI_le {l : List Mk} {M : Nat} (h : ∀ m ∈ l, totP m.ps ≤ M) : bytesI l ≤ l.length * M := by
  induction l with
  | nil => simp [bytesI]
  | cons q ps ih =>
    have h1 := h q List.mem_cons_self
    have h2 := ih fun r hr => h r (List.mem_cons_of_mem _ hr)
    have h3 : bytesI (q :: ps) = totP q.ps + bytesI ps := by simp [bytesI]
    rw [h3, List.length_cons, Nat.add_mul, Nat.one_mul]
    omega
theorem endsI_next {l : List Mk} {k : Nat} {m : Mk} (hm : l[k]? = some m) : endsI (l.take (k + 1)) = if m.ref = true then endsI (l.take k) else endsI (l.take k) ++ [toldI m] := by
  rw [List.take_add_one, hm]
  unfold endsI
  rw [List.filter_append, List.map_append]
  cases hr : m.ref <;> simp [hr]
theorem endsI_len (l : List Mk) : (endsI l).length ≤ l.length := by
  unfold endsI
  rw [List.length_map]
  exact List.length_filter_le _ _
theorem openI_bytes (now : Int) (l : List Mk) (o : Ot) (p : Pk) : (openI now l o p).2.1.bytes = o.bytes := by
  unfold openI
  split
  · rfl
  · split
    · unfold goneOI; split <;> rfl
    · rfl
theorem takeI_bytes (now : Int) (l : List Mk) (o : Ot) (p : Pk) : (takeI now l o p).2.bytes = o.bytes := by
  unfold takeI
  split
  · rfl
  · split
    · rfl
    · simp only
      rw [← openI_bytes now l o p]
      unfold stepI
      simp only
      split
      · rfl
      · split <;> rfl
abbrev opO (o : Op) (vo vp : IV) : IObj := .rows [[.int .i64 o.kind, .int .i64 o.wait, .int .i64 o.pk.tos, .int .i64 o.pk.id, .bool o.pk.df, .bool o.pk.mf, .int .i64 o.pk.off, .int .i64 o.pk.ttl, .int .i64 o.pk.proto, .int .i64 o.pk.src, .int .i64 o.pk.dst, vo, vp]] 58 13 false
abbrev oZ : IObj := .rows [outRow ot0 .nilslice .nilslice .nilslice] 52 16 false
set_option maxHeartbeats 2000000 in
theorem do_c {h h0 : IH} {L : List As} {x N : Nat} {now : Int} {vl : IV} {rs : List (List IV)} {l : List Mk} {op : Op} {po pp : IV} (S : Sp h (box x (xO now vl) :: sl true 105 1 vl rs :: all2 mkR rs l :: old h0 :: L)) (a : PkAt h0 op.pk po pp) (hN : N ≤ 90000) (hl : l.length ≤ 16) (hok : ∀ m ∈ l, OkI N m) (hb : ∀ m ∈ l, 0 ≤ m.begun ∧ m.begun ≤ 1000000000)
    (hn : 0 ≤ now ∧ now ≤ 1000000000) (hsz : op.pk.opts.length + op.pk.pay.length ≤ 1048576) (hI : PkI op.pk) (hres : (doI now l op).2.1.length ≤ 16 ∧ ∀ m ∈ (doI now l op).2.1, OkI (N + 1) m)
    (hwh : codeB op.pk = 0 → op.pk.pay ≠ [] → ∀ m ∈ (openI now l ot0 op.pk).1, m.ref = false → (addI m op.pk).2 = true → ∀ q ∈ (addI m op.pk).1.ps, pTo q ≤ (addI m op.pk).1.en) :
    ICalls Try.prog 32 [.ptr x 0 0, .agg (opRow op po pp)] h fun r h' => ∃ vl rs vo vp ve, r = .agg (outRow (doI now l op).2.2 vo vp ve) ∧ Sp h' (box x (xO (doI now l op).1 vl) :: sl true 105 1 vl rs :: all2 mkR rs (doI now l op).2.1 :: byt vo (doI now l op).2.2.pk.opts :: byt vp (doI now l op).2.2.pk.pay :: endP ve (doI now l op).2.2.ended :: old h0 :: L) := by
  refine icalls (.of ok32) (Nat.le_of_ble_eq_true rfl) ?_
  unfold c32 opRow pkRow
  have y1 := a.o.one
  have y2 := a.p.one
  refine vc_split 3 (fun e g => ∃ (p4 p5 : Nat) (o' : Ot), e 0 = .ptr x 0 0 ∧ e 4 = .ptr p4 0 0 ∧ e 5 = .ptr p5 0 0 ∧ (doI now l op).2.2 = tellI (doI now l op).2.1 o' ∧ o'.bytes = 0 ∧ ISt g x (doI now l op).1 (doI now l op).2.1 p5 o' (old h0 :: box p4 oZ :: L)) ?_ ?_
  · simp only [CC.split]
    try simp (disch := (first | omega | assumption | (simp only [List.length_cons, List.length_nil, List.length_append]; first | done | omega) | (simp (disch := assumption) only [go_sem, one_as, Nat.reduceBEq]; done) | fail)) only [go_sem, Hold.p, HoldK.k, HoldL.K, HoldL.body, Nat.reduceBEq, Nat.reduceAdd, reduceIte]
    refine Sp.bxA S (by first | rfl | (rw [cells_one (by assumption)]; rfl)) (by first | rfl | simp (disch := assumption) only [go_sem, cells_one, one_as]) fun p3 g1 S E_g1 l_g1 => ?_
    try simp (disch := (first | omega | assumption | (simp only [List.length_cons, List.length_nil, List.length_append]; first | done | omega) | (simp (disch := assumption) only [go_sem, one_as, Nat.reduceBEq]; done) | fail)) only [go_sem, Hold.p, HoldK.k, HoldL.K, HoldL.body, Nat.reduceBEq, Nat.reduceAdd, reduceIte]
    refine Sp.zero S fun p4 g2 S E_g2 l_g2 => ?_
    try simp (disch := (first | omega | assumption | (simp only [List.length_cons, List.length_nil, List.length_append]; first | done | omega) | (simp (disch := assumption) only [go_sem, one_as, Nat.reduceBEq]; done) | fail)) only [go_sem, Hold.p, HoldK.k, HoldL.K, HoldL.body, Nat.reduceBEq, Nat.reduceAdd, reduceIte]
    refine Sp.zero S fun p5 g3 S E_g3 l_g3 => ?_
    have W : ISt g3 x now l p5 ot0 (old h0 :: box p3 (opO op po pp) :: box p4 oZ :: L) := by
      have S := ((S.slNil (x := false) (el := 5) (sz := 1)).slNil (x := false) (el := 5) (sz := 1)).slNil (x := false) (el := 113) (sz := 5)
      refine ⟨vl, rs, .nilslice, .nilslice, .nilslice, ?_⟩
      have S := by simpa only [List.map_cons, List.map_nil, List.getD_cons_zero, List.getD_cons_succ, List.drop_succ_cons, List.drop_zero, List.cons_append, List.nil_append] using Sp.sel S 10 [6, 7, 8, 3, 2, 1, 0, 9, 5, 4] (by simp only [List.length_cons]; omega) (by decide) (by decide)
      exact S
    have hdrop : ∀ {g : IH} {now' : Int} {l' : List Mk} {o' : Ot}, ISt g x now' l' p5 o' (old h0 :: box p3 (opO op po pp) :: box p4 oZ :: L) → ISt g x now' l' p5 o' (old h0 :: box p4 oZ :: L) := by
      rintro g now' l' o' ⟨vl, rs, vo, vp, ve, S⟩
      refine ⟨vl, rs, vo, vp, ve, ?_⟩
      have S := by simpa only [List.map_cons, List.map_nil, List.getD_cons_zero, List.getD_cons_succ, List.drop_succ_cons, List.drop_zero, List.cons_append, List.nil_append] using Sp.sel S 10 [0, 1, 2, 3, 4, 5, 6, 7, 9] (by simp only [List.length_cons]; omega) (by decide) (by decide)
      exact S
    have q2 := (S.bx 2 rfl).eq
    try simp (disch := (first | omega | assumption | (simp only [List.length_cons, List.length_nil, List.length_append]; first | done | omega) | (simp (disch := assumption) only [go_sem, one_as, Nat.reduceBEq]; done) | fail)) only [q2, go_sem, Hold.p, HoldK.k, HoldL.K, HoldL.body, Nat.reduceBEq, Nat.reduceAdd, reduceIte]
    have ag := a.ext (S.ol 6 rfl)
    refine guard_extT (v := .int .i64 (codeB op.pk)) (fun hk => ?_) (fun g4 E4 => ?_)
    · skip
      try simp (disch := (first | omega | assumption | (simp only [List.length_cons, List.length_nil, List.length_append]; first | done | omega) | (simp (disch := assumption) only [go_sem, one_as, Nat.reduceBEq]; done) | fail)) only [hk, go_sem, Hold.p, HoldK.k, HoldL.K, HoldL.body, Nat.reduceBEq, Nat.reduceAdd, reduceIte]
      exact codeIP_c g3 op.pk po pp ag (by omega) hI.off.1
    clear S
    obtain ⟨vl, rs, vo, vp, ve, S⟩ := W
    have S := S.ext E4
    try simp (disch := (first | omega | assumption | (simp only [List.length_cons, List.length_nil, List.length_append]; first | done | omega) | (simp (disch := assumption) only [go_sem, one_as, Nat.reduceBEq]; done) | fail)) only [go_sem, Hold.p, HoldK.k, HoldL.K, HoldL.body, Nat.reduceBEq, Nat.reduceAdd, reduceIte]
    refine test_of (fun hc => ?_) (fun hc => ?_)
    · have hc' : op.kind = 1 ∧ codeB op.pk = 0 := by simpa using hc
      obtain ⟨c1, c2, c3⟩ := codeB_ok hc'.2
      have hdo : doI now l op = (now, (takeI now l ot0 op.pk).1, tellI (takeI now l ot0 op.pk).1 (takeI now l ot0 op.pk).2) := if_pos hc'
      have q8 := (S.bx 8 rfl).eq
      try simp (disch := (first | omega | assumption | (simp only [List.length_cons, List.length_nil, List.length_append]; first | done | omega) | (simp (disch := assumption) only [go_sem, one_as, Nat.reduceBEq]; done) | fail)) only [q8, go_sem, Hold.p, HoldK.k, HoldL.K, HoldL.body, Nat.reduceBEq, Nat.reduceAdd, reduceIte]
      refine callA_of (take_c (o := ot0) ⟨vl, rs, vo, vp, ve, S⟩ a hN hl (by simp [ot0]) hok c1 c2 c3 (hwh hc'.2)) ?_
      clear S
      rintro r5 g5 W
      try simp (disch := (first | omega | assumption | (simp only [List.length_cons, List.length_nil, List.length_append]; first | done | omega) | (simp (disch := assumption) only [go_sem, one_as, Nat.reduceBEq]; done) | fail)) only [go_sem, Hold.p, HoldK.k, HoldL.K, HoldL.body, Nat.reduceBEq, Nat.reduceAdd, reduceIte]
      rw [hdo]
      refine ⟨p4, p5, (takeI now l ot0 op.pk).2, rfl, rfl, rfl, takeI_bytes _ _ _ _, hdrop W⟩
    · have hc' : ¬ (op.kind = 1 ∧ codeB op.pk = 0) := by simpa using hc
      have q0 := (S.bx 0 rfl).eq
      have q8 := (S.bx 8 rfl).eq
      try simp (disch := (first | omega | assumption | (simp only [List.length_cons, List.length_nil, List.length_append]; first | done | omega) | (simp (disch := assumption) only [go_sem, one_as, Nat.reduceBEq]; done) | fail)) only [q0, q8, go_sem, Hold.p, HoldK.k, HoldL.K, HoldL.body, Nat.reduceBEq, Nat.reduceAdd, reduceIte]
      refine guard_of (fun hk => ?_) (fun hk => ?_)
      · have hk' : op.kind = 2 := by simpa using hk
        have q0 := (S.bx 0 rfl).eq
        have q8 := (S.bx 8 rfl).eq
        try simp (disch := (first | omega | assumption | (simp only [List.length_cons, List.length_nil, List.length_append]; first | done | omega) | (simp (disch := assumption) only [go_sem, one_as, Nat.reduceBEq]; done) | fail)) only [q0, q8, hk, go_sem, Hold.p, HoldK.k, HoldL.K, HoldL.body, Nat.reduceBEq, Nat.reduceAdd, reduceIte]
        refine callA_of (isTime_c _ _ _ hn) ?_
        rintro r9 g9 ⟨rfl, rfl⟩
        have q0 := (S.bx 0 rfl).eq
        have q8 := (S.bx 8 rfl).eq
        try simp (disch := (first | omega | assumption | (simp only [List.length_cons, List.length_nil, List.length_append]; first | done | omega) | (simp (disch := assumption) only [go_sem, one_as, Nat.reduceBEq]; done) | fail)) only [q0, q8, hk, go_sem, Hold.p, HoldK.k, HoldL.K, HoldL.body, Nat.reduceBEq, Nat.reduceAdd, reduceIte]
        refine test_of (fun hw => ?_) (fun hw => ?_)
        · have hw' : 0 ≤ op.wait ∧ op.wait ≤ 1000000000 - now := by simpa using hw
          obtain ⟨now', hnow⟩ : ∃ n, n = now + op.wait := ⟨_, rfl⟩
          have w1 : wr .i64 (now + op.wait) = now' := by rw [wr64 _ (by omega), hnow]
          have hdo : doI now l op = (now', (passI now' l).1, tellI (passI now' l).1 (passI now' l).2) := by rw [hnow]; exact (if_neg hc').trans (if_pos ⟨hk', hw'.1, hw'.2⟩)
          rw [hdo]
          have q0 := (S.bx 0 rfl).eq
          have q8 := (S.bx 8 rfl).eq
          try simp (disch := (first | omega | assumption | (simp only [List.length_cons, List.length_nil, List.length_append]; first | done | omega) | (simp (disch := assumption) only [go_sem, one_as, Nat.reduceBEq]; done) | fail)) only [q0, q8, w1, go_sem, Hold.p, HoldK.k, HoldL.K, HoldL.body, Nat.reduceBEq, Nat.reduceAdd, reduceIte]
          refine st1_of (Nat.le_of_ble_eq_true rfl) (by first | rfl | assumption) fun g10 hg => ?_
          have l_g10 := n_set hg
          have S := S.set0 hg
          clear hg
          simp only [List.set_cons_zero, List.set_cons_succ, List.take_succ_cons, List.take_zero, List.drop_succ_cons, List.drop_zero, List.cons_append, List.nil_append, Nat.reduceAdd] at S
          try simp (disch := (first | omega | assumption | (simp only [List.length_cons, List.length_nil, List.length_append]; first | done | omega) | (simp (disch := assumption) only [go_sem, one_as, Nat.reduceBEq]; done) | fail)) only [go_sem, Hold.p, HoldK.k, HoldL.K, HoldL.body, Nat.reduceBEq, Nat.reduceAdd, reduceIte]
          refine callA_of (past_c S (by omega) hb) ?_
          clear S
          rintro r11 g11 ⟨vn, rg, rn, S⟩
          have hrl := a2_len S 1 rfl
          have z0 := (S.slA 0 rfl).one
          have len0 := (S.slA 0 rfl).lenF
          rw [hrl] at len0
          have hgl : (l.filter (goneI now')).length ≤ 16 := Nat.le_trans (List.length_filter_le _ _) hl
          obtain ⟨gone, hgone⟩ : ∃ g, g = l.filter (goneI now') := ⟨_, rfl⟩
          have hpas : passI now' l = (l.filter (fun m => !goneI now' m), { ot0 with ended := endsI gone }) := by rw [hgone]; rfl
          rw [hpas]
          rw [← hgone] at S hrl len0 hgl
          try simp (disch := (first | omega | assumption | (simp only [List.length_cons, List.length_nil, List.length_append]; first | done | omega) | (simp (disch := assumption) only [go_sem, one_as, Nat.reduceBEq]; done) | fail)) only [len0, go_sem, Hold.p, HoldK.k, HoldL.K, HoldL.body, Nat.reduceBEq, Nat.reduceAdd, reduceIte]
          refine loop_at (fun n e g => ∃ (k : Nat) (ve : IV), n = gone.length - k ∧ k ≤ gone.length ∧ e 0 = .ptr x 0 0 ∧ e 4 = .ptr p4 0 0 ∧ e 5 = .ptr p5 0 0 ∧ e 50 = r11 ∧ e 51 = .int .i64 (gone.length : Nat) ∧ e 52 = .int .i64 (k : Nat) ∧
            Sp g (sl false 105 1 r11 rg :: all2 mkR rg gone :: box x (xO now' vn) :: sl false 105 1 vn rn :: all2 mkR rn (l.filter fun m => !goneI now' m) :: box p5 (outO { ot0 with ended := endsI (gone.take k) } vo vp ve) :: byt vo ot0.pk.opts :: byt vp ot0.pk.pay :: endP ve (endsI (gone.take k)) :: old h0 :: box p4 oZ :: L)) gone.length ?_ ?_
          · refine ⟨0, ve, by omega, by omega, ?_⟩
            try simp (disch := (first | omega | assumption | (simp only [List.length_cons, List.length_nil, List.length_append]; first | done | omega) | (simp (disch := assumption) only [go_sem, one_as, Nat.reduceBEq]; done) | fail)) only [go_sem, Hold.p, HoldK.k, HoldL.K, HoldL.body, Nat.reduceBEq, Nat.reduceAdd, reduceIte]
            refine ⟨rfl, ?_⟩
            have S := by simpa only [List.map_cons, List.map_nil, List.getD_cons_zero, List.getD_cons_succ, List.drop_succ_cons, List.drop_zero, List.cons_append, List.nil_append] using Sp.sel S 12 [0, 1, 2, 3, 4, 5, 6, 7, 8, 9, 11] (by simp only [List.length_cons]; omega) (by decide) (by decide)
            exact S
          · clear S
            rintro n e g ⟨k, ve, rfl, hk2, i0, i4, i5, i50, i51, i52, S⟩
            try simp (disch := (first | omega | assumption | (simp only [List.length_cons, List.length_nil, List.length_append]; first | done | omega) | (simp (disch := assumption) only [go_sem, one_as, Nat.reduceBEq]; done) | fail)) only [i0, i4, i5, i50, i51, i52, go_sem, Hold.p, HoldK.k, HoldL.K, HoldL.body, Nat.reduceBEq, Nat.reduceAdd, reduceIte]
            refine test_dec (fun hb2 => ?_) (fun hb2 => ?_)
            · obtain ⟨m, hm⟩ : ∃ m, gone[k]? = some m := ⟨_, List.getElem?_eq_getElem (by omega : k < gone.length)⟩
              obtain ⟨q, vps, vf, hrow, hbq, k1, k2, k3⟩ := mk_at S 1 rfl hm
              have s0 := S.slA 0 rfl
              obtain ⟨a1, a2, hia, hal, har⟩ := s0.at hrow .i64
              have hcl := cellO_row har
              have qq := hbq.eq
              have hnx := endsI_next hm
              have hel := endsI_len (gone.take k)
              have hel2 : (gone.take k).length ≤ 16 := by rw [List.length_take]; omega
              have w2 : wr .i64 ((k : Int) + 1) = ((k + 1 : Nat) : Int) := by rw [wr64 _ (by omega)]; rfl
              have z8 := (S.slA 8 rfl).one
              try simp (disch := (first | omega | assumption | (simp only [List.length_cons, List.length_nil, List.length_append]; first | done | omega) | (simp (disch := assumption) only [go_sem, one_as, Nat.reduceBEq]; done) | fail)) only [i0, i4, i5, i50, i51, i52, hia, hcl, qq, go_sem, Hold.p, HoldK.k, HoldL.K, HoldL.body, Nat.reduceBEq, Nat.reduceAdd, reduceIte]
              refine test_of (fun hr => ?_) (fun hr => ?_)
              · have hr' : m.ref = false := by rwa [Bool.not_eq_true'] at hr
                rw [if_neg (by simp [hr'])] at hnx
                have q5 := (S.bx 5 rfl).eq
                try simp (disch := (first | omega | assumption | (simp only [List.length_cons, List.length_nil, List.length_append]; first | done | omega) | (simp (disch := assumption) only [go_sem, one_as, Nat.reduceBEq]; done) | fail)) only [q5, i0, i4, i5, i50, i51, i52, go_sem, Hold.p, HoldK.k, HoldL.K, HoldL.body, Nat.reduceBEq, Nat.reduceAdd, reduceIte]
                refine callA_of (told_c S hbq k2) ?_
                clear S
                rintro r12 g12 ⟨rfl, S⟩
                unfold enRow toldI
                have q5 := (S.bx 5 rfl).eq
                try simp (disch := (first | omega | assumption | (simp only [List.length_cons, List.length_nil, List.length_append]; first | done | omega) | (simp (disch := assumption) only [go_sem, one_as, Nat.reduceBEq]; done) | fail)) only [q5, i0, i4, i5, i50, i51, i52, go_sem, Hold.p, HoldK.k, HoldL.K, HoldL.body, Nat.reduceBEq, Nat.reduceAdd, reduceIte]
                refine Sp.bsl1 S (by first | rfl | (rw [cells_one (by assumption)]; rfl)) (by first | rfl | simp (disch := assumption) only [go_sem, cells_one, one_as]) fun p13 g13 S E_g13 l_g13 => ?_
                try simp only [cells_agg, cells_int, cells_bool, cells_ptr, cells_str] at S
                have q0 := (S.bx 0 rfl).eq
                have q6 := (S.bx 6 rfl).eq
                try simp (disch := (first | omega | assumption | (simp only [List.length_cons, List.length_nil, List.length_append]; first | done | omega) | (simp (disch := assumption) only [go_sem, one_as, Nat.reduceBEq]; done) | fail)) only [q0, q6, i0, i4, i5, i50, i51, i52, go_sem, Hold.p, HoldK.k, HoldL.K, HoldL.body, Nat.reduceBEq, Nat.reduceAdd, reduceIte]
                have S := by simpa only [List.map_cons, List.map_nil, List.getD_cons_zero, List.getD_cons_succ, List.drop_succ_cons, List.drop_zero, List.cons_append, List.nil_append] using Sp.sel S 12 [0, 9, 1, 2, 3, 4, 5, 6, 7, 8, 10, 11] (by simp only [List.length_cons]; omega) (by decide) (by decide)
                refine S.app1 (y := false) (by simp; omega) ?_
                clear S
                intro v14 g14 S z14
                have q6 := (S.bx 6 rfl).eq
                try simp (disch := (first | omega | assumption | (simp only [List.length_cons, List.length_nil, List.length_append]; first | done | omega) | (simp (disch := assumption) only [go_sem, one_as, Nat.reduceBEq]; done) | fail)) only [q6, i0, i4, i5, i50, i51, i52, go_sem, Hold.p, HoldK.k, HoldL.K, HoldL.body, Nat.reduceBEq, Nat.reduceAdd, reduceIte]
                refine st1_of (Nat.le_of_ble_eq_true rfl) (by first | rfl | assumption) fun g15 hg => ?_
                have l_g15 := n_set hg
                have S := S.set6 hg
                clear hg
                simp only [List.set_cons_zero, List.set_cons_succ, List.take_succ_cons, List.take_zero, List.drop_succ_cons, List.drop_zero, List.cons_append, List.nil_append, Nat.reduceAdd] at S
                try simp (disch := (first | omega | assumption | (simp only [List.length_cons, List.length_nil, List.length_append]; first | done | omega) | (simp (disch := assumption) only [go_sem, one_as, Nat.reduceBEq]; done) | fail)) only [i0, i4, i5, i50, i51, i52, w2, go_sem, Hold.p, HoldK.k, HoldL.K, HoldL.body, Nat.reduceBEq, Nat.reduceAdd, reduceIte]
                have S := by simpa only [List.map_cons, List.map_nil, List.getD_cons_zero, List.getD_cons_succ, List.drop_succ_cons, List.drop_zero, List.cons_append, List.nil_append] using Sp.sel S 11 [1, 2, 3, 4, 5, 6, 7, 8, 0, 9, 10] (by simp only [List.length_cons]; omega) (by decide) (by decide)
                refine ⟨_, by omega, k + 1, v14, rfl, by omega, rfl, ?_⟩
                rw [hnx]
                simp only [endP, List.map_append, List.map_cons, List.map_nil]
                exact S
              · have hr' : m.ref = true := by rwa [Bool.not_eq_false'] at hr
                rw [if_pos hr'] at hnx
                try simp (disch := (first | omega | assumption | (simp only [List.length_cons, List.length_nil, List.length_append]; first | done | omega) | (simp (disch := assumption) only [go_sem, one_as, Nat.reduceBEq]; done) | fail)) only [i0, i4, i5, i50, i51, i52, w2, go_sem, Hold.p, HoldK.k, HoldL.K, HoldL.body, Nat.reduceBEq, Nat.reduceAdd, reduceIte]
                refine ⟨_, by omega, k + 1, ve, rfl, by omega, rfl, ?_⟩
                rw [hnx]
                exact S
            · rw [List.take_of_length_le (by omega)] at S
              try simp (disch := (first | omega | assumption | (simp only [List.length_cons, List.length_nil, List.length_append]; first | done | omega) | (simp (disch := assumption) only [go_sem, one_as, Nat.reduceBEq]; done) | fail)) only [i0, i4, i5, i50, i51, i52, go_sem, Hold.p, HoldK.k, HoldL.K, HoldL.body, Nat.reduceBEq, Nat.reduceAdd, reduceIte]
              refine ⟨p4, p5, { ot0 with ended := endsI gone }, rfl, rfl, rfl, rfl, vn, rn, vo, vp, ve, ?_⟩
              have S := by simpa only [List.map_cons, List.map_nil, List.getD_cons_zero, List.getD_cons_succ, List.drop_succ_cons, List.drop_zero, List.cons_append, List.nil_append] using Sp.sel S 11 [3, 2, 4, 5, 6, 7, 8, 9, 10] (by simp only [List.length_cons]; omega) (by decide) (by decide)
              have S := S.lax
              have S := by simpa only [List.map_cons, List.map_nil, List.getD_cons_zero, List.getD_cons_succ, List.drop_succ_cons, List.drop_zero, List.cons_append, List.nil_append] using Sp.sel S 9 [1, 0, 2, 3, 4, 5, 6, 7, 8] (by simp only [List.length_cons]; omega) (by decide) (by decide)
              exact S
        · have hw' : ¬ (0 ≤ op.wait ∧ op.wait ≤ 1000000000 - now) := by simpa using hw
          have hc2 : ¬ (op.kind = 2 ∧ 0 ≤ op.wait ∧ op.wait ≤ 1000000000 - now) := fun h => hw' h.2
          have hdo : doI now l op = (now, l, tellI l { ot0 with code := 1 }) := (if_neg hc').trans (if_neg hc2)
          have q3 := (S.bx 3 rfl).eq
          try simp (disch := (first | omega | assumption | (simp only [List.length_cons, List.length_nil, List.length_append]; first | done | omega) | (simp (disch := assumption) only [go_sem, one_as, Nat.reduceBEq]; done) | fail)) only [q3, hk, go_sem, Hold.p, HoldK.k, HoldL.K, HoldL.body, Nat.reduceBEq, Nat.reduceAdd, reduceIte]
          refine st1_of (Nat.le_of_ble_eq_true rfl) (by first | rfl | assumption) fun g10 hg => ?_
          have l_g10 := n_set hg
          have S := S.set3 hg
          clear hg
          simp only [List.set_cons_zero, List.set_cons_succ, List.take_succ_cons, List.take_zero, List.drop_succ_cons, List.drop_zero, List.cons_append, List.nil_append, Nat.reduceAdd] at S
          try simp (disch := (first | omega | assumption | (simp only [List.length_cons, List.length_nil, List.length_append]; first | done | omega) | (simp (disch := assumption) only [go_sem, one_as, Nat.reduceBEq]; done) | fail)) only [go_sem, Hold.p, HoldK.k, HoldL.K, HoldL.body, Nat.reduceBEq, Nat.reduceAdd, reduceIte]
          rw [hdo]
          exact ⟨p4, p5, { ot0 with code := 1 }, rfl, rfl, rfl, rfl, hdrop ⟨vl, rs, vo, vp, ve, S⟩⟩
      · have hk' : ¬ op.kind = 2 := by simpa using hk
        have hc2 : ¬ (op.kind = 2 ∧ 0 ≤ op.wait ∧ op.wait ≤ 1000000000 - now) := fun h => hk' h.1
        have hdo : doI now l op = (now, l, tellI l { ot0 with code := 1 }) := (if_neg hc').trans (if_neg hc2)
        have q3 := (S.bx 3 rfl).eq
        try simp (disch := (first | omega | assumption | (simp only [List.length_cons, List.length_nil, List.length_append]; first | done | omega) | (simp (disch := assumption) only [go_sem, one_as, Nat.reduceBEq]; done) | fail)) only [q3, hk, go_sem, Hold.p, HoldK.k, HoldL.K, HoldL.body, Nat.reduceBEq, Nat.reduceAdd, reduceIte]
        refine st1_of (Nat.le_of_ble_eq_true rfl) (by first | rfl | assumption) fun g10 hg => ?_
        have l_g10 := n_set hg
        have S := S.set3 hg
        clear hg
        simp only [List.set_cons_zero, List.set_cons_succ, List.take_succ_cons, List.take_zero, List.drop_succ_cons, List.drop_zero, List.cons_append, List.nil_append, Nat.reduceAdd] at S
        try simp (disch := (first | omega | assumption | (simp only [List.length_cons, List.length_nil, List.length_append]; first | done | omega) | (simp (disch := assumption) only [go_sem, one_as, Nat.reduceBEq]; done) | fail)) only [go_sem, Hold.p, HoldK.k, HoldL.K, HoldL.body, Nat.reduceBEq, Nat.reduceAdd, reduceIte]
        rw [hdo]
        exact ⟨p4, p5, { ot0 with code := 1 }, rfl, rfl, rfl, rfl, hdrop ⟨vl, rs, vo, vp, ve, S⟩⟩
  clear S hb hwh hok hl
  generalize doI now l op = D at hres ⊢
  obtain ⟨now', l', od⟩ := D
  simp only at hres ⊢
  obtain ⟨hl, hok⟩ := hres
  rintro e g ⟨p4, p5, o', i0, i4, i5, hod, hob, vl, rs, vo, vp, ve, S⟩
  simp only [CC.split]
  rw [hod]
  have x1 := (S.slA 4 rfl).one
  have x2 := (S.slA 5 rfl).one
  have x3 := (S.slA 6 rfl).one
  have hrl := a2_len S 2 rfl
  have htm : ∀ m ∈ l', ∀ k, totP (m.ps.take k) ≤ 90001 * 65535 := fun m hm k => Nat.le_trans (totP_le fun q hq => ((hok m hm).s.q q (List.mem_of_mem_take hq)).2) (Nat.mul_le_mul_right _ (by have := (hok m hm).s.n; rw [List.length_take]; omega))
  have htm' : ∀ m ∈ l', totP m.ps ≤ 90001 * 65535 := fun m hm => by have := htm m hm m.ps.length; rwa [List.take_length] at this
  have hbl : ∀ k, bytesI (l'.take k) ≤ 100 * (90001 * 65535) := fun k => Nat.le_trans (bytesI_le fun m hm => htm' m (List.mem_of_mem_take hm)) (Nat.mul_le_mul_right _ (by rw [List.length_take]; omega))
  have q0 := (S.bx 0 rfl).eq
  have q3 := (S.bx 3 rfl).eq
  have s1 := S.slA 1 rfl
  have len_s1 := s1.lenF
  have z1 := s1.one
  try simp (disch := (first | omega | assumption | (simp only [List.length_cons, List.length_nil, List.length_append]; first | done | omega) | (simp (disch := assumption) only [go_sem, one_as, Nat.reduceBEq]; done) | fail)) only [q0, q3, len_s1, z1, i0, i4, i5, hrl, go_sem, Hold.p, HoldK.k, HoldL.K, HoldL.body, Nat.reduceBEq, Nat.reduceAdd, reduceIte]
  refine st1_of (Nat.le_of_ble_eq_true rfl) (by first | rfl | assumption) fun g2 hg => ?_
  have l_g2 := n_set hg
  have S := S.set3 hg
  clear hg
  simp only [List.set_cons_zero, List.set_cons_succ, List.take_succ_cons, List.take_zero, List.drop_succ_cons, List.drop_zero, List.cons_append, List.nil_append, Nat.reduceAdd] at S
  have q0 := (S.bx 0 rfl).eq
  have s1 := S.slA 1 rfl
  have len_s1 := s1.lenF
  have z1 := s1.one
  try simp (disch := (first | omega | assumption | (simp only [List.length_cons, List.length_nil, List.length_append]; first | done | omega) | (simp (disch := assumption) only [go_sem, one_as, Nat.reduceBEq]; done) | fail)) only [q0, len_s1, z1, i0, i4, i5, hrl, go_sem, Hold.p, HoldK.k, HoldL.K, HoldL.body, Nat.reduceBEq, Nat.reduceAdd, reduceIte]
  refine loop_at (fun n e g => ∃ (k : Nat), n = l'.length - k ∧ k ≤ l'.length ∧ e 4 = .ptr p4 0 0 ∧ e 5 = .ptr p5 0 0 ∧ e 78 = vl ∧ e 79 = .int .i64 (l'.length : Nat) ∧ e 80 = .int .i64 (k : Nat) ∧
    Sp g (box x (xO now' vl) :: sl true 105 1 vl rs :: all2 mkR rs l' :: box p5 (outO { o' with held := l'.length, bytes := (bytesI (l'.take k) : Nat) } vo vp ve) :: byt vo o'.pk.opts :: byt vp o'.pk.pay :: endP ve o'.ended :: old h0 :: box p4 oZ :: L)) l'.length ?_ ?_
  · refine ⟨0, by omega, by omega, ?_⟩
    try simp (disch := (first | omega | assumption | (simp only [List.length_cons, List.length_nil, List.length_append]; first | done | omega) | (simp (disch := assumption) only [go_sem, one_as, Nat.reduceBEq]; done) | fail)) only [i4, i5, go_sem, Hold.p, HoldK.k, HoldL.K, HoldL.body, Nat.reduceBEq, Nat.reduceAdd, reduceIte]
    refine ⟨rfl, ?_⟩
    rw [hob] at S
    exact S
  · clear S i0 i4 i5
    rintro n e g ⟨k, rfl, hk, i4, i5, i78, i79, i80, S⟩
    try simp (disch := (first | omega | assumption | (simp only [List.length_cons, List.length_nil, List.length_append]; first | done | omega) | (simp (disch := assumption) only [go_sem, one_as, Nat.reduceBEq]; done) | fail)) only [i4, i5, i78, i79, i80, go_sem, Hold.p, HoldK.k, HoldL.K, HoldL.body, Nat.reduceBEq, Nat.reduceAdd, reduceIte]
    refine test_dec (fun hb => ?_) (fun hb => ?_)
    · obtain ⟨m, hm⟩ : ∃ m, l'[k]? = some m := ⟨_, List.getElem?_eq_getElem (by omega : k < l'.length)⟩
      have hokm := hok m (List.mem_of_getElem? hm)
      have hmn := hokm.s.n
      have w1 : wr .i64 ((k : Int) + 1) = ((k + 1 : Nat) : Int) := by rw [wr64 _ (by omega)]; rfl
      have S := by simpa only [List.map_cons, List.map_nil, List.getD_cons_zero, List.getD_cons_succ, List.drop_succ_cons, List.drop_zero, List.cons_append, List.nil_append] using Sp.sel S 9 [2, 0, 1, 3, 4, 5, 6, 7, 8] (by simp only [List.length_cons]; omega) (by decide) (by decide)
      obtain ⟨a0, r, bs, xs1, ys, hrs, hl1, ha0, hx1, S⟩ := S.a2at hm
      obtain ⟨q, vps, vf, prs, hr, S⟩ := mk_open S
      rw [hr] at hrs
      have hrow : rs[k]? = some [.ptr q 0 0] := by rw [hrs, ← ha0]; simp
      have s7 := S.slA 7 rfl
      obtain ⟨a1, a2, hia, hal, har⟩ := s7.at hrow .i64
      have hcl := cellO_row har
      have hpl := a2_len S 2 rfl
      have q0 := (S.bx 0 rfl).eq
      have s1 := S.slA 1 rfl
      have len_s1 := s1.lenF
      have z1 := s1.one
      try simp (disch := (first | omega | assumption | (simp only [List.length_cons, List.length_nil, List.length_append]; first | done | omega) | (simp (disch := assumption) only [go_sem, one_as, Nat.reduceBEq]; done) | fail)) only [q0, len_s1, z1, i4, i5, i78, i79, i80, hia, hcl, hpl, go_sem, Hold.p, HoldK.k, HoldL.K, HoldL.body, Nat.reduceBEq, Nat.reduceAdd, reduceIte]
      refine loop_at (fun n e g => ∃ (j : Nat), n = m.ps.length - j ∧ j ≤ m.ps.length ∧ e 4 = .ptr p4 0 0 ∧ e 5 = .ptr p5 0 0 ∧ e 78 = vl ∧ e 79 = .int .i64 (l'.length : Nat) ∧ e 80 = .int .i64 (k : Nat) ∧ e 87 = vps ∧ e 88 = .int .i64 (m.ps.length : Nat) ∧ e 89 = .int .i64 (j : Nat) ∧
        Sp g (box q (mkO m vps m.en vf m.ref) :: sl false 116 2 vps prs :: all2 pcR prs m.ps :: firstP vf m.first :: all2 mkR a0 xs1 :: all2 mkR bs ys :: box x (xO now' vl) :: sl true 105 1 vl rs :: box p5 (outO { o' with held := l'.length, bytes := (bytesI (l'.take k) + totP (m.ps.take j) : Nat) } vo vp ve) :: byt vo o'.pk.opts :: byt vp o'.pk.pay :: endP ve o'.ended :: old h0 :: box p4 oZ :: L)) m.ps.length ?_ ?_
      · refine ⟨0, by omega, by omega, ?_⟩
        try simp (disch := (first | omega | assumption | (simp only [List.length_cons, List.length_nil, List.length_append]; first | done | omega) | (simp (disch := assumption) only [go_sem, one_as, Nat.reduceBEq]; done) | fail)) only [i4, i5, i78, i79, i80, go_sem, Hold.p, HoldK.k, HoldL.K, HoldL.body, Nat.reduceBEq, Nat.reduceAdd, reduceIte]
        exact ⟨rfl, S⟩
      · clear S i4 i5 i78 i79 i80 s7 hal hia har hcl s1 len_s1 z1
        rintro n e g ⟨j, rfl, hj, i4, i5, i78, i79, i80, i87, i88, i89, S⟩
        try simp (disch := (first | omega | assumption | (simp only [List.length_cons, List.length_nil, List.length_append]; first | done | omega) | (simp (disch := assumption) only [go_sem, one_as, Nat.reduceBEq]; done) | fail)) only [i4, i5, i78, i79, i80, i87, i88, i89, go_sem, Hold.p, HoldK.k, HoldL.K, HoldL.body, Nat.reduceBEq, Nat.reduceAdd, reduceIte]
        refine test_dec (fun hb2 => ?_) (fun hb2 => ?_)
        · obtain ⟨x', hx'⟩ : ∃ q, m.ps[j]? = some q := ⟨_, List.getElem?_eq_getElem (by omega : j < m.ps.length)⟩
          have hqs := hokm.s.q x' (List.mem_of_getElem? hx')
          obtain ⟨vd, hrw, hvd⟩ := pcs_at S 2 rfl hx'
          have s1 := S.slA 1 rfl
          obtain ⟨a1, a2, hia, hal, har⟩ := s1.at hrw .i64
          have d1 := hvd.one
          have d2 := hvd.lenF
          rw [strRows_len] at d2
          have w3 : wr .i64 ((j : Int) + 1) = ((j + 1 : Nat) : Int) := by rw [wr64 _ (by omega)]; rfl
          have hnx := totP_next hx'
          have t1 := htm m (List.mem_of_getElem? hm) j
          have t2 := hbl k
          have w2 : wr .i64 (((bytesI (l'.take k) + totP (m.ps.take j) : Nat) : Int) + (x'.2.length : Int)) = ((bytesI (l'.take k) + totP (m.ps.take (j + 1)) : Nat) : Int) := by rw [wr64 _ (by omega), hnx]; omega
          try simp (disch := (first | omega | assumption | (simp only [List.length_cons, List.length_nil, List.length_append]; first | done | omega) | (simp (disch := assumption) only [go_sem, one_as, Nat.reduceBEq]; done) | fail)) only [i4, i5, i78, i79, i80, i87, i88, i89, hia, har, d1, go_sem, Hold.p, HoldK.k, HoldL.K, HoldL.body, Nat.reduceBEq, Nat.reduceAdd, reduceIte]
          refine Sp.zero S fun p11 g11 S E_g11 l_g11 => ?_
          have q0 := (S.bx 0 rfl).eq
          try simp (disch := (first | omega | assumption | (simp only [List.length_cons, List.length_nil, List.length_append]; first | done | omega) | (simp (disch := assumption) only [go_sem, one_as, Nat.reduceBEq]; done) | fail)) only [q0, d1, go_sem, Hold.p, HoldK.k, HoldL.K, HoldL.body, Nat.reduceBEq, Nat.reduceAdd, reduceIte]
          refine stw_of rfl rfl (by first | rfl | simp (disch := assumption) only [go_sem, cells_one, one_as]) fun g12 hg => ?_
          have l_g12 := n_set hg
          have S := S.set0 hg
          clear hg
          have q0 := (S.bx 0 rfl).eq
          have q9 := (S.bx 9 rfl).eq
          try simp (disch := (first | omega | assumption | (simp only [List.length_cons, List.length_nil, List.length_append]; first | done | omega) | (simp (disch := assumption) only [go_sem, one_as, Nat.reduceBEq]; done) | fail)) only [q0, q9, i4, i5, i78, i79, i80, i87, i88, i89, d2, w2, go_sem, Hold.p, HoldK.k, HoldL.K, HoldL.body, Nat.reduceBEq, Nat.reduceAdd, reduceIte]
          refine st1_of (Nat.le_of_ble_eq_true rfl) (by first | rfl | assumption) fun g13 hg => ?_
          have l_g13 := n_set hg
          have S := S.set9 hg
          clear hg
          simp only [List.set_cons_zero, List.set_cons_succ, List.take_succ_cons, List.take_zero, List.drop_succ_cons, List.drop_zero, List.cons_append, List.nil_append, Nat.reduceAdd] at S
          try simp (disch := (first | omega | assumption | (simp only [List.length_cons, List.length_nil, List.length_append]; first | done | omega) | (simp (disch := assumption) only [go_sem, one_as, Nat.reduceBEq]; done) | fail)) only [i4, i5, i78, i79, i80, i87, i88, i89, w3, go_sem, Hold.p, HoldK.k, HoldL.K, HoldL.body, Nat.reduceBEq, Nat.reduceAdd, reduceIte]
          exact ⟨_, by omega, j + 1, rfl, by omega, rfl, S.drop⟩
        · have : j = m.ps.length := by omega
          subst this
          have hnx := bytesI_next hm
          rw [List.take_length, ← hnx] at S
          have S := i_close S
          rw [← hl1, ← hrs] at S
          try simp (disch := (first | omega | assumption | (simp only [List.length_cons, List.length_nil, List.length_append]; first | done | omega) | (simp (disch := assumption) only [go_sem, one_as, Nat.reduceBEq]; done) | fail)) only [i4, i5, i78, i79, i80, w1, go_sem, Hold.p, HoldK.k, HoldL.K, HoldL.body, Nat.reduceBEq, Nat.reduceAdd, reduceIte]
          exact ⟨_, by omega, k + 1, rfl, by omega, rfl, S⟩
    · have : k = l'.length := by omega
      subst this
      rw [List.take_length] at S
      have q3 := (S.bx 3 rfl).eq
      have q8 := (S.bx 8 rfl).eq
      try simp (disch := (first | omega | assumption | (simp only [List.length_cons, List.length_nil, List.length_append]; first | done | omega) | (simp (disch := assumption) only [go_sem, one_as, Nat.reduceBEq]; done) | fail)) only [q3, q8, i4, i5, go_sem, Hold.p, HoldK.k, HoldL.K, HoldL.body, Nat.reduceBEq, Nat.reduceAdd, reduceIte]
      refine stw_of rfl rfl (by first | rfl | simp (disch := assumption) only [go_sem, cells_one, one_as]) fun g10 hg => ?_
      have l_g10 := n_set hg
      have S := S.set8 hg
      clear hg
      have q8 := (S.bx 8 rfl).eq
      try simp (disch := (first | omega | assumption | (simp only [List.length_cons, List.length_nil, List.length_append]; first | done | omega) | (simp (disch := assumption) only [go_sem, one_as, Nat.reduceBEq]; done) | fail)) only [q8, i4, i5, go_sem, Hold.p, HoldK.k, HoldL.K, HoldL.body, Nat.reduceBEq, Nat.reduceAdd, reduceIte]
      have ht : tellI l' o' = { o' with held := l'.length, bytes := (bytesI l' : Nat) } := by unfold tellI; rw [hob, Int.zero_add]
      rw [ht]
      refine ⟨vl, rs, vo, vp, ve, rfl, ?_⟩
      have S := by simpa only [List.map_cons, List.map_nil, List.getD_cons_zero, List.getD_cons_succ, List.drop_succ_cons, List.drop_zero, List.cons_append, List.nil_append] using Sp.sel S 9 [0, 1, 2, 4, 5, 6, 7] (by simp only [List.length_cons]; omega) (by decide) (by decide)
      exact S
end
end Go.Proofs.Ytjmmmmdpkfpojaa

set_option maxRecDepth 20000
namespace Go.Proofs.Ytjmmmmdpkfpojaa
open Go Go.IW

/-! ### The two sides put together alike -/
structure B1 (m : Mk) (s : Ms) : Prop where
  b : Both m s
  z : s.has = true → s.first.off = 0
  e : m.ref = true → m.en = -1
section
variable {α β : Type} {R : α → β → Prop} {l : List α} {s : List β}
theorem a2_find {f : α → Bool} {g : β → Bool} (h : All2 R l s) (hf : ∀ a b, R a b → f a = g b) : l.findIdx? f = s.findIdx? g := by
  induction h with
  | nil => rfl
  | cons h _ ih =>
    rw [List.findIdx?_cons, List.findIdx?_cons, hf _ _ h, ih]
theorem a2_eraseIdx (h : All2 R l s) (i : Nat) : All2 R (l.eraseIdx i) (s.eraseIdx i) := by
  induction h generalizing i with
  | nil => exact .nil
  | cons h t ih => cases i with
    | zero => exact t
    | succ i => exact .cons h (ih i)
theorem a2_set (h : All2 R l s) (i : Nat) {a : α} {b : β} (hr : R a b) : All2 R (l.set i a) (s.set i b) := by
  induction h generalizing i with
  | nil => exact .nil
  | cons h t ih => cases i with
    | zero => exact .cons hr t
    | succ i => exact .cons h (ih i)
theorem a2_get (h : All2 R l s) {i : Nat} {a : α} (ha : l[i]? = some a) : ∃ b, s[i]? = some b ∧ R a b := by
  induction h generalizing i with
  | nil => simp at ha
  | cons h t ih => cases i with
    | zero => simp at ha; subst ha; exact ⟨_, rfl, h⟩
    | succ i => simpa using ih (by simpa using ha)
end
theorem addI_shape (m : Mk) (p : Pk) : ∃ m2 : Mk, m2.ref = m.ref ∧ (addI m p = (m.refuse, false) ∨ addI m p = addEnd m2 m2.first) := by
  unfold addI
  simp only
  split
  · exact ⟨m, rfl, .inl rfl⟩
  · split
    · exact ⟨m, rfl, .inl rfl⟩
    · rename_i same _ _
      obtain ⟨m1, hm1⟩ : ∃ m1 : Mk, m1 = if p.mf = false then { m with en := p.off + (p.pay.length : Int) } else m := ⟨_, rfl⟩
      have h1 : m1.ref = m.ref := by rw [hm1]; split <;> rfl
      rw [← hm1]
      obtain ⟨m2, hm2⟩ : ∃ m2 : Mk, m2 = if same = true then m1 else { m1 with ps := m1.ps ++ [(p.off, p.pay)], first := if p.off = 0 then some p else m1.first } := ⟨_, rfl⟩
      have h2 : m2.ref = m.ref := by rw [hm2]; split <;> exact h1
      rw [← hm2]
      refine ⟨m2, h2, .inr ?_⟩
      unfold addEnd
      cases m2.first <;> rfl
theorem addI_ref {m : Mk} {p : Pk} (h : m.ref = false) : (addI m p).1.ref = true → (addI m p).1.en = -1 := by
  obtain ⟨m2, h2, h3 | h3⟩ := addI_shape m p
  · rw [h3]; intro _; rfl
  · rw [h3]
    cases m2.first with
    | none =>
      intro h4
      have h4' : m2.ref = true := h4
      rw [h2, h] at h4'; cases h4'
    | some f =>
      simp only [addEnd]
      split
      · intro h4
        have h4' : m2.ref = true := h4
        rw [h2, h] at h4'; cases h4'
      · split
        · intro _; rfl
        · intro h4
          have h4' : m2.ref = true := h4
          rw [h2, h] at h4'; cases h4'
theorem addS_shape2 (m : Ms) (p : Pk) : ∃ (ref : Bool) (e2 : Int) (ps : Pcs), addS m p = if ref = true then { m with ps := [], en := e2, ref := true, has := false, first := if p.off = 0 ∧ m.has = false then p else m.first } else { m with ps := ps, en := e2, ref := false, has := decide (p.off = 0) || m.has, first := if p.off = 0 ∧ m.has = false then p else m.first } := ⟨_, _, _, rfl⟩
theorem addS_zero {s : Ms} {p : Pk} (h : s.has = true → s.first.off = 0) : (addS s p).has = true → (addS s p).first.off = 0 := by
  obtain ⟨ref, e2, ps, e⟩ := addS_shape2 s p
  rw [e]
  cases ref with
  | true => intro h1; cases h1
  | false =>
    intro h1
    have h1' : (decide (p.off = 0) || s.has) = true := h1
    show (if p.off = 0 ∧ s.has = false then p else s.first).off = 0
    by_cases h2 : p.off = 0 ∧ s.has = false
    · rw [if_pos h2]; exact h2.1
    · rw [if_neg h2]
      by_cases h3 : s.has = true
      · exact h h3
      · exfalso
        have h4 : s.has = false := by simpa using h3
        rw [h4, Bool.or_false] at h1'
        exact h2 ⟨by simpa using h1', h4⟩
theorem b1_add {m : Mk} {s : Ms} {p : Pk} (hb : B1 m s) (hr : m.ref = false) (ho : 0 ≤ p.off) (hp : p.pay ≠ []) : B1 (addI m p).1 (addS s p) ∧ (addI m p).2 = wholeS (addS s p) ∧ ((addI m p).2 = true → wholeI (addI m p).1 = wholePk (addS s p)) := by
  obtain ⟨h1, h2, h3⟩ := add_both hb.b hr ho hp
  refine ⟨⟨h1, addS_zero hb.z, addI_ref hr⟩, h2, fun hw => ?_⟩
  obtain ⟨h4, h5⟩ := h3 hw
  obtain ⟨e1, e2, e3, _⟩ := h1.on h4
  have hhas : (addS s p).has = true := by
    cases hh : (addS s p).has with
    | true => rfl
    | false => rw [hh, h5] at e3; simp at e3
  have hz := addS_zero hb.z hhas
  unfold wholeI wholePk
  rw [h5, e1, e2]
  simp only [Option.getD_some]
  rw [← hz]
theorem b1_new (p : Pk) (now : Int) : B1 (mkNew p now) (msNew p now) :=
  ⟨⟨rfl, rfl, rfl, rfl, rfl, rfl, fun h => by simp [mkNew] at h, fun _ => ⟨rfl, rfl, rfl, ⟨by simp [msNew], by simp [msNew], by simp [msNew], by simp [msNew], by simp [msNew], .inl rfl⟩⟩⟩, fun h => by simp [msNew] at h, fun h => by simp [mkNew] at h⟩
theorem b1_told {m : Mk} {s : Ms} (hb : B1 m s) (o : Ot) : goneOI o m = goneO o s true := by
  have h1 := hb.b
  have h2 := hb.b.ref
  unfold goneOI goneO
  cases hr : m.ref with
  | true => rw [← h2, hr]; simp
  | false =>
    rw [← h2, hr]
    have h3 := (h1.on hr).2.2.1
    have h4 : toldI m = toldS s := by
      unfold toldI toldS
      rw [h1.src, h1.dst, h1.proto, h1.id, h3]
      cases s.has <;> rfl
    simp [h4]
theorem b1_key {m : Mk} {s : Ms} (p : Pk) (hb : B1 m s) : keyI p m = keyS p s := by
  unfold keyI keyS
  rw [hb.b.src, hb.b.dst, hb.b.proto, hb.b.id]
theorem b1_ok {N : Nat} {m : Mk} {s : Ms} (hb : B1 m s) (hs : OkM N s) : OkI N m := by
  cases hr : m.ref with
  | true =>
    obtain ⟨h1, h2, _⟩ := hb.b.off hr
    exact ⟨⟨by rw [h1]; simp, by rw [h1]; simp, by rw [hb.e hr]; omega⟩, fun f hf => by rw [h2] at hf; cases hf⟩
  | false =>
    obtain ⟨h1, h2, h3, _⟩ := hb.b.on hr
    refine ⟨⟨by rw [h1]; exact hs.s.n, by rw [h1]; exact hs.s.q, by rw [h2]; exact hs.s.e⟩, fun f hf => ?_⟩
    rw [h3] at hf
    split at hf
    · cases hf; exact hs.o
    · cases hf
theorem b1_tot {m : Mk} {s : Ms} (hb : B1 m s) : m.ps = s.ps := by
  cases hr : m.ref with
  | true => obtain ⟨h1, _, h2, _⟩ := hb.b.off hr; rw [h1, h2]
  | false => exact (hb.b.on hr).1
theorem tell_both {l : List Mk} {s : List Ms} (h : All2 B1 l s) (o : Ot) : tellI l o = tellS s o := by
  have h1 : bytesI l = bytesS s := by
    induction h with
    | nil => rfl
    | cons h _ ih => unfold bytesI bytesS at *; simp only [List.map_cons, List.sum_cons, ih, b1_tot h]
  unfold tellI tellS
  rw [h1, h.len]
theorem open_both {l : List Mk} {s : List Ms} (h : All2 B1 l s) (now : Int) (o : Ot) (p : Pk) : All2 B1 (openI now l o p).1 (openS now s o p).1 ∧ (openI now l o p).2 = (openS now s o p).2 := by
  unfold openI openS
  rw [a2_find h fun a b => b1_key p]
  cases s.findIdx? (keyS p) with
  | some k => exact ⟨h, rfl⟩
  | none =>
    simp only [h.len]
    split
    · rename_i h16
      refine ⟨(a2_eraseIdx h 0).app (.cons (b1_new p now) .nil), ?_⟩
      cases h with
      | nil => simp at h16
      | cons h _ => simp only [List.headD_cons, b1_told h]
    · exact ⟨h.app (.cons (b1_new p now) .nil), rfl⟩
theorem take_both {l : List Mk} {s : List Ms} {N : Nat} {now : Int} (h : All2 B1 l s) (hL : LOk N now s) (hn : 0 ≤ now) (o : Ot) (p : Pk) (ho : 0 ≤ p.off) : All2 B1 (takeI now l o p).1 (takeS now s o p).1 ∧ (takeI now l o p).2 = (takeS now s o p).2 := by
  unfold takeI takeS
  split
  · exact ⟨h, rfl⟩
  · split
    · exact ⟨h, rfl⟩
    · rename_i h1 h2
      obtain ⟨a, b⟩ := open_both h now o p
      obtain ⟨_, c, _⟩ := openS_ok (o := o) (p := p) hL hn
      generalize openI now l o p = ri at a b ⊢
      generalize openS now s o p = rs at a b c ⊢
      obtain ⟨l1, o1, i⟩ := ri
      obtain ⟨s1, o2, j⟩ := rs
      simp only [Prod.mk.injEq] at a b c
      obtain ⟨rfl, rfl⟩ := b
      obtain ⟨t, ht⟩ : ∃ t, s1[i]? = some t := ⟨_, List.getElem?_eq_getElem c⟩
      obtain ⟨m, hm, hmt⟩ := a.at ht
      unfold stepI stepS
      simp only [List.getD_eq_getElem?_getD, hm, ht, Option.getD_some]
      rw [hmt.b.ref]
      cases hr : t.ref with
      | true => simp only [if_true]; exact ⟨a, trivial⟩
      | false =>
        simp only [Bool.false_eq_true, if_false]
        have hmr : m.ref = false := hmt.b.ref.trans hr
        obtain ⟨k1, k2, k3⟩ := b1_add hmt hmr ho (fun e => h2 (.inl e))
        rw [k2]
        cases hw : wholeS (addS t p) with
        | true =>
          simp only [if_true]
          exact ⟨a2_eraseIdx a i, by rw [k3 (k2.trans hw)]⟩
        | false =>
          simp only [Bool.false_eq_true, if_false]
          exact ⟨a2_set a i k1, trivial⟩
theorem pass_both {t : Int} : ∀ {l : List Mk} {s : List Ms}, All2 B1 l s → s.Pairwise (fun a b => a.born ≤ b.born) → ∀ o, All2 B1 (l.filter fun m => !goneI t m) (passS t s o).1 ∧ (passS t s o).2 = { o with ended := o.ended ++ endsI (l.filter (goneI t)) }
  | _, _, .nil, _, o => ⟨.nil, by simp [passS, endsI]⟩
  | m :: l, x :: s, .cons h hs, hp, o => by
    rw [List.pairwise_cons] at hp
    have hg : goneI t m = decide (x.born + 30000 ≤ t) := by unfold goneI; rw [h.b.begun]
    by_cases hc : x.born + 30000 ≤ t
    · have hgt : goneI t m = true := by rw [hg]; exact decide_eq_true hc
      obtain ⟨a, b⟩ := pass_both hs hp.2 (goneO o x true)
      rw [passS, if_pos hc]
      refine ⟨by rw [List.filter_cons_of_neg (by simp [hgt])]; exact a, ?_⟩
      rw [b, List.filter_cons_of_pos hgt, ← b1_told h]
      unfold goneOI endsI
      cases hr : m.ref <;> simp [hr]
    · have hgf : goneI t m = false := by rw [hg]; exact decide_eq_false hc
      have hall : ∀ y ∈ l, goneI t y = false := by
        intro y hy
        obtain ⟨i, hi⟩ := List.getElem?_of_mem hy
        obtain ⟨z, hz, hb⟩ := a2_get hs hi
        have := hp.1 z (List.mem_of_getElem? hz)
        unfold goneI
        rw [hb.b.begun]
        exact decide_eq_false (by omega)
      rw [passS, if_neg hc]
      have e1 : (m :: l).filter (fun m => !goneI t m) = m :: l := List.filter_eq_self.2 (by
        intro y hy
        rcases List.mem_cons.1 hy with rfl | hy
        · simp [hgf]
        · simp [hall y hy])
      have e2 : (m :: l).filter (goneI t) = [] := List.filter_eq_nil_iff.2 (by
        intro y hy
        rcases List.mem_cons.1 hy with rfl | hy
        · simp [hgf]
        · simp [hall y hy])
      rw [e1, e2]
      exact ⟨.cons h hs, by simp [endsI]⟩
end Go.Proofs.Ytjmmmmdpkfpojaa

set_option maxRecDepth 20000
namespace Go.Proofs.Ytjmmmmdpkfpojaa
open Go Go.IW
section
attribute [local go_sem] List.getElem?_cons_zero List.getElem?_cons_succ Option.bind_some List.map_cons List.map_nil Nat.zero_add if_true List.getD_cons_zero List.getD_cons_succ List.contains_cons List.contains_nil Bool.or_true Bool.true_or Bool.or_false Bool.false_or Bool.not_true Bool.not_false true_and and_true rowA_whole mid_get rowO_rows cellO_rows upd_ne Nat.add_assoc Nat.add_zero List.all_cons List.all_nil one_bool one_int one_str one_ptr one_nilptr one_slice one_eslice one_nilslice one_func one_iface one_niliface Bool.and_true Bool.and_self List.length_cons List.length_nil Nat.one_ne_zero Nat.succ_ne_zero if_false List.set_cons_zero List.set_cons_succ lay_nil lay_1 lay_w Option.map_some cells_one rowA_some List.drop_succ_cons List.drop_zero List.take_succ_cons List.take_zero

/-! ### impl.RunReasm -/
abbrev SB (s : List Ms) : Prop := s.Pairwise fun a b => a.born ≤ b.born
theorem sb_snoc {s : List Ms} {m : Ms} (h : SB s) (hm : ∀ x ∈ s, x.born ≤ m.born) : SB (s ++ [m]) := by
  refine List.pairwise_append.2 ⟨h, List.pairwise_singleton _ _, fun a ha b hb => ?_⟩
  rw [List.mem_singleton.1 hb]; exact hm a ha
theorem sb_erase {s : List Ms} (h : SB s) (i : Nat) : SB (s.eraseIdx i) := h.sublist (List.eraseIdx_sublist _ _)
theorem open_sb {N : Nat} {now : Int} {s : List Ms} {o : Ot} {p : Pk} (h : SB s) (hL : LOk N now s) : SB (openS now s o p).1 := by
  unfold openS
  split
  · exact h
  · split
    · exact sb_snoc (sb_erase h 0) fun x hx => (hL.b x (List.mem_of_mem_eraseIdx hx)).2
    · exact sb_snoc h fun x hx => (hL.b x hx).2
theorem set_sb {s : List Ms} {i : Nat} {m m' : Ms} (h : SB s) (hm : s[i]? = some m) (hb : m'.born = m.born) : SB (s.set i m') := by
  have e : (s.set i m').map Ms.born = s.map Ms.born := by
    rw [List.map_set]
    refine List.ext_getElem? fun j => ?_
    rw [List.getElem?_set]
    split
    · rename_i hij
      subst hij
      split
      · rw [List.getElem?_map, hm, hb]; rfl
      · rw [List.getElem?_eq_none (by omega)]
    · rfl
  have h1 : (s.map Ms.born).Pairwise (· ≤ ·) := List.pairwise_map.2 h
  rw [← e] at h1
  exact List.pairwise_map.1 h1
theorem take_sb {N : Nat} {now : Int} {s : List Ms} {o : Ot} {p : Pk} (h : SB s) (hL : LOk N now s) (hn : 0 ≤ now) : SB (takeS now s o p).1 := by
  unfold takeS
  split
  · exact h
  · split
    · exact h
    · have h1 := open_sb (o := o) (p := p) h hL
      obtain ⟨_, h2, _⟩ := openS_ok (o := o) (p := p) hL hn
      generalize openS now s o p = r at h1 h2 ⊢
      obtain ⟨s1, o1, i⟩ := r
      simp only at h1 h2 ⊢
      obtain ⟨t, ht⟩ : ∃ t, s1[i]? = some t := ⟨_, List.getElem?_eq_getElem h2⟩
      unfold stepS
      simp only [List.getD_eq_getElem?_getD, ht, Option.getD_some]
      split
      · exact h1
      · split
        · exact sb_erase h1 i
        · exact set_sb h1 ht (addS_born t p)
theorem pass_sb {t : Int} : ∀ {s : List Ms} {o : Ot}, SB s → SB (passS t s o).1
  | [], _, h => h
  | m :: s, o, h => by
    unfold passS
    split
    · exact pass_sb (List.pairwise_cons.1 h).2
    · exact h
theorem op_both {l : List Mk} {s : List Ms} {N : Nat} {now : Int} {op : Op} (h : All2 B1 l s) (hL : LOk N now s) (hS : SB s) (hn : 0 ≤ now ∧ now ≤ 1000000000) :
    (doI now l op).1 = (opS now s op).1 ∧ All2 B1 (doI now l op).2.1 (opS now s op).2.1 ∧ (doI now l op).2.2 = (opS now s op).2.2 ∧ LOk (N + 1) (opS now s op).1 (opS now s op).2.1 ∧ SB (opS now s op).2.1 ∧ 0 ≤ (opS now s op).1 ∧ (opS now s op).1 ≤ 1000000000 := by
  unfold doI opS
  by_cases h1 : op.kind = 1 ∧ codeB op.pk = 0
  · rw [if_pos h1, if_pos h1]
    obtain ⟨c1, c2, c3⟩ := codeB_ok h1.2
    obtain ⟨a, b⟩ := take_both h hL hn.1 ot0 op.pk c1.1
    exact ⟨rfl, a, by rw [b]; exact tell_both a _, (takeS_ok hL hn.1 h1.2).1, take_sb hS hL hn.1, hn.1, hn.2⟩
  · rw [if_neg h1, if_neg h1]
    by_cases h2 : op.kind = 2 ∧ 0 ≤ op.wait ∧ op.wait ≤ 1000000000 - now
    · rw [if_pos h2, if_pos h2]
      obtain ⟨a, b⟩ := pass_both (t := now + op.wait) h hS ot0
      refine ⟨rfl, a, ?_, (passS_ok (hL.mono (M := N + 1) (now' := now + op.wait) (by omega) (by omega))).1, pass_sb hS, by simp only; omega, by simp only; omega⟩
      simp only
      rw [b, ← tell_both a]
      rfl
    · rw [if_neg h2, if_neg h2]
      exact ⟨rfl, h, tell_both h _, hL.mono (by omega) (Int.le_refl _), hS, hn.1, hn.2⟩
set_option maxHeartbeats 2000000 in
theorem implRun_c (h : IH) (v : IV) (ops : List Op) (a : OpsAt h v ops) (hn : ops.length ≤ 1048576) (hsz : ∀ o ∈ ops, o.pk.opts.length + o.pk.pay.length ≤ 1048576) :
    ICalls Try.prog 10 [v] h fun r h' => RunRes h h' r (runS ops) ∧ Ext h h' := by
  refine icalls (.of ok10) (Nat.le_of_ble_eq_true rfl) ?_
  unfold c10
  obtain ⟨⟨rs, hsl, hrl, hrow⟩, hI⟩ := a
  have hlen := hsl.lenF
  rw [hrl] at hlen
  try simp (disch := (first | omega | assumption | (simp only [List.length_cons, List.length_nil, List.length_append]; first | done | omega) | (simp (disch := assumption) only [go_sem, one_as, Nat.reduceBEq]; done) | fail)) only [hlen, go_sem, Hold.p, HoldK.k, HoldL.K, HoldL.body, Nat.reduceBEq, Nat.reduceAdd, reduceIte]
  refine test_dec (fun hb => ?_) (fun hb => ?_)
  · have hr : runS ops = ([], 8) := if_pos (by omega)
    try simp (disch := (first | omega | assumption | (simp only [List.length_cons, List.length_nil, List.length_append]; first | done | omega) | (simp (disch := assumption) only [go_sem, one_as, Nat.reduceBEq]; done) | fail)) only [go_sem, Hold.p, HoldK.k, HoldL.K, HoldL.body, Nat.reduceBEq, Nat.reduceAdd, reduceIte]
    rw [hr]
    exact ⟨⟨_, rfl, (Ow.nil0 h)⟩, Ext.refl _⟩
  have hr : runS ops = (runSt 0 [] ops, 0) := if_neg (by omega)
  rw [hr]
  have S := Sp.start h
  try simp (disch := (first | omega | assumption | (simp only [List.length_cons, List.length_nil, List.length_append]; first | done | omega) | (simp (disch := assumption) only [go_sem, one_as, Nat.reduceBEq]; done) | fail)) only [go_sem, Hold.p, HoldK.k, HoldL.K, HoldL.body, Nat.reduceBEq, Nat.reduceAdd, reduceIte]
  refine Sp.bxA S (by first | rfl | (rw [cells_one (by assumption)]; rfl)) (by first | rfl | simp (disch := assumption) only [go_sem, cells_one, one_as]) fun x g1 S E_g1 l_g1 => ?_
  try simp (disch := (first | omega | assumption | (simp only [List.length_cons, List.length_nil, List.length_append]; first | done | omega) | (simp (disch := assumption) only [go_sem, one_as, Nat.reduceBEq]; done) | fail)) only [hlen, go_sem, Hold.p, HoldK.k, HoldL.K, HoldL.body, Nat.reduceBEq, Nat.reduceAdd, reduceIte]
  refine loop_at (fun n e g => ∃ (k : Nat) (now : Int) (l : List Mk) (s : List Ms) (vx vl : IV) (outs : List Ot) (rl : List (List IV)), n = ops.length - k ∧ k ≤ ops.length ∧ e 4 = .ptr x 0 0 ∧ e 5 = vx ∧ e 13 = v ∧ e 14 = .int .i64 (ops.length : Nat) ∧ e 15 = .int .i64 (k : Nat) ∧ outs.length = k ∧
    runSt 0 [] ops = outs ++ runSt now s (ops.drop k) ∧ All2 B1 l s ∧ LOk k now s ∧ SB s ∧ 0 ≤ now ∧ now ≤ 1000000000 ∧
    Sp g (box x (xO now vl) :: sl true 105 1 vl rl :: all2 mkR rl l :: dat (.slice 52 t_ReasmOut) [vx] (.list (outs.map outD)) :: [old h])) ops.length ?_ ?_
  · refine ⟨0, 0, [], [], .nilslice, .nilslice, [], [], by omega, by omega, ?_⟩
    try simp (disch := (first | omega | assumption | (simp only [List.length_cons, List.length_nil, List.length_append]; first | done | omega) | (simp (disch := assumption) only [go_sem, one_as, Nat.reduceBEq]; done) | fail)) only [go_sem, Hold.p, HoldK.k, HoldL.K, HoldL.body, Nat.reduceBEq, Nat.reduceAdd, reduceIte]
    refine ⟨rfl, rfl, .nil, ⟨by simp, by simp, by simp⟩, List.Pairwise.nil, by omega, by omega, ?_⟩
    have S := ((S.a2nil (R := mkR)).slNil (x := true) (el := 105) (sz := 1))
    have S := S.new (Ext.refl _) (f := []) (A := dat (.slice 52 t_ReasmOut) [.nilslice] (.list [])) ⟨_, [], rfl, rfl, .inl ⟨rfl, rfl, .inl rfl⟩⟩ (by simp) (by simp)
    have S := by simpa only [List.map_cons, List.map_nil, List.getD_cons_zero, List.getD_cons_succ, List.drop_succ_cons, List.drop_zero, List.cons_append, List.nil_append] using Sp.sel S 5 [3, 1, 2, 0, 4] (by simp only [List.length_cons]; omega) (by decide) (by decide)
    exact S
  · clear S
    rintro n e g ⟨k, now, l, s, vx, vl, outs, rl, rfl, hk, i4, i5, i13, i14, i15, hol, hru, hB, hL, hS, hn0, hn1, S⟩
    try simp (disch := (first | omega | assumption | (simp only [List.length_cons, List.length_nil, List.length_append]; first | done | omega) | (simp (disch := assumption) only [go_sem, one_as, Nat.reduceBEq]; done) | fail)) only [i4, i5, i13, i14, i15, go_sem, Hold.p, HoldK.k, HoldL.K, HoldL.body, Nat.reduceBEq, Nat.reduceAdd, reduceIte]
    refine test_dec (fun hb2 => ?_) (fun hb2 => ?_)
    · obtain ⟨op, hop⟩ : ∃ q, ops[k]? = some q := ⟨_, List.getElem?_eq_getElem (by omega : k < ops.length)⟩
      obtain ⟨po, pp, hrk, ha⟩ := hrow k op hop
      obtain ⟨hIw, hIp⟩ := hI op (List.mem_of_getElem? hop)
      have hszo := hsz op (List.mem_of_getElem? hop)
      have y1 := ha.o.one
      have y2 := ha.p.one
      have w1 : wr .i64 ((k : Int) + 1) = ((k + 1 : Nat) : Int) := by rw [wr64 _ (by omega)]; rfl
      rw [drop_at hop, runSt] at hru
      have hsg := hsl.ext (S.ol 4 rfl)
      obtain ⟨a1, a2, hia, hal, har⟩ := hsg.at hrk .i64
      unfold opRow pkRow at har
      try simp (disch := (first | omega | assumption | (simp only [List.length_cons, List.length_nil, List.length_append]; first | done | omega) | (simp (disch := assumption) only [go_sem, one_as, Nat.reduceBEq]; done) | fail)) only [i4, i5, i13, i14, i15, hia, har, go_sem, Hold.p, HoldK.k, HoldL.K, HoldL.body, Nat.reduceBEq, Nat.reduceAdd, reduceIte]
      refine Sp.zero S fun p7 g7 S E_g7 l_g7 => ?_
      have q0 := (S.bx 0 rfl).eq
      try simp (disch := (first | omega | assumption | (simp only [List.length_cons, List.length_nil, List.length_append]; first | done | omega) | (simp (disch := assumption) only [go_sem, one_as, Nat.reduceBEq]; done) | fail)) only [q0, go_sem, Hold.p, HoldK.k, HoldL.K, HoldL.body, Nat.reduceBEq, Nat.reduceAdd, reduceIte]
      refine stw_of rfl rfl (by first | rfl | simp (disch := assumption) only [go_sem, cells_one, one_as]) fun g8 hg => ?_
      have l_g8 := n_set hg
      have S := S.set0 hg
      clear hg
      have q0 := (S.bx 0 rfl).eq
      try simp (disch := (first | omega | assumption | (simp only [List.length_cons, List.length_nil, List.length_append]; first | done | omega) | (simp (disch := assumption) only [go_sem, one_as, Nat.reduceBEq]; done) | fail)) only [q0, i4, i5, i13, i14, i15, go_sem, Hold.p, HoldK.k, HoldL.K, HoldL.body, Nat.reduceBEq, Nat.reduceAdd, reduceIte]
      obtain ⟨d1, d2, d3, d4, d5, d6, d7⟩ := op_both (op := op) hB hL hS ⟨hn0, hn1⟩
      have hle : l.length ≤ 16 := by rw [hB.len]; exact hL.n
      have hokl : ∀ {N : Nat} {l : List Mk} {s : List Ms}, All2 B1 l s → (∀ m ∈ s, OkM N m) → ∀ m ∈ l, OkI N m := by
        intro N l s hB hs m hm
        obtain ⟨i, hi⟩ := List.getElem?_of_mem hm
        obtain ⟨t, ht, hb⟩ := a2_get hB hi
        exact b1_ok hb (hs t (List.mem_of_getElem? ht))
      have S := by simpa only [List.map_cons, List.map_nil, List.getD_cons_zero, List.getD_cons_succ, List.drop_succ_cons, List.drop_zero, List.cons_append, List.nil_append] using Sp.sel S 6 [1, 2, 3, 5, 4, 0] (by simp only [List.length_cons]; omega) (by decide) (by decide)
      refine callA_of (do_c S ha (N := k) (by omega) hle (hokl hB hL.m) (fun m hm => ?_) ⟨hn0, hn1⟩ hszo hIp ⟨?_, hokl d2 d4.m⟩ ?_) ?_
      · obtain ⟨i, hi⟩ := List.getElem?_of_mem hm
        obtain ⟨t, ht, hb⟩ := a2_get hB hi
        have := hL.b t (List.mem_of_getElem? ht)
        rw [hb.b.begun]
        omega
      · rw [d2.len]; exact d4.n
      · intro hcd hpay m hm hmr hw q hq
        obtain ⟨oa, ob⟩ := open_both hB now ot0 op.pk
        obtain ⟨i, hi⟩ := List.getElem?_of_mem hm
        obtain ⟨t, ht, hb⟩ := a2_get oa hi
        obtain ⟨c1, c2, c3⟩ := codeB_ok hcd
        obtain ⟨e1, e2, e3⟩ := add_both hb.b hmr c1.1 hpay
        obtain ⟨e4, _⟩ := e3 hw
        obtain ⟨e5, e6, _⟩ := e1.on e4
        rw [e5] at hq
        rw [e6]
        exact addS_in (e2 ▸ hw) q hq
      clear S
      rintro r9 g9 ⟨vl', rl', vo, vp, ve, rfl, S⟩
      have z1 := (S.slA 3 rfl).one
      have z2 := (S.slA 4 rfl).one
      have z3 := (S.slA 5 rfl).one
      try simp (disch := (first | omega | assumption | (simp only [List.length_cons, List.length_nil, List.length_append]; first | done | omega) | (simp (disch := assumption) only [go_sem, one_as, Nat.reduceBEq]; done) | fail)) only [i4, i5, i13, i14, i15, go_sem, Hold.p, HoldK.k, HoldL.K, HoldL.body, Nat.reduceBEq, Nat.reduceAdd, reduceIte]
      refine Sp.bsl1 S (by first | rfl | (rw [cells_one (by assumption)]; rfl)) (by first | rfl | simp (disch := assumption) only [go_sem, cells_one, one_as]) fun p10 g10 S E_g10 l_g10 => ?_
      try simp only [cells_agg, cells_int, cells_bool, cells_ptr, cells_str] at S
      have q0 := (S.bx 0 rfl).eq
      try simp (disch := (first | omega | assumption | (simp only [List.length_cons, List.length_nil, List.length_append]; first | done | omega) | (simp (disch := assumption) only [go_sem, one_as, Nat.reduceBEq]; done) | fail)) only [q0, i4, i5, i13, i14, i15, go_sem, Hold.p, HoldK.k, HoldL.K, HoldL.body, Nat.reduceBEq, Nat.reduceAdd, reduceIte]
      have S := by simpa only [List.map_cons, List.map_nil, List.getD_cons_zero, List.getD_cons_succ, List.drop_succ_cons, List.drop_zero, List.cons_append, List.nil_append] using Sp.sel S 10 [4, 5, 6, 8, 1, 2, 3, 7] (by simp only [List.length_cons]; omega) (by decide) (by decide)
      have S := out_dat S
      have S := S.p1
      refine Sp.dapp S (by rw [List.length_map]; omega) ?_
      clear S
      intro v14 g14 S z14 c14
      try simp (disch := (first | omega | assumption | (simp only [List.length_cons, List.length_nil, List.length_append]; first | done | omega) | (simp (disch := assumption) only [go_sem, one_as, Nat.reduceBEq]; done) | fail)) only [i4, i5, i13, i14, i15, w1, go_sem, Hold.p, HoldK.k, HoldL.K, HoldL.body, Nat.reduceBEq, Nat.reduceAdd, reduceIte]
      have S := by simpa only [List.map_cons, List.map_nil, List.getD_cons_zero, List.getD_cons_succ, List.drop_succ_cons, List.drop_zero, List.cons_append, List.nil_append] using Sp.sel S 5 [1, 2, 3, 0, 4] (by simp only [List.length_cons]; omega) (by decide) (by decide)
      rw [d1, d3] at S
      refine ⟨_, by omega, k + 1, (opS now s op).1, (doI now l op).2.1, (opS now s op).2.1, v14, vl', outs ++ [(opS now s op).2.2], rl', rfl, by omega, rfl, rfl, by simp [hol], ?_, d2, d4, d5, d6, d7, ?_⟩
      · rw [hru]; simp
      · rw [List.map_append]; exact S
    · have hd : ops.drop k = [] := List.drop_eq_nil_of_le (by omega)
      rw [hd, runSt, List.append_nil] at hru
      rw [hru]
      try simp (disch := (first | omega | assumption | (simp only [List.length_cons, List.length_nil, List.length_append]; first | done | omega) | (simp (disch := assumption) only [go_sem, one_as, Nat.reduceBEq]; done) | fail)) only [i4, i5, i13, i14, i15, go_sem, Hold.p, HoldK.k, HoldL.K, HoldL.body, Nat.reduceBEq, Nat.reduceAdd, reduceIte]
      have S := by simpa only [List.map_cons, List.map_nil, List.getD_cons_zero, List.getD_cons_succ, List.drop_succ_cons, List.drop_zero, List.cons_append, List.nil_append] using Sp.sel S 5 [3, 4] (by simp only [List.length_cons]; omega) (by decide) (by decide)
      exact ⟨⟨vx, rfl, S.toOw⟩, S.drop.oldE⟩
end
end Go.Proofs.Ytjmmmmdpkfpojaa

namespace Go.Proofs.Ytjmmmmdpkfpojaa
open Go Go.IW

/-! ### What is cut comes together again: plain -/
/-- The pieces of a packet from a place on. -/
inductive Lay (P : Pk) : Nat → List Pk → Prop
  | last (a : Nat) (h0 : a < P.pay.length) : Lay P a [{ P with off := (a : Int), mf := false, pay := P.pay.drop a }]
  | more (a b : Nat) (h0 : a < b) (h1 : b < P.pay.length) (h8 : (b - a) % 8 = 0) {r : List Pk} (hr : Lay P b r) : Lay P a ({ P with off := (a : Int), mf := true, pay := (P.pay.take b).drop a } :: r)
/-- One piece of a packet. -/
structure Frag (P : Pk) (a b : Nat) (f : Pk) : Prop where
  e : f = { P with off := (a : Int), mf := decide (b < P.pay.length), pay := (P.pay.take b).drop a }
  ab : a < b
  hb : b ≤ P.pay.length
  m : b < P.pay.length → (b - a) % 8 = 0
theorem Frag.len {P f : Pk} {a b : Nat} (h : Frag P a b f) : f.pay.length = b - a := by
  rw [h.e]; simp only [List.length_drop, List.length_take]; have := h.hb; omega
theorem Lay.lt {P : Pk} {a : Nat} {F : List Pk} (h : Lay P a F) : a < P.pay.length := by
  cases h with
  | last _ h0 => exact h0
  | more _ b h0 h1 h8 hr => exact Nat.lt_trans h0 h1
theorem Lay.frag {P : Pk} {a : Nat} {F : List Pk} (h : Lay P a F) : ∀ f ∈ F, ∃ c d, a ≤ c ∧ Frag P c d f := by
  induction h with
  | last a h0 =>
    intro f hf
    obtain rfl := List.mem_singleton.1 hf
    exact ⟨a, P.pay.length, Nat.le_refl _, ⟨by simp, h0, Nat.le_refl _, fun h => absurd h (Nat.lt_irrefl _)⟩⟩
  | more a b h0 h1 h8 hr ih =>
    intro f hf
    rcases List.mem_cons.1 hf with rfl | hf
    · exact ⟨a, b, Nat.le_refl _, ⟨by simp [h1], h0, by omega, fun _ => h8⟩⟩
    · obtain ⟨c, d, hc, hF⟩ := ih f hf
      exact ⟨c, d, by omega, hF⟩
/-- No two of them overlap. -/
theorem Lay.apart {P : Pk} {a : Nat} {F : List Pk} (h : Lay P a F) : F.Pairwise fun f g => f.off + (f.pay.length : Int) ≤ g.off := by
  induction h with
  | last a h0 => simp
  | more a b h0 h1 h8 hr ih =>
    refine List.pairwise_cons.2 ⟨fun g hg => ?_, ih⟩
    obtain ⟨c, d, hc, hF⟩ := hr.frag g hg
    rw [hF.e]
    simp only [List.length_drop, List.length_take]
    omega
theorem Lay.tot {P : Pk} {a : Nat} {F : List Pk} (h : Lay P a F) : (F.map fun f => f.pay.length).sum = P.pay.length - a := by
  induction h with
  | last a h0 => simp
  | more a b h0 h1 h8 hr ih =>
    simp only [List.map_cons, List.sum_cons, ih, List.length_drop, List.length_take]
    omega
/-- Each byte is in one of them. -/
theorem Lay.cover {P : Pk} {a : Nat} {F : List Pk} (h : Lay P a F) : ∀ j, a ≤ j → j < P.pay.length → ∃ f ∈ F, f.off ≤ (j : Int) ∧ (j : Int) < f.off + (f.pay.length : Int) := by
  induction h with
  | last a h0 =>
    intro j h1 h2
    refine ⟨_, List.mem_singleton.2 rfl, ?_⟩
    simp only [List.length_drop]
    omega
  | more a b h0 h1 h8 hr ih =>
    intro j h2 h3
    by_cases hj : j < b
    · refine ⟨_, List.mem_cons_self, ?_⟩
      simp only [List.length_drop, List.length_take]
      omega
    · obtain ⟨f, hf, h4⟩ := ih j (by omega) h3
      exact ⟨f, List.mem_cons_of_mem _ hf, h4⟩
theorem Cut.lay {P : Pk} {R : Nat} (h0 : P.off = 0) (hm : P.mf = false) (hR : 8 ≤ R) {a : Nat} {F : List Pk} (h : Cut P R a F) : Lay P a F := by
  induction h with
  | last a h1 h2 =>
    have := Lay.last (P := P) a h1
    rwa [show ({ P with off := (a : Int), mf := false, pay := P.pay.drop a } : Pk) = { P with off := P.off + (a : Int), pay := P.pay.drop a } by rw [h0, ← hm]; simp] at this
  | more a h1 hr ih =>
    have := Lay.more (P := P) a (a + R / 8 * 8) (by omega) h1 (by omega) ih
    rwa [show ({ P with off := (a : Int), mf := true, pay := (P.pay.take (a + R / 8 * 8)).drop a } : Pk) = { P with off := P.off + (a : Int), mf := true, pay := (P.pay.take (a + R / 8 * 8)).drop a } by rw [h0]; simp] at this
end Go.Proofs.Ytjmmmmdpkfpojaa

namespace Go.Proofs.Ytjmmmmdpkfpojaa
open Go Go.IW

theorem scan_ok {off en : Int} {pay : List UInt8} : ∀ {ps : Pcs} {same ref : Bool}, (∀ q ∈ ps, (q.1 = off ∧ q.2 = pay) ∨ ¬ (q.1 < en ∧ off < pTo q)) → scanS off en pay ps same ref = (same || ps.any fun q => decide (q.1 = off ∧ q.2 = pay), ref)
  | [], same, ref, _ => by simp [scanS]
  | q :: r, same, ref, h => by
    have hr := fun x hx => h x (List.mem_cons_of_mem _ hx)
    unfold scanS
    by_cases h1 : q.1 = off ∧ q.2 = pay
    · rw [if_pos h1, scan_ok hr, List.any_cons, decide_eq_true h1]
      simp
    · have h2 := (h q List.mem_cons_self).resolve_left h1
      rw [if_neg h1, if_neg h2, scan_ok hr, List.any_cons, decide_eq_false h1, Bool.false_or]
theorem pw_any {α : Type} {R : α → α → Prop} : ∀ {l : List α}, l.Pairwise R → ∀ f ∈ l, ∀ g ∈ l, f = g ∨ R f g ∨ R g f
  | [], _, f, hf, _, _ => nomatch hf
  | a :: l, h, f, hf, g, hg => by
    obtain ⟨h1, h2⟩ := List.pairwise_cons.1 h
    rcases List.mem_cons.1 hf with e1 | hf' <;> rcases List.mem_cons.1 hg with e2 | hg'
    · exact .inl (e1.trans e2.symm)
    · exact .inr (.inl (e1 ▸ h1 g hg'))
    · exact .inr (.inr (e2 ▸ h1 f hf'))
    · exact pw_any h2 f hf' g hg'
def hasQ (Q : List Pk) (p : Pk) : Bool := Q.any fun f => decide (f.off = p.off ∧ f.pay = p.pay)
def addQ (Q : List Pk) (p : Pk) : List Pk := if hasQ Q p = true then Q else Q ++ [p]
/-- A whole packet that is cut into F. -/
structure Fam (P : Pk) (F : List Pk) : Prop where
  off : P.off = 0
  mf : P.mf = false
  c : codeB P = 0
  lay : Lay P 0 F
theorem Fam.pos {P : Pk} {F : List Pk} (h : Fam P F) : 0 < P.pay.length := h.lay.lt
theorem Fam.sep {P : Pk} {F : List Pk} (h : Fam P F) {f g : Pk} (hf : f ∈ F) (hg : g ∈ F) : f = g ∨ f.off + (f.pay.length : Int) ≤ g.off ∨ g.off + (g.pay.length : Int) ≤ f.off := pw_any h.lay.apart f hf g hg
theorem Fam.ne {P : Pk} {F : List Pk} (h : Fam P F) {f : Pk} (hf : f ∈ F) : 0 < f.pay.length := by
  obtain ⟨a, b, _, hF⟩ := h.lay.frag f hf
  have := hF.len
  have := hF.ab
  omega
theorem Fam.has {P : Pk} {F Q : List Pk} (h : Fam P F) {p : Pk} (hp : p ∈ F) (hQ : ∀ f ∈ Q, f ∈ F) : hasQ Q p = true ↔ p ∈ Q := by
  unfold hasQ
  rw [List.any_eq_true]
  constructor
  · rintro ⟨f, hf, he⟩
    obtain ⟨e1, e2⟩ := of_decide_eq_true he
    have h1 := h.ne hp
    rcases h.sep (hQ f hf) hp with rfl | h2 | h2
    · exact hf
    · rw [e1, e2] at h2; omega
    · rw [e1] at h2; omega
  · intro hq
    exact ⟨p, hq, by simp⟩
theorem Fam.add_mem {P : Pk} {F Q : List Pk} (h : Fam P F) {p : Pk} (hp : p ∈ F) (hQ : ∀ f ∈ Q, f ∈ F) : ∀ f, f ∈ addQ Q p ↔ f ∈ Q ∨ f = p := by
  intro f
  unfold addQ
  split
  · rename_i h1
    rw [h.has hp hQ] at h1
    constructor
    · exact .inl
    · rintro (h2 | rfl)
      · exact h2
      · exact h1
  · simp
theorem Fam.add_any {P : Pk} {F Q : List Pk} (h : Fam P F) {p : Pk} (hp : p ∈ F) (hQ : ∀ f ∈ Q, f ∈ F) (u : Pk → Bool) : (addQ Q p).any u = (Q.any u || u p) := by
  rw [Bool.eq_iff_iff, List.any_eq_true, Bool.or_eq_true, List.any_eq_true]
  constructor
  · rintro ⟨f, hf, hu⟩
    rcases (h.add_mem hp hQ f).1 hf with h1 | rfl
    · exact .inl ⟨f, h1, hu⟩
    · exact .inr hu
  · rintro (⟨f, hf, hu⟩ | hu)
    · exact ⟨f, (h.add_mem hp hQ f).2 (.inl hf), hu⟩
    · exact ⟨p, (h.add_mem hp hQ p).2 (.inr rfl), hu⟩
/-- A datagram in the making holds just Q of a packet's pieces. -/
structure MkOf (P : Pk) (m : Ms) (Q : List Pk) : Prop where
  key : m.src = P.src ∧ m.dst = P.dst ∧ m.proto = P.proto ∧ m.id = P.id
  ref : m.ref = false
  ps : m.ps = Q.map fun f => (f.off, f.pay)
  en : m.en = if Q.any (fun f => !f.mf) = true then (P.pay.length : Int) else -1
  has : m.has = Q.any fun f => decide (f.off = 0)
  first : m.has = true → m.first = { P with off := 0, mf := m.first.mf, pay := m.first.pay }
theorem add_frag {P : Pk} {F Q : List Pk} {m : Ms} {p : Pk} (h : Fam P F) (hQ : ∀ f ∈ Q, f ∈ F) (hm : MkOf P m Q) (hp : p ∈ F) : MkOf P (addS m p) (addQ Q p) := by
  obtain ⟨c, d, _, hf⟩ := h.lay.frag p hp
  have hl := hf.len
  have hab := hf.ab
  have hb := hf.hb
  have hoff : p.off = (c : Int) := by rw [hf.e]
  have hmf : p.mf = decide (d < P.pay.length) := by rw [hf.e]
  have hopt : p.opts = P.opts := by rw [hf.e]
  have hen : p.off + (p.pay.length : Int) = d := by omega
  have hscan : scanS p.off (p.off + p.pay.length) p.pay m.ps false m.ref = (hasQ Q p, false) := by
    rw [scan_ok, hm.ref]
    · rw [hm.ps, List.any_map]; rfl
    · intro q hq
      rw [hm.ps] at hq
      obtain ⟨f, hfQ, rfl⟩ := List.mem_map.1 hq
      rcases h.sep (hQ f hfQ) hp with rfl | h1 | h1
      · exact .inl ⟨rfl, rfl⟩
      · refine .inr fun h2 => ?_
        have := h2.2
        simp only [pTo] at this
        omega
      · refine .inr fun h2 => ?_
        have := h2.1
        simp only at this
        omega
  have hend : ∀ f ∈ F, f.off + (f.pay.length : Int) ≤ P.pay.length := by
    intro f hf
    obtain ⟨a, b, _, hF⟩ := h.lay.frag f hf
    have h1 := hF.len
    have h2 := hF.hb
    have h3 := hF.ab
    have h4 : f.off = (a : Int) := by rw [hF.e]
    omega
  have hP : 20 + (P.opts.length : Int) + P.pay.length ≤ 65535 := by
    have := h.c
    unfold codeB at this
    split at this
    · cases this
    · split at this
      · cases this
      · omega
  have hA : m.en = if Q.any (fun f => !f.mf) = true then (P.pay.length : Int) else -1 := hm.en
  have hpos := h.pos
  have hu1 := h.add_any hp hQ fun f => !f.mf
  have hu2 := h.add_any hp hQ fun f => decide (f.off = 0)
  have hps : (if hasQ Q p = true then m.ps else m.ps ++ [(p.off, p.pay)]) = (addQ Q p).map fun f => (f.off, f.pay) := by
    unfold addQ
    rw [hm.ps]
    split <;> simp
  have hr1 : (!p.mf && decide (0 ≤ m.en) && !decide (m.en = p.off + (p.pay.length : Int))) = false := by
    rw [hmf, hA, hen]
    by_cases h1 : d < P.pay.length
    · rw [decide_eq_true h1]; rfl
    · have : d = P.pay.length := by omega
      subst this
      split
      · simp
      · simp
  have he2 : (if p.mf = false ∧ m.en < 0 then p.off + (p.pay.length : Int) else m.en) = if (addQ Q p).any (fun f => !f.mf) = true then (P.pay.length : Int) else -1 := by
    rw [hu1, hmf, hA, hen]
    by_cases h1 : d < P.pay.length
    · rw [decide_eq_true h1, if_neg (by simp)]; simp
    · have : d = P.pay.length := by omega
      subst this
      rw [decide_eq_false h1]
      by_cases h3 : Q.any (fun f => !f.mf) = true
      · rw [if_pos h3, if_neg (by omega)]; simp [h3]
      · simp [h3]
  have hr2 : ∀ e2 : Int, e2 = (if (addQ Q p).any (fun f => !f.mf) = true then (P.pay.length : Int) else -1) → (decide (0 ≤ e2) && ((addQ Q p).map fun f => (f.off, f.pay)).any fun q => decide (e2 < pTo q)) = false := by
    intro e2 he
    by_cases hz : (addQ Q p).any (fun f => !f.mf) = true
    · rw [if_pos hz] at he
      rw [Bool.and_eq_false_iff]
      right
      rw [List.any_eq_false]
      intro q hq
      obtain ⟨f, hfQ, rfl⟩ := List.mem_map.1 hq
      have hfF : f ∈ F := by
        rcases (h.add_mem hp hQ f).1 hfQ with h1 | rfl
        · exact hQ f h1
        · exact hp
      have := hend f hfF
      intro hx
      have hx : e2 < f.off + (f.pay.length : Int) := of_decide_eq_true hx
      omega
    · rw [if_neg hz] at he
      rw [he]; rfl
  have hhas : (decide (p.off = 0) || m.has) = (addQ Q p).any fun f => decide (f.off = 0) := by rw [hu2, hm.has, Bool.or_comm]
  have hfirst : ((decide (p.off = 0) || m.has) = true) → (if p.off = 0 ∧ m.has = false then p else m.first) = { P with off := 0, mf := (if p.off = 0 ∧ m.has = false then p else m.first).mf, pay := (if p.off = 0 ∧ m.has = false then p else m.first).pay } := by
    intro hx
    split
    · rename_i h1
      rw [hf.e]
      rw [hoff] at h1
      simp [h1.1]
    · rename_i h1
      refine hm.first ?_
      cases hh : m.has with
      | true => rfl
      | false =>
        rw [hh, Bool.or_false] at hx
        exact absurd ⟨of_decide_eq_true hx, hh⟩ h1
  have hr3 : ∀ e2 : Int, e2 = (if (addQ Q p).any (fun f => !f.mf) = true then (P.pay.length : Int) else -1) → ((decide (p.off = 0) || m.has) && decide (0 ≤ e2) && decide (65535 < 20 + ((if p.off = 0 ∧ m.has = false then p else m.first).opts.length : Int) + e2)) = false := by
    rintro e2 rfl
    cases hx : (decide (p.off = 0) || m.has) with
    | false => rfl
    | true =>
      rw [hfirst hx]
      by_cases hz : (addQ Q p).any (fun f => !f.mf) = true
      · rw [if_pos hz]; simp; omega
      · rw [if_neg hz]; simp
  have hadd : addS m p = { m with ps := (addQ Q p).map fun f => (f.off, f.pay), en := (if (addQ Q p).any (fun f => !f.mf) = true then (P.pay.length : Int) else -1), ref := false, has := (decide (p.off = 0) || m.has), first := (if p.off = 0 ∧ m.has = false then p else m.first) } := by
    unfold addS
    simp only [hscan, hr1, he2, hps]
    rw [hr2 _ rfl, hr3 _ rfl]
    rfl
  rw [hadd]
  exact ⟨hm.key, rfl, rfl, rfl, hhas, hfirst⟩
end Go.Proofs.Ytjmmmmdpkfpojaa

namespace Go.Proofs.Ytjmmmmdpkfpojaa
open Go Go.IW

theorem sum_le {α : Type} (g : α → Nat) : ∀ {Q F : List α}, Q.Nodup → (∀ f ∈ Q, f ∈ F) → (Q.map g).sum ≤ (F.map g).sum
  | [], _, _, _ => by simp
  | q :: Q, F, hn, hs => by
    obtain ⟨h1, h2⟩ := List.nodup_cons.1 hn
    obtain ⟨s, t, rfl⟩ := List.append_of_mem (hs q List.mem_cons_self)
    have := sum_le g (Q := Q) (F := s ++ t) h2 fun f hf => by
      have h3 := hs f (List.mem_cons_of_mem _ hf)
      rcases List.mem_append.1 h3 with h4 | h4
      · exact List.mem_append_left _ h4
      · rcases List.mem_cons.1 h4 with rfl | h4
        · exact absurd hf h1
        · exact List.mem_append_right _ h4
    simp only [List.map_append, List.map_cons, List.sum_append, List.sum_cons] at this ⊢
    omega
theorem Fam.nd {P : Pk} {F : List Pk} (h : Fam P F) : F.Nodup := by
  refine (h.lay.apart.imp_of_mem ?_ : F.Pairwise (· ≠ ·))
  rintro f g hf hg h1 rfl
  have := h.ne hf
  omega
theorem Lay.ex_last {P : Pk} {a : Nat} {F : List Pk} (h : Lay P a F) : ∃ f ∈ F, f.mf = false := by
  induction h with
  | last a h0 => exact ⟨_, List.mem_singleton.2 rfl, rfl⟩
  | more a b h0 h1 h8 hr ih =>
    obtain ⟨f, hf, h2⟩ := ih
    exact ⟨f, List.mem_cons_of_mem _ hf, h2⟩
theorem totP_map (Q : List Pk) : totP (Q.map fun f => (f.off, f.pay)) = (Q.map fun f => f.pay.length).sum := by
  simp [totP, Function.comp_def]
theorem whole_iff {P : Pk} {F Q : List Pk} {m : Ms} (h : Fam P F) (hQ : ∀ f ∈ Q, f ∈ F) (hn : Q.Nodup) (hm : MkOf P m Q) : wholeS m = true ↔ ∀ f ∈ F, f ∈ Q := by
  have hF := h.lay.tot
  unfold wholeS
  rw [hm.ref, hm.ps, totP_map, hm.en]
  constructor
  · intro hw f hf
    simp only [Bool.not_false, Bool.true_and, Bool.and_eq_true, Bool.not_eq_true', decide_eq_false_iff_not, decide_eq_true_eq] at hw
    obtain ⟨h1, h2⟩ := hw
    by_cases hz : Q.any (fun f => !f.mf) = true
    · rw [if_pos hz] at h2
      by_cases hfQ : f ∈ Q
      · exact hfQ
      · have hsum := sum_le (fun f : Pk => f.pay.length) (Q := f :: Q) (F := F) (List.nodup_cons.2 ⟨hfQ, hn⟩) (fun x hx => by
          rcases List.mem_cons.1 hx with rfl | hx
          · exact hf
          · exact hQ x hx)
        have := h.ne hf
        simp only [List.map_cons, List.sum_cons] at hsum
        omega
    · rw [if_neg hz] at h1
      omega
  · intro ha
    have h1 := sum_le (fun f : Pk => f.pay.length) hn hQ
    have h2 := sum_le (fun f : Pk => f.pay.length) h.nd ha
    obtain ⟨f, hf, hl⟩ := h.lay.ex_last
    have hz : Q.any (fun f => !f.mf) = true := List.any_eq_true.2 ⟨f, ha f hf, by rw [hl]; rfl⟩
    rw [if_pos hz]
    have : (Q.map fun f => f.pay.length).sum = P.pay.length := by omega
    rw [this]
    simp
theorem lay_at {pay out : List UInt8} {a b j : Nat} (hab : a ≤ b) (hb : b ≤ pay.length) (hl : out.length = pay.length) : (layB out a ((pay.take b).drop a))[j]? = if a ≤ j ∧ j < b then pay[j]? else out[j]? := by
  unfold layB
  have e1 : (out.take a).length = a := by rw [List.length_take]; omega
  have e2 : ((pay.take b).drop a).length = b - a := by rw [List.length_drop, List.length_take]; omega
  by_cases h1 : j < a
  · rw [if_neg (by omega), List.append_assoc, List.getElem?_append_left (by omega), List.getElem?_take, if_pos h1]
  · by_cases h2 : j < b
    · rw [if_pos ⟨by omega, h2⟩, List.append_assoc, List.getElem?_append_right (by omega), List.getElem?_append_left (by omega), e1, List.getElem?_drop, show a + (j - a) = j by omega, List.getElem?_take, if_pos h2]
    · rw [if_neg (by omega), List.getElem?_append_right (by rw [List.length_append]; omega), List.length_append, e1, e2, List.getElem?_drop]
      congr 1
      omega
theorem fill_ok {P : Pk} : ∀ {Q : List Pk} {out : List UInt8} (C : Nat → Prop), out.length = P.pay.length → (∀ j, C j → out[j]? = P.pay[j]?) → (∀ f ∈ Q, ∃ a b, Frag P a b f) →
    (fillB (Q.map fun f => (f.off, f.pay)) out).length = P.pay.length ∧ ∀ j, (C j ∨ ∃ f ∈ Q, f.off ≤ (j : Int) ∧ (j : Int) < f.off + (f.pay.length : Int)) → (fillB (Q.map fun f => (f.off, f.pay)) out)[j]? = P.pay[j]?
  | [], out, C, hl, hC, _ => by
    refine ⟨hl, fun j hj => ?_⟩
    rcases hj with h1 | ⟨f, hf, _⟩
    · exact hC j h1
    · cases hf
  | f :: Q, out, C, hl, hC, hQ => by
    obtain ⟨a, b, hF⟩ := hQ f List.mem_cons_self
    have hlen := hF.len
    have hab := hF.ab
    have hb := hF.hb
    have hoff : f.off = (a : Int) := by rw [hF.e]
    have hpay : f.pay = (P.pay.take b).drop a := by rw [hF.e]
    have e : fillB ((f :: Q).map fun f => (f.off, f.pay)) out = fillB (Q.map fun f => (f.off, f.pay)) (layB out a ((P.pay.take b).drop a)) := by
      simp only [fillB, List.map_cons, List.foldl_cons, hoff, hpay]
      rfl
    rw [e]
    have hl' : (layB out a ((P.pay.take b).drop a)).length = P.pay.length := by
      rw [layB_len (by rw [← hpay]; omega), hl]
    obtain ⟨r1, r2⟩ := fill_ok (Q := Q) (out := layB out a ((P.pay.take b).drop a)) (fun j => C j ∨ (a ≤ j ∧ j < b)) hl' (fun j hj => by
      rw [lay_at (by omega) hb hl]
      split
      · rfl
      · rename_i h1
        exact hC j (hj.resolve_right h1)) (fun g hg => hQ g (List.mem_cons_of_mem _ hg))
    refine ⟨r1, fun j hj => r2 j ?_⟩
    rcases hj with h1 | ⟨g, hg, h1⟩
    · exact .inl (.inl h1)
    · rcases List.mem_cons.1 hg with rfl | hg
      · exact .inl (.inr (by omega))
      · exact .inr ⟨g, hg, h1⟩
theorem whole_pk {P : Pk} {F Q : List Pk} {m : Ms} (h : Fam P F) (hQ : ∀ f ∈ Q, f ∈ F) (hn : Q.Nodup) (hm : MkOf P m Q) (ha : ∀ f ∈ F, f ∈ Q) : wholePk m = P := by
  obtain ⟨f, hf, hl⟩ := h.lay.ex_last
  have hz : Q.any (fun f => !f.mf) = true := List.any_eq_true.2 ⟨f, ha f hf, by rw [hl]; rfl⟩
  have hen : m.en = P.pay.length := by rw [hm.en, if_pos hz]
  obtain ⟨g, hg, hg1, hg2⟩ := h.lay.cover 0 (Nat.le_refl _) h.pos
  have hgo : g.off = 0 := by
    obtain ⟨a, b, _, hF⟩ := h.lay.frag g hg
    have : g.off = (a : Int) := by rw [hF.e]
    omega
  have hhas : m.has = true := by
    rw [hm.has, List.any_eq_true]
    exact ⟨g, ha g hg, by simp [hgo]⟩
  have hfr : ∀ f ∈ Q, ∃ a b, Frag P a b f := fun f hf => by
    obtain ⟨a, b, _, hF⟩ := h.lay.frag f (hQ f hf)
    exact ⟨a, b, hF⟩
  obtain ⟨r1, r2⟩ := fill_ok (P := P) (Q := Q) (out := List.replicate m.en.toNat 0) (fun _ => False) (by rw [List.length_replicate, hen]; rfl) (fun _ hx => hx.elim) hfr
  have hpay : fillB m.ps (List.replicate m.en.toNat 0) = P.pay := by
    rw [hm.ps]
    apply List.ext_getElem?
    intro j
    by_cases hj : j < P.pay.length
    · obtain ⟨f, hf, h1⟩ := h.lay.cover j (Nat.zero_le _) hj
      exact r2 j (.inr ⟨f, ha f hf, h1⟩)
    · rw [List.getElem?_eq_none (by omega), List.getElem?_eq_none (by omega)]
  unfold wholePk
  rw [hpay, hm.first hhas]
  have h1 := h.off
  have h2 := h.mf
  cases P
  simp only at h1 h2 ⊢
  rw [h1, h2]
end Go.Proofs.Ytjmmmmdpkfpojaa

namespace Go.Proofs.Ytjmmmmdpkfpojaa
open Go Go.IW

/-- Packets with their pieces; no two bear the same number. -/
structure Fams (n : Nat) (P : Nat → Pk) (F : Nat → List Pk) : Prop where
  le : n ≤ 16
  fam : ∀ i, i < n → Fam (P i) (F i)
  id : ∀ i j, i < n → j < n → (P i).id = (P j).id → i = j
  key : ∀ i j, i < n → j < n → (P i).src = (P j).src ∧ (P i).dst = (P j).dst
/-- What is in the making is what came of each packet since it was last whole. -/
structure Rst (n : Nat) (P : Nat → Pk) (F : Nat → List Pk) (l : List Ms) (cur : Nat → List Pk) : Prop where
  ids : (l.map (·.id)).Nodup
  mks : ∀ m ∈ l, ∃ i, i < n ∧ cur i ≠ [] ∧ MkOf (P i) m (cur i)
  here : ∀ i, i < n → cur i ≠ [] → ∃ m ∈ l, m.id = (P i).id
  sub : ∀ i, i < n → ∀ f ∈ cur i, f ∈ F i
  nd : ∀ i, i < n → (cur i).Nodup
  inc : ∀ i, i < n → ¬ ∀ f ∈ F i, f ∈ cur i
theorem Rst.nil {n : Nat} {P : Nat → Pk} {F : Nat → List Pk} (hF : Fams n P F) : Rst n P F [] fun _ => [] := by
  refine ⟨by simp, by simp, fun i _ h => absurd rfl h, by simp, by simp, fun i hi h => ?_⟩
  obtain ⟨f, hf, _⟩ := (hF.fam i hi).lay.ex_last
  exact absurd (h f hf) (by simp)
theorem sum_one {α : Type} (l : List α) : (l.map fun _ => 1).sum = l.length := by
  induction l with
  | nil => rfl
  | cons a l ih => simp only [List.map_cons, List.sum_cons, ih, List.length_cons]; omega
theorem Rst.len {n : Nat} {P : Nat → Pk} {F : Nat → List Pk} {l : List Ms} {cur : Nat → List Pk} (h : Rst n P F l cur) : l.length ≤ n := by
  have := sum_le (fun _ => 1) (Q := l.map (·.id)) (F := (List.range n).map fun i => (P i).id) h.ids (fun x hx => by
    obtain ⟨m, hm, rfl⟩ := List.mem_map.1 hx
    obtain ⟨i, hi, _, hk⟩ := h.mks m hm
    exact List.mem_map.2 ⟨i, List.mem_range.2 hi, hk.key.2.2.2.symm⟩)
  rw [sum_one, sum_one] at this
  simpa using this
theorem Rst.lenx {n : Nat} {P : Nat → Pk} {F : Nat → List Pk} {l : List Ms} {cur : Nat → List Pk} (h : Rst n P F l cur) {i : Nat} (hi : i < n) (hx : ∀ m ∈ l, m.id ≠ (P i).id) : l.length < n := by
  have := sum_le (fun _ => 1) (Q := (P i).id :: l.map (·.id)) (F := (List.range n).map fun i => (P i).id) (List.nodup_cons.2 ⟨fun hm => by
    obtain ⟨m, hm, e⟩ := List.mem_map.1 hm
    exact hx m hm e, h.ids⟩) (fun x hx => by
    rcases List.mem_cons.1 hx with rfl | hx
    · exact List.mem_map.2 ⟨i, List.mem_range.2 hi, rfl⟩
    · obtain ⟨m, hm, rfl⟩ := List.mem_map.1 hx
      obtain ⟨i, hi, _, hk⟩ := h.mks m hm
      exact List.mem_map.2 ⟨i, List.mem_range.2 hi, hk.key.2.2.2.symm⟩)
  rw [sum_one, sum_one] at this
  simp only [List.length_cons, List.length_map, List.length_range] at this
  omega
def upd1 {α : Type} (c : Nat → α) (i : Nat) (x : α) : Nat → α := fun j => if j = i then x else c j
theorem addQ_nd {P : Pk} {F Q : List Pk} (h : Fam P F) {p : Pk} (hp : p ∈ F) (hQ : ∀ f ∈ Q, f ∈ F) (hn : Q.Nodup) : (addQ Q p).Nodup := by
  unfold addQ
  split
  · exact hn
  · rename_i h1
    rw [h.has hp hQ] at h1
    rw [List.nodup_append]
    refine ⟨hn, by simp, ?_⟩
    rintro a ha b hb rfl
    obtain rfl := List.mem_singleton.1 hb
    exact h1 ha
theorem addQ_ne (Q : List Pk) (p : Pk) : addQ Q p ≠ [] := by
  unfold addQ hasQ
  cases Q with
  | nil => simp
  | cons a r => split <;> simp
theorem key_iff {P p : Pk} {F : List Pk} (h : Fam P F) (hp : p ∈ F) {P' : Pk} {m : Ms} {Q : List Pk} (hm : MkOf P' m Q) (hk : P.src = P'.src ∧ P.dst = P'.dst) (hpr : P.id = P'.id → P.proto = P'.proto) : keyS p m = true ↔ m.id = P.id := by
  obtain ⟨a, b, _, hF⟩ := h.lay.frag p hp
  obtain ⟨k1, k2, k3, k4⟩ := hm.key
  have e1 : p.src = P.src := by rw [hF.e]
  have e2 : p.dst = P.dst := by rw [hF.e]
  have e3 : p.proto = P.proto := by rw [hF.e]
  have e4 : p.id = P.id := by rw [hF.e]
  unfold keyS
  rw [e1, e2, e3, e4, k1, k2, k3, k4]
  simp only [Bool.and_eq_true, decide_eq_true_eq]
  constructor
  · rintro ⟨_, h⟩; exact h
  · intro h
    exact ⟨⟨⟨hk.1.symm, hk.2.symm⟩, (hpr h.symm).symm⟩, h⟩
/-- The datagram in the making that a piece belongs to. -/
theorem open_step {n : Nat} {P : Nat → Pk} {F : Nat → List Pk} {l : List Ms} {cur : Nat → List Pk} {now : Int} (hF : Fams n P F) (h : Rst n P F l cur) {i : Nat} (hi : i < n) {p : Pk} (hp : p ∈ F i) :
    ∃ s m t, openS now l ot0 p = (s ++ m :: t, ot0, s.length) ∧ MkOf (P i) m (cur i) ∧ (∀ x ∈ s ++ t, x ∈ l ∧ x.id ≠ (P i).id) ∧ (∀ x ∈ l, x.id ≠ (P i).id → x ∈ s ++ t) ∧ ((s ++ t).map (·.id)).Nodup := by
  have hkey : ∀ m ∈ l, keyS p m = true ↔ m.id = (P i).id := by
    intro m hm
    obtain ⟨j, hj, _, hk⟩ := h.mks m hm
    exact key_iff (hF.fam i hi) hp hk (hF.key i j hi hj) fun e => by rw [hF.id i j hi hj e]
  unfold openS
  cases hfi : l.findIdx? (keyS p) with
  | some k =>
    obtain ⟨hk1, hk2, _⟩ := List.findIdx?_eq_some_iff_getElem.1 hfi
    obtain ⟨s, t, hl, hs⟩ : ∃ s t, l = s ++ l[k] :: t ∧ s.length = k := ⟨l.take k, l.drop (k + 1), by rw [List.getElem_cons_drop, List.take_append_drop], by rw [List.length_take]; omega⟩
    have hmem : l[k] ∈ l := List.getElem_mem _
    generalize l[k] = m at hk2 hl hmem
    have hid := (hkey m hmem).1 hk2
    have hnd := h.ids
    rw [hl, List.map_append, List.map_cons, List.nodup_append, List.nodup_cons] at hnd
    obtain ⟨n1, ⟨n2, n3⟩, n4⟩ := hnd
    have hno : ∀ x ∈ s ++ t, x.id ≠ m.id := by
      intro x hx
      rcases List.mem_append.1 hx with hx | hx
      · exact n4 x.id (List.mem_map.2 ⟨x, hx, rfl⟩) m.id List.mem_cons_self
      · intro e
        exact n2 (by rw [← e]; exact List.mem_map.2 ⟨x, hx, rfl⟩)
    refine ⟨s, m, t, by simp only [hl, hs], ?_, ?_, ?_, ?_⟩
    · obtain ⟨j, hj, _, hk⟩ := h.mks m hmem
      have := hF.id i j hi hj (by rw [← hid, hk.key.2.2.2])
      rw [this]
      exact hk
    · intro x hx
      refine ⟨?_, by rw [← hid]; exact hno x hx⟩
      rw [hl]
      rcases List.mem_append.1 hx with hx | hx
      · exact List.mem_append_left _ hx
      · exact List.mem_append_right _ (List.mem_cons_of_mem _ hx)
    · intro x hx hne
      rw [hl] at hx
      rcases List.mem_append.1 hx with hx | hx
      · exact List.mem_append_left _ hx
      · rcases List.mem_cons.1 hx with rfl | hx
        · exact absurd hid hne
        · exact List.mem_append_right _ hx
    · rw [List.map_append, List.nodup_append]
      exact ⟨n1, n3, fun a ha b hb => n4 a ha b (List.mem_cons_of_mem _ hb)⟩
  | none =>
    have hno : ∀ m ∈ l, m.id ≠ (P i).id := by
      intro m hm e
      have := (List.findIdx?_eq_none_iff.1 hfi) m hm
      rw [(hkey m hm).2 e] at this
      cases this
    have hlen := h.lenx hi hno
    have hle := hF.le
    have hcur : cur i = [] := by
      by_cases hz : cur i = []
      · exact hz
      · obtain ⟨m, hm, e⟩ := h.here i hi hz
        exact absurd e (hno m hm)
    obtain ⟨a, b, _, hf⟩ := (hF.fam i hi).lay.frag p hp
    refine ⟨l, msNew p now, [], by simp only; rw [if_neg (by omega)], ?_, ?_, ?_, ?_⟩
    · rw [hcur]
      refine ⟨⟨by rw [hf.e]; rfl, by rw [hf.e]; rfl, by rw [hf.e]; rfl, by rw [hf.e]; rfl⟩, rfl, rfl, rfl, rfl, fun hx => by cases hx⟩
    · intro x hx
      rw [List.append_nil] at hx
      exact ⟨hx, hno x hx⟩
    · intro x hx _
      rw [List.append_nil]
      exact hx
    · rw [List.append_nil]
      exact h.ids
/-- How a piece is taken. -/
theorem take_step {n : Nat} {P : Nat → Pk} {F : Nat → List Pk} {l : List Ms} {cur : Nat → List Pk} {now : Int} (hF : Fams n P F) (h : Rst n P F l cur) {i : Nat} (hi : i < n) {p : Pk} (hp : p ∈ F i) :
    ∃ b : Bool, (b = true ↔ ∀ f ∈ F i, f ∈ addQ (cur i) p) ∧ (takeS now l ot0 p).2 = (if b = true then { ot0 with done := true, pk := P i } else ot0) ∧
      Rst n P F (takeS now l ot0 p).1 (upd1 cur i (if b = true then [] else addQ (cur i) p)) := by
  have fam := hF.fam i hi
  obtain ⟨c, d, _, hf⟩ := fam.lay.frag p hp
  have hl := hf.len
  have hab := hf.ab
  have hb := hf.hb
  have hoff : p.off = (c : Int) := by rw [hf.e]
  have hmf : p.mf = decide (d < (P i).pay.length) := by rw [hf.e]
  by_cases hone : p.off = 0 ∧ p.mf = false
  · have hc : c = 0 := by omega
    have hd : d = (P i).pay.length := by
      have := hone.2
      rw [hmf, decide_eq_false_iff_not] at this
      omega
    have hpP : p = P i := by
      rw [hf.e, hc, hd]
      have h1 := fam.off
      have h2 := fam.mf
      generalize P i = Q at h1 h2
      cases Q
      simp only at h1 h2
      simp [h1, h2]
    have hall : ∀ f ∈ F i, f = p := by
      intro f hfF
      rcases fam.sep hfF hp with e | e | e
      · exact e
      · obtain ⟨a', b', _, hF'⟩ := fam.lay.frag f hfF
        have := hF'.len
        have := hF'.ab
        have : f.off = (a' : Int) := by rw [hF'.e]
        omega
      · obtain ⟨a', b', _, hF'⟩ := fam.lay.frag f hfF
        have := hF'.hb
        have := hF'.ab
        have : f.off = (a' : Int) := by rw [hF'.e]
        omega
    have hcur : cur i = [] := by
      by_cases hz : cur i = []
      · exact hz
      · exfalso
        refine h.inc i hi fun f hfF => ?_
        obtain ⟨g, hg⟩ := List.exists_mem_of_ne_nil _ hz
        rw [hall f hfF, ← hall g (h.sub i hi g hg)]
        exact hg
    have ht : takeS now l ot0 p = (l, { ot0 with done := true, pk := p }) := by
      unfold takeS
      rw [if_pos hone]
    refine ⟨true, ?_, by rw [ht, ← hpP]; rfl, ?_⟩
    · simp only [true_iff]
      intro f hfF
      rw [hall f hfF]
      exact (fam.add_mem hp (h.sub i hi) p).2 (.inr rfl)
    · rw [ht]
      have : upd1 cur i (if true = true then [] else addQ (cur i) p) = cur := by
        funext j
        unfold upd1
        split
        · rename_i e; rw [e, hcur]; rfl
        · rfl
      rw [this]
      exact h
  · have hne : ¬ (p.pay = [] ∨ (p.mf = true ∧ (p.pay.length : Int).tmod 8 ≠ 0)) := by
      rintro (e | ⟨e1, e2⟩)
      · rw [e] at hl; simp at hl; omega
      · rw [hmf, decide_eq_true_eq] at e1
        have := hf.m e1
        apply e2
        rw [hl, Int.tmod_eq_emod_of_nonneg (by omega)]
        omega
    obtain ⟨s, m, t, ho, hm, hst, hts, hnd⟩ := open_step (now := now) hF h hi hp
    have hsub := h.sub i hi
    have hm' := add_frag fam hsub hm hp
    have hmem := fam.add_mem hp hsub
    have hsub' : ∀ f ∈ addQ (cur i) p, f ∈ F i := fun f hf => by
      rcases (hmem f).1 hf with h1 | rfl
      · exact hsub f h1
      · exact hp
    have hnd' := addQ_nd fam hp hsub (h.nd i hi)
    have hw := whole_iff fam hsub' hnd' hm'
    have ht : takeS now l ot0 p = if wholeS (addS m p) = true then (s ++ t, { ot0 with done := true, pk := wholePk (addS m p) }) else (s ++ addS m p :: t, ot0) := by
      unfold takeS
      rw [if_neg hone, if_neg hne]
      simp only [ho]
      unfold stepS
      have hg : (s ++ m :: t).getD s.length default = m := by simp [List.getD_eq_getElem?_getD]
      simp only [hg, hm.ref, Bool.false_eq_true, if_false]
      split
      · rw [List.eraseIdx_append_of_length_le (Nat.le_refl _), Nat.sub_self]; rfl
      · simp
    have hoth : ∀ x ∈ s ++ t, ∃ j, j < n ∧ j ≠ i ∧ cur j ≠ [] ∧ MkOf (P j) x (cur j) := by
      intro x hx
      obtain ⟨h1, h2⟩ := hst x hx
      obtain ⟨j, hj, h3, h4⟩ := h.mks x h1
      refine ⟨j, hj, ?_, h3, h4⟩
      rintro rfl
      exact h2 h4.key.2.2.2
    have hhere : ∀ j, j < n → j ≠ i → cur j ≠ [] → ∃ x ∈ s ++ t, x.id = (P j).id := by
      intro j hj hji hc
      obtain ⟨x, hx, e⟩ := h.here j hj hc
      refine ⟨x, hts x hx ?_, e⟩
      rw [e]
      intro e2
      exact hji (hF.id j i hj hi e2)
    refine ⟨wholeS (addS m p), hw, ?_, ?_⟩
    · rw [ht]
      split
      · rename_i hwt
        rw [whole_pk fam hsub' hnd' hm' (hw.1 hwt)]
      · rfl
    · rw [ht]
      split
      · rename_i hb
        refine ⟨hnd, ?_, ?_, ?_, ?_, ?_⟩
        · intro x hx
          obtain ⟨j, hj, hji, h3, h4⟩ := hoth x hx
          exact ⟨j, hj, by unfold upd1; rw [if_neg hji]; exact h3, by unfold upd1; rw [if_neg hji]; exact h4⟩
        · intro j hj hc
          by_cases hji : j = i
          · subst hji; exact absurd (by unfold upd1; rw [if_pos rfl]) hc
          · unfold upd1 at hc; rw [if_neg hji] at hc; exact hhere j hj hji hc
        · intro j hj f hf
          unfold upd1 at hf
          split at hf
          · cases hf
          · exact h.sub j hj f hf
        · intro j hj
          unfold upd1
          split
          · exact List.nodup_nil
          · exact h.nd j hj
        · intro j hj hall
          unfold upd1 at hall
          split at hall
          · obtain ⟨f, hf, _⟩ := (hF.fam j hj).lay.ex_last
            exact absurd (hall f hf) (by simp)
          · exact h.inc j hj hall
      · rename_i hwf
        have hnid : ∀ x ∈ s ++ t, x.id ≠ (addS m p).id := fun x hx => by rw [hm'.key.2.2.2]; exact (hst x hx).2
        refine ⟨?_, ?_, ?_, ?_, ?_, ?_⟩
        · rw [List.map_append, List.nodup_append] at hnd
          obtain ⟨n1, n2, n3⟩ := hnd
          rw [List.map_append, List.map_cons, List.nodup_append, List.nodup_cons]
          refine ⟨n1, ⟨?_, n2⟩, ?_⟩
          · intro hx
            obtain ⟨x, hx, e⟩ := List.mem_map.1 hx
            exact hnid x (List.mem_append_right _ hx) e
          · intro a ha b hb
            rcases List.mem_cons.1 hb with rfl | hb
            · obtain ⟨x, hx, rfl⟩ := List.mem_map.1 ha
              exact hnid x (List.mem_append_left _ hx)
            · exact n3 a ha b hb
        · intro x hx
          have hx' : x = addS m p ∨ x ∈ s ++ t := by
            rcases List.mem_append.1 hx with hx | hx
            · exact .inr (List.mem_append_left _ hx)
            · rcases List.mem_cons.1 hx with rfl | hx
              · exact .inl rfl
              · exact .inr (List.mem_append_right _ hx)
          rcases hx' with rfl | hx'
          · exact ⟨i, hi, by unfold upd1; rw [if_pos rfl]; exact addQ_ne _ _, by unfold upd1; rw [if_pos rfl]; exact hm'⟩
          · obtain ⟨j, hj, hji, h3, h4⟩ := hoth x hx'
            exact ⟨j, hj, by unfold upd1; rw [if_neg hji]; exact h3, by unfold upd1; rw [if_neg hji]; exact h4⟩
        · intro j hj hc
          by_cases hji : j = i
          · subst hji; exact ⟨addS m p, List.mem_append_right _ List.mem_cons_self, hm'.key.2.2.2⟩
          · unfold upd1 at hc; rw [if_neg hji] at hc
            obtain ⟨x, hx, e⟩ := hhere j hj hji hc
            refine ⟨x, ?_, e⟩
            rcases List.mem_append.1 hx with hx | hx
            · exact List.mem_append_left _ hx
            · exact List.mem_append_right _ (List.mem_cons_of_mem _ hx)
        · intro j hj f hf
          unfold upd1 at hf
          split at hf
          · rename_i e; rw [e]; exact hsub' f hf
          · exact h.sub j hj f hf
        · intro j hj
          unfold upd1
          split
          · exact hnd'
          · exact h.nd j hj
        · intro j hj hall
          unfold upd1 at hall
          split at hall
          · rename_i e
            subst e
            exact hwf (hw.2 hall)
          · exact h.inc j hj hall
end Go.Proofs.Ytjmmmmdpkfpojaa

namespace Go.Proofs.Ytjmmmmdpkfpojaa
open Go Go.IW

theorem Lay.m8 {P : Pk} {a : Nat} {F : List Pk} (h : Lay P a F) : a % 8 = 0 → ∀ f ∈ F, ∃ c : Nat, f.off = (c : Int) ∧ c % 8 = 0 := by
  induction h with
  | last a h0 =>
    intro h8 f hf
    obtain rfl := List.mem_singleton.1 hf
    exact ⟨a, rfl, h8⟩
  | more a b h0 h1 h8 hr ih =>
    intro ha f hf
    rcases List.mem_cons.1 hf with rfl | hf
    · exact ⟨a, rfl, ha⟩
    · exact ih (by omega) f hf
theorem Fam.code {P p : Pk} {F : List Pk} (h : Fam P F) (hp : p ∈ F) : codeB p = 0 := by
  obtain ⟨a, b, _, hf⟩ := h.lay.frag p hp
  obtain ⟨c, hc, h8⟩ := h.lay.m8 (by rfl) p hp
  have hl := hf.len
  have hab := hf.ab
  have hb := hf.hb
  have hoff : p.off = (a : Int) := by rw [hf.e]
  have hP := h.c
  unfold codeB at hP
  split at hP
  · cases hP
  · rename_i h1
    have h1 : okIPb P = true := Bool.not_eq_false _ ▸ h1
    split at hP
    · cases hP
    · rename_i h2
      have hca : c = a := by omega
      subst hca
      have h3 : okIPb p = true := by
        unfold okIPb at h1 ⊢
        simp only [Bool.and_eq_true, decide_eq_true_eq] at h1 ⊢
        have e : (p.off).tmod 8 = 0 := by rw [hoff, Int.tmod_eq_emod_of_nonneg (by omega)]; omega
        have e1 : p.tos = P.tos ∧ p.ttl = P.ttl ∧ p.proto = P.proto ∧ p.id = P.id ∧ p.src = P.src ∧ p.dst = P.dst ∧ p.opts = P.opts := by rw [hf.e]; exact ⟨rfl, rfl, rfl, rfl, rfl, rfl, rfl⟩
        obtain ⟨e1, e2, e3, e4, e5, e6, e7⟩ := e1
        rw [e1, e2, e3, e4, e5, e6, e7]
        obtain ⟨⟨⟨⟨⟨⟨⟨⟨⟨⟨⟨⟨⟨⟨a1, a2⟩, a3⟩, a4⟩, a5⟩, a6⟩, a7⟩, a8⟩, a9⟩, a10⟩, a11⟩, a12⟩, a13⟩, a14⟩, a15⟩ := h1
        exact ⟨⟨⟨⟨⟨⟨⟨⟨⟨⟨⟨⟨⟨⟨a1, a2⟩, a3⟩, a4⟩, a5⟩, a6⟩, a7⟩, a8⟩, by omega⟩, by omega⟩, e⟩, a12⟩, a13⟩, a14⟩, a15⟩
      have e7 : p.opts = P.opts := by rw [hf.e]
      unfold codeB
      rw [if_neg (by simp [h3]), if_neg (by rw [e7]; omega)]
/-- What comes of a piece. -/
theorem op_step {n : Nat} {P : Nat → Pk} {F : Nat → List Pk} {l : List Ms} {cur : Nat → List Pk} {now : Int} (hF : Fams n P F) (h : Rst n P F l cur) {i : Nat} (hi : i < n) {p : Pk} (hp : p ∈ F i) :
    ∃ (b : Bool) (l' : List Ms) (o : Ot), opS now l (takeOp p) = (now, l', o) ∧ (b = true ↔ ∀ f ∈ F i, f ∈ addQ (cur i) p) ∧ o.code = 0 ∧ o.done = b ∧ (b = true → o.pk = P i) ∧ o.held = (l'.length : Int) ∧ o.bytes = (bytesS l' : Nat) ∧
      Rst n P F l' (upd1 cur i (if b = true then [] else addQ (cur i) p)) := by
  obtain ⟨b, h1, h2, h3⟩ := take_step (now := now) hF h hi hp
  refine ⟨b, (takeS now l ot0 p).1, tellS (takeS now l ot0 p).1 (takeS now l ot0 p).2, ?_, h1, ?_, ?_, ?_, rfl, ?_, h3⟩
  · unfold opS
    rw [if_pos ⟨rfl, (hF.fam i hi).code hp⟩]
    rfl
  · rw [h2]; cases b <;> rfl
  · rw [h2]; cases b <;> rfl
  · intro hb; rw [h2, hb]; rfl
  · rw [h2]; cases b <;> simp [tellS, ot0]
theorem Rst.empty {n : Nat} {P : Nat → Pk} {F : Nat → List Pk} {l : List Ms} {cur : Nat → List Pk} (h : Rst n P F l cur) (hc : ∀ i, i < n → cur i = []) : l = [] := by
  cases l with
  | nil => rfl
  | cons m l =>
    obtain ⟨i, hi, h1, _⟩ := h.mks m List.mem_cons_self
    exact absurd (hc i hi) h1
end Go.Proofs.Ytjmmmmdpkfpojaa

set_option maxRecDepth 20000
namespace Go.Proofs.Ytjmmmmdpkfpojaa
open Go Go.IW

/-! ### Lists of packets, operations and answers, read -/
theorem PksAt.ext {h h' : IH} {v : IV} {rs : List (List IV)} {ps : List Pk} (A : PksAt h v rs ps) (E : Ext h h') : PksAt h' v rs ps :=
  ⟨A.s.ext E, A.n, fun i p hp => by obtain ⟨vo, vp, e, a⟩ := A.r i p hp; exact ⟨vo, vp, e, a.ext E⟩⟩
theorem pks_pk {g : IH} {L : List As} {rs : List (List IV)} {ps : List Pk} {k : Nat} {q : Pk} {vo vp : IV} (S : Sp g L) (j : Nat) (hj : L[j]? = some (all2 pkR rs ps)) (hr : rs[k]? = some (pkRow q vo vp)) (hq : ps[k]? = some q) : PkAt g q vo vp := by
  obtain ⟨vo', vp', h1, h2⟩ := pks_at S j hj hq
  rw [hr] at h1
  simp only [pkRow, Option.some.injEq, List.cons.injEq, and_true, true_and] at h1
  rw [h1.1, h1.2]
  exact h2
theorem perm_rel {α β : Type} {R : α → β → Prop} {xa xb : List α} (hp : xa.Perm xb) : ∀ {ys : List β}, All2 R xb ys → ∃ xs : List β, xs.Perm ys ∧ All2 R xa xs := by
  induction hp with
  | nil => intro ys h; exact ⟨ys, .refl _, h⟩
  | cons a _ ih =>
    intro ys h
    cases h with
    | cons h1 h2 =>
      obtain ⟨xs, p, r⟩ := ih h2
      exact ⟨_ :: xs, p.cons _, .cons h1 r⟩
  | swap a b l =>
    intro ys h
    cases h with
    | cons h1 h2 =>
      cases h2 with
      | cons h3 h4 => exact ⟨_ :: _ :: _, .swap _ _ _, .cons h3 (.cons h1 h4)⟩
  | trans _ _ ih1 ih2 =>
    intro ys h
    obtain ⟨xs, p, r⟩ := ih2 h
    obtain ⟨zs, p', r'⟩ := ih1 r
    exact ⟨zs, p'.trans p, r'⟩
def RowAt (g : IH) (r : List IV) (p : Pk) : Prop := ∃ vo vp, r = pkRow p vo vp ∧ PkAt g p vo vp
theorem rows_all2 {g : IH} : ∀ {rs : List (List IV)} {ps : List Pk}, rs.length = ps.length → (∀ (i : Nat) (p : Pk), ps[i]? = some p → ∃ vo vp, rs[i]? = some (pkRow p vo vp) ∧ PkAt g p vo vp) → All2 (RowAt g) rs ps
  | [], [], _, _ => .nil
  | r :: rs, p :: ps, hl, h => by
    obtain ⟨vo, vp, e, a⟩ := h 0 p rfl
    refine .cons ⟨vo, vp, by simpa using e, a⟩ (rows_all2 (by simpa using hl) fun i q hq => ?_)
    have := h (i + 1) q (by simpa using hq)
    simpa using this
theorem all2_rows {g : IH} {rs : List (List IV)} {ps : List Pk} (h : All2 (RowAt g) rs ps) : rs.length = ps.length ∧ ∀ (i : Nat) (p : Pk), ps[i]? = some p → ∃ vo vp, rs[i]? = some (pkRow p vo vp) ∧ PkAt g p vo vp := by
  induction h with
  | nil => exact ⟨rfl, by simp⟩
  | cons h1 h2 ih =>
    obtain ⟨vo, vp, rfl, a⟩ := h1
    refine ⟨by simp [ih.1], fun i q hq => ?_⟩
    cases i with
    | zero => simp at hq; subst hq; exact ⟨vo, vp, rfl, a⟩
    | succ i => simpa using ih.2 i q (by simpa using hq)
theorem PksAt.perm {g : IH} {v v' : IV} {rs rs' : List (List IV)} {ps : List Pk} (A : PksAt g v rs ps) (hs : SlR g 11 v' rs') (hp : rs'.Perm rs) : ∃ ps', ps'.Perm ps ∧ PksAt g v' rs' ps' := by
  obtain ⟨ps', p, r⟩ := perm_rel hp (rows_all2 A.n A.r)
  obtain ⟨h1, h2⟩ := all2_rows r
  exact ⟨ps', p, hs, h1, h2⟩
theorem PksAt.rows {g : IH} {v : IV} {rs : List (List IV)} {ps : List Pk} (A : PksAt g v rs ps) : ∀ r ∈ rs, ∃ p vo vp, r = pkRow p vo vp ∧ vo.one = true ∧ vp.one = true := by
  intro r hr
  obtain ⟨i, hi, rfl⟩ := List.mem_iff_getElem.1 hr
  have hi' : i < ps.length := by rw [← A.n]; exact hi
  obtain ⟨vo, vp, e, a⟩ := A.r i ps[i] (List.getElem?_eq_getElem hi')
  rw [List.getElem?_eq_getElem hi] at e
  exact ⟨ps[i], vo, vp, Option.some.inj e, a.o.one, a.p.one⟩
theorem ops_of {g : IH} {L : List As} {x : Bool} {v : IV} {rs : List (List IV)} {ops : List Op} (S : Sp g L) (i j : Nat) (hi : L[i]? = some (sl x 58 13 v rs)) (hj : L[j]? = some (all2 opR rs ops)) (hI : ∀ o ∈ ops, I64 o.wait ∧ PkI o.pk) : OpsAt g v ops := by
  refine ⟨⟨rs, S.slA i hi, a2_len S j hj, fun k o ho => ?_⟩, hI⟩
  obtain ⟨f, hf⟩ := S.part j hj
  obtain ⟨r, f', h1, ⟨vo, vp⟩, f1, f2, _, ⟨_, rfl, h4, h5⟩, g1, g2, _, h6, h7⟩ := all2_at hf ho
  refine ⟨vo, vp, h1, ?_, ?_⟩
  · rcases h6 with ⟨h4, _, h5 | h5⟩ | ⟨l, h0, h5, _, h8, h9⟩
    · simp only at h4 h5; rw [h4, h5]; exact SlR.nil _ _
    · simp only at h4 h5; rw [h4, h5]; exact SlR.empty _ _ _
    · simp only at h5; rw [h5]; exact SlR.whole h9 rfl h8
  · rcases h7 with ⟨h4, _, h5 | h5⟩ | ⟨l, h0, h5, _, h8, h9⟩
    · simp only at h4 h5; rw [h4, h5]; exact SlR.nil _ _
    · simp only at h4 h5; rw [h4, h5]; exact SlR.empty _ _ _
    · simp only at h5; rw [h5]; exact SlR.whole h9 rfl h8
theorem pk_vw2 {lo hi : Nat} {h : IH} {cs : List IV} {p : Pk} (hv : Vw lo hi h t_Packet cs (pkD p)) : ∃ vo vp, cs = pkRow p vo vp ∧ PkAt h p vo vp := by
  unfold Vw pkD t_Packet at hv
  obtain ⟨_, _, _, _, rfl, e, ⟨n0, rfl, e'⟩, hv⟩ := hv
  cases e; cases e'
  obtain ⟨_, _, _, _, rfl, e, ⟨n1, rfl, e'⟩, hv⟩ := hv
  cases e; cases e'
  obtain ⟨_, _, _, _, rfl, e, ⟨n2, rfl, e'⟩, hv⟩ := hv
  cases e; cases e'
  obtain ⟨_, _, _, _, rfl, e, ⟨n3, rfl, e'⟩, hv⟩ := hv
  cases e; cases e'
  obtain ⟨_, _, _, _, rfl, e, ⟨n4, rfl, e'⟩, hv⟩ := hv
  cases e; cases e'
  obtain ⟨_, _, _, _, rfl, e, ⟨n5, rfl, e'⟩, hv⟩ := hv
  cases e; cases e'
  obtain ⟨_, _, _, _, rfl, e, ⟨n6, rfl, e'⟩, hv⟩ := hv
  cases e; cases e'
  obtain ⟨_, _, _, _, rfl, e, ⟨n7, rfl, e'⟩, hv⟩ := hv
  cases e; cases e'
  obtain ⟨_, _, _, _, rfl, e, ⟨n8, rfl, e'⟩, hv⟩ := hv
  cases e; cases e'
  obtain ⟨_, _, _, _, rfl, e, ho, hv⟩ := hv
  cases e
  obtain ⟨_, _, _, _, rfl, e, hp, hv⟩ := hv
  cases e
  obtain ⟨rfl, _⟩ := hv
  obtain ⟨vo, _, _, rfl, _⟩ := id ho
  obtain ⟨vp, _, _, rfl, _⟩ := id hp
  exact ⟨vo, vp, rfl, bytes_vw ho, bytes_vw hp⟩
theorem out_vw2 {lo hi : Nat} {h : IH} {cs : List IV} {o : Ot} (hv : Vw lo hi h t_ReasmOut cs (outD o)) : ∃ vo vp ve, cs = outRow o vo vp ve ∧ PkAt h o.pk vo vp ∧ ve.one = true := by
  unfold Vw outD t_ReasmOut at hv
  obtain ⟨_, _, _, _, rfl, e, ⟨n0, rfl, e'⟩, hv⟩ := hv
  cases e; cases e'
  obtain ⟨_, _, _, _, rfl, e, ⟨n1, rfl, e'⟩, hv⟩ := hv
  cases e; cases e'
  obtain ⟨_, _, _, _, rfl, e, hp, hv⟩ := hv
  cases e
  obtain ⟨_, _, _, _, rfl, e, he, hv⟩ := hv
  cases e
  obtain ⟨_, _, _, _, rfl, e, ⟨n2, rfl, e'⟩, hv⟩ := hv
  cases e; cases e'
  obtain ⟨_, _, _, _, rfl, e, ⟨n3, rfl, e'⟩, hv⟩ := hv
  cases e; cases e'
  obtain ⟨rfl, _⟩ := hv
  obtain ⟨vo, vp, rfl, ha⟩ := pk_vw2 hp
  obtain ⟨ve, _, _, rfl, _, hs, _⟩ := he
  exact ⟨vo, vp, ve, rfl, ha, hs.one⟩
/-- The answers that a slice holds. -/
structure OutsAt (h : IH) (v : IV) (os : List Ot) : Prop where
  sl : ∃ rs, SlR h 16 v rs ∧ rs.length = os.length ∧ ∀ (i : Nat) (o : Ot), os[i]? = some o → ∃ vo vp ve, rs[i]? = some (outRow o vo vp ve) ∧ PkAt h o.pk vo vp ∧ ve.one = true
theorem outs_vw {lo hi : Nat} {h : IH} {v : IV} {os : List Ot} (hv : Vw lo hi h (.slice 52 t_ReasmOut) [v] (.list (os.map outD))) : OutsAt h v os := by
  obtain ⟨v', rs, ds, e1, e2, hs, hS, ha⟩ := hv
  obtain rfl := (List.cons.inj e1).1
  cases e2
  refine ⟨rs, hs, ?_⟩
  clear hs hS
  generalize hd : os.map outD = ds at ha
  induction ha generalizing os with
  | nil =>
    cases os with
    | nil => exact ⟨rfl, by simp⟩
    | cons o os => cases hd
  | cons h1 h2 ih =>
    cases os with
    | nil => cases hd
    | cons o os =>
      cases hd
      obtain ⟨vo, vp, ve, rfl, a, z⟩ := out_vw2 h1
      obtain ⟨i1, i2⟩ := ih rfl
      refine ⟨by simp [i1], fun i q hq => ?_⟩
      cases i with
      | zero => simp at hq; subst hq; exact ⟨vo, vp, ve, rfl, a, z⟩
      | succ i => simpa using i2 i q (by simpa using hq)
theorem OutsAt.ext {h h' : IH} {v : IV} {os : List Ot} (a : OutsAt h v os) (E : Ext h h') : OutsAt h' v os := by
  obtain ⟨rs, h1, h2, h3⟩ := a.sl
  exact ⟨rs, h1.ext E, h2, fun i o ho => by obtain ⟨vo, vp, ve, e, p, z⟩ := h3 i o ho; exact ⟨vo, vp, ve, e, p.ext E, z⟩⟩
/-! ### What a cut is made of -/
theorem Cut.len {p : Pk} {R a : Nat} {F : List Pk} (h : Cut p R a F) : ∀ f ∈ F, f.pay.length ≤ R ∧ f.opts = p.opts := by
  induction h with
  | last a h0 h1 =>
    intro f hf
    obtain rfl := List.mem_singleton.1 hf
    exact ⟨by simp only [List.length_drop]; omega, rfl⟩
  | more a h0 hr ih =>
    intro f hf
    rcases List.mem_cons.1 hf with rfl | hf
    · exact ⟨by simp only [List.length_drop, List.length_take]; omega, rfl⟩
    · exact ih f hf
end Go.Proofs.Ytjmmmmdpkfpojaa

namespace Go.Proofs.Ytjmmmmdpkfpojaa
open Go Go.IW
/-- loop.example/g00003/laws.FnNoOthers -/
def c4 : CC :=
 (.seq (.reg [
   ⟨(some 2), none, .f (.mv (.c (.bool false)))⟩])
 (.seq (.seq (.reg [
   ⟨(some 19), none, .f (.mv (.t 0))⟩,
   ⟨(some 20), none, .f (.len (.t 19))⟩,
   ⟨(some 21), none, .f (.bin .gtr (.t 20) (.c (.int .i64 1048576)))⟩])
 (.cond (.t 21)
  (.seq (.reg [
    ⟨(some 2), none, .f (.mv (.c (.bool true)))⟩])
  .ret)
  .skip))
 (.seq (.reg [
   ⟨(some 22), none, .f (.mv (.t 0))⟩,
   ⟨(some 23), none, .x (.call 16 [(.t 22), (.c (.int .u64 8))])⟩,
   ⟨(some 3), none, .x (.zero 37 3 [.nilslice, (.int .i64 0), (.int .u64 0)])⟩,
   ⟨none, none, .x (.st 3 (.t 3) (.t 23))⟩])
 (.seq (.reg [
   ⟨(some 24), none, .x (.call 17 [(.t 3), (.c (.int .i64 14))])⟩,
   ⟨(some 25), none, .f (.bin .add (.c (.int .i64 1)) (.t 24))⟩,
   ⟨(some 4), none, .f (.mv (.t 25))⟩])
 (.seq (.reg [
   ⟨(some 26), none, .x (.bslice 44 11 [(.int .i64 0), (.int .i64 0), (.bool false), (.bool false), (.int .i64 0), (.int .i64 0), (.int .i64 0), (.int .i64 0), (.int .i64 0), .nilslice, .nilslice] 0 [])⟩,
   ⟨(some 5), none, .f (.mv (.t 26))⟩])
 (.seq (.reg [
   ⟨(some 27), none, .x (.bslice 44 11 [(.int .i64 0), (.int .i64 0), (.bool false), (.bool false), (.int .i64 0), (.int .i64 0), (.int .i64 0), (.int .i64 0), (.int .i64 0), .nilslice, .nilslice] 0 [])⟩,
   ⟨(some 6), none, .f (.mv (.t 27))⟩])
 (.seq (.reg [
   ⟨(some 28), none, .f (.mv (.t 4))⟩,
   ⟨(some 29), none, .x (.mks 4 1 1 [(.bool false)] (.t 28) (.t 28))⟩,
   ⟨(some 7), none, .f (.mv (.t 29))⟩])
 (.seq (.seq (.reg [
   ⟨(some 8), none, .f (.mv (.c (.int .i64 0)))⟩])
 (.block 0 (.loop (.seq (.seq (.reg [
     ⟨(some 30), none, .f (.mv (.t 8))⟩,
     ⟨(some 31), none, .f (.mv (.t 4))⟩,
     ⟨(some 32), none, .f (.bin .lss (.t 30) (.t 31))⟩])
   (.cond (.t 32)
    .skip
    (.exit 0)))
   (.seq (.block 1 (.seq (.reg [
      ⟨(some 35), none, .f (.mv (.t 8))⟩,
      ⟨(some 36), none, .x (.call 18 [(.t 3), (.t 35)])⟩,
      ⟨(some 9), none, .x (.zero 44 11 [(.int .i64 0), (.int .i64 0), (.bool false), (.bool false), (.int .i64 0), (.int .i64 0), (.int .i64 0), (.int .i64 0), (.int .i64 0), .nilslice, .nilslice])⟩,
      ⟨none, none, .x (.st 11 (.t 9) (.t 36))⟩])
    (.seq (.reg [
      ⟨(some 37), none, .f (.mv (.t 5))⟩,
      ⟨(some 38), none, .f (.ldA 11 (.t 9))⟩,
      ⟨(some 39), none, .x (.bslice 44 11 [(.int .i64 0), (.int .i64 0), (.bool false), (.bool false), (.int .i64 0), (.int .i64 0), (.int .i64 0), (.int .i64 0), (.int .i64 0), .nilslice, .nilslice] 1 [(0, (.t 38))])⟩,
      ⟨(some 40), none, .x (.app 44 11 112 (.t 37) (.t 39))⟩,
      ⟨(some 5), none, .f (.mv (.t 40))⟩])
    (.seq (.dreg [
      ⟨(some 42), none, .f (.ldA 11 (.t 9))⟩,
      ⟨(some 43), none, .x (.call 17 [(.t 3), (.c (.int .i64 200))])⟩,
      ⟨(some 44), none, .f (.bin .add (.c (.int .i64 80)) (.t 43))⟩,
      ⟨(some 45), none, .x (.call 19 [(.t 42), (.t 44)])⟩,
      ⟨(some 41), none, .f (.mv (.t 45))⟩,
      ⟨(some 46), none, .f (.ext 0 (.t 41))⟩,
      ⟨(some 47), none, .f (.ext 1 (.t 41))⟩,
      ⟨(some 10), none, .f (.mv (.t 46))⟩,
      ⟨(some 11), none, .f (.mv (.t 47))⟩]
      [false, true, false, true, false, false, false, false, false] [[], [], [1], [0, 2, 1], [3, 0, 2, 1], [4, 3, 0, 2, 1], [4, 3, 0, 2, 1], [5, 4, 3, 0, 2, 1], [6, 4, 3, 0, 2, 1, 7, 5]] [0, 1, 2, 3, 4, 5, 6, 7, 8])
    (.seq (.seq (.reg [
      ⟨(some 48), none, .f (.mv (.t 11))⟩,
      ⟨(some 49), none, .f (.bin .neq (.t 48) (.c (.int .i64 0)))⟩])
    (.cond (.t 49)
     (.seq (.reg [
       ⟨(some 2), none, .f (.mv (.c (.bool false)))⟩])
     .ret)
     .skip))
    (.seq (.reg [
      ⟨(some 12), none, .f (.mv (.c (.int .i64 0)))⟩])
    (.block 2 (.loop (.seq (.seq (.reg [
        ⟨(some 50), none, .f (.mv (.t 12))⟩,
        ⟨(some 51), none, .f (.mv (.t 10))⟩,
        ⟨(some 52), none, .f (.len (.t 51))⟩,
        ⟨(some 53), none, .f (.bin .lss (.t 50) (.t 52))⟩])
      (.cond (.t 53)
       .skip
       (.exit 2)))
      (.seq (.block 3 (.seq (.reg [
         ⟨(some 56), none, .x (.call 17 [(.t 3), (.c (.int .i64 12))])⟩])
       (.block 4 (.seq (.reg [
          ⟨(some 65), none, .f (.bin .eql (.t 56) (.c (.int .i64 0)))⟩,
          ⟨(some 64), none, .f (.mv (.t 65))⟩])
        (.cond (.t 64)
         (.reg [
           ⟨(some 66), none, .f (.mv (.t 7))⟩,
           ⟨(some 67), none, .f (.mv (.t 8))⟩,
           ⟨(some 68), none, .f (.iadr 1 (.t 66) (.t 67))⟩,
           ⟨none, none, .x (.st 1 (.t 68) (.c (.bool true)))⟩])
         (.seq (.reg [
           ⟨(some 70), none, .f (.bin .eql (.t 56) (.c (.int .i64 1)))⟩,
           ⟨(some 69), none, .f (.mv (.t 70))⟩])
         (.cond (.t 69)
          (.dreg [
            ⟨(some 71), none, .f (.mv (.t 6))⟩,
            ⟨(some 72), none, .f (.mv (.t 10))⟩,
            ⟨(some 73), none, .f (.mv (.t 12))⟩,
            ⟨(some 74), none, .f (.iadr 11 (.t 72) (.t 73))⟩,
            ⟨(some 75), none, .f (.ldA 11 (.t 74))⟩,
            ⟨(some 76), none, .f (.mv (.t 10))⟩,
            ⟨(some 77), none, .f (.mv (.t 12))⟩,
            ⟨(some 78), none, .f (.iadr 11 (.t 76) (.t 77))⟩,
            ⟨(some 79), none, .f (.ldA 11 (.t 78))⟩,
            ⟨(some 80), none, .x (.bslice 44 11 [(.int .i64 0), (.int .i64 0), (.bool false), (.bool false), (.int .i64 0), (.int .i64 0), (.int .i64 0), (.int .i64 0), (.int .i64 0), .nilslice, .nilslice] 2 [(0, (.t 75)), (1, (.t 79))])⟩,
            ⟨(some 81), none, .x (.app 44 11 112 (.t 71) (.t 80))⟩,
            ⟨(some 6), none, .f (.mv (.t 81))⟩]
            [false, false, false, false, false, false, false, false, false, true, true, true] [[], [], [], [1, 2], [3, 1, 2], [], [], [5, 6], [7, 5, 6], [4, 3, 1, 2, 8, 7, 5, 6], [0, 9, 4, 3, 1, 2, 8, 7, 5, 6], [10, 0, 9, 4, 3, 1, 2, 8, 7, 5, 6]] [0, 1, 2, 3, 4, 5, 6, 7, 8, 9, 10, 11])
          (.reg [
            ⟨(some 57), none, .f (.mv (.t 6))⟩,
            ⟨(some 58), none, .f (.mv (.t 10))⟩,
            ⟨(some 59), none, .f (.mv (.t 12))⟩,
            ⟨(some 60), none, .f (.iadr 11 (.t 58) (.t 59))⟩,
            ⟨(some 61), none, .f (.ldA 11 (.t 60))⟩,
            ⟨(some 62), none, .x (.bslice 44 11 [(.int .i64 0), (.int .i64 0), (.bool false), (.bool false), (.int .i64 0), (.int .i64 0), (.int .i64 0), (.int .i64 0), (.int .i64 0), .nilslice, .nilslice] 1 [(0, (.t 61))])⟩,
            ⟨(some 63), none, .x (.app 44 11 112 (.t 57) (.t 62))⟩,
            ⟨(some 6), none, .f (.mv (.t 63))⟩]))))))))
      (.reg [
        ⟨(some 54), none, .f (.mv (.t 12))⟩,
        ⟨(some 55), none, .f (.bin .add (.t 54) (.c (.int .i64 1)))⟩,
        ⟨(some 12), none, .f (.mv (.t 55))⟩])))))))))))
   (.reg [
     ⟨(some 33), none, .f (.mv (.t 8))⟩,
     ⟨(some 34), none, .f (.bin .add (.t 33) (.c (.int .i64 1)))⟩,
     ⟨(some 8), none, .f (.mv (.t 34))⟩]))))))
 (.seq (.reg [
   ⟨(some 83), none, .f (.mv (.t 6))⟩,
   ⟨(some 84), none, .x (.call 21 [(.t 3), (.t 83)])⟩,
   ⟨(some 85), none, .x (.call 20 [(.t 84)])⟩,
   ⟨(some 86), none, .x (.call 10 [(.t 85)])⟩,
   ⟨(some 82), none, .f (.mv (.t 86))⟩,
   ⟨(some 87), none, .f (.ext 0 (.t 82))⟩,
   ⟨(some 88), none, .f (.ext 1 (.t 82))⟩,
   ⟨(some 13), none, .f (.mv (.t 87))⟩,
   ⟨(some 14), none, .f (.mv (.t 88))⟩])
 (.seq (.seq (.reg [
   ⟨(some 89), none, .f (.mv (.t 14))⟩,
   ⟨(some 90), none, .f (.bin .neq (.t 89) (.c (.int .i64 0)))⟩,
   ⟨(some 91), none, .f (.mv (.t 90))⟩,
   ⟨(some 92), (some (91, false)), .f (.mv (.t 13))⟩,
   ⟨(some 93), (some (91, false)), .f (.len (.t 92))⟩,
   ⟨(some 94), (some (91, false)), .f (.mv (.t 6))⟩,
   ⟨(some 95), (some (91, false)), .f (.len (.t 94))⟩,
   ⟨(some 96), (some (91, false)), .f (.bin .neq (.t 93) (.t 95))⟩,
   ⟨(some 97), none, .f (.pick (.t 91) (.c (.bool true)) (.t 96))⟩])
 (.cond (.t 97)
  (.seq (.reg [
    ⟨(some 2), none, .f (.mv (.c (.bool false)))⟩])
  .ret)
  .skip))
 (.seq (.reg [
   ⟨(some 98), none, .f (.mv (.t 4))⟩,
   ⟨(some 99), none, .x (.mks 4 1 1 [(.bool false)] (.t 98) (.t 98))⟩,
   ⟨(some 15), none, .f (.mv (.t 99))⟩])
 (.seq (.seq (.reg [
   ⟨(some 16), none, .f (.mv (.c (.int .i64 0)))⟩])
 (.block 5 (.loop (.seq (.seq (.reg [
     ⟨(some 100), none, .f (.mv (.t 16))⟩,
     ⟨(some 101), none, .f (.mv (.t 13))⟩,
     ⟨(some 102), none, .f (.len (.t 101))⟩,
     ⟨(some 103), none, .f (.bin .lss (.t 100) (.t 102))⟩])
   (.cond (.t 103)
    .skip
    (.exit 5)))
   (.seq (.block 6 (.seq (.seq (.reg [
      ⟨(some 106), none, .f (.mv (.t 13))⟩,
      ⟨(some 107), none, .f (.mv (.t 16))⟩,
      ⟨(some 108), none, .f (.iadr 16 (.t 106) (.t 107))⟩,
      ⟨(some 109), none, .f (.fadr 14 (.t 108))⟩,
      ⟨(some 110), none, .f (.ld (.t 109))⟩,
      ⟨(some 111), none, .f (.bin .gtr (.t 110) (.c (.int .i64 16)))⟩])
    (.cond (.t 111)
     (.seq (.reg [
       ⟨(some 2), none, .f (.mv (.c (.bool false)))⟩])
     .ret)
     .skip))
    (.seq (.seq (.reg [
      ⟨(some 112), none, .f (.mv (.t 13))⟩,
      ⟨(some 113), none, .f (.mv (.t 16))⟩,
      ⟨(some 114), none, .f (.iadr 16 (.t 112) (.t 113))⟩,
      ⟨(some 115), none, .f (.fadr 1 (.t 114))⟩,
      ⟨(some 116), none, .f (.ld (.t 115))⟩,
      ⟨(some 117), none, .f (.un .not (.t 116))⟩])
    (.cond (.t 117)
     (.exit 6)
     .skip))
    (.seq (.reg [
      ⟨(some 118), none, .f (.mv (.t 13))⟩,
      ⟨(some 119), none, .f (.mv (.t 16))⟩,
      ⟨(some 120), none, .f (.iadr 16 (.t 118) (.t 119))⟩,
      ⟨(some 121), none, .f (.fadr 2 (.t 120))⟩,
      ⟨(some 122), none, .f (.fadr 1 (.t 121))⟩,
      ⟨(some 123), none, .f (.ld (.t 122))⟩,
      ⟨(some 17), none, .f (.mv (.t 123))⟩])
    (.seq (.seq (.dreg [
      ⟨(some 124), none, .f (.mv (.t 17))⟩,
      ⟨(some 125), none, .f (.bin .lss (.t 124) (.c (.int .i64 0)))⟩,
      ⟨(some 126), none, .f (.mv (.t 125))⟩,
      ⟨(some 127), (some (126, false)), .f (.mv (.t 17))⟩,
      ⟨(some 128), (some (126, false)), .f (.mv (.t 4))⟩,
      ⟨(some 129), (some (126, false)), .f (.bin .geq (.t 127) (.t 128))⟩,
      ⟨(some 130), none, .f (.pick (.t 126) (.c (.bool true)) (.t 129))⟩,
      ⟨(some 131), none, .f (.mv (.t 130))⟩,
      ⟨(some 132), (some (131, false)), .f (.mv (.t 13))⟩,
      ⟨(some 133), (some (131, false)), .f (.mv (.t 16))⟩,
      ⟨(some 134), (some (131, false)), .f (.iadr 16 (.t 132) (.t 133))⟩,
      ⟨(some 135), (some (131, false)), .f (.fadr 2 (.t 134))⟩,
      ⟨(some 136), (some (131, false)), .f (.ldA 11 (.t 135))⟩,
      ⟨(some 137), (some (131, false)), .f (.mv (.t 5))⟩,
      ⟨(some 138), (some (131, false)), .f (.mv (.t 17))⟩,
      ⟨(some 139), (some (131, false)), .f (.iadr 11 (.t 137) (.t 138))⟩,
      ⟨(some 140), (some (131, false)), .f (.ldA 11 (.t 139))⟩,
      ⟨(some 141), (some (131, false)), .x (.call 22 [(.t 136), (.t 140)])⟩,
      ⟨(some 142), (some (131, false)), .f (.un .not (.t 141))⟩,
      ⟨(some 143), none, .f (.pick (.t 131) (.c (.bool true)) (.t 142))⟩]
      [false, false, false, false, false, false, false, false, false, false, false, false, false, false, false, false, false, true, false, false] [[], [0], [1, 0], [2, 1, 0], [2, 1, 0], [3, 2, 1, 0, 4], [2, 1, 0, 5, 3, 4], [6, 2, 1, 0, 5, 3, 4], [7, 6, 2, 1, 0, 5, 3, 4], [7, 6, 2, 1, 0, 5, 3, 4], [8, 7, 6, 2, 1, 0, 5, 3, 4, 9], [10, 8, 7, 6, 2, 1, 0, 5, 3, 4, 9], [11, 10, 8, 7, 6, 2, 1, 0, 5, 3, 4, 9], [7, 6, 2, 1, 0, 5, 3, 4], [7, 6, 2, 1, 0, 5, 3, 4], [13, 7, 6, 2, 1, 0, 5, 3, 4, 14], [15, 13, 7, 6, 2, 1, 0, 5, 3, 4, 14], [12, 11, 10, 8, 7, 6, 2, 1, 0, 5, 3, 4, 9, 16, 15, 13, 14], [17, 12, 11, 10, 8, 7, 6, 2, 1, 0, 5, 3, 4, 9, 16, 15, 13, 14], [7, 6, 2, 1, 0, 5, 3, 4, 18, 17, 12, 11, 10, 8, 9, 16, 15, 13, 14]] [0, 1, 2, 3, 4, 5, 6, 7, 8, 9, 10, 11, 12, 13, 14, 15, 16, 17, 18, 19])
    (.cond (.t 143)
     (.seq (.reg [
       ⟨(some 2), none, .f (.mv (.c (.bool false)))⟩])
     .ret)
     .skip))
    (.reg [
      ⟨(some 144), none, .f (.mv (.t 15))⟩,
      ⟨(some 145), none, .f (.mv (.t 17))⟩,
      ⟨(some 146), none, .f (.iadr 1 (.t 144) (.t 145))⟩,
      ⟨none, none, .x (.st 1 (.t 146) (.c (.bool true)))⟩]))))))
   (.reg [
     ⟨(some 104), none, .f (.mv (.t 16))⟩,
     ⟨(some 105), none, .f (.bin .add (.t 104) (.c (.int .i64 1)))⟩,
     ⟨(some 16), none, .f (.mv (.t 105))⟩]))))))
 (.seq (.seq (.reg [
   ⟨(some 18), none, .f (.mv (.c (.int .i64 0)))⟩])
 (.block 7 (.loop (.seq (.seq (.reg [
     ⟨(some 147), none, .f (.mv (.t 18))⟩,
     ⟨(some 148), none, .f (.mv (.t 4))⟩,
     ⟨(some 149), none, .f (.bin .lss (.t 147) (.t 148))⟩])
   (.cond (.t 149)
    .skip
    (.exit 7)))
   (.seq (.block 8 (.seq (.reg [
      ⟨(some 152), none, .f (.mv (.t 15))⟩,
      ⟨(some 153), none, .f (.mv (.t 18))⟩,
      ⟨(some 154), none, .f (.iadr 1 (.t 152) (.t 153))⟩,
      ⟨(some 155), none, .f (.ld (.t 154))⟩,
      ⟨(some 156), none, .f (.un .not (.t 155))⟩,
      ⟨(some 157), none, .f (.mv (.t 156))⟩,
      ⟨(some 158), (some (157, true)), .f (.mv (.t 7))⟩,
      ⟨(some 159), (some (157, true)), .f (.mv (.t 18))⟩,
      ⟨(some 160), (some (157, true)), .f (.iadr 1 (.t 158) (.t 159))⟩,
      ⟨(some 161), (some (157, true)), .f (.ld (.t 160))⟩,
      ⟨(some 162), (some (157, true)), .f (.un .not (.t 161))⟩,
      ⟨(some 163), none, .f (.pick (.t 157) (.t 162) (.c (.bool false)))⟩,
      ⟨(some 164), none, .f (.mv (.t 163))⟩,
      ⟨(some 165), (some (164, false)), .f (.mv (.t 15))⟩,
      ⟨(some 166), (some (164, false)), .f (.mv (.t 18))⟩,
      ⟨(some 167), (some (164, false)), .f (.iadr 1 (.t 165) (.t 166))⟩,
      ⟨(some 168), (some (164, false)), .f (.ld (.t 167))⟩,
      ⟨(some 169), (some (164, false)), .f (.mv (.t 168))⟩,
      ⟨(some 170), (some (169, true)), .f (.mv (.t 7))⟩,
      ⟨(some 171), (some (169, true)), .f (.mv (.t 18))⟩,
      ⟨(some 172), (some (169, true)), .f (.iadr 1 (.t 170) (.t 171))⟩,
      ⟨(some 173), (some (169, true)), .f (.ld (.t 172))⟩,
      ⟨(some 174), (some (164, false)), .f (.pick (.t 169) (.t 173) (.c (.bool false)))⟩,
      ⟨(some 175), none, .f (.pick (.t 164) (.c (.bool true)) (.t 174))⟩])
    (.cond (.t 175)
     (.seq (.reg [
       ⟨(some 2), none, .f (.mv (.c (.bool false)))⟩])
     .ret)
     .skip)))
   (.reg [
     ⟨(some 150), none, .f (.mv (.t 18))⟩,
     ⟨(some 151), none, .f (.bin .add (.t 150) (.c (.int .i64 1)))⟩,
     ⟨(some 18), none, .f (.mv (.t 151))⟩]))))))
 (.seq (.reg [
   ⟨(some 2), none, .f (.mv (.c (.bool true)))⟩])
 .ret))))))))))))))
theorem ok4 : fnComp Try.prog 4 = some (176, c4, [(.mv (.t 2))]) := by kernel_rfl

/-- loop.example/g00003/laws.FnCutWhole -/
def c5 : CC :=
 (.seq (.reg [
   ⟨(some 2), none, .f (.mv (.c (.bool false)))⟩])
 (.seq (.seq (.reg [
   ⟨(some 17), none, .f (.mv (.t 0))⟩,
   ⟨(some 18), none, .f (.len (.t 17))⟩,
   ⟨(some 19), none, .f (.bin .gtr (.t 18) (.c (.int .i64 1048576)))⟩])
 (.cond (.t 19)
  (.seq (.reg [
    ⟨(some 2), none, .f (.mv (.c (.bool true)))⟩])
  .ret)
  .skip))
 (.seq (.reg [
   ⟨(some 20), none, .f (.mv (.t 0))⟩,
   ⟨(some 21), none, .x (.call 16 [(.t 20), (.c (.int .u64 7))])⟩,
   ⟨(some 3), none, .x (.zero 37 3 [.nilslice, (.int .i64 0), (.int .u64 0)])⟩,
   ⟨none, none, .x (.st 3 (.t 3) (.t 21))⟩])
 (.seq (.reg [
   ⟨(some 22), none, .x (.call 18 [(.t 3), (.c (.int .i64 5))])⟩,
   ⟨(some 4), none, .x (.zero 44 11 [(.int .i64 0), (.int .i64 0), (.bool false), (.bool false), (.int .i64 0), (.int .i64 0), (.int .i64 0), (.int .i64 0), (.int .i64 0), .nilslice, .nilslice])⟩,
   ⟨none, none, .x (.st 11 (.t 4) (.t 22))⟩])
 (.seq (.reg [
   ⟨(some 23), none, .x (.call 17 [(.t 3), (.c (.int .i64 288))])⟩,
   ⟨(some 24), none, .f (.bin .add (.c (.int .i64 80)) (.t 23))⟩,
   ⟨(some 5), none, .f (.mv (.t 24))⟩])
 (.seq (.reg [
   ⟨(some 26), none, .f (.ldA 11 (.t 4))⟩,
   ⟨(some 27), none, .f (.mv (.t 5))⟩,
   ⟨(some 28), none, .x (.call 19 [(.t 26), (.t 27)])⟩,
   ⟨(some 25), none, .f (.mv (.t 28))⟩,
   ⟨(some 29), none, .f (.ext 0 (.t 25))⟩,
   ⟨(some 30), none, .f (.ext 1 (.t 25))⟩,
   ⟨(some 6), none, .f (.mv (.t 29))⟩,
   ⟨(some 7), none, .f (.mv (.t 30))⟩])
 (.seq (.seq (.reg [
   ⟨(some 31), none, .f (.mv (.t 7))⟩,
   ⟨(some 32), none, .f (.bin .neq (.t 31) (.c (.int .i64 0)))⟩])
 (.cond (.t 32)
  (.seq (.reg [
    ⟨(some 2), none, .f (.mv (.c (.bool false)))⟩])
  .ret)
  .skip))
 (.seq (.reg [
   ⟨(some 33), none, .f (.mv (.t 5))⟩,
   ⟨(some 34), none, .f (.bin .sub (.t 33) (.c (.int .i64 67)))⟩,
   ⟨(some 35), none, .x (.call 17 [(.t 3), (.t 34)])⟩,
   ⟨(some 36), none, .f (.bin .add (.c (.int .i64 68)) (.t 35))⟩,
   ⟨(some 8), none, .f (.mv (.t 36))⟩])
 (.seq (.reg [
   ⟨(some 37), none, .x (.bslice 44 11 [(.int .i64 0), (.int .i64 0), (.bool false), (.bool false), (.int .i64 0), (.int .i64 0), (.int .i64 0), (.int .i64 0), (.int .i64 0), .nilslice, .nilslice] 0 [])⟩,
   ⟨(some 9), none, .f (.mv (.t 37))⟩])
 (.seq (.seq (.reg [
   ⟨(some 10), none, .f (.mv (.c (.int .i64 0)))⟩])
 (.block 0 (.loop (.seq (.seq (.reg [
     ⟨(some 38), none, .f (.mv (.t 10))⟩,
     ⟨(some 39), none, .f (.mv (.t 6))⟩,
     ⟨(some 40), none, .f (.len (.t 39))⟩,
     ⟨(some 41), none, .f (.bin .lss (.t 38) (.t 40))⟩])
   (.cond (.t 41)
    .skip
    (.exit 0)))
   (.seq (.block 1 (.seq (.seq (.dreg [
      ⟨(some 44), none, .f (.mv (.t 6))⟩,
      ⟨(some 45), none, .f (.mv (.t 10))⟩,
      ⟨(some 46), none, .f (.iadr 11 (.t 44) (.t 45))⟩,
      ⟨(some 47), none, .f (.ldA 11 (.t 46))⟩,
      ⟨(some 48), none, .x (.call 23 [(.t 47)])⟩,
      ⟨(some 49), none, .f (.mv (.t 5))⟩,
      ⟨(some 50), none, .f (.bin .gtr (.t 48) (.t 49))⟩,
      ⟨(some 51), none, .f (.mv (.t 50))⟩,
      ⟨(some 52), (some (51, false)), .f (.mv (.t 6))⟩,
      ⟨(some 53), (some (51, false)), .f (.mv (.t 10))⟩,
      ⟨(some 54), (some (51, false)), .f (.iadr 11 (.t 52) (.t 53))⟩,
      ⟨(some 55), (some (51, false)), .f (.ldA 11 (.t 54))⟩,
      ⟨(some 56), (some (51, false)), .x (.call 23 [(.t 55)])⟩,
      ⟨(some 57), (some (51, false)), .f (.mv (.t 6))⟩,
      ⟨(some 58), (some (51, false)), .f (.mv (.t 10))⟩,
      ⟨(some 59), (some (51, false)), .f (.iadr 11 (.t 57) (.t 58))⟩,
      ⟨(some 60), (some (51, false)), .f (.ldA 11 (.t 59))⟩,
      ⟨(some 61), (some (51, false)), .x (.call 24 [(.t 60)])⟩,
      ⟨(some 62), (some (51, false)), .f (.bin .neq (.t 56) (.t 61))⟩,
      ⟨(some 63), none, .f (.pick (.t 51) (.c (.bool true)) (.t 62))⟩]
      [false, false, false, false, true, false, false, false, false, false, false, false, true, false, false, false, false, true, false, false] [[], [], [0, 1], [2, 0, 1], [3, 2, 0, 1], [], [4, 3, 2, 0, 1, 5], [6, 4, 3, 2, 0, 1, 5], [7, 6, 4, 3, 2, 0, 1, 5], [7, 6, 4, 3, 2, 0, 1, 5], [8, 7, 6, 4, 3, 2, 0, 1, 5, 9], [10, 8, 7, 6, 4, 3, 2, 0, 1, 5, 9], [11, 10, 8, 7, 6, 4, 3, 2, 0, 1, 5, 9], [7, 6, 4, 3, 2, 0, 1, 5], [7, 6, 4, 3, 2, 0, 1, 5], [13, 7, 6, 4, 3, 2, 0, 1, 5, 14], [15, 13, 7, 6, 4, 3, 2, 0, 1, 5, 14], [16, 15, 13, 7, 6, 4, 3, 2, 0, 1, 5, 14, 12, 11, 10, 8, 9], [12, 11, 10, 8, 7, 6, 4, 3, 2, 0, 1, 5, 9, 17, 16, 15, 13, 14], [7, 6, 4, 3, 2, 0, 1, 5, 18, 12, 11, 10, 8, 9, 17, 16, 15, 13, 14]] [0, 1, 2, 3, 5, 4, 6, 7, 8, 9, 10, 11, 13, 14, 15, 16, 12, 17, 18, 19])
    (.cond (.t 63)
     (.seq (.reg [
       ⟨(some 2), none, .f (.mv (.c (.bool false)))⟩])
     .ret)
     .skip))
    (.seq (.reg [
      ⟨(some 65), none, .f (.mv (.t 6))⟩,
      ⟨(some 66), none, .f (.mv (.t 10))⟩,
      ⟨(some 67), none, .f (.iadr 11 (.t 65) (.t 66))⟩,
      ⟨(some 68), none, .f (.ldA 11 (.t 67))⟩,
      ⟨(some 69), none, .f (.mv (.t 8))⟩,
      ⟨(some 70), none, .x (.call 19 [(.t 68), (.t 69)])⟩,
      ⟨(some 64), none, .f (.mv (.t 70))⟩,
      ⟨(some 71), none, .f (.ext 0 (.t 64))⟩,
      ⟨(some 72), none, .f (.ext 1 (.t 64))⟩,
      ⟨(some 11), none, .f (.mv (.t 71))⟩,
      ⟨(some 12), none, .f (.mv (.t 72))⟩])
    (.seq (.seq (.reg [
      ⟨(some 73), none, .f (.mv (.t 12))⟩,
      ⟨(some 74), none, .f (.bin .neq (.t 73) (.c (.int .i64 0)))⟩])
    (.cond (.t 74)
     (.seq (.reg [
       ⟨(some 2), none, .f (.mv (.c (.bool false)))⟩])
     .ret)
     .skip))
    (.reg [
      ⟨(some 75), none, .f (.mv (.t 9))⟩,
      ⟨(some 76), none, .f (.mv (.t 11))⟩,
      ⟨(some 77), none, .x (.app 44 11 112 (.t 75) (.t 76))⟩,
      ⟨(some 9), none, .f (.mv (.t 77))⟩])))))
   (.reg [
     ⟨(some 42), none, .f (.mv (.t 10))⟩,
     ⟨(some 43), none, .f (.bin .add (.t 42) (.c (.int .i64 1)))⟩,
     ⟨(some 10), none, .f (.mv (.t 43))⟩]))))))
 (.seq (.reg [
   ⟨(some 78), none, .f (.mv (.t 9))⟩,
   ⟨(some 79), none, .x (.call 21 [(.t 3), (.t 78)])⟩,
   ⟨(some 9), none, .f (.mv (.t 79))⟩])
 (.seq (.reg [
   ⟨(some 81), none, .f (.mv (.t 9))⟩,
   ⟨(some 82), none, .x (.call 20 [(.t 81)])⟩,
   ⟨(some 83), none, .x (.call 10 [(.t 82)])⟩,
   ⟨(some 80), none, .f (.mv (.t 83))⟩,
   ⟨(some 84), none, .f (.ext 0 (.t 80))⟩,
   ⟨(some 85), none, .f (.ext 1 (.t 80))⟩,
   ⟨(some 13), none, .f (.mv (.t 84))⟩,
   ⟨(some 14), none, .f (.mv (.t 85))⟩])
 (.seq (.seq (.reg [
   ⟨(some 86), none, .f (.mv (.t 14))⟩,
   ⟨(some 87), none, .f (.bin .neq (.t 86) (.c (.int .i64 0)))⟩,
   ⟨(some 88), none, .f (.mv (.t 87))⟩,
   ⟨(some 89), (some (88, false)), .f (.mv (.t 13))⟩,
   ⟨(some 90), (some (88, false)), .f (.len (.t 89))⟩,
   ⟨(some 91), (some (88, false)), .f (.mv (.t 9))⟩,
   ⟨(some 92), (some (88, false)), .f (.len (.t 91))⟩,
   ⟨(some 93), (some (88, false)), .f (.bin .neq (.t 90) (.t 92))⟩,
   ⟨(some 94), none, .f (.pick (.t 88) (.c (.bool true)) (.t 93))⟩,
   ⟨(some 95), none, .f (.mv (.t 94))⟩,
   ⟨(some 96), (some (95, false)), .f (.mv (.t 9))⟩,
   ⟨(some 97), (some (95, false)), .f (.len (.t 96))⟩,
   ⟨(some 98), (some (95, false)), .f (.bin .eql (.t 97) (.c (.int .i64 0)))⟩,
   ⟨(some 99), none, .f (.pick (.t 95) (.c (.bool true)) (.t 98))⟩])
 (.cond (.t 99)
  (.seq (.reg [
    ⟨(some 2), none, .f (.mv (.c (.bool false)))⟩])
  .ret)
  .skip))
 (.seq (.seq (.reg [
   ⟨(some 15), none, .f (.mv (.c (.int .i64 0)))⟩])
 (.block 2 (.loop (.seq (.seq (.reg [
     ⟨(some 100), none, .f (.mv (.t 15))⟩,
     ⟨(some 101), none, .f (.mv (.t 13))⟩,
     ⟨(some 102), none, .f (.len (.t 101))⟩,
     ⟨(some 103), none, .f (.bin .lss (.t 100) (.t 102))⟩])
   (.cond (.t 103)
    .skip
    (.exit 2)))
   (.seq (.block 3 (.seq (.reg [
      ⟨(some 106), none, .f (.mv (.t 13))⟩,
      ⟨(some 107), none, .f (.mv (.t 15))⟩,
      ⟨(some 108), none, .f (.iadr 16 (.t 106) (.t 107))⟩,
      ⟨(some 109), none, .f (.fadr 0 (.t 108))⟩,
      ⟨(some 110), none, .f (.ld (.t 109))⟩,
      ⟨(some 111), none, .f (.bin .neq (.t 110) (.c (.int .i64 0)))⟩,
      ⟨(some 112), none, .f (.mv (.t 111))⟩,
      ⟨(some 113), (some (112, false)), .f (.mv (.t 13))⟩,
      ⟨(some 114), (some (112, false)), .f (.mv (.t 15))⟩,
      ⟨(some 115), (some (112, false)), .f (.iadr 16 (.t 113) (.t 114))⟩,
      ⟨(some 116), (some (112, false)), .f (.fadr 1 (.t 115))⟩,
      ⟨(some 117), (some (112, false)), .f (.ld (.t 116))⟩,
      ⟨(some 118), (some (112, false)), .f (.mv (.t 15))⟩,
      ⟨(some 119), (some (112, false)), .f (.mv (.t 13))⟩,
      ⟨(some 120), (some (112, false)), .f (.len (.t 119))⟩,
      ⟨(some 121), (some (112, false)), .f (.bin .sub (.t 120) (.c (.int .i64 1)))⟩,
      ⟨(some 122), (some (112, false)), .f (.bin .eql (.t 118) (.t 121))⟩,
      ⟨(some 123), (some (112, false)), .f (.binB true (.t 117) (.t 122))⟩,
      ⟨(some 124), none, .f (.pick (.t 112) (.c (.bool true)) (.t 123))⟩])
    (.cond (.t 124)
     (.seq (.reg [
       ⟨(some 2), none, .f (.mv (.c (.bool false)))⟩])
     .ret)
     .skip)))
   (.reg [
     ⟨(some 104), none, .f (.mv (.t 15))⟩,
     ⟨(some 105), none, .f (.bin .add (.t 104) (.c (.int .i64 1)))⟩,
     ⟨(some 15), none, .f (.mv (.t 105))⟩]))))))
 (.seq (.reg [
   ⟨(some 125), none, .f (.mv (.t 13))⟩,
   ⟨(some 126), none, .f (.mv (.t 13))⟩,
   ⟨(some 127), none, .f (.len (.t 126))⟩,
   ⟨(some 128), none, .f (.bin .sub (.t 127) (.c (.int .i64 1)))⟩,
   ⟨(some 129), none, .f (.iadr 16 (.t 125) (.t 128))⟩,
   ⟨(some 130), none, .f (.ldA 16 (.t 129))⟩,
   ⟨(some 16), none, .x (.zero 52 16 [(.int .i64 0), (.bool false), (.int .i64 0), (.int .i64 0), (.bool false), (.bool false), (.int .i64 0), (.int .i64 0), (.int .i64 0), (.int .i64 0), (.int .i64 0), .nilslice, .nilslice, .nilslice, (.int .i64 0), (.int .i64 0)])⟩,
   ⟨none, none, .x (.st 16 (.t 16) (.t 130))⟩])
 (.seq (.reg [
   ⟨(some 131), none, .f (.fadr 2 (.t 16))⟩,
   ⟨(some 132), none, .f (.ldA 11 (.t 131))⟩,
   ⟨(some 133), none, .f (.ldA 11 (.t 4))⟩,
   ⟨(some 134), none, .x (.call 22 [(.t 132), (.t 133)])⟩,
   ⟨(some 135), none, .f (.mv (.t 134))⟩,
   ⟨(some 136), (some (135, true)), .f (.fadr 14 (.t 16))⟩,
   ⟨(some 137), (some (135, true)), .f (.ld (.t 136))⟩,
   ⟨(some 138), (some (135, true)), .f (.bin .eql (.t 137) (.c (.int .i64 0)))⟩,
   ⟨(some 139), none, .f (.pick (.t 135) (.t 138) (.c (.bool false)))⟩,
   ⟨(some 140), none, .f (.mv (.t 139))⟩,
   ⟨(some 141), (some (140, true)), .f (.fadr 15 (.t 16))⟩,
   ⟨(some 142), (some (140, true)), .f (.ld (.t 141))⟩,
   ⟨(some 143), (some (140, true)), .f (.bin .eql (.t 142) (.c (.int .i64 0)))⟩,
   ⟨(some 144), none, .f (.pick (.t 140) (.t 143) (.c (.bool false)))⟩,
   ⟨(some 2), none, .f (.mv (.t 144))⟩])
 .ret))))))))))))))))
/-- loop.example/g00003/laws.FnOverlap -/
def c6 : CC :=
 (.seq (.reg [
   ⟨(some 2), none, .f (.mv (.c (.bool false)))⟩])
 (.seq (.seq (.reg [
   ⟨(some 15), none, .f (.mv (.t 0))⟩,
   ⟨(some 16), none, .f (.len (.t 15))⟩,
   ⟨(some 17), none, .f (.bin .gtr (.t 16) (.c (.int .i64 1048576)))⟩])
 (.cond (.t 17)
  (.seq (.reg [
    ⟨(some 2), none, .f (.mv (.c (.bool true)))⟩])
  .ret)
  .skip))
 (.seq (.reg [
   ⟨(some 18), none, .f (.mv (.t 0))⟩,
   ⟨(some 19), none, .x (.call 16 [(.t 18), (.c (.int .u64 9))])⟩,
   ⟨(some 3), none, .x (.zero 37 3 [.nilslice, (.int .i64 0), (.int .u64 0)])⟩,
   ⟨none, none, .x (.st 3 (.t 3) (.t 19))⟩])
 (.seq (.reg [
   ⟨(some 20), none, .x (.call 18 [(.t 3), (.c (.int .i64 5))])⟩,
   ⟨(some 4), none, .x (.zero 44 11 [(.int .i64 0), (.int .i64 0), (.bool false), (.bool false), (.int .i64 0), (.int .i64 0), (.int .i64 0), (.int .i64 0), (.int .i64 0), .nilslice, .nilslice])⟩,
   ⟨none, none, .x (.st 11 (.t 4) (.t 20))⟩])
 (.seq (.reg [
   ⟨(some 21), none, .f (.fadr 9 (.t 4))⟩,
   ⟨none, none, .x (.st 1 (.t 21) (.c .nilslice))⟩])
 (.seq (.reg [
   ⟨(some 22), none, .x (.call 17 [(.t 3), (.c (.int .i64 999))])⟩,
   ⟨(some 23), none, .x (.call 17 [(.t 3), (.c (.int .i64 300))])⟩,
   ⟨(some 24), none, .f (.bin .add (.c (.int .i64 120)) (.t 23))⟩,
   ⟨(some 25), none, .x (.call 25 [(.t 22), (.t 24)])⟩,
   ⟨(some 26), none, .f (.fadr 10 (.t 4))⟩,
   ⟨none, none, .x (.st 1 (.t 26) (.t 25))⟩])
 (.seq (.dreg [
   ⟨(some 28), none, .f (.ldA 11 (.t 4))⟩,
   ⟨(some 29), none, .x (.call 17 [(.t 3), (.c (.int .i64 30))])⟩,
   ⟨(some 30), none, .f (.bin .add (.c (.int .i64 68)) (.t 29))⟩,
   ⟨(some 31), none, .x (.call 19 [(.t 28), (.t 30)])⟩,
   ⟨(some 27), none, .f (.mv (.t 31))⟩,
   ⟨(some 32), none, .f (.ext 0 (.t 27))⟩,
   ⟨(some 33), none, .f (.ext 1 (.t 27))⟩,
   ⟨(some 5), none, .f (.mv (.t 32))⟩,
   ⟨(some 6), none, .f (.mv (.t 33))⟩]
   [false, true, false, true, false, false, false, false, false] [[], [], [1], [0, 2, 1], [3, 0, 2, 1], [4, 3, 0, 2, 1], [4, 3, 0, 2, 1], [5, 4, 3, 0, 2, 1], [6, 4, 3, 0, 2, 1, 7, 5]] [0, 1, 2, 3, 4, 5, 6, 7, 8])
 (.seq (.seq (.reg [
   ⟨(some 34), none, .f (.mv (.t 6))⟩,
   ⟨(some 35), none, .f (.bin .neq (.t 34) (.c (.int .i64 0)))⟩,
   ⟨(some 36), none, .f (.mv (.t 35))⟩,
   ⟨(some 37), (some (36, false)), .f (.mv (.t 5))⟩,
   ⟨(some 38), (some (36, false)), .f (.len (.t 37))⟩,
   ⟨(some 39), (some (36, false)), .f (.bin .lss (.t 38) (.c (.int .i64 2)))⟩,
   ⟨(some 40), none, .f (.pick (.t 36) (.c (.bool true)) (.t 39))⟩])
 (.cond (.t 40)
  (.seq (.reg [
    ⟨(some 2), none, .f (.mv (.c (.bool false)))⟩])
  .ret)
  .skip))
 (.seq (.reg [
   ⟨(some 41), none, .f (.mv (.t 5))⟩,
   ⟨(some 42), none, .x (.call 21 [(.t 3), (.t 41)])⟩,
   ⟨(some 5), none, .f (.mv (.t 42))⟩])
 (.seq (.reg [
   ⟨(some 43), none, .f (.mv (.t 5))⟩,
   ⟨(some 44), none, .f (.mv (.t 5))⟩,
   ⟨(some 45), none, .f (.len (.t 44))⟩,
   ⟨(some 46), none, .f (.bin .sub (.t 45) (.c (.int .i64 1)))⟩,
   ⟨(some 47), none, .x (.call 17 [(.t 3), (.t 46)])⟩,
   ⟨(some 48), none, .f (.iadr 11 (.t 43) (.t 47))⟩,
   ⟨(some 49), none, .f (.ldA 11 (.t 48))⟩,
   ⟨(some 7), none, .x (.zero 44 11 [(.int .i64 0), (.int .i64 0), (.bool false), (.bool false), (.int .i64 0), (.int .i64 0), (.int .i64 0), (.int .i64 0), (.int .i64 0), .nilslice, .nilslice])⟩,
   ⟨none, none, .x (.st 11 (.t 7) (.t 49))⟩])
 (.seq (.reg [
   ⟨(some 50), none, .x (.bslice 5 1 [(.int .u8 0)] 0 [])⟩,
   ⟨(some 51), none, .f (.fadr 10 (.t 7))⟩,
   ⟨(some 52), none, .f (.ld (.t 51))⟩,
   ⟨(some 53), none, .f (.fadr 10 (.t 7))⟩,
   ⟨(some 54), none, .f (.ld (.t 53))⟩,
   ⟨(some 55), none, .f (.len (.t 54))⟩,
   ⟨(some 56), none, .f (.bin .sub (.t 55) (.c (.int .i64 1)))⟩,
   ⟨(some 57), none, .f (.slc 1 (.t 52) none (some (.t 56)) none)⟩,
   ⟨(some 58), none, .x (.app 5 1 1 (.t 50) (.t 57))⟩,
   ⟨(some 59), none, .f (.fadr 10 (.t 7))⟩,
   ⟨none, none, .x (.st 1 (.t 59) (.t 58))⟩])
 (.seq (.reg [
   ⟨(some 60), none, .f (.fadr 3 (.t 7))⟩,
   ⟨none, none, .x (.st 1 (.t 60) (.c (.bool false)))⟩])
 (.seq (.seq (.reg [
   ⟨(some 61), none, .x (.call 17 [(.t 3), (.c (.int .i64 2))])⟩,
   ⟨(some 62), none, .f (.bin .eql (.t 61) (.c (.int .i64 0)))⟩,
   ⟨(some 63), none, .f (.mv (.t 62))⟩,
   ⟨(some 64), (some (63, false)), .f (.fadr 10 (.t 7))⟩,
   ⟨(some 65), (some (63, false)), .f (.ld (.t 64))⟩,
   ⟨(some 66), (some (63, false)), .f (.len (.t 65))⟩,
   ⟨(some 67), (some (63, false)), .f (.bin .eql (.t 66) (.c (.int .i64 0)))⟩,
   ⟨(some 68), none, .f (.pick (.t 63) (.c (.bool true)) (.t 67))⟩,
   ⟨(some 69), none, .f (.mv (.t 68))⟩,
   ⟨(some 70), (some (69, false)), .f (.fadr 4 (.t 7))⟩,
   ⟨(some 71), (some (69, false)), .f (.ld (.t 70))⟩,
   ⟨(some 72), (some (69, false)), .f (.bin .eql (.t 71) (.c (.int .i64 0)))⟩,
   ⟨(some 73), none, .f (.pick (.t 69) (.c (.bool true)) (.t 72))⟩])
 (.cond (.t 73)
  (.seq (.reg [
    ⟨(some 74), none, .f (.fadr 10 (.t 7))⟩,
    ⟨(some 75), none, .f (.ld (.t 74))⟩,
    ⟨(some 76), none, .f (.len (.t 75))⟩,
    ⟨(some 77), none, .f (.bin .quo (.t 76) (.c (.int .i64 8)))⟩,
    ⟨(some 78), none, .f (.bin .mul (.c (.int .i64 8)) (.t 77))⟩,
    ⟨(some 79), none, .f (.bin .add (.t 78) (.c (.int .i64 8)))⟩,
    ⟨(some 80), none, .x (.call 25 [(.c (.int .i64 0)), (.t 79)])⟩,
    ⟨(some 81), none, .f (.fadr 10 (.t 7))⟩,
    ⟨none, none, .x (.st 1 (.t 81) (.t 80))⟩])
  (.seq (.reg [
    ⟨(some 82), none, .f (.fadr 3 (.t 7))⟩,
    ⟨none, none, .x (.st 1 (.t 82) (.c (.bool true)))⟩])
  (.seq (.reg [
    ⟨(some 83), none, .f (.fadr 4 (.t 7))⟩,
    ⟨(some 84), none, .f (.ld (.t 83))⟩,
    ⟨(some 85), none, .f (.bin .add (.t 84) (.c (.int .i64 8)))⟩,
    ⟨(some 86), none, .f (.fadr 4 (.t 7))⟩,
    ⟨none, none, .x (.st 1 (.t 86) (.t 85))⟩])
  (.seq (.reg [
    ⟨(some 87), none, .f (.fadr 10 (.t 7))⟩,
    ⟨(some 88), none, .f (.ld (.t 87))⟩,
    ⟨(some 89), none, .f (.len (.t 88))⟩,
    ⟨(some 90), none, .f (.bin .lss (.t 89) (.c (.int .i64 16)))⟩])
  (.cond (.t 90)
   (.seq (.reg [
     ⟨(some 91), none, .x (.call 25 [(.c (.int .i64 0)), (.c (.int .i64 16))])⟩,
     ⟨(some 92), none, .f (.fadr 10 (.t 7))⟩,
     ⟨none, none, .x (.st 1 (.t 92) (.t 91))⟩])
   (.reg [
     ⟨(some 93), none, .f (.fadr 4 (.t 7))⟩,
     ⟨(some 94), none, .f (.ld (.t 93))⟩,
     ⟨(some 95), none, .f (.bin .sub (.t 94) (.c (.int .i64 16)))⟩,
     ⟨(some 96), none, .f (.fadr 4 (.t 7))⟩,
     ⟨none, none, .x (.st 1 (.t 96) (.t 95))⟩]))
   .skip)))))
  .skip))
 (.seq (.seq (.reg [
   ⟨(some 97), none, .f (.fadr 4 (.t 7))⟩,
   ⟨(some 98), none, .f (.ld (.t 97))⟩,
   ⟨(some 99), none, .f (.bin .lss (.t 98) (.c (.int .i64 0)))⟩])
 (.cond (.t 99)
  (.seq (.reg [
    ⟨(some 100), none, .f (.fadr 4 (.t 7))⟩,
    ⟨none, none, .x (.st 1 (.t 100) (.c (.int .i64 0)))⟩])
  (.reg [
    ⟨(some 101), none, .x (.call 25 [(.c (.int .i64 0)), (.c (.int .i64 16))])⟩,
    ⟨(some 102), none, .f (.fadr 10 (.t 7))⟩,
    ⟨none, none, .x (.st 1 (.t 102) (.t 101))⟩]))
  .skip))
 (.seq (.reg [
   ⟨(some 103), none, .f (.mv (.t 5))⟩,
   ⟨(some 104), none, .f (.mv (.t 5))⟩,
   ⟨(some 105), none, .f (.len (.t 104))⟩,
   ⟨(some 106), none, .f (.bin .sub (.t 105) (.c (.int .i64 1)))⟩,
   ⟨(some 107), none, .f (.slc 11 (.t 103) none (some (.t 106)) none)⟩,
   ⟨(some 108), none, .x (.call 20 [(.t 107)])⟩,
   ⟨(some 8), none, .f (.mv (.t 108))⟩])
 (.seq (.reg [
   ⟨(some 109), none, .f (.mv (.t 8))⟩,
   ⟨(some 110), none, .f (.ldA 11 (.t 7))⟩,
   ⟨(some 111), none, .x (.bslice 44 11 [(.int .i64 0), (.int .i64 0), (.bool false), (.bool false), (.int .i64 0), (.int .i64 0), (.int .i64 0), (.int .i64 0), (.int .i64 0), .nilslice, .nilslice] 1 [(0, (.t 110))])⟩,
   ⟨(some 112), none, .x (.call 20 [(.t 111)])⟩,
   ⟨(some 113), none, .x (.app 58 13 128 (.t 109) (.t 112))⟩,
   ⟨(some 8), none, .f (.mv (.t 113))⟩])
 (.seq (.reg [
   ⟨(some 114), none, .f (.mv (.t 8))⟩,
   ⟨(some 115), none, .f (.mv (.t 5))⟩,
   ⟨(some 116), none, .f (.mv (.t 5))⟩,
   ⟨(some 117), none, .f (.len (.t 116))⟩,
   ⟨(some 118), none, .f (.bin .sub (.t 117) (.c (.int .i64 1)))⟩,
   ⟨(some 119), none, .f (.slc 11 (.t 115) (some (.t 118)) none none)⟩,
   ⟨(some 120), none, .x (.call 20 [(.t 119)])⟩,
   ⟨(some 121), none, .x (.app 58 13 128 (.t 114) (.t 120))⟩,
   ⟨(some 8), none, .f (.mv (.t 121))⟩])
 (.seq (.reg [
   ⟨(some 122), none, .f (.mv (.t 8))⟩,
   ⟨(some 123), none, .f (.build [(.int .i64 0), (.int .i64 0), (.int .i64 0), (.int .i64 0), (.bool false), (.bool false), (.int .i64 0), (.int .i64 0), (.int .i64 0), (.int .i64 0), (.int .i64 0), .nilslice, .nilslice] [(0, 1, (.c (.int .i64 2))), (1, 1, (.c (.int .i64 30000)))])⟩,
   ⟨(some 124), none, .x (.bslice 58 13 [(.int .i64 0), (.int .i64 0), (.int .i64 0), (.int .i64 0), (.bool false), (.bool false), (.int .i64 0), (.int .i64 0), (.int .i64 0), (.int .i64 0), (.int .i64 0), .nilslice, .nilslice] 1 [(0, (.t 123))])⟩,
   ⟨(some 125), none, .x (.app 58 13 128 (.t 122) (.t 124))⟩,
   ⟨(some 8), none, .f (.mv (.t 125))⟩])
 (.seq (.reg [
   ⟨(some 126), none, .f (.mv (.t 8))⟩,
   ⟨(some 127), none, .f (.mv (.t 5))⟩,
   ⟨(some 128), none, .x (.call 20 [(.t 127)])⟩,
   ⟨(some 129), none, .x (.app 58 13 128 (.t 126) (.t 128))⟩,
   ⟨(some 8), none, .f (.mv (.t 129))⟩])
 (.seq (.reg [
   ⟨(some 131), none, .f (.mv (.t 8))⟩,
   ⟨(some 132), none, .x (.call 8 [(.t 131)])⟩,
   ⟨(some 130), none, .f (.mv (.t 132))⟩,
   ⟨(some 133), none, .f (.ext 0 (.t 130))⟩,
   ⟨(some 134), none, .f (.ext 1 (.t 130))⟩,
   ⟨(some 9), none, .f (.mv (.t 133))⟩,
   ⟨(some 10), none, .f (.mv (.t 134))⟩])
 (.seq (.reg [
   ⟨(some 136), none, .f (.mv (.t 8))⟩,
   ⟨(some 137), none, .x (.call 10 [(.t 136)])⟩,
   ⟨(some 135), none, .f (.mv (.t 137))⟩,
   ⟨(some 138), none, .f (.ext 0 (.t 135))⟩,
   ⟨(some 139), none, .f (.ext 1 (.t 135))⟩,
   ⟨(some 11), none, .f (.mv (.t 138))⟩,
   ⟨(some 12), none, .f (.mv (.t 139))⟩])
 (.seq (.seq (.reg [
   ⟨(some 140), none, .f (.mv (.t 12))⟩,
   ⟨(some 141), none, .f (.bin .neq (.t 140) (.c (.int .i64 0)))⟩,
   ⟨(some 142), none, .f (.mv (.t 141))⟩,
   ⟨(some 143), (some (142, false)), .f (.mv (.t 11))⟩,
   ⟨(some 144), (some (142, false)), .f (.len (.t 143))⟩,
   ⟨(some 145), (some (142, false)), .f (.mv (.t 8))⟩,
   ⟨(some 146), (some (142, false)), .f (.len (.t 145))⟩,
   ⟨(some 147), (some (142, false)), .f (.bin .neq (.t 144) (.t 146))⟩,
   ⟨(some 148), none, .f (.pick (.t 142) (.c (.bool true)) (.t 147))⟩])
 (.cond (.t 148)
  (.seq (.reg [
    ⟨(some 2), none, .f (.mv (.c (.bool false)))⟩])
  .ret)
  .skip))
 (.seq (.seq (.reg [
   ⟨(some 13), none, .f (.mv (.c (.int .i64 0)))⟩])
 (.block 0 (.loop (.seq (.seq (.reg [
     ⟨(some 149), none, .f (.mv (.t 13))⟩,
     ⟨(some 150), none, .f (.mv (.t 11))⟩,
     ⟨(some 151), none, .f (.len (.t 150))⟩,
     ⟨(some 152), none, .f (.bin .sub (.t 151) (.c (.int .i64 1)))⟩,
     ⟨(some 153), none, .f (.bin .lss (.t 149) (.t 152))⟩])
   (.cond (.t 153)
    .skip
    (.exit 0)))
   (.seq (.block 1 (.seq (.dreg [
      ⟨(some 156), none, .f (.mv (.t 11))⟩,
      ⟨(some 157), none, .f (.mv (.t 13))⟩,
      ⟨(some 158), none, .f (.iadr 16 (.t 156) (.t 157))⟩,
      ⟨(some 159), none, .f (.fadr 1 (.t 158))⟩,
      ⟨(some 160), none, .f (.ld (.t 159))⟩,
      ⟨(some 161), none, .f (.mv (.t 160))⟩,
      ⟨(some 162), (some (161, false)), .f (.mv (.t 11))⟩,
      ⟨(some 163), (some (161, false)), .f (.mv (.t 13))⟩,
      ⟨(some 164), (some (161, false)), .f (.iadr 16 (.t 162) (.t 163))⟩,
      ⟨(some 165), (some (161, false)), .f (.fadr 15 (.t 164))⟩,
      ⟨(some 166), (some (161, false)), .f (.ld (.t 165))⟩,
      ⟨(some 167), (some (161, false)), .f (.mv (.t 9))⟩,
      ⟨(some 168), (some (161, false)), .f (.mv (.t 13))⟩,
      ⟨(some 169), (some (161, false)), .f (.iadr 16 (.t 167) (.t 168))⟩,
      ⟨(some 170), (some (161, false)), .f (.fadr 15 (.t 169))⟩,
      ⟨(some 171), (some (161, false)), .f (.ld (.t 170))⟩,
      ⟨(some 172), (some (161, false)), .f (.bin .neq (.t 166) (.t 171))⟩,
      ⟨(some 173), none, .f (.pick (.t 161) (.c (.bool true)) (.t 172))⟩,
      ⟨(some 174), none, .f (.mv (.t 173))⟩,
      ⟨(some 175), (some (174, false)), .f (.mv (.t 11))⟩,
      ⟨(some 176), (some (174, false)), .f (.mv (.t 13))⟩,
      ⟨(some 177), (some (174, false)), .f (.iadr 16 (.t 175) (.t 176))⟩,
      ⟨(some 178), (some (174, false)), .f (.fadr 14 (.t 177))⟩,
      ⟨(some 179), (some (174, false)), .f (.ld (.t 178))⟩,
      ⟨(some 180), (some (174, false)), .f (.mv (.t 9))⟩,
      ⟨(some 181), (some (174, false)), .f (.mv (.t 13))⟩,
      ⟨(some 182), (some (174, false)), .f (.iadr 16 (.t 180) (.t 181))⟩,
      ⟨(some 183), (some (174, false)), .f (.fadr 14 (.t 182))⟩,
      ⟨(some 184), (some (174, false)), .f (.ld (.t 183))⟩,
      ⟨(some 185), (some (174, false)), .f (.bin .neq (.t 179) (.t 184))⟩,
      ⟨(some 186), none, .f (.pick (.t 174) (.c (.bool true)) (.t 185))⟩]
      [false, false, false, false, false, false, false, false, false, false, false, false, false, false, false, false, false, false, false, false, false, false, false, false, false, false, false, false, false, false, false] [[], [], [0, 1], [2, 0, 1], [3, 2, 0, 1], [4, 3, 2, 0, 1], [5, 4, 3, 2, 0, 1], [5, 4, 3, 2, 0, 1], [6, 5, 4, 3, 2, 0, 1, 7], [8, 6, 5, 4, 3, 2, 0, 1, 7], [9, 8, 6, 5, 4, 3, 2, 0, 1, 7], [5, 4, 3, 2, 0, 1], [5, 4, 3, 2, 0, 1], [11, 5, 4, 3, 2, 0, 1, 12], [13, 11, 5, 4, 3, 2, 0, 1, 12], [14, 13, 11, 5, 4, 3, 2, 0, 1, 12], [10, 9, 8, 6, 5, 4, 3, 2, 0, 1, 7, 15, 14, 13, 11, 12], [5, 4, 3, 2, 0, 1, 16, 10, 9, 8, 6, 7, 15, 14, 13, 11, 12], [17, 5, 4, 3, 2, 0, 1, 16, 10, 9, 8, 6, 7, 15, 14, 13, 11, 12], [18, 17, 5, 4, 3, 2, 0, 1, 16, 10, 9, 8, 6, 7, 15, 14, 13, 11, 12], [18, 17, 5, 4, 3, 2, 0, 1, 16, 10, 9, 8, 6, 7, 15, 14, 13, 11, 12], [19, 18, 17, 5, 4, 3, 2, 0, 1, 16, 10, 9, 8, 6, 7, 15, 14, 13, 11, 12, 20], [21, 19, 18, 17, 5, 4, 3, 2, 0, 1, 16, 10, 9, 8, 6, 7, 15, 14, 13, 11, 12, 20], [22, 21, 19, 18, 17, 5, 4, 3, 2, 0, 1, 16, 10, 9, 8, 6, 7, 15, 14, 13, 11, 12, 20], [18, 17, 5, 4, 3, 2, 0, 1, 16, 10, 9, 8, 6, 7, 15, 14, 13, 11, 12], [18, 17, 5, 4, 3, 2, 0, 1, 16, 10, 9, 8, 6, 7, 15, 14, 13, 11, 12], [24, 18, 17, 5, 4, 3, 2, 0, 1, 16, 10, 9, 8, 6, 7, 15, 14, 13, 11, 12, 25], [26, 24, 18, 17, 5, 4, 3, 2, 0, 1, 16, 10, 9, 8, 6, 7, 15, 14, 13, 11, 12, 25], [27, 26, 24, 18, 17, 5, 4, 3, 2, 0, 1, 16, 10, 9, 8, 6, 7, 15, 14, 13, 11, 12, 25], [23, 22, 21, 19, 18, 17, 5, 4, 3, 2, 0, 1, 16, 10, 9, 8, 6, 7, 15, 14, 13, 11, 12, 20, 28, 27, 26, 24, 25], [18, 17, 5, 4, 3, 2, 0, 1, 16, 10, 9, 8, 6, 7, 15, 14, 13, 11, 12, 29, 23, 22, 21, 19, 20, 28, 27, 26, 24, 25]] [0, 1, 2, 3, 4, 5, 6, 7, 8, 9, 10, 11, 12, 13, 14, 15, 16, 17, 18, 19, 20, 21, 22, 23, 24, 25, 26, 27, 28, 29, 30])
    (.cond (.t 186)
     (.seq (.reg [
       ⟨(some 2), none, .f (.mv (.c (.bool false)))⟩])
     .ret)
     .skip)))
   (.reg [
     ⟨(some 154), none, .f (.mv (.t 13))⟩,
     ⟨(some 155), none, .f (.bin .add (.t 154) (.c (.int .i64 1)))⟩,
     ⟨(some 13), none, .f (.mv (.t 155))⟩]))))))
 (.seq (.reg [
   ⟨(some 187), none, .f (.mv (.t 5))⟩,
   ⟨(some 188), none, .f (.len (.t 187))⟩,
   ⟨(some 14), none, .f (.mv (.t 188))⟩])
 (.seq (.dreg [
   ⟨(some 189), none, .f (.mv (.t 11))⟩,
   ⟨(some 190), none, .f (.mv (.t 14))⟩,
   ⟨(some 191), none, .f (.iadr 16 (.t 189) (.t 190))⟩,
   ⟨(some 192), none, .f (.fadr 15 (.t 191))⟩,
   ⟨(some 193), none, .f (.ld (.t 192))⟩,
   ⟨(some 194), none, .f (.bin .eql (.t 193) (.c (.int .i64 0)))⟩,
   ⟨(some 195), none, .f (.mv (.t 194))⟩,
   ⟨(some 196), (some (195, true)), .f (.mv (.t 11))⟩,
   ⟨(some 197), (some (195, true)), .f (.mv (.t 14))⟩,
   ⟨(some 198), (some (195, true)), .f (.bin .add (.t 197) (.c (.int .i64 1)))⟩,
   ⟨(some 199), (some (195, true)), .f (.iadr 16 (.t 196) (.t 198))⟩,
   ⟨(some 200), (some (195, true)), .f (.fadr 14 (.t 199))⟩,
   ⟨(some 201), (some (195, true)), .f (.ld (.t 200))⟩,
   ⟨(some 202), (some (195, true)), .f (.bin .eql (.t 201) (.c (.int .i64 0)))⟩,
   ⟨(some 203), none, .f (.pick (.t 195) (.t 202) (.c (.bool false)))⟩,
   ⟨(some 204), none, .f (.mv (.t 203))⟩,
   ⟨(some 205), (some (204, true)), .f (.mv (.t 11))⟩,
   ⟨(some 206), (some (204, true)), .f (.mv (.t 11))⟩,
   ⟨(some 207), (some (204, true)), .f (.len (.t 206))⟩,
   ⟨(some 208), (some (204, true)), .f (.bin .sub (.t 207) (.c (.int .i64 1)))⟩,
   ⟨(some 209), (some (204, true)), .f (.iadr 16 (.t 205) (.t 208))⟩,
   ⟨(some 210), (some (204, true)), .f (.fadr 1 (.t 209))⟩,
   ⟨(some 211), (some (204, true)), .f (.ld (.t 210))⟩,
   ⟨(some 212), none, .f (.pick (.t 204) (.t 211) (.c (.bool false)))⟩,
   ⟨(some 213), none, .f (.mv (.t 212))⟩,
   ⟨(some 214), (some (213, true)), .f (.mv (.t 11))⟩,
   ⟨(some 215), (some (213, true)), .f (.mv (.t 11))⟩,
   ⟨(some 216), (some (213, true)), .f (.len (.t 215))⟩,
   ⟨(some 217), (some (213, true)), .f (.bin .sub (.t 216) (.c (.int .i64 1)))⟩,
   ⟨(some 218), (some (213, true)), .f (.iadr 16 (.t 214) (.t 217))⟩,
   ⟨(some 219), (some (213, true)), .f (.fadr 2 (.t 218))⟩,
   ⟨(some 220), (some (213, true)), .f (.ldA 11 (.t 219))⟩,
   ⟨(some 221), (some (213, true)), .f (.ldA 11 (.t 4))⟩,
   ⟨(some 222), (some (213, true)), .x (.call 22 [(.t 220), (.t 221)])⟩,
   ⟨(some 223), none, .f (.pick (.t 213) (.t 222) (.c (.bool false)))⟩,
   ⟨(some 2), none, .f (.mv (.t 223))⟩]
   [false, false, false, false, false, false, false, false, false, false, false, false, false, false, false, false, false, false, false, false, false, false, false, false, false, false, false, false, false, false, false, false, false, true, false, false] [[], [], [0, 1], [2, 0, 1], [3, 2, 0, 1], [4, 3, 2, 0, 1], [5, 4, 3, 2, 0, 1], [6, 5, 4, 3, 2, 0, 1], [6, 5, 4, 3, 2, 0, 1], [8, 6, 5, 4, 3, 2, 0, 1], [7, 6, 5, 4, 3, 2, 0, 1, 9, 8], [10, 7, 6, 5, 4, 3, 2, 0, 1, 9, 8], [11, 10, 7, 6, 5, 4, 3, 2, 0, 1, 9, 8], [12, 11, 10, 7, 6, 5, 4, 3, 2, 0, 1, 9, 8], [6, 5, 4, 3, 2, 0, 1, 13, 12, 11, 10, 7, 9, 8], [14, 6, 5, 4, 3, 2, 0, 1, 13, 12, 11, 10, 7, 9, 8], [15, 14, 6, 5, 4, 3, 2, 0, 1, 13, 12, 11, 10, 7, 9, 8], [15, 14, 6, 5, 4, 3, 2, 0, 1, 13, 12, 11, 10, 7, 9, 8], [17, 15, 14, 6, 5, 4, 3, 2, 0, 1, 13, 12, 11, 10, 7, 9, 8], [18, 17, 15, 14, 6, 5, 4, 3, 2, 0, 1, 13, 12, 11, 10, 7, 9, 8], [16, 15, 14, 6, 5, 4, 3, 2, 0, 1, 13, 12, 11, 10, 7, 9, 8, 19, 18, 17], [20, 16, 15, 14, 6, 5, 4, 3, 2, 0, 1, 13, 12, 11, 10, 7, 9, 8, 19, 18, 17], [21, 20, 16, 15, 14, 6, 5, 4, 3, 2, 0, 1, 13, 12, 11, 10, 7, 9, 8, 19, 18, 17], [15, 14, 6, 5, 4, 3, 2, 0, 1, 13, 12, 11, 10, 7, 9, 8, 22, 21, 20, 16, 19, 18, 17], [23, 15, 14, 6, 5, 4, 3, 2, 0, 1, 13, 12, 11, 10, 7, 9, 8, 22, 21, 20, 16, 19, 18, 17], [24, 23, 15, 14, 6, 5, 4, 3, 2, 0, 1, 13, 12, 11, 10, 7, 9, 8, 22, 21, 20, 16, 19, 18, 17], [24, 23, 15, 14, 6, 5, 4, 3, 2, 0, 1, 13, 12, 11, 10, 7, 9, 8, 22, 21, 20, 16, 19, 18, 17], [26, 24, 23, 15, 14, 6, 5, 4, 3, 2, 0, 1, 13, 12, 11, 10, 7, 9, 8, 22, 21, 20, 16, 19, 18, 17], [27, 26, 24, 23, 15, 14, 6, 5, 4, 3, 2, 0, 1, 13, 12, 11, 10, 7, 9, 8, 22, 21, 20, 16, 19, 18, 17], [25, 24, 23, 15, 14, 6, 5, 4, 3, 2, 0, 1, 13, 12, 11, 10, 7, 9, 8, 22, 21, 20, 16, 19, 18, 17, 28, 27, 26], [29, 25, 24, 23, 15, 14, 6, 5, 4, 3, 2, 0, 1, 13, 12, 11, 10, 7, 9, 8, 22, 21, 20, 16, 19, 18, 17, 28, 27, 26], [30, 29, 25, 24, 23, 15, 14, 6, 5, 4, 3, 2, 0, 1, 13, 12, 11, 10, 7, 9, 8, 22, 21, 20, 16, 19, 18, 17, 28, 27, 26], [24, 23, 15, 14, 6, 5, 4, 3, 2, 0, 1, 13, 12, 11, 10, 7, 9, 8, 22, 21, 20, 16, 19, 18, 17], [31, 30, 29, 25, 24, 23, 15, 14, 6, 5, 4, 3, 2, 0, 1, 13, 12, 11, 10, 7, 9, 8, 22, 21, 20, 16, 19, 18, 17, 28, 27, 26, 32], [24, 23, 15, 14, 6, 5, 4, 3, 2, 0, 1, 13, 12, 11, 10, 7, 9, 8, 22, 21, 20, 16, 19, 18, 17, 33, 31, 30, 29, 25, 28, 27, 26, 32], [34, 24, 23, 15, 14, 6, 5, 4, 3, 2, 0, 1, 13, 12, 11, 10, 7, 9, 8, 22, 21, 20, 16, 19, 18, 17, 33, 31, 30, 29, 25, 28, 27, 26, 32]] [0, 1, 2, 3, 4, 5, 6, 7, 8, 9, 10, 11, 12, 13, 14, 15, 16, 17, 18, 19, 20, 21, 22, 23, 24, 25, 26, 27, 28, 29, 30, 31, 32, 33, 34, 35])
 .ret)))))))))))))))))))))))))
end Go.Proofs.Ytjmmmmdpkfpojaa

set_option maxRecDepth 20000
namespace Go.Proofs.Ytjmmmmdpkfpojaa
open Go Go.IW
section
attribute [local go_sem] List.getElem?_cons_zero List.getElem?_cons_succ Option.bind_some List.map_cons List.map_nil Nat.zero_add if_true List.getD_cons_zero List.getD_cons_succ List.contains_cons List.contains_nil Bool.or_true Bool.true_or Bool.or_false Bool.false_or Bool.not_true Bool.not_false true_and and_true rowA_whole mid_get rowO_rows cellO_rows upd_ne Nat.add_assoc Nat.add_zero List.all_cons List.all_nil one_bool one_int one_str one_ptr one_nilptr one_slice one_eslice one_nilslice one_func one_iface one_niliface Bool.and_true Bool.and_self List.length_cons List.length_nil Nat.one_ne_zero Nat.succ_ne_zero if_false List.set_cons_zero List.set_cons_succ lay_nil lay_1 lay_w Option.map_some cells_one rowA_some List.drop_succ_cons List.drop_zero List.take_succ_cons List.take_zero

theorem WholeP.code {p : Pk} {id : Int} (h : WholeP p id) (h0 : 0 ≤ id) (h1 : id ≤ 65535) : codeB p = 0 := by
  have a1 := h.tos
  have a2 := h.id
  have a3 := h.off
  have a4 := h.ttl
  have a5 := h.proto
  have a6 := h.src
  have a7 := h.dst
  have a8 := h.o1
  have a9 := h.o2
  have a10 := h.p2
  have e : okIPb p = true := by
    unfold okIPb
    have e4 : ((p.opts.length : Int).tmod 4) = 0 := by rw [Int.tmod_eq_emod_of_nonneg (by omega)]; omega
    rw [a3, a6, a7, e4]
    simp only [Bool.and_eq_true, decide_eq_true_eq]
    refine ⟨⟨⟨⟨⟨⟨⟨⟨⟨⟨⟨⟨⟨⟨?_, ?_⟩, ?_⟩, ?_⟩, ?_⟩, ?_⟩, ?_⟩, ?_⟩, ?_⟩, ?_⟩, ?_⟩, ?_⟩, ?_⟩, ?_⟩, ?_⟩ <;> first | omega | rfl | trivial
  unfold codeB
  rw [if_neg (by simp [e]), if_neg (by omega)]
theorem Lay.count {P : Pk} {a : Nat} {F : List Pk} (h : Lay P a F) : F.length + a ≤ P.pay.length := by
  induction h with
  | last a h0 => simp only [List.length_cons, List.length_nil]; omega
  | more a b h0 h1 h8 hr ih => simp only [List.length_cons]; omega
theorem runSt_len : ∀ (ops : List Op) (now : Int) (l : List Ms), (runSt now l ops).length = ops.length
  | [], _, _ => rfl
  | op :: ops, now, l => by simp only [runSt, List.length_cons, runSt_len ops]
theorem Cut.ne {p : Pk} {R a : Nat} {F : List Pk} (h : Cut p R a F) : F ≠ [] := by cases h <;> simp
end
end Go.Proofs.Ytjmmmmdpkfpojaa

namespace Go.Proofs.Ytjmmmmdpkfpojaa
open Go Go.IW

/-- Pieces of several packets, in whatever order and as0 often as0 may be: what is told whole is one of the packets, and just the packets come whole of which every piece came. -/
theorem others_run {n : Nat} {P : Nat → Pk} {F : Nat → List Pk} (hF : Fams n P F) {now : Int} : ∀ (ps : List Pk) {l : List Ms} {cur : Nat → List Pk}, Rst n P F l cur → (∀ p ∈ ps, ∃ i, i < n ∧ p ∈ F i) →
    (∀ o ∈ runSt now l (ps.map takeOp), o.held ≤ n ∧ (o.done = true → ∃ j, j < n ∧ o.pk = P j)) ∧
    ∀ j, j < n → ((∃ o ∈ runSt now l (ps.map takeOp), o.done = true ∧ o.pk = P j) ↔ ∀ f ∈ F j, f ∈ cur j ∨ f ∈ ps)
  | [], l, cur, h, _ => by
    refine ⟨by simp [runSt], fun j hj => ?_⟩
    constructor
    · rintro ⟨o, ho, _⟩
      simp [runSt] at ho
    · intro ha
      exact absurd (fun f hf => (ha f hf).resolve_right (by simp)) (h.inc j hj)
  | p :: ps, l, cur, h, hp => by
    obtain ⟨i, hi, hpF⟩ := hp p List.mem_cons_self
    have fam := hF.fam i hi
    obtain ⟨b, l', o', e, hb, c1, c2, c3, c4, c5, h'⟩ := op_step (now := now) hF h hi hpF
    obtain ⟨r1, r2⟩ := others_run hF (now := now) ps h' fun q hq => hp q (List.mem_cons_of_mem _ hq)
    have hlen := h'.len
    have hidP : ∀ j, j < n → ∀ f ∈ F j, f.id = (P j).id := fun j hj f hf => by
      obtain ⟨a, b, _, hFr⟩ := (hF.fam j hj).lay.frag f hf
      rw [hFr.e]
    simp only [List.map_cons, runSt, e]
    have hmem := fam.add_mem hpF (h.sub i hi)
    refine ⟨?_, fun j hj => ?_⟩
    · intro o ho
      rcases List.mem_cons.1 ho with rfl | ho
      · exact ⟨by rw [c4]; omega, fun hd => ⟨i, hi, c3 (by rw [← c2]; exact hd)⟩⟩
      · exact r1 o ho
    · have hj2 := r2 j hj
      by_cases hji : j = i
      · subst hji
        cases b with
        | true =>
          have hall := hb.1 rfl
          constructor
          · intro _ f hf
            rcases (hmem f).1 (hall f hf) with h1 | rfl
            · exact .inl h1
            · exact .inr List.mem_cons_self
          · intro _
            exact ⟨o', List.mem_cons_self, c2, c3 rfl⟩
        | false =>
          have hc : upd1 cur j (if false = true then [] else addQ (cur j) p) j = addQ (cur j) p := by unfold upd1; rw [if_pos rfl]; rfl
          rw [hc] at hj2
          constructor
          · rintro ⟨o, ho, hd, he⟩
            rcases List.mem_cons.1 ho with rfl | ho
            · rw [c2] at hd; cases hd
            · intro f hf
              rcases hj2.1 ⟨o, ho, hd, he⟩ f hf with h1 | h1
              · rcases (hmem f).1 h1 with h1 | rfl
                · exact .inl h1
                · exact .inr List.mem_cons_self
              · exact .inr (List.mem_cons_of_mem _ h1)
          · intro ha
            obtain ⟨o, ho, h1⟩ := hj2.2 fun f hf => by
              rcases ha f hf with h1 | h1
              · exact .inl ((hmem f).2 (.inl h1))
              · rcases List.mem_cons.1 h1 with h1 | h1
                · exact .inl ((hmem f).2 (.inr h1))
                · exact .inr h1
            exact ⟨o, List.mem_cons_of_mem _ ho, h1⟩
      · have hc : upd1 cur i (if b = true then [] else addQ (cur i) p) j = cur j := by unfold upd1; rw [if_neg hji]
        rw [hc] at hj2
        have hnp : p ∉ F j := fun hx => hji (hF.id j i hj hi (by rw [← hidP j hj p hx, hidP i hi p hpF]))
        constructor
        · rintro ⟨o, ho, hd, he⟩ f hf
          rcases List.mem_cons.1 ho with rfl | ho
          · exfalso
            have := c3 (by rw [← c2]; exact hd)
            rw [this] at he
            exact hji (hF.id j i hj hi (by rw [he]))
          · rcases hj2.1 ⟨o, ho, hd, he⟩ f hf with h1 | h1
            · exact .inl h1
            · exact .inr (List.mem_cons_of_mem _ h1)
        · intro ha
          obtain ⟨o, ho, h1⟩ := hj2.2 fun f hf => by
            rcases ha f hf with h1 | h1
            · exact .inl h1
            · rcases List.mem_cons.1 h1 with rfl | h1
              · exact absurd hf hnp
              · exact .inr h1
          exact ⟨o, List.mem_cons_of_mem _ ho, h1⟩
end Go.Proofs.Ytjmmmmdpkfpojaa

set_option maxRecDepth 20000
namespace Go.Proofs.Ytjmmmmdpkfpojaa
open Go Go.IW
section
attribute [local go_sem] List.getElem?_cons_zero List.getElem?_cons_succ Option.bind_some List.map_cons List.map_nil Nat.zero_add if_true List.getD_cons_zero List.getD_cons_succ List.contains_cons List.contains_nil Bool.or_true Bool.true_or Bool.or_false Bool.false_or Bool.not_true Bool.not_false true_and and_true rowA_whole mid_get rowO_rows cellO_rows upd_ne Nat.add_assoc Nat.add_zero List.all_cons List.all_nil one_bool one_int one_str one_ptr one_nilptr one_slice one_eslice one_nilslice one_func one_iface one_niliface Bool.and_true Bool.and_self List.length_cons List.length_nil Nat.one_ne_zero Nat.succ_ne_zero if_false List.set_cons_zero List.set_cons_succ lay_nil lay_1 lay_w Option.map_some cells_one rowA_some List.drop_succ_cons List.drop_zero List.take_succ_cons List.take_zero

/-! ### The law FnNoOthers -/
/-- What has been drawn of packet k: its pieces, and whether one of them was left out. -/
structure Drawn (all : List Pk) (k : Nat) (p : Pk) (F : List Pk) (lack : Bool) : Prop where
  w : WholeP p k
  f : Fam p F
  l : lack = true ↔ ∃ f ∈ F, f ∉ all
theorem Drawn.mono {all : List Pk} {k j : Nat} {p q : Pk} {F G : List Pk} {b : Bool} (h : Drawn all k p F b) (hj : j ≠ k) (hq : WholeP q j) (hG : Fam q G) {r : List Pk} (hr : ∀ f ∈ r, f ∈ G) : Drawn (all ++ r) k p F b := by
  refine ⟨h.w, h.f, ?_⟩
  rw [h.l]
  constructor
  · rintro ⟨f, hf, hn⟩
    refine ⟨f, hf, fun hx => ?_⟩
    rcases List.mem_append.1 hx with hx | hx
    · exact hn hx
    · obtain ⟨a, b, _, h1⟩ := h.f.lay.frag f hf
      obtain ⟨c, d, _, h2⟩ := hG.lay.frag f (hr f hx)
      have e1 : f.id = k := by rw [h1.e]; exact h.w.id
      have e2 : f.id = j := by rw [h2.e]; exact hq.id
      omega
  · rintro ⟨f, hf, hn⟩
    exact ⟨f, hf, fun hx => hn (List.mem_append_left _ hx)⟩
/-- A row and its packet lie in the bank. -/
def InB (Rb : List (List IV)) (Pb : List Pk) (r : List IV) (p : Pk) : Prop := ∃ i : Nat, Rb[i]? = some r ∧ Pb[i]? = some p
theorem InB.mono {Rb Rc : List (List IV)} {Pb Pc : List Pk} {r : List IV} {p : Pk} (h : InB Rb Pb r p) : InB (Rb ++ Rc) (Pb ++ Pc) r p := by
  obtain ⟨i, h1, h2⟩ := h
  refine ⟨i, ?_, ?_⟩
  · rw [List.getElem?_append_left (List.getElem?_eq_some_iff.1 h1).1]; exact h1
  · rw [List.getElem?_append_left (List.getElem?_eq_some_iff.1 h2).1]; exact h2
theorem InB.last {Rb : List (List IV)} {Pb : List Pk} (hl : Rb.length = Pb.length) (r : List IV) (p : Pk) : InB (Rb ++ [r]) (Pb ++ [p]) r p := by
  refine ⟨Rb.length, by simp, by rw [hl]; simp⟩
theorem all2_mono {α β : Type} {R R' : α → β → Prop} (hR : ∀ a b, R a b → R' a b) : ∀ {xs : List α} {ys : List β}, All2 R xs ys → All2 R' xs ys
  | _, _, .nil => .nil
  | _, _, .cons h1 h2 => .cons (hR _ _ h1) (all2_mono hR h2)
theorem all2_app {α β : Type} {R : α → β → Prop} : ∀ {xs xs' : List α} {ys ys' : List β}, All2 R xs ys → All2 R xs' ys' → All2 R (xs ++ xs') (ys ++ ys')
  | _, _, _, _, .nil, h => h
  | _, _, _, _, .cons h1 h2, h => .cons h1 (all2_app h2 h)
theorem pks_bank {g : IH} {L : List As} {v : IV} {rs Rb : List (List IV)} {ps Pb : List Pk} (S : Sp g L) (j : Nat) (hj : L[j]? = some (all2 pkR Rb Pb)) (hs : SlR g 11 v rs) (h : All2 (InB Rb Pb) rs ps) : PksAt g v rs ps := by
  have : All2 (RowAt g) rs ps := all2_mono (fun r p hx => by
    obtain ⟨i, h1, h2⟩ := hx
    obtain ⟨vo, vp, e, a⟩ := pks_at S j hj h2
    rw [h1] at e
    exact ⟨vo, vp, Option.some.inj e, a⟩) h
  obtain ⟨h1, h2⟩ := all2_rows this
  exact ⟨hs, h1, h2⟩
theorem Cut.count {p : Pk} {R a : Nat} {F : List Pk} (h : Cut p R a F) : (F.length - 1) * (R / 8 * 8) + a < p.pay.length := by
  induction h with
  | last a h0 h1 => simpa using h0
  | more a h0 hr ih =>
    rename_i r
    have hne : r ≠ [] := by cases hr <;> simp
    have : 0 < r.length := List.length_pos_iff.2 hne
    simp only [List.length_cons, Nat.add_sub_cancel]
    have : r.length * (R / 8 * 8) = (r.length - 1) * (R / 8 * 8) + R / 8 * 8 := by
      rw [← Nat.succ_mul]
      congr 1
      omega
    omega
theorem all2_len' {α β : Type} {R : α → β → Prop} : ∀ {xs : List α} {ys : List β}, All2 R xs ys → xs.length = ys.length
  | _, _, .nil => rfl
  | _, _, .cons _ h => by simp [all2_len' h]
theorem mid_take {fs : List Pk} {i : Nat} {q : Pk} (hq : fs[i]? = some q) : fs.take (i + 1) = fs.take i ++ [q] := by rw [List.take_add_one, hq]; rfl
theorem mid_new {fs : List Pk} {i : Nat} {q : Pk} (hn : fs.Nodup) (hq : fs[i]? = some q) : q ∉ fs.take i := by
  have h1 : fs.take (i + 1) = fs.take i ++ [q] := mid_take hq
  have h2 : (fs.take (i + 1)).Nodup := (List.take_sublist _ _).nodup hn
  rw [h1, List.nodup_append] at h2
  intro hm
  exact h2.2.2 q hm q (List.mem_singleton.2 rfl) rfl
theorem mid_out {fs add : List Pk} {i : Nat} {q : Pk} (hn : fs.Nodup) (hq : fs[i]? = some q) (hs : ∀ f ∈ add, f ∈ fs.take i) : true = true ↔ ∃ f ∈ fs.take (i + 1), f ∉ add :=
  ⟨fun _ => ⟨q, by rw [mid_take hq]; simp, fun hx => mid_new hn hq (hs q hx)⟩, fun _ => rfl⟩
theorem mid_in {fs add r : List Pk} {i : Nat} {q : Pk} {b : Bool} (hn : fs.Nodup) (hq : fs[i]? = some q) (hb : b = true ↔ ∃ f ∈ fs.take i, f ∉ add) (hr : ∀ f, f ∈ r ↔ f = q) : b = true ↔ ∃ f ∈ fs.take (i + 1), f ∉ add ++ r := by
  rw [hb, mid_take hq]
  constructor
  · rintro ⟨f, h1, h2⟩
    refine ⟨f, List.mem_append_left _ h1, fun hx => ?_⟩
    rcases List.mem_append.1 hx with hx | hx
    · exact h2 hx
    · rw [(hr f).1 hx] at h1
      exact mid_new hn hq h1
  · rintro ⟨f, h1, h2⟩
    rcases List.mem_append.1 h1 with h1 | h1
    · exact ⟨f, h1, fun hx => h2 (List.mem_append_left _ hx)⟩
    · rw [List.mem_singleton.1 h1] at h2
      exact absurd (List.mem_append_right _ ((hr q).2 rfl)) h2
theorem mid_sub {fs add r : List Pk} {i : Nat} {q : Pk} (hq : fs[i]? = some q) (hs : ∀ f ∈ add, f ∈ fs.take i) (hr : ∀ f, f ∈ r ↔ f = q) : ∀ f ∈ add ++ r, f ∈ fs.take (i + 1) := by
  intro f hf
  rw [mid_take hq]
  rcases List.mem_append.1 hf with hf | hf
  · exact List.mem_append_left _ (hs f hf)
  · exact List.mem_append_right _ (List.mem_singleton.2 ((hr f).1 hf))
theorem drawn_step {n k : Nat} {sent allP add : List Pk} {cuts : List (List Pk)} {lk : List Bool} {p : Pk} {fs : List Pk} {b : Bool} (hk : k < n) (hsl : sent.length = k) (hcl : cuts.length = k) (hll : lk.length = n)
    (hac : ∀ f ∈ allP, ∃ F ∈ cuts, f ∈ F) (hdr : ∀ (j : Nat) (p : Pk) (F : List Pk) (b : Bool), sent[j]? = some p → cuts[j]? = some F → lk[j]? = some b → Drawn allP j p F b)
    (hP : WholeP p k) (hfam : Fam p fs) (hsub : ∀ f ∈ add, f ∈ fs) (hlb : b = true ↔ ∃ f ∈ fs, f ∉ add) :
    ∀ (j : Nat) (q : Pk) (F : List Pk) (c : Bool), (sent ++ [p])[j]? = some q → (cuts ++ [fs])[j]? = some F → (lk.set k b)[j]? = some c → Drawn (allP ++ add) j q F c := by
  intro j q F c h1 h2 h3
  by_cases hj : j < k
  · rw [List.getElem?_append_left (by omega)] at h1 h2
    rw [List.getElem?_set_ne (by omega)] at h3
    exact (hdr j q F c h1 h2 h3).mono (by omega) hP hfam hsub
  · have hjk : j < k + 1 := by
      have := (List.getElem?_eq_some_iff.1 h1).1
      rw [List.length_append, List.length_singleton] at this
      omega
    obtain rfl : j = k := by omega
    rw [List.getElem?_append_right (by omega), hsl, Nat.sub_self] at h1
    rw [List.getElem?_append_right (by omega), hcl, Nat.sub_self] at h2
    rw [List.getElem?_set_self (by omega)] at h3
    obtain rfl : p = q := by simpa using h1
    obtain rfl : fs = F := by simpa using h2
    obtain rfl : b = c := by simpa using h3
    refine ⟨hP, hfam, ?_⟩
    rw [hlb]
    constructor
    · rintro ⟨f, hf, hn⟩
      refine ⟨f, hf, fun hx => ?_⟩
      rcases List.mem_append.1 hx with hx | hx
      · obtain ⟨F, hF, hfF⟩ := hac f hx
        obtain ⟨i, hi⟩ := List.mem_iff_getElem?.1 hF
        have hik : i < cuts.length := (List.getElem?_eq_some_iff.1 hi).1
        have d := hdr i sent[i] F lk[i] (List.getElem?_eq_getElem (by omega)) hi (List.getElem?_eq_getElem (by omega))
        obtain ⟨a, b, _, e1⟩ := d.f.lay.frag f hfF
        obtain ⟨c, d', _, e2⟩ := hfam.lay.frag f hf
        have i1 : f.id = i := by rw [e1.e]; exact d.w.id
        have i2 : f.id = j := by rw [e2.e]; exact hP.id
        omega
      · exact hn hx
    · rintro ⟨f, hf, hn⟩
      exact ⟨f, hf, fun hx => hn (List.mem_append_right _ hx)⟩
theorem drawn_fams {n : Nat} {sent allP : List Pk} {cuts : List (List Pk)} {lk : List Bool} (h1 : 1 ≤ n) (hn : n ≤ 14) (hsl : sent.length = n) (hcl : cuts.length = n) (hll : lk.length = n)
    (hdr : ∀ (j : Nat) (p : Pk) (F : List Pk) (b : Bool), sent[j]? = some p → cuts[j]? = some F → lk[j]? = some b → Drawn allP j p F b) :
    ∃ (P : Nat → Pk) (F : Nat → List Pk), Fams n P F ∧ ∀ j, j < n → sent[j]? = some (P j) ∧ cuts[j]? = some (F j) ∧ WholeP (P j) j ∧ (lk[j]? = some true ↔ ∃ f ∈ F j, f ∉ allP) := by
  have hall : ∀ j, j < n → sent[j]? = some (sent[j]?.getD sent[0]) ∧ cuts[j]? = some (cuts[j]?.getD []) ∧ ∃ b, lk[j]? = some b ∧ Drawn allP j (sent[j]?.getD sent[0]) (cuts[j]?.getD []) b := by
    intro j hj
    have e1 : sent[j]? = some sent[j] := List.getElem?_eq_getElem (by omega)
    have e2 : cuts[j]? = some cuts[j] := List.getElem?_eq_getElem (by omega)
    have e3 : lk[j]? = some lk[j] := List.getElem?_eq_getElem (by omega)
    exact ⟨by rw [e1]; rfl, by rw [e2]; rfl, lk[j], e3, hdr _ _ _ _ (by rw [e1]; rfl) (by rw [e2]; rfl) e3⟩
  refine ⟨fun j => sent[j]?.getD sent[0], fun j => cuts[j]?.getD [], ⟨by omega, fun i hi => ?_, fun i j hi hj e => ?_, fun i j hi hj => ?_⟩, fun j hj => ?_⟩
  · obtain ⟨_, _, b, _, d⟩ := hall i hi
    exact d.f
  · obtain ⟨_, _, _, _, d⟩ := hall i hi
    obtain ⟨_, _, _, _, d'⟩ := hall j hj
    have e1 := d.w.id
    have e2 := d'.w.id
    omega
  · obtain ⟨_, _, _, _, d⟩ := hall i hi
    obtain ⟨_, _, _, _, d'⟩ := hall j hj
    exact ⟨by rw [d.w.src, d'.w.src], by rw [d.w.dst, d'.w.dst]⟩
  · obtain ⟨a1, a2, b, a3, d⟩ := hall j hj
    refine ⟨a1, a2, d.w, ?_⟩
    rw [a3, ← d.l, Option.some.injEq]
set_option maxHeartbeats 4000000 in
theorem lawNoOthers : LawTrue Try.prog 4 [(.slice (.int .u8), false)] := by
  rintro h ivs ha ⟨iv, r, rfl, hf, rfl⟩
  obtain ⟨dS, aS, okS', wS⟩ := fits_vw (.slice 5 (.int .u8)) hf
  obtain ⟨bs, rfl, s1⟩ := bytes_any aS wS
  refine icalls (.of ok4) (Nat.le_of_ble_eq_true rfl) ?_
  unfold c4
  have v1 := s1.one
  have hlen := s1.lenF
  rw [strRows_len] at hlen
  by_cases hbig : (1048576 : Int) < bs.length
  · have hn : decide ((1048576 : Int) < bs.length) = true := decide_eq_true hbig
    simp (disch := (first | omega | assumption | (simp only [push_n, set_n, put_n, List.length_cons, List.length_nil, List.length_append, Nat.reduceAdd]; done) | (simp only [push_n, set_n, put_n, List.length_cons, List.length_nil, List.length_append]; omega) | (simp only [List.all_cons, List.all_nil, one_bool, one_int, one_str, one_ptr, one_nilptr, one_slice, one_eslice, one_nilslice, one_func, one_iface, one_niliface, Bool.and_true, Bool.true_and, List.getD_cons_zero, List.getD_cons_succ, List.contains_cons, List.contains_nil, Bool.or_true, Bool.true_or, Bool.or_false, Bool.false_or, Nat.reduceBEq, *]; done) | fail)) only [hlen, hn, go_sem, ↓act_zero, boxA_1, boxA_2, boxA_3, bslA_1, Hold.p, HoldK.k, HoldL.K, HoldL.body, Nat.reduceBEq, Nat.reduceAdd, stO_mid, push_n, set_n, push_at, push_old, set_here, set_there, set_pushT, set_pushN, set_set, stO_1s, stO_ws, boxA_s, reduceIte]
  have hn : decide ((1048576 : Int) < bs.length) = false := decide_eq_false hbig
  have hl : bs.length ≤ 1048576 := by omega
  have S := Sp.start h
  try simp (disch := (first | omega | assumption | (simp only [List.length_cons, List.length_nil, List.length_append]; first | done | omega) | (simp (disch := assumption) only [go_sem, one_as, Nat.reduceBEq]; done) | fail)) only [hlen, hn, go_sem, Hold.p, HoldK.k, HoldL.K, HoldL.body, Nat.reduceBEq, Nat.reduceAdd, reduceIte]
  refine callA_of (lwBegin_c S iv bs s1 hl 8) ?_
  clear S
  rintro r1 g1 ⟨st1, rfl, hst, S⟩
  try simp (disch := (first | omega | assumption | (simp only [List.length_cons, List.length_nil, List.length_append]; first | done | omega) | (simp (disch := assumption) only [go_sem, one_as, Nat.reduceBEq]; done) | fail)) only [go_sem, Hold.p, HoldK.k, HoldL.K, HoldL.body, Nat.reduceBEq, Nat.reduceAdd, reduceIte]
  refine Sp.zero S fun p3 g2 S E_g2 l_g2 => ?_
  have q0 := (S.bx 0 rfl).eq
  try simp (disch := (first | omega | assumption | (simp only [List.length_cons, List.length_nil, List.length_append]; first | done | omega) | (simp (disch := assumption) only [go_sem, one_as, Nat.reduceBEq]; done) | fail)) only [q0, go_sem, Hold.p, HoldK.k, HoldL.K, HoldL.body, Nat.reduceBEq, Nat.reduceAdd, reduceIte]
  refine stw_of rfl rfl (by first | rfl | simp (disch := assumption) only [go_sem, cells_one, one_as]) fun g3 hg => ?_
  have l_g3 := n_set hg
  have S := S.set0 hg
  clear hg
  have W : SrcAt g3 p3 iv bs.length (old h :: []) := ⟨0, st1, by omega, by omega, hst, S⟩
  clear S
  try simp (disch := (first | omega | assumption | (simp only [List.length_cons, List.length_nil, List.length_append]; first | done | omega) | (simp (disch := assumption) only [go_sem, one_as, Nat.reduceBEq]; done) | fail)) only [go_sem, Hold.p, HoldK.k, HoldL.K, HoldL.body, Nat.reduceBEq, Nat.reduceAdd, reduceIte]
  refine callA_of (lwNext_c W s1 hl 14 (by omega)) ?_
  clear W
  rintro r4 g4 ⟨x4, rfl, a4, b4, W⟩
  have b4 := b4 (by omega)
  obtain ⟨n, hn4⟩ : ∃ n : Nat, 1 + x4 = (n : Int) := ⟨(1 + x4).toNat, by omega⟩
  have e4 : wr .i64 (1 + x4) = (n : Int) := by rw [wr64 _ (by omega)]; exact hn4
  obtain ⟨pos, st, w1, w2, w3, S⟩ := W
  have q0 := (S.bx 0 rfl).eq
  try simp (disch := (first | omega | assumption | (simp only [List.length_cons, List.length_nil, List.length_append]; first | done | omega) | (simp (disch := assumption) only [go_sem, one_as, Nat.reduceBEq]; done) | fail)) only [q0, e4, go_sem, Hold.p, HoldK.k, HoldL.K, HoldL.body, Nat.reduceBEq, Nat.reduceAdd, reduceIte]
  refine S.mks (by omega) (by omega) fun v7 g7 S E7 z7 => ?_
  have S0 := S
  clear S
  obtain ⟨lo7, hv7, S⟩ := S0.slBox (by cases n with | zero => omega | succ n => simp)
  clear S0
  rw [List.length_replicate] at hv7
  subst hv7
  have q0 := (S.bx 0 rfl).eq
  have q1 := (S.bx 1 rfl).eq
  try simp (disch := (first | omega | assumption | (simp only [List.length_cons, List.length_nil, List.length_append]; first | done | omega) | (simp (disch := assumption) only [go_sem, one_as, Nat.reduceBEq]; done) | fail)) only [q0, q1, go_sem, Hold.p, HoldK.k, HoldL.K, HoldL.body, Nat.reduceBEq, Nat.reduceAdd, reduceIte]
  have hn1 : 1 ≤ n := by omega
  have hn14 : n ≤ 14 := by omega
  refine loop_at (fun m e g => ∃ (k : Nat) (vs va : IV) (rsS rsA Rb : List (List IV)) (sent allP Pb : List Pk) (cuts : List (List Pk)) (lk : List Bool), m = n - k ∧ k ≤ n ∧ e 3 = .ptr p3 0 0 ∧ e 4 = .int .i64 (n : Nat) ∧ e 5 = vs ∧ e 6 = va ∧ e 7 = .slice lo7 0 n ∧ e 8 = .int .i64 (k : Nat) ∧ vs.one = true ∧ va.one = true ∧
    sent.length = k ∧ cuts.length = k ∧ lk.length = n ∧ Rb.length = Pb.length ∧ (∀ j, k ≤ j → j < n → lk[j]? = some false) ∧ allP.length ≤ 76 * k ∧ (∀ f ∈ allP, ∃ F ∈ cuts, f ∈ F) ∧
    (∀ (j : Nat) (p : Pk) (F : List Pk) (b : Bool), sent[j]? = some p → cuts[j]? = some F → lk[j]? = some b → Drawn allP j p F b) ∧ All2 (InB Rb Pb) rsS sent ∧ All2 (InB Rb Pb) rsA allP ∧
    SrcAt g p3 iv bs.length (old h :: [sl false 44 11 vs rsS, sl false 44 11 va rsA, box lo7 (.rows (lk.map fun b => [.bool b]) 4 1 false), all2 pkR Rb Pb])) n ?_ ?_
  · refine ⟨0, .eslice true, .eslice true, [], [], [], [], [], [], [], List.replicate n false, by omega, by omega, ?_⟩
    try simp (disch := (first | omega | assumption | (simp only [List.length_cons, List.length_nil, List.length_append]; first | done | omega) | (simp (disch := assumption) only [go_sem, one_as, Nat.reduceBEq]; done) | fail)) only [go_sem, Hold.p, HoldK.k, HoldL.K, HoldL.body, Nat.reduceBEq, Nat.reduceAdd, reduceIte]
    have S := ((S.a2nil (R := pkR)).slEmpty (x := false) (el := 44) (sz := 11)).slEmpty (x := false) (el := 44) (sz := 11)
    have S := by simpa only [List.map_cons, List.map_nil, List.getD_cons_zero, List.getD_cons_succ, List.drop_succ_cons, List.drop_zero, List.cons_append, List.nil_append] using Sp.sel S 6 [4, 5, 0, 1, 3, 2] (by simp only [List.length_cons]; omega) (by decide) (by decide)
    exact ⟨rfl, by simp, fun j _ hj => by rw [List.getElem?_replicate, if_pos hj], by omega, by simp, by simp, .nil, .nil, pos, st, w1, w2, w3, by rw [List.map_replicate]; exact S⟩
  · clear S
    rintro m e g ⟨k, vs, va, rsS, rsA, Rb, sent, allP, Pb, cuts, lk, rfl, hk, i3, i4, i5, i6, i7, i8, zs, za, hsl, hcl, hll, hRP, hlf, hal, hac, hdr, hrS, hrA, W⟩
    try simp (disch := (first | omega | assumption | (simp only [List.length_cons, List.length_nil, List.length_append]; first | done | omega) | (simp (disch := assumption) only [go_sem, one_as, Nat.reduceBEq]; done) | fail)) only [i3, i4, i5, i6, i7, i8, go_sem, Hold.p, HoldK.k, HoldL.K, HoldL.body, Nat.reduceBEq, Nat.reduceAdd, reduceIte]
    refine test_dec (fun hb => ?_) (fun hb => ?_)
    · skip
      try simp (disch := (first | omega | assumption | (simp only [List.length_cons, List.length_nil, List.length_append]; first | done | omega) | (simp (disch := assumption) only [go_sem, one_as, Nat.reduceBEq]; done) | fail)) only [i3, i4, i5, i6, i7, i8, go_sem, Hold.p, HoldK.k, HoldL.K, HoldL.body, Nat.reduceBEq, Nat.reduceAdd, reduceIte]
      refine callA_of (lwWhole_c W s1 hl (k : Int)) ?_
      clear W
      rintro r9 g9 ⟨p, vo, vp, rfl, y1, y2, hP, W⟩
      obtain ⟨pos, st, w1, w2, w3, S⟩ := W
      unfold pkRow
      try simp (disch := (first | omega | assumption | (simp only [List.length_cons, List.length_nil, List.length_append]; first | done | omega) | (simp (disch := assumption) only [go_sem, one_as, Nat.reduceBEq]; done) | fail)) only [y1, y2, go_sem, Hold.p, HoldK.k, HoldL.K, HoldL.body, Nat.reduceBEq, Nat.reduceAdd, reduceIte]
      refine Sp.zero S fun p9 g10 S E_g10 l_g10 => ?_
      have q0 := (S.bx 0 rfl).eq
      try simp (disch := (first | omega | assumption | (simp only [List.length_cons, List.length_nil, List.length_append]; first | done | omega) | (simp (disch := assumption) only [go_sem, one_as, Nat.reduceBEq]; done) | fail)) only [q0, y1, y2, go_sem, Hold.p, HoldK.k, HoldL.K, HoldL.body, Nat.reduceBEq, Nat.reduceAdd, reduceIte]
      refine stw_of rfl rfl (by first | rfl | simp (disch := assumption) only [go_sem, cells_one, one_as]) fun g11 hg => ?_
      have l_g11 := n_set hg
      have S := S.set0 hg
      clear hg
      have q0 := (S.bx 0 rfl).eq
      have s5 := S.slA 5 rfl
      have len_s5 := s5.lenF
      have z5 := s5.one
      have s6 := S.slA 6 rfl
      have len_s6 := s6.lenF
      have z6 := s6.one
      try simp (disch := (first | omega | assumption | (simp only [List.length_cons, List.length_nil, List.length_append]; first | done | omega) | (simp (disch := assumption) only [go_sem, one_as, Nat.reduceBEq]; done) | fail)) only [q0, len_s5, z5, len_s6, z6, i3, i4, i5, i6, i7, i8, go_sem, Hold.p, HoldK.k, HoldL.K, HoldL.body, Nat.reduceBEq, Nat.reduceAdd, reduceIte]
      have hrSl := all2_len' hrS
      refine Sp.bsl1 S (by first | rfl | (rw [cells_one (by assumption)]; rfl)) (by first | rfl | simp (disch := assumption) only [go_sem, cells_one, one_as]) fun p12 g12 S E_g12 l_g12 => ?_
      try simp only [cells_agg, cells_int, cells_bool, cells_ptr, cells_str] at S
      have q0 := (S.bx 0 rfl).eq
      have s6 := S.slA 6 rfl
      have len_s6 := s6.lenF
      have z6 := s6.one
      try simp (disch := (first | omega | assumption | (simp only [List.length_cons, List.length_nil, List.length_append]; first | done | omega) | (simp (disch := assumption) only [go_sem, one_as, Nat.reduceBEq]; done) | fail)) only [q0, len_s6, z6, go_sem, Hold.p, HoldK.k, HoldL.K, HoldL.body, Nat.reduceBEq, Nat.reduceAdd, reduceIte]
      have S := by simpa only [List.map_cons, List.map_nil, List.getD_cons_zero, List.getD_cons_succ, List.drop_succ_cons, List.drop_zero, List.cons_append, List.nil_append] using Sp.sel S 10 [0, 6, 1, 2, 3, 4, 5, 7, 8, 9] (by simp only [List.length_cons]; omega) (by decide) (by decide)
      refine S.app1 (y := false) (b := 112) (by omega) ?_
      clear S
      intro v13 g13 S z13
      have S := by simpa only [List.map_cons, List.map_nil, List.getD_cons_zero, List.getD_cons_succ, List.drop_succ_cons, List.drop_zero, List.cons_append, List.nil_append] using Sp.sel S 9 [4, 5, 8, 0, 1, 2, 3, 6, 7] (by simp only [List.length_cons]; omega) (by decide) (by decide)
      have S := (pk_un S y1 y2).a2one
      have S := by simpa only [List.map_cons, List.map_nil, List.getD_cons_zero, List.getD_cons_succ, List.drop_succ_cons, List.drop_zero, List.cons_append, List.nil_append] using Sp.sel S 2 [1, 0] (by simp only [List.length_cons]; omega) (by decide) (by decide)
      have S := S.a2join
      have hInP := InB.last hRP (pkRow p vo vp) p
      have W : SrcAt g13 p3 iv bs.length (old h :: [all2 pkR (Rb ++ [pkRow p vo vp]) (Pb ++ [p]), sl false 44 11 v13 (rsS ++ [pkRow p vo vp]), box p9 (pkObj p vo vp), sl false 44 11 va rsA, box lo7 (.rows (lk.map fun b => [.bool b]) 4 1 false)]) := ⟨pos, st, w1, w2, w3, by
        have S := by simpa only [List.map_cons, List.map_nil, List.getD_cons_zero, List.getD_cons_succ, List.drop_succ_cons, List.drop_zero, List.cons_append, List.nil_append] using Sp.sel S 7 [3, 4, 0, 1, 2, 5, 6] (by simp only [List.length_cons]; omega) (by decide) (by decide)
        exact S⟩
      have q2 := (S.bx 2 rfl).eq
      try simp (disch := (first | omega | assumption | (simp only [List.length_cons, List.length_nil, List.length_append]; first | done | omega) | (simp (disch := assumption) only [go_sem, one_as, Nat.reduceBEq]; done) | fail)) only [q2, i3, i4, i5, i6, i7, i8, go_sem, Hold.p, HoldK.k, HoldL.K, HoldL.body, Nat.reduceBEq, Nat.reduceAdd, reduceIte]
      clear S
      refine callA_of (lwNext_c W s1 hl 200 (by omega)) ?_
      clear W
      rintro r14 g14 ⟨x14, rfl, a14, b14, W⟩
      have b14 := b14 (by omega)
      have e14 : wr .i64 (80 + x14) = 80 + x14 := wr64 _ (by omega)
      obtain ⟨R, hR⟩ : ∃ R : Nat, 80 + x14 = 20 + (p.opts.length : Int) + R := ⟨(80 + x14 - 20 - p.opts.length).toNat, by have := hP.o1; omega⟩
      have hcP := hP.code (by omega) (by omega)
      obtain ⟨pos, st, w1, w2, w3, S⟩ := W
      have hpo := hP.o1
      have hpp := hP.p2
      have q4 := (S.bx 4 rfl).eq
      have s3 := S.slA 3 rfl
      have len_s3 := s3.lenF
      have z3 := s3.one
      try simp (disch := (first | omega | assumption | (simp only [List.length_cons, List.length_nil, List.length_append]; first | done | omega) | (simp (disch := assumption) only [go_sem, one_as, Nat.reduceBEq]; done) | fail)) only [q4, len_s3, z3, i3, i4, i5, i6, i7, i8, e14, go_sem, Hold.p, HoldK.k, HoldL.K, HoldL.body, Nat.reduceBEq, Nat.reduceAdd, reduceIte]
      refine callA_of (frag_c S p vo vp (fun g S => pks_pk S 2 rfl (k := Rb.length) (by simp) (by rw [hRP]; simp)) hcP hP.df hP.p1 R (by omega) (80 + x14) hR (by omega) (by omega)) ?_
      clear S
      rintro r15 g15 ⟨v15, rs15, fs, rfl, z15, hcut, S⟩
      have s0 := S.slA 0 rfl
      have len_s0 := s0.lenF
      have z0 := s0.one
      try simp (disch := (first | omega | assumption | (simp only [List.length_cons, List.length_nil, List.length_append]; first | done | omega) | (simp (disch := assumption) only [go_sem, one_as, Nat.reduceBEq]; done) | fail)) only [len_s0, z0, i3, i4, i5, i6, i7, i8, decide_true, Bool.not_true, go_sem, Hold.p, HoldK.k, HoldL.K, HoldL.body, Nat.reduceBEq, Nat.reduceAdd, reduceIte]
      have hfl := a2_len S 1 rfl
      have hne : rs15 ≠ [] := by
        rintro rfl
        exact hcut.ne (List.length_eq_zero_iff.1 hfl.symm)
      have hfam : Fam p fs := ⟨hP.off, hP.mf, hcP, hcut.lay hP.off hP.mf (by omega)⟩
      have hnd := hfam.nd
      have hcnt := hcut.count
      have hf38 : fs.length ≤ 38 := by
        have := Nat.mul_le_mul_left (fs.length - 1) (show 16 ≤ R / 8 * 8 by omega)
        omega
      have hk0 : lk[k]? = some false := hlf k (Nat.le_refl _) (by omega)
      have hkk : lk.set k false = lk := by
        obtain ⟨h1, h2⟩ := List.getElem?_eq_some_iff.1 hk0
        rw [← h2, List.set_getElem_self]
      have hInM : All2 (InB ((Rb ++ [pkRow p vo vp]) ++ rs15) ((Pb ++ [p]) ++ fs)) rsA allP := all2_mono (fun _ _ hx => hx.mono.mono) hrA
      have hInS : All2 (InB ((Rb ++ [pkRow p vo vp]) ++ rs15) ((Pb ++ [p]) ++ fs)) (rsS ++ [pkRow p vo vp]) (sent ++ [p]) := all2_mono (fun _ _ hx => hx.mono) (all2_app (all2_mono (fun _ _ hx => hx.mono) hrS) (.cons hInP .nil))
      have hInF : ∀ (i : Nat) (r : List IV) (q : Pk), rs15[i]? = some r → fs[i]? = some q → InB ((Rb ++ [pkRow p vo vp]) ++ rs15) ((Pb ++ [p]) ++ fs) r q := fun i r q h1 h2 => ⟨(Rb ++ [pkRow p vo vp]).length + i, by rw [List.getElem?_append_right (by omega), Nat.add_sub_cancel_left]; exact h1, by rw [show (Rb ++ [pkRow p vo vp]).length = (Pb ++ [p]).length by simp [hRP], List.getElem?_append_right (by omega), Nat.add_sub_cancel_left]; exact h2⟩
      have S := by simpa only [List.map_cons, List.map_nil, List.getD_cons_zero, List.getD_cons_succ, List.drop_succ_cons, List.drop_zero, List.cons_append, List.nil_append] using Sp.sel S 9 [4, 1, 0, 2, 3, 5, 7, 8] (by simp only [List.length_cons]; omega) (by decide) (by decide)
      have S := S.a2join
      generalize (Rb ++ [pkRow p vo vp]) ++ rs15 = Rc at S hInM hInS hInF
      generalize (Pb ++ [p]) ++ fs = Pc at S hInM hInS hInF
      have S := by simpa only [List.map_cons, List.map_nil, List.getD_cons_zero, List.getD_cons_succ, List.drop_succ_cons, List.drop_zero, List.cons_append, List.nil_append] using Sp.sel S 7 [1, 0, 2, 3, 4, 5, 6] (by simp only [List.length_cons]; omega) (by decide) (by decide)
      have S0 := S
      clear S
      obtain ⟨lo, hvl, S⟩ := S0.slBox hne
      clear S0
      have q0 := (S.bx 0 rfl).eq
      have q2 := (S.bx 2 rfl).eq
      try simp (disch := (first | omega | assumption | (simp only [List.length_cons, List.length_nil, List.length_append]; first | done | omega) | (simp (disch := assumption) only [go_sem, one_as, Nat.reduceBEq]; done) | fail)) only [q0, q2, hvl, go_sem, Hold.p, HoldK.k, HoldL.K, HoldL.body, Nat.reduceBEq, Nat.reduceAdd, reduceIte]
      refine loop_at (fun m e g => ∃ (i : Nat) (add : List Pk) (b : Bool) (vb : IV) (rsB : List (List IV)), m = fs.length - i ∧ i ≤ fs.length ∧ e 3 = .ptr p3 0 0 ∧ e 4 = .int .i64 (n : Nat) ∧ e 5 = v13 ∧ e 6 = vb ∧ e 7 = .slice lo7 0 n ∧ e 8 = .int .i64 (k : Nat) ∧ e 10 = .slice lo 0 rs15.length ∧ e 12 = .int .i64 (i : Nat) ∧ vb.one = true ∧
        (∀ f ∈ add, f ∈ fs.take i) ∧ add.length ≤ 2 * i ∧ (b = true ↔ ∃ f ∈ fs.take i, f ∉ add) ∧ All2 (InB Rc Pc) rsB (allP ++ add) ∧
        SrcAt g p3 iv bs.length (old h :: [box lo (.rows rs15 44 11 false), sl false 44 11 v13 (rsS ++ [pkRow p vo vp]), sl false 44 11 vb rsB, box lo7 (.rows ((lk.set k b).map fun b => [.bool b]) 4 1 false), all2 pkR Rc Pc])) fs.length ?_ ?_
      · refine ⟨0, [], false, va, rsA, by omega, by omega, ?_⟩
        have q0 := (S.bx 0 rfl).eq
        have q2 := (S.bx 2 rfl).eq
        try simp (disch := (first | omega | assumption | (simp only [List.length_cons, List.length_nil, List.length_append]; first | done | omega) | (simp (disch := assumption) only [go_sem, one_as, Nat.reduceBEq]; done) | fail)) only [q0, q2, hvl, i3, i4, i5, i6, i7, i8, go_sem, Hold.p, HoldK.k, HoldL.K, HoldL.body, Nat.reduceBEq, Nat.reduceAdd, reduceIte]
        refine ⟨rfl, za, by simp, by simp, by simp, by simpa using hInM, pos, st, w1, w2, w3, ?_⟩
        rw [hkk]
        have S := by simpa only [List.map_cons, List.map_nil, List.getD_cons_zero, List.getD_cons_succ, List.drop_succ_cons, List.drop_zero, List.cons_append, List.nil_append] using Sp.sel S 7 [2, 3, 0, 4, 5, 6, 1] (by simp only [List.length_cons]; omega) (by decide) (by decide)
        exact S
      · clear S
        rintro m e g ⟨i, add, b, vb, rsB, rfl, hi, j3, j4, j5, j6, j7, j8, j10, j12, zb, hsub, hadd, hlb, hrB, W⟩
        try simp (disch := (first | omega | assumption | (simp only [List.length_cons, List.length_nil, List.length_append]; first | done | omega) | (simp (disch := assumption) only [go_sem, one_as, Nat.reduceBEq]; done) | fail)) only [j3, j4, j5, j6, j7, j8, j10, j12, hfl, go_sem, Hold.p, HoldK.k, HoldL.K, HoldL.body, Nat.reduceBEq, Nat.reduceAdd, reduceIte]
        refine test_dec (fun hb => ?_) (fun hb => ?_)
        · skip
          try simp (disch := (first | omega | assumption | (simp only [List.length_cons, List.length_nil, List.length_append]; first | done | omega) | (simp (disch := assumption) only [go_sem, one_as, Nat.reduceBEq]; done) | fail)) only [j3, j4, j5, j6, j7, j8, j10, j12, go_sem, Hold.p, HoldK.k, HoldL.K, HoldL.body, Nat.reduceBEq, Nat.reduceAdd, reduceIte]
          refine callA_of (lwNext_c W s1 hl 12 (by omega)) ?_
          clear W
          rintro r17 g17 ⟨x17, rfl, a17, b17, W⟩
          obtain ⟨pos, st, w1, w2, w3, S⟩ := W
          obtain ⟨q, hq⟩ : ∃ q, fs[i]? = some q := ⟨_, List.getElem?_eq_getElem (by omega : i < fs.length)⟩
          have w1' : wr .i64 ((i : Int) + 1) = ((i + 1 : Nat) : Int) := by rw [wr64 _ (by omega)]; rfl
          have io : iadrO (IObj.rows rs15 44 11 false) 11 lo 0 rs15.length (i : Int) = some (.ptr lo i 0) := by rw [iadrO_nat (by omega)]; simp
          obtain ⟨rw17, hrw⟩ : ∃ r, rs15[i]? = some r := ⟨_, List.getElem?_eq_getElem (by omega : i < rs15.length)⟩
          have hIn := hInF i rw17 q hrw hq
          obtain ⟨wo, wp, hrow, hqa⟩ : ∃ wo wp, rw17 = pkRow q wo wp ∧ PkAt g17 q wo wp := by
            obtain ⟨j, h1, h2⟩ := hIn
            obtain ⟨wo, wp, e, a⟩ := pks_at S 6 rfl h2
            rw [h1] at e
            exact ⟨wo, wp, Option.some.inj e, a⟩
          have y3 := hqa.o.one
          have y4 := hqa.p.one
          subst hrow
          have hrw0 := hrw
          unfold pkRow at hrw
          have hL7 : ((lk.set k b).map fun b => [IV.bool b]).length = n := by simp [hll]
          have i7 : iadrO (IObj.rows ((lk.set k b).map fun b => [IV.bool b]) 4 1 false) 1 lo7 0 n (k : Int) = some (.ptr lo7 k 0) := by rw [iadrO_nat (by omega)]; simp
          have q0 := (S.bx 0 rfl).eq
          have q2 := (S.bx 2 rfl).eq
          have q5 := (S.bx 5 rfl).eq
          have s4 := S.slA 4 rfl
          have len_s4 := s4.lenF
          have z4 := s4.one
          try simp (disch := (first | omega | assumption | (simp only [List.length_cons, List.length_nil, List.length_append]; first | done | omega) | (simp (disch := assumption) only [go_sem, one_as, Nat.reduceBEq]; done) | fail)) only [q0, q2, q5, len_s4, z4, j3, j4, j5, j6, j7, j8, j10, j12, iadrF_sl, io, i7, go_sem, Hold.p, HoldK.k, HoldL.K, HoldL.body, Nat.reduceBEq, Nat.reduceAdd, reduceIte]
          refine test_dec (fun h0 => ?_) (fun h0 => ?_)
          · skip
            have q0 := (S.bx 0 rfl).eq
            have q2 := (S.bx 2 rfl).eq
            have q5 := (S.bx 5 rfl).eq
            have s4 := S.slA 4 rfl
            have len_s4 := s4.lenF
            have z4 := s4.one
            try simp (disch := (first | omega | assumption | (simp only [List.length_cons, List.length_nil, List.length_append]; first | done | omega) | (simp (disch := assumption) only [go_sem, one_as, Nat.reduceBEq]; done) | fail)) only [q0, q2, q5, len_s4, z4, j3, j4, j5, j6, j7, j8, j10, j12, iadrF_sl, io, i7, go_sem, Hold.p, HoldK.k, HoldL.K, HoldL.body, Nat.reduceBEq, Nat.reduceAdd, reduceIte]
            have h7 : ((lk.set k b).map fun b => [IV.bool b])[k]? = some [IV.bool b] := by rw [List.getElem?_map, List.getElem?_set_self (by omega)]; rfl
            refine str_of h7 rfl rfl rfl fun g18 hg => ?_
            have l_g18 := n_set hg
            have S := S.set5 hg
            clear hg
            have e7 : ((lk.set k b).map fun b => [IV.bool b]).set k [.bool true] = (lk.set k true).map fun b => [IV.bool b] := by
              rw [← List.map_set (f := fun b : Bool => [IV.bool b]), List.set_set]
            rw [e7] at S
            try simp (disch := (first | omega | assumption | (simp only [List.length_cons, List.length_nil, List.length_append]; first | done | omega) | (simp (disch := assumption) only [go_sem, one_as, Nat.reduceBEq]; done) | fail)) only [j3, j4, j5, j6, j7, j8, j10, j12, w1', go_sem, Hold.p, HoldK.k, HoldL.K, HoldL.body, Nat.reduceBEq, Nat.reduceAdd, reduceIte]
            exact ⟨fs.length - (i + 1), by omega, i + 1, add, true, vb, rsB, rfl, by omega, rfl, rfl, zb, fun f hf => by rw [mid_take hq]; exact List.mem_append_left _ (hsub f hf), by omega, mid_out hnd hq hsub, hrB, pos, st, w1, w2, w3, S⟩
          · skip
            have q0 := (S.bx 0 rfl).eq
            have q2 := (S.bx 2 rfl).eq
            have q5 := (S.bx 5 rfl).eq
            have s4 := S.slA 4 rfl
            have len_s4 := s4.lenF
            have z4 := s4.one
            try simp (disch := (first | omega | assumption | (simp only [List.length_cons, List.length_nil, List.length_append]; first | done | omega) | (simp (disch := assumption) only [go_sem, one_as, Nat.reduceBEq]; done) | fail)) only [q0, q2, q5, len_s4, z4, j3, j4, j5, j6, j7, j8, j10, j12, iadrF_sl, io, i7, go_sem, Hold.p, HoldK.k, HoldL.K, HoldL.body, Nat.reduceBEq, Nat.reduceAdd, reduceIte]
            refine test_dec (fun h1 => ?_) (fun h1 => ?_)
            · skip
              have q0 := (S.bx 0 rfl).eq
              have q2 := (S.bx 2 rfl).eq
              have q5 := (S.bx 5 rfl).eq
              have s4 := S.slA 4 rfl
              have len_s4 := s4.lenF
              have z4 := s4.one
              try simp (disch := (first | omega | assumption | (simp only [List.length_cons, List.length_nil, List.length_append]; first | done | omega) | (simp (disch := assumption) only [go_sem, one_as, Nat.reduceBEq]; done) | fail)) only [q0, q2, q5, len_s4, z4, j3, j4, j5, j6, j7, j8, j10, j12, iadrF_sl, io, i7, hrw, go_sem, Hold.p, HoldK.k, HoldL.K, HoldL.body, Nat.reduceBEq, Nat.reduceAdd, reduceIte]
              refine Sp.bsln S (rows := [pkRow q wo wp, pkRow q wo wp]) (by decide) (by simp [layR, pkRow, cells_one y3, cells_one y4, IV.cells]) (by
                intro r hr v hv
                simp only [List.mem_cons, List.not_mem_nil, or_false, or_self] at hr
                subst hr
                exact List.all_eq_true.1 (pkRow_one y3 y4) v hv) fun p18 g18 S E18 l18 => ?_
              have S0 := S
              clear S
              have S := S0.boxSl (n := 2) (x := false) rfl (.inr (by simp))
              clear S0
              have hsrc := (S.slA 0 rfl).src
              have s5 := S.slA 5 rfl
              have len_s5 := s5.lenF
              have z5 := s5.one
              try simp (disch := (first | omega | assumption | (simp only [List.length_cons, List.length_nil, List.length_append]; first | done | omega) | (simp (disch := assumption) only [go_sem, one_as, Nat.reduceBEq]; done) | fail)) only [len_s5, z5, j3, j4, j5, j6, j7, j8, j10, j12, hsrc, go_sem, Hold.p, HoldK.k, HoldL.K, HoldL.body, Nat.reduceBEq, Nat.reduceAdd, reduceIte]
              have S := by simpa only [List.map_cons, List.map_nil, List.getD_cons_zero, List.getD_cons_succ, List.drop_succ_cons, List.drop_zero, List.cons_append, List.nil_append] using Sp.sel S 8 [5, 0, 1, 2, 3, 4, 6, 7] (by simp only [List.length_cons]; omega) (by decide) (by decide)
              have hrBl := all2_len' hrB
              rw [List.length_append] at hrBl
              refine S.app (y := false) (b := 112) (by simp) (by simp only [List.length_cons, List.length_nil]; omega) fun v19 g19 S z19 _ => ?_
              try simp (disch := (first | omega | assumption | (simp only [List.length_cons, List.length_nil, List.length_append]; first | done | omega) | (simp (disch := assumption) only [go_sem, one_as, Nat.reduceBEq]; done) | fail)) only [j3, j4, j5, j6, j7, j8, j10, j12, w1', go_sem, Hold.p, HoldK.k, HoldL.K, HoldL.body, Nat.reduceBEq, Nat.reduceAdd, reduceIte]
              have S := by simpa only [List.map_cons, List.map_nil, List.getD_cons_zero, List.getD_cons_succ, List.drop_succ_cons, List.drop_zero, List.cons_append, List.nil_append] using Sp.sel S 8 [2, 3, 4, 5, 0, 6, 7] (by simp only [List.length_cons]; omega) (by decide) (by decide)
              have hIn2 := hInF i _ q hrw0 hq
              exact ⟨fs.length - (i + 1), by omega, i + 1, add ++ [q, q], b, v19, _, rfl, by omega, rfl, rfl, z19, mid_sub hq hsub (by simp), by simp; omega, mid_in hnd hq hlb (by simp), by rw [← List.append_assoc]; exact all2_app hrB (.cons hIn2 (.cons hIn2 .nil)), pos, st, w1, w2, w3, S⟩
            · skip
              have q0 := (S.bx 0 rfl).eq
              have q2 := (S.bx 2 rfl).eq
              have q5 := (S.bx 5 rfl).eq
              have s4 := S.slA 4 rfl
              have len_s4 := s4.lenF
              have z4 := s4.one
              try simp (disch := (first | omega | assumption | (simp only [List.length_cons, List.length_nil, List.length_append]; first | done | omega) | (simp (disch := assumption) only [go_sem, one_as, Nat.reduceBEq]; done) | fail)) only [q0, q2, q5, len_s4, z4, j3, j4, j5, j6, j7, j8, j10, j12, iadrF_sl, io, i7, hrw, go_sem, Hold.p, HoldK.k, HoldL.K, HoldL.body, Nat.reduceBEq, Nat.reduceAdd, reduceIte]
              refine Sp.bsl1 S (by first | rfl | (rw [cells_one (by assumption)]; rfl)) (by first | rfl | simp (disch := assumption) only [go_sem, cells_one, one_as]) fun p18 g18 S E_g18 l_g18 => ?_
              try simp only [cells_agg, cells_int, cells_bool, cells_ptr, cells_str] at S
              have q0 := (S.bx 0 rfl).eq
              have s5 := S.slA 5 rfl
              have len_s5 := s5.lenF
              have z5 := s5.one
              try simp (disch := (first | omega | assumption | (simp only [List.length_cons, List.length_nil, List.length_append]; first | done | omega) | (simp (disch := assumption) only [go_sem, one_as, Nat.reduceBEq]; done) | fail)) only [q0, len_s5, z5, j3, j4, j5, j6, j7, j8, j10, j12, go_sem, Hold.p, HoldK.k, HoldL.K, HoldL.body, Nat.reduceBEq, Nat.reduceAdd, reduceIte]
              have hrBl := all2_len' hrB
              rw [List.length_append] at hrBl
              have S := by simpa only [List.map_cons, List.map_nil, List.getD_cons_zero, List.getD_cons_succ, List.drop_succ_cons, List.drop_zero, List.cons_append, List.nil_append] using Sp.sel S 8 [0, 5, 1, 2, 3, 4, 6, 7] (by simp only [List.length_cons]; omega) (by decide) (by decide)
              refine S.app1 (y := false) (b := 112) (by omega) ?_
              clear S
              intro v19 g19 S z19
              try simp (disch := (first | omega | assumption | (simp only [List.length_cons, List.length_nil, List.length_append]; first | done | omega) | (simp (disch := assumption) only [go_sem, one_as, Nat.reduceBEq]; done) | fail)) only [j3, j4, j5, j6, j7, j8, j10, j12, w1', go_sem, Hold.p, HoldK.k, HoldL.K, HoldL.body, Nat.reduceBEq, Nat.reduceAdd, reduceIte]
              have S := by simpa only [List.map_cons, List.map_nil, List.getD_cons_zero, List.getD_cons_succ, List.drop_succ_cons, List.drop_zero, List.cons_append, List.nil_append] using Sp.sel S 7 [1, 2, 3, 4, 0, 5, 6] (by simp only [List.length_cons]; omega) (by decide) (by decide)
              have hIn2 := hInF i _ q hrw0 hq
              exact ⟨fs.length - (i + 1), by omega, i + 1, add ++ [q], b, v19, _, rfl, by omega, rfl, rfl, z19, mid_sub hq hsub (by simp), by simp; omega, mid_in hnd hq hlb (by simp), by rw [← List.append_assoc]; exact all2_app hrB (.cons hIn2 .nil), pos, st, w1, w2, w3, S⟩
        · have hi2 : i = fs.length := by omega
          subst hi2
          rw [List.take_length] at hsub hlb
          have wk : wr .i64 ((k : Int) + 1) = ((k + 1 : Nat) : Int) := by rw [wr64 _ (by omega)]; rfl
          obtain ⟨pos, st, w1, w2, w3, S⟩ := W
          try simp (disch := (first | omega | assumption | (simp only [List.length_cons, List.length_nil, List.length_append]; first | done | omega) | (simp (disch := assumption) only [go_sem, one_as, Nat.reduceBEq]; done) | fail)) only [j3, j4, j5, j6, j7, j8, j10, j12, wk, go_sem, Hold.p, HoldK.k, HoldL.K, HoldL.body, Nat.reduceBEq, Nat.reduceAdd, reduceIte]
          have S := by simpa only [List.map_cons, List.map_nil, List.getD_cons_zero, List.getD_cons_succ, List.drop_succ_cons, List.drop_zero, List.cons_append, List.nil_append] using Sp.sel S 7 [0, 1, 3, 4, 5, 6] (by simp only [List.length_cons]; omega) (by decide) (by decide)
          have hRPc := a2_len S 5 rfl
          exact ⟨n - (k + 1), by omega, k + 1, v13, vb, _, rsB, Rc, sent ++ [p], allP ++ add, Pc, cuts ++ [fs], lk.set k b, rfl, by omega, rfl, rfl, rfl, z13, zb, by simp [hsl], by simp [hcl], by simp [hll], hRPc,
            fun j hj hjn => by rw [List.getElem?_set_ne (by omega)]; exact hlf j (by omega) hjn,
            by rw [List.length_append]; omega,
            fun f hf => by
              rcases List.mem_append.1 hf with hf | hf
              · obtain ⟨F, h1, h2⟩ := hac f hf
                exact ⟨F, List.mem_append_left _ h1, h2⟩
              · exact ⟨fs, by simp, hsub f hf⟩,
            drawn_step (by omega) hsl hcl hll hac hdr hP hfam hsub hlb, hInS, hrB, pos, st, w1, w2, w3, S⟩
    · have hkn : k = n := by omega
      subst hkn
      obtain ⟨P, F, hF, hPF⟩ := drawn_fams hn1 hn14 hsl hcl hll hdr
      have hsz : ∀ q ∈ allP, q.opts.length + q.pay.length ≤ 700 ∧ codeB q = 0 ∧ ∃ i, i < k ∧ q ∈ F i := by
        intro q hq
        obtain ⟨G, hG, hqG⟩ := hac q hq
        obtain ⟨i, hi⟩ := List.mem_iff_getElem?.1 hG
        have hik : i < k := by have := (List.getElem?_eq_some_iff.1 hi).1; omega
        obtain ⟨_, e2, w, _⟩ := hPF i hik
        rw [hi] at e2
        obtain rfl := Option.some.inj e2
        obtain ⟨a1, b1, _, hFr⟩ := (hF.fam i hik).lay.frag q hqG
        have := hFr.len
        have := hFr.hb
        have h3 : q.opts = (P i).opts := by rw [hFr.e]
        have := w.o1
        have := w.p2
        exact ⟨by rw [h3]; omega, (hF.fam i hik).code hqG, i, hik, hqG⟩
      obtain ⟨pos, st, w1, w2, w3, S⟩ := W
      have A := pks_bank S 5 rfl (S.slA 3 rfl) hrA
      have hAn := A.n
      have s3 := S.slA 3 rfl
      have len_s3 := s3.lenF
      have z3 := s3.one
      try simp (disch := (first | omega | assumption | (simp only [List.length_cons, List.length_nil, List.length_append]; first | done | omega) | (simp (disch := assumption) only [go_sem, one_as, Nat.reduceBEq]; done) | fail)) only [len_s3, z3, i3, i4, i5, i6, i7, i8, go_sem, Hold.p, HoldK.k, HoldL.K, HoldL.body, Nat.reduceBEq, Nat.reduceAdd, reduceIte]
      have W : SrcAt g p3 iv bs.length (old h :: [sl false 44 11 vs rsS, sl false 44 11 va rsA, box lo7 (.rows (lk.map fun b => [.bool b]) 4 1 false), all2 pkR Rb Pb]) := ⟨pos, st, w1, w2, w3, S⟩
      clear S
      refine callA_of (lwShuffle_c W s1 hl va rsA A.s (by omega) A.rows) ?_
      clear W
      rintro r15 g15 ⟨rs15, z15, hperm, W⟩
      obtain ⟨pos2, st2, w4, w5, w6, S⟩ := W
      obtain ⟨ps, hps, A3⟩ := (pks_bank S 6 rfl (S.slA 4 rfl) hrA).perm (S.slA 2 rfl) hperm
      have B3 := pks_bank S 6 rfl (S.slA 3 rfl) hrS
      have hpl := hps.length_eq
      have S := by simpa only [List.map_cons, List.map_nil, List.getD_cons_zero, List.getD_cons_succ, List.drop_succ_cons, List.drop_zero, List.cons_append, List.nil_append] using Sp.sel S 7 [5, 0] (by simp only [List.length_cons]; omega) (by decide) (by decide)
      have S0 := S
      clear S
      have S := S0.boxSl (n := k) (x := true) (by simp [hll]) (.inl rfl)
      clear S0
      have sl7 := S.slA 0 rfl
      clear S
      have S := Sp.start g15
      try simp (disch := (first | omega | assumption | (simp only [List.length_cons, List.length_nil, List.length_append]; first | done | omega) | (simp (disch := assumption) only [go_sem, one_as, Nat.reduceBEq]; done) | fail)) only [i3, i4, i5, i6, i7, i8, go_sem, Hold.p, HoldK.k, HoldL.K, HoldL.body, Nat.reduceBEq, Nat.reduceAdd, reduceIte]
      refine callA_of (lwTakes_c S r15 rs15 ps (by omega) (fun q hq => by have := (hsz q (hps.mem_iff.1 hq)).1; omega) (fun g S => A3.ext (S.ol 0 rfl))) ?_
      clear S
      rintro r16 g16 ⟨ors, z16, S⟩
      have hI : ∀ o ∈ ps.map takeOp, I64 o.wait ∧ PkI o.pk := by
        intro o ho
        obtain ⟨q, hq, rfl⟩ := List.mem_map.1 ho
        obtain ⟨_, hc, i, hi, hqi⟩ := hsz q (hps.mem_iff.1 hq)
        obtain ⟨c1, c2, c3⟩ := codeB_ok hc
        obtain ⟨a1, b1, _, hFr⟩ := (hF.fam i hi).lay.frag q hqi
        refine ⟨⟨by show -9223372036854775808 ≤ (0 : Int); omega, by show (0 : Int) ≤ 9223372036854775807; omega⟩, ⟨⟨by show -9223372036854775808 ≤ q.off; omega, by show q.off ≤ 9223372036854775807; omega⟩, ?_⟩⟩
        have : q.id = i := by rw [hFr.e]; exact (hPF i hi).2.2.1.id
        exact ⟨by show -9223372036854775808 ≤ q.id; omega, by show q.id ≤ 9223372036854775807; omega⟩
      have O := ops_of S 0 1 rfl rfl hI
      have E16 := S.ol 2 rfl
      clear S
      try simp (disch := (first | omega | assumption | (simp only [List.length_cons, List.length_nil, List.length_append]; first | done | omega) | (simp (disch := assumption) only [go_sem, one_as, Nat.reduceBEq]; done) | fail)) only [i3, i4, i5, i6, i7, i8, go_sem, Hold.p, HoldK.k, HoldL.K, HoldL.body, Nat.reduceBEq, Nat.reduceAdd, reduceIte]
      refine callA_of (implRun_c g16 r16 _ O (by rw [List.length_map]; omega) (fun o ho => by
        obtain ⟨q, hq, rfl⟩ := List.mem_map.1 ho
        have := (hsz q (hps.mem_iff.1 hq)).1
        show q.opts.length + q.pay.length ≤ 1048576
        omega)) ?_
      rintro r17 g17 ⟨⟨v17, rfl, oW⟩, E17⟩
      have hrun : runS (ps.map takeOp) = (runSt 0 [] (ps.map takeOp), 0) := if_neg (by rw [List.length_map]; omega)
      rw [hrun] at oW ⊢
      have os := outs_vw oW.up
      have hor := others_run hF (now := 0) ps (Rst.nil hF) (fun q hq => (hsz q (hps.mem_iff.1 hq)).2.2)
      have hol := runSt_len (ps.map takeOp) 0 []
      rw [List.length_map] at hol
      have B := (B3.ext E16).ext E17
      have t7 := (sl7.ext E16).ext E17
      generalize runSt 0 [] (ps.map takeOp) = OS at os hor hol
      obtain ⟨rsO, hsO, hlO, hrO⟩ := os.sl
      have h13 := hsO.one
      have l13 := hsO.lenF
      have hva := A.s.lenF
      have d0 : decide ((ps.length : Int) = rsA.length) = true := decide_eq_true (by omega)
      rw [hlO] at l13
      dsimp only
      clear oW hrun A3 O
      have S := Sp.start g17
      try simp (disch := (first | omega | assumption | (simp only [List.length_cons, List.length_nil, List.length_append]; first | done | omega) | (simp (disch := assumption) only [go_sem, one_as, Nat.reduceBEq]; done) | fail)) only [i3, i4, i5, i6, i7, i8, h13, l13, hva, d0, decide_true, Bool.not_true, hol, go_sem, Hold.p, HoldK.k, HoldL.K, HoldL.body, Nat.reduceBEq, Nat.reduceAdd, reduceIte]
      refine S.mks (by omega) (by omega) fun v18 g18 S E18 z18 => ?_
      have S0 := S
      clear S
      obtain ⟨lo8, hv8, S⟩ := S0.slBox (by cases k with | zero => omega | succ n => simp)
      clear S0
      rw [List.length_replicate] at hv8
      subst hv8
      have q0 := (S.bx 0 rfl).eq
      try simp (disch := (first | omega | assumption | (simp only [List.length_cons, List.length_nil, List.length_append]; first | done | omega) | (simp (disch := assumption) only [go_sem, one_as, Nat.reduceBEq]; done) | fail)) only [q0, go_sem, Hold.p, HoldK.k, HoldL.K, HoldL.body, Nat.reduceBEq, Nat.reduceAdd, reduceIte]
      refine loop_at (fun m e g => ∃ (i : Nat) (tb : List Bool), m = ps.length - i ∧ i ≤ ps.length ∧ e 4 = .int .i64 (k : Nat) ∧ e 5 = vs ∧ e 7 = .slice lo7 0 k ∧ e 13 = v17 ∧ e 15 = .slice lo8 0 k ∧ e 16 = .int .i64 (i : Nat) ∧ tb.length = k ∧
        (∀ j, j < k → (tb[j]? = some true ↔ ∃ o ∈ OS.take i, o.done = true ∧ o.pk = P j)) ∧ Sp g [box lo8 (.rows (tb.map fun b => [.bool b]) 4 1 false), old g17]) ps.length ?_ ?_
      · refine ⟨0, List.replicate k false, by omega, by omega, ?_⟩
        have q0 := (S.bx 0 rfl).eq
        try simp (disch := (first | omega | assumption | (simp only [List.length_cons, List.length_nil, List.length_append]; first | done | omega) | (simp (disch := assumption) only [go_sem, one_as, Nat.reduceBEq]; done) | fail)) only [q0, i4, i5, i7, go_sem, Hold.p, HoldK.k, HoldL.K, HoldL.body, Nat.reduceBEq, Nat.reduceAdd, reduceIte]
        refine ⟨rfl, by simp, fun j hj => by simp [List.getElem?_replicate], ?_⟩
        rw [List.map_replicate]
        exact S
      · clear S
        rintro m e g ⟨i, tb, rfl, hi, j4, j5, j7, j13, j15, j16, htl, htb, S⟩
        have q0 := (S.bx 0 rfl).eq
        try simp (disch := (first | omega | assumption | (simp only [List.length_cons, List.length_nil, List.length_append]; first | done | omega) | (simp (disch := assumption) only [go_sem, one_as, Nat.reduceBEq]; done) | fail)) only [q0, j4, j5, j7, j13, j15, j16, l13, h13, hol, go_sem, Hold.p, HoldK.k, HoldL.K, HoldL.body, Nat.reduceBEq, Nat.reduceAdd, reduceIte]
        refine test_dec (fun hb => ?_) (fun hb => ?_)
        · have E := S.ol 1 rfl
          obtain ⟨o, ho⟩ : ∃ o, OS[i]? = some o := ⟨_, List.getElem?_eq_getElem (by omega : i < OS.length)⟩
          obtain ⟨xo, xp, xe, hr, hap, zxe⟩ := hrO i o ho
          obtain ⟨l, j, hia, hll2, har⟩ := (hsO.ext E).at hr .i64
          have hc := cellO_row har
          have hoM : o ∈ OS := List.mem_of_getElem? ho
          obtain ⟨hh, hdn⟩ := hor.1 o hoM
          have w1' : wr .i64 ((i : Int) + 1) = ((i + 1 : Nat) : Int) := by rw [wr64 _ (by omega)]; rfl
          have dh : decide ((16 : Int) < o.held) = false := decide_eq_false (by omega)
          have htk : OS.take (i + 1) = OS.take i ++ [o] := by rw [List.take_add_one, ho]; rfl
          cases hd : o.done with
          | false =>
            have q0 := (S.bx 0 rfl).eq
            try simp (disch := (first | omega | assumption | (simp only [List.length_cons, List.length_nil, List.length_append]; first | done | omega) | (simp (disch := assumption) only [go_sem, one_as, Nat.reduceBEq]; done) | fail)) only [q0, j4, j5, j7, j13, j15, j16, l13, h13, hia, hc, dh, hd, w1', go_sem, Hold.p, HoldK.k, HoldL.K, HoldL.body, Nat.reduceBEq, Nat.reduceAdd, reduceIte]
            refine ⟨_, by omega, i + 1, tb, rfl, by omega, rfl, htl, fun j hj => ?_, S⟩
            rw [htb j hj, htk]
            constructor
            · rintro ⟨x, h1, h2⟩
              exact ⟨x, List.mem_append_left _ h1, h2⟩
            · rintro ⟨x, h1, h2, h3⟩
              rcases List.mem_append.1 h1 with h1 | h1
              · exact ⟨x, h1, h2, h3⟩
              · rw [List.mem_singleton.1 h1, hd] at h2
                cases h2
          | true =>
            obtain ⟨q, hq, hpq⟩ := hdn hd
            have hid : (P q).id = (q : Int) := (hPF q hq).2.2.1.id
            rw [hpq] at hap
            obtain ⟨xv, xw, hr2, hap2⟩ := B.r q (P q) (hPF q hq).1
            obtain ⟨l2, j2, hia2, hll3, har2⟩ := (B.s.ext E).at hr2 .i64
            have i8' : iadrO (IObj.rows (tb.map fun b => [IV.bool b]) 4 1 false) 1 lo8 0 k (q : Int) = some (.ptr lo8 q 0) := by rw [iadrO_nat (by omega)]; simp
            have d1 : decide ((q : Int) < 0) = false := decide_eq_false (by omega)
            have d2 : decide ((k : Int) ≤ q) = false := decide_eq_false (by omega)
            unfold outRow at har
            unfold pkRow at har2
            have hap2' := (hap.ext E)
            have hap2 := hap2.ext E
            have yo := hap.o.one
            have yp := hap.p.one
            have yo2 := hap2.o.one
            have yp2 := hap2.p.one
            have q0 := (S.bx 0 rfl).eq
            try simp (disch := (first | omega | assumption | (simp only [List.length_cons, List.length_nil, List.length_append]; first | done | omega) | (simp (disch := assumption) only [go_sem, one_as, Nat.reduceBEq]; done) | fail)) only [q0, j4, j5, j7, j13, j15, j16, l13, h13, hia, hc, dh, hd, hpq, hid, d1, d2, hia2, har, har2, go_sem, Hold.p, HoldK.k, HoldL.K, HoldL.body, Nat.reduceBEq, Nat.reduceAdd, reduceIte]
            have hcall := lwPacket_c g (P q) xo xp xv xw hap2' hap2
            unfold pkRow at hcall
            rw [hid] at hcall
            refine callA_of hcall ?_
            clear hcall
            rintro r21 g21 ⟨rfl, E21⟩
            have S := S.ext E21
            have q0 := (S.bx 0 rfl).eq
            try simp (disch := (first | omega | assumption | (simp only [List.length_cons, List.length_nil, List.length_append]; first | done | omega) | (simp (disch := assumption) only [go_sem, one_as, Nat.reduceBEq]; done) | fail)) only [q0, j4, j5, j7, j13, j15, j16, l13, h13, iadrF_sl, i8', hpq, hid, d1, d2, decide_true, Bool.not_true, go_sem, Hold.p, HoldK.k, HoldL.K, HoldL.body, Nat.reduceBEq, Nat.reduceAdd, reduceIte]
            have h8 : (tb.map fun b => [IV.bool b])[q]? = some [IV.bool tb[q]] := by rw [List.getElem?_map, List.getElem?_eq_getElem (by omega)]; rfl
            refine str_of h8 rfl rfl rfl fun g22 hg => ?_
            have l_g22 := n_set hg
            have S := S.set0 hg
            clear hg
            have e8 : (tb.map fun b => [IV.bool b]).set q [.bool true] = (tb.set q true).map fun b => [IV.bool b] := by
              rw [← List.map_set (f := fun b : Bool => [IV.bool b])]
            rw [e8] at S
            try simp (disch := (first | omega | assumption | (simp only [List.length_cons, List.length_nil, List.length_append]; first | done | omega) | (simp (disch := assumption) only [go_sem, one_as, Nat.reduceBEq]; done) | fail)) only [j4, j5, j7, j13, j15, j16, w1', go_sem, Hold.p, HoldK.k, HoldL.K, HoldL.body, Nat.reduceBEq, Nat.reduceAdd, reduceIte]
            refine ⟨ps.length - (i + 1), by omega, i + 1, tb.set q true, rfl, by omega, rfl, by simp [htl], fun j hj => ?_, S⟩
            rw [htk]
            by_cases hjq : j = q
            · subst hjq
              rw [List.getElem?_set_self (by omega)]
              exact ⟨fun _ => ⟨o, by simp, hd, hpq⟩, fun _ => rfl⟩
            · rw [List.getElem?_set_ne (by omega), htb j hj]
              constructor
              · rintro ⟨x, h1, h2⟩
                exact ⟨x, List.mem_append_left _ h1, h2⟩
              · rintro ⟨x, h1, h2, h3⟩
                rcases List.mem_append.1 h1 with h1 | h1
                · exact ⟨x, h1, h2, h3⟩
                · rw [List.mem_singleton.1 h1, hpq] at h3
                  exact absurd (hF.id q j hq hj (by rw [h3])).symm hjq
        · have hi2 : i = OS.length := by omega
          rw [hi2, List.take_length] at htb
          have t7' := t7.ext (S.ol 1 rfl)
          have hfin : ∀ j, j < k → ∃ x y : Bool, tb[j]? = some x ∧ lk[j]? = some y ∧ (x = true ↔ ¬ y = true) := by
            intro j hj
            have e1 : tb[j]? = some tb[j] := List.getElem?_eq_getElem (by omega)
            have e2 : lk[j]? = some lk[j] := List.getElem?_eq_getElem (by omega)
            refine ⟨_, _, e1, e2, ?_⟩
            have h1 := htb j hj
            have h2 := hor.2 j hj
            have h3 := (hPF j hj).2.2.2
            rw [e1, Option.some.injEq, h2] at h1
            rw [e2, Option.some.injEq] at h3
            rw [h1, h3]
            constructor
            · rintro ha ⟨f, hf, hn⟩
              rcases ha f hf with h | h
              · exact absurd h (by simp)
              · exact hn (hps.mem_iff.1 h)
            · intro hn f hf
              refine .inr (hps.mem_iff.2 ?_)
              exact Classical.byContradiction fun hx => hn ⟨f, hf, hx⟩
          have q0 := (S.bx 0 rfl).eq
          try simp (disch := (first | omega | assumption | (simp only [List.length_cons, List.length_nil, List.length_append]; first | done | omega) | (simp (disch := assumption) only [go_sem, one_as, Nat.reduceBEq]; done) | fail)) only [q0, j4, j5, j7, j13, j15, j16, go_sem, Hold.p, HoldK.k, HoldL.K, HoldL.body, Nat.reduceBEq, Nat.reduceAdd, reduceIte]
          refine loop_at (fun m e g' => ∃ j : Nat, m = k - j ∧ j ≤ k ∧ e 4 = .int .i64 (k : Nat) ∧ e 7 = .slice lo7 0 k ∧ e 15 = .slice lo8 0 k ∧ e 18 = .int .i64 (j : Nat) ∧ g' = g) k ?_ ?_
          · refine ⟨0, by omega, by omega, ?_⟩
            have q0 := (S.bx 0 rfl).eq
            try simp (disch := (first | omega | assumption | (simp only [List.length_cons, List.length_nil, List.length_append]; first | done | omega) | (simp (disch := assumption) only [go_sem, one_as, Nat.reduceBEq]; done) | fail)) only [q0, j4, j5, j7, j13, j15, j16, go_sem, Hold.p, HoldK.k, HoldL.K, HoldL.body, Nat.reduceBEq, Nat.reduceAdd, reduceIte]
            rfl
          · rintro m e g' ⟨j, rfl, hj, m4, m7, m15, m18, rfl⟩
            have q0 := (S.bx 0 rfl).eq
            try simp (disch := (first | omega | assumption | (simp only [List.length_cons, List.length_nil, List.length_append]; first | done | omega) | (simp (disch := assumption) only [go_sem, one_as, Nat.reduceBEq]; done) | fail)) only [q0, m4, m7, m15, m18, go_sem, Hold.p, HoldK.k, HoldL.K, HoldL.body, Nat.reduceBEq, Nat.reduceAdd, reduceIte]
            refine test_dec (fun hb => ?_) (fun hb => ?_)
            · obtain ⟨x, y, hx, hy, hxy⟩ := hfin j (by omega)
              have S0 := S
              have t8 := (S0.boxSl (n := k) (x := true) (by simp [htl]) (.inl rfl)).slA 0 rfl
              clear S0
              have hx2 : (tb.map fun b => [IV.bool b])[j]? = some [IV.bool x] := by rw [List.getElem?_map, hx]; rfl
              have hy2 : (lk.map fun b => [IV.bool b])[j]? = some [IV.bool y] := by rw [List.getElem?_map, hy]; rfl
              obtain ⟨a1, a2, hi8, _, hr8⟩ := t8.at hx2 .i64
              obtain ⟨a3, a4, hi7, _, hr7⟩ := t7'.at hy2 .i64
              have hc8 := cellO_row hr8
              have hc7 := cellO_row hr7
              have wj : wr .i64 ((j : Int) + 1) = ((j + 1 : Nat) : Int) := by rw [wr64 _ (by omega)]; rfl
              cases x <;> cases y
              · exact absurd (hxy.2 (by simp)) (by simp)
              · simp (disch := (first | omega | assumption | (simp only [push_n, set_n, put_n, List.length_cons, List.length_nil, List.length_append, Nat.reduceAdd]; done) | (simp only [push_n, set_n, put_n, List.length_cons, List.length_nil, List.length_append]; omega) | (simp only [List.all_cons, List.all_nil, one_bool, one_int, one_str, one_ptr, one_nilptr, one_slice, one_eslice, one_nilslice, one_func, one_iface, one_niliface, Bool.and_true, Bool.true_and, List.getD_cons_zero, List.getD_cons_succ, List.contains_cons, List.contains_nil, Bool.or_true, Bool.true_or, Bool.or_false, Bool.false_or, Nat.reduceBEq, *]; done) | fail)) only [m4, m7, m15, m18, hi8, hi7, hc8, hc7, wj, go_sem, ↓act_zero, boxA_1, boxA_2, boxA_3, bslA_1, Hold.p, HoldK.k, HoldL.K, HoldL.body, Nat.reduceBEq, Nat.reduceAdd, stO_mid, push_n, set_n, push_at, push_old, set_here, set_there, set_pushT, set_pushN, set_set, stO_1s, stO_ws, boxA_s, reduceIte]
                exact ⟨k - (j + 1), by omega, j + 1, rfl, by omega, rfl⟩
              · simp (disch := (first | omega | assumption | (simp only [push_n, set_n, put_n, List.length_cons, List.length_nil, List.length_append, Nat.reduceAdd]; done) | (simp only [push_n, set_n, put_n, List.length_cons, List.length_nil, List.length_append]; omega) | (simp only [List.all_cons, List.all_nil, one_bool, one_int, one_str, one_ptr, one_nilptr, one_slice, one_eslice, one_nilslice, one_func, one_iface, one_niliface, Bool.and_true, Bool.true_and, List.getD_cons_zero, List.getD_cons_succ, List.contains_cons, List.contains_nil, Bool.or_true, Bool.true_or, Bool.or_false, Bool.false_or, Nat.reduceBEq, *]; done) | fail)) only [m4, m7, m15, m18, hi8, hi7, hc8, hc7, wj, go_sem, ↓act_zero, boxA_1, boxA_2, boxA_3, bslA_1, Hold.p, HoldK.k, HoldL.K, HoldL.body, Nat.reduceBEq, Nat.reduceAdd, stO_mid, push_n, set_n, push_at, push_old, set_here, set_there, set_pushT, set_pushN, set_set, stO_1s, stO_ws, boxA_s, reduceIte]
                exact ⟨k - (j + 1), by omega, j + 1, rfl, by omega, rfl⟩
              · exact absurd (hxy.1 rfl) (by simp)
            · skip
              have q0 := (S.bx 0 rfl).eq
              try simp (disch := (first | omega | assumption | (simp only [List.length_cons, List.length_nil, List.length_append]; first | done | omega) | (simp (disch := assumption) only [go_sem, one_as, Nat.reduceBEq]; done) | fail)) only [q0, m4, m7, m15, m18, go_sem, Hold.p, HoldK.k, HoldL.K, HoldL.body, Nat.reduceBEq, Nat.reduceAdd, reduceIte]
end
end Go.Proofs.Ytjmmmmdpkfpojaa
