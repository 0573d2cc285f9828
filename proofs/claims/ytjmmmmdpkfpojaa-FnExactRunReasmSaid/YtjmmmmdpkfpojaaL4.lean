import Derived.Test.YtjmmmmdpkfpojaaL3
import Derived.Test.YtjmmmmdpkfpojaaK2
import Derived.Test.YtjmmmmdpkfpojaaProg
import Derived.KernelRfl
import Derived.Test.YtjmmmmdpkfpojaaK3
set_option linter.unusedSimpArgs false
set_option linter.unusedVariables false
set_option maxRecDepth 20000
namespace Go.Proofs.Ytjmmmmdpkfpojaa
open Go Go.IW
section
attribute [local go_sem] List.getElem?_cons_zero List.getElem?_cons_succ Option.bind_some List.map_cons List.map_nil Nat.zero_add if_true List.getD_cons_zero List.getD_cons_succ List.contains_cons List.contains_nil Bool.or_true Bool.true_or Bool.or_false Bool.false_or Bool.not_true Bool.not_false true_and and_true rowA_whole mid_get rowO_rows cellO_rows upd_ne Nat.add_assoc Nat.add_zero List.all_cons List.all_nil one_bool one_int one_str one_ptr one_nilptr one_slice one_eslice one_nilslice one_func one_iface one_niliface Bool.and_true Bool.and_self List.length_cons List.length_nil Nat.one_ne_zero Nat.succ_ne_zero if_false List.set_cons_zero List.set_cons_succ lay_nil lay_1 lay_w Option.map_some cells_one rowA_some List.drop_succ_cons List.drop_zero List.take_succ_cons List.take_zero

/-! ### impl's do -/
def bytesI (l : List Mk) : Nat := (l.map fun m => totP m.ps).sum
def tellI (l : List Mk) (o : Ot) : Ot := { o with held := l.length, bytes := o.bytes + bytesI l }
def endsI (l : List Mk) : List En := (l.filter fun m => !m.ref).map toldI
def passI (now : Int) (l : List Mk) : List Mk × Ot := (l.filter fun m => !goneI now m, { ot0 with ended := endsI (l.filter (goneI now)) })
def doI (now : Int) (l : List Mk) (op : Op) : Int × List Mk × Ot :=
  if op.kind = 1 ∧ codeB op.pk = 0 then (now, (takeI now l ot0 op.pk).1, tellI (takeI now l ot0 op.pk).1 (takeI now l ot0 op.pk).2)
  else if op.kind = 2 ∧ 0 ≤ op.wait ∧ op.wait ≤ 1000000000 - now then (now + op.wait, (passI (now + op.wait) l).1, tellI (passI (now + op.wait) l).1 (passI (now + op.wait) l).2)
  else (now, l, tellI l { ot0 with code := 1 })
theorem bytesI_next {l : List Mk} {k : Nat} {m : Mk} (hm : l[k]? = some m) : bytesI (l.take (k + 1)) = bytesI (l.take k) + totP m.ps := by
  rw [List.take_add_one, hm]; simp [bytesI]
theorem bytesI_le {l : List Mk} {M : Nat} (h : ∀ m ∈ l, totP m.ps ≤ M) : bytesI l ≤ l.length * M := by
  induction l with
  | nil => simp [bytesI]
  | cons q ps ih =>
    have h1 := h q List.mem_cons_self
    have h2 := ih fun r hr => h r (List.mem_cons_of_mem _ hr)
    have h3 : bytesI (q :: ps) = totP q.ps + bytesI ps := by simp [bytesI]
    rw [h3, List.length_cons, Nat.add_mul, Nat.one_mul]
    omega
theorem endsI_next {l : List Mk} {k : Nat} {m : Mk} (hm : l[k]? = some m) : endsI (l.take (k + 1)) = if m.ref = true then endsI (l.take k) else endsI (l.take k) ++ [toldI m] := by
  rw [List.take_add_one, hm]
  unfold endsI
  rw [List.filter_append, List.map_append]
  cases hr : m.ref <;> simp [hr]
theorem endsI_len (l : List Mk) : (endsI l).length ≤ l.length := by
  unfold endsI
  rw [List.length_map]
  exact List.length_filter_le _ _
theorem openI_bytes (now : Int) (l : List Mk) (o : Ot) (p : Pk) : (openI now l o p).2.1.bytes = o.bytes := by
  unfold openI
  split
  · rfl
  · split
    · unfold goneOI; split <;> rfl
    · rfl
theorem takeI_bytes (now : Int) (l : List Mk) (o : Ot) (p : Pk) : (takeI now l o p).2.bytes = o.bytes := by
  unfold takeI
  split
  · rfl
  · split
    · rfl
    · simp only
      rw [← openI_bytes now l o p]
      unfold stepI
      simp only
      split
      · rfl
      · split <;> rfl
abbrev opO (o : Op) (vo vp : IV) : IObj := .rows [[.int .i64 o.kind, .int .i64 o.wait, .int .i64 o.pk.tos, .int .i64 o.pk.id, .bool o.pk.df, .bool o.pk.mf, .int .i64 o.pk.off, .int .i64 o.pk.ttl, .int .i64 o.pk.proto, .int .i64 o.pk.src, .int .i64 o.pk.dst, vo, vp]] 58 13 false
abbrev oZ : IObj := .rows [outRow ot0 .nilslice .nilslice .nilslice] 52 16 false
set_option maxHeartbeats 2000000 in
theorem do_c {h h0 : IH} {L : List As} {x N : Nat} {now : Int} {vl : IV} {rs : List (List IV)} {l : List Mk} {op : Op} {po pp : IV} (S : Sp h (box x (xO now vl) :: sl true 105 1 vl rs :: all2 mkR rs l :: old h0 :: L)) (a : PkAt h0 op.pk po pp) (hN : N ≤ 90000) (hl : l.length ≤ 16) (hok : ∀ m ∈ l, OkI N m) (hb : ∀ m ∈ l, 0 ≤ m.begun ∧ m.begun ≤ 1000000000)
    (hn : 0 ≤ now ∧ now ≤ 1000000000) (hsz : op.pk.opts.length + op.pk.pay.length ≤ 1048576) (hI : PkI op.pk) (hres : (doI now l op).2.1.length ≤ 16 ∧ ∀ m ∈ (doI now l op).2.1, OkI (N + 1) m)
    (hwh : codeB op.pk = 0 → op.pk.pay ≠ [] → ∀ m ∈ (openI now l ot0 op.pk).1, m.ref = false → (addI m op.pk).2 = true → ∀ q ∈ (addI m op.pk).1.ps, pTo q ≤ (addI m op.pk).1.en) :
    ICalls Try.prog 32 [.ptr x 0 0, .agg (opRow op po pp)] h fun r h' => ∃ vl rs vo vp ve, r = .agg (outRow (doI now l op).2.2 vo vp ve) ∧ Sp h' (box x (xO (doI now l op).1 vl) :: sl true 105 1 vl rs :: all2 mkR rs (doI now l op).2.1 :: byt vo (doI now l op).2.2.pk.opts :: byt vp (doI now l op).2.2.pk.pay :: endP ve (doI now l op).2.2.ended :: old h0 :: L) := by
  refine icalls (.of ok32) (Nat.le_of_ble_eq_true rfl) ?_
  unfold c32 opRow pkRow
  have y1 := a.o.one
  have y2 := a.p.one
  refine vc_split 3 (fun e g => ∃ (p4 p5 : Nat) (o' : Ot), e 0 = .ptr x 0 0 ∧ e 4 = .ptr p4 0 0 ∧ e 5 = .ptr p5 0 0 ∧ (doI now l op).2.2 = tellI (doI now l op).2.1 o' ∧ o'.bytes = 0 ∧ ISt g x (doI now l op).1 (doI now l op).2.1 p5 o' (old h0 :: box p4 oZ :: L)) ?_ ?_
  · simp only [CC.split]
    try simp (disch := (first | omega | assumption | (simp only [List.length_cons, List.length_nil, List.length_append]; first | done | omega) | (simp (disch := assumption) only [go_sem, one_as, Nat.reduceBEq]; done) | fail)) only [go_sem, Hold.p, HoldK.k, HoldL.K, HoldL.body, Nat.reduceBEq, Nat.reduceAdd, reduceIte]
    refine Sp.bxA S (by first | rfl | (rw [cells_one (by assumption)]; rfl)) (by first | rfl | simp (disch := assumption) only [go_sem, cells_one, one_as]) fun p3 g1 S E_g1 l_g1 => ?_
    try simp (disch := (first | omega | assumption | (simp only [List.length_cons, List.length_nil, List.length_append]; first | done | omega) | (simp (disch := assumption) only [go_sem, one_as, Nat.reduceBEq]; done) | fail)) only [go_sem, Hold.p, HoldK.k, HoldL.K, HoldL.body, Nat.reduceBEq, Nat.reduceAdd, reduceIte]
    refine Sp.zero S fun p4 g2 S E_g2 l_g2 => ?_
    try simp (disch := (first | omega | assumption | (simp only [List.length_cons, List.length_nil, List.length_append]; first | done | omega) | (simp (disch := assumption) only [go_sem, one_as, Nat.reduceBEq]; done) | fail)) only [go_sem, Hold.p, HoldK.k, HoldL.K, HoldL.body, Nat.reduceBEq, Nat.reduceAdd, reduceIte]
    refine Sp.zero S fun p5 g3 S E_g3 l_g3 => ?_
    have W : ISt g3 x now l p5 ot0 (old h0 :: box p3 (opO op po pp) :: box p4 oZ :: L) := by
      have S := ((S.slNil (x := false) (el := 5) (sz := 1)).slNil (x := false) (el := 5) (sz := 1)).slNil (x := false) (el := 113) (sz := 5)
      refine ⟨vl, rs, .nilslice, .nilslice, .nilslice, ?_⟩
      have S := by simpa only [List.map_cons, List.map_nil, List.getD_cons_zero, List.getD_cons_succ, List.drop_succ_cons, List.drop_zero, List.cons_append, List.nil_append] using Sp.sel S 10 [6, 7, 8, 3, 2, 1, 0, 9, 5, 4] (by simp only [List.length_cons]; omega) (by decide) (by decide)
      exact S
    have hdrop : ∀ {g : IH} {now' : Int} {l' : List Mk} {o' : Ot}, ISt g x now' l' p5 o' (old h0 :: box p3 (opO op po pp) :: box p4 oZ :: L) → ISt g x now' l' p5 o' (old h0 :: box p4 oZ :: L) := by
      rintro g now' l' o' ⟨vl, rs, vo, vp, ve, S⟩
      refine ⟨vl, rs, vo, vp, ve, ?_⟩
      have S := by simpa only [List.map_cons, List.map_nil, List.getD_cons_zero, List.getD_cons_succ, List.drop_succ_cons, List.drop_zero, List.cons_append, List.nil_append] using Sp.sel S 10 [0, 1, 2, 3, 4, 5, 6, 7, 9] (by simp only [List.length_cons]; omega) (by decide) (by decide)
      exact S
    have q2 := (S.bx 2 rfl).eq
    try simp (disch := (first | omega | assumption | (simp only [List.length_cons, List.length_nil, List.length_append]; first | done | omega) | (simp (disch := assumption) only [go_sem, one_as, Nat.reduceBEq]; done) | fail)) only [q2, go_sem, Hold.p, HoldK.k, HoldL.K, HoldL.body, Nat.reduceBEq, Nat.reduceAdd, reduceIte]
    have ag := a.ext (S.ol 6 rfl)
    refine guard_extT (v := .int .i64 (codeB op.pk)) (fun hk => ?_) (fun g4 E4 => ?_)
    · skip
      try simp (disch := (first | omega | assumption | (simp only [List.length_cons, List.length_nil, List.length_append]; first | done | omega) | (simp (disch := assumption) only [go_sem, one_as, Nat.reduceBEq]; done) | fail)) only [hk, go_sem, Hold.p, HoldK.k, HoldL.K, HoldL.body, Nat.reduceBEq, Nat.reduceAdd, reduceIte]
      exact codeIP_c g3 op.pk po pp ag (by omega) hI.off.1
    clear S
    obtain ⟨vl, rs, vo, vp, ve, S⟩ := W
    have S := S.ext E4
    try simp (disch := (first | omega | assumption | (simp only [List.length_cons, List.length_nil, List.length_append]; first | done | omega) | (simp (disch := assumption) only [go_sem, one_as, Nat.reduceBEq]; done) | fail)) only [go_sem, Hold.p, HoldK.k, HoldL.K, HoldL.body, Nat.reduceBEq, Nat.reduceAdd, reduceIte]
    refine test_of (fun hc => ?_) (fun hc => ?_)
    · have hc' : op.kind = 1 ∧ codeB op.pk = 0 := by simpa using hc
      obtain ⟨c1, c2, c3⟩ := codeB_ok hc'.2
      have hdo : doI now l op = (now, (takeI now l ot0 op.pk).1, tellI (takeI now l ot0 op.pk).1 (takeI now l ot0 op.pk).2) := if_pos hc'
      have q8 := (S.bx 8 rfl).eq
      try simp (disch := (first | omega | assumption | (simp only [List.length_cons, List.length_nil, List.length_append]; first | done | omega) | (simp (disch := assumption) only [go_sem, one_as, Nat.reduceBEq]; done) | fail)) only [q8, go_sem, Hold.p, HoldK.k, HoldL.K, HoldL.body, Nat.reduceBEq, Nat.reduceAdd, reduceIte]
      refine callA_of (take_c (o := ot0) ⟨vl, rs, vo, vp, ve, S⟩ a hN hl (by simp [ot0]) hok c1 c2 c3 (hwh hc'.2)) ?_
      clear S
      rintro r5 g5 W
      try simp (disch := (first | omega | assumption | (simp only [List.length_cons, List.length_nil, List.length_append]; first | done | omega) | (simp (disch := assumption) only [go_sem, one_as, Nat.reduceBEq]; done) | fail)) only [go_sem, Hold.p, HoldK.k, HoldL.K, HoldL.body, Nat.reduceBEq, Nat.reduceAdd, reduceIte]
      rw [hdo]
      refine ⟨p4, p5, (takeI now l ot0 op.pk).2, rfl, rfl, rfl, takeI_bytes _ _ _ _, hdrop W⟩
    · have hc' : ¬ (op.kind = 1 ∧ codeB op.pk = 0) := by simpa using hc
      have q0 := (S.bx 0 rfl).eq
      have q8 := (S.bx 8 rfl).eq
      try simp (disch := (first | omega | assumption | (simp only [List.length_cons, List.length_nil, List.length_append]; first | done | omega) | (simp (disch := assumption) only [go_sem, one_as, Nat.reduceBEq]; done) | fail)) only [q0, q8, go_sem, Hold.p, HoldK.k, HoldL.K, HoldL.body, Nat.reduceBEq, Nat.reduceAdd, reduceIte]
      refine guard_of (fun hk => ?_) (fun hk => ?_)
      · have hk' : op.kind = 2 := by simpa using hk
        have q0 := (S.bx 0 rfl).eq
        have q8 := (S.bx 8 rfl).eq
        try simp (disch := (first | omega | assumption | (simp only [List.length_cons, List.length_nil, List.length_append]; first | done | omega) | (simp (disch := assumption) only [go_sem, one_as, Nat.reduceBEq]; done) | fail)) only [q0, q8, hk, go_sem, Hold.p, HoldK.k, HoldL.K, HoldL.body, Nat.reduceBEq, Nat.reduceAdd, reduceIte]
        refine callA_of (isTime_c _ _ _ hn) ?_
        rintro r9 g9 ⟨rfl, rfl⟩
        have q0 := (S.bx 0 rfl).eq
        have q8 := (S.bx 8 rfl).eq
        try simp (disch := (first | omega | assumption | (simp only [List.length_cons, List.length_nil, List.length_append]; first | done | omega) | (simp (disch := assumption) only [go_sem, one_as, Nat.reduceBEq]; done) | fail)) only [q0, q8, hk, go_sem, Hold.p, HoldK.k, HoldL.K, HoldL.body, Nat.reduceBEq, Nat.reduceAdd, reduceIte]
        refine test_of (fun hw => ?_) (fun hw => ?_)
        · have hw' : 0 ≤ op.wait ∧ op.wait ≤ 1000000000 - now := by simpa using hw
          obtain ⟨now', hnow⟩ : ∃ n, n = now + op.wait := ⟨_, rfl⟩
          have w1 : wr .i64 (now + op.wait) = now' := by rw [wr64 _ (by omega), hnow]
          have hdo : doI now l op = (now', (passI now' l).1, tellI (passI now' l).1 (passI now' l).2) := by rw [hnow]; exact (if_neg hc').trans (if_pos ⟨hk', hw'.1, hw'.2⟩)
          rw [hdo]
          have q0 := (S.bx 0 rfl).eq
          have q8 := (S.bx 8 rfl).eq
          try simp (disch := (first | omega | assumption | (simp only [List.length_cons, List.length_nil, List.length_append]; first | done | omega) | (simp (disch := assumption) only [go_sem, one_as, Nat.reduceBEq]; done) | fail)) only [q0, q8, w1, go_sem, Hold.p, HoldK.k, HoldL.K, HoldL.body, Nat.reduceBEq, Nat.reduceAdd, reduceIte]
          refine st1_of (Nat.le_of_ble_eq_true rfl) (by first | rfl | assumption) fun g10 hg => ?_
          have l_g10 := n_set hg
          have S := S.set0 hg
          clear hg
          simp only [List.set_cons_zero, List.set_cons_succ, List.take_succ_cons, List.take_zero, List.drop_succ_cons, List.drop_zero, List.cons_append, List.nil_append, Nat.reduceAdd] at S
          try simp (disch := (first | omega | assumption | (simp only [List.length_cons, List.length_nil, List.length_append]; first | done | omega) | (simp (disch := assumption) only [go_sem, one_as, Nat.reduceBEq]; done) | fail)) only [go_sem, Hold.p, HoldK.k, HoldL.K, HoldL.body, Nat.reduceBEq, Nat.reduceAdd, reduceIte]
          refine callA_of (past_c S (by omega) hb) ?_
          clear S
          rintro r11 g11 ⟨vn, rg, rn, S⟩
          have hrl := a2_len S 1 rfl
          have z0 := (S.slA 0 rfl).one
          have len0 := (S.slA 0 rfl).lenF
          rw [hrl] at len0
          have hgl : (l.filter (goneI now')).length ≤ 16 := Nat.le_trans (List.length_filter_le _ _) hl
          obtain ⟨gone, hgone⟩ : ∃ g, g = l.filter (goneI now') := ⟨_, rfl⟩
          have hpas : passI now' l = (l.filter (fun m => !goneI now' m), { ot0 with ended := endsI gone }) := by rw [hgone]; rfl
          rw [hpas]
          rw [← hgone] at S hrl len0 hgl
          try simp (disch := (first | omega | assumption | (simp only [List.length_cons, List.length_nil, List.length_append]; first | done | omega) | (simp (disch := assumption) only [go_sem, one_as, Nat.reduceBEq]; done) | fail)) only [len0, go_sem, Hold.p, HoldK.k, HoldL.K, HoldL.body, Nat.reduceBEq, Nat.reduceAdd, reduceIte]
          refine loop_at (fun n e g => ∃ (k : Nat) (ve : IV), n = gone.length - k ∧ k ≤ gone.length ∧ e 0 = .ptr x 0 0 ∧ e 4 = .ptr p4 0 0 ∧ e 5 = .ptr p5 0 0 ∧ e 50 = r11 ∧ e 51 = .int .i64 (gone.length : Nat) ∧ e 52 = .int .i64 (k : Nat) ∧
            Sp g (sl false 105 1 r11 rg :: all2 mkR rg gone :: box x (xO now' vn) :: sl false 105 1 vn rn :: all2 mkR rn (l.filter fun m => !goneI now' m) :: box p5 (outO { ot0 with ended := endsI (gone.take k) } vo vp ve) :: byt vo ot0.pk.opts :: byt vp ot0.pk.pay :: endP ve (endsI (gone.take k)) :: old h0 :: box p4 oZ :: L)) gone.length ?_ ?_
          · refine ⟨0, ve, by omega, by omega, ?_⟩
            try simp (disch := (first | omega | assumption | (simp only [List.length_cons, List.length_nil, List.length_append]; first | done | omega) | (simp (disch := assumption) only [go_sem, one_as, Nat.reduceBEq]; done) | fail)) only [go_sem, Hold.p, HoldK.k, HoldL.K, HoldL.body, Nat.reduceBEq, Nat.reduceAdd, reduceIte]
            refine ⟨rfl, ?_⟩
            have S := by simpa only [List.map_cons, List.map_nil, List.getD_cons_zero, List.getD_cons_succ, List.drop_succ_cons, List.drop_zero, List.cons_append, List.nil_append] using Sp.sel S 12 [0, 1, 2, 3, 4, 5, 6, 7, 8, 9, 11] (by simp only [List.length_cons]; omega) (by decide) (by decide)
            exact S
          · clear S
            rintro n e g ⟨k, ve, rfl, hk2, i0, i4, i5, i50, i51, i52, S⟩
            try simp (disch := (first | omega | assumption | (simp only [List.length_cons, List.length_nil, List.length_append]; first | done | omega) | (simp (disch := assumption) only [go_sem, one_as, Nat.reduceBEq]; done) | fail)) only [i0, i4, i5, i50, i51, i52, go_sem, Hold.p, HoldK.k, HoldL.K, HoldL.body, Nat.reduceBEq, Nat.reduceAdd, reduceIte]
            refine test_dec (fun hb2 => ?_) (fun hb2 => ?_)
            · obtain ⟨m, hm⟩ : ∃ m, gone[k]? = some m := ⟨_, List.getElem?_eq_getElem (by omega : k < gone.length)⟩
              obtain ⟨q, vps, vf, hrow, hbq, k1, k2, k3⟩ := mk_at S 1 rfl hm
              have s0 := S.slA 0 rfl
              obtain ⟨a1, a2, hia, hal, har⟩ := s0.at hrow .i64
              have hcl := cellO_row har
              have qq := hbq.eq
              have hnx := endsI_next hm
              have hel := endsI_len (gone.take k)
              have hel2 : (gone.take k).length ≤ 16 := by rw [List.length_take]; omega
              have w2 : wr .i64 ((k : Int) + 1) = ((k + 1 : Nat) : Int) := by rw [wr64 _ (by omega)]; rfl
              have z8 := (S.slA 8 rfl).one
              try simp (disch := (first | omega | assumption | (simp only [List.length_cons, List.length_nil, List.length_append]; first | done | omega) | (simp (disch := assumption) only [go_sem, one_as, Nat.reduceBEq]; done) | fail)) only [i0, i4, i5, i50, i51, i52, hia, hcl, qq, go_sem, Hold.p, HoldK.k, HoldL.K, HoldL.body, Nat.reduceBEq, Nat.reduceAdd, reduceIte]
              refine test_of (fun hr => ?_) (fun hr => ?_)
              · have hr' : m.ref = false := by rwa [Bool.not_eq_true'] at hr
                rw [if_neg (by simp [hr'])] at hnx
                have q5 := (S.bx 5 rfl).eq
                try simp (disch := (first | omega | assumption | (simp only [List.length_cons, List.length_nil, List.length_append]; first | done | omega) | (simp (disch := assumption) only [go_sem, one_as, Nat.reduceBEq]; done) | fail)) only [q5, i0, i4, i5, i50, i51, i52, go_sem, Hold.p, HoldK.k, HoldL.K, HoldL.body, Nat.reduceBEq, Nat.reduceAdd, reduceIte]
                refine callA_of (told_c S hbq k2) ?_
                clear S
                rintro r12 g12 ⟨rfl, S⟩
                unfold enRow toldI
                have q5 := (S.bx 5 rfl).eq
                try simp (disch := (first | omega | assumption | (simp only [List.length_cons, List.length_nil, List.length_append]; first | done | omega) | (simp (disch := assumption) only [go_sem, one_as, Nat.reduceBEq]; done) | fail)) only [q5, i0, i4, i5, i50, i51, i52, go_sem, Hold.p, HoldK.k, HoldL.K, HoldL.body, Nat.reduceBEq, Nat.reduceAdd, reduceIte]
                refine Sp.bsl1 S (by first | rfl | (rw [cells_one (by assumption)]; rfl)) (by first | rfl | simp (disch := assumption) only [go_sem, cells_one, one_as]) fun p13 g13 S E_g13 l_g13 => ?_
                simp only [cells_agg, cells_int, cells_bool, cells_ptr, cells_str] at S
                have q0 := (S.bx 0 rfl).eq
                have q6 := (S.bx 6 rfl).eq
                try simp (disch := (first | omega | assumption | (simp only [List.length_cons, List.length_nil, List.length_append]; first | done | omega) | (simp (disch := assumption) only [go_sem, one_as, Nat.reduceBEq]; done) | fail)) only [q0, q6, i0, i4, i5, i50, i51, i52, go_sem, Hold.p, HoldK.k, HoldL.K, HoldL.body, Nat.reduceBEq, Nat.reduceAdd, reduceIte]
                have S := by simpa only [List.map_cons, List.map_nil, List.getD_cons_zero, List.getD_cons_succ, List.drop_succ_cons, List.drop_zero, List.cons_append, List.nil_append] using Sp.sel S 12 [0, 9, 1, 2, 3, 4, 5, 6, 7, 8, 10, 11] (by simp only [List.length_cons]; omega) (by decide) (by decide)
                refine S.app1 (y := false) (by simp; omega) ?_
                clear S
                intro v14 g14 S z14
                have q6 := (S.bx 6 rfl).eq
                try simp (disch := (first | omega | assumption | (simp only [List.length_cons, List.length_nil, List.length_append]; first | done | omega) | (simp (disch := assumption) only [go_sem, one_as, Nat.reduceBEq]; done) | fail)) only [q6, i0, i4, i5, i50, i51, i52, go_sem, Hold.p, HoldK.k, HoldL.K, HoldL.body, Nat.reduceBEq, Nat.reduceAdd, reduceIte]
                refine st1_of (Nat.le_of_ble_eq_true rfl) (by first | rfl | assumption) fun g15 hg => ?_
                have l_g15 := n_set hg
                have S := S.set6 hg
                clear hg
                simp only [List.set_cons_zero, List.set_cons_succ, List.take_succ_cons, List.take_zero, List.drop_succ_cons, List.drop_zero, List.cons_append, List.nil_append, Nat.reduceAdd] at S
                try simp (disch := (first | omega | assumption | (simp only [List.length_cons, List.length_nil, List.length_append]; first | done | omega) | (simp (disch := assumption) only [go_sem, one_as, Nat.reduceBEq]; done) | fail)) only [i0, i4, i5, i50, i51, i52, w2, go_sem, Hold.p, HoldK.k, HoldL.K, HoldL.body, Nat.reduceBEq, Nat.reduceAdd, reduceIte]
                have S := by simpa only [List.map_cons, List.map_nil, List.getD_cons_zero, List.getD_cons_succ, List.drop_succ_cons, List.drop_zero, List.cons_append, List.nil_append] using Sp.sel S 11 [1, 2, 3, 4, 5, 6, 7, 8, 0, 9, 10] (by simp only [List.length_cons]; omega) (by decide) (by decide)
                refine ⟨_, by omega, k + 1, v14, rfl, by omega, rfl, ?_⟩
                rw [hnx]
                simp only [endP, List.map_append, List.map_cons, List.map_nil]
                exact S
              · have hr' : m.ref = true := by rwa [Bool.not_eq_false'] at hr
                rw [if_pos hr'] at hnx
                try simp (disch := (first | omega | assumption | (simp only [List.length_cons, List.length_nil, List.length_append]; first | done | omega) | (simp (disch := assumption) only [go_sem, one_as, Nat.reduceBEq]; done) | fail)) only [i0, i4, i5, i50, i51, i52, w2, go_sem, Hold.p, HoldK.k, HoldL.K, HoldL.body, Nat.reduceBEq, Nat.reduceAdd, reduceIte]
                refine ⟨_, by omega, k + 1, ve, rfl, by omega, rfl, ?_⟩
                rw [hnx]
                exact S
            · rw [List.take_of_length_le (by omega)] at S
              try simp (disch := (first | omega | assumption | (simp only [List.length_cons, List.length_nil, List.length_append]; first | done | omega) | (simp (disch := assumption) only [go_sem, one_as, Nat.reduceBEq]; done) | fail)) only [i0, i4, i5, i50, i51, i52, go_sem, Hold.p, HoldK.k, HoldL.K, HoldL.body, Nat.reduceBEq, Nat.reduceAdd, reduceIte]
              refine ⟨p4, p5, { ot0 with ended := endsI gone }, rfl, rfl, rfl, rfl, vn, rn, vo, vp, ve, ?_⟩
              have S := by simpa only [List.map_cons, List.map_nil, List.getD_cons_zero, List.getD_cons_succ, List.drop_succ_cons, List.drop_zero, List.cons_append, List.nil_append] using Sp.sel S 11 [3, 2, 4, 5, 6, 7, 8, 9, 10] (by simp only [List.length_cons]; omega) (by decide) (by decide)
              have S := S.lax
              have S := by simpa only [List.map_cons, List.map_nil, List.getD_cons_zero, List.getD_cons_succ, List.drop_succ_cons, List.drop_zero, List.cons_append, List.nil_append] using Sp.sel S 9 [1, 0, 2, 3, 4, 5, 6, 7, 8] (by simp only [List.length_cons]; omega) (by decide) (by decide)
              exact S
        · have hw' : ¬ (0 ≤ op.wait ∧ op.wait ≤ 1000000000 - now) := by simpa using hw
          have hc2 : ¬ (op.kind = 2 ∧ 0 ≤ op.wait ∧ op.wait ≤ 1000000000 - now) := fun h => hw' h.2
          have hdo : doI now l op = (now, l, tellI l { ot0 with code := 1 }) := (if_neg hc').trans (if_neg hc2)
          have q3 := (S.bx 3 rfl).eq
          try simp (disch := (first | omega | assumption | (simp only [List.length_cons, List.length_nil, List.length_append]; first | done | omega) | (simp (disch := assumption) only [go_sem, one_as, Nat.reduceBEq]; done) | fail)) only [q3, hk, go_sem, Hold.p, HoldK.k, HoldL.K, HoldL.body, Nat.reduceBEq, Nat.reduceAdd, reduceIte]
          refine st1_of (Nat.le_of_ble_eq_true rfl) (by first | rfl | assumption) fun g10 hg => ?_
          have l_g10 := n_set hg
          have S := S.set3 hg
          clear hg
          simp only [List.set_cons_zero, List.set_cons_succ, List.take_succ_cons, List.take_zero, List.drop_succ_cons, List.drop_zero, List.cons_append, List.nil_append, Nat.reduceAdd] at S
          try simp (disch := (first | omega | assumption | (simp only [List.length_cons, List.length_nil, List.length_append]; first | done | omega) | (simp (disch := assumption) only [go_sem, one_as, Nat.reduceBEq]; done) | fail)) only [go_sem, Hold.p, HoldK.k, HoldL.K, HoldL.body, Nat.reduceBEq, Nat.reduceAdd, reduceIte]
          rw [hdo]
          exact ⟨p4, p5, { ot0 with code := 1 }, rfl, rfl, rfl, rfl, hdrop ⟨vl, rs, vo, vp, ve, S⟩⟩
      · have hk' : ¬ op.kind = 2 := by simpa using hk
        have hc2 : ¬ (op.kind = 2 ∧ 0 ≤ op.wait ∧ op.wait ≤ 1000000000 - now) := fun h => hk' h.1
        have hdo : doI now l op = (now, l, tellI l { ot0 with code := 1 }) := (if_neg hc').trans (if_neg hc2)
        have q3 := (S.bx 3 rfl).eq
        try simp (disch := (first | omega | assumption | (simp only [List.length_cons, List.length_nil, List.length_append]; first | done | omega) | (simp (disch := assumption) only [go_sem, one_as, Nat.reduceBEq]; done) | fail)) only [q3, hk, go_sem, Hold.p, HoldK.k, HoldL.K, HoldL.body, Nat.reduceBEq, Nat.reduceAdd, reduceIte]
        refine st1_of (Nat.le_of_ble_eq_true rfl) (by first | rfl | assumption) fun g10 hg => ?_
        have l_g10 := n_set hg
        have S := S.set3 hg
        clear hg
        simp only [List.set_cons_zero, List.set_cons_succ, List.take_succ_cons, List.take_zero, List.drop_succ_cons, List.drop_zero, List.cons_append, List.nil_append, Nat.reduceAdd] at S
        try simp (disch := (first | omega | assumption | (simp only [List.length_cons, List.length_nil, List.length_append]; first | done | omega) | (simp (disch := assumption) only [go_sem, one_as, Nat.reduceBEq]; done) | fail)) only [go_sem, Hold.p, HoldK.k, HoldL.K, HoldL.body, Nat.reduceBEq, Nat.reduceAdd, reduceIte]
        rw [hdo]
        exact ⟨p4, p5, { ot0 with code := 1 }, rfl, rfl, rfl, rfl, hdrop ⟨vl, rs, vo, vp, ve, S⟩⟩
  clear S hb hwh hok hl
  generalize doI now l op = D at hres ⊢
  obtain ⟨now', l', od⟩ := D
  simp only at hres ⊢
  obtain ⟨hl, hok⟩ := hres
  rintro e g ⟨p4, p5, o', i0, i4, i5, hod, hob, vl, rs, vo, vp, ve, S⟩
  simp only [CC.split]
  rw [hod]
  have x1 := (S.slA 4 rfl).one
  have x2 := (S.slA 5 rfl).one
  have x3 := (S.slA 6 rfl).one
  have hrl := a2_len S 2 rfl
  have htm : ∀ m ∈ l', ∀ k, totP (m.ps.take k) ≤ 90001 * 65535 := fun m hm k => Nat.le_trans (totP_le fun q hq => ((hok m hm).s.q q (List.mem_of_mem_take hq)).2) (Nat.mul_le_mul_right _ (by have := (hok m hm).s.n; rw [List.length_take]; omega))
  have htm' : ∀ m ∈ l', totP m.ps ≤ 90001 * 65535 := fun m hm => by have := htm m hm m.ps.length; rwa [List.take_length] at this
  have hbl : ∀ k, bytesI (l'.take k) ≤ 100 * (90001 * 65535) := fun k => Nat.le_trans (bytesI_le fun m hm => htm' m (List.mem_of_mem_take hm)) (Nat.mul_le_mul_right _ (by rw [List.length_take]; omega))
  have q0 := (S.bx 0 rfl).eq
  have q3 := (S.bx 3 rfl).eq
  have s1 := S.slA 1 rfl
  have len_s1 := s1.lenF
  have z1 := s1.one
  try simp (disch := (first | omega | assumption | (simp only [List.length_cons, List.length_nil, List.length_append]; first | done | omega) | (simp (disch := assumption) only [go_sem, one_as, Nat.reduceBEq]; done) | fail)) only [q0, q3, len_s1, z1, i0, i4, i5, hrl, go_sem, Hold.p, HoldK.k, HoldL.K, HoldL.body, Nat.reduceBEq, Nat.reduceAdd, reduceIte]
  refine st1_of (Nat.le_of_ble_eq_true rfl) (by first | rfl | assumption) fun g2 hg => ?_
  have l_g2 := n_set hg
  have S := S.set3 hg
  clear hg
  simp only [List.set_cons_zero, List.set_cons_succ, List.take_succ_cons, List.take_zero, List.drop_succ_cons, List.drop_zero, List.cons_append, List.nil_append, Nat.reduceAdd] at S
  have q0 := (S.bx 0 rfl).eq
  have s1 := S.slA 1 rfl
  have len_s1 := s1.lenF
  have z1 := s1.one
  try simp (disch := (first | omega | assumption | (simp only [List.length_cons, List.length_nil, List.length_append]; first | done | omega) | (simp (disch := assumption) only [go_sem, one_as, Nat.reduceBEq]; done) | fail)) only [q0, len_s1, z1, i0, i4, i5, hrl, go_sem, Hold.p, HoldK.k, HoldL.K, HoldL.body, Nat.reduceBEq, Nat.reduceAdd, reduceIte]
  refine loop_at (fun n e g => ∃ (k : Nat), n = l'.length - k ∧ k ≤ l'.length ∧ e 4 = .ptr p4 0 0 ∧ e 5 = .ptr p5 0 0 ∧ e 78 = vl ∧ e 79 = .int .i64 (l'.length : Nat) ∧ e 80 = .int .i64 (k : Nat) ∧
    Sp g (box x (xO now' vl) :: sl true 105 1 vl rs :: all2 mkR rs l' :: box p5 (outO { o' with held := l'.length, bytes := (bytesI (l'.take k) : Nat) } vo vp ve) :: byt vo o'.pk.opts :: byt vp o'.pk.pay :: endP ve o'.ended :: old h0 :: box p4 oZ :: L)) l'.length ?_ ?_
  · refine ⟨0, by omega, by omega, ?_⟩
    try simp (disch := (first | omega | assumption | (simp only [List.length_cons, List.length_nil, List.length_append]; first | done | omega) | (simp (disch := assumption) only [go_sem, one_as, Nat.reduceBEq]; done) | fail)) only [i4, i5, go_sem, Hold.p, HoldK.k, HoldL.K, HoldL.body, Nat.reduceBEq, Nat.reduceAdd, reduceIte]
    refine ⟨rfl, ?_⟩
    rw [hob] at S
    exact S
  · clear S i0 i4 i5
    rintro n e g ⟨k, rfl, hk, i4, i5, i78, i79, i80, S⟩
    try simp (disch := (first | omega | assumption | (simp only [List.length_cons, List.length_nil, List.length_append]; first | done | omega) | (simp (disch := assumption) only [go_sem, one_as, Nat.reduceBEq]; done) | fail)) only [i4, i5, i78, i79, i80, go_sem, Hold.p, HoldK.k, HoldL.K, HoldL.body, Nat.reduceBEq, Nat.reduceAdd, reduceIte]
    refine test_dec (fun hb => ?_) (fun hb => ?_)
    · obtain ⟨m, hm⟩ : ∃ m, l'[k]? = some m := ⟨_, List.getElem?_eq_getElem (by omega : k < l'.length)⟩
      have hokm := hok m (List.mem_of_getElem? hm)
      have hmn := hokm.s.n
      have w1 : wr .i64 ((k : Int) + 1) = ((k + 1 : Nat) : Int) := by rw [wr64 _ (by omega)]; rfl
      have S := by simpa only [List.map_cons, List.map_nil, List.getD_cons_zero, List.getD_cons_succ, List.drop_succ_cons, List.drop_zero, List.cons_append, List.nil_append] using Sp.sel S 9 [2, 0, 1, 3, 4, 5, 6, 7, 8] (by simp only [List.length_cons]; omega) (by decide) (by decide)
      obtain ⟨a0, r, bs, xs1, ys, hrs, hl1, ha0, hx1, S⟩ := S.a2at hm
      obtain ⟨q, vps, vf, prs, hr, S⟩ := mk_open S
      rw [hr] at hrs
      have hrow : rs[k]? = some [.ptr q 0 0] := by rw [hrs, ← ha0]; simp
      have s7 := S.slA 7 rfl
      obtain ⟨a1, a2, hia, hal, har⟩ := s7.at hrow .i64
      have hcl := cellO_row har
      have hpl := a2_len S 2 rfl
      have q0 := (S.bx 0 rfl).eq
      have s1 := S.slA 1 rfl
      have len_s1 := s1.lenF
      have z1 := s1.one
      try simp (disch := (first | omega | assumption | (simp only [List.length_cons, List.length_nil, List.length_append]; first | done | omega) | (simp (disch := assumption) only [go_sem, one_as, Nat.reduceBEq]; done) | fail)) only [q0, len_s1, z1, i4, i5, i78, i79, i80, hia, hcl, hpl, go_sem, Hold.p, HoldK.k, HoldL.K, HoldL.body, Nat.reduceBEq, Nat.reduceAdd, reduceIte]
      refine loop_at (fun n e g => ∃ (j : Nat), n = m.ps.length - j ∧ j ≤ m.ps.length ∧ e 4 = .ptr p4 0 0 ∧ e 5 = .ptr p5 0 0 ∧ e 78 = vl ∧ e 79 = .int .i64 (l'.length : Nat) ∧ e 80 = .int .i64 (k : Nat) ∧ e 87 = vps ∧ e 88 = .int .i64 (m.ps.length : Nat) ∧ e 89 = .int .i64 (j : Nat) ∧
        Sp g (box q (mkO m vps m.en vf m.ref) :: sl false 116 2 vps prs :: all2 pcR prs m.ps :: firstP vf m.first :: all2 mkR a0 xs1 :: all2 mkR bs ys :: box x (xO now' vl) :: sl true 105 1 vl rs :: box p5 (outO { o' with held := l'.length, bytes := (bytesI (l'.take k) + totP (m.ps.take j) : Nat) } vo vp ve) :: byt vo o'.pk.opts :: byt vp o'.pk.pay :: endP ve o'.ended :: old h0 :: box p4 oZ :: L)) m.ps.length ?_ ?_
      · refine ⟨0, by omega, by omega, ?_⟩
        try simp (disch := (first | omega | assumption | (simp only [List.length_cons, List.length_nil, List.length_append]; first | done | omega) | (simp (disch := assumption) only [go_sem, one_as, Nat.reduceBEq]; done) | fail)) only [i4, i5, i78, i79, i80, go_sem, Hold.p, HoldK.k, HoldL.K, HoldL.body, Nat.reduceBEq, Nat.reduceAdd, reduceIte]
        exact ⟨rfl, S⟩
      · clear S i4 i5 i78 i79 i80 s7 hal hia har hcl s1 len_s1 z1
        rintro n e g ⟨j, rfl, hj, i4, i5, i78, i79, i80, i87, i88, i89, S⟩
        try simp (disch := (first | omega | assumption | (simp only [List.length_cons, List.length_nil, List.length_append]; first | done | omega) | (simp (disch := assumption) only [go_sem, one_as, Nat.reduceBEq]; done) | fail)) only [i4, i5, i78, i79, i80, i87, i88, i89, go_sem, Hold.p, HoldK.k, HoldL.K, HoldL.body, Nat.reduceBEq, Nat.reduceAdd, reduceIte]
        refine test_dec (fun hb2 => ?_) (fun hb2 => ?_)
        · obtain ⟨x', hx'⟩ : ∃ q, m.ps[j]? = some q := ⟨_, List.getElem?_eq_getElem (by omega : j < m.ps.length)⟩
          have hqs := hokm.s.q x' (List.mem_of_getElem? hx')
          obtain ⟨vd, hrw, hvd⟩ := pcs_at S 2 rfl hx'
          have s1 := S.slA 1 rfl
          obtain ⟨a1, a2, hia, hal, har⟩ := s1.at hrw .i64
          have d1 := hvd.one
          have d2 := hvd.lenF
          rw [strRows_len] at d2
          have w3 : wr .i64 ((j : Int) + 1) = ((j + 1 : Nat) : Int) := by rw [wr64 _ (by omega)]; rfl
          have hnx := totP_next hx'
          have t1 := htm m (List.mem_of_getElem? hm) j
          have t2 := hbl k
          have w2 : wr .i64 (((bytesI (l'.take k) + totP (m.ps.take j) : Nat) : Int) + (x'.2.length : Int)) = ((bytesI (l'.take k) + totP (m.ps.take (j + 1)) : Nat) : Int) := by rw [wr64 _ (by omega), hnx]; omega
          try simp (disch := (first | omega | assumption | (simp only [List.length_cons, List.length_nil, List.length_append]; first | done | omega) | (simp (disch := assumption) only [go_sem, one_as, Nat.reduceBEq]; done) | fail)) only [i4, i5, i78, i79, i80, i87, i88, i89, hia, har, d1, go_sem, Hold.p, HoldK.k, HoldL.K, HoldL.body, Nat.reduceBEq, Nat.reduceAdd, reduceIte]
          refine Sp.zero S fun p11 g11 S E_g11 l_g11 => ?_
          have q0 := (S.bx 0 rfl).eq
          try simp (disch := (first | omega | assumption | (simp only [List.length_cons, List.length_nil, List.length_append]; first | done | omega) | (simp (disch := assumption) only [go_sem, one_as, Nat.reduceBEq]; done) | fail)) only [q0, d1, go_sem, Hold.p, HoldK.k, HoldL.K, HoldL.body, Nat.reduceBEq, Nat.reduceAdd, reduceIte]
          refine stw_of rfl rfl (by first | rfl | simp (disch := assumption) only [go_sem, cells_one, one_as]) fun g12 hg => ?_
          have l_g12 := n_set hg
          have S := S.set0 hg
          clear hg
          have q0 := (S.bx 0 rfl).eq
          have q9 := (S.bx 9 rfl).eq
          try simp (disch := (first | omega | assumption | (simp only [List.length_cons, List.length_nil, List.length_append]; first | done | omega) | (simp (disch := assumption) only [go_sem, one_as, Nat.reduceBEq]; done) | fail)) only [q0, q9, i4, i5, i78, i79, i80, i87, i88, i89, d2, w2, go_sem, Hold.p, HoldK.k, HoldL.K, HoldL.body, Nat.reduceBEq, Nat.reduceAdd, reduceIte]
          refine st1_of (Nat.le_of_ble_eq_true rfl) (by first | rfl | assumption) fun g13 hg => ?_
          have l_g13 := n_set hg
          have S := S.set9 hg
          clear hg
          simp only [List.set_cons_zero, List.set_cons_succ, List.take_succ_cons, List.take_zero, List.drop_succ_cons, List.drop_zero, List.cons_append, List.nil_append, Nat.reduceAdd] at S
          try simp (disch := (first | omega | assumption | (simp only [List.length_cons, List.length_nil, List.length_append]; first | done | omega) | (simp (disch := assumption) only [go_sem, one_as, Nat.reduceBEq]; done) | fail)) only [i4, i5, i78, i79, i80, i87, i88, i89, w3, go_sem, Hold.p, HoldK.k, HoldL.K, HoldL.body, Nat.reduceBEq, Nat.reduceAdd, reduceIte]
          exact ⟨_, by omega, j + 1, rfl, by omega, rfl, S.drop⟩
        · have : j = m.ps.length := by omega
          subst this
          have hnx := bytesI_next hm
          rw [List.take_length, ← hnx] at S
          have S := i_close S
          rw [← hl1, ← hrs] at S
          try simp (disch := (first | omega | assumption | (simp only [List.length_cons, List.length_nil, List.length_append]; first | done | omega) | (simp (disch := assumption) only [go_sem, one_as, Nat.reduceBEq]; done) | fail)) only [i4, i5, i78, i79, i80, w1, go_sem, Hold.p, HoldK.k, HoldL.K, HoldL.body, Nat.reduceBEq, Nat.reduceAdd, reduceIte]
          exact ⟨_, by omega, k + 1, rfl, by omega, rfl, S⟩
    · have : k = l'.length := by omega
      subst this
      rw [List.take_length] at S
      have q3 := (S.bx 3 rfl).eq
      have q8 := (S.bx 8 rfl).eq
      try simp (disch := (first | omega | assumption | (simp only [List.length_cons, List.length_nil, List.length_append]; first | done | omega) | (simp (disch := assumption) only [go_sem, one_as, Nat.reduceBEq]; done) | fail)) only [q3, q8, i4, i5, go_sem, Hold.p, HoldK.k, HoldL.K, HoldL.body, Nat.reduceBEq, Nat.reduceAdd, reduceIte]
      refine stw_of rfl rfl (by first | rfl | simp (disch := assumption) only [go_sem, cells_one, one_as]) fun g10 hg => ?_
      have l_g10 := n_set hg
      have S := S.set8 hg
      clear hg
      have q8 := (S.bx 8 rfl).eq
      try simp (disch := (first | omega | assumption | (simp only [List.length_cons, List.length_nil, List.length_append]; first | done | omega) | (simp (disch := assumption) only [go_sem, one_as, Nat.reduceBEq]; done) | fail)) only [q8, i4, i5, go_sem, Hold.p, HoldK.k, HoldL.K, HoldL.body, Nat.reduceBEq, Nat.reduceAdd, reduceIte]
      have ht : tellI l' o' = { o' with held := l'.length, bytes := (bytesI l' : Nat) } := by unfold tellI; rw [hob, Int.zero_add]
      rw [ht]
      refine ⟨vl, rs, vo, vp, ve, rfl, ?_⟩
      have S := by simpa only [List.map_cons, List.map_nil, List.getD_cons_zero, List.getD_cons_succ, List.drop_succ_cons, List.drop_zero, List.cons_append, List.nil_append] using Sp.sel S 9 [0, 1, 2, 4, 5, 6, 7] (by simp only [List.length_cons]; omega) (by decide) (by decide)
      exact S
end
end Go.Proofs.Ytjmmmmdpkfpojaa

set_option maxRecDepth 20000
namespace Go.Proofs.Ytjmmmmdpkfpojaa
open Go Go.IW

/-! ### The two sides put together alike -/
structure B1 (m : Mk) (s : Ms) : Prop where
  b : Both m s
  z : s.has = true → s.first.off = 0
  e : m.ref = true → m.en = -1
section
variable {α β : Type} {R : α → β → Prop} {l : List α} {s : List β}
theorem a2_find {f : α → Bool} {g : β → Bool} (h : All2 R l s) (hf : ∀ a b, R a b → f a = g b) : l.findIdx? f = s.findIdx? g := by
  induction h with
  | nil => rfl
  | cons h _ ih =>
    rw [List.findIdx?_cons, List.findIdx?_cons, hf _ _ h, ih]
theorem a2_eraseIdx (h : All2 R l s) (i : Nat) : All2 R (l.eraseIdx i) (s.eraseIdx i) := by
  induction h generalizing i with
  | nil => exact .nil
  | cons h t ih => cases i with
    | zero => exact t
    | succ i => exact .cons h (ih i)
theorem a2_set (h : All2 R l s) (i : Nat) {a : α} {b : β} (hr : R a b) : All2 R (l.set i a) (s.set i b) := by
  induction h generalizing i with
  | nil => exact .nil
  | cons h t ih => cases i with
    | zero => exact .cons hr t
    | succ i => exact .cons h (ih i)
theorem a2_get (h : All2 R l s) {i : Nat} {a : α} (ha : l[i]? = some a) : ∃ b, s[i]? = some b ∧ R a b := by
  induction h generalizing i with
  | nil => simp at ha
  | cons h t ih => cases i with
    | zero => simp at ha; subst ha; exact ⟨_, rfl, h⟩
    | succ i => simpa using ih (by simpa using ha)
end
theorem addI_shape (m : Mk) (p : Pk) : ∃ m2 : Mk, m2.ref = m.ref ∧ (addI m p = (m.refuse, false) ∨ addI m p = addEnd m2 m2.first) := by
  unfold addI
  simp only
  split
  · exact ⟨m, rfl, .inl rfl⟩
  · split
    · exact ⟨m, rfl, .inl rfl⟩
    · rename_i same _ _
      obtain ⟨m1, hm1⟩ : ∃ m1 : Mk, m1 = if p.mf = false then { m with en := p.off + (p.pay.length : Int) } else m := ⟨_, rfl⟩
      have h1 : m1.ref = m.ref := by rw [hm1]; split <;> rfl
      rw [← hm1]
      obtain ⟨m2, hm2⟩ : ∃ m2 : Mk, m2 = if same = true then m1 else { m1 with ps := m1.ps ++ [(p.off, p.pay)], first := if p.off = 0 then some p else m1.first } := ⟨_, rfl⟩
      have h2 : m2.ref = m.ref := by rw [hm2]; split <;> exact h1
      rw [← hm2]
      refine ⟨m2, h2, .inr ?_⟩
      unfold addEnd
      cases m2.first <;> rfl
theorem addI_ref {m : Mk} {p : Pk} (h : m.ref = false) : (addI m p).1.ref = true → (addI m p).1.en = -1 := by
  obtain ⟨m2, h2, h3 | h3⟩ := addI_shape m p
  · rw [h3]; intro _; rfl
  · rw [h3]
    cases m2.first with
    | none =>
      intro h4
      have h4' : m2.ref = true := h4
      rw [h2, h] at h4'; cases h4'
    | some f =>
      simp only [addEnd]
      split
      · intro h4
        have h4' : m2.ref = true := h4
        rw [h2, h] at h4'; cases h4'
      · split
        · intro _; rfl
        · intro h4
          have h4' : m2.ref = true := h4
          rw [h2, h] at h4'; cases h4'
theorem addS_shape2 (m : Ms) (p : Pk) : ∃ (ref : Bool) (e2 : Int) (ps : Pcs), addS m p = if ref = true then { m with ps := [], en := e2, ref := true, has := false, first := if p.off = 0 ∧ m.has = false then p else m.first } else { m with ps := ps, en := e2, ref := false, has := decide (p.off = 0) || m.has, first := if p.off = 0 ∧ m.has = false then p else m.first } := ⟨_, _, _, rfl⟩
theorem addS_zero {s : Ms} {p : Pk} (h : s.has = true → s.first.off = 0) : (addS s p).has = true → (addS s p).first.off = 0 := by
  obtain ⟨ref, e2, ps, e⟩ := addS_shape2 s p
  rw [e]
  cases ref with
  | true => intro h1; cases h1
  | false =>
    intro h1
    have h1' : (decide (p.off = 0) || s.has) = true := h1
    show (if p.off = 0 ∧ s.has = false then p else s.first).off = 0
    by_cases h2 : p.off = 0 ∧ s.has = false
    · rw [if_pos h2]; exact h2.1
    · rw [if_neg h2]
      by_cases h3 : s.has = true
      · exact h h3
      · exfalso
        have h4 : s.has = false := by simpa using h3
        rw [h4, Bool.or_false] at h1'
        exact h2 ⟨by simpa using h1', h4⟩
theorem b1_add {m : Mk} {s : Ms} {p : Pk} (hb : B1 m s) (hr : m.ref = false) (ho : 0 ≤ p.off) (hp : p.pay ≠ []) : B1 (addI m p).1 (addS s p) ∧ (addI m p).2 = wholeS (addS s p) ∧ ((addI m p).2 = true → wholeI (addI m p).1 = wholePk (addS s p)) := by
  obtain ⟨h1, h2, h3⟩ := add_both hb.b hr ho hp
  refine ⟨⟨h1, addS_zero hb.z, addI_ref hr⟩, h2, fun hw => ?_⟩
  obtain ⟨h4, h5⟩ := h3 hw
  obtain ⟨e1, e2, e3, _⟩ := h1.on h4
  have hhas : (addS s p).has = true := by
    cases hh : (addS s p).has with
    | true => rfl
    | false => rw [hh, h5] at e3; simp at e3
  have hz := addS_zero hb.z hhas
  unfold wholeI wholePk
  rw [h5, e1, e2]
  simp only [Option.getD_some]
  rw [← hz]
theorem b1_new (p : Pk) (now : Int) : B1 (mkNew p now) (msNew p now) :=
  ⟨⟨rfl, rfl, rfl, rfl, rfl, rfl, fun h => by simp [mkNew] at h, fun _ => ⟨rfl, rfl, rfl, ⟨by simp [msNew], by simp [msNew], by simp [msNew], by simp [msNew], by simp [msNew], .inl rfl⟩⟩⟩, fun h => by simp [msNew] at h, fun h => by simp [mkNew] at h⟩
theorem b1_told {m : Mk} {s : Ms} (hb : B1 m s) (o : Ot) : goneOI o m = goneO o s true := by
  have h1 := hb.b
  have h2 := hb.b.ref
  unfold goneOI goneO
  cases hr : m.ref with
  | true => rw [← h2, hr]; simp
  | false =>
    rw [← h2, hr]
    have h3 := (h1.on hr).2.2.1
    have h4 : toldI m = toldS s := by
      unfold toldI toldS
      rw [h1.src, h1.dst, h1.proto, h1.id, h3]
      cases s.has <;> rfl
    simp [h4]
theorem b1_key {m : Mk} {s : Ms} (p : Pk) (hb : B1 m s) : keyI p m = keyS p s := by
  unfold keyI keyS
  rw [hb.b.src, hb.b.dst, hb.b.proto, hb.b.id]
theorem b1_ok {N : Nat} {m : Mk} {s : Ms} (hb : B1 m s) (hs : OkM N s) : OkI N m := by
  cases hr : m.ref with
  | true =>
    obtain ⟨h1, h2, _⟩ := hb.b.off hr
    exact ⟨⟨by rw [h1]; simp, by rw [h1]; simp, by rw [hb.e hr]; omega⟩, fun f hf => by rw [h2] at hf; cases hf⟩
  | false =>
    obtain ⟨h1, h2, h3, _⟩ := hb.b.on hr
    refine ⟨⟨by rw [h1]; exact hs.s.n, by rw [h1]; exact hs.s.q, by rw [h2]; exact hs.s.e⟩, fun f hf => ?_⟩
    rw [h3] at hf
    split at hf
    · cases hf; exact hs.o
    · cases hf
theorem b1_tot {m : Mk} {s : Ms} (hb : B1 m s) : m.ps = s.ps := by
  cases hr : m.ref with
  | true => obtain ⟨h1, _, h2, _⟩ := hb.b.off hr; rw [h1, h2]
  | false => exact (hb.b.on hr).1
theorem tell_both {l : List Mk} {s : List Ms} (h : All2 B1 l s) (o : Ot) : tellI l o = tellS s o := by
  have h1 : bytesI l = bytesS s := by
    induction h with
    | nil => rfl
    | cons h _ ih => unfold bytesI bytesS at *; simp only [List.map_cons, List.sum_cons, ih, b1_tot h]
  unfold tellI tellS
  rw [h1, h.len]
theorem open_both {l : List Mk} {s : List Ms} (h : All2 B1 l s) (now : Int) (o : Ot) (p : Pk) : All2 B1 (openI now l o p).1 (openS now s o p).1 ∧ (openI now l o p).2 = (openS now s o p).2 := by
  unfold openI openS
  rw [a2_find h fun a b => b1_key p]
  cases s.findIdx? (keyS p) with
  | some k => exact ⟨h, rfl⟩
  | none =>
    simp only [h.len]
    split
    · rename_i h16
      refine ⟨(a2_eraseIdx h 0).app (.cons (b1_new p now) .nil), ?_⟩
      cases h with
      | nil => simp at h16
      | cons h _ => simp only [List.headD_cons, b1_told h]
    · exact ⟨h.app (.cons (b1_new p now) .nil), rfl⟩
theorem take_both {l : List Mk} {s : List Ms} {N : Nat} {now : Int} (h : All2 B1 l s) (hL : LOk N now s) (hn : 0 ≤ now) (o : Ot) (p : Pk) (ho : 0 ≤ p.off) : All2 B1 (takeI now l o p).1 (takeS now s o p).1 ∧ (takeI now l o p).2 = (takeS now s o p).2 := by
  unfold takeI takeS
  split
  · exact ⟨h, rfl⟩
  · split
    · exact ⟨h, rfl⟩
    · rename_i h1 h2
      obtain ⟨a, b⟩ := open_both h now o p
      obtain ⟨_, c, _⟩ := openS_ok (o := o) (p := p) hL hn
      generalize openI now l o p = ri at a b ⊢
      generalize openS now s o p = rs at a b c ⊢
      obtain ⟨l1, o1, i⟩ := ri
      obtain ⟨s1, o2, j⟩ := rs
      simp only [Prod.mk.injEq] at a b c
      obtain ⟨rfl, rfl⟩ := b
      obtain ⟨t, ht⟩ : ∃ t, s1[i]? = some t := ⟨_, List.getElem?_eq_getElem c⟩
      obtain ⟨m, hm, hmt⟩ := a.at ht
      unfold stepI stepS
      simp only [List.getD_eq_getElem?_getD, hm, ht, Option.getD_some]
      rw [hmt.b.ref]
      cases hr : t.ref with
      | true => simp only [if_true]; exact ⟨a, trivial⟩
      | false =>
        simp only [Bool.false_eq_true, if_false]
        have hmr : m.ref = false := hmt.b.ref.trans hr
        obtain ⟨k1, k2, k3⟩ := b1_add hmt hmr ho (fun e => h2 (.inl e))
        rw [k2]
        cases hw : wholeS (addS t p) with
        | true =>
          simp only [if_true]
          exact ⟨a2_eraseIdx a i, by rw [k3 (k2.trans hw)]⟩
        | false =>
          simp only [Bool.false_eq_true, if_false]
          exact ⟨a2_set a i k1, trivial⟩
theorem pass_both {t : Int} : ∀ {l : List Mk} {s : List Ms}, All2 B1 l s → s.Pairwise (fun a b => a.born ≤ b.born) → ∀ o, All2 B1 (l.filter fun m => !goneI t m) (passS t s o).1 ∧ (passS t s o).2 = { o with ended := o.ended ++ endsI (l.filter (goneI t)) }
  | _, _, .nil, _, o => ⟨.nil, by simp [passS, endsI]⟩
  | m :: l, x :: s, .cons h hs, hp, o => by
    rw [List.pairwise_cons] at hp
    have hg : goneI t m = decide (x.born + 30000 ≤ t) := by unfold goneI; rw [h.b.begun]
    by_cases hc : x.born + 30000 ≤ t
    · have hgt : goneI t m = true := by rw [hg]; exact decide_eq_true hc
      obtain ⟨a, b⟩ := pass_both hs hp.2 (goneO o x true)
      rw [passS, if_pos hc]
      refine ⟨by rw [List.filter_cons_of_neg (by simp [hgt])]; exact a, ?_⟩
      rw [b, List.filter_cons_of_pos hgt, ← b1_told h]
      unfold goneOI endsI
      cases hr : m.ref <;> simp [hr]
    · have hgf : goneI t m = false := by rw [hg]; exact decide_eq_false hc
      have hall : ∀ y ∈ l, goneI t y = false := by
        intro y hy
        obtain ⟨i, hi⟩ := List.getElem?_of_mem hy
        obtain ⟨z, hz, hb⟩ := a2_get hs hi
        have := hp.1 z (List.mem_of_getElem? hz)
        unfold goneI
        rw [hb.b.begun]
        exact decide_eq_false (by omega)
      rw [passS, if_neg hc]
      have e1 : (m :: l).filter (fun m => !goneI t m) = m :: l := List.filter_eq_self.2 (by
        intro y hy
        rcases List.mem_cons.1 hy with rfl | hy
        · simp [hgf]
        · simp [hall y hy])
      have e2 : (m :: l).filter (goneI t) = [] := List.filter_eq_nil_iff.2 (by
        intro y hy
        rcases List.mem_cons.1 hy with rfl | hy
        · simp [hgf]
        · simp [hall y hy])
      rw [e1, e2]
      exact ⟨.cons h hs, by simp [endsI]⟩
end Go.Proofs.Ytjmmmmdpkfpojaa

set_option maxRecDepth 20000
namespace Go.Proofs.Ytjmmmmdpkfpojaa
open Go Go.IW
section
attribute [local go_sem] List.getElem?_cons_zero List.getElem?_cons_succ Option.bind_some List.map_cons List.map_nil Nat.zero_add if_true List.getD_cons_zero List.getD_cons_succ List.contains_cons List.contains_nil Bool.or_true Bool.true_or Bool.or_false Bool.false_or Bool.not_true Bool.not_false true_and and_true rowA_whole mid_get rowO_rows cellO_rows upd_ne Nat.add_assoc Nat.add_zero List.all_cons List.all_nil one_bool one_int one_str one_ptr one_nilptr one_slice one_eslice one_nilslice one_func one_iface one_niliface Bool.and_true Bool.and_self List.length_cons List.length_nil Nat.one_ne_zero Nat.succ_ne_zero if_false List.set_cons_zero List.set_cons_succ lay_nil lay_1 lay_w Option.map_some cells_one rowA_some List.drop_succ_cons List.drop_zero List.take_succ_cons List.take_zero

/-! ### impl.RunReasm -/
abbrev SB (s : List Ms) : Prop := s.Pairwise fun a b => a.born ≤ b.born
theorem sb_snoc {s : List Ms} {m : Ms} (h : SB s) (hm : ∀ x ∈ s, x.born ≤ m.born) : SB (s ++ [m]) := by
  refine List.pairwise_append.2 ⟨h, List.pairwise_singleton _ _, fun a ha b hb => ?_⟩
  rw [List.mem_singleton.1 hb]; exact hm a ha
theorem sb_erase {s : List Ms} (h : SB s) (i : Nat) : SB (s.eraseIdx i) := h.sublist (List.eraseIdx_sublist _ _)
theorem open_sb {N : Nat} {now : Int} {s : List Ms} {o : Ot} {p : Pk} (h : SB s) (hL : LOk N now s) : SB (openS now s o p).1 := by
  unfold openS
  split
  · exact h
  · split
    · exact sb_snoc (sb_erase h 0) fun x hx => (hL.b x (List.mem_of_mem_eraseIdx hx)).2
    · exact sb_snoc h fun x hx => (hL.b x hx).2
theorem set_sb {s : List Ms} {i : Nat} {m m' : Ms} (h : SB s) (hm : s[i]? = some m) (hb : m'.born = m.born) : SB (s.set i m') := by
  have e : (s.set i m').map Ms.born = s.map Ms.born := by
    rw [List.map_set]
    refine List.ext_getElem? fun j => ?_
    rw [List.getElem?_set]
    split
    · rename_i hij
      subst hij
      split
      · rw [List.getElem?_map, hm, hb]; rfl
      · rw [List.getElem?_eq_none (by omega)]
    · rfl
  have h1 : (s.map Ms.born).Pairwise (· ≤ ·) := List.pairwise_map.2 h
  rw [← e] at h1
  exact List.pairwise_map.1 h1
theorem take_sb {N : Nat} {now : Int} {s : List Ms} {o : Ot} {p : Pk} (h : SB s) (hL : LOk N now s) (hn : 0 ≤ now) : SB (takeS now s o p).1 := by
  unfold takeS
  split
  · exact h
  · split
    · exact h
    · have h1 := open_sb (o := o) (p := p) h hL
      obtain ⟨_, h2, _⟩ := openS_ok (o := o) (p := p) hL hn
      generalize openS now s o p = r at h1 h2 ⊢
      obtain ⟨s1, o1, i⟩ := r
      simp only at h1 h2 ⊢
      obtain ⟨t, ht⟩ : ∃ t, s1[i]? = some t := ⟨_, List.getElem?_eq_getElem h2⟩
      unfold stepS
      simp only [List.getD_eq_getElem?_getD, ht, Option.getD_some]
      split
      · exact h1
      · split
        · exact sb_erase h1 i
        · exact set_sb h1 ht (addS_born t p)
theorem pass_sb {t : Int} : ∀ {s : List Ms} {o : Ot}, SB s → SB (passS t s o).1
  | [], _, h => h
  | m :: s, o, h => by
    unfold passS
    split
    · exact pass_sb (List.pairwise_cons.1 h).2
    · exact h
theorem op_both {l : List Mk} {s : List Ms} {N : Nat} {now : Int} {op : Op} (h : All2 B1 l s) (hL : LOk N now s) (hS : SB s) (hn : 0 ≤ now ∧ now ≤ 1000000000) :
    (doI now l op).1 = (opS now s op).1 ∧ All2 B1 (doI now l op).2.1 (opS now s op).2.1 ∧ (doI now l op).2.2 = (opS now s op).2.2 ∧ LOk (N + 1) (opS now s op).1 (opS now s op).2.1 ∧ SB (opS now s op).2.1 ∧ 0 ≤ (opS now s op).1 ∧ (opS now s op).1 ≤ 1000000000 := by
  unfold doI opS
  by_cases h1 : op.kind = 1 ∧ codeB op.pk = 0
  · rw [if_pos h1, if_pos h1]
    obtain ⟨c1, c2, c3⟩ := codeB_ok h1.2
    obtain ⟨a, b⟩ := take_both h hL hn.1 ot0 op.pk c1.1
    exact ⟨rfl, a, by rw [b]; exact tell_both a _, (takeS_ok hL hn.1 h1.2).1, take_sb hS hL hn.1, hn.1, hn.2⟩
  · rw [if_neg h1, if_neg h1]
    by_cases h2 : op.kind = 2 ∧ 0 ≤ op.wait ∧ op.wait ≤ 1000000000 - now
    · rw [if_pos h2, if_pos h2]
      obtain ⟨a, b⟩ := pass_both (t := now + op.wait) h hS ot0
      refine ⟨rfl, a, ?_, (passS_ok (hL.mono (M := N + 1) (now' := now + op.wait) (by omega) (by omega))).1, pass_sb hS, by simp only; omega, by simp only; omega⟩
      simp only
      rw [b, ← tell_both a]
      rfl
    · rw [if_neg h2, if_neg h2]
      exact ⟨rfl, h, tell_both h _, hL.mono (by omega) (Int.le_refl _), hS, hn.1, hn.2⟩
set_option maxHeartbeats 2000000 in
theorem implRun_c (h : IH) (v : IV) (ops : List Op) (a : OpsAt h v ops) (hn : ops.length ≤ 1048576) (hsz : ∀ o ∈ ops, o.pk.opts.length + o.pk.pay.length ≤ 1048576) :
    ICalls Try.prog 10 [v] h fun r h' => RunRes h h' r (runS ops) ∧ Ext h h' := by
  refine icalls (.of ok10) (Nat.le_of_ble_eq_true rfl) ?_
  unfold c10
  obtain ⟨⟨rs, hsl, hrl, hrow⟩, hI⟩ := a
  have hlen := hsl.lenF
  rw [hrl] at hlen
  try simp (disch := (first | omega | assumption | (simp only [List.length_cons, List.length_nil, List.length_append]; first | done | omega) | (simp (disch := assumption) only [go_sem, one_as, Nat.reduceBEq]; done) | fail)) only [hlen, go_sem, Hold.p, HoldK.k, HoldL.K, HoldL.body, Nat.reduceBEq, Nat.reduceAdd, reduceIte]
  refine test_dec (fun hb => ?_) (fun hb => ?_)
  · have hr : runS ops = ([], 8) := if_pos (by omega)
    try simp (disch := (first | omega | assumption | (simp only [List.length_cons, List.length_nil, List.length_append]; first | done | omega) | (simp (disch := assumption) only [go_sem, one_as, Nat.reduceBEq]; done) | fail)) only [go_sem, Hold.p, HoldK.k, HoldL.K, HoldL.body, Nat.reduceBEq, Nat.reduceAdd, reduceIte]
    rw [hr]
    exact ⟨⟨_, rfl, (Ow.nil0 h)⟩, Ext.refl _⟩
  have hr : runS ops = (runSt 0 [] ops, 0) := if_neg (by omega)
  rw [hr]
  have S := Sp.start h
  try simp (disch := (first | omega | assumption | (simp only [List.length_cons, List.length_nil, List.length_append]; first | done | omega) | (simp (disch := assumption) only [go_sem, one_as, Nat.reduceBEq]; done) | fail)) only [go_sem, Hold.p, HoldK.k, HoldL.K, HoldL.body, Nat.reduceBEq, Nat.reduceAdd, reduceIte]
  refine Sp.bxA S (by first | rfl | (rw [cells_one (by assumption)]; rfl)) (by first | rfl | simp (disch := assumption) only [go_sem, cells_one, one_as]) fun x g1 S E_g1 l_g1 => ?_
  try simp (disch := (first | omega | assumption | (simp only [List.length_cons, List.length_nil, List.length_append]; first | done | omega) | (simp (disch := assumption) only [go_sem, one_as, Nat.reduceBEq]; done) | fail)) only [hlen, go_sem, Hold.p, HoldK.k, HoldL.K, HoldL.body, Nat.reduceBEq, Nat.reduceAdd, reduceIte]
  refine loop_at (fun n e g => ∃ (k : Nat) (now : Int) (l : List Mk) (s : List Ms) (vx vl : IV) (outs : List Ot) (rl : List (List IV)), n = ops.length - k ∧ k ≤ ops.length ∧ e 4 = .ptr x 0 0 ∧ e 5 = vx ∧ e 13 = v ∧ e 14 = .int .i64 (ops.length : Nat) ∧ e 15 = .int .i64 (k : Nat) ∧ outs.length = k ∧
    runSt 0 [] ops = outs ++ runSt now s (ops.drop k) ∧ All2 B1 l s ∧ LOk k now s ∧ SB s ∧ 0 ≤ now ∧ now ≤ 1000000000 ∧
    Sp g (box x (xO now vl) :: sl true 105 1 vl rl :: all2 mkR rl l :: dat (.slice 52 t_ReasmOut) [vx] (.list (outs.map outD)) :: [old h])) ops.length ?_ ?_
  · refine ⟨0, 0, [], [], .nilslice, .nilslice, [], [], by omega, by omega, ?_⟩
    try simp (disch := (first | omega | assumption | (simp only [List.length_cons, List.length_nil, List.length_append]; first | done | omega) | (simp (disch := assumption) only [go_sem, one_as, Nat.reduceBEq]; done) | fail)) only [go_sem, Hold.p, HoldK.k, HoldL.K, HoldL.body, Nat.reduceBEq, Nat.reduceAdd, reduceIte]
    refine ⟨rfl, rfl, .nil, ⟨by simp, by simp, by simp⟩, List.Pairwise.nil, by omega, by omega, ?_⟩
    have S := ((S.a2nil (R := mkR)).slNil (x := true) (el := 105) (sz := 1))
    have S := S.new (Ext.refl _) (f := []) (A := dat (.slice 52 t_ReasmOut) [.nilslice] (.list [])) ⟨_, [], rfl, rfl, .inl ⟨rfl, rfl, .inl rfl⟩⟩ (by simp) (by simp)
    have S := by simpa only [List.map_cons, List.map_nil, List.getD_cons_zero, List.getD_cons_succ, List.drop_succ_cons, List.drop_zero, List.cons_append, List.nil_append] using Sp.sel S 5 [3, 1, 2, 0, 4] (by simp only [List.length_cons]; omega) (by decide) (by decide)
    exact S
  · clear S
    rintro n e g ⟨k, now, l, s, vx, vl, outs, rl, rfl, hk, i4, i5, i13, i14, i15, hol, hru, hB, hL, hS, hn0, hn1, S⟩
    try simp (disch := (first | omega | assumption | (simp only [List.length_cons, List.length_nil, List.length_append]; first | done | omega) | (simp (disch := assumption) only [go_sem, one_as, Nat.reduceBEq]; done) | fail)) only [i4, i5, i13, i14, i15, go_sem, Hold.p, HoldK.k, HoldL.K, HoldL.body, Nat.reduceBEq, Nat.reduceAdd, reduceIte]
    refine test_dec (fun hb2 => ?_) (fun hb2 => ?_)
    · obtain ⟨op, hop⟩ : ∃ q, ops[k]? = some q := ⟨_, List.getElem?_eq_getElem (by omega : k < ops.length)⟩
      obtain ⟨po, pp, hrk, ha⟩ := hrow k op hop
      obtain ⟨hIw, hIp⟩ := hI op (List.mem_of_getElem? hop)
      have hszo := hsz op (List.mem_of_getElem? hop)
      have y1 := ha.o.one
      have y2 := ha.p.one
      have w1 : wr .i64 ((k : Int) + 1) = ((k + 1 : Nat) : Int) := by rw [wr64 _ (by omega)]; rfl
      rw [drop_at hop, runSt] at hru
      have hsg := hsl.ext (S.ol 4 rfl)
      obtain ⟨a1, a2, hia, hal, har⟩ := hsg.at hrk .i64
      unfold opRow pkRow at har
      try simp (disch := (first | omega | assumption | (simp only [List.length_cons, List.length_nil, List.length_append]; first | done | omega) | (simp (disch := assumption) only [go_sem, one_as, Nat.reduceBEq]; done) | fail)) only [i4, i5, i13, i14, i15, hia, har, go_sem, Hold.p, HoldK.k, HoldL.K, HoldL.body, Nat.reduceBEq, Nat.reduceAdd, reduceIte]
      refine Sp.zero S fun p7 g7 S E_g7 l_g7 => ?_
      have q0 := (S.bx 0 rfl).eq
      try simp (disch := (first | omega | assumption | (simp only [List.length_cons, List.length_nil, List.length_append]; first | done | omega) | (simp (disch := assumption) only [go_sem, one_as, Nat.reduceBEq]; done) | fail)) only [q0, go_sem, Hold.p, HoldK.k, HoldL.K, HoldL.body, Nat.reduceBEq, Nat.reduceAdd, reduceIte]
      refine stw_of rfl rfl (by first | rfl | simp (disch := assumption) only [go_sem, cells_one, one_as]) fun g8 hg => ?_
      have l_g8 := n_set hg
      have S := S.set0 hg
      clear hg
      have q0 := (S.bx 0 rfl).eq
      try simp (disch := (first | omega | assumption | (simp only [List.length_cons, List.length_nil, List.length_append]; first | done | omega) | (simp (disch := assumption) only [go_sem, one_as, Nat.reduceBEq]; done) | fail)) only [q0, i4, i5, i13, i14, i15, go_sem, Hold.p, HoldK.k, HoldL.K, HoldL.body, Nat.reduceBEq, Nat.reduceAdd, reduceIte]
      obtain ⟨d1, d2, d3, d4, d5, d6, d7⟩ := op_both (op := op) hB hL hS ⟨hn0, hn1⟩
      have hle : l.length ≤ 16 := by rw [hB.len]; exact hL.n
      have hokl : ∀ {N : Nat} {l : List Mk} {s : List Ms}, All2 B1 l s → (∀ m ∈ s, OkM N m) → ∀ m ∈ l, OkI N m := by
        intro N l s hB hs m hm
        obtain ⟨i, hi⟩ := List.getElem?_of_mem hm
        obtain ⟨t, ht, hb⟩ := a2_get hB hi
        exact b1_ok hb (hs t (List.mem_of_getElem? ht))
      have S := by simpa only [List.map_cons, List.map_nil, List.getD_cons_zero, List.getD_cons_succ, List.drop_succ_cons, List.drop_zero, List.cons_append, List.nil_append] using Sp.sel S 6 [1, 2, 3, 5, 4, 0] (by simp only [List.length_cons]; omega) (by decide) (by decide)
      refine callA_of (do_c S ha (N := k) (by omega) hle (hokl hB hL.m) (fun m hm => ?_) ⟨hn0, hn1⟩ hszo hIp ⟨?_, hokl d2 d4.m⟩ ?_) ?_
      · obtain ⟨i, hi⟩ := List.getElem?_of_mem hm
        obtain ⟨t, ht, hb⟩ := a2_get hB hi
        have := hL.b t (List.mem_of_getElem? ht)
        rw [hb.b.begun]
        omega
      · rw [d2.len]; exact d4.n
      · intro hcd hpay m hm hmr hw q hq
        obtain ⟨oa, ob⟩ := open_both hB now ot0 op.pk
        obtain ⟨i, hi⟩ := List.getElem?_of_mem hm
        obtain ⟨t, ht, hb⟩ := a2_get oa hi
        obtain ⟨c1, c2, c3⟩ := codeB_ok hcd
        obtain ⟨e1, e2, e3⟩ := add_both hb.b hmr c1.1 hpay
        obtain ⟨e4, _⟩ := e3 hw
        obtain ⟨e5, e6, _⟩ := e1.on e4
        rw [e5] at hq
        rw [e6]
        exact addS_in (e2 ▸ hw) q hq
      clear S
      rintro r9 g9 ⟨vl', rl', vo, vp, ve, rfl, S⟩
      have z1 := (S.slA 3 rfl).one
      have z2 := (S.slA 4 rfl).one
      have z3 := (S.slA 5 rfl).one
      try simp (disch := (first | omega | assumption | (simp only [List.length_cons, List.length_nil, List.length_append]; first | done | omega) | (simp (disch := assumption) only [go_sem, one_as, Nat.reduceBEq]; done) | fail)) only [i4, i5, i13, i14, i15, go_sem, Hold.p, HoldK.k, HoldL.K, HoldL.body, Nat.reduceBEq, Nat.reduceAdd, reduceIte]
      refine Sp.bsl1 S (by first | rfl | (rw [cells_one (by assumption)]; rfl)) (by first | rfl | simp (disch := assumption) only [go_sem, cells_one, one_as]) fun p10 g10 S E_g10 l_g10 => ?_
      simp only [cells_agg, cells_int, cells_bool, cells_ptr, cells_str] at S
      have q0 := (S.bx 0 rfl).eq
      try simp (disch := (first | omega | assumption | (simp only [List.length_cons, List.length_nil, List.length_append]; first | done | omega) | (simp (disch := assumption) only [go_sem, one_as, Nat.reduceBEq]; done) | fail)) only [q0, i4, i5, i13, i14, i15, go_sem, Hold.p, HoldK.k, HoldL.K, HoldL.body, Nat.reduceBEq, Nat.reduceAdd, reduceIte]
      have S := by simpa only [List.map_cons, List.map_nil, List.getD_cons_zero, List.getD_cons_succ, List.drop_succ_cons, List.drop_zero, List.cons_append, List.nil_append] using Sp.sel S 10 [4, 5, 6, 8, 1, 2, 3, 7] (by simp only [List.length_cons]; omega) (by decide) (by decide)
      have S := out_dat S
      have S := S.p1
      refine Sp.dapp S (by rw [List.length_map]; omega) ?_
      clear S
      intro v14 g14 S z14 c14
      try simp (disch := (first | omega | assumption | (simp only [List.length_cons, List.length_nil, List.length_append]; first | done | omega) | (simp (disch := assumption) only [go_sem, one_as, Nat.reduceBEq]; done) | fail)) only [i4, i5, i13, i14, i15, w1, go_sem, Hold.p, HoldK.k, HoldL.K, HoldL.body, Nat.reduceBEq, Nat.reduceAdd, reduceIte]
      have S := by simpa only [List.map_cons, List.map_nil, List.getD_cons_zero, List.getD_cons_succ, List.drop_succ_cons, List.drop_zero, List.cons_append, List.nil_append] using Sp.sel S 5 [1, 2, 3, 0, 4] (by simp only [List.length_cons]; omega) (by decide) (by decide)
      rw [d1, d3] at S
      refine ⟨_, by omega, k + 1, (opS now s op).1, (doI now l op).2.1, (opS now s op).2.1, v14, vl', outs ++ [(opS now s op).2.2], rl', rfl, by omega, rfl, rfl, by simp [hol], ?_, d2, d4, d5, d6, d7, ?_⟩
      · rw [hru]; simp
      · rw [List.map_append]; exact S
    · have hd : ops.drop k = [] := List.drop_eq_nil_of_le (by omega)
      rw [hd, runSt, List.append_nil] at hru
      rw [hru]
      try simp (disch := (first | omega | assumption | (simp only [List.length_cons, List.length_nil, List.length_append]; first | done | omega) | (simp (disch := assumption) only [go_sem, one_as, Nat.reduceBEq]; done) | fail)) only [i4, i5, i13, i14, i15, go_sem, Hold.p, HoldK.k, HoldL.K, HoldL.body, Nat.reduceBEq, Nat.reduceAdd, reduceIte]
      have S := by simpa only [List.map_cons, List.map_nil, List.getD_cons_zero, List.getD_cons_succ, List.drop_succ_cons, List.drop_zero, List.cons_append, List.nil_append] using Sp.sel S 5 [3, 4] (by simp only [List.length_cons]; omega) (by decide) (by decide)
      exact ⟨⟨vx, rfl, S.toOw⟩, S.drop.oldE⟩
end
end Go.Proofs.Ytjmmmmdpkfpojaa

namespace Go.Proofs.Ytjmmmmdpkfpojaa
open Go Go.IW
/-- loop.example/g00003/laws.FnExactRunReasm -/
def c3 : CC :=
 (.seq (.reg [
   ⟨(some 2), none, .f (.mv (.c (.bool false)))⟩])
 (.seq (.reg [
   ⟨(some 3), none, .f (.mv (.c (.int .i64 1048576)))⟩])
 (.seq (.reg [
   ⟨(some 14), none, .f (.mv (.t 0))⟩,
   ⟨(some 15), none, .f (.mv (.t 3))⟩,
   ⟨(some 16), none, .x (.call 7 [(.t 14), (.t 15)])⟩,
   ⟨(some 3), none, .f (.mv (.t 16))⟩])
 (.seq (.seq (.reg [
   ⟨(some 17), none, .f (.mv (.t 3))⟩,
   ⟨(some 18), none, .f (.bin .lss (.t 17) (.c (.int .i64 0)))⟩])
 (.cond (.t 18)
  (.seq (.reg [
    ⟨(some 2), none, .f (.mv (.c (.bool true)))⟩])
  .ret)
  .skip))
 (.seq (.reg [
   ⟨(some 20), none, .f (.mv (.t 0))⟩,
   ⟨(some 21), none, .x (.call 9 [(.t 20)])⟩,
   ⟨(some 22), none, .x (.call 8 [(.t 21)])⟩,
   ⟨(some 19), none, .f (.mv (.t 22))⟩,
   ⟨(some 23), none, .f (.ext 0 (.t 19))⟩,
   ⟨(some 24), none, .f (.ext 1 (.t 19))⟩,
   ⟨(some 4), none, .f (.mv (.t 23))⟩,
   ⟨(some 5), none, .f (.mv (.t 24))⟩])
 (.seq (.reg [
   ⟨(some 25), none, .f (.mv (.t 0))⟩,
   ⟨(some 26), none, .x (.call 9 [(.t 25)])⟩,
   ⟨(some 6), none, .f (.mv (.t 26))⟩])
 (.seq (.reg [
   ⟨(some 28), none, .f (.mv (.t 6))⟩,
   ⟨(some 29), none, .x (.call 10 [(.t 28)])⟩,
   ⟨(some 27), none, .f (.mv (.t 29))⟩,
   ⟨(some 30), none, .f (.ext 0 (.t 27))⟩,
   ⟨(some 31), none, .f (.ext 1 (.t 27))⟩,
   ⟨(some 7), none, .f (.mv (.t 30))⟩,
   ⟨(some 8), none, .f (.mv (.t 31))⟩])
 (.seq (.seq (.reg [
   ⟨(some 32), none, .f (.mv (.t 7))⟩,
   ⟨(some 33), none, .f (.mv (.t 4))⟩,
   ⟨(some 34), none, .x (.call 11 [(.t 32), (.t 33)])⟩,
   ⟨(some 35), none, .f (.un .not (.t 34))⟩,
   ⟨(some 36), none, .f (.mv (.t 35))⟩,
   ⟨(some 37), (some (36, false)), .f (.mv (.t 8))⟩,
   ⟨(some 38), (some (36, false)), .f (.mv (.t 5))⟩,
   ⟨(some 39), (some (36, false)), .f (.bin .neq (.t 37) (.t 38))⟩,
   ⟨(some 40), none, .f (.pick (.t 36) (.c (.bool true)) (.t 39))⟩])
 (.cond (.t 40)
  (.seq (.reg [
    ⟨(some 2), none, .f (.mv (.c (.bool false)))⟩])
  .ret)
  .skip))
 (.seq (.seq (.reg [
   ⟨(some 41), none, .f (.mv (.t 6))⟩,
   ⟨(some 42), none, .f (.mv (.t 0))⟩,
   ⟨(some 43), none, .x (.call 9 [(.t 42)])⟩,
   ⟨(some 44), none, .x (.call 12 [(.t 41), (.t 43)])⟩,
   ⟨(some 45), none, .f (.un .not (.t 44))⟩])
 (.cond (.t 45)
  (.seq (.reg [
    ⟨(some 2), none, .f (.mv (.c (.bool false)))⟩])
  .ret)
  .skip))
 (.seq (.reg [
   ⟨(some 9), none, .f (.mv (.c (.int .i64 1)))⟩])
 (.seq (.reg [
   ⟨(some 46), none, .f (.mv (.t 6))⟩,
   ⟨(some 47), none, .f (.mv (.t 9))⟩,
   ⟨(some 48), none, .x (.call 13 [(.t 46), (.t 47)])⟩,
   ⟨(some 9), none, .f (.mv (.t 48))⟩])
 (.seq (.seq (.reg [
   ⟨(some 49), none, .f (.mv (.t 9))⟩,
   ⟨(some 50), none, .f (.bin .lss (.t 49) (.c (.int .i64 0)))⟩,
   ⟨(some 51), none, .f (.mv (.t 50))⟩,
   ⟨(some 52), (some (51, false)), .f (.mv (.t 7))⟩,
   ⟨(some 53), (some (51, false)), .f (.mv (.t 4))⟩,
   ⟨(some 54), (some (51, false)), .x (.call 11 [(.t 52), (.t 53)])⟩,
   ⟨(some 55), (some (51, false)), .f (.un .not (.t 54))⟩,
   ⟨(some 56), none, .f (.pick (.t 51) (.c (.bool true)) (.t 55))⟩,
   ⟨(some 57), none, .f (.mv (.t 56))⟩,
   ⟨(some 58), (some (57, false)), .f (.mv (.t 8))⟩,
   ⟨(some 59), (some (57, false)), .f (.mv (.t 5))⟩,
   ⟨(some 60), (some (57, false)), .f (.bin .neq (.t 58) (.t 59))⟩,
   ⟨(some 61), none, .f (.pick (.t 57) (.c (.bool true)) (.t 60))⟩])
 (.cond (.t 61)
  (.seq (.reg [
    ⟨(some 2), none, .f (.mv (.c (.bool false)))⟩])
  .ret)
  .skip))
 (.seq (.reg [
   ⟨(some 10), none, .f (.mv (.c (.int .i64 1)))⟩])
 (.seq (.reg [
   ⟨(some 62), none, .f (.mv (.t 7))⟩,
   ⟨(some 63), none, .f (.mv (.t 10))⟩,
   ⟨(some 64), none, .x (.call 14 [(.t 62), (.t 63)])⟩,
   ⟨(some 10), none, .f (.mv (.t 64))⟩])
 (.seq (.reg [
   ⟨(some 11), none, .f (.mv (.c (.int .i64 1)))⟩])
 (.seq (.reg [
   ⟨(some 65), none, .f (.mv (.t 7))⟩,
   ⟨(some 66), none, .f (.mv (.t 11))⟩,
   ⟨(some 67), none, .x (.call 15 [(.t 65), (.t 66)])⟩,
   ⟨(some 11), none, .f (.mv (.t 67))⟩])
 (.seq (.seq (.reg [
   ⟨(some 68), none, .f (.mv (.t 11))⟩,
   ⟨(some 69), none, .f (.bin .lss (.t 68) (.c (.int .i64 0)))⟩])
 (.cond (.t 69)
  (.seq (.reg [
    ⟨(some 2), none, .f (.mv (.c (.bool false)))⟩])
  .ret)
  .skip))
 (.seq (.seq (.reg [
   ⟨(some 70), none, .f (.mv (.t 11))⟩,
   ⟨(some 71), none, .f (.mv (.t 10))⟩,
   ⟨(some 72), none, .f (.bin .neq (.t 70) (.t 71))⟩])
 (.cond (.t 72)
  (.seq (.reg [
    ⟨(some 2), none, .f (.mv (.c (.bool false)))⟩])
  .ret)
  .skip))
 (.seq (.reg [
   ⟨(some 74), none, .f (.mv (.t 0))⟩,
   ⟨(some 75), none, .x (.call 9 [(.t 74)])⟩,
   ⟨(some 76), none, .x (.call 10 [(.t 75)])⟩,
   ⟨(some 73), none, .f (.mv (.t 76))⟩,
   ⟨(some 77), none, .f (.ext 0 (.t 73))⟩,
   ⟨(some 78), none, .f (.ext 1 (.t 73))⟩,
   ⟨(some 12), none, .f (.mv (.t 77))⟩,
   ⟨(some 13), none, .f (.mv (.t 78))⟩])
 (.seq (.seq (.reg [
   ⟨(some 79), none, .f (.mv (.t 12))⟩,
   ⟨(some 80), none, .f (.mv (.t 4))⟩,
   ⟨(some 81), none, .x (.call 11 [(.t 79), (.t 80)])⟩,
   ⟨(some 82), none, .f (.un .not (.t 81))⟩,
   ⟨(some 83), none, .f (.mv (.t 82))⟩,
   ⟨(some 84), (some (83, false)), .f (.mv (.t 13))⟩,
   ⟨(some 85), (some (83, false)), .f (.mv (.t 5))⟩,
   ⟨(some 86), (some (83, false)), .f (.bin .neq (.t 84) (.t 85))⟩,
   ⟨(some 87), none, .f (.pick (.t 83) (.c (.bool true)) (.t 86))⟩])
 (.cond (.t 87)
  (.seq (.reg [
    ⟨(some 2), none, .f (.mv (.c (.bool false)))⟩])
  .ret)
  .skip))
 (.seq (.reg [
   ⟨(some 11), none, .f (.mv (.c (.int .i64 1)))⟩])
 (.seq (.reg [
   ⟨(some 88), none, .f (.mv (.t 7))⟩,
   ⟨(some 89), none, .f (.mv (.t 11))⟩,
   ⟨(some 90), none, .x (.call 15 [(.t 88), (.t 89)])⟩,
   ⟨(some 11), none, .f (.mv (.t 90))⟩])
 (.seq (.seq (.reg [
   ⟨(some 91), none, .f (.mv (.t 11))⟩,
   ⟨(some 92), none, .f (.bin .lss (.t 91) (.c (.int .i64 0)))⟩])
 (.cond (.t 92)
  (.seq (.reg [
    ⟨(some 2), none, .f (.mv (.c (.bool false)))⟩])
  .ret)
  .skip))
 (.seq (.seq (.reg [
   ⟨(some 93), none, .f (.mv (.t 11))⟩,
   ⟨(some 94), none, .f (.mv (.t 10))⟩,
   ⟨(some 95), none, .f (.bin .neq (.t 93) (.t 94))⟩])
 (.cond (.t 95)
  (.seq (.reg [
    ⟨(some 2), none, .f (.mv (.c (.bool false)))⟩])
  .ret)
  .skip))
 (.seq (.reg [
   ⟨(some 2), none, .f (.mv (.c (.bool true)))⟩])
 .ret)))))))))))))))))))))))))
theorem ok3 : fnComp Try.prog 3 = some (96, c3, [(.mv (.t 2))]) := by kernel_rfl

end Go.Proofs.Ytjmmmmdpkfpojaa

set_option maxRecDepth 20000
namespace Go.Proofs.Ytjmmmmdpkfpojaa
open Go Go.IW
section
attribute [local go_sem] boxA_1 boxA_2 boxA_3 bslA_1 List.getElem?_cons_zero List.getElem?_cons_succ Option.bind_some List.map_cons List.map_nil Nat.zero_add if_true List.getD_cons_zero List.getD_cons_succ List.contains_cons List.contains_nil Bool.or_true Bool.true_or Bool.or_false Bool.false_or Bool.not_true Bool.not_false true_and and_true rowA_whole mid_get stO_mid rowO_rows cellO_rows push_n set_n push_at push_old set_here set_there set_pushT set_pushN set_set upd_ne Nat.add_assoc Nat.add_zero stO_1s stO_ws boxA_s List.all_cons List.all_nil one_bool one_int one_str one_ptr one_nilptr one_slice one_eslice one_nilslice one_func one_iface one_niliface Bool.and_true Bool.and_self List.length_cons List.length_nil Nat.one_ne_zero Nat.succ_ne_zero if_false List.set_cons_zero List.set_cons_succ lay_nil lay_1 lay_w Option.map_some

/-! ### The law FnExactRunReasm -/
/-- How much an answer holds. -/
structure OtB (x : Ot) : Prop where
  o : x.pk.opts.length ≤ 1048576
  p : x.pk.pay.length ≤ 1048576
  e : x.ended.length ≤ 1000
theorem pkD_tot (p : Pk) : (pkD p).tot = p.opts.length + p.pay.length := by
  simp [pkD, Dat.tot, bytesD_tot]
theorem enL_tot (l : List En) : totL (l.map enD) = 0 := by
  induction l with
  | nil => rfl
  | cons a l ih => simp [totL, ih, enD, Dat.tot]
theorem outD_tot {o : Ot} (h : OtB o) : (outD o).tot ≤ 3000000 := by
  have h1 := h.o
  have h2 := h.p
  have h3 := h.e
  simp only [outD, Dat.tot, pkD_tot, enL_tot, List.length_map]
  omega
theorem outL_tot {l : List Ot} (h : ∀ o ∈ l, OtB o) : totL (l.map outD) ≤ l.length * 3000000 := by
  induction l with
  | nil => simp [totL]
  | cons a l ih =>
    have h1 := outD_tot (h a List.mem_cons_self)
    have h2 := ih fun o ho => h o (List.mem_cons_of_mem _ ho)
    simp only [List.map_cons, totL, List.length_cons, Nat.add_mul, Nat.one_mul]
    omega
theorem bytes_cntL (bs : List UInt8) : cntL (.int .u8) (bs.map fun b => .int (b.toNat : Int)) = bs.length := by
  induction bs with
  | nil => rfl
  | cons p r ih => simp only [List.map_cons, cntL, ih]; simp [cntE]; omega
theorem pkD_cnt (p : Pk) : cntE t_Packet (pkD p) = 9 + p.opts.length + p.pay.length := by
  simp only [t_Packet, pkD, bytesD, cntE, bytes_cntL]
  omega
theorem enL_cnt (l : List En) : cntL t_ReasmEnd (l.map enD) = 5 * l.length := by
  induction l with
  | nil => rfl
  | cons a l ih => rw [List.map_cons, cntL, ih, List.length_cons]; simp only [t_ReasmEnd, enD, cntE]; omega
theorem outD_cnt {o : Ot} (h : OtB o) : cntE t_ReasmOut (outD o) ≤ 3000000 := by
  have h1 := h.o
  have h2 := h.p
  have h3 := h.e
  simp only [t_ReasmOut, outD, cntE, pkD_cnt, enL_cnt]
  omega
theorem outL_cnt {l : List Ot} (h : ∀ o ∈ l, OtB o) : cntL t_ReasmOut (l.map outD) ≤ l.length * 3000000 := by
  induction l with
  | nil => simp [cntL]
  | cons a l ih =>
    have h1 := outD_cnt (h a List.mem_cons_self)
    have h2 := ih fun o ho => h o (List.mem_cons_of_mem _ ho)
    simp only [List.map_cons, cntL, List.length_cons, Nat.add_mul, Nat.one_mul]
    omega
theorem opL_cnt : ∀ (l : List Op), cntL t_ReasmOp (l.map opD) ≤ 11 * l.length + totL (l.map opD)
  | [] => by simp [cntL]
  | a :: l => by
    have := opL_cnt l
    rw [List.map_cons, cntL, totL, List.length_cons]
    simp only [t_ReasmOp, opD, cntE, pkD_cnt, Dat.tot, pkD_tot] at this ⊢
    omega
theorem ops_each {n : Nat} : ∀ {ops : List Op}, totL (ops.map opD) ≤ n → ∀ o ∈ ops, o.pk.opts.length + o.pk.pay.length ≤ n
  | [], _, o, ho => nomatch ho
  | a :: l, h, o, ho => by
    simp only [List.map_cons, totL, opD, Dat.tot, pkD_tot] at h
    rcases List.mem_cons.1 ho with rfl | ho
    · omega
    · exact ops_each (ops := l) (by omega) o ho
theorem goneO_ended (o : Ot) (m : Ms) : (goneO o m true).ended.length ≤ o.ended.length + 1 ∧ (goneO o m true).pk = o.pk := ⟨goneO_len o m true, goneO_pk o m true⟩
theorem takeS_out {N : Nat} {now : Int} {s : List Ms} {p : Pk} (h : LOk N now s) (hn : 0 ≤ now) (hp : codeB p = 0) : OtB (takeS now s ot0 p).2 := by
  obtain ⟨c1, c2, c3⟩ := codeB_ok hp
  unfold takeS
  split
  · exact ⟨by show p.opts.length ≤ _; omega, by show p.pay.length ≤ _; omega, by simp [ot0]⟩
  · split
    · exact ⟨by simp [ot0, pk0], by simp [ot0, pk0], by simp [ot0]⟩
    · obtain ⟨h1, h2, h3⟩ := openS_ok (o := ot0) (p := p) h hn
      generalize openS now s ot0 p = r at h1 h2 h3 ⊢
      obtain ⟨l1, o1, i⟩ := r
      simp only at h1 h2 h3 ⊢
      have hb : OtB o1 := by
        rcases h3 with rfl | ⟨m, rfl⟩
        · exact ⟨by simp [ot0, pk0], by simp [ot0, pk0], by simp [ot0]⟩
        · obtain ⟨a, b⟩ := goneO_ended ot0 m
          exact ⟨by rw [b]; simp [ot0, pk0], by rw [b]; simp [ot0, pk0], by have h0 : ot0.ended.length = 0 := rfl; omega⟩
      have hmem : l1.getD i default ∈ l1 := by rw [List.getD_eq_getElem?_getD, List.getElem?_eq_getElem h2]; exact List.getElem_mem h2
      unfold stepS
      simp only
      split
      · exact hb
      · split
        · rename_i hw
          have hok := addS_ok (h1.m _ hmem) c1 c2 c3
          have hin := addS_in hw
          generalize addS (l1.getD i default) p = m' at hok hin hw ⊢
          have hen := hok.s.e
          have he0 : 0 ≤ m'.en := by
            unfold wholeS at hw
            simp only [Bool.and_eq_true, Bool.not_eq_true', decide_eq_false_iff_not] at hw
            omega
          refine ⟨by have := hok.o; show m'.first.opts.length ≤ _; omega, ?_, hb.e⟩
          show (fillB m'.ps (List.replicate m'.en.toNat 0)).length ≤ _
          rw [fillB_len, List.length_replicate]
          · omega
          · intro q hq
            rw [List.length_replicate]
            have := hok.s.q q hq
            have := hin q hq
            omega
        · exact hb
theorem passS_out {t : Int} : ∀ {s : List Ms} {o : Ot}, (passS t s o).2.ended.length ≤ o.ended.length + s.length ∧ (passS t s o).2.pk = o.pk
  | [], o => ⟨by simp [passS], rfl⟩
  | m :: s, o => by
    unfold passS
    split
    · obtain ⟨a, b⟩ := passS_out (t := t) (s := s) (o := goneO o m true)
      obtain ⟨c, d⟩ := goneO_ended o m
      exact ⟨by rw [List.length_cons]; omega, b.trans d⟩
    · exact ⟨by simp, rfl⟩
theorem opS_out {N : Nat} {now : Int} {s : List Ms} {op : Op} (h : LOk N now s) (hn : 0 ≤ now ∧ now ≤ 1000000000) : OtB (opS now s op).2.2 := by
  unfold opS
  split
  · rename_i h1
    obtain ⟨a, b, c⟩ := takeS_out h hn.1 h1.2
    exact ⟨a, b, c⟩
  · split
    · obtain ⟨a, b⟩ := passS_out (t := now + op.wait) (s := s) (o := ot0)
      have := h.n
      refine ⟨?_, ?_, ?_⟩
      · show (passS _ s ot0).2.pk.opts.length ≤ _; rw [b]; simp [ot0, pk0]
      · show (passS _ s ot0).2.pk.pay.length ≤ _; rw [b]; simp [ot0, pk0]
      · show (passS _ s ot0).2.ended.length ≤ _; simp [ot0] at a ⊢; omega
    · exact ⟨by simp [tellS, ot0, pk0], by simp [tellS, ot0, pk0], by simp [tellS, ot0]⟩
theorem runSt_out : ∀ {ops : List Op} {N : Nat} {now : Int} {l : List Mk} {s : List Ms}, All2 B1 l s → LOk N now s → SB s → 0 ≤ now ∧ now ≤ 1000000000 → (∀ o ∈ runSt now s ops, OtB o) ∧ (runSt now s ops).length = ops.length
  | [], _, _, _, _, _, _, _, _ => ⟨by simp [runSt], rfl⟩
  | op :: ops, N, now, l, s, hB, hL, hS, hn => by
    obtain ⟨d1, d2, d3, d4, d5, d6, d7⟩ := op_both (op := op) hB hL hS hn
    obtain ⟨a, b⟩ := runSt_out (ops := ops) d2 d4 d5 ⟨d6, d7⟩
    refine ⟨?_, by simp [runSt, b]⟩
    intro o ho
    rw [runSt] at ho
    rcases List.mem_cons.1 ho with rfl | ho
    · exact opS_out hL hn
    · exact a o ho
theorem runS_big (ops : List Op) : (Dat.list ((runS ops).1.map outD)).tot ≤ 10000000000 ∧ cntW (.slice 52 t_ReasmOut) (Dat.list ((runS ops).1.map outD)) ≤ 10000000000 := by
  unfold runS
  split
  · simp [Dat.tot, totL, cntW, cntE, cntL]
  · obtain ⟨a, b⟩ := runSt_out (ops := ops) (N := 0) (now := 0) .nil ⟨by simp, by simp, by simp⟩ List.Pairwise.nil ⟨by omega, by omega⟩
    have h1 := outL_tot a
    have h2 := outL_cnt a
    simp only [Dat.tot, cntW, cntE, List.length_map]
    omega
set_option maxHeartbeats 4000000 in
theorem lawRunReasm : LawTrue Try.prog 3 [((Ty.slice 58 t_ReasmOp).sh, false)] := by
  rintro h ivs ha ⟨iv, r, rfl, hf, rfl⟩
  obtain ⟨dS, aS, okS', wS⟩ := fits_vw (.slice 58 t_ReasmOp) hf
  obtain ⟨ops, rfl, sO⟩ := ops_any aS wS
  refine icalls (.of ok3) (Nat.le_of_ble_eq_true rfl) ?_
  unfold c3
  simp (disch := (first | omega | assumption | (simp only [push_n, set_n, put_n, List.length_cons, List.length_nil, List.length_append, Nat.reduceAdd]; done) | (simp only [push_n, set_n, put_n, List.length_cons, List.length_nil, List.length_append]; omega) | (simp only [List.all_cons, List.all_nil, one_bool, one_int, one_str, one_ptr, one_nilptr, one_slice, one_eslice, one_nilslice, one_func, one_iface, one_niliface, Bool.and_true, Bool.true_and, List.getD_cons_zero, List.getD_cons_succ, List.contains_cons, List.contains_nil, Bool.or_true, Bool.true_or, Bool.or_false, Bool.false_or, Nat.reduceBEq, *]; done) | fail)) only [go_sem, ↓act_zero, Hold.p, HoldK.k, HoldL.K, HoldL.body, Nat.reduceBEq, Nat.reduceAdd, reduceIte]
  refine callA_of (SzC.sl szReasmOpS_f (aS.up (Nat.le_refl _)) okS' (by omega)) ?_
  rintro r g1 ⟨⟨L2, rfl, hL3, hL4⟩, E1⟩
  have aS := aS.ext E1
  have le_E1 := E1.le
  by_cases hn2 : L2 < 0
  · have d2 : decide (L2 < 0) = true := decide_eq_true hn2
    simp (disch := (first | omega | assumption | (simp only [push_n, set_n, put_n, List.length_cons, List.length_nil, List.length_append, Nat.reduceAdd]; done) | (simp only [push_n, set_n, put_n, List.length_cons, List.length_nil, List.length_append]; omega) | (simp only [List.all_cons, List.all_nil, one_bool, one_int, one_str, one_ptr, one_nilptr, one_slice, one_eslice, one_nilslice, one_func, one_iface, one_niliface, Bool.and_true, Bool.true_and, List.getD_cons_zero, List.getD_cons_succ, List.contains_cons, List.contains_nil, Bool.or_true, Bool.true_or, Bool.or_false, Bool.false_or, Nat.reduceBEq, *]; done) | fail)) only [d2, go_sem, ↓act_zero, Hold.p, HoldK.k, HoldL.K, HoldL.body, Nat.reduceBEq, Nat.reduceAdd, reduceIte]
  have d2 : decide (L2 < 0) = false := decide_eq_false hn2
  have tS := hL4 (by omega)
  have cS := opL_cnt ops
  have hn : ops.length ≤ 1048576 := by simp only [Dat.tot, List.length_map] at tS; omega
  have hsz := ops_each (ops := ops) (n := 1048576) (by simp only [Dat.tot, List.length_map] at tS; omega)
  have tT : (Dat.list (ops.map opD)).tot ≤ 1048576 := by omega
  have cT : cntW (.slice 58 t_ReasmOp) (Dat.list (ops.map opD)) ≤ 100000000 := by simp only [Dat.tot, List.length_map] at tS; simp only [cntW, cntE]; omega
  obtain ⟨tX, cX⟩ := runS_big ops
  have hI : ∀ (g : IH) (x : IV), OpsAt g x ops → ICalls Try.prog 10 [x] g fun r h' => RunRes g h' r (runS ops) ∧ Ext g h' := fun g x hx => implRun_c g x ops hx hn hsz
  simp (disch := (first | omega | assumption | (simp only [push_n, set_n, put_n, List.length_cons, List.length_nil, List.length_append, Nat.reduceAdd]; done) | (simp only [push_n, set_n, put_n, List.length_cons, List.length_nil, List.length_append]; omega) | (simp only [List.all_cons, List.all_nil, one_bool, one_int, one_str, one_ptr, one_nilptr, one_slice, one_eslice, one_nilslice, one_func, one_iface, one_niliface, Bool.and_true, Bool.true_and, List.getD_cons_zero, List.getD_cons_succ, List.contains_cons, List.contains_nil, Bool.or_true, Bool.true_or, Bool.or_false, Bool.false_or, Nat.reduceBEq, *]; done) | fail)) only [d2, go_sem, ↓act_zero, Hold.p, HoldK.k, HoldL.K, HoldL.body, Nat.reduceBEq, Nat.reduceAdd, reduceIte]
  refine callA_of (ToC.sl toReasmOpS_f (aS.up (by omega)) (by omega)) ?_
  rintro r g2 ⟨t2, E2⟩
  have aS := aS.ext E2
  have le_E2 := E2.le
  simp (disch := (first | omega | assumption | (simp only [push_n, set_n, put_n, List.length_cons, List.length_nil, List.length_append, Nat.reduceAdd]; done) | (simp only [push_n, set_n, put_n, List.length_cons, List.length_nil, List.length_append]; omega) | (simp only [List.all_cons, List.all_nil, one_bool, one_int, one_str, one_ptr, one_nilptr, one_slice, one_eslice, one_nilslice, one_func, one_iface, one_niliface, Bool.and_true, Bool.true_and, List.getD_cons_zero, List.getD_cons_succ, List.contains_cons, List.contains_nil, Bool.or_true, Bool.true_or, Bool.or_false, Bool.false_or, Nat.reduceBEq, *]; done) | fail)) only [go_sem, ↓act_zero, Hold.p, HoldK.k, HoldL.K, HoldL.body, Nat.reduceBEq, Nat.reduceAdd, reduceIte]
  refine callA_of (specRun_c g2 r ops (ops_vw t2.view wS) hn hsz) ?_
  rintro r g3 ⟨⟨vw, rfl, oW⟩, E3⟩
  have aS := aS.ext E3
  have le_E3 := E3.le
  generalize runS ops = X at oW hI tX cX
  obtain ⟨os, cd⟩ := X
  simp only at oW tX cX
  simp (disch := (first | omega | assumption | (simp only [push_n, set_n, put_n, List.length_cons, List.length_nil, List.length_append, Nat.reduceAdd]; done) | (simp only [push_n, set_n, put_n, List.length_cons, List.length_nil, List.length_append]; omega) | (simp only [List.all_cons, List.all_nil, one_bool, one_int, one_str, one_ptr, one_nilptr, one_slice, one_eslice, one_nilslice, one_func, one_iface, one_niliface, Bool.and_true, Bool.true_and, List.getD_cons_zero, List.getD_cons_succ, List.contains_cons, List.contains_nil, Bool.or_true, Bool.true_or, Bool.or_false, Bool.false_or, Nat.reduceBEq, *]; done) | fail)) only [go_sem, ↓act_zero, Hold.p, HoldK.k, HoldL.K, HoldL.body, Nat.reduceBEq, Nat.reduceAdd, reduceIte]
  refine callA_of (ToC.sl toReasmOpS_f (aS.up (by omega)) (by omega)) ?_
  rintro r g4 ⟨oX, E4⟩
  have aS := aS.ext E4
  have oW := oW.ext E4
  have le_E4 := E4.le
  simp (disch := (first | omega | assumption | (simp only [push_n, set_n, put_n, List.length_cons, List.length_nil, List.length_append, Nat.reduceAdd]; done) | (simp only [push_n, set_n, put_n, List.length_cons, List.length_nil, List.length_append]; omega) | (simp only [List.all_cons, List.all_nil, one_bool, one_int, one_str, one_ptr, one_nilptr, one_slice, one_eslice, one_nilslice, one_func, one_iface, one_niliface, Bool.and_true, Bool.true_and, List.getD_cons_zero, List.getD_cons_succ, List.contains_cons, List.contains_nil, Bool.or_true, Bool.true_or, Bool.or_false, Bool.false_or, Nat.reduceBEq, *]; done) | fail)) only [go_sem, ↓act_zero, Hold.p, HoldK.k, HoldL.K, HoldL.body, Nat.reduceBEq, Nat.reduceAdd, reduceIte]
  refine callA_of (hI g4 r (ops_vw oX.view wS)) ?_
  rintro r5 g5 ⟨⟨vg, rfl, oG⟩, E5⟩
  have aS := aS.ext E5
  have oW := oW.ext E5
  have oX := oX.ext E5
  have le_E5 := E5.le
  simp only at oG
  simp (disch := (first | omega | assumption | (simp only [push_n, set_n, put_n, List.length_cons, List.length_nil, List.length_append, Nat.reduceAdd]; done) | (simp only [push_n, set_n, put_n, List.length_cons, List.length_nil, List.length_append]; omega) | (simp only [List.all_cons, List.all_nil, one_bool, one_int, one_str, one_ptr, one_nilptr, one_slice, one_eslice, one_nilslice, one_func, one_iface, one_niliface, Bool.and_true, Bool.true_and, List.getD_cons_zero, List.getD_cons_succ, List.contains_cons, List.contains_nil, Bool.or_true, Bool.true_or, Bool.or_false, Bool.false_or, Nat.reduceBEq, *]; done) | fail)) only [go_sem, ↓act_zero, Hold.p, HoldK.k, HoldL.K, HoldL.body, Nat.reduceBEq, Nat.reduceAdd, reduceIte]
  refine callA_of (EqC.sl eqReasmOutS_f oG.up oW.up (by omega)) ?_
  rintro r6 g6 ⟨rfl, E6⟩
  have aS := aS.ext E6
  have oW := oW.ext E6
  have oX := oX.ext E6
  have oG := oG.ext E6
  have le_E6 := E6.le
  simp (disch := (first | omega | assumption | (simp only [push_n, set_n, put_n, List.length_cons, List.length_nil, List.length_append, Nat.reduceAdd]; done) | (simp only [push_n, set_n, put_n, List.length_cons, List.length_nil, List.length_append]; omega) | (simp only [List.all_cons, List.all_nil, one_bool, one_int, one_str, one_ptr, one_nilptr, one_slice, one_eslice, one_nilslice, one_func, one_iface, one_niliface, Bool.and_true, Bool.true_and, List.getD_cons_zero, List.getD_cons_succ, List.contains_cons, List.contains_nil, Bool.or_true, Bool.true_or, Bool.or_false, Bool.false_or, Nat.reduceBEq, *]; done) | fail)) only [decide_true, go_sem, ↓act_zero, Hold.p, HoldK.k, HoldL.K, HoldL.body, Nat.reduceBEq, Nat.reduceAdd, reduceIte]
  refine callA_of (ToC.sl toReasmOpS_f (aS.up (by omega)) (by omega)) ?_
  rintro r7 g7 ⟨oY, E7⟩
  have aS := aS.ext E7
  have oW := oW.ext E7
  have oX := oX.ext E7
  have oG := oG.ext E7
  have le_E7 := E7.le
  simp (disch := (first | omega | assumption | (simp only [push_n, set_n, put_n, List.length_cons, List.length_nil, List.length_append, Nat.reduceAdd]; done) | (simp only [push_n, set_n, put_n, List.length_cons, List.length_nil, List.length_append]; omega) | (simp only [List.all_cons, List.all_nil, one_bool, one_int, one_str, one_ptr, one_nilptr, one_slice, one_eslice, one_nilslice, one_func, one_iface, one_niliface, Bool.and_true, Bool.true_and, List.getD_cons_zero, List.getD_cons_succ, List.contains_cons, List.contains_nil, Bool.or_true, Bool.true_or, Bool.or_false, Bool.false_or, Nat.reduceBEq, *]; done) | fail)) only [go_sem, ↓act_zero, Hold.p, HoldK.k, HoldL.K, HoldL.body, Nat.reduceBEq, Nat.reduceAdd, reduceIte]
  refine callA_of (EqC.sl eqReasmOpS_f oX.up oY.up (by omega)) ?_
  rintro r8 g8 ⟨rfl, E8⟩
  have aS := aS.ext E8
  have oW := oW.ext E8
  have oX := oX.ext E8
  have oG := oG.ext E8
  have le_E8 := E8.le
  simp (disch := (first | omega | assumption | (simp only [push_n, set_n, put_n, List.length_cons, List.length_nil, List.length_append, Nat.reduceAdd]; done) | (simp only [push_n, set_n, put_n, List.length_cons, List.length_nil, List.length_append]; omega) | (simp only [List.all_cons, List.all_nil, one_bool, one_int, one_str, one_ptr, one_nilptr, one_slice, one_eslice, one_nilslice, one_func, one_iface, one_niliface, Bool.and_true, Bool.true_and, List.getD_cons_zero, List.getD_cons_succ, List.contains_cons, List.contains_nil, Bool.or_true, Bool.true_or, Bool.or_false, Bool.false_or, Nat.reduceBEq, *]; done) | fail)) only [decide_true, go_sem, ↓act_zero, Hold.p, HoldK.k, HoldL.K, HoldL.body, Nat.reduceBEq, Nat.reduceAdd, reduceIte]
  refine callA_of (MkC.sl (k := 1) markReasmOpS_f oX (by omega)) ?_
  rintro r9 g9 ⟨rfl, oX, T9⟩
  have aS := aS.trn T9 (by omega)
  have oW := oW.trn T9 (by omega)
  have oG := oG.trn T9 (by omega)
  have le_T9 := T9.le
  have hk : decide (((1 + cntW (.slice 58 t_ReasmOp) (Dat.list (ops.map opD)) : Nat) : Int) < 0) = false := decide_eq_false (by omega)
  simp (disch := (first | omega | assumption | (simp only [push_n, set_n, put_n, List.length_cons, List.length_nil, List.length_append, Nat.reduceAdd]; done) | (simp only [push_n, set_n, put_n, List.length_cons, List.length_nil, List.length_append]; omega) | (simp only [List.all_cons, List.all_nil, one_bool, one_int, one_str, one_ptr, one_nilptr, one_slice, one_eslice, one_nilslice, one_func, one_iface, one_niliface, Bool.and_true, Bool.true_and, List.getD_cons_zero, List.getD_cons_succ, List.contains_cons, List.contains_nil, Bool.or_true, Bool.true_or, Bool.or_false, Bool.false_or, Nat.reduceBEq, *]; done) | fail)) only [hk, go_sem, ↓act_zero, Hold.p, HoldK.k, HoldL.K, HoldL.body, Nat.reduceBEq, Nat.reduceAdd, reduceIte]
  refine callA_of (EqC.sl eqReasmOutS_f oG.up oW.up (by omega)) ?_
  rintro r10 g10 ⟨rfl, E10⟩
  have aS := aS.ext E10
  have oW := oW.ext E10
  have oG := oG.ext E10
  have le_E10 := E10.le
  simp (disch := (first | omega | assumption | (simp only [push_n, set_n, put_n, List.length_cons, List.length_nil, List.length_append, Nat.reduceAdd]; done) | (simp only [push_n, set_n, put_n, List.length_cons, List.length_nil, List.length_append]; omega) | (simp only [List.all_cons, List.all_nil, one_bool, one_int, one_str, one_ptr, one_nilptr, one_slice, one_eslice, one_nilslice, one_func, one_iface, one_niliface, Bool.and_true, Bool.true_and, List.getD_cons_zero, List.getD_cons_succ, List.contains_cons, List.contains_nil, Bool.or_true, Bool.true_or, Bool.or_false, Bool.false_or, Nat.reduceBEq, *]; done) | fail)) only [decide_true, go_sem, ↓act_zero, Hold.p, HoldK.k, HoldL.K, HoldL.body, Nat.reduceBEq, Nat.reduceAdd, reduceIte]
  refine callA_of (MkC.sl (k := 1) markReasmOutS_f oG (by omega)) ?_
  rintro r11 g11 ⟨rfl, oG, T11⟩
  have aS := aS.trn T11 (by omega)
  have oW := oW.trn T11 (by omega)
  have le_T11 := T11.le
  simp (disch := (first | omega | assumption | (simp only [push_n, set_n, put_n, List.length_cons, List.length_nil, List.length_append, Nat.reduceAdd]; done) | (simp only [push_n, set_n, put_n, List.length_cons, List.length_nil, List.length_append]; omega) | (simp only [List.all_cons, List.all_nil, one_bool, one_int, one_str, one_ptr, one_nilptr, one_slice, one_eslice, one_nilslice, one_func, one_iface, one_niliface, Bool.and_true, Bool.true_and, List.getD_cons_zero, List.getD_cons_succ, List.contains_cons, List.contains_nil, Bool.or_true, Bool.true_or, Bool.or_false, Bool.false_or, Nat.reduceBEq, *]; done) | fail)) only [go_sem, ↓act_zero, Hold.p, HoldK.k, HoldL.K, HoldL.body, Nat.reduceBEq, Nat.reduceAdd, reduceIte]
  refine callA_of (HdC.sl (k := 1) heldReasmOutS_f oG.up (by omega)) ?_
  rintro r12 g12 ⟨rfl, E12⟩
  have aS := aS.ext E12
  have oW := oW.ext E12
  have oG := oG.ext E12
  have le_E12 := E12.le
  have hq : decide (((1 + cntW (.slice 52 t_ReasmOut) (Dat.list (os.map outD)) : Nat) : Int) < 0) = false := decide_eq_false (by omega)
  simp (disch := (first | omega | assumption | (simp only [push_n, set_n, put_n, List.length_cons, List.length_nil, List.length_append, Nat.reduceAdd]; done) | (simp only [push_n, set_n, put_n, List.length_cons, List.length_nil, List.length_append]; omega) | (simp only [List.all_cons, List.all_nil, one_bool, one_int, one_str, one_ptr, one_nilptr, one_slice, one_eslice, one_nilslice, one_func, one_iface, one_niliface, Bool.and_true, Bool.true_and, List.getD_cons_zero, List.getD_cons_succ, List.contains_cons, List.contains_nil, Bool.or_true, Bool.true_or, Bool.or_false, Bool.false_or, Nat.reduceBEq, *]; done) | fail)) only [hq, decide_true, go_sem, ↓act_zero, Hold.p, HoldK.k, HoldL.K, HoldL.body, Nat.reduceBEq, Nat.reduceAdd, reduceIte]
  refine callA_of (ToC.sl toReasmOpS_f (aS.up (by omega)) (by omega)) ?_
  rintro r13 g13 ⟨oZ, E13⟩
  have aS := aS.ext E13
  have oW := oW.ext E13
  have oG := oG.ext E13
  have le_E13 := E13.le
  simp (disch := (first | omega | assumption | (simp only [push_n, set_n, put_n, List.length_cons, List.length_nil, List.length_append, Nat.reduceAdd]; done) | (simp only [push_n, set_n, put_n, List.length_cons, List.length_nil, List.length_append]; omega) | (simp only [List.all_cons, List.all_nil, one_bool, one_int, one_str, one_ptr, one_nilptr, one_slice, one_eslice, one_nilslice, one_func, one_iface, one_niliface, Bool.and_true, Bool.true_and, List.getD_cons_zero, List.getD_cons_succ, List.contains_cons, List.contains_nil, Bool.or_true, Bool.true_or, Bool.or_false, Bool.false_or, Nat.reduceBEq, *]; done) | fail)) only [go_sem, ↓act_zero, Hold.p, HoldK.k, HoldL.K, HoldL.body, Nat.reduceBEq, Nat.reduceAdd, reduceIte]
  refine callA_of (hI g13 r13 (ops_vw oZ.view wS)) ?_
  rintro r14 g14 ⟨⟨vh, rfl, oH⟩, E14⟩
  have aS := aS.ext E14
  have oW := oW.ext E14
  have oG := oG.ext E14
  have le_E14 := E14.le
  simp only at oH
  simp (disch := (first | omega | assumption | (simp only [push_n, set_n, put_n, List.length_cons, List.length_nil, List.length_append, Nat.reduceAdd]; done) | (simp only [push_n, set_n, put_n, List.length_cons, List.length_nil, List.length_append]; omega) | (simp only [List.all_cons, List.all_nil, one_bool, one_int, one_str, one_ptr, one_nilptr, one_slice, one_eslice, one_nilslice, one_func, one_iface, one_niliface, Bool.and_true, Bool.true_and, List.getD_cons_zero, List.getD_cons_succ, List.contains_cons, List.contains_nil, Bool.or_true, Bool.true_or, Bool.or_false, Bool.false_or, Nat.reduceBEq, *]; done) | fail)) only [go_sem, ↓act_zero, Hold.p, HoldK.k, HoldL.K, HoldL.body, Nat.reduceBEq, Nat.reduceAdd, reduceIte]
  refine callA_of (EqC.sl eqReasmOutS_f oH.up oW.up (by omega)) ?_
  rintro r15 g15 ⟨rfl, E15⟩
  have oG := oG.ext E15
  have le_E15 := E15.le
  simp (disch := (first | omega | assumption | (simp only [push_n, set_n, put_n, List.length_cons, List.length_nil, List.length_append, Nat.reduceAdd]; done) | (simp only [push_n, set_n, put_n, List.length_cons, List.length_nil, List.length_append]; omega) | (simp only [List.all_cons, List.all_nil, one_bool, one_int, one_str, one_ptr, one_nilptr, one_slice, one_eslice, one_nilslice, one_func, one_iface, one_niliface, Bool.and_true, Bool.true_and, List.getD_cons_zero, List.getD_cons_succ, List.contains_cons, List.contains_nil, Bool.or_true, Bool.true_or, Bool.or_false, Bool.false_or, Nat.reduceBEq, *]; done) | fail)) only [decide_true, go_sem, ↓act_zero, Hold.p, HoldK.k, HoldL.K, HoldL.body, Nat.reduceBEq, Nat.reduceAdd, reduceIte]
  refine callA_of (HdC.sl (k := 1) heldReasmOutS_f oG.up (by omega)) ?_
  rintro r16 g16 ⟨rfl, E16⟩
  simp (disch := (first | omega | assumption | (simp only [push_n, set_n, put_n, List.length_cons, List.length_nil, List.length_append, Nat.reduceAdd]; done) | (simp only [push_n, set_n, put_n, List.length_cons, List.length_nil, List.length_append]; omega) | (simp only [List.all_cons, List.all_nil, one_bool, one_int, one_str, one_ptr, one_nilptr, one_slice, one_eslice, one_nilslice, one_func, one_iface, one_niliface, Bool.and_true, Bool.true_and, List.getD_cons_zero, List.getD_cons_succ, List.contains_cons, List.contains_nil, Bool.or_true, Bool.true_or, Bool.or_false, Bool.false_or, Nat.reduceBEq, *]; done) | fail)) only [hq, decide_true, go_sem, ↓act_zero, Hold.p, HoldK.k, HoldL.K, HoldL.body, Nat.reduceBEq, Nat.reduceAdd, reduceIte]
end
end Go.Proofs.Ytjmmmmdpkfpojaa
