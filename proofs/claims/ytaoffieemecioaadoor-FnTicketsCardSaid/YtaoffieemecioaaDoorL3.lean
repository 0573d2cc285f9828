import Derived.Test.YtaoffieemecioaaDoorL2
set_option linter.unusedSimpArgs false
set_option linter.unusedVariables false

set_option maxRecDepth 20000
namespace Go.Proofs.YtaoffieemecioaaDoor
open Go Go.IW
section
attribute [local go_sem] List.getElem?_cons_zero List.getElem?_cons_succ Option.bind_some List.map_cons List.map_nil Nat.zero_add if_true List.getD_cons_zero List.getD_cons_succ List.contains_cons List.contains_nil Bool.or_true Bool.true_or Bool.or_false Bool.false_or Bool.not_true Bool.not_false true_and and_true rowA_whole mid_get rowO_rows cellO_rows upd_ne Nat.add_assoc Nat.add_zero List.all_cons List.all_nil one_bool one_int one_str one_ptr one_nilptr one_slice one_eslice one_nilslice one_func one_iface one_niliface Bool.and_true Bool.and_self List.length_cons List.length_nil Nat.one_ne_zero Nat.succ_ne_zero if_false List.set_cons_zero List.set_cons_succ lay_nil lay_1 lay_w Option.map_some cells_one rowA_some List.drop_succ_cons List.drop_zero List.take_succ_cons List.take_zero

def hearQ (r : RepV) (from_ : Int) (q : Qn) : Bool := decide (q.id = r.id) && decide (q.server = from_) && decide (q.name = r.nm)
def goodR (r : RepV) : Bool := (decide (r.code = 0) && decide ((0 : Int) < (r.zs.length : Nat))) || (decide (r.code = 20) && decide (((r.zs.length : Nat) : Int) = 0))
def keepK (now : Int) (r : RepV) (ck : List Kn) : List Kn := if 0 < r.ttl then (if 32 ≤ ck.length then ck.drop 1 else ck) ++ [⟨r.nm, r.code, r.zs, now + 1000 * r.ttl⟩] else ck
def hearR (first : Int) (servers : List Int) (from_ port : Int) (bs : Tx) (st : Rs) : Rs :=
 if (decR bs).2 ≠ 0 ∨ port ≠ 53 then st else
 match st.l.findIdx? (hearQ (decR bs).1 from_) with
 | none => st
 | some i => if goodR (decR bs).1 = true then
   { st with cache := keepK st.now (decR bs).1 (freshK st.now st.cache), l := st.l.eraseIdx i, done := st.done ++ (match st.l[i]? with | some q => endD (decR bs).1.code (decR bs).1.zs q.tickets | none => []) }
  else againS first servers st i
theorem kn_un {h : IH} {L : List As} {k : Kn} {va : IV} (S : Sp h (ints va k.addrs :: L)) (h1 : va.one = true) : Sp h (knR (knRow k va) k :: L) := by
 have S := S.unfact (p := knRow k va = knRow k va ∧ va.one = true) ⟨rfl, h1⟩
 exact Sp.unex (F := fun v : IV => stars (fact (knRow k va = knRow k v ∧ v.one = true)) (ints v k.addrs)) va S.unstar
set_option maxHeartbeats 2000000 in
theorem l19Hear_c {h : IH} {L : List As} {w : Nat} {vs vb : IV} {first code ent ask from_ port : Int} {st : Rs} {servers : List Int} {bs : Tx} (W : WS h w vs first st code ent ask L) (hv : ∀ g, Sp g L → SlR g 1 vs (intRows servers)) (hvb : ∀ g, Sp g L → SlR g 1 vb (strRows bs))
  (hbl : bs.length ≤ 1048576) (hg : Rg st) (f0 : 0 ≤ first) (f1 : first ≤ 65535) (sv0 : servers ≠ []) (sv1 : servers.length ≤ 4) (hc0 : st.cache.length ≤ 32) (hd : st.done.length + tks st.l ≤ 90000) (hx : st.sent.length + mu st.l ≤ 90000) (hn1 : st.n + mu st.l ≤ 900000000) :
  ICalls Tryd.prog 40 [.ptr w 0 0, .int .i64 from_, .int .i64 port, vb] h fun r h' => WS h' w vs first (hearR first servers from_ port bs st) code ent ask L := by
 refine icalls (.of ok40) (Nat.le_of_ble_eq_true rfl) ?_
 unfold c40
 obtain ⟨vq, vk, vx, vd, rq, rk, rx, rd, S⟩ := W
 have hl16 := hg.l
 have hvb1 := (hvb h (S.dn 9)).one
 have hql := a2_len S 2 rfl
 try simp (disch := (first | exact dA | fail)) only [hvb1, go_sem, Nat.reduceBEq, Nat.reduceAdd, reduceIte]
 refine callA_of (specDecodeReply_c h vb bs (hvb h (S.dn 9)) hbl) ?_
 rintro r1 g1 ⟨v1, rfl, o1, E1⟩
 have S := S.ofOwn E1 o1
 have y1 := o1.sl.one
 have hdec : (decR bs).2 = 0 → (0 ≤ (decR bs).1.ttl ∧ (decR bs).1.ttl ≤ 86400) ∧ (decR bs).1.zs.length ≤ 8 := by
  intro h0
  unfold decR at h0 ⊢
  split at h0
  ·cases h0
  ·split at h0
   ·cases h0
   ·split at h0
    ·cases h0
    ·split at h0
     ·cases h0
     ·split at h0
      ·rename_i a1 a2 a3 a4 a5
       rw [if_neg a1, if_neg a2, if_neg a3, if_neg a4, if_pos a5]
       unfold RepV.ok okRep at a5
       simp only [Bool.and_eq_true, decide_eq_true_eq] at a5
       exact ⟨⟨a5.1.1.2.1, a5.1.1.2.2⟩, a5.1.2⟩
      ·cases h0
 have hho : hearR first servers from_ port bs st = (if (decR bs).2 ≠ 0 ∨ port ≠ 53 then st else
   match st.l.findIdx? (hearQ (decR bs).1 from_) with
   | none => st
   | some i => if goodR (decR bs).1 = true then
     { st with cache := keepK st.now (decR bs).1 (freshK st.now st.cache), l := st.l.eraseIdx i, done := st.done ++ (match st.l[i]? with | some q => endD (decR bs).1.code (decR bs).1.zs q.tickets | none => []) }
    else againS first servers st i) := rfl
 rw [hho]
 clear hho
 generalize (decR bs).1 = R at S hdec ⊢
 generalize (decR bs).2 = C at hdec ⊢
 try simp (disch := (first | exact dA | fail)) only [y1, go_sem, Nat.reduceBEq, Nat.reduceAdd, reduceIte]
 refine Sp.zero S fun p8 g2 S E_g2 l_g2 => ?_
 have q0 := (S.bx 0 rfl).eq
 try simp (disch := (first | exact dA | fail)) only [q0, y1, go_sem, Nat.reduceBEq, Nat.reduceAdd, reduceIte]
 refine stw_of rfl rfl (by first | rfl | simp (disch := assumption) only [go_sem, cells_one, one_as]) fun g3 hg => ?_
 have l_g3 := n_set hg
 have S := S.set0 hg
 clear hg
 have q0 := (S.bx 0 rfl).eq
 try simp (disch := (first | exact dA | fail)) only [q0, y1, go_sem, Nat.reduceBEq, Nat.reduceAdd, reduceIte]
 by_cases hC : C ≠ 0 ∨ port ≠ 53
 ·rw [if_pos hC]
  have d1 : (!decide (C = 0) || !decide (port = 53)) = true := by
   rcases hC with h0 | h0
   ·rw [decide_eq_false h0]; rfl
   ·rw [decide_eq_false h0]; simp
  have q0 := (S.bx 0 rfl).eq
  try simp (disch := (first | exact dA | fail)) only [q0, d1, go_sem, Nat.reduceBEq, Nat.reduceAdd, reduceIte]
  exact ⟨vq, vk, vx, vd, rq, rk, rx, rd, S.drop.drop⟩
 ·rw [if_neg hC]
  simp only [not_or, Classical.not_not] at hC
  obtain ⟨rfl, rfl⟩ := hC
  obtain ⟨ht, hz⟩ := hdec rfl
  have q0 := (S.bx 0 rfl).eq
  try simp (disch := (first | exact dA | fail)) only [q0, decide_true, Bool.not_true, go_sem, Nat.reduceBEq, Nat.reduceAdd, reduceIte]
  have hyp : ∀ g, Sp g L → True := fun _ _ => trivial
  refine loop_at (fun m e g => ∃ k : Nat, m = st.l.length - k ∧ k ≤ st.l.length ∧ e 0 = .ptr w 0 0 ∧ e 1 = .int .i64 from_ ∧ e 8 = .ptr p8 0 0 ∧ e 10 = .int .i64 (k : Nat) ∧ (∀ y ∈ st.l.take k, hearQ R from_ y = false) ∧
   Sp g (box p8 (.rows [[.int .i64 R.id, .int .i64 R.code, .int .i64 R.ttl, .str R.nm, v1]] 55 5 false) :: sl false 2 1 v1 (intRows R.zs) :: box w (wdO vs first st.now st.n vq vk code vx vd ent ask) :: sl false 131 6 vq rq :: all2 qnR rq st.l :: sl false 40 3 vd rd :: all2 dnR rd st.done ::
    sl false 129 4 vk rk :: all2 knR rk st.cache :: sl false 49 2 vx rx :: all2 sdR rx st.sent :: L)) st.l.length ?_ ?_
  ·refine ⟨0, by omega, by omega, ?_⟩
   try simp (disch := (first | exact dA | fail)) only [go_sem, Nat.reduceBEq, Nat.reduceAdd, reduceIte]
   exact ⟨rfl, by simp, S⟩
  ·clear S
   rintro m e g ⟨k, rfl, hk, e0, e1, e8, e10, hno, S⟩
   have hql := a2_len S 4 rfl
   have q0 := (S.bx 0 rfl).eq
   have q2 := (S.bx 2 rfl).eq
   have s3 := S.slA 3 rfl
   have len_s3 := s3.lenF
   have z3 := s3.one
   try simp (disch := (first | exact dA | fail)) only [q0, q2, len_s3, z3, e0, e1, e8, e10, go_sem, Nat.reduceBEq, Nat.reduceAdd, reduceIte]
   refine test_dec (fun hb => ?_) (fun hb => ?_)
   ·obtain ⟨x, hx⟩ : ∃ x, st.l[k]? = some x := ⟨_, List.getElem?_eq_getElem (by omega : k < st.l.length)⟩
    obtain ⟨va, hrow, hva⟩ := qn_at S 4 rfl hx
    have hva1 := hva.one
    obtain ⟨l, j, hia, hll, har⟩ := (S.slA 3 rfl).at hrow .i64
    have hrow0 := hrow
    unfold qnRow at har
    have w1 : wr .i64 ((k : Int) + 1) = ((k + 1 : Nat) : Int) := by rw [wr64 _ (by omega)]; rfl
    have q0 := (S.bx 0 rfl).eq
    have q2 := (S.bx 2 rfl).eq
    have s3 := S.slA 3 rfl
    have len_s3 := s3.lenF
    have z3 := s3.one
    try simp (disch := (first | exact dA | fail)) only [q0, q2, len_s3, z3, e0, e1, e8, e10, hia, har, go_sem, Nat.reduceBEq, Nat.reduceAdd, reduceIte]
    refine Sp.zero S fun p11 g4 S E_g4 l_g4 => ?_
    have q0 := (S.bx 0 rfl).eq
    have q1 := (S.bx 1 rfl).eq
    try simp (disch := (first | exact dA | fail)) only [q0, q1, e0, e1, e8, e10, hva1, go_sem, Nat.reduceBEq, Nat.reduceAdd, reduceIte]
    refine stw_of rfl rfl (by first | rfl | simp (disch := assumption) only [go_sem, cells_one, one_as]) fun g5 hg => ?_
    have l_g5 := n_set hg
    have S := S.set0 hg
    clear hg
    have q0 := (S.bx 0 rfl).eq
    have q1 := (S.bx 1 rfl).eq
    try simp (disch := (first | exact dA | fail)) only [q0, q1, e0, e1, e8, e10, go_sem, Nat.reduceBEq, Nat.reduceAdd, reduceIte]
    refine test_of (fun hc => ?_) (fun hc => ?_)
    ·have hq : hearQ R from_ x = false := by
      unfold hearQ
      simp only [Bool.or_eq_true, Bool.not_eq_true', decide_eq_false_iff_not] at hc
      rcases hc with (h1 | h1) | h1
      ·simp [h1]
      ·simp [h1]
      ·simp [h1]
     have q0 := (S.bx 0 rfl).eq
     have q1 := (S.bx 1 rfl).eq
     try simp (disch := (first | exact dA | fail)) only [q0, q1, e0, e1, e8, e10, w1, go_sem, Nat.reduceBEq, Nat.reduceAdd, reduceIte]
     exact ⟨st.l.length - (k + 1), by omega, k + 1, rfl, by omega, rfl, take_no hno hx hq, S.drop⟩
    ·have hq : hearQ R from_ x = true := by
      unfold hearQ
      simp only [Bool.or_eq_false_iff, Bool.not_eq_false', decide_eq_true_eq] at hc
      simp [hc.1.1, hc.1.2, hc.2]
     rw [findIdx_at hno hx hq]
     simp only [hx]
     have hz1 := (S.slA 2 rfl).lenF
     rw [intRows_len] at hz1
     have hz2 := (S.slA 2 rfl).one
     have hxm := hg.q x (List.mem_of_getElem? hx)
     have hdn := hg.dn
     have htk := sum_mem (fun q : Qn => q.tickets.length) hx
     simp only [tks] at hd
     have q0 := (S.bx 0 rfl).eq
     have q1 := (S.bx 1 rfl).eq
     try simp (disch := (first | exact dA | fail)) only [q0, q1, e0, e1, e8, e10, hz1, go_sem, Nat.reduceBEq, Nat.reduceAdd, reduceIte]
     cases hgd : goodR R
     ·have hgd' := hgd
      unfold goodR at hgd'
      have q0 := (S.bx 0 rfl).eq
      have q1 := (S.bx 1 rfl).eq
      try simp (disch := (first | exact dA | fail)) only [q0, q1, e0, e1, e8, e10, hgd', Bool.not_false, go_sem, Nat.reduceBEq, Nat.reduceAdd, reduceIte]
      have W : WS g5 w vs first st code ent ask L := ⟨vq, vk, vx, vd, rq, rk, rx, rd, S.drop.drop.drop⟩
      refine callA_of (l19Again_c W hv hx f0 f1 hg.n0 (by omega) hg.t0 hg.t1 hxm.1 sv0 sv1 (by omega) (by omega) (by omega) (by have := (okName_ne hxm.2.2.1).2; omega)) ?_
      clear W
      rintro r6 g6 W
      try simp (disch := (first | exact dA | fail)) only [go_sem, Nat.reduceBEq, Nat.reduceAdd, reduceIte]
      exact W
     ·have hgd' := hgd
      unfold goodR at hgd'
      have q0 := (S.bx 0 rfl).eq
      have q1 := (S.bx 1 rfl).eq
      try simp (disch := (first | exact dA | fail)) only [q0, q1, e0, e1, e8, e10, hgd', Bool.not_true, go_sem, Nat.reduceBEq, Nat.reduceAdd, reduceIte]
      have S := by simpa only [mc0, mn0, List.getD_cons_zero, List.getD_cons_succ, ds0, dz0, ca0, na0] using Sp.sel S 12 [3, 8, 9, 1, 2, 4, 5, 6, 7, 10, 11] (by simp only [lc0]; omega) (by decide) (by decide)
      refine callA_of (l19Fresh_c S (Nat.le_trans hc0 (by decide))) ?_
      clear S
      rintro r6 g6 ⟨vk2, rk2, S⟩
      have hfl : (freshK st.now st.cache).length ≤ 32 := Nat.le_trans (List.length_filter_le _ _) hc0
      have hkl := a2_len S 2 rfl
      generalize freshK st.now st.cache = ck at S hfl hkl ⊢
      have S := by simpa only [mc0, mn0, List.getD_cons_zero, List.getD_cons_succ, ds0, dz0, ca0, na0] using Sp.sel S 5 [4, 0, 3, 1, 2] (by simp only [lc0]; omega) (by decide) (by decide)
      by_cases httl : 0 < R.ttl
      ·have d2 : decide (0 < R.ttl) = true := decide_eq_true httl
       by_cases h32 : 32 ≤ ck.length
       ·have d3 : decide ((32 : Int) ≤ rk2.length) = true := decide_eq_true (by omega)
        obtain ⟨v15, hs15, a15⟩ := (S.slA 3 rfl).lo (a := 1) (q := .i64) (by omega)
        have hs15' : slcF g6 4 vk2 (some (.int .i64 1)) none = some v15 := hs15
        have hsrc := a15.src
        have q1 := (S.bx 1 rfl).eq
        have q2 := (S.bx 2 rfl).eq
        have s3 := S.slA 3 rfl
        have len_s3 := s3.lenF
        have z3 := s3.one
        try simp (disch := (first | exact dA | fail)) only [q1, q2, len_s3, z3, e0, e1, e8, e10, d2, d3, hs15', hsrc, Option.map_none, Option.map_some, go_sem, Nat.reduceBEq, Nat.reduceAdd, reduceIte]
        have S := S.slEmpty (x := false) (el := 129) (sz := 4)
        refine S.appAll (by rw [List.length_drop]; simp only [ln0]; omega) ?_
        clear S
        intro v16 g16 S z16
        rw [na0] at S
        have q2 := (S.bx 2 rfl).eq
        have q3 := (S.bx 3 rfl).eq
        try simp (disch := (first | exact dA | fail)) only [q2, q3, e0, e1, e8, e10, z16, go_sem, Nat.reduceBEq, Nat.reduceAdd, reduceIte]
        refine st1_of (Nat.le_of_ble_eq_true rfl) (by first | rfl | assumption) fun g15 hg => ?_
        have l_g15 := n_set hg
        have S := S.set2 hg
        clear hg
        simp only [sz0, ss0, ts0, tz0, ds0, dz0, ca0, na0, Nat.reduceAdd] at S
        have S := by simpa only [mc0, mn0, List.getD_cons_zero, List.getD_cons_succ, ds0, dz0, ca0, na0] using Sp.sel S 6 [5, 0, 1, 2, 3] (by simp only [lc0]; omega) (by decide) (by decide)
        have S := S.a2erase 0
        have er : rk2.eraseIdx 0 = rk2.drop 1 := by cases rk2 <;> simp
        have ec : ck.eraseIdx 0 = ck.drop 1 := by cases ck <;> simp
        rw [er, ec] at S
        have hk0 : keepK st.now R ck = ck.drop 1 ++ [⟨R.nm, R.code, R.zs, st.now + 1000 * R.ttl⟩] := by unfold keepK; rw [if_pos httl, if_pos h32]
        have hl15 : (rk2.drop 1).length ≤ 1000 := by rw [List.length_drop]; omega
        rw [hk0]
        clear hk0 hs15 hs15' hsrc a15
        generalize rk2.drop 1 = rk2 at S hl15
        generalize ck.drop 1 = ck at S ⊢
        have S := by simpa only [mc0, mn0, List.getD_cons_zero, List.getD_cons_succ, ds0, dz0, ca0, na0] using Sp.sel S 5 [2, 3, 4, 1, 0] (by simp only [lc0]; omega) (by decide) (by decide)
        have q1 := (S.bx 1 rfl).eq
        have q2 := (S.bx 2 rfl).eq
        try simp (disch := (first | exact dA | fail)) only [q1, q2, e0, e1, e8, e10, hz2, go_sem, Nat.reduceBEq, Nat.reduceAdd, reduceIte]
        have x2 : wr .i64 (1000 * R.ttl) = 1000 * R.ttl := wr64 _ (by omega)
        have ht0 := hg.t0
        have ht1 := hg.t1
        have x3 : wr .i64 (st.now + 1000 * R.ttl) = st.now + 1000 * R.ttl := wr64 _ (by omega)
        refine callA_of (l19Addrs_c S v1 R.zs (S.slA 0 rfl) (by omega)) ?_
        clear S
        rintro r7 g7 ⟨y7, S⟩
        have q2 := (S.bx 2 rfl).eq
        have q3 := (S.bx 3 rfl).eq
        try simp (disch := (first | exact dA | fail)) only [q2, q3, e0, e1, e8, e10, x2, x3, y7, ca0, na0, lay_p, go_sem, Nat.reduceBEq, Nat.reduceAdd, reduceIte]
        refine Sp.bsl1 S (by first | rfl | (rw [cells_one (by assumption)]; rfl)) (by first | rfl | simp (disch := assumption) only [go_sem, cells_one, one_as]) fun p12 g12 S E_g12 l_g12 => ?_
        try simp only [cells_agg, cells_int, cells_bool, cells_ptr, cells_str] at S
        have q0 := (S.bx 0 rfl).eq
        have q3 := (S.bx 3 rfl).eq
        have q4 := (S.bx 4 rfl).eq
        have s5 := S.slA 5 rfl
        have len_s5 := s5.lenF
        have z5 := s5.one
        try simp (disch := (first | exact dA | fail)) only [q0, q3, q4, len_s5, z5, e0, e1, e8, e10, go_sem, Nat.reduceBEq, Nat.reduceAdd, reduceIte]
        have S := by simpa only [mc0, mn0, List.getD_cons_zero, List.getD_cons_succ, ds0, dz0, ca0, na0] using Sp.sel S 7 [0, 5, 1, 2, 3, 4, 6] (by simp only [lc0]; omega) (by decide) (by decide)
        refine S.app1 (y := false) (b := 56) (by omega) ?_
        clear S
        intro v13 g13 S z13
        have q3 := (S.bx 3 rfl).eq
        have q4 := (S.bx 4 rfl).eq
        try simp (disch := (first | exact dA | fail)) only [q3, q4, e0, e1, e8, e10, z13, go_sem, Nat.reduceBEq, Nat.reduceAdd, reduceIte]
        refine st1_of (Nat.le_of_ble_eq_true rfl) (by first | rfl | assumption) fun g14 hg => ?_
        have l_g14 := n_set hg
        have S := S.set3 hg
        clear hg
        simp only [sz0, ss0, ts0, tz0, ds0, dz0, ca0, na0, Nat.reduceAdd] at S
        have q3 := (S.bx 3 rfl).eq
        have q4 := (S.bx 4 rfl).eq
        try simp (disch := (first | exact dA | fail)) only [q3, q4, e0, e1, e8, e10, hz2, go_sem, Nat.reduceBEq, Nat.reduceAdd, reduceIte]
        have hkk : True := trivial
        have S := by simpa only [mc0, mn0, List.getD_cons_zero, List.getD_cons_succ, ds0, dz0, ca0, na0] using Sp.sel S 2 [1, 0] (by simp only [lc0]; omega) (by decide) (by decide)
        have S := (kn_un (k := ⟨R.nm, R.code, R.zs, st.now + 1000 * R.ttl⟩) S y7).a2one
        have S := by simpa only [mc0, mn0, List.getD_cons_zero, List.getD_cons_succ, ds0, dz0, ca0, na0] using Sp.sel S 6 [5, 0, 1, 2, 3] (by simp only [lc0]; omega) (by decide) (by decide)
        have S := S.a2join
        have S := by simpa only [mc0, mn0, List.getD_cons_zero, List.getD_cons_succ, ds0, dz0, ca0, na0] using Sp.sel S 8 [3, 4, 5, 6, 7, 2, 1, 0] (by simp only [lc0]; omega) (by decide) (by decide)
        refine callA_of (l19End_c (zs := R.zs) (code := R.code) S (fun g S => S.slA 0 rfl) hx (by omega) (by omega) (by omega)) ?_
        clear S
        rintro r17 g17 ⟨vq7, vd7, rq7, rd7, S⟩
        try simp (disch := (first | exact dA | fail)) only [go_sem, Nat.reduceBEq, Nat.reduceAdd, reduceIte]
        have S := by simpa only [mc0, mn0, List.getD_cons_zero, List.getD_cons_succ, ds0, dz0, ca0, na0] using Sp.sel S 6 [0, 1, 2, 3, 4] (by simp only [lc0]; omega) (by decide) (by decide)
        exact ⟨vq7, _, vx, vd7, rq7, _, rx, rd7, S⟩
       ·have d3 : decide ((32 : Int) ≤ rk2.length) = false := decide_eq_false (by omega)
        have q1 := (S.bx 1 rfl).eq
        have q2 := (S.bx 2 rfl).eq
        have s3 := S.slA 3 rfl
        have len_s3 := s3.lenF
        have z3 := s3.one
        try simp (disch := (first | exact dA | fail)) only [q1, q2, len_s3, z3, e0, e1, e8, e10, d2, d3, hz2, go_sem, Nat.reduceBEq, Nat.reduceAdd, reduceIte]
        have x2 : wr .i64 (1000 * R.ttl) = 1000 * R.ttl := wr64 _ (by omega)
        have ht0 := hg.t0
        have ht1 := hg.t1
        have x3 : wr .i64 (st.now + 1000 * R.ttl) = st.now + 1000 * R.ttl := wr64 _ (by omega)
        refine callA_of (l19Addrs_c S v1 R.zs (S.slA 0 rfl) (by omega)) ?_
        clear S
        rintro r7 g7 ⟨y7, S⟩
        have q2 := (S.bx 2 rfl).eq
        have q3 := (S.bx 3 rfl).eq
        try simp (disch := (first | exact dA | fail)) only [q2, q3, e0, e1, e8, e10, x2, x3, y7, ca0, na0, lay_p, go_sem, Nat.reduceBEq, Nat.reduceAdd, reduceIte]
        refine Sp.bsl1 S (by first | rfl | (rw [cells_one (by assumption)]; rfl)) (by first | rfl | simp (disch := assumption) only [go_sem, cells_one, one_as]) fun p12 g12 S E_g12 l_g12 => ?_
        try simp only [cells_agg, cells_int, cells_bool, cells_ptr, cells_str] at S
        have q0 := (S.bx 0 rfl).eq
        have q3 := (S.bx 3 rfl).eq
        have q4 := (S.bx 4 rfl).eq
        have s5 := S.slA 5 rfl
        have len_s5 := s5.lenF
        have z5 := s5.one
        try simp (disch := (first | exact dA | fail)) only [q0, q3, q4, len_s5, z5, e0, e1, e8, e10, go_sem, Nat.reduceBEq, Nat.reduceAdd, reduceIte]
        have S := by simpa only [mc0, mn0, List.getD_cons_zero, List.getD_cons_succ, ds0, dz0, ca0, na0] using Sp.sel S 7 [0, 5, 1, 2, 3, 4, 6] (by simp only [lc0]; omega) (by decide) (by decide)
        refine S.app1 (y := false) (b := 56) (by omega) ?_
        clear S
        intro v13 g13 S z13
        have q3 := (S.bx 3 rfl).eq
        have q4 := (S.bx 4 rfl).eq
        try simp (disch := (first | exact dA | fail)) only [q3, q4, e0, e1, e8, e10, z13, go_sem, Nat.reduceBEq, Nat.reduceAdd, reduceIte]
        refine st1_of (Nat.le_of_ble_eq_true rfl) (by first | rfl | assumption) fun g14 hg => ?_
        have l_g14 := n_set hg
        have S := S.set3 hg
        clear hg
        simp only [sz0, ss0, ts0, tz0, ds0, dz0, ca0, na0, Nat.reduceAdd] at S
        have q3 := (S.bx 3 rfl).eq
        have q4 := (S.bx 4 rfl).eq
        try simp (disch := (first | exact dA | fail)) only [q3, q4, e0, e1, e8, e10, hz2, go_sem, Nat.reduceBEq, Nat.reduceAdd, reduceIte]
        have hkk : keepK st.now R ck = ck ++ [⟨R.nm, R.code, R.zs, st.now + 1000 * R.ttl⟩] := by unfold keepK; rw [if_pos httl, if_neg h32]
        have S := by simpa only [mc0, mn0, List.getD_cons_zero, List.getD_cons_succ, ds0, dz0, ca0, na0] using Sp.sel S 2 [1, 0] (by simp only [lc0]; omega) (by decide) (by decide)
        have S := (kn_un (k := ⟨R.nm, R.code, R.zs, st.now + 1000 * R.ttl⟩) S y7).a2one
        have S := by simpa only [mc0, mn0, List.getD_cons_zero, List.getD_cons_succ, ds0, dz0, ca0, na0] using Sp.sel S 6 [5, 0, 1, 2, 3] (by simp only [lc0]; omega) (by decide) (by decide)
        have S := S.a2join
        have S := by simpa only [mc0, mn0, List.getD_cons_zero, List.getD_cons_succ, ds0, dz0, ca0, na0] using Sp.sel S 8 [3, 4, 5, 6, 7, 2, 1, 0] (by simp only [lc0]; omega) (by decide) (by decide)
        refine callA_of (l19End_c (zs := R.zs) (code := R.code) S (fun g S => S.slA 0 rfl) hx (by omega) (by omega) (by omega)) ?_
        clear S
        rintro r17 g17 ⟨vq7, vd7, rq7, rd7, S⟩
        try simp (disch := (first | exact dA | fail)) only [go_sem, Nat.reduceBEq, Nat.reduceAdd, reduceIte]
        rw [hkk]
        have S := by simpa only [mc0, mn0, List.getD_cons_zero, List.getD_cons_succ, ds0, dz0, ca0, na0] using Sp.sel S 6 [0, 1, 2, 3, 4] (by simp only [lc0]; omega) (by decide) (by decide)
        exact ⟨vq7, _, vx, vd7, rq7, _, rx, rd7, S⟩
      ·have d2 : decide (0 < R.ttl) = false := decide_eq_false httl
       have hkk : keepK st.now R ck = ck := by unfold keepK; rw [if_neg httl]
       have q1 := (S.bx 1 rfl).eq
       have q2 := (S.bx 2 rfl).eq
       try simp (disch := (first | exact dA | fail)) only [q1, q2, e0, e1, e8, e10, d2, hz2, go_sem, Nat.reduceBEq, Nat.reduceAdd, reduceIte]
       have S := by simpa only [mc0, mn0, List.getD_cons_zero, List.getD_cons_succ, ds0, dz0, ca0, na0] using Sp.sel S 9 [1, 5, 6, 7, 8, 0, 3, 4] (by simp only [lc0]; omega) (by decide) (by decide)
       refine callA_of (l19End_c (zs := R.zs) (code := R.code) S (fun g S => S.slA 0 rfl) hx (by omega) (by omega) (by omega)) ?_
       clear S
       rintro r7 g7 ⟨vq7, vd7, rq7, rd7, S⟩
       try simp (disch := (first | exact dA | fail)) only [go_sem, Nat.reduceBEq, Nat.reduceAdd, reduceIte]
       rw [hkk]
       have S := by simpa only [mc0, mn0, List.getD_cons_zero, List.getD_cons_succ, ds0, dz0, ca0, na0] using Sp.sel S 6 [0, 1, 2, 3, 4] (by simp only [lc0]; omega) (by decide) (by decide)
       exact ⟨vq7, vk2, vx, vd7, rq7, rk2, rx, rd7, S⟩
   ·have hk2 : k = st.l.length := by omega
    subst hk2
    rw [List.take_length] at hno
    have hfn : st.l.findIdx? (hearQ R from_) = none := by simpa using hno
    rw [hfn]
    try simp (disch := (first | exact dA | fail)) only [e0, e1, e8, e10, go_sem, Nat.reduceBEq, Nat.reduceAdd, reduceIte]
    exact ⟨vq, vk, vx, vd, rq, rk, rx, rd, S.drop.drop⟩
end
end Go.Proofs.YtaoffieemecioaaDoor



set_option maxRecDepth 20000
namespace Go.Proofs.YtaoffieemecioaaDoor
open Go Go.IW

structure Ro where
 kind : Int
 from_ : Int
 port : Int
 wait : Int
 name : Tx
 bytes : Tx
def stepP (first : Int) (servers : List Int) (ticket : Int) (o : Ro) (st : Rs) : Rs × Int :=
 if o.kind = 1 ∧ okName o.name = true then wantR first servers ticket o.name st
  else if o.kind = 2 then (hearR first servers o.from_ o.port o.bytes st, 0)
  else if o.kind = 3 ∧ 0 ≤ o.wait ∧ o.wait ≤ 1000000000 - st.now then (passR first servers (st.now + o.wait) (mu st.l) st, 0)
  else (st, 1)
def rst (st : Rs) : Rs := ⟨st.now, st.n, st.l, st.cache, [], []⟩
def freshS (st : Rs) : Rs := { st with cache := freshK st.now st.cache }
def stepR (first : Int) (servers : List Int) (ticket : Int) (o : Ro) (st : Rs) : Rs × Int :=
 (freshS (stepP first servers ticket o (rst st)).1, (stepP first servers ticket o (rst st)).2)
theorem mu_le : ∀ l : List Qn, mu l ≤ 5 * l.length
 | [] => by simp [mu]
 | q :: l => by
  have := mu_le l
  simp only [mu, mc0, List.sum_cons, lc0] at this ⊢
  omega
theorem decR_ok {bs : Tx} (h0 : (decR bs).2 = 0) : (0 ≤ (decR bs).1.ttl ∧ (decR bs).1.ttl ≤ 86400) ∧ (decR bs).1.zs.length ≤ 8 := by
 unfold decR at h0 ⊢
 split at h0
 ·cases h0
 ·split at h0
  ·cases h0
  ·split at h0
   ·cases h0
   ·split at h0
    ·cases h0
    ·split at h0
     ·rename_i a1 a2 a3 a4 a5
      rw [if_neg a1, if_neg a2, if_neg a3, if_neg a4, if_pos a5]
      unfold RepV.ok okRep at a5
      simp only [Bool.and_eq_true, decide_eq_true_eq] at a5
      exact ⟨⟨a5.1.1.2.1, a5.1.1.2.2⟩, a5.1.2⟩
     ·cases h0
structure Bd (T X N : Nat) (st : Rs) : Prop where
 d : st.done.length + tks st.l ≤ T
 s : st.sent.length + mu st.l ≤ X
 n : st.n + mu st.l ≤ N
 c : st.cache.length ≤ 32
 a : ∀ k ∈ st.cache, k.addrs.length ≤ 8
 da : ∀ d ∈ st.done, d.addrs.length ≤ 8
 sb : ∀ x ∈ st.sent, x.bytes.length ≤ 1000
theorem again_bd {first : Int} {servers : List Int} {st : Rs} {i : Nat} {q : Qn} {T X N : Nat} (hg : Rg st) (h : Bd T X N st) (hq : st.l[i]? = some q) : Bd T X N (againS first servers st i) := by
 obtain ⟨a0, a1, a2, a3⟩ := hg.q q (List.mem_of_getElem? hq)
 have h1 := h.d
 have h2 := h.s
 have h3 := h.n
 unfold againS
 rw [hq]
 simp only
 by_cases h4 : 4 ≤ q.asks
 ·rw [if_pos h4]
  have m1 := sum_erase (fun q : Qn => 5 - q.asks.toNat) hq
  have m2 := sum_erase (fun q : Qn => q.tickets.length) hq
  simp only [mu, tks] at h1 h2 h3
  refine ⟨?_, ?_, ?_, h.c, h.a, ?_, h.sb⟩
  ·simp only [tks, la0, endD_len]; omega
  ·simp only [mu]; omega
  ·simp only [mu]; omega
  ·intro d hd
   rcases List.mem_append.1 hd with hd | hd
   ·exact h.da d hd
   ·simp only [endD, List.mem_map] at hd
    obtain ⟨t, _, rfl⟩ := hd
    simp
 ·rw [if_neg h4]
  have m1 := sum_set (fun q : Qn => 5 - q.asks.toNat) (q' := askQ first servers st.now st.n q) hq
  have m2 := sum_set (fun q : Qn => q.tickets.length) (q' := askQ first servers st.now st.n q) hq
  have e1 : (askQ first servers st.now st.n q).asks = q.asks + 1 := rfl
  have e2 : (askQ first servers st.now st.n q).tickets = q.tickets := rfl
  simp only [e1, e2] at m1 m2
  simp only [mu, tks] at h1 h2 h3
  refine ⟨?_, ?_, ?_, h.c, h.a, h.da, ?_⟩
  ·simp only [tks]; omega
  ·simp only [mu, la0, List.length_singleton]; omega
  ·simp only [mu]; omega
  ·intro x hx
   rcases List.mem_append.1 hx with hx | hx
   ·exact h.sb x hx
   ·rw [List.mem_singleton.1 hx]
    exact encQ_len
theorem bd_now {st : Rs} {T X N : Nat} (h : Bd T X N st) (t : Int) : Bd T X N { st with now := t } := ⟨h.d, h.s, h.n, h.c, h.a, h.da, h.sb⟩
theorem pass_bd {first : Int} {servers : List Int} {e : Int} {T X N : Nat} (e0 : 0 ≤ e) (e1 : e ≤ 1000000000) : ∀ (f : Nat) {st : Rs}, Rg st → Bd T X N st → Bd T X N (passR first servers e f st)
 | 0, st, _, h => bd_now h e
 | f + 1, st, hg, h => by
  cases hd : dueN e st.l st.l.length with
  | none => rw [passR_none hd]; exact bd_now h e
  | some b =>
   rw [passR_some hd]
   obtain ⟨q, hq, hqe⟩ := dueN_due hd
   have hqm := hg.q q (List.mem_of_getElem? hq)
   have hdo : dueOf st.l b = q.due := by unfold dueOf; rw [hq]
   have h1 := rg_now hg (t := dueOf st.l b) (by rw [hdo]; exact hqm.2.2.2) (by rw [hdo]; omega)
   have h2 := bd_now h (dueOf st.l b)
   exact pass_bd e0 e1 f (again_rg (first := first) (servers := servers) (st := { st with now := dueOf st.l b }) h1 hq).1 (again_bd (st := { st with now := dueOf st.l b }) h1 h2 hq)
theorem bd_fresh {st : Rs} {T X N : Nat} (h : Bd T X N st) : Bd T X N (freshS st) :=
 ⟨h.d, h.s, h.n, Nat.le_trans (List.length_filter_le _ _) h.c, fun k hk => h.a k (List.mem_filter.1 hk).1, h.da, h.sb⟩
theorem rg_fresh {st : Rs} (h : Rg st) : Rg (freshS st) := ⟨h.t0, h.t1, h.n0, h.n1, h.l, h.q, h.dn, h.sx⟩
theorem tks_snoc (l : List Qn) (q : Qn) : tks (l ++ [q]) = tks l + q.tickets.length := by simp [tks]
theorem mu_snoc (l : List Qn) (q : Qn) : mu (l ++ [q]) = mu l + (5 - q.asks.toNat) := by simp [mu]
theorem want_ok {first : Int} {servers : List Int} {ticket : Int} {name : Tx} {st : Rs} {T X N : Nat} (hg : Rg st) (h : Bd T X N st) (hn : okName name = true) (hT : T ≤ 90000) (hX : X ≤ 90000) (hN : N ≤ 900000000) :
  Rg (wantR first servers ticket name st).1 ∧ Bd (T + 1) (X + 5) (N + 5) (wantR first servers ticket name st).1 := by
 have h1 := h.d
 have h2 := h.s
 have h3 := h.n
 have hg' : Rg { st with cache := freshK st.now st.cache } := rg_fresh hg
 have hb' : Bd T X N { st with cache := freshK st.now st.cache } := bd_fresh h
 have up : ∀ {st' : Rs}, Bd T X N st' → Bd (T + 1) (X + 5) (N + 5) st' := fun b => ⟨by have := b.d; omega, by have := b.s; omega, by have := b.n; omega, b.c, b.a, b.da, b.sb⟩
 unfold wantR
 cases hf : (freshK st.now st.cache).find? (fun k => decide (k.name = name)) with
 | some k =>
  simp only
  have hk := hb'.a k (List.mem_of_find?_eq_some hf)
  refine ⟨⟨hg.t0, hg.t1, hg.n0, hg.n1, hg.l, hg.q, ?_, hg.sx⟩, ⟨?_, ?_, ?_, hb'.c, hb'.a, ?_, h.sb⟩⟩
  ·simp only [la0, List.length_singleton]; omega
  ·simp only [la0, List.length_singleton]; omega
  ·simp only; omega
  ·simp only; omega
  ·intro d hd
   rcases List.mem_append.1 hd with hd | hd
   ·exact h.da d hd
   ·rw [List.mem_singleton.1 hd]; exact hk
 | none =>
  simp only
  cases hi : st.l.findIdx? (fun q => decide (q.name = name)) with
  | some i =>
   simp only
   obtain ⟨q, hq⟩ : ∃ q, st.l[i]? = some q := by
    rw [List.findIdx?_eq_some_iff_getElem] at hi
    exact ⟨_, List.getElem?_eq_getElem hi.1⟩
   rw [hq]
   simp only
   have m1 := sum_set (fun q : Qn => 5 - q.asks.toNat) (q' := addT ticket q) hq
   have m2 := sum_set (fun q : Qn => q.tickets.length) (q' := addT ticket q) hq
   have e1 : (addT ticket q).asks = q.asks := rfl
   have e2 : (addT ticket q).tickets.length = q.tickets.length + 1 := by simp [addT]
   rw [e1] at m1
   rw [e2] at m2
   have g1 := hg.n1
   have g2 := hg.dn
   have g3 := hg.sx
   simp only [mu, tks] at h1 h2 h3 g1 g2 g3
   refine ⟨⟨hg.t0, hg.t1, hg.n0, ?_, ?_, ?_, ?_, ?_⟩, ⟨?_, ?_, ?_, hb'.c, hb'.a, h.da, h.sb⟩⟩
   ·simp only [mu]; omega
   ·simp only [List.length_set]; exact hg.l
   ·intro x hx
    rcases List.mem_or_eq_of_mem_set hx with hx | hx
    ·exact hg.q x hx
    ·rw [hx]; exact hg.q q (List.mem_of_getElem? hq)
   ·simp only [tks]; omega
   ·simp only [mu]; omega
   ·simp only [tks]; omega
   ·simp only [mu]; omega
   ·simp only [mu]; omega
  | none =>
   simp only
   by_cases h16 : 16 ≤ st.l.length
   ·rw [if_pos h16]
    exact ⟨hg', up hb'⟩
   ·rw [if_neg h16]
    have hql : ({ st with cache := freshK st.now st.cache, l := st.l ++ [⟨name, 0, 0, 0, 0, [ticket]⟩] } : Rs).l[st.l.length]? = some ⟨name, 0, 0, 0, 0, [ticket]⟩ := by simp
    have g1 := hg.n1
    have g2 := hg.dn
    have g3 := hg.sx
    have hg2 : Rg { st with cache := freshK st.now st.cache, l := st.l ++ [⟨name, 0, 0, 0, 0, [ticket]⟩] } := by
     refine ⟨hg.t0, hg.t1, hg.n0, ?_, ?_, ?_, ?_, ?_⟩
     ·simp only [mu_snoc, Int.toNat_zero]; omega
     ·simp only [la0, List.length_singleton]; omega
     ·intro x hx
      rcases List.mem_append.1 hx with hx | hx
      ·exact hg.q x hx
      ·rw [List.mem_singleton.1 hx]; exact ⟨Int.le_refl _, (by decide : (0 : Int) ≤ 4), hn, Int.le_refl _⟩
     ·simp only [tks_snoc, List.length_singleton]; omega
     ·simp only [mu_snoc, Int.toNat_zero]; omega
    have hb2 : Bd (T + 1) (X + 5) (N + 5) { st with cache := freshK st.now st.cache, l := st.l ++ [⟨name, 0, 0, 0, 0, [ticket]⟩] } := by
     refine ⟨?_, ?_, ?_, hb'.c, hb'.a, h.da, h.sb⟩
     ·simp only [tks_snoc, List.length_singleton]; omega
     ·simp only [mu_snoc, Int.toNat_zero]; omega
     ·simp only [mu_snoc, Int.toNat_zero]; omega
    exact ⟨(again_rg hg2 hql).1, again_bd hg2 hb2 hql⟩
theorem keep_ok {now : Int} {r : RepV} {ck : List Kn} (hc : ck.length ≤ 32) (ha : ∀ k ∈ ck, k.addrs.length ≤ 8) (hz : r.zs.length ≤ 8) : (keepK now r ck).length ≤ 32 ∧ ∀ k ∈ keepK now r ck, k.addrs.length ≤ 8 := by
 unfold keepK
 split
 ·split
  ·refine ⟨by simp; omega, fun k hk => ?_⟩
   rcases List.mem_append.1 hk with hk | hk
   ·exact ha k (List.mem_of_mem_drop hk)
   ·rw [List.mem_singleton.1 hk]; exact hz
  ·refine ⟨by simp; omega, fun k hk => ?_⟩
   rcases List.mem_append.1 hk with hk | hk
   ·exact ha k hk
   ·rw [List.mem_singleton.1 hk]; exact hz
 ·exact ⟨hc, ha⟩
theorem hear_ok {first : Int} {servers : List Int} {from_ port : Int} {bs : Tx} {st : Rs} {T X N : Nat} (hg : Rg st) (h : Bd T X N st) : Rg (hearR first servers from_ port bs st) ∧ Bd T X N (hearR first servers from_ port bs st) := by
 have h1 := h.d
 have h2 := h.s
 have h3 := h.n
 have hb' := bd_fresh h
 unfold hearR
 by_cases hc : (decR bs).2 ≠ 0 ∨ port ≠ 53
 ·rw [if_pos hc]; exact ⟨hg, h⟩
 ·rw [if_neg hc]
  simp only [not_or, Classical.not_not] at hc
  obtain ⟨ht, hz⟩ := decR_ok hc.1
  cases hi : st.l.findIdx? (hearQ (decR bs).1 from_) with
  | none => exact ⟨hg, h⟩
  | some i =>
   simp only
   obtain ⟨q, hq⟩ : ∃ q, st.l[i]? = some q := by
    rw [List.findIdx?_eq_some_iff_getElem] at hi
    exact ⟨_, List.getElem?_eq_getElem hi.1⟩
   split
   ·rw [hq]
    simp only
    have m1 := sum_erase (fun q : Qn => 5 - q.asks.toNat) hq
    have m2 := sum_erase (fun q : Qn => q.tickets.length) hq
    have g1 := hg.n1
    have g2 := hg.dn
    have g3 := hg.sx
    simp only [mu, tks] at h1 h2 h3 g1 g2 g3
    obtain ⟨k1, k2⟩ := keep_ok (now := st.now) hb'.c hb'.a hz
    refine ⟨⟨hg.t0, hg.t1, hg.n0, ?_, ?_, ?_, ?_, ?_⟩, ⟨?_, ?_, ?_, k1, k2, ?_, h.sb⟩⟩
    ·simp only [mu]; omega
    ·have := List.length_eraseIdx_le st.l i
     have := hg.l
     simp only; omega
    ·intro x hx
     exact hg.q x (List.mem_of_mem_eraseIdx hx)
    ·simp only [tks, la0, endD_len]; omega
    ·simp only [mu]; omega
    ·simp only [tks, la0, endD_len]; omega
    ·simp only [mu]; omega
    ·simp only [mu]; omega
    ·intro d hd
     rcases List.mem_append.1 hd with hd | hd
     ·exact h.da d hd
     ·simp only [endD, List.mem_map] at hd
      obtain ⟨t, _, rfl⟩ := hd
      exact hz
   ·exact ⟨(again_rg hg hq).1, again_bd hg h hq⟩
structure Ri (N : Nat) (st : Rs) : Prop where
 g : Rg (rst st)
 c : st.cache.length ≤ 32
 a : ∀ k ∈ st.cache, k.addrs.length ≤ 8
 t : tks st.l ≤ N
 n : st.n + mu st.l ≤ 5 * N
theorem Ri.bd {N : Nat} {st : Rs} (h : Ri N st) : Bd N 80 (5 * N) (rst st) := by
 have h1 := h.t
 have h2 := h.n
 have h3 := mu_le st.l
 have h4 : st.l.length ≤ 16 := h.g.l
 exact ⟨by show 0 + tks st.l ≤ N; omega, by show 0 + mu st.l ≤ 80; omega, by show st.n + mu st.l ≤ _; omega, h.c, h.a, (fun d hd => nomatch hd), (fun x hx => nomatch hx)⟩
theorem stepP_ok {first : Int} {servers : List Int} {ticket : Int} {o : Ro} {st : Rs} {N : Nat} (h : Ri N st) (hN : N ≤ 90000) :
  Rg (stepP first servers ticket o (rst st)).1 ∧ Bd (N + 1) 85 (5 * (N + 1)) (stepP first servers ticket o (rst st)).1 := by
 have up : ∀ {st' : Rs}, Bd N 80 (5 * N) st' → Bd (N + 1) 85 (5 * (N + 1)) st' := fun b => ⟨by have := b.d; omega, by have := b.s; omega, by have := b.n; omega, b.c, b.a, b.da, b.sb⟩
 have hb := h.bd
 have hg := h.g
 unfold stepP
 split
 ·rename_i hk
  obtain ⟨a, b⟩ := want_ok (first := first) (servers := servers) (ticket := ticket) hg hb hk.2 hN (by decide) (by omega)
  exact ⟨a, by rwa [show 5 * (N + 1) = 5 * N + 5 by omega]⟩
 ·split
  ·obtain ⟨a, b⟩ := hear_ok (first := first) (servers := servers) (from_ := o.from_) (port := o.port) (bs := o.bytes) hg hb
   exact ⟨a, up b⟩
  ·split
   ·rename_i hk
    have ht0 : 0 ≤ (rst st).now := hg.t0
    exact ⟨pass_rg (by omega) (by omega) _ hg, up (pass_bd (by omega) (by omega) _ hg hb)⟩
   ·exact ⟨hg, up hb⟩
theorem stepR_ok {first : Int} {servers : List Int} {ticket : Int} {o : Ro} {st : Rs} {N : Nat} (h : Ri N st) (hN : N ≤ 90000) : Ri (N + 1) (stepR first servers ticket o st).1 ∧ Bd (N + 1) 85 (5 * (N + 1)) (stepR first servers ticket o st).1 := by
 obtain ⟨a, b⟩ := stepP_ok (first := first) (servers := servers) (ticket := ticket) (o := o) h hN
 have b' := bd_fresh b
 refine ⟨⟨⟨a.t0, a.t1, a.n0, a.n1, a.l, a.q, ?_, ?_⟩, b'.c, b'.a, ?_, ?_⟩, b'⟩
 ·have := a.dn; show 0 + tks (stepP first servers ticket o (rst st)).1.l ≤ 100000; omega
 ·have := a.sx; show 0 + mu (stepP first servers ticket o (rst st)).1.l ≤ 100000; omega
 ·have := b'.d; simp only [stepR] at this ⊢; omega
 ·have := b'.n; simp only [stepR] at this ⊢; omega
theorem Ri.init : Ri 0 ⟨0, 0, [], [], [], []⟩ := ⟨⟨by decide, by decide, by decide, by decide, by decide, by simp [rst], by decide, by decide⟩, by decide, by simp, by decide, by decide⟩
end Go.Proofs.YtaoffieemecioaaDoor



set_option maxRecDepth 20000
namespace Go.Proofs.YtaoffieemecioaaDoor
open Go Go.IW
section
attribute [local go_sem] List.getElem?_cons_zero List.getElem?_cons_succ Option.bind_some List.map_cons List.map_nil Nat.zero_add if_true List.getD_cons_zero List.getD_cons_succ List.contains_cons List.contains_nil Bool.or_true Bool.true_or Bool.or_false Bool.false_or Bool.not_true Bool.not_false true_and and_true rowA_whole mid_get rowO_rows cellO_rows upd_ne Nat.add_assoc Nat.add_zero List.all_cons List.all_nil one_bool one_int one_str one_ptr one_nilptr one_slice one_eslice one_nilslice one_func one_iface one_niliface Bool.and_true Bool.and_self List.length_cons List.length_nil Nat.one_ne_zero Nat.succ_ne_zero if_false List.set_cons_zero List.set_cons_succ lay_nil lay_1 lay_w Option.map_some cells_one rowA_some List.drop_succ_cons List.drop_zero List.take_succ_cons List.take_zero

def roRow (o : Ro) (vb : IV) : List IV := [.int .i64 o.kind, .int .i64 o.from_, .int .i64 o.port, .int .i64 o.wait, .str o.name, vb]
abbrev roO (o : Ro) (vb : IV) : IObj := .rows [[.int .i64 o.kind, .int .i64 o.from_, .int .i64 o.port, .int .i64 o.wait, .str o.name, vb]] 30 6 false
abbrev outO0 : IObj := .rows [[.int .i64 0, .nilslice, .nilslice, .int .i64 0, .int .i64 0]] 38 5 false
set_option maxHeartbeats 2000000 in
theorem l19Step_c {h : IH} {L : List As} {w : Nat} {vs vb vx0 vd0 vq vk : IV} {first code ent ask ticket : Int} {st : Rs} {N : Nat} {servers : List Int} {o : Ro} {rq rk : List (List IV)}
  (S : Sp h (box w (wdO vs first st.now st.n vq vk code vx0 vd0 ent ask) :: sl false 131 6 vq rq :: all2 qnR rq st.l :: sl false 129 4 vk rk :: all2 knR rk st.cache :: L))
  (hv : ∀ g, Sp g L → SlR g 1 vs (intRows servers)) (hvb : ∀ g, Sp g L → SlR g 1 vb (strRows o.bytes)) (hi : Ri N st) (hN : N ≤ 90000) (hbl : o.bytes.length ≤ 1048576) (hnl : o.name.length ≤ 1048576) (f0 : 0 ≤ first) (f1 : first ≤ 65535) (sv0 : servers ≠ []) (sv1 : servers.length ≤ 4) :
  ICalls Tryd.prog 19 [.ptr w 0 0, .int .i64 ticket, .agg (roRow o vb)] h fun r h' => ∃ vx vd rx rd vq' vk' rq' rk', r = .agg [.int .i64 (stepR first servers ticket o st).2, vx, vd, .int .i64 (stepR first servers ticket o st).1.cache.length, .int .i64 (stepR first servers ticket o st).1.l.length] ∧ vx.one = true ∧ vd.one = true ∧
   Sp h' (box w (wdO vs first (stepR first servers ticket o st).1.now (stepR first servers ticket o st).1.n vq' vk' (stepR first servers ticket o st).2 vx vd (stepR first servers ticket o st).1.cache.length (stepR first servers ticket o st).1.l.length) :: sl false 131 6 vq' rq' :: all2 qnR rq' (stepR first servers ticket o st).1.l ::
    sl false 129 4 vk' rk' :: all2 knR rk' (stepR first servers ticket o st).1.cache :: sl false 49 2 vx rx :: all2 sdR rx (stepR first servers ticket o st).1.sent :: sl false 40 3 vd rd :: all2 dnR rd (stepR first servers ticket o st).1.done :: L) := by
 refine icalls (.of ok19) (Nat.le_of_ble_eq_true rfl) ?_
 unfold c19 roRow
 have y1 := (hvb h (S.dn 5)).one
 refine vc_split 3 (fun e g => ∃ p5 p6, e 0 = .ptr w 0 0 ∧ e 6 = .ptr p6 0 0 ∧ WS g w vs first (stepP first servers ticket o (rst st)).1 (stepP first servers ticket o (rst st)).2 0 0 (box p6 outO0 :: box p5 (roO o vb) :: L)) ?_ ?_
 rotate_left
 ·clear S
  rintro e g ⟨p5, p6, e0, e6, W⟩
  simp only [CC.split]
  obtain ⟨hPg, hPb⟩ := stepP_ok (first := first) (servers := servers) (ticket := ticket) (o := o) hi hN
  have hR : stepR first servers ticket o st = (freshS (stepP first servers ticket o (rst st)).1, (stepP first servers ticket o (rst st)).2) := rfl
  rw [hR]
  generalize stepP first servers ticket o (rst st) = P at W hPg hPb
  obtain ⟨P, pc⟩ := P
  have hPc := hPb.c
  have hPl := hPg.l
  unfold freshS
  simp only at W hPc hPl ⊢
  obtain ⟨vq1, vk1, vx1, vd1, rq1, rk1, rx1, rd1, S⟩ := W
  try simp (disch := (first | exact dA | fail)) only [e0, e6, go_sem, Nat.reduceBEq, Nat.reduceAdd, reduceIte]
  have S := by simpa only [mc0, mn0, List.getD_cons_zero, List.getD_cons_succ, ds0, dz0, ca0, na0] using Sp.sel S 9 [0, 5, 6, 1, 2, 3, 4, 7, 8] (by simp only [lc0]; omega) (by decide) (by decide)
  refine callA_of (l19Fresh_c S (Nat.le_trans hPc (by decide))) ?_
  clear S
  rintro r1 g1 ⟨vk2, rk2, S⟩
  have hkl := a2_len S 2 rfl
  have hql := a2_len S 4 rfl
  generalize freshK P.now P.cache = ck at S hkl ⊢
  have q0 := (S.bx 0 rfl).eq
  have s1 := S.slA 1 rfl
  have len_s1 := s1.lenF
  have z1 := s1.one
  try simp (disch := (first | exact dA | fail)) only [q0, len_s1, z1, e0, e6, hkl, go_sem, Nat.reduceBEq, Nat.reduceAdd, reduceIte]
  refine st1_of (Nat.le_of_ble_eq_true rfl) (by first | rfl | assumption) fun g2 hg => ?_
  have l_g2 := n_set hg
  have S := S.set0 hg
  clear hg
  simp only [sz0, ss0, ts0, tz0, ds0, dz0, ca0, na0, Nat.reduceAdd] at S
  have q0 := (S.bx 0 rfl).eq
  have s3 := S.slA 3 rfl
  have len_s3 := s3.lenF
  have z3 := s3.one
  try simp (disch := (first | exact dA | fail)) only [q0, len_s3, z3, e0, e6, hql, go_sem, Nat.reduceBEq, Nat.reduceAdd, reduceIte]
  refine st1_of (Nat.le_of_ble_eq_true rfl) (by first | rfl | assumption) fun g3 hg => ?_
  have l_g3 := n_set hg
  have S := S.set0 hg
  clear hg
  simp only [sz0, ss0, ts0, tz0, ds0, dz0, ca0, na0, Nat.reduceAdd] at S
  have x1 := (S.slA 5 rfl).one
  have x2 := (S.slA 7 rfl).one
  have q0 := (S.bx 0 rfl).eq
  have q9 := (S.bx 9 rfl).eq
  try simp (disch := (first | exact dA | fail)) only [q0, q9, e0, e6, x1, x2, go_sem, Nat.reduceBEq, Nat.reduceAdd, reduceIte]
  refine stw_of rfl rfl (by first | rfl | simp (disch := assumption) only [go_sem, cells_one, one_as]) fun g4 hg => ?_
  have l_g4 := n_set hg
  have S := S.set9 hg
  clear hg
  have q0 := (S.bx 0 rfl).eq
  have q9 := (S.bx 9 rfl).eq
  try simp (disch := (first | exact dA | fail)) only [q0, q9, e0, e6, x1, x2, go_sem, Nat.reduceBEq, Nat.reduceAdd, reduceIte]
  refine ⟨vx1, vd1, rx1, rd1, vq1, vk2, rq1, rk2, rfl, x2, x1, ?_⟩
  have S := by simpa only [mc0, mn0, List.getD_cons_zero, List.getD_cons_succ, ds0, dz0, ca0, na0] using Sp.sel S 11 [0, 3, 4, 1, 2, 7, 8, 5, 6] (by simp only [lc0]; omega) (by decide) (by decide)
  exact S
 simp only [CC.split]
 try simp (disch := (first | exact dA | fail)) only [y1, go_sem, Nat.reduceBEq, Nat.reduceAdd, reduceIte]
 refine Sp.bxA S (by first | rfl | (rw [cells_one (by assumption)]; rfl)) (by first | rfl | simp (disch := assumption) only [go_sem, cells_one, one_as]) fun p5 g1 S E_g1 l_g1 => ?_
 try simp (disch := (first | exact dA | fail)) only [y1, go_sem, Nat.reduceBEq, Nat.reduceAdd, reduceIte]
 refine Sp.zero S fun p6 g2 S E_g2 l_g2 => ?_
 have q2 := (S.bx 2 rfl).eq
 try simp (disch := (first | exact dA | fail)) only [q2, y1, go_sem, Nat.reduceBEq, Nat.reduceAdd, reduceIte]
 refine stp_of rfl (Nat.le_of_ble_eq_true rfl) (by first | rfl | simp (disch := assumption) only [go_sem, cells_one, one_as]) fun g3 hg => ?_
 have l_g3 := n_set hg
 have S := S.set2 hg
 clear hg
 simp only [sz0, ss0, ts0, tz0, ds0, dz0, ca0, na0, Nat.reduceAdd] at S
 have hv' : ∀ g, Sp g (box p6 outO0 :: box p5 (roO o vb) :: L) → SlR g 1 vs (intRows servers) := fun g S => hv g (S.dn 2)
 have W : WS g3 w vs first (rst st) 0 0 0 (box p6 outO0 :: box p5 (roO o vb) :: L) := by
  have S := ((((S.a2nil (R := dnR)).slNil (x := false) (el := 40) (sz := 3)).a2nil (R := sdR)).slNil (x := false) (el := 49) (sz := 2))
  have S := by simpa only [mc0, mn0, List.getD_cons_zero, List.getD_cons_succ, ds0, dz0, ca0, na0] using Sp.sel S 11 [6, 7, 8, 2, 3, 9, 10, 0, 1, 4, 5] (by simp only [lc0]; omega) (by decide) (by decide)
  exact ⟨vq, vk, .nilslice, .nilslice, rq, rk, [], [], S⟩
 clear S
 have hg := hi.g
 have hcx := hi.c
 have hax := hi.a
 have htx := hi.t
 have hnx := hi.n
 have hml := mu_le st.l
 obtain ⟨st0, hst0⟩ : ∃ st0, st0 = rst st := ⟨_, rfl⟩
 have q1 : st0.now = st.now := by rw [hst0]; rfl
 have q2 : st0.n = st.n := by rw [hst0]; rfl
 have q3 : st0.l = st.l := by rw [hst0]; rfl
 have q4 : st0.cache = st.cache := by rw [hst0]; rfl
 have q5 : st0.sent.length = 0 := by rw [hst0]; rfl
 have q6 : st0.done.length = 0 := by rw [hst0]; rfl
 rw [← hst0] at hg W
 rw [← hst0]
 rw [← q4] at hcx hax
 rw [← q3] at htx hml hnx
 rw [← q2] at hnx
 clear q1 q2 q3 q4 hst0 hi
 have l16 := hg.l
 have ht0 := hg.t0
 have hax' : ∀ k ∈ st0.cache, k.addrs.length ≤ 100 := fun k hk => Nat.le_trans (hax k hk) (by decide)
 obtain ⟨vq1, vk1, vx1, vd1, rq1, rk1, rx1, rd1, S⟩ := W
 by_cases hk1 : o.kind = 1
 ·have d1 : decide (o.kind = 1) = true := decide_eq_true hk1
  have q0 := (S.bx 0 rfl).eq
  have q9 := (S.bx 9 rfl).eq
  have q10 := (S.bx 10 rfl).eq
  try simp (disch := (first | exact dA | fail)) only [q0, q9, q10, d1, go_sem, Nat.reduceBEq, Nat.reduceAdd, reduceIte]
  refine callA_of (specNameOK_c g3 o.name hnl) ?_
  rintro r4 g4 ⟨rfl, E4⟩
  have S := S.ext E4
  cases hok : okName o.name
  ·have hP : stepP first servers ticket o st0 = (st0, 1) := by
    unfold stepP
    rw [if_neg (by rw [hok]; rintro ⟨_, h⟩; cases h), if_neg (by omega), if_neg (by omega)]
   have d2 : decide (o.kind = 2) = false := decide_eq_false (by omega)
   have d3 : decide (o.kind = 3) = false := decide_eq_false (by omega)
   rw [hP]
   have q0 := (S.bx 0 rfl).eq
   have q9 := (S.bx 9 rfl).eq
   have q10 := (S.bx 10 rfl).eq
   try simp (disch := (first | exact dA | fail)) only [q0, q9, q10, d1, d2, go_sem, Nat.reduceBEq, Nat.reduceAdd, reduceIte]
   refine test_of (fun hc => ?_) (fun hc => ?_)
   ·rw [d3] at hc; cases hc
   ·skip
    have q0 := (S.bx 0 rfl).eq
    try simp (disch := (first | exact dA | fail)) only [q0, y1, go_sem, Nat.reduceBEq, Nat.reduceAdd, reduceIte]
    refine st1_of (Nat.le_of_ble_eq_true rfl) (by first | rfl | assumption) fun g5 hg => ?_
    have l_g5 := n_set hg
    have S := S.set0 hg
    clear hg
    simp only [sz0, ss0, ts0, tz0, ds0, dz0, ca0, na0, Nat.reduceAdd] at S
    try simp (disch := (first | exact dA | fail)) only [go_sem, Nat.reduceBEq, Nat.reduceAdd, reduceIte]
    exact ⟨p5, p6, rfl, vq1, vk1, vx1, vd1, rq1, rk1, rx1, rd1, S⟩
  ·have hP : stepP first servers ticket o st0 = wantR first servers ticket o.name st0 := if_pos ⟨hk1, hok⟩
   have q0 := (S.bx 0 rfl).eq
   have q9 := (S.bx 9 rfl).eq
   have q10 := (S.bx 10 rfl).eq
   try simp (disch := (first | exact dA | fail)) only [q0, q9, q10, d1, go_sem, Nat.reduceBEq, Nat.reduceAdd, reduceIte]
   have W : WS g4 w vs first st0 0 0 0 (box p6 outO0 :: box p5 (roO o vb) :: L) := ⟨vq1, vk1, vx1, vd1, rq1, rk1, rx1, rd1, S⟩
   refine callA_of (l19Ask_c W hv' hg f0 f1 sv0 sv1 hok hcx hax' (by omega) (by omega) (by omega)) ?_
   clear S
   rw [hP]
   generalize wantR first servers ticket o.name st0 = P
   rintro r5 g5 ⟨rfl, vq2, vk2, vx2, vd2, rq2, rk2, rx2, rd2, S⟩
   have q0 := (S.bx 0 rfl).eq
   try simp (disch := (first | exact dA | fail)) only [q0, d1, go_sem, Nat.reduceBEq, Nat.reduceAdd, reduceIte]
   refine st1_of (Nat.le_of_ble_eq_true rfl) (by first | rfl | assumption) fun g6 hg => ?_
   have l_g6 := n_set hg
   have S := S.set0 hg
   clear hg
   simp only [sz0, ss0, ts0, tz0, ds0, dz0, ca0, na0, Nat.reduceAdd] at S
   try simp (disch := (first | exact dA | fail)) only [go_sem, Nat.reduceBEq, Nat.reduceAdd, reduceIte]
   exact ⟨p5, p6, rfl, vq2, vk2, vx2, vd2, rq2, rk2, rx2, rd2, S⟩
 ·have d1 : decide (o.kind = 1) = false := decide_eq_false hk1
  by_cases hk2 : o.kind = 2
  ·have hP : stepP first servers ticket o st0 = (hearR first servers o.from_ o.port o.bytes st0, 0) := by
    unfold stepP
    rw [if_neg (by omega), if_pos hk2]
   have d2 : decide (o.kind = 2) = true := decide_eq_true hk2
   have q0 := (S.bx 0 rfl).eq
   have q9 := (S.bx 9 rfl).eq
   have q10 := (S.bx 10 rfl).eq
   try simp (disch := (first | exact dA | fail)) only [q0, q9, q10, d1, d2, y1, go_sem, Nat.reduceBEq, Nat.reduceAdd, reduceIte]
   have W : WS g3 w vs first st0 0 0 0 (box p6 outO0 :: box p5 (roO o vb) :: L) := ⟨vq1, vk1, vx1, vd1, rq1, rk1, rx1, rd1, S⟩
   refine callA_of (l19Hear_c W hv' (fun g S => hvb g (S.dn 2)) hbl hg f0 f1 sv0 sv1 hcx (by omega) (by omega) (by omega)) ?_
   clear S
   rw [hP]
   generalize hearR first servers o.from_ o.port o.bytes st0 = P
   rintro r5 g5 W
   try simp (disch := (first | exact dA | fail)) only [go_sem, Nat.reduceBEq, Nat.reduceAdd, reduceIte]
   exact ⟨p5, p6, rfl, W⟩
  ·have d2 : decide (o.kind = 2) = false := decide_eq_false hk2
   have w1 : wr .i64 (1000000000 - st0.now) = 1000000000 - st0.now := wr64 _ (by have := hg.t1; omega)
   have q0 := (S.bx 0 rfl).eq
   have q9 := (S.bx 9 rfl).eq
   have q10 := (S.bx 10 rfl).eq
   try simp (disch := (first | exact dA | fail)) only [q0, q9, q10, d1, d2, y1, w1, go_sem, Nat.reduceBEq, Nat.reduceAdd, reduceIte]
   refine test_of (fun hc => ?_) (fun hc => ?_)
   ·have hc' : o.kind = 3 ∧ 0 ≤ o.wait ∧ o.wait ≤ 1000000000 - st0.now := by
     simp only [Bool.and_eq_true, decide_eq_true_eq] at hc
     exact ⟨hc.1.1, hc.1.2, hc.2⟩
    have hP : stepP first servers ticket o st0 = (passR first servers (st0.now + o.wait) (mu st0.l) st0, 0) := by
     unfold stepP
     rw [if_neg (by omega), if_neg hk2, if_pos hc']
    have q0 := (S.bx 0 rfl).eq
    have q9 := (S.bx 9 rfl).eq
    have q10 := (S.bx 10 rfl).eq
    try simp (disch := (first | exact dA | fail)) only [q0, q9, q10, y1, go_sem, Nat.reduceBEq, Nat.reduceAdd, reduceIte]
    have W : WS g3 w vs first st0 0 0 0 (box p6 outO0 :: box p5 (roO o vb) :: L) := ⟨vq1, vk1, vx1, vd1, rq1, rk1, rx1, rd1, S⟩
    refine callA_of (l19Pass_c W hv' hg f0 f1 sv0 sv1 o.wait hc'.2.1 hc'.2.2) ?_
    clear S
    rw [hP]
    generalize passR first servers (st0.now + o.wait) (mu st0.l) st0 = P
    rintro r5 g5 W
    try simp (disch := (first | exact dA | fail)) only [go_sem, Nat.reduceBEq, Nat.reduceAdd, reduceIte]
    exact ⟨p5, p6, rfl, W⟩
   ·have hc' : ¬ (o.kind = 3 ∧ 0 ≤ o.wait ∧ o.wait ≤ 1000000000 - st0.now) := by
     rintro ⟨h1, h2, h3⟩
     rw [decide_eq_true h1, decide_eq_true h2, decide_eq_true h3] at hc
     cases hc
    have hP : stepP first servers ticket o st0 = (st0, 1) := by
     unfold stepP
     rw [if_neg (by omega), if_neg hk2, if_neg hc']
    rw [hP]
    have q0 := (S.bx 0 rfl).eq
    try simp (disch := (first | exact dA | fail)) only [q0, y1, go_sem, Nat.reduceBEq, Nat.reduceAdd, reduceIte]
    refine st1_of (Nat.le_of_ble_eq_true rfl) (by first | rfl | assumption) fun g4 hg => ?_
    have l_g4 := n_set hg
    have S := S.set0 hg
    clear hg
    simp only [sz0, ss0, ts0, tz0, ds0, dz0, ca0, na0, Nat.reduceAdd] at S
    try simp (disch := (first | exact dA | fail)) only [go_sem, Nat.reduceBEq, Nat.reduceAdd, reduceIte]
    exact ⟨p5, p6, rfl, vq1, vk1, vx1, vd1, rq1, rk1, rx1, rd1, S⟩
end
end Go.Proofs.YtaoffieemecioaaDoor



set_option maxRecDepth 20000
namespace Go.Proofs.YtaoffieemecioaaDoor
open Go Go.IW
section
attribute [local go_sem] List.getElem?_cons_zero List.getElem?_cons_succ Option.bind_some List.map_cons List.map_nil Nat.zero_add if_true List.getD_cons_zero List.getD_cons_succ List.contains_cons List.contains_nil Bool.or_true Bool.true_or Bool.or_false Bool.false_or Bool.not_true Bool.not_false true_and and_true rowA_whole mid_get rowO_rows cellO_rows upd_ne Nat.add_assoc Nat.add_zero List.all_cons List.all_nil one_bool one_int one_str one_ptr one_nilptr one_slice one_eslice one_nilslice one_func one_iface one_niliface Bool.and_true Bool.and_self List.length_cons List.length_nil Nat.one_ne_zero Nat.succ_ne_zero if_false List.set_cons_zero List.set_cons_succ lay_nil lay_1 lay_w Option.map_some cells_one rowA_some List.drop_succ_cons List.drop_zero List.take_succ_cons List.take_zero

def kiRow (k : Kn) (va : IV) : List IV := [.str k.name, .int .i64 k.till, .int .i64 k.code, va]
def kiR (r : List IV) (k : Kn) : As := exA fun va : IV => stars (fact (r = kiRow k va ∧ va.one = true)) (ints va k.addrs)
abbrev quO (q : Qn) (vt : IV) : IObj := .rows [[.str q.name, vt, .int .i64 q.asks, .int .i64 q.id, .int .i64 q.server, .int .i64 q.due]] 88 6 false
def quR (r : List IV) (q : Qn) : As := exA fun v : Nat × IV => stars (fact (r = [.ptr v.1 0 0] ∧ v.2.one = true)) (stars (box v.1 (quO q v.2)) (ints v.2 q.tickets))
abbrev rsO (vs : IV) (first now ops n : Int) (vl vc vx vd : IV) : IObj := .rows [[vs, .int .i64 first, .int .i64 now, .int .i64 ops, .int .i64 n, vl, vc, vx, vd]] 84 9 false
theorem ki_at {h : IH} {L : List As} {rs : List (List IV)} {ks : List Kn} (S : Sp h L) (j : Nat) (hj : L[j]? = some (all2 kiR rs ks)) {i : Nat} {k : Kn} (hi : ks[i]? = some k) : ∃ va, rs[i]? = some (kiRow k va) ∧ SlR h 1 va (intRows k.addrs) := by
 obtain ⟨f, hf⟩ := S.part j hj
 obtain ⟨r, f', h1, va, f1, f2, _, ⟨_, rfl, h4⟩, h6⟩ := all2_at hf hi
 refine ⟨va, h1, ?_⟩
 rcases h6 with ⟨h4, _, h5 | h5⟩ | ⟨l, h0, h5, _, h8, h9⟩
 ·rw [h4, h5]; exact SlR.nil _ _
 ·rw [h4, h5]; exact SlR.empty _ _ _
 ·rw [h5]; exact SlR.whole h9 rfl h8
theorem ki_un {h : IH} {L : List As} {k : Kn} {va : IV} (S : Sp h (ints va k.addrs :: L)) (h1 : va.one = true) : Sp h (kiR (kiRow k va) k :: L) := by
 have S := S.unfact (p := kiRow k va = kiRow k va ∧ va.one = true) ⟨rfl, h1⟩
 exact Sp.unex (F := fun v : IV => stars (fact (kiRow k va = kiRow k v ∧ v.one = true)) (ints v k.addrs)) va S.unstar
theorem qu_at {h : IH} {L : List As} {rs : List (List IV)} {qs : List Qn} (S : Sp h L) (j : Nat) (hj : L[j]? = some (all2 quR rs qs)) {i : Nat} {q : Qn} (hi : qs[i]? = some q) : ∃ p vt, rs[i]? = some [.ptr p 0 0] ∧ At h p (quO q vt) ∧ vt.one = true := by
 obtain ⟨f, hf⟩ := S.part j hj
 obtain ⟨r, f', h1, ⟨p, vt⟩, f1, f2, _, ⟨_, rfl, h4⟩, g1, g2, _, ⟨_, h5, h6⟩, _⟩ := all2_at hf hi
 exact ⟨p, vt, h1, ⟨h5, h6⟩, h4⟩
theorem qu_open {h : IH} {L : List As} {r : List IV} {q : Qn} (S : Sp h (quR r q :: L)) : ∃ p vt, r = [.ptr p 0 0] ∧ vt.one = true ∧ Sp h (box p (quO q vt) :: ints vt q.tickets :: L) := by
 obtain ⟨⟨p, vt⟩, S⟩ := S.ex
 obtain ⟨⟨h1, h2⟩, S⟩ := S.star.fact
 exact ⟨p, vt, h1, h2, S.star⟩
theorem qu_un {h : IH} {L : List As} {q : Qn} {p : Nat} {vt : IV} (S : Sp h (box p (quO q vt) :: ints vt q.tickets :: L)) (h1 : vt.one = true) : Sp h (quR [.ptr p 0 0] q :: L) := by
 have S := S.unstar.unfact (p := [IV.ptr p 0 0] = [.ptr p 0 0] ∧ vt.one = true) ⟨rfl, h1⟩
 exact Sp.unex (F := fun v : Nat × IV => stars (fact ([IV.ptr p 0 0] = [.ptr v.1 0 0] ∧ v.2.one = true)) (stars (box v.1 (quO q v.2)) (ints v.2 q.tickets))) (p, vt) S.unstar
theorem qu_focus {h : IH} {L : List As} {rs : List (List IV)} {qs : List Qn} {i p : Nat} {q : Qn} (S : Sp h (all2 quR rs qs :: L)) (hq : qs[i]? = some q) (hr : rs[i]? = some [.ptr p 0 0]) :
  ∃ a1 b1 x1 y1 vt, rs = a1 ++ [.ptr p 0 0] :: b1 ∧ qs = x1 ++ q :: y1 ∧ a1.length = i ∧ x1.length = i ∧ vt.one = true ∧ Sp h (box p (quO q vt) :: ints vt q.tickets :: all2 quR a1 x1 :: all2 quR b1 y1 :: L) := by
 obtain ⟨a1, r, b1, x1, y1, e1, e2, l1, l2, S2⟩ := S.a2at hq
 have hrr : r = [.ptr p 0 0] := by
  rw [e1, List.getElem?_append_right (by omega), l1, Nat.sub_self] at hr
  simpa using hr
 obtain ⟨p', vt, h1, h2, S3⟩ := qu_open S2
 rw [hrr] at h1 e1
 obtain rfl : p = p' := by simpa using h1
 exact ⟨a1, b1, x1, y1, vt, e1, e2, l1, l2, h2, S3⟩
theorem qu_back {h : IH} {L : List As} {a1 b1 : List (List IV)} {x1 y1 : List Qn} {p : Nat} {q : Qn} {vt : IV} (S : Sp h (box p (quO q vt) :: ints vt q.tickets :: all2 quR a1 x1 :: all2 quR b1 y1 :: L)) (h1 : vt.one = true) :
  Sp h (all2 quR (a1 ++ [.ptr p 0 0] :: b1) (x1 ++ q :: y1) :: L) := (qu_un S h1).a2mid
def oldK (now : Int) (x : List IV) : Bool := match x with | [_, .int _ t, _, _] => decide (t ≤ now) | _ => false
theorem ki_map {h : IH} {now : Int} : ∀ {rs : List (List IV)} {ks : List Kn} {f : List Nat}, (all2 kiR rs ks).P h f → rs.map (fun y => !oldK now y) = ks.map (fun k => decide (now < k.till)) ∧ ∀ r ∈ rs, ∃ k va, k ∈ ks ∧ r = kiRow k va ∧ va.one = true
 | [], [], _, _ => ⟨rfl, by simp⟩
 | r :: rs, k :: ks, _, ⟨f1, f2, _, ⟨va, _, _, _, ⟨_, h1, h2⟩, _⟩, h3⟩ => by
  obtain ⟨a, b⟩ := ki_map (now := now) h3
  subst h1
  refine ⟨?_, ?_⟩
  ·rw [mc0, mc0, a]
   congr 1
   simp only [kiRow, oldK]
   rw [← decide_not]
   exact decide_eq_decide.2 (by omega)
  ·intro r hr
   rcases List.mem_cons.1 hr with rfl | hr
   ·exact ⟨k, va, List.mem_cons_self, rfl, h2⟩
   ·obtain ⟨k', va', h1, h2, h3⟩ := b r hr
    exact ⟨k', va', List.mem_cons_of_mem _ h1, h2, h3⟩
 | [], _ :: _, _, h => h.2.elim
 | _ :: _, [], _, h => h.2.elim
theorem clean1_c {g : IH} {p r : Nat} {vs vl vc vx vd va : IV} {first now ops n : Int} {k : Kn} (b : At g p (.rows [[.ptr r 0 0]] 75 1 false)) (br : At g r (rsO vs first now ops n vl vc vx vd)) (z : va.one = true) :
  ICalls Tryd.prog 78 [.agg (kiRow k va), .ptr p 0 0] g fun x g' => x = .bool (oldK now (kiRow k va)) ∧ Ext g g' := by
 refine icalls (.of ok78) (Nat.le_of_ble_eq_true rfl) ?_
 unfold c78 kiRow oldK
 have S := Sp.start g
 try simp (disch := (first | exact dA | fail)) only [z, go_sem, Nat.reduceBEq, Nat.reduceAdd, reduceIte]
 refine Sp.bxA S (by first | rfl | (rw [cells_one (by assumption)]; rfl)) (by first | rfl | simp (disch := assumption) only [go_sem, cells_one, one_as]) fun p5 g1 S E_g1 l_g1 => ?_
 have b1 := (b.ext E_g1).eq
 have b2 := (br.ext E_g1).eq
 have q0 := (S.bx 0 rfl).eq
 try simp (disch := (first | exact dA | fail)) only [q0, b1, b2, go_sem, Nat.reduceBEq, Nat.reduceAdd, reduceIte]
 exact E_g1
set_option maxHeartbeats 1000000 in
theorem clean_c {h : IH} {L : List As} {r : Nat} {vs vl vc vx vd : IV} {first now ops n : Int} {rc : List (List IV)} {ks : List Kn}
  (S : Sp h (box r (rsO vs first now ops n vl vc vx vd) :: sl true 111 4 vc rc :: all2 kiR rc ks :: L)) (hm : ks.length ≤ 1000000) :
  ICalls Tryd.prog 52 [.ptr r 0 0] h fun x h' => ∃ vc' rc', Sp h' (box r (rsO vs first now ops n vl vc' vx vd) :: sl true 111 4 vc' rc' :: all2 kiR rc' (freshK now ks) :: L) := by
 refine icalls (.of ok52) (Nat.le_of_ble_eq_true rfl) ?_
 unfold c52
 have hrl := a2_len S 2 rfl
 try simp (disch := (first | exact dA | fail)) only [go_sem, Nat.reduceBEq, Nat.reduceAdd, reduceIte]
 refine Sp.bxA S (by first | rfl | (rw [cells_one (by assumption)]; rfl)) (by first | rfl | simp (disch := assumption) only [go_sem, cells_one, one_as]) fun p1 g1 S E_g1 l_g1 => ?_
 have q0 := (S.bx 0 rfl).eq
 have q1 := (S.bx 1 rfl).eq
 try simp (disch := (first | exact dA | fail)) only [q0, q1, go_sem, Nat.reduceBEq, Nat.reduceAdd, reduceIte]
 have hsl := S.slA 2 rfl
 refine callA_of (cloneK_c S vc rc hsl (by omega)) ?_
 clear S hsl
 rintro v2 g2 ⟨y2, S⟩
 have q1 := (S.bx 1 rfl).eq
 have q2 := (S.bx 2 rfl).eq
 try simp (disch := (first | exact dA | fail)) only [q1, q2, y2, go_sem, Nat.reduceBEq, Nat.reduceAdd, reduceIte]
 obtain ⟨f, hf⟩ := S.part 4 rfl
 obtain ⟨hmap, hrows⟩ := ki_map (now := now) hf
 refine callA_of (deleteK_c v2 rc S (by omega) 78 [.ptr p1 0 0] (oldK now) ?_ ?_) ?_
 ·intro x hx
  obtain ⟨k, va, _, rfl, h3⟩ := hrows x hx
  exact ⟨rfl, by simp only [kiRow, List.all_cons, List.all_nil, one_str, one_int, h3, Bool.and_self]⟩
 ·intro g S x hx
  obtain ⟨k, va, _, rfl, h3⟩ := hrows x hx
  exact clean1_c (S.bx 0 rfl) (S.bx 1 rfl) h3
 clear S
 rintro v3 g3 ⟨y3, S⟩
 have q1 := (S.bx 1 rfl).eq
 have q2 := (S.bx 2 rfl).eq
 try simp (disch := (first | exact dA | fail)) only [q1, q2, y3, go_sem, Nat.reduceBEq, Nat.reduceAdd, reduceIte]
 refine st1_of (Nat.le_of_ble_eq_true rfl) (by first | rfl | assumption) fun g4 hg => ?_
 have l_g4 := n_set hg
 have S := S.set2 hg
 clear hg
 simp only [sz0, ss0, ts0, tz0, ds0, dz0, ca0, na0, Nat.reduceAdd] at S
 try simp (disch := (first | exact dA | fail)) only [go_sem, Nat.reduceBEq, Nat.reduceAdd, reduceIte]
 rw [← sel_filter, hmap] at S
 have S := by simpa only [mc0, mn0, List.getD_cons_zero, List.getD_cons_succ, ds0, dz0, ca0, na0] using Sp.sel S 5 [4, 2, 0] (by simp only [lc0]; omega) (by decide) (by decide)
 have S := S.a2sel (ks.map fun x => decide (now < x.till))
 rw [sel_filter] at S
 have S := by simpa only [mc0, mn0, List.getD_cons_zero, List.getD_cons_succ, ds0, dz0, ca0, na0] using Sp.sel S 3 [1, 2, 0] (by simp only [lc0]; omega) (by decide) (by decide)
 exact ⟨v3, _, S⟩
end
end Go.Proofs.YtaoffieemecioaaDoor



set_option maxRecDepth 20000
namespace Go.Proofs.YtaoffieemecioaaDoor
open Go Go.IW
section
attribute [local go_sem] List.getElem?_cons_zero List.getElem?_cons_succ Option.bind_some List.map_cons List.map_nil Nat.zero_add if_true List.getD_cons_zero List.getD_cons_succ List.contains_cons List.contains_nil Bool.or_true Bool.true_or Bool.or_false Bool.false_or Bool.not_true Bool.not_false true_and and_true rowA_whole mid_get rowO_rows cellO_rows upd_ne Nat.add_assoc Nat.add_zero List.all_cons List.all_nil one_bool one_int one_str one_ptr one_nilptr one_slice one_eslice one_nilslice one_func one_iface one_niliface Bool.and_true Bool.and_self List.length_cons List.length_nil Nat.one_ne_zero Nat.succ_ne_zero if_false List.set_cons_zero List.set_cons_succ lay_nil lay_1 lay_w Option.map_some cells_one rowA_some List.drop_succ_cons List.drop_zero List.take_succ_cons List.take_zero

def nextN (qs : List Qn) : Nat → Option Nat
 | 0 => none
 | k + 1 => match qs[k]? with
  | none => nextN qs k
  | some q => match nextN qs k with
   | none => some k
   | some b => if q.due < dueOf qs b then some k else some b
theorem nextN_lt {qs : List Qn} : ∀ {k b : Nat}, nextN qs k = some b → b < k ∧ b < qs.length
 | 0, b, h => by cases h
 | k + 1, b, h => by
  unfold nextN at h
  split at h
  ·have := nextN_lt h; omega
  ·rename_i q hq
   have hk := (List.getElem?_eq_some_iff.1 hq).1
   split at h
   ·cases h; omega
   ·rename_i b' hb'
    have := nextN_lt hb'
    split at h
    ·cases h; omega
    ·cases h; omega
theorem nextN_due (e : Int) (qs : List Qn) : ∀ k : Nat, dueN e qs k = match nextN qs k with | none => none | some b => if dueOf qs b ≤ e then some b else none
 | 0 => rfl
 | k + 1 => by
  have ih := nextN_due e qs k
  unfold dueN nextN
  cases hq : qs[k]? with
  | none => simp only [ih]
  | some q =>
   have hd : dueOf qs k = q.due := by unfold dueOf; rw [hq]
   simp only
   rw [ih]
   cases hn : nextN qs k with
   | none => simp only [hd]
   | some b =>
    simp only
    by_cases h1 : dueOf qs b ≤ e
    ·rw [if_pos h1]
     simp only
     by_cases h2 : q.due < dueOf qs b
     ·rw [if_pos ⟨by omega, h2⟩, if_pos h2]
      simp only [hd]
      rw [if_pos (by omega)]
     ·rw [if_neg (fun h => h2 h.2), if_neg h2]
      simp only [if_pos h1]
    ·rw [if_neg h1]
     simp only
     by_cases h2 : q.due < dueOf qs b
     ·rw [if_pos h2]
      simp only [hd]
     ·rw [if_neg h2, if_neg (by omega)]
      simp only [if_neg h1]
def ptrOf (rl : List (List IV)) : Option Nat → IV
 | none => .nilptr
 | some b => match rl[b]? with | some [v] => v | _ => .nilptr
theorem ptrOf_some {rl : List (List IV)} {b : Nat} {v : IV} (h : rl[b]? = some [v]) : ptrOf rl (some b) = v := by
 simp only [ptrOf, h]
set_option maxHeartbeats 1000000 in
theorem next_c {h : IH} {L : List As} {r : Nat} {vs vl vc vx vd : IV} {first now ops n : Int} {rl : List (List IV)} {qs : List Qn}
  (S : Sp h (box r (rsO vs first now ops n vl vc vx vd) :: sl true 85 1 vl rl :: all2 quR rl qs :: L)) (hm : qs.length ≤ 1000000) :
  ICalls Tryd.prog 28 [.ptr r 0 0] h fun x h' => x = ptrOf rl (nextN qs qs.length) ∧ h' = h := by
 refine icalls (.of ok28) (Nat.le_of_ble_eq_true rfl) ?_
 unfold c28
 have hrl := a2_len S 2 rfl
 have b1 : (true != false) = true := rfl
 have b2 : (false != false) = false := rfl
 have q0 := (S.bx 0 rfl).eq
 have s1 := S.slA 1 rfl
 have len_s1 := s1.lenF
 have z1 := s1.one
 try simp (disch := (first | exact dA | fail)) only [q0, len_s1, z1, hrl, go_sem, Nat.reduceBEq, Nat.reduceAdd, reduceIte]
 refine loop_at (fun m e g => ∃ k : Nat, m = qs.length - k ∧ k ≤ qs.length ∧ e 3 = ptrOf rl (nextN qs k) ∧ e 9 = vl ∧ e 10 = .int .i64 (qs.length : Nat) ∧ e 11 = .int .i64 (k : Nat) ∧ g = h) qs.length ?_ ?_
 ·refine ⟨0, by omega, by omega, ?_⟩
  try simp (disch := (first | exact dA | fail)) only [go_sem, Nat.reduceBEq, Nat.reduceAdd, reduceIte]
  exact ⟨rfl, rfl⟩
 ·rintro m e g ⟨k, rfl, hk, e3, e9, e10, e11, rfl⟩
  try simp (disch := (first | exact dA | fail)) only [e3, e9, e10, e11, go_sem, Nat.reduceBEq, Nat.reduceAdd, reduceIte]
  refine test_dec (fun hb => ?_) (fun hb => ?_)
  ·obtain ⟨x, hx⟩ : ∃ x, qs[k]? = some x := ⟨_, List.getElem?_eq_getElem (by omega : k < qs.length)⟩
   obtain ⟨p, vt, hrow, hbx, hv1⟩ := qu_at S 2 rfl hx
   obtain ⟨l, j, hia, hll, har⟩ := (S.slA 1 rfl).at hrow .i64
   have hc := cellO_row har
   have hq := hbx.eq
   have w1 : wr .i64 ((k : Int) + 1) = ((k + 1 : Nat) : Int) := by rw [wr64 _ (by omega)]; rfl
   cases hbest : nextN qs k with
   | none =>
    have hn : nextN qs (k + 1) = some k := by
     show (match qs[k]? with | none => nextN qs k | some q => _) = _
     rw [hx]
     simp only [hbest]
    have hp : ptrOf rl (nextN qs (k + 1)) = .ptr p 0 0 := by rw [hn]; exact ptrOf_some hrow
    rw [hbest] at e3
    have e3' : e 3 = .nilptr := e3
    try simp (disch := (first | exact dA | fail)) only [e3', e9, e10, e11, hia, hc, hq, w1, b1, go_sem, Nat.reduceBEq, Nat.reduceAdd, reduceIte]
    exact ⟨qs.length - (k + 1), by omega, k + 1, rfl, by omega, hp.symm, rfl⟩
   | some b =>
    obtain ⟨hb1, hb2⟩ := nextN_lt hbest
    obtain ⟨y, hy⟩ : ∃ y, qs[b]? = some y := ⟨_, List.getElem?_eq_getElem hb2⟩
    obtain ⟨p2, vt2, hrow2, hbx2, hv2⟩ := qu_at S 2 rfl hy
    have hq2 := hbx2.eq
    have hd : dueOf qs b = y.due := by unfold dueOf; rw [hy]
    have hn : nextN qs (k + 1) = if x.due < y.due then some k else some b := by
     show (match qs[k]? with | none => nextN qs k | some q => _) = _
     rw [hx]
     simp only [hbest, hd]
    rw [hbest] at e3
    have e3' : e 3 = .ptr p2 0 0 := by rw [e3]; exact ptrOf_some hrow2
    try simp (disch := (first | exact dA | fail)) only [e3', e9, e10, e11, hia, hc, hq, hq2, w1, b2, go_sem, Nat.reduceBEq, Nat.reduceAdd, reduceIte]
    refine test_dec (fun ht => ?_) (fun ht => ?_)
    ·rw [if_pos ht] at hn
     have hp : ptrOf rl (nextN qs (k + 1)) = .ptr p 0 0 := by rw [hn]; exact ptrOf_some hrow
     try simp (disch := (first | exact dA | fail)) only [e3', e9, e10, e11, w1, go_sem, Nat.reduceBEq, Nat.reduceAdd, reduceIte]
     exact ⟨qs.length - (k + 1), by omega, k + 1, rfl, by omega, hp.symm, rfl⟩
    ·rw [if_neg ht] at hn
     have hp : ptrOf rl (nextN qs (k + 1)) = .ptr p2 0 0 := by rw [hn]; exact ptrOf_some hrow2
     try simp (disch := (first | exact dA | fail)) only [e3', e9, e10, e11, w1, go_sem, Nat.reduceBEq, Nat.reduceAdd, reduceIte]
     exact ⟨qs.length - (k + 1), by omega, k + 1, rfl, by omega, hp.symm, rfl⟩
  ·have hk2 : k = qs.length := by omega
   subst hk2
   try simp (disch := (first | exact dA | fail)) only [e3, e9, e10, e11, go_sem, Nat.reduceBEq, Nat.reduceAdd, reduceIte]
end
end Go.Proofs.YtaoffieemecioaaDoor



set_option maxRecDepth 20000
namespace Go.Proofs.YtaoffieemecioaaDoor
open Go Go.IW
section
attribute [local go_sem] List.getElem?_cons_zero List.getElem?_cons_succ Option.bind_some List.map_cons List.map_nil Nat.zero_add if_true List.getD_cons_zero List.getD_cons_succ List.contains_cons List.contains_nil Bool.or_true Bool.true_or Bool.or_false Bool.false_or Bool.not_true Bool.not_false true_and and_true rowA_whole mid_get rowO_rows cellO_rows upd_ne Nat.add_assoc Nat.add_zero List.all_cons List.all_nil one_bool one_int one_str one_ptr one_nilptr one_slice one_eslice one_nilslice one_func one_iface one_niliface Bool.and_true Bool.and_self List.length_cons List.length_nil Nat.one_ne_zero Nat.succ_ne_zero if_false List.set_cons_zero List.set_cons_succ lay_nil lay_1 lay_w Option.map_some cells_one rowA_some List.drop_succ_cons List.drop_zero List.take_succ_cons List.take_zero

def isP (p : Nat) (x : List IV) : Bool := match x with | [.ptr l _ _] => decide (l = p) | _ => false
theorem isP_ne {h : IH} {L : List As} {p : Nat} {o : IObj} {rs : List (List IV)} {qs : List Qn} (S : Sp h (box p o :: all2 quR rs qs :: L)) : ∀ r ∈ rs, isP p r = false := by
 intro r hr
 obtain ⟨j, hj⟩ := List.getElem?_of_mem hr
 have hl := S.p1.a2len
 have hjl := (List.getElem?_eq_some_iff.1 hj).1
 obtain ⟨a1, r', b1, x1, y1, e1, e2, l1, l2, S2⟩ := S.p1.a2at (List.getElem?_eq_getElem (by omega : j < qs.length))
 have hrr : r = r' := by
  rw [e1, List.getElem?_append_right (by omega), l1, Nat.sub_self] at hj
  simpa using hj.symm
 obtain ⟨p', vt, h1, h2, S3⟩ := qu_open S2
 have hne : p' ≠ p := S3.nb 0 4 rfl rfl (by decide)
 rw [hrr, h1]
 exact decide_eq_false hne
theorem isP_filter {h : IH} {L : List As} {i p : Nat} {q : Qn} {rs : List (List IV)} {qs : List Qn} (S : Sp h (all2 quR rs qs :: L)) (hq : qs[i]? = some q) (hr : rs[i]? = some [.ptr p 0 0]) : rs.filter (fun y => !isP p y) = rs.eraseIdx i := by
 obtain ⟨a1, b1, x1, y1, vt, e1, e2, l1, l2, hv, S⟩ := qu_focus S hq hr
 have f1 : ∀ r ∈ a1, isP p r = false := by
  have S := by simpa only [mc0, mn0, List.getD_cons_zero, List.getD_cons_succ, ds0, dz0, ca0, na0] using Sp.sel S 4 [0, 2, 1, 3] (by simp only [lc0]; omega) (by decide) (by decide)
  exact isP_ne S
 have f2 : ∀ r ∈ b1, isP p r = false := by
  have S := by simpa only [mc0, mn0, List.getD_cons_zero, List.getD_cons_succ, ds0, dz0, ca0, na0] using Sp.sel S 4 [0, 3, 1, 2] (by simp only [lc0]; omega) (by decide) (by decide)
  exact isP_ne S
 rw [e1, List.eraseIdx_append_of_length_le (by omega), l1, Nat.sub_self, List.filter_append, List.filter_cons]
 have f3 : isP p [IV.ptr p 0 0] = true := decide_eq_true rfl
 rw [f3, List.filter_eq_self.2 (fun r hr => by rw [f1 r hr]; rfl), List.filter_eq_self.2 (fun r hr => by rw [f2 r hr]; rfl)]
 rfl
theorem ends1_c {g : IH} {p5 p p' : Nat} {q q' : Qn} {vt vt' : IV} (b : At g p5 (.rows [[.ptr p 0 0]] 85 1 false)) (bp : At g p (quO q vt)) (bp' : At g p' (quO q' vt')) :
  ICalls Tryd.prog 76 [.ptr p' 0 0, .ptr p5 0 0] g fun x g' => x = .bool (isP p [.ptr p' 0 0]) ∧ Ext g g' := by
 refine icalls (.of ok76) (Nat.le_of_ble_eq_true rfl) ?_
 unfold c76 isP
 have b1 := b.eq
 by_cases hp : p' = p
 ·subst hp
  have hu := ueval_peq g false p' 0 0
  have t1 : (true != false) = true := rfl
  have d1 : decide (p' = p') = true := decide_eq_true rfl
  try simp (disch := (first | exact dA | fail)) only [b1, hu, t1, d1, go_sem, Nat.reduceBEq, Nat.reduceAdd, reduceIte]
  exact ⟨rfl, Ext.refl _⟩
 ·have hu := ueval_pne (h := g) (g := false) (i := 0) (k := 0) (i' := 0) (k' := 0) hp (by rw [bp'.eq]; rfl) (by rw [bp.eq]; rfl)
  have t1 : (false != false) = false := rfl
  have d1 : decide (p' = p) = false := decide_eq_false hp
  try simp (disch := (first | exact dA | fail)) only [b1, hu, t1, d1, go_sem, Nat.reduceBEq, Nat.reduceAdd, reduceIte]
  exact Ext.refl _
theorem qu_rows {h : IH} : ∀ {rs : List (List IV)} {qs : List Qn} {f : List Nat}, (all2 quR rs qs).P h f → ∀ r ∈ rs, ∃ p q vt, r = [.ptr p 0 0] ∧ At h p (quO q vt)
 | [], [], _, _ => by simp
 | r :: rs, q :: qs, _, ⟨f1, f2, _, ⟨⟨p, vt⟩, _, _, _, ⟨_, h1, h2⟩, _, _, _, ⟨_, h5, h6⟩, _⟩, h3⟩ => by
  intro x hx
  rcases List.mem_cons.1 hx with rfl | hx
  ·exact ⟨p, q, vt, h1, ⟨h5, h6⟩⟩
  ·exact qu_rows h3 x hx
 | [], _ :: _, _, h => h.2.elim
 | _ :: _, [], _, h => h.2.elim
set_option maxHeartbeats 2000000 in
theorem ends_c {h : IH} {L : List As} {r p : Nat} {vs vl vc vx vd va : IV} {first now ops n code : Int} {rl rd : List (List IV)} {qs : List Qn} {ds : List Dn} {zs : List Int} {i : Nat} {q : Qn}
  (S : Sp h (box r (rsO vs first now ops n vl vc vx vd) :: sl true 85 1 vl rl :: all2 quR rl qs :: sl false 40 3 vd rd :: all2 dnR rd ds :: L))
  (ha : ∀ g, Sp g L → SlR g 1 va (intRows zs)) (hq : qs[i]? = some q) (hr : rl[i]? = some [.ptr p 0 0]) (hm : qs.length ≤ 1000000) (hd : ds.length + q.tickets.length ≤ 1000000) (hz : zs.length ≤ 1000000) :
  ICalls Tryd.prog 51 [.ptr r 0 0, .ptr p 0 0, .int .i64 code, va] h fun x h' => ∃ vl' vd' rl' rd', Sp h' (box r (rsO vs first now ops n vl' vc vx vd') :: sl true 85 1 vl' rl' :: all2 quR rl' (qs.eraseIdx i) :: sl false 40 3 vd' rd' :: all2 dnR rd' (ds ++ endD code zs q.tickets) :: L) := by
 refine icalls (.of ok51) (Nat.le_of_ble_eq_true rfl) ?_
 unfold c51
 have hrl := a2_len S 2 rfl
 have hdl := a2_len S 4 rfl
 have hva := (ha h (S.dn 5)).one
 have hvd1 := (S.slA 3 rfl).one
 have S := by simpa only [mc0, mn0, List.getD_cons_zero, List.getD_cons_succ, ds0, dz0, ca0, na0] using Sp.sel S 5 [2, 0, 1, 3, 4] (by simp only [lc0]; omega) (by decide) (by decide)
 obtain ⟨a1, b1, x1, y1, vt, eA, eB, lA, lB, hv1, S⟩ := qu_focus S hq hr
 try simp (disch := (first | exact dA | fail)) only [go_sem, Nat.reduceBEq, Nat.reduceAdd, reduceIte]
 refine Sp.bxA S (by first | rfl | (rw [cells_one (by assumption)]; rfl)) (by first | rfl | simp (disch := assumption) only [go_sem, cells_one, one_as]) fun p5 g1 S E_g1 l_g1 => ?_
 unfold ints at S
 have htl := (S.slA 2 rfl).lenF
 rw [intRows_len] at htl
 have q0 := (S.bx 0 rfl).eq
 have q1 := (S.bx 1 rfl).eq
 try simp (disch := (first | exact dA | fail)) only [q0, q1, htl, go_sem, Nat.reduceBEq, Nat.reduceAdd, reduceIte]
 refine loop_at (fun m e g => ∃ (k : Nat) (vd' : IV) (rd' : List (List IV)), m = q.tickets.length - k ∧ k ≤ q.tickets.length ∧ e 0 = .ptr r 0 0 ∧ e 2 = .int .i64 code ∧ e 3 = va ∧ e 5 = .ptr p5 0 0 ∧ e 13 = vt ∧ e 14 = .int .i64 (q.tickets.length : Nat) ∧ e 15 = .int .i64 (k : Nat) ∧ vd'.one = true ∧
  Sp g (box r (rsO vs first now ops n vl vc vx vd') :: box p5 (.rows [[.ptr p 0 0]] 85 1 false) :: box p (quO q vt) :: sl false 2 1 vt (intRows q.tickets) :: sl false 40 3 vd' rd' :: all2 dnR rd' (ds ++ endD code zs (q.tickets.take k)) :: sl true 85 1 vl rl :: all2 quR a1 x1 :: all2 quR b1 y1 :: L)) q.tickets.length ?_ ?_
 ·refine ⟨0, vd, rd, by omega, by omega, ?_⟩
  try simp (disch := (first | exact dA | fail)) only [hva, go_sem, Nat.reduceBEq, Nat.reduceAdd, reduceIte]
  refine ⟨rfl, hvd1, ?_⟩
  have e0 : ds ++ endD code zs [] = ds := by simp [endD]
  rw [e0]
  have S := by simpa only [mc0, mn0, List.getD_cons_zero, List.getD_cons_succ, ds0, dz0, ca0, na0] using Sp.sel S 9 [5, 0, 1, 2, 7, 8, 6, 3, 4] (by simp only [lc0]; omega) (by decide) (by decide)
  exact S
 ·clear S htl
  rintro m e g ⟨k, vd', rd', rfl, hk, e0, e2, e3, e5, e13, e14, e15, zd, S⟩
  have q0 := (S.bx 0 rfl).eq
  have q1 := (S.bx 1 rfl).eq
  try simp (disch := (first | exact dA | fail)) only [q0, q1, e0, e2, e3, e5, e13, e14, e15, go_sem, Nat.reduceBEq, Nat.reduceAdd, reduceIte]
  refine test_dec (fun hb => ?_) (fun hb => ?_)
  ·obtain ⟨t, ht⟩ : ∃ t, q.tickets[k]? = some t := ⟨_, List.getElem?_eq_getElem (by omega : k < q.tickets.length)⟩
   obtain ⟨l2, j2, hia2, hll2, har2⟩ := (S.slA 3 rfl).at (intRows_at ht) .i64
   have hc2 := cellO_row har2
   have w1 : wr .i64 ((k : Int) + 1) = ((k + 1 : Nat) : Int) := by rw [wr64 _ (by omega)]; rfl
   have q0 := (S.bx 0 rfl).eq
   have q1 := (S.bx 1 rfl).eq
   try simp (disch := (first | exact dA | fail)) only [q0, q1, e0, e2, e3, e5, e13, e14, e15, hia2, hc2, go_sem, Nat.reduceBEq, Nat.reduceAdd, reduceIte]
   refine callA_of (cloneI_c S va (intRows zs) (ha g (S.dn 9)) (by rw [intRows_len]; omega)) ?_
   clear S
   rintro r5 g5 ⟨z5, S⟩
   have q1 := (S.bx 1 rfl).eq
   try simp (disch := (first | exact dA | fail)) only [q1, e0, e2, e3, e5, e13, e14, e15, z5, ca0, na0, lay_p, go_sem, Nat.reduceBEq, Nat.reduceAdd, reduceIte]
   refine Sp.bsl1 S (by first | rfl | (rw [cells_one (by assumption)]; rfl)) (by first | rfl | simp (disch := assumption) only [go_sem, cells_one, one_as]) fun p6 g6 S E_g6 l_g6 => ?_
   try simp only [cells_agg, cells_int, cells_bool, cells_ptr, cells_str] at S
   have hdl6 := a2_len S 7 rfl
   rw [la0] at hdl6
   have hel : (endD code zs (q.tickets.take k)).length ≤ q.tickets.length := by simp [endD]; omega
   have q0 := (S.bx 0 rfl).eq
   have q2 := (S.bx 2 rfl).eq
   have s6 := S.slA 6 rfl
   have len_s6 := s6.lenF
   have z6 := s6.one
   try simp (disch := (first | exact dA | fail)) only [q0, q2, len_s6, z6, e0, e2, e3, e5, e13, e14, e15, go_sem, Nat.reduceBEq, Nat.reduceAdd, reduceIte]
   have S := by simpa only [mc0, mn0, List.getD_cons_zero, List.getD_cons_succ, ds0, dz0, ca0, na0] using Sp.sel S 8 [0, 6, 1, 2, 3, 4, 5, 7] (by simp only [lc0]; omega) (by decide) (by decide)
   refine S.app1 (y := false) (b := 40) (by omega) ?_
   clear S
   intro v7 g7 S z7
   have q2 := (S.bx 2 rfl).eq
   try simp (disch := (first | exact dA | fail)) only [q2, e0, e2, e3, e5, e13, e14, e15, z7, go_sem, Nat.reduceBEq, Nat.reduceAdd, reduceIte]
   refine st1_of (Nat.le_of_ble_eq_true rfl) (by first | rfl | assumption) fun g8 hg => ?_
   have l_g8 := n_set hg
   have S := S.set2 hg
   clear hg
   simp only [sz0, ss0, ts0, tz0, ds0, dz0, ca0, na0, Nat.reduceAdd] at S
   have q2 := (S.bx 2 rfl).eq
   try simp (disch := (first | exact dA | fail)) only [q2, e0, e2, e3, e5, e13, e14, e15, w1, go_sem, Nat.reduceBEq, Nat.reduceAdd, reduceIte]
   have he : ds ++ endD code zs (q.tickets.take (k + 1)) = ds ++ endD code zs (q.tickets.take k) ++ [⟨t, code, zs⟩] := by
    rw [take_snoc ht]; simp [endD]
   have S := by simpa only [mc0, mn0, List.getD_cons_zero, List.getD_cons_succ, ds0, dz0, ca0, na0] using Sp.sel S 2 [1, 0] (by simp only [lc0]; omega) (by decide) (by decide)
   have S := (dn_un (d := ⟨t, code, zs⟩) S z5).a2one
   have S := by simpa only [mc0, mn0, List.getD_cons_zero, List.getD_cons_succ, ds0, dz0, ca0, na0] using Sp.sel S 7 [6, 0, 1, 2, 3, 4, 5] (by simp only [lc0]; omega) (by decide) (by decide)
   have S := S.a2join
   rw [← he] at S
   have S := by simpa only [mc0, mn0, List.getD_cons_zero, List.getD_cons_succ, ds0, dz0, ca0, na0] using Sp.sel S 6 [2, 3, 4, 5, 1, 0] (by simp only [lc0]; omega) (by decide) (by decide)
   exact ⟨q.tickets.length - (k + 1), by omega, k + 1, v7, _, rfl, by omega, rfl, z7, S⟩
  ·have hk2 : k = q.tickets.length := by omega
   subst hk2
   rw [List.take_length] at S
   have S := by simpa only [mc0, mn0, List.getD_cons_zero, List.getD_cons_succ, ds0, dz0, ca0, na0] using Sp.sel S 9 [2, 3, 7, 8, 0, 1, 4, 5, 6] (by simp only [lc0]; omega) (by decide) (by decide)
   have S := qu_back S hv1
   rw [← eA, ← eB] at S
   have q1 := (S.bx 1 rfl).eq
   try simp (disch := (first | exact dA | fail)) only [q1, e0, e2, e3, e5, go_sem, Nat.reduceBEq, Nat.reduceAdd, reduceIte]
   refine callA_of (cloneP_c S vl rl (S.slA 5 rfl) (by omega)) ?_
   clear S
   rintro r5 g5 ⟨z5, S⟩
   have q2 := (S.bx 2 rfl).eq
   try simp (disch := (first | exact dA | fail)) only [q2, e0, e2, e3, e5, go_sem, Nat.reduceBEq, Nat.reduceAdd, reduceIte]
   obtain ⟨f, hf⟩ := S.part 1 rfl
   have hrows := qu_rows hf
   have hfl := isP_filter (S.dn 1) hq hr
   refine callA_of (deleteP_c r5 rl S (by omega) 76 [.ptr p5 0 0] (isP p) ?_ ?_) ?_
   ·intro x hx
    obtain ⟨p', q', vt', rfl, _⟩ := hrows x hx
    exact ⟨rfl, rfl⟩
   ·intro g S x hx
    obtain ⟨f', hf'⟩ := S.part 0 rfl
    obtain ⟨p', q', vt', hx', bp'⟩ := qu_rows hf' [x] hx
    obtain rfl : x = .ptr p' 0 0 := by simpa using hx'
    obtain ⟨p2, vt2, hr2, bp2, _⟩ := qu_at S 0 rfl hq
    rw [hr] at hr2
    obtain rfl : p = p2 := by simpa using hr2
    exact ends1_c (S.bx 2 rfl) bp2 bp'
   clear S
   rintro v9 g9 ⟨z9, S⟩
   rw [hfl] at S
   have q2 := (S.bx 2 rfl).eq
   try simp (disch := (first | exact dA | fail)) only [q2, e0, z9, go_sem, Nat.reduceBEq, Nat.reduceAdd, reduceIte]
   refine st1_of (Nat.le_of_ble_eq_true rfl) (by first | rfl | assumption) fun g10 hg => ?_
   have l_g10 := n_set hg
   have S := S.set2 hg
   clear hg
   simp only [sz0, ss0, ts0, tz0, ds0, dz0, ca0, na0, Nat.reduceAdd] at S
   try simp (disch := (first | exact dA | fail)) only [go_sem, Nat.reduceBEq, Nat.reduceAdd, reduceIte]
   have S := by simpa only [mc0, mn0, List.getD_cons_zero, List.getD_cons_succ, ds0, dz0, ca0, na0] using Sp.sel S 7 [1, 0, 2, 4, 5] (by simp only [lc0]; omega) (by decide) (by decide)
   have S := S.a2erase i
   have S := by simpa only [mc0, mn0, List.getD_cons_zero, List.getD_cons_succ, ds0, dz0, ca0, na0] using Sp.sel S 5 [2, 1, 0, 3, 4] (by simp only [lc0]; omega) (by decide) (by decide)
   exact ⟨v9, _, _, _, S⟩
end
end Go.Proofs.YtaoffieemecioaaDoor



set_option maxRecDepth 20000
namespace Go.Proofs.YtaoffieemecioaaDoor
open Go Go.IW
section
attribute [local go_sem] List.getElem?_cons_zero List.getElem?_cons_succ Option.bind_some List.map_cons List.map_nil Nat.zero_add if_true List.getD_cons_zero List.getD_cons_succ List.contains_cons List.contains_nil Bool.or_true Bool.true_or Bool.or_false Bool.false_or Bool.not_true Bool.not_false true_and and_true rowA_whole mid_get rowO_rows cellO_rows upd_ne Nat.add_assoc Nat.add_zero List.all_cons List.all_nil one_bool one_int one_str one_ptr one_nilptr one_slice one_eslice one_nilslice one_func one_iface one_niliface Bool.and_true Bool.and_self List.length_cons List.length_nil Nat.one_ne_zero Nat.succ_ne_zero if_false List.set_cons_zero List.set_cons_succ lay_nil lay_1 lay_w Option.map_some cells_one rowA_some List.drop_succ_cons List.drop_zero List.take_succ_cons List.take_zero

def IS (h : IH) (r : Nat) (vs : IV) (first ops : Int) (st : Rs) (L : List As) : Prop :=
 ∃ vl vc vx vd rl rc rx rd, Sp h (box r (rsO vs first st.now ops st.n vl vc vx vd) :: sl true 85 1 vl rl :: all2 quR rl st.l :: sl false 40 3 vd rd :: all2 dnR rd st.done ::
  sl true 111 4 vc rc :: all2 kiR rc st.cache :: sl false 49 2 vx rx :: all2 sdR rx st.sent :: L)
set_option maxHeartbeats 2000000 in
theorem ask_c {h : IH} {L : List As} {r p : Nat} {vs vl vc vx vd : IV} {rl rc rx rd : List (List IV)} {first ops : Int} {st : Rs} {servers : List Int} {i : Nat} {q : Qn}
  (S : Sp h (box r (rsO vs first st.now ops st.n vl vc vx vd) :: sl true 85 1 vl rl :: all2 quR rl st.l :: sl false 40 3 vd rd :: all2 dnR rd st.done ::
   sl true 111 4 vc rc :: all2 kiR rc st.cache :: sl false 49 2 vx rx :: all2 sdR rx st.sent :: L)) (hv : ∀ g, Sp g L → SlR g 1 vs (intRows servers))
  (hq : st.l[i]? = some q) (hr : rl[i]? = some [.ptr p 0 0]) (f0 : 0 ≤ first) (f1 : first ≤ 65535) (n0 : 0 ≤ st.n) (n1 : st.n ≤ 1000000000000) (t0 : 0 ≤ st.now) (t1 : st.now ≤ 1000000000) (a0 : 0 ≤ q.asks) (sv0 : servers ≠ []) (sv1 : servers.length ≤ 4)
  (hm : st.l.length ≤ 1000000) (hd : st.done.length + q.tickets.length ≤ 1000000) (hx : st.sent.length ≤ 1000000) (hn : q.name.length ≤ 1048576) :
  ICalls Tryd.prog 29 [.ptr r 0 0, .ptr p 0 0] h fun x h' => IS h' r vs first ops (againS first servers st i) L := by
 refine icalls (.of ok29) (Nat.le_of_ble_eq_true rfl) ?_
 unfold c29
 have hrl := a2_len S 2 rfl
 have hxl := a2_len S 8 rfl
 obtain ⟨p', vt', hr', hbp, _⟩ := qu_at S 2 rfl hq
 rw [hr] at hr'
 obtain rfl : p = p' := by simpa using hr'
 have hbp' := hbp.eq
 have q0 := (S.bx 0 rfl).eq
 try simp (disch := (first | exact dA | fail)) only [q0, hbp', go_sem, Nat.reduceBEq, Nat.reduceAdd, reduceIte]
 refine test_dec (fun hb => ?_) (fun hb => ?_)
 ·skip
  try simp (disch := (first | exact dA | fail)) only [go_sem, Nat.reduceBEq, Nat.reduceAdd, reduceIte]
  refine callA_of (ends_c (zs := []) (code := 15) S (fun g _ => SlR.nil g 1) hq hr (by omega) (by omega) (by simp)) ?_
  clear S
  rintro r3 g3 ⟨vl', vd', rl', rd', S⟩
  try simp (disch := (first | exact dA | fail)) only [go_sem, Nat.reduceBEq, Nat.reduceAdd, reduceIte]
  have hag : againS first servers st i = { st with l := st.l.eraseIdx i, done := st.done ++ endD 15 [] q.tickets } := by
   unfold againS
   rw [hq]
   simp only [if_pos hb]
  rw [hag]
  exact ⟨vl', vc, vx, vd', rl', rc, rx, rd', S⟩
 ·have w1 : wr .i64 (7919 * st.n) = 7919 * st.n := wr64 _ (by omega)
  have w2 : wr .i64 (first + 7919 * st.n) = first + 7919 * st.n := wr64 _ (by omega)
  have r1 := ib_rem .i64 (first + 7919 * st.n) 65536 (by decide)
  have S := by simpa only [mc0, mn0, List.getD_cons_zero, List.getD_cons_succ, ds0, dz0, ca0, na0] using Sp.sel S 3 [2, 0, 1] (by simp only [lc0]; omega) (by decide) (by decide)
  obtain ⟨a1, b1, x1, y1, vt, eA, eB, lA, lB, hv1, S⟩ := qu_focus S hq hr
  clear hbp'
  have q0 := (S.bx 0 rfl).eq
  have q4 := (S.bx 4 rfl).eq
  try simp (disch := (first | exact dA | fail)) only [q0, q4, w1, w2, r1, go_sem, Nat.reduceBEq, Nat.reduceAdd, reduceIte]
  refine st1_of (Nat.le_of_ble_eq_true rfl) (by first | rfl | assumption) fun g3 hg => ?_
  have l_g3 := n_set hg
  have S := S.set0 hg
  clear hg
  simp only [sz0, ss0, ts0, tz0, ds0, dz0, ca0, na0, Nat.reduceAdd] at S
  have w3 : wr .i64 (st.n + 1) = st.n + 1 := wr64 _ (by omega)
  have q0 := (S.bx 0 rfl).eq
  have q4 := (S.bx 4 rfl).eq
  try simp (disch := (first | exact dA | fail)) only [q0, q4, w3, go_sem, Nat.reduceBEq, Nat.reduceAdd, reduceIte]
  refine st1_of (Nat.le_of_ble_eq_true rfl) (by first | rfl | assumption) fun g4 hg => ?_
  have l_g4 := n_set hg
  have S := S.set4 hg
  clear hg
  simp only [sz0, ss0, ts0, tz0, ds0, dz0, ca0, na0, Nat.reduceAdd] at S
  have hv4 := hv g4 (S.dn 12)
  have hvs1 := hv4.one
  have hvl := hv4.lenF
  rw [intRows_len] at hvl
  have hs0 : 0 < servers.length := List.length_pos_iff.2 sv0
  obtain ⟨k, hk⟩ : ∃ k, k = q.asks.toNat % servers.length := ⟨_, rfl⟩
  have hkl : k < servers.length := by rw [hk]; exact Nat.mod_lt _ hs0
  have r2 := ib_rem .i64 q.asks (servers.length : Int) (by omega)
  have r2' : q.asks.tmod (servers.length : Int) = (k : Int) := by
   rw [Int.tmod_eq_emod_of_nonneg a0, hk]
   obtain ⟨a, ha⟩ : ∃ a : Nat, q.asks = (a : Int) := ⟨q.asks.toNat, by omega⟩
   rw [ha]; simp
  rw [r2'] at r2
  obtain ⟨sv, hsv⟩ : ∃ sv, servers[k]? = some sv := ⟨_, List.getElem?_eq_getElem hkl⟩
  obtain ⟨l5, j5, hia5, _, har5⟩ := hv4.at (intRows_at hsv) .i64
  have hc5 := cellO_row har5
  have hgd : servers.getD (q.asks.toNat % servers.length) 0 = sv := by rw [← hk, List.getD_eq_getElem?_getD, hsv]; rfl
  have q0 := (S.bx 0 rfl).eq
  have q4 := (S.bx 4 rfl).eq
  try simp (disch := (first | exact dA | fail)) only [q0, q4, hvl, r2, hia5, hc5, hvs1, go_sem, Nat.reduceBEq, Nat.reduceAdd, reduceIte]
  refine st1_of (Nat.le_of_ble_eq_true rfl) (by first | rfl | assumption) fun g5 hg => ?_
  have l_g5 := n_set hg
  have S := S.set0 hg
  clear hg
  simp only [sz0, ss0, ts0, tz0, ds0, dz0, ca0, na0, Nat.reduceAdd] at S
  have w4 : wr .i64 (q.asks + 1) = q.asks + 1 := by
   by_cases hbig : q.asks < 4
   ·exact wr64 _ (by omega)
   ·omega
  have q0 := (S.bx 0 rfl).eq
  have q4 := (S.bx 4 rfl).eq
  try simp (disch := (first | exact dA | fail)) only [q0, q4, w4, go_sem, Nat.reduceBEq, Nat.reduceAdd, reduceIte]
  refine st1_of (Nat.le_of_ble_eq_true rfl) (by first | rfl | assumption) fun g6 hg => ?_
  have l_g6 := n_set hg
  have S := S.set0 hg
  clear hg
  simp only [sz0, ss0, ts0, tz0, ds0, dz0, ca0, na0, Nat.reduceAdd] at S
  have w5 : wr .i64 (st.now + 2000) = st.now + 2000 := wr64 _ (by omega)
  have q0 := (S.bx 0 rfl).eq
  have q4 := (S.bx 4 rfl).eq
  try simp (disch := (first | exact dA | fail)) only [q0, q4, w5, go_sem, Nat.reduceBEq, Nat.reduceAdd, reduceIte]
  refine st1_of (Nat.le_of_ble_eq_true rfl) (by first | rfl | assumption) fun g7 hg => ?_
  have l_g7 := n_set hg
  have S := S.set0 hg
  clear hg
  simp only [sz0, ss0, ts0, tz0, ds0, dz0, ca0, na0, Nat.reduceAdd] at S
  have hq' : askQ first servers st.now st.n q = { q with id := (first + 7919 * st.n).tmod 65536, server := sv, asks := q.asks + 1, due := st.now + 2000 } := by unfold askQ; rw [hgd]
  have S := qu_back (q := { q with id := (first + 7919 * st.n).tmod 65536, server := sv, asks := q.asks + 1, due := st.now + 2000 }) S hv1
  have fB : st.l.set i { q with id := (first + 7919 * st.n).tmod 65536, server := sv, asks := q.asks + 1, due := st.now + 2000 } = x1 ++ { q with id := (first + 7919 * st.n).tmod 65536, server := sv, asks := q.asks + 1, due := st.now + 2000 } :: y1 := by rw [eB, List.set_append_right _ _ (by omega), lB, Nat.sub_self]; rfl
  rw [← eA, ← fB] at S
  obtain ⟨q', hqe⟩ : ∃ q' : Qn, q' = { q with id := (first + 7919 * st.n).tmod 65536, server := sv, asks := q.asks + 1, due := st.now + 2000 } := ⟨_, rfl⟩
  rw [← hqe] at S hq'
  have k1 : q'.id = (first + 7919 * st.n).tmod 65536 := by rw [hqe]
  have k2 : q'.server = sv := by rw [hqe]
  have k3 : q'.name = q.name := by rw [hqe]
  obtain ⟨p2, vt2, hr2, hbq, _⟩ := qu_at S 0 rfl (i := i) (q := q') (by rw [List.getElem?_set_self (List.getElem?_eq_some_iff.1 hq).1])
  rw [hr] at hr2
  obtain rfl : p = p2 := by simpa using hr2
  have hq7 := hbq.eq
  have q1 := (S.bx 1 rfl).eq
  try simp (disch := (first | exact dA | fail)) only [q1, hq7, ca0, na0, lay_p, go_sem, Nat.reduceBEq, Nat.reduceAdd, reduceIte]
  refine callA_of (implEncodeQuery_c g7 q'.id q'.name (by rw [k3]; exact hn)) ?_
  rintro r9 g9 ⟨v9, rfl, o9, E9⟩
  have S := S.ofOwn E9 o9
  have hq9 := (hbq.ext E9).eq
  have y9 := o9.sl.one
  have q2 := (S.bx 2 rfl).eq
  try simp (disch := (first | exact dA | fail)) only [q2, hq9, y9, ca0, na0, lay_p, go_sem, Nat.reduceBEq, Nat.reduceAdd, reduceIte]
  refine Sp.bsl1 S (by first | rfl | (rw [cells_one (by assumption)]; rfl)) (by first | rfl | simp (disch := assumption) only [go_sem, cells_one, one_as]) fun p10 g10 S E_g10 l_g10 => ?_
  try simp only [cells_agg, cells_int, cells_bool, cells_ptr, cells_str] at S
  have hq10 := ((hbq.ext E9).ext E_g10).eq
  have q0 := (S.bx 0 rfl).eq
  have q3 := (S.bx 3 rfl).eq
  have s9 := S.slA 9 rfl
  have len_s9 := s9.lenF
  have z9 := s9.one
  try simp (disch := (first | exact dA | fail)) only [q0, q3, len_s9, z9, hq10, y9, go_sem, Nat.reduceBEq, Nat.reduceAdd, reduceIte]
  have S := by simpa only [mc0, mn0, List.getD_cons_zero, List.getD_cons_succ, ds0, dz0, ca0, na0] using Sp.sel S 11 [0, 9, 1, 2, 3, 4, 5, 6, 7, 8, 10] (by simp only [lc0]; omega) (by decide) (by decide)
  refine S.app1 (y := false) (b := 32) (by omega) ?_
  clear S
  intro v12 g12 S z12
  obtain ⟨p3, vt3, hr3, hbq3, _⟩ := qu_at S 2 rfl (i := i) (q := q') (by rw [List.getElem?_set_self (List.getElem?_eq_some_iff.1 hq).1])
  rw [hr] at hr3
  obtain rfl : p = p3 := by simpa using hr3
  have hq12 := hbq3.eq
  have q3 := (S.bx 3 rfl).eq
  try simp (disch := (first | exact dA | fail)) only [q3, hq12, z12, go_sem, Nat.reduceBEq, Nat.reduceAdd, reduceIte]
  refine st1_of (Nat.le_of_ble_eq_true rfl) (by first | rfl | assumption) fun g13 hg => ?_
  have l_g13 := n_set hg
  have S := S.set3 hg
  clear hg
  simp only [sz0, ss0, ts0, tz0, ds0, dz0, ca0, na0, Nat.reduceAdd] at S
  try simp (disch := (first | exact dA | fail)) only [go_sem, Nat.reduceBEq, Nat.reduceAdd, reduceIte]
  have hag : againS first servers st i = { st with n := st.n + 1, l := st.l.set i q', sent := st.sent ++ [⟨q'.server, (encQ q'.id q'.name).1⟩] } := by
   unfold againS
   rw [hq]
   simp only [if_neg hb, hq', k3]
  rw [hag]
  have S := by simpa only [mc0, mn0, List.getD_cons_zero, List.getD_cons_succ, ds0, dz0, ca0, na0] using Sp.sel S 2 [1, 0] (by simp only [lc0]; omega) (by decide) (by decide)
  have S := (sd_un (s := ⟨q'.server, (encQ q'.id q'.name).1⟩) S y9).a2one
  have S := by simpa only [mc0, mn0, List.getD_cons_zero, List.getD_cons_succ, ds0, dz0, ca0, na0] using Sp.sel S 10 [9, 0, 1, 2, 3, 4, 5, 6, 7, 8] (by simp only [lc0]; omega) (by decide) (by decide)
  have S := S.a2join
  have S := by simpa only [mc0, mn0, List.getD_cons_zero, List.getD_cons_succ, ds0, dz0, ca0, na0] using Sp.sel S 9 [3, 4, 2, 5, 6, 7, 8, 1, 0] (by simp only [lc0]; omega) (by decide) (by decide)
  exact ⟨vl, vc, _, vd, _, rc, _, rd, S⟩
end
end Go.Proofs.YtaoffieemecioaaDoor



set_option maxRecDepth 20000
namespace Go.Proofs.YtaoffieemecioaaDoor
open Go Go.IW
section
attribute [local go_sem] List.getElem?_cons_zero List.getElem?_cons_succ Option.bind_some List.map_cons List.map_nil Nat.zero_add if_true List.getD_cons_zero List.getD_cons_succ List.contains_cons List.contains_nil Bool.or_true Bool.true_or Bool.or_false Bool.false_or Bool.not_true Bool.not_false true_and and_true rowA_whole mid_get rowO_rows cellO_rows upd_ne Nat.add_assoc Nat.add_zero List.all_cons List.all_nil one_bool one_int one_str one_ptr one_nilptr one_slice one_eslice one_nilslice one_func one_iface one_niliface Bool.and_true Bool.and_self List.length_cons List.length_nil Nat.one_ne_zero Nat.succ_ne_zero if_false List.set_cons_zero List.set_cons_succ lay_nil lay_1 lay_w Option.map_some cells_one rowA_some List.drop_succ_cons List.drop_zero List.take_succ_cons List.take_zero

def wantI (first : Int) (servers : List Int) (ticket : Int) (name : Tx) (st : Rs) : Rs × Int :=
 match st.cache.find? (fun k => decide (k.name = name) && decide (st.now < k.till)) with
 | some k => ({ st with done := st.done ++ [⟨ticket, k.code, k.addrs⟩] }, 0)
 | none => match st.l.findIdx? (fun q => decide (q.name = name)) with
  | some i => ({ st with l := match st.l[i]? with | some q => st.l.set i (addT ticket q) | none => st.l }, 0)
  | none => if 16 ≤ st.l.length then (st, 18)
   else (againS first servers { st with l := st.l ++ [⟨name, 0, 0, 0, 0, [ticket]⟩] } st.l.length, 0)
set_option maxHeartbeats 2000000 in
theorem want_c {h : IH} {L : List As} {r : Nat} {vs : IV} {first ops : Int} {st : Rs} {servers : List Int} {name : Tx} (W : IS h r vs first ops st L) (hv : ∀ g, Sp g L → SlR g 1 vs (intRows servers))
  (hg : Rg st) (f0 : 0 ≤ first) (f1 : first ≤ 65535) (sv0 : servers ≠ []) (sv1 : servers.length ≤ 4) (hn : okName name = true) (hc : st.cache.length ≤ 32) (ha : ∀ k ∈ st.cache, k.addrs.length ≤ 100) (hd : st.done.length + tks st.l ≤ 90000) (hx : st.sent.length + mu st.l ≤ 90000) (hn1 : st.n + mu st.l ≤ 900000000) :
  ICalls Tryd.prog 25 [.ptr r 0 0, .str name] h fun x h' => x = .int .i64 (wantI first servers ops name st).2 ∧ IS h' r vs first ops (wantI first servers ops name st).1 L := by
 refine icalls (.of ok25) (Nat.le_of_ble_eq_true rfl) ?_
 unfold c25
 obtain ⟨vl, vc, vx, vd, rl, rc, rx, rd, S⟩ := W
 have hl16 := hg.l
 have hcl := a2_len S 6 rfl
 have hdl := a2_len S 4 rfl
 have hll := a2_len S 2 rfl
 have q0 := (S.bx 0 rfl).eq
 have s5 := S.slA 5 rfl
 have len_s5 := s5.lenF
 have z5 := s5.one
 try simp (disch := (first | exact dA | fail)) only [q0, len_s5, z5, go_sem, Nat.reduceBEq, Nat.reduceAdd, reduceIte]
 refine loop_at (fun m e g => ∃ k : Nat, m = st.cache.length - k ∧ k ≤ st.cache.length ∧ e 0 = .ptr r 0 0 ∧ e 1 = .str name ∧ e 5 = .int .i64 ops ∧ e 18 = vc ∧ e 19 = .int .i64 (rc.length : Nat) ∧ e 20 = .int .i64 (k : Nat) ∧ (∀ y ∈ st.cache.take k, (decide (y.name = name) && decide (st.now < y.till)) = false) ∧
  Sp g (box r (rsO vs first st.now ops st.n vl vc vx vd) :: sl true 85 1 vl rl :: all2 quR rl st.l :: sl false 40 3 vd rd :: all2 dnR rd st.done :: sl true 111 4 vc rc :: all2 kiR rc st.cache :: sl false 49 2 vx rx :: all2 sdR rx st.sent :: L)) st.cache.length ?_ ?_
 ·refine ⟨0, by omega, by omega, ?_⟩
  try simp (disch := (first | exact dA | fail)) only [go_sem, Nat.reduceBEq, Nat.reduceAdd, reduceIte]
  exact ⟨rfl, by simp, S⟩
 ·clear S
  rintro m e g ⟨k, rfl, hk, e0, e1, e5, e18, e19, e20, hno, S⟩
  have q0 := (S.bx 0 rfl).eq
  try simp (disch := (first | exact dA | fail)) only [q0, e0, e1, e5, e18, e19, e20, go_sem, Nat.reduceBEq, Nat.reduceAdd, reduceIte]
  refine test_dec (fun hb => ?_) (fun hb => ?_)
  ·obtain ⟨x, hxk⟩ : ∃ x, st.cache[k]? = some x := ⟨_, List.getElem?_eq_getElem (by omega : k < st.cache.length)⟩
   obtain ⟨va, hrow, hva⟩ := ki_at S 6 rfl hxk
   have hva1 := hva.one
   obtain ⟨l, j, hia, hlj, har⟩ := (S.slA 5 rfl).at hrow .i64
   unfold kiRow at har
   have w1 : wr .i64 ((k : Int) + 1) = ((k + 1 : Nat) : Int) := by rw [wr64 _ (by omega)]; rfl
   have q0 := (S.bx 0 rfl).eq
   try simp (disch := (first | exact dA | fail)) only [q0, e0, e1, e5, e18, e19, e20, hia, har, go_sem, Nat.reduceBEq, Nat.reduceAdd, reduceIte]
   refine Sp.zero S fun p7 g7 S E_g7 l_g7 => ?_
   have q0 := (S.bx 0 rfl).eq
   have q1 := (S.bx 1 rfl).eq
   try simp (disch := (first | exact dA | fail)) only [q0, q1, e0, e1, e5, e18, e19, e20, hva1, go_sem, Nat.reduceBEq, Nat.reduceAdd, reduceIte]
   refine stw_of rfl rfl (by first | rfl | simp (disch := assumption) only [go_sem, cells_one, one_as]) fun g8 hg => ?_
   have l_g8 := n_set hg
   have S := S.set0 hg
   clear hg
   have q0 := (S.bx 0 rfl).eq
   have q1 := (S.bx 1 rfl).eq
   try simp (disch := (first | exact dA | fail)) only [q0, q1, e0, e1, e5, e18, e19, e20, go_sem, Nat.reduceBEq, Nat.reduceAdd, reduceIte]
   refine test_of (fun ht => ?_) (fun ht => ?_)
   ·have hxa := ha x (List.mem_of_getElem? hxk)
    obtain ⟨va', hrow', hva'⟩ := ki_at S 7 rfl hxk
    rw [hrow] at hrow'
    obtain rfl : va = va' := by simpa [kiRow] using hrow'
    have q0 := (S.bx 0 rfl).eq
    have q1 := (S.bx 1 rfl).eq
    try simp (disch := (first | exact dA | fail)) only [q0, q1, e0, e1, e5, e18, e19, e20, go_sem, Nat.reduceBEq, Nat.reduceAdd, reduceIte]
    refine callA_of (cloneI_c S va (intRows x.addrs) hva' (by rw [intRows_len]; omega)) ?_
    clear S
    rintro r5 g5 ⟨y5, S⟩
    have q1 := (S.bx 1 rfl).eq
    have q2 := (S.bx 2 rfl).eq
    try simp (disch := (first | exact dA | fail)) only [q1, q2, e0, e1, e5, y5, ca0, na0, lay_p, go_sem, Nat.reduceBEq, Nat.reduceAdd, reduceIte]
    refine Sp.bsl1 S (by first | rfl | (rw [cells_one (by assumption)]; rfl)) (by first | rfl | simp (disch := assumption) only [go_sem, cells_one, one_as]) fun p6 g6 S E_g6 l_g6 => ?_
    try simp only [cells_agg, cells_int, cells_bool, cells_ptr, cells_str] at S
    have q0 := (S.bx 0 rfl).eq
    have q2 := (S.bx 2 rfl).eq
    have q3 := (S.bx 3 rfl).eq
    have s6 := S.slA 6 rfl
    have len_s6 := s6.lenF
    have z6 := s6.one
    try simp (disch := (first | exact dA | fail)) only [q0, q2, q3, len_s6, z6, e0, e1, e5, go_sem, Nat.reduceBEq, Nat.reduceAdd, reduceIte]
    have S := by simpa only [mc0, mn0, List.getD_cons_zero, List.getD_cons_succ, ds0, dz0, ca0, na0] using Sp.sel S 8 [0, 6, 1, 2, 3, 4, 5, 7] (by simp only [lc0]; omega) (by decide) (by decide)
    refine S.app1 (y := false) (b := 40) (by omega) ?_
    clear S
    intro v7 g7' S z7
    have q2 := (S.bx 2 rfl).eq
    have q3 := (S.bx 3 rfl).eq
    try simp (disch := (first | exact dA | fail)) only [q2, q3, e0, e1, e5, z7, go_sem, Nat.reduceBEq, Nat.reduceAdd, reduceIte]
    refine st1_of (Nat.le_of_ble_eq_true rfl) (by first | rfl | assumption) fun g9 hg => ?_
    have l_g9 := n_set hg
    have S := S.set3 hg
    clear hg
    simp only [sz0, ss0, ts0, tz0, ds0, dz0, ca0, na0, Nat.reduceAdd] at S
    try simp (disch := (first | exact dA | fail)) only [go_sem, Nat.reduceBEq, Nat.reduceAdd, reduceIte]
    have hw : wantI first servers ops name st = ({ st with done := st.done ++ [⟨ops, x.code, x.addrs⟩] }, 0) := by
     unfold wantI
     rw [find_at hno hxk ht]
    rw [hw]
    have S := by simpa only [mc0, mn0, List.getD_cons_zero, List.getD_cons_succ, ds0, dz0, ca0, na0] using Sp.sel S 4 [1, 0, 3] (by simp only [lc0]; omega) (by decide) (by decide)
    have S := (dn_un (d := ⟨ops, x.code, x.addrs⟩) S y5).a2one
    have S := by simpa only [mc0, mn0, List.getD_cons_zero, List.getD_cons_succ, ds0, dz0, ca0, na0] using Sp.sel S 6 [5, 0, 1, 2, 3, 4] (by simp only [lc0]; omega) (by decide) (by decide)
    have S := S.a2join
    have S := by simpa only [mc0, mn0, List.getD_cons_zero, List.getD_cons_succ, ds0, dz0, ca0, na0] using Sp.sel S 5 [2, 3, 4, 1, 0] (by simp only [lc0]; omega) (by decide) (by decide)
    exact ⟨rfl, vl, vc, vx, v7, rl, rc, rx, _, S⟩
   ·skip
    have q0 := (S.bx 0 rfl).eq
    have q1 := (S.bx 1 rfl).eq
    try simp (disch := (first | exact dA | fail)) only [q0, q1, e0, e1, e5, e18, e19, e20, w1, go_sem, Nat.reduceBEq, Nat.reduceAdd, reduceIte]
    exact ⟨st.cache.length - (k + 1), by omega, k + 1, rfl, by omega, rfl, take_no hno hxk ht, S.drop⟩
  ·have hk2 : k = st.cache.length := by omega
   subst hk2
   rw [List.take_length] at hno
   have hfn : st.cache.find? (fun k => decide (k.name = name) && decide (st.now < k.till)) = none := List.find?_eq_none.2 fun y hy => by rw [hno y hy]; simp
   have q0 := (S.bx 0 rfl).eq
   have s1 := S.slA 1 rfl
   have len_s1 := s1.lenF
   have z1 := s1.one
   try simp (disch := (first | exact dA | fail)) only [q0, len_s1, z1, e0, e1, e5, go_sem, Nat.reduceBEq, Nat.reduceAdd, reduceIte]
   clear e18 e19 e20
   refine loop_at (fun m e g' => ∃ k : Nat, m = st.l.length - k ∧ k ≤ st.l.length ∧ e 0 = .ptr r 0 0 ∧ e 1 = .str name ∧ e 5 = .int .i64 ops ∧ e 57 = vl ∧ e 58 = .int .i64 (rl.length : Nat) ∧ e 59 = .int .i64 (k : Nat) ∧ g' = g ∧ (∀ y ∈ st.l.take k, decide (y.name = name) = false)) st.l.length ?_ ?_
   ·refine ⟨0, by omega, by omega, ?_⟩
    try simp (disch := (first | exact dA | fail)) only [e0, e1, e5, go_sem, Nat.reduceBEq, Nat.reduceAdd, reduceIte]
    simp
   ·rintro m e g' ⟨k, rfl, hk, e0, e1, e5, e57, e58, e59, rfl, hno2⟩
    have q0 := (S.bx 0 rfl).eq
    try simp (disch := (first | exact dA | fail)) only [q0, e0, e1, e5, e57, e58, e59, go_sem, Nat.reduceBEq, Nat.reduceAdd, reduceIte]
    refine test_dec (fun hb => ?_) (fun hb => ?_)
    ·obtain ⟨x, hxk⟩ : ∃ x, st.l[k]? = some x := ⟨_, List.getElem?_eq_getElem (by omega : k < st.l.length)⟩
     obtain ⟨p, vt0, hrow, hbp, _⟩ := qu_at S 2 rfl hxk
     have hbp' := hbp.eq
     obtain ⟨l, j, hia, hlj, har⟩ := (S.slA 1 rfl).at hrow .i64
     have hce := cellO_row har
     have w1 : wr .i64 ((k : Int) + 1) = ((k + 1 : Nat) : Int) := by rw [wr64 _ (by omega)]; rfl
     have q0 := (S.bx 0 rfl).eq
     try simp (disch := (first | exact dA | fail)) only [q0, e0, e1, e5, e57, e58, e59, hia, hce, hbp', go_sem, Nat.reduceBEq, Nat.reduceAdd, reduceIte]
     refine test_dec (fun ht => ?_) (fun ht => ?_)
     ·have htk := sum_mem (fun q : Qn => q.tickets.length) hxk
      simp only [tks] at hd
      clear hbp'
      have S := by simpa only [mc0, mn0, List.getD_cons_zero, List.getD_cons_succ, ds0, dz0, ca0, na0] using Sp.sel S 3 [2, 1, 0] (by simp only [lc0]; omega) (by decide) (by decide)
      obtain ⟨a1, b1, x1, y1, vt, eA, eB, lA, lB, hv1, S⟩ := qu_focus S hxk hrow
      have q0 := (S.bx 0 rfl).eq
      try simp (disch := (first | exact dA | fail)) only [q0, e0, e1, e5, go_sem, Nat.reduceBEq, Nat.reduceAdd, reduceIte]
      refine Sp.bsl1 S (by first | rfl | (rw [cells_one (by assumption)]; rfl)) (by first | rfl | simp (disch := assumption) only [go_sem, cells_one, one_as]) fun p6 g6 S E_g6 l_g6 => ?_
      try simp only [cells_agg, cells_int, cells_bool, cells_ptr, cells_str] at S
      unfold ints at S
      have q0 := (S.bx 0 rfl).eq
      have q1 := (S.bx 1 rfl).eq
      have s2 := S.slA 2 rfl
      have len_s2 := s2.lenF
      have z2 := s2.one
      try simp (disch := (first | exact dA | fail)) only [q0, q1, len_s2, z2, e0, e1, e5, go_sem, Nat.reduceBEq, Nat.reduceAdd, reduceIte]
      have S := by simpa only [mc0, mn0, List.getD_cons_zero, List.getD_cons_succ, ds0, dz0, ca0, na0] using Sp.sel S 3 [0, 2, 1] (by simp only [lc0]; omega) (by decide) (by decide)
      refine S.app1 (y := false) (b := 8) (by rw [intRows_len]; omega) ?_
      clear S
      intro v7 g7 S z7
      have q1 := (S.bx 1 rfl).eq
      try simp (disch := (first | exact dA | fail)) only [q1, e0, e1, e5, z7, go_sem, Nat.reduceBEq, Nat.reduceAdd, reduceIte]
      refine st1_of (Nat.le_of_ble_eq_true rfl) (by first | rfl | assumption) fun g8 hg => ?_
      have l_g8 := n_set hg
      have S := S.set1 hg
      clear hg
      simp only [sz0, ss0, ts0, tz0, ds0, dz0, ca0, na0, Nat.reduceAdd] at S
      try simp (disch := (first | exact dA | fail)) only [go_sem, Nat.reduceBEq, Nat.reduceAdd, reduceIte]
      have ei : intRows x.tickets ++ [[IV.int .i64 ops]] = intRows (addT ops x).tickets := by simp [addT, intRows]
      rw [ei] at S
      have S := by simpa only [mc0, mn0, List.getD_cons_zero, List.getD_cons_succ, ds0, dz0, ca0, na0] using Sp.sel S 2 [1, 0] (by simp only [lc0]; omega) (by decide) (by decide)
      have S := qu_back (q := addT ops x) S z7
      have fB : st.l.set k (addT ops x) = x1 ++ addT ops x :: y1 := by rw [eB, List.set_append_right _ _ (by omega), lB, Nat.sub_self]; rfl
      rw [← eA, ← fB] at S
      have hw : wantI first servers ops name st = ({ st with l := st.l.set k (addT ops x) }, 0) := by
       unfold wantI
       rw [hfn, findIdx_at hno2 hxk (decide_eq_true ht)]
       simp only [hxk]
      rw [hw]
      have S := by simpa only [mc0, mn0, List.getD_cons_zero, List.getD_cons_succ, ds0, dz0, ca0, na0] using Sp.sel S 3 [2, 1, 0] (by simp only [lc0]; omega) (by decide) (by decide)
      exact ⟨rfl, vl, vc, vx, vd, _, rc, rx, rd, S⟩
     ·skip
      try simp (disch := (first | exact dA | fail)) only [e0, e1, e5, e57, e58, e59, w1, go_sem, Nat.reduceBEq, Nat.reduceAdd, reduceIte]
      exact ⟨st.l.length - (k + 1), by omega, k + 1, rfl, by omega, rfl, take_no hno2 hxk (decide_eq_false ht)⟩
    ·have hk3 : k = st.l.length := by omega
     subst hk3
     rw [List.take_length] at hno2
     have hfn2 : st.l.findIdx? (fun q => decide (q.name = name)) = none := by simpa using hno2
     by_cases h16 : 16 ≤ st.l.length
     ·have d1 : decide ((16 : Int) ≤ rl.length) = true := decide_eq_true (by omega)
      have q0 := (S.bx 0 rfl).eq
      have s1 := S.slA 1 rfl
      have len_s1 := s1.lenF
      have z1 := s1.one
      try simp (disch := (first | exact dA | fail)) only [q0, len_s1, z1, e0, e1, e5, d1, go_sem, Nat.reduceBEq, Nat.reduceAdd, reduceIte]
      have hw : wantI first servers ops name st = (st, 18) := by
       unfold wantI
       rw [hfn, hfn2]
       simp only [if_pos h16]
      rw [hw]
      exact ⟨rfl, vl, vc, vx, vd, rl, rc, rx, rd, S⟩
     ·have d1 : decide ((16 : Int) ≤ rl.length) = false := decide_eq_false (by omega)
      have q0 := (S.bx 0 rfl).eq
      have s1 := S.slA 1 rfl
      have len_s1 := s1.lenF
      have z1 := s1.one
      try simp (disch := (first | exact dA | fail)) only [q0, len_s1, z1, e0, e1, e5, d1, go_sem, Nat.reduceBEq, Nat.reduceAdd, reduceIte]
      refine Sp.bsl1 S (by first | rfl | (rw [cells_one (by assumption)]; rfl)) (by first | rfl | simp (disch := assumption) only [go_sem, cells_one, one_as]) fun p9 g9 S E_g9 l_g9 => ?_
      try simp only [cells_agg, cells_int, cells_bool, cells_ptr, cells_str] at S
      have S0 := S
      clear S
      have S := S0.boxSl (n := 1) (x := false) rfl (.inr (by simp))
      clear S0
      have zt : (IV.slice p9 0 1).one = true := rfl
      have q1 := (S.bx 1 rfl).eq
      have s2 := S.slA 2 rfl
      have len_s2 := s2.lenF
      have z2 := s2.one
      try simp (disch := (first | exact dA | fail)) only [q1, len_s2, z2, e0, e1, e5, zt, ca0, na0, lay_p, go_sem, Nat.reduceBEq, Nat.reduceAdd, reduceIte]
      refine Sp.bxA S (by first | rfl | (rw [cells_one (by assumption)]; rfl)) (by first | rfl | simp (disch := assumption) only [go_sem, cells_one, one_as]) fun p10 g10 S E_g10 l_g10 => ?_
      have q0 := (S.bx 0 rfl).eq
      have q2 := (S.bx 2 rfl).eq
      have s3 := S.slA 3 rfl
      have len_s3 := s3.lenF
      have z3 := s3.one
      try simp (disch := (first | exact dA | fail)) only [q0, q2, len_s3, z3, e0, e1, e5, go_sem, Nat.reduceBEq, Nat.reduceAdd, reduceIte]
      refine Sp.bsl1 S (by first | rfl | (rw [cells_one (by assumption)]; rfl)) (by first | rfl | simp (disch := assumption) only [go_sem, cells_one, one_as]) fun p11 g11 S E_g11 l_g11 => ?_
      try simp only [cells_agg, cells_int, cells_bool, cells_ptr, cells_str] at S
      have q0 := (S.bx 0 rfl).eq
      have q1 := (S.bx 1 rfl).eq
      have q3 := (S.bx 3 rfl).eq
      have s4 := S.slA 4 rfl
      have len_s4 := s4.lenF
      have z4 := s4.one
      try simp (disch := (first | exact dA | fail)) only [q0, q1, q3, len_s4, z4, e0, e1, e5, go_sem, Nat.reduceBEq, Nat.reduceAdd, reduceIte]
      have S := by simpa only [mc0, mn0, List.getD_cons_zero, List.getD_cons_succ, ds0, dz0, ca0, na0] using Sp.sel S 5 [0, 4, 1, 2, 3] (by simp only [lc0]; omega) (by decide) (by decide)
      refine S.app1 (y := true) (b := 8) (by omega) ?_
      clear S
      intro v11 g11' S z11
      have q3 := (S.bx 3 rfl).eq
      try simp (disch := (first | exact dA | fail)) only [q3, e0, e1, e5, z11, go_sem, Nat.reduceBEq, Nat.reduceAdd, reduceIte]
      refine st1_of (Nat.le_of_ble_eq_true rfl) (by first | rfl | assumption) fun g12 hg => ?_
      have l_g12 := n_set hg
      have S := S.set3 hg
      clear hg
      simp only [sz0, ss0, ts0, tz0, ds0, dz0, ca0, na0, Nat.reduceAdd] at S
      try simp (disch := (first | exact dA | fail)) only [e0, go_sem, Nat.reduceBEq, Nat.reduceAdd, reduceIte]
      have e1q : box p10 (.rows [[IV.str name, .slice p9 0 1, .int .i64 0, .int .i64 0, .int .i64 0, .int .i64 0]] 88 6 false) = box p10 (quO ⟨name, 0, 0, 0, 0, [ops]⟩ (.slice p9 0 1)) := rfl
      have S := by simpa only [mc0, mn0, List.getD_cons_zero, List.getD_cons_succ, ds0, dz0, ca0, na0] using Sp.sel S 3 [1, 2, 0] (by simp only [lc0]; omega) (by decide) (by decide)
      have S := (qu_un (q := ⟨name, 0, 0, 0, 0, [ops]⟩) S zt).a2one
      have S := by simpa only [mc0, mn0, List.getD_cons_zero, List.getD_cons_succ, ds0, dz0, ca0, na0] using Sp.sel S 4 [3, 0, 1, 2] (by simp only [lc0]; omega) (by decide) (by decide)
      have S := S.a2join
      have hdn' := hg.dn
      have S := by simpa only [mc0, mn0, List.getD_cons_zero, List.getD_cons_succ, ds0, dz0, ca0, na0] using Sp.sel S 3 [2, 1, 0] (by simp only [lc0]; omega) (by decide) (by decide)
      refine callA_of (ask_c (p := p10) (st := { st with l := st.l ++ [⟨name, 0, 0, 0, 0, [ops]⟩] }) (i := st.l.length) (q := ⟨name, 0, 0, 0, 0, [ops]⟩) S hv (by show (st.l ++ [_])[st.l.length]? = _; simp) (by rw [← hll]; simp) f0 f1 hg.n0 (by show st.n ≤ 1000000000000; omega) hg.t0 hg.t1 (Int.le_refl 0) sv0 sv1 (by show (st.l ++ [_]).length ≤ 1000000; simp; omega) (by show st.done.length + 1 ≤ 1000000; omega) (by show st.sent.length ≤ 1000000; omega) (by show name.length ≤ 1048576; have := (okName_ne hn).2; omega)) ?_
      clear S
      rintro r13 g13 W
      try simp (disch := (first | exact dA | fail)) only [go_sem, Nat.reduceBEq, Nat.reduceAdd, reduceIte]
      have hw : wantI first servers ops name st = (againS first servers { st with l := st.l ++ [⟨name, 0, 0, 0, 0, [ops]⟩] } st.l.length, 0) := by
       unfold wantI
       rw [hfn, hfn2]
       simp only [if_neg h16]
      rw [hw]
      exact ⟨rfl, W⟩
end
end Go.Proofs.YtaoffieemecioaaDoor



set_option maxRecDepth 20000
namespace Go.Proofs.YtaoffieemecioaaDoor
open Go Go.IW
section
attribute [local go_sem] List.getElem?_cons_zero List.getElem?_cons_succ Option.bind_some List.map_cons List.map_nil Nat.zero_add if_true List.getD_cons_zero List.getD_cons_succ List.contains_cons List.contains_nil Bool.or_true Bool.true_or Bool.or_false Bool.false_or Bool.not_true Bool.not_false true_and and_true rowA_whole mid_get rowO_rows cellO_rows upd_ne Nat.add_assoc Nat.add_zero List.all_cons List.all_nil one_bool one_int one_str one_ptr one_nilptr one_slice one_eslice one_nilslice one_func one_iface one_niliface Bool.and_true Bool.and_self List.length_cons List.length_nil Nat.one_ne_zero Nat.succ_ne_zero if_false List.set_cons_zero List.set_cons_succ lay_nil lay_1 lay_w Option.map_some cells_one rowA_some List.drop_succ_cons List.drop_zero List.take_succ_cons List.take_zero

def hearI (first : Int) (servers : List Int) (from_ port : Int) (bs : Tx) (st : Rs) : Rs :=
 if (decR bs).2 ≠ 0 ∨ port ≠ 53 then st else
 match st.l.findIdx? (hearQ (decR bs).1 from_) with
 | none => st
 | some i => if goodR (decR bs).1 = true then
   { st with cache := if 0 < (decR bs).1.ttl then keepK st.now (decR bs).1 (freshK st.now st.cache) else st.cache, l := st.l.eraseIdx i, done := st.done ++ (match st.l[i]? with | some q => endD (decR bs).1.code (decR bs).1.zs q.tickets | none => []) }
  else againS first servers st i
set_option maxHeartbeats 4000000 in
theorem hear_c {h : IH} {L : List As} {r : Nat} {vs vb : IV} {first ops from_ port : Int} {st : Rs} {servers : List Int} {bs : Tx} (W : IS h r vs first ops st L) (hv : ∀ g, Sp g L → SlR g 1 vs (intRows servers)) (hvb : ∀ g, Sp g L → SlR g 1 vb (strRows bs))
  (hbl : bs.length ≤ 1048576) (hg : Rg st) (f0 : 0 ≤ first) (f1 : first ≤ 65535) (sv0 : servers ≠ []) (sv1 : servers.length ≤ 4) (hc0 : st.cache.length ≤ 32) (hd : st.done.length + tks st.l ≤ 90000) (hx : st.sent.length + mu st.l ≤ 90000) (hn1 : st.n + mu st.l ≤ 900000000) :
  ICalls Tryd.prog 26 [.ptr r 0 0, .int .i64 from_, .int .i64 port, vb] h fun x h' => IS h' r vs first ops (hearI first servers from_ port bs st) L := by
 refine icalls (.of ok26) (Nat.le_of_ble_eq_true rfl) ?_
 unfold c26
 obtain ⟨vl, vk, vx, vd, rl, rk, rx, rd, S⟩ := W
 have hl16 := hg.l
 have hvb1 := (hvb h (S.dn 9)).one
 have hll := a2_len S 2 rfl
 try simp (disch := (first | exact dA | fail)) only [hvb1, go_sem, Nat.reduceBEq, Nat.reduceAdd, reduceIte]
 refine callA_of (implDecodeReply_c h vb bs (hvb h (S.dn 9)) hbl) ?_
 rintro r1 g1 ⟨v1, rfl, o1, E1⟩
 have S := S.ofOwn E1 o1
 have y1 := o1.sl.one
 have hdec : (decR bs).2 = 0 → (0 ≤ (decR bs).1.ttl ∧ (decR bs).1.ttl ≤ 86400) ∧ (decR bs).1.zs.length ≤ 8 := decR_ok
 have hho : hearI first servers from_ port bs st = (if (decR bs).2 ≠ 0 ∨ port ≠ 53 then st else
   match st.l.findIdx? (hearQ (decR bs).1 from_) with
   | none => st
   | some i => if goodR (decR bs).1 = true then
     { st with cache := if 0 < (decR bs).1.ttl then keepK st.now (decR bs).1 (freshK st.now st.cache) else st.cache, l := st.l.eraseIdx i, done := st.done ++ (match st.l[i]? with | some q => endD (decR bs).1.code (decR bs).1.zs q.tickets | none => []) }
    else againS first servers st i) := rfl
 rw [hho]
 clear hho
 generalize (decR bs).1 = R at S hdec ⊢
 generalize (decR bs).2 = C at hdec ⊢
 try simp (disch := (first | exact dA | fail)) only [y1, go_sem, Nat.reduceBEq, Nat.reduceAdd, reduceIte]
 refine Sp.zero S fun p8 g2 S E_g2 l_g2 => ?_
 have q0 := (S.bx 0 rfl).eq
 try simp (disch := (first | exact dA | fail)) only [q0, y1, go_sem, Nat.reduceBEq, Nat.reduceAdd, reduceIte]
 refine stw_of rfl rfl (by first | rfl | simp (disch := assumption) only [go_sem, cells_one, one_as]) fun g3 hg => ?_
 have l_g3 := n_set hg
 have S := S.set0 hg
 clear hg
 have q0 := (S.bx 0 rfl).eq
 try simp (disch := (first | exact dA | fail)) only [q0, y1, go_sem, Nat.reduceBEq, Nat.reduceAdd, reduceIte]
 by_cases hC : C ≠ 0 ∨ port ≠ 53
 ·rw [if_pos hC]
  have d1 : (!decide (C = 0) || !decide (port = 53)) = true := by
   rcases hC with h0 | h0
   ·rw [decide_eq_false h0]; rfl
   ·rw [decide_eq_false h0]; simp
  have q0 := (S.bx 0 rfl).eq
  try simp (disch := (first | exact dA | fail)) only [q0, d1, go_sem, Nat.reduceBEq, Nat.reduceAdd, reduceIte]
  exact ⟨vl, vk, vx, vd, rl, rk, rx, rd, S.drop.drop⟩
 ·rw [if_neg hC]
  simp only [not_or, Classical.not_not] at hC
  obtain ⟨rfl, rfl⟩ := hC
  obtain ⟨ht, hz⟩ := hdec rfl
  have q0 := (S.bx 0 rfl).eq
  have q2 := (S.bx 2 rfl).eq
  have s3 := S.slA 3 rfl
  have len_s3 := s3.lenF
  have z3 := s3.one
  try simp (disch := (first | exact dA | fail)) only [q0, q2, len_s3, z3, decide_true, Bool.not_true, go_sem, Nat.reduceBEq, Nat.reduceAdd, reduceIte]
  refine loop_at (fun m e g => ∃ k : Nat, m = st.l.length - k ∧ k ≤ st.l.length ∧ e 0 = .ptr r 0 0 ∧ e 1 = .int .i64 from_ ∧ e 8 = .ptr p8 0 0 ∧ e 27 = vl ∧ e 28 = .int .i64 (rl.length : Nat) ∧ e 29 = .int .i64 (k : Nat) ∧ (∀ y ∈ st.l.take k, hearQ R from_ y = false) ∧
   Sp g (box p8 (.rows [[.int .i64 R.id, .int .i64 R.code, .int .i64 R.ttl, .str R.nm, v1]] 55 5 false) :: sl false 2 1 v1 (intRows R.zs) :: box r (rsO vs first st.now ops st.n vl vk vx vd) :: sl true 85 1 vl rl :: all2 quR rl st.l :: sl false 40 3 vd rd :: all2 dnR rd st.done ::
    sl true 111 4 vk rk :: all2 kiR rk st.cache :: sl false 49 2 vx rx :: all2 sdR rx st.sent :: L)) st.l.length ?_ ?_
  ·refine ⟨0, by omega, by omega, ?_⟩
   try simp (disch := (first | exact dA | fail)) only [go_sem, Nat.reduceBEq, Nat.reduceAdd, reduceIte]
   exact ⟨rfl, by simp, S⟩
  ·clear S
   rintro m e g ⟨k, rfl, hk, e0, e1, e8, e27, e28, e29, hno, S⟩
   try simp (disch := (first | exact dA | fail)) only [e0, e1, e8, e27, e28, e29, go_sem, Nat.reduceBEq, Nat.reduceAdd, reduceIte]
   refine test_dec (fun hb => ?_) (fun hb => ?_)
   ·obtain ⟨x, hxk⟩ : ∃ x, st.l[k]? = some x := ⟨_, List.getElem?_eq_getElem (by omega : k < st.l.length)⟩
    obtain ⟨p, vt0, hrow, hbp, _⟩ := qu_at S 4 rfl hxk
    have hbp' := hbp.eq
    obtain ⟨l, j, hia, hlj, har⟩ := (S.slA 3 rfl).at hrow .i64
    have hce := cellO_row har
    have w1 : wr .i64 ((k : Int) + 1) = ((k + 1 : Nat) : Int) := by rw [wr64 _ (by omega)]; rfl
    have hz1 := (S.slA 1 rfl).lenF
    rw [intRows_len] at hz1
    have hz2 := (S.slA 1 rfl).one
    have hxm := hg.q x (List.mem_of_getElem? hxk)
    have hdn := hg.dn
    have htk := sum_mem (fun q : Qn => q.tickets.length) hxk
    simp only [tks] at hd
    simp only [Hold.p]
    rw [vc_skip]
    show vc _ _ _ _ _
    rw [vc_seq, vc_block]
    refine vc_split 4 (fun e g => ∃ va p12, e 0 = .ptr r 0 0 ∧ e 8 = .ptr p8 0 0 ∧ e 11 = .ptr p 0 0 ∧ e 12 = .ptr p12 0 0 ∧ va.one = true ∧ hearQ R from_ x = true ∧ goodR R = true ∧
     Sp g (box p12 (.rows [kiRow ⟨R.nm, R.code, R.zs, st.now + 1000 * R.ttl⟩ va] 111 4 false) :: box p8 (.rows [[.int .i64 R.id, .int .i64 R.code, .int .i64 R.ttl, .str R.nm, v1]] 55 5 false) :: sl false 2 1 va (intRows R.zs) :: box r (rsO vs first st.now ops st.n vl vk vx vd) :: sl true 85 1 vl rl :: all2 quR rl st.l :: sl false 40 3 vd rd :: all2 dnR rd st.done ::
    sl true 111 4 vk rk :: all2 kiR rk st.cache :: sl false 49 2 vx rx :: all2 sdR rx st.sent :: L)) ?_ ?_
    ·simp only [CC.split]
     have q0 := (S.bx 0 rfl).eq
     try simp (disch := (first | exact dA | fail)) only [q0, e0, e1, e8, e27, e28, e29, hia, hce, hbp', go_sem, Nat.reduceBEq, Nat.reduceAdd, reduceIte]
     refine test_of (fun hc => ?_) (fun hc => ?_)
     ·have hq : hearQ R from_ x = false := by
       unfold hearQ
       simp only [Bool.or_eq_true, Bool.not_eq_true', decide_eq_false_iff_not] at hc
       rcases hc with (h1 | h1) | h1
       ·simp [h1]
       ·simp [h1]
       ·simp [h1]
      try simp (disch := (first | exact dA | fail)) only [e0, e1, e8, e27, e28, e29, w1, go_sem, Nat.reduceBEq, Nat.reduceAdd, reduceIte]
      exact ⟨st.l.length - (k + 1), by omega, k + 1, rfl, by omega, rfl, take_no hno hxk hq, S⟩
     ·have hq : hearQ R from_ x = true := by
       unfold hearQ
       simp only [Bool.or_eq_false_iff, Bool.not_eq_false', decide_eq_true_eq] at hc
       simp [hc.1.1, hc.1.2, hc.2]
      have hqn : x.name = R.nm := by
       simp only [Bool.or_eq_false_iff, Bool.not_eq_false', decide_eq_true_eq] at hc
       exact hc.2
      have t0 := hg.t0
      have t1 := hg.t1
      have x1 : wr .i64 (R.ttl * 1000) = 1000 * R.ttl := by rw [wr64 _ (by omega), Int.mul_comm]
      have x2 : wr .i64 (st.now + 1000 * R.ttl) = st.now + 1000 * R.ttl := wr64 _ (by omega)
      try simp (disch := (first | exact dA | fail)) only [e0, e1, e8, go_sem, Nat.reduceBEq, Nat.reduceAdd, reduceIte]
      refine Sp.zero S fun p12 g5 S E_g5 l_g5 => ?_
      have hbq := (hbp.ext E_g5).eq
      have q1 := (S.bx 1 rfl).eq
      try simp (disch := (first | exact dA | fail)) only [q1, e0, e1, e8, hz1, go_sem, Nat.reduceBEq, Nat.reduceAdd, reduceIte]
      refine test_of (fun hgd => ?_) (fun hgd => ?_)
      ·have hgd' : goodR R = true := by unfold goodR; rw [hgd]; rfl
       have hcd : R.code = 0 := by
        simp only [Bool.and_eq_true, decide_eq_true_eq] at hgd; exact hgd.1
       have q0 := (S.bx 0 rfl).eq
       have q1 := (S.bx 1 rfl).eq
       have q3 := (S.bx 3 rfl).eq
       try simp (disch := (first | exact dA | fail)) only [q0, q1, q3, e0, e1, e8, hz2, hbq, x1, x2, ca0, na0, lay_p, go_sem, Nat.reduceBEq, Nat.reduceAdd, reduceIte]
       refine stw_of rfl rfl (by first | rfl | simp (disch := assumption) only [go_sem, cells_one, one_as]) fun g6 hg => ?_
       have l_g6 := n_set hg
       have S := S.set0 hg
       clear hg
       try simp (disch := (first | exact dA | fail)) only [e0, e8, hq, hgd', hz2, go_sem, Nat.reduceBEq, Nat.reduceAdd, reduceIte]
       refine ⟨v1, p12, rfl, hz2, ?_⟩
       rw [hqn] at S
       unfold kiRow
       rw [hcd] at S ⊢
       exact S
      ·skip
       have q1 := (S.bx 1 rfl).eq
       try simp (disch := (first | exact dA | fail)) only [q1, e0, e1, e8, hz1, go_sem, Nat.reduceBEq, Nat.reduceAdd, reduceIte]
       refine test_of (fun hgd2 => ?_) (fun hgd2 => ?_)
       ·have hgd' : goodR R = true := by unfold goodR; rw [hgd2, Bool.or_true]
        have hcd : R.code = 20 ∧ R.zs = [] := by
         simp only [Bool.and_eq_true, decide_eq_true_eq] at hgd2
         exact ⟨hgd2.1, List.length_eq_zero_iff.1 (by omega)⟩
        have q0 := (S.bx 0 rfl).eq
        have q1 := (S.bx 1 rfl).eq
        have q3 := (S.bx 3 rfl).eq
        try simp (disch := (first | exact dA | fail)) only [q0, q1, q3, e0, e1, e8, hz2, hbq, x1, x2, ca0, na0, lay_p, go_sem, Nat.reduceBEq, Nat.reduceAdd, reduceIte]
        refine stw_of rfl rfl (by first | rfl | simp (disch := assumption) only [go_sem, cells_one, one_as]) fun g6 hg => ?_
        have l_g6 := n_set hg
        have S := S.set0 hg
        clear hg
        try simp (disch := (first | exact dA | fail)) only [e0, e8, hq, hgd', go_sem, Nat.reduceBEq, Nat.reduceAdd, reduceIte]
        refine ⟨.nilslice, p12, rfl, rfl, ?_⟩
        rw [hqn] at S
        unfold kiRow
        rw [hcd.2]
        have S := S.slNil (x := false) (el := 2) (sz := 1)
        have S := by simpa only [mc0, mn0, List.getD_cons_zero, List.getD_cons_succ, ds0, dz0, ca0, na0] using Sp.sel S 4 [1, 2, 0] (by simp only [lc0]; omega) (by decide) (by decide)
        rw [hcd.1] at S ⊢
        exact S
       ·have hgd' : goodR R = false := by unfold goodR; rw [hgd, hgd2]; rfl
        try simp (disch := (first | exact dA | fail)) only [e0, e1, e8, go_sem, Nat.reduceBEq, Nat.reduceAdd, reduceIte]
        have S := S.drop.drop.drop
        refine callA_of (ask_c S hv hxk hrow f0 f1 hg.n0 (by omega) hg.t0 hg.t1 hxm.1 sv0 sv1 (by omega) (by omega) (by omega) (by have := (okName_ne hxm.2.2.1).2; omega)) ?_
        clear S
        rintro r6 g6 W
        try simp (disch := (first | exact dA | fail)) only [go_sem, Nat.reduceBEq, Nat.reduceAdd, reduceIte]
        rw [findIdx_at hno hxk hq]
        simp only [hgd', if_false, Bool.false_eq_true]
        exact W
    ·clear S e0 e1 e8 hz2 hz1 hbp'
     rintro e g ⟨va, p12, e0, e8, e11, e12, hva1, hq, hgd, S⟩
     rw [findIdx_at hno hxk hq]
     simp only [hgd, hxk, if_true]
     unfold kiRow at S
     simp only [CC.split]
     have q0 := (S.bx 0 rfl).eq
     have q1 := (S.bx 1 rfl).eq
     try simp (disch := (first | exact dA | fail)) only [q0, q1, e0, e8, e11, e12, go_sem, Nat.reduceBEq, Nat.reduceAdd, reduceIte]
     have S := by simpa only [mc0, mn0, List.getD_cons_zero, List.getD_cons_succ, ds0, dz0, ca0, na0] using Sp.sel S 12 [3, 4, 5, 6, 7, 0, 1, 2, 8, 9, 10, 11] (by simp only [lc0]; omega) (by decide) (by decide)
     refine callA_of (ends_c (zs := R.zs) (code := R.code) S (fun g S => S.slA 2 rfl) hxk hrow (by omega) (by omega) (by omega)) ?_
     clear S
     rintro r7 g7 ⟨vl7, vd7, rl7, rd7, S⟩
     have q6 := (S.bx 6 rfl).eq
     try simp (disch := (first | exact dA | fail)) only [q6, e0, e8, e11, e12, go_sem, Nat.reduceBEq, Nat.reduceAdd, reduceIte]
     refine test_dec (fun httl => ?_) (fun httl => ?_)
     ·have hkc : (if 0 < R.ttl then keepK st.now R (freshK st.now st.cache) else st.cache) = keepK st.now R (freshK st.now st.cache) := if_pos httl
      rw [hkc]
      clear hkc
      have S := by simpa only [mc0, mn0, List.getD_cons_zero, List.getD_cons_succ, ds0, dz0, ca0, na0] using Sp.sel S 12 [0, 8, 9, 1, 2, 3, 4, 5, 6, 7, 10, 11] (by simp only [lc0]; omega) (by decide) (by decide)
      try simp (disch := (first | exact dA | fail)) only [e0, e8, e11, e12, go_sem, Nat.reduceBEq, Nat.reduceAdd, reduceIte]
      refine callA_of (clean_c S (Nat.le_trans hc0 (by decide))) ?_
      clear S
      rintro r8 g8 ⟨vc8, rk8, S⟩
      have hfl : (freshK st.now st.cache).length ≤ 32 := Nat.le_trans (List.length_filter_le _ _) hc0
      have hkl := a2_len S 2 rfl
      have hkk : keepK st.now R (freshK st.now st.cache) = (if 32 ≤ (freshK st.now st.cache).length then (freshK st.now st.cache).drop 1 else freshK st.now st.cache) ++ [⟨R.nm, R.code, R.zs, st.now + 1000 * R.ttl⟩] := by unfold keepK; rw [if_pos httl]
      rw [hkk]
      clear hkk
      generalize freshK st.now st.cache = ck at S hfl hkl ⊢
      by_cases h32 : 32 ≤ ck.length
      ·have d3 : decide ((32 : Int) ≤ rk8.length) = true := decide_eq_true (by omega)
       rw [if_pos h32]
       obtain ⟨v15, hs15, a15⟩ := (S.slA 1 rfl).lo (a := 1) (q := .i64) (by omega)
       have hs15' : slcF g8 4 vc8 (some (.int .i64 1)) none = some v15 := hs15
       have q0 := (S.bx 0 rfl).eq
       have s1 := S.slA 1 rfl
       have len_s1 := s1.lenF
       have z1 := s1.one
       try simp (disch := (first | exact dA | fail)) only [q0, len_s1, z1, e0, e8, e11, e12, d3, hs15', Option.map_none, Option.map_some, go_sem, Nat.reduceBEq, Nat.reduceAdd, reduceIte]
       refine callA_of (cloneK_c S v15 _ a15 (by rw [List.length_drop]; omega)) ?_
       clear S
       rintro v16 g16 ⟨y16, S⟩
       have q1 := (S.bx 1 rfl).eq
       try simp (disch := (first | exact dA | fail)) only [q1, e0, e8, e11, e12, y16, go_sem, Nat.reduceBEq, Nat.reduceAdd, reduceIte]
       refine st1_of (Nat.le_of_ble_eq_true rfl) (by first | rfl | assumption) fun g17 hg => ?_
       have l_g17 := n_set hg
       have S := S.set1 hg
       clear hg
       simp only [sz0, ss0, ts0, tz0, ds0, dz0, ca0, na0, Nat.reduceAdd] at S
       have S := by simpa only [mc0, mn0, List.getD_cons_zero, List.getD_cons_succ, ds0, dz0, ca0, na0] using Sp.sel S 4 [1, 0, 3] (by simp only [lc0]; omega) (by decide) (by decide)
       have S := by simpa only [mc0, mn0, List.getD_cons_zero, List.getD_cons_succ, ds0, dz0, ca0, na0] using Sp.sel S 3 [2, 0, 1] (by simp only [lc0]; omega) (by decide) (by decide)
       have S := S.a2erase 0
       have er : rk8.eraseIdx 0 = rk8.drop 1 := by cases rk8 <;> simp
       have ec : ck.eraseIdx 0 = ck.drop 1 := by cases ck <;> simp
       rw [er, ec] at S
       have hl15 : (rk8.drop 1).length ≤ 1000 := by rw [List.length_drop]; omega
       clear hs15 hs15' a15
       generalize rk8.drop 1 = rk9 at S hl15
       generalize ck.drop 1 = ck at S ⊢
       have q1 := (S.bx 1 rfl).eq
       have q7 := (S.bx 7 rfl).eq
       try simp (disch := (first | exact dA | fail)) only [q1, q7, e0, e8, e11, e12, hva1, go_sem, Nat.reduceBEq, Nat.reduceAdd, reduceIte]
       refine Sp.bsl1 S (by first | rfl | (rw [cells_one (by assumption)]; rfl)) (by first | rfl | simp (disch := assumption) only [go_sem, cells_one, one_as]) fun p20 g20 S E_g20 l_g20 => ?_
       try simp only [cells_agg, cells_int, cells_bool, cells_ptr, cells_str] at S
       have q0 := (S.bx 0 rfl).eq
       have q2 := (S.bx 2 rfl).eq
       have q8 := (S.bx 8 rfl).eq
       have s3 := S.slA 3 rfl
       have len_s3 := s3.lenF
       have z3 := s3.one
       try simp (disch := (first | exact dA | fail)) only [q0, q2, q8, len_s3, z3, e0, e8, e11, e12, go_sem, Nat.reduceBEq, Nat.reduceAdd, reduceIte]
       have S := by simpa only [mc0, mn0, List.getD_cons_zero, List.getD_cons_succ, ds0, dz0, ca0, na0] using Sp.sel S 4 [0, 3, 1, 2] (by simp only [lc0]; omega) (by decide) (by decide)
       refine S.app1 (y := true) (b := 56) (by omega) ?_
       clear S
       intro v21 g21 S z21
       have q2 := (S.bx 2 rfl).eq
       try simp (disch := (first | exact dA | fail)) only [q2, e0, e8, e11, e12, z21, go_sem, Nat.reduceBEq, Nat.reduceAdd, reduceIte]
       refine st1_of (Nat.le_of_ble_eq_true rfl) (by first | rfl | assumption) fun g22 hg => ?_
       have l_g22 := n_set hg
       have S := S.set2 hg
       clear hg
       simp only [sz0, ss0, ts0, tz0, ds0, dz0, ca0, na0, Nat.reduceAdd] at S
       try simp (disch := (first | exact dA | fail)) only [go_sem, Nat.reduceBEq, Nat.reduceAdd, reduceIte]
       have S := by simpa only [mc0, mn0, List.getD_cons_zero, List.getD_cons_succ, ds0, dz0, ca0, na0] using Sp.sel S 10 [9, 1, 0, 2, 3, 4, 5, 6] (by simp only [lc0]; omega) (by decide) (by decide)
       have S := (ki_un (k := ⟨R.nm, R.code, R.zs, st.now + 1000 * R.ttl⟩) S hva1).a2one
       have S := by simpa only [mc0, mn0, List.getD_cons_zero, List.getD_cons_succ, ds0, dz0, ca0, na0] using Sp.sel S 2 [1, 0] (by simp only [lc0]; omega) (by decide) (by decide)
       have S := S.a2join
       have S := by simpa only [mc0, mn0, List.getD_cons_zero, List.getD_cons_succ, ds0, dz0, ca0, na0] using Sp.sel S 7 [2, 3, 4, 5, 6, 1, 0] (by simp only [lc0]; omega) (by decide) (by decide)
       exact ⟨vl7, v21, vx, vd7, rl7, _, rx, rd7, S⟩
      ·have d3 : decide ((32 : Int) ≤ rk8.length) = false := decide_eq_false (by omega)
       rw [if_neg h32]
       have S := by simpa only [mc0, mn0, List.getD_cons_zero, List.getD_cons_succ, ds0, dz0, ca0, na0] using Sp.sel S 3 [2, 0, 1] (by simp only [lc0]; omega) (by decide) (by decide)
       have q1 := (S.bx 1 rfl).eq
       have q7 := (S.bx 7 rfl).eq
       have s2 := S.slA 2 rfl
       have len_s2 := s2.lenF
       have z2 := s2.one
       try simp (disch := (first | exact dA | fail)) only [q1, q7, len_s2, z2, e0, e8, e11, e12, hva1, d3, go_sem, Nat.reduceBEq, Nat.reduceAdd, reduceIte]
       refine Sp.bsl1 S (by first | rfl | (rw [cells_one (by assumption)]; rfl)) (by first | rfl | simp (disch := assumption) only [go_sem, cells_one, one_as]) fun p20 g20 S E_g20 l_g20 => ?_
       try simp only [cells_agg, cells_int, cells_bool, cells_ptr, cells_str] at S
       have q0 := (S.bx 0 rfl).eq
       have q2 := (S.bx 2 rfl).eq
       have q8 := (S.bx 8 rfl).eq
       have s3 := S.slA 3 rfl
       have len_s3 := s3.lenF
       have z3 := s3.one
       try simp (disch := (first | exact dA | fail)) only [q0, q2, q8, len_s3, z3, e0, e8, e11, e12, go_sem, Nat.reduceBEq, Nat.reduceAdd, reduceIte]
       have S := by simpa only [mc0, mn0, List.getD_cons_zero, List.getD_cons_succ, ds0, dz0, ca0, na0] using Sp.sel S 4 [0, 3, 1, 2] (by simp only [lc0]; omega) (by decide) (by decide)
       refine S.app1 (y := true) (b := 56) (by omega) ?_
       clear S
       intro v21 g21 S z21
       have q2 := (S.bx 2 rfl).eq
       try simp (disch := (first | exact dA | fail)) only [q2, e0, e8, e11, e12, z21, go_sem, Nat.reduceBEq, Nat.reduceAdd, reduceIte]
       refine st1_of (Nat.le_of_ble_eq_true rfl) (by first | rfl | assumption) fun g22 hg => ?_
       have l_g22 := n_set hg
       have S := S.set2 hg
       clear hg
       simp only [sz0, ss0, ts0, tz0, ds0, dz0, ca0, na0, Nat.reduceAdd] at S
       try simp (disch := (first | exact dA | fail)) only [go_sem, Nat.reduceBEq, Nat.reduceAdd, reduceIte]
       have S := by simpa only [mc0, mn0, List.getD_cons_zero, List.getD_cons_succ, ds0, dz0, ca0, na0] using Sp.sel S 10 [9, 1, 0, 2, 3, 4, 5, 6] (by simp only [lc0]; omega) (by decide) (by decide)
       have S := (ki_un (k := ⟨R.nm, R.code, R.zs, st.now + 1000 * R.ttl⟩) S hva1).a2one
       have S := by simpa only [mc0, mn0, List.getD_cons_zero, List.getD_cons_succ, ds0, dz0, ca0, na0] using Sp.sel S 2 [1, 0] (by simp only [lc0]; omega) (by decide) (by decide)
       have S := S.a2join
       have S := by simpa only [mc0, mn0, List.getD_cons_zero, List.getD_cons_succ, ds0, dz0, ca0, na0] using Sp.sel S 7 [2, 3, 4, 5, 6, 1, 0] (by simp only [lc0]; omega) (by decide) (by decide)
       exact ⟨vl7, v21, vx, vd7, rl7, _, rx, rd7, S⟩
     ·have hkc : (if 0 < R.ttl then keepK st.now R (freshK st.now st.cache) else st.cache) = st.cache := if_neg httl
      rw [hkc]
      try simp (disch := (first | exact dA | fail)) only [go_sem, Nat.reduceBEq, Nat.reduceAdd, reduceIte]
      have S := by simpa only [mc0, mn0, List.getD_cons_zero, List.getD_cons_succ, ds0, dz0, ca0, na0] using Sp.sel S 12 [0, 1, 2, 3, 4, 8, 9, 10, 11] (by simp only [lc0]; omega) (by decide) (by decide)
      exact ⟨vl7, vk, vx, vd7, rl7, rk, rx, rd7, S⟩
   ·have hk2 : k = st.l.length := by omega
    subst hk2
    rw [List.take_length] at hno
    have hfn : st.l.findIdx? (hearQ R from_) = none := by simpa using hno
    rw [hfn]
    try simp (disch := (first | exact dA | fail)) only [e0, e1, e8, go_sem, Nat.reduceBEq, Nat.reduceAdd, reduceIte]
    exact ⟨vl, vk, vx, vd, rl, rk, rx, rd, S.drop.drop⟩
end
end Go.Proofs.YtaoffieemecioaaDoor



set_option maxRecDepth 20000
namespace Go.Proofs.YtaoffieemecioaaDoor
open Go Go.IW
section
attribute [local go_sem] List.getElem?_cons_zero List.getElem?_cons_succ Option.bind_some List.map_cons List.map_nil Nat.zero_add if_true List.getD_cons_zero List.getD_cons_succ List.contains_cons List.contains_nil Bool.or_true Bool.true_or Bool.or_false Bool.false_or Bool.not_true Bool.not_false true_and and_true rowA_whole mid_get rowO_rows cellO_rows upd_ne Nat.add_assoc Nat.add_zero List.all_cons List.all_nil one_bool one_int one_str one_ptr one_nilptr one_slice one_eslice one_nilslice one_func one_iface one_niliface Bool.and_true Bool.and_self List.length_cons List.length_nil Nat.one_ne_zero Nat.succ_ne_zero if_false List.set_cons_zero List.set_cons_succ lay_nil lay_1 lay_w Option.map_some cells_one rowA_some List.drop_succ_cons List.drop_zero List.take_succ_cons List.take_zero

set_option maxHeartbeats 2000000 in
theorem tell_c {h : IH} {L : List As} {r : Nat} {vs : IV} {first ops code : Int} {st : Rs} (W : IS h r vs first ops st L) (hc : st.cache.length ≤ 32) :
  ICalls Tryd.prog 30 [.ptr r 0 0, .agg [.int .i64 code, .nilslice, .nilslice, .int .i64 0, .int .i64 0]] h fun x h' => ∃ vx vd rx rd vl vk rl rk, x = .agg [.int .i64 code, vx, vd, .int .i64 (freshS st).cache.length, .int .i64 st.l.length] ∧ vx.one = true ∧ vd.one = true ∧
   Sp h' (box r (rsO vs first st.now ops st.n vl vk .nilslice .nilslice) :: sl true 85 1 vl rl :: all2 quR rl st.l :: sl true 111 4 vk rk :: all2 kiR rk (freshS st).cache :: sl false 49 2 vx rx :: all2 sdR rx st.sent :: sl false 40 3 vd rd :: all2 dnR rd st.done :: L) := by
 refine icalls (.of ok30) (Nat.le_of_ble_eq_true rfl) ?_
 unfold c30
 obtain ⟨vl, vk, vx, vd, rl, rk, rx, rd, S⟩ := W
 try simp (disch := (first | exact dA | fail)) only [go_sem, Nat.reduceBEq, Nat.reduceAdd, reduceIte]
 refine Sp.bxA S (by first | rfl | (rw [cells_one (by assumption)]; rfl)) (by first | rfl | simp (disch := assumption) only [go_sem, cells_one, one_as]) fun p3 g1 S E_g1 l_g1 => ?_
 try simp (disch := (first | exact dA | fail)) only [go_sem, Nat.reduceBEq, Nat.reduceAdd, reduceIte]
 refine Sp.zero S fun p4 g2 S E_g2 l_g2 => ?_
 try simp (disch := (first | exact dA | fail)) only [go_sem, Nat.reduceBEq, Nat.reduceAdd, reduceIte]
 have S := by simpa only [mc0, mn0, List.getD_cons_zero, List.getD_cons_succ, ds0, dz0, ca0, na0] using Sp.sel S 11 [2, 7, 8, 0, 1, 3, 4, 5, 6, 9, 10] (by simp only [lc0]; omega) (by decide) (by decide)
 refine callA_of (clean_c S (Nat.le_trans hc (by decide))) ?_
 clear S
 rintro r3 g3 ⟨vk3, rk3, S⟩
 have hfs : (freshS st).cache = freshK st.now st.cache := rfl
 rw [hfs]
 have hkl := a2_len S 2 rfl
 have hql := a2_len S 6 rfl
 generalize freshK st.now st.cache = ck at S hkl ⊢
 have z7 := (S.slA 7 rfl).one
 have z9 := (S.slA 9 rfl).one
 have q0 := (S.bx 0 rfl).eq
 have q3 := (S.bx 3 rfl).eq
 have q4 := (S.bx 4 rfl).eq
 try simp (disch := (first | exact dA | fail)) only [q0, q3, q4, z7, z9, go_sem, Nat.reduceBEq, Nat.reduceAdd, reduceIte]
 refine st1_of (Nat.le_of_ble_eq_true rfl) (by first | rfl | assumption) fun g4 hg => ?_
 have l_g4 := n_set hg
 have S := S.set4 hg
 clear hg
 simp only [sz0, ss0, ts0, tz0, ds0, dz0, ca0, na0, Nat.reduceAdd] at S
 have q0 := (S.bx 0 rfl).eq
 have q3 := (S.bx 3 rfl).eq
 have q4 := (S.bx 4 rfl).eq
 try simp (disch := (first | exact dA | fail)) only [q0, q3, q4, z7, z9, go_sem, Nat.reduceBEq, Nat.reduceAdd, reduceIte]
 refine st1_of (Nat.le_of_ble_eq_true rfl) (by first | rfl | assumption) fun g5 hg => ?_
 have l_g5 := n_set hg
 have S := S.set4 hg
 clear hg
 simp only [sz0, ss0, ts0, tz0, ds0, dz0, ca0, na0, Nat.reduceAdd] at S
 have q0 := (S.bx 0 rfl).eq
 have q3 := (S.bx 3 rfl).eq
 have q4 := (S.bx 4 rfl).eq
 try simp (disch := (first | exact dA | fail)) only [q0, q3, q4, z7, z9, go_sem, Nat.reduceBEq, Nat.reduceAdd, reduceIte]
 refine st1_of (Nat.le_of_ble_eq_true rfl) (by first | rfl | assumption) fun g6 hg => ?_
 have l_g6 := n_set hg
 have S := S.set0 hg
 clear hg
 simp only [sz0, ss0, ts0, tz0, ds0, dz0, ca0, na0, Nat.reduceAdd] at S
 have q0 := (S.bx 0 rfl).eq
 have q3 := (S.bx 3 rfl).eq
 have q4 := (S.bx 4 rfl).eq
 try simp (disch := (first | exact dA | fail)) only [q0, q3, q4, z7, z9, go_sem, Nat.reduceBEq, Nat.reduceAdd, reduceIte]
 refine st1_of (Nat.le_of_ble_eq_true rfl) (by first | rfl | assumption) fun g7 hg => ?_
 have l_g7 := n_set hg
 have S := S.set0 hg
 clear hg
 simp only [sz0, ss0, ts0, tz0, ds0, dz0, ca0, na0, Nat.reduceAdd] at S
 have q0 := (S.bx 0 rfl).eq
 have q3 := (S.bx 3 rfl).eq
 have q4 := (S.bx 4 rfl).eq
 have s1 := S.slA 1 rfl
 have len_s1 := s1.lenF
 have z1 := s1.one
 have s5 := S.slA 5 rfl
 have len_s5 := s5.lenF
 have z5 := s5.one
 try simp (disch := (first | exact dA | fail)) only [q0, q3, q4, len_s1, z1, len_s5, z5, hkl, hql, go_sem, Nat.reduceBEq, Nat.reduceAdd, reduceIte]
 refine st1_of (Nat.le_of_ble_eq_true rfl) (by first | rfl | assumption) fun g8 hg => ?_
 have l_g8 := n_set hg
 have S := S.set4 hg
 clear hg
 simp only [sz0, ss0, ts0, tz0, ds0, dz0, ca0, na0, Nat.reduceAdd] at S
 have q0 := (S.bx 0 rfl).eq
 have q3 := (S.bx 3 rfl).eq
 have q4 := (S.bx 4 rfl).eq
 have s5 := S.slA 5 rfl
 have len_s5 := s5.lenF
 have z5 := s5.one
 try simp (disch := (first | exact dA | fail)) only [q0, q3, q4, len_s5, z5, hkl, hql, go_sem, Nat.reduceBEq, Nat.reduceAdd, reduceIte]
 refine st1_of (Nat.le_of_ble_eq_true rfl) (by first | rfl | assumption) fun g9 hg => ?_
 have l_g9 := n_set hg
 have S := S.set4 hg
 clear hg
 simp only [sz0, ss0, ts0, tz0, ds0, dz0, ca0, na0, Nat.reduceAdd] at S
 have q0 := (S.bx 0 rfl).eq
 have q3 := (S.bx 3 rfl).eq
 have q4 := (S.bx 4 rfl).eq
 try simp (disch := (first | exact dA | fail)) only [q0, q3, q4, z7, z9, go_sem, Nat.reduceBEq, Nat.reduceAdd, reduceIte]
 refine stw_of rfl rfl (by first | rfl | simp (disch := assumption) only [go_sem, cells_one, one_as]) fun g10 hg => ?_
 have l_g10 := n_set hg
 have S := S.set3 hg
 clear hg
 have q0 := (S.bx 0 rfl).eq
 have q3 := (S.bx 3 rfl).eq
 have q4 := (S.bx 4 rfl).eq
 try simp (disch := (first | exact dA | fail)) only [q0, q3, q4, z7, z9, go_sem, Nat.reduceBEq, Nat.reduceAdd, reduceIte]
 refine ⟨vx, vd, rx, rd, vl, vk3, rl, rk3, rfl, z9, z7, ?_⟩
 have S := by simpa only [mc0, mn0, List.getD_cons_zero, List.getD_cons_succ, ds0, dz0, ca0, na0] using Sp.sel S 11 [0, 5, 6, 1, 2, 9, 10, 7, 8] (by simp only [lc0]; omega) (by decide) (by decide)
 exact S
def kindA (a : Int) : Int := if okAddr a = false then 0 else if a = 0 then 1 else if a.fdiv (2 ^ 24) = 127 then 2 else if a = 4294967295 then 4 else if a.fdiv (2 ^ 28) = 14 then 3 else if a.fdiv (2 ^ 28) = 15 then 5 else 6
theorem shr24 (a : Int) : ibin .shr (.int .i64 a) (.int .u64 24) = some (.int .i64 (a.fdiv (2 ^ 24))) := ib_shr (k := .i64) (a := a) (b := 24) .u64 (by decide)
theorem shr28 (a : Int) : ibin .shr (.int .i64 a) (.int .u64 28) = some (.int .i64 (a.fdiv (2 ^ 28))) := ib_shr (k := .i64) (a := a) (b := 28) .u64 (by decide)
theorem specAddrKind_c (h : IH) (a : Int) : ICalls Tryd.prog 21 [.int .i64 a] h fun r h' => r = .int .i64 (kindA a) ∧ h' = h := by
 refine icalls (.of ok21) (Nat.le_of_ble_eq_true rfl) ?_
 unfold c21 kindA
 try simp (disch := (first | exact dA | fail)) only [go_sem, Nat.reduceBEq, Nat.reduceAdd, reduceIte]
 refine callA_of (l02AddrOK_c _ a) ?_
 rintro r g1 ⟨rfl, rfl⟩
 have t1 := shr24 a
 have t2 := shr28 a
 cases c1 : okAddr a
 ·skip
  try simp (disch := (first | exact dA | fail)) only [go_sem, Nat.reduceBEq, Nat.reduceAdd, reduceIte]
 ·rw [if_neg (by decide)]
  by_cases c2 : a = 0
  ·have d2 : decide (a = 0) = true := decide_eq_true c2
   try simp (disch := (first | exact dA | fail)) only [d2, go_sem, Nat.reduceBEq, Nat.reduceAdd, reduceIte]
   rw [if_pos c2]
  have d2 : decide (a = 0) = false := decide_eq_false c2
  rw [if_neg c2]
  by_cases c3 : a.fdiv (2 ^ 24) = 127
  ·have d3 : decide (a.fdiv (2 ^ 24) = 127) = true := decide_eq_true c3
   try simp (disch := (first | exact dA | fail)) only [d2, t1, d3, go_sem, Nat.reduceBEq, Nat.reduceAdd, reduceIte]
   rw [if_pos c3]
  have d3 : decide (a.fdiv (2 ^ 24) = 127) = false := decide_eq_false c3
  rw [if_neg c3]
  by_cases c4 : a = 4294967295
  ·have d4 : decide (a = 4294967295) = true := decide_eq_true c4
   try simp (disch := (first | exact dA | fail)) only [d2, t1, d3, d4, go_sem, Nat.reduceBEq, Nat.reduceAdd, reduceIte]
   rw [if_pos c4]
  have d4 : decide (a = 4294967295) = false := decide_eq_false c4
  rw [if_neg c4]
  by_cases c5 : a.fdiv (2 ^ 28) = 14
  ·have d5 : decide (a.fdiv (2 ^ 28) = 14) = true := decide_eq_true c5
   try simp (disch := (first | exact dA | fail)) only [d2, t1, t2, d3, d4, d5, go_sem, Nat.reduceBEq, Nat.reduceAdd, reduceIte]
   rw [if_pos c5]
  have d5 : decide (a.fdiv (2 ^ 28) = 14) = false := decide_eq_false c5
  rw [if_neg c5]
  by_cases c6 : a.fdiv (2 ^ 28) = 15
  ·have d6 : decide (a.fdiv (2 ^ 28) = 15) = true := decide_eq_true c6
   try simp (disch := (first | exact dA | fail)) only [d2, t1, t2, d3, d4, d5, d6, go_sem, Nat.reduceBEq, Nat.reduceAdd, reduceIte]
   rw [if_pos c6]
  have d6 : decide (a.fdiv (2 ^ 28) = 15) = false := decide_eq_false c6
  rw [if_neg c6]
  try simp (disch := (first | exact dA | fail)) only [d2, t1, t2, d3, d4, d5, d6, go_sem, Nat.reduceBEq, Nat.reduceAdd, reduceIte]
theorem implAddrKind_c (h : IH) (a : Int) : ICalls Tryd.prog 47 [.int .i64 a] h fun r h' => r = .int .i64 (kindA a) ∧ h' = h := by
 refine icalls (.of ok47) (Nat.le_of_ble_eq_true rfl) ?_
 unfold c47 kindA
 try simp (disch := (first | exact dA | fail)) only [go_sem, Nat.reduceBEq, Nat.reduceAdd, reduceIte]
 refine callA_of (isAddr_c _ a) ?_
 rintro r g1 ⟨rfl, rfl⟩
 have t1 := shr24 a
 have t2 := shr28 a
 cases c1 : okAddr a
 ·skip
  try simp (disch := (first | exact dA | fail)) only [go_sem, Nat.reduceBEq, Nat.reduceAdd, reduceIte]
 ·rw [if_neg (by decide)]
  by_cases c2 : a = 0
  ·have d2 : decide (a = 0) = true := decide_eq_true c2
   try simp (disch := (first | exact dA | fail)) only [d2, go_sem, Nat.reduceBEq, Nat.reduceAdd, reduceIte]
   rw [if_pos c2]
  have d2 : decide (a = 0) = false := decide_eq_false c2
  rw [if_neg c2]
  by_cases c3 : a.fdiv (2 ^ 24) = 127
  ·have d3 : decide (a.fdiv (2 ^ 24) = 127) = true := decide_eq_true c3
   try simp (disch := (first | exact dA | fail)) only [d2, t1, d3, go_sem, Nat.reduceBEq, Nat.reduceAdd, reduceIte]
   rw [if_pos c3]
  have d3 : decide (a.fdiv (2 ^ 24) = 127) = false := decide_eq_false c3
  rw [if_neg c3]
  by_cases c4 : a = 4294967295
  ·have d4 : decide (a = 4294967295) = true := decide_eq_true c4
   have d5 : decide (a.fdiv (2 ^ 28) = 14) = false := decide_eq_false (by rw [c4]; decide)
   try simp (disch := (first | exact dA | fail)) only [d2, t1, t2, d3, d4, d5, go_sem, Nat.reduceBEq, Nat.reduceAdd, reduceIte]
   rw [if_pos c4]
  have d4 : decide (a = 4294967295) = false := decide_eq_false c4
  rw [if_neg c4]
  by_cases c5 : a.fdiv (2 ^ 28) = 14
  ·have d5 : decide (a.fdiv (2 ^ 28) = 14) = true := decide_eq_true c5
   try simp (disch := (first | exact dA | fail)) only [d2, t1, t2, d3, d4, d5, go_sem, Nat.reduceBEq, Nat.reduceAdd, reduceIte]
   rw [if_pos c5]
  have d5 : decide (a.fdiv (2 ^ 28) = 14) = false := decide_eq_false c5
  rw [if_neg c5]
  by_cases c6 : a.fdiv (2 ^ 28) = 15
  ·have d6 : decide (a.fdiv (2 ^ 28) = 15) = true := decide_eq_true c6
   try simp (disch := (first | exact dA | fail)) only [d2, t1, t2, d3, d4, d5, d6, go_sem, Nat.reduceBEq, Nat.reduceAdd, reduceIte]
   rw [if_pos c6]
  have d6 : decide (a.fdiv (2 ^ 28) = 15) = false := decide_eq_false c6
  rw [if_neg c6]
  try simp (disch := (first | exact dA | fail)) only [d2, t1, t2, d3, d4, d5, d6, go_sem, Nat.reduceBEq, Nat.reduceAdd, reduceIte]
def okCfg (servers : List Int) (first : Int) : Bool := (decide (1 ≤ servers.length) && decide (servers.length ≤ 4)) && (decide (0 ≤ first) && decide (first ≤ 65535)) && servers.all (fun a => decide (kindA a = 6))
theorem newResolver_c {h : IH} {L : List As} {vs : IV} {servers : List Int} {first : Int} (S : Sp h L) (hs : SlR h 1 vs (intRows servers)) (hm : servers.length ≤ 1048576) :
  ICalls Tryd.prog 23 [.agg [vs, .int .i64 first]] h fun x h' => ∃ r vs', x = .ptr r 0 0 ∧ Sp h' (box r (rsO vs' first 0 0 0 .nilslice .nilslice .nilslice .nilslice) :: ints vs' servers :: L) := by
 refine icalls (.of ok23) (Nat.le_of_ble_eq_true rfl) ?_
 unfold c23
 have y1 := hs.one
 try simp (disch := (first | exact dA | fail)) only [y1, go_sem, Nat.reduceBEq, Nat.reduceAdd, reduceIte]
 refine Sp.bxA S (by first | rfl | (rw [cells_one (by assumption)]; rfl)) (by first | rfl | simp (disch := assumption) only [go_sem, cells_one, one_as]) fun p1 g1 S E_g1 l_g1 => ?_
 have q0 := (S.bx 0 rfl).eq
 try simp (disch := (first | exact dA | fail)) only [q0, y1, go_sem, Nat.reduceBEq, Nat.reduceAdd, reduceIte]
 refine callA_of (cloneI_c S vs (intRows servers) (hs.ext E_g1) (by rw [intRows_len]; exact hm)) ?_
 clear S
 rintro v2 g2 ⟨y2, S⟩
 have q1 := (S.bx 1 rfl).eq
 try simp (disch := (first | exact dA | fail)) only [q1, y2, go_sem, Nat.reduceBEq, Nat.reduceAdd, reduceIte]
 refine st1_of (Nat.le_of_ble_eq_true rfl) (by first | rfl | assumption) fun g3 hg => ?_
 have l_g3 := n_set hg
 have S := S.set1 hg
 clear hg
 simp only [sz0, ss0, ts0, tz0, ds0, dz0, ca0, na0, Nat.reduceAdd] at S
 have q1 := (S.bx 1 rfl).eq
 try simp (disch := (first | exact dA | fail)) only [q1, y2, ca0, na0, lay_p, go_sem, Nat.reduceBEq, Nat.reduceAdd, reduceIte]
 refine Sp.bxA S (by first | rfl | (rw [cells_one (by assumption)]; rfl)) (by first | rfl | simp (disch := assumption) only [go_sem, cells_one, one_as]) fun p9 g9 S E_g9 l_g9 => ?_
 try simp (disch := (first | exact dA | fail)) only [go_sem, Nat.reduceBEq, Nat.reduceAdd, reduceIte]
 refine ⟨p9, v2, rfl, ?_⟩
 have S := by simpa only [mc0, mn0, List.getD_cons_zero, List.getD_cons_succ, ds0, dz0, ca0, na0] using Sp.sel S 3 [0, 1] (by simp only [lc0]; omega) (by decide) (by decide)
 exact S
end
end Go.Proofs.YtaoffieemecioaaDoor



set_option maxRecDepth 20000
namespace Go.Proofs.YtaoffieemecioaaDoor
open Go Go.IW
section
attribute [local go_sem] List.getElem?_cons_zero List.getElem?_cons_succ Option.bind_some List.map_cons List.map_nil Nat.zero_add if_true List.getD_cons_zero List.getD_cons_succ List.contains_cons List.contains_nil Bool.or_true Bool.true_or Bool.or_false Bool.false_or Bool.not_true Bool.not_false true_and and_true rowA_whole mid_get rowO_rows cellO_rows upd_ne Nat.add_assoc Nat.add_zero List.all_cons List.all_nil one_bool one_int one_str one_ptr one_nilptr one_slice one_eslice one_nilslice one_func one_iface one_niliface Bool.and_true Bool.and_self List.length_cons List.length_nil Nat.one_ne_zero Nat.succ_ne_zero if_false List.set_cons_zero List.set_cons_succ lay_nil lay_1 lay_w Option.map_some cells_one rowA_some List.drop_succ_cons List.drop_zero List.take_succ_cons List.take_zero

def hostB (a : Int) : Bool := decide (kindA a = 6)
theorem notHost_c (h : IH) (n : Int) : ICalls Tryd.prog 46 [.int .i64 n] h fun r h' => r = .bool (!hostB n) ∧ h' = h := by
 refine icalls (.of ok46) (Nat.le_of_ble_eq_true rfl) ?_
 unfold c46
 try simp (disch := (first | exact dA | fail)) only [go_sem, Nat.reduceBEq, Nat.reduceAdd, reduceIte]
 refine callA_of (implAddrKind_c h n) ?_
 rintro r h' ⟨rfl, rfl⟩
 try simp (disch := (first | exact dA | fail)) only [go_sem, Nat.reduceBEq, Nat.reduceAdd, reduceIte]
 rfl
theorem indexNo_c (h : IH) (v : IV) (zs : List Int) (hs : SlR h 1 v (intRows zs)) (hm : zs.length ≤ 1048576) :
  ICalls Tryd.prog 67 [v, .func 46 [] []] h fun r h' => (∃ n : Int, r = .int .i64 n ∧ decide (0 ≤ n) = !zs.all hostB) ∧ h' = h := by
 refine icalls (.of ok67) (Nat.le_of_ble_eq_true rfl) ?_
 unfold c67
 have hlen := hs.lenF
 rw [intRows_len] at hlen
 try simp (disch := (first | exact dA | fail)) only [hlen, go_sem, Nat.reduceBEq, Nat.reduceAdd, reduceIte]
 refine loop_at (fun n e h' => ∃ k, n = zs.length - k ∧ k ≤ zs.length ∧ e 0 = v ∧ e 1 = .func 46 [] [] ∧ e 7 = .int .i64 (zs.length : Nat) ∧ e 8 = .int .i64 (k : Nat) ∧ (zs.take k).all hostB = true ∧ h' = h) zs.length ?_ ?_
 ·refine ⟨0, by omega, by omega, ?_⟩
  try simp (disch := (first | exact dA | fail)) only [go_sem, Nat.reduceBEq, Nat.reduceAdd, reduceIte]
  exact rfl
 ·rintro n e h' ⟨k, rfl, hk, e0, e1, e7, e8, hok, rfl⟩
  try simp (disch := (first | exact dA | fail)) only [e0, e1, e7, e8, go_sem, Nat.reduceBEq, Nat.reduceAdd, reduceIte]
  refine test_dec (fun hb => ?_) (fun hb => ?_)
  ·obtain ⟨p, hkp⟩ : ∃ p, zs[k]? = some p := ⟨_, List.getElem?_eq_getElem (by omega : k < zs.length)⟩
   obtain ⟨l, j, hia, hll, hrow⟩ := hs.at (m := k) (intRows_at hkp) .i64
   have hc := cellO_row hrow
   have w1 : wr .i64 ((k : Int) + 1) = ((k + 1 : Nat) : Int) := by rw [wr64 _ (by omega)]; rfl
   try simp (disch := (first | exact dA | fail)) only [e0, e1, e7, e8, hia, hc, na0, List.append_nil, go_sem, Nat.reduceBEq, Nat.reduceAdd, reduceIte]
   refine callA_of (notHost_c _ p) ?_
   rintro r h2 ⟨rfl, rfl⟩
   cases hp : hostB p
   ·skip
    try simp (disch := (first | exact dA | fail)) only [e8, go_sem, Nat.reduceBEq, Nat.reduceAdd, reduceIte]
    refine ⟨_, rfl, ?_⟩
    have : zs.all hostB = false := by
     rw [List.all_eq_false]
     exact ⟨p, List.mem_of_getElem? hkp, by rw [hp]; decide⟩
    rw [this]
    exact decide_eq_true (by omega)
   ·skip
    try simp (disch := (first | exact dA | fail)) only [e0, e1, e7, e8, w1, go_sem, Nat.reduceBEq, Nat.reduceAdd, reduceIte]
    refine ⟨zs.length - (k + 1), by omega, k + 1, rfl, by omega, rfl, ?_⟩
    rw [take_snoc hkp, List.all_append, hok]
    simp [hp]
  ·obtain rfl : k = zs.length := by omega
   rw [List.take_length] at hok
   try simp (disch := (first | exact dA | fail)) only [go_sem, Nat.reduceBEq, Nat.reduceAdd, reduceIte]
   exact ⟨-1, rfl, by rw [hok]; rfl⟩
theorem containsNo_c (h : IH) (v : IV) (zs : List Int) (hs : SlR h 1 v (intRows zs)) (hm : zs.length ≤ 1048576) :
  ICalls Tryd.prog 45 [v, .func 46 [] []] h fun r h' => r = .bool (!zs.all hostB) ∧ h' = h := by
 refine icalls (.of ok45) (Nat.le_of_ble_eq_true rfl) ?_
 unfold c45
 try simp (disch := (first | exact dA | fail)) only [go_sem, Nat.reduceBEq, Nat.reduceAdd, reduceIte]
 refine callA_of (indexNo_c h v zs hs hm) ?_
 rintro r h' ⟨⟨n, rfl, hn⟩, rfl⟩
 try simp (disch := (first | exact dA | fail)) only [hn, go_sem, Nat.reduceBEq, Nat.reduceAdd, reduceIte]
theorem okResolve_c (h : IH) (v : IV) (zs : List Int) (first : Int) (hs : SlR h 1 v (intRows zs)) (hm : zs.length ≤ 1048576) :
  ICalls Tryd.prog 22 [.agg [v, .int .i64 first]] h fun r h' => r = .bool (okCfg zs first) ∧ Ext h h' := by
 refine icalls (.of ok22) (Nat.le_of_ble_eq_true rfl) ?_
 unfold c22
 have y1 := hs.one
 have S := Sp.start h
 try simp (disch := (first | exact dA | fail)) only [y1, go_sem, Nat.reduceBEq, Nat.reduceAdd, reduceIte]
 refine Sp.bxA S (by first | rfl | (rw [cells_one (by assumption)]; rfl)) (by first | rfl | simp (disch := assumption) only [go_sem, cells_one, one_as]) fun p1 g1 S E_g1 l_g1 => ?_
 have hs1 := hs.ext E_g1
 have hlen := hs1.lenF
 rw [intRows_len] at hlen
 have q0 := (S.bx 0 rfl).eq
 try simp (disch := (first | exact dA | fail)) only [q0, hlen, go_sem, Nat.reduceBEq, Nat.reduceAdd, reduceIte]
 refine test_of (fun hc => ?_) (fun hc => ?_)
 ·have he : okCfg zs first = false := by
   unfold okCfg
   simp only [Bool.or_eq_true, decide_eq_true_eq] at hc
   rcases hc with ((h1 | h1) | h1) | h1
   ·rw [decide_eq_false (by omega : ¬ 1 ≤ zs.length)]; simp
   ·rw [decide_eq_false (by omega : ¬ zs.length ≤ 4)]; simp
   ·rw [decide_eq_false (by omega : ¬ 0 ≤ first)]; simp
   ·rw [decide_eq_false (by omega : ¬ first ≤ 65535)]; simp
  rw [he]
  try simp (disch := (first | exact dA | fail)) only [go_sem, Nat.reduceBEq, Nat.reduceAdd, reduceIte]
  exact E_g1
 ·simp only [Bool.or_eq_false_iff, decide_eq_false_iff_not] at hc
  have q0 := (S.bx 0 rfl).eq
  try simp (disch := (first | exact dA | fail)) only [q0, y1, go_sem, Nat.reduceBEq, Nat.reduceAdd, reduceIte]
  refine callA_of (containsNo_c g1 v zs hs1 hm) ?_
  rintro r g2 ⟨rfl, rfl⟩
  have he : okCfg zs first = zs.all hostB := by
   unfold okCfg
   rw [decide_eq_true (by omega : 1 ≤ zs.length), decide_eq_true (by omega : zs.length ≤ 4), decide_eq_true (by omega : 0 ≤ first), decide_eq_true (by omega : first ≤ 65535)]
   rfl
  rw [he]
  try simp (disch := (first | exact dA | fail)) only [Bool.not_not, go_sem, Nat.reduceBEq, Nat.reduceAdd, reduceIte]
  exact E_g1

theorem fresh_idem (now : Int) (ks : List Kn) : freshK now (freshK now ks) = freshK now ks := by
 unfold freshK
 rw [List.filter_filter]
 congr 1
 funext k
 simp
theorem again_cache (first : Int) (servers : List Int) (st : Rs) (c : List Kn) (i : Nat) : againS first servers { st with cache := c } i = { againS first servers st i with cache := c } := by
 unfold againS
 simp only
 cases st.l[i]? with
 | none => rfl
 | some q =>
  simp only
  split <;> rfl
theorem again_now (first : Int) (servers : List Int) (st : Rs) (i : Nat) : (againS first servers st i).now = st.now ∧ (againS first servers st i).cache = st.cache := by
 unfold againS
 cases st.l[i]? with
 | none => exact ⟨rfl, rfl⟩
 | some q =>
  simp only
  split <;> exact ⟨rfl, rfl⟩
theorem want_both (first : Int) (servers : List Int) (t : Int) (name : Tx) (st : Rs) : freshS (wantI first servers t name st).1 = freshS (wantR first servers t name st).1 ∧ (wantI first servers t name st).2 = (wantR first servers t name st).2 := by
 have hf : st.cache.find? (fun k => decide (k.name = name) && decide (st.now < k.till)) = (freshK st.now st.cache).find? (fun k => decide (k.name = name)) := by
  unfold freshK
  rw [List.find?_filter]
  congr 1
  funext k
  rw [Bool.and_comm]
  rw [← Bool.decide_and]
  simp
 unfold wantI wantR
 rw [hf]
 cases (freshK st.now st.cache).find? (fun k => decide (k.name = name)) with
 | some k =>
  simp only [freshS, fresh_idem, and_self]
 | none =>
  simp only
  cases st.l.findIdx? (fun q => decide (q.name = name)) with
  | some i =>
   refine ⟨?_, rfl⟩
   simp only [freshS, fresh_idem] <;> rfl
  | none =>
   simp only
   split
   ·simp only [freshS, fresh_idem, and_self]
   ·refine ⟨?_, rfl⟩
    have h1 := again_cache first servers { st with l := st.l ++ [⟨name, 0, 0, 0, 0, [t]⟩] } (freshK st.now st.cache) st.l.length
    simp only at h1 ⊢
    rw [h1]
    obtain ⟨a, b⟩ := again_now first servers { st with l := st.l ++ [⟨name, 0, 0, 0, 0, [t]⟩] } st.l.length
    simp only [freshS, a, b, fresh_idem]
theorem keep_fresh {now : Int} {r : RepV} (h : ¬ 0 < r.ttl) (ck : List Kn) : keepK now r ck = ck := if_neg h
theorem hear_both (first : Int) (servers : List Int) (f p : Int) (bs : Tx) (st : Rs) : freshS (hearI first servers f p bs st) = freshS (hearR first servers f p bs st) := by
 unfold hearI hearR
 split
 ·rfl
 ·cases st.l.findIdx? (hearQ (decR bs).1 f) with
  | none => rfl
  | some i =>
   simp only
   split
   ·simp only [freshS]
    split
    ·rfl
    ·rename_i h
     rw [keep_fresh h, fresh_idem] <;> rfl
   ·rfl
def stepI (first : Int) (servers : List Int) (ticket : Int) (o : Ro) (st : Rs) : Rs × Int :=
 if o.kind = 1 ∧ okName o.name = true then wantI first servers ticket o.name st
  else if o.kind = 2 then (hearI first servers o.from_ o.port o.bytes st, 0)
  else if o.kind = 3 ∧ 0 ≤ o.wait ∧ o.wait ≤ 1000000000 - st.now then (passR first servers (st.now + o.wait) (mu st.l) st, 0)
  else (st, 1)
theorem step_both (first : Int) (servers : List Int) (ticket : Int) (o : Ro) (st : Rs) : (freshS (stepI first servers ticket o (rst st)).1, (stepI first servers ticket o (rst st)).2) = stepR first servers ticket o st := by
 unfold stepI stepR stepP
 split
 ·obtain ⟨a, b⟩ := want_both first servers ticket o.name (rst st)
  rw [a, b]
 ·split
  ·simp only [hear_both]
  ·split <;> rfl
end
end Go.Proofs.YtaoffieemecioaaDoor


namespace Go.Proofs.YtaoffieemecioaaDoor
open Go Go.IW
def t_ResolveDone : Ty := .cat (.int .i64) (.cat (.int .i64) (.cat (.slice 2 (.int .i64)) (.nil)))
def t_ResolveSend : Ty := .cat (.int .i64) (.cat (.slice 5 (.int .u8)) (.nil))
def t_ResolveOut : Ty := .cat (.int .i64) (.cat (.slice 49 t_ResolveSend) (.cat (.slice 40 t_ResolveDone) (.cat (.int .i64) (.cat (.int .i64) (.nil)))))
end Go.Proofs.YtaoffieemecioaaDoor


set_option maxRecDepth 20000
namespace Go.Proofs.YtaoffieemecioaaDoor
open Go Go.IW

def intsD (zs : List Int) : Dat := .list (zs.map .int)
theorem intsL {S : Nat → Prop} {h : IH} : ∀ {rs : List (List IV)} {ds : List Dat}, All2 (Rp S h (.int .i64)) rs ds → ∃ zs : List Int, rs = intRows zs ∧ ds = zs.map .int
 | _, _, .nil => ⟨[], rfl, rfl⟩
 | _, _, .cons h1 h2 => by
  obtain ⟨n, rfl, rfl⟩ := h1
  obtain ⟨zs, rfl, rfl⟩ := intsL h2
  exact ⟨n :: zs, rfl, rfl⟩
structure RosAt (h : IH) (v : IV) (ops : List Ro) : Prop where
 sl : ∃ rs, SlR h 6 v rs ∧ rs.length = ops.length ∧ ∀ (i : Nat) (o : Ro), ops[i]? = some o → ∃ vb, rs[i]? = some (roRow o vb) ∧ SlR h 1 vb (strRows o.bytes)
theorem RosAt.ext {h h' : IH} {v : IV} {ops : List Ro} (a : RosAt h v ops) (E : Ext h h') : RosAt h' v ops := by
 obtain ⟨rs, h1, h2, h3⟩ := a.sl
 exact ⟨⟨rs, h1.ext E, h2, fun i o ho => by obtain ⟨vb, e, p⟩ := h3 i o ho; exact ⟨vb, e, p.ext E⟩⟩⟩
structure Oo where
 code : Int
 sent : List Sd
 done : List Dn
 ent : Int
 ask : Int
def sdD (s : Sd) : Dat := .pair (.int s.server) (.pair (bytesD s.bytes) .unit)
def dnD (d : Dn) : Dat := .pair (.int d.ticket) (.pair (.int d.code) (.pair (intsD d.addrs) .unit))
def ooD (o : Oo) : Dat := .pair (.int o.code) (.pair (.list (o.sent.map sdD)) (.pair (.list (o.done.map dnD)) (.pair (.int o.ent) (.pair (.int o.ask) .unit))))
def ooRow (o : Oo) (vx vd : IV) : List IV := [.int .i64 o.code, vx, vd, .int .i64 o.ent, .int .i64 o.ask]
theorem ro_flat {α : Type} {t : Ty} {row : α → List IV} {df : α → Dat} {h : IH} {el : Nat} {v : IV} {xs : List α} {f : List Nat} (hx : ∀ x, _root_.Go.IW.Ro h t (row x) (df x) []) (hs : (sl false el t.sz v (xs.map row)).P h f) : _root_.Go.IW.Ro h (.slice el t) [v] (.list (xs.map df)) f := by
 have key : ∀ xs : List α, All3 (_root_.Go.IW.Ro h t) (xs.map row) (xs.map df) [] := by
  intro xs
  induction xs with
  | nil => exact .nil
  | cons x xs ih => exact .cons (f := []) (g := []) (hx x) ih
 rcases hs with ⟨h1, rfl, hv⟩ | ⟨l, h0, rfl, rfl, h3, h4⟩
 ·obtain rfl : xs = [] := by simpa using h1
  exact ⟨v, [], rfl, rfl, .inl ⟨rfl, rfl, hv⟩⟩
 ·have h0 : xs ≠ [] := by
   rintro rfl
   rcases h0 with h0 | h0
   ·cases h0
   ·exact h0 rfl
  exact ⟨_, _, rfl, rfl, .inr ⟨l, xs.map row, [], by simpa using h0, by simp, h3, h4, rfl, key xs⟩⟩
theorem ints_ro {h : IH} {v : IV} {zs : List Int} {f : List Nat} (hs : (ints v zs).P h f) : _root_.Go.IW.Ro h (.slice 2 (.int .i64)) [v] (intsD zs) f :=
 ro_flat (t := .int .i64) (row := fun z : Int => [IV.int .i64 z]) (df := fun z => .int z) (fun z => ⟨_, rfl, rfl, rfl⟩) hs
theorem byts_ro {h : IH} {v : IV} {bs : Tx} {f : List Nat} (hs : (byts v bs).P h f) : _root_.Go.IW.Ro h (.slice 5 (.int .u8)) [v] (bytesD bs) f :=
 ro_flat (t := .int .u8) (row := fun b : UInt8 => [IV.int .u8 (b.toNat : Int)]) (df := fun b => .int (b.toNat : Int)) (fun b => ⟨_, rfl, rfl, rfl⟩) hs
theorem sd_ro {h : IH} {r : List IV} {s : Sd} {f : List Nat} (hs : (sdR r s).P h f) : (dat t_ResolveSend r (sdD s)).P h f := by
 obtain ⟨vb, f1, f2, rfl, ⟨rfl, rfl, _⟩, h2⟩ := hs
 refine ⟨[_], [vb], _, _, [], f2, rfl, rfl, rfl, ⟨_, rfl, rfl, rfl⟩, ⟨[vb], [], _, _, f2, [], rfl, rfl, by simp, byts_ro h2, rfl, rfl, rfl⟩⟩
theorem dn_ro {h : IH} {r : List IV} {s : Dn} {f : List Nat} (hs : (dnR r s).P h f) : (dat t_ResolveDone r (dnD s)).P h f := by
 obtain ⟨vb, f1, f2, rfl, ⟨rfl, rfl, _⟩, h2⟩ := hs
 refine ⟨[_], [_, vb], _, _, [], f2, rfl, rfl, rfl, ⟨_, rfl, rfl, rfl⟩, ⟨[_], [vb], _, _, [], f2, rfl, rfl, rfl, ⟨_, rfl, rfl, rfl⟩, ⟨[vb], [], _, _, f2, [], rfl, rfl, by simp, ints_ro h2, rfl, rfl, rfl⟩⟩⟩
theorem oo_dat {h : IH} {L : List As} {o : Oo} {vx vd : IV} {rx rd : List (List IV)} (S : Sp h (sl false 49 2 vx rx :: all2 sdR rx o.sent :: sl false 40 3 vd rd :: all2 dnR rd o.done :: L)) : Sp h (dat t_ResolveOut (ooRow o vx vd) (ooD o) :: L) := by
 have S := by simpa only [mc0, mn0, List.getD_cons_zero, List.getD_cons_succ, ds0, dz0, ca0, na0] using Sp.sel S 4 [3, 2, 1, 0] (by simp only [lc0]; omega) (by decide) (by decide)
 have S := Sp.a2imp (R' := dat t_ResolveDone) (t := dnD) (fun _ _ _ => dn_ro) S
 have S := by simpa only [mc0, mn0, List.getD_cons_zero, List.getD_cons_succ, ds0, dz0, ca0, na0] using Sp.sel S 4 [1, 0, 2, 3] (by simp only [lc0]; omega) (by decide) (by decide)
 have S := Sp.slD (t := t_ResolveDone) S
 have S := by simpa only [mc0, mn0, List.getD_cons_zero, List.getD_cons_succ, ds0, dz0, ca0, na0] using Sp.sel S 3 [1, 2, 0] (by simp only [lc0]; omega) (by decide) (by decide)
 have S := Sp.a2imp (R' := dat t_ResolveSend) (t := sdD) (fun _ _ _ => sd_ro) S
 have S := Sp.slD (t := t_ResolveSend) S.p1
 have S := ((S.p1.dunit).icat (k := .i64) (n := o.ask)).icat (k := .i64) (n := o.ent)
 exact ((S.p1.dcat).p1.dcat).icat
end Go.Proofs.YtaoffieemecioaaDoor



set_option maxRecDepth 20000
namespace Go.Proofs.YtaoffieemecioaaDoor
open Go Go.IW
section
attribute [local go_sem] List.getElem?_cons_zero List.getElem?_cons_succ Option.bind_some List.map_cons List.map_nil Nat.zero_add if_true List.getD_cons_zero List.getD_cons_succ List.contains_cons List.contains_nil Bool.or_true Bool.true_or Bool.or_false Bool.false_or Bool.not_true Bool.not_false true_and and_true rowA_whole mid_get rowO_rows cellO_rows upd_ne Nat.add_assoc Nat.add_zero List.all_cons List.all_nil one_bool one_int one_str one_ptr one_nilptr one_slice one_eslice one_nilslice one_func one_iface one_niliface Bool.and_true Bool.and_self List.length_cons List.length_nil Nat.one_ne_zero Nat.succ_ne_zero if_false List.set_cons_zero List.set_cons_succ lay_nil lay_1 lay_w Option.map_some cells_one rowA_some List.drop_succ_cons List.drop_zero List.take_succ_cons List.take_zero

def st0R : Rs := ⟨0, 0, [], [], [], []⟩
def outOf (x : Rs × Int) : Oo := ⟨x.2, x.1.sent, x.1.done, x.1.cache.length, x.1.l.length⟩
def runSt (first : Int) (servers : List Int) : Nat → Rs → List Ro → List Oo
 | _, _, [] => []
 | k, st, o :: ops => outOf (stepR first servers k o st) :: runSt first servers (k + 1) (stepR first servers k o st).1 ops
def runR (servers : List Int) (first : Int) (ops : List Ro) : List Oo × Int := if okCfg servers first = false then ([], 1) else if 2000 < ops.length then ([], 8) else (runSt first servers 0 st0R ops, 0)
theorem dropAt {α : Type} {l : List α} {k : Nat} {x : α} (h : l[k]? = some x) : l.drop k = x :: l.drop (k + 1) := by
 obtain ⟨h1, rfl⟩ := List.getElem?_eq_some_iff.1 h
 exact (List.getElem_cons_drop ..).symm
def RunRes (h h' : IH) (r : IV) (X : List Oo × Int) : Prop := ∃ v, r = .tuple [v, .int .i64 X.2] ∧ Ow h.n h'.n h' (.slice 38 t_ResolveOut) [v] (.list (X.1.map ooD))
theorem ow_nil {h g : IH} {el : Nat} {t : Ty} : Ow h.n g.n g (.slice el t) [.nilslice] (.list []) := ⟨⟨[], ⟨_, [], rfl, rfl, .inl ⟨rfl, rfl, .inl rfl⟩⟩, by simp, by simp⟩, Nat.le_refl _⟩
set_option maxHeartbeats 2000000 in
theorem specRun_c (h : IH) (vs v : IV) (servers : List Int) (first : Int) (ops : List Ro) (hs : SlR h 1 vs (intRows servers)) (a : RosAt h v ops) (hsm : servers.length ≤ 1048576) (hn : ops.length ≤ 1048576) (hsz : ∀ o ∈ ops, o.name.length + o.bytes.length ≤ 1048576) :
  ICalls Tryd.prog 6 [.agg [vs, .int .i64 first], v] h fun r h' => RunRes h h' r (runR servers first ops) ∧ Ext h h' := by
 refine icalls (.of ok6) (Nat.le_of_ble_eq_true rfl) ?_
 unfold c6
 obtain ⟨rs, hsl, hrl, hrow⟩ := a.sl
 have hlen := hsl.lenF
 rw [hrl] at hlen
 have y1 := hs.one
 have y2 := hsl.one
 have S := Sp.start h
 try simp (disch := (first | exact dA | fail)) only [y1, go_sem, Nat.reduceBEq, Nat.reduceAdd, reduceIte]
 refine Sp.bxA S (by first | rfl | (rw [cells_one (by assumption)]; rfl)) (by first | rfl | simp (disch := assumption) only [go_sem, cells_one, one_as]) fun p2 g1 S E_g1 l_g1 => ?_
 have hs1 := hs.ext E_g1
 have hlens := hs1.lenF
 rw [intRows_len] at hlens
 by_cases hl : 1 ≤ servers.length ∧ servers.length ≤ 4
 rotate_left
 ·have d1 : (decide ((servers.length : Int) < 1) || decide ((4 : Int) < servers.length)) = true := by
   by_cases h1 : 1 ≤ servers.length
   ·rw [decide_eq_true (by omega : (4 : Int) < servers.length)]; simp
   ·rw [decide_eq_true (by omega : (servers.length : Int) < 1)]; simp
  have he : okCfg servers first = false := by
   unfold okCfg
   by_cases h1 : 1 ≤ servers.length
   ·rw [decide_eq_false (by omega : ¬ servers.length ≤ 4)]; simp
   ·rw [decide_eq_false h1]; simp
  have hr : runR servers first ops = ([], 1) := if_pos he
  have q0 := (S.bx 0 rfl).eq
  try simp (disch := (first | exact dA | fail)) only [q0, hlens, d1, go_sem, Nat.reduceBEq, Nat.reduceAdd, reduceIte]
  rw [hr]
  exact ⟨⟨_, rfl, ow_nil⟩, E_g1⟩
 have d1 : (decide ((servers.length : Int) < 1) || decide ((4 : Int) < servers.length)) = false := by
  rw [decide_eq_false (by omega : ¬ (servers.length : Int) < 1), decide_eq_false (by omega : ¬ (4 : Int) < servers.length)]; rfl
 have q0 := (S.bx 0 rfl).eq
 try simp (disch := (first | exact dA | fail)) only [q0, hlens, d1, go_sem, Nat.reduceBEq, Nat.reduceAdd, reduceIte]
 refine callA_of (l10PortOK_c g1 first) ?_
 rintro r g2 ⟨rfl, rfl⟩
 by_cases hf : 0 ≤ first ∧ first ≤ 65535
 rotate_left
 ·have d2 : (decide (0 ≤ first) && decide (first ≤ 65535)) = false := by
   by_cases h1 : 0 ≤ first
   ·rw [decide_eq_false (by omega : ¬ first ≤ 65535)]; simp
   ·rw [decide_eq_false h1]; simp
  have he : okCfg servers first = false := by unfold okCfg; rw [d2]; simp
  have hr : runR servers first ops = ([], 1) := if_pos he
  have q0 := (S.bx 0 rfl).eq
  try simp (disch := (first | exact dA | fail)) only [q0, hlens, d2, go_sem, Nat.reduceBEq, Nat.reduceAdd, reduceIte]
  rw [hr]
  exact ⟨⟨_, rfl, ow_nil⟩, E_g1⟩
 have d2 : (decide (0 ≤ first) && decide (first ≤ 65535)) = true := by
  rw [decide_eq_true hf.1, decide_eq_true hf.2]; rfl
 have hcfg : okCfg servers first = servers.all hostB := by
  unfold okCfg
  rw [decide_eq_true hl.1, decide_eq_true hl.2, d2]; rfl
 have q0 := (S.bx 0 rfl).eq
 try simp (disch := (first | exact dA | fail)) only [q0, hlens, d2, go_sem, Nat.reduceBEq, Nat.reduceAdd, reduceIte]
 refine loop_at (fun n e g' => ∃ k : Nat, n = servers.length - k ∧ k ≤ servers.length ∧ e 1 = v ∧ e 2 = .ptr p2 0 0 ∧ e 6 = .int .i64 (k : Nat) ∧ (servers.take k).all hostB = true ∧ g' = g2) servers.length ?_ ?_
 ·refine ⟨0, by omega, by omega, ?_⟩
  try simp (disch := (first | exact dA | fail)) only [go_sem, Nat.reduceBEq, Nat.reduceAdd, reduceIte]
  exact rfl
 rintro n e g' ⟨k, rfl, hk, e1, e2, e6, hok, rfl⟩
 have q0 := (S.bx 0 rfl).eq
 try simp (disch := (first | exact dA | fail)) only [q0, e1, e2, e6, hlens, go_sem, Nat.reduceBEq, Nat.reduceAdd, reduceIte]
 refine test_dec (fun hb => ?_) (fun hb => ?_)
 ·obtain ⟨p, hkp⟩ : ∃ p, servers[k]? = some p := ⟨_, List.getElem?_eq_getElem (by omega : k < servers.length)⟩
  obtain ⟨l, j, hia, hll, hrowk⟩ := hs1.at (m := k) (intRows_at hkp) .i64
  have hc := cellO_row hrowk
  have w1 : wr .i64 ((k : Int) + 1) = ((k + 1 : Nat) : Int) := by rw [wr64 _ (by omega)]; rfl
  have q0 := (S.bx 0 rfl).eq
  try simp (disch := (first | exact dA | fail)) only [q0, e1, e2, e6, hia, hc, go_sem, Nat.reduceBEq, Nat.reduceAdd, reduceIte]
  refine callA_of (specAddrKind_c _ p) ?_
  rintro r h2 ⟨rfl, rfl⟩
  cases hp : hostB p
  ·have hp' : decide (kindA p = 6) = false := hp
   have he : okCfg servers first = false := by
    rw [hcfg, List.all_eq_false]
    exact ⟨p, List.mem_of_getElem? hkp, by rw [hp]; decide⟩
   have hr : runR servers first ops = ([], 1) := if_pos he
   try simp (disch := (first | exact dA | fail)) only [hp', Bool.not_false, go_sem, Nat.reduceBEq, Nat.reduceAdd, reduceIte]
   rw [hr]
   exact ⟨⟨_, rfl, ow_nil⟩, E_g1⟩
  ·have hp' : decide (kindA p = 6) = true := hp
   try simp (disch := (first | exact dA | fail)) only [e1, e2, e6, w1, hp', Bool.not_true, go_sem, Nat.reduceBEq, Nat.reduceAdd, reduceIte]
   refine ⟨servers.length - (k + 1), by omega, k + 1, rfl, by omega, rfl, ?_⟩
   rw [take_snoc hkp, List.all_append, hok]
   simp [hp]
 obtain rfl : k = servers.length := by omega
 rw [List.take_length] at hok
 have hcg : ¬ okCfg servers first = false := by rw [hcfg, hok]; decide
 have hl1 := hsl.ext E_g1
 have hlen1 := hl1.lenF
 rw [hrl] at hlen1
 try simp (disch := (first | exact dA | fail)) only [e1, hlen1, go_sem, Nat.reduceBEq, Nat.reduceAdd, reduceIte]
 refine test_dec (fun hb => ?_) (fun hb => ?_)
 ·have hr : runR servers first ops = ([], 8) := (if_neg hcg).trans (if_pos (by omega))
  try simp (disch := (first | exact dA | fail)) only [go_sem, Nat.reduceBEq, Nat.reduceAdd, reduceIte]
  rw [hr]
  exact ⟨⟨_, rfl, ow_nil⟩, E_g1⟩
 have hr : runR servers first ops = (runSt first servers 0 st0R ops, 0) := (if_neg hcg).trans (if_neg (by omega))
 rw [hr]
 have q0 := (S.bx 0 rfl).eq
 try simp (disch := (first | exact dA | fail)) only [q0, e2, y1, ca0, na0, lay_p, go_sem, Nat.reduceBEq, Nat.reduceAdd, reduceIte]
 refine Sp.zero S fun w g3 S E_g3 l_g3 => ?_
 have q0 := (S.bx 0 rfl).eq
 try simp (disch := (first | exact dA | fail)) only [q0, y1, go_sem, Nat.reduceBEq, Nat.reduceAdd, reduceIte]
 refine stw_of rfl rfl (by first | rfl | simp (disch := assumption) only [go_sem, cells_one, one_as]) fun g4 hg => ?_
 have l_g4 := n_set hg
 have S := S.set0 hg
 clear hg
 try simp (disch := (first | exact dA | fail)) only [e1, go_sem, Nat.reduceBEq, Nat.reduceAdd, reduceIte]
 refine loop_at (fun n e g => ∃ (k : Nat) (st : Rs) (outs : List Oo) (vx vq vk vx0 vd0 : IV) (code ent ask : Int) (rq rk : List (List IV)), n = ops.length - k ∧ k ≤ ops.length ∧ e 1 = v ∧ e 7 = .ptr w 0 0 ∧ e 8 = vx ∧ e 9 = .int .i64 (k : Nat) ∧ outs.length = k ∧
  runSt first servers 0 st0R ops = outs ++ runSt first servers k st (ops.drop k) ∧ Ri k st ∧
  Sp g (box w (wdO vs first st.now st.n vq vk code vx0 vd0 ent ask) :: sl false 131 6 vq rq :: all2 qnR rq st.l :: sl false 129 4 vk rk :: all2 knR rk st.cache :: dat (.slice 38 t_ResolveOut) [vx] (.list (outs.map ooD)) :: [old h])) ops.length ?_ ?_
 ·refine ⟨0, st0R, [], .eslice true, .nilslice, .nilslice, .nilslice, .nilslice, 0, 0, 0, [], [], by omega, by omega, ?_⟩
  try simp (disch := (first | exact dA | fail)) only [e1, go_sem, Nat.reduceBEq, Nat.reduceAdd, reduceIte]
  refine ⟨rfl, rfl, Ri.init, ?_⟩
  have S := ((((S.a2nil (R := knR)).slNil (x := false) (el := 129) (sz := 4)).a2nil (R := qnR)).slNil (x := false) (el := 131) (sz := 6))
  have S := S.new (Ext.refl _) (f := []) (A := dat (.slice 38 t_ResolveOut) [.eslice true] (.list [])) ⟨_, [], rfl, rfl, .inl ⟨rfl, rfl, .inr rfl⟩⟩ (by simp) (by simp)
  have S := by simpa only [mc0, mn0, List.getD_cons_zero, List.getD_cons_succ, ds0, dz0, ca0, na0] using Sp.sel S 8 [5, 1, 2, 3, 4, 0, 7] (by simp only [lc0]; omega) (by decide) (by decide)
  exact S
 clear S e1 e2 e6
 rintro n e g ⟨k, st, outs, vx, vq, vk, vx0, vd0, code, ent, ask, rq, rk, rfl, hk, e1, e7, e8, e9, hol, hru, hR, S⟩
 have hlg := hsl.ext (S.ol 6 rfl)
 have hleng := hlg.lenF
 rw [hrl] at hleng
 try simp (disch := (first | exact dA | fail)) only [e1, e7, e8, e9, hleng, go_sem, Nat.reduceBEq, Nat.reduceAdd, reduceIte]
 refine test_dec (fun hb2 => ?_) (fun hb2 => ?_)
 ·obtain ⟨o, ho⟩ : ∃ q, ops[k]? = some q := ⟨_, List.getElem?_eq_getElem (by omega : k < ops.length)⟩
  obtain ⟨vb, hrk, ha⟩ := hrow k o ho
  have hszo := hsz o (List.mem_of_getElem? ho)
  have w1 : wr .i64 ((k : Int) + 1) = ((k + 1 : Nat) : Int) := by rw [wr64 _ (by omega)]; rfl
  rw [dropAt ho, runSt] at hru
  obtain ⟨a1, a2, hia, hal, har⟩ := hlg.at hrk .i64
  unfold roRow at har
  try simp (disch := (first | exact dA | fail)) only [e1, e7, e8, e9, hia, har, go_sem, Nat.reduceBEq, Nat.reduceAdd, reduceIte]
  obtain ⟨hR', hB'⟩ := stepR_ok (first := first) (servers := servers) (ticket := k) (o := o) hR (by omega)
  refine callA_of (l19Step_c (N := k) S (fun g S => hs.ext (S.ol 1 rfl)) (fun g S => ha.ext (S.ol 1 rfl)) hR (by omega) (by omega) (by omega) hf.1 hf.2 (by rintro rfl; simp at hl) hl.2) ?_
  clear S hlg hleng
  generalize hX : stepR first servers k o st = X at hru hR' hB'
  rintro r5 g5 ⟨vx5, vd5, rx5, rd5, vq5, vk5, rq5, rk5, rfl, z1, z2, S⟩
  try simp (disch := (first | exact dA | fail)) only [e1, e7, e8, e9, go_sem, Nat.reduceBEq, Nat.reduceAdd, reduceIte]
  refine Sp.bsl1 S (by first | rfl | (rw [cells_one (by assumption)]; rfl)) (by first | rfl | simp (disch := assumption) only [go_sem, cells_one, one_as]) fun p6 g6 S E_g6 l_g6 => ?_
  try simp only [cells_agg, cells_int, cells_bool, cells_ptr, cells_str] at S
  have q0 := (S.bx 0 rfl).eq
  try simp (disch := (first | exact dA | fail)) only [q0, e1, e7, e8, e9, go_sem, Nat.reduceBEq, Nat.reduceAdd, reduceIte]
  have S := by simpa only [mc0, mn0, List.getD_cons_zero, List.getD_cons_succ, ds0, dz0, ca0, na0] using Sp.sel S 12 [6, 7, 8, 9, 1, 2, 3, 4, 5, 10, 11] (by simp only [lc0]; omega) (by decide) (by decide)
  have S := oo_dat (o := outOf X) S
  have S := by simpa only [mc0, mn0, List.getD_cons_zero, List.getD_cons_succ, ds0, dz0, ca0, na0] using Sp.sel S 7 [6, 0, 1, 2, 3, 4, 5] (by simp only [lc0]; omega) (by decide) (by decide)
  refine Sp.dapp S (by rw [List.length_map]; omega) ?_
  clear S
  intro v14 g14 S z14 c14
  try simp (disch := (first | exact dA | fail)) only [e1, e7, e8, e9, w1, go_sem, Nat.reduceBEq, Nat.reduceAdd, reduceIte]
  have S := by simpa only [mc0, mn0, List.getD_cons_zero, List.getD_cons_succ, ds0, dz0, ca0, na0] using Sp.sel S 6 [1, 2, 3, 4, 5, 0] (by simp only [lc0]; omega) (by decide) (by decide)
  refine ⟨ops.length - (k + 1), by omega, k + 1, X.1, outs ++ [outOf X], v14, vq5, vk5, vx5, vd5, X.2, X.1.cache.length, X.1.l.length, rq5, rk5, rfl, by omega, rfl, rfl, by simp [hol], ?_, hR', ?_⟩
  ·rw [hru]; simp
  ·rw [List.map_append]; exact S
 ·have hd : ops.drop k = [] := List.drop_eq_nil_of_le (by omega)
  rw [hd, runSt, List.append_nil] at hru
  rw [hru]
  try simp (disch := (first | exact dA | fail)) only [e8, go_sem, Nat.reduceBEq, Nat.reduceAdd, reduceIte]
  have S := by simpa only [mc0, mn0, List.getD_cons_zero, List.getD_cons_succ, ds0, dz0, ca0, na0] using Sp.sel S 7 [5, 6] (by simp only [lc0]; omega) (by decide) (by decide)
  exact ⟨⟨vx, rfl, S.toOw⟩, S.drop.oldE⟩
end
end Go.Proofs.YtaoffieemecioaaDoor



set_option maxRecDepth 20000
namespace Go.Proofs.YtaoffieemecioaaDoor
open Go Go.IW
section
attribute [local go_sem] List.getElem?_cons_zero List.getElem?_cons_succ Option.bind_some List.map_cons List.map_nil Nat.zero_add if_true List.getD_cons_zero List.getD_cons_succ List.contains_cons List.contains_nil Bool.or_true Bool.true_or Bool.or_false Bool.false_or Bool.not_true Bool.not_false true_and and_true rowA_whole mid_get rowO_rows cellO_rows upd_ne Nat.add_assoc Nat.add_zero List.all_cons List.all_nil one_bool one_int one_str one_ptr one_nilptr one_slice one_eslice one_nilslice one_func one_iface one_niliface Bool.and_true Bool.and_self List.length_cons List.length_nil Nat.one_ne_zero Nat.succ_ne_zero if_false List.set_cons_zero List.set_cons_succ lay_nil lay_1 lay_w Option.map_some cells_one rowA_some List.drop_succ_cons List.drop_zero List.take_succ_cons List.take_zero

theorem isTime_c (h : IH) (a b : Int) (ha : 0 ≤ a ∧ a ≤ 1000000000) : ICalls Tryd.prog 27 [.int .i64 a, .int .i64 b] h fun r h' => r = .bool (decide (0 ≤ b) && decide (b ≤ 1000000000 - a)) ∧ h' = h := by
 refine icalls (.of ok27) (Nat.le_of_ble_eq_true rfl) ?_
 unfold c27
 by_cases hb : 0 ≤ b ∧ b ≤ 1000000000
 ·have w : wr .i64 (a + b) = a + b := wr64 _ (by omega)
  have d1 : decide (0 ≤ b) = true := decide_eq_true hb.1
  have d2 : decide (b ≤ 1000000000) = true := decide_eq_true hb.2
  try simp (disch := (first | exact dA | fail)) only [w, d1, d2, go_sem, Nat.reduceBEq, Nat.reduceAdd, reduceIte]
  by_cases h2 : a + b ≤ 1000000000
  ·rw [decide_eq_true h2, decide_eq_true (by omega)]; rfl
  ·rw [decide_eq_false h2, decide_eq_false (by omega)]; rfl
 ·skip
  try simp (disch := (first | exact dA | fail)) only [go_sem, Nat.reduceBEq, Nat.reduceAdd, reduceIte]
  congr 1
  rcases Classical.em (0 ≤ b) with h1 | h1
  ·rw [decide_eq_false (p := b ≤ 1000000000) (by omega), decide_eq_false (p := b ≤ 1000000000 - a) (by omega)]; simp
  ·rw [decide_eq_false h1]; simp
theorem pass_cache {first : Int} {servers : List Int} {e : Int} : ∀ (f : Nat) (st : Rs), (passR first servers e f st).cache = st.cache
 | 0, st => rfl
 | f + 1, st => by
  cases hd : dueN e st.l st.l.length with
  | none => rw [passR_none hd]
  | some b =>
   rw [passR_some hd, pass_cache f]
   exact (again_now first servers { st with now := dueOf st.l b } b).2
theorem stepI_cache {first : Int} {servers : List Int} {t : Int} {o : Ro} {st : Rs} {N : Nat} (h : Ri N st) : (stepI first servers t o (rst st)).1.cache.length ≤ 32 := by
 have hc : (rst st).cache.length ≤ 32 := h.c
 have ha := h.a
 unfold stepI
 split
 ·unfold wantI
  split
  ·exact hc
  ·split
   ·exact hc
   ·split
    ·exact hc
    ·rw [(again_now _ _ _ _).2]; exact hc
 ·split
  ·unfold hearI
   split
   ·exact hc
   ·rename_i hnc
    simp only [not_or, Classical.not_not] at hnc
    split
    ·exact hc
    ·split
     ·simp only
      split
      ·exact (keep_ok (Nat.le_trans (List.length_filter_le _ _) hc) (fun k hk => ha k (List.mem_filter.1 hk).1) (decR_ok hnc.1).2).1
      ·exact hc
     ·rw [(again_now _ _ _ _).2]; exact hc
  ·split
   ·simp only [pass_cache]; exact hc
   ·exact hc
abbrev outOC (code : Int) : IObj := .rows [[.int .i64 code, .nilslice, .nilslice, .int .i64 0, .int .i64 0]] 38 5 false
set_option maxHeartbeats 4000000 in
theorem implRun_c (h : IH) (vs v : IV) (servers : List Int) (first : Int) (ops : List Ro) (hs : SlR h 1 vs (intRows servers)) (a : RosAt h v ops) (hsm : servers.length ≤ 1048576) (hn : ops.length ≤ 1048576) (hsz : ∀ o ∈ ops, o.name.length + o.bytes.length ≤ 1048576) :
  ICalls Tryd.prog 7 [.agg [vs, .int .i64 first], v] h fun r h' => RunRes h h' r (runR servers first ops) ∧ Ext h h' := by
 refine icalls (.of ok7) (Nat.le_of_ble_eq_true rfl) ?_
 unfold c7
 obtain ⟨rs, hsl, hrl, hrow⟩ := a.sl
 have y1 := hs.one
 have y2 := hsl.one
 have S := Sp.start h
 try simp (disch := (first | exact dA | fail)) only [y1, go_sem, Nat.reduceBEq, Nat.reduceAdd, reduceIte]
 refine Sp.bxA S (by first | rfl | (rw [cells_one (by assumption)]; rfl)) (by first | rfl | simp (disch := assumption) only [go_sem, cells_one, one_as]) fun p2 g1 S E_g1 l_g1 => ?_
 have hs1 := hs.ext E_g1
 have q0 := (S.bx 0 rfl).eq
 try simp (disch := (first | exact dA | fail)) only [q0, y1, go_sem, Nat.reduceBEq, Nat.reduceAdd, reduceIte]
 refine callA_of (okResolve_c g1 vs servers first hs1 hsm) ?_
 rintro r g2 ⟨rfl, E2⟩
 have S := S.ext E2
 have hs2 := hs1.ext E2
 cases hcfg : okCfg servers first
 ·have hr : runR servers first ops = ([], 1) := if_pos hcfg
  try simp (disch := (first | exact dA | fail)) only [go_sem, Nat.reduceBEq, Nat.reduceAdd, reduceIte]
  rw [hr]
  exact ⟨⟨_, rfl, ow_nil⟩, E_g1.trans E2⟩
 have hl2 := hsl.ext (E_g1.trans E2)
 have hlen2 := hl2.lenF
 rw [hrl] at hlen2
 have hcg : ¬ okCfg servers first = false := by rw [hcfg]; decide
 have hl : 1 ≤ servers.length ∧ servers.length ≤ 4 := by
  unfold okCfg at hcfg
  simp only [Bool.and_eq_true, decide_eq_true_eq] at hcfg
  exact hcfg.1.1
 have hf : 0 ≤ first ∧ first ≤ 65535 := by
  unfold okCfg at hcfg
  simp only [Bool.and_eq_true, decide_eq_true_eq] at hcfg
  exact hcfg.1.2
 try simp (disch := (first | exact dA | fail)) only [hlen2, go_sem, Nat.reduceBEq, Nat.reduceAdd, reduceIte]
 refine test_dec (fun hb => ?_) (fun hb => ?_)
 ·have hr : runR servers first ops = ([], 8) := (if_neg hcg).trans (if_pos (by omega))
  try simp (disch := (first | exact dA | fail)) only [go_sem, Nat.reduceBEq, Nat.reduceAdd, reduceIte]
  rw [hr]
  exact ⟨⟨_, rfl, ow_nil⟩, E_g1.trans E2⟩
 have hr : runR servers first ops = (runSt first servers 0 st0R ops, 0) := (if_neg hcg).trans (if_neg (by omega))
 rw [hr]
 have q0 := (S.bx 0 rfl).eq
 try simp (disch := (first | exact dA | fail)) only [q0, y1, go_sem, Nat.reduceBEq, Nat.reduceAdd, reduceIte]
 refine callA_of (newResolver_c S.drop hs2 hsm) ?_
 clear S
 rintro r3 g3 ⟨r, vs', rfl, S⟩
 have hl3 := hsl.ext (S.ol 2 rfl)
 have hlen3 := hl3.lenF
 rw [hrl] at hlen3
 try simp (disch := (first | exact dA | fail)) only [hlen3, go_sem, Nat.reduceBEq, Nat.reduceAdd, reduceIte]
 refine loop_at (fun n e g => ∃ (k : Nat) (st : Rs) (outs : List Oo) (vx vl vk : IV) (rl rk : List (List IV)), n = ops.length - k ∧ k ≤ ops.length ∧ e 6 = .ptr r 0 0 ∧ e 7 = vx ∧ e 21 = v ∧ e 22 = .int .i64 (ops.length : Nat) ∧ e 23 = .int .i64 (k : Nat) ∧ outs.length = k ∧
  runSt first servers 0 st0R ops = outs ++ runSt first servers k st (ops.drop k) ∧ Ri k st ∧
  Sp g (box r (rsO vs' first st.now k st.n vl vk .nilslice .nilslice) :: sl true 85 1 vl rl :: all2 quR rl st.l :: sl true 111 4 vk rk :: all2 kiR rk st.cache :: ints vs' servers :: dat (.slice 38 t_ResolveOut) [vx] (.list (outs.map ooD)) :: [old h])) ops.length ?_ ?_
 ·refine ⟨0, st0R, [], .nilslice, .nilslice, .nilslice, [], [], by omega, by omega, ?_⟩
  try simp (disch := (first | exact dA | fail)) only [go_sem, Nat.reduceBEq, Nat.reduceAdd, reduceIte]
  refine ⟨rfl, rfl, Ri.init, ?_⟩
  have S := ((((S.a2nil (R := kiR)).slNil (x := true) (el := 111) (sz := 4)).a2nil (R := quR)).slNil (x := true) (el := 85) (sz := 1))
  have S := S.new (Ext.refl _) (f := []) (A := dat (.slice 38 t_ResolveOut) [.nilslice] (.list [])) ⟨_, [], rfl, rfl, .inl ⟨rfl, rfl, .inl rfl⟩⟩ (by simp) (by simp)
  have S := by simpa only [mc0, mn0, List.getD_cons_zero, List.getD_cons_succ, ds0, dz0, ca0, na0] using Sp.sel S 8 [5, 1, 2, 3, 4, 6, 0, 7] (by simp only [lc0]; omega) (by decide) (by decide)
  exact S
 clear S
 rintro n e g ⟨k, st, outs, vx, vl, vk, rl, rk, rfl, hk, e6, e7, e21, e22, e23, hol, hru, hR, S⟩
 try simp (disch := (first | exact dA | fail)) only [e6, e7, e21, e22, e23, go_sem, Nat.reduceBEq, Nat.reduceAdd, reduceIte]
 refine test_dec (fun hb2 => ?_) (fun hb2 => ?_)
 ·obtain ⟨o, ho⟩ : ∃ q, ops[k]? = some q := ⟨_, List.getElem?_eq_getElem (by omega : k < ops.length)⟩
  obtain ⟨vb, hrk, ha⟩ := hrow k o ho
  have hszo := hsz o (List.mem_of_getElem? ho)
  have w1 : wr .i64 ((k : Int) + 1) = ((k + 1 : Nat) : Int) := by rw [wr64 _ (by omega)]; rfl
  rw [dropAt ho, runSt] at hru
  obtain ⟨hR', hB'⟩ := stepR_ok (first := first) (servers := servers) (ticket := k) (o := o) hR (by omega)
  have hsb := step_both first servers k o st
  rw [← hsb] at hru hR'
  simp only [Hold.p]
  rw [vc_skip]
  show vc _ _ _ _ _
  rw [vc_seq, vc_block]
  refine vc_split 3 (fun e g => ∃ p10, e 6 = .ptr r 0 0 ∧ e 7 = vx ∧ e 10 = .ptr p10 0 0 ∧ e 21 = v ∧ e 22 = .int .i64 (ops.length : Nat) ∧ e 23 = .int .i64 (k : Nat) ∧
   IS g r vs' first k (stepI first servers k o (rst st)).1 (box p10 (outOC (stepI first servers k o (rst st)).2) :: ints vs' servers :: dat (.slice 38 t_ResolveOut) [vx] (.list (outs.map ooD)) :: [old h])) ?_ ?_
  ·simp only [CC.split]
   have hlg := hsl.ext (S.ol 7 rfl)
   obtain ⟨a1, a2, hia, hal, har⟩ := hlg.at hrk .i64
   have vb1 := ha.one
   unfold roRow at har
   try simp (disch := (first | exact dA | fail)) only [e6, e7, e21, e22, e23, hia, har, go_sem, Nat.reduceBEq, Nat.reduceAdd, reduceIte]
   refine Sp.zero S fun p9 g9 S E_g9 l_g9 => ?_
   have q0 := (S.bx 0 rfl).eq
   try simp (disch := (first | exact dA | fail)) only [q0, e6, e7, e21, e22, e23, vb1, go_sem, Nat.reduceBEq, Nat.reduceAdd, reduceIte]
   refine stw_of rfl rfl (by first | rfl | simp (disch := assumption) only [go_sem, cells_one, one_as]) fun g10 hg => ?_
   have l_g10 := n_set hg
   have S := S.set0 hg
   clear hg
   have q0 := (S.bx 0 rfl).eq
   try simp (disch := (first | exact dA | fail)) only [q0, e6, e7, e21, e22, e23, vb1, go_sem, Nat.reduceBEq, Nat.reduceAdd, reduceIte]
   refine Sp.zero S fun p10 g11 S E_g11 l_g11 => ?_
   have W : IS g11 r vs' first k (rst st) (box p10 (outOC 0) :: ints vs' servers :: dat (.slice 38 t_ResolveOut) [vx] (.list (outs.map ooD)) :: old h :: [box p9 (roO o vb)]) := by
    have S := ((((S.a2nil (R := dnR)).slNil (x := false) (el := 40) (sz := 3)).a2nil (R := sdR)).slNil (x := false) (el := 49) (sz := 2))
    have S := by simpa only [mc0, mn0, List.getD_cons_zero, List.getD_cons_succ, ds0, dz0, ca0, na0] using Sp.sel S 14 [6, 7, 8, 2, 3, 9, 10, 0, 1, 4, 11, 12, 13, 5] (by simp only [lc0]; omega) (by decide) (by decide)
    exact ⟨vl, vk, .nilslice, .nilslice, rl, rk, [], [], S⟩
   have hdrop : ∀ {g : IH} {st' : Rs} {c : Int}, IS g r vs' first k st' (box p10 (outOC c) :: ints vs' servers :: dat (.slice 38 t_ResolveOut) [vx] (.list (outs.map ooD)) :: old h :: [box p9 (roO o vb)]) → IS g r vs' first k st' (box p10 (outOC c) :: ints vs' servers :: dat (.slice 38 t_ResolveOut) [vx] (.list (outs.map ooD)) :: [old h]) := by
    rintro g st' c ⟨vl, vk, vx, vd, rl, rk, rx, rd, S⟩
    refine ⟨vl, vk, vx, vd, rl, rk, rx, rd, ?_⟩
    have S := by simpa only [mc0, mn0, List.getD_cons_zero, List.getD_cons_succ, ds0, dz0, ca0, na0] using Sp.sel S 14 [0, 1, 2, 3, 4, 5, 6, 7, 8, 9, 10, 11, 12] (by simp only [lc0]; omega) (by decide) (by decide)
    exact S
   clear S hsb hru hR' hB'
   have hg := hR.g
   have hcx := hR.c
   have hax := hR.a
   have htx := hR.t
   have hnx := hR.n
   have hml := mu_le st.l
   obtain ⟨st0, hst0⟩ : ∃ st0, st0 = rst st := ⟨_, rfl⟩
   have q2 : st0.n = st.n := by rw [hst0]; rfl
   have q3 : st0.l = st.l := by rw [hst0]; rfl
   have q4 : st0.cache = st.cache := by rw [hst0]; rfl
   have q5 : st0.sent.length = 0 := by rw [hst0]; rfl
   have q6 : st0.done.length = 0 := by rw [hst0]; rfl
   rw [← hst0] at hg W
   rw [← hst0]
   rw [← q4] at hcx hax
   rw [← q3] at htx hml hnx
   rw [← q2] at hnx
   clear q2 q3 q4 hst0 hR
   have l16 := hg.l
   have ht0 := hg.t0
   have ht1 := hg.t1
   have hv' : ∀ g, Sp g (box p10 (outOC 0) :: ints vs' servers :: dat (.slice 38 t_ResolveOut) [vx] (.list (outs.map ooD)) :: old h :: [box p9 (roO o vb)]) → SlR g 1 vs' (intRows servers) := fun g S => S.slA 1 rfl
   have sv0 : servers ≠ [] := by rintro rfl; simp at hl
   have hax' : ∀ k ∈ st0.cache, k.addrs.length ≤ 100 := fun k hk => Nat.le_trans (hax k hk) (by decide)
   have hvb' : ∀ g, Sp g (box p10 (outOC 0) :: ints vs' servers :: dat (.slice 38 t_ResolveOut) [vx] (.list (outs.map ooD)) :: old h :: [box p9 (roO o vb)]) → SlR g 1 vb (strRows o.bytes) := fun g S => ha.ext (S.ol 3 rfl)
   obtain ⟨vl1, vk1, vx1, vd1, rl1, rk1, rx1, rd1, S⟩ := W
   by_cases hk1 : o.kind = 1
   ·have d1 : decide (o.kind = 1) = true := decide_eq_true hk1
    have q9 := (S.bx 9 rfl).eq
    have q13 := (S.bx 13 rfl).eq
    try simp (disch := (first | exact dA | fail)) only [q9, q13, e6, e7, e21, e22, e23, d1, go_sem, Nat.reduceBEq, Nat.reduceAdd, reduceIte]
    refine callA_of (implNameOK_c g11 o.name (by omega)) ?_
    rintro r4 g4 ⟨rfl, E4⟩
    have S := S.ext E4
    cases hok : okName o.name
    ·have hP : stepI first servers k o st0 = (st0, 1) := by
      unfold stepI
      rw [if_neg (by rw [hok]; rintro ⟨_, h⟩; cases h), if_neg (by omega), if_neg (by omega)]
     have d2 : decide (o.kind = 2) = false := decide_eq_false (by omega)
     have d3 : decide (o.kind = 3) = false := decide_eq_false (by omega)
     rw [hP]
     have q9 := (S.bx 9 rfl).eq
     have q13 := (S.bx 13 rfl).eq
     try simp (disch := (first | exact dA | fail)) only [q9, q13, e6, e7, e21, e22, e23, d2, d3, go_sem, Nat.reduceBEq, Nat.reduceAdd, reduceIte]
     refine st1_of (Nat.le_of_ble_eq_true rfl) (by first | rfl | assumption) fun g5 hg => ?_
     have l_g5 := n_set hg
     have S := S.set9 hg
     clear hg
     simp only [sz0, ss0, ts0, tz0, ds0, dz0, ca0, na0, Nat.reduceAdd] at S
     try simp (disch := (first | exact dA | fail)) only [e6, e7, e21, e22, e23, go_sem, Nat.reduceBEq, Nat.reduceAdd, reduceIte]
     exact ⟨p10, rfl, hdrop ⟨vl1, vk1, vx1, vd1, rl1, rk1, rx1, rd1, S⟩⟩
    ·have hP : stepI first servers k o st0 = wantI first servers k o.name st0 := if_pos ⟨hk1, hok⟩
     have q9 := (S.bx 9 rfl).eq
     have q13 := (S.bx 13 rfl).eq
     try simp (disch := (first | exact dA | fail)) only [q9, q13, e6, e7, e21, e22, e23, go_sem, Nat.reduceBEq, Nat.reduceAdd, reduceIte]
     have W : IS g4 r vs' first k st0 (box p10 (outOC 0) :: ints vs' servers :: dat (.slice 38 t_ResolveOut) [vx] (.list (outs.map ooD)) :: old h :: [box p9 (roO o vb)]) := ⟨vl1, vk1, vx1, vd1, rl1, rk1, rx1, rd1, S⟩
     refine callA_of (want_c W hv' hg hf.1 hf.2 sv0 hl.2 hok hcx hax' (by omega) (by omega) (by omega)) ?_
     clear S W
     rw [hP]
     generalize wantI first servers k o.name st0 = P
     rintro r5 g5 ⟨rfl, vl2, vk2, vx2, vd2, rl2, rk2, rx2, rd2, S⟩
     have q9 := (S.bx 9 rfl).eq
     have q13 := (S.bx 13 rfl).eq
     try simp (disch := (first | exact dA | fail)) only [q9, q13, e6, e7, e21, e22, e23, go_sem, Nat.reduceBEq, Nat.reduceAdd, reduceIte]
     refine st1_of (Nat.le_of_ble_eq_true rfl) (by first | rfl | assumption) fun g6 hg => ?_
     have l_g6 := n_set hg
     have S := S.set9 hg
     clear hg
     simp only [sz0, ss0, ts0, tz0, ds0, dz0, ca0, na0, Nat.reduceAdd] at S
     try simp (disch := (first | exact dA | fail)) only [e6, e7, e21, e22, e23, go_sem, Nat.reduceBEq, Nat.reduceAdd, reduceIte]
     exact ⟨p10, rfl, hdrop ⟨vl2, vk2, vx2, vd2, rl2, rk2, rx2, rd2, S⟩⟩
   ·have d1 : decide (o.kind = 1) = false := decide_eq_false hk1
    by_cases hk2 : o.kind = 2
    ·have hP : stepI first servers k o st0 = (hearI first servers o.from_ o.port o.bytes st0, 0) := by
      unfold stepI
      rw [if_neg (by omega), if_pos hk2]
     have d2 : decide (o.kind = 2) = true := decide_eq_true hk2
     have q9 := (S.bx 9 rfl).eq
     have q13 := (S.bx 13 rfl).eq
     try simp (disch := (first | exact dA | fail)) only [q9, q13, e6, e7, e21, e22, e23, d1, d2, vb1, go_sem, Nat.reduceBEq, Nat.reduceAdd, reduceIte]
     have W : IS g11 r vs' first k st0 (box p10 (outOC 0) :: ints vs' servers :: dat (.slice 38 t_ResolveOut) [vx] (.list (outs.map ooD)) :: old h :: [box p9 (roO o vb)]) := ⟨vl1, vk1, vx1, vd1, rl1, rk1, rx1, rd1, S⟩
     refine callA_of (hear_c W hv' hvb' (by omega) hg hf.1 hf.2 sv0 hl.2 hcx (by omega) (by omega) (by omega)) ?_
     clear S W
     rw [hP]
     generalize hearI first servers o.from_ o.port o.bytes st0 = P
     rintro r5 g5 W
     try simp (disch := (first | exact dA | fail)) only [e6, e7, e21, e22, e23, go_sem, Nat.reduceBEq, Nat.reduceAdd, reduceIte]
     exact ⟨p10, rfl, hdrop W⟩
    ·have d2 : decide (o.kind = 2) = false := decide_eq_false hk2
     by_cases hk3 : o.kind = 3
     rotate_left
     ·have d3 : decide (o.kind = 3) = false := decide_eq_false hk3
      have hP : stepI first servers k o st0 = (st0, 1) := by
       unfold stepI
       rw [if_neg (by omega), if_neg hk2, if_neg (by omega)]
      rw [hP]
      have q9 := (S.bx 9 rfl).eq
      have q13 := (S.bx 13 rfl).eq
      try simp (disch := (first | exact dA | fail)) only [q9, q13, e6, e7, e21, e22, e23, d1, d2, d3, go_sem, Nat.reduceBEq, Nat.reduceAdd, reduceIte]
      refine st1_of (Nat.le_of_ble_eq_true rfl) (by first | rfl | assumption) fun g5 hg => ?_
      have l_g5 := n_set hg
      have S := S.set9 hg
      clear hg
      simp only [sz0, ss0, ts0, tz0, ds0, dz0, ca0, na0, Nat.reduceAdd] at S
      try simp (disch := (first | exact dA | fail)) only [e6, e7, e21, e22, e23, go_sem, Nat.reduceBEq, Nat.reduceAdd, reduceIte]
      exact ⟨p10, rfl, hdrop ⟨vl1, vk1, vx1, vd1, rl1, rk1, rx1, rd1, S⟩⟩
     have d3 : decide (o.kind = 3) = true := decide_eq_true hk3
     have q0 := (S.bx 0 rfl).eq
     have q9 := (S.bx 9 rfl).eq
     have q13 := (S.bx 13 rfl).eq
     try simp (disch := (first | exact dA | fail)) only [q0, q9, q13, e6, e7, e21, e22, e23, d1, d2, d3, vb1, go_sem, Nat.reduceBEq, Nat.reduceAdd, reduceIte]
     refine callA_of (isTime_c g11 st0.now o.wait ⟨ht0, ht1⟩) ?_
     rintro r4 g4 ⟨rfl, rfl⟩
     by_cases hw : 0 ≤ o.wait ∧ o.wait ≤ 1000000000 - st0.now
     rotate_left
     ·have d4 : (decide (0 ≤ o.wait) && decide (o.wait ≤ 1000000000 - st0.now)) = false := by
       by_cases h1 : 0 ≤ o.wait
       ·rw [decide_eq_false (fun h2 => hw ⟨h1, h2⟩)]; simp
       ·rw [decide_eq_false h1]; simp
      have hP : stepI first servers k o st0 = (st0, 1) := by
       unfold stepI
       rw [if_neg (by omega), if_neg hk2, if_neg (fun h => hw h.2)]
      rw [hP]
      have q9 := (S.bx 9 rfl).eq
      have q13 := (S.bx 13 rfl).eq
      try simp (disch := (first | exact dA | fail)) only [q9, q13, e6, e7, e21, e22, e23, d4, go_sem, Nat.reduceBEq, Nat.reduceAdd, reduceIte]
      refine st1_of (Nat.le_of_ble_eq_true rfl) (by first | rfl | assumption) fun g5 hg => ?_
      have l_g5 := n_set hg
      have S := S.set9 hg
      clear hg
      simp only [sz0, ss0, ts0, tz0, ds0, dz0, ca0, na0, Nat.reduceAdd] at S
      try simp (disch := (first | exact dA | fail)) only [e6, e7, e21, e22, e23, go_sem, Nat.reduceBEq, Nat.reduceAdd, reduceIte]
      exact ⟨p10, rfl, hdrop ⟨vl1, vk1, vx1, vd1, rl1, rk1, rx1, rd1, S⟩⟩
     have d4 : (decide (0 ≤ o.wait) && decide (o.wait ≤ 1000000000 - st0.now)) = true := by rw [decide_eq_true hw.1, decide_eq_true hw.2]; rfl
     have hP : stepI first servers k o st0 = (passR first servers (st0.now + o.wait) (mu st0.l) st0, 0) := by
      unfold stepI
      rw [if_neg (by omega), if_neg hk2, if_pos ⟨hk3, hw⟩]
     rw [hP]
     obtain ⟨en, hen⟩ : ∃ en, en = st0.now + o.wait := ⟨_, rfl⟩
     have w0 : wr .i64 (st0.now + o.wait) = en := by rw [wr64 _ (by omega), hen]
     rw [← hen]
     have q0 := (S.bx 0 rfl).eq
     have q13 := (S.bx 13 rfl).eq
     try simp (disch := (first | exact dA | fail)) only [q0, q13, e6, e7, e21, e22, e23, d4, w0, go_sem, Nat.reduceBEq, Nat.reduceAdd, reduceIte]
     refine callA_of (next_c S (by omega)) ?_
     rintro r5 g5 ⟨rfl, rfl⟩
     try simp (disch := (first | exact dA | fail)) only [e6, e7, e21, e22, e23, go_sem, Nat.reduceBEq, Nat.reduceAdd, reduceIte]
     refine loop_at (fun m e g => ∃ (st' : Rs) (f : Nat) (vl vk vx' vd : IV) (rl rk rx rd : List (List IV)), m = mu st'.l ∧ Rg st' ∧ e 6 = .ptr r 0 0 ∧ e 7 = vx ∧ e 10 = .ptr p10 0 0 ∧ e 11 = .int .i64 en ∧ e 12 = ptrOf rl (nextN st'.l st'.l.length) ∧ e 21 = v ∧ e 22 = .int .i64 (ops.length : Nat) ∧ e 23 = .int .i64 (k : Nat) ∧
      passR first servers en f st' = passR first servers en (mu st0.l) st0 ∧ mu st'.l ≤ f ∧
      Sp g (box r (rsO vs' first st'.now k st'.n vl vk vx' vd) :: sl true 85 1 vl rl :: all2 quR rl st'.l :: sl false 40 3 vd rd :: all2 dnR rd st'.done ::
       sl true 111 4 vk rk :: all2 kiR rk st'.cache :: sl false 49 2 vx' rx :: all2 sdR rx st'.sent :: box p10 (outOC 0) :: ints vs' servers :: dat (.slice 38 t_ResolveOut) [vx] (.list (outs.map ooD)) :: old h :: [box p9 (roO o vb)])) (mu st0.l) ?_ ?_
     ·refine ⟨st0, mu st0.l, vl1, vk1, vx1, vd1, rl1, rk1, rx1, rd1, rfl, hg, ?_⟩
      try simp (disch := (first | exact dA | fail)) only [e6, e7, e21, e22, e23, go_sem, Nat.reduceBEq, Nat.reduceAdd, reduceIte]
      exact ⟨Nat.le_refl _, S⟩
     clear S e6 e7 e21 e22 e23
     rintro m e g ⟨st', f, vl, vk, vx', vd, rl, rk, rx, rd, rfl, hg', e6, e7, e10, e11, e12, e21, e22, e23, hp, hfu, S⟩
     have b1 : (true != true) = false := rfl
     have b2 : (false != true) = true := rfl
     have hdn := nextN_due en st'.l st'.l.length
     have hrl' := a2_len S 2 rfl
     have hl' := hg'.l
     have fin : dueN en st'.l st'.l.length = none → ∀ {g : IH}, Sp g (box r (rsO vs' first en k st'.n vl vk vx' vd) :: sl true 85 1 vl rl :: all2 quR rl st'.l :: sl false 40 3 vd rd :: all2 dnR rd st'.done ::
       sl true 111 4 vk rk :: all2 kiR rk st'.cache :: sl false 49 2 vx' rx :: all2 sdR rx st'.sent :: box p10 (outOC 0) :: ints vs' servers :: dat (.slice 38 t_ResolveOut) [vx] (.list (outs.map ooD)) :: old h :: [box p9 (roO o vb)]) →
       IS g r vs' first k (passR first servers en (mu st0.l) st0) (box p10 (outOC 0) :: ints vs' servers :: dat (.slice 38 t_ResolveOut) [vx] (.list (outs.map ooD)) :: old h :: [box p9 (roO o vb)]) := by
      intro hn0 g S
      rw [← hp, passR_none hn0]
      exact ⟨vl, vk, vx', vd, rl, rk, rx, rd, S⟩
     cases hnx2 : nextN st'.l st'.l.length with
     | none =>
      rw [hnx2] at e12 hdn
      have e12' : e 12 = .nilptr := e12
      have q0 := (S.bx 0 rfl).eq
      try simp (disch := (first | exact dA | fail)) only [q0, e6, e7, e10, e11, e12', e21, e22, e23, b1, go_sem, Nat.reduceBEq, Nat.reduceAdd, reduceIte]
      refine st1_of (Nat.le_of_ble_eq_true rfl) (by first | rfl | assumption) fun g6 hg => ?_
      have l_g6 := n_set hg
      have S := S.set0 hg
      clear hg
      simp only [sz0, ss0, ts0, tz0, ds0, dz0, ca0, na0, Nat.reduceAdd] at S
      try simp (disch := (first | exact dA | fail)) only [e6, e7, e10, e21, e22, e23, go_sem, Nat.reduceBEq, Nat.reduceAdd, reduceIte]
      exact ⟨p10, rfl, hdrop (fin hdn S)⟩
     | some b =>
      rw [hnx2] at e12 hdn
      simp only at hdn
      obtain ⟨hb1, hb3⟩ := nextN_lt hnx2
      obtain ⟨q, hq⟩ : ∃ q, st'.l[b]? = some q := ⟨_, List.getElem?_eq_getElem hb3⟩
      obtain ⟨p, vt, hrowb, hbp, _⟩ := qu_at S 2 rfl hq
      have hbp' := hbp.eq
      have e12' : e 12 = .ptr p 0 0 := by rw [e12]; exact ptrOf_some hrowb
      have hdo : dueOf st'.l b = q.due := by unfold dueOf; rw [hq]
      have hqm := hg'.q q (List.mem_of_getElem? hq)
      rw [hdo] at hdn
      have q0 := (S.bx 0 rfl).eq
      try simp (disch := (first | exact dA | fail)) only [q0, e6, e7, e10, e11, e12', e21, e22, e23, b2, hbp', go_sem, Nat.reduceBEq, Nat.reduceAdd, reduceIte]
      refine test_dec (fun hqe => ?_) (fun hqe => ?_)
      ·rw [if_pos hqe] at hdn
       have h1 := rg_now hg' (t := dueOf st'.l b) (by rw [hdo]; exact hqm.2.2.2) (by rw [hdo]; omega)
       obtain ⟨h2, h3, h4⟩ := again_rg (first := first) (servers := servers) (st := { st' with now := dueOf st'.l b }) h1 hq
       have hn1 := hg'.n1
       have hdn' := hg'.dn
       have hsx := hg'.sx
       have htk := sum_mem (fun q : Qn => q.tickets.length) hq
       have hl2 := h2.l
       simp only [tks] at hdn'
       obtain ⟨f', rfl⟩ : ∃ f', f = f' + 1 := by
        cases f with
        | zero =>
         exfalso
         have := mu_zero hg' (by omega)
         rw [this] at hq
         simp at hq
        | succ f' => exact ⟨f', rfl⟩
       rw [passR_some hdn] at hp
       have q0 := (S.bx 0 rfl).eq
       try simp (disch := (first | exact dA | fail)) only [q0, e6, e7, e10, e11, e12', e21, e22, e23, hbp', go_sem, Nat.reduceBEq, Nat.reduceAdd, reduceIte]
       refine st1_of (Nat.le_of_ble_eq_true rfl) (by first | rfl | assumption) fun g6 hg => ?_
       have l_g6 := n_set hg
       have S := S.set0 hg
       clear hg
       simp only [sz0, ss0, ts0, tz0, ds0, dz0, ca0, na0, Nat.reduceAdd] at S
       rw [← hdo] at S
       try simp (disch := (first | exact dA | fail)) only [e6, e7, e10, e11, e12', e21, e22, e23, go_sem, Nat.reduceBEq, Nat.reduceAdd, reduceIte]
       refine callA_of (ask_c (p := p) (st := { st' with now := dueOf st'.l b }) S hv' hq hrowb hf.1 hf.2 hg'.n0 (by show st'.n ≤ 1000000000000; omega) h1.t0 h1.t1 hqm.1 sv0 hl.2 (by show st'.l.length ≤ 1000000; omega) (by show st'.done.length + q.tickets.length ≤ 1000000; omega) (by show st'.sent.length ≤ 1000000; omega) (by have := (okName_ne hqm.2.2.1).2; omega)) ?_
       clear S
       rintro r7 g7 ⟨vl3, vk3, vx3, vd3, rl3, rk3, rx3, rd3, S⟩
       try simp (disch := (first | exact dA | fail)) only [e6, e7, e10, e11, e12', e21, e22, e23, go_sem, Nat.reduceBEq, Nat.reduceAdd, reduceIte]
       refine callA_of (next_c S (by omega)) ?_
       rintro r8 g8 ⟨rfl, rfl⟩
       try simp (disch := (first | exact dA | fail)) only [e6, e7, e10, e11, e21, e22, e23, go_sem, Nat.reduceBEq, Nat.reduceAdd, reduceIte]
       exact ⟨_, h3, _, f', vl3, vk3, vx3, vd3, rl3, rk3, rx3, rd3, rfl, h2, rfl, hp, by have h3 : mu (againS first servers { st' with now := dueOf st'.l b } b).l < mu st'.l := h3; omega, S⟩
      ·rw [if_neg hqe] at hdn
       have q0 := (S.bx 0 rfl).eq
       try simp (disch := (first | exact dA | fail)) only [q0, e6, e7, e10, e11, e21, e22, e23, go_sem, Nat.reduceBEq, Nat.reduceAdd, reduceIte]
       refine st1_of (Nat.le_of_ble_eq_true rfl) (by first | rfl | assumption) fun g6 hg => ?_
       have l_g6 := n_set hg
       have S := S.set0 hg
       clear hg
       simp only [sz0, ss0, ts0, tz0, ds0, dz0, ca0, na0, Nat.reduceAdd] at S
       try simp (disch := (first | exact dA | fail)) only [e6, e7, e10, e21, e22, e23, go_sem, Nat.reduceBEq, Nat.reduceAdd, reduceIte]
       exact ⟨p10, rfl, hdrop (fin hdn S)⟩
  ·clear S e6 e7 e21 e22 e23
   have hpc := stepI_cache (first := first) (servers := servers) (t := k) (o := o) hR
   generalize stepI first servers k o (rst st) = P at hsb hru hR' hpc
   rintro e g ⟨p10, e6, e7, e10, e21, e22, e23, vl1, vk1, vx1, vd1, rl1, rk1, rx1, rd1, S⟩
   simp only [CC.split]
   have q0 := (S.bx 0 rfl).eq
   have q9 := (S.bx 9 rfl).eq
   try simp (disch := (first | exact dA | fail)) only [q0, q9, e6, e7, e10, e21, e22, e23, w1, go_sem, Nat.reduceBEq, Nat.reduceAdd, reduceIte]
   refine st1_of (Nat.le_of_ble_eq_true rfl) (by first | rfl | assumption) fun g2 hg => ?_
   have l_g2 := n_set hg
   have S := S.set0 hg
   clear hg
   simp only [sz0, ss0, ts0, tz0, ds0, dz0, ca0, na0, Nat.reduceAdd] at S
   have q9 := (S.bx 9 rfl).eq
   try simp (disch := (first | exact dA | fail)) only [q9, e6, e7, e10, e21, e22, e23, go_sem, Nat.reduceBEq, Nat.reduceAdd, reduceIte]
   have W : IS g2 r vs' first ((k + 1 : Nat) : Int) P.1 (box p10 (outOC P.2) :: ints vs' servers :: dat (.slice 38 t_ResolveOut) [vx] (.list (outs.map ooD)) :: [old h]) := ⟨vl1, vk1, vx1, vd1, rl1, rk1, rx1, rd1, S⟩
   refine callA_of (tell_c W hpc) ?_
   clear S W
   rintro r3 g3 ⟨vx5, vd5, rx5, rd5, vl5, vk5, rl5, rk5, rfl, z1, z2, S⟩
   try simp (disch := (first | exact dA | fail)) only [e6, e7, e10, e21, e22, e23, go_sem, Nat.reduceBEq, Nat.reduceAdd, reduceIte]
   refine Sp.bsl1 S (by first | rfl | (rw [cells_one (by assumption)]; rfl)) (by first | rfl | simp (disch := assumption) only [go_sem, cells_one, one_as]) fun p6 g6 S E_g6 l_g6 => ?_
   try simp only [cells_agg, cells_int, cells_bool, cells_ptr, cells_str] at S
   have q0 := (S.bx 0 rfl).eq
   try simp (disch := (first | exact dA | fail)) only [q0, e6, e7, e10, e21, e22, e23, go_sem, Nat.reduceBEq, Nat.reduceAdd, reduceIte]
   have S := by simpa only [mc0, mn0, List.getD_cons_zero, List.getD_cons_succ, ds0, dz0, ca0, na0] using Sp.sel S 14 [6, 7, 8, 9, 1, 2, 3, 4, 5, 11, 12, 13] (by simp only [lc0]; omega) (by decide) (by decide)
   have S := oo_dat (o := outOf (freshS P.1, P.2)) S
   have S := by simpa only [mc0, mn0, List.getD_cons_zero, List.getD_cons_succ, ds0, dz0, ca0, na0] using Sp.sel S 8 [7, 0, 1, 2, 3, 4, 5, 6] (by simp only [lc0]; omega) (by decide) (by decide)
   refine Sp.dapp S (by rw [List.length_map]; omega) ?_
   clear S
   intro v14 g14 S z14 c14
   try simp (disch := (first | exact dA | fail)) only [e6, e7, e10, e21, e22, e23, w1, go_sem, Nat.reduceBEq, Nat.reduceAdd, reduceIte]
   have S := by simpa only [mc0, mn0, List.getD_cons_zero, List.getD_cons_succ, ds0, dz0, ca0, na0] using Sp.sel S 7 [1, 2, 3, 4, 5, 6, 0] (by simp only [lc0]; omega) (by decide) (by decide)
   refine ⟨ops.length - (k + 1), by omega, k + 1, freshS P.1, outs ++ [outOf (freshS P.1, P.2)], v14, vl5, vk5, rl5, rk5, rfl, by omega, rfl, rfl, by simp [hol], ?_, hR', ?_⟩
   ·rw [hru]; simp
   ·rw [List.map_append]; exact S
 ·have hd : ops.drop k = [] := List.drop_eq_nil_of_le (by omega)
  rw [hd, runSt, List.append_nil] at hru
  rw [hru]
  try simp (disch := (first | exact dA | fail)) only [e7, go_sem, Nat.reduceBEq, Nat.reduceAdd, reduceIte]
  have S := by simpa only [mc0, mn0, List.getD_cons_zero, List.getD_cons_succ, ds0, dz0, ca0, na0] using Sp.sel S 8 [6, 7] (by simp only [lc0]; omega) (by decide) (by decide)
  exact ⟨⟨vx, rfl, S.toOw⟩, S.drop.oldE⟩
end
end Go.Proofs.YtaoffieemecioaaDoor

