import Derived.Test.YtaoffieemecioaaDoorL4
set_option linter.unusedSimpArgs false
set_option linter.unusedVariables false
set_option maxRecDepth 20000
namespace Go.Proofs.YtaoffieemecioaaDoor
open Go Go.IW
section
attribute [local go_sem] List.getElem?_cons_zero List.getElem?_cons_succ Option.bind_some List.map_cons List.map_nil Nat.zero_add if_true List.getD_cons_zero List.getD_cons_succ List.contains_cons List.contains_nil Bool.or_true Bool.true_or Bool.or_false Bool.false_or Bool.not_true Bool.not_false true_and and_true rowA_whole mid_get rowO_rows cellO_rows upd_ne Nat.add_assoc Nat.add_zero List.all_cons List.all_nil one_bool one_int one_str one_ptr one_nilptr one_slice one_eslice one_nilslice one_func one_iface one_niliface Bool.and_true Bool.and_self List.length_cons List.length_nil Nat.one_ne_zero Nat.succ_ne_zero if_false List.set_cons_zero List.set_cons_succ lay_nil lay_1 lay_w Option.map_some cells_one rowA_some List.drop_succ_cons List.drop_zero List.take_succ_cons List.take_zero

structure DrawOK (servers : List Int) (first : Int) (ops : List Ro) : Prop where
 n : ops.length ≤ 1000
 w : ∀ o ∈ ops, o.wait ≤ 60000
 s : ∀ o ∈ ops, o.name.length ≤ 100 ∧ o.bytes.length ≤ 1000
 sl : servers.length ≤ 5
 sv : ∀ s ∈ servers, s ≠ 9
def roR (r : List IV) (o : Ro) : As := exA fun vb : IV => stars (fact (r = roRow o vb ∧ vb.one = true)) (rdA vb o.bytes)
theorem ro_un {h : IH} {L : List As} {o : Ro} {vb : IV} (S : Sp h (rdA vb o.bytes :: L)) (h1 : vb.one = true) : Sp h (roR (roRow o vb) o :: L) := by
 have S := S.unfact (p := roRow o vb = roRow o vb ∧ vb.one = true) ⟨rfl, h1⟩
 exact Sp.unex (F := fun v : IV => stars (fact (roRow o vb = roRow o v ∧ v.one = true)) (rdA v o.bytes)) vb S.unstar
theorem ro_at {h : IH} {L : List As} {rs : List (List IV)} {ops : List Ro} (S : Sp h L) (j : Nat) (hj : L[j]? = some (all2 roR rs ops)) {i : Nat} {o : Ro} (hi : ops[i]? = some o) : ∃ vb, rs[i]? = some (roRow o vb) ∧ SlR h 1 vb (strRows o.bytes) := by
 obtain ⟨f, hf⟩ := S.part j hj
 obtain ⟨r, f', h1, vb, f1, f2, _, ⟨_, rfl, h4⟩, h6, _⟩ := all2_at hf hi
 exact ⟨vb, h1, h6⟩
theorem sd_at {h : IH} {L : List As} {rs : List (List IV)} {ds : List Sd} (S : Sp h L) (j : Nat) (hj : L[j]? = some (all2 sdR rs ds)) {i : Nat} {d : Sd} (hi : ds[i]? = some d) : ∃ vb, rs[i]? = some (sdRow d vb) ∧ SlR h 1 vb (strRows d.bytes) := by
 obtain ⟨f, hf⟩ := S.part j hj
 obtain ⟨r, f', h1, vb, f1, f2, _, ⟨_, rfl, h4⟩, h6⟩ := all2_at hf hi
 refine ⟨vb, h1, ?_⟩
 rcases h6 with ⟨h4, _, h5 | h5⟩ | ⟨l, h0, h5, _, h8, h9⟩
 ·rw [h4, h5]; exact SlR.nil _ _
 ·rw [h4, h5]; exact SlR.empty _ _ _
 ·rw [h5]; exact SlR.whole h9 rfl h8
abbrev cfgO (vs : IV) (first : Int) : IObj := .rows [[vs, .int .i64 first]] 25 2 false
def srvN (k : Nat) : List Int := (List.range k).map fun i : Nat => 167772210 + (i : Int)
theorem srvN_len (k : Nat) : (srvN k).length = k := by simp [srvN]
theorem srvN_snoc (k : Nat) : srvN (k + 1) = srvN k ++ [167772210 + (k : Int)] := by simp [srvN, List.range_succ]
structure OpOK (o : Ro) : Prop where
 w : o.wait ≤ 60000
 n : o.name.length ≤ 100
 b : o.bytes.length ≤ 1000
set_option maxHeartbeats 8000000 in
theorem draw_c (h : IH) (v : IV) (code : Tx) (hs : SlR h 1 v (strRows code)) (hl : code.length ≤ 1048576) :
  ICalls Tryd.prog 5 [v] h fun r h' => ∃ vs first vo servers ops rs, r = .tuple [.agg [vs, .int .i64 first], vo] ∧ vs.one = true ∧ vo.one = true ∧ DrawOK servers first ops ∧ Sp h' [sl false 30 6 vo rs, all2 roR rs ops, ints vs servers, old h] := by
 refine icalls (.of ok5) (Nat.le_of_ble_eq_true rfl) ?_
 unfold c5
 have y1 := hs.one
 have hlen := hs.lenF
 rw [strRows_len] at hlen
 have S := Sp.start h
 refine vc_split 4 (fun e g => ∃ p2 p4 p5 first n, e 0 = v ∧ e 2 = .ptr p2 0 0 ∧ e 4 = .ptr p4 0 0 ∧ e 5 = .ptr p5 0 0 ∧ e 6 = .int .i64 n ∧ 1 ≤ n ∧ n ≤ 3 ∧ 0 ≤ first ∧ first ≤ 65535 ∧ (∀ l i m, v = .slice l i m → l ≠ p4) ∧
  Sp g [srcA p4 v code, box p5 (cfgO .nilslice first), box p2 (cfgO .nilslice 0), old h]) ?_ ?_
 ·simp only [CC.split]
  try simp (disch := (first | exact dA | fail)) only [y1, go_sem, Nat.reduceBEq, Nat.reduceAdd, reduceIte]
  refine Sp.zero S fun p2 g1 S E_g1 l_g1 => ?_
  try simp (disch := (first | exact dA | fail)) only [y1, go_sem, Nat.reduceBEq, Nat.reduceAdd, reduceIte]
  refine callA_of (l01Begin_c g1 v code (hs.ext (S.ol 1 rfl)) hl) ?_
  rintro r2 g2 ⟨st, rfl, E2⟩
  have S := S.ext E2
  try simp (disch := (first | exact dA | fail)) only [y1, go_sem, Nat.reduceBEq, Nat.reduceAdd, reduceIte]
  refine Sp.zero S fun p4 g3 S E_g3 l_g3 => ?_
  have q0 := (S.bx 0 rfl).eq
  try simp (disch := (first | exact dA | fail)) only [q0, y1, go_sem, Nat.reduceBEq, Nat.reduceAdd, reduceIte]
  refine stw_of rfl rfl (by first | rfl | simp (disch := assumption) only [go_sem, cells_one, one_as]) fun g4 hg => ?_
  have l_g4 := n_set hg
  have S := S.set0 hg
  clear hg
  have hne : ∀ l i m, v = .slice l i m → l ≠ p4 := by
   intro l i m e
   have h1 := hs.lt l i m e
   have S' := S
   clear S
   have S := S'
   have S := by simpa only [mc0, mn0, List.getD_cons_zero, List.getD_cons_succ, ds0, dz0, ca0, na0] using Sp.sel S 3 [0, 2, 1] (by simp only [lc0]; omega) (by decide) (by decide)
   obtain ⟨f, ⟨rfl, _⟩, _, hge⟩ := S.oldNot
   have := hge p4 (by simp)
   omega
  have S := src_new (code := code) S (Int.le_refl 0) (by omega)
  try simp (disch := (first | exact dA | fail)) only [go_sem, Nat.reduceBEq, Nat.reduceAdd, reduceIte]
  obtain ⟨C, hp⟩ := src_use S (hs.ext (S.ol 2 rfl)) hne
  refine callA_of (l01Next_c g4 p4 v code 65536 C (by omega) (by omega) hl) ?_
  rintro r5 g5 ⟨first, rfl, f0, f1, C5, V5, _⟩
  have S := src_back S C5 V5
  try simp (disch := (first | exact dA | fail)) only [ca0, na0, lay_p, go_sem, Nat.reduceBEq, Nat.reduceAdd, reduceIte]
  refine Sp.zero S fun p5 g6 S E_g6 l_g6 => ?_
  have q0 := (S.bx 0 rfl).eq
  try simp (disch := (first | exact dA | fail)) only [q0, go_sem, Nat.reduceBEq, Nat.reduceAdd, reduceIte]
  refine stw_of rfl rfl (by first | rfl | simp (disch := assumption) only [go_sem, cells_one, one_as]) fun g7 hg => ?_
  have l_g7 := n_set hg
  have S := S.set0 hg
  clear hg
  try simp (disch := (first | exact dA | fail)) only [go_sem, Nat.reduceBEq, Nat.reduceAdd, reduceIte]
  have S := by simpa only [mc0, mn0, List.getD_cons_zero, List.getD_cons_succ, ds0, dz0, ca0, na0] using Sp.sel S 2 [1, 0] (by simp only [lc0]; omega) (by decide) (by decide)
  obtain ⟨C, hp⟩ := src_use S (hs.ext (S.ol 3 rfl)) hne
  refine callA_of (l01Next_c g7 p4 v code 3 C (by omega) (by omega) hl) ?_
  rintro r8 g8 ⟨n, rfl, n0, n1, C8, V8, _⟩
  have S := src_back S C8 V8
  have w1 : wr .i64 (1 + n) = 1 + n := wr64 _ (by omega)
  try simp (disch := (first | exact dA | fail)) only [w1, go_sem, Nat.reduceBEq, Nat.reduceAdd, reduceIte]
  exact ⟨p2, p4, p5, first, 1 + n, rfl, rfl, rfl, rfl, by omega, by omega, f0, by omega, hne, S⟩
 clear S
 rintro e g ⟨p2, p4, p5, first, n, e0, e2, e4, e5, e6, n1, n3, f0, f1, hne, S⟩
 simp only [CC.split]
 obtain ⟨n, rfl⟩ : ∃ m : Nat, n = (m : Int) := ⟨n.toNat, by omega⟩
 refine vc_split 1 (fun e g => ∃ vs, e 0 = v ∧ e 2 = .ptr p2 0 0 ∧ e 4 = .ptr p4 0 0 ∧ e 5 = .ptr p5 0 0 ∧ vs.one = true ∧ Sp g [srcA p4 v code, box p5 (cfgO vs first), ints vs (srvN n), box p2 (cfgO .nilslice 0), old h]) ?_ ?_
 ·simp only [CC.split]
  try simp (disch := (first | exact dA | fail)) only [e0, e2, e4, e5, e6, go_sem, Nat.reduceBEq, Nat.reduceAdd, reduceIte]
  refine loop_at (fun m e g => ∃ (k : Nat) (vs : IV), m = n - k ∧ k ≤ n ∧ e 0 = v ∧ e 2 = .ptr p2 0 0 ∧ e 4 = .ptr p4 0 0 ∧ e 5 = .ptr p5 0 0 ∧ e 6 = .int .i64 (n : Nat) ∧ e 7 = .int .i64 (k : Nat) ∧ vs.one = true ∧ Sp g [sl false 2 1 vs (intRows (srvN k)), box p5 (cfgO vs first), srcA p4 v code, box p2 (cfgO .nilslice 0), old h]) n ?_ ?_
  ·refine ⟨0, .nilslice, by omega, by omega, ?_⟩
   try simp (disch := (first | exact dA | fail)) only [e0, e2, e4, e5, e6, go_sem, Nat.reduceBEq, Nat.reduceAdd, reduceIte]
   refine ⟨rfl, ?_⟩
   have S := S.slNil (x := false) (el := 2) (sz := 1)
   have S := by simpa only [mc0, mn0, List.getD_cons_zero, List.getD_cons_succ, ds0, dz0, ca0, na0] using Sp.sel S 3 [0, 2, 1] (by simp only [lc0]; omega) (by decide) (by decide)
   exact S
  ·clear S e0 e2 e4 e5 e6
   rintro m e g ⟨k, vs, rfl, hk, e0, e2, e4, e5, e6, e7, z1, S⟩
   try simp (disch := (first | exact dA | fail)) only [e0, e2, e4, e5, e6, e7, go_sem, Nat.reduceBEq, Nat.reduceAdd, reduceIte]
   refine test_dec (fun hb => ?_) (fun hb => ?_)
   ·have w1 : wr .i64 (167772210 + (k : Int)) = 167772210 + (k : Int) := wr64 _ (by omega)
    have w2 : wr .i64 ((k : Int) + 1) = ((k + 1 : Nat) : Int) := by rw [wr64 _ (by omega)]; rfl
    have q1 := (S.bx 1 rfl).eq
    try simp (disch := (first | exact dA | fail)) only [q1, e0, e2, e4, e5, e6, e7, w1, go_sem, Nat.reduceBEq, Nat.reduceAdd, reduceIte]
    refine Sp.bsl1 S (by first | rfl | (rw [cells_one (by assumption)]; rfl)) (by first | rfl | simp (disch := assumption) only [go_sem, cells_one, one_as]) fun p6 g6 S E_g6 l_g6 => ?_
    try simp only [cells_agg, cells_int, cells_bool, cells_ptr, cells_str] at S
    have q0 := (S.bx 0 rfl).eq
    have q2 := (S.bx 2 rfl).eq
    have s1 := S.slA 1 rfl
    have len_s1 := s1.lenF
    have z1 := s1.one
    try simp (disch := (first | exact dA | fail)) only [q0, q2, len_s1, z1, e0, e2, e4, e5, e6, e7, go_sem, Nat.reduceBEq, Nat.reduceAdd, reduceIte]
    refine S.app1 (y := false) (b := 8) (by rw [intRows_len, srvN_len]; omega) ?_
    clear S
    intro v7 g7 S z7
    have q1 := (S.bx 1 rfl).eq
    try simp (disch := (first | exact dA | fail)) only [q1, e0, e2, e4, e5, e6, e7, z7, go_sem, Nat.reduceBEq, Nat.reduceAdd, reduceIte]
    refine st1_of (Nat.le_of_ble_eq_true rfl) (by first | rfl | assumption) fun g8 hg => ?_
    have l_g8 := n_set hg
    have S := S.set1 hg
    clear hg
    simp only [sz0, ss0, ts0, tz0, ds0, dz0, ca0, na0, Nat.reduceAdd] at S
    try simp (disch := (first | exact dA | fail)) only [e0, e2, e4, e5, e6, e7, w2, go_sem, Nat.reduceBEq, Nat.reduceAdd, reduceIte]
    have ei : intRows (srvN k) ++ [[IV.int .i64 (167772210 + (k : Int))]] = intRows (srvN (k + 1)) := by rw [srvN_snoc]; simp [intRows]
    rw [ei] at S
    exact ⟨n - (k + 1), by omega, k + 1, v7, rfl, by omega, rfl, z7, S⟩
   ·have hk2 : k = n := by omega
    subst hk2
    try simp (disch := (first | exact dA | fail)) only [e0, e2, e4, e5, go_sem, Nat.reduceBEq, Nat.reduceAdd, reduceIte]
    refine ⟨vs, z1, ?_⟩
    have S := by simpa only [mc0, mn0, List.getD_cons_zero, List.getD_cons_succ, ds0, dz0, ca0, na0] using Sp.sel S 3 [2, 1, 0] (by simp only [lc0]; omega) (by decide) (by decide)
    exact S
 clear S e0 e2 e4 e5 e6
 rintro e g ⟨vs, e0, e2, e4, e5, zv, S⟩
 simp only [CC.split]
 refine vc_split 5 (fun e g => ∃ (p8 : Nat) (many : Bool) (sN : Nat), e 0 = v ∧ e 2 = .ptr p2 0 0 ∧ e 4 = .ptr p4 0 0 ∧ e 5 = .ptr p5 0 0 ∧ e 8 = .ptr p8 0 0 ∧ e 9 = .eslice true ∧ e 10 = .eslice true ∧ e 11 = .int .i64 (sN : Nat) ∧ e 12 = .bool many ∧ sN ≤ 135 ∧
  Sp g [srcA p4 v code, box p8 (wdO vs first 0 0 .nilslice .nilslice 0 .nilslice .nilslice 0 0), box p5 (cfgO vs first), ints vs (srvN n), box p2 (cfgO .nilslice 0), old h]) ?_ ?_
 ·simp only [CC.split]
  have q1 := (S.bx 1 rfl).eq
  try simp (disch := (first | exact dA | fail)) only [q1, e0, e2, e4, e5, zv, ca0, na0, lay_p, go_sem, Nat.reduceBEq, Nat.reduceAdd, reduceIte]
  refine Sp.zero S fun p8 g2 S E_g2 l_g2 => ?_
  have q0 := (S.bx 0 rfl).eq
  try simp (disch := (first | exact dA | fail)) only [q0, e0, e2, e4, e5, zv, go_sem, Nat.reduceBEq, Nat.reduceAdd, reduceIte]
  refine stw_of rfl rfl (by first | rfl | simp (disch := assumption) only [go_sem, cells_one, one_as]) fun g3 hg => ?_
  have l_g3 := n_set hg
  have S := S.set0 hg
  clear hg
  try simp (disch := (first | exact dA | fail)) only [e0, e2, e4, e5, go_sem, Nat.reduceBEq, Nat.reduceAdd, reduceIte]
  have S := by simpa only [mc0, mn0, List.getD_cons_zero, List.getD_cons_succ, ds0, dz0, ca0, na0] using Sp.sel S 2 [1, 0] (by simp only [lc0]; omega) (by decide) (by decide)
  obtain ⟨C, hp⟩ := src_use S (hs.ext (S.ol 5 rfl)) hne
  refine callA_of (l01Next_c g3 p4 v code 30 C (by omega) (by omega) hl) ?_
  rintro r4 g4 ⟨x, rfl, x0, x1, C4, V4, _⟩
  have S := src_back S C4 V4
  have hlg := hs.ext (S.ol 5 rfl)
  have hleng := hlg.lenF
  rw [strRows_len] at hleng
  have w1 : wr .i64 (6 + x) = 6 + x := wr64 _ (by omega)
  try simp (disch := (first | exact dA | fail)) only [e0, e2, e4, e5, hleng, quo8 code.length (by omega), w1, go_sem, Nat.reduceBEq, Nat.reduceAdd, reduceIte]
  refine callA_of (l14Min_c g4 _ _) ?_
  rintro r5 g5 ⟨rfl, rfl⟩
  obtain ⟨sN, hsN⟩ : ∃ sN : Nat, (sN : Int) = 6 + x + min (((code.length / 8 : Nat)) : Int) 100 := ⟨(6 + x + min (((code.length / 8 : Nat)) : Int) 100).toNat, by omega⟩
  have w2 : wr .i64 (6 + x + min (((code.length / 8 : Nat)) : Int) 100) = (sN : Int) := by rw [wr64 _ (by omega), hsN]
  have hsN2 : sN ≤ 135 := by omega
  try simp (disch := (first | exact dA | fail)) only [e0, e2, e4, e5, w2, go_sem, Nat.reduceBEq, Nat.reduceAdd, reduceIte]
  obtain ⟨C, hp⟩ := src_use S (hs.ext (S.ol 5 rfl)) hne
  refine callA_of (l01Next_c g5 p4 v code 5 C (by omega) (by omega) hl) ?_
  rintro r6 g6 ⟨y, rfl, y0, y5, C6, V6, _⟩
  have S := src_back S C6 V6
  clear C C4 C6 hsN w2 hlg hleng
  try simp (disch := (first | exact dA | fail)) only [e0, e2, e4, e5, go_sem, Nat.reduceBEq, Nat.reduceAdd, reduceIte]
  exact ⟨p8, decide (y = 0), sN, rfl, rfl, rfl, hsN2, S⟩
 clear S e0 e2 e4 e5
 rintro e g ⟨p8, many, sN, e0, e2, e4, e5, e8, e9, e10, e11, e12, hsN, S⟩
 simp only [CC.split]
 refine vc_split 1 (fun e g => ∃ (vo : IV) (ops : List Ro) (ro : List (List IV)), e 0 = v ∧ e 2 = .ptr p2 0 0 ∧ e 4 = .ptr p4 0 0 ∧ e 5 = .ptr p5 0 0 ∧ e 9 = vo ∧ vo.one = true ∧ ops.length ≤ 135 ∧ (∀ o ∈ ops, OpOK o) ∧
  Sp g [srcA p4 v code, sl false 30 6 vo ro, all2 roR ro ops, box p5 (cfgO vs first), ints vs (srvN n), box p2 (cfgO .nilslice 0), old h]) ?_ ?_
 ·simp only [CC.split]
  try simp (disch := (first | exact dA | fail)) only [e0, e2, e4, e5, e8, e9, e10, e11, e12, go_sem, Nat.reduceBEq, Nat.reduceAdd, reduceIte]
  refine loop_at (fun m e g => ∃ (k : Nat) (st : Rs) (ops : List Ro) (sents : List Sd) (vo vn vq vk vx0 vd0 : IV) (cd ent ask : Int) (ro rn rq rk : List (List IV)), m = sN - k ∧ k ≤ sN ∧ e 0 = v ∧ e 2 = .ptr p2 0 0 ∧ e 4 = .ptr p4 0 0 ∧ e 5 = .ptr p5 0 0 ∧ e 8 = .ptr p8 0 0 ∧ e 9 = vo ∧ e 10 = vn ∧ e 11 = .int .i64 (sN : Nat) ∧ e 12 = .bool many ∧ e 13 = .int .i64 (k : Nat) ∧
   vo.one = true ∧ vn.one = true ∧ ops.length = k ∧ (∀ o ∈ ops, OpOK o) ∧ sents.length ≤ 85 * k ∧ (∀ x ∈ sents, x.bytes.length ≤ 1000) ∧ Ri k st ∧
   Sp g [srcA p4 v code, box p8 (wdO vs first st.now st.n vq vk cd vx0 vd0 ent ask), sl false 131 6 vq rq, all2 qnR rq st.l, sl false 129 4 vk rk, all2 knR rk st.cache,
    sl false 30 6 vo ro, all2 roR ro ops, sl false 49 2 vn rn, all2 sdR rn sents, box p5 (cfgO vs first), ints vs (srvN n), box p2 (cfgO .nilslice 0), old h]) sN ?_ ?_
  ·refine ⟨0, st0R, [], [], .eslice true, .eslice true, .nilslice, .nilslice, .nilslice, .nilslice, 0, 0, 0, [], [], [], [], by omega, by omega, ?_⟩
   try simp (disch := (first | exact dA | fail)) only [e0, e2, e4, e5, e8, e9, e10, e11, e12, go_sem, Nat.reduceBEq, Nat.reduceAdd, reduceIte]
   refine ⟨rfl, by simp, by simp, by simp, Ri.init, ?_⟩
   have S := ((((S.a2nil (R := sdR)).slEmpty (x := false) (el := 49) (sz := 2)).a2nil (R := roR)).slEmpty (x := false) (el := 30) (sz := 6))
   have S := ((((S.a2nil (R := knR)).slNil (x := false) (el := 129) (sz := 4)).a2nil (R := qnR)).slNil (x := false) (el := 131) (sz := 6))
   have S := by simpa only [mc0, mn0, List.getD_cons_zero, List.getD_cons_succ, ds0, dz0, ca0, na0] using Sp.sel S 10 [8, 9, 0, 1, 2, 3, 4, 5, 6, 7] (by simp only [lc0]; omega) (by decide) (by decide)
   exact S
  ·clear S e0 e2 e4 e5 e8 e9 e10 e11 e12
   rintro m e g ⟨k, st, ops, sents, vo, vn, vq, vk, vx0, vd0, cd, ent, ask, ro, rn, rq, rk, rfl, hk, e0, e2, e4, e5, e8, e9, e10, e11, e12, e13, zo, zn, hol, hop, hsl, hsb, hR, S⟩
   try simp (disch := (first | exact dA | fail)) only [e0, e2, e4, e5, e8, e9, e10, e11, e12, e13, go_sem, Nat.reduceBEq, Nat.reduceAdd, reduceIte]
   refine test_dec (fun hb => ?_) (fun hb => ?_)
   rotate_left
   ·skip
    try simp (disch := (first | exact dA | fail)) only [e0, e2, e4, e5, e9, go_sem, Nat.reduceBEq, Nat.reduceAdd, reduceIte]
    refine ⟨vo, ops, ro, rfl, zo, by omega, hop, ?_⟩
    have S := by simpa only [mc0, mn0, List.getD_cons_zero, List.getD_cons_succ, ds0, dz0, ca0, na0] using Sp.sel S 13 [0, 6, 7, 10, 11, 12] (by simp only [lc0]; omega) (by decide) (by decide)
    exact S
   -- LOOPBODY
   simp only [Hold.p]
   rw [vc_skip]
   show vc _ _ _ _ _
   rw [vc_seq, vc_block]
   refine vc_split 3 (fun e g => ∃ (o : Ro) (w : IV) (p14 : Nat), e 0 = v ∧ e 2 = .ptr p2 0 0 ∧ e 4 = .ptr p4 0 0 ∧ e 5 = .ptr p5 0 0 ∧ e 8 = .ptr p8 0 0 ∧ e 9 = vo ∧ e 10 = vn ∧ e 11 = .int .i64 (sN : Nat) ∧ e 12 = .bool many ∧ e 13 = .int .i64 (k : Nat) ∧ e 14 = .ptr p14 0 0 ∧ OpOK o ∧ w.one = true ∧ Sp g (box p14 (roO o w) :: rdA w o.bytes :: srcA p4 v code :: box p8 (wdO vs first st.now st.n vq vk cd vx0 vd0 ent ask) :: sl false 131 6 vq rq :: all2 qnR rq st.l :: sl false 129 4 vk rk :: all2 knR rk st.cache :: sl false 30 6 vo ro :: all2 roR ro ops :: sl false 49 2 vn rn :: all2 sdR rn sents :: box p5 (cfgO vs first) :: ints vs (srvN n) :: box p2 (cfgO .nilslice 0) :: [old h])) ?_ ?_
   ·simp only [CC.split]
    refine vc_split 2 (fun e g => ∃ (s : Tx) (p14 : Nat), e 0 = v ∧ e 2 = .ptr p2 0 0 ∧ e 4 = .ptr p4 0 0 ∧ e 5 = .ptr p5 0 0 ∧ e 8 = .ptr p8 0 0 ∧ e 9 = vo ∧ e 10 = vn ∧ e 11 = .int .i64 (sN : Nat) ∧ e 12 = .bool many ∧ e 13 = .int .i64 (k : Nat) ∧ e 14 = .ptr p14 0 0 ∧ s.length ≤ 30 ∧ Sp g (box p14 (roO ⟨1, 0, 0, 0, s, []⟩ .nilslice) :: srcA p4 v code :: box p8 (wdO vs first st.now st.n vq vk cd vx0 vd0 ent ask) :: sl false 131 6 vq rq :: all2 qnR rq st.l :: sl false 129 4 vk rk :: all2 knR rk st.cache :: sl false 30 6 vo ro :: all2 roR ro ops :: sl false 49 2 vn rn :: all2 sdR rn sents :: box p5 (cfgO vs first) :: ints vs (srvN n) :: box p2 (cfgO .nilslice 0) :: [old h])) ?_ ?_
    ·simp only [CC.split]
     try simp (disch := (first | exact dA | fail)) only [e0, e2, e4, e5, e8, e9, e10, e11, e12, e13, go_sem, Nat.reduceBEq, Nat.reduceAdd, reduceIte]
     obtain ⟨C, hp⟩ := src_use S (hs.ext (S.ol 13 rfl)) hne
     refine callA_of (l19Name_c g p4 v code C hl hp) ?_
     rintro r2 g2 ⟨s, rfl, hsn, C2, V2⟩
     have S := src_back S C2 V2
     clear C C2
     try simp (disch := (first | exact dA | fail)) only [e0, e2, e4, e5, e8, e9, e10, e11, e12, e13, ca0, na0, lay_p, go_sem, Nat.reduceBEq, Nat.reduceAdd, reduceIte]
     refine Sp.zero S fun p14 g3 S E_g3 l_g3 => ?_
     have q0 := (S.bx 0 rfl).eq
     try simp (disch := (first | exact dA | fail)) only [q0, e0, e2, e4, e5, e8, e9, e10, e11, e12, e13, go_sem, Nat.reduceBEq, Nat.reduceAdd, reduceIte]
     refine stw_of rfl rfl (by first | rfl | simp (disch := assumption) only [go_sem, cells_one, one_as]) fun g4 hg => ?_
     have l_g4 := n_set hg
     have S := S.set0 hg
     clear hg
     try simp (disch := (first | exact dA | fail)) only [e0, e2, e4, e5, e8, e9, e10, e11, e12, e13, go_sem, Nat.reduceBEq, Nat.reduceAdd, reduceIte]
     cases many
     ·skip
      try simp (disch := (first | exact dA | fail)) only [e0, e2, e4, e5, e8, e9, e10, e11, e12, e13, go_sem, Nat.reduceBEq, Nat.reduceAdd, reduceIte]
      exact ⟨s, p14, rfl, by omega, S⟩
     ·skip
      try simp (disch := (first | exact dA | fail)) only [e0, e2, e4, e5, e8, e9, e10, e11, e12, e13, go_sem, Nat.reduceBEq, Nat.reduceAdd, reduceIte]
      refine callA_of (l02Dec_c k g4 (by omega)) ?_
      rintro r5 g5 ⟨rfl, E5⟩
      have S := S.ext E5
      have hdl := dec_le k (by omega)
      have ha := ibs_add (s := [110]) (t := Lib.decDigits k) (by simp only [lc0, ln0]; omega)
      have q0 := (S.bx 0 rfl).eq
      try simp (disch := (first | exact dA | fail)) only [q0, e0, e2, e4, e5, e8, e9, e10, e11, e12, e13, ha, go_sem, Nat.reduceBEq, Nat.reduceAdd, reduceIte]
      refine st1_of (Nat.le_of_ble_eq_true rfl) (by first | rfl | assumption) fun g6 hg => ?_
      have l_g6 := n_set hg
      have S := S.set0 hg
      clear hg
      simp only [sz0, ss0, ts0, tz0, ds0, dz0, ca0, na0, Nat.reduceAdd] at S
      try simp (disch := (first | exact dA | fail)) only [e0, e2, e4, e5, e8, e9, e10, e11, e12, e13, go_sem, Nat.reduceBEq, Nat.reduceAdd, reduceIte]
      exact ⟨[110] ++ Lib.decDigits k, p14, rfl, by simp only [la0, lc0, ln0]; omega, S⟩
    clear S e0 e2 e4 e5 e8 e9 e10 e11 e12 e13
    rintro e g ⟨s, p14, e0, e2, e4, e5, e8, e9, e10, e11, e12, e13, e14, hsl2, S⟩
    simp only [CC.split]
    -- no bytes as0 yet
    have mk0 : ∀ {g : IH} {o : Ro}, o.bytes = [] → Sp g (box p14 (roO o .nilslice) :: srcA p4 v code :: box p8 (wdO vs first st.now st.n vq vk cd vx0 vd0 ent ask) :: sl false 131 6 vq rq :: all2 qnR rq st.l :: sl false 129 4 vk rk :: all2 knR rk st.cache :: sl false 30 6 vo ro :: all2 roR ro ops :: sl false 49 2 vn rn :: all2 sdR rn sents :: box p5 (cfgO vs first) :: ints vs (srvN n) :: box p2 (cfgO .nilslice 0) :: [old h]) → Sp g (box p14 (roO o .nilslice) :: rdA .nilslice o.bytes :: srcA p4 v code :: box p8 (wdO vs first st.now st.n vq vk cd vx0 vd0 ent ask) :: sl false 131 6 vq rq :: all2 qnR rq st.l :: sl false 129 4 vk rk :: all2 knR rk st.cache :: sl false 30 6 vo ro :: all2 roR ro ops :: sl false 49 2 vn rn :: all2 sdR rn sents :: box p5 (cfgO vs first) :: ints vs (srvN n) :: box p2 (cfgO .nilslice 0) :: [old h]) := by
     intro g o hob S
     have S := S.slNil (x := false) (el := 5) (sz := 1)
     have S : Sp g (byts .nilslice [] :: box p14 (roO o .nilslice) :: srcA p4 v code :: box p8 (wdO vs first st.now st.n vq vk cd vx0 vd0 ent ask) :: sl false 131 6 vq rq :: all2 qnR rq st.l :: sl false 129 4 vk rk :: all2 knR rk st.cache :: sl false 30 6 vo ro :: all2 roR ro ops :: sl false 49 2 vn rn :: all2 sdR rn sents :: box p5 (cfgO vs first) :: ints vs (srvN n) :: box p2 (cfgO .nilslice 0) :: [old h]) := S
     have S := rd_of S
     rw [hob]
     exact S.p1
    rw [vc_seq]
    refine vc_split 1 (fun e g => ∃ y : Int, e 0 = v ∧ e 2 = .ptr p2 0 0 ∧ e 4 = .ptr p4 0 0 ∧ e 5 = .ptr p5 0 0 ∧ e 8 = .ptr p8 0 0 ∧ e 9 = vo ∧ e 10 = vn ∧ e 11 = .int .i64 (sN : Nat) ∧ e 12 = .bool many ∧ e 13 = .int .i64 (k : Nat) ∧ e 14 = .ptr p14 0 0 ∧ e 60 = .int .i64 y ∧ Sp g (box p14 (roO ⟨1, 0, 0, 0, s, []⟩ .nilslice) :: srcA p4 v code :: box p8 (wdO vs first st.now st.n vq vk cd vx0 vd0 ent ask) :: sl false 131 6 vq rq :: all2 qnR rq st.l :: sl false 129 4 vk rk :: all2 knR rk st.cache :: sl false 30 6 vo ro :: all2 roR ro ops :: sl false 49 2 vn rn :: all2 sdR rn sents :: box p5 (cfgO vs first) :: ints vs (srvN n) :: box p2 (cfgO .nilslice 0) :: [old h])) ?_ ?_
    ·simp only [CC.split]
     try simp (disch := (first | exact dA | fail)) only [e0, e2, e4, e5, e8, e9, e10, e11, e12, e13, e14, go_sem, Nat.reduceBEq, Nat.reduceAdd, reduceIte]
     have S := by simpa only [mc0, mn0, List.getD_cons_zero, List.getD_cons_succ, ds0, dz0, ca0, na0] using Sp.sel S 2 [1, 0] (by simp only [lc0]; omega) (by decide) (by decide)
     obtain ⟨C, hp⟩ := src_use S (hs.ext (S.ol 14 rfl)) hne
     refine callA_of (l01Next_c g p4 v code 8 C (by omega) (by omega) hl) ?_
     rintro r2 g2 ⟨y, rfl, y0, y1, C1, V1, _⟩
     have S := src_back S C1 V1
     clear C C1
     try simp (disch := (first | exact dA | fail)) only [e0, e2, e4, e5, e8, e9, e10, e11, e12, e13, e14, go_sem, Nat.reduceBEq, Nat.reduceAdd, reduceIte]
     refine ⟨y, rfl, ?_⟩
     have S := by simpa only [mc0, mn0, List.getD_cons_zero, List.getD_cons_succ, ds0, dz0, ca0, na0] using Sp.sel S 2 [1, 0] (by simp only [lc0]; omega) (by decide) (by decide)
     exact S
    clear S e0 e2 e4 e5 e8 e9 e10 e11 e12 e13 e14
    rintro e g ⟨y, e0, e2, e4, e5, e8, e9, e10, e11, e12, e13, e14, e60, S⟩
    simp only [CC.split]
    rw [vc_block]
    refine vc_split 1 (fun e g => ∃ b1 : Bool, e 0 = v ∧ e 2 = .ptr p2 0 0 ∧ e 4 = .ptr p4 0 0 ∧ e 5 = .ptr p5 0 0 ∧ e 8 = .ptr p8 0 0 ∧ e 9 = vo ∧ e 10 = vn ∧ e 11 = .int .i64 (sN : Nat) ∧ e 12 = .bool many ∧ e 13 = .int .i64 (k : Nat) ∧ e 14 = .ptr p14 0 0 ∧ e 60 = .int .i64 y ∧ e 61 = .bool b1 ∧ Sp g (box p14 (roO ⟨1, 0, 0, 0, s, []⟩ .nilslice) :: srcA p4 v code :: box p8 (wdO vs first st.now st.n vq vk cd vx0 vd0 ent ask) :: sl false 131 6 vq rq :: all2 qnR rq st.l :: sl false 129 4 vk rk :: all2 knR rk st.cache :: sl false 30 6 vo ro :: all2 roR ro ops :: sl false 49 2 vn rn :: all2 sdR rn sents :: box p5 (cfgO vs first) :: ints vs (srvN n) :: box p2 (cfgO .nilslice 0) :: [old h])) ?_ ?_
    ·simp only [CC.split]
     try simp (disch := (first | exact dA | fail)) only [e0, e2, e4, e5, e8, e9, e10, e11, e12, e13, e14, e60, go_sem, Nat.reduceBEq, Nat.reduceAdd, reduceIte]
     refine test_dec (fun hy => ?_) (fun hy => ?_)
     ·skip
      try simp (disch := (first | exact dA | fail)) only [e0, e2, e4, e5, e8, e9, e10, e11, e12, e13, e14, e60, go_sem, Nat.reduceBEq, Nat.reduceAdd, reduceIte]
      exact ⟨_, rfl, S⟩
     ·skip
      try simp (disch := (first | exact dA | fail)) only [e0, e2, e4, e5, e8, e9, e10, e11, e12, e13, e14, e60, go_sem, Nat.reduceBEq, Nat.reduceAdd, reduceIte]
      exact ⟨_, rfl, S⟩
    clear S e0 e2 e4 e5 e8 e9 e10 e11 e12 e13 e14 e60
    rintro e g ⟨b1, e0, e2, e4, e5, e8, e9, e10, e11, e12, e13, e14, e60, e61, S⟩
    simp only [CC.split]
    try simp (disch := (first | exact dA | fail)) only [e0, e2, e4, e5, e8, e9, e10, e11, e12, e13, e14, e60, e61, go_sem, Nat.reduceBEq, Nat.reduceAdd, reduceIte]
    refine test_of (fun hb1 => ?_) (fun hb1 => ?_)
    ·-- time passes
     try simp (disch := (first | exact dA | fail)) only [e0, e2, e4, e5, e8, e9, e10, e11, e12, e13, e14, e60, e61, go_sem, Nat.reduceBEq, Nat.reduceAdd, reduceIte]
     refine Sp.bsln S (rows := [[.int .i64 1], [.int .i64 500], [.int .i64 1999], [.int .i64 2000], [.int .i64 8000], [.int .i64 60000]]) (by decide) rfl (by simp [IV.one]) fun p17 g2 S E2 l2 => ?_
     try simp (disch := (first | exact dA | fail)) only [e0, e2, e4, e5, e8, e9, e10, e11, e12, e13, e14, go_sem, Nat.reduceBEq, Nat.reduceAdd, reduceIte]
     have S := by simpa only [mc0, mn0, List.getD_cons_zero, List.getD_cons_succ, ds0, dz0, ca0, na0] using Sp.sel S 3 [2, 0, 1] (by simp only [lc0]; omega) (by decide) (by decide)
     obtain ⟨C, hp⟩ := src_use S (hs.ext (S.ol 15 rfl)) hne
     refine callA_of (l01Next_c g2 p4 v code 6 C (by omega) (by omega) hl) ?_
     rintro r3 g3 ⟨z, rfl, z0, z1, C1, V1, _⟩
     have S := src_back S C1 V1
     clear C C1
     obtain ⟨zn, rfl⟩ : ∃ m : Nat, z = (m : Int) := ⟨z.toNat, by omega⟩
     have q17 := (S.bx 1 rfl).eq
     obtain ⟨wt, hwt, hwl⟩ : ∃ wt : Int, ([[.int .i64 1], [.int .i64 500], [.int .i64 1999], [.int .i64 2000], [.int .i64 8000], [.int .i64 60000]] : List (List IV))[zn]? = some [.int .i64 wt] ∧ wt ≤ 60000 := by
      have hz6 : zn < 6 := by omega
      match zn, hz6 with
      | 0, _ => exact ⟨_, rfl, by decide⟩
      | 1, _ => exact ⟨_, rfl, by decide⟩
      | 2, _ => exact ⟨_, rfl, by decide⟩
      | 3, _ => exact ⟨_, rfl, by decide⟩
      | 4, _ => exact ⟨_, rfl, by decide⟩
      | 5, _ => exact ⟨_, rfl, by decide⟩
     have hia : iadrF g3 1 (.slice p17 0 6) (.int .i64 (zn : Int)) = some (.ptr p17 zn 0) := by
      rw [iadrF_nat (by omega) (by rw [q17]; rfl), Nat.zero_add]
     have hcc : cellO (g3.obj p17) zn 0 = some (.int .i64 wt) := by
      rw [q17]
      show (_ : Option (List IV)).bind _ = _
      rw [hwt]; rfl
     clear q17
     try simp (disch := (first | exact dA | fail)) only [e0, e2, e4, e5, e8, e9, e10, e11, e12, e13, e14, hia, hcc, ca0, na0, lay_p, go_sem, Nat.reduceBEq, Nat.reduceAdd, reduceIte]
     have S := by simpa only [mc0, mn0, List.getD_cons_zero, List.getD_cons_succ, ds0, dz0, ca0, na0] using Sp.sel S 3 [2, 0] (by simp only [lc0]; omega) (by decide) (by decide)
     have S := S.p1
     have S := by simpa only [mc0, mn0, List.getD_cons_zero, List.getD_cons_succ, ds0, dz0, ca0, na0] using Sp.sel S 2 [1, 0] (by simp only [lc0]; omega) (by decide) (by decide)
     have q0 := (S.bx 0 rfl).eq
     try simp (disch := (first | exact dA | fail)) only [q0, e0, e2, e4, e5, e8, e9, e10, e11, e12, e13, e14, go_sem, Nat.reduceBEq, Nat.reduceAdd, reduceIte]
     refine stw_of rfl rfl (by first | rfl | simp (disch := assumption) only [go_sem, cells_one, one_as]) fun g4 hg => ?_
     have l_g4 := n_set hg
     have S := S.set0 hg
     clear hg
     try simp (disch := (first | exact dA | fail)) only [e0, e2, e4, e5, e8, e9, e10, e11, e12, e13, e14, go_sem, Nat.reduceBEq, Nat.reduceAdd, reduceIte]
     exact ⟨⟨3, 0, 0, wt, [], []⟩, .nilslice, p14, rfl, ⟨hwl, by simp, by simp⟩, rfl, mk0 rfl S⟩
    simp only [Hold.p]
    refine vc_split 1 (fun e g => ∃ b2 : Bool, e 0 = v ∧ e 2 = .ptr p2 0 0 ∧ e 4 = .ptr p4 0 0 ∧ e 5 = .ptr p5 0 0 ∧ e 8 = .ptr p8 0 0 ∧ e 9 = vo ∧ e 10 = vn ∧ e 11 = .int .i64 (sN : Nat) ∧ e 12 = .bool many ∧ e 13 = .int .i64 (k : Nat) ∧ e 14 = .ptr p14 0 0 ∧ e 60 = .int .i64 y ∧ e 69 = .bool b2 ∧ Sp g (box p14 (roO ⟨1, 0, 0, 0, s, []⟩ .nilslice) :: srcA p4 v code :: box p8 (wdO vs first st.now st.n vq vk cd vx0 vd0 ent ask) :: sl false 131 6 vq rq :: all2 qnR rq st.l :: sl false 129 4 vk rk :: all2 knR rk st.cache :: sl false 30 6 vo ro :: all2 roR ro ops :: sl false 49 2 vn rn :: all2 sdR rn sents :: box p5 (cfgO vs first) :: ints vs (srvN n) :: box p2 (cfgO .nilslice 0) :: [old h])) ?_ ?_
    ·simp only [CC.split]
     try simp (disch := (first | exact dA | fail)) only [e0, e2, e4, e5, e8, e9, e10, e11, e12, e13, e14, e60, go_sem, Nat.reduceBEq, Nat.reduceAdd, reduceIte]
     refine test_dec (fun hy => ?_) (fun hy => ?_)
     ·skip
      try simp (disch := (first | exact dA | fail)) only [e0, e2, e4, e5, e8, e9, e10, e11, e12, e13, e14, e60, go_sem, Nat.reduceBEq, Nat.reduceAdd, reduceIte]
      exact ⟨_, rfl, S⟩
     ·skip
      try simp (disch := (first | exact dA | fail)) only [e0, e2, e4, e5, e8, e9, e10, e11, e12, e13, e14, e60, go_sem, Nat.reduceBEq, Nat.reduceAdd, reduceIte]
      refine test_dec (fun hy => ?_) (fun hy => ?_)
      ·skip
       try simp (disch := (first | exact dA | fail)) only [e0, e2, e4, e5, e8, e9, e10, e11, e12, e13, e14, e60, go_sem, Nat.reduceBEq, Nat.reduceAdd, reduceIte]
       exact ⟨_, rfl, S⟩
      ·skip
       try simp (disch := (first | exact dA | fail)) only [e0, e2, e4, e5, e8, e9, e10, e11, e12, e13, e14, e60, go_sem, Nat.reduceBEq, Nat.reduceAdd, reduceIte]
       exact ⟨_, rfl, S⟩
    clear S e0 e2 e4 e5 e8 e9 e10 e11 e12 e13 e14 e60 e61
    rintro e g ⟨b2, e0, e2, e4, e5, e8, e9, e10, e11, e12, e13, e14, e60, e69, S⟩
    simp only [CC.split]
    have hnl := a2_len S 10 rfl
    have s9 := S.slA 9 rfl
    have len_s9 := s9.lenF
    have z9 := s9.one
    try simp (disch := (first | exact dA | fail)) only [len_s9, z9, e0, e2, e4, e5, e8, e9, e10, e11, e12, e13, e14, e60, e69, go_sem, Nat.reduceBEq, Nat.reduceAdd, reduceIte]
    refine test_of (fun hb2 => ?_) (fun hb2 => ?_)
    ·-- a reply
     have s9 := S.slA 9 rfl
     have len_s9 := s9.lenF
     have z9 := s9.one
     try simp (disch := (first | exact dA | fail)) only [len_s9, z9, e0, e2, e4, e5, e8, e9, e10, e11, e12, e13, e14, e60, e69, go_sem, Nat.reduceBEq, Nat.reduceAdd, reduceIte]
     refine test_dec (fun hpos => ?_) (fun hpos => ?_)
     rotate_left
     ·skip
      try simp (disch := (first | exact dA | fail)) only [e0, e2, e4, e5, e8, e9, e10, e11, e12, e13, e14, go_sem, Nat.reduceBEq, Nat.reduceAdd, reduceIte]
      exact ⟨⟨1, 0, 0, 0, s, []⟩, .nilslice, p14, rfl, ⟨(by decide : (0 : Int) ≤ 60000), by show s.length ≤ 100; omega, by simp⟩, rfl, mk0 rfl S⟩
     have u1 : wr .i64 ((rn.length : Int) - 1) = (rn.length : Int) - 1 := wr64 _ (by omega)
     have s9 := S.slA 9 rfl
     have len_s9 := s9.lenF
     have z9 := s9.one
     try simp (disch := (first | exact dA | fail)) only [len_s9, z9, e0, e2, e4, e5, e8, e9, e10, e11, e12, e13, e14, u1, go_sem, Nat.reduceBEq, Nat.reduceAdd, reduceIte]
     refine callA_of (l14Min_c g _ _) ?_
     rintro r2 g2 ⟨rfl, rfl⟩
     try simp (disch := (first | exact dA | fail)) only [e0, e2, e4, e5, e8, e9, e10, e11, e12, e13, e14, go_sem, Nat.reduceBEq, Nat.reduceAdd, reduceIte]
     have S := by simpa only [mc0, mn0, List.getD_cons_zero, List.getD_cons_succ, ds0, dz0, ca0, na0] using Sp.sel S 2 [1, 0] (by simp only [lc0]; omega) (by decide) (by decide)
     obtain ⟨C, hp⟩ := src_use S (hs.ext (S.ol 14 rfl)) hne
     refine callA_of (l01Next_c g2 p4 v code (min (rn.length : Int) 4) C (by omega) (by omega) hl) ?_
     rintro r3 g3 ⟨z, rfl, z0, z1, C1, V1, _⟩
     have S := src_back S C1 V1
     clear C C1
     obtain ⟨at_, hat⟩ : ∃ m : Nat, (m : Int) = (rn.length : Int) - 1 - z := ⟨((rn.length : Int) - 1 - z).toNat, by omega⟩
     have u2 : wr .i64 ((rn.length : Int) - 1 - z) = (at_ : Int) := by rw [wr64 _ (by omega), hat]
     obtain ⟨x, hxk⟩ : ∃ x, sents[at_]? = some x := ⟨_, List.getElem?_eq_getElem (by omega : at_ < sents.length)⟩
     obtain ⟨vb, hrow, hvb⟩ := sd_at S 10 rfl hxk
     have hvb1 := hvb.one
     obtain ⟨l, j, hia, hll, har⟩ := (S.slA 9 rfl).at hrow .i64
     unfold sdRow at har
     try simp (disch := (first | exact dA | fail)) only [e0, e2, e4, e5, e8, e9, e10, e11, e12, e13, e14, u2, hia, har, hvb1, go_sem, Nat.reduceBEq, Nat.reduceAdd, reduceIte]
     have hxb := hsb x (List.mem_of_getElem? hxk)
     refine callA_of (l19Back_c (xb := x.bytes) S (fun g S => hs.ext (S.ol 13 rfl)) hne (fun g S => ?_) hl (by omega)) ?_
     ·obtain ⟨vb', hrow', hvb'⟩ := sd_at S 9 rfl hxk
      rw [hrow] at hrow'
      obtain rfl : vb = vb' := by simpa [sdRow] using hrow'
      exact hvb'
     clear S hvb
     rintro r4 g4 ⟨o, w, rfl, w1, ho, S⟩
     unfold roRow
     have q2 := (S.bx 2 rfl).eq
     try simp (disch := (first | exact dA | fail)) only [q2, e0, e2, e4, e5, e8, e9, e10, e11, e12, e13, e14, w1, go_sem, Nat.reduceBEq, Nat.reduceAdd, reduceIte]
     refine stw_of rfl rfl (by first | rfl | simp (disch := assumption) only [go_sem, cells_one, one_as]) fun g5 hg => ?_
     have l_g5 := n_set hg
     have S := S.set2 hg
     clear hg
     try simp (disch := (first | exact dA | fail)) only [e0, e2, e4, e5, e8, e9, e10, e11, e12, e13, e14, go_sem, Nat.reduceBEq, Nat.reduceAdd, reduceIte]
     refine ⟨o, w, p14, rfl, ⟨by rw [ho.w]; decide, by rw [ho.n]; simp, ho.b⟩, w1, ?_⟩
     have S := by simpa only [mc0, mn0, List.getD_cons_zero, List.getD_cons_succ, ds0, dz0, ca0, na0] using Sp.sel S 3 [2, 1, 0] (by simp only [lc0]; omega) (by decide) (by decide)
     exact S
    ·skip
     try simp (disch := (first | exact dA | fail)) only [e0, e2, e4, e5, e8, e9, e10, e11, e12, e13, e14, e60, go_sem, Nat.reduceBEq, Nat.reduceAdd, reduceIte]
     refine test_dec (fun hy5 => ?_) (fun hy5 => ?_)
     rotate_left
     ·skip
      try simp (disch := (first | exact dA | fail)) only [e0, e2, e4, e5, e8, e9, e10, e11, e12, e13, e14, go_sem, Nat.reduceBEq, Nat.reduceAdd, reduceIte]
      exact ⟨⟨1, 0, 0, 0, s, []⟩, .nilslice, p14, rfl, ⟨(by decide : (0 : Int) ≤ 60000), by show s.length ≤ 100; omega, by simp⟩, rfl, mk0 rfl S⟩
     try simp (disch := (first | exact dA | fail)) only [e0, e2, e4, e5, e8, e9, e10, e11, e12, e13, e14, go_sem, Nat.reduceBEq, Nat.reduceAdd, reduceIte]
     have S := by simpa only [mc0, mn0, List.getD_cons_zero, List.getD_cons_succ, ds0, dz0, ca0, na0] using Sp.sel S 2 [1, 0] (by simp only [lc0]; omega) (by decide) (by decide)
     obtain ⟨C, hp⟩ := src_use S (hs.ext (S.ol 14 rfl)) hne
     refine callA_of (l01Next_c g p4 v code 6 C (by omega) (by omega) hl) ?_
     rintro r2 g2 ⟨z, rfl, z0, z1, C1, V1, _⟩
     have S := src_back S C1 V1
     clear C C1
     try simp (disch := (first | exact dA | fail)) only [e0, e2, e4, e5, e8, e9, e10, e11, e12, e13, e14, go_sem, Nat.reduceBEq, Nat.reduceAdd, reduceIte]
     refine test_dec (fun hz => ?_) (fun hz => ?_)
     rotate_left
     ·skip
      try simp (disch := (first | exact dA | fail)) only [e0, e2, e4, e5, e8, e9, e10, e11, e12, e13, e14, go_sem, Nat.reduceBEq, Nat.reduceAdd, reduceIte]
      have S := by simpa only [mc0, mn0, List.getD_cons_zero, List.getD_cons_succ, ds0, dz0, ca0, na0] using Sp.sel S 2 [1, 0] (by simp only [lc0]; omega) (by decide) (by decide)
      exact ⟨⟨1, 0, 0, 0, s, []⟩, .nilslice, p14, rfl, ⟨(by decide : (0 : Int) ≤ 60000), by show s.length ≤ 100; omega, by simp⟩, rfl, mk0 rfl S⟩
     try simp (disch := (first | exact dA | fail)) only [e0, e2, e4, e5, e8, e9, e10, e11, e12, e13, e14, go_sem, Nat.reduceBEq, Nat.reduceAdd, reduceIte]
     obtain ⟨C, hp⟩ := src_use S (hs.ext (S.ol 14 rfl)) hne
     refine callA_of (l01Next_c g2 p4 v code 5 C (by omega) (by omega) hl) ?_
     rintro r3 g3 ⟨kd, rfl, kd0, kd1, C1, V1, _⟩
     have S := src_back S C1 V1
     clear C C1
     have q1 := (S.bx 1 rfl).eq
     try simp (disch := (first | exact dA | fail)) only [q1, e0, e2, e4, e5, e8, e9, e10, e11, e12, e13, e14, ca0, na0, lay_p, go_sem, Nat.reduceBEq, Nat.reduceAdd, reduceIte]
     refine stw_of rfl rfl (by first | rfl | simp (disch := assumption) only [go_sem, cells_one, one_as]) fun g4 hg => ?_
     have l_g4 := n_set hg
     have S := S.set1 hg
     clear hg
     try simp (disch := (first | exact dA | fail)) only [e0, e2, e4, e5, e8, e9, e10, e11, e12, e13, e14, go_sem, Nat.reduceBEq, Nat.reduceAdd, reduceIte]
     have S := by simpa only [mc0, mn0, List.getD_cons_zero, List.getD_cons_succ, ds0, dz0, ca0, na0] using Sp.sel S 2 [1, 0] (by simp only [lc0]; omega) (by decide) (by decide)
     exact ⟨⟨kd, 0, 0, -1, [45], []⟩, .nilslice, p14, rfl, ⟨(by decide : (-1 : Int) ≤ 60000), by simp, by simp⟩, rfl, mk0 rfl S⟩
   clear S e0 e2 e4 e5 e8 e9 e10 e11 e12 e13
   rintro e g ⟨o, w, p14, e0, e2, e4, e5, e8, e9, e10, e11, e12, e13, e14, hoo, w1, S⟩
   simp only [CC.split]
   have hrol := a2_len S 9 rfl
   have hrnl := a2_len S 11 rfl
   have w2 : wr .i64 ((k : Int) + 1) = ((k + 1 : Nat) : Int) := by rw [wr64 _ (by omega)]; rfl
   have q0 := (S.bx 0 rfl).eq
   try simp (disch := (first | exact dA | fail)) only [q0, e0, e2, e4, e5, e8, e9, e10, e11, e12, e13, e14, w1, go_sem, Nat.reduceBEq, Nat.reduceAdd, reduceIte]
   refine Sp.bsl1 S (by first | rfl | (rw [cells_one (by assumption)]; rfl)) (by first | rfl | simp (disch := assumption) only [go_sem, cells_one, one_as]) fun p6 g6 S E_g6 l_g6 => ?_
   try simp only [cells_agg, cells_int, cells_bool, cells_ptr, cells_str] at S
   have q0 := (S.bx 0 rfl).eq
   have s9 := S.slA 9 rfl
   have len_s9 := s9.lenF
   have z9 := s9.one
   try simp (disch := (first | exact dA | fail)) only [q0, len_s9, z9, e0, e2, e4, e5, e8, e9, e10, e11, e12, e13, e14, go_sem, Nat.reduceBEq, Nat.reduceAdd, reduceIte]
   have S := by simpa only [mc0, mn0, List.getD_cons_zero, List.getD_cons_succ, ds0, dz0, ca0, na0] using Sp.sel S 10 [0, 9, 1, 2, 3, 4, 5, 6, 7, 8] (by simp only [lc0]; omega) (by decide) (by decide)
   refine S.app1 (y := false) (b := 72) (by omega) ?_
   clear S
   intro v7 g7 S z7
   have em : [IV.int .i64 o.kind, .int .i64 o.from_, .int .i64 o.port, .int .i64 o.wait, .str o.name, w] = roRow o w := rfl
   rw [em] at S
   have S := by simpa only [mc0, mn0, List.getD_cons_zero, List.getD_cons_succ, ds0, dz0, ca0, na0] using Sp.sel S 3 [2, 1, 0] (by simp only [lc0]; omega) (by decide) (by decide)
   have S := (ro_un S w1).a2one
   have S := by simpa only [mc0, mn0, List.getD_cons_zero, List.getD_cons_succ, ds0, dz0, ca0, na0] using Sp.sel S 10 [9, 0, 1, 2, 3, 4, 5, 6, 7, 8] (by simp only [lc0]; omega) (by decide) (by decide)
   have S := S.a2join
   have q1 := (S.bx 1 rfl).eq
   try simp (disch := (first | exact dA | fail)) only [q1, e0, e2, e4, e5, e8, e9, e10, e11, e12, e13, e14, w1, go_sem, Nat.reduceBEq, Nat.reduceAdd, reduceIte]
   have S := by simpa only [mc0, mn0, List.getD_cons_zero, List.getD_cons_succ, ds0, dz0, ca0, na0] using Sp.sel S 9 [4, 5, 6, 7, 8, 0, 1, 2, 3] (by simp only [lc0]; omega) (by decide) (by decide)
   have hrk : (ro ++ [roRow o w])[k]? = some (roRow o w) := by rw [List.getElem?_append_right (by omega), hrol, hol, Nat.sub_self]; rfl
   have hok : (ops ++ [o])[k]? = some o := by rw [List.getElem?_append_right (by omega), hol, Nat.sub_self]; rfl
   have hsv : (srvN n).length = n := srvN_len n
   obtain ⟨hR', hB'⟩ := stepR_ok (first := first) (servers := srvN n) (ticket := k) (o := o) hR (by omega)
   have hfold : IV.agg [IV.int .i64 o.kind, .int .i64 o.from_, .int .i64 o.port, .int .i64 o.wait, .str o.name, w] = .agg (roRow o w) := rfl
   rw [hfold]
   refine callA_of (l19Step_c (N := k) (servers := srvN n) (o := o) S (fun g S => S.slA 7 rfl) (fun g S => ?_) hR (by omega) (by have := hoo.b; omega) (by have := hoo.n; omega) f0 f1 (by intro e; rw [e] at hsv; simp at hsv; omega) (by omega)) ?_
   ·obtain ⟨vb', h1, h2⟩ := ro_at S 0 rfl hok
    rw [hrk] at h1
    obtain rfl : w = vb' := by simpa [roRow] using h1
    exact h2
   clear S
   generalize stepR first (srvN n) k o st = X at hR' hB'
   rintro r5 g5 ⟨vx5, vd5, rx5, rd5, vq5, vk5, rq5, rk5, rfl, zx, zd, S⟩
   have hxl := a2_len S 6 rfl
   have hb1 := hB'.s
   try simp (disch := (first | exact dA | fail)) only [e0, e2, e4, e5, e8, e9, e10, e11, e12, e13, e14, zx, zd, go_sem, Nat.reduceBEq, Nat.reduceAdd, reduceIte]
   refine Sp.zero S fun p16 g8 S E_g8 l_g8 => ?_
   have q0 := (S.bx 0 rfl).eq
   try simp (disch := (first | exact dA | fail)) only [q0, e0, e2, e4, e5, e8, e9, e10, e11, e12, e13, e14, zx, zd, go_sem, Nat.reduceBEq, Nat.reduceAdd, reduceIte]
   refine stw_of rfl rfl (by first | rfl | simp (disch := assumption) only [go_sem, cells_one, one_as]) fun g9 hg => ?_
   have l_g9 := n_set hg
   have S := S.set0 hg
   clear hg
   have hsrc := (S.slA 6 rfl).src
   have q0 := (S.bx 0 rfl).eq
   try simp (disch := (first | exact dA | fail)) only [q0, e0, e2, e4, e5, e8, e9, e10, e11, e12, e13, e14, hsrc, go_sem, Nat.reduceBEq, Nat.reduceAdd, reduceIte]
   have S := by simpa only [mc0, mn0, List.getD_cons_zero, List.getD_cons_succ, ds0, dz0, ca0, na0] using Sp.sel S 16 [14, 6, 0, 1, 2, 3, 4, 5, 7, 10, 12, 13, 15] (by simp only [lc0]; omega) (by decide) (by decide)
   refine S.appAll (b := 32) (by omega) ?_
   clear S hsrc
   intro vn' g10 S zn'
   try simp (disch := (first | exact dA | fail)) only [e0, e2, e4, e5, e8, e9, e10, e11, e12, e13, e14, w2, go_sem, Nat.reduceBEq, Nat.reduceAdd, reduceIte]
   have S := by simpa only [mc0, mn0, List.getD_cons_zero, List.getD_cons_succ, ds0, dz0, ca0, na0] using Sp.sel S 13 [12, 8, 0, 3, 4, 5, 6, 7, 9, 10, 11] (by simp only [lc0]; omega) (by decide) (by decide)
   have S := S.a2join
   have S := by simpa only [mc0, mn0, List.getD_cons_zero, List.getD_cons_succ, ds0, dz0, ca0, na0] using Sp.sel S 10 [9, 2, 3, 4, 5, 6, 8, 7, 1, 0] (by simp only [lc0]; omega) (by decide) (by decide)
   refine ⟨sN - (k + 1), by omega, k + 1, X.1, ops ++ [o], sents ++ X.1.sent, v7, vn', vq5, vk5, vx5, vd5, X.2, X.1.cache.length, X.1.l.length, _, _, rq5, rk5, rfl, by omega, rfl, rfl, rfl, z7, zn', by simp [hol], ?_, ?_, ?_, hR', S⟩
   ·intro x hx
    rcases List.mem_append.1 hx with hx | hx
    ·exact hop x hx
    ·rw [List.mem_singleton.1 hx]; exact hoo
   ·rw [la0]; omega
   ·intro x hx
    rcases List.mem_append.1 hx with hx | hx
    ·exact hsb x hx
    ·exact hB'.sb x hx
   -- LOOPEND
 clear S e0 e2 e4 e5 e8 e9 e10 e11 e12
 rintro e g ⟨vo, ops, ro, e0, e2, e4, e5, e9, zo, hol, hop, S⟩
 simp only [CC.split]
 have hne9 : ∀ s ∈ srvN n, s ≠ 9 := by
  intro s hs
  simp only [srvN, List.mem_map, List.mem_range] at hs
  obtain ⟨i, _, rfl⟩ := hs
  omega
 refine vc_split 1 (fun e g => ∃ (vs2 : IV) (servers : List Int) (first2 : Int), e 2 = .ptr p2 0 0 ∧ e 5 = .ptr p5 0 0 ∧ e 9 = vo ∧ vs2.one = true ∧ servers.length ≤ 5 ∧ (∀ s ∈ servers, s ≠ 9) ∧
  Sp g [box p5 (cfgO vs2 first2), ints vs2 servers, sl false 30 6 vo ro, all2 roR ro ops, box p2 (cfgO .nilslice 0), old h]) ?_ ?_
 ·simp only [CC.split]
  try simp (disch := (first | exact dA | fail)) only [e0, e2, e4, e5, e9, go_sem, Nat.reduceBEq, Nat.reduceAdd, reduceIte]
  obtain ⟨C, hp⟩ := src_use S (hs.ext (S.ol 6 rfl)) hne
  refine callA_of (l01Next_c g p4 v code 30 C (by omega) (by omega) hl) ?_
  rintro r2 g2 ⟨x, rfl, x0, x1, C1, V1, _⟩
  have S := src_back S C1 V1
  clear C C1
  have S := by simpa only [mc0, mn0, List.getD_cons_zero, List.getD_cons_succ, ds0, dz0, ca0, na0] using Sp.sel S 6 [3, 4, 1, 2, 5] (by simp only [lc0]; omega) (by decide) (by decide)
  have hsv := srvN_len n
  try simp (disch := (first | exact dA | fail)) only [e0, e2, e4, e5, e9, go_sem, Nat.reduceBEq, Nat.reduceAdd, reduceIte]
  refine test_dec (fun hx => ?_) (fun hx => ?_)
  ·skip
   have q0 := (S.bx 0 rfl).eq
   try simp (disch := (first | exact dA | fail)) only [q0, e2, e5, e9, go_sem, Nat.reduceBEq, Nat.reduceAdd, reduceIte]
   refine st1_of (Nat.le_of_ble_eq_true rfl) (by first | rfl | assumption) fun g3 hg => ?_
   have l_g3 := n_set hg
   have S := S.set0 hg
   clear hg
   simp only [sz0, ss0, ts0, tz0, ds0, dz0, ca0, na0, Nat.reduceAdd] at S
   try simp (disch := (first | exact dA | fail)) only [e2, e5, e9, go_sem, Nat.reduceBEq, Nat.reduceAdd, reduceIte]
   refine ⟨.nilslice, [], first, rfl, by simp, by simp, ?_⟩
   have S := S.slNil (x := false) (el := 2) (sz := 1)
   have S := by simpa only [mc0, mn0, List.getD_cons_zero, List.getD_cons_succ, ds0, dz0, ca0, na0] using Sp.sel S 3 [1, 0] (by simp only [lc0]; omega) (by decide) (by decide)
   exact S
  try simp (disch := (first | exact dA | fail)) only [e0, e2, e4, e5, e9, go_sem, Nat.reduceBEq, Nat.reduceAdd, reduceIte]
  refine test_dec (fun hx => ?_) (fun hx => ?_)
  ·generalize srvN n = sv at S hsv hne9
   obtain ⟨a, t, rfl⟩ : ∃ a t, sv = a :: t := by
    cases sv with
    | nil => simp at hsv; omega
    | cons a t => exact ⟨a, t, rfl⟩
   unfold ints at S
   have S := by simpa only [mc0, mn0, List.getD_cons_zero, List.getD_cons_succ, ds0, dz0, ca0, na0] using Sp.sel S 2 [1, 0] (by simp only [lc0]; omega) (by decide) (by decide)
   have S0 := S
   clear S
   obtain ⟨lq, hvq, S⟩ := S0.slBox (by simp [intRows])
   clear S0
   have io : iadrO (IObj.rows (intRows (a :: t)) 2 1 false) 1 lq 0 (intRows (a :: t)).length 0 = some (.ptr lq 0 0) := iadrO_0 (by simp [intRows])
   have q0 := (S.bx 0 rfl).eq
   have q1 := (S.bx 1 rfl).eq
   try simp (disch := (first | exact dA | fail)) only [q0, q1, e2, e5, e9, hvq, iadrF_sl, io, go_sem, Nat.reduceBEq, Nat.reduceAdd, reduceIte]
   refine stc_of (row := [.int .i64 a]) rfl (Nat.le_of_ble_eq_true rfl) rfl fun g3 hg => ?_
   have l_g3 := n_set hg
   have S := S.set0 hg
   clear hg
   have es : (intRows (a :: t)).set 0 ([IV.int .i64 a].set 0 (.int .i64 4294967295)) = intRows (4294967295 :: t) := rfl
   rw [es] at S
   have S0 := S
   clear S
   have S := S0.boxSl (n := (intRows (a :: t)).length) (x := false) (by simp [intRows]) (.inr (by simp [intRows]))
   clear S0
   rw [← hvq] at S
   try simp (disch := (first | exact dA | fail)) only [e2, e5, e9, go_sem, Nat.reduceBEq, Nat.reduceAdd, reduceIte]
   refine ⟨vs, 4294967295 :: t, first, zv, by simp at hsv ⊢; omega, ?_, ?_⟩
   ·intro s hs
    rcases List.mem_cons.1 hs with rfl | hs
    ·decide
    ·exact hne9 s (List.mem_cons_of_mem _ hs)
   ·skip
    have S := by simpa only [mc0, mn0, List.getD_cons_zero, List.getD_cons_succ, ds0, dz0, ca0, na0] using Sp.sel S 2 [1, 0] (by simp only [lc0]; omega) (by decide) (by decide)
    exact S
  try simp (disch := (first | exact dA | fail)) only [e0, e2, e4, e5, e9, go_sem, Nat.reduceBEq, Nat.reduceAdd, reduceIte]
  refine test_dec (fun hx => ?_) (fun hx => ?_)
  ·skip
   have q0 := (S.bx 0 rfl).eq
   try simp (disch := (first | exact dA | fail)) only [q0, e2, e5, e9, go_sem, Nat.reduceBEq, Nat.reduceAdd, reduceIte]
   refine st1_of (Nat.le_of_ble_eq_true rfl) (by first | rfl | assumption) fun g3 hg => ?_
   have l_g3 := n_set hg
   have S := S.set0 hg
   clear hg
   simp only [sz0, ss0, ts0, tz0, ds0, dz0, ca0, na0, Nat.reduceAdd] at S
   try simp (disch := (first | exact dA | fail)) only [e2, e5, e9, go_sem, Nat.reduceBEq, Nat.reduceAdd, reduceIte]
   exact ⟨vs, srvN n, 65536, zv, by omega, hne9, S⟩
  try simp (disch := (first | exact dA | fail)) only [e0, e2, e4, e5, e9, go_sem, Nat.reduceBEq, Nat.reduceAdd, reduceIte]
  refine test_dec (fun hx => ?_) (fun hx => ?_)
  ·skip
   have q0 := (S.bx 0 rfl).eq
   try simp (disch := (first | exact dA | fail)) only [q0, e2, e5, e9, go_sem, Nat.reduceBEq, Nat.reduceAdd, reduceIte]
   refine Sp.mks (n := 5) S (by decide) (by decide) fun v3 g3 S E3 z3 => ?_
   have q1 := (S.bx 1 rfl).eq
   try simp (disch := (first | exact dA | fail)) only [q1, e2, e5, e9, z3, go_sem, Nat.reduceBEq, Nat.reduceAdd, reduceIte]
   refine st1_of (Nat.le_of_ble_eq_true rfl) (by first | rfl | assumption) fun g4 hg => ?_
   have l_g4 := n_set hg
   have S := S.set1 hg
   clear hg
   simp only [sz0, ss0, ts0, tz0, ds0, dz0, ca0, na0, Nat.reduceAdd] at S
   try simp (disch := (first | exact dA | fail)) only [e2, e5, e9, go_sem, Nat.reduceBEq, Nat.reduceAdd, reduceIte]
   refine ⟨v3, [0, 0, 0, 0, 0], first, z3, by simp, by simp, ?_⟩
   have S := by simpa only [mc0, mn0, List.getD_cons_zero, List.getD_cons_succ, ds0, dz0, ca0, na0] using Sp.sel S 3 [1, 0] (by simp only [lc0]; omega) (by decide) (by decide)
   exact S
  try simp (disch := (first | exact dA | fail)) only [e2, e5, e9, go_sem, Nat.reduceBEq, Nat.reduceAdd, reduceIte]
  exact ⟨vs, srvN n, first, zv, by omega, hne9, S⟩
 clear S e0 e2 e4 e5 e9
 rintro e g ⟨vs2, servers, first2, e2, e5, e9, zv2, hsl, hs9, S⟩
 simp only [CC.split]
 have q0 := (S.bx 0 rfl).eq
 have q4 := (S.bx 4 rfl).eq
 try simp (disch := (first | exact dA | fail)) only [q0, q4, e2, e5, e9, zv2, go_sem, Nat.reduceBEq, Nat.reduceAdd, reduceIte]
 refine stw_of rfl rfl (by first | rfl | simp (disch := assumption) only [go_sem, cells_one, one_as]) fun g2 hg => ?_
 have l_g2 := n_set hg
 have S := S.set4 hg
 clear hg
 have q4 := (S.bx 4 rfl).eq
 try simp (disch := (first | exact dA | fail)) only [q4, e2, e5, e9, zv2, go_sem, Nat.reduceBEq, Nat.reduceAdd, reduceIte]
 refine ⟨vs2, first2, vo, servers, ops, ro, rfl, zv2, zo, ⟨by omega, fun o ho => (hop o ho).w, fun o ho => ⟨(hop o ho).n, (hop o ho).b⟩, hsl, hs9⟩, ?_⟩
 have S := by simpa only [mc0, mn0, List.getD_cons_zero, List.getD_cons_succ, ds0, dz0, ca0, na0] using Sp.sel S 6 [2, 3, 1, 5] (by simp only [lc0]; omega) (by decide) (by decide)
 exact S
end
end Go.Proofs.YtaoffieemecioaaDoor

set_option maxRecDepth 20000
namespace Go.Proofs.YtaoffieemecioaaDoor
open Go Go.IW
section
attribute [local go_sem] List.getElem?_cons_zero List.getElem?_cons_succ Option.bind_some List.map_cons List.map_nil Nat.zero_add if_true List.getD_cons_zero List.getD_cons_succ List.contains_cons List.contains_nil Bool.or_true Bool.true_or Bool.or_false Bool.false_or Bool.not_true Bool.not_false true_and and_true rowA_whole mid_get rowO_rows cellO_rows upd_ne Nat.add_assoc Nat.add_zero List.all_cons List.all_nil one_bool one_int one_str one_ptr one_nilptr one_slice one_eslice one_nilslice one_func one_iface one_niliface Bool.and_true Bool.and_self List.length_cons List.length_nil Nat.one_ne_zero Nat.succ_ne_zero if_false List.set_cons_zero List.set_cons_succ lay_nil lay_1 lay_w Option.map_some cells_one rowA_some List.drop_succ_cons List.drop_zero List.take_succ_cons List.take_zero

theorem all_no {α : Type} {p : α → Bool} {l : List α} (h : ∀ y ∈ l, p y = false) : l.any p = false := by
 rw [List.any_eq_false]
 intro x hx
 rw [h x hx]; decide
set_option maxHeartbeats 4000000 in
theorem lwHeard_c (h : IH) (v va : IV) (rs : List (List IV)) (ops : List Ro) (name : Tx) (zs : List Int) (hs : SlR h 6 v rs) (hrl : rs.length = ops.length) (hrow : ∀ (i : Nat) (o : Ro), ops[i]? = some o → ∃ vb, rs[i]? = some (roRow o vb) ∧ SlR h 1 vb (strRows o.bytes)) (ha : SlR h 1 va (intRows zs))
  (hm : ops.length ≤ 1000000) (hz : zs.length ≤ 1000000) (hb : ∀ o ∈ ops, o.bytes.length ≤ 1000000) :
  ICalls Tryd.prog 8 [v, .str name, va] h fun r h' => r = .bool (heardB ops name zs) ∧ Ext h h' := by
 refine icalls (.of ok8) (Nat.le_of_ble_eq_true rfl) ?_
 unfold c8
 have S := Sp.start h
 try simp (disch := (first | exact dA | fail)) only [go_sem, Nat.reduceBEq, Nat.reduceAdd, reduceIte]
 refine loop_at (fun m e g => ∃ k : Nat, m = ops.length - k ∧ k ≤ ops.length ∧ e 0 = v ∧ e 1 = .str name ∧ e 2 = va ∧ e 7 = .int .i64 (k : Nat) ∧ (∀ y ∈ ops.take k, heardO name zs y = false) ∧ Sp g [old h]) ops.length ?_ ?_
 ·refine ⟨0, by omega, by omega, ?_⟩
  try simp (disch := (first | exact dA | fail)) only [go_sem, Nat.reduceBEq, Nat.reduceAdd, reduceIte]
  exact ⟨rfl, by simp, S⟩
 clear S
 rintro m e g ⟨k, rfl, hk, e0, e1, e2, e7, hno, S⟩
 have hsg := hs.ext S.oldE
 have hlen := hsg.lenF
 rw [hrl] at hlen
 try simp (disch := (first | exact dA | fail)) only [e0, e1, e2, e7, hlen, go_sem, Nat.reduceBEq, Nat.reduceAdd, reduceIte]
 refine test_dec (fun hb2 => ?_) (fun hb2 => ?_)
 rotate_left
 ·have hk2 : k = ops.length := by omega
  subst hk2
  rw [List.take_length] at hno
  try simp (disch := (first | exact dA | fail)) only [e0, go_sem, Nat.reduceBEq, Nat.reduceAdd, reduceIte]
  exact ⟨by unfold heardB; rw [all_no hno], S.oldE⟩
 obtain ⟨o, ho⟩ : ∃ o, ops[k]? = some o := ⟨_, List.getElem?_eq_getElem (by omega : k < ops.length)⟩
 obtain ⟨vb, hrk, hvb⟩ := hrow k o ho
 have hob := hb o (List.mem_of_getElem? ho)
 have hvb1 := hvb.one
 have w1 : wr .i64 ((k : Int) + 1) = ((k + 1 : Nat) : Int) := by rw [wr64 _ (by omega)]; rfl
 obtain ⟨l, j, hia, hll, har⟩ := hsg.at hrk .i64
 have har0 := har
 unfold roRow at har
 have hc := cellO_row har
 try simp (disch := (first | exact dA | fail)) only [e0, e1, e2, e7, hia, hc, go_sem, Nat.reduceBEq, Nat.reduceAdd, reduceIte]
 refine callA_of (specDecodeReply_c g vb o.bytes (hvb.ext S.oldE) (by omega)) ?_
 have hho : heardO name zs o = (decide (o.kind = 2) && (decide ((decR o.bytes).2 = 0) && (decide ((decR o.bytes).1.nm = name) && decide ((decR o.bytes).1.zs = zs)))) := rfl
 have hsm := (decR_small o.bytes).2
 generalize decR o.bytes = R at hho hsm ⊢
 obtain ⟨R, rc⟩ := R
 rintro r3 g3 ⟨v3, rfl, o3, E3⟩
 simp only at hho hsm
 have S := S.ofOwn E3 o3
 have z3 := o3.sl.one
 try simp (disch := (first | exact dA | fail)) only [e0, e1, e2, e7, z3, go_sem, Nat.reduceBEq, Nat.reduceAdd, reduceIte]
 refine Sp.zero S fun p8 g4 S E_g4 l_g4 => ?_
 have q0 := (S.bx 0 rfl).eq
 try simp (disch := (first | exact dA | fail)) only [q0, e0, e1, e2, e7, z3, go_sem, Nat.reduceBEq, Nat.reduceAdd, reduceIte]
 refine stw_of rfl rfl (by first | rfl | simp (disch := assumption) only [go_sem, cells_one, one_as]) fun g5 hg => ?_
 have l_g5 := n_set hg
 have S := S.set0 hg
 clear hg
 simp only at S
 have hsg5 := hs.ext (S.ol 2 rfl)
 obtain ⟨hia5, har5⟩ := hsg.at_eq hsg5 hrk hia
 unfold roRow at har5
 have hc5 := cellO_row har5
 have h1l := (S.slA 1 rfl).lenF
 rw [intRows_len] at h1l
 have hal := (ha.ext (S.ol 2 rfl)).lenF
 rw [intRows_len] at hal
 have q0 := (S.bx 0 rfl).eq
 try simp (disch := (first | exact dA | fail)) only [q0, e0, e1, e2, e7, hia5, hc5, h1l, hal, z3, go_sem, Nat.reduceBEq, Nat.reduceAdd, reduceIte]
 refine test_of (fun hc => ?_) (fun hc => ?_)
 ·have hf : heardO name zs o = false := by
   rw [hho]
   simp only [Bool.or_eq_true, Bool.not_eq_true', decide_eq_false_iff_not] at hc
   rcases hc with ((h1 | h1) | h1) | h1
   ·simp [h1]
   ·simp [h1]
   ·simp [h1]
   ·have : R.zs ≠ zs := by rintro rfl; exact h1 rfl
    simp [this]
  try simp (disch := (first | exact dA | fail)) only [e0, e1, e2, e7, w1, go_sem, Nat.reduceBEq, Nat.reduceAdd, reduceIte]
  exact ⟨ops.length - (k + 1), by omega, k + 1, rfl, by omega, rfl, take_no hno ho hf, S.drop.drop⟩
 simp only [Bool.or_eq_false_iff, Bool.not_eq_false', decide_eq_true_eq] at hc
 obtain ⟨⟨⟨c1, c2⟩, c3⟩, c4⟩ := hc
 have hf : heardO name zs o = decide (R.zs = zs) := by rw [hho, decide_eq_true c1, decide_eq_true c2, decide_eq_true c3]; rfl
 have hlz : R.zs.length = zs.length := by omega
 try simp (disch := (first | exact dA | fail)) only [e0, e1, e2, e7, go_sem, Nat.reduceBEq, Nat.reduceAdd, reduceIte]
 refine loop_at (fun m e g' => ∃ i : Nat, m = zs.length - i ∧ i ≤ zs.length ∧ e 0 = v ∧ e 1 = .str name ∧ e 2 = va ∧ e 7 = .int .i64 (k : Nat) ∧ e 8 = .ptr p8 0 0 ∧ e 10 = .bool (decide (R.zs.take i = zs.take i)) ∧ e 11 = .int .i64 (i : Nat) ∧ g' = g5) zs.length ?_ ?_
 ·refine ⟨0, by omega, by omega, ?_⟩
  try simp (disch := (first | exact dA | fail)) only [e0, e1, e2, e7, go_sem, Nat.reduceBEq, Nat.reduceAdd, reduceIte]
  exact ⟨rfl, rfl⟩
 clear e0 e1 e2 e7
 rintro m e g' ⟨i, rfl, hi, e0, e1, e2, e7, e8, e10, e11, rfl⟩
 try simp (disch := (first | exact dA | fail)) only [e0, e1, e2, e7, e8, e10, e11, hal, go_sem, Nat.reduceBEq, Nat.reduceAdd, reduceIte]
 refine test_dec (fun hb3 => ?_) (fun hb3 => ?_)
 ·obtain ⟨a, hza⟩ : ∃ a, zs[i]? = some a := ⟨_, List.getElem?_eq_getElem (by omega : i < zs.length)⟩
  obtain ⟨b, hzb⟩ : ∃ b, R.zs[i]? = some b := ⟨_, List.getElem?_eq_getElem (by omega : i < R.zs.length)⟩
  have hsg6 := ha.ext (S.ol 2 rfl)
  obtain ⟨l1, j1, hia1, _, har1⟩ := hsg6.at (intRows_at hza) .i64
  have hc1 := cellO_row har1
  obtain ⟨l2, j2, hia2, _, har2⟩ := (S.slA 1 rfl).at (intRows_at hzb) .i64
  have hc2 := cellO_row har2
  have w2 : wr .i64 ((i : Int) + 1) = ((i + 1 : Nat) : Int) := by rw [wr64 _ (by omega)]; rfl
  have hstep : decide (R.zs.take (i + 1) = zs.take (i + 1)) = (decide (R.zs.take i = zs.take i) && decide (a = b)) := by
   rw [take_snoc hza, take_snoc hzb, ← Bool.decide_and]
   apply decide_eq_decide.2
   constructor
   ·intro h
    have h1 := List.append_inj' h rfl
    refine ⟨h1.1, ?_⟩
    have := h1.2
    simp at this
    exact this.symm
   ·rintro ⟨h1, rfl⟩
    rw [h1]
  cases hsm2 : decide (R.zs.take i = zs.take i)
  ·rw [hsm2] at e10 hstep
   have q0 := (S.bx 0 rfl).eq
   try simp (disch := (first | exact dA | fail)) only [q0, e0, e1, e2, e7, e8, e10, e11, w2, go_sem, Nat.reduceBEq, Nat.reduceAdd, reduceIte]
   exact ⟨zs.length - (i + 1), by omega, i + 1, rfl, by omega, by rw [hstep]; rfl, rfl⟩
  ·rw [hsm2] at e10 hstep
   have q0 := (S.bx 0 rfl).eq
   try simp (disch := (first | exact dA | fail)) only [q0, e0, e1, e2, e7, e8, e10, e11, w2, hia1, hc1, hia2, hc2, go_sem, Nat.reduceBEq, Nat.reduceAdd, reduceIte]
   exact ⟨zs.length - (i + 1), by omega, i + 1, rfl, by omega, by rw [hstep]; rfl, rfl⟩
 ·have hi2 : i = zs.length := by omega
  subst hi2
  rw [List.take_length, List.take_of_length_le (by omega)] at e10
  try simp (disch := (first | exact dA | fail)) only [e0, e1, e2, e7, e8, e10, go_sem, Nat.reduceBEq, Nat.reduceAdd, reduceIte]
  refine test_dec (fun heq => ?_) (fun heq => ?_)
  ·skip
   try simp (disch := (first | exact dA | fail)) only [go_sem, Nat.reduceBEq, Nat.reduceAdd, reduceIte]
   refine ⟨?_, S.drop.drop.oldE⟩
   have : heardB ops name zs = true := by
    unfold heardB
    rw [List.any_eq_true]
    exact ⟨o, List.mem_of_getElem? ho, by rw [hf, decide_eq_true heq]⟩
   rw [this]
  ·skip
   try simp (disch := (first | exact dA | fail)) only [e0, e1, e2, e7, w1, go_sem, Nat.reduceBEq, Nat.reduceAdd, reduceIte]
   exact ⟨ops.length - (k + 1), by omega, k + 1, rfl, by omega, rfl, take_no hno ho (by rw [hf, decide_eq_false heq]), S.drop.drop⟩
end
end Go.Proofs.YtaoffieemecioaaDoor

set_option maxRecDepth 20000
namespace Go.Proofs.YtaoffieemecioaaDoor
open Go Go.IW

section
variable {S : Nat → Prop} {h : IH} {cs : List IV}
theorem rp_pair {a b : Ty} {d1 d2 : Dat} (hv : Rp S h (.cat a b) cs (.pair d1 d2)) : ∃ c1 c2, cs = c1 ++ c2 ∧ Rp S h a c1 d1 ∧ Rp S h b c2 d2 := by
 obtain ⟨c1, c2, e1, e2, h1, h2, h3, h4⟩ := hv
 simp only [Dat.pair.injEq] at h2
 obtain ⟨rfl, rfl⟩ := h2
 exact ⟨c1, c2, h1, h3, h4⟩
theorem rp_int {k : IntKind} {n : Int} (hv : Rp S h (.int k) cs (.int n)) : cs = [.int k n] := by
 obtain ⟨m, h1, h2⟩ := hv
 simp only [Dat.int.injEq] at h2
 rw [h1, h2]
theorem rp_nil (hv : Rp S h .nil cs .unit) : cs = [] := hv.1
theorem rp_list {el : Nat} {t : Ty} {ds : List Dat} (hv : Rp S h (.slice el t) cs (.list ds)) : ∃ v rs, cs = [v] ∧ SlR h t.sz v rs ∧ All2 (Rp S h t) rs ds ∧ ∀ l i n, v = .slice l i n → S l := by
 obtain ⟨v, rs, ds', h1, h2, h3, h4, h5⟩ := hv
 simp only [Dat.list.injEq] at h2
 subst h2
 exact ⟨v, rs, h1, h3, h5, h4⟩
theorem a2_map {α : Type} {t : Ty} {f : α → Dat} : ∀ {rs : List (List IV)} {xs : List α}, All2 (Rp S h t) rs (xs.map f) → rs.length = xs.length ∧ ∀ (i : Nat) (x : α), xs[i]? = some x → ∃ r, rs[i]? = some r ∧ Rp S h t r (f x)
 | rs, [], hh => by cases hh; exact ⟨rfl, by simp⟩
 | rs, x :: xs, hh => by
  cases hh with
  | cons h1 h2 =>
   obtain ⟨a, b⟩ := a2_map h2
   refine ⟨by simp [a], fun i y hy => ?_⟩
   cases i with
   | zero => simp at hy; subst hy; exact ⟨_, rfl, h1⟩
   | succ i => simpa using b i y (by simpa using hy)
theorem rp_ints {el : Nat} {zs : List Int} (hv : Rp S h (.slice el (.int .i64)) cs (intsD zs)) : ∃ v, cs = [v] ∧ SlR h 1 v (intRows zs) ∧ ∀ l i n, v = .slice l i n → S l := by
 obtain ⟨v, rs, h1, h2, h3, hloc⟩ := rp_list hv
 obtain ⟨zs', h4, h5⟩ := intsL h3
 have : zs = zs' := (List.map_inj_right (fun x y e => by simpa using e)).1 h5
 subst this
 exact ⟨v, h1, h4 ▸ h2, hloc⟩
theorem rp_bytes {el : Nat} {bs : Tx} (hv : Rp S h (.slice el (.int .u8)) cs (bytesD bs)) : ∃ v, cs = [v] ∧ SlR h 1 v (strRows bs) := by
 obtain ⟨v, rs, h1, h2, h3, _⟩ := rp_list hv
 obtain ⟨a, b⟩ := a2_map h3
 have : rs = strRows bs := by
  apply List.ext_getElem?
  intro i
  by_cases hi : i < bs.length
  ·obtain ⟨r, e1, e2⟩ := b i _ (List.getElem?_eq_getElem hi)
   rw [e1, rp_int e2]
   simp [strRows, hi]
  ·rw [List.getElem?_eq_none (by omega), List.getElem?_eq_none (by rw [strRows_len]; omega)]
 subst this
 exact ⟨v, h1, h2⟩
end
structure DnsAt (T : Nat → Prop) (h : IH) (vd : IV) (ds : List Dn) : Prop where
 a : ∃ rd, SlR h 3 vd rd ∧ rd.length = ds.length ∧ ∀ (k : Nat) (d : Dn), ds[k]? = some d → ∃ va, rd[k]? = some (dnRow d va) ∧ SlR h 1 va (intRows d.addrs) ∧ ∀ l i n, va = .slice l i n → T l
structure SdsAt (h : IH) (vx : IV) (ss : List Sd) : Prop where
 a : ∃ rx, SlR h 2 vx rx ∧ rx.length = ss.length ∧ ∀ (k : Nat) (s : Sd), ss[k]? = some s → ∃ vb, rx[k]? = some (sdRow s vb) ∧ SlR h 1 vb (strRows s.bytes)
structure OosAt (T : Nat → Prop) (h : IH) (v : IV) (outs : List Oo) : Prop where
 a : ∃ rs, SlR h 5 v rs ∧ rs.length = outs.length ∧ ∀ (i : Nat) (x : Oo), outs[i]? = some x → ∃ vx vd, rs[i]? = some (ooRow x vx vd) ∧ DnsAt T h vd x.done ∧ SdsAt h vx x.sent
theorem oos_rp {T : Nat → Prop} {h : IH} {v : IV} {outs : List Oo} (hv : Rp T h (.slice 38 t_ResolveOut) [v] (.list (outs.map ooD))) : OosAt T h v outs := by
 obtain ⟨v', rs, e, h1, h2, _⟩ := rp_list hv
 obtain rfl := (List.cons.inj e).1
 obtain ⟨h3, h4⟩ := a2_map h2
 refine ⟨rs, h1, h3, fun i x hx => ?_⟩
 obtain ⟨r, h5, h6⟩ := h4 i x hx
 unfold ooD at h6
 obtain ⟨_, _, rfl, k1, h6⟩ := rp_pair h6
 obtain ⟨_, _, rfl, k2, h6⟩ := rp_pair h6
 obtain ⟨_, _, rfl, k3, h6⟩ := rp_pair h6
 obtain ⟨_, _, rfl, k4, h6⟩ := rp_pair h6
 obtain ⟨_, _, rfl, k5, h6⟩ := rp_pair h6
 have e1 := rp_int k1
 obtain ⟨vx, rx, e2, s2, a2, _⟩ := rp_list k2
 obtain ⟨vd, rd, e3, s3, a3, _⟩ := rp_list k3
 have e4 := rp_int k4
 have e5 := rp_int k5
 have e6 := rp_nil h6
 subst e1 e2 e3 e4 e5 e6
 refine ⟨vx, vd, h5, ⟨rd, s3, (a2_map a3).1, fun k d hd => ?_⟩, ⟨rx, s2, (a2_map a2).1, fun k s hs => ?_⟩⟩
 ·obtain ⟨r, g1, g2⟩ := (a2_map a3).2 k d hd
  unfold dnD at g2
  obtain ⟨_, _, rfl, k1, g2⟩ := rp_pair g2
  obtain ⟨_, _, rfl, k2, g2⟩ := rp_pair g2
  obtain ⟨_, _, rfl, k3, g2⟩ := rp_pair g2
  obtain ⟨va, f1, f2, floc⟩ := rp_ints k3
  have f3 := rp_int k1
  have f4 := rp_int k2
  have f5 := rp_nil g2
  subst f1 f3 f4 f5
  exact ⟨va, g1, f2, floc⟩
 ·obtain ⟨r, g1, g2⟩ := (a2_map a2).2 k s hs
  unfold sdD at g2
  obtain ⟨_, _, rfl, k1, g2⟩ := rp_pair g2
  obtain ⟨_, _, rfl, k2, g2⟩ := rp_pair g2
  obtain ⟨vb, f1, f2⟩ := rp_bytes k2
  have f3 := rp_int k1
  have f5 := rp_nil g2
  subst f1 f3 f5
  exact ⟨vb, g1, f2⟩
theorem oos_vw {lo hi : Nat} {h : IH} {v : IV} {outs : List Oo} (hv : Vw lo hi h (.slice 38 t_ResolveOut) [v] (.list (outs.map ooD))) : OosAt (fun l => lo ≤ l ∧ l < hi) h v outs := oos_rp hv
theorem dat_loc {h : IH} {L : List As} {lq : Nat} {o : IObj} {t : Ty} {cs : List IV} {d : Dat} (S : Sp h (box lq o :: dat t cs d :: L)) : Rp (fun l => l < h.n ∧ l ≠ lq) h t cs d := by
 obtain ⟨fs, ⟨f, g, rfl, ⟨rfl, _⟩, f', g', rfl, hr, _⟩, hd⟩ := S
 refine Ro.view hr fun l hl => ⟨Ro.lt hr l hl, ?_⟩
 rintro rfl
 simp at hd
 exact hd.1.1 hl
theorem _root_.Go.IW.Sp.zeroN {P : Program} {h : IH} {L : List As} {e : Env} {el sz : Nat} {cs : List IV} {K : IV → IH → Prop} (S : Sp h L) (hk : ∀ p g, p = h.n → Sp g (box p (.rows [cs] el sz false) :: L) → Ext h g → g.n = h.n + 1 → K (.ptr p 0 0) g) : act P h e K (.zero el sz cs) :=
 hk h.n _ rfl (S.push rfl) (Ext.pushed rfl) rfl
theorem ros_of {h : IH} {L : List As} {vo : IV} {ro : List (List IV)} {ops : List Ro} (S : Sp h L) (i j : Nat) (hi : L[i]? = some (sl false 30 6 vo ro)) (hj : L[j]? = some (all2 roR ro ops)) : RosAt h vo ops :=
 ⟨ro, S.slA i hi, a2_len S j hj, fun k o ho => ro_at S j hj ho⟩
def arr (n : Nat) (f : Nat → Nat) : List (List IV) := (List.range n).map fun j => [IV.int .i64 (f j : Int)]
theorem arr_len (n : Nat) (f : Nat → Nat) : (arr n f).length = n := by simp [arr]
theorem arr_at {n j : Nat} (f : Nat → Nat) (h : j < n) : (arr n f)[j]? = some [.int .i64 (f j : Int)] := by simp [arr, h]
theorem arr_zero (n : Nat) : List.replicate n [IV.int .i64 0] = arr n fun _ => 0 := by
 apply List.ext_getElem?
 intro i
 by_cases hi : i < n
 ·rw [arr_at _ hi]; simp [hi]
 ·rw [List.getElem?_eq_none (by simp; omega), List.getElem?_eq_none (by rw [arr_len]; omega)]
theorem arr_set {n j : Nat} {f f' : Nat → Nat} (h : j < n) (h1 : f' j = f j + 1) (h2 : ∀ i, i ≠ j → f' i = f i) : (arr n f).set j [.int .i64 ((f j : Int) + 1)] = arr n f' := by
 apply List.ext_getElem?
 intro i
 rw [List.getElem?_set]
 by_cases hi : i < n
 ·rw [arr_at f' hi]
  by_cases hij : j = i
  ·subst hij
   rw [if_pos rfl, if_pos (by rw [arr_len]; exact hi), h1]; rfl
  ·rw [if_neg hij, arr_at f hi, h2 i (fun e => hij e.symm)]
 ·rw [List.getElem?_eq_none (l := arr n f') (by rw [arr_len]; omega), List.getElem?_eq_none (l := arr n f) (by rw [arr_len]; omega)]
  split
  ·rw [if_neg (by rw [arr_len]; omega)]
  ·rfl
end Go.Proofs.YtaoffieemecioaaDoor

set_option maxRecDepth 20000
namespace Go.Proofs.YtaoffieemecioaaDoor
open Go Go.IW
section
attribute [local go_sem] List.getElem?_cons_zero List.getElem?_cons_succ Option.bind_some List.map_cons List.map_nil Nat.zero_add if_true List.getD_cons_zero List.getD_cons_succ List.contains_cons List.contains_nil Bool.or_true Bool.true_or Bool.or_false Bool.false_or Bool.not_true Bool.not_false true_and and_true rowA_whole mid_get rowO_rows cellO_rows upd_ne Nat.add_assoc Nat.add_zero List.all_cons List.all_nil one_bool one_int one_str one_ptr one_nilptr one_slice one_eslice one_nilslice one_func one_iface one_niliface Bool.and_true Bool.and_self List.length_cons List.length_nil Nat.one_ne_zero Nat.succ_ne_zero if_false List.set_cons_zero List.set_cons_succ lay_nil lay_1 lay_w Option.map_some cells_one rowA_some List.drop_succ_cons List.drop_zero List.take_succ_cons List.take_zero

theorem cAll_take {outs : List Oo} {i : Nat} {x : Oo} (h : outs[i]? = some x) (t : Int) : cAll (outs.take (i + 1)) t = cAll (outs.take i) t + cD x.done t := by rw [take_snoc h, cAll_snoc]
theorem cD_take {ds : List Dn} {k : Nat} {d : Dn} (h : ds[k]? = some d) (t : Int) : cD (ds.take (k + 1)) t = cD (ds.take k) t + if d.ticket = t then 1 else 0 := by
 rw [take_snoc h, cD_app]
 simp [cD, List.count_singleton]
set_option maxHeartbeats 8000000 in
theorem lawTickets : LawTrue Tryd.prog 3 [(.slice (.int .u8), false)] := by
 rintro h ivs ha ⟨iv, r, rfl, hf, rfl⟩
 obtain ⟨dS, aS, okS', wS⟩ := fits_vw (.slice 5 (.int .u8)) hf
 obtain ⟨code, rfl, hs⟩ := bytes_any aS wS
 refine icallsC (.of ok3) (Nat.le_of_ble_eq_true rfl) ?_
 unfold c3
 have y1 := hs.one
 have hlen := hs.lenF
 rw [strRows_len] at hlen
 try simp (disch := (first | exact dA | fail)) only [hlen, go_sem, Nat.reduceBEq, Nat.reduceAdd, reduceIte]
 refine test_dec (fun hb => ?_) (fun hb => ?_)
 ·skip
  try simp (disch := (first | exact dA | fail)) only [go_sem, Nat.reduceBEq, Nat.reduceAdd, reduceIte]
 try simp (disch := (first | exact dA | fail)) only [y1, go_sem, Nat.reduceBEq, Nat.reduceAdd, reduceIte]
 refine callA_of (draw_c h iv code hs (by omega)) ?_
 rintro r2 g2 ⟨vs, first, vo0, servers, ops0, ro0, rfl, z1, z2, hD, S⟩
 try simp (disch := (first | exact dA | fail)) only [z1, z2, go_sem, Nat.reduceBEq, Nat.reduceAdd, reduceIte]
 refine Sp.zero S fun p3 g3 S E_g3 l_g3 => ?_
 have q0 := (S.bx 0 rfl).eq
 try simp (disch := (first | exact dA | fail)) only [q0, z1, go_sem, Nat.reduceBEq, Nat.reduceAdd, reduceIte]
 refine stw_of rfl rfl (by first | rfl | simp (disch := assumption) only [go_sem, cells_one, one_as]) fun g4 hg => ?_
 have l_g4 := n_set hg
 have S := S.set0 hg
 clear hg
 try simp (disch := (first | exact dA | fail)) only [z2, ca0, na0, lay_p, go_sem, Nat.reduceBEq, Nat.reduceAdd, reduceIte]
 refine Sp.bsl1 S (by first | rfl | (rw [cells_one (by assumption)]; rfl)) (by first | rfl | simp (disch := assumption) only [go_sem, cells_one, one_as]) fun p5 g5 S E_g5 l_g5 => ?_
 try simp only [cells_agg, cells_int, cells_bool, cells_ptr, cells_str] at S
 have hn0 := hD.n
 have hr0 := a2_len S 3 rfl
 have q0 := (S.bx 0 rfl).eq
 have s2 := S.slA 2 rfl
 have len_s2 := s2.lenF
 have z2 := s2.one
 try simp (disch := (first | exact dA | fail)) only [q0, len_s2, z2, z2, go_sem, Nat.reduceBEq, Nat.reduceAdd, reduceIte]
 have S := by simpa only [mc0, mn0, List.getD_cons_zero, List.getD_cons_succ, ds0, dz0, ca0, na0] using Sp.sel S 3 [0, 2, 1] (by simp only [lc0]; omega) (by decide) (by decide)
 refine S.app1 (y := false) (b := 72) (by omega) ?_
 clear S
 intro vo g6 S z6
 have em : [IV.int .i64 3, .int .i64 0, .int .i64 0, .int .i64 10000, .str [], .nilslice] = roRow passO .nilslice := rfl
 rw [em] at S
 have S := S.slNil (x := false) (el := 5) (sz := 1)
 have S : Sp g6 (byts .nilslice passO.bytes :: _) := S
 have S := (ro_un (o := passO) (rd_of S) rfl).a2one
 have S := by simpa only [mc0, mn0, List.getD_cons_zero, List.getD_cons_succ, ds0, dz0, ca0, na0] using Sp.sel S 4 [3, 0, 1, 2] (by simp only [lc0]; omega) (by decide) (by decide)
 have S := S.a2join
 obtain ⟨ops, hops⟩ : ∃ ops, ops = ops0 ++ [passO] := ⟨_, rfl⟩
 obtain ⟨ro, hro⟩ : ∃ ro, ro = ro0 ++ [roRow passO .nilslice] := ⟨_, rfl⟩
 rw [← hops, ← hro] at S
 have hol : ops.length = ops0.length + 1 := by rw [hops]; simp
 have hosz : ∀ o ∈ ops, o.name.length + o.bytes.length ≤ 1048576 ∧ o.bytes.length ≤ 1000000 := by
  intro o ho
  rw [hops] at ho
  rcases List.mem_append.1 ho with ho | ho
  ·have := hD.s o ho; omega
  ·rw [List.mem_singleton.1 ho]; exact ⟨by decide, by decide⟩
 have q2 := (S.bx 2 rfl).eq
 try simp (disch := (first | exact dA | fail)) only [q2, z6, z1, go_sem, Nat.reduceBEq, Nat.reduceAdd, reduceIte]
 refine callA_of (specRun_c g6 vs vo servers first ops (S.slA 3 rfl) (ros_of S 1 0 rfl rfl) (by have := hD.sl; omega) (by omega) (fun o ho => (hosz o ho).1)) ?_
 rintro r7 g7 ⟨⟨vw, rfl, oW⟩, E7⟩
 have S := S.ow E7 oW (Nat.le_refl _)
 have q3 := (S.bx 3 rfl).eq
 try simp (disch := (first | exact dA | fail)) only [q3, z6, z1, go_sem, Nat.reduceBEq, Nat.reduceAdd, reduceIte]
 refine callA_of (implRun_c g7 vs vo servers first ops (S.slA 4 rfl) (ros_of S 2 1 rfl rfl) (by have := hD.sl; omega) (by omega) (fun o ho => (hosz o ho).1)) ?_
 rintro r8 g8 ⟨⟨vg, rfl, oG⟩, E8⟩
 have S := S.ow E8 oG (Nat.le_refl _)
 clear oW oG
 have hti := fun (hw : ∀ o ∈ ops0, o.wait ≤ 60000) => tickets_run (first := first) (servers := servers) hw hn0
 rw [← hops] at hti
 obtain ⟨t1, t2, t3, t4⟩ := hti hD.w
 have hrun : (runR servers first ops).2 = 0 → runR servers first ops = (runSt first servers 0 st0R ops, 0) ∧ okCfg servers first = true := by
  intro h0
  unfold runR at h0 ⊢
  split at h0
  ·cases h0
  ·rename_i hc
   rw [if_neg hc]
   split at h0
   ·cases h0
   ·rename_i hc2
    rw [if_neg hc2]
    exact ⟨rfl, by simpa using hc⟩
 generalize runR servers first ops = X at S hrun
 obtain ⟨outs, cd⟩ := X
 simp only at S hrun
 have wG := oos_vw (S.vwA 0 rfl)
 have wW := oos_vw (S.vwA 1 rfl)
 obtain ⟨rg, sg, lg, _⟩ := wG.a
 obtain ⟨rw_, sw, lw, _⟩ := wW.a
 have hlg := sg.lenF
 have hlw := sw.lenF
 rw [lg] at hlg
 rw [lw] at hlw
 by_cases hcd : cd = 0
 rotate_left
 ·have d1 : decide (cd = 0) = false := decide_eq_false hcd
  try simp (disch := (first | exact dA | fail)) only [decide_true, Bool.not_true, hlg, hlw, d1, Bool.not_false, go_sem, Nat.reduceBEq, Nat.reduceAdd, reduceIte]
 subst hcd
 obtain ⟨hX, hcfg⟩ := hrun rfl
 obtain rfl : outs = runSt first servers 0 st0R ops := (Prod.mk.inj hX).1
 clear hrun hX
 have hbnd := runSt_bnd (first := first) (servers := servers) (ops := ops) (k := 0) (st := st0R) Ri.init (by omega)
 generalize runSt first servers 0 st0R ops = outs at hbnd S t1 t2 t3 t4 lg lw hlg hlw wG wW
 have hlo := (S.slA 3 rfl).lenF
 have hrol := a2_len S 2 rfl
 rw [hrol] at hlo
 try simp (disch := (first | exact dA | fail)) only [decide_true, Bool.not_true, hlg, hlw, hlo, go_sem, Nat.reduceBEq, Nat.reduceAdd, reduceIte]
 have hno : outs.length = ops.length := by omega
 have hn1 : ops.length ≤ 1001 := by omega
 clear wG wW sg sw lg lw
 refine Sp.mks (n := ops.length) S (by omega) (by omega) fun v9 g9 S E9 z9 => ?_
 rw [arr_zero] at S
 try simp (disch := (first | exact dA | fail)) only [z9, go_sem, Nat.reduceBEq, Nat.reduceAdd, reduceIte]
 refine loop_at (fun m e g => ∃ (i : Nat) (v9 : IV), m = outs.length - i ∧ i ≤ outs.length ∧ e 4 = vo ∧ e 5 = vw ∧ e 7 = vg ∧ e 9 = v9 ∧ e 10 = .int .i64 (i : Nat) ∧ v9.one = true ∧ Sp g (sl false 3 1 v9 (arr ops.length fun j => cAll (outs.take i) j) :: dat (.slice 38 t_ResolveOut) [vg] (.list (outs.map ooD)) :: dat (.slice 38 t_ResolveOut) [vw] (.list (outs.map ooD)) :: all2 roR ro ops :: sl false 30 6 vo ro :: box p3 (cfgO vs first) :: ints vs servers :: [old h])) outs.length ?_ ?_
 ·refine ⟨0, v9, by omega, by omega, ?_⟩
  try simp (disch := (first | exact dA | fail)) only [go_sem, Nat.reduceBEq, Nat.reduceAdd, reduceIte]
  exact ⟨rfl, z9, by simpa [cAll] using S⟩
 clear S z9
 clear hlg hlw hlo
 clear z6
 rintro m e g ⟨i, v9, rfl, hi, e4, e5, e7, e9, e10, z9, S⟩
 obtain ⟨rg, sg, lg, cg⟩ := (oos_vw (S.vwA 1 rfl)).a
 obtain ⟨rw_, sw, lw, cw⟩ := (oos_vw (S.vwA 2 rfl)).a
 have hlg := sg.lenF
 rw [lg] at hlg
 try simp (disch := (first | exact dA | fail)) only [e4, e5, e7, e9, e10, hlg, go_sem, Nat.reduceBEq, Nat.reduceAdd, reduceIte]
 refine test_dec (fun hb2 => ?_) (fun hb2 => ?_)
 ·obtain ⟨x, hx⟩ : ∃ x, outs[i]? = some x := ⟨_, List.getElem?_eq_getElem (by omega : i < outs.length)⟩
  obtain ⟨hx1, hx2, hx3, hx4⟩ := hbnd x (List.mem_of_getElem? hx)
  obtain ⟨vx, vd, hri, dn, sd⟩ := cg i x hx
  obtain ⟨vx', vd', hri', dn', sd'⟩ := cw i x hx
  obtain ⟨l1, j1, hia1, _, har1⟩ := sg.at hri .i64
  obtain ⟨l2, j2, hia2, _, har2⟩ := sw.at hri' .i64
  unfold ooRow at har1 har2
  have hc1 := cellO_row har1
  have hc2 := cellO_row har2
  have d1 : decide ((16 : Int) < x.ask) = false := decide_eq_false (by omega)
  have d2 : decide ((32 : Int) < x.ent) = false := decide_eq_false (by omega)
  have w1 : wr .i64 ((i : Int) + 1) = ((i + 1 : Nat) : Int) := by rw [wr64 _ (by omega)]; rfl
  try simp (disch := (first | exact dA | fail)) only [e4, e5, e7, e9, e10, hia1, hia2, hc1, hc2, decide_true, Bool.not_true, d1, d2, go_sem, Nat.reduceBEq, Nat.reduceAdd, reduceIte]
  refine loop_at (fun m e g => ∃ (k : Nat) (v9 : IV), m = x.done.length - k ∧ k ≤ x.done.length ∧ e 4 = vo ∧ e 5 = vw ∧ e 7 = vg ∧ e 9 = v9 ∧ e 10 = .int .i64 (i : Nat) ∧ e 11 = .int .i64 (k : Nat) ∧ v9.one = true ∧ Sp g (sl false 3 1 v9 (arr ops.length fun j => cAll (outs.take i) j + cD (x.done.take k) j) :: dat (.slice 38 t_ResolveOut) [vg] (.list (outs.map ooD)) :: dat (.slice 38 t_ResolveOut) [vw] (.list (outs.map ooD)) :: all2 roR ro ops :: sl false 30 6 vo ro :: box p3 (cfgO vs first) :: ints vs servers :: [old h])) x.done.length ?_ ?_
  ·refine ⟨0, v9, by omega, by omega, ?_⟩
   try simp (disch := (first | exact dA | fail)) only [e4, e5, e7, e9, e10, go_sem, Nat.reduceBEq, Nat.reduceAdd, reduceIte]
   exact ⟨rfl, z9, by simpa [cD] using S⟩
  clear S z9 e4 e5 e7 e9 e10 hia1 hia2 hc1 hc2 har1 har2 dn dn' sd sd' hri hri' sg sw lg lw cg cw hlg
  rintro m e g ⟨k, v9, rfl, hk, e4, e5, e7, e9, e10, e11, z9, S⟩
  obtain ⟨rg, sg, lg, cg⟩ := (oos_vw (S.vwA 1 rfl)).a
  obtain ⟨vx, vd, hri, dn, sd⟩ := cg i x hx
  obtain ⟨l1, j1, hia1, _, har1⟩ := sg.at hri .i64
  unfold ooRow at har1
  have hc1 := cellO_row har1
  obtain ⟨rd, sdn, ld, cd⟩ := dn.a
  have hld := sdn.lenF
  rw [ld] at hld
  try simp (disch := (first | exact dA | fail)) only [e4, e5, e7, e9, e10, e11, hia1, hc1, hld, go_sem, Nat.reduceBEq, Nat.reduceAdd, reduceIte]
  refine test_dec (fun hb3 => ?_) (fun hb3 => ?_)
  rotate_left
  ·have hk2 : k = x.done.length := by omega
   subst hk2
   rw [List.take_length] at S
   try simp (disch := (first | exact dA | fail)) only [e4, e5, e7, e9, e10, w1, go_sem, Nat.reduceBEq, Nat.reduceAdd, reduceIte]
   refine ⟨outs.length - (i + 1), by omega, i + 1, v9, rfl, by omega, rfl, rfl, z9, ?_⟩
   have ef : (fun j : Nat => cAll (outs.take (i + 1)) j) = fun j : Nat => cAll (outs.take i) j + cD x.done j := by funext j; exact cAll_take hx j
   rw [ef]
   exact S
  obtain ⟨d, hd⟩ : ∃ d, x.done[k]? = some d := ⟨_, List.getElem?_eq_getElem (by omega : k < x.done.length)⟩
  clear hld cd ld sdn dn sd hri hc1 har1 hia1 sg lg cg
  obtain ⟨nm, ⟨t, o, y, ht, hti, hot, hyt, hok, hyc, hnm⟩, hans⟩ := t1 i x d hx (List.mem_of_getElem? hd)
  have htl := (List.getElem?_eq_some_iff.1 hot).1
  have hne0 : ∀ f : Nat → Nat, arr ops.length f ≠ [] := fun f e => by
   have := arr_len ops.length f
   rw [e] at this; simp at this; omega
  have hfcb : cAll (outs.take i) t + cD (x.done.take k) t ≤ 1000000000 := by
   have h1 := cAll_le (outs := outs.take i) (fun x hx => (hbnd x (List.mem_of_mem_take hx)).2.2.1) t
   have h2 := cD_le (x.done.take k) t
   rw [List.length_take] at h1 h2
   have h3 : min i outs.length * 2001 ≤ 1001 * 2001 := Nat.mul_le_mul_right _ (by omega)
   omega
  have S0 := S
  clear S
  obtain ⟨lq, hvq, S⟩ := S0.slBox (hne0 _)
  clear S0
  generalize hfc : (fun j : Nat => cAll (outs.take i) j + cD (x.done.take k) j) = fc at S hvq
  have hft : fc t = cAll (outs.take i) t + cD (x.done.take k) t := by rw [← hfc]
  obtain ⟨rg, sg, lg, cg⟩ := (oos_rp (dat_loc S)).a
  obtain ⟨vx, vd, hri, dn, sd⟩ := cg i x hx
  obtain ⟨l1, j1, hia1, _, har1⟩ := sg.at hri .i64
  unfold ooRow at har1
  have hc1 := cellO_row har1
  obtain ⟨rd, sdn, ld, cd⟩ := dn.a
  obtain ⟨va, hrd, hva, hloc⟩ := cd k d hd
  have hva1 := hva.one
  obtain ⟨l3, j3, hia3, _, har3⟩ := sdn.at hrd .i64
  unfold dnRow at har3
  have w2 : wr .i64 ((k : Int) + 1) = ((k + 1 : Nat) : Int) := by rw [wr64 _ (by omega)]; rfl
  try simp (disch := (first | exact dA | fail)) only [e4, e5, e7, e9, e10, e11, hia1, hc1, hia3, har3, go_sem, Nat.reduceBEq, Nat.reduceAdd, reduceIte]
  refine Sp.zeroN S fun p12 g12 hp12 S E_g12 l_g12 => ?_
  have q0 := (S.bx 0 rfl).eq
  try simp (disch := (first | exact dA | fail)) only [q0, e4, e5, e7, e9, e10, e11, hva1, go_sem, Nat.reduceBEq, Nat.reduceAdd, reduceIte]
  refine stw_of rfl rfl (by first | rfl | simp (disch := assumption) only [go_sem, cells_one, one_as]) fun g13 hg => ?_
  have l_g13 := n_set hg
  have S := S.set0 hg
  have k13 : ∀ l, l ≠ p12 → g13.obj l = g12.obj l := fun l hl => by rw [← hg]; exact set_there _ _ _ _ hl
  clear hg hia1 hc1 har1 hri sg lg cg hia3 har3 hrd sdn ld cd dn sd
  obtain ⟨vb, hro2, _⟩ := ro_at S 4 rfl hot
  obtain ⟨l4, j4, hia4, _, har4⟩ := (S.slA 5 rfl).at hro2 .i64
  unfold roRow at har4
  have hc4 := cellO_row har4
  obtain ⟨rw_, sw, lw, cw⟩ := (oos_vw (S.vwA 3 rfl)).a
  obtain ⟨vx', vd', hri', _, _⟩ := cw t y hyt
  obtain ⟨l5, j5, hia5, _, har5⟩ := sw.at hri' .i64
  unfold ooRow at har5
  have hc5 := cellO_row har5
  rw [ht] at S
  have d1 : decide ((t : Int) < 0) = false := decide_eq_false (by omega)
  have d2 : decide ((i : Int) < (t : Int)) = false := decide_eq_false (by omega)
  have d3 : decide (o.kind = 1) = true := decide_eq_true hok
  have d4 : decide (y.code = 0) = true := decide_eq_true hyc
  have hal := arr_len ops.length fc
  have io : iadrO (IObj.rows (arr ops.length fc) 3 1 false) 1 lq 0 (arr ops.length fc).length (t : Int) = some (.ptr lq t 0) := by rw [iadrO_nat (by omega)]; simp
  have hat := arr_at fc htl
  have w3 : wr .i64 ((fc t : Int) + 1) = (fc t : Int) + 1 := wr64 _ (by omega)
  have q0 := (S.bx 0 rfl).eq
  have q1 := (S.bx 1 rfl).eq
  try simp (disch := (first | exact dA | fail)) only [q0, q1, e4, e5, e7, e9, e10, e11, d1, d2, d3, d4, hia4, hc4, hia5, hc5, Bool.not_true, hvq, iadrF_sl, io, hat, w3, go_sem, Nat.reduceBEq, Nat.reduceAdd, reduceIte]
  have S := by simpa only [mc0, mn0, List.getD_cons_zero, List.getD_cons_succ, ds0, dz0, ca0, na0] using Sp.sel S 2 [1, 0] (by simp only [lc0]; omega) (by decide) (by decide)
  refine stc_of hat (Nat.le_of_ble_eq_true rfl) rfl fun g14 hg => ?_
  have l_g14 := n_set hg
  have S := S.set0 hg
  have k14 : ∀ l, l ≠ lq → g14.obj l = g13.obj l := fun l hl => by rw [← hg]; exact set_there _ _ _ _ hl
  clear hg har5 hc5 hia5 sw lw cw hia4 har4 hc4 hro2
  have es : (arr ops.length fc).set t ([IV.int .i64 (fc t : Int)].set 0 (.int .i64 ((fc t : Int) + 1))) = arr ops.length (fun j : Nat => cAll (outs.take i) j + cD (x.done.take (k + 1)) j) := by
   refine arr_set htl ?_ ?_
   ·rw [← hfc]
    simp only [cD_take hd, ht, if_true]; omega
   ·intro j hj
    rw [← hfc]
    simp only [cD_take hd, ht]
    rw [if_neg (by omega)]; omega
  rw [es] at S
  have S0 := S
  clear S
  have S := S0.boxSl (n := (arr ops.length fc).length) (x := false) (by rw [arr_len, arr_len]) (.inr (hne0 _))
  clear S0
  rw [← hvq] at S
  clear io hat
  have hva2 : SlR g14 1 va (intRows d.addrs) := hva.same (by omega) fun l i n e => by
   obtain ⟨h1, h2⟩ := hloc l i n e
   rw [k14 l h2, k13 l (by omega), E_g12.obj l h1]
  have hvl := hva2.lenF
  rw [intRows_len] at hvl
  have hcon : ∀ {g : IH}, Sp g (sl false 3 1 v9 (arr ops.length fun j => cAll (outs.take i) j + cD (x.done.take (k + 1)) j) :: box p12 (.rows [[.int .i64 (t : Int), .int .i64 d.code, va]] 40 3 false) :: dat (.slice 38 t_ResolveOut) [vg] (.list (outs.map ooD)) :: dat (.slice 38 t_ResolveOut) [vw] (.list (outs.map ooD)) :: all2 roR ro ops :: sl false 30 6 vo ro :: box p3 (cfgO vs first) :: ints vs servers :: [old h]) → Sp g (sl false 3 1 v9 (arr ops.length fun j => cAll (outs.take i) j + cD (x.done.take (k + 1)) j) :: dat (.slice 38 t_ResolveOut) [vg] (.list (outs.map ooD)) :: dat (.slice 38 t_ResolveOut) [vw] (.list (outs.map ooD)) :: all2 roR ro ops :: sl false 30 6 vo ro :: box p3 (cfgO vs first) :: ints vs servers :: [old h]) := by
   intro g S
   have S := by simpa only [mc0, mn0, List.getD_cons_zero, List.getD_cons_succ, ds0, dz0, ca0, na0] using Sp.sel S 2 [0] (by simp only [lc0]; omega) (by decide) (by decide)
   exact S
  rcases hans with ⟨a1, a2, a3⟩ | ⟨a1, a2⟩
  ·have d5 : decide (d.code = 0) = true := decide_eq_true a1
   have d6 : decide ((d.addrs.length : Int) = 0) = false := decide_eq_false (by intro e; exact a2 (List.length_eq_zero_iff.1 (by omega)))
   have w4 : wr .i64 ((i : Int) + 1) = ((i + 1 : Nat) : Int) := w1
   obtain ⟨vh, hsl, svh⟩ := (S.slA 5 rfl).hi (b := i + 1) (q := .i64) (by omega)
   have hsl' : slcF g14 6 vo none (some (.int .i64 ((i + 1 : Nat) : Int))) = some vh := hsl
   obtain ⟨vb, hro2, _⟩ := ro_at S 4 rfl hot
   obtain ⟨l4, j4, hia4, _, har4⟩ := (S.slA 5 rfl).at hro2 .i64
   unfold roRow at har4
   have hc4 := cellO_row har4
   have q1 := (S.bx 1 rfl).eq
   try simp (disch := (first | exact dA | fail)) only [q1, e4, e5, e7, e9, e10, e11, d5, hvl, d6, w1, hsl', Option.map_none, Option.map_some, hia4, hc4, go_sem, Nat.reduceBEq, Nat.reduceAdd, reduceIte]
   refine callA_of (lwHeard_c g14 vh va (ro.take (i + 1)) (ops.take (i + 1)) o.name d.addrs svh (by rw [List.length_take, List.length_take, hrol]) ?_ hva2 (by rw [List.length_take]; omega) (by have := hx4.1 d (List.mem_of_getElem? hd); omega) (fun o' ho' => (hosz o' (List.mem_of_mem_take ho')).2)) ?_
   ·intro i' o' ho'
    have hi' : i' < i + 1 := by
     have := (List.getElem?_eq_some_iff.1 ho').1
     rw [List.length_take] at this; omega
    rw [List.getElem?_take_of_lt hi'] at ho' ⊢
    exact ro_at S 4 rfl ho'
   rw [hnm, a3]
   rintro r15 g15 ⟨rfl, E15⟩
   have S := S.ext E15
   have q1 := (S.bx 1 rfl).eq
   try simp (disch := (first | exact dA | fail)) only [q1, e4, e5, e7, e9, e10, e11, d5, w2, go_sem, Nat.reduceBEq, Nat.reduceAdd, reduceIte]
   exact ⟨x.done.length - (k + 1), by omega, k + 1, v9, rfl, by omega, rfl, rfl, z9, hcon S⟩
  ·have d5 : decide (d.code = 0) = false := decide_eq_false a1
   have d6 : decide ((0 : Int) < (d.addrs.length : Int)) = false := decide_eq_false (by rw [a2]; simp)
   have q1 := (S.bx 1 rfl).eq
   try simp (disch := (first | exact dA | fail)) only [q1, e4, e5, e7, e9, e10, e11, d5, hvl, d6, Bool.not_false, w2, go_sem, Nat.reduceBEq, Nat.reduceAdd, reduceIte]
   exact ⟨x.done.length - (k + 1), by omega, k + 1, v9, rfl, by omega, rfl, rfl, z9, hcon S⟩
 ·have hi2 : i = outs.length := by omega
  subst hi2
  rw [List.take_length] at S
  clear sg lg cg hlg sw lw cw
  have hlo := (S.slA 4 rfl).lenF
  rw [hrol] at hlo
  try simp (disch := (first | exact dA | fail)) only [e4, e5, e7, e9, e10, hlo, go_sem, Nat.reduceBEq, Nat.reduceAdd, reduceIte]
  refine loop_at (fun m e g' => ∃ (i : Nat), m = ops.length - i ∧ i ≤ ops.length ∧ e 4 = vo ∧ e 5 = vw ∧ e 7 = vg ∧ e 9 = v9 ∧ e 13 = .int .i64 (i : Nat) ∧ g' = g) ops.length ?_ ?_
  ·refine ⟨0, by omega, by omega, ?_⟩
   try simp (disch := (first | exact dA | fail)) only [e4, e5, e7, e9, e10, go_sem, Nat.reduceBEq, Nat.reduceAdd, reduceIte]
   rfl
  clear e4 e5 e7 e9 e10 hlo
  rintro m e g ⟨i, rfl, hi, e4, e5, e7, e9, e13, rfl⟩
  have hlo := (S.slA 4 rfl).lenF
  rw [hrol] at hlo
  try simp (disch := (first | exact dA | fail)) only [e4, e5, e7, e9, e13, hlo, go_sem, Nat.reduceBEq, Nat.reduceAdd, reduceIte]
  refine test_dec (fun hb2 => ?_) (fun hb2 => ?_)
  ·obtain ⟨x, hx⟩ : ∃ x, outs[i]? = some x := ⟨_, List.getElem?_eq_getElem (by omega : i < outs.length)⟩
   obtain ⟨o, ho⟩ : ∃ o, ops[i]? = some o := ⟨_, List.getElem?_eq_getElem (by omega : i < ops.length)⟩
   have ht3 := t3 i o x ho hx
   obtain ⟨vb, hro2, _⟩ := ro_at S 3 rfl ho
   obtain ⟨l4, j4, hia4, _, har4⟩ := (S.slA 4 rfl).at hro2 .i64
   unfold roRow at har4
   have hc4 := cellO_row har4
   obtain ⟨rw_, sw, lw, cw⟩ := (oos_vw (S.vwA 2 rfl)).a
   obtain ⟨vx', vd', hri', _, _⟩ := cw i x hx
   obtain ⟨l5, j5, hia5, _, har5⟩ := sw.at hri' .i64
   unfold ooRow at har5
   have hc5 := cellO_row har5
   have hal := arr_at (fun j => cAll outs j) (by omega : i < ops.length)
   obtain ⟨l6, j6, hia6, _, har6⟩ := (S.slA 0 rfl).at hal .i64
   have w1 : wr .i64 ((i : Int) + 1) = ((i + 1 : Nat) : Int) := by rw [wr64 _ (by omega)]; rfl
   have hc6 := cellO_row har6
   rw [ht3] at hc6
   unfold askedB at hc6
   have n0e : ((0 : Nat) : Int) = 0 := rfl
   have n1e : ((1 : Nat) : Int) = 1 := rfl
   by_cases hk : o.kind = 1
   ·by_cases hy : x.code = 0
    ·simp only [hk, hy, decide_true, Bool.true_and, if_true, n1e] at hc6
     try simp (disch := (first | exact dA | fail)) only [e4, e5, e7, e9, e13, hia4, hc4, hk, hia5, hc5, hy, hia6, hc6, decide_true, Bool.not_true, w1, go_sem, Nat.reduceBEq, Nat.reduceAdd, reduceIte]
     exact ⟨ops.length - (i + 1), by omega, i + 1, rfl, by omega, rfl⟩
    ·have d4 : decide (x.code = 0) = false := decide_eq_false hy
     simp only [hk, d4, decide_true, Bool.true_and, Bool.false_eq_true, if_false, n0e] at hc6
     try simp (disch := (first | exact dA | fail)) only [e4, e5, e7, e9, e13, hia4, hc4, hk, hia5, hc5, d4, hia6, hc6, decide_true, Bool.not_true, Bool.not_false, w1, go_sem, Nat.reduceBEq, Nat.reduceAdd, reduceIte]
     exact ⟨ops.length - (i + 1), by omega, i + 1, rfl, by omega, rfl⟩
   ·have d3 : decide (o.kind = 1) = false := decide_eq_false hk
    simp only [d3, Bool.false_and, Bool.false_eq_true, if_false, n0e] at hc6
    try simp (disch := (first | exact dA | fail)) only [e4, e5, e7, e9, e13, hia4, hc4, d3, hia6, hc6, decide_true, Bool.not_true, Bool.not_false, w1, go_sem, Nat.reduceBEq, Nat.reduceAdd, reduceIte]
    exact ⟨ops.length - (i + 1), by omega, i + 1, rfl, by omega, rfl⟩
  ·clear hlo
   obtain ⟨ys, y, hys, hy0⟩ := t4
   have hyl : outs[ys.length]? = some y := by rw [hys]; simp
   have hye : outs.length = ys.length + 1 := by rw [hys]; simp
   obtain ⟨rg, sg, lg, cg⟩ := (oos_vw (S.vwA 1 rfl)).a
   have hlg := sg.lenF
   rw [lg] at hlg
   obtain ⟨vx, vd, hri, _, _⟩ := cg _ y hyl
   obtain ⟨l5, j5, hia5, _, har5⟩ := sg.at hri .i64
   unfold ooRow at har5
   have hc5 := cellO_row har5
   have w1 : wr .i64 ((outs.length : Int) - 1) = (ys.length : Int) := by rw [wr64 _ (by omega), hye]; simp
   try simp (disch := (first | exact dA | fail)) only [e4, e5, e7, e9, e13, hlg, w1, hia5, hc5, hy0, decide_true, go_sem, Nat.reduceBEq, Nat.reduceAdd, reduceIte]
end
end Go.Proofs.YtaoffieemecioaaDoor
