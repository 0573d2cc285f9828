import Derived.Test.YtaoffieemecioaaGreatDoorL3
import Derived.Test.YtaoffieemecioaaGreatDoorK3
import Derived.Test.YtaoffieemecioaaGreatDoorK2
import Derived.Test.YtaoffieemecioaaGreatDoorProg
import Derived.KernelRfl
set_option linter.unusedSimpArgs false
set_option linter.unusedVariables false
set_option maxRecDepth 20000
namespace Go.Proofs.YtaoffieemecioaaGreatDoor
open Go Go.IW
section
attribute [local go_sem] List.getElem?_cons_zero List.getElem?_cons_succ Option.bind_some List.map_cons List.map_nil Nat.zero_add if_true List.getD_cons_zero List.getD_cons_succ List.contains_cons List.contains_nil Bool.or_true Bool.true_or Bool.or_false Bool.false_or Bool.not_true Bool.not_false true_and and_true rowA_whole mid_get rowO_rows cellO_rows upd_ne Nat.add_assoc Nat.add_zero List.all_cons List.all_nil one_bool one_int one_str one_ptr one_nilptr one_slice one_eslice one_nilslice one_func one_iface one_niliface Bool.and_true Bool.and_self List.length_cons List.length_nil Nat.one_ne_zero Nat.succ_ne_zero if_false List.set_cons_zero List.set_cons_succ lay_nil lay_1 lay_w Option.map_some cells_one rowA_some List.drop_succ_cons List.drop_zero List.take_succ_cons List.take_zero

set_option maxHeartbeats 2000000 in
theorem tell_c {h : IH} {L : List As} {r : Nat} {vs : IV} {first ops code : Int} {st : Rs} (W : IS h r vs first ops st L) (hc : st.cache.length ≤ 32) :
    ICalls Tryz.prog 32 [.ptr r 0 0, .agg [.int .i64 code, .nilslice, .nilslice, .int .i64 0, .int .i64 0]] h fun x h' => ∃ vx vd rx rd vl vk rl rk, x = .agg [.int .i64 code, vx, vd, .int .i64 (freshS st).cache.length, .int .i64 st.l.length] ∧ vx.one = true ∧ vd.one = true ∧
      Sp h' (box r (rsO vs first st.now ops st.n vl vk .nilslice .nilslice) :: sl true 73 1 vl rl :: all2 quR rl st.l :: sl true 97 4 vk rk :: all2 kiR rk (freshS st).cache :: sl false 111 2 vx rx :: all2 sdR rx st.sent :: sl false 99 3 vd rd :: all2 dnR rd st.done :: L) := by
  refine icalls (.of ok32) (Nat.le_of_ble_eq_true rfl) ?_
  unfold c32
  obtain ⟨vl, vk, vx, vd, rl, rk, rx, rd, S⟩ := W
  try simp (disch := (first | omega | assumption | (simp only [lc0, ln0, la0]; first | done | omega) | (simp (disch := assumption) only [go_sem, one_as, Nat.reduceBEq]; done) | fail)) only [go_sem, Hold.p, HoldK.k, HoldL.K, HoldL.body, Nat.reduceBEq, Nat.reduceAdd, reduceIte]
  refine Sp.bxA S (by first | rfl | (rw [cells_one (by assumption)]; rfl)) (by first | rfl | simp (disch := assumption) only [go_sem, cells_one, one_as]) fun p3 g1 S E_g1 l_g1 => ?_
  try simp (disch := (first | omega | assumption | (simp only [lc0, ln0, la0]; first | done | omega) | (simp (disch := assumption) only [go_sem, one_as, Nat.reduceBEq]; done) | fail)) only [go_sem, Hold.p, HoldK.k, HoldL.K, HoldL.body, Nat.reduceBEq, Nat.reduceAdd, reduceIte]
  refine Sp.zero S fun p4 g2 S E_g2 l_g2 => ?_
  try simp (disch := (first | omega | assumption | (simp only [lc0, ln0, la0]; first | done | omega) | (simp (disch := assumption) only [go_sem, one_as, Nat.reduceBEq]; done) | fail)) only [go_sem, Hold.p, HoldK.k, HoldL.K, HoldL.body, Nat.reduceBEq, Nat.reduceAdd, reduceIte]
  have S := by simpa only [mc0, mn0, List.getD_cons_zero, List.getD_cons_succ, ds0, dz0, ca0, na0] using Sp.sel S 11 [2, 7, 8, 0, 1, 3, 4, 5, 6, 9, 10] (by simp only [lc0]; omega) (by decide) (by decide)
  refine callA_of (clean_c S (Nat.le_trans hc (by decide))) ?_
  clear S
  rintro r3 g3 ⟨vk3, rk3, S⟩
  have hfs : (freshS st).cache = freshK st.now st.cache := rfl
  rw [hfs]
  have hkl := a2_len S 2 rfl
  have hql := a2_len S 6 rfl
  generalize freshK st.now st.cache = ck at S hkl ⊢
  have z7 := (S.slA 7 rfl).one
  have z9 := (S.slA 9 rfl).one
  have q0 := (S.bx 0 rfl).eq
  have q3 := (S.bx 3 rfl).eq
  have q4 := (S.bx 4 rfl).eq
  try simp (disch := (first | omega | assumption | (simp only [lc0, ln0, la0]; first | done | omega) | (simp (disch := assumption) only [go_sem, one_as, Nat.reduceBEq]; done) | fail)) only [q0, q3, q4, z7, z9, go_sem, Hold.p, HoldK.k, HoldL.K, HoldL.body, Nat.reduceBEq, Nat.reduceAdd, reduceIte]
  refine st1_of (Nat.le_of_ble_eq_true rfl) (by first | rfl | assumption) fun g4 hg => ?_
  have l_g4 := n_set hg
  have S := S.set4 hg
  clear hg
  simp only [sz0, ss0, ts0, tz0, ds0, dz0, ca0, na0, Nat.reduceAdd] at S
  have q0 := (S.bx 0 rfl).eq
  have q3 := (S.bx 3 rfl).eq
  have q4 := (S.bx 4 rfl).eq
  try simp (disch := (first | omega | assumption | (simp only [lc0, ln0, la0]; first | done | omega) | (simp (disch := assumption) only [go_sem, one_as, Nat.reduceBEq]; done) | fail)) only [q0, q3, q4, z7, z9, go_sem, Hold.p, HoldK.k, HoldL.K, HoldL.body, Nat.reduceBEq, Nat.reduceAdd, reduceIte]
  refine st1_of (Nat.le_of_ble_eq_true rfl) (by first | rfl | assumption) fun g5 hg => ?_
  have l_g5 := n_set hg
  have S := S.set4 hg
  clear hg
  simp only [sz0, ss0, ts0, tz0, ds0, dz0, ca0, na0, Nat.reduceAdd] at S
  have q0 := (S.bx 0 rfl).eq
  have q3 := (S.bx 3 rfl).eq
  have q4 := (S.bx 4 rfl).eq
  try simp (disch := (first | omega | assumption | (simp only [lc0, ln0, la0]; first | done | omega) | (simp (disch := assumption) only [go_sem, one_as, Nat.reduceBEq]; done) | fail)) only [q0, q3, q4, z7, z9, go_sem, Hold.p, HoldK.k, HoldL.K, HoldL.body, Nat.reduceBEq, Nat.reduceAdd, reduceIte]
  refine st1_of (Nat.le_of_ble_eq_true rfl) (by first | rfl | assumption) fun g6 hg => ?_
  have l_g6 := n_set hg
  have S := S.set0 hg
  clear hg
  simp only [sz0, ss0, ts0, tz0, ds0, dz0, ca0, na0, Nat.reduceAdd] at S
  have q0 := (S.bx 0 rfl).eq
  have q3 := (S.bx 3 rfl).eq
  have q4 := (S.bx 4 rfl).eq
  try simp (disch := (first | omega | assumption | (simp only [lc0, ln0, la0]; first | done | omega) | (simp (disch := assumption) only [go_sem, one_as, Nat.reduceBEq]; done) | fail)) only [q0, q3, q4, z7, z9, go_sem, Hold.p, HoldK.k, HoldL.K, HoldL.body, Nat.reduceBEq, Nat.reduceAdd, reduceIte]
  refine st1_of (Nat.le_of_ble_eq_true rfl) (by first | rfl | assumption) fun g7 hg => ?_
  have l_g7 := n_set hg
  have S := S.set0 hg
  clear hg
  simp only [sz0, ss0, ts0, tz0, ds0, dz0, ca0, na0, Nat.reduceAdd] at S
  have q0 := (S.bx 0 rfl).eq
  have q3 := (S.bx 3 rfl).eq
  have q4 := (S.bx 4 rfl).eq
  have s1 := S.slA 1 rfl
  have len_s1 := s1.lenF
  have z1 := s1.one
  have s5 := S.slA 5 rfl
  have len_s5 := s5.lenF
  have z5 := s5.one
  try simp (disch := (first | omega | assumption | (simp only [lc0, ln0, la0]; first | done | omega) | (simp (disch := assumption) only [go_sem, one_as, Nat.reduceBEq]; done) | fail)) only [q0, q3, q4, len_s1, z1, len_s5, z5, hkl, hql, go_sem, Hold.p, HoldK.k, HoldL.K, HoldL.body, Nat.reduceBEq, Nat.reduceAdd, reduceIte]
  refine st1_of (Nat.le_of_ble_eq_true rfl) (by first | rfl | assumption) fun g8 hg => ?_
  have l_g8 := n_set hg
  have S := S.set4 hg
  clear hg
  simp only [sz0, ss0, ts0, tz0, ds0, dz0, ca0, na0, Nat.reduceAdd] at S
  have q0 := (S.bx 0 rfl).eq
  have q3 := (S.bx 3 rfl).eq
  have q4 := (S.bx 4 rfl).eq
  have s5 := S.slA 5 rfl
  have len_s5 := s5.lenF
  have z5 := s5.one
  try simp (disch := (first | omega | assumption | (simp only [lc0, ln0, la0]; first | done | omega) | (simp (disch := assumption) only [go_sem, one_as, Nat.reduceBEq]; done) | fail)) only [q0, q3, q4, len_s5, z5, hkl, hql, go_sem, Hold.p, HoldK.k, HoldL.K, HoldL.body, Nat.reduceBEq, Nat.reduceAdd, reduceIte]
  refine st1_of (Nat.le_of_ble_eq_true rfl) (by first | rfl | assumption) fun g9 hg => ?_
  have l_g9 := n_set hg
  have S := S.set4 hg
  clear hg
  simp only [sz0, ss0, ts0, tz0, ds0, dz0, ca0, na0, Nat.reduceAdd] at S
  have q0 := (S.bx 0 rfl).eq
  have q3 := (S.bx 3 rfl).eq
  have q4 := (S.bx 4 rfl).eq
  try simp (disch := (first | omega | assumption | (simp only [lc0, ln0, la0]; first | done | omega) | (simp (disch := assumption) only [go_sem, one_as, Nat.reduceBEq]; done) | fail)) only [q0, q3, q4, z7, z9, go_sem, Hold.p, HoldK.k, HoldL.K, HoldL.body, Nat.reduceBEq, Nat.reduceAdd, reduceIte]
  refine stw_of rfl rfl (by first | rfl | simp (disch := assumption) only [go_sem, cells_one, one_as]) fun g10 hg => ?_
  have l_g10 := n_set hg
  have S := S.set3 hg
  clear hg
  have q0 := (S.bx 0 rfl).eq
  have q3 := (S.bx 3 rfl).eq
  have q4 := (S.bx 4 rfl).eq
  try simp (disch := (first | omega | assumption | (simp only [lc0, ln0, la0]; first | done | omega) | (simp (disch := assumption) only [go_sem, one_as, Nat.reduceBEq]; done) | fail)) only [q0, q3, q4, z7, z9, go_sem, Hold.p, HoldK.k, HoldL.K, HoldL.body, Nat.reduceBEq, Nat.reduceAdd, reduceIte]
  refine ⟨vx, vd, rx, rd, vl, vk3, rl, rk3, rfl, z9, z7, ?_⟩
  have S := by simpa only [mc0, mn0, List.getD_cons_zero, List.getD_cons_succ, ds0, dz0, ca0, na0] using Sp.sel S 11 [0, 5, 6, 1, 2, 9, 10, 7, 8] (by simp only [lc0]; omega) (by decide) (by decide)
  exact S
def kindA (a : Int) : Int := if okAddr a = false then 0 else if a = 0 then 1 else if a.fdiv (2 ^ 24) = 127 then 2 else if a = 4294967295 then 4 else if a.fdiv (2 ^ 28) = 14 then 3 else if a.fdiv (2 ^ 28) = 15 then 5 else 6
theorem shr24 (a : Int) : ibin .shr (.int .i64 a) (.int .u64 24) = some (.int .i64 (a.fdiv (2 ^ 24))) := ib_shr (k := .i64) (a := a) (b := 24) .u64 (by decide)
theorem shr28 (a : Int) : ibin .shr (.int .i64 a) (.int .u64 28) = some (.int .i64 (a.fdiv (2 ^ 28))) := ib_shr (k := .i64) (a := a) (b := 28) .u64 (by decide)
theorem specAddrKind_c (h : IH) (a : Int) : ICalls Tryz.prog 20 [.int .i64 a] h fun r h' => r = .int .i64 (kindA a) ∧ h' = h := by
  refine icalls (.of ok20) (Nat.le_of_ble_eq_true rfl) ?_
  unfold c20 kindA
  try simp (disch := (first | omega | assumption | (simp only [lc0, ln0, la0]; first | done | omega) | (simp (disch := assumption) only [go_sem, one_as, Nat.reduceBEq]; done) | fail)) only [go_sem, Hold.p, HoldK.k, HoldL.K, HoldL.body, Nat.reduceBEq, Nat.reduceAdd, reduceIte]
  refine callA_of (l02AddrOK_c _ a) ?_
  rintro r g1 ⟨rfl, rfl⟩
  have t1 := shr24 a
  have t2 := shr28 a
  cases c1 : okAddr a
  · skip
    try simp (disch := (first | omega | assumption | (simp only [lc0, ln0, la0]; first | done | omega) | (simp (disch := assumption) only [go_sem, one_as, Nat.reduceBEq]; done) | fail)) only [go_sem, Hold.p, HoldK.k, HoldL.K, HoldL.body, Nat.reduceBEq, Nat.reduceAdd, reduceIte]
  · rw [if_neg (by decide)]
    by_cases c2 : a = 0
    · have d2 : decide (a = 0) = true := decide_eq_true c2
      try simp (disch := (first | omega | assumption | (simp only [lc0, ln0, la0]; first | done | omega) | (simp (disch := assumption) only [go_sem, one_as, Nat.reduceBEq]; done) | fail)) only [d2, go_sem, Hold.p, HoldK.k, HoldL.K, HoldL.body, Nat.reduceBEq, Nat.reduceAdd, reduceIte]
      rw [if_pos c2]
    have d2 : decide (a = 0) = false := decide_eq_false c2
    rw [if_neg c2]
    by_cases c3 : a.fdiv (2 ^ 24) = 127
    · have d3 : decide (a.fdiv (2 ^ 24) = 127) = true := decide_eq_true c3
      try simp (disch := (first | omega | assumption | (simp only [lc0, ln0, la0]; first | done | omega) | (simp (disch := assumption) only [go_sem, one_as, Nat.reduceBEq]; done) | fail)) only [d2, t1, d3, go_sem, Hold.p, HoldK.k, HoldL.K, HoldL.body, Nat.reduceBEq, Nat.reduceAdd, reduceIte]
      rw [if_pos c3]
    have d3 : decide (a.fdiv (2 ^ 24) = 127) = false := decide_eq_false c3
    rw [if_neg c3]
    by_cases c4 : a = 4294967295
    · have d4 : decide (a = 4294967295) = true := decide_eq_true c4
      try simp (disch := (first | omega | assumption | (simp only [lc0, ln0, la0]; first | done | omega) | (simp (disch := assumption) only [go_sem, one_as, Nat.reduceBEq]; done) | fail)) only [d2, t1, d3, d4, go_sem, Hold.p, HoldK.k, HoldL.K, HoldL.body, Nat.reduceBEq, Nat.reduceAdd, reduceIte]
      rw [if_pos c4]
    have d4 : decide (a = 4294967295) = false := decide_eq_false c4
    rw [if_neg c4]
    by_cases c5 : a.fdiv (2 ^ 28) = 14
    · have d5 : decide (a.fdiv (2 ^ 28) = 14) = true := decide_eq_true c5
      try simp (disch := (first | omega | assumption | (simp only [lc0, ln0, la0]; first | done | omega) | (simp (disch := assumption) only [go_sem, one_as, Nat.reduceBEq]; done) | fail)) only [d2, t1, t2, d3, d4, d5, go_sem, Hold.p, HoldK.k, HoldL.K, HoldL.body, Nat.reduceBEq, Nat.reduceAdd, reduceIte]
      rw [if_pos c5]
    have d5 : decide (a.fdiv (2 ^ 28) = 14) = false := decide_eq_false c5
    rw [if_neg c5]
    by_cases c6 : a.fdiv (2 ^ 28) = 15
    · have d6 : decide (a.fdiv (2 ^ 28) = 15) = true := decide_eq_true c6
      try simp (disch := (first | omega | assumption | (simp only [lc0, ln0, la0]; first | done | omega) | (simp (disch := assumption) only [go_sem, one_as, Nat.reduceBEq]; done) | fail)) only [d2, t1, t2, d3, d4, d5, d6, go_sem, Hold.p, HoldK.k, HoldL.K, HoldL.body, Nat.reduceBEq, Nat.reduceAdd, reduceIte]
      rw [if_pos c6]
    have d6 : decide (a.fdiv (2 ^ 28) = 15) = false := decide_eq_false c6
    rw [if_neg c6]
    try simp (disch := (first | omega | assumption | (simp only [lc0, ln0, la0]; first | done | omega) | (simp (disch := assumption) only [go_sem, one_as, Nat.reduceBEq]; done) | fail)) only [d2, t1, t2, d3, d4, d5, d6, go_sem, Hold.p, HoldK.k, HoldL.K, HoldL.body, Nat.reduceBEq, Nat.reduceAdd, reduceIte]
theorem implAddrKind_c (h : IH) (a : Int) : ICalls Tryz.prog 54 [.int .i64 a] h fun r h' => r = .int .i64 (kindA a) ∧ h' = h := by
  refine icalls (.of ok54) (Nat.le_of_ble_eq_true rfl) ?_
  unfold c54 kindA
  try simp (disch := (first | omega | assumption | (simp only [lc0, ln0, la0]; first | done | omega) | (simp (disch := assumption) only [go_sem, one_as, Nat.reduceBEq]; done) | fail)) only [go_sem, Hold.p, HoldK.k, HoldL.K, HoldL.body, Nat.reduceBEq, Nat.reduceAdd, reduceIte]
  refine callA_of (isAddr_c _ a) ?_
  rintro r g1 ⟨rfl, rfl⟩
  have t1 := shr24 a
  have t2 := shr28 a
  cases c1 : okAddr a
  · skip
    try simp (disch := (first | omega | assumption | (simp only [lc0, ln0, la0]; first | done | omega) | (simp (disch := assumption) only [go_sem, one_as, Nat.reduceBEq]; done) | fail)) only [go_sem, Hold.p, HoldK.k, HoldL.K, HoldL.body, Nat.reduceBEq, Nat.reduceAdd, reduceIte]
  · rw [if_neg (by decide)]
    by_cases c2 : a = 0
    · have d2 : decide (a = 0) = true := decide_eq_true c2
      try simp (disch := (first | omega | assumption | (simp only [lc0, ln0, la0]; first | done | omega) | (simp (disch := assumption) only [go_sem, one_as, Nat.reduceBEq]; done) | fail)) only [d2, go_sem, Hold.p, HoldK.k, HoldL.K, HoldL.body, Nat.reduceBEq, Nat.reduceAdd, reduceIte]
      rw [if_pos c2]
    have d2 : decide (a = 0) = false := decide_eq_false c2
    rw [if_neg c2]
    by_cases c3 : a.fdiv (2 ^ 24) = 127
    · have d3 : decide (a.fdiv (2 ^ 24) = 127) = true := decide_eq_true c3
      try simp (disch := (first | omega | assumption | (simp only [lc0, ln0, la0]; first | done | omega) | (simp (disch := assumption) only [go_sem, one_as, Nat.reduceBEq]; done) | fail)) only [d2, t1, d3, go_sem, Hold.p, HoldK.k, HoldL.K, HoldL.body, Nat.reduceBEq, Nat.reduceAdd, reduceIte]
      rw [if_pos c3]
    have d3 : decide (a.fdiv (2 ^ 24) = 127) = false := decide_eq_false c3
    rw [if_neg c3]
    by_cases c4 : a = 4294967295
    · have d4 : decide (a = 4294967295) = true := decide_eq_true c4
      have d5 : decide (a.fdiv (2 ^ 28) = 14) = false := decide_eq_false (by rw [c4]; decide)
      try simp (disch := (first | omega | assumption | (simp only [lc0, ln0, la0]; first | done | omega) | (simp (disch := assumption) only [go_sem, one_as, Nat.reduceBEq]; done) | fail)) only [d2, t1, t2, d3, d4, d5, go_sem, Hold.p, HoldK.k, HoldL.K, HoldL.body, Nat.reduceBEq, Nat.reduceAdd, reduceIte]
      rw [if_pos c4]
    have d4 : decide (a = 4294967295) = false := decide_eq_false c4
    rw [if_neg c4]
    by_cases c5 : a.fdiv (2 ^ 28) = 14
    · have d5 : decide (a.fdiv (2 ^ 28) = 14) = true := decide_eq_true c5
      try simp (disch := (first | omega | assumption | (simp only [lc0, ln0, la0]; first | done | omega) | (simp (disch := assumption) only [go_sem, one_as, Nat.reduceBEq]; done) | fail)) only [d2, t1, t2, d3, d4, d5, go_sem, Hold.p, HoldK.k, HoldL.K, HoldL.body, Nat.reduceBEq, Nat.reduceAdd, reduceIte]
      rw [if_pos c5]
    have d5 : decide (a.fdiv (2 ^ 28) = 14) = false := decide_eq_false c5
    rw [if_neg c5]
    by_cases c6 : a.fdiv (2 ^ 28) = 15
    · have d6 : decide (a.fdiv (2 ^ 28) = 15) = true := decide_eq_true c6
      try simp (disch := (first | omega | assumption | (simp only [lc0, ln0, la0]; first | done | omega) | (simp (disch := assumption) only [go_sem, one_as, Nat.reduceBEq]; done) | fail)) only [d2, t1, t2, d3, d4, d5, d6, go_sem, Hold.p, HoldK.k, HoldL.K, HoldL.body, Nat.reduceBEq, Nat.reduceAdd, reduceIte]
      rw [if_pos c6]
    have d6 : decide (a.fdiv (2 ^ 28) = 15) = false := decide_eq_false c6
    rw [if_neg c6]
    try simp (disch := (first | omega | assumption | (simp only [lc0, ln0, la0]; first | done | omega) | (simp (disch := assumption) only [go_sem, one_as, Nat.reduceBEq]; done) | fail)) only [d2, t1, t2, d3, d4, d5, d6, go_sem, Hold.p, HoldK.k, HoldL.K, HoldL.body, Nat.reduceBEq, Nat.reduceAdd, reduceIte]
def okCfg (servers : List Int) (first : Int) : Bool := (decide (1 ≤ servers.length) && decide (servers.length ≤ 4)) && (decide (0 ≤ first) && decide (first ≤ 65535)) && servers.all (fun a => decide (kindA a = 6))
theorem newResolver_c {h : IH} {L : List As} {vs : IV} {servers : List Int} {first : Int} (S : Sp h L) (hs : SlR h 1 vs (intRows servers)) (hm : servers.length ≤ 1048576) :
    ICalls Tryz.prog 25 [.agg [vs, .int .i64 first]] h fun x h' => ∃ r vs', x = .ptr r 0 0 ∧ Sp h' (box r (rsO vs' first 0 0 0 .nilslice .nilslice .nilslice .nilslice) :: ints vs' servers :: L) := by
  refine icalls (.of ok25) (Nat.le_of_ble_eq_true rfl) ?_
  unfold c25
  have y1 := hs.one
  try simp (disch := (first | omega | assumption | (simp only [lc0, ln0, la0]; first | done | omega) | (simp (disch := assumption) only [go_sem, one_as, Nat.reduceBEq]; done) | fail)) only [y1, go_sem, Hold.p, HoldK.k, HoldL.K, HoldL.body, Nat.reduceBEq, Nat.reduceAdd, reduceIte]
  refine Sp.bxA S (by first | rfl | (rw [cells_one (by assumption)]; rfl)) (by first | rfl | simp (disch := assumption) only [go_sem, cells_one, one_as]) fun p1 g1 S E_g1 l_g1 => ?_
  have q0 := (S.bx 0 rfl).eq
  try simp (disch := (first | omega | assumption | (simp only [lc0, ln0, la0]; first | done | omega) | (simp (disch := assumption) only [go_sem, one_as, Nat.reduceBEq]; done) | fail)) only [q0, y1, go_sem, Hold.p, HoldK.k, HoldL.K, HoldL.body, Nat.reduceBEq, Nat.reduceAdd, reduceIte]
  refine callA_of (cloneI_c S vs (intRows servers) (hs.ext E_g1) (by rw [intRows_len]; exact hm)) ?_
  clear S
  rintro v2 g2 ⟨y2, S⟩
  have q1 := (S.bx 1 rfl).eq
  try simp (disch := (first | omega | assumption | (simp only [lc0, ln0, la0]; first | done | omega) | (simp (disch := assumption) only [go_sem, one_as, Nat.reduceBEq]; done) | fail)) only [q1, y2, go_sem, Hold.p, HoldK.k, HoldL.K, HoldL.body, Nat.reduceBEq, Nat.reduceAdd, reduceIte]
  refine st1_of (Nat.le_of_ble_eq_true rfl) (by first | rfl | assumption) fun g3 hg => ?_
  have l_g3 := n_set hg
  have S := S.set1 hg
  clear hg
  simp only [sz0, ss0, ts0, tz0, ds0, dz0, ca0, na0, Nat.reduceAdd] at S
  have q1 := (S.bx 1 rfl).eq
  try simp (disch := (first | omega | assumption | (simp only [lc0, ln0, la0]; first | done | omega) | (simp (disch := assumption) only [go_sem, one_as, Nat.reduceBEq]; done) | fail)) only [q1, y2, ca0, na0, lay_p, go_sem, Hold.p, HoldK.k, HoldL.K, HoldL.body, Nat.reduceBEq, Nat.reduceAdd, reduceIte]
  refine Sp.bxA S (by first | rfl | (rw [cells_one (by assumption)]; rfl)) (by first | rfl | simp (disch := assumption) only [go_sem, cells_one, one_as]) fun p9 g9 S E_g9 l_g9 => ?_
  try simp (disch := (first | omega | assumption | (simp only [lc0, ln0, la0]; first | done | omega) | (simp (disch := assumption) only [go_sem, one_as, Nat.reduceBEq]; done) | fail)) only [go_sem, Hold.p, HoldK.k, HoldL.K, HoldL.body, Nat.reduceBEq, Nat.reduceAdd, reduceIte]
  refine ⟨p9, v2, rfl, ?_⟩
  have S := by simpa only [mc0, mn0, List.getD_cons_zero, List.getD_cons_succ, ds0, dz0, ca0, na0] using Sp.sel S 3 [0, 1] (by simp only [lc0]; omega) (by decide) (by decide)
  exact S
end
end Go.Proofs.YtaoffieemecioaaGreatDoor

set_option maxRecDepth 20000
namespace Go.Proofs.YtaoffieemecioaaGreatDoor
open Go Go.IW
section
attribute [local go_sem] List.getElem?_cons_zero List.getElem?_cons_succ Option.bind_some List.map_cons List.map_nil Nat.zero_add if_true List.getD_cons_zero List.getD_cons_succ List.contains_cons List.contains_nil Bool.or_true Bool.true_or Bool.or_false Bool.false_or Bool.not_true Bool.not_false true_and and_true rowA_whole mid_get rowO_rows cellO_rows upd_ne Nat.add_assoc Nat.add_zero List.all_cons List.all_nil one_bool one_int one_str one_ptr one_nilptr one_slice one_eslice one_nilslice one_func one_iface one_niliface Bool.and_true Bool.and_self List.length_cons List.length_nil Nat.one_ne_zero Nat.succ_ne_zero if_false List.set_cons_zero List.set_cons_succ lay_nil lay_1 lay_w Option.map_some cells_one rowA_some List.drop_succ_cons List.drop_zero List.take_succ_cons List.take_zero

def hostB (a : Int) : Bool := decide (kindA a = 6)
theorem notHost_c (h : IH) (n : Int) : ICalls Tryz.prog 53 [.int .i64 n] h fun r h' => r = .bool (!hostB n) ∧ h' = h := by
  refine icalls (.of ok53) (Nat.le_of_ble_eq_true rfl) ?_
  unfold c53
  try simp (disch := (first | omega | assumption | (simp only [lc0, ln0, la0]; first | done | omega) | (simp (disch := assumption) only [go_sem, one_as, Nat.reduceBEq]; done) | fail)) only [go_sem, Hold.p, HoldK.k, HoldL.K, HoldL.body, Nat.reduceBEq, Nat.reduceAdd, reduceIte]
  refine callA_of (implAddrKind_c h n) ?_
  rintro r h' ⟨rfl, rfl⟩
  try simp (disch := (first | omega | assumption | (simp only [lc0, ln0, la0]; first | done | omega) | (simp (disch := assumption) only [go_sem, one_as, Nat.reduceBEq]; done) | fail)) only [go_sem, Hold.p, HoldK.k, HoldL.K, HoldL.body, Nat.reduceBEq, Nat.reduceAdd, reduceIte]
  rfl
theorem indexNo_c (h : IH) (v : IV) (zs : List Int) (hs : SlR h 1 v (intRows zs)) (hm : zs.length ≤ 1048576) :
    ICalls Tryz.prog 74 [v, .func 53 [] []] h fun r h' => (∃ n : Int, r = .int .i64 n ∧ decide (0 ≤ n) = !zs.all hostB) ∧ h' = h := by
  refine icalls (.of ok74) (Nat.le_of_ble_eq_true rfl) ?_
  unfold c74
  have hlen := hs.lenF
  rw [intRows_len] at hlen
  try simp (disch := (first | omega | assumption | (simp only [lc0, ln0, la0]; first | done | omega) | (simp (disch := assumption) only [go_sem, one_as, Nat.reduceBEq]; done) | fail)) only [hlen, go_sem, Hold.p, HoldK.k, HoldL.K, HoldL.body, Nat.reduceBEq, Nat.reduceAdd, reduceIte]
  refine loop_at (fun n e h' => ∃ k, n = zs.length - k ∧ k ≤ zs.length ∧ e 0 = v ∧ e 1 = .func 53 [] [] ∧ e 7 = .int .i64 (zs.length : Nat) ∧ e 8 = .int .i64 (k : Nat) ∧ (zs.take k).all hostB = true ∧ h' = h) zs.length ?_ ?_
  · refine ⟨0, by omega, by omega, ?_⟩
    try simp (disch := (first | omega | assumption | (simp only [lc0, ln0, la0]; first | done | omega) | (simp (disch := assumption) only [go_sem, one_as, Nat.reduceBEq]; done) | fail)) only [go_sem, Hold.p, HoldK.k, HoldL.K, HoldL.body, Nat.reduceBEq, Nat.reduceAdd, reduceIte]
    exact rfl
  · rintro n e h' ⟨k, rfl, hk, e0, e1, e7, e8, hok, rfl⟩
    try simp (disch := (first | omega | assumption | (simp only [lc0, ln0, la0]; first | done | omega) | (simp (disch := assumption) only [go_sem, one_as, Nat.reduceBEq]; done) | fail)) only [e0, e1, e7, e8, go_sem, Hold.p, HoldK.k, HoldL.K, HoldL.body, Nat.reduceBEq, Nat.reduceAdd, reduceIte]
    refine test_dec (fun hb => ?_) (fun hb => ?_)
    · obtain ⟨p, hkp⟩ : ∃ p, zs[k]? = some p := ⟨_, List.getElem?_eq_getElem (by omega : k < zs.length)⟩
      obtain ⟨l, j, hia, hll, hrow⟩ := hs.at (m := k) (intRows_at hkp) .i64
      have hc := cellO_row hrow
      have w1 : wr .i64 ((k : Int) + 1) = ((k + 1 : Nat) : Int) := by rw [wr64 _ (by omega)]; rfl
      try simp (disch := (first | omega | assumption | (simp only [lc0, ln0, la0]; first | done | omega) | (simp (disch := assumption) only [go_sem, one_as, Nat.reduceBEq]; done) | fail)) only [e0, e1, e7, e8, hia, hc, na0, List.append_nil, go_sem, Hold.p, HoldK.k, HoldL.K, HoldL.body, Nat.reduceBEq, Nat.reduceAdd, reduceIte]
      refine callA_of (notHost_c _ p) ?_
      rintro r h2 ⟨rfl, rfl⟩
      cases hp : hostB p
      · skip
        try simp (disch := (first | omega | assumption | (simp only [lc0, ln0, la0]; first | done | omega) | (simp (disch := assumption) only [go_sem, one_as, Nat.reduceBEq]; done) | fail)) only [e8, go_sem, Hold.p, HoldK.k, HoldL.K, HoldL.body, Nat.reduceBEq, Nat.reduceAdd, reduceIte]
        refine ⟨_, rfl, ?_⟩
        have : zs.all hostB = false := by
          rw [List.all_eq_false]
          exact ⟨p, List.mem_of_getElem? hkp, by rw [hp]; decide⟩
        rw [this]
        exact decide_eq_true (by omega)
      · skip
        try simp (disch := (first | omega | assumption | (simp only [lc0, ln0, la0]; first | done | omega) | (simp (disch := assumption) only [go_sem, one_as, Nat.reduceBEq]; done) | fail)) only [e0, e1, e7, e8, w1, go_sem, Hold.p, HoldK.k, HoldL.K, HoldL.body, Nat.reduceBEq, Nat.reduceAdd, reduceIte]
        refine ⟨zs.length - (k + 1), by omega, k + 1, rfl, by omega, rfl, ?_⟩
        rw [take_snoc hkp, List.all_append, hok]
        simp [hp]
    · obtain rfl : k = zs.length := by omega
      rw [List.take_length] at hok
      try simp (disch := (first | omega | assumption | (simp only [lc0, ln0, la0]; first | done | omega) | (simp (disch := assumption) only [go_sem, one_as, Nat.reduceBEq]; done) | fail)) only [go_sem, Hold.p, HoldK.k, HoldL.K, HoldL.body, Nat.reduceBEq, Nat.reduceAdd, reduceIte]
      exact ⟨-1, rfl, by rw [hok]; rfl⟩
theorem containsNo_c (h : IH) (v : IV) (zs : List Int) (hs : SlR h 1 v (intRows zs)) (hm : zs.length ≤ 1048576) :
    ICalls Tryz.prog 52 [v, .func 53 [] []] h fun r h' => r = .bool (!zs.all hostB) ∧ h' = h := by
  refine icalls (.of ok52) (Nat.le_of_ble_eq_true rfl) ?_
  unfold c52
  try simp (disch := (first | omega | assumption | (simp only [lc0, ln0, la0]; first | done | omega) | (simp (disch := assumption) only [go_sem, one_as, Nat.reduceBEq]; done) | fail)) only [go_sem, Hold.p, HoldK.k, HoldL.K, HoldL.body, Nat.reduceBEq, Nat.reduceAdd, reduceIte]
  refine callA_of (indexNo_c h v zs hs hm) ?_
  rintro r h' ⟨⟨n, rfl, hn⟩, rfl⟩
  try simp (disch := (first | omega | assumption | (simp only [lc0, ln0, la0]; first | done | omega) | (simp (disch := assumption) only [go_sem, one_as, Nat.reduceBEq]; done) | fail)) only [hn, go_sem, Hold.p, HoldK.k, HoldL.K, HoldL.body, Nat.reduceBEq, Nat.reduceAdd, reduceIte]
theorem okResolve_c (h : IH) (v : IV) (zs : List Int) (first : Int) (hs : SlR h 1 v (intRows zs)) (hm : zs.length ≤ 1048576) :
    ICalls Tryz.prog 24 [.agg [v, .int .i64 first]] h fun r h' => r = .bool (okCfg zs first) ∧ Ext h h' := by
  refine icalls (.of ok24) (Nat.le_of_ble_eq_true rfl) ?_
  unfold c24
  have y1 := hs.one
  have S := Sp.start h
  try simp (disch := (first | omega | assumption | (simp only [lc0, ln0, la0]; first | done | omega) | (simp (disch := assumption) only [go_sem, one_as, Nat.reduceBEq]; done) | fail)) only [y1, go_sem, Hold.p, HoldK.k, HoldL.K, HoldL.body, Nat.reduceBEq, Nat.reduceAdd, reduceIte]
  refine Sp.bxA S (by first | rfl | (rw [cells_one (by assumption)]; rfl)) (by first | rfl | simp (disch := assumption) only [go_sem, cells_one, one_as]) fun p1 g1 S E_g1 l_g1 => ?_
  have hs1 := hs.ext E_g1
  have hlen := hs1.lenF
  rw [intRows_len] at hlen
  have q0 := (S.bx 0 rfl).eq
  try simp (disch := (first | omega | assumption | (simp only [lc0, ln0, la0]; first | done | omega) | (simp (disch := assumption) only [go_sem, one_as, Nat.reduceBEq]; done) | fail)) only [q0, hlen, go_sem, Hold.p, HoldK.k, HoldL.K, HoldL.body, Nat.reduceBEq, Nat.reduceAdd, reduceIte]
  refine test_of (fun hc => ?_) (fun hc => ?_)
  · have he : okCfg zs first = false := by
      unfold okCfg
      simp only [Bool.or_eq_true, decide_eq_true_eq] at hc
      rcases hc with ((h1 | h1) | h1) | h1
      · rw [decide_eq_false (by omega : ¬ 1 ≤ zs.length)]; simp
      · rw [decide_eq_false (by omega : ¬ zs.length ≤ 4)]; simp
      · rw [decide_eq_false (by omega : ¬ 0 ≤ first)]; simp
      · rw [decide_eq_false (by omega : ¬ first ≤ 65535)]; simp
    rw [he]
    try simp (disch := (first | omega | assumption | (simp only [lc0, ln0, la0]; first | done | omega) | (simp (disch := assumption) only [go_sem, one_as, Nat.reduceBEq]; done) | fail)) only [go_sem, Hold.p, HoldK.k, HoldL.K, HoldL.body, Nat.reduceBEq, Nat.reduceAdd, reduceIte]
    exact E_g1
  · simp only [Bool.or_eq_false_iff, decide_eq_false_iff_not] at hc
    have q0 := (S.bx 0 rfl).eq
    try simp (disch := (first | omega | assumption | (simp only [lc0, ln0, la0]; first | done | omega) | (simp (disch := assumption) only [go_sem, one_as, Nat.reduceBEq]; done) | fail)) only [q0, y1, go_sem, Hold.p, HoldK.k, HoldL.K, HoldL.body, Nat.reduceBEq, Nat.reduceAdd, reduceIte]
    refine callA_of (containsNo_c g1 v zs hs1 hm) ?_
    rintro r g2 ⟨rfl, rfl⟩
    have he : okCfg zs first = zs.all hostB := by
      unfold okCfg
      rw [decide_eq_true (by omega : 1 ≤ zs.length), decide_eq_true (by omega : zs.length ≤ 4), decide_eq_true (by omega : 0 ≤ first), decide_eq_true (by omega : first ≤ 65535)]
      rfl
    rw [he]
    try simp (disch := (first | omega | assumption | (simp only [lc0, ln0, la0]; first | done | omega) | (simp (disch := assumption) only [go_sem, one_as, Nat.reduceBEq]; done) | fail)) only [Bool.not_not, go_sem, Hold.p, HoldK.k, HoldL.K, HoldL.body, Nat.reduceBEq, Nat.reduceAdd, reduceIte]
    exact E_g1

theorem fresh_idem (now : Int) (ks : List Kn) : freshK now (freshK now ks) = freshK now ks := by
  unfold freshK
  rw [List.filter_filter]
  congr 1
  funext k
  simp
theorem again_cache (first : Int) (servers : List Int) (st : Rs) (c : List Kn) (i : Nat) : againS first servers { st with cache := c } i = { againS first servers st i with cache := c } := by
  unfold againS
  simp only
  cases st.l[i]? with
  | none => rfl
  | some q =>
    simp only
    split <;> rfl
theorem again_now (first : Int) (servers : List Int) (st : Rs) (i : Nat) : (againS first servers st i).now = st.now ∧ (againS first servers st i).cache = st.cache := by
  unfold againS
  cases st.l[i]? with
  | none => exact ⟨rfl, rfl⟩
  | some q =>
    simp only
    split <;> exact ⟨rfl, rfl⟩
theorem want_both (first : Int) (servers : List Int) (t : Int) (name : Tx) (st : Rs) : freshS (wantI first servers t name st).1 = freshS (wantR first servers t name st).1 ∧ (wantI first servers t name st).2 = (wantR first servers t name st).2 := by
  have hf : st.cache.find? (fun k => decide (k.name = name) && decide (st.now < k.till)) = (freshK st.now st.cache).find? (fun k => decide (k.name = name)) := by
    unfold freshK
    rw [List.find?_filter]
    congr 1
    funext k
    rw [Bool.and_comm]
    rw [← Bool.decide_and]
    simp
  unfold wantI wantR
  rw [hf]
  cases (freshK st.now st.cache).find? (fun k => decide (k.name = name)) with
  | some k =>
    simp only [freshS, fresh_idem, and_self]
  | none =>
    simp only
    cases st.l.findIdx? (fun q => decide (q.name = name)) with
    | some i =>
      refine ⟨?_, rfl⟩
      simp only [freshS, fresh_idem] <;> rfl
    | none =>
      simp only
      split
      · simp only [freshS, fresh_idem, and_self]
      · refine ⟨?_, rfl⟩
        have h1 := again_cache first servers { st with l := st.l ++ [⟨name, 0, 0, 0, 0, [t]⟩] } (freshK st.now st.cache) st.l.length
        simp only at h1 ⊢
        rw [h1]
        obtain ⟨a, b⟩ := again_now first servers { st with l := st.l ++ [⟨name, 0, 0, 0, 0, [t]⟩] } st.l.length
        simp only [freshS, a, b, fresh_idem]
theorem keep_fresh {now : Int} {r : RepV} (h : ¬ 0 < r.ttl) (ck : List Kn) : keepK now r ck = ck := if_neg h
theorem hear_both (first : Int) (servers : List Int) (f p : Int) (bs : Tx) (st : Rs) : freshS (hearI first servers f p bs st) = freshS (hearR first servers f p bs st) := by
  unfold hearI hearR
  split
  · rfl
  · cases st.l.findIdx? (hearQ (decR bs).1 f) with
    | none => rfl
    | some i =>
      simp only
      split
      · simp only [freshS]
        split
        · rfl
        · rename_i h
          rw [keep_fresh h, fresh_idem] <;> rfl
      · rfl
def stepI (first : Int) (servers : List Int) (ticket : Int) (o : Ro) (st : Rs) : Rs × Int :=
  if o.kind = 1 ∧ okName o.name = true then wantI first servers ticket o.name st
    else if o.kind = 2 then (hearI first servers o.from_ o.port o.bytes st, 0)
    else if o.kind = 3 ∧ 0 ≤ o.wait ∧ o.wait ≤ 1000000000 - st.now then (passR first servers (st.now + o.wait) (mu st.l) st, 0)
    else (st, 1)
theorem step_both (first : Int) (servers : List Int) (ticket : Int) (o : Ro) (st : Rs) : (freshS (stepI first servers ticket o (rst st)).1, (stepI first servers ticket o (rst st)).2) = stepR first servers ticket o st := by
  unfold stepI stepR stepP
  split
  · obtain ⟨a, b⟩ := want_both first servers ticket o.name (rst st)
    rw [a, b]
  · split
    · simp only [hear_both]
    · split <;> rfl
end
end Go.Proofs.YtaoffieemecioaaGreatDoor

set_option maxRecDepth 20000
namespace Go.Proofs.YtaoffieemecioaaGreatDoor
open Go Go.IW

def intsD (zs : List Int) : Dat := .list (zs.map .int)
theorem intsL {S : Nat → Prop} {h : IH} : ∀ {rs : List (List IV)} {ds : List Dat}, All2 (Rp S h (.int .i64)) rs ds → ∃ zs : List Int, rs = intRows zs ∧ ds = zs.map .int
  | _, _, .nil => ⟨[], rfl, rfl⟩
  | _, _, .cons h1 h2 => by
    obtain ⟨n, rfl, rfl⟩ := h1
    obtain ⟨zs, rfl, rfl⟩ := intsL h2
    exact ⟨n :: zs, rfl, rfl⟩
theorem intsD_inj {a b : List Int} (h : intsD a = intsD b) : a = b := by
  unfold intsD at h
  simp only [Dat.list.injEq] at h
  exact (List.map_inj_right (fun x y e => by simpa using e)).1 h
def roD (o : Ro) : Dat := .pair (.int o.kind) (.pair (.int o.from_) (.pair (.int o.port) (.pair (.int o.wait) (.pair (.str o.name) (.pair (bytesD o.bytes) .unit)))))
theorem ro_rp {S : Nat → Prop} {h : IH} {cs : List IV} {d : Dat} (hv : Rp S h t_ResolveOp cs d) (hw : wfD t_ResolveOp d) : ∃ o vb, cs = roRow o vb ∧ d = roD o ∧ SlR h 1 vb (strRows o.bytes) := by
  obtain ⟨_, _, _, _, rfl, rfl, ⟨kind, rfl, rfl⟩, r0⟩ := hv
  obtain ⟨_, _, _, _, rfl, rfl, ⟨frm, rfl, rfl⟩, r1⟩ := r0
  obtain ⟨_, _, _, _, rfl, rfl, ⟨port, rfl, rfl⟩, r2⟩ := r1
  obtain ⟨_, _, _, _, rfl, rfl, ⟨wait, rfl, rfl⟩, r3⟩ := r2
  obtain ⟨_, _, _, _, rfl, rfl, ⟨name, rfl, rfl⟩, r4⟩ := r3
  obtain ⟨_, _, _, _, rfl, rfl, ⟨vb, rsb, dsb, rfl, rfl, hsb, hSb, hab⟩, r5⟩ := r4
  obtain ⟨rfl, rfl⟩ := r5
  obtain ⟨_, _, _, _, _, w6, _⟩ := hw
  obtain ⟨bs, rfl, rfl⟩ := bytesL hab w6
  exact ⟨⟨kind, frm, port, wait, name, bs⟩, vb, rfl, rfl, hsb⟩
theorem roD_inj {a b : Ro} (h : roD a = roD b) : a = b := by
  unfold roD at h
  simp only [Dat.pair.injEq, Dat.int.injEq, Dat.str.injEq, and_true] at h
  obtain ⟨h1, h2, h3, h4, h5, h6⟩ := h
  cases a; cases b
  simp only at h1 h2 h3 h4 h5 h6
  simp only [Ro.mk.injEq]
  exact ⟨h1, h2, h3, h4, h5, bytesD_inj h6⟩
structure RosAt (h : IH) (v : IV) (ops : List Ro) : Prop where
  sl : ∃ rs, SlR h 6 v rs ∧ rs.length = ops.length ∧ ∀ (i : Nat) (o : Ro), ops[i]? = some o → ∃ vb, rs[i]? = some (roRow o vb) ∧ SlR h 1 vb (strRows o.bytes)
theorem ros_l {S : Nat → Prop} {h : IH} : ∀ {rs : List (List IV)} {ds : List Dat}, All2 (Rp S h t_ResolveOp) rs ds → wfL t_ResolveOp ds → ∃ ops : List Ro, ds = ops.map roD ∧ rs.length = ops.length ∧ ∀ (i : Nat) (o : Ro), ops[i]? = some o → ∃ vb, rs[i]? = some (roRow o vb) ∧ SlR h 1 vb (strRows o.bytes)
  | _, _, .nil, _ => ⟨[], rfl, rfl, by simp⟩
  | _, _, .cons h1 h2, hw => by
    obtain ⟨o, vb, rfl, rfl, ha⟩ := ro_rp h1 hw.1
    obtain ⟨ops, rfl, hl, hat⟩ := ros_l h2 hw.2
    refine ⟨o :: ops, rfl, by simp [hl], fun i x hx => ?_⟩
    cases i with
    | zero => simp at hx; subst hx; exact ⟨vb, rfl, ha⟩
    | succ i => simpa using hat i x (by simpa using hx)
theorem ros_any {lo hi : Nat} {h : IH} {v : IV} {d : Dat} (hv : Vw lo hi h (.slice 59 t_ResolveOp) [v] d) (hw : wfD (.slice 59 t_ResolveOp) d) : ∃ ops, d = .list (ops.map roD) ∧ RosAt h v ops := by
  obtain ⟨v', rs, ds, e1, rfl, hs, hS, ha⟩ := hv
  obtain rfl := (List.cons.inj e1).1
  obtain ⟨ops, rfl, hl, hat⟩ := ros_l ha hw
  exact ⟨ops, rfl, ⟨rs, hs, hl, hat⟩⟩
theorem ros_vw {lo hi : Nat} {h : IH} {v : IV} {ops : List Ro} (hv : Vw lo hi h (.slice 59 t_ResolveOp) [v] (.list (ops.map roD))) (hw : wfD (.slice 59 t_ResolveOp) (.list (ops.map roD))) : RosAt h v ops := by
  obtain ⟨ops', hd, ha⟩ := ros_any hv hw
  have : ops.map roD = ops'.map roD := by simpa using hd
  have : ops = ops' := (List.map_inj_right fun x y e => roD_inj e).1 this
  subst this
  exact ha
theorem RosAt.ext {h h' : IH} {v : IV} {ops : List Ro} (a : RosAt h v ops) (E : Ext h h') : RosAt h' v ops := by
  obtain ⟨rs, h1, h2, h3⟩ := a.sl
  exact ⟨⟨rs, h1.ext E, h2, fun i o ho => by obtain ⟨vb, e, p⟩ := h3 i o ho; exact ⟨vb, e, p.ext E⟩⟩⟩
def cfgD (servers : List Int) (first : Int) : Dat := .pair (intsD servers) (.pair (.int first) .unit)
theorem cfg_any {lo hi : Nat} {h : IH} {cs : List IV} {d : Dat} (hv : Vw lo hi h t_ResolveConfig cs d) : ∃ vs servers first, cs = [vs, .int .i64 first] ∧ d = cfgD servers first ∧ SlR h 1 vs (intRows servers) := by
  obtain ⟨_, _, _, _, rfl, rfl, ⟨vs, rs, ds, rfl, rfl, hs, hS, ha⟩, r1⟩ := hv
  obtain ⟨_, _, _, _, rfl, rfl, ⟨first, rfl, rfl⟩, r2⟩ := r1
  obtain ⟨rfl, rfl⟩ := r2
  obtain ⟨zs, rfl, rfl⟩ := intsL ha
  exact ⟨vs, zs, first, rfl, rfl, hs⟩
theorem cfg_vw {lo hi : Nat} {h : IH} {cs : List IV} {servers : List Int} {first : Int} (hv : Vw lo hi h t_ResolveConfig cs (cfgD servers first)) : ∃ vs, cs = [vs, .int .i64 first] ∧ SlR h 1 vs (intRows servers) := by
  obtain ⟨vs, servers', first', rfl, hd, hs⟩ := cfg_any hv
  unfold cfgD at hd
  simp only [Dat.pair.injEq, Dat.int.injEq, and_true] at hd
  obtain rfl := intsD_inj hd.1
  obtain rfl := hd.2
  exact ⟨vs, rfl, hs⟩
structure Oo where
  code : Int
  sent : List Sd
  done : List Dn
  ent : Int
  ask : Int
def sdD (s : Sd) : Dat := .pair (.int s.server) (.pair (bytesD s.bytes) .unit)
def dnD (d : Dn) : Dat := .pair (.int d.ticket) (.pair (.int d.code) (.pair (intsD d.addrs) .unit))
def ooD (o : Oo) : Dat := .pair (.int o.code) (.pair (.list (o.sent.map sdD)) (.pair (.list (o.done.map dnD)) (.pair (.int o.ent) (.pair (.int o.ask) .unit))))
def ooRow (o : Oo) (vx vd : IV) : List IV := [.int .i64 o.code, vx, vd, .int .i64 o.ent, .int .i64 o.ask]
theorem ro_flat {α : Type} {t : Ty} {row : α → List IV} {df : α → Dat} {h : IH} {el : Nat} {v : IV} {xs : List α} {f : List Nat} (hx : ∀ x, _root_.Go.IW.Ro h t (row x) (df x) []) (hs : (sl false el t.sz v (xs.map row)).P h f) : _root_.Go.IW.Ro h (.slice el t) [v] (.list (xs.map df)) f := by
  have key : ∀ xs : List α, All3 (_root_.Go.IW.Ro h t) (xs.map row) (xs.map df) [] := by
    intro xs
    induction xs with
    | nil => exact .nil
    | cons x xs ih => exact .cons (f := []) (g := []) (hx x) ih
  rcases hs with ⟨h1, rfl, hv⟩ | ⟨l, h0, rfl, rfl, h3, h4⟩
  · obtain rfl : xs = [] := by simpa using h1
    exact ⟨v, [], rfl, rfl, .inl ⟨rfl, rfl, hv⟩⟩
  · have h0 : xs ≠ [] := by
      rintro rfl
      rcases h0 with h0 | h0
      · cases h0
      · exact h0 rfl
    exact ⟨_, _, rfl, rfl, .inr ⟨l, xs.map row, [], by simpa using h0, by simp, h3, h4, rfl, key xs⟩⟩
theorem ints_ro {h : IH} {v : IV} {zs : List Int} {f : List Nat} (hs : (ints v zs).P h f) : _root_.Go.IW.Ro h (.slice 2 (.int .i64)) [v] (intsD zs) f :=
  ro_flat (t := .int .i64) (row := fun z : Int => [IV.int .i64 z]) (df := fun z => .int z) (fun z => ⟨_, rfl, rfl, rfl⟩) hs
theorem byts_ro {h : IH} {v : IV} {bs : Tx} {f : List Nat} (hs : (byts v bs).P h f) : _root_.Go.IW.Ro h (.slice 5 (.int .u8)) [v] (bytesD bs) f :=
  ro_flat (t := .int .u8) (row := fun b : UInt8 => [IV.int .u8 (b.toNat : Int)]) (df := fun b => .int (b.toNat : Int)) (fun b => ⟨_, rfl, rfl, rfl⟩) hs
theorem sd_ro {h : IH} {r : List IV} {s : Sd} {f : List Nat} (hs : (sdR r s).P h f) : (dat t_ResolveSend r (sdD s)).P h f := by
  obtain ⟨vb, f1, f2, rfl, ⟨rfl, rfl, _⟩, h2⟩ := hs
  refine ⟨[_], [vb], _, _, [], f2, rfl, rfl, rfl, ⟨_, rfl, rfl, rfl⟩, ⟨[vb], [], _, _, f2, [], rfl, rfl, by simp, byts_ro h2, rfl, rfl, rfl⟩⟩
theorem dn_ro {h : IH} {r : List IV} {s : Dn} {f : List Nat} (hs : (dnR r s).P h f) : (dat t_ResolveDone r (dnD s)).P h f := by
  obtain ⟨vb, f1, f2, rfl, ⟨rfl, rfl, _⟩, h2⟩ := hs
  refine ⟨[_], [_, vb], _, _, [], f2, rfl, rfl, rfl, ⟨_, rfl, rfl, rfl⟩, ⟨[_], [vb], _, _, [], f2, rfl, rfl, rfl, ⟨_, rfl, rfl, rfl⟩, ⟨[vb], [], _, _, f2, [], rfl, rfl, by simp, ints_ro h2, rfl, rfl, rfl⟩⟩⟩
theorem oo_dat {h : IH} {L : List As} {o : Oo} {vx vd : IV} {rx rd : List (List IV)} (S : Sp h (sl false 111 2 vx rx :: all2 sdR rx o.sent :: sl false 99 3 vd rd :: all2 dnR rd o.done :: L)) : Sp h (dat t_ResolveOut (ooRow o vx vd) (ooD o) :: L) := by
  have S := by simpa only [mc0, mn0, List.getD_cons_zero, List.getD_cons_succ, ds0, dz0, ca0, na0] using Sp.sel S 4 [3, 2, 1, 0] (by simp only [lc0]; omega) (by decide) (by decide)
  have S := Sp.a2imp (R' := dat t_ResolveDone) (t := dnD) (fun _ _ _ => dn_ro) S
  have S := by simpa only [mc0, mn0, List.getD_cons_zero, List.getD_cons_succ, ds0, dz0, ca0, na0] using Sp.sel S 4 [1, 0, 2, 3] (by simp only [lc0]; omega) (by decide) (by decide)
  have S := Sp.slD (t := t_ResolveDone) S
  have S := by simpa only [mc0, mn0, List.getD_cons_zero, List.getD_cons_succ, ds0, dz0, ca0, na0] using Sp.sel S 3 [1, 2, 0] (by simp only [lc0]; omega) (by decide) (by decide)
  have S := Sp.a2imp (R' := dat t_ResolveSend) (t := sdD) (fun _ _ _ => sd_ro) S
  have S := Sp.slD (t := t_ResolveSend) S.p1
  have S := ((S.p1.dunit).icat (k := .i64) (n := o.ask)).icat (k := .i64) (n := o.ent)
  exact ((S.p1.dcat).p1.dcat).icat
end Go.Proofs.YtaoffieemecioaaGreatDoor

set_option maxRecDepth 20000
namespace Go.Proofs.YtaoffieemecioaaGreatDoor
open Go Go.IW
section
attribute [local go_sem] List.getElem?_cons_zero List.getElem?_cons_succ Option.bind_some List.map_cons List.map_nil Nat.zero_add if_true List.getD_cons_zero List.getD_cons_succ List.contains_cons List.contains_nil Bool.or_true Bool.true_or Bool.or_false Bool.false_or Bool.not_true Bool.not_false true_and and_true rowA_whole mid_get rowO_rows cellO_rows upd_ne Nat.add_assoc Nat.add_zero List.all_cons List.all_nil one_bool one_int one_str one_ptr one_nilptr one_slice one_eslice one_nilslice one_func one_iface one_niliface Bool.and_true Bool.and_self List.length_cons List.length_nil Nat.one_ne_zero Nat.succ_ne_zero if_false List.set_cons_zero List.set_cons_succ lay_nil lay_1 lay_w Option.map_some cells_one rowA_some List.drop_succ_cons List.drop_zero List.take_succ_cons List.take_zero

def st0R : Rs := ⟨0, 0, [], [], [], []⟩
def outOf (x : Rs × Int) : Oo := ⟨x.2, x.1.sent, x.1.done, x.1.cache.length, x.1.l.length⟩
def runSt (first : Int) (servers : List Int) : Nat → Rs → List Ro → List Oo
  | _, _, [] => []
  | k, st, o :: ops => outOf (stepR first servers k o st) :: runSt first servers (k + 1) (stepR first servers k o st).1 ops
def runR (servers : List Int) (first : Int) (ops : List Ro) : List Oo × Int := if okCfg servers first = false then ([], 1) else if 2000 < ops.length then ([], 8) else (runSt first servers 0 st0R ops, 0)
theorem dropAt {α : Type} {l : List α} {k : Nat} {x : α} (h : l[k]? = some x) : l.drop k = x :: l.drop (k + 1) := by
  obtain ⟨h1, rfl⟩ := List.getElem?_eq_some_iff.1 h
  exact (List.getElem_cons_drop ..).symm
def RunRes (h h' : IH) (r : IV) (X : List Oo × Int) : Prop := ∃ v, r = .tuple [v, .int .i64 X.2] ∧ Ow h.n h'.n h' (.slice 54 t_ResolveOut) [v] (.list (X.1.map ooD))
theorem ow_nil {h g : IH} {el : Nat} {t : Ty} : Ow h.n g.n g (.slice el t) [.nilslice] (.list []) := ⟨⟨[], ⟨_, [], rfl, rfl, .inl ⟨rfl, rfl, .inl rfl⟩⟩, by simp, by simp⟩, Nat.le_refl _⟩
set_option maxHeartbeats 2000000 in
theorem specRun_c (h : IH) (vs v : IV) (servers : List Int) (first : Int) (ops : List Ro) (hs : SlR h 1 vs (intRows servers)) (a : RosAt h v ops) (hsm : servers.length ≤ 1048576) (hn : ops.length ≤ 1048576) (hsz : ∀ o ∈ ops, o.name.length + o.bytes.length ≤ 1048576) :
    ICalls Tryz.prog 6 [.agg [vs, .int .i64 first], v] h fun r h' => RunRes h h' r (runR servers first ops) ∧ Ext h h' := by
  refine icalls (.of ok6) (Nat.le_of_ble_eq_true rfl) ?_
  unfold c6
  obtain ⟨rs, hsl, hrl, hrow⟩ := a.sl
  have hlen := hsl.lenF
  rw [hrl] at hlen
  have y1 := hs.one
  have y2 := hsl.one
  have S := Sp.start h
  try simp (disch := (first | omega | assumption | (simp only [lc0, ln0, la0]; first | done | omega) | (simp (disch := assumption) only [go_sem, one_as, Nat.reduceBEq]; done) | fail)) only [y1, go_sem, Hold.p, HoldK.k, HoldL.K, HoldL.body, Nat.reduceBEq, Nat.reduceAdd, reduceIte]
  refine Sp.bxA S (by first | rfl | (rw [cells_one (by assumption)]; rfl)) (by first | rfl | simp (disch := assumption) only [go_sem, cells_one, one_as]) fun p2 g1 S E_g1 l_g1 => ?_
  have hs1 := hs.ext E_g1
  have hlens := hs1.lenF
  rw [intRows_len] at hlens
  by_cases hl : 1 ≤ servers.length ∧ servers.length ≤ 4
  rotate_left
  · have d1 : (decide ((servers.length : Int) < 1) || decide ((4 : Int) < servers.length)) = true := by
      by_cases h1 : 1 ≤ servers.length
      · rw [decide_eq_true (by omega : (4 : Int) < servers.length)]; simp
      · rw [decide_eq_true (by omega : (servers.length : Int) < 1)]; simp
    have he : okCfg servers first = false := by
      unfold okCfg
      by_cases h1 : 1 ≤ servers.length
      · rw [decide_eq_false (by omega : ¬ servers.length ≤ 4)]; simp
      · rw [decide_eq_false h1]; simp
    have hr : runR servers first ops = ([], 1) := if_pos he
    have q0 := (S.bx 0 rfl).eq
    try simp (disch := (first | omega | assumption | (simp only [lc0, ln0, la0]; first | done | omega) | (simp (disch := assumption) only [go_sem, one_as, Nat.reduceBEq]; done) | fail)) only [q0, hlens, d1, go_sem, Hold.p, HoldK.k, HoldL.K, HoldL.body, Nat.reduceBEq, Nat.reduceAdd, reduceIte]
    rw [hr]
    exact ⟨⟨_, rfl, ow_nil⟩, E_g1⟩
  have d1 : (decide ((servers.length : Int) < 1) || decide ((4 : Int) < servers.length)) = false := by
    rw [decide_eq_false (by omega : ¬ (servers.length : Int) < 1), decide_eq_false (by omega : ¬ (4 : Int) < servers.length)]; rfl
  have q0 := (S.bx 0 rfl).eq
  try simp (disch := (first | omega | assumption | (simp only [lc0, ln0, la0]; first | done | omega) | (simp (disch := assumption) only [go_sem, one_as, Nat.reduceBEq]; done) | fail)) only [q0, hlens, d1, go_sem, Hold.p, HoldK.k, HoldL.K, HoldL.body, Nat.reduceBEq, Nat.reduceAdd, reduceIte]
  refine callA_of (l10PortOK_c g1 first) ?_
  rintro r g2 ⟨rfl, rfl⟩
  by_cases hf : 0 ≤ first ∧ first ≤ 65535
  rotate_left
  · have d2 : (decide (0 ≤ first) && decide (first ≤ 65535)) = false := by
      by_cases h1 : 0 ≤ first
      · rw [decide_eq_false (by omega : ¬ first ≤ 65535)]; simp
      · rw [decide_eq_false h1]; simp
    have he : okCfg servers first = false := by unfold okCfg; rw [d2]; simp
    have hr : runR servers first ops = ([], 1) := if_pos he
    have q0 := (S.bx 0 rfl).eq
    try simp (disch := (first | omega | assumption | (simp only [lc0, ln0, la0]; first | done | omega) | (simp (disch := assumption) only [go_sem, one_as, Nat.reduceBEq]; done) | fail)) only [q0, hlens, d2, go_sem, Hold.p, HoldK.k, HoldL.K, HoldL.body, Nat.reduceBEq, Nat.reduceAdd, reduceIte]
    rw [hr]
    exact ⟨⟨_, rfl, ow_nil⟩, E_g1⟩
  have d2 : (decide (0 ≤ first) && decide (first ≤ 65535)) = true := by
    rw [decide_eq_true hf.1, decide_eq_true hf.2]; rfl
  have hcfg : okCfg servers first = servers.all hostB := by
    unfold okCfg
    rw [decide_eq_true hl.1, decide_eq_true hl.2, d2]; rfl
  have q0 := (S.bx 0 rfl).eq
  try simp (disch := (first | omega | assumption | (simp only [lc0, ln0, la0]; first | done | omega) | (simp (disch := assumption) only [go_sem, one_as, Nat.reduceBEq]; done) | fail)) only [q0, hlens, d2, go_sem, Hold.p, HoldK.k, HoldL.K, HoldL.body, Nat.reduceBEq, Nat.reduceAdd, reduceIte]
  refine loop_at (fun n e g' => ∃ k : Nat, n = servers.length - k ∧ k ≤ servers.length ∧ e 1 = v ∧ e 2 = .ptr p2 0 0 ∧ e 6 = .int .i64 (k : Nat) ∧ (servers.take k).all hostB = true ∧ g' = g2) servers.length ?_ ?_
  · refine ⟨0, by omega, by omega, ?_⟩
    try simp (disch := (first | omega | assumption | (simp only [lc0, ln0, la0]; first | done | omega) | (simp (disch := assumption) only [go_sem, one_as, Nat.reduceBEq]; done) | fail)) only [go_sem, Hold.p, HoldK.k, HoldL.K, HoldL.body, Nat.reduceBEq, Nat.reduceAdd, reduceIte]
    exact rfl
  rintro n e g' ⟨k, rfl, hk, e1, e2, e6, hok, rfl⟩
  have q0 := (S.bx 0 rfl).eq
  try simp (disch := (first | omega | assumption | (simp only [lc0, ln0, la0]; first | done | omega) | (simp (disch := assumption) only [go_sem, one_as, Nat.reduceBEq]; done) | fail)) only [q0, e1, e2, e6, hlens, go_sem, Hold.p, HoldK.k, HoldL.K, HoldL.body, Nat.reduceBEq, Nat.reduceAdd, reduceIte]
  refine test_dec (fun hb => ?_) (fun hb => ?_)
  · obtain ⟨p, hkp⟩ : ∃ p, servers[k]? = some p := ⟨_, List.getElem?_eq_getElem (by omega : k < servers.length)⟩
    obtain ⟨l, j, hia, hll, hrowk⟩ := hs1.at (m := k) (intRows_at hkp) .i64
    have hc := cellO_row hrowk
    have w1 : wr .i64 ((k : Int) + 1) = ((k + 1 : Nat) : Int) := by rw [wr64 _ (by omega)]; rfl
    have q0 := (S.bx 0 rfl).eq
    try simp (disch := (first | omega | assumption | (simp only [lc0, ln0, la0]; first | done | omega) | (simp (disch := assumption) only [go_sem, one_as, Nat.reduceBEq]; done) | fail)) only [q0, e1, e2, e6, hia, hc, go_sem, Hold.p, HoldK.k, HoldL.K, HoldL.body, Nat.reduceBEq, Nat.reduceAdd, reduceIte]
    refine callA_of (specAddrKind_c _ p) ?_
    rintro r h2 ⟨rfl, rfl⟩
    cases hp : hostB p
    · have hp' : decide (kindA p = 6) = false := hp
      have he : okCfg servers first = false := by
        rw [hcfg, List.all_eq_false]
        exact ⟨p, List.mem_of_getElem? hkp, by rw [hp]; decide⟩
      have hr : runR servers first ops = ([], 1) := if_pos he
      try simp (disch := (first | omega | assumption | (simp only [lc0, ln0, la0]; first | done | omega) | (simp (disch := assumption) only [go_sem, one_as, Nat.reduceBEq]; done) | fail)) only [hp', Bool.not_false, go_sem, Hold.p, HoldK.k, HoldL.K, HoldL.body, Nat.reduceBEq, Nat.reduceAdd, reduceIte]
      rw [hr]
      exact ⟨⟨_, rfl, ow_nil⟩, E_g1⟩
    · have hp' : decide (kindA p = 6) = true := hp
      try simp (disch := (first | omega | assumption | (simp only [lc0, ln0, la0]; first | done | omega) | (simp (disch := assumption) only [go_sem, one_as, Nat.reduceBEq]; done) | fail)) only [e1, e2, e6, w1, hp', Bool.not_true, go_sem, Hold.p, HoldK.k, HoldL.K, HoldL.body, Nat.reduceBEq, Nat.reduceAdd, reduceIte]
      refine ⟨servers.length - (k + 1), by omega, k + 1, rfl, by omega, rfl, ?_⟩
      rw [take_snoc hkp, List.all_append, hok]
      simp [hp]
  obtain rfl : k = servers.length := by omega
  rw [List.take_length] at hok
  have hcg : ¬ okCfg servers first = false := by rw [hcfg, hok]; decide
  have hl1 := hsl.ext E_g1
  have hlen1 := hl1.lenF
  rw [hrl] at hlen1
  try simp (disch := (first | omega | assumption | (simp only [lc0, ln0, la0]; first | done | omega) | (simp (disch := assumption) only [go_sem, one_as, Nat.reduceBEq]; done) | fail)) only [e1, hlen1, go_sem, Hold.p, HoldK.k, HoldL.K, HoldL.body, Nat.reduceBEq, Nat.reduceAdd, reduceIte]
  refine test_dec (fun hb => ?_) (fun hb => ?_)
  · have hr : runR servers first ops = ([], 8) := (if_neg hcg).trans (if_pos (by omega))
    try simp (disch := (first | omega | assumption | (simp only [lc0, ln0, la0]; first | done | omega) | (simp (disch := assumption) only [go_sem, one_as, Nat.reduceBEq]; done) | fail)) only [go_sem, Hold.p, HoldK.k, HoldL.K, HoldL.body, Nat.reduceBEq, Nat.reduceAdd, reduceIte]
    rw [hr]
    exact ⟨⟨_, rfl, ow_nil⟩, E_g1⟩
  have hr : runR servers first ops = (runSt first servers 0 st0R ops, 0) := (if_neg hcg).trans (if_neg (by omega))
  rw [hr]
  have q0 := (S.bx 0 rfl).eq
  try simp (disch := (first | omega | assumption | (simp only [lc0, ln0, la0]; first | done | omega) | (simp (disch := assumption) only [go_sem, one_as, Nat.reduceBEq]; done) | fail)) only [q0, e2, y1, ca0, na0, lay_p, go_sem, Hold.p, HoldK.k, HoldL.K, HoldL.body, Nat.reduceBEq, Nat.reduceAdd, reduceIte]
  refine Sp.zero S fun w g3 S E_g3 l_g3 => ?_
  have q0 := (S.bx 0 rfl).eq
  try simp (disch := (first | omega | assumption | (simp only [lc0, ln0, la0]; first | done | omega) | (simp (disch := assumption) only [go_sem, one_as, Nat.reduceBEq]; done) | fail)) only [q0, y1, go_sem, Hold.p, HoldK.k, HoldL.K, HoldL.body, Nat.reduceBEq, Nat.reduceAdd, reduceIte]
  refine stw_of rfl rfl (by first | rfl | simp (disch := assumption) only [go_sem, cells_one, one_as]) fun g4 hg => ?_
  have l_g4 := n_set hg
  have S := S.set0 hg
  clear hg
  try simp (disch := (first | omega | assumption | (simp only [lc0, ln0, la0]; first | done | omega) | (simp (disch := assumption) only [go_sem, one_as, Nat.reduceBEq]; done) | fail)) only [e1, go_sem, Hold.p, HoldK.k, HoldL.K, HoldL.body, Nat.reduceBEq, Nat.reduceAdd, reduceIte]
  refine loop_at (fun n e g => ∃ (k : Nat) (st : Rs) (outs : List Oo) (vx vq vk vx0 vd0 : IV) (code ent ask : Int) (rq rk : List (List IV)), n = ops.length - k ∧ k ≤ ops.length ∧ e 1 = v ∧ e 7 = .ptr w 0 0 ∧ e 8 = vx ∧ e 9 = .int .i64 (k : Nat) ∧ outs.length = k ∧
    runSt first servers 0 st0R ops = outs ++ runSt first servers k st (ops.drop k) ∧ Ri k st ∧
    Sp g (box w (wdO vs first st.now st.n vq vk code vx0 vd0 ent ask) :: sl false 119 6 vq rq :: all2 qnR rq st.l :: sl false 117 4 vk rk :: all2 knR rk st.cache :: dat (.slice 54 t_ResolveOut) [vx] (.list (outs.map ooD)) :: [old h])) ops.length ?_ ?_
  · refine ⟨0, st0R, [], .eslice true, .nilslice, .nilslice, .nilslice, .nilslice, 0, 0, 0, [], [], by omega, by omega, ?_⟩
    try simp (disch := (first | omega | assumption | (simp only [lc0, ln0, la0]; first | done | omega) | (simp (disch := assumption) only [go_sem, one_as, Nat.reduceBEq]; done) | fail)) only [e1, go_sem, Hold.p, HoldK.k, HoldL.K, HoldL.body, Nat.reduceBEq, Nat.reduceAdd, reduceIte]
    refine ⟨rfl, rfl, Ri.init, ?_⟩
    have S := ((((S.a2nil (R := knR)).slNil (x := false) (el := 117) (sz := 4)).a2nil (R := qnR)).slNil (x := false) (el := 119) (sz := 6))
    have S := S.new (Ext.refl _) (f := []) (A := dat (.slice 54 t_ResolveOut) [.eslice true] (.list [])) ⟨_, [], rfl, rfl, .inl ⟨rfl, rfl, .inr rfl⟩⟩ (by simp) (by simp)
    have S := by simpa only [mc0, mn0, List.getD_cons_zero, List.getD_cons_succ, ds0, dz0, ca0, na0] using Sp.sel S 8 [5, 1, 2, 3, 4, 0, 7] (by simp only [lc0]; omega) (by decide) (by decide)
    exact S
  clear S e1 e2 e6
  rintro n e g ⟨k, st, outs, vx, vq, vk, vx0, vd0, code, ent, ask, rq, rk, rfl, hk, e1, e7, e8, e9, hol, hru, hR, S⟩
  have hlg := hsl.ext (S.ol 6 rfl)
  have hleng := hlg.lenF
  rw [hrl] at hleng
  try simp (disch := (first | omega | assumption | (simp only [lc0, ln0, la0]; first | done | omega) | (simp (disch := assumption) only [go_sem, one_as, Nat.reduceBEq]; done) | fail)) only [e1, e7, e8, e9, hleng, go_sem, Hold.p, HoldK.k, HoldL.K, HoldL.body, Nat.reduceBEq, Nat.reduceAdd, reduceIte]
  refine test_dec (fun hb2 => ?_) (fun hb2 => ?_)
  · obtain ⟨o, ho⟩ : ∃ q, ops[k]? = some q := ⟨_, List.getElem?_eq_getElem (by omega : k < ops.length)⟩
    obtain ⟨vb, hrk, ha⟩ := hrow k o ho
    have hszo := hsz o (List.mem_of_getElem? ho)
    have w1 : wr .i64 ((k : Int) + 1) = ((k + 1 : Nat) : Int) := by rw [wr64 _ (by omega)]; rfl
    rw [dropAt ho, runSt] at hru
    obtain ⟨a1, a2, hia, hal, har⟩ := hlg.at hrk .i64
    unfold roRow at har
    try simp (disch := (first | omega | assumption | (simp only [lc0, ln0, la0]; first | done | omega) | (simp (disch := assumption) only [go_sem, one_as, Nat.reduceBEq]; done) | fail)) only [e1, e7, e8, e9, hia, har, go_sem, Hold.p, HoldK.k, HoldL.K, HoldL.body, Nat.reduceBEq, Nat.reduceAdd, reduceIte]
    obtain ⟨hR', hB'⟩ := stepR_ok (first := first) (servers := servers) (ticket := k) (o := o) hR (by omega)
    refine callA_of (l19Step_c (N := k) S (fun g S => hs.ext (S.ol 1 rfl)) (fun g S => ha.ext (S.ol 1 rfl)) hR (by omega) (by omega) (by omega) hf.1 hf.2 (by rintro rfl; simp at hl) hl.2) ?_
    clear S hlg hleng
    generalize hX : stepR first servers k o st = X at hru hR' hB'
    rintro r5 g5 ⟨vx5, vd5, rx5, rd5, vq5, vk5, rq5, rk5, rfl, z1, z2, S⟩
    try simp (disch := (first | omega | assumption | (simp only [lc0, ln0, la0]; first | done | omega) | (simp (disch := assumption) only [go_sem, one_as, Nat.reduceBEq]; done) | fail)) only [e1, e7, e8, e9, go_sem, Hold.p, HoldK.k, HoldL.K, HoldL.body, Nat.reduceBEq, Nat.reduceAdd, reduceIte]
    refine Sp.bsl1 S (by first | rfl | (rw [cells_one (by assumption)]; rfl)) (by first | rfl | simp (disch := assumption) only [go_sem, cells_one, one_as]) fun p6 g6 S E_g6 l_g6 => ?_
    try simp only [cells_agg, cells_int, cells_bool, cells_ptr, cells_str] at S
    have q0 := (S.bx 0 rfl).eq
    try simp (disch := (first | omega | assumption | (simp only [lc0, ln0, la0]; first | done | omega) | (simp (disch := assumption) only [go_sem, one_as, Nat.reduceBEq]; done) | fail)) only [q0, e1, e7, e8, e9, go_sem, Hold.p, HoldK.k, HoldL.K, HoldL.body, Nat.reduceBEq, Nat.reduceAdd, reduceIte]
    have S := by simpa only [mc0, mn0, List.getD_cons_zero, List.getD_cons_succ, ds0, dz0, ca0, na0] using Sp.sel S 12 [6, 7, 8, 9, 1, 2, 3, 4, 5, 10, 11] (by simp only [lc0]; omega) (by decide) (by decide)
    have S := oo_dat (o := outOf X) S
    have S := by simpa only [mc0, mn0, List.getD_cons_zero, List.getD_cons_succ, ds0, dz0, ca0, na0] using Sp.sel S 7 [6, 0, 1, 2, 3, 4, 5] (by simp only [lc0]; omega) (by decide) (by decide)
    refine Sp.dapp S (by rw [List.length_map]; omega) ?_
    clear S
    intro v14 g14 S z14 c14
    try simp (disch := (first | omega | assumption | (simp only [lc0, ln0, la0]; first | done | omega) | (simp (disch := assumption) only [go_sem, one_as, Nat.reduceBEq]; done) | fail)) only [e1, e7, e8, e9, w1, go_sem, Hold.p, HoldK.k, HoldL.K, HoldL.body, Nat.reduceBEq, Nat.reduceAdd, reduceIte]
    have S := by simpa only [mc0, mn0, List.getD_cons_zero, List.getD_cons_succ, ds0, dz0, ca0, na0] using Sp.sel S 6 [1, 2, 3, 4, 5, 0] (by simp only [lc0]; omega) (by decide) (by decide)
    refine ⟨ops.length - (k + 1), by omega, k + 1, X.1, outs ++ [outOf X], v14, vq5, vk5, vx5, vd5, X.2, X.1.cache.length, X.1.l.length, rq5, rk5, rfl, by omega, rfl, rfl, by simp [hol], ?_, hR', ?_⟩
    · rw [hru]; simp
    · rw [List.map_append]; exact S
  · have hd : ops.drop k = [] := List.drop_eq_nil_of_le (by omega)
    rw [hd, runSt, List.append_nil] at hru
    rw [hru]
    try simp (disch := (first | omega | assumption | (simp only [lc0, ln0, la0]; first | done | omega) | (simp (disch := assumption) only [go_sem, one_as, Nat.reduceBEq]; done) | fail)) only [e8, go_sem, Hold.p, HoldK.k, HoldL.K, HoldL.body, Nat.reduceBEq, Nat.reduceAdd, reduceIte]
    have S := by simpa only [mc0, mn0, List.getD_cons_zero, List.getD_cons_succ, ds0, dz0, ca0, na0] using Sp.sel S 7 [5, 6] (by simp only [lc0]; omega) (by decide) (by decide)
    exact ⟨⟨vx, rfl, S.toOw⟩, S.drop.oldE⟩
end
end Go.Proofs.YtaoffieemecioaaGreatDoor

set_option maxRecDepth 20000
namespace Go.Proofs.YtaoffieemecioaaGreatDoor
open Go Go.IW
section
attribute [local go_sem] List.getElem?_cons_zero List.getElem?_cons_succ Option.bind_some List.map_cons List.map_nil Nat.zero_add if_true List.getD_cons_zero List.getD_cons_succ List.contains_cons List.contains_nil Bool.or_true Bool.true_or Bool.or_false Bool.false_or Bool.not_true Bool.not_false true_and and_true rowA_whole mid_get rowO_rows cellO_rows upd_ne Nat.add_assoc Nat.add_zero List.all_cons List.all_nil one_bool one_int one_str one_ptr one_nilptr one_slice one_eslice one_nilslice one_func one_iface one_niliface Bool.and_true Bool.and_self List.length_cons List.length_nil Nat.one_ne_zero Nat.succ_ne_zero if_false List.set_cons_zero List.set_cons_succ lay_nil lay_1 lay_w Option.map_some cells_one rowA_some List.drop_succ_cons List.drop_zero List.take_succ_cons List.take_zero

theorem isTime_c (h : IH) (a b : Int) (ha : 0 ≤ a ∧ a ≤ 1000000000) : ICalls Tryz.prog 29 [.int .i64 a, .int .i64 b] h fun r h' => r = .bool (decide (0 ≤ b) && decide (b ≤ 1000000000 - a)) ∧ h' = h := by
  refine icalls (.of ok29) (Nat.le_of_ble_eq_true rfl) ?_
  unfold c29
  by_cases hb : 0 ≤ b ∧ b ≤ 1000000000
  · have w : wr .i64 (a + b) = a + b := wr64 _ (by omega)
    have d1 : decide (0 ≤ b) = true := decide_eq_true hb.1
    have d2 : decide (b ≤ 1000000000) = true := decide_eq_true hb.2
    try simp (disch := (first | omega | assumption | (simp only [lc0, ln0, la0]; first | done | omega) | (simp (disch := assumption) only [go_sem, one_as, Nat.reduceBEq]; done) | fail)) only [w, d1, d2, go_sem, Hold.p, HoldK.k, HoldL.K, HoldL.body, Nat.reduceBEq, Nat.reduceAdd, reduceIte]
    by_cases h2 : a + b ≤ 1000000000
    · rw [decide_eq_true h2, decide_eq_true (by omega)]; rfl
    · rw [decide_eq_false h2, decide_eq_false (by omega)]; rfl
  · skip
    try simp (disch := (first | omega | assumption | (simp only [lc0, ln0, la0]; first | done | omega) | (simp (disch := assumption) only [go_sem, one_as, Nat.reduceBEq]; done) | fail)) only [go_sem, Hold.p, HoldK.k, HoldL.K, HoldL.body, Nat.reduceBEq, Nat.reduceAdd, reduceIte]
    congr 1
    rcases Classical.em (0 ≤ b) with h1 | h1
    · rw [decide_eq_false (p := b ≤ 1000000000) (by omega), decide_eq_false (p := b ≤ 1000000000 - a) (by omega)]; simp
    · rw [decide_eq_false h1]; simp
theorem pass_cache {first : Int} {servers : List Int} {e : Int} : ∀ (f : Nat) (st : Rs), (passR first servers e f st).cache = st.cache
  | 0, st => rfl
  | f + 1, st => by
    cases hd : dueN e st.l st.l.length with
    | none => rw [passR_none hd]
    | some b =>
      rw [passR_some hd, pass_cache f]
      exact (again_now first servers { st with now := dueOf st.l b } b).2
theorem stepI_cache {first : Int} {servers : List Int} {t : Int} {o : Ro} {st : Rs} {N : Nat} (h : Ri N st) : (stepI first servers t o (rst st)).1.cache.length ≤ 32 := by
  have hc : (rst st).cache.length ≤ 32 := h.c
  have ha := h.a
  unfold stepI
  split
  · unfold wantI
    split
    · exact hc
    · split
      · exact hc
      · split
        · exact hc
        · rw [(again_now _ _ _ _).2]; exact hc
  · split
    · unfold hearI
      split
      · exact hc
      · rename_i hnc
        simp only [not_or, Classical.not_not] at hnc
        split
        · exact hc
        · split
          · simp only
            split
            · exact (keep_ok (Nat.le_trans (List.length_filter_le _ _) hc) (fun k hk => ha k (List.mem_filter.1 hk).1) (decR_ok hnc.1).2).1
            · exact hc
          · rw [(again_now _ _ _ _).2]; exact hc
    · split
      · simp only [pass_cache]; exact hc
      · exact hc
abbrev outOC (code : Int) : IObj := .rows [[.int .i64 code, .nilslice, .nilslice, .int .i64 0, .int .i64 0]] 54 5 false
set_option maxHeartbeats 4000000 in
theorem implRun_c (h : IH) (vs v : IV) (servers : List Int) (first : Int) (ops : List Ro) (hs : SlR h 1 vs (intRows servers)) (a : RosAt h v ops) (hsm : servers.length ≤ 1048576) (hn : ops.length ≤ 1048576) (hsz : ∀ o ∈ ops, o.name.length + o.bytes.length ≤ 1048576) :
    ICalls Tryz.prog 9 [.agg [vs, .int .i64 first], v] h fun r h' => RunRes h h' r (runR servers first ops) ∧ Ext h h' := by
  refine icalls (.of ok9) (Nat.le_of_ble_eq_true rfl) ?_
  unfold c9
  obtain ⟨rs, hsl, hrl, hrow⟩ := a.sl
  have y1 := hs.one
  have y2 := hsl.one
  have S := Sp.start h
  try simp (disch := (first | omega | assumption | (simp only [lc0, ln0, la0]; first | done | omega) | (simp (disch := assumption) only [go_sem, one_as, Nat.reduceBEq]; done) | fail)) only [y1, go_sem, Hold.p, HoldK.k, HoldL.K, HoldL.body, Nat.reduceBEq, Nat.reduceAdd, reduceIte]
  refine Sp.bxA S (by first | rfl | (rw [cells_one (by assumption)]; rfl)) (by first | rfl | simp (disch := assumption) only [go_sem, cells_one, one_as]) fun p2 g1 S E_g1 l_g1 => ?_
  have hs1 := hs.ext E_g1
  have q0 := (S.bx 0 rfl).eq
  try simp (disch := (first | omega | assumption | (simp only [lc0, ln0, la0]; first | done | omega) | (simp (disch := assumption) only [go_sem, one_as, Nat.reduceBEq]; done) | fail)) only [q0, y1, go_sem, Hold.p, HoldK.k, HoldL.K, HoldL.body, Nat.reduceBEq, Nat.reduceAdd, reduceIte]
  refine callA_of (okResolve_c g1 vs servers first hs1 hsm) ?_
  rintro r g2 ⟨rfl, E2⟩
  have S := S.ext E2
  have hs2 := hs1.ext E2
  cases hcfg : okCfg servers first
  · have hr : runR servers first ops = ([], 1) := if_pos hcfg
    try simp (disch := (first | omega | assumption | (simp only [lc0, ln0, la0]; first | done | omega) | (simp (disch := assumption) only [go_sem, one_as, Nat.reduceBEq]; done) | fail)) only [go_sem, Hold.p, HoldK.k, HoldL.K, HoldL.body, Nat.reduceBEq, Nat.reduceAdd, reduceIte]
    rw [hr]
    exact ⟨⟨_, rfl, ow_nil⟩, E_g1.trans E2⟩
  have hl2 := hsl.ext (E_g1.trans E2)
  have hlen2 := hl2.lenF
  rw [hrl] at hlen2
  have hcg : ¬ okCfg servers first = false := by rw [hcfg]; decide
  have hl : 1 ≤ servers.length ∧ servers.length ≤ 4 := by
    unfold okCfg at hcfg
    simp only [Bool.and_eq_true, decide_eq_true_eq] at hcfg
    exact hcfg.1.1
  have hf : 0 ≤ first ∧ first ≤ 65535 := by
    unfold okCfg at hcfg
    simp only [Bool.and_eq_true, decide_eq_true_eq] at hcfg
    exact hcfg.1.2
  try simp (disch := (first | omega | assumption | (simp only [lc0, ln0, la0]; first | done | omega) | (simp (disch := assumption) only [go_sem, one_as, Nat.reduceBEq]; done) | fail)) only [hlen2, go_sem, Hold.p, HoldK.k, HoldL.K, HoldL.body, Nat.reduceBEq, Nat.reduceAdd, reduceIte]
  refine test_dec (fun hb => ?_) (fun hb => ?_)
  · have hr : runR servers first ops = ([], 8) := (if_neg hcg).trans (if_pos (by omega))
    try simp (disch := (first | omega | assumption | (simp only [lc0, ln0, la0]; first | done | omega) | (simp (disch := assumption) only [go_sem, one_as, Nat.reduceBEq]; done) | fail)) only [go_sem, Hold.p, HoldK.k, HoldL.K, HoldL.body, Nat.reduceBEq, Nat.reduceAdd, reduceIte]
    rw [hr]
    exact ⟨⟨_, rfl, ow_nil⟩, E_g1.trans E2⟩
  have hr : runR servers first ops = (runSt first servers 0 st0R ops, 0) := (if_neg hcg).trans (if_neg (by omega))
  rw [hr]
  have q0 := (S.bx 0 rfl).eq
  try simp (disch := (first | omega | assumption | (simp only [lc0, ln0, la0]; first | done | omega) | (simp (disch := assumption) only [go_sem, one_as, Nat.reduceBEq]; done) | fail)) only [q0, y1, go_sem, Hold.p, HoldK.k, HoldL.K, HoldL.body, Nat.reduceBEq, Nat.reduceAdd, reduceIte]
  refine callA_of (newResolver_c S.drop hs2 hsm) ?_
  clear S
  rintro r3 g3 ⟨r, vs', rfl, S⟩
  have hl3 := hsl.ext (S.ol 2 rfl)
  have hlen3 := hl3.lenF
  rw [hrl] at hlen3
  try simp (disch := (first | omega | assumption | (simp only [lc0, ln0, la0]; first | done | omega) | (simp (disch := assumption) only [go_sem, one_as, Nat.reduceBEq]; done) | fail)) only [hlen3, go_sem, Hold.p, HoldK.k, HoldL.K, HoldL.body, Nat.reduceBEq, Nat.reduceAdd, reduceIte]
  refine loop_at (fun n e g => ∃ (k : Nat) (st : Rs) (outs : List Oo) (vx vl vk : IV) (rl rk : List (List IV)), n = ops.length - k ∧ k ≤ ops.length ∧ e 6 = .ptr r 0 0 ∧ e 7 = vx ∧ e 21 = v ∧ e 22 = .int .i64 (ops.length : Nat) ∧ e 23 = .int .i64 (k : Nat) ∧ outs.length = k ∧
    runSt first servers 0 st0R ops = outs ++ runSt first servers k st (ops.drop k) ∧ Ri k st ∧
    Sp g (box r (rsO vs' first st.now k st.n vl vk .nilslice .nilslice) :: sl true 73 1 vl rl :: all2 quR rl st.l :: sl true 97 4 vk rk :: all2 kiR rk st.cache :: ints vs' servers :: dat (.slice 54 t_ResolveOut) [vx] (.list (outs.map ooD)) :: [old h])) ops.length ?_ ?_
  · refine ⟨0, st0R, [], .nilslice, .nilslice, .nilslice, [], [], by omega, by omega, ?_⟩
    try simp (disch := (first | omega | assumption | (simp only [lc0, ln0, la0]; first | done | omega) | (simp (disch := assumption) only [go_sem, one_as, Nat.reduceBEq]; done) | fail)) only [go_sem, Hold.p, HoldK.k, HoldL.K, HoldL.body, Nat.reduceBEq, Nat.reduceAdd, reduceIte]
    refine ⟨rfl, rfl, Ri.init, ?_⟩
    have S := ((((S.a2nil (R := kiR)).slNil (x := true) (el := 97) (sz := 4)).a2nil (R := quR)).slNil (x := true) (el := 73) (sz := 1))
    have S := S.new (Ext.refl _) (f := []) (A := dat (.slice 54 t_ResolveOut) [.nilslice] (.list [])) ⟨_, [], rfl, rfl, .inl ⟨rfl, rfl, .inl rfl⟩⟩ (by simp) (by simp)
    have S := by simpa only [mc0, mn0, List.getD_cons_zero, List.getD_cons_succ, ds0, dz0, ca0, na0] using Sp.sel S 8 [5, 1, 2, 3, 4, 6, 0, 7] (by simp only [lc0]; omega) (by decide) (by decide)
    exact S
  clear S
  rintro n e g ⟨k, st, outs, vx, vl, vk, rl, rk, rfl, hk, e6, e7, e21, e22, e23, hol, hru, hR, S⟩
  try simp (disch := (first | omega | assumption | (simp only [lc0, ln0, la0]; first | done | omega) | (simp (disch := assumption) only [go_sem, one_as, Nat.reduceBEq]; done) | fail)) only [e6, e7, e21, e22, e23, go_sem, Hold.p, HoldK.k, HoldL.K, HoldL.body, Nat.reduceBEq, Nat.reduceAdd, reduceIte]
  refine test_dec (fun hb2 => ?_) (fun hb2 => ?_)
  · obtain ⟨o, ho⟩ : ∃ q, ops[k]? = some q := ⟨_, List.getElem?_eq_getElem (by omega : k < ops.length)⟩
    obtain ⟨vb, hrk, ha⟩ := hrow k o ho
    have hszo := hsz o (List.mem_of_getElem? ho)
    have w1 : wr .i64 ((k : Int) + 1) = ((k + 1 : Nat) : Int) := by rw [wr64 _ (by omega)]; rfl
    rw [dropAt ho, runSt] at hru
    obtain ⟨hR', hB'⟩ := stepR_ok (first := first) (servers := servers) (ticket := k) (o := o) hR (by omega)
    have hsb := step_both first servers k o st
    rw [← hsb] at hru hR'
    simp only [Hold.p]
    rw [vc_skip]
    show vc _ _ _ _ _
    rw [vc_seq, vc_block]
    refine vc_split 3 (fun e g => ∃ p10, e 6 = .ptr r 0 0 ∧ e 7 = vx ∧ e 10 = .ptr p10 0 0 ∧ e 21 = v ∧ e 22 = .int .i64 (ops.length : Nat) ∧ e 23 = .int .i64 (k : Nat) ∧
      IS g r vs' first k (stepI first servers k o (rst st)).1 (box p10 (outOC (stepI first servers k o (rst st)).2) :: ints vs' servers :: dat (.slice 54 t_ResolveOut) [vx] (.list (outs.map ooD)) :: [old h])) ?_ ?_
    · simp only [CC.split]
      have hlg := hsl.ext (S.ol 7 rfl)
      obtain ⟨a1, a2, hia, hal, har⟩ := hlg.at hrk .i64
      have vb1 := ha.one
      unfold roRow at har
      try simp (disch := (first | omega | assumption | (simp only [lc0, ln0, la0]; first | done | omega) | (simp (disch := assumption) only [go_sem, one_as, Nat.reduceBEq]; done) | fail)) only [e6, e7, e21, e22, e23, hia, har, go_sem, Hold.p, HoldK.k, HoldL.K, HoldL.body, Nat.reduceBEq, Nat.reduceAdd, reduceIte]
      refine Sp.zero S fun p9 g9 S E_g9 l_g9 => ?_
      have q0 := (S.bx 0 rfl).eq
      try simp (disch := (first | omega | assumption | (simp only [lc0, ln0, la0]; first | done | omega) | (simp (disch := assumption) only [go_sem, one_as, Nat.reduceBEq]; done) | fail)) only [q0, e6, e7, e21, e22, e23, vb1, go_sem, Hold.p, HoldK.k, HoldL.K, HoldL.body, Nat.reduceBEq, Nat.reduceAdd, reduceIte]
      refine stw_of rfl rfl (by first | rfl | simp (disch := assumption) only [go_sem, cells_one, one_as]) fun g10 hg => ?_
      have l_g10 := n_set hg
      have S := S.set0 hg
      clear hg
      have q0 := (S.bx 0 rfl).eq
      try simp (disch := (first | omega | assumption | (simp only [lc0, ln0, la0]; first | done | omega) | (simp (disch := assumption) only [go_sem, one_as, Nat.reduceBEq]; done) | fail)) only [q0, e6, e7, e21, e22, e23, vb1, go_sem, Hold.p, HoldK.k, HoldL.K, HoldL.body, Nat.reduceBEq, Nat.reduceAdd, reduceIte]
      refine Sp.zero S fun p10 g11 S E_g11 l_g11 => ?_
      have W : IS g11 r vs' first k (rst st) (box p10 (outOC 0) :: ints vs' servers :: dat (.slice 54 t_ResolveOut) [vx] (.list (outs.map ooD)) :: old h :: [box p9 (roO o vb)]) := by
        have S := ((((S.a2nil (R := dnR)).slNil (x := false) (el := 99) (sz := 3)).a2nil (R := sdR)).slNil (x := false) (el := 111) (sz := 2))
        have S := by simpa only [mc0, mn0, List.getD_cons_zero, List.getD_cons_succ, ds0, dz0, ca0, na0] using Sp.sel S 14 [6, 7, 8, 2, 3, 9, 10, 0, 1, 4, 11, 12, 13, 5] (by simp only [lc0]; omega) (by decide) (by decide)
        exact ⟨vl, vk, .nilslice, .nilslice, rl, rk, [], [], S⟩
      have hdrop : ∀ {g : IH} {st' : Rs} {c : Int}, IS g r vs' first k st' (box p10 (outOC c) :: ints vs' servers :: dat (.slice 54 t_ResolveOut) [vx] (.list (outs.map ooD)) :: old h :: [box p9 (roO o vb)]) → IS g r vs' first k st' (box p10 (outOC c) :: ints vs' servers :: dat (.slice 54 t_ResolveOut) [vx] (.list (outs.map ooD)) :: [old h]) := by
        rintro g st' c ⟨vl, vk, vx, vd, rl, rk, rx, rd, S⟩
        refine ⟨vl, vk, vx, vd, rl, rk, rx, rd, ?_⟩
        have S := by simpa only [mc0, mn0, List.getD_cons_zero, List.getD_cons_succ, ds0, dz0, ca0, na0] using Sp.sel S 14 [0, 1, 2, 3, 4, 5, 6, 7, 8, 9, 10, 11, 12] (by simp only [lc0]; omega) (by decide) (by decide)
        exact S
      clear S hsb hru hR' hB'
      have hg := hR.g
      have hcx := hR.c
      have hax := hR.a
      have htx := hR.t
      have hnx := hR.n
      have hml := mu_le st.l
      obtain ⟨st0, hst0⟩ : ∃ st0, st0 = rst st := ⟨_, rfl⟩
      have q2 : st0.n = st.n := by rw [hst0]; rfl
      have q3 : st0.l = st.l := by rw [hst0]; rfl
      have q4 : st0.cache = st.cache := by rw [hst0]; rfl
      have q5 : st0.sent.length = 0 := by rw [hst0]; rfl
      have q6 : st0.done.length = 0 := by rw [hst0]; rfl
      rw [← hst0] at hg W
      rw [← hst0]
      rw [← q4] at hcx hax
      rw [← q3] at htx hml hnx
      rw [← q2] at hnx
      clear q2 q3 q4 hst0 hR
      have l16 := hg.l
      have ht0 := hg.t0
      have ht1 := hg.t1
      have hv' : ∀ g, Sp g (box p10 (outOC 0) :: ints vs' servers :: dat (.slice 54 t_ResolveOut) [vx] (.list (outs.map ooD)) :: old h :: [box p9 (roO o vb)]) → SlR g 1 vs' (intRows servers) := fun g S => S.slA 1 rfl
      have sv0 : servers ≠ [] := by rintro rfl; simp at hl
      have hax' : ∀ k ∈ st0.cache, k.addrs.length ≤ 100 := fun k hk => Nat.le_trans (hax k hk) (by decide)
      have hvb' : ∀ g, Sp g (box p10 (outOC 0) :: ints vs' servers :: dat (.slice 54 t_ResolveOut) [vx] (.list (outs.map ooD)) :: old h :: [box p9 (roO o vb)]) → SlR g 1 vb (strRows o.bytes) := fun g S => ha.ext (S.ol 3 rfl)
      obtain ⟨vl1, vk1, vx1, vd1, rl1, rk1, rx1, rd1, S⟩ := W
      by_cases hk1 : o.kind = 1
      · have d1 : decide (o.kind = 1) = true := decide_eq_true hk1
        have q9 := (S.bx 9 rfl).eq
        have q13 := (S.bx 13 rfl).eq
        try simp (disch := (first | omega | assumption | (simp only [lc0, ln0, la0]; first | done | omega) | (simp (disch := assumption) only [go_sem, one_as, Nat.reduceBEq]; done) | fail)) only [q9, q13, e6, e7, e21, e22, e23, d1, go_sem, Hold.p, HoldK.k, HoldL.K, HoldL.body, Nat.reduceBEq, Nat.reduceAdd, reduceIte]
        refine callA_of (implNameOK_c g11 o.name (by omega)) ?_
        rintro r4 g4 ⟨rfl, E4⟩
        have S := S.ext E4
        cases hok : okName o.name
        · have hP : stepI first servers k o st0 = (st0, 1) := by
            unfold stepI
            rw [if_neg (by rw [hok]; rintro ⟨_, h⟩; cases h), if_neg (by omega), if_neg (by omega)]
          have d2 : decide (o.kind = 2) = false := decide_eq_false (by omega)
          have d3 : decide (o.kind = 3) = false := decide_eq_false (by omega)
          rw [hP]
          have q9 := (S.bx 9 rfl).eq
          have q13 := (S.bx 13 rfl).eq
          try simp (disch := (first | omega | assumption | (simp only [lc0, ln0, la0]; first | done | omega) | (simp (disch := assumption) only [go_sem, one_as, Nat.reduceBEq]; done) | fail)) only [q9, q13, e6, e7, e21, e22, e23, d2, d3, go_sem, Hold.p, HoldK.k, HoldL.K, HoldL.body, Nat.reduceBEq, Nat.reduceAdd, reduceIte]
          refine st1_of (Nat.le_of_ble_eq_true rfl) (by first | rfl | assumption) fun g5 hg => ?_
          have l_g5 := n_set hg
          have S := S.set9 hg
          clear hg
          simp only [sz0, ss0, ts0, tz0, ds0, dz0, ca0, na0, Nat.reduceAdd] at S
          try simp (disch := (first | omega | assumption | (simp only [lc0, ln0, la0]; first | done | omega) | (simp (disch := assumption) only [go_sem, one_as, Nat.reduceBEq]; done) | fail)) only [e6, e7, e21, e22, e23, go_sem, Hold.p, HoldK.k, HoldL.K, HoldL.body, Nat.reduceBEq, Nat.reduceAdd, reduceIte]
          exact ⟨p10, rfl, hdrop ⟨vl1, vk1, vx1, vd1, rl1, rk1, rx1, rd1, S⟩⟩
        · have hP : stepI first servers k o st0 = wantI first servers k o.name st0 := if_pos ⟨hk1, hok⟩
          have q9 := (S.bx 9 rfl).eq
          have q13 := (S.bx 13 rfl).eq
          try simp (disch := (first | omega | assumption | (simp only [lc0, ln0, la0]; first | done | omega) | (simp (disch := assumption) only [go_sem, one_as, Nat.reduceBEq]; done) | fail)) only [q9, q13, e6, e7, e21, e22, e23, go_sem, Hold.p, HoldK.k, HoldL.K, HoldL.body, Nat.reduceBEq, Nat.reduceAdd, reduceIte]
          have W : IS g4 r vs' first k st0 (box p10 (outOC 0) :: ints vs' servers :: dat (.slice 54 t_ResolveOut) [vx] (.list (outs.map ooD)) :: old h :: [box p9 (roO o vb)]) := ⟨vl1, vk1, vx1, vd1, rl1, rk1, rx1, rd1, S⟩
          refine callA_of (want_c W hv' hg hf.1 hf.2 sv0 hl.2 hok hcx hax' (by omega) (by omega) (by omega)) ?_
          clear S W
          rw [hP]
          generalize wantI first servers k o.name st0 = P
          rintro r5 g5 ⟨rfl, vl2, vk2, vx2, vd2, rl2, rk2, rx2, rd2, S⟩
          have q9 := (S.bx 9 rfl).eq
          have q13 := (S.bx 13 rfl).eq
          try simp (disch := (first | omega | assumption | (simp only [lc0, ln0, la0]; first | done | omega) | (simp (disch := assumption) only [go_sem, one_as, Nat.reduceBEq]; done) | fail)) only [q9, q13, e6, e7, e21, e22, e23, go_sem, Hold.p, HoldK.k, HoldL.K, HoldL.body, Nat.reduceBEq, Nat.reduceAdd, reduceIte]
          refine st1_of (Nat.le_of_ble_eq_true rfl) (by first | rfl | assumption) fun g6 hg => ?_
          have l_g6 := n_set hg
          have S := S.set9 hg
          clear hg
          simp only [sz0, ss0, ts0, tz0, ds0, dz0, ca0, na0, Nat.reduceAdd] at S
          try simp (disch := (first | omega | assumption | (simp only [lc0, ln0, la0]; first | done | omega) | (simp (disch := assumption) only [go_sem, one_as, Nat.reduceBEq]; done) | fail)) only [e6, e7, e21, e22, e23, go_sem, Hold.p, HoldK.k, HoldL.K, HoldL.body, Nat.reduceBEq, Nat.reduceAdd, reduceIte]
          exact ⟨p10, rfl, hdrop ⟨vl2, vk2, vx2, vd2, rl2, rk2, rx2, rd2, S⟩⟩
      · have d1 : decide (o.kind = 1) = false := decide_eq_false hk1
        by_cases hk2 : o.kind = 2
        · have hP : stepI first servers k o st0 = (hearI first servers o.from_ o.port o.bytes st0, 0) := by
            unfold stepI
            rw [if_neg (by omega), if_pos hk2]
          have d2 : decide (o.kind = 2) = true := decide_eq_true hk2
          have q9 := (S.bx 9 rfl).eq
          have q13 := (S.bx 13 rfl).eq
          try simp (disch := (first | omega | assumption | (simp only [lc0, ln0, la0]; first | done | omega) | (simp (disch := assumption) only [go_sem, one_as, Nat.reduceBEq]; done) | fail)) only [q9, q13, e6, e7, e21, e22, e23, d1, d2, vb1, go_sem, Hold.p, HoldK.k, HoldL.K, HoldL.body, Nat.reduceBEq, Nat.reduceAdd, reduceIte]
          have W : IS g11 r vs' first k st0 (box p10 (outOC 0) :: ints vs' servers :: dat (.slice 54 t_ResolveOut) [vx] (.list (outs.map ooD)) :: old h :: [box p9 (roO o vb)]) := ⟨vl1, vk1, vx1, vd1, rl1, rk1, rx1, rd1, S⟩
          refine callA_of (hear_c W hv' hvb' (by omega) hg hf.1 hf.2 sv0 hl.2 hcx (by omega) (by omega) (by omega)) ?_
          clear S W
          rw [hP]
          generalize hearI first servers o.from_ o.port o.bytes st0 = P
          rintro r5 g5 W
          try simp (disch := (first | omega | assumption | (simp only [lc0, ln0, la0]; first | done | omega) | (simp (disch := assumption) only [go_sem, one_as, Nat.reduceBEq]; done) | fail)) only [e6, e7, e21, e22, e23, go_sem, Hold.p, HoldK.k, HoldL.K, HoldL.body, Nat.reduceBEq, Nat.reduceAdd, reduceIte]
          exact ⟨p10, rfl, hdrop W⟩
        · have d2 : decide (o.kind = 2) = false := decide_eq_false hk2
          by_cases hk3 : o.kind = 3
          rotate_left
          · have d3 : decide (o.kind = 3) = false := decide_eq_false hk3
            have hP : stepI first servers k o st0 = (st0, 1) := by
              unfold stepI
              rw [if_neg (by omega), if_neg hk2, if_neg (by omega)]
            rw [hP]
            have q9 := (S.bx 9 rfl).eq
            have q13 := (S.bx 13 rfl).eq
            try simp (disch := (first | omega | assumption | (simp only [lc0, ln0, la0]; first | done | omega) | (simp (disch := assumption) only [go_sem, one_as, Nat.reduceBEq]; done) | fail)) only [q9, q13, e6, e7, e21, e22, e23, d1, d2, d3, go_sem, Hold.p, HoldK.k, HoldL.K, HoldL.body, Nat.reduceBEq, Nat.reduceAdd, reduceIte]
            refine st1_of (Nat.le_of_ble_eq_true rfl) (by first | rfl | assumption) fun g5 hg => ?_
            have l_g5 := n_set hg
            have S := S.set9 hg
            clear hg
            simp only [sz0, ss0, ts0, tz0, ds0, dz0, ca0, na0, Nat.reduceAdd] at S
            try simp (disch := (first | omega | assumption | (simp only [lc0, ln0, la0]; first | done | omega) | (simp (disch := assumption) only [go_sem, one_as, Nat.reduceBEq]; done) | fail)) only [e6, e7, e21, e22, e23, go_sem, Hold.p, HoldK.k, HoldL.K, HoldL.body, Nat.reduceBEq, Nat.reduceAdd, reduceIte]
            exact ⟨p10, rfl, hdrop ⟨vl1, vk1, vx1, vd1, rl1, rk1, rx1, rd1, S⟩⟩
          have d3 : decide (o.kind = 3) = true := decide_eq_true hk3
          have q0 := (S.bx 0 rfl).eq
          have q9 := (S.bx 9 rfl).eq
          have q13 := (S.bx 13 rfl).eq
          try simp (disch := (first | omega | assumption | (simp only [lc0, ln0, la0]; first | done | omega) | (simp (disch := assumption) only [go_sem, one_as, Nat.reduceBEq]; done) | fail)) only [q0, q9, q13, e6, e7, e21, e22, e23, d1, d2, d3, vb1, go_sem, Hold.p, HoldK.k, HoldL.K, HoldL.body, Nat.reduceBEq, Nat.reduceAdd, reduceIte]
          refine callA_of (isTime_c g11 st0.now o.wait ⟨ht0, ht1⟩) ?_
          rintro r4 g4 ⟨rfl, rfl⟩
          by_cases hw : 0 ≤ o.wait ∧ o.wait ≤ 1000000000 - st0.now
          rotate_left
          · have d4 : (decide (0 ≤ o.wait) && decide (o.wait ≤ 1000000000 - st0.now)) = false := by
              by_cases h1 : 0 ≤ o.wait
              · rw [decide_eq_false (fun h2 => hw ⟨h1, h2⟩)]; simp
              · rw [decide_eq_false h1]; simp
            have hP : stepI first servers k o st0 = (st0, 1) := by
              unfold stepI
              rw [if_neg (by omega), if_neg hk2, if_neg (fun h => hw h.2)]
            rw [hP]
            have q9 := (S.bx 9 rfl).eq
            have q13 := (S.bx 13 rfl).eq
            try simp (disch := (first | omega | assumption | (simp only [lc0, ln0, la0]; first | done | omega) | (simp (disch := assumption) only [go_sem, one_as, Nat.reduceBEq]; done) | fail)) only [q9, q13, e6, e7, e21, e22, e23, d4, go_sem, Hold.p, HoldK.k, HoldL.K, HoldL.body, Nat.reduceBEq, Nat.reduceAdd, reduceIte]
            refine st1_of (Nat.le_of_ble_eq_true rfl) (by first | rfl | assumption) fun g5 hg => ?_
            have l_g5 := n_set hg
            have S := S.set9 hg
            clear hg
            simp only [sz0, ss0, ts0, tz0, ds0, dz0, ca0, na0, Nat.reduceAdd] at S
            try simp (disch := (first | omega | assumption | (simp only [lc0, ln0, la0]; first | done | omega) | (simp (disch := assumption) only [go_sem, one_as, Nat.reduceBEq]; done) | fail)) only [e6, e7, e21, e22, e23, go_sem, Hold.p, HoldK.k, HoldL.K, HoldL.body, Nat.reduceBEq, Nat.reduceAdd, reduceIte]
            exact ⟨p10, rfl, hdrop ⟨vl1, vk1, vx1, vd1, rl1, rk1, rx1, rd1, S⟩⟩
          have d4 : (decide (0 ≤ o.wait) && decide (o.wait ≤ 1000000000 - st0.now)) = true := by rw [decide_eq_true hw.1, decide_eq_true hw.2]; rfl
          have hP : stepI first servers k o st0 = (passR first servers (st0.now + o.wait) (mu st0.l) st0, 0) := by
            unfold stepI
            rw [if_neg (by omega), if_neg hk2, if_pos ⟨hk3, hw⟩]
          rw [hP]
          obtain ⟨en, hen⟩ : ∃ en, en = st0.now + o.wait := ⟨_, rfl⟩
          have w0 : wr .i64 (st0.now + o.wait) = en := by rw [wr64 _ (by omega), hen]
          rw [← hen]
          have q0 := (S.bx 0 rfl).eq
          have q13 := (S.bx 13 rfl).eq
          try simp (disch := (first | omega | assumption | (simp only [lc0, ln0, la0]; first | done | omega) | (simp (disch := assumption) only [go_sem, one_as, Nat.reduceBEq]; done) | fail)) only [q0, q13, e6, e7, e21, e22, e23, d4, w0, go_sem, Hold.p, HoldK.k, HoldL.K, HoldL.body, Nat.reduceBEq, Nat.reduceAdd, reduceIte]
          refine callA_of (next_c S (by omega)) ?_
          rintro r5 g5 ⟨rfl, rfl⟩
          try simp (disch := (first | omega | assumption | (simp only [lc0, ln0, la0]; first | done | omega) | (simp (disch := assumption) only [go_sem, one_as, Nat.reduceBEq]; done) | fail)) only [e6, e7, e21, e22, e23, go_sem, Hold.p, HoldK.k, HoldL.K, HoldL.body, Nat.reduceBEq, Nat.reduceAdd, reduceIte]
          refine loop_at (fun m e g => ∃ (st' : Rs) (f : Nat) (vl vk vx' vd : IV) (rl rk rx rd : List (List IV)), m = mu st'.l ∧ Rg st' ∧ e 6 = .ptr r 0 0 ∧ e 7 = vx ∧ e 10 = .ptr p10 0 0 ∧ e 11 = .int .i64 en ∧ e 12 = ptrOf rl (nextN st'.l st'.l.length) ∧ e 21 = v ∧ e 22 = .int .i64 (ops.length : Nat) ∧ e 23 = .int .i64 (k : Nat) ∧
            passR first servers en f st' = passR first servers en (mu st0.l) st0 ∧ mu st'.l ≤ f ∧
            Sp g (box r (rsO vs' first st'.now k st'.n vl vk vx' vd) :: sl true 73 1 vl rl :: all2 quR rl st'.l :: sl false 99 3 vd rd :: all2 dnR rd st'.done ::
              sl true 97 4 vk rk :: all2 kiR rk st'.cache :: sl false 111 2 vx' rx :: all2 sdR rx st'.sent :: box p10 (outOC 0) :: ints vs' servers :: dat (.slice 54 t_ResolveOut) [vx] (.list (outs.map ooD)) :: old h :: [box p9 (roO o vb)])) (mu st0.l) ?_ ?_
          · refine ⟨st0, mu st0.l, vl1, vk1, vx1, vd1, rl1, rk1, rx1, rd1, rfl, hg, ?_⟩
            try simp (disch := (first | omega | assumption | (simp only [lc0, ln0, la0]; first | done | omega) | (simp (disch := assumption) only [go_sem, one_as, Nat.reduceBEq]; done) | fail)) only [e6, e7, e21, e22, e23, go_sem, Hold.p, HoldK.k, HoldL.K, HoldL.body, Nat.reduceBEq, Nat.reduceAdd, reduceIte]
            exact ⟨Nat.le_refl _, S⟩
          clear S e6 e7 e21 e22 e23
          rintro m e g ⟨st', f, vl, vk, vx', vd, rl, rk, rx, rd, rfl, hg', e6, e7, e10, e11, e12, e21, e22, e23, hp, hfu, S⟩
          have b1 : (true != true) = false := rfl
          have b2 : (false != true) = true := rfl
          have hdn := nextN_due en st'.l st'.l.length
          have hrl' := a2_len S 2 rfl
          have hl' := hg'.l
          have fin : dueN en st'.l st'.l.length = none → ∀ {g : IH}, Sp g (box r (rsO vs' first en k st'.n vl vk vx' vd) :: sl true 73 1 vl rl :: all2 quR rl st'.l :: sl false 99 3 vd rd :: all2 dnR rd st'.done ::
              sl true 97 4 vk rk :: all2 kiR rk st'.cache :: sl false 111 2 vx' rx :: all2 sdR rx st'.sent :: box p10 (outOC 0) :: ints vs' servers :: dat (.slice 54 t_ResolveOut) [vx] (.list (outs.map ooD)) :: old h :: [box p9 (roO o vb)]) →
              IS g r vs' first k (passR first servers en (mu st0.l) st0) (box p10 (outOC 0) :: ints vs' servers :: dat (.slice 54 t_ResolveOut) [vx] (.list (outs.map ooD)) :: old h :: [box p9 (roO o vb)]) := by
            intro hn0 g S
            rw [← hp, passR_none hn0]
            exact ⟨vl, vk, vx', vd, rl, rk, rx, rd, S⟩
          cases hnx2 : nextN st'.l st'.l.length with
          | none =>
            rw [hnx2] at e12 hdn
            have e12' : e 12 = .nilptr := e12
            have q0 := (S.bx 0 rfl).eq
            try simp (disch := (first | omega | assumption | (simp only [lc0, ln0, la0]; first | done | omega) | (simp (disch := assumption) only [go_sem, one_as, Nat.reduceBEq]; done) | fail)) only [q0, e6, e7, e10, e11, e12', e21, e22, e23, b1, go_sem, Hold.p, HoldK.k, HoldL.K, HoldL.body, Nat.reduceBEq, Nat.reduceAdd, reduceIte]
            refine st1_of (Nat.le_of_ble_eq_true rfl) (by first | rfl | assumption) fun g6 hg => ?_
            have l_g6 := n_set hg
            have S := S.set0 hg
            clear hg
            simp only [sz0, ss0, ts0, tz0, ds0, dz0, ca0, na0, Nat.reduceAdd] at S
            try simp (disch := (first | omega | assumption | (simp only [lc0, ln0, la0]; first | done | omega) | (simp (disch := assumption) only [go_sem, one_as, Nat.reduceBEq]; done) | fail)) only [e6, e7, e10, e21, e22, e23, go_sem, Hold.p, HoldK.k, HoldL.K, HoldL.body, Nat.reduceBEq, Nat.reduceAdd, reduceIte]
            exact ⟨p10, rfl, hdrop (fin hdn S)⟩
          | some b =>
            rw [hnx2] at e12 hdn
            simp only at hdn
            obtain ⟨hb1, hb3⟩ := nextN_lt hnx2
            obtain ⟨q, hq⟩ : ∃ q, st'.l[b]? = some q := ⟨_, List.getElem?_eq_getElem hb3⟩
            obtain ⟨p, vt, hrowb, hbp, _⟩ := qu_at S 2 rfl hq
            have hbp' := hbp.eq
            have e12' : e 12 = .ptr p 0 0 := by rw [e12]; exact ptrOf_some hrowb
            have hdo : dueOf st'.l b = q.due := by unfold dueOf; rw [hq]
            have hqm := hg'.q q (List.mem_of_getElem? hq)
            rw [hdo] at hdn
            have q0 := (S.bx 0 rfl).eq
            try simp (disch := (first | omega | assumption | (simp only [lc0, ln0, la0]; first | done | omega) | (simp (disch := assumption) only [go_sem, one_as, Nat.reduceBEq]; done) | fail)) only [q0, e6, e7, e10, e11, e12', e21, e22, e23, b2, hbp', go_sem, Hold.p, HoldK.k, HoldL.K, HoldL.body, Nat.reduceBEq, Nat.reduceAdd, reduceIte]
            refine test_dec (fun hqe => ?_) (fun hqe => ?_)
            · rw [if_pos hqe] at hdn
              have h1 := rg_now hg' (t := dueOf st'.l b) (by rw [hdo]; exact hqm.2.2.2) (by rw [hdo]; omega)
              obtain ⟨h2, h3, h4⟩ := again_rg (first := first) (servers := servers) (st := { st' with now := dueOf st'.l b }) h1 hq
              have hn1 := hg'.n1
              have hdn' := hg'.dn
              have hsx := hg'.sx
              have htk := sum_mem (fun q : Qn => q.tickets.length) hq
              have hl2 := h2.l
              simp only [tks] at hdn'
              obtain ⟨f', rfl⟩ : ∃ f', f = f' + 1 := by
                cases f with
                | zero =>
                  exfalso
                  have := mu_zero hg' (by omega)
                  rw [this] at hq
                  simp at hq
                | succ f' => exact ⟨f', rfl⟩
              rw [passR_some hdn] at hp
              have q0 := (S.bx 0 rfl).eq
              try simp (disch := (first | omega | assumption | (simp only [lc0, ln0, la0]; first | done | omega) | (simp (disch := assumption) only [go_sem, one_as, Nat.reduceBEq]; done) | fail)) only [q0, e6, e7, e10, e11, e12', e21, e22, e23, hbp', go_sem, Hold.p, HoldK.k, HoldL.K, HoldL.body, Nat.reduceBEq, Nat.reduceAdd, reduceIte]
              refine st1_of (Nat.le_of_ble_eq_true rfl) (by first | rfl | assumption) fun g6 hg => ?_
              have l_g6 := n_set hg
              have S := S.set0 hg
              clear hg
              simp only [sz0, ss0, ts0, tz0, ds0, dz0, ca0, na0, Nat.reduceAdd] at S
              rw [← hdo] at S
              try simp (disch := (first | omega | assumption | (simp only [lc0, ln0, la0]; first | done | omega) | (simp (disch := assumption) only [go_sem, one_as, Nat.reduceBEq]; done) | fail)) only [e6, e7, e10, e11, e12', e21, e22, e23, go_sem, Hold.p, HoldK.k, HoldL.K, HoldL.body, Nat.reduceBEq, Nat.reduceAdd, reduceIte]
              refine callA_of (ask_c (p := p) (st := { st' with now := dueOf st'.l b }) S hv' hq hrowb hf.1 hf.2 hg'.n0 (by show st'.n ≤ 1000000000000; omega) h1.t0 h1.t1 hqm.1 sv0 hl.2 (by show st'.l.length ≤ 1000000; omega) (by show st'.done.length + q.tickets.length ≤ 1000000; omega) (by show st'.sent.length ≤ 1000000; omega) (by have := (okName_ne hqm.2.2.1).2; omega)) ?_
              clear S
              rintro r7 g7 ⟨vl3, vk3, vx3, vd3, rl3, rk3, rx3, rd3, S⟩
              try simp (disch := (first | omega | assumption | (simp only [lc0, ln0, la0]; first | done | omega) | (simp (disch := assumption) only [go_sem, one_as, Nat.reduceBEq]; done) | fail)) only [e6, e7, e10, e11, e12', e21, e22, e23, go_sem, Hold.p, HoldK.k, HoldL.K, HoldL.body, Nat.reduceBEq, Nat.reduceAdd, reduceIte]
              refine callA_of (next_c S (by omega)) ?_
              rintro r8 g8 ⟨rfl, rfl⟩
              try simp (disch := (first | omega | assumption | (simp only [lc0, ln0, la0]; first | done | omega) | (simp (disch := assumption) only [go_sem, one_as, Nat.reduceBEq]; done) | fail)) only [e6, e7, e10, e11, e21, e22, e23, go_sem, Hold.p, HoldK.k, HoldL.K, HoldL.body, Nat.reduceBEq, Nat.reduceAdd, reduceIte]
              exact ⟨_, h3, _, f', vl3, vk3, vx3, vd3, rl3, rk3, rx3, rd3, rfl, h2, rfl, hp, by have h3 : mu (againS first servers { st' with now := dueOf st'.l b } b).l < mu st'.l := h3; omega, S⟩
            · rw [if_neg hqe] at hdn
              have q0 := (S.bx 0 rfl).eq
              try simp (disch := (first | omega | assumption | (simp only [lc0, ln0, la0]; first | done | omega) | (simp (disch := assumption) only [go_sem, one_as, Nat.reduceBEq]; done) | fail)) only [q0, e6, e7, e10, e11, e21, e22, e23, go_sem, Hold.p, HoldK.k, HoldL.K, HoldL.body, Nat.reduceBEq, Nat.reduceAdd, reduceIte]
              refine st1_of (Nat.le_of_ble_eq_true rfl) (by first | rfl | assumption) fun g6 hg => ?_
              have l_g6 := n_set hg
              have S := S.set0 hg
              clear hg
              simp only [sz0, ss0, ts0, tz0, ds0, dz0, ca0, na0, Nat.reduceAdd] at S
              try simp (disch := (first | omega | assumption | (simp only [lc0, ln0, la0]; first | done | omega) | (simp (disch := assumption) only [go_sem, one_as, Nat.reduceBEq]; done) | fail)) only [e6, e7, e10, e21, e22, e23, go_sem, Hold.p, HoldK.k, HoldL.K, HoldL.body, Nat.reduceBEq, Nat.reduceAdd, reduceIte]
              exact ⟨p10, rfl, hdrop (fin hdn S)⟩
    · clear S e6 e7 e21 e22 e23
      have hpc := stepI_cache (first := first) (servers := servers) (t := k) (o := o) hR
      generalize stepI first servers k o (rst st) = P at hsb hru hR' hpc
      rintro e g ⟨p10, e6, e7, e10, e21, e22, e23, vl1, vk1, vx1, vd1, rl1, rk1, rx1, rd1, S⟩
      simp only [CC.split]
      have q0 := (S.bx 0 rfl).eq
      have q9 := (S.bx 9 rfl).eq
      try simp (disch := (first | omega | assumption | (simp only [lc0, ln0, la0]; first | done | omega) | (simp (disch := assumption) only [go_sem, one_as, Nat.reduceBEq]; done) | fail)) only [q0, q9, e6, e7, e10, e21, e22, e23, w1, go_sem, Hold.p, HoldK.k, HoldL.K, HoldL.body, Nat.reduceBEq, Nat.reduceAdd, reduceIte]
      refine st1_of (Nat.le_of_ble_eq_true rfl) (by first | rfl | assumption) fun g2 hg => ?_
      have l_g2 := n_set hg
      have S := S.set0 hg
      clear hg
      simp only [sz0, ss0, ts0, tz0, ds0, dz0, ca0, na0, Nat.reduceAdd] at S
      have q9 := (S.bx 9 rfl).eq
      try simp (disch := (first | omega | assumption | (simp only [lc0, ln0, la0]; first | done | omega) | (simp (disch := assumption) only [go_sem, one_as, Nat.reduceBEq]; done) | fail)) only [q9, e6, e7, e10, e21, e22, e23, go_sem, Hold.p, HoldK.k, HoldL.K, HoldL.body, Nat.reduceBEq, Nat.reduceAdd, reduceIte]
      have W : IS g2 r vs' first ((k + 1 : Nat) : Int) P.1 (box p10 (outOC P.2) :: ints vs' servers :: dat (.slice 54 t_ResolveOut) [vx] (.list (outs.map ooD)) :: [old h]) := ⟨vl1, vk1, vx1, vd1, rl1, rk1, rx1, rd1, S⟩
      refine callA_of (tell_c W hpc) ?_
      clear S W
      rintro r3 g3 ⟨vx5, vd5, rx5, rd5, vl5, vk5, rl5, rk5, rfl, z1, z2, S⟩
      try simp (disch := (first | omega | assumption | (simp only [lc0, ln0, la0]; first | done | omega) | (simp (disch := assumption) only [go_sem, one_as, Nat.reduceBEq]; done) | fail)) only [e6, e7, e10, e21, e22, e23, go_sem, Hold.p, HoldK.k, HoldL.K, HoldL.body, Nat.reduceBEq, Nat.reduceAdd, reduceIte]
      refine Sp.bsl1 S (by first | rfl | (rw [cells_one (by assumption)]; rfl)) (by first | rfl | simp (disch := assumption) only [go_sem, cells_one, one_as]) fun p6 g6 S E_g6 l_g6 => ?_
      try simp only [cells_agg, cells_int, cells_bool, cells_ptr, cells_str] at S
      have q0 := (S.bx 0 rfl).eq
      try simp (disch := (first | omega | assumption | (simp only [lc0, ln0, la0]; first | done | omega) | (simp (disch := assumption) only [go_sem, one_as, Nat.reduceBEq]; done) | fail)) only [q0, e6, e7, e10, e21, e22, e23, go_sem, Hold.p, HoldK.k, HoldL.K, HoldL.body, Nat.reduceBEq, Nat.reduceAdd, reduceIte]
      have S := by simpa only [mc0, mn0, List.getD_cons_zero, List.getD_cons_succ, ds0, dz0, ca0, na0] using Sp.sel S 14 [6, 7, 8, 9, 1, 2, 3, 4, 5, 11, 12, 13] (by simp only [lc0]; omega) (by decide) (by decide)
      have S := oo_dat (o := outOf (freshS P.1, P.2)) S
      have S := by simpa only [mc0, mn0, List.getD_cons_zero, List.getD_cons_succ, ds0, dz0, ca0, na0] using Sp.sel S 8 [7, 0, 1, 2, 3, 4, 5, 6] (by simp only [lc0]; omega) (by decide) (by decide)
      refine Sp.dapp S (by rw [List.length_map]; omega) ?_
      clear S
      intro v14 g14 S z14 c14
      try simp (disch := (first | omega | assumption | (simp only [lc0, ln0, la0]; first | done | omega) | (simp (disch := assumption) only [go_sem, one_as, Nat.reduceBEq]; done) | fail)) only [e6, e7, e10, e21, e22, e23, w1, go_sem, Hold.p, HoldK.k, HoldL.K, HoldL.body, Nat.reduceBEq, Nat.reduceAdd, reduceIte]
      have S := by simpa only [mc0, mn0, List.getD_cons_zero, List.getD_cons_succ, ds0, dz0, ca0, na0] using Sp.sel S 7 [1, 2, 3, 4, 5, 6, 0] (by simp only [lc0]; omega) (by decide) (by decide)
      refine ⟨ops.length - (k + 1), by omega, k + 1, freshS P.1, outs ++ [outOf (freshS P.1, P.2)], v14, vl5, vk5, rl5, rk5, rfl, by omega, rfl, rfl, by simp [hol], ?_, hR', ?_⟩
      · rw [hru]; simp
      · rw [List.map_append]; exact S
  · have hd : ops.drop k = [] := List.drop_eq_nil_of_le (by omega)
    rw [hd, runSt, List.append_nil] at hru
    rw [hru]
    try simp (disch := (first | omega | assumption | (simp only [lc0, ln0, la0]; first | done | omega) | (simp (disch := assumption) only [go_sem, one_as, Nat.reduceBEq]; done) | fail)) only [e7, go_sem, Hold.p, HoldK.k, HoldL.K, HoldL.body, Nat.reduceBEq, Nat.reduceAdd, reduceIte]
    have S := by simpa only [mc0, mn0, List.getD_cons_zero, List.getD_cons_succ, ds0, dz0, ca0, na0] using Sp.sel S 8 [6, 7] (by simp only [lc0]; omega) (by decide) (by decide)
    exact ⟨⟨vx, rfl, S.toOw⟩, S.drop.oldE⟩
end
end Go.Proofs.YtaoffieemecioaaGreatDoor

namespace Go.Proofs.YtaoffieemecioaaGreatDoor
open Go Go.IW
def c3 : CC :=
 (.seq (.reg [
 x0 2 (.box 24 2 (.t 0)),
 p0 4 (.mv (.c (.bool false)))])
 (.seq (.reg [
 p0 5 (.mv (.c (.int .i64 1048576)))])
 (.seq (.reg [
 p0 17 (.ldA 2 (.t 2)),
 p0 18 (.mv (.t 5)),
 x0 19 (.call 4 [(.t 17), (.t 18)]),
 p0 5 (.mv (.t 19))])
 (.seq (.seq (.reg [
 p0 20 (.mv (.t 5)),
 p0 21 (.bin .lss (.t 20) (.c (.int .i64 0)))])
 (.cond (.t 21)
 (.seq (.reg [
 p0 4 (.mv (.c (.bool true)))])
 .ret)
 .skip))
 (.seq (.reg [
 p0 22 (.mv (.t 1)),
 p0 23 (.mv (.t 5)),
 x0 24 (.call 5 [(.t 22), (.t 23)]),
 p0 5 (.mv (.t 24))])
 (.seq (.seq (.reg [
 p0 25 (.mv (.t 5)),
 p0 26 (.bin .lss (.t 25) (.c (.int .i64 0)))])
 (.cond (.t 26)
 (.seq (.reg [
 p0 4 (.mv (.c (.bool true)))])
 .ret)
 .skip))
 (.seq (.reg [
 p0 28 (.ldA 2 (.t 2)),
 x0 29 (.call 7 [(.t 28)]),
 p0 30 (.mv (.t 1)),
 x0 31 (.call 8 [(.t 30)]),
 x0 32 (.call 6 [(.t 29), (.t 31)]),
 p0 27 (.mv (.t 32)),
 p0 33 (.ext 0 (.t 27)),
 p0 34 (.ext 1 (.t 27)),
 p0 6 (.mv (.t 33)),
 p0 7 (.mv (.t 34))])
 (.seq (.reg [
 p0 35 (.ldA 2 (.t 2)),
 x0 36 (.call 7 [(.t 35)]),
 x0 8 (.zero 31 2 [.nilslice, (.int .i64 0)]),
 s0 (.st 2 (.t 8) (.t 36))])
 (.seq (.reg [
 p0 37 (.mv (.t 1)),
 x0 38 (.call 8 [(.t 37)]),
 p0 9 (.mv (.t 38))])
 (.seq (.reg [
 p0 40 (.ldA 2 (.t 8)),
 p0 41 (.mv (.t 9)),
 x0 42 (.call 9 [(.t 40), (.t 41)]),
 p0 39 (.mv (.t 42)),
 p0 43 (.ext 0 (.t 39)),
 p0 44 (.ext 1 (.t 39)),
 p0 10 (.mv (.t 43)),
 p0 11 (.mv (.t 44))])
 (.seq (.seq (.reg [
 p0 45 (.mv (.t 10)),
 p0 46 (.mv (.t 6)),
 x0 47 (.call 10 [(.t 45), (.t 46)]),
 p0 48 (.un .not (.t 47)),
 p0 49 (.mv (.t 48)),
 g0 50 49 false (.mv (.t 11)),
 g0 51 49 false (.mv (.t 7)),
 g0 52 49 false (.bin .neq (.t 50) (.t 51)),
 p0 53 (.pick (.t 49) (.c (.bool true)) (.t 52))])
 (.cond (.t 53)
 (.seq (.reg [
 p0 4 (.mv (.c (.bool false)))])
 .ret)
 .skip))
 (.seq (.seq (.dreg [
 p0 54 (.ldA 2 (.t 8)),
 p0 55 (.ldA 2 (.t 2)),
 x0 56 (.call 7 [(.t 55)]),
 x0 57 (.call 11 [(.t 54), (.t 56)]),
 p0 58 (.un .not (.t 57))]
 [false, false, true, true, false] [[],[],[1],[0,2,1],[3,0,2,1]] [0,1,2,3,4])
 (.cond (.t 58)
 (.seq (.reg [
 p0 4 (.mv (.c (.bool false)))])
 .ret)
 .skip))
 (.seq (.seq (.reg [
 p0 59 (.mv (.t 9)),
 p0 60 (.mv (.t 1)),
 x0 61 (.call 8 [(.t 60)]),
 x0 62 (.call 12 [(.t 59), (.t 61)]),
 p0 63 (.un .not (.t 62))])
 (.cond (.t 63)
 (.seq (.reg [
 p0 4 (.mv (.c (.bool false)))])
 .ret)
 .skip))
 (.seq (.reg [
 p0 12 (.mv (.c (.int .i64 1)))])
 (.seq (.reg [
 p0 64 (.ldA 2 (.t 8)),
 p0 65 (.mv (.t 12)),
 x0 66 (.call 13 [(.t 64), (.t 65)]),
 p0 12 (.mv (.t 66))])
 (.seq (.reg [
 p0 67 (.mv (.t 9)),
 p0 68 (.mv (.t 12)),
 x0 69 (.call 14 [(.t 67), (.t 68)]),
 p0 12 (.mv (.t 69))])
 (.seq (.seq (.reg [
 p0 70 (.mv (.t 12)),
 p0 71 (.bin .lss (.t 70) (.c (.int .i64 0))),
 p0 72 (.mv (.t 71)),
 g0 73 72 false (.mv (.t 10)),
 g0 74 72 false (.mv (.t 6)),
 ⟨(some 75), (some (72, false)), .x (.call 10 [(.t 73), (.t 74)])⟩,
 g0 76 72 false (.un .not (.t 75)),
 p0 77 (.pick (.t 72) (.c (.bool true)) (.t 76)),
 p0 78 (.mv (.t 77)),
 g0 79 78 false (.mv (.t 11)),
 g0 80 78 false (.mv (.t 7)),
 g0 81 78 false (.bin .neq (.t 79) (.t 80)),
 p0 82 (.pick (.t 78) (.c (.bool true)) (.t 81))])
 (.cond (.t 82)
 (.seq (.reg [
 p0 4 (.mv (.c (.bool false)))])
 .ret)
 .skip))
 (.seq (.reg [
 p0 13 (.mv (.c (.int .i64 1)))])
 (.seq (.reg [
 p0 83 (.mv (.t 10)),
 p0 84 (.mv (.t 13)),
 x0 85 (.call 15 [(.t 83), (.t 84)]),
 p0 13 (.mv (.t 85))])
 (.seq (.reg [
 p0 14 (.mv (.c (.int .i64 1)))])
 (.seq (.reg [
 p0 86 (.mv (.t 10)),
 p0 87 (.mv (.t 14)),
 x0 88 (.call 16 [(.t 86), (.t 87)]),
 p0 14 (.mv (.t 88))])
 (.seq (.seq (.reg [
 p0 89 (.mv (.t 14)),
 p0 90 (.bin .lss (.t 89) (.c (.int .i64 0)))])
 (.cond (.t 90)
 (.seq (.reg [
 p0 4 (.mv (.c (.bool false)))])
 .ret)
 .skip))
 (.seq (.seq (.reg [
 p0 91 (.mv (.t 14)),
 p0 92 (.mv (.t 13)),
 p0 93 (.bin .neq (.t 91) (.t 92))])
 (.cond (.t 93)
 (.seq (.reg [
 p0 4 (.mv (.c (.bool false)))])
 .ret)
 .skip))
 (.seq (.reg [
 p0 95 (.ldA 2 (.t 2)),
 x0 96 (.call 7 [(.t 95)]),
 p0 97 (.mv (.t 1)),
 x0 98 (.call 8 [(.t 97)]),
 x0 99 (.call 9 [(.t 96), (.t 98)]),
 p0 94 (.mv (.t 99)),
 p0 100 (.ext 0 (.t 94)),
 p0 101 (.ext 1 (.t 94)),
 p0 15 (.mv (.t 100)),
 p0 16 (.mv (.t 101))])
 (.seq (.seq (.reg [
 p0 102 (.mv (.t 15)),
 p0 103 (.mv (.t 6)),
 x0 104 (.call 10 [(.t 102), (.t 103)]),
 p0 105 (.un .not (.t 104)),
 p0 106 (.mv (.t 105)),
 g0 107 106 false (.mv (.t 16)),
 g0 108 106 false (.mv (.t 7)),
 g0 109 106 false (.bin .neq (.t 107) (.t 108)),
 p0 110 (.pick (.t 106) (.c (.bool true)) (.t 109))])
 (.cond (.t 110)
 (.seq (.reg [
 p0 4 (.mv (.c (.bool false)))])
 .ret)
 .skip))
 (.seq (.reg [
 p0 14 (.mv (.c (.int .i64 1)))])
 (.seq (.reg [
 p0 111 (.mv (.t 10)),
 p0 112 (.mv (.t 14)),
 x0 113 (.call 16 [(.t 111), (.t 112)]),
 p0 14 (.mv (.t 113))])
 (.seq (.seq (.reg [
 p0 114 (.mv (.t 14)),
 p0 115 (.bin .lss (.t 114) (.c (.int .i64 0)))])
 (.cond (.t 115)
 (.seq (.reg [
 p0 4 (.mv (.c (.bool false)))])
 .ret)
 .skip))
 (.seq (.seq (.reg [
 p0 116 (.mv (.t 14)),
 p0 117 (.mv (.t 13)),
 p0 118 (.bin .neq (.t 116) (.t 117))])
 (.cond (.t 118)
 (.seq (.reg [
 p0 4 (.mv (.c (.bool false)))])
 .ret)
 .skip))
 (.seq (.reg [
 p0 4 (.mv (.c (.bool true)))])
 .ret))))))))))))))))))))))))))))))
theorem ok3 : fnComp Tryz.prog 3 = some (119, c3, [(.mv (.t 4))]) := by kernel_rfl

end Go.Proofs.YtaoffieemecioaaGreatDoor

set_option maxRecDepth 20000
namespace Go.Proofs.YtaoffieemecioaaGreatDoor
open Go Go.IW
section
attribute [local go_sem] boxA_1 boxA_2 boxA_3 bslA_1 List.getElem?_cons_zero List.getElem?_cons_succ Option.bind_some List.map_cons List.map_nil Nat.zero_add if_true List.getD_cons_zero List.getD_cons_succ List.contains_cons List.contains_nil Bool.or_true Bool.true_or Bool.or_false Bool.false_or Bool.not_true Bool.not_false true_and and_true rowA_whole mid_get stO_mid rowO_rows cellO_rows push_n set_n push_at push_old set_here set_there set_pushT set_pushN set_set upd_ne Nat.add_assoc Nat.add_zero stO_1s stO_ws boxA_s List.all_cons List.all_nil one_bool one_int one_str one_ptr one_nilptr one_slice one_eslice one_nilslice one_func one_iface one_niliface Bool.and_true Bool.and_self List.length_cons List.length_nil Nat.one_ne_zero Nat.succ_ne_zero if_false List.set_cons_zero List.set_cons_succ lay_nil lay_1 lay_w Option.map_some

structure OoB (o : Oo) : Prop where
  s : o.sent.length ≤ 85
  d : o.done.length ≤ 2001
  sb : ∀ x ∈ o.sent, x.bytes.length ≤ 1000
  da : ∀ x ∈ o.done, x.addrs.length ≤ 8
theorem runSt_out {first : Int} {servers : List Int} : ∀ {ops : List Ro} {k : Nat} {st : Rs}, Ri k st → k + ops.length ≤ 2000 → (∀ o ∈ runSt first servers k st ops, OoB o) ∧ (runSt first servers k st ops).length = ops.length
  | [], _, _, _, _ => ⟨by simp [runSt], rfl⟩
  | o :: ops, k, st, hR, hk => by
    rw [lc0] at hk
    obtain ⟨hR', hB⟩ := stepR_ok (first := first) (servers := servers) (ticket := k) (o := o) hR (by omega)
    obtain ⟨a, b⟩ := runSt_out (first := first) (servers := servers) (ops := ops) hR' (by omega)
    refine ⟨?_, by simp [runSt, b]⟩
    intro x hx
    rw [runSt] at hx
    rcases List.mem_cons.1 hx with rfl | hx
    · have h1 := hB.s
      have h2 := hB.d
      exact ⟨by show (stepR first servers k o st).1.sent.length ≤ 85; omega, by show (stepR first servers k o st).1.done.length ≤ 2001; omega, hB.sb, hB.da⟩
    · exact a x hx
theorem ints_totL (zs : List Int) : totL (zs.map Dat.int) = 0 := by
  induction zs with
  | nil => rfl
  | cons z zs ih => simp [totL, ih, Dat.tot]
theorem intsD_tot (zs : List Int) : (intsD zs).tot = zs.length := by simp [intsD, Dat.tot, ints_totL]
theorem ints_cntL (zs : List Int) : cntL (.int .i64) (zs.map Dat.int) = zs.length := by
  induction zs with
  | nil => rfl
  | cons p r ih => simp only [mc0, cntL, ih]; simp [cntE]; omega
theorem bytes_cntL (bs : List UInt8) : cntL (.int .u8) (bs.map fun b => .int (b.toNat : Int)) = bs.length := by
  induction bs with
  | nil => rfl
  | cons p r ih => simp only [mc0, cntL, ih]; simp [cntE]; omega
theorem sdL_tot : ∀ {l : List Sd}, (∀ x ∈ l, x.bytes.length ≤ 1000) → totL (l.map sdD) ≤ l.length * 1000 ∧ cntL t_ResolveSend (l.map sdD) ≤ l.length * 1001
  | [], _ => by simp [totL, cntL]
  | a :: l, h => by
    have h1 := h a List.mem_cons_self
    obtain ⟨h2, h3⟩ := sdL_tot fun x hx => h x (List.mem_cons_of_mem _ hx)
    simp only [mc0, totL, cntL, lc0, Nat.add_mul, Nat.one_mul, sdD, Dat.tot, bytesD_tot, t_ResolveSend, cntE, bytesD, bytes_cntL] at h2 h3 ⊢
    have hb : (Dat.list (List.map (fun b : UInt8 => Dat.int (b.toNat : Int)) a.bytes)).tot = a.bytes.length := bytesD_tot _
    simp only [Dat.tot] at hb
    omega
theorem dnL_tot : ∀ {l : List Dn}, (∀ x ∈ l, x.addrs.length ≤ 8) → totL (l.map dnD) ≤ l.length * 8 ∧ cntL t_ResolveDone (l.map dnD) ≤ l.length * 10
  | [], _ => by simp [totL, cntL]
  | a :: l, h => by
    have h1 := h a List.mem_cons_self
    obtain ⟨h2, h3⟩ := dnL_tot fun x hx => h x (List.mem_cons_of_mem _ hx)
    simp only [mc0, totL, cntL, lc0, Nat.add_mul, Nat.one_mul, dnD, Dat.tot, intsD, ints_totL, List.length_map, t_ResolveDone, cntE, ints_cntL] at h2 h3 ⊢
    omega
theorem ooD_big {o : Oo} (h : OoB o) : (ooD o).tot ≤ 200000 ∧ cntE t_ResolveOut (ooD o) ≤ 200000 := by
  have h1 := h.s
  have h2 := h.d
  obtain ⟨h3, h4⟩ := sdL_tot h.sb
  obtain ⟨h5, h6⟩ := dnL_tot h.da
  simp only [ooD, Dat.tot, List.length_map, t_ResolveOut, cntE] at h3 h4 h5 h6 ⊢
  have h7 : o.sent.length * 1001 ≤ 85 * 1001 := Nat.mul_le_mul_right _ h1
  have h8 : o.done.length * 10 ≤ 2001 * 10 := Nat.mul_le_mul_right _ h2
  omega
theorem ooL_big : ∀ {l : List Oo}, (∀ o ∈ l, OoB o) → totL (l.map ooD) ≤ l.length * 200000 ∧ cntL t_ResolveOut (l.map ooD) ≤ l.length * 200000
  | [], _ => by simp [totL, cntL]
  | a :: l, h => by
    obtain ⟨h1, h2⟩ := ooD_big (h a List.mem_cons_self)
    obtain ⟨h3, h4⟩ := ooL_big fun o ho => h o (List.mem_cons_of_mem _ ho)
    simp only [mc0, totL, cntL, lc0, Nat.add_mul, Nat.one_mul]
    omega
theorem runR_big (servers : List Int) (first : Int) (ops : List Ro) : (Dat.list ((runR servers first ops).1.map ooD)).tot ≤ 1000000000 ∧ cntW (.slice 54 t_ResolveOut) (Dat.list ((runR servers first ops).1.map ooD)) ≤ 1000000000 := by
  unfold runR
  split
  · simp [Dat.tot, totL, cntW, cntE, cntL]
  · split
    · simp [Dat.tot, totL, cntW, cntE, cntL]
    · obtain ⟨a, b⟩ := runSt_out (first := first) (servers := servers) (ops := ops) (st := st0R) Ri.init (by omega)
      obtain ⟨h1, h2⟩ := ooL_big a
      simp only [Dat.tot, cntW, cntE, List.length_map]
      omega
theorem roL_cnt : ∀ (l : List Ro), cntL t_ResolveOp (l.map roD) ≤ 10 * l.length + totL (l.map roD)
  | [] => by simp [cntL]
  | a :: l => by
    have := roL_cnt l
    rw [mc0, cntL, totL, lc0]
    simp only [t_ResolveOp, roD, cntE, Dat.tot, bytesD, bytes_cntL, List.length_map] at this ⊢
    omega
theorem ros_each {n : Nat} : ∀ {ops : List Ro}, totL (ops.map roD) ≤ n → ∀ o ∈ ops, o.name.length + o.bytes.length ≤ n
  | [], _, o, ho => nomatch ho
  | a :: l, h, o, ho => by
    simp only [mc0, totL, roD, Dat.tot, bytesD_tot] at h
    rcases List.mem_cons.1 ho with rfl | ho
    · omega
    · exact ros_each (ops := l) (by omega) o ho
theorem cfgD_tot (servers : List Int) (first : Int) : (cfgD servers first).tot = servers.length := by simp [cfgD, Dat.tot, intsD_tot]
theorem cfgD_cnt (servers : List Int) (first : Int) : cntW t_ResolveConfig (cfgD servers first) = servers.length := by
  simp [cfgD, t_ResolveConfig, cntW, cntE, intsD, ints_cntL]
set_option maxHeartbeats 4000000 in
theorem lawRunResolve : LawTrue Tryz.prog 3 [(t_ResolveConfig.sh, true), ((Ty.slice 59 t_ResolveOp).sh, false)] := by
  rintro h ivs ha ⟨iv, r, rfl, ⟨cs, rfl, hfc⟩, iv2, r2, rfl, hf, rfl⟩
  obtain ⟨dC, aC, okC', wC⟩ := fits_vw t_ResolveConfig hfc
  obtain ⟨dS, aS, okS', wS⟩ := fits_vw (.slice 59 t_ResolveOp) hf
  obtain ⟨vs, servers, first, rfl, rfl, sC⟩ := cfg_any aC
  obtain ⟨ops, rfl, sO⟩ := ros_any aS wS
  refine icalls (.of ok3) (Nat.le_of_ble_eq_true rfl) ?_
  unfold c3
  have o1 := sC.one
  simp (disch := (first | omega | assumption | (simp only [push_n, set_n, put_n, lc0, ln0, la0, Nat.reduceAdd]; done) | (simp only [push_n, set_n, put_n, lc0, ln0, la0]; omega) | (simp only [List.all_cons, List.all_nil, one_bool, one_int, one_str, one_ptr, one_nilptr, one_slice, one_eslice, one_nilslice, one_func, one_iface, one_niliface, Bool.and_true, Bool.true_and, List.getD_cons_zero, List.getD_cons_succ, List.contains_cons, List.contains_nil, Bool.or_true, Bool.true_or, Bool.or_false, Bool.false_or, Nat.reduceBEq, *]; done) | fail)) only [o1, go_sem, ↓act_zero, Hold.p, HoldK.k, HoldL.K, HoldL.body, Nat.reduceBEq, Nat.reduceAdd, reduceIte]
  generalize hq_g0 : IH.push h (IObj.rows [[vs, .int .i64 first]] 24 2 false) = g0
  have e_g0 : Ext h g0 := by rw [← hq_g0]; exact (Ext.refl _).push _
  have l_g0 : g0.n = h.n + 1 := by rw [← hq_g0]; rfl
  have b0 : At g0 h.n (IObj.rows [[vs, .int .i64 first]] 24 2 false) := by rw [← hq_g0]; exact At.new _ _
  clear hq_g0
  have aC := aC.ext e_g0
  have aS := aS.ext e_g0
  have q0 := b0.eq
  try simp (disch := (first | omega | assumption | (simp only [push_n, set_n, put_n, lc0, ln0, la0, Nat.reduceAdd]; done) | (simp only [push_n, set_n, put_n, lc0, ln0, la0]; omega) | (simp only [List.all_cons, List.all_nil, one_bool, one_int, one_str, one_ptr, one_nilptr, one_slice, one_eslice, one_nilslice, one_func, one_iface, one_niliface, Bool.and_true, Bool.true_and, List.getD_cons_zero, List.getD_cons_succ, List.contains_cons, List.contains_nil, Bool.or_true, Bool.true_or, Bool.or_false, Bool.false_or, Nat.reduceBEq, *]; done) | fail)) only [q0, go_sem, ↓act_zero, Hold.p, HoldK.k, HoldL.K, HoldL.body, Nat.reduceBEq, Nat.reduceAdd, reduceIte]
  refine callA_of (SzC.st szResolveConfig_f rfl (aC.up (by omega)) okC' (by omega)) ?_
  rintro r g1 ⟨⟨L, rfl, hL1, hL2⟩, E1⟩
  have b0 := b0.ext E1
  have aC := aC.ext E1
  have aS := aS.ext E1
  have le_E1 := E1.le
  by_cases hn1 : L < 0
  · have d1 : decide (L < 0) = true := decide_eq_true hn1
    simp (disch := (first | omega | assumption | (simp only [push_n, set_n, put_n, lc0, ln0, la0, Nat.reduceAdd]; done) | (simp only [push_n, set_n, put_n, lc0, ln0, la0]; omega) | (simp only [List.all_cons, List.all_nil, one_bool, one_int, one_str, one_ptr, one_nilptr, one_slice, one_eslice, one_nilslice, one_func, one_iface, one_niliface, Bool.and_true, Bool.true_and, List.getD_cons_zero, List.getD_cons_succ, List.contains_cons, List.contains_nil, Bool.or_true, Bool.true_or, Bool.or_false, Bool.false_or, Nat.reduceBEq, *]; done) | fail)) only [d1, go_sem, ↓act_zero, Hold.p, HoldK.k, HoldL.K, HoldL.body, Nat.reduceBEq, Nat.reduceAdd, reduceIte]
  have d1 : decide (L < 0) = false := decide_eq_false hn1
  have tC := hL2 (by omega)
  rw [cfgD_tot] at tC
  simp (disch := (first | omega | assumption | (simp only [push_n, set_n, put_n, lc0, ln0, la0, Nat.reduceAdd]; done) | (simp only [push_n, set_n, put_n, lc0, ln0, la0]; omega) | (simp only [List.all_cons, List.all_nil, one_bool, one_int, one_str, one_ptr, one_nilptr, one_slice, one_eslice, one_nilslice, one_func, one_iface, one_niliface, Bool.and_true, Bool.true_and, List.getD_cons_zero, List.getD_cons_succ, List.contains_cons, List.contains_nil, Bool.or_true, Bool.true_or, Bool.or_false, Bool.false_or, Nat.reduceBEq, *]; done) | fail)) only [d1, go_sem, ↓act_zero, Hold.p, HoldK.k, HoldL.K, HoldL.body, Nat.reduceBEq, Nat.reduceAdd, reduceIte]
  refine callA_of (SzC.sl szResolveOpS_f (aS.up (by omega)) okS' (by omega)) ?_
  rintro r g1b ⟨⟨L2, rfl, hL3, hL4⟩, E1b⟩
  have b0 := b0.ext E1b
  have aC := aC.ext E1b
  have aS := aS.ext E1b
  have le_E1b := E1b.le
  by_cases hn2 : L2 < 0
  · have d2 : decide (L2 < 0) = true := decide_eq_true hn2
    simp (disch := (first | omega | assumption | (simp only [push_n, set_n, put_n, lc0, ln0, la0, Nat.reduceAdd]; done) | (simp only [push_n, set_n, put_n, lc0, ln0, la0]; omega) | (simp only [List.all_cons, List.all_nil, one_bool, one_int, one_str, one_ptr, one_nilptr, one_slice, one_eslice, one_nilslice, one_func, one_iface, one_niliface, Bool.and_true, Bool.true_and, List.getD_cons_zero, List.getD_cons_succ, List.contains_cons, List.contains_nil, Bool.or_true, Bool.true_or, Bool.or_false, Bool.false_or, Nat.reduceBEq, *]; done) | fail)) only [d2, go_sem, ↓act_zero, Hold.p, HoldK.k, HoldL.K, HoldL.body, Nat.reduceBEq, Nat.reduceAdd, reduceIte]
  have d2 : decide (L2 < 0) = false := decide_eq_false hn2
  have tS := hL4 (by omega)
  have cS := roL_cnt ops
  have hn : ops.length ≤ 1048576 := by simp only [Dat.tot, List.length_map] at tS; omega
  have hsz := ros_each (ops := ops) (n := 1048576) (by simp only [Dat.tot, List.length_map] at tS; omega)
  have tT : (Dat.list (ops.map roD)).tot ≤ 1048576 := by omega
  have cT : cntW (.slice 59 t_ResolveOp) (Dat.list (ops.map roD)) ≤ 100000000 := by simp only [Dat.tot, List.length_map] at tS; simp only [cntW, cntE]; omega
  have tK := cfgD_tot servers first
  have cK := cfgD_cnt servers first
  have hsm : servers.length ≤ 1048576 := by omega
  obtain ⟨tX, cX⟩ := runR_big servers first ops
  have hI : ∀ (g : IH) (vs x : IV), SlR g 1 vs (intRows servers) → RosAt g x ops → ICalls Tryz.prog 9 [.agg [vs, .int .i64 first], x] g fun r h' => RunRes g h' r (runR servers first ops) ∧ Ext g h' := fun g vs x hs hx => implRun_c g vs x servers first ops hs hx hsm hn hsz
  have q0 := b0.eq
  simp (disch := (first | omega | assumption | (simp only [push_n, set_n, put_n, lc0, ln0, la0, Nat.reduceAdd]; done) | (simp only [push_n, set_n, put_n, lc0, ln0, la0]; omega) | (simp only [List.all_cons, List.all_nil, one_bool, one_int, one_str, one_ptr, one_nilptr, one_slice, one_eslice, one_nilslice, one_func, one_iface, one_niliface, Bool.and_true, Bool.true_and, List.getD_cons_zero, List.getD_cons_succ, List.contains_cons, List.contains_nil, Bool.or_true, Bool.true_or, Bool.or_false, Bool.false_or, Nat.reduceBEq, *]; done) | fail)) only [d2, q0, go_sem, ↓act_zero, Hold.p, HoldK.k, HoldL.K, HoldL.body, Nat.reduceBEq, Nat.reduceAdd, reduceIte]
  refine callA_of (ToC.st toResolveConfig_f rfl (aC.up (by omega)) (by omega)) ?_
  rintro r g2 ⟨c2, rfl, t2, E2⟩
  have b0 := b0.ext E2
  have aC := aC.ext E2
  have aS := aS.ext E2
  have le_E2 := E2.le
  obtain ⟨vs2, rfl, sC2⟩ := cfg_vw t2.view
  simp (disch := (first | omega | assumption | (simp only [push_n, set_n, put_n, lc0, ln0, la0, Nat.reduceAdd]; done) | (simp only [push_n, set_n, put_n, lc0, ln0, la0]; omega) | (simp only [List.all_cons, List.all_nil, one_bool, one_int, one_str, one_ptr, one_nilptr, one_slice, one_eslice, one_nilslice, one_func, one_iface, one_niliface, Bool.and_true, Bool.true_and, List.getD_cons_zero, List.getD_cons_succ, List.contains_cons, List.contains_nil, Bool.or_true, Bool.true_or, Bool.or_false, Bool.false_or, Nat.reduceBEq, *]; done) | fail)) only [go_sem, ↓act_zero, Hold.p, HoldK.k, HoldL.K, HoldL.body, Nat.reduceBEq, Nat.reduceAdd, reduceIte]
  refine callA_of (ToC.sl toResolveOpS_f (aS.up (by omega)) (by omega)) ?_
  rintro r g3 ⟨t3, E3⟩
  have b0 := b0.ext E3
  have aC := aC.ext E3
  have aS := aS.ext E3
  have sC2 := sC2.ext E3
  have le_E3 := E3.le
  simp (disch := (first | omega | assumption | (simp only [push_n, set_n, put_n, lc0, ln0, la0, Nat.reduceAdd]; done) | (simp only [push_n, set_n, put_n, lc0, ln0, la0]; omega) | (simp only [List.all_cons, List.all_nil, one_bool, one_int, one_str, one_ptr, one_nilptr, one_slice, one_eslice, one_nilslice, one_func, one_iface, one_niliface, Bool.and_true, Bool.true_and, List.getD_cons_zero, List.getD_cons_succ, List.contains_cons, List.contains_nil, Bool.or_true, Bool.true_or, Bool.or_false, Bool.false_or, Nat.reduceBEq, *]; done) | fail)) only [go_sem, ↓act_zero, Hold.p, HoldK.k, HoldL.K, HoldL.body, Nat.reduceBEq, Nat.reduceAdd, reduceIte]
  refine callA_of (specRun_c g3 vs2 r servers first ops sC2 (ros_vw t3.view wS) hsm hn hsz) ?_
  rintro r g4 ⟨⟨vw, rfl, oW⟩, E4⟩
  have b0 := b0.ext E4
  have aC := aC.ext E4
  have aS := aS.ext E4
  have le_E4 := E4.le
  generalize runR servers first ops = X at oW hI tX cX
  obtain ⟨os, cd⟩ := X
  simp only at oW tX cX
  have q0 := b0.eq
  simp (disch := (first | omega | assumption | (simp only [push_n, set_n, put_n, lc0, ln0, la0, Nat.reduceAdd]; done) | (simp only [push_n, set_n, put_n, lc0, ln0, la0]; omega) | (simp only [List.all_cons, List.all_nil, one_bool, one_int, one_str, one_ptr, one_nilptr, one_slice, one_eslice, one_nilslice, one_func, one_iface, one_niliface, Bool.and_true, Bool.true_and, List.getD_cons_zero, List.getD_cons_succ, List.contains_cons, List.contains_nil, Bool.or_true, Bool.true_or, Bool.or_false, Bool.false_or, Nat.reduceBEq, *]; done) | fail)) only [q0, go_sem, ↓act_zero, Hold.p, HoldK.k, HoldL.K, HoldL.body, Nat.reduceBEq, Nat.reduceAdd, reduceIte]
  refine callA_of (ToC.st toResolveConfig_f rfl (aC.up (by omega)) (by omega)) ?_
  rintro r g5 ⟨c5, rfl, oX, E5⟩
  have b0 := b0.ext E5
  have aC := aC.ext E5
  have aS := aS.ext E5
  have oW := oW.ext E5
  have le_E5 := E5.le
  obtain ⟨vs5, rfl, sC5⟩ := cfg_vw oX.view
  have p1 := sC5.one
  simp (disch := (first | omega | assumption | (simp only [push_n, set_n, put_n, lc0, ln0, la0, Nat.reduceAdd]; done) | (simp only [push_n, set_n, put_n, lc0, ln0, la0]; omega) | (simp only [List.all_cons, List.all_nil, one_bool, one_int, one_str, one_ptr, one_nilptr, one_slice, one_eslice, one_nilslice, one_func, one_iface, one_niliface, Bool.and_true, Bool.true_and, List.getD_cons_zero, List.getD_cons_succ, List.contains_cons, List.contains_nil, Bool.or_true, Bool.true_or, Bool.or_false, Bool.false_or, Nat.reduceBEq, *]; done) | fail)) only [p1, go_sem, ↓act_zero, Hold.p, HoldK.k, HoldL.K, HoldL.body, Nat.reduceBEq, Nat.reduceAdd, reduceIte]
  generalize hq_g6 : IH.push g5 (IObj.rows [[vs5, .int .i64 first]] 31 2 false) = g6
  have e_g6 : Ext g5 g6 := by rw [← hq_g6]; exact (Ext.refl _).push _
  have l_g6 : g6.n = g5.n + 1 := by rw [← hq_g6]; rfl
  have bX : At g6 g5.n (IObj.rows [[vs5, .int .i64 first]] 31 2 false) := by rw [← hq_g6]; exact At.new _ _
  clear hq_g6
  have b0 := b0.ext e_g6
  have aC := aC.ext e_g6
  have aS := aS.ext e_g6
  have oW := oW.ext e_g6
  have oX := oX.ext e_g6
  have sC5 := sC5.ext e_g6
  have qX := bX.eq
  try simp (disch := (first | omega | assumption | (simp only [push_n, set_n, put_n, lc0, ln0, la0, Nat.reduceAdd]; done) | (simp only [push_n, set_n, put_n, lc0, ln0, la0]; omega) | (simp only [List.all_cons, List.all_nil, one_bool, one_int, one_str, one_ptr, one_nilptr, one_slice, one_eslice, one_nilslice, one_func, one_iface, one_niliface, Bool.and_true, Bool.true_and, List.getD_cons_zero, List.getD_cons_succ, List.contains_cons, List.contains_nil, Bool.or_true, Bool.true_or, Bool.or_false, Bool.false_or, Nat.reduceBEq, *]; done) | fail)) only [qX, p1, go_sem, ↓act_zero, Hold.p, HoldK.k, HoldL.K, HoldL.body, Nat.reduceBEq, Nat.reduceAdd, reduceIte]
  refine callA_of (ToC.sl toResolveOpS_f (aS.up (by omega)) (by omega)) ?_
  rintro r g7 ⟨oY, E7⟩
  have b0 := b0.ext E7
  have bX := bX.ext E7
  have aC := aC.ext E7
  have aS := aS.ext E7
  have oW := oW.ext E7
  have oX := oX.ext E7
  have sC5 := sC5.ext E7
  have le_E7 := E7.le
  have qX := bX.eq
  simp (disch := (first | omega | assumption | (simp only [push_n, set_n, put_n, lc0, ln0, la0, Nat.reduceAdd]; done) | (simp only [push_n, set_n, put_n, lc0, ln0, la0]; omega) | (simp only [List.all_cons, List.all_nil, one_bool, one_int, one_str, one_ptr, one_nilptr, one_slice, one_eslice, one_nilslice, one_func, one_iface, one_niliface, Bool.and_true, Bool.true_and, List.getD_cons_zero, List.getD_cons_succ, List.contains_cons, List.contains_nil, Bool.or_true, Bool.true_or, Bool.or_false, Bool.false_or, Nat.reduceBEq, *]; done) | fail)) only [qX, p1, go_sem, ↓act_zero, Hold.p, HoldK.k, HoldL.K, HoldL.body, Nat.reduceBEq, Nat.reduceAdd, reduceIte]
  refine callA_of (hI g7 vs5 r sC5 (ros_vw oY.view wS)) ?_
  rintro r8 g8 ⟨⟨vg, rfl, oG⟩, E8⟩
  have b0 := b0.ext E8
  have bX := bX.ext E8
  have aC := aC.ext E8
  have aS := aS.ext E8
  have oW := oW.ext E8
  have oX := oX.ext E8
  have oY := oY.ext E8
  have le_E8 := E8.le
  simp only at oG
  simp (disch := (first | omega | assumption | (simp only [push_n, set_n, put_n, lc0, ln0, la0, Nat.reduceAdd]; done) | (simp only [push_n, set_n, put_n, lc0, ln0, la0]; omega) | (simp only [List.all_cons, List.all_nil, one_bool, one_int, one_str, one_ptr, one_nilptr, one_slice, one_eslice, one_nilslice, one_func, one_iface, one_niliface, Bool.and_true, Bool.true_and, List.getD_cons_zero, List.getD_cons_succ, List.contains_cons, List.contains_nil, Bool.or_true, Bool.true_or, Bool.or_false, Bool.false_or, Nat.reduceBEq, *]; done) | fail)) only [go_sem, ↓act_zero, Hold.p, HoldK.k, HoldL.K, HoldL.body, Nat.reduceBEq, Nat.reduceAdd, reduceIte]
  refine callA_of (EqC.sl eqResolveOutS_f oG.up oW.up (by omega)) ?_
  rintro r9 g9 ⟨rfl, E9⟩
  have b0 := b0.ext E9
  have bX := bX.ext E9
  have aC := aC.ext E9
  have aS := aS.ext E9
  have oW := oW.ext E9
  have oX := oX.ext E9
  have oY := oY.ext E9
  have oG := oG.ext E9
  have le_E9 := E9.le
  have q0 := b0.eq
  have qX := bX.eq
  simp (disch := (first | omega | assumption | (simp only [push_n, set_n, put_n, lc0, ln0, la0, Nat.reduceAdd]; done) | (simp only [push_n, set_n, put_n, lc0, ln0, la0]; omega) | (simp only [List.all_cons, List.all_nil, one_bool, one_int, one_str, one_ptr, one_nilptr, one_slice, one_eslice, one_nilslice, one_func, one_iface, one_niliface, Bool.and_true, Bool.true_and, List.getD_cons_zero, List.getD_cons_succ, List.contains_cons, List.contains_nil, Bool.or_true, Bool.true_or, Bool.or_false, Bool.false_or, Nat.reduceBEq, *]; done) | fail)) only [q0, qX, decide_true, go_sem, ↓act_zero, Hold.p, HoldK.k, HoldL.K, HoldL.body, Nat.reduceBEq, Nat.reduceAdd, reduceIte]
  refine callA_of (ToC.st toResolveConfig_f rfl (aC.up (by omega)) (by omega)) ?_
  rintro r g10 ⟨c10, rfl, t10, E10⟩
  have b0 := b0.ext E10
  have bX := bX.ext E10
  have aC := aC.ext E10
  have aS := aS.ext E10
  have oW := oW.ext E10
  have oX := oX.ext E10
  have oY := oY.ext E10
  have oG := oG.ext E10
  have le_E10 := E10.le
  have q0 := b0.eq
  have qX := bX.eq
  simp (disch := (first | omega | assumption | (simp only [push_n, set_n, put_n, lc0, ln0, la0, Nat.reduceAdd]; done) | (simp only [push_n, set_n, put_n, lc0, ln0, la0]; omega) | (simp only [List.all_cons, List.all_nil, one_bool, one_int, one_str, one_ptr, one_nilptr, one_slice, one_eslice, one_nilslice, one_func, one_iface, one_niliface, Bool.and_true, Bool.true_and, List.getD_cons_zero, List.getD_cons_succ, List.contains_cons, List.contains_nil, Bool.or_true, Bool.true_or, Bool.or_false, Bool.false_or, Nat.reduceBEq, *]; done) | fail)) only [q0, qX, go_sem, ↓act_zero, Hold.p, HoldK.k, HoldL.K, HoldL.body, Nat.reduceBEq, Nat.reduceAdd, reduceIte]
  refine callA_of (EqC.st eqResolveConfig_f rfl oX.up t10.up (by omega)) ?_
  rintro r g11 ⟨rfl, E11⟩
  have b0 := b0.ext E11
  have bX := bX.ext E11
  have aC := aC.ext E11
  have aS := aS.ext E11
  have oW := oW.ext E11
  have oX := oX.ext E11
  have oY := oY.ext E11
  have oG := oG.ext E11
  have le_E11 := E11.le
  have q0 := b0.eq
  have qX := bX.eq
  simp (disch := (first | omega | assumption | (simp only [push_n, set_n, put_n, lc0, ln0, la0, Nat.reduceAdd]; done) | (simp only [push_n, set_n, put_n, lc0, ln0, la0]; omega) | (simp only [List.all_cons, List.all_nil, one_bool, one_int, one_str, one_ptr, one_nilptr, one_slice, one_eslice, one_nilslice, one_func, one_iface, one_niliface, Bool.and_true, Bool.true_and, List.getD_cons_zero, List.getD_cons_succ, List.contains_cons, List.contains_nil, Bool.or_true, Bool.true_or, Bool.or_false, Bool.false_or, Nat.reduceBEq, *]; done) | fail)) only [q0, qX, decide_true, go_sem, ↓act_zero, Hold.p, HoldK.k, HoldL.K, HoldL.body, Nat.reduceBEq, Nat.reduceAdd, reduceIte]
  refine callA_of (ToC.sl toResolveOpS_f (aS.up (by omega)) (by omega)) ?_
  rintro r g12 ⟨t12, E12⟩
  have b0 := b0.ext E12
  have bX := bX.ext E12
  have aC := aC.ext E12
  have aS := aS.ext E12
  have oW := oW.ext E12
  have oX := oX.ext E12
  have oY := oY.ext E12
  have oG := oG.ext E12
  have le_E12 := E12.le
  simp (disch := (first | omega | assumption | (simp only [push_n, set_n, put_n, lc0, ln0, la0, Nat.reduceAdd]; done) | (simp only [push_n, set_n, put_n, lc0, ln0, la0]; omega) | (simp only [List.all_cons, List.all_nil, one_bool, one_int, one_str, one_ptr, one_nilptr, one_slice, one_eslice, one_nilslice, one_func, one_iface, one_niliface, Bool.and_true, Bool.true_and, List.getD_cons_zero, List.getD_cons_succ, List.contains_cons, List.contains_nil, Bool.or_true, Bool.true_or, Bool.or_false, Bool.false_or, Nat.reduceBEq, *]; done) | fail)) only [go_sem, ↓act_zero, Hold.p, HoldK.k, HoldL.K, HoldL.body, Nat.reduceBEq, Nat.reduceAdd, reduceIte]
  refine callA_of (EqC.sl eqResolveOpS_f oY.up t12.up (by omega)) ?_
  rintro r g13 ⟨rfl, E13⟩
  have b0 := b0.ext E13
  have bX := bX.ext E13
  have aC := aC.ext E13
  have aS := aS.ext E13
  have oW := oW.ext E13
  have oX := oX.ext E13
  have oY := oY.ext E13
  have oG := oG.ext E13
  have le_E13 := E13.le
  have qX := bX.eq
  simp (disch := (first | omega | assumption | (simp only [push_n, set_n, put_n, lc0, ln0, la0, Nat.reduceAdd]; done) | (simp only [push_n, set_n, put_n, lc0, ln0, la0]; omega) | (simp only [List.all_cons, List.all_nil, one_bool, one_int, one_str, one_ptr, one_nilptr, one_slice, one_eslice, one_nilslice, one_func, one_iface, one_niliface, Bool.and_true, Bool.true_and, List.getD_cons_zero, List.getD_cons_succ, List.contains_cons, List.contains_nil, Bool.or_true, Bool.true_or, Bool.or_false, Bool.false_or, Nat.reduceBEq, *]; done) | fail)) only [qX, decide_true, go_sem, ↓act_zero, Hold.p, HoldK.k, HoldL.K, HoldL.body, Nat.reduceBEq, Nat.reduceAdd, reduceIte]
  refine callA_of (MkC.st (k := 1) markResolveConfig_f rfl oX (by omega)) ?_
  rintro r g14 ⟨rfl, oX, T14⟩
  have b0 := b0.trn T14 (by omega)
  have bX := bX.trn T14 (by omega)
  have aC := aC.trn T14 (by omega)
  have aS := aS.trn T14 (by omega)
  have oW := oW.trn T14 (by omega)
  have oY := oY.trn T14 (by omega)
  have oG := oG.trn T14 (by omega)
  have le_T14 := T14.le
  simp (disch := (first | omega | assumption | (simp only [push_n, set_n, put_n, lc0, ln0, la0, Nat.reduceAdd]; done) | (simp only [push_n, set_n, put_n, lc0, ln0, la0]; omega) | (simp only [List.all_cons, List.all_nil, one_bool, one_int, one_str, one_ptr, one_nilptr, one_slice, one_eslice, one_nilslice, one_func, one_iface, one_niliface, Bool.and_true, Bool.true_and, List.getD_cons_zero, List.getD_cons_succ, List.contains_cons, List.contains_nil, Bool.or_true, Bool.true_or, Bool.or_false, Bool.false_or, Nat.reduceBEq, *]; done) | fail)) only [go_sem, ↓act_zero, Hold.p, HoldK.k, HoldL.K, HoldL.body, Nat.reduceBEq, Nat.reduceAdd, reduceIte]
  refine callA_of (MkC.sl (k := 1 + cntW t_ResolveConfig (cfgD servers first)) markResolveOpS_f oY (by omega)) ?_
  rintro r g15 ⟨rfl, oY, T15⟩
  have b0 := b0.trn T15 (by omega)
  have bX := bX.trn T15 (by omega)
  have aC := aC.trn T15 (by omega)
  have aS := aS.trn T15 (by omega)
  have oW := oW.trn T15 (by omega)
  have oG := oG.trn T15 (by omega)
  have le_T15 := T15.le
  have hk : decide (((1 + (cntW t_ResolveConfig (cfgD servers first) + cntW (.slice 59 t_ResolveOp) (Dat.list (ops.map roD))) : Nat) : Int) < 0) = false := decide_eq_false (by omega)
  simp (disch := (first | omega | assumption | (simp only [push_n, set_n, put_n, lc0, ln0, la0, Nat.reduceAdd]; done) | (simp only [push_n, set_n, put_n, lc0, ln0, la0]; omega) | (simp only [List.all_cons, List.all_nil, one_bool, one_int, one_str, one_ptr, one_nilptr, one_slice, one_eslice, one_nilslice, one_func, one_iface, one_niliface, Bool.and_true, Bool.true_and, List.getD_cons_zero, List.getD_cons_succ, List.contains_cons, List.contains_nil, Bool.or_true, Bool.true_or, Bool.or_false, Bool.false_or, Nat.reduceBEq, *]; done) | fail)) only [hk, go_sem, ↓act_zero, Hold.p, HoldK.k, HoldL.K, HoldL.body, Nat.reduceBEq, Nat.reduceAdd, reduceIte]
  refine callA_of (EqC.sl eqResolveOutS_f oG.up oW.up (by omega)) ?_
  rintro r16 g16 ⟨rfl, E16⟩
  have b0 := b0.ext E16
  have aC := aC.ext E16
  have aS := aS.ext E16
  have oW := oW.ext E16
  have oG := oG.ext E16
  have le_E16 := E16.le
  simp (disch := (first | omega | assumption | (simp only [push_n, set_n, put_n, lc0, ln0, la0, Nat.reduceAdd]; done) | (simp only [push_n, set_n, put_n, lc0, ln0, la0]; omega) | (simp only [List.all_cons, List.all_nil, one_bool, one_int, one_str, one_ptr, one_nilptr, one_slice, one_eslice, one_nilslice, one_func, one_iface, one_niliface, Bool.and_true, Bool.true_and, List.getD_cons_zero, List.getD_cons_succ, List.contains_cons, List.contains_nil, Bool.or_true, Bool.true_or, Bool.or_false, Bool.false_or, Nat.reduceBEq, *]; done) | fail)) only [decide_true, go_sem, ↓act_zero, Hold.p, HoldK.k, HoldL.K, HoldL.body, Nat.reduceBEq, Nat.reduceAdd, reduceIte]
  refine callA_of (MkC.sl (k := 1) markResolveOutS_f oG (by omega)) ?_
  rintro r17 g17 ⟨rfl, oG, T17⟩
  have b0 := b0.trn T17 (by omega)
  have aC := aC.trn T17 (by omega)
  have aS := aS.trn T17 (by omega)
  have oW := oW.trn T17 (by omega)
  have le_T17 := T17.le
  simp (disch := (first | omega | assumption | (simp only [push_n, set_n, put_n, lc0, ln0, la0, Nat.reduceAdd]; done) | (simp only [push_n, set_n, put_n, lc0, ln0, la0]; omega) | (simp only [List.all_cons, List.all_nil, one_bool, one_int, one_str, one_ptr, one_nilptr, one_slice, one_eslice, one_nilslice, one_func, one_iface, one_niliface, Bool.and_true, Bool.true_and, List.getD_cons_zero, List.getD_cons_succ, List.contains_cons, List.contains_nil, Bool.or_true, Bool.true_or, Bool.or_false, Bool.false_or, Nat.reduceBEq, *]; done) | fail)) only [go_sem, ↓act_zero, Hold.p, HoldK.k, HoldL.K, HoldL.body, Nat.reduceBEq, Nat.reduceAdd, reduceIte]
  refine callA_of (HdC.sl (k := 1) heldResolveOutS_f oG.up (by omega)) ?_
  rintro r18 g18 ⟨rfl, E18⟩
  have b0 := b0.ext E18
  have aC := aC.ext E18
  have aS := aS.ext E18
  have oW := oW.ext E18
  have oG := oG.ext E18
  have le_E18 := E18.le
  have hq : decide (((1 + cntW (.slice 54 t_ResolveOut) (Dat.list (os.map ooD)) : Nat) : Int) < 0) = false := decide_eq_false (by omega)
  have q0 := b0.eq
  simp (disch := (first | omega | assumption | (simp only [push_n, set_n, put_n, lc0, ln0, la0, Nat.reduceAdd]; done) | (simp only [push_n, set_n, put_n, lc0, ln0, la0]; omega) | (simp only [List.all_cons, List.all_nil, one_bool, one_int, one_str, one_ptr, one_nilptr, one_slice, one_eslice, one_nilslice, one_func, one_iface, one_niliface, Bool.and_true, Bool.true_and, List.getD_cons_zero, List.getD_cons_succ, List.contains_cons, List.contains_nil, Bool.or_true, Bool.true_or, Bool.or_false, Bool.false_or, Nat.reduceBEq, *]; done) | fail)) only [hq, q0, decide_true, go_sem, ↓act_zero, Hold.p, HoldK.k, HoldL.K, HoldL.body, Nat.reduceBEq, Nat.reduceAdd, reduceIte]
  refine callA_of (ToC.st toResolveConfig_f rfl (aC.up (by omega)) (by omega)) ?_
  rintro r g19 ⟨c19, rfl, t19, E19⟩
  have b0 := b0.ext E19
  have aC := aC.ext E19
  have aS := aS.ext E19
  have oW := oW.ext E19
  have oG := oG.ext E19
  have le_E19 := E19.le
  obtain ⟨vs19, rfl, sC19⟩ := cfg_vw t19.view
  simp (disch := (first | omega | assumption | (simp only [push_n, set_n, put_n, lc0, ln0, la0, Nat.reduceAdd]; done) | (simp only [push_n, set_n, put_n, lc0, ln0, la0]; omega) | (simp only [List.all_cons, List.all_nil, one_bool, one_int, one_str, one_ptr, one_nilptr, one_slice, one_eslice, one_nilslice, one_func, one_iface, one_niliface, Bool.and_true, Bool.true_and, List.getD_cons_zero, List.getD_cons_succ, List.contains_cons, List.contains_nil, Bool.or_true, Bool.true_or, Bool.or_false, Bool.false_or, Nat.reduceBEq, *]; done) | fail)) only [go_sem, ↓act_zero, Hold.p, HoldK.k, HoldL.K, HoldL.body, Nat.reduceBEq, Nat.reduceAdd, reduceIte]
  refine callA_of (ToC.sl toResolveOpS_f (aS.up (by omega)) (by omega)) ?_
  rintro r g20 ⟨oZ, E20⟩
  have b0 := b0.ext E20
  have aC := aC.ext E20
  have aS := aS.ext E20
  have oW := oW.ext E20
  have oG := oG.ext E20
  have sC19 := sC19.ext E20
  have le_E20 := E20.le
  simp (disch := (first | omega | assumption | (simp only [push_n, set_n, put_n, lc0, ln0, la0, Nat.reduceAdd]; done) | (simp only [push_n, set_n, put_n, lc0, ln0, la0]; omega) | (simp only [List.all_cons, List.all_nil, one_bool, one_int, one_str, one_ptr, one_nilptr, one_slice, one_eslice, one_nilslice, one_func, one_iface, one_niliface, Bool.and_true, Bool.true_and, List.getD_cons_zero, List.getD_cons_succ, List.contains_cons, List.contains_nil, Bool.or_true, Bool.true_or, Bool.or_false, Bool.false_or, Nat.reduceBEq, *]; done) | fail)) only [go_sem, ↓act_zero, Hold.p, HoldK.k, HoldL.K, HoldL.body, Nat.reduceBEq, Nat.reduceAdd, reduceIte]
  refine callA_of (hI g20 vs19 r sC19 (ros_vw oZ.view wS)) ?_
  rintro r21 g21 ⟨⟨vh, rfl, oH⟩, E21⟩
  have b0 := b0.ext E21
  have aC := aC.ext E21
  have aS := aS.ext E21
  have oW := oW.ext E21
  have oG := oG.ext E21
  have le_E21 := E21.le
  simp only at oH
  simp (disch := (first | omega | assumption | (simp only [push_n, set_n, put_n, lc0, ln0, la0, Nat.reduceAdd]; done) | (simp only [push_n, set_n, put_n, lc0, ln0, la0]; omega) | (simp only [List.all_cons, List.all_nil, one_bool, one_int, one_str, one_ptr, one_nilptr, one_slice, one_eslice, one_nilslice, one_func, one_iface, one_niliface, Bool.and_true, Bool.true_and, List.getD_cons_zero, List.getD_cons_succ, List.contains_cons, List.contains_nil, Bool.or_true, Bool.true_or, Bool.or_false, Bool.false_or, Nat.reduceBEq, *]; done) | fail)) only [go_sem, ↓act_zero, Hold.p, HoldK.k, HoldL.K, HoldL.body, Nat.reduceBEq, Nat.reduceAdd, reduceIte]
  refine callA_of (EqC.sl eqResolveOutS_f oH.up oW.up (by omega)) ?_
  rintro r22 g22 ⟨rfl, E22⟩
  have oG := oG.ext E22
  have le_E22 := E22.le
  simp (disch := (first | omega | assumption | (simp only [push_n, set_n, put_n, lc0, ln0, la0, Nat.reduceAdd]; done) | (simp only [push_n, set_n, put_n, lc0, ln0, la0]; omega) | (simp only [List.all_cons, List.all_nil, one_bool, one_int, one_str, one_ptr, one_nilptr, one_slice, one_eslice, one_nilslice, one_func, one_iface, one_niliface, Bool.and_true, Bool.true_and, List.getD_cons_zero, List.getD_cons_succ, List.contains_cons, List.contains_nil, Bool.or_true, Bool.true_or, Bool.or_false, Bool.false_or, Nat.reduceBEq, *]; done) | fail)) only [decide_true, go_sem, ↓act_zero, Hold.p, HoldK.k, HoldL.K, HoldL.body, Nat.reduceBEq, Nat.reduceAdd, reduceIte]
  refine callA_of (HdC.sl (k := 1) heldResolveOutS_f oG.up (by omega)) ?_
  rintro r23 g23 ⟨rfl, E23⟩
  simp (disch := (first | omega | assumption | (simp only [push_n, set_n, put_n, lc0, ln0, la0, Nat.reduceAdd]; done) | (simp only [push_n, set_n, put_n, lc0, ln0, la0]; omega) | (simp only [List.all_cons, List.all_nil, one_bool, one_int, one_str, one_ptr, one_nilptr, one_slice, one_eslice, one_nilslice, one_func, one_iface, one_niliface, Bool.and_true, Bool.true_and, List.getD_cons_zero, List.getD_cons_succ, List.contains_cons, List.contains_nil, Bool.or_true, Bool.true_or, Bool.or_false, Bool.false_or, Nat.reduceBEq, *]; done) | fail)) only [hq, decide_true, go_sem, ↓act_zero, Hold.p, HoldK.k, HoldL.K, HoldL.body, Nat.reduceBEq, Nat.reduceAdd, reduceIte]
end
end Go.Proofs.YtaoffieemecioaaGreatDoor
