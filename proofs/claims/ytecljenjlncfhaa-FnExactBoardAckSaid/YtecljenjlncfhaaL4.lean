import Derived.Test.YtecljenjlncfhaaL3
import Derived.Test.YtecljenjlncfhaaK2
set_option linter.unusedSimpArgs false
set_option linter.unusedVariables false
namespace Go.Proofs.Ytecljenjlncfhaa
open Go Go.IW

/-- Nothing old has turned but one object. -/
structure Sav (b : Nat) (h g : IH) : Prop where
  le : h.n ≤ g.n
  obj : ∀ m, m < h.n → m ≠ b → g.obj m = h.obj m
theorem Sav.ext {b : Nat} {h g g' : IH} (s : Sav b h g) (E : Ext g g') : Sav b h g' := ⟨Nat.le_trans s.le E.le, fun m hm hb => (E.obj m (Nat.lt_of_lt_of_le hm s.le)).trans (s.obj m hm hb)⟩
theorem Sav.set {b l : Nat} {h g : IH} (s : Sav b h g) (hl : h.n ≤ l ∨ l = b) (o : IObj) : Sav b h (g.set l o) := ⟨s.le, fun m hm hb => (set_there _ _ _ _ (by omega)).trans (s.obj m hm hb)⟩
theorem Sav.sl {b : Nat} {h g : IH} (s : Sav b h g) {sz : Nat} {v : IV} {rs : List (List IV)} (hs : SlR h sz v rs) (hb : ∀ l i n, v = .slice l i n → l ≠ b) : SlR g sz v rs :=
  hs.same s.le fun l i n hv => s.obj l (hs.lt l i n hv) (hb l i n hv)
theorem ackF_pre {ack nxt : Int} {ss : List Str} {ps : List Piece} (h : ∀ p ∈ ps, p.to ≤ ack) : (ackF ack nxt ss ps).1 = [] ∧ (ackF ack nxt ss ps).2.1 = 0 := by
  have key : ∀ (ps : List Piece) (st : List Piece × Int × Int), (∀ p ∈ ps, p.to ≤ ack) → (ps.foldl (ackS ack nxt ss) st).1 = st.1 ∧ (ps.foldl (ackS ack nxt ss) st).2.1 = st.2.1 := by
    intro ps
    induction ps with
    | nil => intro st _; exact ⟨rfl, rfl⟩
    | cons p ps ih =>
      intro st hp
      have := ih (ackS ack nxt ss st p) (fun q hq => hp q (List.mem_cons_of_mem _ hq))
      rw [List.foldl_cons, this.1, this.2]
      unfold ackS
      rw [if_pos (hp p List.mem_cons_self)]
      exact ⟨rfl, rfl⟩
  exact key ps _ h

/-- A piece that begins where the acknowledgement ends, at the earliest. -/
def fx (ack : Int) (p : Piece) : Piece := ⟨max p.fr ack, p.to, p.at_, p.times, p.sacked, p.lost⟩
def fixH (ack : Int) : List Piece → List Piece
  | [] => []
  | p :: r => ⟨ack, p.to, p.at_, p.times, p.sacked, p.lost⟩ :: r
def curC (ack nxt : Int) (ss : List Str) (q : Piece) : Bool := !q.sacked && within ack nxt q.fr q.to ss
def curQ (ack nxt : Int) (ss : List Str) (q : Piece) : Piece := if curC ack nxt ss q = true then ⟨q.fr, q.to, q.at_, q.times, true, false⟩ else q
def curD (ack nxt : Int) (ss : List Str) (q : Piece) : Int := if curC ack nxt ss q = true then q.to - q.fr else 0
theorem ackQ_fx (ack nxt : Int) (ss : List Str) (p : Piece) : ackQ ack nxt ss p = curQ ack nxt ss (fx ack p) ∧ ackD ack nxt ss p = curD ack nxt ss (fx ack p) := ⟨rfl, rfl⟩
theorem okPs_tail {nxt : Int} : ∀ {at_ : Int} {ps : List Piece} (k : Nat), okPs nxt at_ ps = true → ∃ at', okPs nxt at' (ps.drop k) = true ∧ (k = 0 ∧ at' = at_ ∨ ∃ p, ps.take k ≠ [] ∧ p ∈ ps.take k ∧ at' = p.to ∨ ps.length < k)
  | at_, ps, 0, h => ⟨at_, by simpa using h, .inl ⟨rfl, rfl⟩⟩
  | at_, [], k + 1, h => ⟨at_, by simpa using h, .inr ⟨⟨0, 0, 0, 0, false, false⟩, .inr (by simp)⟩⟩
  | at_, p :: ps, k + 1, h => by
    simp only [okPs, Bool.and_eq_true] at h
    obtain ⟨at', h1, h2⟩ := okPs_tail k h.2
    refine ⟨at', by simpa using h1, ?_⟩
    rcases h2 with ⟨rfl, rfl⟩ | ⟨q, ⟨h2, h3, h4⟩ | h2⟩
    · exact .inr ⟨p, .inl ⟨by simp, by simp, rfl⟩⟩
    · exact .inr ⟨q, .inl ⟨by simp, by simp [h3], h4⟩⟩
    · exact .inr ⟨p, .inr (by simp; omega)⟩
theorem fix_all {nxt ack : Int} : ∀ {at_ : Int} {ps : List Piece}, okPs nxt at_ ps = true → at_ ≤ ack → (∀ p, ps[0]? = some p → ack < p.to) → fixH ack ps = ps.map (fx ack)
  | _, [], _, _, _ => rfl
  | at_, p :: r, h, ha, hn => by
    simp only [okPs, Bool.and_eq_true, decide_eq_true_eq] at h
    have hp := hn p rfl
    obtain ⟨_, hb, _⟩ := okPs_bound h.2
    show _ :: r = fx ack p :: r.map (fx ack)
    congr 1
    · unfold fx
      rw [show max p.fr ack = ack by omega]
    · have : r.map (fx ack) = r.map id := List.map_congr_left fun q hq => by
        have := hb q hq
        unfold fx
        rw [show max q.fr ack = q.fr by omega]; rfl
      rw [this, List.map_id]
theorem ackF_post {ack nxt : Int} {ss : List Str} {ps : List Piece} (h : ∀ p ∈ ps, ack < p.to) : ∀ (st : List Piece × Int × Int), ps.foldl (ackS ack nxt ss) st = (st.1 ++ ps.map (ackQ ack nxt ss), st.2.1 + (ps.map (ackD ack nxt ss)).sum, st.2.2) := by
  induction ps with
  | nil => intro st; simp
  | cons p ps ih =>
    intro st
    rw [List.foldl_cons, ih (fun q hq => h q (List.mem_cons_of_mem _ hq))]
    have : ¬ p.to ≤ ack := by have := h p List.mem_cons_self; omega
    unfold ackS
    rw [if_neg this]
    simp [Int.add_assoc]
theorem ackF_split {ack nxt : Int} {ss : List Str} {ps : List Piece} {k : Nat} (h1 : ∀ p ∈ ps.take k, p.to ≤ ack) (h2 : ∀ p ∈ ps.drop k, ack < p.to) :
    ackF ack nxt ss ps = ((ps.drop k).map (ackQ ack nxt ss), ((ps.drop k).map (ackD ack nxt ss)).sum, (ackF ack nxt ss (ps.take k)).2.2) := by
  obtain ⟨a1, a2⟩ := ackF_pre (nxt := nxt) (ss := ss) h1
  have : ackF ack nxt ss ps = (ps.drop k).foldl (ackS ack nxt ss) (ackF ack nxt ss (ps.take k)) := by
    unfold ackF; rw [← List.foldl_append, List.take_append_drop]
  rw [this, ackF_post h2, a1, a2]
  simp

theorem post_all {nxt ack at_ : Int} {ps : List Piece} (h : okPs nxt at_ ps = true) (hn : ∀ p, ps[0]? = some p → ack < p.to) : ∀ p ∈ ps, ack < p.to := by
  cases ps with
  | nil => simp
  | cons p r =>
    simp only [okPs, Bool.and_eq_true, decide_eq_true_eq] at h
    have hp := hn p rfl
    obtain ⟨_, hb, _⟩ := okPs_bound h.2
    intro q hq
    rcases List.mem_cons.1 hq with rfl | hq
    · exact hp
    · have := hb q hq; omega
theorem curC_succ {ack nxt : Int} {ss : List Str} {j : Nat} {x : Str} (h : ss[j]? = some x) (q : Piece) : curC ack nxt (ss.take (j + 1)) q = (!q.sacked && (within ack nxt q.fr q.to (ss.take j) || in1 ack nxt q.fr q.to x)) := by
  unfold curC within
  rw [List.take_add_one, h]; simp
theorem within_succ {una nxt fr to : Int} {ss : List Str} {j : Nat} {x : Str} (h : ss[j]? = some x) : within una nxt fr to (ss.take (j + 1)) = (within una nxt fr to (ss.take j) || in1 una nxt fr to x) := by
  unfold within
  rw [List.take_add_one, h]; simp

set_option maxRecDepth 20000 in
set_option maxHeartbeats 1000000 in
theorem ack_c (h : IH) (b e0 : Nat) (v w : IV) (una nxt ack : Int) (ps : List Piece) (ss : List Str) (hb : At h b (.rows [[.int .i64 una, .int .i64 nxt, v]] e0 3 false)) (hs : SlR h 6 v (ps.map Piece.row)) (hw : SlR h 2 w (ss.map Str.row))
    (hok : okPs nxt una ps = true) (h0 : 0 ≤ una) (h1 : una ≤ ack) (h2 : ack ≤ nxt) (h3 : nxt ≤ 1099511627776) (hpl : ps.length ≤ 4096) (hsl : ss.length ≤ 3) (bv : ∀ l i n, v = .slice l i n → l ≠ b) (bw : ∀ l i n, w = .slice l i n → l ≠ b) :
    ICalls Try.prog 84 [.ptr b 0 0, .int .i64 ack, w] h fun r h' => r = .agg [.int .i64 (ack - una), .int .i64 (ackF ack nxt ss ps).2.1, .int .i64 (ackF ack nxt ss ps).2.2] ∧
      ∃ v', At h' b (.rows [[.int .i64 ack, .int .i64 nxt, v']] e0 3 false) ∧ Own h.n h'.n h' 113 6 v' ((ackF ack nxt ss ps).1.map Piece.row) ∧ Sav b h h' := by
  refine icalls (.of ok84) (Nat.le_of_ble_eq_true rfl) ?_
  unfold c84
  have hv1 := hs.one
  have hlv := hs.lenF
  have hlw := hw.lenF
  rw [List.length_map] at hlv hlw
  have hbl := hb.lt
  have hbe := hb.eq
  obtain ⟨_, heach, _⟩ := okPs_bound hok
  have w0 : wr .i64 (ack - una) = ack - una := wr64 _ (by omega)
  refine vc_split 5 (fun e g => ∃ k, k ≤ ps.length ∧ e 0 = .ptr b 0 0 ∧ e 1 = .int .i64 ack ∧ e 2 = w ∧ e 6 = .ptr h.n 0 0 ∧ e 7 = .ptr (h.n + 1) 0 0 ∧ e 8 = .int .i64 (k : Nat) ∧ (∀ p ∈ ps.take k, p.to ≤ ack) ∧ (∀ p, ps[k]? = some p → ack < p.to) ∧
    Sav b h g ∧ h.n + 2 ≤ g.n ∧ At g b (.rows [[.int .i64 ack, .int .i64 nxt, v]] e0 3 false) ∧ At g h.n (.rows [[.int .i64 0, .int .i64 0, .int .i64 0]] 55 3 false) ∧ At g (h.n + 1) (.rows [[.int .i64 (ack - una), .int .i64 0, .int .i64 (ackF ack nxt ss (ps.take k)).2.2]] 55 3 false)) ?_ ?_
  · simp only [CC.split]
    simp (disch := (first | omega | assumption | (simp only [push_n, set_n, put_n, List.length_cons, List.length_nil, List.length_append, Nat.reduceAdd]; done) | (simp only [push_n, set_n, put_n, List.length_cons, List.length_nil, List.length_append]; omega) | (simp only [List.all_cons, List.all_nil, one_bool, one_int, one_str, one_ptr, one_nilptr, one_slice, one_eslice, one_nilslice, one_func, one_iface, one_niliface, Bool.and_true, Bool.true_and, List.getD_cons_zero, List.getD_cons_succ, List.contains_cons, List.contains_nil, Bool.or_true, Bool.true_or, Bool.or_false, Bool.false_or, Nat.reduceBEq, *]; done) | fail)) only [hbe, w0, go_sem, Hold.p, HoldK.k, HoldL.K, HoldL.body, Nat.reduceBEq, Nat.reduceAdd, List.getElem?_cons_zero, List.getElem?_cons_succ, Option.bind_some, List.map_cons, List.map_nil, Nat.zero_add, if_true, List.getD_cons_zero, List.getD_cons_succ, List.contains_cons, List.contains_nil, Nat.reduceBEq, Bool.or_true, Bool.true_or, Bool.or_false, Bool.false_or, Bool.not_true, Bool.not_false, true_and, and_true, rowA_whole, mid_get, stO_mid, rowO_rows, cellO_rows, push_n, set_n, push_at, push_old, set_here, set_there, set_pushT, set_pushN, set_set, upd_ne, Nat.add_assoc, Nat.reduceAdd, Nat.add_zero, stO_1s, stO_ws, boxA_s, List.all_cons, List.all_nil, one_bool, one_int, one_str, one_ptr, one_nilptr, one_slice, one_eslice, one_nilslice, one_func, one_iface, one_niliface, Bool.and_true, Bool.and_self, List.length_cons, List.length_nil, Nat.one_ne_zero, Nat.succ_ne_zero, reduceIte, if_false, List.getElem?_cons_zero, List.set_cons_zero, List.set_cons_succ, lay_nil, lay_1, lay_w, Option.map_some]
    refine loop_at (fun n e g => ∃ k, n = ps.length - k ∧ k ≤ ps.length ∧ e 0 = .ptr b 0 0 ∧ e 1 = .int .i64 ack ∧ e 2 = w ∧ e 6 = .ptr h.n 0 0 ∧ e 7 = .ptr (h.n + 1) 0 0 ∧ e 8 = .int .i64 (k : Nat) ∧ (∀ p ∈ ps.take k, p.to ≤ ack) ∧
      Sav b h g ∧ h.n + 2 ≤ g.n ∧ At g b (.rows [[.int .i64 ack, .int .i64 nxt, v]] e0 3 false) ∧ At g h.n (.rows [[.int .i64 0, .int .i64 0, .int .i64 0]] 55 3 false) ∧ At g (h.n + 1) (.rows [[.int .i64 (ack - una), .int .i64 0, .int .i64 (ackF ack nxt ss (ps.take k)).2.2]] 55 3 false)) ps.length ?_ ?_
    · refine ⟨0, by omega, by omega, ?_⟩
      simp (disch := (first | omega | assumption | (simp only [push_n, set_n, put_n, List.length_cons, List.length_nil, List.length_append, Nat.reduceAdd]; done) | (simp only [push_n, set_n, put_n, List.length_cons, List.length_nil, List.length_append]; omega) | (simp only [List.all_cons, List.all_nil, one_bool, one_int, one_str, one_ptr, one_nilptr, one_slice, one_eslice, one_nilslice, one_func, one_iface, one_niliface, Bool.and_true, Bool.true_and, List.getD_cons_zero, List.getD_cons_succ, List.contains_cons, List.contains_nil, Bool.or_true, Bool.true_or, Bool.or_false, Bool.false_or, Nat.reduceBEq, *]; done) | fail)) only [List.take_zero, go_sem, Hold.p, HoldK.k, HoldL.K, HoldL.body, Nat.reduceBEq, Nat.reduceAdd, List.getElem?_cons_zero, List.getElem?_cons_succ, Option.bind_some, List.map_cons, List.map_nil, Nat.zero_add, if_true, List.getD_cons_zero, List.getD_cons_succ, List.contains_cons, List.contains_nil, Nat.reduceBEq, Bool.or_true, Bool.true_or, Bool.or_false, Bool.false_or, Bool.not_true, Bool.not_false, true_and, and_true, rowA_whole, mid_get, stO_mid, rowO_rows, cellO_rows, push_n, set_n, push_at, push_old, set_here, set_there, set_pushT, set_pushN, set_set, upd_ne, Nat.add_assoc, Nat.reduceAdd, Nat.add_zero, stO_1s, stO_ws, boxA_s, List.all_cons, List.all_nil, one_bool, one_int, one_str, one_ptr, one_nilptr, one_slice, one_eslice, one_nilslice, one_func, one_iface, one_niliface, Bool.and_true, Bool.and_self, List.length_cons, List.length_nil, Nat.one_ne_zero, Nat.succ_ne_zero, reduceIte, if_false, List.getElem?_cons_zero, List.set_cons_zero, List.set_cons_succ, lay_nil, lay_1, lay_w, Option.map_some]
      exact ⟨rfl, fun p hp => by simp at hp, ((((⟨Nat.le_refl _, fun _ _ _ => rfl⟩ : Sav b h h).set (.inr rfl) _).ext ((Ext.refl _).push _)).ext ((Ext.refl _).push _)), Nat.le_refl _, ⟨by (first | omega | (simp only [push_n, set_n]; omega)), by (first | rfl | simp (disch := (first | omega | assumption | (simp only [push_n, set_n, put_n, List.length_cons, List.length_nil, List.length_append, Nat.reduceAdd]; done) | (simp only [push_n, set_n, put_n, List.length_cons, List.length_nil, List.length_append]; omega) | (simp only [List.all_cons, List.all_nil, one_bool, one_int, one_str, one_ptr, one_nilptr, one_slice, one_eslice, one_nilslice, one_func, one_iface, one_niliface, Bool.and_true, Bool.true_and, List.getD_cons_zero, List.getD_cons_succ, List.contains_cons, List.contains_nil, Bool.or_true, Bool.true_or, Bool.or_false, Bool.false_or, Nat.reduceBEq, *]; done) | fail)) only [push_n, set_n, push_at, push_old, set_here, set_there, Nat.add_assoc, Nat.reduceAdd])⟩, ⟨by (first | omega | (simp only [push_n, set_n]; omega)), by (first | rfl | simp (disch := (first | omega | assumption | (simp only [push_n, set_n, put_n, List.length_cons, List.length_nil, List.length_append, Nat.reduceAdd]; done) | (simp only [push_n, set_n, put_n, List.length_cons, List.length_nil, List.length_append]; omega) | (simp only [List.all_cons, List.all_nil, one_bool, one_int, one_str, one_ptr, one_nilptr, one_slice, one_eslice, one_nilslice, one_func, one_iface, one_niliface, Bool.and_true, Bool.true_and, List.getD_cons_zero, List.getD_cons_succ, List.contains_cons, List.contains_nil, Bool.or_true, Bool.true_or, Bool.or_false, Bool.false_or, Nat.reduceBEq, *]; done) | fail)) only [push_n, set_n, push_at, push_old, set_here, set_there, Nat.add_assoc, Nat.reduceAdd])⟩, by rw [show ackF ack nxt ss [] = ([], 0, -1) from rfl]; exact ⟨by (first | omega | (simp only [push_n, set_n]; omega)), by (first | rfl | simp (disch := (first | omega | assumption | (simp only [push_n, set_n, put_n, List.length_cons, List.length_nil, List.length_append, Nat.reduceAdd]; done) | (simp only [push_n, set_n, put_n, List.length_cons, List.length_nil, List.length_append]; omega) | (simp only [List.all_cons, List.all_nil, one_bool, one_int, one_str, one_ptr, one_nilptr, one_slice, one_eslice, one_nilslice, one_func, one_iface, one_niliface, Bool.and_true, Bool.true_and, List.getD_cons_zero, List.getD_cons_succ, List.contains_cons, List.contains_nil, Bool.or_true, Bool.true_or, Bool.or_false, Bool.false_or, Nat.reduceBEq, *]; done) | fail)) only [push_n, set_n, push_at, push_old, set_here, set_there, Nat.add_assoc, Nat.reduceAdd])⟩⟩
    · rintro n e g ⟨k, rfl, hk, i0, i1, i2, i6, i7, i8, hpre, S, hgn, a0, a1, a2⟩
      have q0 := a0.eq
      have q2 := a2.eq
      by_cases hlt : k < ps.length
      rotate_left
      · have d1 : decide ((k : Int) < (ps.length : Int)) = false := decide_eq_false (by omega)
        simp (disch := (first | omega | assumption | (simp only [push_n, set_n, put_n, List.length_cons, List.length_nil, List.length_append, Nat.reduceAdd]; done) | (simp only [push_n, set_n, put_n, List.length_cons, List.length_nil, List.length_append]; omega) | (simp only [List.all_cons, List.all_nil, one_bool, one_int, one_str, one_ptr, one_nilptr, one_slice, one_eslice, one_nilslice, one_func, one_iface, one_niliface, Bool.and_true, Bool.true_and, List.getD_cons_zero, List.getD_cons_succ, List.contains_cons, List.contains_nil, Bool.or_true, Bool.true_or, Bool.or_false, Bool.false_or, Nat.reduceBEq, *]; done) | fail)) only [i0, i1, i2, i6, i7, i8, q0, hlv, d1, go_sem, Hold.p, HoldK.k, HoldL.K, HoldL.body, Nat.reduceBEq, Nat.reduceAdd, List.getElem?_cons_zero, List.getElem?_cons_succ, Option.bind_some, List.map_cons, List.map_nil, Nat.zero_add, if_true, List.getD_cons_zero, List.getD_cons_succ, List.contains_cons, List.contains_nil, Nat.reduceBEq, Bool.or_true, Bool.true_or, Bool.or_false, Bool.false_or, Bool.not_true, Bool.not_false, true_and, and_true, rowA_whole, mid_get, stO_mid, rowO_rows, cellO_rows, push_n, set_n, push_at, push_old, set_here, set_there, set_pushT, set_pushN, set_set, upd_ne, Nat.add_assoc, Nat.reduceAdd, Nat.add_zero, stO_1s, stO_ws, boxA_s, List.all_cons, List.all_nil, one_bool, one_int, one_str, one_ptr, one_nilptr, one_slice, one_eslice, one_nilslice, one_func, one_iface, one_niliface, Bool.and_true, Bool.and_self, List.length_cons, List.length_nil, Nat.one_ne_zero, Nat.succ_ne_zero, reduceIte, if_false, List.getElem?_cons_zero, List.set_cons_zero, List.set_cons_succ, lay_nil, lay_1, lay_w, Option.map_some]
        exact ⟨k, hk, rfl, hpre, fun p hp => by have := (List.getElem?_eq_some_iff.1 hp).1; omega, S, hgn, a0, a1, a2⟩
      have d1 : decide ((k : Int) < (ps.length : Int)) = true := decide_eq_true (by omega)
      have hkp : ps[k]? = some ps[k] := List.getElem?_eq_getElem hlt
      have hmem : ps[k] ∈ ps := List.getElem_mem hlt
      generalize ps[k] = p at hkp hmem
      have hs' := S.sl hs bv
      obtain ⟨l, j, hia, hll, hrow⟩ := hs'.at (m := k) (row := p.row) (by rw [List.getElem?_map, hkp]; rfl) .i64
      have hpr : p.row = [.int .i64 p.fr, .int .i64 p.to, .int .i64 p.at_, .int .i64 p.times, .bool p.sacked, .bool p.lost] := rfl
      rw [hpr] at hrow
      have hc := cellO_row hrow
      simp (disch := (first | omega | assumption | (simp only [push_n, set_n, put_n, List.length_cons, List.length_nil, List.length_append, Nat.reduceAdd]; done) | (simp only [push_n, set_n, put_n, List.length_cons, List.length_nil, List.length_append]; omega) | (simp only [List.all_cons, List.all_nil, one_bool, one_int, one_str, one_ptr, one_nilptr, one_slice, one_eslice, one_nilslice, one_func, one_iface, one_niliface, Bool.and_true, Bool.true_and, List.getD_cons_zero, List.getD_cons_succ, List.contains_cons, List.contains_nil, Bool.or_true, Bool.true_or, Bool.or_false, Bool.false_or, Nat.reduceBEq, *]; done) | fail)) only [i0, i1, i2, i6, i7, i8, q0, hlv, d1, hia, hc, go_sem, Hold.p, HoldK.k, HoldL.K, HoldL.body, Nat.reduceBEq, Nat.reduceAdd, List.getElem?_cons_zero, List.getElem?_cons_succ, Option.bind_some, List.map_cons, List.map_nil, Nat.zero_add, if_true, List.getD_cons_zero, List.getD_cons_succ, List.contains_cons, List.contains_nil, Nat.reduceBEq, Bool.or_true, Bool.true_or, Bool.or_false, Bool.false_or, Bool.not_true, Bool.not_false, true_and, and_true, rowA_whole, mid_get, stO_mid, rowO_rows, cellO_rows, push_n, set_n, push_at, push_old, set_here, set_there, set_pushT, set_pushN, set_set, upd_ne, Nat.add_assoc, Nat.reduceAdd, Nat.add_zero, stO_1s, stO_ws, boxA_s, List.all_cons, List.all_nil, one_bool, one_int, one_str, one_ptr, one_nilptr, one_slice, one_eslice, one_nilslice, one_func, one_iface, one_niliface, Bool.and_true, Bool.and_self, List.length_cons, List.length_nil, Nat.one_ne_zero, Nat.succ_ne_zero, reduceIte, if_false, List.getElem?_cons_zero, List.set_cons_zero, List.set_cons_succ, lay_nil, lay_1, lay_w, Option.map_some]
      refine test_dec (fun hto => ?_) (fun hto => ?_)
      rotate_left
      · simp (disch := (first | omega | assumption | (simp only [push_n, set_n, put_n, List.length_cons, List.length_nil, List.length_append, Nat.reduceAdd]; done) | (simp only [push_n, set_n, put_n, List.length_cons, List.length_nil, List.length_append]; omega) | (simp only [List.all_cons, List.all_nil, one_bool, one_int, one_str, one_ptr, one_nilptr, one_slice, one_eslice, one_nilslice, one_func, one_iface, one_niliface, Bool.and_true, Bool.true_and, List.getD_cons_zero, List.getD_cons_succ, List.contains_cons, List.contains_nil, Bool.or_true, Bool.true_or, Bool.or_false, Bool.false_or, Nat.reduceBEq, *]; done) | fail)) only [i0, i1, i2, i6, i7, i8, go_sem, Hold.p, HoldK.k, HoldL.K, HoldL.body, Nat.reduceBEq, Nat.reduceAdd, List.getElem?_cons_zero, List.getElem?_cons_succ, Option.bind_some, List.map_cons, List.map_nil, Nat.zero_add, if_true, List.getD_cons_zero, List.getD_cons_succ, List.contains_cons, List.contains_nil, Nat.reduceBEq, Bool.or_true, Bool.true_or, Bool.or_false, Bool.false_or, Bool.not_true, Bool.not_false, true_and, and_true, rowA_whole, mid_get, stO_mid, rowO_rows, cellO_rows, push_n, set_n, push_at, push_old, set_here, set_there, set_pushT, set_pushN, set_set, upd_ne, Nat.add_assoc, Nat.reduceAdd, Nat.add_zero, stO_1s, stO_ws, boxA_s, List.all_cons, List.all_nil, one_bool, one_int, one_str, one_ptr, one_nilptr, one_slice, one_eslice, one_nilslice, one_func, one_iface, one_niliface, Bool.and_true, Bool.and_self, List.length_cons, List.length_nil, Nat.one_ne_zero, Nat.succ_ne_zero, reduceIte, if_false, List.getElem?_cons_zero, List.set_cons_zero, List.set_cons_succ, lay_nil, lay_1, lay_w, Option.map_some]
        exact ⟨k, hk, rfl, hpre, fun p' hp' => by rw [hkp] at hp'; cases hp'; omega, S, hgn, a0, a1, a2⟩
      have hF := ackF_succ (ack := ack) (nxt := nxt) (ss := ss) hkp
      have hS : ackS ack nxt ss (ackF ack nxt ss (ps.take k)) p = ((ackF ack nxt ss (ps.take k)).1, (ackF ack nxt ss (ps.take k)).2.1, if (decide (p.times = 1) && !p.sacked) = true then p.at_ else (ackF ack nxt ss (ps.take k)).2.2) := by unfold ackS; rw [if_pos hto]
      rw [hS] at hF
      have hpre' : ∀ q ∈ ps.take (k + 1), q.to ≤ ack := by
        intro q hq
        rw [List.take_add_one, hkp] at hq
        rcases List.mem_append.1 hq with hq | hq
        · exact hpre q hq
        · simp at hq; subst hq; exact hto
      have w1 : wr .i64 ((k : Int) + 1) = ((k + 1 : Nat) : Int) := by rw [wr64 _ (by omega)]; rfl
      simp (disch := (first | omega | assumption | (simp only [push_n, set_n, put_n, List.length_cons, List.length_nil, List.length_append, Nat.reduceAdd]; done) | (simp only [push_n, set_n, put_n, List.length_cons, List.length_nil, List.length_append]; omega) | (simp only [List.all_cons, List.all_nil, one_bool, one_int, one_str, one_ptr, one_nilptr, one_slice, one_eslice, one_nilslice, one_func, one_iface, one_niliface, Bool.and_true, Bool.true_and, List.getD_cons_zero, List.getD_cons_succ, List.contains_cons, List.contains_nil, Bool.or_true, Bool.true_or, Bool.or_false, Bool.false_or, Nat.reduceBEq, *]; done) | fail)) only [i0, i1, i2, i6, i7, i8, q0, q2, hia, hrow, go_sem, Hold.p, HoldK.k, HoldL.K, HoldL.body, Nat.reduceBEq, Nat.reduceAdd, List.getElem?_cons_zero, List.getElem?_cons_succ, Option.bind_some, List.map_cons, List.map_nil, Nat.zero_add, if_true, List.getD_cons_zero, List.getD_cons_succ, List.contains_cons, List.contains_nil, Nat.reduceBEq, Bool.or_true, Bool.true_or, Bool.or_false, Bool.false_or, Bool.not_true, Bool.not_false, true_and, and_true, rowA_whole, mid_get, stO_mid, rowO_rows, cellO_rows, push_n, set_n, push_at, push_old, set_here, set_there, set_pushT, set_pushN, set_set, upd_ne, Nat.add_assoc, Nat.reduceAdd, Nat.add_zero, stO_1s, stO_ws, boxA_s, List.all_cons, List.all_nil, one_bool, one_int, one_str, one_ptr, one_nilptr, one_slice, one_eslice, one_nilslice, one_func, one_iface, one_niliface, Bool.and_true, Bool.and_self, List.length_cons, List.length_nil, Nat.one_ne_zero, Nat.succ_ne_zero, reduceIte, if_false, List.getElem?_cons_zero, List.set_cons_zero, List.set_cons_succ, lay_nil, lay_1, lay_w, Option.map_some]
      refine test_of (fun ht => ?_) (fun ht => ?_)
      · rw [if_pos ht] at hF
        simp (disch := (first | omega | assumption | (simp only [push_n, set_n, put_n, List.length_cons, List.length_nil, List.length_append, Nat.reduceAdd]; done) | (simp only [push_n, set_n, put_n, List.length_cons, List.length_nil, List.length_append]; omega) | (simp only [List.all_cons, List.all_nil, one_bool, one_int, one_str, one_ptr, one_nilptr, one_slice, one_eslice, one_nilslice, one_func, one_iface, one_niliface, Bool.and_true, Bool.true_and, List.getD_cons_zero, List.getD_cons_succ, List.contains_cons, List.contains_nil, Bool.or_true, Bool.true_or, Bool.or_false, Bool.false_or, Nat.reduceBEq, *]; done) | fail)) only [i0, i1, i2, i6, i7, i8, q0, q2, w1, go_sem, Hold.p, HoldK.k, HoldL.K, HoldL.body, Nat.reduceBEq, Nat.reduceAdd, List.getElem?_cons_zero, List.getElem?_cons_succ, Option.bind_some, List.map_cons, List.map_nil, Nat.zero_add, if_true, List.getD_cons_zero, List.getD_cons_succ, List.contains_cons, List.contains_nil, Nat.reduceBEq, Bool.or_true, Bool.true_or, Bool.or_false, Bool.false_or, Bool.not_true, Bool.not_false, true_and, and_true, rowA_whole, mid_get, stO_mid, rowO_rows, cellO_rows, push_n, set_n, push_at, push_old, set_here, set_there, set_pushT, set_pushN, set_set, upd_ne, Nat.add_assoc, Nat.reduceAdd, Nat.add_zero, stO_1s, stO_ws, boxA_s, List.all_cons, List.all_nil, one_bool, one_int, one_str, one_ptr, one_nilptr, one_slice, one_eslice, one_nilslice, one_func, one_iface, one_niliface, Bool.and_true, Bool.and_self, List.length_cons, List.length_nil, Nat.one_ne_zero, Nat.succ_ne_zero, reduceIte, if_false, List.getElem?_cons_zero, List.set_cons_zero, List.set_cons_succ, lay_nil, lay_1, lay_w, Option.map_some]
        refine ⟨_, ?_, k + 1, rfl, by omega, rfl, hpre', ⟨by (first | omega | (simp only [push_n, set_n]; omega)), fun m hm hb => by simp (disch := (first | omega | assumption | (simp only [push_n, set_n, put_n, List.length_cons, List.length_nil, List.length_append, Nat.reduceAdd]; done) | (simp only [push_n, set_n, put_n, List.length_cons, List.length_nil, List.length_append]; omega) | (simp only [List.all_cons, List.all_nil, one_bool, one_int, one_str, one_ptr, one_nilptr, one_slice, one_eslice, one_nilslice, one_func, one_iface, one_niliface, Bool.and_true, Bool.true_and, List.getD_cons_zero, List.getD_cons_succ, List.contains_cons, List.contains_nil, Bool.or_true, Bool.true_or, Bool.or_false, Bool.false_or, Nat.reduceBEq, *]; done) | fail)) only [S.obj, push_n, set_n, push_at, push_old, set_here, set_there, Nat.add_assoc, Nat.reduceAdd]⟩, by omega, ⟨by (first | omega | (simp only [push_n, set_n]; omega)), by (first | rfl | simp (disch := (first | omega | assumption | (simp only [push_n, set_n, put_n, List.length_cons, List.length_nil, List.length_append, Nat.reduceAdd]; done) | (simp only [push_n, set_n, put_n, List.length_cons, List.length_nil, List.length_append]; omega) | (simp only [List.all_cons, List.all_nil, one_bool, one_int, one_str, one_ptr, one_nilptr, one_slice, one_eslice, one_nilslice, one_func, one_iface, one_niliface, Bool.and_true, Bool.true_and, List.getD_cons_zero, List.getD_cons_succ, List.contains_cons, List.contains_nil, Bool.or_true, Bool.true_or, Bool.or_false, Bool.false_or, Nat.reduceBEq, *]; done) | fail)) only [q0, push_n, set_n, push_at, push_old, set_here, set_there, Nat.add_assoc, Nat.reduceAdd])⟩, ⟨by (first | omega | (simp only [push_n, set_n]; omega)), by (first | rfl | simp (disch := (first | omega | assumption | (simp only [push_n, set_n, put_n, List.length_cons, List.length_nil, List.length_append, Nat.reduceAdd]; done) | (simp only [push_n, set_n, put_n, List.length_cons, List.length_nil, List.length_append]; omega) | (simp only [List.all_cons, List.all_nil, one_bool, one_int, one_str, one_ptr, one_nilptr, one_slice, one_eslice, one_nilslice, one_func, one_iface, one_niliface, Bool.and_true, Bool.true_and, List.getD_cons_zero, List.getD_cons_succ, List.contains_cons, List.contains_nil, Bool.or_true, Bool.true_or, Bool.or_false, Bool.false_or, Nat.reduceBEq, *]; done) | fail)) only [a1.eq, push_n, set_n, push_at, push_old, set_here, set_there, Nat.add_assoc, Nat.reduceAdd])⟩, ?_⟩
        · omega
        · rw [hF]; exact ⟨by (first | omega | (simp only [push_n, set_n]; omega)), by (first | rfl | simp (disch := (first | omega | assumption | (simp only [push_n, set_n, put_n, List.length_cons, List.length_nil, List.length_append, Nat.reduceAdd]; done) | (simp only [push_n, set_n, put_n, List.length_cons, List.length_nil, List.length_append]; omega) | (simp only [List.all_cons, List.all_nil, one_bool, one_int, one_str, one_ptr, one_nilptr, one_slice, one_eslice, one_nilslice, one_func, one_iface, one_niliface, Bool.and_true, Bool.true_and, List.getD_cons_zero, List.getD_cons_succ, List.contains_cons, List.contains_nil, Bool.or_true, Bool.true_or, Bool.or_false, Bool.false_or, Nat.reduceBEq, *]; done) | fail)) only [push_n, set_n, push_at, push_old, set_here, set_there, Nat.add_assoc, Nat.reduceAdd])⟩
      · have ht' : ¬ (decide (p.times = 1) && !p.sacked) = true := by rw [ht]; simp
        rw [if_neg ht'] at hF
        simp (disch := (first | omega | assumption | (simp only [push_n, set_n, put_n, List.length_cons, List.length_nil, List.length_append, Nat.reduceAdd]; done) | (simp only [push_n, set_n, put_n, List.length_cons, List.length_nil, List.length_append]; omega) | (simp only [List.all_cons, List.all_nil, one_bool, one_int, one_str, one_ptr, one_nilptr, one_slice, one_eslice, one_nilslice, one_func, one_iface, one_niliface, Bool.and_true, Bool.true_and, List.getD_cons_zero, List.getD_cons_succ, List.contains_cons, List.contains_nil, Bool.or_true, Bool.true_or, Bool.or_false, Bool.false_or, Nat.reduceBEq, *]; done) | fail)) only [i0, i1, i2, i6, i7, i8, q0, q2, w1, go_sem, Hold.p, HoldK.k, HoldL.K, HoldL.body, Nat.reduceBEq, Nat.reduceAdd, List.getElem?_cons_zero, List.getElem?_cons_succ, Option.bind_some, List.map_cons, List.map_nil, Nat.zero_add, if_true, List.getD_cons_zero, List.getD_cons_succ, List.contains_cons, List.contains_nil, Nat.reduceBEq, Bool.or_true, Bool.true_or, Bool.or_false, Bool.false_or, Bool.not_true, Bool.not_false, true_and, and_true, rowA_whole, mid_get, stO_mid, rowO_rows, cellO_rows, push_n, set_n, push_at, push_old, set_here, set_there, set_pushT, set_pushN, set_set, upd_ne, Nat.add_assoc, Nat.reduceAdd, Nat.add_zero, stO_1s, stO_ws, boxA_s, List.all_cons, List.all_nil, one_bool, one_int, one_str, one_ptr, one_nilptr, one_slice, one_eslice, one_nilslice, one_func, one_iface, one_niliface, Bool.and_true, Bool.and_self, List.length_cons, List.length_nil, Nat.one_ne_zero, Nat.succ_ne_zero, reduceIte, if_false, List.getElem?_cons_zero, List.set_cons_zero, List.set_cons_succ, lay_nil, lay_1, lay_w, Option.map_some]
        refine ⟨_, ?_, k + 1, rfl, by omega, rfl, hpre', S.ext ((Ext.refl _).push _), by omega, a0.ext ((Ext.refl _).push _), a1.ext ((Ext.refl _).push _), ?_⟩
        · omega
        · rw [hF]; exact a2.ext ((Ext.refl _).push _)
  · rintro e g ⟨k, hk, i0, i1, i2, i6, i7, i8, hpre, hnext, S, hgn, a0, a1, a2⟩
    simp only [CC.split]
    have q0 := a0.eq
    have q2 := a2.eq
    have hs' := S.sl hs bv
    obtain ⟨v1, hv1', hs1⟩ := hs'.lo (a := k) (q := .i64) (by rw [List.length_map]; exact hk)
    rw [← List.map_drop] at hs1
    have hdl : (ps.drop k).length ≤ 4096 := by rw [List.length_drop]; omega
    refine vc_split 2 (fun e' g' => ∃ v' lo hi, e' 0 = .ptr b 0 0 ∧ e' 1 = .int .i64 ack ∧ e' 2 = w ∧ e' 6 = .ptr h.n 0 0 ∧ e' 7 = .ptr (h.n + 1) 0 0 ∧
      Sav b h g' ∧ h.n + 2 ≤ lo ∧ hi ≤ g'.n ∧ At g' b (.rows [[.int .i64 ack, .int .i64 nxt, v']] e0 3 false) ∧ At g' h.n (.rows [[.int .i64 0, .int .i64 0, .int .i64 0]] 55 3 false) ∧
      At g' (h.n + 1) (.rows [[.int .i64 (ack - una), .int .i64 0, .int .i64 (ackF ack nxt ss (ps.take k)).2.2]] 55 3 false) ∧ Own lo hi g' 113 6 v' ((fixH ack (ps.drop k)).map Piece.row)) ?_ ?_
    · simp only [CC.split]
      simp (disch := (first | omega | assumption | (simp only [push_n, set_n, put_n, List.length_cons, List.length_nil, List.length_append, Nat.reduceAdd]; done) | (simp only [push_n, set_n, put_n, List.length_cons, List.length_nil, List.length_append]; omega) | (simp only [List.all_cons, List.all_nil, one_bool, one_int, one_str, one_ptr, one_nilptr, one_slice, one_eslice, one_nilslice, one_func, one_iface, one_niliface, Bool.and_true, Bool.true_and, List.getD_cons_zero, List.getD_cons_succ, List.contains_cons, List.contains_nil, Bool.or_true, Bool.true_or, Bool.or_false, Bool.false_or, Nat.reduceBEq, *]; done) | fail)) only [i0, i1, i2, i6, i7, i8, q0, hv1', Option.map_none, go_sem, Hold.p, HoldK.k, HoldL.K, HoldL.body, Nat.reduceBEq, Nat.reduceAdd, List.getElem?_cons_zero, List.getElem?_cons_succ, Option.bind_some, List.map_cons, List.map_nil, Nat.zero_add, if_true, List.getD_cons_zero, List.getD_cons_succ, List.contains_cons, List.contains_nil, Nat.reduceBEq, Bool.or_true, Bool.true_or, Bool.or_false, Bool.false_or, Bool.not_true, Bool.not_false, true_and, and_true, rowA_whole, mid_get, stO_mid, rowO_rows, cellO_rows, push_n, set_n, push_at, push_old, set_here, set_there, set_pushT, set_pushN, set_set, upd_ne, Nat.add_assoc, Nat.reduceAdd, Nat.add_zero, stO_1s, stO_ws, boxA_s, List.all_cons, List.all_nil, one_bool, one_int, one_str, one_ptr, one_nilptr, one_slice, one_eslice, one_nilslice, one_func, one_iface, one_niliface, Bool.and_true, Bool.and_self, List.length_cons, List.length_nil, Nat.one_ne_zero, Nat.succ_ne_zero, reduceIte, if_false, List.getElem?_cons_zero, List.set_cons_zero, List.set_cons_succ, lay_nil, lay_1, lay_w, Option.map_some]
      refine callA_of (clonePiece_c g v1 _ hs1 (by rw [List.length_map]; omega)) ?_
      rintro r g1 ⟨o, E1⟩
      have a0 := a0.ext E1
      have a1 := a1.ext E1
      have a2 := a2.ext E1
      have le_E1 := E1.le
      have S := S.ext E1
      have r0 := a0.eq
      have ho1 := o.one
      have hol := o.lenF
      rw [List.length_map] at hol
      have hrc := o.cells
      simp (disch := (first | omega | assumption | (simp only [push_n, set_n, put_n, List.length_cons, List.length_nil, List.length_append, Nat.reduceAdd]; done) | (simp only [push_n, set_n, put_n, List.length_cons, List.length_nil, List.length_append]; omega) | (simp only [List.all_cons, List.all_nil, one_bool, one_int, one_str, one_ptr, one_nilptr, one_slice, one_eslice, one_nilslice, one_func, one_iface, one_niliface, Bool.and_true, Bool.true_and, List.getD_cons_zero, List.getD_cons_succ, List.contains_cons, List.contains_nil, Bool.or_true, Bool.true_or, Bool.or_false, Bool.false_or, Nat.reduceBEq, *]; done) | fail)) only [i0, i1, i2, i6, i7, i8, r0, hol, hrc, go_sem, Hold.p, HoldK.k, HoldL.K, HoldL.body, Nat.reduceBEq, Nat.reduceAdd, List.getElem?_cons_zero, List.getElem?_cons_succ, Option.bind_some, List.map_cons, List.map_nil, Nat.zero_add, if_true, List.getD_cons_zero, List.getD_cons_succ, List.contains_cons, List.contains_nil, Nat.reduceBEq, Bool.or_true, Bool.true_or, Bool.or_false, Bool.false_or, Bool.not_true, Bool.not_false, true_and, and_true, rowA_whole, mid_get, stO_mid, rowO_rows, cellO_rows, push_n, set_n, push_at, push_old, set_here, set_there, set_pushT, set_pushN, set_set, upd_ne, Nat.add_assoc, Nat.reduceAdd, Nat.add_zero, stO_1s, stO_ws, boxA_s, List.all_cons, List.all_nil, one_bool, one_int, one_str, one_ptr, one_nilptr, one_slice, one_eslice, one_nilslice, one_func, one_iface, one_niliface, Bool.and_true, Bool.and_self, List.length_cons, List.length_nil, Nat.one_ne_zero, Nat.succ_ne_zero, reduceIte, if_false, List.getElem?_cons_zero, List.set_cons_zero, List.set_cons_succ, lay_nil, lay_1, lay_w, Option.map_some]
      refine test_dec (fun hb => ?_) (fun hb => ?_)
      · rcases o with ⟨hnil, _⟩ | ⟨l, hne, rfl, l1, l2, l3, hob⟩
        · exact absurd hb (by rw [List.map_eq_nil_iff] at hnil; rw [hnil]; simp)
        match hdk : ps.drop k, hb with
        | p :: r, _ =>
        rw [hdk] at hob
        have hob' : g1.obj l = .rows ([] ++ p.row :: r.map Piece.row) 113 6 false := hob
        have hia : iadrF (g1.set b (.rows [[.int .i64 ack, .int .i64 nxt, .slice l 0 ((r.map Piece.row).length + 1)]] e0 3 false)) 6 (.slice l 0 ((r.map Piece.row).length + 1)) (.int .i64 0) = some (.ptr l 0 0) :=
          iadr0 (by simp) (by rw [set_there _ _ _ _ (by omega), hob']; rfl)
        have hpr : p.row = [.int .i64 p.fr, .int .i64 p.to, .int .i64 p.at_, .int .i64 p.times, .bool p.sacked, .bool p.lost] := rfl
        rw [hpr] at hob'
        have hlen0 : ([] : List (List IV)).length = 0 := rfl
        simp (disch := (first | omega | assumption | (simp only [push_n, set_n, put_n, List.length_cons, List.length_nil, List.length_append, Nat.reduceAdd]; done) | (simp only [push_n, set_n, put_n, List.length_cons, List.length_nil, List.length_append]; omega) | (simp only [List.all_cons, List.all_nil, one_bool, one_int, one_str, one_ptr, one_nilptr, one_slice, one_eslice, one_nilslice, one_func, one_iface, one_niliface, Bool.and_true, Bool.true_and, List.getD_cons_zero, List.getD_cons_succ, List.contains_cons, List.contains_nil, Bool.or_true, Bool.true_or, Bool.or_false, Bool.false_or, Nat.reduceBEq, *]; done) | fail)) only [i0, i1, i2, i6, i7, i8, r0, hol, hia, hob', go_sem, Hold.p, HoldK.k, HoldL.K, HoldL.body, Nat.reduceBEq, Nat.reduceAdd, List.getElem?_cons_zero, List.getElem?_cons_succ, Option.bind_some, List.map_cons, List.map_nil, Nat.zero_add, if_true, List.getD_cons_zero, List.getD_cons_succ, List.contains_cons, List.contains_nil, Nat.reduceBEq, Bool.or_true, Bool.true_or, Bool.or_false, Bool.false_or, Bool.not_true, Bool.not_false, true_and, and_true, rowA_whole, mid_get, stO_mid, rowO_rows, cellO_rows, push_n, set_n, push_at, push_old, set_here, set_there, set_pushT, set_pushN, set_set, upd_ne, Nat.add_assoc, Nat.reduceAdd, Nat.add_zero, stO_1s, stO_ws, boxA_s, List.all_cons, List.all_nil, one_bool, one_int, one_str, one_ptr, one_nilptr, one_slice, one_eslice, one_nilslice, one_func, one_iface, one_niliface, Bool.and_true, Bool.and_self, List.length_cons, List.length_nil, Nat.one_ne_zero, Nat.succ_ne_zero, reduceIte, if_false, List.getElem?_cons_zero, List.set_cons_zero, List.set_cons_succ, lay_nil, lay_1, lay_w, Option.map_some]
        refine ⟨.slice l 0 ((r.map Piece.row).length + 1), g.n, g1.n, ⟨by (first | omega | (simp only [push_n, set_n]; omega)), fun m hm hb => by simp (disch := (first | omega | assumption | (simp only [push_n, set_n, put_n, List.length_cons, List.length_nil, List.length_append, Nat.reduceAdd]; done) | (simp only [push_n, set_n, put_n, List.length_cons, List.length_nil, List.length_append]; omega) | (simp only [List.all_cons, List.all_nil, one_bool, one_int, one_str, one_ptr, one_nilptr, one_slice, one_eslice, one_nilslice, one_func, one_iface, one_niliface, Bool.and_true, Bool.true_and, List.getD_cons_zero, List.getD_cons_succ, List.contains_cons, List.contains_nil, Bool.or_true, Bool.true_or, Bool.or_false, Bool.false_or, Nat.reduceBEq, *]; done) | fail)) only [S.obj, push_n, set_n, push_at, push_old, set_here, set_there, Nat.add_assoc, Nat.reduceAdd]⟩, hgn, Nat.le_refl _, ⟨by (first | omega | (simp only [push_n, set_n]; omega)), by (first | rfl | simp (disch := (first | omega | assumption | (simp only [push_n, set_n, put_n, List.length_cons, List.length_nil, List.length_append, Nat.reduceAdd]; done) | (simp only [push_n, set_n, put_n, List.length_cons, List.length_nil, List.length_append]; omega) | (simp only [List.all_cons, List.all_nil, one_bool, one_int, one_str, one_ptr, one_nilptr, one_slice, one_eslice, one_nilslice, one_func, one_iface, one_niliface, Bool.and_true, Bool.true_and, List.getD_cons_zero, List.getD_cons_succ, List.contains_cons, List.contains_nil, Bool.or_true, Bool.true_or, Bool.or_false, Bool.false_or, Nat.reduceBEq, *]; done) | fail)) only [push_n, set_n, push_at, push_old, set_here, set_there, Nat.add_assoc, Nat.reduceAdd])⟩, ⟨by (first | omega | (simp only [push_n, set_n]; omega)), by (first | rfl | simp (disch := (first | omega | assumption | (simp only [push_n, set_n, put_n, List.length_cons, List.length_nil, List.length_append, Nat.reduceAdd]; done) | (simp only [push_n, set_n, put_n, List.length_cons, List.length_nil, List.length_append]; omega) | (simp only [List.all_cons, List.all_nil, one_bool, one_int, one_str, one_ptr, one_nilptr, one_slice, one_eslice, one_nilslice, one_func, one_iface, one_niliface, Bool.and_true, Bool.true_and, List.getD_cons_zero, List.getD_cons_succ, List.contains_cons, List.contains_nil, Bool.or_true, Bool.true_or, Bool.or_false, Bool.false_or, Nat.reduceBEq, *]; done) | fail)) only [a1.eq, push_n, set_n, push_at, push_old, set_here, set_there, Nat.add_assoc, Nat.reduceAdd])⟩, ⟨by (first | omega | (simp only [push_n, set_n]; omega)), by (first | rfl | simp (disch := (first | omega | assumption | (simp only [push_n, set_n, put_n, List.length_cons, List.length_nil, List.length_append, Nat.reduceAdd]; done) | (simp only [push_n, set_n, put_n, List.length_cons, List.length_nil, List.length_append]; omega) | (simp only [List.all_cons, List.all_nil, one_bool, one_int, one_str, one_ptr, one_nilptr, one_slice, one_eslice, one_nilslice, one_func, one_iface, one_niliface, Bool.and_true, Bool.true_and, List.getD_cons_zero, List.getD_cons_succ, List.contains_cons, List.contains_nil, Bool.or_true, Bool.true_or, Bool.or_false, Bool.false_or, Nat.reduceBEq, *]; done) | fail)) only [a2.eq, push_n, set_n, push_at, push_old, set_here, set_there, Nat.add_assoc, Nat.reduceAdd])⟩, ?_⟩
        exact .inr ⟨l, by simp [fixH], rfl, l1, l2, Nat.le_refl _, set_here _ _ _⟩
      · have hdn : ps.drop k = [] := List.length_eq_zero_iff.1 (by omega)
        simp (disch := (first | omega | assumption | (simp only [push_n, set_n, put_n, List.length_cons, List.length_nil, List.length_append, Nat.reduceAdd]; done) | (simp only [push_n, set_n, put_n, List.length_cons, List.length_nil, List.length_append]; omega) | (simp only [List.all_cons, List.all_nil, one_bool, one_int, one_str, one_ptr, one_nilptr, one_slice, one_eslice, one_nilslice, one_func, one_iface, one_niliface, Bool.and_true, Bool.true_and, List.getD_cons_zero, List.getD_cons_succ, List.contains_cons, List.contains_nil, Bool.or_true, Bool.true_or, Bool.or_false, Bool.false_or, Nat.reduceBEq, *]; done) | fail)) only [i0, i1, i2, i6, i7, i8, r0, hol, go_sem, Hold.p, HoldK.k, HoldL.K, HoldL.body, Nat.reduceBEq, Nat.reduceAdd, List.getElem?_cons_zero, List.getElem?_cons_succ, Option.bind_some, List.map_cons, List.map_nil, Nat.zero_add, if_true, List.getD_cons_zero, List.getD_cons_succ, List.contains_cons, List.contains_nil, Nat.reduceBEq, Bool.or_true, Bool.true_or, Bool.or_false, Bool.false_or, Bool.not_true, Bool.not_false, true_and, and_true, rowA_whole, mid_get, stO_mid, rowO_rows, cellO_rows, push_n, set_n, push_at, push_old, set_here, set_there, set_pushT, set_pushN, set_set, upd_ne, Nat.add_assoc, Nat.reduceAdd, Nat.add_zero, stO_1s, stO_ws, boxA_s, List.all_cons, List.all_nil, one_bool, one_int, one_str, one_ptr, one_nilptr, one_slice, one_eslice, one_nilslice, one_func, one_iface, one_niliface, Bool.and_true, Bool.and_self, List.length_cons, List.length_nil, Nat.one_ne_zero, Nat.succ_ne_zero, reduceIte, if_false, List.getElem?_cons_zero, List.set_cons_zero, List.set_cons_succ, lay_nil, lay_1, lay_w, Option.map_some]
        refine ⟨r, g.n, g1.n, ⟨by (first | omega | (simp only [push_n, set_n]; omega)), fun m hm hb => by simp (disch := (first | omega | assumption | (simp only [push_n, set_n, put_n, List.length_cons, List.length_nil, List.length_append, Nat.reduceAdd]; done) | (simp only [push_n, set_n, put_n, List.length_cons, List.length_nil, List.length_append]; omega) | (simp only [List.all_cons, List.all_nil, one_bool, one_int, one_str, one_ptr, one_nilptr, one_slice, one_eslice, one_nilslice, one_func, one_iface, one_niliface, Bool.and_true, Bool.true_and, List.getD_cons_zero, List.getD_cons_succ, List.contains_cons, List.contains_nil, Bool.or_true, Bool.true_or, Bool.or_false, Bool.false_or, Nat.reduceBEq, *]; done) | fail)) only [S.obj, push_n, set_n, push_at, push_old, set_here, set_there, Nat.add_assoc, Nat.reduceAdd]⟩, hgn, Nat.le_refl _, ⟨by (first | omega | (simp only [push_n, set_n]; omega)), by (first | rfl | simp (disch := (first | omega | assumption | (simp only [push_n, set_n, put_n, List.length_cons, List.length_nil, List.length_append, Nat.reduceAdd]; done) | (simp only [push_n, set_n, put_n, List.length_cons, List.length_nil, List.length_append]; omega) | (simp only [List.all_cons, List.all_nil, one_bool, one_int, one_str, one_ptr, one_nilptr, one_slice, one_eslice, one_nilslice, one_func, one_iface, one_niliface, Bool.and_true, Bool.true_and, List.getD_cons_zero, List.getD_cons_succ, List.contains_cons, List.contains_nil, Bool.or_true, Bool.true_or, Bool.or_false, Bool.false_or, Nat.reduceBEq, *]; done) | fail)) only [push_n, set_n, push_at, push_old, set_here, set_there, Nat.add_assoc, Nat.reduceAdd])⟩, ⟨by (first | omega | (simp only [push_n, set_n]; omega)), by (first | rfl | simp (disch := (first | omega | assumption | (simp only [push_n, set_n, put_n, List.length_cons, List.length_nil, List.length_append, Nat.reduceAdd]; done) | (simp only [push_n, set_n, put_n, List.length_cons, List.length_nil, List.length_append]; omega) | (simp only [List.all_cons, List.all_nil, one_bool, one_int, one_str, one_ptr, one_nilptr, one_slice, one_eslice, one_nilslice, one_func, one_iface, one_niliface, Bool.and_true, Bool.true_and, List.getD_cons_zero, List.getD_cons_succ, List.contains_cons, List.contains_nil, Bool.or_true, Bool.true_or, Bool.or_false, Bool.false_or, Nat.reduceBEq, *]; done) | fail)) only [a1.eq, push_n, set_n, push_at, push_old, set_here, set_there, Nat.add_assoc, Nat.reduceAdd])⟩, ⟨by (first | omega | (simp only [push_n, set_n]; omega)), by (first | rfl | simp (disch := (first | omega | assumption | (simp only [push_n, set_n, put_n, List.length_cons, List.length_nil, List.length_append, Nat.reduceAdd]; done) | (simp only [push_n, set_n, put_n, List.length_cons, List.length_nil, List.length_append]; omega) | (simp only [List.all_cons, List.all_nil, one_bool, one_int, one_str, one_ptr, one_nilptr, one_slice, one_eslice, one_nilslice, one_func, one_iface, one_niliface, Bool.and_true, Bool.true_and, List.getD_cons_zero, List.getD_cons_succ, List.contains_cons, List.contains_nil, Bool.or_true, Bool.true_or, Bool.or_false, Bool.false_or, Nat.reduceBEq, *]; done) | fail)) only [a2.eq, push_n, set_n, push_at, push_old, set_here, set_there, Nat.add_assoc, Nat.reduceAdd])⟩, ?_⟩
        rw [hdn] at o ⊢
        exact o.set (by omega) _
    · rintro e' g' ⟨v', lo, hi, j0, j1, j2, j6, j7, S', hlo, hhi, c0, c1, c2, o⟩
      obtain ⟨at', ok', hat⟩ := okPs_tail k hok
      have hn0 : ∀ p, (ps.drop k)[0]? = some p → ack < p.to := fun p hp => hnext p (by simpa using hp)
      have hpost := post_all ok' hn0
      have hata : at' ≤ ack := by
        rcases hat with ⟨_, rfl⟩ | ⟨p, ⟨_, hp, rfl⟩ | hp⟩
        · exact h1
        · exact hpre p hp
        · omega
      rw [fix_all ok' hata hn0] at o
      have hfin := ackF_split (nxt := nxt) (ss := ss) hpre hpost
      have hQ1 : (ps.drop k).map (ackQ ack nxt ss) = ((ps.drop k).map (fx ack)).map (curQ ack nxt ss) := by rw [List.map_map]; rfl
      have hQ2 : (ps.drop k).map (ackD ack nxt ss) = ((ps.drop k).map (fx ack)).map (curD ack nxt ss) := by rw [List.map_map]; rfl
      rw [hQ1, hQ2] at hfin
      have hqb : ∀ q ∈ (ps.drop k).map (fx ack), 0 ≤ q.fr ∧ q.fr < q.to ∧ q.to ≤ 1099511627776 := by
        intro q hq
        obtain ⟨p, hp, rfl⟩ := List.mem_map.1 hq
        have := heach p (List.mem_of_mem_drop hp)
        have := hpost p hp
        unfold fx
        simp only
        omega
      have hqlen : ((ps.drop k).map (fx ack)).length ≤ 4096 := by rw [List.length_map]; exact hdl
      generalize (ps.drop k).map (fx ack) = Q at o hfin hqb hqlen
      generalize (ackF ack nxt ss (ps.take k)).2.2 = sm at c2 hfin
      rw [hfin]
      clear hfin hQ1 hQ2 hnext hpre hv1' hs1 hn0 hpost hat ok'
      simp only [CC.split]
      have d0 := c0.eq
      have hol := o.lenF
      rw [List.length_map] at hol
      simp (disch := (first | omega | assumption | (simp only [push_n, set_n, put_n, List.length_cons, List.length_nil, List.length_append, Nat.reduceAdd]; done) | (simp only [push_n, set_n, put_n, List.length_cons, List.length_nil, List.length_append]; omega) | (simp only [List.all_cons, List.all_nil, one_bool, one_int, one_str, one_ptr, one_nilptr, one_slice, one_eslice, one_nilslice, one_func, one_iface, one_niliface, Bool.and_true, Bool.true_and, List.getD_cons_zero, List.getD_cons_succ, List.contains_cons, List.contains_nil, Bool.or_true, Bool.true_or, Bool.or_false, Bool.false_or, Nat.reduceBEq, *]; done) | fail)) only [j0, j1, j2, j6, j7, d0, hol, go_sem, Hold.p, HoldK.k, HoldL.K, HoldL.body, Nat.reduceBEq, Nat.reduceAdd, List.getElem?_cons_zero, List.getElem?_cons_succ, Option.bind_some, List.map_cons, List.map_nil, Nat.zero_add, if_true, List.getD_cons_zero, List.getD_cons_succ, List.contains_cons, List.contains_nil, Nat.reduceBEq, Bool.or_true, Bool.true_or, Bool.or_false, Bool.false_or, Bool.not_true, Bool.not_false, true_and, and_true, rowA_whole, mid_get, stO_mid, rowO_rows, cellO_rows, push_n, set_n, push_at, push_old, set_here, set_there, set_pushT, set_pushN, set_set, upd_ne, Nat.add_assoc, Nat.reduceAdd, Nat.add_zero, stO_1s, stO_ws, boxA_s, List.all_cons, List.all_nil, one_bool, one_int, one_str, one_ptr, one_nilptr, one_slice, one_eslice, one_nilslice, one_func, one_iface, one_niliface, Bool.and_true, Bool.and_self, List.length_cons, List.length_nil, Nat.one_ne_zero, Nat.succ_ne_zero, reduceIte, if_false, List.getElem?_cons_zero, List.set_cons_zero, List.set_cons_succ, lay_nil, lay_1, lay_w, Option.map_some]
      refine loop_at (fun n e g => ∃ (i : Nat) (sk : Int), n = Q.length - i ∧ i ≤ Q.length ∧ e 0 = .ptr b 0 0 ∧ e 1 = .int .i64 ack ∧ e 2 = w ∧ e 6 = .ptr h.n 0 0 ∧ e 7 = .ptr (h.n + 1) 0 0 ∧ e 101 = .int .i64 (Q.length : Nat) ∧ e 102 = .int .i64 (i : Nat) ∧
        Sav b h g ∧ hi ≤ g.n ∧ At g b (.rows [[.int .i64 ack, .int .i64 nxt, v']] e0 3 false) ∧ At g h.n (.rows [[.int .i64 0, .int .i64 0, .int .i64 0]] 55 3 false) ∧ At g (h.n + 1) (.rows [[.int .i64 (ack - una), .int .i64 sk, .int .i64 sm]] 55 3 false) ∧
        Own lo hi g 113 6 v' (((Q.take i).map (curQ ack nxt ss) ++ Q.drop i).map Piece.row) ∧ sk = ((Q.take i).map (curD ack nxt ss)).sum ∧ 0 ≤ sk ∧ sk ≤ i * 1099511627776) Q.length ?_ ?_
      · refine ⟨0, 0, by omega, by omega, ?_⟩
        simp (disch := (first | omega | assumption | (simp only [push_n, set_n, put_n, List.length_cons, List.length_nil, List.length_append, Nat.reduceAdd]; done) | (simp only [push_n, set_n, put_n, List.length_cons, List.length_nil, List.length_append]; omega) | (simp only [List.all_cons, List.all_nil, one_bool, one_int, one_str, one_ptr, one_nilptr, one_slice, one_eslice, one_nilslice, one_func, one_iface, one_niliface, Bool.and_true, Bool.true_and, List.getD_cons_zero, List.getD_cons_succ, List.contains_cons, List.contains_nil, Bool.or_true, Bool.true_or, Bool.or_false, Bool.false_or, Nat.reduceBEq, *]; done) | fail)) only [List.take_zero, List.drop_zero, List.map_nil, List.nil_append, j0, j1, j2, j6, j7, go_sem, Hold.p, HoldK.k, HoldL.K, HoldL.body, Nat.reduceBEq, Nat.reduceAdd, List.getElem?_cons_zero, List.getElem?_cons_succ, Option.bind_some, List.map_cons, List.map_nil, Nat.zero_add, if_true, List.getD_cons_zero, List.getD_cons_succ, List.contains_cons, List.contains_nil, Nat.reduceBEq, Bool.or_true, Bool.true_or, Bool.or_false, Bool.false_or, Bool.not_true, Bool.not_false, true_and, and_true, rowA_whole, mid_get, stO_mid, rowO_rows, cellO_rows, push_n, set_n, push_at, push_old, set_here, set_there, set_pushT, set_pushN, set_set, upd_ne, Nat.add_assoc, Nat.reduceAdd, Nat.add_zero, stO_1s, stO_ws, boxA_s, List.all_cons, List.all_nil, one_bool, one_int, one_str, one_ptr, one_nilptr, one_slice, one_eslice, one_nilslice, one_func, one_iface, one_niliface, Bool.and_true, Bool.and_self, List.length_cons, List.length_nil, Nat.one_ne_zero, Nat.succ_ne_zero, reduceIte, if_false, List.getElem?_cons_zero, List.set_cons_zero, List.set_cons_succ, lay_nil, lay_1, lay_w, Option.map_some]
        exact ⟨rfl, S', hhi, c0, c1, c2, o, rfl, Int.le_refl _, by omega⟩
      · rintro n e g ⟨i, sk, rfl, hi', i0, i1, i2, i6, i7, i101, i102, S, hhg, b0, b1, b2, o, hsk, sk0, sk1⟩
        have q0 := b0.eq
        simp (disch := (first | omega | assumption | (simp only [push_n, set_n, put_n, List.length_cons, List.length_nil, List.length_append, Nat.reduceAdd]; done) | (simp only [push_n, set_n, put_n, List.length_cons, List.length_nil, List.length_append]; omega) | (simp only [List.all_cons, List.all_nil, one_bool, one_int, one_str, one_ptr, one_nilptr, one_slice, one_eslice, one_nilslice, one_func, one_iface, one_niliface, Bool.and_true, Bool.true_and, List.getD_cons_zero, List.getD_cons_succ, List.contains_cons, List.contains_nil, Bool.or_true, Bool.true_or, Bool.or_false, Bool.false_or, Nat.reduceBEq, *]; done) | fail)) only [i0, i1, i2, i6, i7, i101, i102, go_sem, Hold.p, HoldK.k, HoldL.K, HoldL.body, Nat.reduceBEq, Nat.reduceAdd, List.getElem?_cons_zero, List.getElem?_cons_succ, Option.bind_some, List.map_cons, List.map_nil, Nat.zero_add, if_true, List.getD_cons_zero, List.getD_cons_succ, List.contains_cons, List.contains_nil, Nat.reduceBEq, Bool.or_true, Bool.true_or, Bool.or_false, Bool.false_or, Bool.not_true, Bool.not_false, true_and, and_true, rowA_whole, mid_get, stO_mid, rowO_rows, cellO_rows, push_n, set_n, push_at, push_old, set_here, set_there, set_pushT, set_pushN, set_set, upd_ne, Nat.add_assoc, Nat.reduceAdd, Nat.add_zero, stO_1s, stO_ws, boxA_s, List.all_cons, List.all_nil, one_bool, one_int, one_str, one_ptr, one_nilptr, one_slice, one_eslice, one_nilslice, one_func, one_iface, one_niliface, Bool.and_true, Bool.and_self, List.length_cons, List.length_nil, Nat.one_ne_zero, Nat.succ_ne_zero, reduceIte, if_false, List.getElem?_cons_zero, List.set_cons_zero, List.set_cons_succ, lay_nil, lay_1, lay_w, Option.map_some]
        refine test_dec (fun hb => ?_) (fun hb => ?_)
        · have hlt : i < Q.length := by omega
          have hkp : Q[i]? = some Q[i] := List.getElem?_eq_getElem hlt
          have hmem : Q[i] ∈ Q := List.getElem_mem hlt
          have hdr : Q.drop i = Q[i] :: Q.drop (i + 1) := List.drop_eq_getElem_cons hlt
          generalize Q[i] = q at hkp hmem hdr
          obtain ⟨z1, z2, z3⟩ := hqb q hmem
          rw [hdr] at o
          rcases o with ⟨hnil, _⟩ | ⟨l, hne, rfl, l1, l2, l3, hob⟩
          · simp at hnil
          have hAl : (((Q.take i).map (curQ ack nxt ss)).map Piece.row).length = i := by rw [List.length_map, List.length_map, List.length_take]; omega
          have hn' : (((Q.take i).map (curQ ack nxt ss) ++ q :: Q.drop (i + 1)).map Piece.row).length = Q.length := by
            rw [List.length_map, List.length_append, List.length_map, List.length_take, List.length_cons, List.length_drop]; omega
          rw [List.map_append, List.map_cons] at hob
          have hia : iadrF g 6 (.slice l 0 (((Q.take i).map (curQ ack nxt ss) ++ q :: Q.drop (i + 1)).map Piece.row).length) (.int .i64 (i : Nat)) = some (.ptr l i 0) := by
            rw [iadrF_nat (by omega) (by rw [hob]; rfl), Nat.zero_add]
          simp (disch := (first | omega | assumption | (simp only [push_n, set_n, put_n, List.length_cons, List.length_nil, List.length_append, Nat.reduceAdd]; done) | (simp only [push_n, set_n, put_n, List.length_cons, List.length_nil, List.length_append]; omega) | (simp only [List.all_cons, List.all_nil, one_bool, one_int, one_str, one_ptr, one_nilptr, one_slice, one_eslice, one_nilslice, one_func, one_iface, one_niliface, Bool.and_true, Bool.true_and, List.getD_cons_zero, List.getD_cons_succ, List.contains_cons, List.contains_nil, Bool.or_true, Bool.true_or, Bool.or_false, Bool.false_or, Nat.reduceBEq, *]; done) | fail)) only [i0, i1, i2, i6, i7, i101, i102, q0, hia, hlw, go_sem, Hold.p, HoldK.k, HoldL.K, HoldL.body, Nat.reduceBEq, Nat.reduceAdd, List.getElem?_cons_zero, List.getElem?_cons_succ, Option.bind_some, List.map_cons, List.map_nil, Nat.zero_add, if_true, List.getD_cons_zero, List.getD_cons_succ, List.contains_cons, List.contains_nil, Nat.reduceBEq, Bool.or_true, Bool.true_or, Bool.or_false, Bool.false_or, Bool.not_true, Bool.not_false, true_and, and_true, rowA_whole, mid_get, stO_mid, rowO_rows, cellO_rows, push_n, set_n, push_at, push_old, set_here, set_there, set_pushT, set_pushN, set_set, upd_ne, Nat.add_assoc, Nat.reduceAdd, Nat.add_zero, stO_1s, stO_ws, boxA_s, List.all_cons, List.all_nil, one_bool, one_int, one_str, one_ptr, one_nilptr, one_slice, one_eslice, one_nilslice, one_func, one_iface, one_niliface, Bool.and_true, Bool.and_self, List.length_cons, List.length_nil, Nat.one_ne_zero, Nat.succ_ne_zero, reduceIte, if_false, List.getElem?_cons_zero, List.set_cons_zero, List.set_cons_succ, lay_nil, lay_1, lay_w, Option.map_some]
          clear hne o
          have hblr : b < l := by omega
          refine loop_at (fun n e g => ∃ (j : Nat) (c : Piece) (s2 : Int), n = ss.length - j ∧ j ≤ ss.length ∧ e 0 = .ptr b 0 0 ∧ e 1 = .int .i64 ack ∧ e 2 = w ∧ e 6 = .ptr h.n 0 0 ∧ e 7 = .ptr (h.n + 1) 0 0 ∧ e 11 = .ptr l i 0 ∧ e 101 = .int .i64 (Q.length : Nat) ∧ e 102 = .int .i64 (i : Nat) ∧
            e 112 = w ∧ e 113 = .int .i64 (ss.length : Nat) ∧ e 114 = .int .i64 (j : Nat) ∧
            Sav b h g ∧ hi ≤ g.n ∧ At g b (.rows [[.int .i64 ack, .int .i64 nxt, .slice l 0 (((Q.take i).map (curQ ack nxt ss) ++ q :: Q.drop (i + 1)).map Piece.row).length]] e0 3 false) ∧ At g h.n (.rows [[.int .i64 0, .int .i64 0, .int .i64 0]] 55 3 false) ∧ At g (h.n + 1) (.rows [[.int .i64 (ack - una), .int .i64 s2, .int .i64 sm]] 55 3 false) ∧
            At g l (.rows (((Q.take i).map (curQ ack nxt ss)).map Piece.row ++ [.int .i64 c.fr, .int .i64 c.to, .int .i64 c.at_, .int .i64 c.times, .bool c.sacked, .bool c.lost] :: (Q.drop (i + 1)).map Piece.row) 113 6 false) ∧ c = curQ ack nxt (ss.take j) q ∧ s2 = sk + curD ack nxt (ss.take j) q) ss.length ?_ ?_
          · refine ⟨0, q, sk, by omega, by omega, ?_⟩
            have hz1 : curC ack nxt [] q = false := by unfold curC within; simp
            have hz2 : q = curQ ack nxt [] q := by unfold curQ; rw [hz1]; rfl
            have hz3 : sk = sk + curD ack nxt [] q := by unfold curD; rw [hz1]; simp
            simp (disch := (first | omega | assumption | (simp only [push_n, set_n, put_n, List.length_cons, List.length_nil, List.length_append, Nat.reduceAdd]; done) | (simp only [push_n, set_n, put_n, List.length_cons, List.length_nil, List.length_append]; omega) | (simp only [List.all_cons, List.all_nil, one_bool, one_int, one_str, one_ptr, one_nilptr, one_slice, one_eslice, one_nilslice, one_func, one_iface, one_niliface, Bool.and_true, Bool.true_and, List.getD_cons_zero, List.getD_cons_succ, List.contains_cons, List.contains_nil, Bool.or_true, Bool.true_or, Bool.or_false, Bool.false_or, Nat.reduceBEq, *]; done) | fail)) only [List.take_zero, i0, i1, i2, i6, i7, i101, i102, go_sem, Hold.p, HoldK.k, HoldL.K, HoldL.body, Nat.reduceBEq, Nat.reduceAdd, List.getElem?_cons_zero, List.getElem?_cons_succ, Option.bind_some, List.map_cons, List.map_nil, Nat.zero_add, if_true, List.getD_cons_zero, List.getD_cons_succ, List.contains_cons, List.contains_nil, Nat.reduceBEq, Bool.or_true, Bool.true_or, Bool.or_false, Bool.false_or, Bool.not_true, Bool.not_false, true_and, and_true, rowA_whole, mid_get, stO_mid, rowO_rows, cellO_rows, push_n, set_n, push_at, push_old, set_here, set_there, set_pushT, set_pushN, set_set, upd_ne, Nat.add_assoc, Nat.reduceAdd, Nat.add_zero, stO_1s, stO_ws, boxA_s, List.all_cons, List.all_nil, one_bool, one_int, one_str, one_ptr, one_nilptr, one_slice, one_eslice, one_nilslice, one_func, one_iface, one_niliface, Bool.and_true, Bool.and_self, List.length_cons, List.length_nil, Nat.one_ne_zero, Nat.succ_ne_zero, reduceIte, if_false, List.getElem?_cons_zero, List.set_cons_zero, List.set_cons_succ, lay_nil, lay_1, lay_w, Option.map_some]
            exact ⟨rfl, S, hhg, b0, b1, b2, ⟨by omega, hob⟩, hz2, hz3⟩
          · rintro n e g ⟨j, c, s2, rfl, hj, i0, i1, i2, i6, i7, i11, i101, i102, i112, i113, i114, T, hhT, p0, p1, p2, pl, hc, hs2⟩
            have q0 := p0.eq
            have q2 := p2.eq
            have ql := pl.eq
            simp (disch := (first | omega | assumption | (simp only [push_n, set_n, put_n, List.length_cons, List.length_nil, List.length_append, Nat.reduceAdd]; done) | (simp only [push_n, set_n, put_n, List.length_cons, List.length_nil, List.length_append]; omega) | (simp only [List.all_cons, List.all_nil, one_bool, one_int, one_str, one_ptr, one_nilptr, one_slice, one_eslice, one_nilslice, one_func, one_iface, one_niliface, Bool.and_true, Bool.true_and, List.getD_cons_zero, List.getD_cons_succ, List.contains_cons, List.contains_nil, Bool.or_true, Bool.true_or, Bool.or_false, Bool.false_or, Nat.reduceBEq, *]; done) | fail)) only [i0, i1, i2, i6, i7, i11, i101, i102, i112, i113, i114, go_sem, Hold.p, HoldK.k, HoldL.K, HoldL.body, Nat.reduceBEq, Nat.reduceAdd, List.getElem?_cons_zero, List.getElem?_cons_succ, Option.bind_some, List.map_cons, List.map_nil, Nat.zero_add, if_true, List.getD_cons_zero, List.getD_cons_succ, List.contains_cons, List.contains_nil, Nat.reduceBEq, Bool.or_true, Bool.true_or, Bool.or_false, Bool.false_or, Bool.not_true, Bool.not_false, true_and, and_true, rowA_whole, mid_get, stO_mid, rowO_rows, cellO_rows, push_n, set_n, push_at, push_old, set_here, set_there, set_pushT, set_pushN, set_set, upd_ne, Nat.add_assoc, Nat.reduceAdd, Nat.add_zero, stO_1s, stO_ws, boxA_s, List.all_cons, List.all_nil, one_bool, one_int, one_str, one_ptr, one_nilptr, one_slice, one_eslice, one_nilslice, one_func, one_iface, one_niliface, Bool.and_true, Bool.and_self, List.length_cons, List.length_nil, Nat.one_ne_zero, Nat.succ_ne_zero, reduceIte, if_false, List.getElem?_cons_zero, List.set_cons_zero, List.set_cons_succ, lay_nil, lay_1, lay_w, Option.map_some]
            refine test_dec (fun hb => ?_) (fun hb => ?_)
            · have hjl : j < ss.length := by omega
              have hjp : ss[j]? = some ss[j] := List.getElem?_eq_getElem hjl
              generalize ss[j] = x at hjp
              have hw' := T.sl hw bw
              obtain ⟨lw, jw, hiw, hlw2, hroww⟩ := hw'.at (m := j) (row := x.row) (by rw [List.getElem?_map, hjp]; rfl) .i64
              have hxr : x.row = [.int .i64 x.fr, .int .i64 x.to] := rfl
              rw [hxr] at hroww
              have w1 : wr .i64 ((j : Int) + 1) = ((j + 1 : Nat) : Int) := by rw [wr64 _ (by omega)]; rfl
              simp (disch := (first | omega | assumption | (simp only [push_n, set_n, put_n, List.length_cons, List.length_nil, List.length_append, Nat.reduceAdd]; done) | (simp only [push_n, set_n, put_n, List.length_cons, List.length_nil, List.length_append]; omega) | (simp only [List.all_cons, List.all_nil, one_bool, one_int, one_str, one_ptr, one_nilptr, one_slice, one_eslice, one_nilslice, one_func, one_iface, one_niliface, Bool.and_true, Bool.true_and, List.getD_cons_zero, List.getD_cons_succ, List.contains_cons, List.contains_nil, Bool.or_true, Bool.true_or, Bool.or_false, Bool.false_or, Nat.reduceBEq, *]; done) | fail)) only [i0, i1, i2, i6, i7, i11, i101, i102, i112, i113, i114, hiw, hroww, ql, q0, go_sem, Hold.p, HoldK.k, HoldL.K, HoldL.body, Nat.reduceBEq, Nat.reduceAdd, List.getElem?_cons_zero, List.getElem?_cons_succ, Option.bind_some, List.map_cons, List.map_nil, Nat.zero_add, if_true, List.getD_cons_zero, List.getD_cons_succ, List.contains_cons, List.contains_nil, Nat.reduceBEq, Bool.or_true, Bool.true_or, Bool.or_false, Bool.false_or, Bool.not_true, Bool.not_false, true_and, and_true, rowA_whole, mid_get, stO_mid, rowO_rows, cellO_rows, push_n, set_n, push_at, push_old, set_here, set_there, set_pushT, set_pushN, set_set, upd_ne, Nat.add_assoc, Nat.reduceAdd, Nat.add_zero, stO_1s, stO_ws, boxA_s, List.all_cons, List.all_nil, one_bool, one_int, one_str, one_ptr, one_nilptr, one_slice, one_eslice, one_nilslice, one_func, one_iface, one_niliface, Bool.and_true, Bool.and_self, List.length_cons, List.length_nil, Nat.one_ne_zero, Nat.succ_ne_zero, reduceIte, if_false, List.getElem?_cons_zero, List.set_cons_zero, List.set_cons_succ, lay_nil, lay_1, lay_w, Option.map_some]
              have hC1 := curC_succ (ack := ack) (nxt := nxt) hjp q
              cases hC : curC ack nxt (ss.take j) q
              · have hcq : c = q := by rw [hc]; unfold curQ; rw [hC]; rfl
                have hs0 : s2 = sk := by rw [hs2]; unfold curD; rw [hC]; simp
                subst hcq hs0
                clear hc hs2
                have hCe : (!c.sacked && decide (ack ≤ x.fr) && decide (x.fr < x.to) && decide (x.to ≤ nxt) && decide (x.fr ≤ c.fr) && decide (c.to ≤ x.to)) = curC ack nxt (ss.take (j + 1)) c := by
                  rw [hC1]
                  unfold curC at hC
                  unfold in1
                  cases hsk2 : c.sacked
                  · rw [hsk2] at hC
                    simp only [Bool.not_false, Bool.true_and] at hC
                    rw [hC]
                    simp only [Bool.not_false, Bool.true_and, Bool.false_or]
                  · simp
                refine test_of (fun ht => ?_) (fun ht => ?_)
                · rw [hCe] at ht
                  have w2 : wr .i64 (c.to - c.fr) = c.to - c.fr := wr64 _ (by omega)
                  have w3 : wr .i64 (s2 + (c.to - c.fr)) = s2 + (c.to - c.fr) := wr64 _ (by omega)
                  simp (disch := (first | omega | assumption | (simp only [push_n, set_n, put_n, List.length_cons, List.length_nil, List.length_append, Nat.reduceAdd]; done) | (simp only [push_n, set_n, put_n, List.length_cons, List.length_nil, List.length_append]; omega) | (simp only [List.all_cons, List.all_nil, one_bool, one_int, one_str, one_ptr, one_nilptr, one_slice, one_eslice, one_nilslice, one_func, one_iface, one_niliface, Bool.and_true, Bool.true_and, List.getD_cons_zero, List.getD_cons_succ, List.contains_cons, List.contains_nil, Bool.or_true, Bool.true_or, Bool.or_false, Bool.false_or, Nat.reduceBEq, *]; done) | fail)) only [i0, i1, i2, i6, i7, i11, i101, i102, i112, i113, i114, ql, q2, w1, w2, w3, go_sem, Hold.p, HoldK.k, HoldL.K, HoldL.body, Nat.reduceBEq, Nat.reduceAdd, List.getElem?_cons_zero, List.getElem?_cons_succ, Option.bind_some, List.map_cons, List.map_nil, Nat.zero_add, if_true, List.getD_cons_zero, List.getD_cons_succ, List.contains_cons, List.contains_nil, Nat.reduceBEq, Bool.or_true, Bool.true_or, Bool.or_false, Bool.false_or, Bool.not_true, Bool.not_false, true_and, and_true, rowA_whole, mid_get, stO_mid, rowO_rows, cellO_rows, push_n, set_n, push_at, push_old, set_here, set_there, set_pushT, set_pushN, set_set, upd_ne, Nat.add_assoc, Nat.reduceAdd, Nat.add_zero, stO_1s, stO_ws, boxA_s, List.all_cons, List.all_nil, one_bool, one_int, one_str, one_ptr, one_nilptr, one_slice, one_eslice, one_nilslice, one_func, one_iface, one_niliface, Bool.and_true, Bool.and_self, List.length_cons, List.length_nil, Nat.one_ne_zero, Nat.succ_ne_zero, reduceIte, if_false, List.getElem?_cons_zero, List.set_cons_zero, List.set_cons_succ, lay_nil, lay_1, lay_w, Option.map_some]
                  refine ⟨_, ?_, j + 1, ⟨c.fr, c.to, c.at_, c.times, true, false⟩, s2 + (c.to - c.fr), rfl, by omega, rfl, ⟨by (first | omega | (simp only [push_n, set_n]; omega)), fun m hm hb => by simp (disch := (first | omega | assumption | (simp only [push_n, set_n, put_n, List.length_cons, List.length_nil, List.length_append, Nat.reduceAdd]; done) | (simp only [push_n, set_n, put_n, List.length_cons, List.length_nil, List.length_append]; omega) | (simp only [List.all_cons, List.all_nil, one_bool, one_int, one_str, one_ptr, one_nilptr, one_slice, one_eslice, one_nilslice, one_func, one_iface, one_niliface, Bool.and_true, Bool.true_and, List.getD_cons_zero, List.getD_cons_succ, List.contains_cons, List.contains_nil, Bool.or_true, Bool.true_or, Bool.or_false, Bool.false_or, Nat.reduceBEq, *]; done) | fail)) only [T.obj, push_n, set_n, push_at, push_old, set_here, set_there, Nat.add_assoc, Nat.reduceAdd]⟩, (by first | omega | (simp only [push_n, set_n]; omega)), ⟨by (first | omega | (simp only [push_n, set_n]; omega)), by (first | rfl | simp (disch := (first | omega | assumption | (simp only [push_n, set_n, put_n, List.length_cons, List.length_nil, List.length_append, Nat.reduceAdd]; done) | (simp only [push_n, set_n, put_n, List.length_cons, List.length_nil, List.length_append]; omega) | (simp only [List.all_cons, List.all_nil, one_bool, one_int, one_str, one_ptr, one_nilptr, one_slice, one_eslice, one_nilslice, one_func, one_iface, one_niliface, Bool.and_true, Bool.true_and, List.getD_cons_zero, List.getD_cons_succ, List.contains_cons, List.contains_nil, Bool.or_true, Bool.true_or, Bool.or_false, Bool.false_or, Nat.reduceBEq, *]; done) | fail)) only [q0, push_n, set_n, push_at, push_old, set_here, set_there, Nat.add_assoc, Nat.reduceAdd])⟩, ⟨by (first | omega | (simp only [push_n, set_n]; omega)), by (first | rfl | simp (disch := (first | omega | assumption | (simp only [push_n, set_n, put_n, List.length_cons, List.length_nil, List.length_append, Nat.reduceAdd]; done) | (simp only [push_n, set_n, put_n, List.length_cons, List.length_nil, List.length_append]; omega) | (simp only [List.all_cons, List.all_nil, one_bool, one_int, one_str, one_ptr, one_nilptr, one_slice, one_eslice, one_nilslice, one_func, one_iface, one_niliface, Bool.and_true, Bool.true_and, List.getD_cons_zero, List.getD_cons_succ, List.contains_cons, List.contains_nil, Bool.or_true, Bool.true_or, Bool.or_false, Bool.false_or, Nat.reduceBEq, *]; done) | fail)) only [p1.eq, push_n, set_n, push_at, push_old, set_here, set_there, Nat.add_assoc, Nat.reduceAdd])⟩, ⟨by (first | omega | (simp only [push_n, set_n]; omega)), by (first | rfl | simp (disch := (first | omega | assumption | (simp only [push_n, set_n, put_n, List.length_cons, List.length_nil, List.length_append, Nat.reduceAdd]; done) | (simp only [push_n, set_n, put_n, List.length_cons, List.length_nil, List.length_append]; omega) | (simp only [List.all_cons, List.all_nil, one_bool, one_int, one_str, one_ptr, one_nilptr, one_slice, one_eslice, one_nilslice, one_func, one_iface, one_niliface, Bool.and_true, Bool.true_and, List.getD_cons_zero, List.getD_cons_succ, List.contains_cons, List.contains_nil, Bool.or_true, Bool.true_or, Bool.or_false, Bool.false_or, Nat.reduceBEq, *]; done) | fail)) only [push_n, set_n, push_at, push_old, set_here, set_there, Nat.add_assoc, Nat.reduceAdd])⟩, ⟨by (first | omega | (simp only [push_n, set_n]; omega)), by (first | rfl | simp (disch := (first | omega | assumption | (simp only [push_n, set_n, put_n, List.length_cons, List.length_nil, List.length_append, Nat.reduceAdd]; done) | (simp only [push_n, set_n, put_n, List.length_cons, List.length_nil, List.length_append]; omega) | (simp only [List.all_cons, List.all_nil, one_bool, one_int, one_str, one_ptr, one_nilptr, one_slice, one_eslice, one_nilslice, one_func, one_iface, one_niliface, Bool.and_true, Bool.true_and, List.getD_cons_zero, List.getD_cons_succ, List.contains_cons, List.contains_nil, Bool.or_true, Bool.true_or, Bool.or_false, Bool.false_or, Nat.reduceBEq, *]; done) | fail)) only [push_n, set_n, push_at, push_old, set_here, set_there, Nat.add_assoc, Nat.reduceAdd])⟩, (by unfold curQ; rw [ht]; rfl), (by unfold curD; rw [ht]; rfl)⟩
                  omega
                · rw [hCe] at ht
                  simp (disch := (first | omega | assumption | (simp only [push_n, set_n, put_n, List.length_cons, List.length_nil, List.length_append, Nat.reduceAdd]; done) | (simp only [push_n, set_n, put_n, List.length_cons, List.length_nil, List.length_append]; omega) | (simp only [List.all_cons, List.all_nil, one_bool, one_int, one_str, one_ptr, one_nilptr, one_slice, one_eslice, one_nilslice, one_func, one_iface, one_niliface, Bool.and_true, Bool.true_and, List.getD_cons_zero, List.getD_cons_succ, List.contains_cons, List.contains_nil, Bool.or_true, Bool.true_or, Bool.or_false, Bool.false_or, Nat.reduceBEq, *]; done) | fail)) only [i0, i1, i2, i6, i7, i11, i101, i102, i112, i113, i114, ql, q2, w1, go_sem, Hold.p, HoldK.k, HoldL.K, HoldL.body, Nat.reduceBEq, Nat.reduceAdd, List.getElem?_cons_zero, List.getElem?_cons_succ, Option.bind_some, List.map_cons, List.map_nil, Nat.zero_add, if_true, List.getD_cons_zero, List.getD_cons_succ, List.contains_cons, List.contains_nil, Nat.reduceBEq, Bool.or_true, Bool.true_or, Bool.or_false, Bool.false_or, Bool.not_true, Bool.not_false, true_and, and_true, rowA_whole, mid_get, stO_mid, rowO_rows, cellO_rows, push_n, set_n, push_at, push_old, set_here, set_there, set_pushT, set_pushN, set_set, upd_ne, Nat.add_assoc, Nat.reduceAdd, Nat.add_zero, stO_1s, stO_ws, boxA_s, List.all_cons, List.all_nil, one_bool, one_int, one_str, one_ptr, one_nilptr, one_slice, one_eslice, one_nilslice, one_func, one_iface, one_niliface, Bool.and_true, Bool.and_self, List.length_cons, List.length_nil, Nat.one_ne_zero, Nat.succ_ne_zero, reduceIte, if_false, List.getElem?_cons_zero, List.set_cons_zero, List.set_cons_succ, lay_nil, lay_1, lay_w, Option.map_some]
                  refine ⟨_, ?_, j + 1, c, s2, rfl, by omega, rfl, T.ext ((Ext.refl _).push _), Nat.le_succ_of_le hhT, p0.ext ((Ext.refl _).push _), p1.ext ((Ext.refl _).push _), p2.ext ((Ext.refl _).push _), pl.ext ((Ext.refl _).push _), (by unfold curQ; rw [ht]; rfl), (by unfold curD; rw [ht]; simp)⟩
                  omega
              · have hcs : c.sacked = true := by rw [hc]; unfold curQ; rw [hC]; rfl
                have hC2 : curC ack nxt (ss.take (j + 1)) q = true := by
                  rw [hC1]
                  unfold curC at hC
                  simp only [Bool.and_eq_true, Bool.or_eq_true] at hC ⊢
                  exact ⟨hC.1, .inl hC.2⟩
                have hc2 : c = curQ ack nxt (ss.take (j + 1)) q := by rw [hc]; unfold curQ; rw [hC, hC2]
                have hs3 : s2 = sk + curD ack nxt (ss.take (j + 1)) q := by rw [hs2]; unfold curD; rw [hC, hC2]
                refine test_of (fun ht => ?_) (fun ht => ?_)
                · rw [hcs] at ht; simp at ht
                · simp (disch := (first | omega | assumption | (simp only [push_n, set_n, put_n, List.length_cons, List.length_nil, List.length_append, Nat.reduceAdd]; done) | (simp only [push_n, set_n, put_n, List.length_cons, List.length_nil, List.length_append]; omega) | (simp only [List.all_cons, List.all_nil, one_bool, one_int, one_str, one_ptr, one_nilptr, one_slice, one_eslice, one_nilslice, one_func, one_iface, one_niliface, Bool.and_true, Bool.true_and, List.getD_cons_zero, List.getD_cons_succ, List.contains_cons, List.contains_nil, Bool.or_true, Bool.true_or, Bool.or_false, Bool.false_or, Nat.reduceBEq, *]; done) | fail)) only [i0, i1, i2, i6, i7, i11, i101, i102, i112, i113, i114, ql, q2, w1, go_sem, Hold.p, HoldK.k, HoldL.K, HoldL.body, Nat.reduceBEq, Nat.reduceAdd, List.getElem?_cons_zero, List.getElem?_cons_succ, Option.bind_some, List.map_cons, List.map_nil, Nat.zero_add, if_true, List.getD_cons_zero, List.getD_cons_succ, List.contains_cons, List.contains_nil, Nat.reduceBEq, Bool.or_true, Bool.true_or, Bool.or_false, Bool.false_or, Bool.not_true, Bool.not_false, true_and, and_true, rowA_whole, mid_get, stO_mid, rowO_rows, cellO_rows, push_n, set_n, push_at, push_old, set_here, set_there, set_pushT, set_pushN, set_set, upd_ne, Nat.add_assoc, Nat.reduceAdd, Nat.add_zero, stO_1s, stO_ws, boxA_s, List.all_cons, List.all_nil, one_bool, one_int, one_str, one_ptr, one_nilptr, one_slice, one_eslice, one_nilslice, one_func, one_iface, one_niliface, Bool.and_true, Bool.and_self, List.length_cons, List.length_nil, Nat.one_ne_zero, Nat.succ_ne_zero, reduceIte, if_false, List.getElem?_cons_zero, List.set_cons_zero, List.set_cons_succ, lay_nil, lay_1, lay_w, Option.map_some]
                  refine ⟨_, ?_, j + 1, c, s2, rfl, by omega, rfl, T.ext ((Ext.refl _).push _), Nat.le_succ_of_le hhT, p0.ext ((Ext.refl _).push _), p1.ext ((Ext.refl _).push _), p2.ext ((Ext.refl _).push _), pl.ext ((Ext.refl _).push _), hc2, hs3⟩
                  omega
            · obtain rfl : j = ss.length := by omega
              rw [List.take_length] at hc hs2
              have w1 : wr .i64 ((i : Int) + 1) = ((i + 1 : Nat) : Int) := by rw [wr64 _ (by omega)]; rfl
              simp (disch := (first | omega | assumption | (simp only [push_n, set_n, put_n, List.length_cons, List.length_nil, List.length_append, Nat.reduceAdd]; done) | (simp only [push_n, set_n, put_n, List.length_cons, List.length_nil, List.length_append]; omega) | (simp only [List.all_cons, List.all_nil, one_bool, one_int, one_str, one_ptr, one_nilptr, one_slice, one_eslice, one_nilslice, one_func, one_iface, one_niliface, Bool.and_true, Bool.true_and, List.getD_cons_zero, List.getD_cons_succ, List.contains_cons, List.contains_nil, Bool.or_true, Bool.true_or, Bool.or_false, Bool.false_or, Nat.reduceBEq, *]; done) | fail)) only [i0, i1, i2, i6, i7, i11, i101, i102, i112, i113, i114, w1, go_sem, Hold.p, HoldK.k, HoldL.K, HoldL.body, Nat.reduceBEq, Nat.reduceAdd, List.getElem?_cons_zero, List.getElem?_cons_succ, Option.bind_some, List.map_cons, List.map_nil, Nat.zero_add, if_true, List.getD_cons_zero, List.getD_cons_succ, List.contains_cons, List.contains_nil, Nat.reduceBEq, Bool.or_true, Bool.true_or, Bool.or_false, Bool.false_or, Bool.not_true, Bool.not_false, true_and, and_true, rowA_whole, mid_get, stO_mid, rowO_rows, cellO_rows, push_n, set_n, push_at, push_old, set_here, set_there, set_pushT, set_pushN, set_set, upd_ne, Nat.add_assoc, Nat.reduceAdd, Nat.add_zero, stO_1s, stO_ws, boxA_s, List.all_cons, List.all_nil, one_bool, one_int, one_str, one_ptr, one_nilptr, one_slice, one_eslice, one_nilslice, one_func, one_iface, one_niliface, Bool.and_true, Bool.and_self, List.length_cons, List.length_nil, Nat.one_ne_zero, Nat.succ_ne_zero, reduceIte, if_false, List.getElem?_cons_zero, List.set_cons_zero, List.set_cons_succ, lay_nil, lay_1, lay_w, Option.map_some]
              have hd0 : 0 ≤ curD ack nxt ss q ∧ curD ack nxt ss q ≤ 1099511627776 := by unfold curD; split <;> omega
              refine ⟨_, ?_, i + 1, s2, rfl, by omega, rfl, T, hhT, p0, p1, p2, ?_, ?_, by omega, by omega⟩
              · omega
              · have hL2 : (((Q.take (i + 1)).map (curQ ack nxt ss) ++ Q.drop (i + 1)).map Piece.row).length = Q.length := by
                  rw [List.length_map, List.length_append, List.length_map, List.length_take, List.length_drop]; omega
                refine .inr ⟨l, ?_, by rw [hn', hL2], l1, l2, hhT, ?_⟩
                · intro hx
                  rw [hx] at hL2
                  simp at hL2; omega
                · rw [ql, List.take_add_one, hkp, hc]
                  simp [Piece.row]
              · rw [List.take_add_one, hkp, hs2, hsk]; simp
        · obtain rfl : i = Q.length := by omega
          rw [List.take_length, List.drop_length, List.append_nil] at o
          rw [List.take_length] at hsk
          have q1 := b1.eq
          have q2 := b2.eq
          simp (disch := (first | omega | assumption | (simp only [push_n, set_n, put_n, List.length_cons, List.length_nil, List.length_append, Nat.reduceAdd]; done) | (simp only [push_n, set_n, put_n, List.length_cons, List.length_nil, List.length_append]; omega) | (simp only [List.all_cons, List.all_nil, one_bool, one_int, one_str, one_ptr, one_nilptr, one_slice, one_eslice, one_nilslice, one_func, one_iface, one_niliface, Bool.and_true, Bool.true_and, List.getD_cons_zero, List.getD_cons_succ, List.contains_cons, List.contains_nil, Bool.or_true, Bool.true_or, Bool.or_false, Bool.false_or, Nat.reduceBEq, *]; done) | fail)) only [i0, i1, i2, i6, i7, i101, i102, q1, q2, go_sem, Hold.p, HoldK.k, HoldL.K, HoldL.body, Nat.reduceBEq, Nat.reduceAdd, List.getElem?_cons_zero, List.getElem?_cons_succ, Option.bind_some, List.map_cons, List.map_nil, Nat.zero_add, if_true, List.getD_cons_zero, List.getD_cons_succ, List.contains_cons, List.contains_nil, Nat.reduceBEq, Bool.or_true, Bool.true_or, Bool.or_false, Bool.false_or, Bool.not_true, Bool.not_false, true_and, and_true, rowA_whole, mid_get, stO_mid, rowO_rows, cellO_rows, push_n, set_n, push_at, push_old, set_here, set_there, set_pushT, set_pushN, set_set, upd_ne, Nat.add_assoc, Nat.reduceAdd, Nat.add_zero, stO_1s, stO_ws, boxA_s, List.all_cons, List.all_nil, one_bool, one_int, one_str, one_ptr, one_nilptr, one_slice, one_eslice, one_nilslice, one_func, one_iface, one_niliface, Bool.and_true, Bool.and_self, List.length_cons, List.length_nil, Nat.one_ne_zero, Nat.succ_ne_zero, reduceIte, if_false, List.getElem?_cons_zero, List.set_cons_zero, List.set_cons_succ, lay_nil, lay_1, lay_w, Option.map_some]
          subst hsk
          have hSle := S.le
          exact ⟨rfl, v', ⟨by (first | omega | (simp only [push_n, set_n]; omega)), by (first | rfl | simp (disch := (first | omega | assumption | (simp only [push_n, set_n, put_n, List.length_cons, List.length_nil, List.length_append, Nat.reduceAdd]; done) | (simp only [push_n, set_n, put_n, List.length_cons, List.length_nil, List.length_append]; omega) | (simp only [List.all_cons, List.all_nil, one_bool, one_int, one_str, one_ptr, one_nilptr, one_slice, one_eslice, one_nilslice, one_func, one_iface, one_niliface, Bool.and_true, Bool.true_and, List.getD_cons_zero, List.getD_cons_succ, List.contains_cons, List.contains_nil, Bool.or_true, Bool.true_or, Bool.or_false, Bool.false_or, Nat.reduceBEq, *]; done) | fail)) only [b0.eq, push_n, set_n, push_at, push_old, set_here, set_there, Nat.add_assoc, Nat.reduceAdd])⟩, (o.set (m := h.n) (by omega) _).wide (lo' := h.n) (by omega) hhg (Nat.le_refl _), ⟨by (first | omega | (simp only [push_n, set_n]; omega)), fun m hm hb => by simp (disch := (first | omega | assumption | (simp only [push_n, set_n, put_n, List.length_cons, List.length_nil, List.length_append, Nat.reduceAdd]; done) | (simp only [push_n, set_n, put_n, List.length_cons, List.length_nil, List.length_append]; omega) | (simp only [List.all_cons, List.all_nil, one_bool, one_int, one_str, one_ptr, one_nilptr, one_slice, one_eslice, one_nilslice, one_func, one_iface, one_niliface, Bool.and_true, Bool.true_and, List.getD_cons_zero, List.getD_cons_succ, List.contains_cons, List.contains_nil, Bool.or_true, Bool.true_or, Bool.or_false, Bool.false_or, Nat.reduceBEq, *]; done) | fail)) only [S.obj, push_n, set_n, push_at, push_old, set_here, set_there, Nat.add_assoc, Nat.reduceAdd]⟩⟩
end Go.Proofs.Ytecljenjlncfhaa

namespace Go.Proofs.Ytecljenjlncfhaa
open Go Go.IW

set_option maxRecDepth 20000 in
set_option maxHeartbeats 1000000 in
theorem implBoardAck_c (h : IH) (v w : IV) (una nxt ack : Int) (ps : List Piece) (ss : List Str) (hs : SlR h 6 v (ps.map Piece.row)) (hw : SlR h 2 w (ss.map Str.row)) (hm : ss.length ≤ 1048576) :
    ICalls Try.prog 40 [.agg [.int .i64 una, .int .i64 nxt, v], .int .i64 ack, w] h fun r h' => AckRes h h' r (ackB una nxt ps ack ss) := by
  refine icalls (.of ok40) (Nat.le_of_ble_eq_true rfl) ?_
  unfold c40
  have hs0 := hs
  have hw0 := hw
  have hv1 := hs.one
  have hlw := hw.lenF
  rw [List.length_map] at hlw
  simp (disch := (first | omega | assumption | (simp only [push_n, set_n, put_n, List.length_cons, List.length_nil, List.length_append, Nat.reduceAdd]; done) | (simp only [push_n, set_n, put_n, List.length_cons, List.length_nil, List.length_append]; omega) | (simp only [List.all_cons, List.all_nil, one_bool, one_int, one_str, one_ptr, one_nilptr, one_slice, one_eslice, one_nilslice, one_func, one_iface, one_niliface, Bool.and_true, Bool.true_and, List.getD_cons_zero, List.getD_cons_succ, List.contains_cons, List.contains_nil, Bool.or_true, Bool.true_or, Bool.or_false, Bool.false_or, Nat.reduceBEq, *]; done) | fail)) only [go_sem, Hold.p, HoldK.k, HoldL.K, HoldL.body, Nat.reduceBEq, Nat.reduceAdd, List.getElem?_cons_zero, List.getElem?_cons_succ, Option.bind_some, List.map_cons, List.map_nil, Nat.zero_add, if_true, List.getD_cons_zero, List.getD_cons_succ, List.contains_cons, List.contains_nil, Nat.reduceBEq, Bool.or_true, Bool.true_or, Bool.or_false, Bool.false_or, Bool.not_true, Bool.not_false, true_and, and_true, rowA_whole, mid_get, stO_mid, rowO_rows, cellO_rows, push_n, set_n, push_at, push_old, set_here, set_there, set_pushT, set_pushN, set_set, upd_ne, Nat.add_assoc, Nat.reduceAdd, Nat.add_zero, stO_1s, stO_ws, boxA_s, List.all_cons, List.all_nil, one_bool, one_int, one_str, one_ptr, one_nilptr, one_slice, one_eslice, one_nilslice, one_func, one_iface, one_niliface, Bool.and_true, Bool.and_self, List.length_cons, List.length_nil, Nat.one_ne_zero, Nat.succ_ne_zero, reduceIte, if_false, List.getElem?_cons_zero, List.set_cons_zero, List.set_cons_succ, lay_nil, lay_1, lay_w, Option.map_some]
  generalize hq_g0 : IH.push h (IObj.rows [[IV.int .i64 una, IV.int .i64 nxt, v]] 40 3 false) = g0
  have e_g0 : Ext h g0 := by rw [← hq_g0]; exact (Ext.refl _).push _
  have l_g0 : g0.n = h.n + 1 := by rw [← hq_g0]; rfl
  have b0 : At g0 h.n (IObj.rows [[IV.int .i64 una, IV.int .i64 nxt, v]] 40 3 false) := by rw [← hq_g0]; exact At.new _ _
  clear hq_g0
  have hs := hs.ext e_g0
  have hw := hw.ext e_g0
  generalize hq_g1 : IH.push g0 (IObj.rows [[IV.int .i64 0, IV.int .i64 0, IV.nilslice]] 40 3 false) = g1
  have e_g1 : Ext g0 g1 := by rw [← hq_g1]; exact (Ext.refl _).push _
  have l_g1 : g1.n = g0.n + 1 := by rw [← hq_g1]; rfl
  have b1 : At g1 g0.n (IObj.rows [[IV.int .i64 0, IV.int .i64 0, IV.nilslice]] 40 3 false) := by rw [← hq_g1]; exact At.new _ _
  clear hq_g1
  have hs := hs.ext e_g1
  have hw := hw.ext e_g1
  have b0 := b0.ext e_g1
  generalize hq_g2 : IH.push g1 (IObj.rows [[IV.int .i64 0, IV.int .i64 0, IV.int .i64 0]] 55 3 false) = g2
  have e_g2 : Ext g1 g2 := by rw [← hq_g2]; exact (Ext.refl _).push _
  have l_g2 : g2.n = g1.n + 1 := by rw [← hq_g2]; rfl
  have b2 : At g2 g1.n (IObj.rows [[IV.int .i64 0, IV.int .i64 0, IV.int .i64 0]] 55 3 false) := by rw [← hq_g2]; exact At.new _ _
  clear hq_g2
  have hs := hs.ext e_g2
  have hw := hw.ext e_g2
  have b0 := b0.ext e_g2
  have b1 := b1.ext e_g2
  have E0 := (e_g0.trans e_g1).trans e_g2
  refine callA_of (okBoard_c g2 una nxt v ps hs) ?_
  rintro r g3 ⟨rfl, E3⟩
  have b0 := b0.ext E3
  have b1 := b1.ext E3
  have b2 := b2.ext E3
  have hs := hs.ext E3
  have hw := hw.ext E3
  have le_E3 := E3.le
  have q0 := b0.eq
  have q1 := b1.eq
  have q2 := b2.eq
  have E := E0.trans E3
  have hc : (!okB una nxt ps || decide (ack < una) || decide (nxt < ack) || decide ((3 : Int) < (ss.length : Int))) = !decide (okB una nxt ps = true ∧ (una ≤ ack ∧ ack ≤ nxt) ∧ ss.length ≤ 3) := by
    rw [Bool.eq_iff_iff]
    simp only [Bool.or_eq_true, Bool.not_eq_true', decide_eq_true_eq, decide_eq_false_iff_not]
    cases okB una nxt ps
    · simp
    · simp; omega
  by_cases hg : okB una nxt ps = true ∧ (una ≤ ack ∧ ack ≤ nxt) ∧ ss.length ≤ 3
  rotate_left
  · have hgb := hc
    rw [decide_eq_false hg, Bool.not_false] at hgb
    simp (disch := (first | omega | assumption | (simp only [push_n, set_n, put_n, List.length_cons, List.length_nil, List.length_append, Nat.reduceAdd]; done) | (simp only [push_n, set_n, put_n, List.length_cons, List.length_nil, List.length_append]; omega) | (simp only [List.all_cons, List.all_nil, one_bool, one_int, one_str, one_ptr, one_nilptr, one_slice, one_eslice, one_nilslice, one_func, one_iface, one_niliface, Bool.and_true, Bool.true_and, List.getD_cons_zero, List.getD_cons_succ, List.contains_cons, List.contains_nil, Bool.or_true, Bool.true_or, Bool.or_false, Bool.false_or, Nat.reduceBEq, *]; done) | fail)) only [q0, q1, q2, hlw, hgb, go_sem, Hold.p, HoldK.k, HoldL.K, HoldL.body, Nat.reduceBEq, Nat.reduceAdd, List.getElem?_cons_zero, List.getElem?_cons_succ, Option.bind_some, List.map_cons, List.map_nil, Nat.zero_add, if_true, List.getD_cons_zero, List.getD_cons_succ, List.contains_cons, List.contains_nil, Nat.reduceBEq, Bool.or_true, Bool.true_or, Bool.or_false, Bool.false_or, Bool.not_true, Bool.not_false, true_and, and_true, rowA_whole, mid_get, stO_mid, rowO_rows, cellO_rows, push_n, set_n, push_at, push_old, set_here, set_there, set_pushT, set_pushN, set_set, upd_ne, Nat.add_assoc, Nat.reduceAdd, Nat.add_zero, stO_1s, stO_ws, boxA_s, List.all_cons, List.all_nil, one_bool, one_int, one_str, one_ptr, one_nilptr, one_slice, one_eslice, one_nilslice, one_func, one_iface, one_niliface, Bool.and_true, Bool.and_self, List.length_cons, List.length_nil, Nat.one_ne_zero, Nat.succ_ne_zero, reduceIte, if_false, List.getElem?_cons_zero, List.set_cons_zero, List.set_cons_succ, lay_nil, lay_1, lay_w, Option.map_some]
    unfold ackB
    rw [if_neg hg]
    exact ⟨_, rfl, Own.nil, (E.set g0.n (by omega) _).set g1.n (by omega) _⟩
  have hgb := hc
  rw [decide_eq_true hg, Bool.not_true] at hgb
  obtain ⟨hok, ⟨k1, k2⟩, k3⟩ := hg
  obtain ⟨u1, u2, u3, u4, u5⟩ := okB_un hok
  simp (disch := (first | omega | assumption | (simp only [push_n, set_n, put_n, List.length_cons, List.length_nil, List.length_append, Nat.reduceAdd]; done) | (simp only [push_n, set_n, put_n, List.length_cons, List.length_nil, List.length_append]; omega) | (simp only [List.all_cons, List.all_nil, one_bool, one_int, one_str, one_ptr, one_nilptr, one_slice, one_eslice, one_nilslice, one_func, one_iface, one_niliface, Bool.and_true, Bool.true_and, List.getD_cons_zero, List.getD_cons_succ, List.contains_cons, List.contains_nil, Bool.or_true, Bool.true_or, Bool.or_false, Bool.false_or, Nat.reduceBEq, *]; done) | fail)) only [q0, q1, q2, hlw, hgb, go_sem, Hold.p, HoldK.k, HoldL.K, HoldL.body, Nat.reduceBEq, Nat.reduceAdd, List.getElem?_cons_zero, List.getElem?_cons_succ, Option.bind_some, List.map_cons, List.map_nil, Nat.zero_add, if_true, List.getD_cons_zero, List.getD_cons_succ, List.contains_cons, List.contains_nil, Nat.reduceBEq, Bool.or_true, Bool.true_or, Bool.or_false, Bool.false_or, Bool.not_true, Bool.not_false, true_and, and_true, rowA_whole, mid_get, stO_mid, rowO_rows, cellO_rows, push_n, set_n, push_at, push_old, set_here, set_there, set_pushT, set_pushN, set_set, upd_ne, Nat.add_assoc, Nat.reduceAdd, Nat.add_zero, stO_1s, stO_ws, boxA_s, List.all_cons, List.all_nil, one_bool, one_int, one_str, one_ptr, one_nilptr, one_slice, one_eslice, one_nilslice, one_func, one_iface, one_niliface, Bool.and_true, Bool.and_self, List.length_cons, List.length_nil, Nat.one_ne_zero, Nat.succ_ne_zero, reduceIte, if_false, List.getElem?_cons_zero, List.set_cons_zero, List.set_cons_succ, lay_nil, lay_1, lay_w, Option.map_some]
  refine callA_of (ownBoard_c g3 v una nxt _ hs (by rw [List.length_map]; omega)) ?_
  rintro r g4 ⟨v4, rfl, o4, E4⟩
  have b0 := b0.ext E4
  have b1 := b1.ext E4
  have b2 := b2.ext E4
  have hw := hw.ext E4
  have le_E4 := E4.le
  have E := E.trans E4
  have v4o := o4.one
  simp (disch := (first | omega | assumption | (simp only [push_n, set_n, put_n, List.length_cons, List.length_nil, List.length_append, Nat.reduceAdd]; done) | (simp only [push_n, set_n, put_n, List.length_cons, List.length_nil, List.length_append]; omega) | (simp only [List.all_cons, List.all_nil, one_bool, one_int, one_str, one_ptr, one_nilptr, one_slice, one_eslice, one_nilslice, one_func, one_iface, one_niliface, Bool.and_true, Bool.true_and, List.getD_cons_zero, List.getD_cons_succ, List.contains_cons, List.contains_nil, Bool.or_true, Bool.true_or, Bool.or_false, Bool.false_or, Nat.reduceBEq, *]; done) | fail)) only [go_sem, Hold.p, HoldK.k, HoldL.K, HoldL.body, Nat.reduceBEq, Nat.reduceAdd, List.getElem?_cons_zero, List.getElem?_cons_succ, Option.bind_some, List.map_cons, List.map_nil, Nat.zero_add, if_true, List.getD_cons_zero, List.getD_cons_succ, List.contains_cons, List.contains_nil, Nat.reduceBEq, Bool.or_true, Bool.true_or, Bool.or_false, Bool.false_or, Bool.not_true, Bool.not_false, true_and, and_true, rowA_whole, mid_get, stO_mid, rowO_rows, cellO_rows, push_n, set_n, push_at, push_old, set_here, set_there, set_pushT, set_pushN, set_set, upd_ne, Nat.add_assoc, Nat.reduceAdd, Nat.add_zero, stO_1s, stO_ws, boxA_s, List.all_cons, List.all_nil, one_bool, one_int, one_str, one_ptr, one_nilptr, one_slice, one_eslice, one_nilslice, one_func, one_iface, one_niliface, Bool.and_true, Bool.and_self, List.length_cons, List.length_nil, Nat.one_ne_zero, Nat.succ_ne_zero, reduceIte, if_false, List.getElem?_cons_zero, List.set_cons_zero, List.set_cons_succ, lay_nil, lay_1, lay_w, Option.map_some]
  generalize hq_g5 : IH.push g4 (IObj.rows [[IV.int .i64 una, IV.int .i64 nxt, v4]] 116 3 false) = g5
  have e_g5 : Ext g4 g5 := by rw [← hq_g5]; exact (Ext.refl _).push _
  have l_g5 : g5.n = g4.n + 1 := by rw [← hq_g5]; rfl
  have b5 : At g5 g4.n (IObj.rows [[IV.int .i64 una, IV.int .i64 nxt, v4]] 116 3 false) := by rw [← hq_g5]; exact At.new _ _
  clear hq_g5
  have b0 := b0.ext e_g5
  have b1 := b1.ext e_g5
  have b2 := b2.ext e_g5
  have hw := hw.ext e_g5
  have o4 := o4.ext e_g5
  have E := E.ext e_g5
  have hwb : ∀ l i n, w = .slice l i n → l ≠ g4.n := fun l i n hv => by have := hw0.lt l i n hv; have := E.le; omega
  have hvb : ∀ l i n, v4 = .slice l i n → l ≠ g4.n := fun l i n hv => by have := o4.at_ ⟨i, n, hv⟩; omega
  refine callA_of (ack_c g5 g4.n 116 v4 w una nxt ack ps ss b5 o4.sl hw u5 u1 k1 k2 u3 u4 k3 hvb hwb) ?_
  rintro r g6 ⟨rfl, v6, b6, o6, S⟩
  have r6 := b6.eq
  have v6o := o6.one
  have hle6 := S.le
  have r1 : g6.obj g0.n = _ := (S.obj g0.n b1.lt (by omega)).trans b1.eq
  have r2 : g6.obj g1.n = _ := (S.obj g1.n b2.lt (by omega)).trans b2.eq
  simp (disch := (first | omega | assumption | (simp only [push_n, set_n, put_n, List.length_cons, List.length_nil, List.length_append, Nat.reduceAdd]; done) | (simp only [push_n, set_n, put_n, List.length_cons, List.length_nil, List.length_append]; omega) | (simp only [List.all_cons, List.all_nil, one_bool, one_int, one_str, one_ptr, one_nilptr, one_slice, one_eslice, one_nilslice, one_func, one_iface, one_niliface, Bool.and_true, Bool.true_and, List.getD_cons_zero, List.getD_cons_succ, List.contains_cons, List.contains_nil, Bool.or_true, Bool.true_or, Bool.or_false, Bool.false_or, Nat.reduceBEq, *]; done) | fail)) only [r6, r1, r2, go_sem, Hold.p, HoldK.k, HoldL.K, HoldL.body, Nat.reduceBEq, Nat.reduceAdd, List.getElem?_cons_zero, List.getElem?_cons_succ, Option.bind_some, List.map_cons, List.map_nil, Nat.zero_add, if_true, List.getD_cons_zero, List.getD_cons_succ, List.contains_cons, List.contains_nil, Nat.reduceBEq, Bool.or_true, Bool.true_or, Bool.or_false, Bool.false_or, Bool.not_true, Bool.not_false, true_and, and_true, rowA_whole, mid_get, stO_mid, rowO_rows, cellO_rows, push_n, set_n, push_at, push_old, set_here, set_there, set_pushT, set_pushN, set_set, upd_ne, Nat.add_assoc, Nat.reduceAdd, Nat.add_zero, stO_1s, stO_ws, boxA_s, List.all_cons, List.all_nil, one_bool, one_int, one_str, one_ptr, one_nilptr, one_slice, one_eslice, one_nilslice, one_func, one_iface, one_niliface, Bool.and_true, Bool.and_self, List.length_cons, List.length_nil, Nat.one_ne_zero, Nat.succ_ne_zero, reduceIte, if_false, List.getElem?_cons_zero, List.set_cons_zero, List.set_cons_succ, lay_nil, lay_1, lay_w, Option.map_some]
  unfold ackB
  rw [if_pos ⟨hok, ⟨k1, k2⟩, k3⟩]
  have hlE := E.le
  refine ⟨v6, rfl, ?_, ⟨by (first | omega | (simp only [push_n, set_n]; omega)), fun l hl => by simp (disch := (first | omega | assumption | (simp only [push_n, set_n, put_n, List.length_cons, List.length_nil, List.length_append, Nat.reduceAdd]; done) | (simp only [push_n, set_n, put_n, List.length_cons, List.length_nil, List.length_append]; omega) | (simp only [List.all_cons, List.all_nil, one_bool, one_int, one_str, one_ptr, one_nilptr, one_slice, one_eslice, one_nilslice, one_func, one_iface, one_niliface, Bool.and_true, Bool.true_and, List.getD_cons_zero, List.getD_cons_succ, List.contains_cons, List.contains_nil, Bool.or_true, Bool.true_or, Bool.or_false, Bool.false_or, Nat.reduceBEq, *]; done) | fail)) only [S.obj, E.obj, push_n, set_n, push_at, push_old, set_here, set_there, Nat.add_assoc, Nat.reduceAdd]⟩⟩
  exact (((o6.set (m := g0.n) (by omega) _).set (m := g1.n) (by omega) _).ext ((Ext.refl _).push _)).wide (by omega) (by simp only [push_n, set_n]; omega) (Nat.le_refl _)
end Go.Proofs.Ytecljenjlncfhaa

namespace Go.Proofs.Ytecljenjlncfhaa
open Go Go.IW

def Piece.dat (p : Piece) : Dat := .pair (.int p.fr) (.pair (.int p.to) (.pair (.int p.at_) (.pair (.int p.times) (.pair (.bool p.sacked) (.pair (.bool p.lost) .unit)))))
def Str.dat (s : Str) : Dat := .pair (.int s.fr) (.pair (.int s.to) .unit)
def boardD (una nxt : Int) (ps : List Piece) : Dat := .pair (.int una) (.pair (.int nxt) (.pair (.list (ps.map Piece.dat)) .unit))
def newsD (a b c : Int) : Dat := .pair (.int a) (.pair (.int b) (.pair (.int c) .unit))
theorem piece_vw {S : Nat → Prop} {h : IH} {cs : List IV} {d : Dat} (hv : Rp S h t_Piece cs d) : ∃ x : Piece, cs = x.row ∧ d = x.dat := by
  obtain ⟨_, _, _, _, rfl, rfl, ⟨a1, rfl, rfl⟩, _, _, _, _, rfl, rfl, ⟨a2, rfl, rfl⟩, _, _, _, _, rfl, rfl, ⟨a3, rfl, rfl⟩, _, _, _, _, rfl, rfl, ⟨a4, rfl, rfl⟩, _, _, _, _, rfl, rfl, ⟨a5, rfl, rfl⟩, _, _, _, _, rfl, rfl, ⟨a6, rfl, rfl⟩, rfl, rfl⟩ := hv
  exact ⟨⟨a1, a2, a3, a4, a5, a6⟩, rfl, rfl⟩
theorem piece_ro (x : Piece) (h : IH) : Ro h t_Piece x.row x.dat [] :=
  ⟨[_], _, _, _, [], [], rfl, rfl, rfl, ⟨_, rfl, rfl, rfl⟩, [_], _, _, _, [], [], rfl, rfl, rfl, ⟨_, rfl, rfl, rfl⟩, [_], _, _, _, [], [], rfl, rfl, rfl, ⟨_, rfl, rfl, rfl⟩, [_], _, _, _, [], [], rfl, rfl, rfl, ⟨_, rfl, rfl, rfl⟩,
    [_], _, _, _, [], [], rfl, rfl, rfl, ⟨_, rfl, rfl, rfl⟩, [_], _, _, _, [], [], rfl, rfl, rfl, ⟨_, rfl, rfl, rfl⟩, rfl, rfl, rfl⟩
theorem str_vw {S : Nat → Prop} {h : IH} {cs : List IV} {d : Dat} (hv : Rp S h t_Stretch cs d) : ∃ x : Str, cs = x.row ∧ d = x.dat := by
  obtain ⟨_, _, _, _, rfl, rfl, ⟨a1, rfl, rfl⟩, _, _, _, _, rfl, rfl, ⟨a2, rfl, rfl⟩, rfl, rfl⟩ := hv
  exact ⟨⟨a1, a2⟩, rfl, rfl⟩
theorem dat_inj {ps qs : List Piece} (h : ps.map Piece.dat = qs.map Piece.dat) : ps = qs := by
  refine List.map_inj_right (fun x y e => ?_) |>.1 h
  cases x; cases y
  simp [Piece.dat] at e
  simp [e]
theorem sdat_inj {ps qs : List Str} (h : ps.map Str.dat = qs.map Str.dat) : ps = qs := by
  refine List.map_inj_right (fun x y e => ?_) |>.1 h
  cases x; cases y
  simp [Str.dat] at e
  simp [e]
theorem board_any {lo hi : Nat} {h : IH} {cs : List IV} {d : Dat} (hv : Vw lo hi h t_Board cs d) : ∃ una nxt v ps, cs = [.int .i64 una, .int .i64 nxt, v] ∧ d = boardD una nxt ps ∧ SlR h 6 v (ps.map Piece.row) := by
  obtain ⟨_, _, _, _, rfl, rfl, ⟨a1, rfl, rfl⟩, _, _, _, _, rfl, rfl, ⟨a2, rfl, rfl⟩, c, _, _, _, rfl, rfl, h3, rfl, rfl⟩ := hv
  obtain ⟨v, rfl⟩ := one_list rfl (Rp.len h3)
  obtain ⟨ps, rfl, hs, _⟩ := view_sl (t := t_Piece) (row := Piece.row) (dat := Piece.dat) piece_vw h3
  exact ⟨a1, a2, v, ps, rfl, rfl, hs⟩
theorem board_vw {lo hi : Nat} {h : IH} {cs : List IV} {una nxt : Int} {ps : List Piece} (hv : Vw lo hi h t_Board cs (boardD una nxt ps)) : ∃ v, cs = [.int .i64 una, .int .i64 nxt, v] ∧ SlR h 6 v (ps.map Piece.row) := by
  obtain ⟨a, b, v, qs, rfl, hd, hs⟩ := board_any hv
  simp only [boardD, Dat.pair.injEq, Dat.int.injEq, Dat.list.injEq, and_true] at hd
  obtain ⟨rfl, rfl, hq⟩ := hd
  obtain rfl := dat_inj hq
  exact ⟨v, rfl, hs⟩
theorem strs_vw {lo hi el : Nat} {h : IH} {v : IV} {ss : List Str} (hv : Vw lo hi h (.slice el t_Stretch) [v] (.list (ss.map Str.dat))) : SlR h 2 v (ss.map Str.row) := by
  obtain ⟨qs, hd, hs, _⟩ := view_sl (t := t_Stretch) (row := Str.row) (dat := Str.dat) str_vw hv
  simp only [Dat.list.injEq] at hd
  obtain rfl := sdat_inj hd
  exact hs
theorem board_ow {lo hi : Nat} {h : IH} {una nxt : Int} {v : IV} {ps : List Piece} (ho : Own lo hi h 113 6 v (ps.map Piece.row)) (hh : hi ≤ h.n) (hlo : lo ≤ hi) : Ow lo hi h t_Board [.int .i64 una, .int .i64 nxt, v] (boardD una nxt ps) := by
  have h3 := Own.ow (t := t_Piece) (row := Piece.row) (dat := Piece.dat) (fun x => piece_ro x h) ho hh
  have hn : Ow hi hi h .nil [] .unit := Ow.flat rfl ⟨rfl, rfl, rfl⟩ hh
  have i1 : ∀ a : Int, Ow lo lo h (.int .i64) [.int .i64 a] (.int a) := fun a => Ow.flat rfl ⟨a, rfl, rfl, rfl⟩ (by omega)
  exact (i1 una).cat ((i1 nxt).cat (h3.cat hn (.inl (Nat.le_refl _)) (Nat.le_refl _) hlo (Nat.le_refl _) (Nat.le_refl _) hh) (.inl (Nat.le_refl _)) (Nat.le_refl _) (Nat.le_refl _) hlo (Nat.le_refl _) hh) (.inl (Nat.le_refl _)) (Nat.le_refl _) (Nat.le_refl _) hlo (Nat.le_refl _) hh
theorem news_vw (lo hi : Nat) (h : IH) (a b c : Int) : Vw lo hi h t_BoardNews [.int .i64 a, .int .i64 b, .int .i64 c] (newsD a b c) :=
  ⟨[_], _, _, _, rfl, rfl, ⟨_, rfl, rfl⟩, [_], _, _, _, rfl, rfl, ⟨_, rfl, rfl⟩, [_], _, _, _, rfl, rfl, ⟨_, rfl, rfl⟩, rfl, rfl⟩
end Go.Proofs.Ytecljenjlncfhaa

namespace Go.Proofs.Ytecljenjlncfhaa
open Go Go.IW

theorem boardD_tot (una nxt : Int) (ps : List Piece) : (boardD una nxt ps).tot = ps.length := by
  have : totL (ps.map Piece.dat) = 0 := by
    induction ps with
    | nil => rfl
    | cons p r ih => simp only [List.map_cons, totL, ih]; rfl
  simp [boardD, Dat.tot, this]
theorem strs_tot (ss : List Str) : (Dat.list (ss.map Str.dat)).tot = ss.length := by
  have : totL (ss.map Str.dat) = 0 := by
    induction ss with
    | nil => rfl
    | cons p r ih => simp only [List.map_cons, totL, ih]; rfl
  simp [Dat.tot, this]
theorem boardD_cnt (una nxt : Int) (ps : List Piece) : cntW t_Board (boardD una nxt ps) = 6 * ps.length := by
  have : cntL t_Piece (ps.map Piece.dat) = 6 * ps.length := by
    induction ps with
    | nil => rfl
    | cons p r ih => simp only [List.map_cons, cntL, ih]; simp [t_Piece, Piece.dat, cntE]; omega
  simp [boardD, t_Board, cntW, cntE, this]
theorem strs_cnt (el : Nat) (ss : List Str) : cntW (.slice el t_Stretch) (.list (ss.map Str.dat)) = 2 * ss.length := by
  have : cntL t_Stretch (ss.map Str.dat) = 2 * ss.length := by
    induction ss with
    | nil => rfl
    | cons p r ih => simp only [List.map_cons, cntL, ih]; simp [t_Stretch, Str.dat, cntE]; omega
  simp [cntW, cntE, this]
theorem ackB_len (una nxt : Int) (ps : List Piece) (ack : Int) (ss : List Str) : (ackB una nxt ps ack ss).2.2.1.length ≤ 4096 := by
  unfold ackB
  split
  · rename_i hg
    obtain ⟨_, _, _, u4, _⟩ := okB_un hg.1
    have := ackF_len (ack := ack) (nxt := nxt) (ss := ss) ps.length ps
    rw [List.take_length] at this
    show (ackF ack nxt ss ps).1.length ≤ 4096
    omega
  · simp
theorem prs10_ok : parsOf Try.prog Try.f10.params.toList = some [(t_Board.sh, true), ((Ty.int .i64).sh, false), ((Ty.slice 127 t_Stretch).sh, false)] := by kernel_rfl
set_option maxRecDepth 20000 in
set_option maxHeartbeats 2000000 in
theorem lawBoardAck : LawTrue Try.prog 10 [(t_Board.sh, true), ((Ty.int .i64).sh, false), ((Ty.slice 127 t_Stretch).sh, false)] := by
  rintro h ivs ha ⟨iv, r, rfl, ⟨cs, rfl, hf⟩, _, _, rfl, ⟨ack, hack, _⟩, vs, _, rfl, hfs, rfl⟩
  obtain rfl := (List.cons.inj hack).1.symm
  obtain ⟨dB, aB, okB', _⟩ := fits_vw t_Board hf
  obtain ⟨dS, aS, okS, _⟩ := fits_vw (Ty.slice 127 t_Stretch) hfs
  obtain ⟨una, nxt, v, ps, rfl, rfl, hs⟩ := board_any aB
  obtain ⟨ss, rfl, hss, _⟩ := view_sl (t := t_Stretch) (row := Str.row) (dat := Str.dat) str_vw aS
  refine icalls (.of ok10) (Nat.le_of_ble_eq_true rfl) ?_
  unfold c10
  have hv1 := hs.one
  simp (disch := (first | omega | assumption | (simp only [push_n, set_n, put_n, List.length_cons, List.length_nil, List.length_append, Nat.reduceAdd]; done) | (simp only [push_n, set_n, put_n, List.length_cons, List.length_nil, List.length_append]; omega) | (simp only [List.all_cons, List.all_nil, one_bool, one_int, one_str, one_ptr, one_nilptr, one_slice, one_eslice, one_nilslice, one_func, one_iface, one_niliface, Bool.and_true, Bool.true_and, List.getD_cons_zero, List.getD_cons_succ, List.contains_cons, List.contains_nil, Bool.or_true, Bool.true_or, Bool.or_false, Bool.false_or, Nat.reduceBEq, *]; done) | fail)) only [go_sem, Hold.p, HoldK.k, HoldL.K, HoldL.body, Nat.reduceBEq, Nat.reduceAdd, List.getElem?_cons_zero, List.getElem?_cons_succ, Option.bind_some, List.map_cons, List.map_nil, Nat.zero_add, if_true, List.getD_cons_zero, List.getD_cons_succ, List.contains_cons, List.contains_nil, Nat.reduceBEq, Bool.or_true, Bool.true_or, Bool.or_false, Bool.false_or, Bool.not_true, Bool.not_false, true_and, and_true, rowA_whole, mid_get, stO_mid, rowO_rows, cellO_rows, push_n, set_n, push_at, push_old, set_here, set_there, set_pushT, set_pushN, set_set, upd_ne, Nat.add_assoc, Nat.reduceAdd, Nat.add_zero, stO_1s, stO_ws, boxA_s, List.all_cons, List.all_nil, one_bool, one_int, one_str, one_ptr, one_nilptr, one_slice, one_eslice, one_nilslice, one_func, one_iface, one_niliface, Bool.and_true, Bool.and_self, List.length_cons, List.length_nil, Nat.one_ne_zero, Nat.succ_ne_zero, reduceIte, if_false, List.getElem?_cons_zero, List.set_cons_zero, List.set_cons_succ, lay_nil, lay_1, lay_w, Option.map_some]
  generalize hq_g0 : IH.push h (IObj.rows [[IV.int .i64 una, IV.int .i64 nxt, v]] 35 3 false) = g0
  have e_g0 : Ext h g0 := by rw [← hq_g0]; exact (Ext.refl _).push _
  have l_g0 : g0.n = h.n + 1 := by rw [← hq_g0]; rfl
  have b0 : At g0 h.n (IObj.rows [[IV.int .i64 una, IV.int .i64 nxt, v]] 35 3 false) := by rw [← hq_g0]; exact At.new _ _
  clear hq_g0
  have aB := aB.ext e_g0
  have aS := aS.ext e_g0
  refine callA_of (SzC.st szBoard_f rfl (aB.up (by omega)) okB' (by omega)) ?_
  rintro r g1 ⟨⟨L, rfl, hL1, hL2⟩, E1⟩
  have b0 := b0.ext E1
  have aB := aB.ext E1
  have aS := aS.ext E1
  have le_E1 := E1.le
  by_cases hn1 : L < 0
  · have d1 : decide (L < 0) = true := decide_eq_true hn1
    simp (disch := (first | omega | assumption | (simp only [push_n, set_n, put_n, List.length_cons, List.length_nil, List.length_append, Nat.reduceAdd]; done) | (simp only [push_n, set_n, put_n, List.length_cons, List.length_nil, List.length_append]; omega) | (simp only [List.all_cons, List.all_nil, one_bool, one_int, one_str, one_ptr, one_nilptr, one_slice, one_eslice, one_nilslice, one_func, one_iface, one_niliface, Bool.and_true, Bool.true_and, List.getD_cons_zero, List.getD_cons_succ, List.contains_cons, List.contains_nil, Bool.or_true, Bool.true_or, Bool.or_false, Bool.false_or, Nat.reduceBEq, *]; done) | fail)) only [d1, go_sem, Hold.p, HoldK.k, HoldL.K, HoldL.body, Nat.reduceBEq, Nat.reduceAdd, List.getElem?_cons_zero, List.getElem?_cons_succ, Option.bind_some, List.map_cons, List.map_nil, Nat.zero_add, if_true, List.getD_cons_zero, List.getD_cons_succ, List.contains_cons, List.contains_nil, Nat.reduceBEq, Bool.or_true, Bool.true_or, Bool.or_false, Bool.false_or, Bool.not_true, Bool.not_false, true_and, and_true, rowA_whole, mid_get, stO_mid, rowO_rows, cellO_rows, push_n, set_n, push_at, push_old, set_here, set_there, set_pushT, set_pushN, set_set, upd_ne, Nat.add_assoc, Nat.reduceAdd, Nat.add_zero, stO_1s, stO_ws, boxA_s, List.all_cons, List.all_nil, one_bool, one_int, one_str, one_ptr, one_nilptr, one_slice, one_eslice, one_nilslice, one_func, one_iface, one_niliface, Bool.and_true, Bool.and_self, List.length_cons, List.length_nil, Nat.one_ne_zero, Nat.succ_ne_zero, reduceIte, if_false, List.getElem?_cons_zero, List.set_cons_zero, List.set_cons_succ, lay_nil, lay_1, lay_w, Option.map_some]
  have d1 : decide (L < 0) = false := decide_eq_false hn1
  simp (disch := (first | omega | assumption | (simp only [push_n, set_n, put_n, List.length_cons, List.length_nil, List.length_append, Nat.reduceAdd]; done) | (simp only [push_n, set_n, put_n, List.length_cons, List.length_nil, List.length_append]; omega) | (simp only [List.all_cons, List.all_nil, one_bool, one_int, one_str, one_ptr, one_nilptr, one_slice, one_eslice, one_nilslice, one_func, one_iface, one_niliface, Bool.and_true, Bool.true_and, List.getD_cons_zero, List.getD_cons_succ, List.contains_cons, List.contains_nil, Bool.or_true, Bool.true_or, Bool.or_false, Bool.false_or, Nat.reduceBEq, *]; done) | fail)) only [d1, go_sem, Hold.p, HoldK.k, HoldL.K, HoldL.body, Nat.reduceBEq, Nat.reduceAdd, List.getElem?_cons_zero, List.getElem?_cons_succ, Option.bind_some, List.map_cons, List.map_nil, Nat.zero_add, if_true, List.getD_cons_zero, List.getD_cons_succ, List.contains_cons, List.contains_nil, Nat.reduceBEq, Bool.or_true, Bool.true_or, Bool.or_false, Bool.false_or, Bool.not_true, Bool.not_false, true_and, and_true, rowA_whole, mid_get, stO_mid, rowO_rows, cellO_rows, push_n, set_n, push_at, push_old, set_here, set_there, set_pushT, set_pushN, set_set, upd_ne, Nat.add_assoc, Nat.reduceAdd, Nat.add_zero, stO_1s, stO_ws, boxA_s, List.all_cons, List.all_nil, one_bool, one_int, one_str, one_ptr, one_nilptr, one_slice, one_eslice, one_nilslice, one_func, one_iface, one_niliface, Bool.and_true, Bool.and_self, List.length_cons, List.length_nil, Nat.one_ne_zero, Nat.succ_ne_zero, reduceIte, if_false, List.getElem?_cons_zero, List.set_cons_zero, List.set_cons_succ, lay_nil, lay_1, lay_w, Option.map_some]
  refine callA_of (SzC.sl szStretchS_f (aS.up (by omega)) okS (by omega)) ?_
  rintro r g2 ⟨⟨L2, rfl, hL3, hL4⟩, E2⟩
  have b0 := b0.ext E2
  have aB := aB.ext E2
  have aS := aS.ext E2
  have le_E2 := E2.le
  by_cases hn2 : L2 < 0
  · have d2 : decide (L2 < 0) = true := decide_eq_true hn2
    simp (disch := (first | omega | assumption | (simp only [push_n, set_n, put_n, List.length_cons, List.length_nil, List.length_append, Nat.reduceAdd]; done) | (simp only [push_n, set_n, put_n, List.length_cons, List.length_nil, List.length_append]; omega) | (simp only [List.all_cons, List.all_nil, one_bool, one_int, one_str, one_ptr, one_nilptr, one_slice, one_eslice, one_nilslice, one_func, one_iface, one_niliface, Bool.and_true, Bool.true_and, List.getD_cons_zero, List.getD_cons_succ, List.contains_cons, List.contains_nil, Bool.or_true, Bool.true_or, Bool.or_false, Bool.false_or, Nat.reduceBEq, *]; done) | fail)) only [d2, go_sem, Hold.p, HoldK.k, HoldL.K, HoldL.body, Nat.reduceBEq, Nat.reduceAdd, List.getElem?_cons_zero, List.getElem?_cons_succ, Option.bind_some, List.map_cons, List.map_nil, Nat.zero_add, if_true, List.getD_cons_zero, List.getD_cons_succ, List.contains_cons, List.contains_nil, Nat.reduceBEq, Bool.or_true, Bool.true_or, Bool.or_false, Bool.false_or, Bool.not_true, Bool.not_false, true_and, and_true, rowA_whole, mid_get, stO_mid, rowO_rows, cellO_rows, push_n, set_n, push_at, push_old, set_here, set_there, set_pushT, set_pushN, set_set, upd_ne, Nat.add_assoc, Nat.reduceAdd, Nat.add_zero, stO_1s, stO_ws, boxA_s, List.all_cons, List.all_nil, one_bool, one_int, one_str, one_ptr, one_nilptr, one_slice, one_eslice, one_nilslice, one_func, one_iface, one_niliface, Bool.and_true, Bool.and_self, List.length_cons, List.length_nil, Nat.one_ne_zero, Nat.succ_ne_zero, reduceIte, if_false, List.getElem?_cons_zero, List.set_cons_zero, List.set_cons_succ, lay_nil, lay_1, lay_w, Option.map_some]
  have d2 : decide (L2 < 0) = false := decide_eq_false hn2
  have tB := hL2 (by omega)
  have tS := hL4 (by omega)
  have cB := boardD_cnt una nxt ps
  have cS := strs_cnt 127 ss
  rw [boardD_tot] at tB
  rw [strs_tot] at tS
  have tB' := boardD_tot una nxt ps
  have tS' := strs_tot ss
  have q0 := b0.eq
  simp (disch := (first | omega | assumption | (simp only [push_n, set_n, put_n, List.length_cons, List.length_nil, List.length_append, Nat.reduceAdd]; done) | (simp only [push_n, set_n, put_n, List.length_cons, List.length_nil, List.length_append]; omega) | (simp only [List.all_cons, List.all_nil, one_bool, one_int, one_str, one_ptr, one_nilptr, one_slice, one_eslice, one_nilslice, one_func, one_iface, one_niliface, Bool.and_true, Bool.true_and, List.getD_cons_zero, List.getD_cons_succ, List.contains_cons, List.contains_nil, Bool.or_true, Bool.true_or, Bool.or_false, Bool.false_or, Nat.reduceBEq, *]; done) | fail)) only [d2, q0, go_sem, Hold.p, HoldK.k, HoldL.K, HoldL.body, Nat.reduceBEq, Nat.reduceAdd, List.getElem?_cons_zero, List.getElem?_cons_succ, Option.bind_some, List.map_cons, List.map_nil, Nat.zero_add, if_true, List.getD_cons_zero, List.getD_cons_succ, List.contains_cons, List.contains_nil, Nat.reduceBEq, Bool.or_true, Bool.true_or, Bool.or_false, Bool.false_or, Bool.not_true, Bool.not_false, true_and, and_true, rowA_whole, mid_get, stO_mid, rowO_rows, cellO_rows, push_n, set_n, push_at, push_old, set_here, set_there, set_pushT, set_pushN, set_set, upd_ne, Nat.add_assoc, Nat.reduceAdd, Nat.add_zero, stO_1s, stO_ws, boxA_s, List.all_cons, List.all_nil, one_bool, one_int, one_str, one_ptr, one_nilptr, one_slice, one_eslice, one_nilslice, one_func, one_iface, one_niliface, Bool.and_true, Bool.and_self, List.length_cons, List.length_nil, Nat.one_ne_zero, Nat.succ_ne_zero, reduceIte, if_false, List.getElem?_cons_zero, List.set_cons_zero, List.set_cons_succ, lay_nil, lay_1, lay_w, Option.map_some]
  refine callA_of (ToC.st toBoard_f rfl (aB.up (by omega)) (by omega)) ?_
  rintro r g3 ⟨c1, rfl, o1, E3⟩
  have b0 := b0.ext E3
  have aB := aB.ext E3
  have aS := aS.ext E3
  have le_E3 := E3.le
  obtain ⟨v1, rfl, s1⟩ := board_vw o1.view
  simp (disch := (first | omega | assumption | (simp only [push_n, set_n, put_n, List.length_cons, List.length_nil, List.length_append, Nat.reduceAdd]; done) | (simp only [push_n, set_n, put_n, List.length_cons, List.length_nil, List.length_append]; omega) | (simp only [List.all_cons, List.all_nil, one_bool, one_int, one_str, one_ptr, one_nilptr, one_slice, one_eslice, one_nilslice, one_func, one_iface, one_niliface, Bool.and_true, Bool.true_and, List.getD_cons_zero, List.getD_cons_succ, List.contains_cons, List.contains_nil, Bool.or_true, Bool.true_or, Bool.or_false, Bool.false_or, Nat.reduceBEq, *]; done) | fail)) only [go_sem, Hold.p, HoldK.k, HoldL.K, HoldL.body, Nat.reduceBEq, Nat.reduceAdd, List.getElem?_cons_zero, List.getElem?_cons_succ, Option.bind_some, List.map_cons, List.map_nil, Nat.zero_add, if_true, List.getD_cons_zero, List.getD_cons_succ, List.contains_cons, List.contains_nil, Nat.reduceBEq, Bool.or_true, Bool.true_or, Bool.or_false, Bool.false_or, Bool.not_true, Bool.not_false, true_and, and_true, rowA_whole, mid_get, stO_mid, rowO_rows, cellO_rows, push_n, set_n, push_at, push_old, set_here, set_there, set_pushT, set_pushN, set_set, upd_ne, Nat.add_assoc, Nat.reduceAdd, Nat.add_zero, stO_1s, stO_ws, boxA_s, List.all_cons, List.all_nil, one_bool, one_int, one_str, one_ptr, one_nilptr, one_slice, one_eslice, one_nilslice, one_func, one_iface, one_niliface, Bool.and_true, Bool.and_self, List.length_cons, List.length_nil, Nat.one_ne_zero, Nat.succ_ne_zero, reduceIte, if_false, List.getElem?_cons_zero, List.set_cons_zero, List.set_cons_succ, lay_nil, lay_1, lay_w, Option.map_some]
  refine callA_of (ToC.sl toStretchS_f (aS.up (by omega)) (by omega)) ?_
  rintro v2 g4 ⟨o2, E4⟩
  have b0 := b0.ext E4
  have aB := aB.ext E4
  have aS := aS.ext E4
  have s1 := s1.ext E4
  have le_E4 := E4.le
  have s2 := strs_vw o2.view
  simp (disch := (first | omega | assumption | (simp only [push_n, set_n, put_n, List.length_cons, List.length_nil, List.length_append, Nat.reduceAdd]; done) | (simp only [push_n, set_n, put_n, List.length_cons, List.length_nil, List.length_append]; omega) | (simp only [List.all_cons, List.all_nil, one_bool, one_int, one_str, one_ptr, one_nilptr, one_slice, one_eslice, one_nilslice, one_func, one_iface, one_niliface, Bool.and_true, Bool.true_and, List.getD_cons_zero, List.getD_cons_succ, List.contains_cons, List.contains_nil, Bool.or_true, Bool.true_or, Bool.or_false, Bool.false_or, Nat.reduceBEq, *]; done) | fail)) only [go_sem, Hold.p, HoldK.k, HoldL.K, HoldL.body, Nat.reduceBEq, Nat.reduceAdd, List.getElem?_cons_zero, List.getElem?_cons_succ, Option.bind_some, List.map_cons, List.map_nil, Nat.zero_add, if_true, List.getD_cons_zero, List.getD_cons_succ, List.contains_cons, List.contains_nil, Nat.reduceBEq, Bool.or_true, Bool.true_or, Bool.or_false, Bool.false_or, Bool.not_true, Bool.not_false, true_and, and_true, rowA_whole, mid_get, stO_mid, rowO_rows, cellO_rows, push_n, set_n, push_at, push_old, set_here, set_there, set_pushT, set_pushN, set_set, upd_ne, Nat.add_assoc, Nat.reduceAdd, Nat.add_zero, stO_1s, stO_ws, boxA_s, List.all_cons, List.all_nil, one_bool, one_int, one_str, one_ptr, one_nilptr, one_slice, one_eslice, one_nilslice, one_func, one_iface, one_niliface, Bool.and_true, Bool.and_self, List.length_cons, List.length_nil, Nat.one_ne_zero, Nat.succ_ne_zero, reduceIte, if_false, List.getElem?_cons_zero, List.set_cons_zero, List.set_cons_succ, lay_nil, lay_1, lay_w, Option.map_some]
  refine callA_of (specBoardAck_c g4 v1 v2 una nxt ack ps ss s1 s2 (by omega)) ?_
  rintro r g5 ⟨vw, rfl, oW, E5⟩
  have b0 := b0.ext E5
  have aB := aB.ext E5
  have aS := aS.ext E5
  have le_E5 := E5.le
  have hxl := ackB_len una nxt ps ack ss
  generalize hx : ackB una nxt ps ack ss = x at oW hxl
  obtain ⟨x1, x2, xp, n1, n2, n3, xc⟩ := x
  simp only at oW hxl ⊢
  have oW := board_ow (una := x1) (nxt := x2) oW (Nat.le_refl _) le_E5
  have tX := boardD_tot x1 x2 xp
  have cX := boardD_cnt x1 x2 xp
  have wo := (oW.one vw (by simp))
  have q0 := b0.eq
  simp (disch := (first | omega | assumption | (simp only [push_n, set_n, put_n, List.length_cons, List.length_nil, List.length_append, Nat.reduceAdd]; done) | (simp only [push_n, set_n, put_n, List.length_cons, List.length_nil, List.length_append]; omega) | (simp only [List.all_cons, List.all_nil, one_bool, one_int, one_str, one_ptr, one_nilptr, one_slice, one_eslice, one_nilslice, one_func, one_iface, one_niliface, Bool.and_true, Bool.true_and, List.getD_cons_zero, List.getD_cons_succ, List.contains_cons, List.contains_nil, Bool.or_true, Bool.true_or, Bool.or_false, Bool.false_or, Nat.reduceBEq, *]; done) | fail)) only [q0, go_sem, Hold.p, HoldK.k, HoldL.K, HoldL.body, Nat.reduceBEq, Nat.reduceAdd, List.getElem?_cons_zero, List.getElem?_cons_succ, Option.bind_some, List.map_cons, List.map_nil, Nat.zero_add, if_true, List.getD_cons_zero, List.getD_cons_succ, List.contains_cons, List.contains_nil, Nat.reduceBEq, Bool.or_true, Bool.true_or, Bool.or_false, Bool.false_or, Bool.not_true, Bool.not_false, true_and, and_true, rowA_whole, mid_get, stO_mid, rowO_rows, cellO_rows, push_n, set_n, push_at, push_old, set_here, set_there, set_pushT, set_pushN, set_set, upd_ne, Nat.add_assoc, Nat.reduceAdd, Nat.add_zero, stO_1s, stO_ws, boxA_s, List.all_cons, List.all_nil, one_bool, one_int, one_str, one_ptr, one_nilptr, one_slice, one_eslice, one_nilslice, one_func, one_iface, one_niliface, Bool.and_true, Bool.and_self, List.length_cons, List.length_nil, Nat.one_ne_zero, Nat.succ_ne_zero, reduceIte, if_false, List.getElem?_cons_zero, List.set_cons_zero, List.set_cons_succ, lay_nil, lay_1, lay_w, Option.map_some]
  generalize hq_g6 : IH.push g5 (IObj.rows [[IV.int .i64 x1, IV.int .i64 x2, vw]] 40 3 false) = g6
  have e_g6 : Ext g5 g6 := by rw [← hq_g6]; exact (Ext.refl _).push _
  have l_g6 : g6.n = g5.n + 1 := by rw [← hq_g6]; rfl
  have bW : At g6 g5.n (IObj.rows [[IV.int .i64 x1, IV.int .i64 x2, vw]] 40 3 false) := by rw [← hq_g6]; exact At.new _ _
  clear hq_g6
  have b0 := b0.ext e_g6
  have aB := aB.ext e_g6
  have aS := aS.ext e_g6
  have oW := oW.ext e_g6
  generalize hq_g7 : IH.push g6 (IObj.rows [[IV.int .i64 n1, IV.int .i64 n2, IV.int .i64 n3]] 55 3 false) = g7
  have e_g7 : Ext g6 g7 := by rw [← hq_g7]; exact (Ext.refl _).push _
  have l_g7 : g7.n = g6.n + 1 := by rw [← hq_g7]; rfl
  have bN : At g7 g6.n (IObj.rows [[IV.int .i64 n1, IV.int .i64 n2, IV.int .i64 n3]] 55 3 false) := by rw [← hq_g7]; exact At.new _ _
  clear hq_g7
  have b0 := b0.ext e_g7
  have bW := bW.ext e_g7
  have aB := aB.ext e_g7
  have aS := aS.ext e_g7
  have oW := oW.ext e_g7
  refine callA_of (ToC.st toBoard_f rfl (aB.up (by omega)) (by omega)) ?_
  rintro r g8 ⟨c3, rfl, oX, E8⟩
  have b0 := b0.ext E8
  have bW := bW.ext E8
  have bN := bN.ext E8
  have aB := aB.ext E8
  have aS := aS.ext E8
  have oW := oW.ext E8
  have le_E8 := E8.le
  obtain ⟨vx, rfl, sx⟩ := board_vw oX.view
  have xo := (oX.one vx (by simp))
  simp (disch := (first | omega | assumption | (simp only [push_n, set_n, put_n, List.length_cons, List.length_nil, List.length_append, Nat.reduceAdd]; done) | (simp only [push_n, set_n, put_n, List.length_cons, List.length_nil, List.length_append]; omega) | (simp only [List.all_cons, List.all_nil, one_bool, one_int, one_str, one_ptr, one_nilptr, one_slice, one_eslice, one_nilslice, one_func, one_iface, one_niliface, Bool.and_true, Bool.true_and, List.getD_cons_zero, List.getD_cons_succ, List.contains_cons, List.contains_nil, Bool.or_true, Bool.true_or, Bool.or_false, Bool.false_or, Nat.reduceBEq, *]; done) | fail)) only [go_sem, Hold.p, HoldK.k, HoldL.K, HoldL.body, Nat.reduceBEq, Nat.reduceAdd, List.getElem?_cons_zero, List.getElem?_cons_succ, Option.bind_some, List.map_cons, List.map_nil, Nat.zero_add, if_true, List.getD_cons_zero, List.getD_cons_succ, List.contains_cons, List.contains_nil, Nat.reduceBEq, Bool.or_true, Bool.true_or, Bool.or_false, Bool.false_or, Bool.not_true, Bool.not_false, true_and, and_true, rowA_whole, mid_get, stO_mid, rowO_rows, cellO_rows, push_n, set_n, push_at, push_old, set_here, set_there, set_pushT, set_pushN, set_set, upd_ne, Nat.add_assoc, Nat.reduceAdd, Nat.add_zero, stO_1s, stO_ws, boxA_s, List.all_cons, List.all_nil, one_bool, one_int, one_str, one_ptr, one_nilptr, one_slice, one_eslice, one_nilslice, one_func, one_iface, one_niliface, Bool.and_true, Bool.and_self, List.length_cons, List.length_nil, Nat.one_ne_zero, Nat.succ_ne_zero, reduceIte, if_false, List.getElem?_cons_zero, List.set_cons_zero, List.set_cons_succ, lay_nil, lay_1, lay_w, Option.map_some]
  generalize hq_g9 : IH.push g8 (IObj.rows [[IV.int .i64 una, IV.int .i64 nxt, vx]] 40 3 false) = g9
  have e_g9 : Ext g8 g9 := by rw [← hq_g9]; exact (Ext.refl _).push _
  have l_g9 : g9.n = g8.n + 1 := by rw [← hq_g9]; rfl
  have bX : At g9 g8.n (IObj.rows [[IV.int .i64 una, IV.int .i64 nxt, vx]] 40 3 false) := by rw [← hq_g9]; exact At.new _ _
  clear hq_g9
  have b0 := b0.ext e_g9
  have bW := bW.ext e_g9
  have bN := bN.ext e_g9
  have aB := aB.ext e_g9
  have aS := aS.ext e_g9
  have oW := oW.ext e_g9
  have oX := oX.ext e_g9
  have sx := sx.ext e_g9
  refine callA_of (ToC.sl toStretchS_f (aS.up (by omega)) (by omega)) ?_
  rintro vy g10 ⟨oY, E10⟩
  have b0 := b0.ext E10
  have bW := bW.ext E10
  have bN := bN.ext E10
  have bX := bX.ext E10
  have aB := aB.ext E10
  have aS := aS.ext E10
  have oW := oW.ext E10
  have oX := oX.ext E10
  have sx := sx.ext E10
  have le_E10 := E10.le
  have sy := strs_vw oY.view
  have q0 := bX.eq
  simp (disch := (first | omega | assumption | (simp only [push_n, set_n, put_n, List.length_cons, List.length_nil, List.length_append, Nat.reduceAdd]; done) | (simp only [push_n, set_n, put_n, List.length_cons, List.length_nil, List.length_append]; omega) | (simp only [List.all_cons, List.all_nil, one_bool, one_int, one_str, one_ptr, one_nilptr, one_slice, one_eslice, one_nilslice, one_func, one_iface, one_niliface, Bool.and_true, Bool.true_and, List.getD_cons_zero, List.getD_cons_succ, List.contains_cons, List.contains_nil, Bool.or_true, Bool.true_or, Bool.or_false, Bool.false_or, Nat.reduceBEq, *]; done) | fail)) only [q0, go_sem, Hold.p, HoldK.k, HoldL.K, HoldL.body, Nat.reduceBEq, Nat.reduceAdd, List.getElem?_cons_zero, List.getElem?_cons_succ, Option.bind_some, List.map_cons, List.map_nil, Nat.zero_add, if_true, List.getD_cons_zero, List.getD_cons_succ, List.contains_cons, List.contains_nil, Nat.reduceBEq, Bool.or_true, Bool.true_or, Bool.or_false, Bool.false_or, Bool.not_true, Bool.not_false, true_and, and_true, rowA_whole, mid_get, stO_mid, rowO_rows, cellO_rows, push_n, set_n, push_at, push_old, set_here, set_there, set_pushT, set_pushN, set_set, upd_ne, Nat.add_assoc, Nat.reduceAdd, Nat.add_zero, stO_1s, stO_ws, boxA_s, List.all_cons, List.all_nil, one_bool, one_int, one_str, one_ptr, one_nilptr, one_slice, one_eslice, one_nilslice, one_func, one_iface, one_niliface, Bool.and_true, Bool.and_self, List.length_cons, List.length_nil, Nat.one_ne_zero, Nat.succ_ne_zero, reduceIte, if_false, List.getElem?_cons_zero, List.set_cons_zero, List.set_cons_succ, lay_nil, lay_1, lay_w, Option.map_some]
  refine callA_of (implBoardAck_c g10 vx vy una nxt ack ps ss sx sy (by omega)) ?_
  rintro r g11 ⟨vg, rfl, oG, E11⟩
  rw [hx] at oG
  simp only [hx] at oG ⊢
  have b0 := b0.ext E11
  have bW := bW.ext E11
  have bN := bN.ext E11
  have bX := bX.ext E11
  have aB := aB.ext E11
  have aS := aS.ext E11
  have oW := oW.ext E11
  have oX := oX.ext E11
  have oY := oY.ext E11
  have le_E11 := E11.le
  have oG := board_ow (una := x1) (nxt := x2) oG (Nat.le_refl _) le_E11
  have go := (oG.one vg (by simp))
  have q0 := b0.eq
  have q1 := bX.eq
  have q2 := bW.eq
  have q3 := bN.eq
  rw [l_g6] at q3
  simp (disch := (first | omega | assumption | (simp only [push_n, set_n, put_n, List.length_cons, List.length_nil, List.length_append, Nat.reduceAdd]; done) | (simp only [push_n, set_n, put_n, List.length_cons, List.length_nil, List.length_append]; omega) | (simp only [List.all_cons, List.all_nil, one_bool, one_int, one_str, one_ptr, one_nilptr, one_slice, one_eslice, one_nilslice, one_func, one_iface, one_niliface, Bool.and_true, Bool.true_and, List.getD_cons_zero, List.getD_cons_succ, List.contains_cons, List.contains_nil, Bool.or_true, Bool.true_or, Bool.or_false, Bool.false_or, Nat.reduceBEq, *]; done) | fail)) only [q0, q1, q2, q3, go_sem, Hold.p, HoldK.k, HoldL.K, HoldL.body, Nat.reduceBEq, Nat.reduceAdd, List.getElem?_cons_zero, List.getElem?_cons_succ, Option.bind_some, List.map_cons, List.map_nil, Nat.zero_add, if_true, List.getD_cons_zero, List.getD_cons_succ, List.contains_cons, List.contains_nil, Nat.reduceBEq, Bool.or_true, Bool.true_or, Bool.or_false, Bool.false_or, Bool.not_true, Bool.not_false, true_and, and_true, rowA_whole, mid_get, stO_mid, rowO_rows, cellO_rows, push_n, set_n, push_at, push_old, set_here, set_there, set_pushT, set_pushN, set_set, upd_ne, Nat.add_assoc, Nat.reduceAdd, Nat.add_zero, stO_1s, stO_ws, boxA_s, List.all_cons, List.all_nil, one_bool, one_int, one_str, one_ptr, one_nilptr, one_slice, one_eslice, one_nilslice, one_func, one_iface, one_niliface, Bool.and_true, Bool.and_self, List.length_cons, List.length_nil, Nat.one_ne_zero, Nat.succ_ne_zero, reduceIte, if_false, List.getElem?_cons_zero, List.set_cons_zero, List.set_cons_succ, lay_nil, lay_1, lay_w, Option.map_some]
  generalize hq_g12 : IH.push g11 (IObj.rows [[IV.int .i64 x1, IV.int .i64 x2, vg]] 40 3 false) = g12
  have e_g12 : Ext g11 g12 := by rw [← hq_g12]; exact (Ext.refl _).push _
  have l_g12 : g12.n = g11.n + 1 := by rw [← hq_g12]; rfl
  have bG : At g12 g11.n (IObj.rows [[IV.int .i64 x1, IV.int .i64 x2, vg]] 40 3 false) := by rw [← hq_g12]; exact At.new _ _
  clear hq_g12
  have b0 := b0.ext e_g12
  have bW := bW.ext e_g12
  have bN := bN.ext e_g12
  have bX := bX.ext e_g12
  have aB := aB.ext e_g12
  have aS := aS.ext e_g12
  have oW := oW.ext e_g12
  have oX := oX.ext e_g12
  have oY := oY.ext e_g12
  have oG := oG.ext e_g12
  generalize hq_g13 : IH.push g12 (IObj.rows [[IV.int .i64 n1, IV.int .i64 n2, IV.int .i64 n3]] 55 3 false) = g13
  have e_g13 : Ext g12 g13 := by rw [← hq_g13]; exact (Ext.refl _).push _
  have l_g13 : g13.n = g12.n + 1 := by rw [← hq_g13]; rfl
  have bM : At g13 g12.n (IObj.rows [[IV.int .i64 n1, IV.int .i64 n2, IV.int .i64 n3]] 55 3 false) := by rw [← hq_g13]; exact At.new _ _
  clear hq_g13
  have b0 := b0.ext e_g13
  have bW := bW.ext e_g13
  have bN := bN.ext e_g13
  have bX := bX.ext e_g13
  have bG := bG.ext e_g13
  have aB := aB.ext e_g13
  have aS := aS.ext e_g13
  have oW := oW.ext e_g13
  have oX := oX.ext e_g13
  have oY := oY.ext e_g13
  have oG := oG.ext e_g13
  have q2 := bW.eq
  have q4 := bG.eq
  try simp (disch := (first | omega | assumption | (simp only [push_n, set_n, put_n, List.length_cons, List.length_nil, List.length_append, Nat.reduceAdd]; done) | (simp only [push_n, set_n, put_n, List.length_cons, List.length_nil, List.length_append]; omega) | (simp only [List.all_cons, List.all_nil, one_bool, one_int, one_str, one_ptr, one_nilptr, one_slice, one_eslice, one_nilslice, one_func, one_iface, one_niliface, Bool.and_true, Bool.true_and, List.getD_cons_zero, List.getD_cons_succ, List.contains_cons, List.contains_nil, Bool.or_true, Bool.true_or, Bool.or_false, Bool.false_or, Nat.reduceBEq, *]; done) | fail)) only [q2, q4, go_sem, Hold.p, HoldK.k, HoldL.K, HoldL.body, Nat.reduceBEq, Nat.reduceAdd, List.getElem?_cons_zero, List.getElem?_cons_succ, Option.bind_some, List.map_cons, List.map_nil, Nat.zero_add, if_true, List.getD_cons_zero, List.getD_cons_succ, List.contains_cons, List.contains_nil, Nat.reduceBEq, Bool.or_true, Bool.true_or, Bool.or_false, Bool.false_or, Bool.not_true, Bool.not_false, true_and, and_true, rowA_whole, mid_get, stO_mid, rowO_rows, cellO_rows, push_n, set_n, push_at, push_old, set_here, set_there, set_pushT, set_pushN, set_set, upd_ne, Nat.add_assoc, Nat.reduceAdd, Nat.add_zero, stO_1s, stO_ws, boxA_s, List.all_cons, List.all_nil, one_bool, one_int, one_str, one_ptr, one_nilptr, one_slice, one_eslice, one_nilslice, one_func, one_iface, one_niliface, Bool.and_true, Bool.and_self, List.length_cons, List.length_nil, Nat.one_ne_zero, Nat.succ_ne_zero, reduceIte, if_false, List.getElem?_cons_zero, List.set_cons_zero, List.set_cons_succ, lay_nil, lay_1, lay_w, Option.map_some]
  refine callA_of (EqC.st eqBoard_f rfl oG.up oW.up (by omega)) ?_
  rintro r g14 ⟨rfl, E14⟩
  have b0 := b0.ext E14
  have bW := bW.ext E14
  have bN := bN.ext E14
  have bX := bX.ext E14
  have bG := bG.ext E14
  have bM := bM.ext E14
  have aB := aB.ext E14
  have aS := aS.ext E14
  have oW := oW.ext E14
  have oX := oX.ext E14
  have oY := oY.ext E14
  have oG := oG.ext E14
  have le_E14 := E14.le
  have q3 := bN.eq
  rw [l_g6] at q3
  have q5 := bM.eq
  rw [l_g12] at q5
  simp (disch := (first | omega | assumption | (simp only [push_n, set_n, put_n, List.length_cons, List.length_nil, List.length_append, Nat.reduceAdd]; done) | (simp only [push_n, set_n, put_n, List.length_cons, List.length_nil, List.length_append]; omega) | (simp only [List.all_cons, List.all_nil, one_bool, one_int, one_str, one_ptr, one_nilptr, one_slice, one_eslice, one_nilslice, one_func, one_iface, one_niliface, Bool.and_true, Bool.true_and, List.getD_cons_zero, List.getD_cons_succ, List.contains_cons, List.contains_nil, Bool.or_true, Bool.true_or, Bool.or_false, Bool.false_or, Nat.reduceBEq, *]; done) | fail)) only [q3, q5, go_sem, Hold.p, HoldK.k, HoldL.K, HoldL.body, Nat.reduceBEq, Nat.reduceAdd, List.getElem?_cons_zero, List.getElem?_cons_succ, Option.bind_some, List.map_cons, List.map_nil, Nat.zero_add, if_true, List.getD_cons_zero, List.getD_cons_succ, List.contains_cons, List.contains_nil, Nat.reduceBEq, Bool.or_true, Bool.true_or, Bool.or_false, Bool.false_or, Bool.not_true, Bool.not_false, true_and, and_true, rowA_whole, mid_get, stO_mid, rowO_rows, cellO_rows, push_n, set_n, push_at, push_old, set_here, set_there, set_pushT, set_pushN, set_set, upd_ne, Nat.add_assoc, Nat.reduceAdd, Nat.add_zero, stO_1s, stO_ws, boxA_s, List.all_cons, List.all_nil, one_bool, one_int, one_str, one_ptr, one_nilptr, one_slice, one_eslice, one_nilslice, one_func, one_iface, one_niliface, Bool.and_true, Bool.and_self, List.length_cons, List.length_nil, Nat.one_ne_zero, Nat.succ_ne_zero, reduceIte, if_false, List.getElem?_cons_zero, List.set_cons_zero, List.set_cons_succ, lay_nil, lay_1, lay_w, Option.map_some]
  refine callA_of (EqC.st eqBoardNews_f rfl (news_vw 0 g14.n g14 n1 n2 n3) (news_vw 0 g14.n g14 n1 n2 n3) (by simp [newsD, Dat.tot])) ?_
  rintro r g15 ⟨rfl, E15⟩
  have b0 := b0.ext E15
  have bW := bW.ext E15
  have bN := bN.ext E15
  have bX := bX.ext E15
  have bG := bG.ext E15
  have bM := bM.ext E15
  have aB := aB.ext E15
  have aS := aS.ext E15
  have oW := oW.ext E15
  have oX := oX.ext E15
  have oY := oY.ext E15
  have oG := oG.ext E15
  have le_E15 := E15.le
  have q0 := b0.eq
  have q1 := bX.eq
  simp (disch := (first | omega | assumption | (simp only [push_n, set_n, put_n, List.length_cons, List.length_nil, List.length_append, Nat.reduceAdd]; done) | (simp only [push_n, set_n, put_n, List.length_cons, List.length_nil, List.length_append]; omega) | (simp only [List.all_cons, List.all_nil, one_bool, one_int, one_str, one_ptr, one_nilptr, one_slice, one_eslice, one_nilslice, one_func, one_iface, one_niliface, Bool.and_true, Bool.true_and, List.getD_cons_zero, List.getD_cons_succ, List.contains_cons, List.contains_nil, Bool.or_true, Bool.true_or, Bool.or_false, Bool.false_or, Nat.reduceBEq, *]; done) | fail)) only [q0, q1, decide_true, go_sem, Hold.p, HoldK.k, HoldL.K, HoldL.body, Nat.reduceBEq, Nat.reduceAdd, List.getElem?_cons_zero, List.getElem?_cons_succ, Option.bind_some, List.map_cons, List.map_nil, Nat.zero_add, if_true, List.getD_cons_zero, List.getD_cons_succ, List.contains_cons, List.contains_nil, Nat.reduceBEq, Bool.or_true, Bool.true_or, Bool.or_false, Bool.false_or, Bool.not_true, Bool.not_false, true_and, and_true, rowA_whole, mid_get, stO_mid, rowO_rows, cellO_rows, push_n, set_n, push_at, push_old, set_here, set_there, set_pushT, set_pushN, set_set, upd_ne, Nat.add_assoc, Nat.reduceAdd, Nat.add_zero, stO_1s, stO_ws, boxA_s, List.all_cons, List.all_nil, one_bool, one_int, one_str, one_ptr, one_nilptr, one_slice, one_eslice, one_nilslice, one_func, one_iface, one_niliface, Bool.and_true, Bool.and_self, List.length_cons, List.length_nil, Nat.one_ne_zero, Nat.succ_ne_zero, reduceIte, if_false, List.getElem?_cons_zero, List.set_cons_zero, List.set_cons_succ, lay_nil, lay_1, lay_w, Option.map_some]
  refine callA_of (ToC.st toBoard_f rfl (aB.up (by omega)) (by omega)) ?_
  rintro r g16 ⟨c4, rfl, o4, E16⟩
  have b0 := b0.ext E16
  have bW := bW.ext E16
  have bN := bN.ext E16
  have bX := bX.ext E16
  have bG := bG.ext E16
  have bM := bM.ext E16
  have aB := aB.ext E16
  have aS := aS.ext E16
  have oW := oW.ext E16
  have oX := oX.ext E16
  have oY := oY.ext E16
  have oG := oG.ext E16
  have le_E16 := E16.le
  obtain ⟨v4, rfl, s4⟩ := board_vw o4.view
  have q1 := bX.eq
  simp (disch := (first | omega | assumption | (simp only [push_n, set_n, put_n, List.length_cons, List.length_nil, List.length_append, Nat.reduceAdd]; done) | (simp only [push_n, set_n, put_n, List.length_cons, List.length_nil, List.length_append]; omega) | (simp only [List.all_cons, List.all_nil, one_bool, one_int, one_str, one_ptr, one_nilptr, one_slice, one_eslice, one_nilslice, one_func, one_iface, one_niliface, Bool.and_true, Bool.true_and, List.getD_cons_zero, List.getD_cons_succ, List.contains_cons, List.contains_nil, Bool.or_true, Bool.true_or, Bool.or_false, Bool.false_or, Nat.reduceBEq, *]; done) | fail)) only [q1, go_sem, Hold.p, HoldK.k, HoldL.K, HoldL.body, Nat.reduceBEq, Nat.reduceAdd, List.getElem?_cons_zero, List.getElem?_cons_succ, Option.bind_some, List.map_cons, List.map_nil, Nat.zero_add, if_true, List.getD_cons_zero, List.getD_cons_succ, List.contains_cons, List.contains_nil, Nat.reduceBEq, Bool.or_true, Bool.true_or, Bool.or_false, Bool.false_or, Bool.not_true, Bool.not_false, true_and, and_true, rowA_whole, mid_get, stO_mid, rowO_rows, cellO_rows, push_n, set_n, push_at, push_old, set_here, set_there, set_pushT, set_pushN, set_set, upd_ne, Nat.add_assoc, Nat.reduceAdd, Nat.add_zero, stO_1s, stO_ws, boxA_s, List.all_cons, List.all_nil, one_bool, one_int, one_str, one_ptr, one_nilptr, one_slice, one_eslice, one_nilslice, one_func, one_iface, one_niliface, Bool.and_true, Bool.and_self, List.length_cons, List.length_nil, Nat.one_ne_zero, Nat.succ_ne_zero, reduceIte, if_false, List.getElem?_cons_zero, List.set_cons_zero, List.set_cons_succ, lay_nil, lay_1, lay_w, Option.map_some]
  refine callA_of (EqC.st eqBoard_f rfl oX.up o4.up (by omega)) ?_
  rintro r g17 ⟨rfl, E17⟩
  have b0 := b0.ext E17
  have bW := bW.ext E17
  have bN := bN.ext E17
  have bX := bX.ext E17
  have bG := bG.ext E17
  have bM := bM.ext E17
  have aB := aB.ext E17
  have aS := aS.ext E17
  have oW := oW.ext E17
  have oX := oX.ext E17
  have oY := oY.ext E17
  have oG := oG.ext E17
  have le_E17 := E17.le
  simp (disch := (first | omega | assumption | (simp only [push_n, set_n, put_n, List.length_cons, List.length_nil, List.length_append, Nat.reduceAdd]; done) | (simp only [push_n, set_n, put_n, List.length_cons, List.length_nil, List.length_append]; omega) | (simp only [List.all_cons, List.all_nil, one_bool, one_int, one_str, one_ptr, one_nilptr, one_slice, one_eslice, one_nilslice, one_func, one_iface, one_niliface, Bool.and_true, Bool.true_and, List.getD_cons_zero, List.getD_cons_succ, List.contains_cons, List.contains_nil, Bool.or_true, Bool.true_or, Bool.or_false, Bool.false_or, Nat.reduceBEq, *]; done) | fail)) only [go_sem, Hold.p, HoldK.k, HoldL.K, HoldL.body, Nat.reduceBEq, Nat.reduceAdd, List.getElem?_cons_zero, List.getElem?_cons_succ, Option.bind_some, List.map_cons, List.map_nil, Nat.zero_add, if_true, List.getD_cons_zero, List.getD_cons_succ, List.contains_cons, List.contains_nil, Nat.reduceBEq, Bool.or_true, Bool.true_or, Bool.or_false, Bool.false_or, Bool.not_true, Bool.not_false, true_and, and_true, rowA_whole, mid_get, stO_mid, rowO_rows, cellO_rows, push_n, set_n, push_at, push_old, set_here, set_there, set_pushT, set_pushN, set_set, upd_ne, Nat.add_assoc, Nat.reduceAdd, Nat.add_zero, stO_1s, stO_ws, boxA_s, List.all_cons, List.all_nil, one_bool, one_int, one_str, one_ptr, one_nilptr, one_slice, one_eslice, one_nilslice, one_func, one_iface, one_niliface, Bool.and_true, Bool.and_self, List.length_cons, List.length_nil, Nat.one_ne_zero, Nat.succ_ne_zero, reduceIte, if_false, List.getElem?_cons_zero, List.set_cons_zero, List.set_cons_succ, lay_nil, lay_1, lay_w, Option.map_some]
  refine callA_of (ToC.sl toStretchS_f (aS.up (by omega)) (by omega)) ?_
  rintro v5 g18 ⟨o5, E18⟩
  have b0 := b0.ext E18
  have bW := bW.ext E18
  have bN := bN.ext E18
  have bX := bX.ext E18
  have bG := bG.ext E18
  have bM := bM.ext E18
  have aB := aB.ext E18
  have aS := aS.ext E18
  have oW := oW.ext E18
  have oX := oX.ext E18
  have oY := oY.ext E18
  have oG := oG.ext E18
  have le_E18 := E18.le
  simp (disch := (first | omega | assumption | (simp only [push_n, set_n, put_n, List.length_cons, List.length_nil, List.length_append, Nat.reduceAdd]; done) | (simp only [push_n, set_n, put_n, List.length_cons, List.length_nil, List.length_append]; omega) | (simp only [List.all_cons, List.all_nil, one_bool, one_int, one_str, one_ptr, one_nilptr, one_slice, one_eslice, one_nilslice, one_func, one_iface, one_niliface, Bool.and_true, Bool.true_and, List.getD_cons_zero, List.getD_cons_succ, List.contains_cons, List.contains_nil, Bool.or_true, Bool.true_or, Bool.or_false, Bool.false_or, Nat.reduceBEq, *]; done) | fail)) only [go_sem, Hold.p, HoldK.k, HoldL.K, HoldL.body, Nat.reduceBEq, Nat.reduceAdd, List.getElem?_cons_zero, List.getElem?_cons_succ, Option.bind_some, List.map_cons, List.map_nil, Nat.zero_add, if_true, List.getD_cons_zero, List.getD_cons_succ, List.contains_cons, List.contains_nil, Nat.reduceBEq, Bool.or_true, Bool.true_or, Bool.or_false, Bool.false_or, Bool.not_true, Bool.not_false, true_and, and_true, rowA_whole, mid_get, stO_mid, rowO_rows, cellO_rows, push_n, set_n, push_at, push_old, set_here, set_there, set_pushT, set_pushN, set_set, upd_ne, Nat.add_assoc, Nat.reduceAdd, Nat.add_zero, stO_1s, stO_ws, boxA_s, List.all_cons, List.all_nil, one_bool, one_int, one_str, one_ptr, one_nilptr, one_slice, one_eslice, one_nilslice, one_func, one_iface, one_niliface, Bool.and_true, Bool.and_self, List.length_cons, List.length_nil, Nat.one_ne_zero, Nat.succ_ne_zero, reduceIte, if_false, List.getElem?_cons_zero, List.set_cons_zero, List.set_cons_succ, lay_nil, lay_1, lay_w, Option.map_some]
  refine callA_of (EqC.sl eqStretchS_f oY.up o5.up (by omega)) ?_
  rintro r g19 ⟨rfl, E19⟩
  have b0 := b0.ext E19
  have bW := bW.ext E19
  have bN := bN.ext E19
  have bX := bX.ext E19
  have bG := bG.ext E19
  have bM := bM.ext E19
  have aB := aB.ext E19
  have aS := aS.ext E19
  have oW := oW.ext E19
  have oX := oX.ext E19
  have oY := oY.ext E19
  have oG := oG.ext E19
  have le_E19 := E19.le
  have q1 := bX.eq
  simp (disch := (first | omega | assumption | (simp only [push_n, set_n, put_n, List.length_cons, List.length_nil, List.length_append, Nat.reduceAdd]; done) | (simp only [push_n, set_n, put_n, List.length_cons, List.length_nil, List.length_append]; omega) | (simp only [List.all_cons, List.all_nil, one_bool, one_int, one_str, one_ptr, one_nilptr, one_slice, one_eslice, one_nilslice, one_func, one_iface, one_niliface, Bool.and_true, Bool.true_and, List.getD_cons_zero, List.getD_cons_succ, List.contains_cons, List.contains_nil, Bool.or_true, Bool.true_or, Bool.or_false, Bool.false_or, Nat.reduceBEq, *]; done) | fail)) only [q1, go_sem, Hold.p, HoldK.k, HoldL.K, HoldL.body, Nat.reduceBEq, Nat.reduceAdd, List.getElem?_cons_zero, List.getElem?_cons_succ, Option.bind_some, List.map_cons, List.map_nil, Nat.zero_add, if_true, List.getD_cons_zero, List.getD_cons_succ, List.contains_cons, List.contains_nil, Nat.reduceBEq, Bool.or_true, Bool.true_or, Bool.or_false, Bool.false_or, Bool.not_true, Bool.not_false, true_and, and_true, rowA_whole, mid_get, stO_mid, rowO_rows, cellO_rows, push_n, set_n, push_at, push_old, set_here, set_there, set_pushT, set_pushN, set_set, upd_ne, Nat.add_assoc, Nat.reduceAdd, Nat.add_zero, stO_1s, stO_ws, boxA_s, List.all_cons, List.all_nil, one_bool, one_int, one_str, one_ptr, one_nilptr, one_slice, one_eslice, one_nilslice, one_func, one_iface, one_niliface, Bool.and_true, Bool.and_self, List.length_cons, List.length_nil, Nat.one_ne_zero, Nat.succ_ne_zero, reduceIte, if_false, List.getElem?_cons_zero, List.set_cons_zero, List.set_cons_succ, lay_nil, lay_1, lay_w, Option.map_some]
  refine callA_of (MkC.st (k := 1) markBoard_f rfl oX (by omega)) ?_
  rintro r g20 ⟨rfl, oX, T20⟩
  have b0 := b0.trn T20 (by omega)
  have bW := bW.trn T20 (by omega)
  have bN := bN.trn T20 (by omega)
  have bX := bX.trn T20 (by omega)
  have bG := bG.trn T20 (by omega)
  have bM := bM.trn T20 (by omega)
  have aB := aB.trn T20 (by omega)
  have aS := aS.trn T20 (by omega)
  have oW := oW.trn T20 (by omega)
  have oY := oY.trn T20 (by omega)
  have oG := oG.trn T20 (by omega)
  have le_T20 := T20.le
  simp (disch := (first | omega | assumption | (simp only [push_n, set_n, put_n, List.length_cons, List.length_nil, List.length_append, Nat.reduceAdd]; done) | (simp only [push_n, set_n, put_n, List.length_cons, List.length_nil, List.length_append]; omega) | (simp only [List.all_cons, List.all_nil, one_bool, one_int, one_str, one_ptr, one_nilptr, one_slice, one_eslice, one_nilslice, one_func, one_iface, one_niliface, Bool.and_true, Bool.true_and, List.getD_cons_zero, List.getD_cons_succ, List.contains_cons, List.contains_nil, Bool.or_true, Bool.true_or, Bool.or_false, Bool.false_or, Nat.reduceBEq, *]; done) | fail)) only [go_sem, Hold.p, HoldK.k, HoldL.K, HoldL.body, Nat.reduceBEq, Nat.reduceAdd, List.getElem?_cons_zero, List.getElem?_cons_succ, Option.bind_some, List.map_cons, List.map_nil, Nat.zero_add, if_true, List.getD_cons_zero, List.getD_cons_succ, List.contains_cons, List.contains_nil, Nat.reduceBEq, Bool.or_true, Bool.true_or, Bool.or_false, Bool.false_or, Bool.not_true, Bool.not_false, true_and, and_true, rowA_whole, mid_get, stO_mid, rowO_rows, cellO_rows, push_n, set_n, push_at, push_old, set_here, set_there, set_pushT, set_pushN, set_set, upd_ne, Nat.add_assoc, Nat.reduceAdd, Nat.add_zero, stO_1s, stO_ws, boxA_s, List.all_cons, List.all_nil, one_bool, one_int, one_str, one_ptr, one_nilptr, one_slice, one_eslice, one_nilslice, one_func, one_iface, one_niliface, Bool.and_true, Bool.and_self, List.length_cons, List.length_nil, Nat.one_ne_zero, Nat.succ_ne_zero, reduceIte, if_false, List.getElem?_cons_zero, List.set_cons_zero, List.set_cons_succ, lay_nil, lay_1, lay_w, Option.map_some]
  refine callA_of (MkC.sl markStretchS_f oY (by omega)) ?_
  rintro r g21 ⟨rfl, oY, T21⟩
  have b0 := b0.trn T21 (by omega)
  have bW := bW.trn T21 (by omega)
  have bN := bN.trn T21 (by omega)
  have bX := bX.trn T21 (by omega)
  have bG := bG.trn T21 (by omega)
  have bM := bM.trn T21 (by omega)
  have aB := aB.trn T21 (by omega)
  have aS := aS.trn T21 (by omega)
  have oW := oW.trn T21 (by omega)
  have oG := oG.trn T21 (by omega)
  have le_T21 := T21.le
  have hk : decide (((1 + (cntW t_Board (boardD una nxt ps) + cntW (.slice 127 t_Stretch) (.list (ss.map Str.dat))) : Nat) : Int) < 0) = false := decide_eq_false (by omega)
  have q2 := bW.eq
  have q4 := bG.eq
  simp (disch := (first | omega | assumption | (simp only [push_n, set_n, put_n, List.length_cons, List.length_nil, List.length_append, Nat.reduceAdd]; done) | (simp only [push_n, set_n, put_n, List.length_cons, List.length_nil, List.length_append]; omega) | (simp only [List.all_cons, List.all_nil, one_bool, one_int, one_str, one_ptr, one_nilptr, one_slice, one_eslice, one_nilslice, one_func, one_iface, one_niliface, Bool.and_true, Bool.true_and, List.getD_cons_zero, List.getD_cons_succ, List.contains_cons, List.contains_nil, Bool.or_true, Bool.true_or, Bool.or_false, Bool.false_or, Nat.reduceBEq, *]; done) | fail)) only [hk, q2, q4, go_sem, Hold.p, HoldK.k, HoldL.K, HoldL.body, Nat.reduceBEq, Nat.reduceAdd, List.getElem?_cons_zero, List.getElem?_cons_succ, Option.bind_some, List.map_cons, List.map_nil, Nat.zero_add, if_true, List.getD_cons_zero, List.getD_cons_succ, List.contains_cons, List.contains_nil, Nat.reduceBEq, Bool.or_true, Bool.true_or, Bool.or_false, Bool.false_or, Bool.not_true, Bool.not_false, true_and, and_true, rowA_whole, mid_get, stO_mid, rowO_rows, cellO_rows, push_n, set_n, push_at, push_old, set_here, set_there, set_pushT, set_pushN, set_set, upd_ne, Nat.add_assoc, Nat.reduceAdd, Nat.add_zero, stO_1s, stO_ws, boxA_s, List.all_cons, List.all_nil, one_bool, one_int, one_str, one_ptr, one_nilptr, one_slice, one_eslice, one_nilslice, one_func, one_iface, one_niliface, Bool.and_true, Bool.and_self, List.length_cons, List.length_nil, Nat.one_ne_zero, Nat.succ_ne_zero, reduceIte, if_false, List.getElem?_cons_zero, List.set_cons_zero, List.set_cons_succ, lay_nil, lay_1, lay_w, Option.map_some]
  refine callA_of (EqC.st eqBoard_f rfl oG.up oW.up (by omega)) ?_
  rintro r g22 ⟨rfl, E22⟩
  have b0 := b0.ext E22
  have bW := bW.ext E22
  have bN := bN.ext E22
  have bG := bG.ext E22
  have bM := bM.ext E22
  have aB := aB.ext E22
  have aS := aS.ext E22
  have oW := oW.ext E22
  have oG := oG.ext E22
  have le_E22 := E22.le
  have q3 := bN.eq
  rw [l_g6] at q3
  have q5 := bM.eq
  rw [l_g12] at q5
  simp (disch := (first | omega | assumption | (simp only [push_n, set_n, put_n, List.length_cons, List.length_nil, List.length_append, Nat.reduceAdd]; done) | (simp only [push_n, set_n, put_n, List.length_cons, List.length_nil, List.length_append]; omega) | (simp only [List.all_cons, List.all_nil, one_bool, one_int, one_str, one_ptr, one_nilptr, one_slice, one_eslice, one_nilslice, one_func, one_iface, one_niliface, Bool.and_true, Bool.true_and, List.getD_cons_zero, List.getD_cons_succ, List.contains_cons, List.contains_nil, Bool.or_true, Bool.true_or, Bool.or_false, Bool.false_or, Nat.reduceBEq, *]; done) | fail)) only [q3, q5, go_sem, Hold.p, HoldK.k, HoldL.K, HoldL.body, Nat.reduceBEq, Nat.reduceAdd, List.getElem?_cons_zero, List.getElem?_cons_succ, Option.bind_some, List.map_cons, List.map_nil, Nat.zero_add, if_true, List.getD_cons_zero, List.getD_cons_succ, List.contains_cons, List.contains_nil, Nat.reduceBEq, Bool.or_true, Bool.true_or, Bool.or_false, Bool.false_or, Bool.not_true, Bool.not_false, true_and, and_true, rowA_whole, mid_get, stO_mid, rowO_rows, cellO_rows, push_n, set_n, push_at, push_old, set_here, set_there, set_pushT, set_pushN, set_set, upd_ne, Nat.add_assoc, Nat.reduceAdd, Nat.add_zero, stO_1s, stO_ws, boxA_s, List.all_cons, List.all_nil, one_bool, one_int, one_str, one_ptr, one_nilptr, one_slice, one_eslice, one_nilslice, one_func, one_iface, one_niliface, Bool.and_true, Bool.and_self, List.length_cons, List.length_nil, Nat.one_ne_zero, Nat.succ_ne_zero, reduceIte, if_false, List.getElem?_cons_zero, List.set_cons_zero, List.set_cons_succ, lay_nil, lay_1, lay_w, Option.map_some]
  refine callA_of (EqC.st eqBoardNews_f rfl (news_vw 0 g22.n g22 n1 n2 n3) (news_vw 0 g22.n g22 n1 n2 n3) (by simp [newsD, Dat.tot])) ?_
  rintro r g23 ⟨rfl, E23⟩
  have b0 := b0.ext E23
  have bW := bW.ext E23
  have bN := bN.ext E23
  have bG := bG.ext E23
  have bM := bM.ext E23
  have aB := aB.ext E23
  have aS := aS.ext E23
  have oW := oW.ext E23
  have oG := oG.ext E23
  have le_E23 := E23.le
  have q4 := bG.eq
  simp (disch := (first | omega | assumption | (simp only [push_n, set_n, put_n, List.length_cons, List.length_nil, List.length_append, Nat.reduceAdd]; done) | (simp only [push_n, set_n, put_n, List.length_cons, List.length_nil, List.length_append]; omega) | (simp only [List.all_cons, List.all_nil, one_bool, one_int, one_str, one_ptr, one_nilptr, one_slice, one_eslice, one_nilslice, one_func, one_iface, one_niliface, Bool.and_true, Bool.true_and, List.getD_cons_zero, List.getD_cons_succ, List.contains_cons, List.contains_nil, Bool.or_true, Bool.true_or, Bool.or_false, Bool.false_or, Nat.reduceBEq, *]; done) | fail)) only [decide_true, q4, go_sem, Hold.p, HoldK.k, HoldL.K, HoldL.body, Nat.reduceBEq, Nat.reduceAdd, List.getElem?_cons_zero, List.getElem?_cons_succ, Option.bind_some, List.map_cons, List.map_nil, Nat.zero_add, if_true, List.getD_cons_zero, List.getD_cons_succ, List.contains_cons, List.contains_nil, Nat.reduceBEq, Bool.or_true, Bool.true_or, Bool.or_false, Bool.false_or, Bool.not_true, Bool.not_false, true_and, and_true, rowA_whole, mid_get, stO_mid, rowO_rows, cellO_rows, push_n, set_n, push_at, push_old, set_here, set_there, set_pushT, set_pushN, set_set, upd_ne, Nat.add_assoc, Nat.reduceAdd, Nat.add_zero, stO_1s, stO_ws, boxA_s, List.all_cons, List.all_nil, one_bool, one_int, one_str, one_ptr, one_nilptr, one_slice, one_eslice, one_nilslice, one_func, one_iface, one_niliface, Bool.and_true, Bool.and_self, List.length_cons, List.length_nil, Nat.one_ne_zero, Nat.succ_ne_zero, reduceIte, if_false, List.getElem?_cons_zero, List.set_cons_zero, List.set_cons_succ, lay_nil, lay_1, lay_w, Option.map_some]
  refine callA_of (MkC.st (k := 1) markBoard_f rfl oG (by omega)) ?_
  rintro r g24 ⟨rfl, oG, T24⟩
  have b0 := b0.trn T24 (by omega)
  have bW := bW.trn T24 (by omega)
  have bN := bN.trn T24 (by omega)
  have bG := bG.trn T24 (by omega)
  have bM := bM.trn T24 (by omega)
  have aB := aB.trn T24 (by omega)
  have aS := aS.trn T24 (by omega)
  have oW := oW.trn T24 (by omega)
  have le_T24 := T24.le
  have q4 := bG.eq
  simp (disch := (first | omega | assumption | (simp only [push_n, set_n, put_n, List.length_cons, List.length_nil, List.length_append, Nat.reduceAdd]; done) | (simp only [push_n, set_n, put_n, List.length_cons, List.length_nil, List.length_append]; omega) | (simp only [List.all_cons, List.all_nil, one_bool, one_int, one_str, one_ptr, one_nilptr, one_slice, one_eslice, one_nilslice, one_func, one_iface, one_niliface, Bool.and_true, Bool.true_and, List.getD_cons_zero, List.getD_cons_succ, List.contains_cons, List.contains_nil, Bool.or_true, Bool.true_or, Bool.or_false, Bool.false_or, Nat.reduceBEq, *]; done) | fail)) only [q4, go_sem, Hold.p, HoldK.k, HoldL.K, HoldL.body, Nat.reduceBEq, Nat.reduceAdd, List.getElem?_cons_zero, List.getElem?_cons_succ, Option.bind_some, List.map_cons, List.map_nil, Nat.zero_add, if_true, List.getD_cons_zero, List.getD_cons_succ, List.contains_cons, List.contains_nil, Nat.reduceBEq, Bool.or_true, Bool.true_or, Bool.or_false, Bool.false_or, Bool.not_true, Bool.not_false, true_and, and_true, rowA_whole, mid_get, stO_mid, rowO_rows, cellO_rows, push_n, set_n, push_at, push_old, set_here, set_there, set_pushT, set_pushN, set_set, upd_ne, Nat.add_assoc, Nat.reduceAdd, Nat.add_zero, stO_1s, stO_ws, boxA_s, List.all_cons, List.all_nil, one_bool, one_int, one_str, one_ptr, one_nilptr, one_slice, one_eslice, one_nilslice, one_func, one_iface, one_niliface, Bool.and_true, Bool.and_self, List.length_cons, List.length_nil, Nat.one_ne_zero, Nat.succ_ne_zero, reduceIte, if_false, List.getElem?_cons_zero, List.set_cons_zero, List.set_cons_succ, lay_nil, lay_1, lay_w, Option.map_some]
  refine callA_of (HdC.st (k := 1) heldBoard_f rfl oG.up (by omega)) ?_
  rintro r g25 ⟨rfl, E25⟩
  have b0 := b0.ext E25
  have bW := bW.ext E25
  have bN := bN.ext E25
  have bG := bG.ext E25
  have bM := bM.ext E25
  have aB := aB.ext E25
  have aS := aS.ext E25
  have oW := oW.ext E25
  have oG := oG.ext E25
  have le_E25 := E25.le
  have hq : decide (((1 + cntW t_Board (boardD x1 x2 xp) : Nat) : Int) < 0) = false := decide_eq_false (by omega)
  have q0 := b0.eq
  simp (disch := (first | omega | assumption | (simp only [push_n, set_n, put_n, List.length_cons, List.length_nil, List.length_append, Nat.reduceAdd]; done) | (simp only [push_n, set_n, put_n, List.length_cons, List.length_nil, List.length_append]; omega) | (simp only [List.all_cons, List.all_nil, one_bool, one_int, one_str, one_ptr, one_nilptr, one_slice, one_eslice, one_nilslice, one_func, one_iface, one_niliface, Bool.and_true, Bool.true_and, List.getD_cons_zero, List.getD_cons_succ, List.contains_cons, List.contains_nil, Bool.or_true, Bool.true_or, Bool.or_false, Bool.false_or, Nat.reduceBEq, *]; done) | fail)) only [hq, q0, decide_true, go_sem, Hold.p, HoldK.k, HoldL.K, HoldL.body, Nat.reduceBEq, Nat.reduceAdd, List.getElem?_cons_zero, List.getElem?_cons_succ, Option.bind_some, List.map_cons, List.map_nil, Nat.zero_add, if_true, List.getD_cons_zero, List.getD_cons_succ, List.contains_cons, List.contains_nil, Nat.reduceBEq, Bool.or_true, Bool.true_or, Bool.or_false, Bool.false_or, Bool.not_true, Bool.not_false, true_and, and_true, rowA_whole, mid_get, stO_mid, rowO_rows, cellO_rows, push_n, set_n, push_at, push_old, set_here, set_there, set_pushT, set_pushN, set_set, upd_ne, Nat.add_assoc, Nat.reduceAdd, Nat.add_zero, stO_1s, stO_ws, boxA_s, List.all_cons, List.all_nil, one_bool, one_int, one_str, one_ptr, one_nilptr, one_slice, one_eslice, one_nilslice, one_func, one_iface, one_niliface, Bool.and_true, Bool.and_self, List.length_cons, List.length_nil, Nat.one_ne_zero, Nat.succ_ne_zero, reduceIte, if_false, List.getElem?_cons_zero, List.set_cons_zero, List.set_cons_succ, lay_nil, lay_1, lay_w, Option.map_some]
  refine callA_of (ToC.st toBoard_f rfl (aB.up (by omega)) (by omega)) ?_
  rintro r g26 ⟨c6, rfl, o6, E26⟩
  have b0 := b0.ext E26
  have bW := bW.ext E26
  have bN := bN.ext E26
  have bG := bG.ext E26
  have bM := bM.ext E26
  have aB := aB.ext E26
  have aS := aS.ext E26
  have oW := oW.ext E26
  have oG := oG.ext E26
  have le_E26 := E26.le
  obtain ⟨v6, rfl, s6⟩ := board_vw o6.view
  simp (disch := (first | omega | assumption | (simp only [push_n, set_n, put_n, List.length_cons, List.length_nil, List.length_append, Nat.reduceAdd]; done) | (simp only [push_n, set_n, put_n, List.length_cons, List.length_nil, List.length_append]; omega) | (simp only [List.all_cons, List.all_nil, one_bool, one_int, one_str, one_ptr, one_nilptr, one_slice, one_eslice, one_nilslice, one_func, one_iface, one_niliface, Bool.and_true, Bool.true_and, List.getD_cons_zero, List.getD_cons_succ, List.contains_cons, List.contains_nil, Bool.or_true, Bool.true_or, Bool.or_false, Bool.false_or, Nat.reduceBEq, *]; done) | fail)) only [go_sem, Hold.p, HoldK.k, HoldL.K, HoldL.body, Nat.reduceBEq, Nat.reduceAdd, List.getElem?_cons_zero, List.getElem?_cons_succ, Option.bind_some, List.map_cons, List.map_nil, Nat.zero_add, if_true, List.getD_cons_zero, List.getD_cons_succ, List.contains_cons, List.contains_nil, Nat.reduceBEq, Bool.or_true, Bool.true_or, Bool.or_false, Bool.false_or, Bool.not_true, Bool.not_false, true_and, and_true, rowA_whole, mid_get, stO_mid, rowO_rows, cellO_rows, push_n, set_n, push_at, push_old, set_here, set_there, set_pushT, set_pushN, set_set, upd_ne, Nat.add_assoc, Nat.reduceAdd, Nat.add_zero, stO_1s, stO_ws, boxA_s, List.all_cons, List.all_nil, one_bool, one_int, one_str, one_ptr, one_nilptr, one_slice, one_eslice, one_nilslice, one_func, one_iface, one_niliface, Bool.and_true, Bool.and_self, List.length_cons, List.length_nil, Nat.one_ne_zero, Nat.succ_ne_zero, reduceIte, if_false, List.getElem?_cons_zero, List.set_cons_zero, List.set_cons_succ, lay_nil, lay_1, lay_w, Option.map_some]
  refine callA_of (ToC.sl toStretchS_f (aS.up (by omega)) (by omega)) ?_
  rintro v7 g27 ⟨o7, E27⟩
  have b0 := b0.ext E27
  have bW := bW.ext E27
  have bN := bN.ext E27
  have bG := bG.ext E27
  have bM := bM.ext E27
  have oW := oW.ext E27
  have oG := oG.ext E27
  have s6 := s6.ext E27
  have le_E27 := E27.le
  have s7 := strs_vw o7.view
  simp (disch := (first | omega | assumption | (simp only [push_n, set_n, put_n, List.length_cons, List.length_nil, List.length_append, Nat.reduceAdd]; done) | (simp only [push_n, set_n, put_n, List.length_cons, List.length_nil, List.length_append]; omega) | (simp only [List.all_cons, List.all_nil, one_bool, one_int, one_str, one_ptr, one_nilptr, one_slice, one_eslice, one_nilslice, one_func, one_iface, one_niliface, Bool.and_true, Bool.true_and, List.getD_cons_zero, List.getD_cons_succ, List.contains_cons, List.contains_nil, Bool.or_true, Bool.true_or, Bool.or_false, Bool.false_or, Nat.reduceBEq, *]; done) | fail)) only [go_sem, Hold.p, HoldK.k, HoldL.K, HoldL.body, Nat.reduceBEq, Nat.reduceAdd, List.getElem?_cons_zero, List.getElem?_cons_succ, Option.bind_some, List.map_cons, List.map_nil, Nat.zero_add, if_true, List.getD_cons_zero, List.getD_cons_succ, List.contains_cons, List.contains_nil, Nat.reduceBEq, Bool.or_true, Bool.true_or, Bool.or_false, Bool.false_or, Bool.not_true, Bool.not_false, true_and, and_true, rowA_whole, mid_get, stO_mid, rowO_rows, cellO_rows, push_n, set_n, push_at, push_old, set_here, set_there, set_pushT, set_pushN, set_set, upd_ne, Nat.add_assoc, Nat.reduceAdd, Nat.add_zero, stO_1s, stO_ws, boxA_s, List.all_cons, List.all_nil, one_bool, one_int, one_str, one_ptr, one_nilptr, one_slice, one_eslice, one_nilslice, one_func, one_iface, one_niliface, Bool.and_true, Bool.and_self, List.length_cons, List.length_nil, Nat.one_ne_zero, Nat.succ_ne_zero, reduceIte, if_false, List.getElem?_cons_zero, List.set_cons_zero, List.set_cons_succ, lay_nil, lay_1, lay_w, Option.map_some]
  refine callA_of (implBoardAck_c g27 v6 v7 una nxt ack ps ss s6 s7 (by omega)) ?_
  rintro r g28 ⟨vh, rfl, oH, E28⟩
  rw [hx] at oH
  simp only [hx] at oH ⊢
  have bW := bW.ext E28
  have bN := bN.ext E28
  have bG := bG.ext E28
  have bM := bM.ext E28
  have oW := oW.ext E28
  have oG := oG.ext E28
  have le_E28 := E28.le
  have oH := board_ow (una := x1) (nxt := x2) oH (Nat.le_refl _) le_E28
  have ho := (oH.one vh (by simp))
  have q2 := bW.eq
  have q3 := bN.eq
  rw [l_g6] at q3
  simp (disch := (first | omega | assumption | (simp only [push_n, set_n, put_n, List.length_cons, List.length_nil, List.length_append, Nat.reduceAdd]; done) | (simp only [push_n, set_n, put_n, List.length_cons, List.length_nil, List.length_append]; omega) | (simp only [List.all_cons, List.all_nil, one_bool, one_int, one_str, one_ptr, one_nilptr, one_slice, one_eslice, one_nilslice, one_func, one_iface, one_niliface, Bool.and_true, Bool.true_and, List.getD_cons_zero, List.getD_cons_succ, List.contains_cons, List.contains_nil, Bool.or_true, Bool.true_or, Bool.or_false, Bool.false_or, Nat.reduceBEq, *]; done) | fail)) only [q2, q3, go_sem, Hold.p, HoldK.k, HoldL.K, HoldL.body, Nat.reduceBEq, Nat.reduceAdd, List.getElem?_cons_zero, List.getElem?_cons_succ, Option.bind_some, List.map_cons, List.map_nil, Nat.zero_add, if_true, List.getD_cons_zero, List.getD_cons_succ, List.contains_cons, List.contains_nil, Nat.reduceBEq, Bool.or_true, Bool.true_or, Bool.or_false, Bool.false_or, Bool.not_true, Bool.not_false, true_and, and_true, rowA_whole, mid_get, stO_mid, rowO_rows, cellO_rows, push_n, set_n, push_at, push_old, set_here, set_there, set_pushT, set_pushN, set_set, upd_ne, Nat.add_assoc, Nat.reduceAdd, Nat.add_zero, stO_1s, stO_ws, boxA_s, List.all_cons, List.all_nil, one_bool, one_int, one_str, one_ptr, one_nilptr, one_slice, one_eslice, one_nilslice, one_func, one_iface, one_niliface, Bool.and_true, Bool.and_self, List.length_cons, List.length_nil, Nat.one_ne_zero, Nat.succ_ne_zero, reduceIte, if_false, List.getElem?_cons_zero, List.set_cons_zero, List.set_cons_succ, lay_nil, lay_1, lay_w, Option.map_some]
  generalize hq_g29 : IH.push g28 (IObj.rows [[IV.int .i64 x1, IV.int .i64 x2, vh]] 40 3 false) = g29
  have e_g29 : Ext g28 g29 := by rw [← hq_g29]; exact (Ext.refl _).push _
  have l_g29 : g29.n = g28.n + 1 := by rw [← hq_g29]; rfl
  have bH : At g29 g28.n (IObj.rows [[IV.int .i64 x1, IV.int .i64 x2, vh]] 40 3 false) := by rw [← hq_g29]; exact At.new _ _
  clear hq_g29
  have bW := bW.ext e_g29
  have bN := bN.ext e_g29
  have bG := bG.ext e_g29
  have bM := bM.ext e_g29
  have oW := oW.ext e_g29
  have oG := oG.ext e_g29
  have oH := oH.ext e_g29
  generalize hq_g30 : IH.push g29 (IObj.rows [[IV.int .i64 n1, IV.int .i64 n2, IV.int .i64 n3]] 55 3 false) = g30
  have e_g30 : Ext g29 g30 := by rw [← hq_g30]; exact (Ext.refl _).push _
  have l_g30 : g30.n = g29.n + 1 := by rw [← hq_g30]; rfl
  have bI : At g30 g29.n (IObj.rows [[IV.int .i64 n1, IV.int .i64 n2, IV.int .i64 n3]] 55 3 false) := by rw [← hq_g30]; exact At.new _ _
  clear hq_g30
  have bW := bW.ext e_g30
  have bN := bN.ext e_g30
  have bG := bG.ext e_g30
  have bM := bM.ext e_g30
  have bH := bH.ext e_g30
  have oW := oW.ext e_g30
  have oG := oG.ext e_g30
  have oH := oH.ext e_g30
  have q2 := bW.eq
  have q6 := bH.eq
  try simp (disch := (first | omega | assumption | (simp only [push_n, set_n, put_n, List.length_cons, List.length_nil, List.length_append, Nat.reduceAdd]; done) | (simp only [push_n, set_n, put_n, List.length_cons, List.length_nil, List.length_append]; omega) | (simp only [List.all_cons, List.all_nil, one_bool, one_int, one_str, one_ptr, one_nilptr, one_slice, one_eslice, one_nilslice, one_func, one_iface, one_niliface, Bool.and_true, Bool.true_and, List.getD_cons_zero, List.getD_cons_succ, List.contains_cons, List.contains_nil, Bool.or_true, Bool.true_or, Bool.or_false, Bool.false_or, Nat.reduceBEq, *]; done) | fail)) only [q2, q6, go_sem, Hold.p, HoldK.k, HoldL.K, HoldL.body, Nat.reduceBEq, Nat.reduceAdd, List.getElem?_cons_zero, List.getElem?_cons_succ, Option.bind_some, List.map_cons, List.map_nil, Nat.zero_add, if_true, List.getD_cons_zero, List.getD_cons_succ, List.contains_cons, List.contains_nil, Nat.reduceBEq, Bool.or_true, Bool.true_or, Bool.or_false, Bool.false_or, Bool.not_true, Bool.not_false, true_and, and_true, rowA_whole, mid_get, stO_mid, rowO_rows, cellO_rows, push_n, set_n, push_at, push_old, set_here, set_there, set_pushT, set_pushN, set_set, upd_ne, Nat.add_assoc, Nat.reduceAdd, Nat.add_zero, stO_1s, stO_ws, boxA_s, List.all_cons, List.all_nil, one_bool, one_int, one_str, one_ptr, one_nilptr, one_slice, one_eslice, one_nilslice, one_func, one_iface, one_niliface, Bool.and_true, Bool.and_self, List.length_cons, List.length_nil, Nat.one_ne_zero, Nat.succ_ne_zero, reduceIte, if_false, List.getElem?_cons_zero, List.set_cons_zero, List.set_cons_succ, lay_nil, lay_1, lay_w, Option.map_some]
  refine callA_of (EqC.st eqBoard_f rfl oH.up oW.up (by omega)) ?_
  rintro r g31 ⟨rfl, E31⟩
  have bN := bN.ext E31
  have bI := bI.ext E31
  have bG := bG.ext E31
  have oG := oG.ext E31
  have le_E31 := E31.le
  have q3 := bN.eq
  rw [l_g6] at q3
  have q5 := bI.eq
  rw [l_g29] at q5
  simp (disch := (first | omega | assumption | (simp only [push_n, set_n, put_n, List.length_cons, List.length_nil, List.length_append, Nat.reduceAdd]; done) | (simp only [push_n, set_n, put_n, List.length_cons, List.length_nil, List.length_append]; omega) | (simp only [List.all_cons, List.all_nil, one_bool, one_int, one_str, one_ptr, one_nilptr, one_slice, one_eslice, one_nilslice, one_func, one_iface, one_niliface, Bool.and_true, Bool.true_and, List.getD_cons_zero, List.getD_cons_succ, List.contains_cons, List.contains_nil, Bool.or_true, Bool.true_or, Bool.or_false, Bool.false_or, Nat.reduceBEq, *]; done) | fail)) only [q3, q5, go_sem, Hold.p, HoldK.k, HoldL.K, HoldL.body, Nat.reduceBEq, Nat.reduceAdd, List.getElem?_cons_zero, List.getElem?_cons_succ, Option.bind_some, List.map_cons, List.map_nil, Nat.zero_add, if_true, List.getD_cons_zero, List.getD_cons_succ, List.contains_cons, List.contains_nil, Nat.reduceBEq, Bool.or_true, Bool.true_or, Bool.or_false, Bool.false_or, Bool.not_true, Bool.not_false, true_and, and_true, rowA_whole, mid_get, stO_mid, rowO_rows, cellO_rows, push_n, set_n, push_at, push_old, set_here, set_there, set_pushT, set_pushN, set_set, upd_ne, Nat.add_assoc, Nat.reduceAdd, Nat.add_zero, stO_1s, stO_ws, boxA_s, List.all_cons, List.all_nil, one_bool, one_int, one_str, one_ptr, one_nilptr, one_slice, one_eslice, one_nilslice, one_func, one_iface, one_niliface, Bool.and_true, Bool.and_self, List.length_cons, List.length_nil, Nat.one_ne_zero, Nat.succ_ne_zero, reduceIte, if_false, List.getElem?_cons_zero, List.set_cons_zero, List.set_cons_succ, lay_nil, lay_1, lay_w, Option.map_some]
  refine callA_of (EqC.st eqBoardNews_f rfl (news_vw 0 g31.n g31 n1 n2 n3) (news_vw 0 g31.n g31 n1 n2 n3) (by simp [newsD, Dat.tot])) ?_
  rintro r g32 ⟨rfl, E32⟩
  have bG := bG.ext E32
  have oG := oG.ext E32
  have le_E32 := E32.le
  have q4 := bG.eq
  simp (disch := (first | omega | assumption | (simp only [push_n, set_n, put_n, List.length_cons, List.length_nil, List.length_append, Nat.reduceAdd]; done) | (simp only [push_n, set_n, put_n, List.length_cons, List.length_nil, List.length_append]; omega) | (simp only [List.all_cons, List.all_nil, one_bool, one_int, one_str, one_ptr, one_nilptr, one_slice, one_eslice, one_nilslice, one_func, one_iface, one_niliface, Bool.and_true, Bool.true_and, List.getD_cons_zero, List.getD_cons_succ, List.contains_cons, List.contains_nil, Bool.or_true, Bool.true_or, Bool.or_false, Bool.false_or, Nat.reduceBEq, *]; done) | fail)) only [decide_true, q4, go_sem, Hold.p, HoldK.k, HoldL.K, HoldL.body, Nat.reduceBEq, Nat.reduceAdd, List.getElem?_cons_zero, List.getElem?_cons_succ, Option.bind_some, List.map_cons, List.map_nil, Nat.zero_add, if_true, List.getD_cons_zero, List.getD_cons_succ, List.contains_cons, List.contains_nil, Nat.reduceBEq, Bool.or_true, Bool.true_or, Bool.or_false, Bool.false_or, Bool.not_true, Bool.not_false, true_and, and_true, rowA_whole, mid_get, stO_mid, rowO_rows, cellO_rows, push_n, set_n, push_at, push_old, set_here, set_there, set_pushT, set_pushN, set_set, upd_ne, Nat.add_assoc, Nat.reduceAdd, Nat.add_zero, stO_1s, stO_ws, boxA_s, List.all_cons, List.all_nil, one_bool, one_int, one_str, one_ptr, one_nilptr, one_slice, one_eslice, one_nilslice, one_func, one_iface, one_niliface, Bool.and_true, Bool.and_self, List.length_cons, List.length_nil, Nat.one_ne_zero, Nat.succ_ne_zero, reduceIte, if_false, List.getElem?_cons_zero, List.set_cons_zero, List.set_cons_succ, lay_nil, lay_1, lay_w, Option.map_some]
  refine callA_of (HdC.st (k := 1) heldBoard_f rfl oG.up (by omega)) ?_
  rintro r g33 ⟨rfl, E33⟩
  simp (disch := (first | omega | assumption | (simp only [push_n, set_n, put_n, List.length_cons, List.length_nil, List.length_append, Nat.reduceAdd]; done) | (simp only [push_n, set_n, put_n, List.length_cons, List.length_nil, List.length_append]; omega) | (simp only [List.all_cons, List.all_nil, one_bool, one_int, one_str, one_ptr, one_nilptr, one_slice, one_eslice, one_nilslice, one_func, one_iface, one_niliface, Bool.and_true, Bool.true_and, List.getD_cons_zero, List.getD_cons_succ, List.contains_cons, List.contains_nil, Bool.or_true, Bool.true_or, Bool.or_false, Bool.false_or, Nat.reduceBEq, *]; done) | fail)) only [hq, decide_true, go_sem, Hold.p, HoldK.k, HoldL.K, HoldL.body, Nat.reduceBEq, Nat.reduceAdd, List.getElem?_cons_zero, List.getElem?_cons_succ, Option.bind_some, List.map_cons, List.map_nil, Nat.zero_add, if_true, List.getD_cons_zero, List.getD_cons_succ, List.contains_cons, List.contains_nil, Nat.reduceBEq, Bool.or_true, Bool.true_or, Bool.or_false, Bool.false_or, Bool.not_true, Bool.not_false, true_and, and_true, rowA_whole, mid_get, stO_mid, rowO_rows, cellO_rows, push_n, set_n, push_at, push_old, set_here, set_there, set_pushT, set_pushN, set_set, upd_ne, Nat.add_assoc, Nat.reduceAdd, Nat.add_zero, stO_1s, stO_ws, boxA_s, List.all_cons, List.all_nil, one_bool, one_int, one_str, one_ptr, one_nilptr, one_slice, one_eslice, one_nilslice, one_func, one_iface, one_niliface, Bool.and_true, Bool.and_self, List.length_cons, List.length_nil, Nat.one_ne_zero, Nat.succ_ne_zero, reduceIte, if_false, List.getElem?_cons_zero, List.set_cons_zero, List.set_cons_succ, lay_nil, lay_1, lay_w, Option.map_some]
end Go.Proofs.Ytecljenjlncfhaa
