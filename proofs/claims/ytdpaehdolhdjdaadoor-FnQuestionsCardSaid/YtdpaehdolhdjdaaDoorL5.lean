import Derived.Test.YtdpaehdolhdjdaaDoorL4
import Derived.Test.YtdpaehdolhdjdaaDoorK2
set_option linter.unusedSimpArgs false
set_option linter.unusedVariables false
namespace Go.Proofs.YtdpaehdolhdjdaaDoor
open Go Go.IW

abbrev ASt := Int × Int × List Int
/-- What every state of a walk over a zone keeps. -/
structure AOk (st : ASt) : Prop where
  code : st.1 = 20 ∧ st.2.2 = [] ∨ st.1 = 0 ∧ st.2.2 ≠ []
  ttl : 0 ≤ st.2.1 ∧ st.2.1 ≤ 86400
  len : st.2.2.length ≤ 8
  addr : st.2.2.all okAddr = true
theorem AOk.step {qn : List UInt8} {st : ASt} (h : AOk st) (e : Ent) : AOk (ansStep qn st e) := by
  unfold ansStep
  split
  · rename_i hc
    have hf := hc.1
    simp only [fitE, Bool.and_eq_true, decide_eq_true_eq] at hf
    refine ⟨.inr ⟨rfl, by simp⟩, ?_, by simp; omega, by simp [h.addr, hf.1.2]⟩
    show 0 ≤ (if st.1 ≠ 0 ∨ e.ttl < st.2.1 then e.ttl else st.2.1) ∧ (if st.1 ≠ 0 ∨ e.ttl < st.2.1 then e.ttl else st.2.1) ≤ 86400
    have := h.ttl
    split <;> omega
  · exact h
theorem AOk.fold {qn : List UInt8} : ∀ (es : List Ent) {st : ASt}, AOk st → AOk (es.foldl (ansStep qn) st)
  | [], _, h => h
  | e :: es, _, h => AOk.fold es (h.step e)
theorem AOk.zero : AOk (20, 10, []) := ⟨.inl ⟨rfl, rfl⟩, by decide, by decide, rfl⟩
theorem ans_mono {qn : List UInt8} : ∀ (es : List Ent) {st : ASt}, AOk st → st.2.2 <+: (es.foldl (ansStep qn) st).2.2 ∧ (st.1 = 0 → (es.foldl (ansStep qn) st).1 = 0 ∧ (es.foldl (ansStep qn) st).2.1 ≤ st.2.1)
  | [], st, _ => ⟨List.prefix_rfl, fun h => ⟨h, Int.le_refl _⟩⟩
  | e :: es, st, h => by
    obtain ⟨p, q⟩ := ans_mono (qn := qn) es (h.step (qn := qn) e)
    have hs : st.2.2 <+: (ansStep qn st e).2.2 ∧ (st.1 = 0 → (ansStep qn st e).1 = 0 ∧ (ansStep qn st e).2.1 ≤ st.2.1) := by
      unfold ansStep
      split
      · refine ⟨List.prefix_append _ _, fun h0 => ⟨rfl, ?_⟩⟩
        show (if st.1 ≠ 0 ∨ e.ttl < st.2.1 then e.ttl else st.2.1) ≤ st.2.1
        split <;> omega
      · exact ⟨List.prefix_rfl, fun h0 => ⟨h0, Int.le_refl _⟩⟩
    refine ⟨hs.1.trans p, fun h0 => ?_⟩
    obtain ⟨a, b⟩ := hs.2 h0
    obtain ⟨c, d⟩ := q a
    exact ⟨c, by simp only [List.foldl_cons]; omega⟩
/-- How many of a zone fit. -/
def goods (qn : List UInt8) (es : List Ent) : Nat := es.countP (fitE qn)
theorem ans_len {qn : List UInt8} : ∀ (es : List Ent) {st : ASt}, st.2.2.length ≤ 8 → (es.foldl (ansStep qn) st).2.2.length = min (st.2.2.length + goods qn es) 8
  | [], st, h => by simp [goods]; omega
  | e :: es, st, h => by
    have hs : (ansStep qn st e).2.2.length = min (st.2.2.length + (if fitE qn e = true then 1 else 0)) 8 := by
      unfold ansStep
      by_cases hf : fitE qn e = true
      · by_cases h8 : st.2.2.length < 8
        · rw [if_pos ⟨hf, h8⟩, if_pos hf]; simp; omega
        · rw [if_neg (fun hc => h8 hc.2), if_pos hf]; omega
      · rw [if_neg (fun hc => hf hc.1), if_neg hf]; omega
    have ih := ans_len (qn := qn) es (st := ansStep qn st e) (by omega)
    rw [List.foldl_cons, ih, hs]
    unfold goods
    rw [List.countP_cons]
    omega
theorem goods_snoc {qn : List UInt8} {es : List Ent} {k : Nat} {e : Ent} (h : es[k]? = some e) : goods qn (es.take (k + 1)) = goods qn (es.take k) + (if fitE qn e = true then 1 else 0) := by
  unfold goods
  rw [List.take_add_one, h]
  simp [List.countP_append, List.countP_cons]
/-- What the law looks at, at an entry that fits. -/
theorem ans_at {qn : List UInt8} {es : List Ent} {k : Nat} {e : Ent} (h : es[k]? = some e) (hf : fitE qn e = true) :
    (ansQ es qn).1 = 0 ∧ (goods qn (es.take k) < 8 → (ansQ es qn).2.2[goods qn (es.take k)]? = some e.addr ∧ (ansQ es qn).2.1 ≤ e.ttl) := by
  have hes : es = es.take k ++ e :: es.drop (k + 1) := by
    obtain ⟨hlt, hg⟩ := List.getElem?_eq_some_iff.1 h
    rw [← hg, ← List.drop_eq_getElem_cons hlt, List.take_append_drop]
  have hA : AOk (ansQ (es.take k) qn) := AOk.fold _ AOk.zero
  have hl : (ansQ (es.take k) qn).2.2.length = min (goods qn (es.take k)) 8 := by
    have := ans_len (qn := qn) (es.take k) (st := (20, 10, [])) (by simp)
    simpa [ansQ] using this
  have hfold : ansQ es qn = (es.drop (k + 1)).foldl (ansStep qn) (ansStep qn (ansQ (es.take k) qn) e) := by
    conv => lhs; rw [hes]
    unfold ansQ
    rw [List.foldl_append, List.foldl_cons]
  obtain ⟨p, q⟩ := ans_mono (qn := qn) (es.drop (k + 1)) (hA.step (qn := qn) e)
  rw [← hfold] at p q
  generalize goods qn (es.take k) = at_ at hl
  generalize ansQ (es.take k) qn = st at hA hl p q hfold
  by_cases h8 : at_ < 8
  · have hl8 : st.2.2.length = at_ := by omega
    have hs : ansStep qn st e = (0, if st.1 ≠ 0 ∨ e.ttl < st.2.1 then e.ttl else st.2.1, st.2.2 ++ [e.addr]) := by
      unfold ansStep; rw [if_pos ⟨hf, by omega⟩]
    rw [hs] at p q
    obtain ⟨q1, q2⟩ := q rfl
    refine ⟨q1, fun _ => ⟨?_, ?_⟩⟩
    · obtain ⟨t, ht⟩ := p
      rw [← ht, ← hl8]; simp
    · simp only at q2
      split at q2 <;> omega
  · have hs : ansStep qn st e = st := by
      unfold ansStep; rw [if_neg (fun hc => by have := hc.2; omega)]
    rw [hs] at p q
    have hne : st.2.2 ≠ [] := by intro hn; rw [hn] at hl; simp at hl; omega
    rcases hA.code with ⟨_, hn⟩ | ⟨h0, _⟩
    · exact absurd hn hne
    · exact ⟨(q h0).1, fun h => absurd h h8⟩
theorem ans_end {qn : List UInt8} (es : List Ent) : (ansQ es qn).2.2.length = min (goods qn es) 8 ∧ (0 < goods qn es ∨ (ansQ es qn).1 = 20) := by
  have hl : (ansQ es qn).2.2.length = min (goods qn es) 8 := by
    have := ans_len (qn := qn) es (st := (20, 10, [])) (by simp)
    simpa [ansQ] using this
  have hA : AOk (ansQ es qn) := AOk.fold _ AOk.zero
  refine ⟨hl, ?_⟩
  rcases hA.code with ⟨h, _⟩ | ⟨_, hn⟩
  · exact .inr h
  · refine .inl ?_
    have : (ansQ es qn).2.2.length ≠ 0 := fun hc => hn (List.length_eq_zero_iff.1 hc)
    omega
theorem decQ_ok {bs : List UInt8} {id : Int} {nm : List UInt8} (h : decQ bs = (id, nm, 0)) : (0 ≤ id ∧ id ≤ 65535) ∧ okName nm = true := by
  unfold decQ at h
  split at h
  · simp at h
  split at h
  · simp at h
  split at h
  · simp at h
  split at h
  · rename_i h1 h2 h3 h4
    obtain ⟨rfl, h5⟩ := Prod.mk.inj h
    obtain ⟨rfl, _⟩ := Prod.mk.inj h5
    refine ⟨?_, h4⟩
    match bs, h1 with
    | a :: b :: r, _ =>
      have ha := a.toNat_lt
      have hb := b.toNat_lt
      simp only [List.take_succ_cons, List.take_zero, numB, List.foldl_cons, List.foldl_nil]
      omega
    | [], h1 => simp at h1
    | [_], h1 => simp at h1
  · simp at h
theorem ansN_ok {es : List Ent} {bs : List UInt8} {id : Int} {nm : List UInt8} (h : decQ bs = (id, nm, 0)) :
    ∃ out, ansN es bs = (out, 0) ∧ out.length ≤ 1000 ∧ decR out = (⟨id, (ansQ es nm).1, (ansQ es nm).2.1, nm, (ansQ es nm).2.2⟩, 0) := by
  obtain ⟨⟨i0, i1⟩, hn⟩ := decQ_ok h
  have hA : AOk (ansQ es nm) := AOk.fold _ AOk.zero
  have hok : okRep id (ansQ es nm).1 (ansQ es nm).2.1 nm (ansQ es nm).2.2 = true := by
    unfold okRep
    have h1 := hA.code
    have h2 := hA.ttl
    have h3 := hA.len
    simp only [Bool.and_eq_true, decide_eq_true_eq]
    exact ⟨⟨⟨⟨⟨⟨i0, i1⟩, hn⟩, by omega, by omega⟩, h2⟩, h3⟩, hA.addr⟩
  have he : encR id (ansQ es nm).1 (ansQ es nm).2.1 nm (ansQ es nm).2.2 = ((encR id (ansQ es nm).1 (ansQ es nm).2.1 nm (ansQ es nm).2.2).1, 0) := by
    unfold encR; rw [if_pos hok]
  refine ⟨(encR id (ansQ es nm).1 (ansQ es nm).2.1 nm (ansQ es nm).2.2).1, ?_, encR_len, decR_encR he⟩
  unfold ansN
  rw [h]
  simp only [ne_eq, not_true_eq_false, if_false]
  exact he
end Go.Proofs.YtdpaehdolhdjdaaDoor

namespace Go.Proofs.YtdpaehdolhdjdaaDoor
open Go Go.IW
section
attribute [local go_sem] List.getElem?_cons_zero List.getElem?_cons_succ Option.bind_some List.map_cons List.map_nil Nat.zero_add if_true List.getD_cons_zero List.getD_cons_succ List.contains_cons List.contains_nil Bool.or_true Bool.true_or Bool.or_false Bool.false_or Bool.not_true Bool.not_false true_and and_true rowA_whole mid_get stO_mid rowO_rows cellO_rows push_n set_n push_at push_old set_here set_there set_pushT set_pushN set_set upd_ne Nat.add_assoc Nat.add_zero stO_1s stO_ws boxA_s List.all_cons List.all_nil one_bool one_int one_str one_ptr one_nilptr one_slice one_eslice one_nilslice one_func one_iface one_niliface Bool.and_true Bool.and_self List.length_cons List.length_nil Nat.one_ne_zero Nat.succ_ne_zero if_false List.set_cons_zero List.set_cons_succ lay_nil lay_1 lay_w Option.map_some

theorem encQ_code (id : Int) (s : List UInt8) : (encQ id s).2 = 0 ∨ (encQ id s).2 = 1 := by
  unfold encQ; split <;> simp
theorem encR_code (id cd ttl : Int) (s : List UInt8) (zs : List Int) : (encR id cd ttl s zs).2 = 0 ∨ (encR id cd ttl s zs).2 = 1 := by
  unfold encR; split <;> simp
theorem appA_e {h : IH} {el sz b : Nat} {ys : List (List IV)} {K : HoldK} (hb : ys.length * b ≤ 140737488355328) (hk : ∀ v h', Ext h h' → SlR h' sz v ys → K.k v h') : @appA h el sz b (.eslice true) (some ys) K := by
  by_cases hy : ys = []
  · subst hy
    exact appA_none (n := 0) rfl (hk _ _ (Ext.refl _) (SlR.empty _ _ _))
  · exact appA_newe hy hb (hk _ _ ((Ext.refl _).push _) (SlR.whole (push_new _ _) rfl (by simp only [push_n]; omega)))
set_option maxRecDepth 20000 in
set_option maxHeartbeats 1000000 in
theorem lawQuestions : LawTrue Tryd.prog 6 [(.slice (.int .u8), false)] := by
  rintro h ivs ha ⟨iv, r, rfl, ⟨v, rs, hv, hs, hm, hf⟩, rfl⟩
  obtain rfl := (List.cons.inj hv).1.symm
  obtain ⟨code, rfl⟩ := fits_bytes hf
  refine icalls (.of ok6) (Nat.le_of_ble_eq_true rfl) ?_
  unfold c6
  have hlen := hs.lenF
  rw [strRows_len] at hlen hm
  by_cases hbig : (1048576 : Int) < code.length
  · have hn : decide ((1048576 : Int) < code.length) = true := decide_eq_true hbig
    simp (disch := (first | omega | assumption | (simp only [push_n, set_n, put_n, List.length_cons, List.length_nil, List.length_append, Nat.reduceAdd]; done) | (simp only [push_n, set_n, put_n, List.length_cons, List.length_nil, List.length_append]; omega) | (simp only [List.all_cons, List.all_nil, one_bool, one_int, one_str, one_ptr, one_nilptr, one_slice, one_eslice, one_nilslice, one_func, one_iface, one_niliface, Bool.and_true, Bool.true_and, List.getD_cons_zero, List.getD_cons_succ, List.contains_cons, List.contains_nil, Bool.or_true, Bool.true_or, Bool.or_false, Bool.false_or, Nat.reduceBEq, *]; done) | fail)) only [hlen, hn, go_sem, Hold.p, HoldK.k, HoldL.K, HoldL.body, Nat.reduceBEq, Nat.reduceAdd, reduceIte]
  have hn : decide ((1048576 : Int) < code.length) = false := decide_eq_false hbig
  have hl : code.length ≤ 1048576 := by omega
  refine vc_split 4 (fun e g => e 0 = v ∧ SlR g 1 v (strRows code)) ?_ ?_
  · simp only [CC.split]
    simp (disch := (first | omega | assumption | (simp only [push_n, set_n, put_n, List.length_cons, List.length_nil, List.length_append, Nat.reduceAdd]; done) | (simp only [push_n, set_n, put_n, List.length_cons, List.length_nil, List.length_append]; omega) | (simp only [List.all_cons, List.all_nil, one_bool, one_int, one_str, one_ptr, one_nilptr, one_slice, one_eslice, one_nilslice, one_func, one_iface, one_niliface, Bool.and_true, Bool.true_and, List.getD_cons_zero, List.getD_cons_succ, List.contains_cons, List.contains_nil, Bool.or_true, Bool.true_or, Bool.or_false, Bool.false_or, Nat.reduceBEq, *]; done) | fail)) only [hlen, hn, go_sem, Hold.p, HoldK.k, HoldL.K, HoldL.body, Nat.reduceBEq, Nat.reduceAdd, reduceIte]
    refine callA_of (drawQuery_c h v code hs hl) ?_
    rintro r g1 ⟨x, s, rfl, hsl, E1⟩
    have hs := hs.ext E1
    have le_E1 := E1.le
    simp (disch := (first | omega | assumption | (simp only [push_n, set_n, put_n, List.length_cons, List.length_nil, List.length_append, Nat.reduceAdd]; done) | (simp only [push_n, set_n, put_n, List.length_cons, List.length_nil, List.length_append]; omega) | (simp only [List.all_cons, List.all_nil, one_bool, one_int, one_str, one_ptr, one_nilptr, one_slice, one_eslice, one_nilslice, one_func, one_iface, one_niliface, Bool.and_true, Bool.true_and, List.getD_cons_zero, List.getD_cons_succ, List.contains_cons, List.contains_nil, Bool.or_true, Bool.true_or, Bool.or_false, Bool.false_or, Nat.reduceBEq, *]; done) | fail)) only [go_sem, Hold.p, HoldK.k, HoldL.K, HoldL.body, Nat.reduceBEq, Nat.reduceAdd, reduceIte]
    generalize hq_g2 : IH.push g1 (IObj.rows [[.int .i64 x, .str s]] 46 2 false) = g2
    have e_g2 : Ext g1 g2 := by rw [← hq_g2]; exact (Ext.refl _).push _
    have l_g2 : g2.n = g1.n + 1 := by rw [← hq_g2]; rfl
    have b2 : At g2 g1.n (IObj.rows [[.int .i64 x, .str s]] 46 2 false) := by rw [← hq_g2]; exact At.new _ _
    clear hq_g2
    have hs := hs.ext e_g2
    have q2 := b2.eq
    try simp (disch := (first | omega | assumption | (simp only [push_n, set_n, put_n, List.length_cons, List.length_nil, List.length_append, Nat.reduceAdd]; done) | (simp only [push_n, set_n, put_n, List.length_cons, List.length_nil, List.length_append]; omega) | (simp only [List.all_cons, List.all_nil, one_bool, one_int, one_str, one_ptr, one_nilptr, one_slice, one_eslice, one_nilslice, one_func, one_iface, one_niliface, Bool.and_true, Bool.true_and, List.getD_cons_zero, List.getD_cons_succ, List.contains_cons, List.contains_nil, Bool.or_true, Bool.true_or, Bool.or_false, Bool.false_or, Nat.reduceBEq, *]; done) | fail)) only [q2, go_sem, Hold.p, HoldK.k, HoldL.K, HoldL.body, Nat.reduceBEq, Nat.reduceAdd, reduceIte]
    refine callA_of (specEncodeQuery_c g2 x s (by omega)) ?_
    rintro r g3 ⟨vb, rfl, o3, E3⟩
    have hs := hs.ext E3
    have b2 := b2.ext E3
    have le_E3 := E3.le
    have hen : ∀ (g : IH), ICalls Tryd.prog 28 [.agg [.int .i64 x, .str s]] g fun r h' => BytesRes g h' r (encQ x s) := fun g => implEncodeQuery_c g x s (by omega)
    have hcd := encQ_code x s
    have hel := encQ_len (id := x) (s := s)
    have hdec : ∀ bs, encQ x s = (bs, 0) → decQ bs = (x, s, 0) := fun bs hb => decQ_encQ hb
    generalize encQ x s = y at o3 hen hcd hel hdec
    obtain ⟨bs, c⟩ := y
    simp only at o3 hen hcd hel ⊢
    rcases hcd with rfl | rfl
    rotate_left
    · have d1 : decide ((1 : Int) = 0) = false := rfl
      simp (disch := (first | omega | assumption | (simp only [push_n, set_n, put_n, List.length_cons, List.length_nil, List.length_append, Nat.reduceAdd]; done) | (simp only [push_n, set_n, put_n, List.length_cons, List.length_nil, List.length_append]; omega) | (simp only [List.all_cons, List.all_nil, one_bool, one_int, one_str, one_ptr, one_nilptr, one_slice, one_eslice, one_nilslice, one_func, one_iface, one_niliface, Bool.and_true, Bool.true_and, List.getD_cons_zero, List.getD_cons_succ, List.contains_cons, List.contains_nil, Bool.or_true, Bool.true_or, Bool.or_false, Bool.false_or, Nat.reduceBEq, *]; done) | fail)) only [d1, go_sem, Hold.p, HoldK.k, HoldL.K, HoldL.body, Nat.reduceBEq, Nat.reduceAdd, reduceIte]
      exact hs
    have hd := hdec bs rfl
    have q3 := b2.eq
    simp (disch := (first | omega | assumption | (simp only [push_n, set_n, put_n, List.length_cons, List.length_nil, List.length_append, Nat.reduceAdd]; done) | (simp only [push_n, set_n, put_n, List.length_cons, List.length_nil, List.length_append]; omega) | (simp only [List.all_cons, List.all_nil, one_bool, one_int, one_str, one_ptr, one_nilptr, one_slice, one_eslice, one_nilslice, one_func, one_iface, one_niliface, Bool.and_true, Bool.true_and, List.getD_cons_zero, List.getD_cons_succ, List.contains_cons, List.contains_nil, Bool.or_true, Bool.true_or, Bool.or_false, Bool.false_or, Nat.reduceBEq, *]; done) | fail)) only [decide_true, q3, go_sem, Hold.p, HoldK.k, HoldL.K, HoldL.body, Nat.reduceBEq, Nat.reduceAdd, reduceIte]
    refine callA_of (hen g3) ?_
    rintro r g4 ⟨vi, rfl, o4, E4⟩
    have hs := hs.ext E4
    have b2 := b2.ext E4
    have le_E4 := E4.le
    simp (disch := (first | omega | assumption | (simp only [push_n, set_n, put_n, List.length_cons, List.length_nil, List.length_append, Nat.reduceAdd]; done) | (simp only [push_n, set_n, put_n, List.length_cons, List.length_nil, List.length_append]; omega) | (simp only [List.all_cons, List.all_nil, one_bool, one_int, one_str, one_ptr, one_nilptr, one_slice, one_eslice, one_nilslice, one_func, one_iface, one_niliface, Bool.and_true, Bool.true_and, List.getD_cons_zero, List.getD_cons_succ, List.contains_cons, List.contains_nil, Bool.or_true, Bool.true_or, Bool.or_false, Bool.false_or, Nat.reduceBEq, *]; done) | fail)) only [go_sem, Hold.p, HoldK.k, HoldL.K, HoldL.body, Nat.reduceBEq, Nat.reduceAdd, reduceIte]
    refine callA_of (implDecodeQuery_c g4 vi bs o4.sl (by omega)) ?_
    rintro r g5 ⟨rfl, E5⟩
    have hs := hs.ext E5
    have b2 := b2.ext E5
    have le_E5 := E5.le
    rw [hd]
    simp (disch := (first | omega | assumption | (simp only [push_n, set_n, put_n, List.length_cons, List.length_nil, List.length_append, Nat.reduceAdd]; done) | (simp only [push_n, set_n, put_n, List.length_cons, List.length_nil, List.length_append]; omega) | (simp only [List.all_cons, List.all_nil, one_bool, one_int, one_str, one_ptr, one_nilptr, one_slice, one_eslice, one_nilslice, one_func, one_iface, one_niliface, Bool.and_true, Bool.true_and, List.getD_cons_zero, List.getD_cons_succ, List.contains_cons, List.contains_nil, Bool.or_true, Bool.true_or, Bool.or_false, Bool.false_or, Nat.reduceBEq, *]; done) | fail)) only [go_sem, Hold.p, HoldK.k, HoldL.K, HoldL.body, Nat.reduceBEq, Nat.reduceAdd, reduceIte]
    have q5 := b2.eq
    generalize hq_g6 : IH.push g5 (IObj.rows [[.int .i64 x, .str s]] 46 2 false) = g6
    have e_g6 : Ext g5 g6 := by rw [← hq_g6]; exact (Ext.refl _).push _
    have l_g6 : g6.n = g5.n + 1 := by rw [← hq_g6]; rfl
    have b6 : At g6 g5.n (IObj.rows [[.int .i64 x, .str s]] 46 2 false) := by rw [← hq_g6]; exact At.new _ _
    clear hq_g6
    have hs := hs.ext e_g6
    have b2 := b2.ext e_g6
    have q6 := b6.eq
    have q7 := b2.eq
    try simp (disch := (first | omega | assumption | (simp only [push_n, set_n, put_n, List.length_cons, List.length_nil, List.length_append, Nat.reduceAdd]; done) | (simp only [push_n, set_n, put_n, List.length_cons, List.length_nil, List.length_append]; omega) | (simp only [List.all_cons, List.all_nil, one_bool, one_int, one_str, one_ptr, one_nilptr, one_slice, one_eslice, one_nilslice, one_func, one_iface, one_niliface, Bool.and_true, Bool.true_and, List.getD_cons_zero, List.getD_cons_succ, List.contains_cons, List.contains_nil, Bool.or_true, Bool.true_or, Bool.or_false, Bool.false_or, Nat.reduceBEq, *]; done) | fail)) only [decide_true, q6, q7, q5, go_sem, Hold.p, HoldK.k, HoldL.K, HoldL.body, Nat.reduceBEq, Nat.reduceAdd, reduceIte]
    refine test_of (fun hb => absurd hb (by decide)) (fun _ => ?_)
    simp (disch := (first | omega | assumption | (simp only [push_n, set_n, put_n, List.length_cons, List.length_nil, List.length_append, Nat.reduceAdd]; done) | (simp only [push_n, set_n, put_n, List.length_cons, List.length_nil, List.length_append]; omega) | (simp only [List.all_cons, List.all_nil, one_bool, one_int, one_str, one_ptr, one_nilptr, one_slice, one_eslice, one_nilslice, one_func, one_iface, one_niliface, Bool.and_true, Bool.true_and, List.getD_cons_zero, List.getD_cons_succ, List.contains_cons, List.contains_nil, Bool.or_true, Bool.true_or, Bool.or_false, Bool.false_or, Nat.reduceBEq, *]; done) | fail)) only [go_sem, Hold.p, HoldK.k, HoldL.K, HoldL.body, Nat.reduceBEq, Nat.reduceAdd, reduceIte]
    exact hs
  rintro e g ⟨i0, hs⟩
  simp only [CC.split]
  refine vc_split 2 (fun e g => e 0 = v ∧ SlR g 1 v (strRows code)) ?_ ?_
  · simp only [CC.split]
    simp (disch := (first | omega | assumption | (simp only [push_n, set_n, put_n, List.length_cons, List.length_nil, List.length_append, Nat.reduceAdd]; done) | (simp only [push_n, set_n, put_n, List.length_cons, List.length_nil, List.length_append]; omega) | (simp only [List.all_cons, List.all_nil, one_bool, one_int, one_str, one_ptr, one_nilptr, one_slice, one_eslice, one_nilslice, one_func, one_iface, one_niliface, Bool.and_true, Bool.true_and, List.getD_cons_zero, List.getD_cons_succ, List.contains_cons, List.contains_nil, Bool.or_true, Bool.true_or, Bool.or_false, Bool.false_or, Nat.reduceBEq, *]; done) | fail)) only [i0, go_sem, Hold.p, HoldK.k, HoldL.K, HoldL.body, Nat.reduceBEq, Nat.reduceAdd, reduceIte]
    refine callA_of (drawReply_c g v code hs hl) ?_
    rintro r g1 ⟨id, cd, ttl, s, va, zs, rfl, hsl, hzl, sva, E1⟩
    have hs := hs.ext E1
    have le_E1 := E1.le
    have hv1 := sva.one
    have hvc := sva.cells
    simp (disch := (first | omega | assumption | (simp only [push_n, set_n, put_n, List.length_cons, List.length_nil, List.length_append, Nat.reduceAdd]; done) | (simp only [push_n, set_n, put_n, List.length_cons, List.length_nil, List.length_append]; omega) | (simp only [List.all_cons, List.all_nil, one_bool, one_int, one_str, one_ptr, one_nilptr, one_slice, one_eslice, one_nilslice, one_func, one_iface, one_niliface, Bool.and_true, Bool.true_and, List.getD_cons_zero, List.getD_cons_succ, List.contains_cons, List.contains_nil, Bool.or_true, Bool.true_or, Bool.or_false, Bool.false_or, Nat.reduceBEq, *]; done) | fail)) only [hv1, hvc, i0, go_sem, Hold.p, HoldK.k, HoldL.K, HoldL.body, Nat.reduceBEq, Nat.reduceAdd, reduceIte]
    generalize hq_g2 : IH.push g1 (IObj.rows [[.int .i64 id, .int .i64 cd, .int .i64 ttl, .str s, va]] 54 5 false) = g2
    have e_g2 : Ext g1 g2 := by rw [← hq_g2]; exact (Ext.refl _).push _
    have l_g2 : g2.n = g1.n + 1 := by rw [← hq_g2]; rfl
    have b2 : At g2 g1.n (IObj.rows [[.int .i64 id, .int .i64 cd, .int .i64 ttl, .str s, va]] 54 5 false) := by rw [← hq_g2]; exact At.new _ _
    clear hq_g2
    have hs := hs.ext e_g2
    have sva := sva.ext e_g2
    have q2 := b2.eq
    try simp (disch := (first | omega | assumption | (simp only [push_n, set_n, put_n, List.length_cons, List.length_nil, List.length_append, Nat.reduceAdd]; done) | (simp only [push_n, set_n, put_n, List.length_cons, List.length_nil, List.length_append]; omega) | (simp only [List.all_cons, List.all_nil, one_bool, one_int, one_str, one_ptr, one_nilptr, one_slice, one_eslice, one_nilslice, one_func, one_iface, one_niliface, Bool.and_true, Bool.true_and, List.getD_cons_zero, List.getD_cons_succ, List.contains_cons, List.contains_nil, Bool.or_true, Bool.true_or, Bool.or_false, Bool.false_or, Nat.reduceBEq, *]; done) | fail)) only [q2, hv1, hvc, i0, go_sem, Hold.p, HoldK.k, HoldL.K, HoldL.body, Nat.reduceBEq, Nat.reduceAdd, reduceIte]
    refine callA_of (specEncodeReply_c g2 id cd ttl s va zs sva (by omega) (by omega)) ?_
    rintro r g3 ⟨vb, rfl, o3, E3⟩
    have hs := hs.ext E3
    have b2 := b2.ext E3
    have sva := sva.ext E3
    have le_E3 := E3.le
    have hen : ∀ (g : IH), SlR g 1 va (intRows zs) → ICalls Tryd.prog 32 [.agg [.int .i64 id, .int .i64 cd, .int .i64 ttl, .str s, va]] g fun r h' => BytesRes g h' r (encR id cd ttl s zs) := fun g sv => implEncodeReply_c g id cd ttl s va zs sv (by omega) (by omega)
    have hcd := encR_code id cd ttl s zs
    have hel := encR_len (id := id) (code := cd) (ttl := ttl) (nm := s) (zs := zs)
    have hdec : ∀ bs, encR id cd ttl s zs = (bs, 0) → decR bs = (⟨id, cd, ttl, s, zs⟩, 0) := fun bs hb => decR_encR hb
    generalize encR id cd ttl s zs = y at o3 hen hcd hel hdec
    obtain ⟨bs, c⟩ := y
    simp only at o3 hen hcd hel ⊢
    rcases hcd with rfl | rfl
    rotate_left
    · have d1 : decide ((1 : Int) = 0) = false := rfl
      simp (disch := (first | omega | assumption | (simp only [push_n, set_n, put_n, List.length_cons, List.length_nil, List.length_append, Nat.reduceAdd]; done) | (simp only [push_n, set_n, put_n, List.length_cons, List.length_nil, List.length_append]; omega) | (simp only [List.all_cons, List.all_nil, one_bool, one_int, one_str, one_ptr, one_nilptr, one_slice, one_eslice, one_nilslice, one_func, one_iface, one_niliface, Bool.and_true, Bool.true_and, List.getD_cons_zero, List.getD_cons_succ, List.contains_cons, List.contains_nil, Bool.or_true, Bool.true_or, Bool.or_false, Bool.false_or, Nat.reduceBEq, *]; done) | fail)) only [d1, i0, go_sem, Hold.p, HoldK.k, HoldL.K, HoldL.body, Nat.reduceBEq, Nat.reduceAdd, reduceIte]
      exact hs
    have hd := hdec bs rfl
    have q3 := b2.eq
    simp (disch := (first | omega | assumption | (simp only [push_n, set_n, put_n, List.length_cons, List.length_nil, List.length_append, Nat.reduceAdd]; done) | (simp only [push_n, set_n, put_n, List.length_cons, List.length_nil, List.length_append]; omega) | (simp only [List.all_cons, List.all_nil, one_bool, one_int, one_str, one_ptr, one_nilptr, one_slice, one_eslice, one_nilslice, one_func, one_iface, one_niliface, Bool.and_true, Bool.true_and, List.getD_cons_zero, List.getD_cons_succ, List.contains_cons, List.contains_nil, Bool.or_true, Bool.true_or, Bool.or_false, Bool.false_or, Nat.reduceBEq, *]; done) | fail)) only [decide_true, q3, i0, hv1, hvc, go_sem, Hold.p, HoldK.k, HoldL.K, HoldL.body, Nat.reduceBEq, Nat.reduceAdd, reduceIte]
    refine callA_of (hen g3 sva) ?_
    rintro r g4 ⟨vi, rfl, o4, E4⟩
    have hs := hs.ext E4
    have b2 := b2.ext E4
    have sva := sva.ext E4
    have le_E4 := E4.le
    simp (disch := (first | omega | assumption | (simp only [push_n, set_n, put_n, List.length_cons, List.length_nil, List.length_append, Nat.reduceAdd]; done) | (simp only [push_n, set_n, put_n, List.length_cons, List.length_nil, List.length_append]; omega) | (simp only [List.all_cons, List.all_nil, one_bool, one_int, one_str, one_ptr, one_nilptr, one_slice, one_eslice, one_nilslice, one_func, one_iface, one_niliface, Bool.and_true, Bool.true_and, List.getD_cons_zero, List.getD_cons_succ, List.contains_cons, List.contains_nil, Bool.or_true, Bool.true_or, Bool.or_false, Bool.false_or, Nat.reduceBEq, *]; done) | fail)) only [i0, go_sem, Hold.p, HoldK.k, HoldL.K, HoldL.body, Nat.reduceBEq, Nat.reduceAdd, reduceIte]
    refine callA_of (implDecodeReply_c g4 vi bs o4.sl (by omega)) ?_
    rintro r g5 ⟨vr, rfl, o5, E5⟩
    have hs := hs.ext E5
    have b2 := b2.ext E5
    have sva := sva.ext E5
    have le_E5 := E5.le
    rw [hd] at o5
    rw [hd]
    simp only at o5
    have hw1 := o5.sl.one
    have hwc := o5.sl.cells
    have q5 := b2.eq
    simp (disch := (first | omega | assumption | (simp only [push_n, set_n, put_n, List.length_cons, List.length_nil, List.length_append, Nat.reduceAdd]; done) | (simp only [push_n, set_n, put_n, List.length_cons, List.length_nil, List.length_append]; omega) | (simp only [List.all_cons, List.all_nil, one_bool, one_int, one_str, one_ptr, one_nilptr, one_slice, one_eslice, one_nilslice, one_func, one_iface, one_niliface, Bool.and_true, Bool.true_and, List.getD_cons_zero, List.getD_cons_succ, List.contains_cons, List.contains_nil, Bool.or_true, Bool.true_or, Bool.or_false, Bool.false_or, Nat.reduceBEq, *]; done) | fail)) only [hw1, hwc, i0, go_sem, Hold.p, HoldK.k, HoldL.K, HoldL.body, Nat.reduceBEq, Nat.reduceAdd, reduceIte]
    have o5 := o5.sl
    generalize hq_g6 : IH.push g5 (IObj.rows [[.int .i64 id, .int .i64 cd, .int .i64 ttl, .str s, vr]] 54 5 false) = g6
    have e_g6 : Ext g5 g6 := by rw [← hq_g6]; exact (Ext.refl _).push _
    have l_g6 : g6.n = g5.n + 1 := by rw [← hq_g6]; rfl
    have b6 : At g6 g5.n (IObj.rows [[.int .i64 id, .int .i64 cd, .int .i64 ttl, .str s, vr]] 54 5 false) := by rw [← hq_g6]; exact At.new _ _
    clear hq_g6
    have hs := hs.ext e_g6
    have b2 := b2.ext e_g6
    have sva := sva.ext e_g6
    have o5 := o5.ext e_g6
    have q6 := b6.eq
    have q7 := b2.eq
    try simp (disch := (first | omega | assumption | (simp only [push_n, set_n, put_n, List.length_cons, List.length_nil, List.length_append, Nat.reduceAdd]; done) | (simp only [push_n, set_n, put_n, List.length_cons, List.length_nil, List.length_append]; omega) | (simp only [List.all_cons, List.all_nil, one_bool, one_int, one_str, one_ptr, one_nilptr, one_slice, one_eslice, one_nilslice, one_func, one_iface, one_niliface, Bool.and_true, Bool.true_and, List.getD_cons_zero, List.getD_cons_succ, List.contains_cons, List.contains_nil, Bool.or_true, Bool.true_or, Bool.or_false, Bool.false_or, Nat.reduceBEq, *]; done) | fail)) only [decide_true, q6, q7, q5, hv1, hvc, hw1, hwc, go_sem, Hold.p, HoldK.k, HoldL.K, HoldL.body, Nat.reduceBEq, Nat.reduceAdd, reduceIte]
    refine callA_of (lwReply_c g6 id cd ttl s vr va zs o5 sva (by omega)) ?_
    rintro r g7 ⟨rfl, E7⟩
    have hs := hs.ext E7
    have le_E7 := E7.le
    simp (disch := (first | omega | assumption | (simp only [push_n, set_n, put_n, List.length_cons, List.length_nil, List.length_append, Nat.reduceAdd]; done) | (simp only [push_n, set_n, put_n, List.length_cons, List.length_nil, List.length_append]; omega) | (simp only [List.all_cons, List.all_nil, one_bool, one_int, one_str, one_ptr, one_nilptr, one_slice, one_eslice, one_nilslice, one_func, one_iface, one_niliface, Bool.and_true, Bool.true_and, List.getD_cons_zero, List.getD_cons_succ, List.contains_cons, List.contains_nil, Bool.or_true, Bool.true_or, Bool.or_false, Bool.false_or, Nat.reduceBEq, *]; done) | fail)) only [decide_true, i0, go_sem, Hold.p, HoldK.k, HoldL.K, HoldL.body, Nat.reduceBEq, Nat.reduceAdd, reduceIte]
    exact hs
  clear i0 hs
  rintro e g ⟨i0, hs⟩
  simp only [CC.split]
  simp (disch := (first | omega | assumption | (simp only [push_n, set_n, put_n, List.length_cons, List.length_nil, List.length_append, Nat.reduceAdd]; done) | (simp only [push_n, set_n, put_n, List.length_cons, List.length_nil, List.length_append]; omega) | (simp only [List.all_cons, List.all_nil, one_bool, one_int, one_str, one_ptr, one_nilptr, one_slice, one_eslice, one_nilslice, one_func, one_iface, one_niliface, Bool.and_true, Bool.true_and, List.getD_cons_zero, List.getD_cons_succ, List.contains_cons, List.contains_nil, Bool.or_true, Bool.true_or, Bool.or_false, Bool.false_or, Nat.reduceBEq, *]; done) | fail)) only [i0, go_sem, Hold.p, HoldK.k, HoldL.K, HoldL.body, Nat.reduceBEq, Nat.reduceAdd, reduceIte]
  refine callA_of (drawAnswer_c g v code hs hl) ?_
  rintro r g1 ⟨vz, vb, es, bs, rfl, sz, hes, sb, hbl, E1⟩
  simp (disch := (first | omega | assumption | (simp only [push_n, set_n, put_n, List.length_cons, List.length_nil, List.length_append, Nat.reduceAdd]; done) | (simp only [push_n, set_n, put_n, List.length_cons, List.length_nil, List.length_append]; omega) | (simp only [List.all_cons, List.all_nil, one_bool, one_int, one_str, one_ptr, one_nilptr, one_slice, one_eslice, one_nilslice, one_func, one_iface, one_niliface, Bool.and_true, Bool.true_and, List.getD_cons_zero, List.getD_cons_succ, List.contains_cons, List.contains_nil, Bool.or_true, Bool.true_or, Bool.or_false, Bool.false_or, Nat.reduceBEq, *]; done) | fail)) only [i0, go_sem, Hold.p, HoldK.k, HoldL.K, HoldL.body, Nat.reduceBEq, Nat.reduceAdd, reduceIte]
  refine callA_of (specDecodeQuery_c g1 vb bs sb (by omega)) ?_
  rintro r g2 ⟨rfl, E2⟩
  have sz := sz.ext E2
  have sb := sb.ext E2
  have le_E2 := E2.le
  have hN : ∀ id nm, decQ bs = (id, nm, 0) → ∃ out, ansN es bs = (out, 0) ∧ out.length ≤ 1000 ∧ decR out = (⟨id, (ansQ es nm).1, (ansQ es nm).2.1, nm, (ansQ es nm).2.2⟩, 0) := fun id nm hq => ansN_ok hq
  have hNb : (decQ bs).2.2 ≠ 0 → ansN es bs = ([], (decQ bs).2.2) := fun hq => by unfold ansN; rw [if_pos hq]
  have hans : ∀ (g : IH) (x y : IV), SlR g 3 x (entRows es) → SlR g 1 y (strRows bs) → ICalls Tryd.prog 37 [x, y] g fun r h' => BytesRes g h' r (ansN es bs) := fun g x y hx hy => implAnswerName_c g x y es bs hx hy (by omega) (by omega)
  generalize decQ bs = dq at hN hNb
  obtain ⟨id, nm, qc⟩ := dq
  simp only at hN hNb ⊢
  simp (disch := (first | omega | assumption | (simp only [push_n, set_n, put_n, List.length_cons, List.length_nil, List.length_append, Nat.reduceAdd]; done) | (simp only [push_n, set_n, put_n, List.length_cons, List.length_nil, List.length_append]; omega) | (simp only [List.all_cons, List.all_nil, one_bool, one_int, one_str, one_ptr, one_nilptr, one_slice, one_eslice, one_nilslice, one_func, one_iface, one_niliface, Bool.and_true, Bool.true_and, List.getD_cons_zero, List.getD_cons_succ, List.contains_cons, List.contains_nil, Bool.or_true, Bool.true_or, Bool.or_false, Bool.false_or, Nat.reduceBEq, *]; done) | fail)) only [i0, go_sem, Hold.p, HoldK.k, HoldL.K, HoldL.body, Nat.reduceBEq, Nat.reduceAdd, reduceIte]
  generalize hq_g3 : IH.push g2 (IObj.rows [[.int .i64 id, .str nm]] 46 2 false) = g3
  have e_g3 : Ext g2 g3 := by rw [← hq_g3]; exact (Ext.refl _).push _
  have l_g3 : g3.n = g2.n + 1 := by rw [← hq_g3]; rfl
  have b3 : At g3 g2.n (IObj.rows [[.int .i64 id, .str nm]] 46 2 false) := by rw [← hq_g3]; exact At.new _ _
  clear hq_g3
  have sz := sz.ext e_g3
  have sb := sb.ext e_g3
  have zs1 := sz.src
  have bs1 := sb.src
  try simp (disch := (first | omega | assumption | (simp only [push_n, set_n, put_n, List.length_cons, List.length_nil, List.length_append, Nat.reduceAdd]; done) | (simp only [push_n, set_n, put_n, List.length_cons, List.length_nil, List.length_append]; omega) | (simp only [List.all_cons, List.all_nil, one_bool, one_int, one_str, one_ptr, one_nilptr, one_slice, one_eslice, one_nilslice, one_func, one_iface, one_niliface, Bool.and_true, Bool.true_and, List.getD_cons_zero, List.getD_cons_succ, List.contains_cons, List.contains_nil, Bool.or_true, Bool.true_or, Bool.or_false, Bool.false_or, Nat.reduceBEq, *]; done) | fail)) only [bslA_0, zs1, bs1, go_sem, Hold.p, HoldK.k, HoldL.K, HoldL.body, Nat.reduceBEq, Nat.reduceAdd, reduceIte]
  refine appA_e (by rw [entRows_len]; omega) ?_
  rintro x g4 E4 sx
  have sz := sz.ext E4
  have sb := sb.ext E4
  have b3 := b3.ext E4
  have le_E4 := E4.le
  have bs4 := sb.src
  simp (disch := (first | omega | assumption | (simp only [push_n, set_n, put_n, List.length_cons, List.length_nil, List.length_append, Nat.reduceAdd]; done) | (simp only [push_n, set_n, put_n, List.length_cons, List.length_nil, List.length_append]; omega) | (simp only [List.all_cons, List.all_nil, one_bool, one_int, one_str, one_ptr, one_nilptr, one_slice, one_eslice, one_nilslice, one_func, one_iface, one_niliface, Bool.and_true, Bool.true_and, List.getD_cons_zero, List.getD_cons_succ, List.contains_cons, List.contains_nil, Bool.or_true, Bool.true_or, Bool.or_false, Bool.false_or, Nat.reduceBEq, *]; done) | fail)) only [bslA_0, bs4, go_sem, Hold.p, HoldK.k, HoldL.K, HoldL.body, Nat.reduceBEq, Nat.reduceAdd, reduceIte]
  refine appA_e (by rw [strRows_len]; omega) ?_
  rintro y g5 E5 sy
  have sz := sz.ext E5
  have sb := sb.ext E5
  have b3 := b3.ext E5
  have sx := sx.ext E5
  have le_E5 := E5.le
  simp (disch := (first | omega | assumption | (simp only [push_n, set_n, put_n, List.length_cons, List.length_nil, List.length_append, Nat.reduceAdd]; done) | (simp only [push_n, set_n, put_n, List.length_cons, List.length_nil, List.length_append]; omega) | (simp only [List.all_cons, List.all_nil, one_bool, one_int, one_str, one_ptr, one_nilptr, one_slice, one_eslice, one_nilslice, one_func, one_iface, one_niliface, Bool.and_true, Bool.true_and, List.getD_cons_zero, List.getD_cons_succ, List.contains_cons, List.contains_nil, Bool.or_true, Bool.true_or, Bool.or_false, Bool.false_or, Nat.reduceBEq, *]; done) | fail)) only [go_sem, Hold.p, HoldK.k, HoldL.K, HoldL.body, Nat.reduceBEq, Nat.reduceAdd, reduceIte]
  refine callA_of (hans g5 x y sx sy) ?_
  rintro r g6 ⟨vo, rfl, o6, E6⟩
  have sz := sz.ext E6
  have b3 := b3.ext E6
  have le_E6 := E6.le
  by_cases hq : qc = 0
  rotate_left
  · have hx := hNb hq
    have d1 : decide (qc = 0) = false := decide_eq_false hq
    simp (disch := (first | omega | assumption | (simp only [push_n, set_n, put_n, List.length_cons, List.length_nil, List.length_append, Nat.reduceAdd]; done) | (simp only [push_n, set_n, put_n, List.length_cons, List.length_nil, List.length_append]; omega) | (simp only [List.all_cons, List.all_nil, one_bool, one_int, one_str, one_ptr, one_nilptr, one_slice, one_eslice, one_nilslice, one_func, one_iface, one_niliface, Bool.and_true, Bool.true_and, List.getD_cons_zero, List.getD_cons_succ, List.contains_cons, List.contains_nil, Bool.or_true, Bool.true_or, Bool.or_false, Bool.false_or, Nat.reduceBEq, *]; done) | fail)) only [hx, decide_true, d1, go_sem, Hold.p, HoldK.k, HoldL.K, HoldL.body, Nat.reduceBEq, Nat.reduceAdd, reduceIte]
  subst hq
  obtain ⟨out, hout, hol, hdec⟩ := hN id nm rfl
  rw [hout] at o6
  rw [hout]
  simp only at o6
  simp (disch := (first | omega | assumption | (simp only [push_n, set_n, put_n, List.length_cons, List.length_nil, List.length_append, Nat.reduceAdd]; done) | (simp only [push_n, set_n, put_n, List.length_cons, List.length_nil, List.length_append]; omega) | (simp only [List.all_cons, List.all_nil, one_bool, one_int, one_str, one_ptr, one_nilptr, one_slice, one_eslice, one_nilslice, one_func, one_iface, one_niliface, Bool.and_true, Bool.true_and, List.getD_cons_zero, List.getD_cons_succ, List.contains_cons, List.contains_nil, Bool.or_true, Bool.true_or, Bool.or_false, Bool.false_or, Nat.reduceBEq, *]; done) | fail)) only [decide_true, go_sem, Hold.p, HoldK.k, HoldL.K, HoldL.body, Nat.reduceBEq, Nat.reduceAdd, reduceIte]
  refine callA_of (implDecodeReply_c g6 vo out o6.sl (by omega)) ?_
  rintro r g7 ⟨vr, rfl, o7, E7⟩
  have sz := sz.ext E7
  have b3 := b3.ext E7
  have le_E7 := E7.le
  rw [hdec] at o7
  rw [hdec]
  have hat : ∀ k e, es[k]? = some e → fitE nm e = true → (ansQ es nm).1 = 0 ∧ (goods nm (es.take k) < 8 → (ansQ es nm).2.2[goods nm (es.take k)]? = some e.addr ∧ (ansQ es nm).2.1 ≤ e.ttl) := fun k e => ans_at
  have hend := ans_end (qn := nm) es
  generalize ansQ es nm = st at o7 hat hend
  obtain ⟨cd, ttl, zs⟩ := st
  simp only at o7 hat hend
  have o7 := o7.sl
  have hw1 := o7.one
  have hwc := o7.cells
  have q7 := b3.eq
  simp (disch := (first | omega | assumption | (simp only [push_n, set_n, put_n, List.length_cons, List.length_nil, List.length_append, Nat.reduceAdd]; done) | (simp only [push_n, set_n, put_n, List.length_cons, List.length_nil, List.length_append]; omega) | (simp only [List.all_cons, List.all_nil, one_bool, one_int, one_str, one_ptr, one_nilptr, one_slice, one_eslice, one_nilslice, one_func, one_iface, one_niliface, Bool.and_true, Bool.true_and, List.getD_cons_zero, List.getD_cons_succ, List.contains_cons, List.contains_nil, Bool.or_true, Bool.true_or, Bool.or_false, Bool.false_or, Nat.reduceBEq, *]; done) | fail)) only [hw1, hwc, go_sem, Hold.p, HoldK.k, HoldL.K, HoldL.body, Nat.reduceBEq, Nat.reduceAdd, reduceIte]
  generalize hq_g8 : IH.push g7 (IObj.rows [[.int .i64 id, .int .i64 cd, .int .i64 ttl, .str nm, vr]] 54 5 false) = g8
  have e_g8 : Ext g7 g8 := by rw [← hq_g8]; exact (Ext.refl _).push _
  have l_g8 : g8.n = g7.n + 1 := by rw [← hq_g8]; rfl
  have b8 : At g8 g7.n (IObj.rows [[.int .i64 id, .int .i64 cd, .int .i64 ttl, .str nm, vr]] 54 5 false) := by rw [← hq_g8]; exact At.new _ _
  clear hq_g8
  have sz := sz.ext e_g8
  have b3 := b3.ext e_g8
  have o7 := o7.ext e_g8
  have q8 := b8.eq
  have q9 := b3.eq
  have lz := sz.lenF
  have lr := o7.lenF
  rw [entRows_len] at lz
  rw [intRows_len] at lr
  try simp (disch := (first | omega | assumption | (simp only [push_n, set_n, put_n, List.length_cons, List.length_nil, List.length_append, Nat.reduceAdd]; done) | (simp only [push_n, set_n, put_n, List.length_cons, List.length_nil, List.length_append]; omega) | (simp only [List.all_cons, List.all_nil, one_bool, one_int, one_str, one_ptr, one_nilptr, one_slice, one_eslice, one_nilslice, one_func, one_iface, one_niliface, Bool.and_true, Bool.true_and, List.getD_cons_zero, List.getD_cons_succ, List.contains_cons, List.contains_nil, Bool.or_true, Bool.true_or, Bool.or_false, Bool.false_or, Nat.reduceBEq, *]; done) | fail)) only [decide_true, q8, q9, q7, hw1, hwc, go_sem, Hold.p, HoldK.k, HoldL.K, HoldL.body, Nat.reduceBEq, Nat.reduceAdd, reduceIte]
  refine loop_at (fun n e g => ∃ k : Nat, n = es.length - k ∧ k ≤ es.length ∧ e 17 = vz ∧ e 19 = .ptr g2.n 0 0 ∧ e 23 = .ptr g7.n 0 0 ∧ e 25 = .int .i64 (goods nm (es.take k) : Nat) ∧ e 26 = .int .i64 (k : Nat) ∧ g = g8) es.length ?_ ?_
  · refine ⟨0, by omega, by omega, ?_⟩
    simp (disch := (first | omega | assumption | (simp only [push_n, set_n, put_n, List.length_cons, List.length_nil, List.length_append, Nat.reduceAdd]; done) | (simp only [push_n, set_n, put_n, List.length_cons, List.length_nil, List.length_append]; omega) | (simp only [List.all_cons, List.all_nil, one_bool, one_int, one_str, one_ptr, one_nilptr, one_slice, one_eslice, one_nilslice, one_func, one_iface, one_niliface, Bool.and_true, Bool.true_and, List.getD_cons_zero, List.getD_cons_succ, List.contains_cons, List.contains_nil, Bool.or_true, Bool.true_or, Bool.or_false, Bool.false_or, Nat.reduceBEq, *]; done) | fail)) only [go_sem, Hold.p, HoldK.k, HoldL.K, HoldL.body, Nat.reduceBEq, Nat.reduceAdd, reduceIte]
    exact ⟨rfl, rfl⟩
  · rintro n e g ⟨k, rfl, hk, i17, i19, i23, i25, i26, rfl⟩
    have hgl : goods nm (es.take k) ≤ k := by
      unfold goods
      exact Nat.le_trans List.countP_le_length (by rw [List.length_take]; omega)
    simp (disch := (first | omega | assumption | (simp only [push_n, set_n, put_n, List.length_cons, List.length_nil, List.length_append, Nat.reduceAdd]; done) | (simp only [push_n, set_n, put_n, List.length_cons, List.length_nil, List.length_append]; omega) | (simp only [List.all_cons, List.all_nil, one_bool, one_int, one_str, one_ptr, one_nilptr, one_slice, one_eslice, one_nilslice, one_func, one_iface, one_niliface, Bool.and_true, Bool.true_and, List.getD_cons_zero, List.getD_cons_succ, List.contains_cons, List.contains_nil, Bool.or_true, Bool.true_or, Bool.or_false, Bool.false_or, Nat.reduceBEq, *]; done) | fail)) only [i17, i19, i23, i25, i26, lz, go_sem, Hold.p, HoldK.k, HoldL.K, HoldL.body, Nat.reduceBEq, Nat.reduceAdd, reduceIte]
    refine test_dec (fun hb => ?_) (fun hb => ?_)
    · have hlt : k < es.length := by omega
      have hkp : es[k]? = some es[k] := List.getElem?_eq_getElem hlt
      generalize es[k] = w at hkp
      obtain ⟨l, j, hia, hll, hrow⟩ := sz.at (m := k) (entRows_at hkp) .i64
      have c0 : cellO (g.obj l) j 0 = some (.str w.nm) := cellO_row hrow 0
      have c1 : cellO (g.obj l) j 1 = some (.int .i64 w.addr) := cellO_row hrow 1
      have c2 : cellO (g.obj l) j 2 = some (.int .i64 w.ttl) := cellO_row hrow 2
      have hsn := goods_snoc (qn := nm) hkp
      have hat1 := hat k w hkp
      have hfit : fitE nm w = (decide (w.nm = nm) && decide (0 ≤ w.addr) && decide (w.addr < 4294967296) && decide (0 ≤ w.ttl) && decide (w.ttl ≤ 86400)) := by
        have h9 : decide (w.addr ≤ 4294967295) = decide (w.addr < 4294967296) := by rw [decide_eq_decide]; omega
        unfold fitE okAddr
        rw [h9]
        simp only [Bool.and_assoc]
      simp (disch := (first | omega | assumption | (simp only [push_n, set_n, put_n, List.length_cons, List.length_nil, List.length_append, Nat.reduceAdd]; done) | (simp only [push_n, set_n, put_n, List.length_cons, List.length_nil, List.length_append]; omega) | (simp only [List.all_cons, List.all_nil, one_bool, one_int, one_str, one_ptr, one_nilptr, one_slice, one_eslice, one_nilslice, one_func, one_iface, one_niliface, Bool.and_true, Bool.true_and, List.getD_cons_zero, List.getD_cons_succ, List.contains_cons, List.contains_nil, Bool.or_true, Bool.true_or, Bool.or_false, Bool.false_or, Nat.reduceBEq, *]; done) | fail)) only [i17, i19, i23, i25, i26, q8, q9, hia, c0, c1, c2, go_sem, Hold.p, HoldK.k, HoldL.K, HoldL.body, Nat.reduceBEq, Nat.reduceAdd, reduceIte]
      rw [← hfit]
      have w1 : wr .i64 ((k : Int) + 1) = ((k + 1 : Nat) : Int) := by rw [wr64 _ (by omega)]; rfl
      have w2 : wr .i64 ((goods nm (es.take k) : Int) + 1) = ((goods nm (es.take k) + 1 : Nat) : Int) := by rw [wr64 _ (by omega)]; rfl
      refine test_of (fun hnf => ?_) (fun hnf => ?_)
      · have hf0 : fitE nm w = false := by simpa using hnf
        rw [hf0] at hsn
        simp (disch := (first | omega | assumption | (simp only [push_n, set_n, put_n, List.length_cons, List.length_nil, List.length_append, Nat.reduceAdd]; done) | (simp only [push_n, set_n, put_n, List.length_cons, List.length_nil, List.length_append]; omega) | (simp only [List.all_cons, List.all_nil, one_bool, one_int, one_str, one_ptr, one_nilptr, one_slice, one_eslice, one_nilslice, one_func, one_iface, one_niliface, Bool.and_true, Bool.true_and, List.getD_cons_zero, List.getD_cons_succ, List.contains_cons, List.contains_nil, Bool.or_true, Bool.true_or, Bool.or_false, Bool.false_or, Nat.reduceBEq, *]; done) | fail)) only [i17, i19, i23, i25, i26, w1, go_sem, Hold.p, HoldK.k, HoldL.K, HoldL.body, Nat.reduceBEq, Nat.reduceAdd, reduceIte]
        exact ⟨_, by omega, k + 1, rfl, by omega, by rw [hsn]; simp, rfl⟩
      · have hf1 : fitE nm w = true := by simpa using hnf
        rw [hf1] at hsn
        obtain ⟨a1, a2⟩ := hat1 hf1
        have d1 : decide (cd = 0) = true := decide_eq_true a1
        by_cases h8 : goods nm (es.take k) < 8
        · obtain ⟨a3, a4⟩ := a2 h8
          have d2 : decide ((goods nm (es.take k) : Int) < 8) = true := decide_eq_true (by omega)
          have hzl := (List.getElem?_eq_some_iff.1 a3).1
          have d3 : decide ((zs.length : Int) ≤ (goods nm (es.take k) : Int)) = false := decide_eq_false (by omega)
          have d4 : decide (w.ttl < ttl) = false := decide_eq_false (by omega)
          obtain ⟨l', j', hia', hll', hrow'⟩ := o7.at (intRows_at a3) .i64
          have c3 : cellO (g.obj l') j' 0 = some (.int .i64 w.addr) := cellO_row hrow' 0
          simp (disch := (first | omega | assumption | (simp only [push_n, set_n, put_n, List.length_cons, List.length_nil, List.length_append, Nat.reduceAdd]; done) | (simp only [push_n, set_n, put_n, List.length_cons, List.length_nil, List.length_append]; omega) | (simp only [List.all_cons, List.all_nil, one_bool, one_int, one_str, one_ptr, one_nilptr, one_slice, one_eslice, one_nilslice, one_func, one_iface, one_niliface, Bool.and_true, Bool.true_and, List.getD_cons_zero, List.getD_cons_succ, List.contains_cons, List.contains_nil, Bool.or_true, Bool.true_or, Bool.or_false, Bool.false_or, Nat.reduceBEq, *]; done) | fail)) only [i17, i19, i23, i25, i26, q8, q9, d1, d2, lr, d3, hia', c3, hia, c0, c1, c2, decide_true, d4, w1, w2, go_sem, Hold.p, HoldK.k, HoldL.K, HoldL.body, Nat.reduceBEq, Nat.reduceAdd, reduceIte]
          exact ⟨_, by omega, k + 1, rfl, by omega, by rw [hsn]; simp, rfl⟩
        · have d2 : decide ((goods nm (es.take k) : Int) < 8) = false := decide_eq_false (by omega)
          simp (disch := (first | omega | assumption | (simp only [push_n, set_n, put_n, List.length_cons, List.length_nil, List.length_append, Nat.reduceAdd]; done) | (simp only [push_n, set_n, put_n, List.length_cons, List.length_nil, List.length_append]; omega) | (simp only [List.all_cons, List.all_nil, one_bool, one_int, one_str, one_ptr, one_nilptr, one_slice, one_eslice, one_nilslice, one_func, one_iface, one_niliface, Bool.and_true, Bool.true_and, List.getD_cons_zero, List.getD_cons_succ, List.contains_cons, List.contains_nil, Bool.or_true, Bool.true_or, Bool.or_false, Bool.false_or, Nat.reduceBEq, *]; done) | fail)) only [i17, i19, i23, i25, i26, q8, q9, d1, d2, w1, w2, go_sem, Hold.p, HoldK.k, HoldL.K, HoldL.body, Nat.reduceBEq, Nat.reduceAdd, reduceIte]
          exact ⟨_, by omega, k + 1, rfl, by omega, by rw [hsn]; simp, rfl⟩
    · have hkk : k = es.length := by omega
      subst hkk
      rw [List.take_length] at i25
      obtain ⟨e1, e2⟩ := hend
      by_cases h8 : 8 < goods nm es
      · have d1 : decide ((8 : Int) < (goods nm es : Int)) = true := decide_eq_true (by omega)
        have d2 : decide ((zs.length : Int) = 8) = true := decide_eq_true (by omega)
        simp (disch := (first | omega | assumption | (simp only [push_n, set_n, put_n, List.length_cons, List.length_nil, List.length_append, Nat.reduceAdd]; done) | (simp only [push_n, set_n, put_n, List.length_cons, List.length_nil, List.length_append]; omega) | (simp only [List.all_cons, List.all_nil, one_bool, one_int, one_str, one_ptr, one_nilptr, one_slice, one_eslice, one_nilslice, one_func, one_iface, one_niliface, Bool.and_true, Bool.true_and, List.getD_cons_zero, List.getD_cons_succ, List.contains_cons, List.contains_nil, Bool.or_true, Bool.true_or, Bool.or_false, Bool.false_or, Nat.reduceBEq, *]; done) | fail)) only [i17, i19, i23, i25, i26, q8, lr, d1, d2, go_sem, Hold.p, HoldK.k, HoldL.K, HoldL.body, Nat.reduceBEq, Nat.reduceAdd, reduceIte]
        simp
      · have d1 : decide ((8 : Int) < (goods nm es : Int)) = false := decide_eq_false (by omega)
        have d2 : decide ((zs.length : Int) = (goods nm es : Int)) = true := decide_eq_true (by omega)
        have d3 : (decide ((0 : Int) < (goods nm es : Int)) || decide (cd = 20)) = true := by
          rcases e2 with e2 | e2
          · rw [decide_eq_true (by omega)]; rfl
          · rw [decide_eq_true e2]; simp
        simp (disch := (first | omega | assumption | (simp only [push_n, set_n, put_n, List.length_cons, List.length_nil, List.length_append, Nat.reduceAdd]; done) | (simp only [push_n, set_n, put_n, List.length_cons, List.length_nil, List.length_append]; omega) | (simp only [List.all_cons, List.all_nil, one_bool, one_int, one_str, one_ptr, one_nilptr, one_slice, one_eslice, one_nilslice, one_func, one_iface, one_niliface, Bool.and_true, Bool.true_and, List.getD_cons_zero, List.getD_cons_succ, List.contains_cons, List.contains_nil, Bool.or_true, Bool.true_or, Bool.or_false, Bool.false_or, Nat.reduceBEq, *]; done) | fail)) only [i17, i19, i23, i25, i26, q8, lr, d1, d2, d3, go_sem, Hold.p, HoldK.k, HoldL.K, HoldL.body, Nat.reduceBEq, Nat.reduceAdd, reduceIte]
end
end Go.Proofs.YtdpaehdolhdjdaaDoor
