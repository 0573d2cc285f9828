import Derived.Test.YtaoffieemecioaaDoorL1
set_option linter.unusedSimpArgs false
set_option linter.unusedVariables false

namespace Go.Proofs.YtaoffieemecioaaDoor
open Go Go.IW

section
attribute [local go_sem] boxA_1 boxA_2 boxA_3 bslA_1 List.getElem?_cons_zero List.getElem?_cons_succ Option.bind_some List.map_cons List.map_nil Nat.zero_add if_true List.getD_cons_zero List.getD_cons_succ List.contains_cons List.contains_nil Bool.or_true Bool.true_or Bool.or_false Bool.false_or Bool.not_true Bool.not_false true_and and_true rowA_whole push_n set_n push_obj set_obj set_push set_push_ne set_set Nat.add_assoc Nat.left_eq_add Nat.add_eq_left Nat.add_left_cancel_iff stO_1s stO_ws boxA_s one_bool one_int one_str one_ptr one_nilptr one_slice one_eslice one_nilslice one_func one_iface one_niliface List.all_cons List.all_nil List.length_cons List.length_nil Bool.and_true Nat.one_ne_zero Nat.succ_ne_zero if_false List.set_cons_zero List.set_cons_succ
set_option maxRecDepth 20000 in
theorem l03Num_c (h : IH) (v : IV) (bs : List UInt8) (hs : SlR h 1 v (strRows bs)) (hl : bs.length ≤ 7) : ICalls Tryd.prog 56 [v] h fun r h' => r = .int .i64 (numB bs) ∧ h' = h := by
 refine icalls (.of ok56) (Nat.le_of_ble_eq_true rfl) ?_
 unfold c56
 have hlen := hs.lenF
 rw [strRows_len] at hlen
 simp only [go_sem, ↓act_zero, Nat.reduceBEq, Nat.reduceAdd, reduceIte, Nat.reduceEqDiff, Nat.reduceLT, Nat.reduceLeDiff]
 refine loop_at (fun n e h' => ∃ k, n = bs.length - k ∧ k ≤ bs.length ∧ e 0 = v ∧ e 3 = .int .i64 (numB (bs.take k)) ∧ e 4 = .int .i64 (k : Nat) ∧ h' = h) bs.length ?_ ?_
 ·refine ⟨0, by omega, by omega, ?_⟩
  simp only [go_sem, ↓act_zero, Nat.reduceBEq, Nat.reduceAdd, reduceIte, Nat.reduceEqDiff, Nat.reduceLT, Nat.reduceLeDiff]
  exact ⟨rfl, rfl⟩
 ·rintro n e h' ⟨k, rfl, hk, e0, e3, e4, rfl⟩
  simp only [e0, e3, e4, hlen, go_sem, ↓act_zero, Nat.reduceBEq, Nat.reduceAdd, reduceIte, Nat.reduceEqDiff, Nat.reduceLT, Nat.reduceLeDiff]
  refine test_dec (fun hb => ?_) (fun hb => ?_)
  ·have hlt' : k < bs.length := by omega
   have hkp : bs[k]? = some bs[k] := List.getElem?_eq_getElem hlt'
   generalize bs[k] = p at hkp
   obtain ⟨l, j, hia, hll, hrow⟩ := hs.at (m := k) (strRows_at hkp) .i64
   have hc := cellO_row hrow
   have hbd := numB_bound 6 (bs.take k) (by simp; omega)
   have hpb : ((p.toNat : Nat) : Int) < 256 := by have := p.toNat_lt; omega
   have w1 : wr .i64 (numB (bs.take k) * 256) = numB (bs.take k) * 256 := wr64 _ (by omega)
   have w2 : wr .i64 ((p.toNat : Nat) : Int) = ((p.toNat : Nat) : Int) := wr64 _ (by omega)
   have w3 : wr .i64 (numB (bs.take k) * 256 + (p.toNat : Int)) = numB (bs.take (k + 1)) := by
    rw [List.take_add_one, hkp]
    simp only [Option.toList_some]
    rw [numB_snoc, wr64 _ (by omega)]
   simp only [e0, e3, e4, hia, hc, w1, w2, w3, go_sem, ↓act_zero, Nat.reduceBEq, Nat.reduceAdd, reduceIte, Nat.reduceEqDiff, Nat.reduceLT, Nat.reduceLeDiff]
   exact ⟨_, by omega, k + 1, rfl, by omega, rfl, wr64_succ k (by omega)⟩
  ·obtain rfl : k = bs.length := by omega
   rw [List.take_length] at e3
   simp only [e0, e3, e4, go_sem, ↓act_zero, Nat.reduceBEq, Nat.reduceAdd, reduceIte, Nat.reduceEqDiff, Nat.reduceLT, Nat.reduceLeDiff]

set_option maxRecDepth 20000 in
theorem get_c (h : IH) (v : IV) (bs : List UInt8) (hs : SlR h 1 v (strRows bs)) (hl : bs.length ≤ 7) : ICalls Tryd.prog 84 [v] h fun r h' => r = .int .i64 (numB bs) ∧ h' = h := by
 refine icalls (.of ok84) (Nat.le_of_ble_eq_true rfl) ?_
 unfold c84
 have hlen := hs.lenF
 rw [strRows_len] at hlen
 simp only [hlen, go_sem, ↓act_zero, Nat.reduceBEq, Nat.reduceAdd, reduceIte, Nat.reduceEqDiff, Nat.reduceLT, Nat.reduceLeDiff]
 refine loop_at (fun n e h' => ∃ k, n = bs.length - k ∧ k ≤ bs.length ∧ e 6 = v ∧ e 7 = .int .i64 (bs.length : Nat) ∧ e 3 = .int .i64 (numB (bs.take k)) ∧ e 8 = .int .i64 (k : Nat) ∧ h' = h) bs.length ?_ ?_
 ·refine ⟨0, by omega, by omega, ?_⟩
  simp only [go_sem, ↓act_zero, Nat.reduceBEq, Nat.reduceAdd, reduceIte, Nat.reduceEqDiff, Nat.reduceLT, Nat.reduceLeDiff]
  exact ⟨rfl, rfl⟩
 ·rintro n e h' ⟨k, rfl, hk, e6, e7, e3, e8, rfl⟩
  simp only [e6, e7, e3, e8, go_sem, ↓act_zero, Nat.reduceBEq, Nat.reduceAdd, reduceIte, Nat.reduceEqDiff, Nat.reduceLT, Nat.reduceLeDiff]
  refine test_dec (fun hb => ?_) (fun hb => ?_)
  ·have hlt' : k < bs.length := by omega
   have hkp : bs[k]? = some bs[k] := List.getElem?_eq_getElem hlt'
   generalize bs[k] = p at hkp
   obtain ⟨l, j, hia, hll, hrow⟩ := hs.at (m := k) (strRows_at hkp) .i64
   have hc := cellO_row hrow
   have hbd := numB_bound 6 (bs.take k) (by simp; omega)
   have hpb : ((p.toNat : Nat) : Int) < 256 := by have := p.toNat_lt; omega
   have w0 := ib_shl .i64 (numB (bs.take k)) 8 .u64 (by omega)
   have hmin : min (8 : Int).toNat IntKind.i64.bits = 8 := rfl
   rw [hmin] at w0
   have w1 : wr .i64 (numB (bs.take k) * 2 ^ 8) = numB (bs.take k) * 256 := wr64 _ (by omega)
   rw [w1] at w0
   have w2 : wr .i64 ((p.toNat : Nat) : Int) = ((p.toNat : Nat) : Int) := wr64 _ (by omega)
   have w3 : IW.bits .or .i64 (numB (bs.take k) * 256) (p.toNat : Int) = numB (bs.take (k + 1)) := by
    rw [or_join (by omega) (by omega) (by omega) hpb, List.take_add_one, hkp]
    simp only [Option.toList_some]
    rw [numB_snoc]
   simp only [e6, e7, e3, e8, hia, hc, w0, w2, w3, go_sem, ↓act_zero, Nat.reduceBEq, Nat.reduceAdd, reduceIte, Nat.reduceEqDiff, Nat.reduceLT, Nat.reduceLeDiff]
   exact ⟨_, by omega, k + 1, rfl, by omega, rfl, wr64_succ k (by omega)⟩
  ·obtain rfl : k = bs.length := by omega
   rw [List.take_length] at e3
   simp only [e6, e7, e3, e8, go_sem, ↓act_zero, Nat.reduceBEq, Nat.reduceAdd, reduceIte, Nat.reduceEqDiff, Nat.reduceLT, Nat.reduceLeDiff]

def takeD (bs : List UInt8) (sh : Bool) (n : Nat) : List UInt8 × List UInt8 × Bool :=
 if bs.length < n then (List.replicate (min n 8) 0, [], true) else (bs.take n, bs.drop n, sh)
structure BitesAt (h : IH) (p : Nat) (bs : List UInt8) (sh : Bool) : Prop where
 box : ∃ v, At h p (.rows [[v, .bool sh]] 139 2 false) ∧ SlR h 1 v (strRows bs) ∧ ∀ l i m, v = .slice l i m → l < p

theorem islc_at {h : IH} {sz a b : Nat} {v : IV} {l i m : Nat} {mx : Option Nat} (e : islc h sz v a b mx = some (.slice l i m)) : ∃ i0 m0, v = .slice l i0 m0 := by
 cases v with
 | slice l0 i0 m0 =>
  simp only [islc] at e
  split at e
  ·split at e
   ·split at e
    ·cases e
    ·cases e; exact ⟨i0, m0, rfl⟩
   ·split at e
    ·split at e
     ·cases e
     ·cases e; exact ⟨i0, m0, rfl⟩
    ·cases e
  ·cases e
 | eslice z => simp only [islc] at e; split at e <;> cases e
 | nilslice => simp only [islc] at e; split at e <;> cases e
 | _ => cases e
theorem slcF_at {h : IH} {sz : Nat} {v : IV} {l i m : Nat} {lo hi : Option IV} (e : slcF h sz v lo hi = some (.slice l i m)) : ∃ i0 m0, v = .slice l i0 m0 := by
 unfold slcF at e
 split at e
 ·split at e
  ·split at e
   ·exact islc_at e
   ·cases e
  ·cases e
 ·cases e

theorem strRows_take (a : List UInt8) (n : Nat) : (strRows a).take n = strRows (a.take n) := by simp [strRows, List.map_take]
theorem strRows_drop (a : List UInt8) (n : Nat) : (strRows a).drop n = strRows (a.drop n) := by simp [strRows, List.map_drop]

set_option maxRecDepth 20000 in
theorem take_c (h : IH) (p n : Nat) (bs : List UInt8) (sh : Bool) (hb : BitesAt h p bs sh) (hn : n ≤ 255) (hl : bs.length ≤ 1048576) :
  ICalls Tryd.prog 71 [.ptr p 0 0, .int .i64 n] h fun r h' => SlR h' 1 r (strRows (takeD bs sh n).1) ∧ BitesAt h' p (takeD bs sh n).2.1 (takeD bs sh n).2.2 ∧ But p .nilslice h h' := by
 obtain ⟨v, ha, hs, hlow⟩ := hb.box
 refine icalls (.of ok71) (Nat.le_of_ble_eq_true rfl) ?_
 unfold c71
 have hlen := hs.lenF
 rw [strRows_len] at hlen
 have hae := ha.eq
 have hal := ha.lt
 by_cases hc : bs.length < n
 ·have hd : decide ((bs.length : Int) < (n : Int)) = true := decide_eq_true (by omega)
  have hdef : takeD bs sh n = (List.replicate (min n 8) 0, [], true) := if_pos hc
  rw [hdef]
  have hmn : min (n : Int) 8 = ((min n 8 : Nat) : Int) := by omega
  simp only [hae, hlen, hd, hmn, go_sem, ↓act_zero, Nat.reduceBEq, Nat.reduceAdd, reduceIte, Nat.reduceEqDiff, Nat.reduceLT, Nat.reduceLeDiff]
  refine mksA_of (by omega) (by omega) (by omega) ?_
  simp only [go_sem, ↓act_zero, Nat.reduceBEq, Nat.reduceAdd, reduceIte, Nat.reduceEqDiff, Nat.reduceLT, Nat.reduceLeDiff]
  have B : But p .nilslice h (h.set p (.rows [[.nilslice, .bool true]] 139 2 false)) := (But.refl _ _ _).set _
  have hrep : List.replicate (min n 8) [IV.int .u8 0] = strRows (List.replicate (min n 8) 0) := by simp [strRows]
  have hpn : (p = h.n) = False := by simp; omega
  refine ⟨?_, ⟨⟨.nilslice, ⟨by simp only [push_n, set_n]; omega, by simp [push_obj, set_obj, set_n, hpn]⟩, SlR.nil _ _, fun l i m e => by cases e⟩⟩, ?_⟩
  ·refine SlR.whole (e := 5) (ro := false) (by rw [hrep]; exact push_new _ _) (by rw [strRows_len]; simp) (by simp only [push_n, set_n]; omega)
  ·refine B.trans (But.of_ext ((Ext.refl _).push _))
 ·have hd : decide ((bs.length : Int) < (n : Int)) = false := decide_eq_false (by omega)
  have hdef : takeD bs sh n = (bs.take n, bs.drop n, sh) := if_neg hc
  rw [hdef]
  obtain ⟨v1, hv1, hs1⟩ := hs.hi (b := n) (q := .i64) (by rw [strRows_len]; omega)
  obtain ⟨v2, hv2, hs2⟩ := hs.lo (a := n) (q := .i64) (by rw [strRows_len]; omega)
  rw [strRows_take] at hs1
  rw [strRows_drop] at hs2
  have hv2o := hs2.one
  have hv2c := hs2.cells
  simp only [hae, hlen, hd, hv1, hv2, Option.map_some, Option.map_none, hv2o, hv2c, go_sem, ↓act_zero, Nat.reduceBEq, Nat.reduceAdd, reduceIte, Nat.reduceEqDiff, Nat.reduceLT, Nat.reduceLeDiff]
  have B : But p .nilslice h (h.set p (.rows [[v2, .bool sh]] 139 2 false)) := (But.refl _ _ _).set _
  exact ⟨hs1.but B hae (by omega), ⟨⟨v2, ha.here, hs2.but B hae (by omega), fun l i m e => by subst e; obtain ⟨i0, m0, e0⟩ := slcF_at hv2; exact hlow _ _ _ e0⟩⟩, B⟩

set_option maxRecDepth 20000 in
theorem num_c (h : IH) (p n : Nat) (bs : List UInt8) (sh : Bool) (hb : BitesAt h p bs sh) (hn : n ≤ 7) (hl : bs.length ≤ 1048576) :
  ICalls Tryd.prog 70 [.ptr p 0 0, .int .i64 n] h fun r h' => r = .int .i64 (numB (takeD bs sh n).1) ∧ BitesAt h' p (takeD bs sh n).2.1 (takeD bs sh n).2.2 ∧ But p .nilslice h h' := by
 refine icalls (.of ok70) (Nat.le_of_ble_eq_true rfl) ?_
 unfold c70
 simp only [go_sem, ↓act_zero, Nat.reduceBEq, Nat.reduceAdd, reduceIte, Nat.reduceEqDiff, Nat.reduceLT, Nat.reduceLeDiff]
 refine callA_of (take_c h p n bs sh hb (by omega) hl) ?_
 rintro r h1 ⟨hs, hb1, B⟩
 simp only [go_sem, ↓act_zero, Nat.reduceBEq, Nat.reduceAdd, reduceIte, Nat.reduceEqDiff, Nat.reduceLT, Nat.reduceLeDiff]
 refine callA_of (get_c h1 r _ hs (by unfold takeD; split <;> simp <;> omega)) ?_
 rintro r2 h2 ⟨rfl, rfl⟩
 simp only [go_sem, ↓act_zero, Nat.reduceBEq, Nat.reduceAdd, reduceIte, Nat.reduceEqDiff, Nat.reduceLT, Nat.reduceLeDiff]
 exact ⟨hb1, B⟩
end
end Go.Proofs.YtaoffieemecioaaDoor



namespace Go.Proofs.YtaoffieemecioaaDoor
open Go Go.IW

theorem getD_at {bs : List UInt8} {k : Nat} (hk : k < bs.length) : bs[k]? = some (bs.getD k 0) := by
 rw [List.getD_eq_getElem?_getD, List.getElem?_eq_getElem hk]; rfl

def textAt (bs : List UInt8) (at_ : Nat) : List UInt8 × Int :=
 if bs.length ≤ at_ ∨ bs.length < at_ + 1 + (bs.getD at_ 0).toNat then ([], -1) else ((bs.take (at_ + 1 + (bs.getD at_ 0).toNat)).drop (at_ + 1), ((at_ + 1 + (bs.getD at_ 0).toNat : Nat) : Int))

section
attribute [local go_sem] boxA_1 boxA_2 boxA_3 bslA_1 List.getElem?_cons_zero List.getElem?_cons_succ Option.bind_some List.map_cons List.map_nil Nat.zero_add if_true List.getD_cons_zero List.getD_cons_succ List.contains_cons List.contains_nil Bool.or_true Bool.true_or Bool.or_false Bool.false_or Bool.not_true Bool.not_false true_and and_true rowA_whole push_n set_n push_obj set_obj set_push set_push_ne set_set Nat.add_assoc Nat.left_eq_add Nat.add_eq_left Nat.add_left_cancel_iff stO_1s stO_ws boxA_s one_bool one_int one_str one_ptr one_nilptr one_slice one_eslice one_nilslice one_func one_iface one_niliface List.all_cons List.all_nil List.length_cons List.length_nil Bool.and_true Nat.one_ne_zero Nat.succ_ne_zero if_false List.set_cons_zero List.set_cons_succ
set_option maxRecDepth 20000 in
theorem l19Text_c (h : IH) (v : IV) (bs : List UInt8) (a : Nat) (hs : SlR h 1 v (strRows bs)) (hl : bs.length ≤ 1048576) (hal : a ≤ 1048576) : ICalls Tryd.prog 55 [v, .int .i64 a] h fun r h' => r = .tuple [.str (textAt bs a).1, .int .i64 (textAt bs a).2] ∧ h' = h := by
 refine icalls (.of ok55) (Nat.le_of_ble_eq_true rfl) ?_
 unfold c55
 have hlen := hs.lenF
 rw [strRows_len] at hlen
 have d0 : decide ((a : Int) < 0) = false := decide_eq_false (by omega)
 by_cases c1 : bs.length ≤ a
 ·have d1 : decide ((bs.length : Int) ≤ (a : Int)) = true := decide_eq_true (by omega)
  simp only [d0, hlen, d1, go_sem, ↓act_zero, Nat.reduceBEq, Nat.reduceAdd, reduceIte, Nat.reduceEqDiff, Nat.reduceLT, Nat.reduceLeDiff]
  unfold textAt
  rw [if_pos (.inl c1)]
 ·have d1 : decide ((bs.length : Int) ≤ (a : Int)) = false := decide_eq_false (by omega)
  have hkp := getD_at (bs := bs) (k := a) (by omega)
  generalize hb : bs.getD a 0 = b at hkp
  have hb256 := b.toNat_lt
  obtain ⟨l, j, hia, hll, hrow⟩ := hs.at (m := a) (strRows_at hkp) .i64
  have hc := cellO_row hrow
  have w2 : wr .i64 ((b.toNat : Nat) : Int) = ((b.toNat : Nat) : Int) := wr64 _ (by omega)
  obtain ⟨en, hen⟩ : ∃ en, en = a + 1 + b.toNat := ⟨_, rfl⟩
  have w1' : wr .i64 ((a : Int) + 1) = ((a + 1 : Nat) : Int) := by rw [wr64 _ (by omega)]; omega
  have w3' : wr .i64 (((a + 1 : Nat) : Int) + (b.toNat : Int)) = (en : Int) := by rw [wr64 _ (by omega)]; omega
  unfold textAt
  rw [hb, ← hen]
  by_cases c2 : bs.length < en
  ·have d2 : decide ((bs.length : Int) < (en : Int)) = true := decide_eq_true (by omega)
   simp only [d0, hlen, d1, hia, hc, w1', w2, w3', d2, go_sem, ↓act_zero, Nat.reduceBEq, Nat.reduceAdd, reduceIte, Nat.reduceEqDiff, Nat.reduceLT, Nat.reduceLeDiff]
   rw [if_pos (.inr c2)]
  ·have d2 : decide ((bs.length : Int) < (en : Int)) = false := decide_eq_false (by omega)
   obtain ⟨v1, hv1, hs1⟩ := hs.lohi (a := a + 1) (b := en) (q := .i64) (q' := .i64) (by omega) (by rw [strRows_len]; omega)
   rw [strRows_take, strRows_drop] at hs1
   have hb2 := hs1.b2s
   simp only [d0, hlen, d1, hia, hc, w1', w2, w3', d2, hv1, hb2, Option.map_some, go_sem, ↓act_zero, Nat.reduceBEq, Nat.reduceAdd, reduceIte, Nat.reduceEqDiff, Nat.reduceLT, Nat.reduceLeDiff]
   rw [if_neg (by omega)]
end
def decQ (bs : List UInt8) : Int × List UInt8 × Int :=
 if bs.length < 4 ∨ bs.length < 4 + (bs.getD 3 0).toNat then (0, [], 2)
 else if 4 + (bs.getD 3 0).toNat < bs.length then (0, [], 5)
 else if bs.getD 2 0 ≠ 0 then (0, [], 9)
 else if okName ((bs.take (4 + (bs.getD 3 0).toNat)).drop 4) = true then (numB (bs.take 2), (bs.take (4 + (bs.getD 3 0).toNat)).drop 4, 0) else (0, [], 6)
def QueryRes (h h' : IH) (r : IV) (x : Int × List UInt8 × Int) : Prop := r = .tuple [.agg [.int .i64 x.1, .str x.2.1], .int .i64 x.2.2] ∧ Ext h h'

end Go.Proofs.YtaoffieemecioaaDoor



namespace Go.Proofs.YtaoffieemecioaaDoor
open Go Go.IW

theorem takeD_long {bs : List UInt8} {sh : Bool} {n : Nat} (h : ¬ bs.length < n) : takeD bs sh n = (bs.take n, bs.drop n, sh) := if_neg h
section
attribute [local go_sem] boxA_1 boxA_2 boxA_3 bslA_1 List.getElem?_cons_zero List.getElem?_cons_succ Option.bind_some List.map_cons List.map_nil Nat.zero_add if_true List.getD_cons_zero List.getD_cons_succ List.contains_cons List.contains_nil Bool.or_true Bool.true_or Bool.or_false Bool.false_or Bool.not_true Bool.not_false true_and and_true rowA_whole push_n set_n push_obj set_obj set_push set_push_ne set_set Nat.add_assoc Nat.left_eq_add Nat.add_eq_left Nat.add_left_cancel_iff stO_1s stO_ws boxA_s one_bool one_int one_str one_ptr one_nilptr one_slice one_eslice one_nilslice one_func one_iface one_niliface List.all_cons List.all_nil List.length_cons List.length_nil Bool.and_true Nat.one_ne_zero Nat.succ_ne_zero if_false List.set_cons_zero List.set_cons_succ
set_option maxRecDepth 20000 in
theorem code_c (h : IH) (p : Nat) (bs : List UInt8) (sh : Bool) (kind want : Int) (name : List UInt8) (hb : BitesAt h p bs sh) (hl : bs.length ≤ 1048576) (hnl : name.length ≤ 1048576) :
  ICalls Tryd.prog 72 [.ptr p 0 0, .int .i64 kind, .int .i64 want, .str name] h fun r h' => r = .int .i64 (if sh = true then 2 else if 0 < bs.length then 5 else if kind ≠ want then 9 else if okName name = true then 0 else 6) ∧ Ext h h' := by
 obtain ⟨v, ha, hs, _⟩ := hb.box
 refine icalls (.of ok72) (Nat.le_of_ble_eq_true rfl) ?_
 unfold c72
 have hlen := hs.lenF
 rw [strRows_len] at hlen
 cases sh
 ·by_cases c1 : 0 < bs.length
  ·have d1 : decide ((0 : Int) < (bs.length : Int)) = true := decide_eq_true (by omega)
   rw [if_neg (by decide), if_pos c1]
   simp only [ha.eq, hlen, d1, go_sem, ↓act_zero, Nat.reduceBEq, Nat.reduceAdd, reduceIte, Nat.reduceEqDiff, Nat.reduceLT, Nat.reduceLeDiff]
   exact Ext.refl _
  ·have d1 : decide ((0 : Int) < (bs.length : Int)) = false := decide_eq_false (by omega)
   rw [if_neg (by decide), if_neg c1]
   by_cases c2 : kind = want
   ·have d2 : decide (kind = want) = true := decide_eq_true c2
    rw [if_neg (by simpa using c2)]
    simp only [ha.eq, hlen, d1, d2, go_sem, ↓act_zero, Nat.reduceBEq, Nat.reduceAdd, reduceIte, Nat.reduceEqDiff, Nat.reduceLT, Nat.reduceLeDiff]
    refine callA_of (implNameOK_c h name hnl) ?_
    rintro r h1 ⟨rfl, E⟩
    cases c3 : okName name
    ·simp only [c3, go_sem, ↓act_zero, Nat.reduceBEq, Nat.reduceAdd, reduceIte, Nat.reduceEqDiff, Nat.reduceLT, Nat.reduceLeDiff]
     exact ⟨rfl, E⟩
    ·simp only [c3, go_sem, ↓act_zero, Nat.reduceBEq, Nat.reduceAdd, reduceIte, Nat.reduceEqDiff, Nat.reduceLT, Nat.reduceLeDiff]
     exact E
   ·have d2 : decide (kind = want) = false := decide_eq_false c2
    rw [if_pos c2]
    simp only [ha.eq, hlen, d1, d2, go_sem, ↓act_zero, Nat.reduceBEq, Nat.reduceAdd, reduceIte, Nat.reduceEqDiff, Nat.reduceLT, Nat.reduceLeDiff]
    exact Ext.refl _
 ·rw [if_pos rfl]
  simp only [ha.eq, go_sem, ↓act_zero, Nat.reduceBEq, Nat.reduceAdd, reduceIte, Nat.reduceEqDiff, Nat.reduceLT, Nat.reduceLeDiff]
  exact Ext.refl _
end
theorem numB_one (b : UInt8) : numB [b] = b.toNat := by simp [numB]
theorem drop_at {bs : List UInt8} {k : Nat} (h : k < bs.length) : bs.drop k = bs.getD k 0 :: bs.drop (k + 1) := by
 rw [List.drop_eq_getElem_cons h]
 congr 1
 rw [List.getD_eq_getElem?_getD, List.getElem?_eq_getElem h]; rfl
end Go.Proofs.YtaoffieemecioaaDoor



namespace Go.Proofs.YtaoffieemecioaaDoor
open Go Go.IW

theorem BitesAt.ext {h h' : IH} {p : Nat} {bs : List UInt8} {sh : Bool} (b : BitesAt h p bs sh) (e : Ext h h') : BitesAt h' p bs sh := by
 obtain ⟨v, ha, hs, hlow⟩ := b.box
 exact ⟨⟨v, ha.ext e, hs.ext e, hlow⟩⟩
theorem BitesAt.other {h : IH} {p q e sz : Nat} {bs : List UInt8} {sh ro : Bool} {rs : List (List IV)} {o : IObj} (b : BitesAt h p bs sh) (hq : p ≠ q) (ho : h.obj q = .rows rs e sz ro) (h1 : 1 ≠ sz) : BitesAt (h.set q o) p bs sh := by
 obtain ⟨v, ha, hs, hlow⟩ := b.box
 exact ⟨⟨v, ha.set hq, hs.but ((But.refl _ _ _).set _) ho h1, hlow⟩⟩
theorem BitesAt.turn {lo hi : Nat} {h h' : IH} {p el sz : Nat} {bs : List UInt8} {sh : Bool} {w : IV} {rs : List (List IV)} (b : BitesAt h p bs sh) (hw : Own lo hi h el sz w rs) (hd : p < lo) (t : Turn w h h') : BitesAt h' p bs sh := by
 obtain ⟨v, ha, hs, hlow⟩ := b.box
 exact ⟨⟨v, ha.turn hw (.inl hd) t, hs.turn (fun l i n hv => Nat.lt_trans (hlow l i n hv) hd) hw t, hlow⟩⟩
theorem BitesAt.lt {h : IH} {p : Nat} {bs : List UInt8} {sh : Bool} (b : BitesAt h p bs sh) : p < h.n := by
 obtain ⟨v, ha, hs, _⟩ := b.box; exact ha.lt
theorem BitesAt.mk' {h : IH} {p : Nat} {bs : List UInt8} {sh : Bool} {v : IV} (ha : At h p (.rows [[v, .bool sh]] 139 2 false)) (hs : SlR h 1 v (strRows bs)) (hlow : ∀ l i m, v = .slice l i m → l < p) : BitesAt h p bs sh := ⟨⟨v, ha, hs, hlow⟩⟩

theorem numB_one_le {bs : List UInt8} (h : bs.length ≤ 1) : (numB bs).toNat ≤ 255 ∧ numB bs = ((numB bs).toNat : Int) := by
 match bs, h with
 | [], _ => exact ⟨by decide, rfl⟩
 | [b], _ => have := b.toNat_lt; rw [numB_one]; exact ⟨by omega, by omega⟩

end Go.Proofs.YtaoffieemecioaaDoor



namespace Go.Proofs.YtaoffieemecioaaDoor
open Go Go.IW

end Go.Proofs.YtaoffieemecioaaDoor



namespace Go.Proofs.YtaoffieemecioaaDoor
open Go Go.IW

def intRows (zs : List Int) : List (List IV) := zs.map fun a => [.int .i64 a]
theorem intRows_len (a : List Int) : (intRows a).length = a.length := by simp [intRows]
theorem intRows_at {a : List Int} {k : Nat} {b : Int} (h : a[k]? = some b) : (intRows a)[k]? = some [.int .i64 b] := by simp [intRows, h]
theorem intRows_append (a b : List Int) : intRows (a ++ b) = intRows a ++ intRows b := by simp [intRows]
def okAddr (a : Int) : Bool := decide (0 ≤ a) && decide (a ≤ 4294967295)
def okRep (id code ttl : Int) (nm : List UInt8) (zs : List Int) : Bool :=
 (decide (0 ≤ id) && decide (id ≤ 65535)) && okName nm && (decide (0 ≤ code) && decide (code ≤ 255)) && (decide (0 ≤ ttl) && decide (ttl ≤ 86400)) && decide (zs.length ≤ 8) && zs.all okAddr

section
attribute [local go_sem] boxA_1 boxA_2 boxA_3 bslA_1 List.getElem?_cons_zero List.getElem?_cons_succ Option.bind_some List.map_cons List.map_nil Nat.zero_add if_true List.getD_cons_zero List.getD_cons_succ List.contains_cons List.contains_nil Bool.or_true Bool.true_or Bool.or_false Bool.false_or Bool.not_true Bool.not_false true_and and_true rowA_whole push_n set_n push_obj set_obj set_push set_push_ne set_set Nat.add_assoc Nat.left_eq_add Nat.add_eq_left Nat.add_left_cancel_iff stO_1s stO_ws boxA_s one_bool one_int one_str one_ptr one_nilptr one_slice one_eslice one_nilslice one_func one_iface one_niliface List.all_cons List.all_nil List.length_cons List.length_nil Bool.and_true Nat.one_ne_zero Nat.succ_ne_zero if_false List.set_cons_zero List.set_cons_succ
set_option maxRecDepth 20000 in
theorem l02AddrOK_c (h : IH) (n : Int) : ICalls Tryd.prog 44 [.int .i64 n] h fun r h' => r = .bool (okAddr n) ∧ h' = h := by
 refine icalls (.of ok44) (Nat.le_of_ble_eq_true rfl) ?_
 unfold c44
 simp only [go_sem, ↓act_zero, Nat.reduceBEq, Nat.reduceAdd, reduceIte, Nat.reduceEqDiff, Nat.reduceLT, Nat.reduceLeDiff]
 refine callA_of (l01In_c h n 0 4294967295) ?_
 rintro r h' ⟨rfl, rfl⟩
 simp only [okAddr, go_sem, ↓act_zero, Nat.reduceBEq, Nat.reduceAdd, reduceIte, Nat.reduceEqDiff, Nat.reduceLT, Nat.reduceLeDiff]

set_option maxRecDepth 20000 in
theorem isAddr_c (h : IH) (n : Int) : ICalls Tryd.prog 68 [.int .i64 n] h fun r h' => r = .bool (okAddr n) ∧ h' = h := by
 refine icalls (.of ok68) (Nat.le_of_ble_eq_true rfl) ?_
 unfold c68
 by_cases c1 : 0 ≤ n
 ·have d1 : decide (0 ≤ n) = true := decide_eq_true c1
  simp only [d1, okAddr, Bool.true_and, Bool.false_and, go_sem, ↓act_zero, Nat.reduceBEq, Nat.reduceAdd, reduceIte, Nat.reduceEqDiff, Nat.reduceLT, Nat.reduceLeDiff]
 ·have d1 : decide (0 ≤ n) = false := decide_eq_false c1
  simp only [d1, okAddr, Bool.true_and, Bool.false_and, go_sem, ↓act_zero, Nat.reduceBEq, Nat.reduceAdd, reduceIte, Nat.reduceEqDiff, Nat.reduceLT, Nat.reduceLeDiff]

set_option maxRecDepth 20000 in
theorem notAddr_c (h : IH) (n : Int) : ICalls Tryd.prog 85 [.int .i64 n] h fun r h' => r = .bool (!okAddr n) ∧ h' = h := by
 refine icalls (.of ok85) (Nat.le_of_ble_eq_true rfl) ?_
 unfold c85
 simp only [go_sem, ↓act_zero, Nat.reduceBEq, Nat.reduceAdd, reduceIte, Nat.reduceEqDiff, Nat.reduceLT, Nat.reduceLeDiff]
 refine callA_of (isAddr_c h n) ?_
 rintro r h' ⟨rfl, rfl⟩
 simp only [go_sem, ↓act_zero, Nat.reduceBEq, Nat.reduceAdd, reduceIte, Nat.reduceEqDiff, Nat.reduceLT, Nat.reduceLeDiff]

set_option maxRecDepth 20000 in
theorem indexBad_c (h : IH) (v : IV) (zs : List Int) (hs : SlR h 1 v (intRows zs)) (hm : zs.length ≤ 1048576) :
  ICalls Tryd.prog 67 [v, .func 85 [] []] h fun r h' => (∃ n : Int, r = .int .i64 n ∧ decide (0 ≤ n) = !zs.all okAddr) ∧ h' = h := by
 refine icalls (.of ok67) (Nat.le_of_ble_eq_true rfl) ?_
 unfold c67
 have hlen := hs.lenF
 rw [intRows_len] at hlen
 simp only [hlen, go_sem, ↓act_zero, Nat.reduceBEq, Nat.reduceAdd, reduceIte, Nat.reduceEqDiff, Nat.reduceLT, Nat.reduceLeDiff]
 refine loop_at (fun n e h' => ∃ k, n = zs.length - k ∧ k ≤ zs.length ∧ e 0 = v ∧ e 1 = .func 85 [] [] ∧ e 7 = .int .i64 (zs.length : Nat) ∧ e 8 = .int .i64 (k : Nat) ∧ (zs.take k).all okAddr = true ∧ h' = h) zs.length ?_ ?_
 ·refine ⟨0, by omega, by omega, ?_⟩
  simp only [go_sem, ↓act_zero, Nat.reduceBEq, Nat.reduceAdd, reduceIte, Nat.reduceEqDiff, Nat.reduceLT, Nat.reduceLeDiff]
  exact ⟨rfl, rfl⟩
 ·rintro n e h' ⟨k, rfl, hk, e0, e1, e7, e8, hok, rfl⟩
  simp only [e0, e1, e7, e8, go_sem, ↓act_zero, Nat.reduceBEq, Nat.reduceAdd, reduceIte, Nat.reduceEqDiff, Nat.reduceLT, Nat.reduceLeDiff]
  refine test_dec (fun hb => ?_) (fun hb => ?_)
  ·have hlt' : k < zs.length := by omega
   have hkp : zs[k]? = some zs[k] := List.getElem?_eq_getElem hlt'
   generalize zs[k] = p at hkp
   obtain ⟨l, j, hia, hll, hrow⟩ := hs.at (m := k) (intRows_at hkp) .i64
   have hc := cellO_row hrow
   simp only [e0, e1, e7, e8, hia, hc, na0, List.append_nil, go_sem, ↓act_zero, Nat.reduceBEq, Nat.reduceAdd, reduceIte, Nat.reduceEqDiff, Nat.reduceLT, Nat.reduceLeDiff]
   refine callA_of (notAddr_c _ p) ?_
   rintro r h2 ⟨rfl, rfl⟩
   cases hp : okAddr p
   ·simp only [hp, go_sem, ↓act_zero, Nat.reduceBEq, Nat.reduceAdd, reduceIte, Nat.reduceEqDiff, Nat.reduceLT, Nat.reduceLeDiff]
    refine ⟨_, rfl, ?_⟩
    rw [not_all hkp hp]
    exact decide_eq_true (by omega)
   ·simp only [e0, e1, e7, e8, hp, go_sem, ↓act_zero, Nat.reduceBEq, Nat.reduceAdd, reduceIte, Nat.reduceEqDiff, Nat.reduceLT, Nat.reduceLeDiff]
    refine ⟨_, ?_, k + 1, rfl, by omega, wr64_succ k (by omega), ?_⟩
    ·omega
    ·rw [take_all hkp hok]; exact hp
  ·obtain rfl : k = zs.length := by omega
   rw [List.take_length] at hok
   simp only [go_sem, ↓act_zero, Nat.reduceBEq, Nat.reduceAdd, reduceIte, Nat.reduceEqDiff, Nat.reduceLT, Nat.reduceLeDiff]
   exact ⟨-1, rfl, by rw [hok]; rfl⟩

set_option maxRecDepth 20000 in
theorem containsBad_c (h : IH) (v : IV) (zs : List Int) (hs : SlR h 1 v (intRows zs)) (hm : zs.length ≤ 1048576) :
  ICalls Tryd.prog 45 [v, .func 85 [] []] h fun r h' => r = .bool (!zs.all okAddr) ∧ h' = h := by
 refine icalls (.of ok45) (Nat.le_of_ble_eq_true rfl) ?_
 unfold c45
 simp only [go_sem, ↓act_zero, Nat.reduceBEq, Nat.reduceAdd, reduceIte, Nat.reduceEqDiff, Nat.reduceLT, Nat.reduceLeDiff]
 refine callA_of (indexBad_c h v zs hs hm) ?_
 rintro r h' ⟨⟨n, rfl, hn⟩, rfl⟩
 simp only [hn, go_sem, ↓act_zero, Nat.reduceBEq, Nat.reduceAdd, reduceIte, Nat.reduceEqDiff, Nat.reduceLT, Nat.reduceLeDiff]

set_option maxRecDepth 20000 in
theorem okReply_c (h : IH) (id code ttl : Int) (nm : List UInt8) (v : IV) (zs : List Int) (hs : SlR h 1 v (intRows zs)) (hm : zs.length ≤ 1048576) :
  ICalls Tryd.prog 73 [.agg [.int .i64 id, .int .i64 code, .int .i64 ttl, .str nm, v]] h fun r h' => (∃ b : Bool, r = .bool b ∧ (b && okName nm) = okRep id code ttl nm zs) ∧ Ext h h' := by
 refine icalls (.of ok73) (Nat.le_of_ble_eq_true rfl) ?_
 unfold c73
 have hv1 := hs.one
 have hvc := hs.cells
 simp only [hv1, go_sem, ↓act_zero, Nat.reduceBEq, Nat.reduceAdd, reduceIte, Nat.reduceEqDiff, Nat.reduceLT, Nat.reduceLeDiff]
 generalize hq_g0 : IH.push h (IObj.rows [[IV.int .i64 id, IV.int .i64 code, IV.int .i64 ttl, IV.str nm, v]] 55 5 false) = g0
 have e_g0 : Ext h g0 := by rw [← hq_g0]; exact (Ext.refl _).push _
 have l_g0 : g0.n = h.n + 1 := by rw [← hq_g0]; rfl
 have bb : At g0 h.n (IObj.rows [[IV.int .i64 id, IV.int .i64 code, IV.int .i64 ttl, IV.str nm, v]] 55 5 false) := by rw [← hq_g0]; exact At.new _ _
 clear hq_g0
 have hs := hs.ext e_g0
 have hlen := hs.lenF
 rw [intRows_len] at hlen
 have no : ∀ {b : Bool}, okRep id code ttl nm zs = false → (∃ b : Bool, IV.bool false = .bool b ∧ (b && okName nm) = okRep id code ttl nm zs) ∧ Ext h g0 := fun hx => ⟨⟨false, rfl, by rw [hx]; rfl⟩, e_g0⟩
 by_cases c1 : id < 0
 ·have d1 : decide (id < 0) = true := decide_eq_true c1
  have d1' : decide (0 ≤ id) = false := decide_eq_false (by omega)
  simp only [bb.eq, d1, go_sem, ↓act_zero, Nat.reduceBEq, Nat.reduceAdd, reduceIte, Nat.reduceEqDiff, Nat.reduceLT, Nat.reduceLeDiff]
  exact no (b := true) (by unfold okRep; simp only [d1', Bool.false_and, Bool.and_false])
 have d1 : decide (id < 0) = false := decide_eq_false c1
 have d1' : decide (0 ≤ id) = true := decide_eq_true (by omega)
 by_cases c2 : 65535 < id
 ·have d2 : decide (65535 < id) = true := decide_eq_true c2
  have d2' : decide (id ≤ 65535) = false := decide_eq_false (by omega)
  simp only [bb.eq, d1, d2, go_sem, ↓act_zero, Nat.reduceBEq, Nat.reduceAdd, reduceIte, Nat.reduceEqDiff, Nat.reduceLT, Nat.reduceLeDiff]
  exact no (b := true) (by unfold okRep; simp only [d2', Bool.false_and, Bool.and_false])
 have d2 : decide (65535 < id) = false := decide_eq_false c2
 have d2' : decide (id ≤ 65535) = true := decide_eq_true (by omega)
 by_cases c3 : code < 0
 ·have d3 : decide (code < 0) = true := decide_eq_true c3
  have d3' : decide (0 ≤ code) = false := decide_eq_false (by omega)
  simp only [bb.eq, d1, d2, d3, go_sem, ↓act_zero, Nat.reduceBEq, Nat.reduceAdd, reduceIte, Nat.reduceEqDiff, Nat.reduceLT, Nat.reduceLeDiff]
  exact no (b := true) (by unfold okRep; simp only [d3', Bool.false_and, Bool.and_false])
 have d3 : decide (code < 0) = false := decide_eq_false c3
 have d3' : decide (0 ≤ code) = true := decide_eq_true (by omega)
 by_cases c4 : 255 < code
 ·have d4 : decide (255 < code) = true := decide_eq_true c4
  have d4' : decide (code ≤ 255) = false := decide_eq_false (by omega)
  simp only [bb.eq, d1, d2, d3, d4, go_sem, ↓act_zero, Nat.reduceBEq, Nat.reduceAdd, reduceIte, Nat.reduceEqDiff, Nat.reduceLT, Nat.reduceLeDiff]
  exact no (b := true) (by unfold okRep; simp only [d4', Bool.false_and, Bool.and_false])
 have d4 : decide (255 < code) = false := decide_eq_false c4
 have d4' : decide (code ≤ 255) = true := decide_eq_true (by omega)
 by_cases c5 : ttl < 0
 ·have d5 : decide (ttl < 0) = true := decide_eq_true c5
  have d5' : decide (0 ≤ ttl) = false := decide_eq_false (by omega)
  simp only [bb.eq, d1, d2, d3, d4, d5, go_sem, ↓act_zero, Nat.reduceBEq, Nat.reduceAdd, reduceIte, Nat.reduceEqDiff, Nat.reduceLT, Nat.reduceLeDiff]
  exact no (b := true) (by unfold okRep; simp only [d5', Bool.false_and, Bool.and_false])
 have d5 : decide (ttl < 0) = false := decide_eq_false c5
 have d5' : decide (0 ≤ ttl) = true := decide_eq_true (by omega)
 by_cases c6 : 86400 < ttl
 ·have d6 : decide (86400 < ttl) = true := decide_eq_true c6
  have d6' : decide (ttl ≤ 86400) = false := decide_eq_false (by omega)
  simp only [bb.eq, d1, d2, d3, d4, d5, d6, go_sem, ↓act_zero, Nat.reduceBEq, Nat.reduceAdd, reduceIte, Nat.reduceEqDiff, Nat.reduceLT, Nat.reduceLeDiff]
  exact no (b := true) (by unfold okRep; simp only [d6', Bool.false_and, Bool.and_false])
 have d6 : decide (86400 < ttl) = false := decide_eq_false c6
 have d6' : decide (ttl ≤ 86400) = true := decide_eq_true (by omega)
 by_cases c7 : 8 < zs.length
 ·have d7 : decide ((8 : Int) < (zs.length : Int)) = true := decide_eq_true (by omega)
  have d7' : decide (zs.length ≤ 8) = false := decide_eq_false (by omega)
  simp only [bb.eq, d1, d2, d3, d4, d5, d6, hlen, d7, go_sem, ↓act_zero, Nat.reduceBEq, Nat.reduceAdd, reduceIte, Nat.reduceEqDiff, Nat.reduceLT, Nat.reduceLeDiff]
  exact no (b := true) (by unfold okRep; simp only [d7', Bool.false_and, Bool.and_false])
 have d7 : decide ((8 : Int) < (zs.length : Int)) = false := decide_eq_false (by omega)
 have d7' : decide (zs.length ≤ 8) = true := decide_eq_true (by omega)
 simp only [bb.eq, d1, d2, d3, d4, d5, d6, hlen, d7, go_sem, ↓act_zero, Nat.reduceBEq, Nat.reduceAdd, reduceIte, Nat.reduceEqDiff, Nat.reduceLT, Nat.reduceLeDiff]
 refine callA_of (containsBad_c _ v zs hs hm) ?_
 rintro r h' ⟨rfl, rfl⟩
 simp only [Bool.not_not, go_sem, ↓act_zero, Nat.reduceBEq, Nat.reduceAdd, reduceIte, Nat.reduceEqDiff, Nat.reduceLT, Nat.reduceLeDiff]
 refine ⟨⟨_, rfl, ?_⟩, e_g0⟩
 unfold okRep
 simp only [d1', d2', d3', d4', d5', d6', d7', Bool.true_and, Bool.and_true]
 exact Bool.and_comm _ _
end
end Go.Proofs.YtaoffieemecioaaDoor



namespace Go.Proofs.YtaoffieemecioaaDoor
open Go Go.IW

section
attribute [local go_sem] boxA_1 boxA_2 boxA_3 bslA_1 List.getElem?_cons_zero List.getElem?_cons_succ Option.bind_some List.map_cons List.map_nil Nat.zero_add if_true List.getD_cons_zero List.getD_cons_succ List.contains_cons List.contains_nil Bool.or_true Bool.true_or Bool.or_false Bool.false_or Bool.not_true Bool.not_false true_and and_true rowA_whole push_n set_n push_obj set_obj set_push set_push_ne set_set Nat.add_assoc Nat.left_eq_add Nat.add_eq_left Nat.add_left_cancel_iff stO_1s stO_ws boxA_s one_bool one_int one_str one_ptr one_nilptr one_slice one_eslice one_nilslice one_func one_iface one_niliface List.all_cons List.all_nil List.length_cons List.length_nil Bool.and_true Nat.one_ne_zero Nat.succ_ne_zero if_false List.set_cons_zero List.set_cons_succ
set_option maxRecDepth 20000 in
theorem l19ReplyOK_c (h : IH) (id code ttl : Int) (nm : List UInt8) (v : IV) (zs : List Int) (hs : SlR h 1 v (intRows zs)) (hm : nm.length ≤ 1048576) (hz : zs.length ≤ 1048576) :
  ICalls Tryd.prog 32 [.agg [.int .i64 id, .int .i64 code, .int .i64 ttl, .str nm, v]] h fun r h' => r = .bool (okRep id code ttl nm zs) ∧ Ext h h' := by
 refine icalls (.of ok32) (Nat.le_of_ble_eq_true rfl) ?_
 unfold c32
 have hv1 := hs.one
 have hvc := hs.cells
 have hlen := hs.lenF
 rw [intRows_len] at hlen
 unfold okRep
 simp only [hv1, go_sem, ↓act_zero, Nat.reduceBEq, Nat.reduceAdd, reduceIte, Nat.reduceEqDiff, Nat.reduceLT, Nat.reduceLeDiff]
 generalize hq_g0 : IH.push h (IObj.rows [[IV.int .i64 id, IV.int .i64 code, IV.int .i64 ttl, IV.str nm, v]] 55 5 false) = g0
 have e_g0 : Ext h g0 := by rw [← hq_g0]; exact (Ext.refl _).push _
 have l_g0 : g0.n = h.n + 1 := by rw [← hq_g0]; rfl
 have bb : At g0 h.n (IObj.rows [[IV.int .i64 id, IV.int .i64 code, IV.int .i64 ttl, IV.str nm, v]] 55 5 false) := by rw [← hq_g0]; exact At.new _ _
 clear hq_g0
 have hs := hs.ext e_g0
 refine callA_of (l10PortOK_c _ id) ?_
 rintro r g0' ⟨rfl, rfl⟩
 cases q1 : (decide (0 ≤ id) && decide (id ≤ 65535))
 ·simp only [q1, Bool.true_and, Bool.false_and, go_sem, ↓act_zero, Nat.reduceBEq, Nat.reduceAdd, reduceIte, Nat.reduceEqDiff, Nat.reduceLT, Nat.reduceLeDiff]
  exact e_g0
 simp only [q1, bb.eq, go_sem, ↓act_zero, Nat.reduceBEq, Nat.reduceAdd, reduceIte, Nat.reduceEqDiff, Nat.reduceLT, Nat.reduceLeDiff]
 refine callA_of (specNameOK_c _ nm hm) ?_
 rintro r h1 ⟨rfl, E1⟩
 have E := e_g0.trans E1
 have bb := bb.ext E1
 have hs := hs.ext E1
 have le_E1 := E1.le
 cases q2 : okName nm
 ·simp only [q2, Bool.true_and, Bool.false_and, go_sem, ↓act_zero, Nat.reduceBEq, Nat.reduceAdd, reduceIte, Nat.reduceEqDiff, Nat.reduceLT, Nat.reduceLeDiff]
  exact E
 simp only [q2, bb.eq, go_sem, ↓act_zero, Nat.reduceBEq, Nat.reduceAdd, reduceIte, Nat.reduceEqDiff, Nat.reduceLT, Nat.reduceLeDiff]
 refine callA_of (l01In_c _ code 0 255) ?_
 rintro r h1' ⟨rfl, rfl⟩
 cases q3 : (decide (0 ≤ code) && decide (code ≤ 255))
 ·simp only [q3, Bool.true_and, Bool.false_and, go_sem, ↓act_zero, Nat.reduceBEq, Nat.reduceAdd, reduceIte, Nat.reduceEqDiff, Nat.reduceLT, Nat.reduceLeDiff]
  exact E
 simp only [q3, bb.eq, go_sem, ↓act_zero, Nat.reduceBEq, Nat.reduceAdd, reduceIte, Nat.reduceEqDiff, Nat.reduceLT, Nat.reduceLeDiff]
 refine callA_of (l01In_c _ ttl 0 86400) ?_
 rintro r h1'' ⟨rfl, rfl⟩
 cases q4 : (decide (0 ≤ ttl) && decide (ttl ≤ 86400))
 ·simp only [q4, Bool.true_and, Bool.false_and, go_sem, ↓act_zero, Nat.reduceBEq, Nat.reduceAdd, reduceIte, Nat.reduceEqDiff, Nat.reduceLT, Nat.reduceLeDiff]
  exact E
 have hlen := hs.lenF
 rw [intRows_len] at hlen
 by_cases c7 : 8 < zs.length
 ·have d7 : decide ((8 : Int) < (zs.length : Int)) = true := decide_eq_true (by omega)
  have d7' : decide (zs.length ≤ 8) = false := decide_eq_false (by omega)
  simp only [q4, bb.eq, hlen, d7, d7', Bool.true_and, Bool.false_and, go_sem, ↓act_zero, Nat.reduceBEq, Nat.reduceAdd, reduceIte, Nat.reduceEqDiff, Nat.reduceLT, Nat.reduceLeDiff]
  exact E
 have d7 : decide ((8 : Int) < (zs.length : Int)) = false := decide_eq_false (by omega)
 have d7' : decide (zs.length ≤ 8) = true := decide_eq_true (by omega)
 clear E1
 simp only [q4, bb.eq, hlen, d7, d7', Bool.true_and, go_sem, ↓act_zero, Nat.reduceBEq, Nat.reduceAdd, reduceIte, Nat.reduceEqDiff, Nat.reduceLT, Nat.reduceLeDiff]
 refine loop_at (fun n e h' => ∃ k, n = zs.length - k ∧ k ≤ zs.length ∧ e 1 = .ptr h.n 0 0 ∧ e 3 = .int .i64 (k : Nat) ∧ (zs.take k).all okAddr = true ∧ h' = h1'') zs.length ?_ ?_
 ·refine ⟨0, by omega, by omega, ?_⟩
  simp only [go_sem, ↓act_zero, Nat.reduceBEq, Nat.reduceAdd, reduceIte, Nat.reduceEqDiff, Nat.reduceLT, Nat.reduceLeDiff]
  exact ⟨rfl, rfl⟩
 ·rintro n e h' ⟨k, rfl, hk, e1, e3, hok, rfl⟩
  simp only [e1, e3, bb.eq, hlen, go_sem, ↓act_zero, Nat.reduceBEq, Nat.reduceAdd, reduceIte, Nat.reduceEqDiff, Nat.reduceLT, Nat.reduceLeDiff]
  refine test_dec (fun hb => ?_) (fun hb => ?_)
  ·have hlt' : k < zs.length := by omega
   have hkp : zs[k]? = some zs[k] := List.getElem?_eq_getElem hlt'
   generalize zs[k] = p at hkp
   obtain ⟨l, j, hia, hll, hrow⟩ := hs.at (m := k) (intRows_at hkp) .i64
   have hc := cellO_row hrow
   simp only [e1, e3, bb.eq, hia, hc, go_sem, ↓act_zero, Nat.reduceBEq, Nat.reduceAdd, reduceIte, Nat.reduceEqDiff, Nat.reduceLT, Nat.reduceLeDiff]
   refine callA_of (l02AddrOK_c _ p) ?_
   rintro r h2 ⟨rfl, rfl⟩
   cases hp : okAddr p
   ·simp only [hp, go_sem, ↓act_zero, Nat.reduceBEq, Nat.reduceAdd, reduceIte, Nat.reduceEqDiff, Nat.reduceLT, Nat.reduceLeDiff]
    rw [not_all hkp hp, Bool.and_false]
    exact ⟨rfl, E⟩
   ·simp only [e1, e3, hp, go_sem, ↓act_zero, Nat.reduceBEq, Nat.reduceAdd, reduceIte, Nat.reduceEqDiff, Nat.reduceLT, Nat.reduceLeDiff]
    refine ⟨_, ?_, k + 1, rfl, by omega, wr64_succ k (by omega), ?_⟩
    ·omega
    ·rw [take_all hkp hok]; exact hp
  ·obtain rfl : k = zs.length := by omega
   rw [List.take_length] at hok
   simp only [hok, d7', Bool.true_and, go_sem, ↓act_zero, Nat.reduceBEq, Nat.reduceAdd, reduceIte, Nat.reduceEqDiff, Nat.reduceLT, Nat.reduceLeDiff]
   exact E
end
end Go.Proofs.YtaoffieemecioaaDoor



namespace Go.Proofs.YtaoffieemecioaaDoor
open Go Go.IW

def repHead (id code ttl : Int) (nm : List UInt8) (zs : List Int) : List UInt8 :=
 (((beB 2 id ++ [1, UInt8.ofNat (code % 256).toNat]) ++ beB 4 ttl ++ [UInt8.ofNat nm.length]) ++ nm) ++ [UInt8.ofNat zs.length]
def encR (id code ttl : Int) (nm : List UInt8) (zs : List Int) : List UInt8 × Int :=
 if okRep id code ttl nm zs = true then (repHead id code ttl nm zs ++ zs.flatMap (beB 4), 0) else ([], 1)
theorem okRep_ok {id code ttl : Int} {nm : List UInt8} {zs : List Int} (h : okRep id code ttl nm zs = true) : (0 ≤ id ∧ id ≤ 65535) ∧ okName nm = true ∧ (0 ≤ code ∧ code ≤ 255) ∧ (0 ≤ ttl ∧ ttl ≤ 86400) ∧ zs.length ≤ 8 ∧ zs.all okAddr = true := by
 unfold okRep at h
 simp only [Bool.and_eq_true, decide_eq_true_eq] at h
 exact ⟨h.1.1.1.1.1, h.1.1.1.1.2, h.1.1.1.2, h.1.1.2, h.1.2, h.2⟩
theorem flat_len (zs : List Int) : (zs.flatMap (beB 4)).length = 4 * zs.length := by
 induction zs with
 | nil => rfl
 | cons a r ih => rw [List.flatMap_cons, la0, ih, beB_len, lc0]; omega
theorem flat_snoc {zs : List Int} {k : Nat} {p : Int} (h : zs[k]? = some p) : (zs.take (k + 1)).flatMap (beB 4) = (zs.take k).flatMap (beB 4) ++ beB 4 p := by
 rw [List.take_add_one, h]; simp
def Bet (hB : IH) (p : Nat) (bs : List UInt8) (e : Env) (g : IH) : Prop := ∃ x, e 1 = .ptr p 0 0 ∧ e 4 = x ∧ Own hB.n g.n g 5 1 x (strRows bs) ∧ Ext hB g

end Go.Proofs.YtaoffieemecioaaDoor



namespace Go.Proofs.YtaoffieemecioaaDoor
open Go Go.IW

end Go.Proofs.YtaoffieemecioaaDoor



namespace Go.Proofs.YtaoffieemecioaaDoor
open Go Go.IW

end Go.Proofs.YtaoffieemecioaaDoor



namespace Go.Proofs.YtaoffieemecioaaDoor
open Go Go.IW

theorem encR_len {id code ttl : Int} {nm : List UInt8} {zs : List Int} : (encR id code ttl nm zs).1.length ≤ 1000 := by
 unfold encR
 split
 ·rename_i h
  obtain ⟨_, hn, _, _, hz, _⟩ := okRep_ok h
  have := (okName_ne hn).2
  rw [la0, flat_len]
  simp [repHead, beB_len]; omega
 ·simp

end Go.Proofs.YtaoffieemecioaaDoor



namespace Go.Proofs.YtaoffieemecioaaDoor
open Go Go.IW

def wordsAt (bs : List UInt8) (s k : Nat) : List Int := (List.range k).map fun j => numB ((bs.take (s + 4 * j + 4)).drop (s + 4 * j))
theorem wordsAt_succ (bs : List UInt8) (s k : Nat) : wordsAt bs s (k + 1) = wordsAt bs s k ++ [numB ((bs.take (s + 4 * k + 4)).drop (s + 4 * k))] := by
 unfold wordsAt; rw [List.range_succ, List.map_append]; rfl
theorem wordsAt_len (bs : List UInt8) (s k : Nat) : (wordsAt bs s k).length = k := by unfold wordsAt; simp
structure RepV where
 id : Int
 code : Int
 ttl : Int
 nm : List UInt8
 zs : List Int
def RepV.zero : RepV := ⟨0, 0, 0, [], []⟩
def repM (bs : List UInt8) : Nat := (bs.getD 8 0).toNat
def repC (bs : List UInt8) : Nat := (bs.getD (9 + repM bs) 0).toNat
def repAt (bs : List UInt8) : RepV := ⟨numB (bs.take 2), ((bs.getD 3 0).toNat : Int), numB ((bs.take 8).drop 4), (bs.take (9 + repM bs)).drop 9, wordsAt bs (10 + repM bs) (repC bs)⟩
def RepV.ok (x : RepV) : Bool := okRep x.id x.code x.ttl x.nm x.zs
def decR (bs : List UInt8) : RepV × Int :=
 if bs.length < 10 + repM bs ∨ bs.length < 10 + repM bs + 4 * repC bs then (.zero, 2)
 else if 10 + repM bs + 4 * repC bs < bs.length then (.zero, 5)
 else if bs.getD 2 0 ≠ 1 then (.zero, 9)
 else if okName (repAt bs).nm = false then (.zero, 6)
 else if (repAt bs).ok = true then (repAt bs, 0) else (.zero, 1)
def ReplyRes (h h' : IH) (r : IV) (x : RepV × Int) : Prop := ∃ v, r = .tuple [.agg [.int .i64 x.1.id, .int .i64 x.1.code, .int .i64 x.1.ttl, .str x.1.nm, v], .int .i64 x.2] ∧ Own h.n h'.n h' 2 1 v (intRows x.1.zs) ∧ Ext h h'
theorem byte_ne {a b : UInt8} (h : a ≠ b) : (a.toNat : Int) ≠ (b.toNat : Int) := fun e => h (UInt8.toNat_inj.1 (by omega))

end Go.Proofs.YtaoffieemecioaaDoor



namespace Go.Proofs.YtaoffieemecioaaDoor
open Go Go.IW

def restD (bs : List UInt8) (n : Nat) : List UInt8 × Bool := if bs.length < n then ([], true) else (bs.drop n, false)
def pieceD (bs : List UInt8) (n k : Nat) : List UInt8 := if bs.length < n + k then List.replicate (min k 8) 0 else (bs.drop n).take k
theorem takeD_rest (bs : List UInt8) (n k : Nat) : takeD (restD bs n).1 (restD bs n).2 k = (pieceD bs n k, (restD bs (n + k)).1, (restD bs (n + k)).2) := by
 unfold restD
 by_cases h : bs.length < n
 ·rw [if_pos h]
  have h2 : bs.length < n + k := by omega
  unfold pieceD
  rw [if_pos h2, if_pos h2]
  cases k with
  | zero => rfl
  | succ k => exact if_pos (Nat.zero_lt_succ k)
 ·rw [if_neg h]
  by_cases h2 : bs.length < n + k
  ·unfold pieceD
   rw [if_pos h2, if_pos h2]
   exact if_pos (by rw [List.length_drop]; omega)
  ·unfold pieceD
   rw [if_neg h2, if_neg h2]
   refine (takeD_long (by rw [List.length_drop]; omega)).trans ?_
   rw [List.drop_drop]
theorem restD_len (bs : List UInt8) (n : Nat) : (restD bs n).1.length ≤ bs.length := by unfold restD; split <;> simp
theorem pieceD_le (bs : List UInt8) (n k : Nat) : (pieceD bs n k).length ≤ k := by unfold pieceD; split <;> simp <;> omega
theorem pieceD_long {bs : List UInt8} {n k : Nat} (h : n + k ≤ bs.length) : pieceD bs n k = (bs.take (n + k)).drop n := by
 unfold pieceD
 rw [if_neg (by omega), List.drop_take]
 congr 1; omega
theorem pieceD_one {bs : List UInt8} {n : Nat} (h : n < bs.length) : pieceD bs n 1 = [bs.getD n 0] := by
 unfold pieceD
 rw [if_neg (by omega), drop_at h]; rfl
def AtB (h : IH) (p : Nat) (bs : List UInt8) (n : Nat) : Prop := BitesAt h p (restD bs n).1 (restD bs n).2
theorem AtB.ext {h h' : IH} {p n : Nat} {bs : List UInt8} (b : AtB h p bs n) (e : Ext h h') : AtB h' p bs n := BitesAt.ext b e
theorem AtB.other {h : IH} {p q e sz n : Nat} {bs : List UInt8} {ro : Bool} {rs : List (List IV)} {o : IObj} (b : AtB h p bs n) (hq : p ≠ q) (ho : h.obj q = .rows rs e sz ro) (h1 : 1 ≠ sz) : AtB (h.set q o) p bs n := BitesAt.other b hq ho h1
theorem AtB.turn {lo hi : Nat} {h h' : IH} {p n el sz : Nat} {bs : List UInt8} {w : IV} {rs : List (List IV)} (b : AtB h p bs n) (hw : Own lo hi h el sz w rs) (hd : p < lo) (t : Turn w h h') : AtB h' p bs n := BitesAt.turn b hw hd t
theorem AtB.zero {h : IH} {p : Nat} {bs : List UInt8} (b : BitesAt h p bs false) : AtB h p bs 0 := by
 have : restD bs 0 = (bs, false) := by unfold restD; rw [if_neg (by omega)]; rfl
 unfold AtB
 rw [this]; exact b

set_option maxRecDepth 20000 in
theorem numAt_c (h : IH) (p n k : Nat) (bs : List UInt8) (hb : AtB h p bs n) (hk : k ≤ 7) (hl : bs.length ≤ 1048576) :
  ICalls Tryd.prog 70 [.ptr p 0 0, .int .i64 k] h fun r h' => r = .int .i64 (numB (pieceD bs n k)) ∧ AtB h' p bs (n + k) ∧ But p .nilslice h h' := by
 refine (num_c h p k _ _ hb hk (Nat.le_trans (restD_len bs n) hl)).mono ?_
 rintro r h' ⟨rfl, b, U⟩
 rw [takeD_rest] at b ⊢
 exact ⟨rfl, b, U⟩
set_option maxRecDepth 20000 in
theorem takeAt_c (h : IH) (p n k : Nat) (bs : List UInt8) (hb : AtB h p bs n) (hk : k ≤ 255) (hl : bs.length ≤ 1048576) :
  ICalls Tryd.prog 71 [.ptr p 0 0, .int .i64 k] h fun r h' => SlR h' 1 r (strRows (pieceD bs n k)) ∧ AtB h' p bs (n + k) ∧ But p .nilslice h h' := by
 refine (take_c h p k _ _ hb hk (Nat.le_trans (restD_len bs n) hl)).mono ?_
 rintro r h' ⟨s, b, U⟩
 rw [takeD_rest] at s b
 exact ⟨s, b, U⟩
def codeAt (bs : List UInt8) (n : Nat) (kind want : Int) (nm : List UInt8) : Int := if bs.length < n then 2 else if n < bs.length then 5 else if kind ≠ want then 9 else if okName nm = true then 0 else 6
set_option maxRecDepth 20000 in
theorem codeAt_c (h : IH) (p n : Nat) (bs : List UInt8) (kind want : Int) (nm : List UInt8) (hb : AtB h p bs n) (hl : bs.length ≤ 1048576) (hnl : nm.length ≤ 1048576) :
  ICalls Tryd.prog 72 [.ptr p 0 0, .int .i64 kind, .int .i64 want, .str nm] h fun r h' => r = .int .i64 (codeAt bs n kind want nm) ∧ Ext h h' := by
 refine (code_c h p _ _ kind want nm hb (Nat.le_trans (restD_len bs n) hl) hnl).mono ?_
 rintro r h' ⟨rfl, E⟩
 refine ⟨?_, E⟩
 congr 1
 unfold codeAt restD
 by_cases h1 : bs.length < n
 ·rw [if_pos h1, if_pos h1]; rfl
 ·rw [if_neg h1, if_neg h1]
  simp only [Bool.false_eq_true, if_false, List.length_drop]
  by_cases h2 : n < bs.length
  ·rw [if_pos h2, if_pos (by omega)]
  ·rw [if_neg h2, if_neg (by omega)]
theorem ownBut {lo hi : Nat} {h h' : IH} {el sz p : Nat} {v : IV} {rs : List (List IV)} (o : Own lo hi h el sz v rs) (t : But p .nilslice h h') (hp : p < lo ∨ hi ≤ p) : Own lo hi h' el sz v rs := by
 rcases o with h0 | ⟨l, h0, rfl, h1, h2, h3, h4⟩
 ·exact .inl h0
 ·exact .inr ⟨l, h0, rfl, h1, h2, Nat.le_trans h3 t.le, (t.obj l (by omega) (by omega) (nil_at l)).trans h4⟩
theorem codeAt_zero {bs : List UInt8} {n : Nat} {kind want : Int} {nm : List UInt8} (h : codeAt bs n kind want nm = 0) : okName nm = true := by
 unfold codeAt at h
 split at h
 ·omega
 ·split at h
  ·omega
  ·split at h
   ·omega
   ·split at h
    ·assumption
    ·omega
end Go.Proofs.YtaoffieemecioaaDoor



namespace Go.Proofs.YtaoffieemecioaaDoor
open Go Go.IW

def parM (bs : List UInt8) : Nat := (numB (pieceD bs 8 1)).toNat
def parC (bs : List UInt8) : Nat := (numB (pieceD bs (9 + parM bs) 1)).toNat
def parZ (bs : List UInt8) (k : Nat) : List Int := (List.range k).map fun j => numB (pieceD bs (10 + parM bs + 4 * j) 4)
theorem parZ_succ (bs : List UInt8) (k : Nat) : parZ bs (k + 1) = parZ bs k ++ [numB (pieceD bs (10 + parM bs + 4 * k) 4)] := by
 unfold parZ; rw [List.range_succ, List.map_append]; rfl
theorem parZ_len (bs : List UInt8) (k : Nat) : (parZ bs k).length = k := by unfold parZ; simp
def parAt (bs : List UInt8) (k : Nat) : RepV := ⟨numB (pieceD bs 0 2), numB (pieceD bs 3 1), numB (pieceD bs 4 4), pieceD bs 9 (parM bs), parZ bs k⟩
def parErr (bs : List UInt8) (k : Nat) : Int :=
 if codeAt bs (10 + parM bs + 4 * k) (numB (pieceD bs 2 1)) 1 (parAt bs k).nm = 0 then (if (parAt bs k).ok = true then 0 else 1) else codeAt bs (10 + parM bs + 4 * k) (numB (pieceD bs 2 1)) 1 (parAt bs k).nm

theorem parM_eq {bs : List UInt8} (h : 9 ≤ bs.length) : parM bs = repM bs := by
 unfold parM repM
 rw [pieceD_one (by omega), numB_one]; rfl
theorem parC_eq {bs : List UInt8} (h : 10 + parM bs ≤ bs.length) : parC bs = repC bs := by
 have hm := parM_eq (bs := bs) (by omega)
 unfold parC repC
 rw [pieceD_one (by omega), numB_one, hm]; rfl
theorem par_dec {bs : List UInt8} {k : Nat} (hk : k ≤ parC bs) (hend : k = parC bs ∨ bs.length < 10 + parM bs + 4 * k) :
  decR bs = if parErr bs k = 0 then (parAt bs k, 0) else (.zero, parErr bs k) := by
 by_cases c0 : bs.length < 10 + parM bs
 ·have hc : codeAt bs (10 + parM bs + 4 * k) (numB (pieceD bs 2 1)) 1 (parAt bs k).nm = 2 := if_pos (by omega)
  have he : parErr bs k = 2 := by unfold parErr; rw [hc]; rfl
  rw [he, if_neg (by decide)]
  refine if_pos ?_
  by_cases h9 : 9 ≤ bs.length
  ·rw [parM_eq h9] at c0; exact .inl c0
  ·left; omega
 ·have hm := parM_eq (bs := bs) (by omega)
  have hc := parC_eq (bs := bs) (by omega)
  rw [hm] at c0 hend
  rw [hc] at hk hend
  by_cases c1 : bs.length < 10 + repM bs + 4 * repC bs
  ·have hlt : bs.length < 10 + repM bs + 4 * k := by omega
   have hcd : codeAt bs (10 + parM bs + 4 * k) (numB (pieceD bs 2 1)) 1 (parAt bs k).nm = 2 := if_pos (by rw [hm]; exact hlt)
   have he : parErr bs k = 2 := by unfold parErr; rw [hcd]; rfl
   rw [he, if_neg (by decide)]
   exact if_pos (.inr c1)
  ·obtain rfl : k = repC bs := by omega
   have hnm : (parAt bs (repC bs)).nm = (repAt bs).nm := by
    show pieceD bs 9 (parM bs) = _
    rw [hm, pieceD_long (by omega)]; rfl
   have hall : parAt bs (repC bs) = repAt bs := by
    have e1 : numB (pieceD bs 0 2) = numB (bs.take 2) := by rw [pieceD_long (by omega)]; rfl
    have e2 : numB (pieceD bs 3 1) = ((bs.getD 3 0).toNat : Int) := by rw [pieceD_one (by omega), numB_one]
    have e3 : numB (pieceD bs 4 4) = numB ((bs.take 8).drop 4) := by rw [pieceD_long (by omega)]
    have e4 : parZ bs (repC bs) = wordsAt bs (10 + repM bs) (repC bs) := by
     unfold parZ wordsAt
     refine List.map_congr_left fun j hj => ?_
     have := List.mem_range.1 hj
     rw [hm, pieceD_long (by omega)]
    unfold parAt repAt
    rw [e1, e2, e3, e4]
    congr 1
   have hk2 : numB (pieceD bs 2 1) = ((bs.getD 2 0).toNat : Int) := by rw [pieceD_one (by omega), numB_one]
   have hdef : decR bs = if 10 + repM bs + 4 * repC bs < bs.length then (.zero, 5) else if bs.getD 2 0 ≠ 1 then (.zero, 9) else if okName (repAt bs).nm = false then (.zero, 6) else if (repAt bs).ok = true then (repAt bs, 0) else (.zero, 1) := if_neg (by omega)
   rw [hdef]
   unfold parErr
   rw [hall, hk2, hm]
   have hcd : codeAt bs (10 + repM bs + 4 * repC bs) ((bs.getD 2 0).toNat : Int) 1 (repAt bs).nm = if 10 + repM bs + 4 * repC bs < bs.length then 5 else if ((bs.getD 2 0).toNat : Int) ≠ 1 then 9 else if okName (repAt bs).nm = true then 0 else 6 := if_neg (by omega)
   rw [hcd]
   by_cases c2 : 10 + repM bs + 4 * repC bs < bs.length
   ·rw [if_pos c2, if_pos c2]; rfl
   ·rw [if_neg c2, if_neg c2]
    by_cases c3 : bs.getD 2 0 ≠ 1
    ·have c3n : ((bs.getD 2 0).toNat : Int) ≠ 1 := byte_ne (b := 1) c3
     rw [if_pos c3, if_pos c3n]; rfl
    ·have c3' : ((bs.getD 2 0).toNat : Int) = 1 := by rw [show bs.getD 2 0 = 1 by simpa using c3]; rfl
     have c3n : ¬ ((bs.getD 2 0).toNat : Int) ≠ 1 := fun hx => hx c3'
     rw [if_neg c3, if_neg c3n]
     cases okName (repAt bs).nm
     ·rfl
     ·cases (repAt bs).ok <;> rfl

section
attribute [local go_sem] boxA_1 boxA_2 boxA_3 bslA_1 List.getElem?_cons_zero List.getElem?_cons_succ Option.bind_some List.map_cons List.map_nil Nat.zero_add if_true List.getD_cons_zero List.getD_cons_succ List.contains_cons List.contains_nil Bool.or_true Bool.true_or Bool.or_false Bool.false_or Bool.not_true Bool.not_false true_and and_true rowA_whole push_n set_n push_obj set_obj set_push set_push_ne set_set Nat.add_assoc Nat.left_eq_add Nat.add_eq_left Nat.add_left_cancel_iff stO_1s stO_ws boxA_s one_bool one_int one_str one_ptr one_nilptr one_slice one_eslice one_nilslice one_func one_iface one_niliface List.all_cons List.all_nil List.length_cons List.length_nil Bool.and_true Nat.one_ne_zero Nat.succ_ne_zero if_false List.set_cons_zero List.set_cons_succ
set_option maxRecDepth 20000 in
theorem implDecodeReply_c (h : IH) (v : IV) (bs : List UInt8) (hs : SlR h 1 v (strRows bs)) (hl : bs.length ≤ 1048576) : ICalls Tryd.prog 50 [v] h fun r h' => ReplyRes h h' r (decR bs) := by
 refine icalls (.of ok50) (Nat.le_of_ble_eq_true rfl) ?_
 unfold c50
 have hvo := hs.one
 have hvc := hs.cells
 have hsl := hs.lt
 simp only [hvo, hvc, lay_nil, lay_1, lay_w, Option.map_some, go_sem, ↓act_zero, Nat.reduceBEq, Nat.reduceAdd, reduceIte, Nat.reduceEqDiff, Nat.reduceLT, Nat.reduceLeDiff]
 generalize hq_g0 : IH.push h (IObj.rows [[IV.int .i64 0, IV.int .i64 0, IV.int .i64 0, IV.str [], IV.nilslice]] 55 5 false) = g0
 have e_g0 : Ext h g0 := by rw [← hq_g0]; exact (Ext.refl _).push _
 have l_g0 : g0.n = h.n + 1 := by rw [← hq_g0]; rfl
 have bb : At g0 h.n (IObj.rows [[IV.int .i64 0, IV.int .i64 0, IV.int .i64 0, IV.str [], IV.nilslice]] 55 5 false) := by rw [← hq_g0]; exact At.new _ _
 clear hq_g0
 have hs := hs.ext e_g0
 generalize hq_g1 : IH.push g0 (IObj.rows [[v, IV.bool false]] 139 2 false) = g1
 have e_g1 : Ext g0 g1 := by rw [← hq_g1]; exact (Ext.refl _).push _
 have l_g1 : g1.n = g0.n + 1 := by rw [← hq_g1]; rfl
 have ba : At g1 g0.n (IObj.rows [[v, IV.bool false]] 139 2 false) := by rw [← hq_g1]; exact At.new _ _
 clear hq_g1
 have hs := hs.ext e_g1
 have bb := bb.ext e_g1
 have B := AtB.zero (BitesAt.mk' ba hs (fun l i m e => by have := hsl l i m e; omega))
 rw [l_g0] at B
 have E := e_g0.trans e_g1
 refine callA_of (numAt_c g1 _ 0 2 bs B (by omega) hl) ?_
 rintro r h1 ⟨rfl, B1, U1⟩
 replace bb := U1.at0 bb (by omega)
 replace E := U1.ext0 E (by omega)
 have u1 := U1.le
 simp only [bb.eq, lay_nil, lay_1, lay_w, Option.map_some, go_sem, ↓act_zero, Nat.reduceBEq, Nat.reduceAdd, reduceIte, Nat.reduceEqDiff, Nat.reduceLT, Nat.reduceLeDiff]
 generalize hq_g2 : IH.push h1 (IObj.rows [[IV.int .i64 (numB (pieceD bs 0 2)), IV.int .i64 0, IV.int .i64 0, IV.str [], IV.nilslice]] 55 5 false) = g2
 have e_g2 : Ext h1 g2 := by rw [← hq_g2]; exact (Ext.refl _).push _
 have l_g2 : g2.n = h1.n + 1 := by rw [← hq_g2]; rfl
 have bq : At g2 h1.n (IObj.rows [[IV.int .i64 (numB (pieceD bs 0 2)), IV.int .i64 0, IV.int .i64 0, IV.str [], IV.nilslice]] 55 5 false) := by rw [← hq_g2]; exact At.new _ _
 clear hq_g2
 have bb := bb.ext e_g2
 have B1 := B1.ext e_g2
 have E := E.ext e_g2
 generalize hp2 : h1.n = p2 at bq l_g2
 refine callA_of (numAt_c g2 _ 2 1 bs B1 (by omega) hl) ?_
 rintro r h2 ⟨rfl, B2, U⟩
 replace bb := U.at0 bb (by omega)
 replace bq := U.at0 bq (by omega)
 replace E := U.ext0 E (by omega)
 have u_h2 := U.le
 clear U
 simp only [bb.eq, bq.eq, lay_nil, lay_1, lay_w, Option.map_some, go_sem, ↓act_zero, Nat.reduceBEq, Nat.reduceAdd, reduceIte, Nat.reduceEqDiff, Nat.reduceLT, Nat.reduceLeDiff]
 refine callA_of (numAt_c h2 _ 3 1 bs B2 (by omega) hl) ?_
 rintro r h3 ⟨rfl, B3, U⟩
 replace bb := U.at0 bb (by omega)
 replace bq := U.at0 bq (by omega)
 replace E := U.ext0 E (by omega)
 have u_h3 := U.le
 clear U
 simp only [bb.eq, bq.eq, lay_nil, lay_1, lay_w, Option.map_some, go_sem, ↓act_zero, Nat.reduceBEq, Nat.reduceAdd, reduceIte, Nat.reduceEqDiff, Nat.reduceLT, Nat.reduceLeDiff]
 refine callA_of (numAt_c h3 _ 4 4 bs B3 (by omega) hl) ?_
 rintro r h4 ⟨rfl, B4, U⟩
 replace bb := U.at0 bb (by omega)
 replace bq := U.at0 bq (by omega)
 replace E := U.ext0 E (by omega)
 have u_h4 := U.le
 clear U
 have B5 := B4.other (q := p2) (o := IObj.rows [[IV.int .i64 (numB (pieceD bs 0 2)), IV.int .i64 (numB (pieceD bs 3 1)), IV.int .i64 (numB (pieceD bs 4 4)), IV.str [], .nilslice]] 55 5 false) (by omega) bq.eq (by decide)
 simp only [bb.eq, bq.eq, lay_nil, lay_1, lay_w, Option.map_some, go_sem, ↓act_zero, Nat.reduceBEq, Nat.reduceAdd, reduceIte, Nat.reduceEqDiff, Nat.reduceLT, Nat.reduceLeDiff]
 generalize hq_g5 : IH.set h4 (p2) (IObj.rows [[IV.int .i64 (numB (pieceD bs 0 2)), IV.int .i64 (numB (pieceD bs 3 1)), IV.int .i64 (numB (pieceD bs 4 4)), IV.str [], .nilslice]] 55 5 false) = g5
 have l_g5 : g5.n = h4.n := by rw [← hq_g5]; rfl
 have bq : At g5 (p2) (IObj.rows [[IV.int .i64 (numB (pieceD bs 0 2)), IV.int .i64 (numB (pieceD bs 3 1)), IV.int .i64 (numB (pieceD bs 4 4)), IV.str [], .nilslice]] 55 5 false) := by rw [← hq_g5]; exact bq.here
 have bb := bb.set (p := p2) (o' := IObj.rows [[IV.int .i64 (numB (pieceD bs 0 2)), IV.int .i64 (numB (pieceD bs 3 1)), IV.int .i64 (numB (pieceD bs 4 4)), IV.str [], .nilslice]] 55 5 false) (by omega)
 rw [hq_g5] at bb
 have E := E.set (p2) (by omega) (IObj.rows [[IV.int .i64 (numB (pieceD bs 0 2)), IV.int .i64 (numB (pieceD bs 3 1)), IV.int .i64 (numB (pieceD bs 4 4)), IV.str [], .nilslice]] 55 5 false)
 rw [hq_g5] at E
 rw [hq_g5] at B5
 clear hq_g5
 refine callA_of (numAt_c g5 _ 8 1 bs B5 (by omega) hl) ?_
 rintro r h6 ⟨rfl, B6, U⟩
 replace bb := U.at0 bb (by omega)
 replace bq := U.at0 bq (by omega)
 replace E := U.ext0 E (by omega)
 have u_h6 := U.le
 clear U
 obtain ⟨q1, q2⟩ := numB_one_le (pieceD_le bs 8 1)
 have hpm : numB (pieceD bs 8 1) = (parM bs : Int) := q2
 have hpl : parM bs ≤ 255 := q1
 rw [hpm]
 simp only [bb.eq, bq.eq, lay_nil, lay_1, lay_w, Option.map_some, go_sem, ↓act_zero, Nat.reduceBEq, Nat.reduceAdd, reduceIte, Nat.reduceEqDiff, Nat.reduceLT, Nat.reduceLeDiff]
 refine callA_of (takeAt_c h6 _ 9 (parM bs) bs B6 hpl hl) ?_
 rintro r h7 ⟨hs7, B7, U⟩
 replace bb := U.at0 bb (by omega)
 replace bq := U.at0 bq (by omega)
 replace E := U.ext0 E (by omega)
 have u_h7 := U.le
 clear U
 have hb2 := hs7.b2s
 have k7 := pieceD_le bs 9 (parM bs)
 have B8 := B7.other (q := p2) (o := IObj.rows [[IV.int .i64 (numB (pieceD bs 0 2)), IV.int .i64 (numB (pieceD bs 3 1)), IV.int .i64 (numB (pieceD bs 4 4)), IV.str (pieceD bs 9 (parM bs)), .nilslice]] 55 5 false) (by omega) bq.eq (by decide)
 simp only [bb.eq, bq.eq, hb2, lay_nil, lay_1, lay_w, Option.map_some, go_sem, ↓act_zero, Nat.reduceBEq, Nat.reduceAdd, reduceIte, Nat.reduceEqDiff, Nat.reduceLT, Nat.reduceLeDiff]
 generalize hq_g8 : IH.set h7 (p2) (IObj.rows [[IV.int .i64 (numB (pieceD bs 0 2)), IV.int .i64 (numB (pieceD bs 3 1)), IV.int .i64 (numB (pieceD bs 4 4)), IV.str (pieceD bs 9 (parM bs)), .nilslice]] 55 5 false) = g8
 have l_g8 : g8.n = h7.n := by rw [← hq_g8]; rfl
 have bq : At g8 (p2) (IObj.rows [[IV.int .i64 (numB (pieceD bs 0 2)), IV.int .i64 (numB (pieceD bs 3 1)), IV.int .i64 (numB (pieceD bs 4 4)), IV.str (pieceD bs 9 (parM bs)), .nilslice]] 55 5 false) := by rw [← hq_g8]; exact bq.here
 have bb := bb.set (p := p2) (o' := IObj.rows [[IV.int .i64 (numB (pieceD bs 0 2)), IV.int .i64 (numB (pieceD bs 3 1)), IV.int .i64 (numB (pieceD bs 4 4)), IV.str (pieceD bs 9 (parM bs)), .nilslice]] 55 5 false) (by omega)
 rw [hq_g8] at bb
 have E := E.set (p2) (by omega) (IObj.rows [[IV.int .i64 (numB (pieceD bs 0 2)), IV.int .i64 (numB (pieceD bs 3 1)), IV.int .i64 (numB (pieceD bs 4 4)), IV.str (pieceD bs 9 (parM bs)), .nilslice]] 55 5 false)
 rw [hq_g8] at E
 rw [hq_g8] at B8
 clear hq_g8
 refine callA_of (numAt_c g8 _ (9 + parM bs) 1 bs B8 (by omega) hl) ?_
 rintro r h9 ⟨rfl, B9, U⟩
 replace bb := U.at0 bb (by omega)
 replace bq := U.at0 bq (by omega)
 replace E := U.ext0 E (by omega)
 have u_h9 := U.le
 clear U
 obtain ⟨q3, q4⟩ := numB_one_le (pieceD_le bs (9 + parM bs) 1)
 have hpc : numB (pieceD bs (9 + parM bs) 1) = (parC bs : Int) := q4
 have hpcl : parC bs ≤ 255 := q3
 rw [hpc]
 have B10 : AtB h9 (h.n + 1) bs (10 + parM bs + 4 * 0) := by
  have : 9 + parM bs + 1 = 10 + parM bs + 4 * 0 := by omega
  rw [← this]; exact B9
 simp only [bb.eq, bq.eq, lay_nil, lay_1, lay_w, Option.map_some, go_sem, ↓act_zero, Nat.reduceBEq, Nat.reduceAdd, reduceIte, Nat.reduceEqDiff, Nat.reduceLT, Nat.reduceLeDiff]
 refine loop_at (fun n e g' => ∃ (k : Nat) (vz : IV) (lo hi : Nat), n = parC bs - k ∧ k ≤ parC bs ∧ e 2 = .ptr h.n 0 0 ∧ e 4 = .ptr (h.n + 1) 0 0 ∧ e 5 = .ptr p2 0 0 ∧ e 6 = .int .i64 (numB (pieceD bs 2 1)) ∧ e 7 = .int .i64 ((parC bs - k : Nat) : Int) ∧ At g' h.n (IObj.rows [[IV.int .i64 0, IV.int .i64 0, IV.int .i64 0, IV.str [], IV.nilslice]] 55 5 false) ∧ At g' p2 (IObj.rows [[IV.int .i64 (numB (pieceD bs 0 2)), IV.int .i64 (numB (pieceD bs 3 1)), IV.int .i64 (numB (pieceD bs 4 4)), IV.str (pieceD bs 9 (parM bs)), vz]] 55 5 false) ∧ AtB g' (h.n + 1) bs (10 + parM bs + 4 * k) ∧ Own lo hi g' 2 1 vz (intRows (parZ bs k)) ∧ p2 < lo ∧ hi ≤ g'.n ∧ Ext h g') (parC bs) ?_ ?_
 ·refine ⟨0, .nilslice, p2 + 1, p2 + 1, by omega, by omega, ?_⟩
  simp only [lay_nil, lay_1, lay_w, Option.map_some, go_sem, ↓act_zero, Nat.reduceBEq, Nat.reduceAdd, reduceIte, Nat.reduceEqDiff, Nat.reduceLT, Nat.reduceLeDiff]
  exact ⟨rfl, bb, bq, B10, Own.nil, Nat.lt_succ_self _, by omega, E⟩
 ·have hp2 : h.n + 1 < p2 := by omega
  clear bb bq B B1 B2 B3 B4 B5 B6 B7 B8 B9 B10 E
  rintro n e g' ⟨k, vz, lo, hi, rfl, hk, i2, i4, i5, i6, i7, bb, bq, B, oz, hlo, hhi, E⟩
  obtain ⟨nn, hnn⟩ : ∃ nn, nn = 10 + parM bs + 4 * k := ⟨_, rfl⟩
  rw [← hnn] at B
  obtain ⟨vB, bB, sB, _⟩ := BitesAt.box B
  simp only [i2, i4, i5, i6, i7, bb.eq, bq.eq, bB.eq, lay_nil, lay_1, lay_w, Option.map_some, go_sem, ↓act_zero, Nat.reduceBEq, Nat.reduceAdd, reduceIte, Nat.reduceEqDiff, Nat.reduceLT, Nat.reduceLeDiff]
  have lq := bq.lt
  by_cases c1 : k < parC bs
  ·have d1 : decide ((0 : Int) < ((parC bs - k : Nat) : Int)) = true := decide_eq_true (by omega)
   cases c2 : (restD bs nn).2
   ·simp only [i2, i4, i5, i6, i7, bb.eq, bq.eq, bB.eq, d1, c2, lay_nil, lay_1, lay_w, Option.map_some, go_sem, ↓act_zero, Nat.reduceBEq, Nat.reduceAdd, reduceIte, Nat.reduceEqDiff, Nat.reduceLT, Nat.reduceLeDiff]
    refine callA_of (numAt_c g' _ nn 4 bs B (by omega) hl) ?_
    rintro r h2 ⟨rfl, B2, U⟩
    replace bb := U.at0 bb (by omega)
    replace bq := U.at0 bq (by omega)
    replace E := U.ext0 E (by omega)
    replace oz := ownBut oz U (.inl (by omega))
    have u2 := U.le
    clear U B bB sB
    have nq : (p2 = h2.n) = False := by simp; omega
    simp only [i2, i4, i5, i6, i7, bb.eq, bq.eq, nq, bslA_1, lay_nil, lay_1, lay_w, Option.map_some, go_sem, ↓act_zero, Nat.reduceBEq, Nat.reduceAdd, reduceIte, Nat.reduceEqDiff, Nat.reduceLT, Nat.reduceLeDiff]
    generalize hq_g3 : IH.push h2 (IObj.rows [[IV.int .i64 (numB (pieceD bs nn 4))]] 2 1 false) = g3
    have e_g3 : Ext h2 g3 := by rw [← hq_g3]; exact (Ext.refl _).push _
    have l_g3 : g3.n = h2.n + 1 := by rw [← hq_g3]; rfl
    have bw : At g3 h2.n (IObj.rows [[IV.int .i64 (numB (pieceD bs nn 4))]] 2 1 false) := by rw [← hq_g3]; exact At.new _ _
    clear hq_g3
    have bb := bb.ext e_g3
    have bq := bq.ext e_g3
    have oz := oz.ext e_g3
    have E := E.ext e_g3
    have B2 := B2.ext e_g3
    refine oz.app (by simp) (by rw [intRows_len, parZ_len]; simp; omega) ?_
    intro v6 h6 o6 t6 n6 v6o v6c
    have B3 := B2.turn oz (by omega) t6
    have bb := bb.turn oz (by omega) t6
    have bq := bq.turn oz (by omega) t6
    have E := E.turn oz (by omega) t6
    have le_t6 := t6.le
    have o7 : Own g3.n (g3.n + 1) h6 2 1 v6 (intRows (parZ bs (k + 1))) := by
     rw [parZ_succ, intRows_append, ← hnn]; exact o6
    have w7 : wr .i64 (((parC bs - k : Nat) : Int) - 1) = ((parC bs - (k + 1) : Nat) : Int) := by rw [wr64 _ (by omega)]; omega
    have B4 := B3.other (q := p2) (o := IObj.rows [[IV.int .i64 (numB (pieceD bs 0 2)), IV.int .i64 (numB (pieceD bs 3 1)), IV.int .i64 (numB (pieceD bs 4 4)), IV.str (pieceD bs 9 (parM bs)), v6]] 55 5 false) (by omega) bq.eq (by decide)
    simp only [i2, i4, i5, i6, i7, bq.eq, v6o, v6c, w7, lay_nil, lay_1, lay_w, Option.map_some, go_sem, ↓act_zero, Nat.reduceBEq, Nat.reduceAdd, reduceIte, Nat.reduceEqDiff, Nat.reduceLT, Nat.reduceLeDiff]
    generalize hq_g9 : IH.set h6 (p2) (IObj.rows [[IV.int .i64 (numB (pieceD bs 0 2)), IV.int .i64 (numB (pieceD bs 3 1)), IV.int .i64 (numB (pieceD bs 4 4)), IV.str (pieceD bs 9 (parM bs)), v6]] 55 5 false) = g9
    have l_g9 : g9.n = h6.n := by rw [← hq_g9]; rfl
    have bq : At g9 (p2) (IObj.rows [[IV.int .i64 (numB (pieceD bs 0 2)), IV.int .i64 (numB (pieceD bs 3 1)), IV.int .i64 (numB (pieceD bs 4 4)), IV.str (pieceD bs 9 (parM bs)), v6]] 55 5 false) := by rw [← hq_g9]; exact bq.here
    have o7 := o7.set (m := p2) (by omega) (IObj.rows [[IV.int .i64 (numB (pieceD bs 0 2)), IV.int .i64 (numB (pieceD bs 3 1)), IV.int .i64 (numB (pieceD bs 4 4)), IV.str (pieceD bs 9 (parM bs)), v6]] 55 5 false)
    rw [hq_g9] at o7
    have bb := bb.set (p := p2) (o' := IObj.rows [[IV.int .i64 (numB (pieceD bs 0 2)), IV.int .i64 (numB (pieceD bs 3 1)), IV.int .i64 (numB (pieceD bs 4 4)), IV.str (pieceD bs 9 (parM bs)), v6]] 55 5 false) (by omega)
    rw [hq_g9] at bb
    have E := E.set (p2) (by omega) (IObj.rows [[IV.int .i64 (numB (pieceD bs 0 2)), IV.int .i64 (numB (pieceD bs 3 1)), IV.int .i64 (numB (pieceD bs 4 4)), IV.str (pieceD bs 9 (parM bs)), v6]] 55 5 false)
    rw [hq_g9] at E
    rw [hq_g9] at B4
    clear hq_g9
    refine ⟨_, ?_, k + 1, v6, g3.n, g3.n + 1, rfl, by omega, rfl, bb, bq, ?_, o7, by omega, by omega, E⟩
    ·omega
    ·have : nn + 4 = 10 + (parM bs + 4 * (k + 1)) := by omega
     rw [← this]; exact B4
   ·have hsh : bs.length < nn := by
     unfold restD at c2
     split at c2
     ·assumption
     ·cases c2
    have hdec := par_dec hk (by omega)
    simp only [i2, i4, i5, i6, i7, bb.eq, bq.eq, bB.eq, d1, c2, Bool.and_false, lay_nil, lay_1, lay_w, Option.map_some, go_sem, ↓act_zero, Nat.reduceBEq, Nat.reduceAdd, reduceIte, Nat.reduceEqDiff, Nat.reduceLT, Nat.reduceLeDiff]
    refine callA_of (codeAt_c g' _ nn bs (numB (pieceD bs 2 1)) 1 (pieceD bs 9 (parM bs)) B hl (by omega)) ?_
    rintro r h7 ⟨rfl, E7⟩
    have bb := bb.ext E7
    have bq := bq.ext E7
    have oz := oz.ext E7
    have E := E.ext E7
    have le_E7 := E7.le
    have hz := codeAt_zero (bs := bs) (n := nn) (kind := numB (pieceD bs 2 1)) (want := 1) (nm := pieceD bs 9 (parM bs))
    have he : parErr bs k = if codeAt bs nn (numB (pieceD bs 2 1)) 1 (pieceD bs 9 (parM bs)) = 0 then (if (parAt bs k).ok = true then 0 else 1) else codeAt bs nn (numB (pieceD bs 2 1)) 1 (pieceD bs 9 (parM bs)) := by unfold parErr; rw [← hnn]; rfl
    generalize codeAt bs nn (numB (pieceD bs 2 1)) 1 (pieceD bs 9 (parM bs)) = cd at he hz ⊢
    by_cases c0 : cd = 0
    ·have d0 : decide (cd = 0) = true := decide_eq_true c0
     rw [if_pos c0] at he
     simp only [i2, i5, bb.eq, bq.eq, d0, lay_nil, lay_1, lay_w, Option.map_some, go_sem, ↓act_zero, Nat.reduceBEq, Nat.reduceAdd, reduceIte, Nat.reduceEqDiff, Nat.reduceLT, Nat.reduceLeDiff]
     refine callA_of (okReply_c _ (parAt bs k).id (parAt bs k).code (parAt bs k).ttl (parAt bs k).nm vz (parAt bs k).zs oz.sl (by show (parZ bs k).length ≤ _; rw [parZ_len]; omega)) ?_
     rintro r h8 ⟨⟨b, rfl, hb⟩, E8⟩
     have bb := bb.ext E8
     have bq := bq.ext E8
     have oz := oz.ext E8
     have E := E.ext E8
     have le_E8 := E8.le
     have hb2 : b = (parAt bs k).ok := by
      have h1 : okName (parAt bs k).nm = true := hz c0
      rw [h1, Bool.and_true] at hb; exact hb
     rw [← hb2] at he
     cases b
     ·have he1 : parErr bs k = 1 := he
      rw [he1] at hdec
      have hdec1 : decR bs = (.zero, 1) := hdec
      have d9 : decide ((1 : Int) = 0) = false := by decide
      simp only [i2, i5, bb.eq, bq.eq, d0, d9, lay_nil, lay_1, lay_w, Option.map_some, go_sem, ↓act_zero, Nat.reduceBEq, Nat.reduceAdd, reduceIte, Nat.reduceEqDiff, Nat.reduceLT, Nat.reduceLeDiff]
      rw [hdec1]
      exact ⟨_, rfl, Own.nil, E.set _ (Nat.le_refl _) _⟩
     ·have he1 : parErr bs k = 0 := he
      rw [he1] at hdec
      have hdec1 : decR bs = (parAt bs k, 0) := hdec
      have vo := oz.sl.one
      have vc := oz.sl.cells
      simp only [i2, i5, bb.eq, bq.eq, d0, vo, vc, lay_nil, lay_1, lay_w, Option.map_some, go_sem, ↓act_zero, Nat.reduceBEq, Nat.reduceAdd, reduceIte, Nat.reduceEqDiff, Nat.reduceLT, Nat.reduceLeDiff]
      rw [hdec1]
      exact ⟨vz, rfl, (Own.set oz (m := h.n) (by omega) _).wide (by omega) (by rw [set_n]; omega) (Nat.le_refl _), E.set _ (Nat.le_refl _) _⟩
    ·have d0 : decide (cd = 0) = false := decide_eq_false c0
     rw [if_neg c0] at he
     rw [he, if_neg c0] at hdec
     simp only [i2, i5, bb.eq, bq.eq, d0, lay_nil, lay_1, lay_w, Option.map_some, go_sem, ↓act_zero, Nat.reduceBEq, Nat.reduceAdd, reduceIte, Nat.reduceEqDiff, Nat.reduceLT, Nat.reduceLeDiff]
     rw [hdec]
     exact ⟨_, rfl, Own.nil, E.set _ (Nat.le_refl _) _⟩
  ·have d1 : decide ((0 : Int) < ((parC bs - k : Nat) : Int)) = false := decide_eq_false (by omega)
   have hdec := par_dec hk (by omega)
   simp only [i2, i4, i5, i6, i7, bb.eq, bq.eq, bB.eq, d1, Bool.false_and, lay_nil, lay_1, lay_w, Option.map_some, go_sem, ↓act_zero, Nat.reduceBEq, Nat.reduceAdd, reduceIte, Nat.reduceEqDiff, Nat.reduceLT, Nat.reduceLeDiff]
   refine callA_of (codeAt_c g' _ nn bs (numB (pieceD bs 2 1)) 1 (pieceD bs 9 (parM bs)) B hl (by omega)) ?_
   rintro r h7 ⟨rfl, E7⟩
   have bb := bb.ext E7
   have bq := bq.ext E7
   have oz := oz.ext E7
   have E := E.ext E7
   have le_E7 := E7.le
   have hz := codeAt_zero (bs := bs) (n := nn) (kind := numB (pieceD bs 2 1)) (want := 1) (nm := pieceD bs 9 (parM bs))
   have he : parErr bs k = if codeAt bs nn (numB (pieceD bs 2 1)) 1 (pieceD bs 9 (parM bs)) = 0 then (if (parAt bs k).ok = true then 0 else 1) else codeAt bs nn (numB (pieceD bs 2 1)) 1 (pieceD bs 9 (parM bs)) := by unfold parErr; rw [← hnn]; rfl
   generalize codeAt bs nn (numB (pieceD bs 2 1)) 1 (pieceD bs 9 (parM bs)) = cd at he hz ⊢
   by_cases c0 : cd = 0
   ·have d0 : decide (cd = 0) = true := decide_eq_true c0
    rw [if_pos c0] at he
    simp only [i2, i5, bb.eq, bq.eq, d0, lay_nil, lay_1, lay_w, Option.map_some, go_sem, ↓act_zero, Nat.reduceBEq, Nat.reduceAdd, reduceIte, Nat.reduceEqDiff, Nat.reduceLT, Nat.reduceLeDiff]
    refine callA_of (okReply_c _ (parAt bs k).id (parAt bs k).code (parAt bs k).ttl (parAt bs k).nm vz (parAt bs k).zs oz.sl (by show (parZ bs k).length ≤ _; rw [parZ_len]; omega)) ?_
    rintro r h8 ⟨⟨b, rfl, hb⟩, E8⟩
    have bb := bb.ext E8
    have bq := bq.ext E8
    have oz := oz.ext E8
    have E := E.ext E8
    have le_E8 := E8.le
    have hb2 : b = (parAt bs k).ok := by
     have h1 : okName (parAt bs k).nm = true := hz c0
     rw [h1, Bool.and_true] at hb; exact hb
    rw [← hb2] at he
    cases b
    ·have he1 : parErr bs k = 1 := he
     rw [he1] at hdec
     have hdec1 : decR bs = (.zero, 1) := hdec
     have d9 : decide ((1 : Int) = 0) = false := by decide
     simp only [i2, i5, bb.eq, bq.eq, d0, d9, lay_nil, lay_1, lay_w, Option.map_some, go_sem, ↓act_zero, Nat.reduceBEq, Nat.reduceAdd, reduceIte, Nat.reduceEqDiff, Nat.reduceLT, Nat.reduceLeDiff]
     rw [hdec1]
     exact ⟨_, rfl, Own.nil, E.set _ (Nat.le_refl _) _⟩
    ·have he1 : parErr bs k = 0 := he
     rw [he1] at hdec
     have hdec1 : decR bs = (parAt bs k, 0) := hdec
     have vo := oz.sl.one
     have vc := oz.sl.cells
     simp only [i2, i5, bb.eq, bq.eq, d0, vo, vc, lay_nil, lay_1, lay_w, Option.map_some, go_sem, ↓act_zero, Nat.reduceBEq, Nat.reduceAdd, reduceIte, Nat.reduceEqDiff, Nat.reduceLT, Nat.reduceLeDiff]
     rw [hdec1]
     exact ⟨vz, rfl, (Own.set oz (m := h.n) (by omega) _).wide (by omega) (by rw [set_n]; omega) (Nat.le_refl _), E.set _ (Nat.le_refl _) _⟩
   ·have d0 : decide (cd = 0) = false := decide_eq_false c0
    rw [if_neg c0] at he
    rw [he, if_neg c0] at hdec
    simp only [i2, i5, bb.eq, bq.eq, d0, lay_nil, lay_1, lay_w, Option.map_some, go_sem, ↓act_zero, Nat.reduceBEq, Nat.reduceAdd, reduceIte, Nat.reduceEqDiff, Nat.reduceLT, Nat.reduceLeDiff]
    rw [hdec]
    exact ⟨_, rfl, Own.nil, E.set _ (Nat.le_refl _) _⟩
end
end Go.Proofs.YtaoffieemecioaaDoor



set_option maxRecDepth 20000
namespace Go.Proofs.YtaoffieemecioaaDoor
open Go Go.IW
section
attribute [local go_sem] List.getElem?_cons_zero List.getElem?_cons_succ Option.bind_some List.map_cons List.map_nil Nat.zero_add if_true List.getD_cons_zero List.getD_cons_succ List.contains_cons List.contains_nil Bool.or_true Bool.true_or Bool.or_false Bool.false_or Bool.not_true Bool.not_false true_and and_true rowA_whole mid_get rowO_rows cellO_rows upd_ne Nat.add_assoc Nat.add_zero List.all_cons List.all_nil one_bool one_int one_str one_ptr one_nilptr one_slice one_eslice one_nilslice one_func one_iface one_niliface Bool.and_true Bool.and_self List.length_cons List.length_nil Nat.one_ne_zero Nat.succ_ne_zero if_false List.set_cons_zero List.set_cons_succ lay_nil lay_1 lay_w Option.map_some cells_one rowA_some List.drop_succ_cons List.drop_zero List.take_succ_cons List.take_zero

theorem _root_.Go.IW.Sp.appAll {h : IH} {L : List As} {el sz b : Nat} {v : IV} {rs ys : List (List IV)} {K : HoldK} (hs : Sp h (sl false el sz v rs :: L)) (hb : (rs.length + ys.length) * b ≤ 140737488355328)
  (hk : ∀ v' h', Sp h' (sl false el sz v' (rs ++ ys) :: L) → v'.one = true → K.k v' h') : @appA h el sz b v (some ys) K := by
 cases ys with
 | nil =>
  have a := hs.slA 0 rfl
  exact appA_none a.len (hk _ _ (by rw [List.append_nil]; exact hs) a.one)
 | cons y ys => exact hs.app (by simp) hb fun v' h' S h1 _ => hk v' h' S h1
theorem cloneI_c {h : IH} {L : List As} (S : Sp h L) (v : IV) (rs : List (List IV)) (hs : SlR h 1 v rs) (hm : rs.length ≤ 1048576) :
  ICalls Tryd.prog 48 [v] h fun r h' => r.one = true ∧ Sp h' (sl false 2 1 r rs :: L) := by
 refine icalls (.of ok48) (Nat.le_of_ble_eq_true rfl) ?_
 unfold c48
 have hsrc := hs.src
 have b1 : (true != false) = true := rfl
 have b2 : (false != false) = false := rfl
 have S1 := S.slEmpty (x := false) (el := 2) (sz := 1)
 cases v with
 | nilslice =>
  try simp (disch := (first | exact dA | fail)) only [b1, go_sem, Nat.reduceBEq, Nat.reduceAdd, reduceIte]
  obtain rfl : rs = [] := by simpa [srcRows] using hsrc.symm
  exact S.slNil
 | eslice z =>
  obtain rfl : rs = [] := by simpa [srcRows] using hsrc.symm
  try simp (disch := (first | exact dA | fail)) only [hsrc, b2, go_sem, Nat.reduceBEq, Nat.reduceAdd, reduceIte]
  refine S1.appAll (by simp) ?_
  intro v2 g2 S2 z2
  try simp (disch := (first | exact dA | fail)) only [z2, go_sem, Nat.reduceBEq, Nat.reduceAdd, reduceIte]
  exact S2
 | slice l i n =>
  try simp (disch := (first | exact dA | fail)) only [hsrc, b2, go_sem, Nat.reduceBEq, Nat.reduceAdd, reduceIte]
  refine S1.appAll (by simp only [ln0]; omega) ?_
  intro v2 g2 S2 z2
  try simp (disch := (first | exact dA | fail)) only [z2, go_sem, Nat.reduceBEq, Nat.reduceAdd, reduceIte]
  exact S2
 | _ => exact absurd hs.len (by simp [ilen])
theorem cloneP_c {h : IH} {L : List As} (S : Sp h L) (v : IV) (rs : List (List IV)) (hs : SlR h 1 v rs) (hm : rs.length ≤ 1048576) :
  ICalls Tryd.prog 75 [v] h fun r h' => r.one = true ∧ Sp h' (sl false 85 1 r rs :: L) := by
 refine icalls (.of ok75) (Nat.le_of_ble_eq_true rfl) ?_
 unfold c75
 have hsrc := hs.src
 have b1 : (true != false) = true := rfl
 have b2 : (false != false) = false := rfl
 have S1 := S.slEmpty (x := false) (el := 85) (sz := 1)
 cases v with
 | nilslice =>
  try simp (disch := (first | exact dA | fail)) only [b1, go_sem, Nat.reduceBEq, Nat.reduceAdd, reduceIte]
  obtain rfl : rs = [] := by simpa [srcRows] using hsrc.symm
  exact S.slNil
 | eslice z =>
  obtain rfl : rs = [] := by simpa [srcRows] using hsrc.symm
  try simp (disch := (first | exact dA | fail)) only [hsrc, b2, go_sem, Nat.reduceBEq, Nat.reduceAdd, reduceIte]
  refine S1.appAll (by simp) ?_
  intro v2 g2 S2 z2
  try simp (disch := (first | exact dA | fail)) only [z2, go_sem, Nat.reduceBEq, Nat.reduceAdd, reduceIte]
  exact S2
 | slice l i n =>
  try simp (disch := (first | exact dA | fail)) only [hsrc, b2, go_sem, Nat.reduceBEq, Nat.reduceAdd, reduceIte]
  refine S1.appAll (by simp only [ln0]; omega) ?_
  intro v2 g2 S2 z2
  try simp (disch := (first | exact dA | fail)) only [z2, go_sem, Nat.reduceBEq, Nat.reduceAdd, reduceIte]
  exact S2
 | _ => exact absurd hs.len (by simp [ilen])
theorem cloneK_c {h : IH} {L : List As} (S : Sp h L) (v : IV) (rs : List (List IV)) (hs : SlR h 4 v rs) (hm : rs.length ≤ 1048576) :
  ICalls Tryd.prog 53 [v] h fun r h' => r.one = true ∧ Sp h' (sl false 111 4 r rs :: L) := by
 refine icalls (.of ok53) (Nat.le_of_ble_eq_true rfl) ?_
 unfold c53
 have hsrc := hs.src
 have b1 : (true != false) = true := rfl
 have b2 : (false != false) = false := rfl
 have S1 := S.slEmpty (x := false) (el := 111) (sz := 4)
 cases v with
 | nilslice =>
  try simp (disch := (first | exact dA | fail)) only [b1, go_sem, Nat.reduceBEq, Nat.reduceAdd, reduceIte]
  obtain rfl : rs = [] := by simpa [srcRows] using hsrc.symm
  exact S.slNil
 | eslice z =>
  obtain rfl : rs = [] := by simpa [srcRows] using hsrc.symm
  try simp (disch := (first | exact dA | fail)) only [hsrc, b2, go_sem, Nat.reduceBEq, Nat.reduceAdd, reduceIte]
  refine S1.appAll (by simp) ?_
  intro v2 g2 S2 z2
  try simp (disch := (first | exact dA | fail)) only [z2, go_sem, Nat.reduceBEq, Nat.reduceAdd, reduceIte]
  exact S2
 | slice l i n =>
  try simp (disch := (first | exact dA | fail)) only [hsrc, b2, go_sem, Nat.reduceBEq, Nat.reduceAdd, reduceIte]
  refine S1.appAll (by simp only [ln0]; omega) ?_
  intro v2 g2 S2 z2
  try simp (disch := (first | exact dA | fail)) only [z2, go_sem, Nat.reduceBEq, Nat.reduceAdd, reduceIte]
  exact S2
 | _ => exact absurd hs.len (by simp [ilen])
end
end Go.Proofs.YtaoffieemecioaaDoor



set_option maxRecDepth 20000
namespace Go.Proofs.YtaoffieemecioaaDoor
open Go Go.IW
section
attribute [local go_sem] List.getElem?_cons_zero List.getElem?_cons_succ Option.bind_some List.map_cons List.map_nil Nat.zero_add if_true List.getD_cons_zero List.getD_cons_succ List.contains_cons List.contains_nil Bool.or_true Bool.true_or Bool.or_false Bool.false_or Bool.not_true Bool.not_false true_and and_true rowA_whole mid_get rowO_rows cellO_rows upd_ne Nat.add_assoc Nat.add_zero List.all_cons List.all_nil one_bool one_int one_str one_ptr one_nilptr one_slice one_eslice one_nilslice one_func one_iface one_niliface Bool.and_true Bool.and_self List.length_cons List.length_nil Nat.one_ne_zero Nat.succ_ne_zero if_false List.set_cons_zero List.set_cons_succ lay_nil lay_1 lay_w Option.map_some cells_one rowA_some List.drop_succ_cons List.drop_zero List.take_succ_cons List.take_zero

def fidx (p : List IV → Bool) (rs : List (List IV)) : Int := match rs.findIdx? p with | some i => (i : Int) | none => -1
theorem fidx_at {p : List IV → Bool} {rs : List (List IV)} {k : Nat} {x : List IV} (h0 : ∀ y ∈ rs.take k, p y = false) (hk : rs[k]? = some x) (hx : p x = true) : fidx p rs = (k : Int) := by
 have : rs.findIdx? p = some k := by
  rw [List.findIdx?_eq_some_iff_getElem]
  obtain ⟨h1, rfl⟩ := List.getElem?_eq_some_iff.1 hk
  refine ⟨h1, hx, fun j hj => ?_⟩
  rw [h0 _ (List.mem_take_iff_getElem.2 ⟨j, by omega, rfl⟩)]
  simp
 simp [fidx, this]
theorem fidx_none {p : List IV → Bool} {rs : List (List IV)} (h0 : ∀ y ∈ rs, p y = false) : fidx p rs = -1 := by
 have : rs.findIdx? p = none := by simpa using h0
 simp [fidx, this]
theorem take_step {p : List IV → Bool} {rs : List (List IV)} {k : Nat} {x : List IV} (h0 : ∀ y ∈ rs.take k, p y = false) (hk : rs[k]? = some x) (hx : p x = false) : ∀ y ∈ rs.take (k + 1), p y = false := by
 intro y hy
 rw [List.take_add_one, hk] at hy
 rcases List.mem_append.1 hy with hy | hy
 ·exact h0 y hy
 ·have : y = x := by simpa using hy
  rw [this]; exact hx
theorem indexP_c {h : IH} {L : List As} (S : Sp h L) (v : IV) (rs : List (List IV)) (hs : ∀ g, Sp g L → SlR g 1 v rs) (hm : rs.length ≤ 1048576) (fn : Nat) (caps : List IV) (p : List IV → Bool)
  (hrow : ∀ r ∈ rs, r.length = 1 ∧ r.all IV.one = true) (hp : ∀ g, Sp g L → ∀ x, [x] ∈ rs → ICalls Tryd.prog fn (x :: caps) g fun r g' => r = .bool (p [x]) ∧ Ext g g') :
  ICalls Tryd.prog 86 [v, .func fn [] caps] h fun r h' => r = .int .i64 (fidx p rs) ∧ Sp h' L := by
 refine icalls (.of ok86) (Nat.le_of_ble_eq_true rfl) ?_
 unfold c86
 have hlen := (hs h S).lenF
 try simp (disch := (first | exact dA | fail)) only [hlen, go_sem, Nat.reduceBEq, Nat.reduceAdd, reduceIte]
 refine loop_at (fun n e g => ∃ k : Nat, n = rs.length - k ∧ k ≤ rs.length ∧ e 0 = v ∧ e 1 = .func fn [] caps ∧ e 7 = .int .i64 (rs.length : Nat) ∧ e 8 = .int .i64 (k : Nat) ∧ (∀ y ∈ rs.take k, p y = false) ∧ Sp g L) rs.length ?_ ?_
 ·refine ⟨0, by omega, by omega, ?_⟩
  try simp (disch := (first | exact dA | fail)) only [go_sem, Nat.reduceBEq, Nat.reduceAdd, reduceIte]
  exact ⟨rfl, by simp, S⟩
 ·clear S
  rintro n e g ⟨k, rfl, hk, e0, e1, e7, e8, hno, S⟩
  try simp (disch := (first | exact dA | fail)) only [e0, e1, e7, e8, go_sem, Nat.reduceBEq, Nat.reduceAdd, reduceIte]
  refine test_dec (fun hb => ?_) (fun hb => ?_)
  ·obtain ⟨x, hx⟩ : ∃ x, rs[k]? = some x := ⟨_, List.getElem?_eq_getElem (by omega : k < rs.length)⟩
   obtain ⟨l, j, hia, hll, har⟩ := (hs g S).at hx .i64
   have hc := cellO_row har
   have hxm := List.mem_of_getElem? hx
   have w1 : wr .i64 ((k : Int) + 1) = ((k + 1 : Nat) : Int) := by rw [wr64 _ (by omega)]; rfl
   obtain ⟨x0, rfl⟩ : ∃ x0, x = [x0] := by
    have := (hrow x hxm).1
    match x, this with
    | [x0], _ => exact ⟨x0, rfl⟩
   try simp (disch := (first | exact dA | fail)) only [e0, e1, e7, e8, hia, har, hc, na0, ca0, go_sem, Nat.reduceBEq, Nat.reduceAdd, reduceIte]
   refine callA_of (hp g S x0 hxm) ?_
   generalize hpx : p [x0] = px
   rintro r g2 ⟨rfl, E2⟩
   have S := S.ext E2
   cases px
   ·skip
    try simp (disch := (first | exact dA | fail)) only [e0, e1, e7, e8, w1, go_sem, Nat.reduceBEq, Nat.reduceAdd, reduceIte]
    exact ⟨rs.length - (k + 1), by omega, k + 1, rfl, by omega, rfl, take_step hno hx hpx, S⟩
   ·skip
    try simp (disch := (first | exact dA | fail)) only [e0, e1, e7, e8, go_sem, Nat.reduceBEq, Nat.reduceAdd, reduceIte]
    exact ⟨(by rw [fidx_at hno hx hpx]), S⟩
  ·skip
   try simp (disch := (first | exact dA | fail)) only [e0, e1, e7, e8, go_sem, Nat.reduceBEq, Nat.reduceAdd, reduceIte]
   rw [List.take_of_length_le (by omega)] at hno
   exact ⟨(by rw [fidx_none hno]), S⟩
theorem indexK_c {h : IH} {L : List As} (S : Sp h L) (v : IV) (rs : List (List IV)) (hs : ∀ g, Sp g L → SlR g 4 v rs) (hm : rs.length ≤ 1048576) (fn : Nat) (caps : List IV) (p : List IV → Bool)
  (hrow : ∀ r ∈ rs, r.length = 4 ∧ r.all IV.one = true) (hp : ∀ g, Sp g L → ∀ x, x ∈ rs → ICalls Tryd.prog fn (.agg x :: caps) g fun r g' => r = .bool (p x) ∧ Ext g g') :
  ICalls Tryd.prog 87 [v, .func fn [] caps] h fun r h' => r = .int .i64 (fidx p rs) ∧ Sp h' L := by
 refine icalls (.of ok87) (Nat.le_of_ble_eq_true rfl) ?_
 unfold c87
 have hlen := (hs h S).lenF
 try simp (disch := (first | exact dA | fail)) only [hlen, go_sem, Nat.reduceBEq, Nat.reduceAdd, reduceIte]
 refine loop_at (fun n e g => ∃ k : Nat, n = rs.length - k ∧ k ≤ rs.length ∧ e 0 = v ∧ e 1 = .func fn [] caps ∧ e 7 = .int .i64 (rs.length : Nat) ∧ e 8 = .int .i64 (k : Nat) ∧ (∀ y ∈ rs.take k, p y = false) ∧ Sp g L) rs.length ?_ ?_
 ·refine ⟨0, by omega, by omega, ?_⟩
  try simp (disch := (first | exact dA | fail)) only [go_sem, Nat.reduceBEq, Nat.reduceAdd, reduceIte]
  exact ⟨rfl, by simp, S⟩
 ·clear S
  rintro n e g ⟨k, rfl, hk, e0, e1, e7, e8, hno, S⟩
  try simp (disch := (first | exact dA | fail)) only [e0, e1, e7, e8, go_sem, Nat.reduceBEq, Nat.reduceAdd, reduceIte]
  refine test_dec (fun hb => ?_) (fun hb => ?_)
  ·obtain ⟨x, hx⟩ : ∃ x, rs[k]? = some x := ⟨_, List.getElem?_eq_getElem (by omega : k < rs.length)⟩
   obtain ⟨l, j, hia, hll, har⟩ := (hs g S).at hx .i64
   have hc := cellO_row har
   have hxm := List.mem_of_getElem? hx
   have w1 : wr .i64 ((k : Int) + 1) = ((k + 1 : Nat) : Int) := by rw [wr64 _ (by omega)]; rfl
   obtain ⟨hxl, hxo⟩ := hrow x hxm
   have htk : x.take 4 = x := List.take_of_length_le (by omega)
   try simp (disch := (first | exact dA | fail)) only [e0, e1, e7, e8, hia, har, hc, htk, na0, ca0, go_sem, Nat.reduceBEq, Nat.reduceAdd, reduceIte]
   refine callA_of (hp g S x hxm) ?_
   generalize hpx : p x = px
   rintro r g2 ⟨rfl, E2⟩
   have S := S.ext E2
   cases px
   ·skip
    try simp (disch := (first | exact dA | fail)) only [e0, e1, e7, e8, w1, go_sem, Nat.reduceBEq, Nat.reduceAdd, reduceIte]
    exact ⟨rs.length - (k + 1), by omega, k + 1, rfl, by omega, rfl, take_step hno hx hpx, S⟩
   ·skip
    try simp (disch := (first | exact dA | fail)) only [e0, e1, e7, e8, go_sem, Nat.reduceBEq, Nat.reduceAdd, reduceIte]
    exact ⟨(by rw [fidx_at hno hx hpx]), S⟩
  ·skip
   try simp (disch := (first | exact dA | fail)) only [e0, e1, e7, e8, go_sem, Nat.reduceBEq, Nat.reduceAdd, reduceIte]
   rw [List.take_of_length_le (by omega)] at hno
   exact ⟨(by rw [fidx_none hno]), S⟩
end
end Go.Proofs.YtaoffieemecioaaDoor



set_option maxRecDepth 20000
namespace Go.Proofs.YtaoffieemecioaaDoor
open Go Go.IW
section
attribute [local go_sem] List.getElem?_cons_zero List.getElem?_cons_succ Option.bind_some List.map_cons List.map_nil Nat.zero_add if_true List.getD_cons_zero List.getD_cons_succ List.contains_cons List.contains_nil Bool.or_true Bool.true_or Bool.or_false Bool.false_or Bool.not_true Bool.not_false true_and and_true rowA_whole mid_get rowO_rows cellO_rows upd_ne Nat.add_assoc Nat.add_zero List.all_cons List.all_nil one_bool one_int one_str one_ptr one_nilptr one_slice one_eslice one_nilslice one_func one_iface one_niliface Bool.and_true Bool.and_self List.length_cons List.length_nil Nat.one_ne_zero Nat.succ_ne_zero if_false List.set_cons_zero List.set_cons_succ lay_nil lay_1 lay_w Option.map_some cells_one rowA_some List.drop_succ_cons List.drop_zero List.take_succ_cons List.take_zero

theorem fidx_some {p : List IV → Bool} {rs : List (List IV)} (h : fidx p rs ≠ -1) : ∃ k : Nat, fidx p rs = (k : Int) ∧ k < rs.length ∧ (∀ y ∈ rs.take k, p y = false) ∧ ∃ x, rs[k]? = some x ∧ p x = true := by
 unfold fidx at h ⊢
 cases hf : rs.findIdx? p with
 | none => rw [hf] at h; exact absurd rfl h
 | some k =>
  obtain ⟨h1, h2, h3⟩ := List.findIdx?_eq_some_iff_getElem.1 hf
  refine ⟨k, rfl, h1, fun y hy => ?_, rs[k], List.getElem?_eq_getElem h1, h2⟩
  obtain ⟨j, hj, rfl⟩ := List.mem_take_iff_getElem.1 hy
  simpa using h3 j (by omega)
theorem fidx_neg {p : List IV → Bool} {rs : List (List IV)} (h : fidx p rs = -1) : ∀ y ∈ rs, p y = false := by
 unfold fidx at h
 cases hf : rs.findIdx? p with
 | none => simpa using hf
 | some k => rw [hf] at h; simp only at h; omega
theorem kept_all {p : List IV → Bool} {rs : List (List IV)} (h : ∀ y ∈ rs, p y = false) : rs.filter (fun y => !p y) = rs := List.filter_eq_self.2 fun y hy => by rw [h y hy]; rfl
structure Kept (p : List IV → Bool) (rs cur : List (List IV)) (i j : Nat) : Prop where
 n : cur.length = rs.length
 lt : i < j
 le : j ≤ rs.length
 t : cur.take i = (rs.take j).filter (fun y => !p y)
 d : cur.drop j = rs.drop j
 m : ∀ y ∈ cur, y ∈ rs
theorem Kept.begin {p : List IV → Bool} {rs : List (List IV)} {k : Nat} {x : List IV} (h0 : ∀ y ∈ rs.take k, p y = false) (hk : rs[k]? = some x) (hx : p x = true) : Kept p rs rs k (k + 1) := by
 refine ⟨rfl, by omega, (List.getElem?_eq_some_iff.1 hk).1, ?_, rfl, fun y hy => hy⟩
 rw [List.take_add_one, hk, List.filter_append, kept_all h0]
 simp [hx]
theorem Kept.get {p : List IV → Bool} {rs cur : List (List IV)} {i j : Nat} (h : Kept p rs cur i j) : cur[j]? = rs[j]? := by
 have := congrArg (fun l => l[0]?) h.d
 simpa using this
theorem Kept.skip {p : List IV → Bool} {rs cur : List (List IV)} {i j : Nat} {x : List IV} (h : Kept p rs cur i j) (hj : rs[j]? = some x) (hx : p x = true) : Kept p rs cur i (j + 1) := by
 refine ⟨h.n, by have := h.lt; omega, (List.getElem?_eq_some_iff.1 hj).1, ?_, ?_, h.m⟩
 ·rw [List.take_add_one, hj, List.filter_append, ← h.t]
  simp [hx]
 ·rw [← List.drop_drop, ← List.drop_drop, h.d]
theorem Kept.keep {p : List IV → Bool} {rs cur : List (List IV)} {i j : Nat} {x : List IV} (h : Kept p rs cur i j) (hj : rs[j]? = some x) (hx : p x = false) : Kept p rs (cur.set i x) (i + 1) (j + 1) := by
 have hl := h.lt
 have hn := h.n
 have hjl := (List.getElem?_eq_some_iff.1 hj).1
 refine ⟨by simp [hn], by omega, hjl, ?_, ?_, fun y hy => ?_⟩
 rotate_left 2
 ·rcases List.mem_or_eq_of_mem_set hy with h1 | h1
  ·exact h.m y h1
  ·rw [h1]; exact List.mem_of_getElem? hj
 ·have e1 : rs.take (j + 1) = rs.take j ++ [x] := by rw [List.take_add_one, hj]; rfl
  have e2 : (cur.set i x).take (i + 1) = cur.take i ++ [x] := by rw [List.take_add_one, List.getElem?_set_self (by omega), List.take_set_of_le (Nat.le_refl _)]; rfl
  rw [e1, e2, List.filter_append, h.t]
  simp [hx]
 ·rw [List.drop_set_of_lt (by omega), ← List.drop_drop, ← List.drop_drop, h.d]
theorem Sp_slT {h : IH} {L : List As} {x : Bool} {el sz : Nat} {v : IV} {rs : List (List IV)} (S : Sp h (sl x el sz v rs :: L)) : Sp h (sl true el sz v rs :: L) := by
 obtain ⟨fs, ⟨f, g, rfl, hs, hl⟩, hd⟩ := S
 refine ⟨_, ⟨f, g, rfl, ?_, hl⟩, hd⟩
 rcases hs with h1 | ⟨l, h0, h2⟩
 ·exact .inl h1
 ·exact .inr ⟨l, .inl rfl, h2⟩
theorem slc_lo {h : IH} {sz l i n : Nat} {k : IntKind} (hi : i < n) (hs : h.size l = some sz) : slcF h sz (.slice l 0 n) (some (.int k (i : Int))) none = some (.slice l i (n - i)) := by
 rw [slcF_of (n := n) (b := n) (a := i) h rfl rfl (boundF_of (by omega) (by omega)), islc_some h hi (Nat.le_refl _) hs]
 simp
theorem slc_hi {h : IH} {sz l i n : Nat} {k : IntKind} (hi : i ≤ n) (hs : h.size l = some sz) : slcF h sz (.slice l 0 n) none (some (.int k (i : Int))) = some (.slice l 0 i) := by
 rw [slcF_of (n := n) (b := i) (a := 0) h rfl (boundF_of (by omega) (by omega)) rfl]
 by_cases h0 : i = 0
 ·subst h0; exact islc_zero h hs
 ·rw [islc_some h (by omega) hi hs]; simp
set_option maxHeartbeats 1000000 in
theorem deleteP_c {h : IH} {L : List As} {b : Bool} (v : IV) (rs : List (List IV)) (S : Sp h (sl b 85 1 v rs :: L)) (hm : rs.length ≤ 1048576) (fn : Nat) (caps : List IV) (p : List IV → Bool)
  (hrow : ∀ r ∈ rs, r.length = 1 ∧ r.all IV.one = true) (hp : ∀ g, Sp g L → ∀ x, [x] ∈ rs → ICalls Tryd.prog fn (x :: caps) g fun r g' => r = .bool (p [x]) ∧ Ext g g') :
  ICalls Tryd.prog 74 [v, .func fn [] caps] h fun r h' => r.one = true ∧ Sp h' (sl true 85 1 r (rs.filter fun y => !p y) :: L) := by
 refine ICalls.shr (Q := fun r g => (r.one = true ∧ Sp g (sl true 85 1 r (rs.filter fun y => !p y) :: L)) ∨ ∃ lo rows i, r = .slice lo 0 i ∧ Sp g (box lo (.rows rows 85 1 false) :: L) ∧ rows.take i = (rs.filter fun y => !p y) ∧ i ≤ rows.length) ?_ ?_
 rotate_left
 ·rintro r g (h1 | ⟨lo, rows, i, rfl, S, e1, e2⟩)
  ·exact ⟨g, .inl rfl, h1⟩
  ·have a := S.bx 0 rfl
   refine ⟨_, .inr ⟨lo, rows, 85, 1, i, a.eq, rfl⟩, rfl, ?_⟩
   have S := S.set0 (o' := .rows (rows.take i) 85 1 false) rfl
   rw [e1] at S ⊢
   exact S.boxSl (n := i) (x := true) (by rw [← e1, List.length_take]; omega) (.inl rfl)
 refine icalls (.of ok74) (Nat.le_of_ble_eq_true rfl) ?_
 unfold c74
 have hv1 := (S.slA 0 rfl).one
 have hlen := (S.slA 0 rfl).lenF
 try simp (disch := (first | exact dA | fail)) only [hv1, go_sem, Nat.reduceBEq, Nat.reduceAdd, reduceIte]
 refine callA_of (indexP_c S v rs (fun g S => S.slA 0 rfl) hm fn caps p hrow (fun g S => hp g S.drop)) ?_
 clear S
 rintro r2 g2 ⟨rfl, S⟩
 by_cases hf : fidx p rs = -1
 ·have d1 : decide (fidx p rs = -1) = true := decide_eq_true hf
  try simp (disch := (first | exact dA | fail)) only [d1, go_sem, Nat.reduceBEq, Nat.reduceAdd, reduceIte]
  refine .inl ⟨hv1, ?_⟩
  rw [kept_all (fidx_neg hf)]
  exact Sp_slT S
 ·have d1 : decide (fidx p rs = -1) = false := decide_eq_false hf
  obtain ⟨k, hk, hkl, hno, x, hx, hpx⟩ := fidx_some hf
  rw [hk] at d1 ⊢
  have S0 := S
  clear S
  obtain ⟨lo, hvl, S⟩ := S0.slBox (by rintro rfl; simp at hkl)
  clear S0
  have w0 : wr .i64 ((k : Int) + 1) = ((k + 1 : Nat) : Int) := by rw [wr64 _ (by omega)]; rfl
  have q0 := (S.bx 0 rfl).eq
  try simp (disch := (first | exact dA | fail)) only [q0, d1, w0, hvl, go_sem, Nat.reduceBEq, Nat.reduceAdd, reduceIte]
  refine loop_at (fun m e g => ∃ (i j : Nat) (cur : List (List IV)), m = rs.length - j ∧ Kept p rs cur i j ∧ e 0 = .slice lo 0 rs.length ∧ e 1 = .func fn [] caps ∧ e 5 = .int .i64 (i : Nat) ∧ e 6 = .int .i64 (j : Nat) ∧ Sp g (box lo (.rows cur 85 1 false) :: L)) (rs.length - (k + 1)) ?_ ?_
  ·refine ⟨k, k + 1, rs, by omega, Kept.begin hno hx hpx, ?_⟩
   have q0 := (S.bx 0 rfl).eq
   try simp (disch := (first | exact dA | fail)) only [q0, w0, go_sem, Nat.reduceBEq, Nat.reduceAdd, reduceIte]
   exact S
  ·clear S
   rintro m e g ⟨i, j, cur, rfl, hK, e0, e1, e5, e6, S⟩
   have hKn := hK.n
   have hKl := hK.lt
   have hKe := hK.le
   have q0 := (S.bx 0 rfl).eq
   try simp (disch := (first | exact dA | fail)) only [q0, e0, e1, e5, e6, go_sem, Nat.reduceBEq, Nat.reduceAdd, reduceIte]
   refine test_dec (fun hb => ?_) (fun hb => ?_)
   ·obtain ⟨y, hy⟩ : ∃ y, rs[j]? = some y := ⟨_, List.getElem?_eq_getElem (by omega : j < rs.length)⟩
    have hyc : cur[j]? = some y := by rw [hK.get]; exact hy
    have hym := List.mem_of_getElem? hy
    obtain ⟨hyl, hyo⟩ := hrow y hym
    have io : iadrO (IObj.rows cur 85 1 false) 1 lo 0 rs.length (j : Int) = some (.ptr lo j 0) := by rw [iadrO_nat (by omega)]; simp
    have ii : iadrO (IObj.rows cur 85 1 false) 1 lo 0 rs.length (i : Int) = some (.ptr lo i 0) := by rw [iadrO_nat (by omega)]; simp
    obtain ⟨o, ho⟩ : ∃ o, cur[i]? = some o := ⟨_, List.getElem?_eq_getElem (by omega : i < cur.length)⟩
    have hol : o.length = 1 := (hrow o (hK.m o (List.mem_of_getElem? ho))).1
    have wj : wr .i64 ((j : Int) + 1) = ((j + 1 : Nat) : Int) := by rw [wr64 _ (by omega)]; rfl
    have wi : wr .i64 ((i : Int) + 1) = ((i + 1 : Nat) : Int) := by rw [wr64 _ (by omega)]; rfl
    obtain ⟨y0, rfl⟩ : ∃ y0, y = [y0] := by
     match y, hyl with
     | [y0], _ => exact ⟨y0, rfl⟩
    have q0 := (S.bx 0 rfl).eq
    try simp (disch := (first | exact dA | fail)) only [q0, e0, e1, e5, e6, iadrF_sl, io, hyc, na0, ca0, go_sem, Nat.reduceBEq, Nat.reduceAdd, reduceIte]
    refine callA_of (hp g S.drop y0 hym) ?_
    generalize hpy : p [y0] = py
    rintro r4 g4 ⟨rfl, E4⟩
    have S := S.ext E4
    cases py
    ·have hy0 : y0.one = true := by simpa using hyo
     have hy0c : y0.cells = [y0] := cells_one hy0
     have q0 := (S.bx 0 rfl).eq
     try simp (disch := (first | exact dA | fail)) only [q0, e0, e1, e5, e6, iadrF_sl, ii, hy0c, go_sem, Nat.reduceBEq, Nat.reduceAdd, reduceIte]
     refine str_of ho rfl hol (by simpa using hy0) fun g5 hg => ?_
     have l_g5 := n_set hg
     have S := S.set0 hg
     clear hg
     try simp (disch := (first | exact dA | fail)) only [e0, e1, e5, e6, wi, wj, go_sem, Nat.reduceBEq, Nat.reduceAdd, reduceIte]
     exact ⟨rs.length - (j + 1), by omega, i + 1, j + 1, cur.set i [y0], rfl, hK.keep hy hpy, rfl, rfl, S⟩
    ·skip
     have q0 := (S.bx 0 rfl).eq
     try simp (disch := (first | exact dA | fail)) only [q0, e0, e1, e5, e6, wj, go_sem, Nat.reduceBEq, Nat.reduceAdd, reduceIte]
     exact ⟨rs.length - (j + 1), by omega, i, j + 1, cur, rfl, hK.skip hy hpy, rfl, rfl, S⟩
   ·have hj : j = rs.length := by omega
    subst hj
    have hsz : IH.size g lo = some 1 := by rw [size_eq, (S.bx 0 rfl).eq]; rfl
    have f1 := slc_lo (h := g) (l := lo) (k := .i64) (show i < rs.length by omega) hsz
    have q0 := (S.bx 0 rfl).eq
    try simp (disch := (first | exact dA | fail)) only [q0, e0, e1, e5, e6, f1, Option.map_none, Option.map_some, go_sem, Nat.reduceBEq, Nat.reduceAdd, reduceIte]
    refine clrA_of (S.bx 0 rfl).eq (by omega) (fun h0 => by omega) fun _ => ?_
    generalize hq : IH.set g lo _ = g6
    have l_g6 := n_set hq
    have S := S.set0 hq
    clear hq
    have hsz6 : IH.size g6 lo = some 1 := by rw [size_eq, (S.bx 0 rfl).eq]; rfl
    have f2 := slc_hi (h := g6) (l := lo) (k := .i64) (show i ≤ rs.length by omega) hsz6
    have q0 := (S.bx 0 rfl).eq
    try simp (disch := (first | exact dA | fail)) only [q0, e0, e1, e5, e6, f2, Option.map_none, Option.map_some, go_sem, Nat.reduceBEq, Nat.reduceAdd, reduceIte]
    have ht := hK.t
    rw [List.take_length] at ht
    refine .inr ⟨lo, _, i, rfl, S, ?_, ?_⟩
    ·rw [List.take_append_of_le_length (by rw [List.length_take]; omega), List.take_take, Nat.min_self, ht]
    ·rw [la0, List.length_take, List.length_replicate]; omega
set_option maxHeartbeats 1000000 in
theorem deleteK_c {h : IH} {L : List As} {b : Bool} (v : IV) (rs : List (List IV)) (S : Sp h (sl b 111 4 v rs :: L)) (hm : rs.length ≤ 1048576) (fn : Nat) (caps : List IV) (p : List IV → Bool)
  (hrow : ∀ r ∈ rs, r.length = 4 ∧ r.all IV.one = true) (hp : ∀ g, Sp g L → ∀ x, x ∈ rs → ICalls Tryd.prog fn (.agg x :: caps) g fun r g' => r = .bool (p x) ∧ Ext g g') :
  ICalls Tryd.prog 77 [v, .func fn [] caps] h fun r h' => r.one = true ∧ Sp h' (sl true 111 4 r (rs.filter fun y => !p y) :: L) := by
 refine ICalls.shr (Q := fun r g => (r.one = true ∧ Sp g (sl true 111 4 r (rs.filter fun y => !p y) :: L)) ∨ ∃ lo rows i, r = .slice lo 0 i ∧ Sp g (box lo (.rows rows 111 4 false) :: L) ∧ rows.take i = (rs.filter fun y => !p y) ∧ i ≤ rows.length) ?_ ?_
 rotate_left
 ·rintro r g (h1 | ⟨lo, rows, i, rfl, S, e1, e2⟩)
  ·exact ⟨g, .inl rfl, h1⟩
  ·have a := S.bx 0 rfl
   refine ⟨_, .inr ⟨lo, rows, 111, 4, i, a.eq, rfl⟩, rfl, ?_⟩
   have S := S.set0 (o' := .rows (rows.take i) 111 4 false) rfl
   rw [e1] at S ⊢
   exact S.boxSl (n := i) (x := true) (by rw [← e1, List.length_take]; omega) (.inl rfl)
 refine icalls (.of ok77) (Nat.le_of_ble_eq_true rfl) ?_
 unfold c77
 have hv1 := (S.slA 0 rfl).one
 have hlen := (S.slA 0 rfl).lenF
 try simp (disch := (first | exact dA | fail)) only [hv1, go_sem, Nat.reduceBEq, Nat.reduceAdd, reduceIte]
 refine callA_of (indexK_c S v rs (fun g S => S.slA 0 rfl) hm fn caps p hrow (fun g S => hp g S.drop)) ?_
 clear S
 rintro r2 g2 ⟨rfl, S⟩
 by_cases hf : fidx p rs = -1
 ·have d1 : decide (fidx p rs = -1) = true := decide_eq_true hf
  try simp (disch := (first | exact dA | fail)) only [d1, go_sem, Nat.reduceBEq, Nat.reduceAdd, reduceIte]
  refine .inl ⟨hv1, ?_⟩
  rw [kept_all (fidx_neg hf)]
  exact Sp_slT S
 ·have d1 : decide (fidx p rs = -1) = false := decide_eq_false hf
  obtain ⟨k, hk, hkl, hno, x, hx, hpx⟩ := fidx_some hf
  rw [hk] at d1 ⊢
  have S0 := S
  clear S
  obtain ⟨lo, hvl, S⟩ := S0.slBox (by rintro rfl; simp at hkl)
  clear S0
  have w0 : wr .i64 ((k : Int) + 1) = ((k + 1 : Nat) : Int) := by rw [wr64 _ (by omega)]; rfl
  have q0 := (S.bx 0 rfl).eq
  try simp (disch := (first | exact dA | fail)) only [q0, d1, w0, hvl, go_sem, Nat.reduceBEq, Nat.reduceAdd, reduceIte]
  refine loop_at (fun m e g => ∃ (i j : Nat) (cur : List (List IV)), m = rs.length - j ∧ Kept p rs cur i j ∧ e 0 = .slice lo 0 rs.length ∧ e 1 = .func fn [] caps ∧ e 5 = .int .i64 (i : Nat) ∧ e 6 = .int .i64 (j : Nat) ∧ Sp g (box lo (.rows cur 111 4 false) :: L)) (rs.length - (k + 1)) ?_ ?_
  ·refine ⟨k, k + 1, rs, by omega, Kept.begin hno hx hpx, ?_⟩
   have q0 := (S.bx 0 rfl).eq
   try simp (disch := (first | exact dA | fail)) only [q0, w0, go_sem, Nat.reduceBEq, Nat.reduceAdd, reduceIte]
   exact S
  ·clear S
   rintro m e g ⟨i, j, cur, rfl, hK, e0, e1, e5, e6, S⟩
   have hKn := hK.n
   have hKl := hK.lt
   have hKe := hK.le
   have q0 := (S.bx 0 rfl).eq
   try simp (disch := (first | exact dA | fail)) only [q0, e0, e1, e5, e6, go_sem, Nat.reduceBEq, Nat.reduceAdd, reduceIte]
   refine test_dec (fun hb => ?_) (fun hb => ?_)
   ·obtain ⟨y, hy⟩ : ∃ y, rs[j]? = some y := ⟨_, List.getElem?_eq_getElem (by omega : j < rs.length)⟩
    have hyc : cur[j]? = some y := by rw [hK.get]; exact hy
    have hym := List.mem_of_getElem? hy
    obtain ⟨hyl, hyo⟩ := hrow y hym
    have io : iadrO (IObj.rows cur 111 4 false) 4 lo 0 rs.length (j : Int) = some (.ptr lo j 0) := by rw [iadrO_nat (by omega)]; simp
    have ii : iadrO (IObj.rows cur 111 4 false) 4 lo 0 rs.length (i : Int) = some (.ptr lo i 0) := by rw [iadrO_nat (by omega)]; simp
    obtain ⟨o, ho⟩ : ∃ o, cur[i]? = some o := ⟨_, List.getElem?_eq_getElem (by omega : i < cur.length)⟩
    have hol : o.length = 4 := (hrow o (hK.m o (List.mem_of_getElem? ho))).1
    have wj : wr .i64 ((j : Int) + 1) = ((j + 1 : Nat) : Int) := by rw [wr64 _ (by omega)]; rfl
    have wi : wr .i64 ((i : Int) + 1) = ((i + 1 : Nat) : Int) := by rw [wr64 _ (by omega)]; rfl
    obtain ⟨a0, b0, c0, d0, rfl⟩ : ∃ a0 b0 c0 d0, y = [a0, b0, c0, d0] := by
     match y, hyl with
     | [a0, b0, c0, d0], _ => exact ⟨a0, b0, c0, d0, rfl⟩
    simp only [List.all_cons, List.all_nil, Bool.and_true, Bool.and_eq_true] at hyo
    obtain ⟨ya, yb, yc, yd⟩ := hyo
    have htk : [a0, b0, c0, d0].take 4 = [a0, b0, c0, d0] := rfl
    have q0 := (S.bx 0 rfl).eq
    try simp (disch := (first | exact dA | fail)) only [q0, e0, e1, e5, e6, iadrF_sl, io, hyc, htk, go_sem, Nat.reduceBEq, Nat.reduceAdd, reduceIte]
    refine Sp.zero S fun p7 g3 S E_g3 l_g3 => ?_
    have q0 := (S.bx 0 rfl).eq
    try simp (disch := (first | exact dA | fail)) only [q0, e0, e1, e5, e6, ya, yb, yc, yd, go_sem, Nat.reduceBEq, Nat.reduceAdd, reduceIte]
    refine stw_of rfl rfl (by first | rfl | simp (disch := assumption) only [go_sem, cells_one, one_as]) fun g4 hg => ?_
    have l_g4 := n_set hg
    have S := S.set0 hg
    clear hg
    have q0 := (S.bx 0 rfl).eq
    try simp (disch := (first | exact dA | fail)) only [q0, e0, e1, e5, e6, na0, ca0, go_sem, Nat.reduceBEq, Nat.reduceAdd, reduceIte]
    refine callA_of (hp g4 S.drop.drop _ hym) ?_
    generalize hpy : p [a0, b0, c0, d0] = py
    rintro r4 g5 ⟨rfl, E4⟩
    have S := S.ext E4
    cases py
    ·skip
     have q0 := (S.bx 0 rfl).eq
     have q1 := (S.bx 1 rfl).eq
     try simp (disch := (first | exact dA | fail)) only [q0, q1, e0, e1, e5, e6, iadrF_sl, ii, ya, yb, yc, yd, go_sem, Nat.reduceBEq, Nat.reduceAdd, reduceIte]
     refine str_of ho rfl hol (by simp [ya, yb, yc, yd]) fun g6 hg => ?_
     have l_g6 := n_set hg
     have S := S.set1 hg
     clear hg
     try simp (disch := (first | exact dA | fail)) only [e0, e1, e5, e6, wi, wj, go_sem, Nat.reduceBEq, Nat.reduceAdd, reduceIte]
     exact ⟨rs.length - (j + 1), by omega, i + 1, j + 1, cur.set i [a0, b0, c0, d0], rfl, hK.keep hy hpy, rfl, rfl, S.drop⟩
    ·skip
     have q0 := (S.bx 0 rfl).eq
     try simp (disch := (first | exact dA | fail)) only [q0, e0, e1, e5, e6, wj, go_sem, Nat.reduceBEq, Nat.reduceAdd, reduceIte]
     exact ⟨rs.length - (j + 1), by omega, i, j + 1, cur, rfl, hK.skip hy hpy, rfl, rfl, S.drop⟩
   ·have hj : j = rs.length := by omega
    subst hj
    have hsz : IH.size g lo = some 4 := by rw [size_eq, (S.bx 0 rfl).eq]; rfl
    have f1 := slc_lo (h := g) (l := lo) (k := .i64) (show i < rs.length by omega) hsz
    have q0 := (S.bx 0 rfl).eq
    try simp (disch := (first | exact dA | fail)) only [q0, e0, e1, e5, e6, f1, Option.map_none, Option.map_some, go_sem, Nat.reduceBEq, Nat.reduceAdd, reduceIte]
    refine clrA_of (S.bx 0 rfl).eq (by omega) (fun h0 => by omega) fun _ => ?_
    generalize hq : IH.set g lo _ = g6
    have l_g6 := n_set hq
    have S := S.set0 hq
    clear hq
    have hsz6 : IH.size g6 lo = some 4 := by rw [size_eq, (S.bx 0 rfl).eq]; rfl
    have f2 := slc_hi (h := g6) (l := lo) (k := .i64) (show i ≤ rs.length by omega) hsz6
    have q0 := (S.bx 0 rfl).eq
    try simp (disch := (first | exact dA | fail)) only [q0, e0, e1, e5, e6, f2, Option.map_none, Option.map_some, go_sem, Nat.reduceBEq, Nat.reduceAdd, reduceIte]
    have ht := hK.t
    rw [List.take_length] at ht
    refine .inr ⟨lo, _, i, rfl, S, ?_, ?_⟩
    ·rw [List.take_append_of_le_length (by rw [List.length_take]; omega), List.take_take, Nat.min_self, ht]
    ·rw [la0, List.length_take, List.length_replicate]; omega
end
end Go.Proofs.YtaoffieemecioaaDoor



set_option maxRecDepth 20000
namespace Go.Proofs.YtaoffieemecioaaDoor
open Go Go.IW
section
attribute [local go_sem] List.getElem?_cons_zero List.getElem?_cons_succ Option.bind_some List.map_cons List.map_nil Nat.zero_add if_true List.getD_cons_zero List.getD_cons_succ List.contains_cons List.contains_nil Bool.or_true Bool.true_or Bool.or_false Bool.false_or Bool.not_true Bool.not_false true_and and_true rowA_whole mid_get rowO_rows cellO_rows upd_ne Nat.add_assoc Nat.add_zero List.all_cons List.all_nil one_bool one_int one_str one_ptr one_nilptr one_slice one_eslice one_nilslice one_func one_iface one_niliface Bool.and_true Bool.and_self List.length_cons List.length_nil Nat.one_ne_zero Nat.succ_ne_zero if_false List.set_cons_zero List.set_cons_succ lay_nil lay_1 lay_w Option.map_some cells_one rowA_some List.drop_succ_cons List.drop_zero List.take_succ_cons List.take_zero

abbrev Tx := List UInt8
structure Kn where
 name : Tx
 code : Int
 addrs : List Int
 till : Int
structure Qn where
 name : Tx
 id : Int
 server : Int
 asks : Int
 due : Int
 tickets : List Int
structure Sd where
 server : Int
 bytes : Tx
structure Dn where
 ticket : Int
 code : Int
 addrs : List Int
structure Rs where
 now : Int
 n : Int
 l : List Qn
 cache : List Kn
 sent : List Sd
 done : List Dn
def ints (v : IV) (zs : List Int) : As := sl false 2 1 v (intRows zs)
def byts (v : IV) (bs : Tx) : As := sl false 5 1 v (strRows bs)

def sel {α : Type} : List Bool → List α → List α
 | b :: bs, x :: xs => if b = true then x :: sel bs xs else sel bs xs
 | _, _ => []
theorem sel_filter {α : Type} (p : α → Bool) : ∀ xs : List α, sel (xs.map p) xs = xs.filter p
 | [] => rfl
 | x :: xs => by
  simp only [mc0, sel, sel_filter p xs, List.filter_cons]
theorem sel_snoc {α : Type} : ∀ {bs : List Bool} {xs : List α} {b : Bool} {x : α}, bs.length = xs.length → sel (bs ++ [b]) (xs ++ [x]) = sel bs xs ++ if b = true then [x] else []
 | [], [], b, x, _ => by cases b <;> rfl
 | c :: bs, y :: xs, b, x, h => by
  simp only [ca0, sel, sel_snoc (bs := bs) (xs := xs) (b := b) (x := x) (by simpa using h)]
  split <;> simp
 | [], _ :: _, _, _, h => by simp at h
 | _ :: _, [], _, _, h => by simp at h
theorem _root_.Go.IW.Sp.dn {h : IH} {L : List As} (S : Sp h L) (k : Nat) : Sp h (L.drop k) := by
 induction k generalizing L with
 | zero => exact S
 | succ k ih =>
  cases L with
  | nil => exact S
  | cons a L => exact ih S.drop
theorem _root_.Go.IW.SlR.at_eq {h h' : IH} {sz : Nat} {v : IV} {rs : List (List IV)} (hs : SlR h sz v rs) (hs' : SlR h' sz v rs) {m l j : Nat} {row : List IV} {k : IntKind} (hm : rs[m]? = some row) (hia : iadrF h sz v (.int k m) = some (.ptr l j 0)) :
  iadrF h' sz v (.int k m) = some (.ptr l j 0) ∧ rowO (h'.obj l) j = some row := by
 obtain ⟨l', j', e, _, r⟩ := hs'.at hm k
 have : iadrF h' sz v (.int k m) = iadrF h sz v (.int k m) := by
  cases v with
  | slice l i n =>
   obtain ⟨rs1, e1, ro1, ho1, _⟩ := srcRows_live hs.src
   obtain ⟨rs2, e2, ro2, ho2, _⟩ := srcRows_live hs'.src
   have s1 : h.size l = some sz := by rw [size_eq, ho1]; rfl
   have s2 : h'.size l = some sz := by rw [size_eq, ho2]; rfl
   simp [iadrF, s1, s2]
  | _ => rfl
 rw [this, hia] at e
 cases e
 exact ⟨by rw [this]; exact hia, r⟩
theorem all2_sel {α : Type} {R : List IV → α → As} {h : IH} : ∀ {rs : List (List IV)} {xs : List α} {f : List Nat} (bs : List Bool), (all2 R rs xs).P h f → ∃ f', (all2 R (sel bs rs) (sel bs xs)).P h f' ∧ f'.Sublist f
 | rs, xs, f, [], _ => ⟨[], ⟨rfl, trivial⟩, List.nil_sublist _⟩
 | [], [], f, _ :: _, _ => ⟨[], ⟨rfl, trivial⟩, List.nil_sublist _⟩
 | r :: rs, x :: xs, f, b :: bs, ⟨f1, f2, e, h1, h2⟩ => by
  subst e
  obtain ⟨f', h3, h4⟩ := all2_sel bs h2
  cases b with
  | false => exact ⟨f', h3, h4.trans (List.sublist_append_right _ _)⟩
  | true => exact ⟨f1 ++ f', ⟨f1, f', rfl, h1, h3⟩, (List.Sublist.refl f1).append h4⟩
 | [], _ :: _, _, _ :: _, h => h.2.elim
 | _ :: _, [], _, _ :: _, h => h.2.elim
theorem _root_.Go.IW.Sp.a2sel {α : Type} {R : List IV → α → As} {h : IH} {L : List As} {rs : List (List IV)} {xs : List α} (bs : List Bool) (S : Sp h (all2 R rs xs :: L)) : Sp h (all2 R (sel bs rs) (sel bs xs) :: L) :=
 S.imp fun f hf => all2_sel bs hf
theorem _root_.Go.IW.Sp.ofOwn {h h' : IH} {L : List As} {el sz : Nat} {v : IV} {rs : List (List IV)} (S : Sp h L) (E : Ext h h') (o : Own h.n h'.n h' el sz v rs) : Sp h' (sl false el sz v rs :: L) := by
 rcases o with ⟨h1, h2⟩ | ⟨l, h0, h1, h2, h3, _, h4⟩
 ·exact S.new E (f := []) (.inl ⟨h1, rfl, h2⟩) List.nodup_nil (by simp)
 ·exact S.new E (f := [l]) (.inr ⟨l, .inr h0, h1, rfl, h3, h4⟩) (by simp) (by simpa using h2)

theorem a2_len {h : IH} {L : List As} {α : Type} {R : List IV → α → As} {rs : List (List IV)} {ps : List α} (S : Sp h L) (k : Nat) (hk : L[k]? = some (all2 R rs ps)) : rs.length = ps.length := by
 obtain ⟨f, hf⟩ := S.part k hk
 exact all2_len hf
theorem sel_le {α : Type} : ∀ (bs : List Bool) (xs : List α), (sel bs xs).length ≤ xs.length
 | [], _ => by simp [sel]
 | _ :: _, [] => by simp [sel]
 | b :: bs, x :: xs => by
  have := sel_le bs xs
  cases b <;> simp [sel] <;> omega
theorem take_snoc {α : Type} {l : List α} {k : Nat} {x : α} (h : l[k]? = some x) : l.take (k + 1) = l.take k ++ [x] := by rw [List.take_add_one, h]; rfl
def knRow (k : Kn) (va : IV) : List IV := [.str k.name, .int .i64 k.code, va, .int .i64 k.till]
def knR (r : List IV) (k : Kn) : As := exA fun va : IV => stars (fact (r = knRow k va ∧ va.one = true)) (ints va k.addrs)
def qnRow (q : Qn) (vt : IV) : List IV := [.str q.name, .int .i64 q.id, .int .i64 q.server, .int .i64 q.asks, .int .i64 q.due, vt]
def qnR (r : List IV) (q : Qn) : As := exA fun vt : IV => stars (fact (r = qnRow q vt ∧ vt.one = true)) (ints vt q.tickets)
def sdRow (s : Sd) (vb : IV) : List IV := [.int .i64 s.server, vb]
def sdR (r : List IV) (s : Sd) : As := exA fun vb : IV => stars (fact (r = sdRow s vb ∧ vb.one = true)) (byts vb s.bytes)
def dnRow (d : Dn) (va : IV) : List IV := [.int .i64 d.ticket, .int .i64 d.code, va]
def dnR (r : List IV) (d : Dn) : As := exA fun va : IV => stars (fact (r = dnRow d va ∧ va.one = true)) (ints va d.addrs)
theorem kn_at {h : IH} {L : List As} {rs : List (List IV)} {ks : List Kn} (S : Sp h L) (j : Nat) (hj : L[j]? = some (all2 knR rs ks)) {i : Nat} {k : Kn} (hi : ks[i]? = some k) : ∃ va, rs[i]? = some (knRow k va) ∧ SlR h 1 va (intRows k.addrs) := by
 obtain ⟨f, hf⟩ := S.part j hj
 obtain ⟨r, f', h1, va, f1, f2, _, ⟨_, rfl, h4⟩, h6⟩ := all2_at hf hi
 refine ⟨va, h1, ?_⟩
 rcases h6 with ⟨h4, _, h5 | h5⟩ | ⟨l, h0, h5, _, h8, h9⟩
 ·rw [h4, h5]; exact SlR.nil _ _
 ·rw [h4, h5]; exact SlR.empty _ _ _
 ·rw [h5]; exact SlR.whole h9 rfl h8
theorem qn_at {h : IH} {L : List As} {rs : List (List IV)} {qs : List Qn} (S : Sp h L) (j : Nat) (hj : L[j]? = some (all2 qnR rs qs)) {i : Nat} {q : Qn} (hi : qs[i]? = some q) : ∃ vt, rs[i]? = some (qnRow q vt) ∧ SlR h 1 vt (intRows q.tickets) := by
 obtain ⟨f, hf⟩ := S.part j hj
 obtain ⟨r, f', h1, va, f1, f2, _, ⟨_, rfl, h4⟩, h6⟩ := all2_at hf hi
 refine ⟨va, h1, ?_⟩
 rcases h6 with ⟨h4, _, h5 | h5⟩ | ⟨l, h0, h5, _, h8, h9⟩
 ·rw [h4, h5]; exact SlR.nil _ _
 ·rw [h4, h5]; exact SlR.empty _ _ _
 ·rw [h5]; exact SlR.whole h9 rfl h8
abbrev wdO (vs : IV) (first now n : Int) (vq vk : IV) (code : Int) (vx vd : IV) (ent ask : Int) : IObj := .rows [[vs, .int .i64 first, .int .i64 now, .int .i64 n, vq, vk, .int .i64 code, vx, vd, .int .i64 ent, .int .i64 ask]] 65 11 false
theorem l19Addrs_c {h : IH} {L : List As} (S : Sp h L) (v : IV) (zs : List Int) (hs : SlR h 1 v (intRows zs)) (hm : zs.length ≤ 1048576) :
  ICalls Tryd.prog 63 [v] h fun r h' => r.one = true ∧ Sp h' (ints r zs :: L) := by
 refine icalls (.of ok63) (Nat.le_of_ble_eq_true rfl) ?_
 unfold c63
 have hsrc := hs.src
 have S1 := S.slEmpty (x := false) (el := 2) (sz := 1)
 try simp (disch := (first | exact dA | fail)) only [hsrc, go_sem, Nat.reduceBEq, Nat.reduceAdd, reduceIte]
 refine S1.appAll (by rw [intRows_len]; simp only [ln0]; omega) ?_
 intro v2 g2 S2 z2
 try simp (disch := (first | exact dA | fail)) only [z2, go_sem, Nat.reduceBEq, Nat.reduceAdd, reduceIte]
 exact S2
end
end Go.Proofs.YtaoffieemecioaaDoor



set_option maxRecDepth 20000
namespace Go.Proofs.YtaoffieemecioaaDoor
open Go Go.IW
section
attribute [local go_sem] List.getElem?_cons_zero List.getElem?_cons_succ Option.bind_some List.map_cons List.map_nil Nat.zero_add if_true List.getD_cons_zero List.getD_cons_succ List.contains_cons List.contains_nil Bool.or_true Bool.true_or Bool.or_false Bool.false_or Bool.not_true Bool.not_false true_and and_true rowA_whole mid_get rowO_rows cellO_rows upd_ne Nat.add_assoc Nat.add_zero List.all_cons List.all_nil one_bool one_int one_str one_ptr one_nilptr one_slice one_eslice one_nilslice one_func one_iface one_niliface Bool.and_true Bool.and_self List.length_cons List.length_nil Nat.one_ne_zero Nat.succ_ne_zero if_false List.set_cons_zero List.set_cons_succ lay_nil lay_1 lay_w Option.map_some cells_one rowA_some List.drop_succ_cons List.drop_zero List.take_succ_cons List.take_zero

def freshK (now : Int) (ks : List Kn) : List Kn := ks.filter fun k => decide (now < k.till)
theorem l19Fresh_c {h : IH} {L : List As} {w : Nat} {vs vq vk vx vd : IV} {first now n code ent ask : Int} {rs : List (List IV)} {ks : List Kn}
  (S : Sp h (box w (wdO vs first now n vq vk code vx vd ent ask) :: sl false 129 4 vk rs :: all2 knR rs ks :: L)) (hm : ks.length ≤ 1048576) :
  ICalls Tryd.prog 42 [.ptr w 0 0] h fun r h' => ∃ vk' rs', Sp h' (box w (wdO vs first now n vq vk' code vx vd ent ask) :: sl false 129 4 vk' rs' :: all2 knR rs' (freshK now ks) :: L) := by
 refine icalls (.of ok42) (Nat.le_of_ble_eq_true rfl) ?_
 unfold c42
 have hrl := a2_len S 2 rfl
 try simp (disch := (first | exact dA | fail)) only [go_sem, Nat.reduceBEq, Nat.reduceAdd, reduceIte]
 refine loop_at (fun m e g => ∃ (k : Nat) (vn : IV) (rn : List (List IV)), m = ks.length - k ∧ k ≤ ks.length ∧ e 0 = .ptr w 0 0 ∧ e 2 = vn ∧ e 3 = .int .i64 (k : Nat) ∧ vn.one = true ∧ rn = sel ((ks.take k).map fun x => decide (now < x.till)) (rs.take k) ∧
  Sp g (sl false 129 4 vn rn :: box w (wdO vs first now n vq vk code vx vd ent ask) :: sl false 129 4 vk rs :: all2 knR rs ks :: L)) ks.length ?_ ?_
 ·refine ⟨0, .eslice true, [], by omega, by omega, ?_⟩
  try simp (disch := (first | exact dA | fail)) only [go_sem, Nat.reduceBEq, Nat.reduceAdd, reduceIte]
  exact ⟨rfl, rfl, S.slEmpty⟩
 ·clear S
  rintro m e g ⟨k, vn, rn, rfl, hk, e0, e2, e3, zn, hrn, S⟩
  have q1 := (S.bx 1 rfl).eq
  have s2 := S.slA 2 rfl
  have len_s2 := s2.lenF
  have z2 := s2.one
  try simp (disch := (first | exact dA | fail)) only [q1, len_s2, z2, e0, e2, e3, go_sem, Nat.reduceBEq, Nat.reduceAdd, reduceIte]
  refine test_dec (fun hb => ?_) (fun hb => ?_)
  ·obtain ⟨x, hx⟩ : ∃ x, ks[k]? = some x := ⟨_, List.getElem?_eq_getElem (by omega : k < ks.length)⟩
   obtain ⟨va, hrow, hva⟩ := kn_at S 3 rfl hx
   have y1 := hva.one
   obtain ⟨l, j, hia, hll, har⟩ := (S.slA 2 rfl).at hrow .i64
   unfold knRow at har
   have hc := cellO_row har
   have hrnl : rn.length ≤ k := by
    have := sel_le ((ks.take k).map fun x => decide (now < x.till)) (rs.take k)
    rw [← hrn, List.length_take] at this
    omega
   have hsn : sel ((ks.take (k + 1)).map fun x => decide (now < x.till)) (rs.take (k + 1)) = rn ++ if decide (now < x.till) = true then [knRow x va] else [] := by
    rw [take_snoc hx, take_snoc hrow, List.map_append, mc0, mn0, sel_snoc (by rw [List.length_map, List.length_take, List.length_take]; omega), hrn]
   have w1 : wr .i64 ((k : Int) + 1) = ((k + 1 : Nat) : Int) := by rw [wr64 _ (by omega)]; rfl
   unfold knRow at hsn
   have q1 := (S.bx 1 rfl).eq
   have s2 := S.slA 2 rfl
   have len_s2 := s2.lenF
   have z2 := s2.one
   try simp (disch := (first | exact dA | fail)) only [q1, len_s2, z2, e0, e2, e3, hia, har, hc, go_sem, Nat.reduceBEq, Nat.reduceAdd, reduceIte]
   refine test_dec (fun ht => ?_) (fun ht => ?_)
   ·rw [decide_eq_true ht, if_pos rfl] at hsn
    have q1 := (S.bx 1 rfl).eq
    have s2 := S.slA 2 rfl
    have len_s2 := s2.lenF
    have z2 := s2.one
    try simp (disch := (first | exact dA | fail)) only [q1, len_s2, z2, e0, e2, e3, hia, har, hc, y1, go_sem, Nat.reduceBEq, Nat.reduceAdd, reduceIte]
    refine Sp.bsl1 S (by first | rfl | (rw [cells_one (by assumption)]; rfl)) (by first | rfl | simp (disch := assumption) only [go_sem, cells_one, one_as]) fun p5 g5 S E_g5 l_g5 => ?_
    try simp only [cells_agg, cells_int, cells_bool, cells_ptr, cells_str] at S
    have q0 := (S.bx 0 rfl).eq
    have s1 := S.slA 1 rfl
    have len_s1 := s1.lenF
    have z1 := s1.one
    try simp (disch := (first | exact dA | fail)) only [q0, len_s1, z1, e0, e2, e3, go_sem, Nat.reduceBEq, Nat.reduceAdd, reduceIte]
    refine S.app1 (y := false) (b := 56) (by omega) ?_
    clear S
    intro v6 g6 S z6
    try simp (disch := (first | exact dA | fail)) only [e0, e2, e3, w1, go_sem, Nat.reduceBEq, Nat.reduceAdd, reduceIte]
    exact ⟨ks.length - (k + 1), by omega, k + 1, v6, _, rfl, by omega, rfl, rfl, z6, hsn.symm, S⟩
   ·rw [decide_eq_false ht, if_neg (by simp), List.append_nil] at hsn
    have q1 := (S.bx 1 rfl).eq
    have s2 := S.slA 2 rfl
    have len_s2 := s2.lenF
    have z2 := s2.one
    try simp (disch := (first | exact dA | fail)) only [q1, len_s2, z2, e0, e2, e3, w1, go_sem, Nat.reduceBEq, Nat.reduceAdd, reduceIte]
    exact ⟨ks.length - (k + 1), by omega, k + 1, vn, rn, rfl, by omega, rfl, rfl, zn, hsn.symm, S⟩
  ·have hk2 : k = ks.length := by omega
   subst hk2
   rw [List.take_length, List.take_of_length_le (by omega)] at hrn
   subst hrn
   have q1 := (S.bx 1 rfl).eq
   try simp (disch := (first | exact dA | fail)) only [q1, e0, e2, e3, zn, go_sem, Nat.reduceBEq, Nat.reduceAdd, reduceIte]
   refine st1_of (Nat.le_of_ble_eq_true rfl) (by first | rfl | assumption) fun g7 hg => ?_
   have l_g7 := n_set hg
   have S := S.set1 hg
   clear hg
   simp only [sz0, ss0, ts0, tz0, ds0, dz0, ca0, na0, Nat.reduceAdd] at S
   try simp (disch := (first | exact dA | fail)) only [go_sem, Nat.reduceBEq, Nat.reduceAdd, reduceIte]
   refine ⟨vn, sel (ks.map fun x => decide (now < x.till)) rs, ?_⟩
   have S := by simpa only [mc0, mn0, List.getD_cons_zero, List.getD_cons_succ, ds0, dz0, ca0, na0] using Sp.sel S 4 [3, 1, 0] (by simp only [lc0]; omega) (by decide) (by decide)
   have S := S.a2sel (ks.map fun x => decide (now < x.till))
   rw [sel_filter] at S
   have S := by simpa only [mc0, mn0, List.getD_cons_zero, List.getD_cons_succ, ds0, dz0, ca0, na0] using Sp.sel S 3 [1, 2, 0] (by simp only [lc0]; omega) (by decide) (by decide)
   exact S
end
end Go.Proofs.YtaoffieemecioaaDoor



set_option maxRecDepth 20000
namespace Go.Proofs.YtaoffieemecioaaDoor
open Go Go.IW
section
attribute [local go_sem] List.getElem?_cons_zero List.getElem?_cons_succ Option.bind_some List.map_cons List.map_nil Nat.zero_add if_true List.getD_cons_zero List.getD_cons_succ List.contains_cons List.contains_nil Bool.or_true Bool.true_or Bool.or_false Bool.false_or Bool.not_true Bool.not_false true_and and_true rowA_whole mid_get rowO_rows cellO_rows upd_ne Nat.add_assoc Nat.add_zero List.all_cons List.all_nil one_bool one_int one_str one_ptr one_nilptr one_slice one_eslice one_nilslice one_func one_iface one_niliface Bool.and_true Bool.and_self List.length_cons List.length_nil Nat.one_ne_zero Nat.succ_ne_zero if_false List.set_cons_zero List.set_cons_succ lay_nil lay_1 lay_w Option.map_some cells_one rowA_some List.drop_succ_cons List.drop_zero List.take_succ_cons List.take_zero

theorem erase_take {α : Type} {l : List α} {k i : Nat} {x : α} (hk : l[k]? = some x) : (l.take (k + 1)).eraseIdx i = if k = i then (l.take k).eraseIdx i else (l.take k).eraseIdx i ++ [x] := by
 have hl : k < l.length := (List.getElem?_eq_some_iff.1 hk).1
 have hlen : (l.take k).length = k := by simp; omega
 rw [List.take_add_one, hk]
 simp only [Option.toList_some]
 rcases Nat.lt_trichotomy k i with h | h | h
 ·rw [if_neg (by omega), List.eraseIdx_of_length_le (l := l.take k ++ [x]) (by rw [la0, hlen, List.length_singleton]; omega), List.eraseIdx_of_length_le (l := l.take k) (by omega)]
 ·subst h
  rw [if_pos rfl, List.eraseIdx_append_of_length_le (by omega), hlen, Nat.sub_self, List.eraseIdx_of_length_le (l := l.take k) (by omega)]
  simp
 ·rw [if_neg (by omega), List.eraseIdx_append_of_lt_length (by rw [hlen]; exact h)]
theorem _root_.Go.IW.Sp.a2erase {α : Type} {R : List IV → α → As} {h : IH} {L : List As} {rs : List (List IV)} {xs : List α} (i : Nat) (S : Sp h (all2 R rs xs :: L)) : Sp h (all2 R (rs.eraseIdx i) (xs.eraseIdx i) :: L) := by
 by_cases hi : i < xs.length
 ·have hl := S.a2len
  obtain ⟨a1, r, b1, x1, y1, e1, e2, l1, l2, S2⟩ := S.a2at (List.getElem?_eq_getElem hi)
  have S3 := S2.drop.a2join
  have f1 : rs.eraseIdx i = a1 ++ b1 := by rw [e1, List.eraseIdx_append_of_length_le (by omega), l1, Nat.sub_self]; rfl
  have f2 : xs.eraseIdx i = x1 ++ y1 := by rw [e2, List.eraseIdx_append_of_length_le (by omega), l2, Nat.sub_self]; rfl
  rw [f1, f2]
  exact S3
 ·have hl := S.a2len
  rw [List.eraseIdx_of_length_le (by omega), List.eraseIdx_of_length_le (by omega)]
  exact S
def endD (code : Int) (zs : List Int) (ts : List Int) : List Dn := ts.map fun t => ⟨t, code, zs⟩
theorem dn_un {h : IH} {L : List As} {d : Dn} {va : IV} (S : Sp h (ints va d.addrs :: L)) (h1 : va.one = true) : Sp h (dnR (dnRow d va) d :: L) := by
 have S := S.unfact (p := dnRow d va = dnRow d va ∧ va.one = true) ⟨rfl, h1⟩
 exact Sp.unex (F := fun v : IV => stars (fact (dnRow d va = dnRow d v ∧ v.one = true)) (ints v d.addrs)) va S.unstar
set_option maxHeartbeats 1000000 in
theorem l19End_c {h : IH} {L : List As} {w : Nat} {vs vq vk vx vd va : IV} {first now n code0 ent ask code : Int} {rq rd : List (List IV)} {qs : List Qn} {ds : List Dn} {zs : List Int} {i : Nat} {q : Qn}
  (S : Sp h (box w (wdO vs first now n vq vk code0 vx vd ent ask) :: sl false 131 6 vq rq :: all2 qnR rq qs :: sl false 40 3 vd rd :: all2 dnR rd ds :: L))
  (ha : ∀ g, Sp g L → SlR g 1 va (intRows zs)) (hq : qs[i]? = some q) (hm : qs.length ≤ 1000000) (hd : ds.length + q.tickets.length ≤ 1000000) (hz : zs.length ≤ 1000000) :
  ICalls Tryd.prog 65 [.ptr w 0 0, .int .i64 (i : Nat), .int .i64 code, va] h fun r h' => ∃ vq' vd' rq' rd', Sp h' (box w (wdO vs first now n vq' vk code0 vx vd' ent ask) :: sl false 131 6 vq' rq' :: all2 qnR rq' (qs.eraseIdx i) :: sl false 40 3 vd' rd' :: all2 dnR rd' (ds ++ endD code zs q.tickets) :: L) := by
 refine icalls (.of ok65) (Nat.le_of_ble_eq_true rfl) ?_
 unfold c65
 have hql := a2_len S 2 rfl
 have hdl := a2_len S 4 rfl
 have hva := (ha h (S.dn 5)).one
 have hvd1 := (S.slA 3 rfl).one
 have hvq1 := (S.slA 1 rfl).one
 obtain ⟨vt, hrow, hvt⟩ := qn_at S 2 rfl hq
 have hvt1 := hvt.one
 obtain ⟨l, j, hia, hll, har⟩ := (S.slA 1 rfl).at hrow .i64
 have hil := (List.getElem?_eq_some_iff.1 hq).1
 have hrow0 := hrow
 unfold qnRow at har
 have q0 := (S.bx 0 rfl).eq
 have s1 := S.slA 1 rfl
 have len_s1 := s1.lenF
 have z1 := s1.one
 try simp (disch := (first | exact dA | fail)) only [q0, len_s1, z1, hia, har, hva, go_sem, Nat.reduceBEq, Nat.reduceAdd, reduceIte]
 refine Sp.zero S fun p8 g1 S E_g1 l_g1 => ?_
 have q0 := (S.bx 0 rfl).eq
 try simp (disch := (first | exact dA | fail)) only [q0, hvt1, go_sem, Nat.reduceBEq, Nat.reduceAdd, reduceIte]
 refine stw_of rfl rfl (by first | rfl | simp (disch := assumption) only [go_sem, cells_one, one_as]) fun g2 hg => ?_
 have l_g2 := n_set hg
 have S := S.set0 hg
 clear hg
 have q0 := (S.bx 0 rfl).eq
 try simp (disch := (first | exact dA | fail)) only [q0, go_sem, Nat.reduceBEq, Nat.reduceAdd, reduceIte]
 refine loop_at (fun m e g => ∃ (k : Nat) (vd' : IV) (rd' : List (List IV)), m = q.tickets.length - k ∧ k ≤ q.tickets.length ∧ e 0 = .ptr w 0 0 ∧ e 1 = .int .i64 (i : Nat) ∧ e 2 = .int .i64 code ∧ e 3 = va ∧ e 8 = .ptr p8 0 0 ∧ e 9 = .int .i64 (k : Nat) ∧ vd'.one = true ∧
  Sp g (box w (wdO vs first now n vq vk code0 vx vd' ent ask) :: box p8 (.rows [qnRow q vt] 131 6 false) :: sl false 131 6 vq rq :: all2 qnR rq qs :: sl false 40 3 vd' rd' :: all2 dnR rd' (ds ++ endD code zs (q.tickets.take k)) :: L)) q.tickets.length ?_ ?_
 ·refine ⟨0, vd, rd, by omega, by omega, ?_⟩
  try simp (disch := (first | exact dA | fail)) only [hva, go_sem, Nat.reduceBEq, Nat.reduceAdd, reduceIte]
  refine ⟨rfl, hvd1, ?_⟩
  have e0 : ds ++ endD code zs [] = ds := by simp [endD]
  rw [e0]
  have S := by simpa only [mc0, mn0, List.getD_cons_zero, List.getD_cons_succ, ds0, dz0, ca0, na0] using Sp.sel S 2 [1, 0] (by simp only [lc0]; omega) (by decide) (by decide)
  exact S
 ·clear S
  rintro m e g ⟨k, vd', rd', rfl, hk, e0, e1, e2, e3, e8, e9, zd, S⟩
  have hvt' : SlR g 1 vt (intRows q.tickets) := by
   obtain ⟨vt', h1, h2⟩ := qn_at S 3 rfl hq
   rw [hrow0] at h1
   simp only [qnRow, Option.some.injEq, List.cons.injEq, and_true, true_and] at h1
   rw [h1]; exact h2
  have htl := hvt'.lenF
  rw [intRows_len] at htl
  unfold qnRow at S
  have q0 := (S.bx 0 rfl).eq
  have q1 := (S.bx 1 rfl).eq
  try simp (disch := (first | exact dA | fail)) only [q0, q1, e0, e1, e2, e3, e8, e9, htl, hvt1, go_sem, Nat.reduceBEq, Nat.reduceAdd, reduceIte]
  refine test_dec (fun hb => ?_) (fun hb => ?_)
  ·obtain ⟨t, ht⟩ : ∃ t, q.tickets[k]? = some t := ⟨_, List.getElem?_eq_getElem (by omega : k < q.tickets.length)⟩
   obtain ⟨l2, j2, hia2, hll2, har2⟩ := hvt'.at (intRows_at ht) .i64
   have hc2 := cellO_row har2
   have q0 := (S.bx 0 rfl).eq
   have q1 := (S.bx 1 rfl).eq
   try simp (disch := (first | exact dA | fail)) only [q0, q1, e0, e1, e2, e3, e8, e9, htl, hvt1, hia2, har2, hc2, go_sem, Nat.reduceBEq, Nat.reduceAdd, reduceIte]
   refine callA_of (l19Addrs_c S va zs (ha g (S.dn 6)) (by omega)) ?_
   clear S
   rintro r5 g5 ⟨z5, S⟩
   have hvt5 : SlR g5 1 vt (intRows q.tickets) := by
    obtain ⟨vt', h1, h2⟩ := qn_at S 4 rfl hq
    rw [hrow0] at h1
    simp only [qnRow, Option.some.injEq, List.cons.injEq, and_true, true_and] at h1
    rw [h1]; exact h2
   obtain ⟨hia5, har5⟩ := hvt'.at_eq hvt5 (intRows_at ht) hia2
   have hc5 := cellO_row har5
   have q1 := (S.bx 1 rfl).eq
   have q2 := (S.bx 2 rfl).eq
   try simp (disch := (first | exact dA | fail)) only [q1, q2, e0, e1, e2, e3, e8, e9, z5, hia5, hc5, ca0, na0, lay_p, go_sem, Nat.reduceBEq, Nat.reduceAdd, reduceIte]
   refine Sp.bsl1 S (by first | rfl | (rw [cells_one (by assumption)]; rfl)) (by first | rfl | simp (disch := assumption) only [go_sem, cells_one, one_as]) fun p6 g6 S E_g6 l_g6 => ?_
   try simp only [cells_agg, cells_int, cells_bool, cells_ptr, cells_str] at S
   have hvt6 : SlR g6 1 vt (intRows q.tickets) := by
    obtain ⟨vt', h1, h2⟩ := qn_at S 5 rfl hq
    rw [hrow0] at h1
    simp only [qnRow, Option.some.injEq, List.cons.injEq, and_true, true_and] at h1
    rw [h1]; exact h2
   obtain ⟨hia6, har6⟩ := hvt'.at_eq hvt6 (intRows_at ht) hia2
   have hc6 := cellO_row har6
   have hdl6 := a2_len S 7 rfl
   rw [la0] at hdl6
   have hel : (endD code zs (q.tickets.take k)).length ≤ q.tickets.length := by simp [endD]; omega
   have q0 := (S.bx 0 rfl).eq
   have q2 := (S.bx 2 rfl).eq
   have q3 := (S.bx 3 rfl).eq
   have s6 := S.slA 6 rfl
   have len_s6 := s6.lenF
   have z6 := s6.one
   try simp (disch := (first | exact dA | fail)) only [q0, q2, q3, len_s6, z6, e0, e1, e2, e3, e8, e9, hia6, hc6, go_sem, Nat.reduceBEq, Nat.reduceAdd, reduceIte]
   have S := by simpa only [mc0, mn0, List.getD_cons_zero, List.getD_cons_succ, ds0, dz0, ca0, na0] using Sp.sel S 8 [0, 6, 1, 2, 3, 4, 5, 7] (by simp only [lc0]; omega) (by decide) (by decide)
   refine S.app1 (y := false) (b := 40) (by omega) ?_
   clear S
   intro v7 g7 S z7
   have hvt7 : SlR g7 1 vt (intRows q.tickets) := by
    obtain ⟨vt', h1, h2⟩ := qn_at S 5 rfl hq
    rw [hrow0] at h1
    simp only [qnRow, Option.some.injEq, List.cons.injEq, and_true, true_and] at h1
    rw [h1]; exact h2
   obtain ⟨hia7, har7⟩ := hvt'.at_eq hvt7 (intRows_at ht) hia2
   have hc7 := cellO_row har7
   have q2 := (S.bx 2 rfl).eq
   have q3 := (S.bx 3 rfl).eq
   try simp (disch := (first | exact dA | fail)) only [q2, q3, e0, e1, e2, e3, e8, e9, hia7, hc7, z7, go_sem, Nat.reduceBEq, Nat.reduceAdd, reduceIte]
   refine st1_of (Nat.le_of_ble_eq_true rfl) (by first | rfl | assumption) fun g8 hg => ?_
   have l_g8 := n_set hg
   have S := S.set2 hg
   clear hg
   simp only [sz0, ss0, ts0, tz0, ds0, dz0, ca0, na0, Nat.reduceAdd] at S
   have w1 : wr .i64 ((k : Int) + 1) = ((k + 1 : Nat) : Int) := by rw [wr64 _ (by omega)]; rfl
   have hda := hd
   have q2 := (S.bx 2 rfl).eq
   have q3 := (S.bx 3 rfl).eq
   try simp (disch := (first | exact dA | fail)) only [q2, q3, e0, e1, e2, e3, e8, e9, w1, go_sem, Nat.reduceBEq, Nat.reduceAdd, reduceIte]
   have he : ds ++ endD code zs (q.tickets.take (k + 1)) = ds ++ endD code zs (q.tickets.take k) ++ [⟨t, code, zs⟩] := by
    rw [take_snoc ht]; simp [endD]
   have S := by simpa only [mc0, mn0, List.getD_cons_zero, List.getD_cons_succ, ds0, dz0, ca0, na0] using Sp.sel S 2 [1, 0] (by simp only [lc0]; omega) (by decide) (by decide)
   have S := (dn_un (d := ⟨t, code, zs⟩) S z5).a2one
   have S := by simpa only [mc0, mn0, List.getD_cons_zero, List.getD_cons_succ, ds0, dz0, ca0, na0] using Sp.sel S 7 [6, 0, 1, 2, 3, 4, 5] (by simp only [lc0]; omega) (by decide) (by decide)
   have S := S.a2join
   rw [← he] at S
   have S := by simpa only [mc0, mn0, List.getD_cons_zero, List.getD_cons_succ, ds0, dz0, ca0, na0] using Sp.sel S 6 [2, 3, 4, 5, 1, 0] (by simp only [lc0]; omega) (by decide) (by decide)
   exact ⟨q.tickets.length - (k + 1), by omega, k + 1, v7, _, rfl, by omega, rfl, z7, S⟩
  ·have hk2 : k = q.tickets.length := by omega
   subst hk2
   rw [List.take_length] at S
   have S := by simpa only [mc0, mn0, List.getD_cons_zero, List.getD_cons_succ, ds0, dz0, ca0, na0] using Sp.sel S 6 [0, 2, 3, 4, 5] (by simp only [lc0]; omega) (by decide) (by decide)
   have q0 := (S.bx 0 rfl).eq
   have s1 := S.slA 1 rfl
   have len_s1 := s1.lenF
   have z1 := s1.one
   try simp (disch := (first | exact dA | fail)) only [q0, len_s1, z1, e0, e1, e2, e3, e8, e9, go_sem, Nat.reduceBEq, Nat.reduceAdd, reduceIte]
   generalize ds ++ endD code zs q.tickets = ds2 at S ⊢
   refine loop_at (fun m e g => ∃ (k : Nat) (vn : IV), m = qs.length - k ∧ k ≤ qs.length ∧ e 0 = .ptr w 0 0 ∧ e 1 = .int .i64 (i : Nat) ∧ e 10 = vn ∧ e 11 = .int .i64 (k : Nat) ∧ vn.one = true ∧
    Sp g (sl false 131 6 vn ((rq.take k).eraseIdx i) :: box w (wdO vs first now n vq vk code0 vx vd' ent ask) :: sl false 131 6 vq rq :: all2 qnR rq qs :: sl false 40 3 vd' rd' :: all2 dnR rd' ds2 :: L)) qs.length ?_ ?_
   ·refine ⟨0, .eslice true, by omega, by omega, ?_⟩
    try simp (disch := (first | exact dA | fail)) only [e0, e1, go_sem, Nat.reduceBEq, Nat.reduceAdd, reduceIte]
    exact ⟨rfl, by simpa using S.slEmpty (x := false) (el := 131) (sz := 6)⟩
   ·clear S
    rintro m e g ⟨k, vn, rfl, hk, f0, f1, f10, f11, zn, S⟩
    have q1 := (S.bx 1 rfl).eq
    have s2 := S.slA 2 rfl
    have len_s2 := s2.lenF
    have z2 := s2.one
    try simp (disch := (first | exact dA | fail)) only [q1, len_s2, z2, f0, f1, f10, f11, go_sem, Nat.reduceBEq, Nat.reduceAdd, reduceIte]
    refine test_dec (fun hb => ?_) (fun hb => ?_)
    ·obtain ⟨y, hy⟩ : ∃ y, qs[k]? = some y := ⟨_, List.getElem?_eq_getElem (by omega : k < qs.length)⟩
     obtain ⟨vy, hyr, hyt⟩ := qn_at S 3 rfl hy
     have y1 := hyt.one
     obtain ⟨l4, j4, hia4, _, har4⟩ := (S.slA 2 rfl).at hyr .i64
     have wk : wr .i64 ((k : Int) + 1) = ((k + 1 : Nat) : Int) := by rw [wr64 _ (by omega)]; rfl
     have het := erase_take (i := i) hyr
     unfold qnRow at har4 het
     have hlen : ((rq.take k).eraseIdx i).length ≤ 1000000 := by
      have := List.length_eraseIdx_le (rq.take k) i
      rw [List.length_take] at this
      omega
     have q1 := (S.bx 1 rfl).eq
     have s2 := S.slA 2 rfl
     have len_s2 := s2.lenF
     have z2 := s2.one
     try simp (disch := (first | exact dA | fail)) only [q1, len_s2, z2, f0, f1, f10, f11, go_sem, Nat.reduceBEq, Nat.reduceAdd, reduceIte]
     by_cases hki : k = i
     ·have d1 : decide ((k : Int) = (i : Int)) = true := decide_eq_true (by omega)
      rw [if_pos hki] at het
      have q1 := (S.bx 1 rfl).eq
      have s2 := S.slA 2 rfl
      have len_s2 := s2.lenF
      have z2 := s2.one
      try simp (disch := (first | exact dA | fail)) only [q1, len_s2, z2, f0, f1, f10, f11, d1, wk, Bool.not_true, go_sem, Nat.reduceBEq, Nat.reduceAdd, reduceIte]
      exact ⟨qs.length - (k + 1), by omega, k + 1, vn, rfl, by omega, rfl, rfl, zn, by rw [het]; exact S⟩
     ·have d1 : decide ((k : Int) = (i : Int)) = false := decide_eq_false (by omega)
      rw [if_neg hki] at het
      have q1 := (S.bx 1 rfl).eq
      have s2 := S.slA 2 rfl
      have len_s2 := s2.lenF
      have z2 := s2.one
      try simp (disch := (first | exact dA | fail)) only [q1, len_s2, z2, f0, f1, f10, f11, d1, Bool.not_false, hia4, har4, y1, go_sem, Nat.reduceBEq, Nat.reduceAdd, reduceIte]
      refine Sp.bsl1 S (by first | rfl | (rw [cells_one (by assumption)]; rfl)) (by first | rfl | simp (disch := assumption) only [go_sem, cells_one, one_as]) fun p11 g11 S E_g11 l_g11 => ?_
      try simp only [cells_agg, cells_int, cells_bool, cells_ptr, cells_str] at S
      have q0 := (S.bx 0 rfl).eq
      have s1 := S.slA 1 rfl
      have len_s1 := s1.lenF
      have z1 := s1.one
      try simp (disch := (first | exact dA | fail)) only [q0, len_s1, z1, f0, f1, f10, f11, go_sem, Nat.reduceBEq, Nat.reduceAdd, reduceIte]
      refine S.app1 (y := false) (b := 72) (by omega) ?_
      clear S
      intro v12 g12 S z12
      try simp (disch := (first | exact dA | fail)) only [f0, f1, f10, f11, wk, go_sem, Nat.reduceBEq, Nat.reduceAdd, reduceIte]
      exact ⟨qs.length - (k + 1), by omega, k + 1, v12, rfl, by omega, rfl, rfl, z12, by rw [het]; exact S⟩
    ·have hk3 : k = qs.length := by omega
     subst hk3
     rw [List.take_of_length_le (by omega)] at S
     have q1 := (S.bx 1 rfl).eq
     try simp (disch := (first | exact dA | fail)) only [q1, f0, f1, f10, f11, zn, go_sem, Nat.reduceBEq, Nat.reduceAdd, reduceIte]
     refine st1_of (Nat.le_of_ble_eq_true rfl) (by first | rfl | assumption) fun g13 hg => ?_
     have l_g13 := n_set hg
     have S := S.set1 hg
     clear hg
     simp only [sz0, ss0, ts0, tz0, ds0, dz0, ca0, na0, Nat.reduceAdd] at S
     try simp (disch := (first | exact dA | fail)) only [go_sem, Nat.reduceBEq, Nat.reduceAdd, reduceIte]
     have S := by simpa only [mc0, mn0, List.getD_cons_zero, List.getD_cons_succ, ds0, dz0, ca0, na0] using Sp.sel S 6 [3, 1, 0, 4, 5] (by simp only [lc0]; omega) (by decide) (by decide)
     have S := S.a2erase i
     have S := by simpa only [mc0, mn0, List.getD_cons_zero, List.getD_cons_succ, ds0, dz0, ca0, na0] using Sp.sel S 5 [1, 2, 0, 3, 4] (by simp only [lc0]; omega) (by decide) (by decide)
     exact ⟨_, _, _, _, S⟩
end
end Go.Proofs.YtaoffieemecioaaDoor



set_option maxRecDepth 20000
namespace Go.Proofs.YtaoffieemecioaaDoor
open Go Go.IW
section
attribute [local go_sem] List.getElem?_cons_zero List.getElem?_cons_succ Option.bind_some List.map_cons List.map_nil Nat.zero_add if_true List.getD_cons_zero List.getD_cons_succ List.contains_cons List.contains_nil Bool.or_true Bool.true_or Bool.or_false Bool.false_or Bool.not_true Bool.not_false true_and and_true rowA_whole mid_get rowO_rows cellO_rows upd_ne Nat.add_assoc Nat.add_zero List.all_cons List.all_nil one_bool one_int one_str one_ptr one_nilptr one_slice one_eslice one_nilslice one_func one_iface one_niliface Bool.and_true Bool.and_self List.length_cons List.length_nil Nat.one_ne_zero Nat.succ_ne_zero if_false List.set_cons_zero List.set_cons_succ lay_nil lay_1 lay_w Option.map_some cells_one rowA_some List.drop_succ_cons List.drop_zero List.take_succ_cons List.take_zero

def askQ (first : Int) (servers : List Int) (now n : Int) (q : Qn) : Qn := { q with id := (first + 7919 * n).tmod 65536, server := servers.getD (q.asks.toNat % servers.length) 0, asks := q.asks + 1, due := now + 2000 }
def againS (first : Int) (servers : List Int) (st : Rs) (i : Nat) : Rs :=
 match st.l[i]? with
 | none => st
 | some q =>
  if 4 ≤ q.asks then { st with l := st.l.eraseIdx i, done := st.done ++ endD 15 [] q.tickets }
  else { st with n := st.n + 1, l := st.l.set i (askQ first servers st.now st.n q), sent := st.sent ++ [⟨(askQ first servers st.now st.n q).server, (encQ (askQ first servers st.now st.n q).id q.name).1⟩] }
def WS (h : IH) (w : Nat) (vs : IV) (first : Int) (st : Rs) (code ent ask : Int) (L : List As) : Prop :=
 ∃ vq vk vx vd rq rk rx rd, Sp h (box w (wdO vs first st.now st.n vq vk code vx vd ent ask) :: sl false 131 6 vq rq :: all2 qnR rq st.l :: sl false 40 3 vd rd :: all2 dnR rd st.done ::
  sl false 129 4 vk rk :: all2 knR rk st.cache :: sl false 49 2 vx rx :: all2 sdR rx st.sent :: L)
theorem sd_un {h : IH} {L : List As} {s : Sd} {vb : IV} (S : Sp h (byts vb s.bytes :: L)) (h1 : vb.one = true) : Sp h (sdR (sdRow s vb) s :: L) := by
 have S := S.unfact (p := sdRow s vb = sdRow s vb ∧ vb.one = true) ⟨rfl, h1⟩
 exact Sp.unex (F := fun v : IV => stars (fact (sdRow s vb = sdRow s v ∧ v.one = true)) (byts v s.bytes)) vb S.unstar
theorem qn_set {h : IH} {L : List As} {rs : List (List IV)} {qs : List Qn} {i : Nat} {q q' : Qn} {vt : IV} (S : Sp h (all2 qnR rs qs :: L)) (hq : qs[i]? = some q) (hr : rs[i]? = some (qnRow q vt)) (ht : q'.tickets = q.tickets) : Sp h (all2 qnR (rs.set i (qnRow q' vt)) (qs.set i q') :: L) := by
 obtain ⟨a1, r, b1, x1, y1, e1, e2, l1, l2, S2⟩ := S.a2at hq
 have hrr : r = qnRow q vt := by
  rw [e1, List.getElem?_append_right (by omega), l1, Nat.sub_self] at hr
  simpa using hr
 have f1 : rs.set i (qnRow q' vt) = a1 ++ qnRow q' vt :: b1 := by rw [e1, List.set_append_right _ _ (by omega), l1, Nat.sub_self]; rfl
 have f2 : qs.set i q' = x1 ++ q' :: y1 := by rw [e2, List.set_append_right _ _ (by omega), l2, Nat.sub_self]; rfl
 rw [f1, f2]
 have S3 : Sp h (qnR (qnRow q' vt) q' :: all2 qnR a1 x1 :: all2 qnR b1 y1 :: L) := S2.imp fun f hf => by
  obtain ⟨v, g1, g2, e, ⟨k1, k2, k3⟩, k4⟩ := hf
  rw [hrr] at k2
  simp only [qnRow, List.cons.injEq, and_true, true_and] at k2
  subst k2
  exact ⟨f, ⟨vt, g1, g2, e, ⟨k1, rfl, k3⟩, by rw [ht]; exact k4⟩, List.Sublist.refl _⟩
 exact S3.a2mid
set_option maxHeartbeats 2000000 in
theorem l19Again_c {h : IH} {L : List As} {w : Nat} {vs : IV} {first code ent ask : Int} {st : Rs} {servers : List Int} {i : Nat} {q : Qn} (W : WS h w vs first st code ent ask L) (hv : ∀ g, Sp g L → SlR g 1 vs (intRows servers))
  (hq : st.l[i]? = some q) (f0 : 0 ≤ first) (f1 : first ≤ 65535) (n0 : 0 ≤ st.n) (n1 : st.n ≤ 1000000000000) (t0 : 0 ≤ st.now) (t1 : st.now ≤ 1000000000) (a0 : 0 ≤ q.asks) (s0 : servers ≠ []) (s1 : servers.length ≤ 4)
  (hm : st.l.length ≤ 1000000) (hd : st.done.length + q.tickets.length ≤ 1000000) (hx : st.sent.length ≤ 1000000) (hn : q.name.length ≤ 1048576) :
  ICalls Tryd.prog 64 [.ptr w 0 0, .int .i64 (i : Nat)] h fun r h' => WS h' w vs first (againS first servers st i) code ent ask L := by
 refine icalls (.of ok64) (Nat.le_of_ble_eq_true rfl) ?_
 unfold c64
 obtain ⟨vq, vk, vx, vd, rq, rk, rx, rd, S⟩ := W
 have hql := a2_len S 2 rfl
 have hdl := a2_len S 4 rfl
 have hxl := a2_len S 8 rfl
 obtain ⟨vt, hrow, hvt⟩ := qn_at S 2 rfl hq
 have hvt1 := hvt.one
 obtain ⟨l, j, hia, hll, har⟩ := (S.slA 1 rfl).at hrow .i64
 have hil := (List.getElem?_eq_some_iff.1 hq).1
 have hrow0 := hrow
 unfold qnRow at har
 have q0 := (S.bx 0 rfl).eq
 have s1 := S.slA 1 rfl
 have len_s1 := s1.lenF
 have z1 := s1.one
 try simp (disch := (first | exact dA | fail)) only [q0, len_s1, z1, hia, har, go_sem, Nat.reduceBEq, Nat.reduceAdd, reduceIte]
 refine Sp.zero S fun p8 g1 S E_g1 l_g1 => ?_
 have q0 := (S.bx 0 rfl).eq
 try simp (disch := (first | exact dA | fail)) only [q0, hvt1, go_sem, Nat.reduceBEq, Nat.reduceAdd, reduceIte]
 refine stw_of rfl rfl (by first | rfl | simp (disch := assumption) only [go_sem, cells_one, one_as]) fun g2 hg => ?_
 have l_g2 := n_set hg
 have S := S.set0 hg
 clear hg
 have q0 := (S.bx 0 rfl).eq
 try simp (disch := (first | exact dA | fail)) only [q0, go_sem, Nat.reduceBEq, Nat.reduceAdd, reduceIte]
 refine test_dec (fun hb => ?_) (fun hb => ?_)
 ·skip
  try simp (disch := (first | exact dA | fail)) only [go_sem, Nat.reduceBEq, Nat.reduceAdd, reduceIte]
  have S := by simpa only [mc0, mn0, List.getD_cons_zero, List.getD_cons_succ, ds0, dz0, ca0, na0] using Sp.sel S 10 [1, 2, 3, 4, 5, 6, 7, 8, 9] (by simp only [lc0]; omega) (by decide) (by decide)
  refine callA_of (l19End_c (zs := []) (code := 15) S (fun g _ => SlR.nil g 1) hq (by omega) (by omega) (by simp)) ?_
  clear S
  rintro r3 g3 ⟨vq', vd', rq', rd', S⟩
  try simp (disch := (first | exact dA | fail)) only [go_sem, Nat.reduceBEq, Nat.reduceAdd, reduceIte]
  unfold againS
  rw [hq]
  simp only [if_pos hb]
  exact ⟨vq', vk, vx, vd', rq', rk, rx, rd', S⟩
 ·have w1 : wr .i64 (7919 * st.n) = 7919 * st.n := wr64 _ (by omega)
  have w2 : wr .i64 (first + 7919 * st.n) = first + 7919 * st.n := wr64 _ (by omega)
  have r1 := ib_rem .i64 (first + 7919 * st.n) 65536 (by decide)
  have q0 := (S.bx 0 rfl).eq
  have q1 := (S.bx 1 rfl).eq
  try simp (disch := (first | exact dA | fail)) only [q0, q1, w1, w2, r1, go_sem, Nat.reduceBEq, Nat.reduceAdd, reduceIte]
  refine st1_of (Nat.le_of_ble_eq_true rfl) (by first | rfl | assumption) fun g3 hg => ?_
  have l_g3 := n_set hg
  have S := S.set0 hg
  clear hg
  simp only [sz0, ss0, ts0, tz0, ds0, dz0, ca0, na0, Nat.reduceAdd] at S
  have w3 : wr .i64 (st.n + 1) = st.n + 1 := wr64 _ (by omega)
  have q0 := (S.bx 0 rfl).eq
  have q1 := (S.bx 1 rfl).eq
  try simp (disch := (first | exact dA | fail)) only [q0, q1, w3, go_sem, Nat.reduceBEq, Nat.reduceAdd, reduceIte]
  refine st1_of (Nat.le_of_ble_eq_true rfl) (by first | rfl | assumption) fun g4 hg => ?_
  have l_g4 := n_set hg
  have S := S.set1 hg
  clear hg
  simp only [sz0, ss0, ts0, tz0, ds0, dz0, ca0, na0, Nat.reduceAdd] at S
  have hv4 := hv g4 (S.dn 10)
  have hv1 := hv4.one
  have hvl := hv4.lenF
  rw [intRows_len] at hvl
  have hs0 : 0 < servers.length := List.length_pos_iff.2 s0
  obtain ⟨k, hk⟩ : ∃ k, k = q.asks.toNat % servers.length := ⟨_, rfl⟩
  have hkl : k < servers.length := by rw [hk]; exact Nat.mod_lt _ hs0
  have r2 := ib_rem .i64 q.asks (servers.length : Int) (by omega)
  have r2' : q.asks.tmod (servers.length : Int) = (k : Int) := by
   rw [Int.tmod_eq_emod_of_nonneg a0, hk]
   obtain ⟨a, ha⟩ : ∃ a : Nat, q.asks = (a : Int) := ⟨q.asks.toNat, by omega⟩
   rw [ha]; simp
  rw [r2'] at r2
  obtain ⟨sv, hsv⟩ : ∃ sv, servers[k]? = some sv := ⟨_, List.getElem?_eq_getElem hkl⟩
  obtain ⟨l5, j5, hia5, _, har5⟩ := hv4.at (intRows_at hsv) .i64
  have hc5 := cellO_row har5
  have hgd : servers.getD (q.asks.toNat % servers.length) 0 = sv := by rw [← hk, List.getD_eq_getElem?_getD, hsv]; rfl
  have q0 := (S.bx 0 rfl).eq
  have q1 := (S.bx 1 rfl).eq
  try simp (disch := (first | exact dA | fail)) only [q0, q1, hvl, r2, hia5, hc5, hv1, go_sem, Nat.reduceBEq, Nat.reduceAdd, reduceIte]
  refine st1_of (Nat.le_of_ble_eq_true rfl) (by first | rfl | assumption) fun g5 hg => ?_
  have l_g5 := n_set hg
  have S := S.set0 hg
  clear hg
  simp only [sz0, ss0, ts0, tz0, ds0, dz0, ca0, na0, Nat.reduceAdd] at S
  have w4 : wr .i64 (q.asks + 1) = q.asks + 1 := by
   by_cases hbig : q.asks < 4
   ·exact wr64 _ (by omega)
   ·omega
  have q0 := (S.bx 0 rfl).eq
  have q1 := (S.bx 1 rfl).eq
  try simp (disch := (first | exact dA | fail)) only [q0, q1, w4, go_sem, Nat.reduceBEq, Nat.reduceAdd, reduceIte]
  refine st1_of (Nat.le_of_ble_eq_true rfl) (by first | rfl | assumption) fun g6 hg => ?_
  have l_g6 := n_set hg
  have S := S.set0 hg
  clear hg
  simp only [sz0, ss0, ts0, tz0, ds0, dz0, ca0, na0, Nat.reduceAdd] at S
  have w5 : wr .i64 (st.now + 2000) = st.now + 2000 := wr64 _ (by omega)
  have q0 := (S.bx 0 rfl).eq
  have q1 := (S.bx 1 rfl).eq
  try simp (disch := (first | exact dA | fail)) only [q0, q1, w5, go_sem, Nat.reduceBEq, Nat.reduceAdd, reduceIte]
  refine st1_of (Nat.le_of_ble_eq_true rfl) (by first | rfl | assumption) fun g7 hg => ?_
  have l_g7 := n_set hg
  have S := S.set0 hg
  clear hg
  simp only [sz0, ss0, ts0, tz0, ds0, dz0, ca0, na0, Nat.reduceAdd] at S
  have S := by simpa only [mc0, mn0, List.getD_cons_zero, List.getD_cons_succ, ds0, dz0, ca0, na0] using Sp.sel S 4 [2, 0, 1, 3] (by simp only [lc0]; omega) (by decide) (by decide)
  have S0 := S
  clear S
  obtain ⟨lq, hvq, S⟩ := S0.slBox (by rintro rfl; simp at hrow)
  clear S0
  have io : iadrO (IObj.rows rq 131 6 false) 6 lq 0 rq.length (i : Int) = some (.ptr lq i 0) := by rw [iadrO_nat (by omega)]; simp
  have q0 := (S.bx 0 rfl).eq
  have q1 := (S.bx 1 rfl).eq
  have q2 := (S.bx 2 rfl).eq
  try simp (disch := (first | exact dA | fail)) only [q0, q1, q2, hvq, iadrF_sl, io, hvt1, go_sem, Nat.reduceBEq, Nat.reduceAdd, reduceIte]
  refine str_of hrow0 rfl rfl (by simp (disch := assumption) only [go_sem, cells_one, one_as]) fun g8 hg => ?_
  have l_g8 := n_set hg
  have S := S.set0 hg
  clear hg
  have hq' : askQ first servers st.now st.n q = { q with id := (first + 7919 * st.n).tmod 65536, server := sv, asks := q.asks + 1, due := st.now + 2000 } := by unfold askQ; rw [hgd]
  have S0 := S
  clear S
  have S := S0.boxSl (n := rq.length) (x := false) (by simp) (.inr (by intro h0; have := congrArg List.length h0; simp at this; rw [this] at hrow; simp at hrow))
  clear S0
  rw [← hvq] at S
  have S := by simpa only [mc0, mn0, List.getD_cons_zero, List.getD_cons_succ, ds0, dz0, ca0, na0] using Sp.sel S 4 [3, 0, 1, 2] (by simp only [lc0]; omega) (by decide) (by decide)
  have S := qn_set (q' := { q with id := (first + 7919 * st.n).tmod 65536, server := sv, asks := q.asks + 1, due := st.now + 2000 }) S hq hrow0 rfl
  have q2 := (S.bx 2 rfl).eq
  have q3 := (S.bx 3 rfl).eq
  try simp (disch := (first | exact dA | fail)) only [q2, q3, ca0, na0, lay_p, go_sem, Nat.reduceBEq, Nat.reduceAdd, reduceIte]
  refine callA_of (specEncodeQuery_c g8 ((first + 7919 * st.n).tmod 65536) q.name hn) ?_
  rintro r9 g9 ⟨v9, rfl, o9, E9⟩
  have S := S.ofOwn E9 o9
  have y9 := o9.sl.one
  have q3 := (S.bx 3 rfl).eq
  have q4 := (S.bx 4 rfl).eq
  have s9 := S.slA 9 rfl
  have len_s9 := s9.lenF
  have z9 := s9.one
  try simp (disch := (first | exact dA | fail)) only [q3, q4, len_s9, z9, y9, ca0, na0, lay_p, go_sem, Nat.reduceBEq, Nat.reduceAdd, reduceIte]
  refine Sp.bsl1 S (by first | rfl | (rw [cells_one (by assumption)]; rfl)) (by first | rfl | simp (disch := assumption) only [go_sem, cells_one, one_as]) fun p10 g10 S E_g10 l_g10 => ?_
  try simp only [cells_agg, cells_int, cells_bool, cells_ptr, cells_str] at S
  have q0 := (S.bx 0 rfl).eq
  have q4 := (S.bx 4 rfl).eq
  have q5 := (S.bx 5 rfl).eq
  have s10 := S.slA 10 rfl
  have len_s10 := s10.lenF
  have z10 := s10.one
  try simp (disch := (first | exact dA | fail)) only [q0, q4, q5, len_s10, z10, y9, go_sem, Nat.reduceBEq, Nat.reduceAdd, reduceIte]
  have S := by simpa only [mc0, mn0, List.getD_cons_zero, List.getD_cons_succ, ds0, dz0, ca0, na0] using Sp.sel S 12 [0, 10, 1, 2, 3, 4, 5, 6, 7, 8, 9, 11] (by simp only [lc0]; omega) (by decide) (by decide)
  refine S.app1 (y := false) (b := 32) (by omega) ?_
  clear S
  intro v12 g12 S z12
  have q4 := (S.bx 4 rfl).eq
  have q5 := (S.bx 5 rfl).eq
  try simp (disch := (first | exact dA | fail)) only [q4, q5, z12, go_sem, Nat.reduceBEq, Nat.reduceAdd, reduceIte]
  refine st1_of (Nat.le_of_ble_eq_true rfl) (by first | rfl | assumption) fun g13 hg => ?_
  have l_g13 := n_set hg
  have S := S.set5 hg
  clear hg
  simp only [sz0, ss0, ts0, tz0, ds0, dz0, ca0, na0, Nat.reduceAdd] at S
  try simp (disch := (first | exact dA | fail)) only [go_sem, Nat.reduceBEq, Nat.reduceAdd, reduceIte]
  have S := by simpa only [mc0, mn0, List.getD_cons_zero, List.getD_cons_succ, ds0, dz0, ca0, na0] using Sp.sel S 2 [1, 0] (by simp only [lc0]; omega) (by decide) (by decide)
  have S := (sd_un (s := ⟨sv, (encQ ((first + 7919 * st.n).tmod 65536) q.name).1⟩) S y9).a2one
  have S := by simpa only [mc0, mn0, List.getD_cons_zero, List.getD_cons_succ, ds0, dz0, ca0, na0] using Sp.sel S 11 [10, 0, 1, 2, 3, 5, 6, 7, 8, 9] (by simp only [lc0]; omega) (by decide) (by decide)
  have S := S.a2join
  have S := by simpa only [mc0, mn0, List.getD_cons_zero, List.getD_cons_succ, ds0, dz0, ca0, na0] using Sp.sel S 9 [4, 3, 2, 5, 6, 7, 8, 1, 0] (by simp only [lc0]; omega) (by decide) (by decide)
  have hag : againS first servers st i = { st with n := st.n + 1, l := st.l.set i { q with id := (first + 7919 * st.n).tmod 65536, server := sv, asks := q.asks + 1, due := st.now + 2000 }, sent := st.sent ++ [⟨sv, (encQ ((first + 7919 * st.n).tmod 65536) q.name).1⟩] } := by
   unfold againS
   rw [hq]
   simp only [if_neg hb, hq']
  rw [hag]
  exact ⟨_, vk, _, vd, _, rk, _, rd, S⟩
end
end Go.Proofs.YtaoffieemecioaaDoor



set_option maxRecDepth 20000
namespace Go.Proofs.YtaoffieemecioaaDoor
open Go Go.IW
section
attribute [local go_sem] List.getElem?_cons_zero List.getElem?_cons_succ Option.bind_some List.map_cons List.map_nil Nat.zero_add if_true List.getD_cons_zero List.getD_cons_succ List.contains_cons List.contains_nil Bool.or_true Bool.true_or Bool.or_false Bool.false_or Bool.not_true Bool.not_false true_and and_true rowA_whole mid_get rowO_rows cellO_rows upd_ne Nat.add_assoc Nat.add_zero List.all_cons List.all_nil one_bool one_int one_str one_ptr one_nilptr one_slice one_eslice one_nilslice one_func one_iface one_niliface Bool.and_true Bool.and_self List.length_cons List.length_nil Nat.one_ne_zero Nat.succ_ne_zero if_false List.set_cons_zero List.set_cons_succ lay_nil lay_1 lay_w Option.map_some cells_one rowA_some List.drop_succ_cons List.drop_zero List.take_succ_cons List.take_zero

def dueOf (qs : List Qn) (b : Nat) : Int := match qs[b]? with | some q => q.due | none => 0
def dueN (e : Int) (qs : List Qn) : Nat → Option Nat
 | 0 => none
 | k + 1 => match qs[k]? with
  | none => dueN e qs k
  | some q => match dueN e qs k with
   | none => if q.due ≤ e then some k else none
   | some b => if q.due ≤ e ∧ q.due < dueOf qs b then some k else some b
def idxI : Option Nat → Int
 | none => -1
 | some k => k
theorem dueN_lt {e : Int} {qs : List Qn} : ∀ {k b : Nat}, dueN e qs k = some b → b < k ∧ b < qs.length
 | 0, b, h => by cases h
 | k + 1, b, h => by
  unfold dueN at h
  split at h
  ·have := dueN_lt h; omega
  ·rename_i q hq
   have hk := (List.getElem?_eq_some_iff.1 hq).1
   split at h
   ·split at h
    ·cases h; omega
    ·cases h
   ·rename_i b' hb'
    have := dueN_lt hb'
    split at h
    ·cases h; omega
    ·cases h; omega
set_option maxHeartbeats 1000000 in
theorem l19Due_c {h : IH} {L : List As} {w : Nat} {vs vq vk vx vd : IV} {first now n code ent ask : Int} {rq : List (List IV)} {qs : List Qn}
  (S : Sp h (box w (wdO vs first now n vq vk code vx vd ent ask) :: sl false 131 6 vq rq :: all2 qnR rq qs :: L)) (hm : qs.length ≤ 1000000) (en : Int) :
  ICalls Tryd.prog 66 [.ptr w 0 0, .int .i64 en] h fun r h' => r = .int .i64 (idxI (dueN en qs qs.length)) ∧ h' = h := by
 refine icalls (.of ok66) (Nat.le_of_ble_eq_true rfl) ?_
 unfold c66
 have hql := a2_len S 2 rfl
 try simp (disch := (first | exact dA | fail)) only [go_sem, Nat.reduceBEq, Nat.reduceAdd, reduceIte]
 refine loop_at (fun m e g => ∃ k : Nat, m = qs.length - k ∧ k ≤ qs.length ∧ e 0 = .ptr w 0 0 ∧ e 1 = .int .i64 en ∧ e 5 = .int .i64 (idxI (dueN en qs k)) ∧ e 6 = .int .i64 (k : Nat) ∧ g = h) qs.length ?_ ?_
 ·refine ⟨0, by omega, by omega, ?_⟩
  try simp (disch := (first | exact dA | fail)) only [go_sem, Nat.reduceBEq, Nat.reduceAdd, reduceIte]
  exact ⟨rfl, rfl⟩
 ·rintro m e g ⟨k, rfl, hk, e0, e1, e5, e6, rfl⟩
  have q0 := (S.bx 0 rfl).eq
  have s1 := S.slA 1 rfl
  have len_s1 := s1.lenF
  have z1 := s1.one
  try simp (disch := (first | exact dA | fail)) only [q0, len_s1, z1, e0, e1, e5, e6, go_sem, Nat.reduceBEq, Nat.reduceAdd, reduceIte]
  refine test_dec (fun hb => ?_) (fun hb => ?_)
  ·obtain ⟨x, hx⟩ : ∃ x, qs[k]? = some x := ⟨_, List.getElem?_eq_getElem (by omega : k < qs.length)⟩
   obtain ⟨va, hrow, hva⟩ := qn_at S 2 rfl hx
   obtain ⟨l, j, hia, hll, har⟩ := (S.slA 1 rfl).at hrow .i64
   unfold qnRow at har
   have hc := cellO_row har
   have w1 : wr .i64 ((k : Int) + 1) = ((k + 1 : Nat) : Int) := by rw [wr64 _ (by omega)]; rfl
   cases hbest : dueN en qs k with
   | none =>
    have hn : dueN en qs (k + 1) = if x.due ≤ en then some k else none := by
     show (match qs[k]? with | none => dueN en qs k | some q => _) = _
     rw [hx]
     simp only [hbest]
    rw [hbest] at e5
    have e5' : e 5 = .int .i64 (-1) := e5
    have b1 : decide ((-1 : Int) < 0) = true := rfl
    have q0 := (S.bx 0 rfl).eq
    have s1 := S.slA 1 rfl
    have len_s1 := s1.lenF
    have z1 := s1.one
    try simp (disch := (first | exact dA | fail)) only [q0, len_s1, z1, e0, e1, e5', e6, hia, hc, b1, Bool.and_false, go_sem, Nat.reduceBEq, Nat.reduceAdd, reduceIte]
    refine test_of (fun ht => ?_) (fun ht => ?_)
    ·rw [if_pos (by simpa using ht)] at hn
     try simp (disch := (first | exact dA | fail)) only [e0, e1, e5', e6, w1, go_sem, Nat.reduceBEq, Nat.reduceAdd, reduceIte]
     exact ⟨qs.length - (k + 1), by omega, k + 1, rfl, by omega, congrArg (fun o => IV.int .i64 (idxI o)) hn.symm, rfl⟩
    ·rw [if_neg (by simpa using ht)] at hn
     try simp (disch := (first | exact dA | fail)) only [e0, e1, e5', e6, w1, go_sem, Nat.reduceBEq, Nat.reduceAdd, reduceIte]
     exact ⟨qs.length - (k + 1), by omega, k + 1, rfl, by omega, congrArg (fun o => IV.int .i64 (idxI o)) hn.symm, rfl⟩
   | some b =>
    obtain ⟨hb1, hb2⟩ := dueN_lt hbest
    obtain ⟨y, hy⟩ : ∃ y, qs[b]? = some y := ⟨_, List.getElem?_eq_getElem hb2⟩
    have hn : dueN en qs (k + 1) = if x.due ≤ en ∧ x.due < y.due then some k else some b := by
     show (match qs[k]? with | none => dueN en qs k | some q => _) = _
     rw [hx]
     simp only [hbest, dueOf, hy]
    obtain ⟨vb, hrow2, hvb⟩ := qn_at S 2 rfl hy
    obtain ⟨l2, j2, hia2, hll2, har2⟩ := (S.slA 1 rfl).at hrow2 .i64
    unfold qnRow at har2
    have hc2 := cellO_row har2
    rw [hbest] at e5
    have e5' : e 5 = .int .i64 (b : Nat) := e5
    have b1 : decide ((b : Int) < 0) = false := decide_eq_false (by omega)
    have q0 := (S.bx 0 rfl).eq
    have s1 := S.slA 1 rfl
    have len_s1 := s1.lenF
    have z1 := s1.one
    try simp (disch := (first | exact dA | fail)) only [q0, len_s1, z1, e0, e1, e5', e6, hia, hc, hia2, hc2, b1, go_sem, Nat.reduceBEq, Nat.reduceAdd, reduceIte]
    refine test_of (fun ht => ?_) (fun ht => ?_)
    ·rw [if_pos (by simpa using ht)] at hn
     try simp (disch := (first | exact dA | fail)) only [e0, e1, e5', e6, w1, go_sem, Nat.reduceBEq, Nat.reduceAdd, reduceIte]
     exact ⟨qs.length - (k + 1), by omega, k + 1, rfl, by omega, congrArg (fun o => IV.int .i64 (idxI o)) hn.symm, rfl⟩
    ·rw [if_neg (by simpa using ht)] at hn
     try simp (disch := (first | exact dA | fail)) only [e0, e1, e5', e6, w1, go_sem, Nat.reduceBEq, Nat.reduceAdd, reduceIte]
     exact ⟨qs.length - (k + 1), by omega, k + 1, rfl, by omega, congrArg (fun o => IV.int .i64 (idxI o)) hn.symm, rfl⟩
  ·have hk2 : k = qs.length := by omega
   subst hk2
   try simp (disch := (first | exact dA | fail)) only [e0, e1, e5, e6, go_sem, Nat.reduceBEq, Nat.reduceAdd, reduceIte]
end
end Go.Proofs.YtaoffieemecioaaDoor



set_option maxRecDepth 20000
namespace Go.Proofs.YtaoffieemecioaaDoor
open Go Go.IW

theorem sum_erase {α : Type} (f : α → Nat) : ∀ {l : List α} {i : Nat} {q : α}, l[i]? = some q → ((l.eraseIdx i).map f).sum + f q = (l.map f).sum
 | [], _, _, h => by simp at h
 | x :: l, 0, q, h => by
  simp at h; subst h
  simp; omega
 | x :: l, i + 1, q, h => by
  have := sum_erase f (l := l) (i := i) (q := q) (by simpa using h)
  simp only [List.eraseIdx_cons_succ, mc0, List.sum_cons]
  omega
theorem sum_set {α : Type} (f : α → Nat) : ∀ {l : List α} {i : Nat} {q q' : α}, l[i]? = some q → ((l.set i q').map f).sum + f q = (l.map f).sum + f q'
 | [], _, _, _, h => by simp at h
 | x :: l, 0, q, q', h => by
  simp at h; subst h
  simp; omega
 | x :: l, i + 1, q, q', h => by
  have := sum_set f (l := l) (i := i) (q := q) (q' := q') (by simpa using h)
  simp only [ss0, mc0, List.sum_cons]
  omega
theorem sum_mem {α : Type} (f : α → Nat) {l : List α} {i : Nat} {q : α} (h : l[i]? = some q) : f q ≤ (l.map f).sum := by
 have := sum_erase f h; omega
def mu (l : List Qn) : Nat := (l.map fun q => 5 - q.asks.toNat).sum
def tks (l : List Qn) : Nat := (l.map fun q => q.tickets.length).sum
structure Rg (st : Rs) : Prop where
 t0 : 0 ≤ st.now
 t1 : st.now ≤ 1000000000
 n0 : 0 ≤ st.n
 n1 : st.n + mu st.l ≤ 1000000000
 l : st.l.length ≤ 16
 q : ∀ q ∈ st.l, 0 ≤ q.asks ∧ q.asks ≤ 4 ∧ okName q.name = true ∧ 0 ≤ q.due
 dn : st.done.length + tks st.l ≤ 100000
 sx : st.sent.length + mu st.l ≤ 100000
theorem endD_len (c : Int) (zs ts : List Int) : (endD c zs ts).length = ts.length := by simp [endD]
theorem again_rg {first : Int} {servers : List Int} {st : Rs} {i : Nat} {q : Qn} (h : Rg st) (hq : st.l[i]? = some q) : Rg (againS first servers st i) ∧ mu (againS first servers st i).l < mu st.l ∧ (againS first servers st i).now = st.now := by
 obtain ⟨a0, a1, a2, a3⟩ := h.q q (List.mem_of_getElem? hq)
 have hl := h.l
 have hn1 := h.n1
 have hdn := h.dn
 have hsx := h.sx
 unfold againS
 rw [hq]
 simp only
 by_cases h4 : 4 ≤ q.asks
 ·rw [if_pos h4]
  have m1 := sum_erase (fun q : Qn => 5 - q.asks.toNat) hq
  have m2 := sum_erase (fun q : Qn => q.tickets.length) hq
  refine ⟨⟨h.t0, h.t1, h.n0, ?_, ?_, ?_, ?_, ?_⟩, ?_, rfl⟩
  ·simp only [mu] at hn1 ⊢; omega
  ·have := List.length_eraseIdx_le st.l i
   simp only; omega
  ·intro x hx
   exact h.q x (List.mem_of_mem_eraseIdx hx)
  ·simp only [tks, la0, endD_len] at hdn ⊢; omega
  ·simp only [mu] at hsx ⊢; omega
  ·simp only [mu]; omega
 ·rw [if_neg h4]
  have m1 := sum_set (fun q : Qn => 5 - q.asks.toNat) (q' := askQ first servers st.now st.n q) hq
  have m2 := sum_set (fun q : Qn => q.tickets.length) (q' := askQ first servers st.now st.n q) hq
  have e1 : (askQ first servers st.now st.n q).asks = q.asks + 1 := rfl
  have e2 : (askQ first servers st.now st.n q).tickets = q.tickets := rfl
  simp only [e1, e2] at m1 m2
  have ht0 := h.t0
  have hn0 := h.n0
  refine ⟨⟨h.t0, h.t1, ?_, ?_, ?_, ?_, ?_, ?_⟩, ?_, rfl⟩
  ·show 0 ≤ st.n + 1; omega
  ·simp only [mu] at hn1 ⊢; omega
  ·simp only [List.length_set]; exact hl
  ·intro x hx
   rcases List.mem_or_eq_of_mem_set hx with hx | hx
   ·exact h.q x hx
   ·rw [hx]
    exact ⟨by show 0 ≤ q.asks + 1; omega, by show q.asks + 1 ≤ 4; omega, a2, by show 0 ≤ st.now + 2000; omega⟩
  ·simp only [tks] at hdn ⊢; omega
  ·simp only [mu, la0, List.length_singleton] at hsx ⊢; omega
  ·simp only [mu]; omega
theorem dueN_due {e : Int} {qs : List Qn} : ∀ {k b : Nat}, dueN e qs k = some b → ∃ q, qs[b]? = some q ∧ q.due ≤ e
 | 0, b, h => by cases h
 | k + 1, b, h => by
  unfold dueN at h
  split at h
  ·exact dueN_due h
  ·rename_i q hq
   split at h
   ·split at h
    ·rename_i hd; cases h; exact ⟨q, hq, hd⟩
    ·cases h
   ·rename_i b' hb'
    split at h
    ·rename_i hd; cases h; exact ⟨q, hq, hd.1⟩
    ·cases h; exact dueN_due hb'
def passR (first : Int) (servers : List Int) (e : Int) : Nat → Rs → Rs
 | 0, st => { st with now := e }
 | f + 1, st => match dueN e st.l st.l.length with
  | none => { st with now := e }
  | some b => passR first servers e f (againS first servers { st with now := dueOf st.l b } b)
theorem rg_now {st : Rs} (h : Rg st) {t : Int} (h0 : 0 ≤ t) (h1 : t ≤ 1000000000) : Rg { st with now := t } := ⟨h0, h1, h.n0, h.n1, h.l, h.q, h.dn, h.sx⟩
theorem passR_none {first : Int} {servers : List Int} {e : Int} {f : Nat} {st : Rs} (h : dueN e st.l st.l.length = none) : passR first servers e f st = { st with now := e } := by
 cases f with
 | zero => rfl
 | succ f => unfold passR; rw [h]
theorem passR_some {first : Int} {servers : List Int} {e : Int} {f b : Nat} {st : Rs} (h : dueN e st.l st.l.length = some b) : passR first servers e (f + 1) st = passR first servers e f (againS first servers { st with now := dueOf st.l b } b) := by
 rw [passR, h]
theorem mu_zero {st : Rs} (h : Rg st) (h0 : mu st.l = 0) : st.l = [] := by
 cases hl : st.l with
 | nil => rfl
 | cons q l =>
  have := h.q q (by rw [hl]; simp)
  rw [hl] at h0
  simp only [mu, mc0, List.sum_cons] at h0
  omega
theorem pass_rg {first : Int} {servers : List Int} {e : Int} (e0 : 0 ≤ e) (e1 : e ≤ 1000000000) : ∀ (f : Nat) {st : Rs}, Rg st → Rg (passR first servers e f st)
 | 0, st, h => rg_now h e0 e1
 | f + 1, st, h => by
  cases hd : dueN e st.l st.l.length with
  | none => rw [passR_none hd]; exact rg_now h e0 e1
  | some b =>
   rw [passR_some hd]
   obtain ⟨q, hq, hqe⟩ := dueN_due hd
   have hqm := h.q q (List.mem_of_getElem? hq)
   have hdo : dueOf st.l b = q.due := by unfold dueOf; rw [hq]
   have h1 := rg_now h (t := dueOf st.l b) (by rw [hdo]; exact hqm.2.2.2) (by rw [hdo]; omega)
   exact pass_rg e0 e1 f (again_rg (first := first) (servers := servers) (st := { st with now := dueOf st.l b }) h1 hq).1
end Go.Proofs.YtaoffieemecioaaDoor



set_option maxRecDepth 20000
namespace Go.Proofs.YtaoffieemecioaaDoor
open Go Go.IW
section
attribute [local go_sem] List.getElem?_cons_zero List.getElem?_cons_succ Option.bind_some List.map_cons List.map_nil Nat.zero_add if_true List.getD_cons_zero List.getD_cons_succ List.contains_cons List.contains_nil Bool.or_true Bool.true_or Bool.or_false Bool.false_or Bool.not_true Bool.not_false true_and and_true rowA_whole mid_get rowO_rows cellO_rows upd_ne Nat.add_assoc Nat.add_zero List.all_cons List.all_nil one_bool one_int one_str one_ptr one_nilptr one_slice one_eslice one_nilslice one_func one_iface one_niliface Bool.and_true Bool.and_self List.length_cons List.length_nil Nat.one_ne_zero Nat.succ_ne_zero if_false List.set_cons_zero List.set_cons_succ lay_nil lay_1 lay_w Option.map_some cells_one rowA_some List.drop_succ_cons List.drop_zero List.take_succ_cons List.take_zero

set_option maxHeartbeats 1000000 in
theorem l19Pass_c {h : IH} {L : List As} {w : Nat} {vs : IV} {first code ent ask : Int} {st : Rs} {servers : List Int} (W : WS h w vs first st code ent ask L) (hv : ∀ g, Sp g L → SlR g 1 vs (intRows servers))
  (hg : Rg st) (f0 : 0 ≤ first) (f1 : first ≤ 65535) (s0 : servers ≠ []) (s1 : servers.length ≤ 4) (n : Int) (n0 : 0 ≤ n) (n1 : n ≤ 1000000000 - st.now) :
  ICalls Tryd.prog 41 [.ptr w 0 0, .int .i64 n] h fun r h' => WS h' w vs first (passR first servers (st.now + n) (mu st.l) st) code ent ask L := by
 refine icalls (.of ok41) (Nat.le_of_ble_eq_true rfl) ?_
 unfold c41
 have t0 := hg.t0
 have hl16 := hg.l
 obtain ⟨en, hen⟩ : ∃ en, en = st.now + n := ⟨_, rfl⟩
 have w0 : wr .i64 (st.now + n) = en := by rw [wr64 _ (by omega), hen]
 obtain ⟨vq, vk, vx, vd, rq, rk, rx, rd, S⟩ := W
 have q0 := (S.bx 0 rfl).eq
 try simp (disch := (first | exact dA | fail)) only [q0, w0, go_sem, Nat.reduceBEq, Nat.reduceAdd, reduceIte]
 refine callA_of (l19Due_c S (by omega) en) ?_
 rintro r2 g2 ⟨rfl, rfl⟩
 rw [← hen]
 try simp (disch := (first | exact dA | fail)) only [go_sem, Nat.reduceBEq, Nat.reduceAdd, reduceIte]
 refine loop_at (fun m e g => ∃ (st' : Rs) (f : Nat), m = mu st'.l ∧ Rg st' ∧ e 0 = .ptr w 0 0 ∧ e 4 = .int .i64 en ∧ e 5 = .int .i64 (idxI (dueN en st'.l st'.l.length)) ∧ passR first servers en f st' = passR first servers en (mu st.l) st ∧ mu st'.l ≤ f ∧
  WS g w vs first st' code ent ask L) (mu st.l) ?_ ?_
 ·refine ⟨st, mu st.l, rfl, hg, ?_⟩
  try simp (disch := (first | exact dA | fail)) only [go_sem, Nat.reduceBEq, Nat.reduceAdd, reduceIte]
  exact ⟨Nat.le_refl _, vq, vk, vx, vd, rq, rk, rx, rd, S⟩
 ·clear S
  rintro m e g ⟨st', f, rfl, hg', e0, e4, e5, hp, hf, W⟩
  cases hd : dueN en st'.l st'.l.length with
  | none =>
   rw [hd] at e5
   have e5' : e 5 = .int .i64 (-1) := e5
   have b1 : decide ((0 : Int) ≤ -1) = false := rfl
   obtain ⟨vq, vk, vx, vd, rq, rk, rx, rd, S⟩ := W
   have q0 := (S.bx 0 rfl).eq
   try simp (disch := (first | exact dA | fail)) only [q0, e0, e4, e5', b1, go_sem, Nat.reduceBEq, Nat.reduceAdd, reduceIte]
   refine st1_of (Nat.le_of_ble_eq_true rfl) (by first | rfl | assumption) fun g3 hg => ?_
   have l_g3 := n_set hg
   have S := S.set0 hg
   clear hg
   simp only [sz0, ss0, ts0, tz0, ds0, dz0, ca0, na0, Nat.reduceAdd] at S
   try simp (disch := (first | exact dA | fail)) only [go_sem, Nat.reduceBEq, Nat.reduceAdd, reduceIte]
   rw [← hp, passR_none hd]
   exact ⟨vq, vk, vx, vd, rq, rk, rx, rd, S⟩
  | some b =>
   rw [hd] at e5
   have e5' : e 5 = .int .i64 (b : Nat) := e5
   have b1 : decide ((0 : Int) ≤ (b : Nat)) = true := decide_eq_true (by omega)
   obtain ⟨q, hq, hqe⟩ := dueN_due hd
   have hqm := hg'.q q (List.mem_of_getElem? hq)
   have hdo : dueOf st'.l b = q.due := by unfold dueOf; rw [hq]
   have h1 := rg_now hg' (t := dueOf st'.l b) (by rw [hdo]; exact hqm.2.2.2) (by rw [hdo]; omega)
   obtain ⟨h2, h3, h4⟩ := again_rg (first := first) (servers := servers) (st := { st' with now := dueOf st'.l b }) h1 hq
   have hl' := hg'.l
   have hn1 := hg'.n1
   have hdn := hg'.dn
   have hsx := hg'.sx
   have htk := sum_mem (fun q : Qn => q.tickets.length) hq
   have hl2 := h2.l
   simp only [tks] at hdn
   obtain ⟨f', rfl⟩ : ∃ f', f = f' + 1 := by
    cases f with
    | zero =>
     exfalso
     have := mu_zero hg' (by omega)
     rw [this] at hq
     simp at hq
    | succ f' => exact ⟨f', rfl⟩
   obtain ⟨vq, vk, vx, vd, rq, rk, rx, rd, S⟩ := W
   obtain ⟨vt, hrow, hvt⟩ := qn_at S 2 rfl hq
   obtain ⟨l, j, hia, hll, har⟩ := (S.slA 1 rfl).at hrow .i64
   unfold qnRow at har
   have hc := cellO_row har
   have q0 := (S.bx 0 rfl).eq
   try simp (disch := (first | exact dA | fail)) only [q0, e0, e4, e5', b1, hia, hc, go_sem, Nat.reduceBEq, Nat.reduceAdd, reduceIte]
   refine st1_of (Nat.le_of_ble_eq_true rfl) (by first | rfl | assumption) fun g3 hg => ?_
   have l_g3 := n_set hg
   have S := S.set0 hg
   clear hg
   simp only [sz0, ss0, ts0, tz0, ds0, dz0, ca0, na0, Nat.reduceAdd] at S
   have W : WS g3 w vs first { st' with now := dueOf st'.l b } code ent ask L := ⟨vq, vk, vx, vd, rq, rk, rx, rd, by rw [hdo]; exact S⟩
   clear S
   try simp (disch := (first | exact dA | fail)) only [e0, e4, e5', go_sem, Nat.reduceBEq, Nat.reduceAdd, reduceIte]
   refine callA_of (l19Again_c W hv hq f0 f1 hg'.n0 (by show st'.n ≤ 1000000000000; omega) h1.t0 h1.t1 hqm.1 s0 s1 (by show st'.l.length ≤ 1000000; omega) (by show st'.done.length + q.tickets.length ≤ 1000000; omega) (by show st'.sent.length ≤ 1000000; omega) (by have := (okName_ne hqm.2.2.1).2; omega)) ?_
   clear W
   rintro r5 g5 ⟨vq', vk', vx', vd', rq', rk', rx', rd', S⟩
   try simp (disch := (first | exact dA | fail)) only [e0, e4, e5', go_sem, Nat.reduceBEq, Nat.reduceAdd, reduceIte]
   refine callA_of (l19Due_c S (by omega) en) ?_
   rintro r6 g6 ⟨rfl, rfl⟩
   try simp (disch := (first | exact dA | fail)) only [e0, e4, e5', go_sem, Nat.reduceBEq, Nat.reduceAdd, reduceIte]
   exact ⟨_, h3, _, f', rfl, h2, rfl, by rw [← passR_some hd]; exact hp, by have h3 : mu (againS first servers { st' with now := dueOf st'.l b } b).l < mu st'.l := h3; omega, vq', vk', vx', vd', rq', rk', rx', rd', S⟩
end
end Go.Proofs.YtaoffieemecioaaDoor



set_option maxRecDepth 20000
namespace Go.Proofs.YtaoffieemecioaaDoor
open Go Go.IW
section
attribute [local go_sem] List.getElem?_cons_zero List.getElem?_cons_succ Option.bind_some List.map_cons List.map_nil Nat.zero_add if_true List.getD_cons_zero List.getD_cons_succ List.contains_cons List.contains_nil Bool.or_true Bool.true_or Bool.or_false Bool.false_or Bool.not_true Bool.not_false true_and and_true rowA_whole mid_get rowO_rows cellO_rows upd_ne Nat.add_assoc Nat.add_zero List.all_cons List.all_nil one_bool one_int one_str one_ptr one_nilptr one_slice one_eslice one_nilslice one_func one_iface one_niliface Bool.and_true Bool.and_self List.length_cons List.length_nil Nat.one_ne_zero Nat.succ_ne_zero if_false List.set_cons_zero List.set_cons_succ lay_nil lay_1 lay_w Option.map_some cells_one rowA_some List.drop_succ_cons List.drop_zero List.take_succ_cons List.take_zero

def addT (t : Int) (q : Qn) : Qn := { q with tickets := q.tickets ++ [t] }
def wantR (first : Int) (servers : List Int) (ticket : Int) (name : Tx) (st : Rs) : Rs × Int :=
 match (freshK st.now st.cache).find? (fun k => decide (k.name = name)) with
 | some k => ({ st with cache := freshK st.now st.cache, done := st.done ++ [⟨ticket, k.code, k.addrs⟩] }, 0)
 | none => match st.l.findIdx? (fun q => decide (q.name = name)) with
  | some i => ({ st with cache := freshK st.now st.cache, l := match st.l[i]? with | some q => st.l.set i (addT ticket q) | none => st.l }, 0)
  | none => if 16 ≤ st.l.length then ({ st with cache := freshK st.now st.cache }, 18)
   else (againS first servers { st with cache := freshK st.now st.cache, l := st.l ++ [⟨name, 0, 0, 0, 0, [ticket]⟩] } st.l.length, 0)
theorem find_at {α : Type} {p : α → Bool} {l : List α} {k : Nat} {x : α} (h0 : ∀ y ∈ l.take k, p y = false) (hk : l[k]? = some x) (hx : p x = true) : l.find? p = some x := by
 have h1 : l = l.take k ++ x :: l.drop (k + 1) := by
  obtain ⟨h1, rfl⟩ := List.getElem?_eq_some_iff.1 hk
  rw [List.getElem_cons_drop, List.take_append_drop]
 rw [h1, List.find?_append, List.find?_cons, hx]
 have : (l.take k).find? p = none := List.find?_eq_none.2 fun y hy => by rw [h0 y hy]; simp
 rw [this]; rfl
theorem findIdx_at {α : Type} {p : α → Bool} {l : List α} {k : Nat} {x : α} (h0 : ∀ y ∈ l.take k, p y = false) (hk : l[k]? = some x) (hx : p x = true) : l.findIdx? p = some k := by
 rw [List.findIdx?_eq_some_iff_getElem]
 obtain ⟨h1, rfl⟩ := List.getElem?_eq_some_iff.1 hk
 refine ⟨h1, hx, fun j hj => ?_⟩
 rw [h0 _ (List.mem_take_iff_getElem.2 ⟨j, by omega, rfl⟩)]
 simp
theorem take_no {α : Type} {p : α → Bool} {l : List α} {k : Nat} {x : α} (h0 : ∀ y ∈ l.take k, p y = false) (hk : l[k]? = some x) (hx : p x = false) : ∀ y ∈ l.take (k + 1), p y = false := by
 intro y hy
 rw [take_snoc hk] at hy
 rcases List.mem_append.1 hy with hy | hy
 ·exact h0 y hy
 ·rw [List.mem_singleton.1 hy]; exact hx
theorem qn_focus {h : IH} {L : List As} {rs : List (List IV)} {qs : List Qn} {i : Nat} {q : Qn} {vt : IV} (S : Sp h (all2 qnR rs qs :: L)) (hq : qs[i]? = some q) (hr : rs[i]? = some (qnRow q vt)) :
  ∃ a1 b1 x1 y1, rs = a1 ++ qnRow q vt :: b1 ∧ qs = x1 ++ q :: y1 ∧ a1.length = i ∧ x1.length = i ∧ vt.one = true ∧ Sp h (ints vt q.tickets :: all2 qnR a1 x1 :: all2 qnR b1 y1 :: L) := by
 obtain ⟨a1, r, b1, x1, y1, e1, e2, l1, l2, S2⟩ := S.a2at hq
 have hrr : r = qnRow q vt := by
  rw [e1, List.getElem?_append_right (by omega), l1, Nat.sub_self] at hr
  simpa using hr
 obtain ⟨v, S3⟩ := S2.ex
 obtain ⟨⟨k2, k3⟩, S4⟩ := S3.star.fact
 rw [hrr] at k2
 simp only [qnRow, List.cons.injEq, and_true, true_and] at k2
 subst k2
 exact ⟨a1, b1, x1, y1, by rw [e1, hrr], e2, l1, l2, k3, S4⟩
theorem qn_un {h : IH} {L : List As} {q : Qn} {vt : IV} (S : Sp h (ints vt q.tickets :: L)) (h1 : vt.one = true) : Sp h (qnR (qnRow q vt) q :: L) := by
 have S := S.unfact (p := qnRow q vt = qnRow q vt ∧ vt.one = true) ⟨rfl, h1⟩
 exact Sp.unex (F := fun v : IV => stars (fact (qnRow q vt = qnRow q v ∧ v.one = true)) (ints v q.tickets)) vt S.unstar
set_option maxHeartbeats 2000000 in
theorem l19Ask_c {h : IH} {L : List As} {w : Nat} {vs : IV} {first code ent ask ticket : Int} {st : Rs} {servers : List Int} {name : Tx} (W : WS h w vs first st code ent ask L) (hv : ∀ g, Sp g L → SlR g 1 vs (intRows servers))
  (hg : Rg st) (f0 : 0 ≤ first) (f1 : first ≤ 65535) (sv0 : servers ≠ []) (sv1 : servers.length ≤ 4) (hn : okName name = true) (hc : st.cache.length ≤ 32) (ha : ∀ k ∈ st.cache, k.addrs.length ≤ 100) (hd : st.done.length + tks st.l ≤ 90000) (hx : st.sent.length + mu st.l ≤ 90000) (hn1 : st.n + mu st.l ≤ 900000000) :
  ICalls Tryd.prog 39 [.ptr w 0 0, .int .i64 ticket, .str name] h fun r h' => r = .int .i64 (wantR first servers ticket name st).2 ∧ WS h' w vs first (wantR first servers ticket name st).1 code ent ask L := by
 refine icalls (.of ok39) (Nat.le_of_ble_eq_true rfl) ?_
 unfold c39
 obtain ⟨vq, vk, vx, vd, rq, rk, rx, rd, S⟩ := W
 have hl16 := hg.l
 try simp (disch := (first | exact dA | fail)) only [go_sem, Nat.reduceBEq, Nat.reduceAdd, reduceIte]
 have S := by simpa only [mc0, mn0, List.getD_cons_zero, List.getD_cons_succ, ds0, dz0, ca0, na0] using Sp.sel S 9 [0, 5, 6, 1, 2, 3, 4, 7, 8] (by simp only [lc0]; omega) (by decide) (by decide)
 refine callA_of (l19Fresh_c S (Nat.le_trans hc (by decide))) ?_
 clear S
 rintro r1 g1 ⟨vk, rk, S⟩
 have S := by simpa only [mc0, mn0, List.getD_cons_zero, List.getD_cons_succ, ds0, dz0, ca0, na0] using Sp.sel S 9 [0, 3, 4, 5, 6, 1, 2, 7, 8] (by simp only [lc0]; omega) (by decide) (by decide)
 have hfl : (freshK st.now st.cache).length ≤ 32 := Nat.le_trans (List.length_filter_le _ _) hc
 have hfa : ∀ k ∈ freshK st.now st.cache, k.addrs.length ≤ 100 := fun k hk => ha k (List.mem_filter.1 hk).1
 generalize hck : freshK st.now st.cache = ck at S hfl hfa
 have hkl := a2_len S 6 rfl
 have hdl := a2_len S 4 rfl
 have hql := a2_len S 2 rfl
 have hvd1 := (S.slA 3 rfl).one
 try simp (disch := (first | exact dA | fail)) only [go_sem, Nat.reduceBEq, Nat.reduceAdd, reduceIte]
 refine loop_at (fun m e g => ∃ k : Nat, m = ck.length - k ∧ k ≤ ck.length ∧ e 0 = .ptr w 0 0 ∧ e 1 = .int .i64 ticket ∧ e 2 = .str name ∧ e 7 = .int .i64 (k : Nat) ∧ g = g1 ∧ (∀ y ∈ ck.take k, decide (y.name = name) = false)) ck.length ?_ ?_
 ·refine ⟨0, by omega, by omega, ?_⟩
  try simp (disch := (first | exact dA | fail)) only [go_sem, Nat.reduceBEq, Nat.reduceAdd, reduceIte]
  simp
 ·rintro m e g ⟨k, rfl, hk, e0, e1, e2, e7, rfl, hno⟩
  have q0 := (S.bx 0 rfl).eq
  have s5 := S.slA 5 rfl
  have len_s5 := s5.lenF
  have z5 := s5.one
  try simp (disch := (first | exact dA | fail)) only [q0, len_s5, z5, e0, e1, e2, e7, go_sem, Nat.reduceBEq, Nat.reduceAdd, reduceIte]
  refine test_dec (fun hb => ?_) (fun hb => ?_)
  ·obtain ⟨x, hx⟩ : ∃ x, ck[k]? = some x := ⟨_, List.getElem?_eq_getElem (by omega : k < ck.length)⟩
   obtain ⟨va, hrow, hva⟩ := kn_at S 6 rfl hx
   have hva1 := hva.one
   obtain ⟨l, j, hia, hll, har⟩ := (S.slA 5 rfl).at hrow .i64
   unfold knRow at har
   have hce := cellO_row har
   have w1 : wr .i64 ((k : Int) + 1) = ((k + 1 : Nat) : Int) := by rw [wr64 _ (by omega)]; rfl
   have q0 := (S.bx 0 rfl).eq
   have s5 := S.slA 5 rfl
   have len_s5 := s5.lenF
   have z5 := s5.one
   try simp (disch := (first | exact dA | fail)) only [q0, len_s5, z5, e0, e1, e2, e7, hia, hce, go_sem, Nat.reduceBEq, Nat.reduceAdd, reduceIte]
   refine test_dec (fun ht => ?_) (fun ht => ?_)
   ·have hxa := hfa x (List.mem_of_getElem? hx)
    have hsk := S.slA 5 rfl
    have q0 := (S.bx 0 rfl).eq
    have s5 := S.slA 5 rfl
    have len_s5 := s5.lenF
    have z5 := s5.one
    try simp (disch := (first | exact dA | fail)) only [q0, len_s5, z5, e0, e1, e2, e7, hia, hce, hva1, go_sem, Nat.reduceBEq, Nat.reduceAdd, reduceIte]
    refine callA_of (l19Addrs_c S va x.addrs hva (by omega)) ?_
    clear S
    rintro r5 g5 ⟨y5, S⟩
    obtain ⟨hia5, har5⟩ := hsk.at_eq (S.slA 6 rfl) hrow hia
    unfold knRow at har5
    have hce5 := cellO_row har5
    have q1 := (S.bx 1 rfl).eq
    try simp (disch := (first | exact dA | fail)) only [q1, e0, e1, e2, e7, y5, hia5, hce5, hva1, ca0, na0, lay_p, go_sem, Nat.reduceBEq, Nat.reduceAdd, reduceIte]
    refine Sp.bsl1 S (by first | rfl | (rw [cells_one (by assumption)]; rfl)) (by first | rfl | simp (disch := assumption) only [go_sem, cells_one, one_as]) fun p6 g6 S E_g6 l_g6 => ?_
    try simp only [cells_agg, cells_int, cells_bool, cells_ptr, cells_str] at S
    obtain ⟨hia6, har6⟩ := hsk.at_eq (S.slA 7 rfl) hrow hia
    unfold knRow at har6
    have hce6 := cellO_row har6
    have q0 := (S.bx 0 rfl).eq
    have q2 := (S.bx 2 rfl).eq
    have s5 := S.slA 5 rfl
    have len_s5 := s5.lenF
    have z5 := s5.one
    try simp (disch := (first | exact dA | fail)) only [q0, q2, len_s5, z5, e0, e1, e2, e7, y5, hia6, hce6, hva1, go_sem, Nat.reduceBEq, Nat.reduceAdd, reduceIte]
    have S := by simpa only [mc0, mn0, List.getD_cons_zero, List.getD_cons_succ, ds0, dz0, ca0, na0] using Sp.sel S 7 [0, 5, 1, 2, 3, 4, 6] (by simp only [lc0]; omega) (by decide) (by decide)
    refine S.app1 (y := false) (b := 40) (by omega) ?_
    clear S
    intro v7 g7 S z7
    obtain ⟨hia7, har7⟩ := hsk.at_eq (S.slA 6 rfl) hrow hia
    unfold knRow at har7
    have hce7 := cellO_row har7
    have q2 := (S.bx 2 rfl).eq
    try simp (disch := (first | exact dA | fail)) only [q2, e0, e1, e2, e7, y5, z7, hia7, hce7, hva1, go_sem, Nat.reduceBEq, Nat.reduceAdd, reduceIte]
    refine st1_of (Nat.le_of_ble_eq_true rfl) (by first | rfl | assumption) fun g8 hg => ?_
    have l_g8 := n_set hg
    have S := S.set2 hg
    clear hg
    simp only [sz0, ss0, ts0, tz0, ds0, dz0, ca0, na0, Nat.reduceAdd] at S
    try simp (disch := (first | exact dA | fail)) only [go_sem, Nat.reduceBEq, Nat.reduceAdd, reduceIte]
    have hfind : (freshK st.now st.cache).find? (fun k => decide (k.name = name)) = some x := by rw [hck]; exact find_at hno hx (decide_eq_true ht)
    have hw : wantR first servers ticket name st = ({ st with cache := ck, done := st.done ++ [⟨ticket, x.code, x.addrs⟩] }, 0) := by
     unfold wantR
     rw [hfind]
     simp only [hck]
    rw [hw]
    have S := by simpa only [mc0, mn0, List.getD_cons_zero, List.getD_cons_succ, ds0, dz0, ca0, na0] using Sp.sel S 2 [1, 0] (by simp only [lc0]; omega) (by decide) (by decide)
    have S := (dn_un (d := ⟨ticket, x.code, x.addrs⟩) S y5).a2one
    have S := by simpa only [mc0, mn0, List.getD_cons_zero, List.getD_cons_succ, ds0, dz0, ca0, na0] using Sp.sel S 6 [5, 0, 1, 2, 3, 4] (by simp only [lc0]; omega) (by decide) (by decide)
    have S := S.a2join
    have S := by simpa only [mc0, mn0, List.getD_cons_zero, List.getD_cons_succ, ds0, dz0, ca0, na0] using Sp.sel S 5 [2, 3, 4, 1, 0] (by simp only [lc0]; omega) (by decide) (by decide)
    exact ⟨rfl, vq, vk, vx, v7, rq, rk, rx, _, S⟩
   ·skip
    try simp (disch := (first | exact dA | fail)) only [e0, e1, e2, e7, w1, go_sem, Nat.reduceBEq, Nat.reduceAdd, reduceIte]
    exact ⟨ck.length - (k + 1), by omega, k + 1, rfl, by omega, rfl, take_no hno hx (decide_eq_false ht)⟩
  ·have hk2 : k = ck.length := by omega
   subst hk2
   rw [List.take_length] at hno
   have hfn : ck.find? (fun k => decide (k.name = name)) = none := List.find?_eq_none.2 fun y hy => by rw [hno y hy]; simp
   try simp (disch := (first | exact dA | fail)) only [e0, e1, e2, e7, go_sem, Nat.reduceBEq, Nat.reduceAdd, reduceIte]
   clear e7
   refine loop_at (fun m e g' => ∃ k : Nat, m = st.l.length - k ∧ k ≤ st.l.length ∧ e 0 = .ptr w 0 0 ∧ e 1 = .int .i64 ticket ∧ e 2 = .str name ∧ e 8 = .int .i64 (k : Nat) ∧ g' = g ∧ (∀ y ∈ st.l.take k, decide (y.name = name) = false)) st.l.length ?_ ?_
   ·refine ⟨0, by omega, by omega, ?_⟩
    try simp (disch := (first | exact dA | fail)) only [e0, e1, e2, go_sem, Nat.reduceBEq, Nat.reduceAdd, reduceIte]
    simp
   ·rintro m e g' ⟨k, rfl, hk, e0, e1, e2, e8, rfl, hno2⟩
    have q0 := (S.bx 0 rfl).eq
    have s1 := S.slA 1 rfl
    have len_s1 := s1.lenF
    have z1 := s1.one
    try simp (disch := (first | exact dA | fail)) only [q0, len_s1, z1, e0, e1, e2, e8, go_sem, Nat.reduceBEq, Nat.reduceAdd, reduceIte]
    refine test_dec (fun hb => ?_) (fun hb => ?_)
    ·obtain ⟨x, hx⟩ : ∃ x, st.l[k]? = some x := ⟨_, List.getElem?_eq_getElem (by omega : k < st.l.length)⟩
     obtain ⟨va, hrow, hva⟩ := qn_at S 2 rfl hx
     have hva1 := hva.one
     obtain ⟨l, j, hia, hll, har⟩ := (S.slA 1 rfl).at hrow .i64
     have hrow0 := hrow
     unfold qnRow at har
     have hce := cellO_row har
     have w1 : wr .i64 ((k : Int) + 1) = ((k + 1 : Nat) : Int) := by rw [wr64 _ (by omega)]; rfl
     have q0 := (S.bx 0 rfl).eq
     have s1 := S.slA 1 rfl
     have len_s1 := s1.lenF
     have z1 := s1.one
     try simp (disch := (first | exact dA | fail)) only [q0, len_s1, z1, e0, e1, e2, e8, hia, hce, go_sem, Nat.reduceBEq, Nat.reduceAdd, reduceIte]
     refine test_dec (fun ht => ?_) (fun ht => ?_)
     ·have htk := sum_mem (fun q : Qn => q.tickets.length) hx
      simp only [tks] at hd
      have S := by simpa only [mc0, mn0, List.getD_cons_zero, List.getD_cons_succ, ds0, dz0, ca0, na0] using Sp.sel S 3 [2, 1, 0] (by simp only [lc0]; omega) (by decide) (by decide)
      obtain ⟨a1, b1, x1, y1, eA, eB, lA, lB, hv1, S⟩ := qn_focus S hx hrow0
      have hsk := S.slA 3 rfl
      have q4 := (S.bx 4 rfl).eq
      have s3 := S.slA 3 rfl
      have len_s3 := s3.lenF
      have z3 := s3.one
      try simp (disch := (first | exact dA | fail)) only [q4, len_s3, z3, e0, e1, e2, e8, hia, hce, hva1, go_sem, Nat.reduceBEq, Nat.reduceAdd, reduceIte]
      refine Sp.bsl1 S (by first | rfl | (rw [cells_one (by assumption)]; rfl)) (by first | rfl | simp (disch := assumption) only [go_sem, cells_one, one_as]) fun p6 g6 S E_g6 l_g6 => ?_
      try simp only [cells_agg, cells_int, cells_bool, cells_ptr, cells_str] at S
      obtain ⟨hia6, har6⟩ := hsk.at_eq (S.slA 4 rfl) hrow0 hia
      unfold qnRow at har6
      have hce6 := cellO_row har6
      unfold ints at S
      have q0 := (S.bx 0 rfl).eq
      have q5 := (S.bx 5 rfl).eq
      have s4 := S.slA 4 rfl
      have len_s4 := s4.lenF
      have z4 := s4.one
      try simp (disch := (first | exact dA | fail)) only [q0, q5, len_s4, z4, e0, e1, e2, e8, hia6, hce6, hva1, go_sem, Nat.reduceBEq, Nat.reduceAdd, reduceIte]
      refine S.app1 (y := false) (b := 8) (by rw [intRows_len]; omega) ?_
      clear S
      intro v7 g7 S z7
      have S := by simpa only [mc0, mn0, List.getD_cons_zero, List.getD_cons_succ, ds0, dz0, ca0, na0] using Sp.sel S 4 [3, 0, 1, 2] (by simp only [lc0]; omega) (by decide) (by decide)
      have S0 := S
      clear S
      obtain ⟨lq, hvq, S⟩ := S0.slBox (by rintro rfl; simp at hrow0)
      clear S0
      have io : iadrO (IObj.rows rq 131 6 false) 6 lq 0 rq.length (k : Int) = some (.ptr lq k 0) := by rw [iadrO_nat (by omega)]; simp
      unfold qnRow at hrow0
      have q0 := (S.bx 0 rfl).eq
      have q4 := (S.bx 4 rfl).eq
      try simp (disch := (first | exact dA | fail)) only [q0, q4, e0, e1, e2, e8, hvq, iadrF_sl, io, hrow0, z7, go_sem, Nat.reduceBEq, Nat.reduceAdd, reduceIte]
      refine stc_of hrow0 (Nat.le_of_ble_eq_true rfl) z7 fun g8 hg8 => ?_
      have l_g8 := n_set hg8
      have S := S.set0 hg8
      clear hg8
      have e5 : [IV.str x.name, .int .i64 x.id, .int .i64 x.server, .int .i64 x.asks, .int .i64 x.due, va].set 5 v7 = qnRow (addT ticket x) v7 := rfl
      rw [e5] at S
      have S0 := S
      clear S
      have S := S0.boxSl (n := rq.length) (x := false) (by simp) (.inr (by intro h0; have := congrArg List.length h0; simp at this; rw [this] at hrow0; simp at hrow0))
      clear S0
      rw [← hvq] at S
      have S := by simpa only [mc0, mn0, List.getD_cons_zero, List.getD_cons_succ, ds0, dz0, ca0, na0] using Sp.sel S 2 [1, 0] (by simp only [lc0]; omega) (by decide) (by decide)
      have ei : intRows x.tickets ++ [[IV.int .i64 ticket]] = intRows (addT ticket x).tickets := by simp [addT, intRows]
      rw [ei] at S
      have S := qn_un (q := addT ticket x) S z7
      have S := by simpa only [mc0, mn0, List.getD_cons_zero, List.getD_cons_succ, ds0, dz0, ca0, na0] using Sp.sel S 4 [0, 2, 3, 1] (by simp only [lc0]; omega) (by decide) (by decide)
      have S := S.a2mid
      have fA : rq.set k (qnRow (addT ticket x) v7) = a1 ++ qnRow (addT ticket x) v7 :: b1 := by rw [eA, List.set_append_right _ _ (by omega), lA, Nat.sub_self]; rfl
      have fB : st.l.set k (addT ticket x) = x1 ++ addT ticket x :: y1 := by rw [eB, List.set_append_right _ _ (by omega), lB, Nat.sub_self]; rfl
      rw [← fA, ← fB] at S
      try simp (disch := (first | exact dA | fail)) only [go_sem, Nat.reduceBEq, Nat.reduceAdd, reduceIte]
      have hw : wantR first servers ticket name st = ({ st with cache := ck, l := st.l.set k (addT ticket x) }, 0) := by
       unfold wantR
       rw [hck, hfn, findIdx_at hno2 hx (decide_eq_true ht)]
       simp only [hx]
      rw [hw]
      have S := by simpa only [mc0, mn0, List.getD_cons_zero, List.getD_cons_succ, ds0, dz0, ca0, na0] using Sp.sel S 3 [2, 1, 0] (by simp only [lc0]; omega) (by decide) (by decide)
      exact ⟨rfl, vq, vk, vx, vd, _, rk, rx, rd, S⟩
     ·skip
      try simp (disch := (first | exact dA | fail)) only [e0, e1, e2, e8, w1, go_sem, Nat.reduceBEq, Nat.reduceAdd, reduceIte]
      exact ⟨st.l.length - (k + 1), by omega, k + 1, rfl, by omega, rfl, take_no hno2 hx (decide_eq_false ht)⟩
    ·have hk3 : k = st.l.length := by omega
     subst hk3
     rw [List.take_length] at hno2
     have hfn2 : st.l.findIdx? (fun q => decide (q.name = name)) = none := by simpa using hno2
     by_cases h16 : 16 ≤ st.l.length
     ·have d1 : decide ((16 : Int) ≤ rq.length) = true := decide_eq_true (by omega)
      have q0 := (S.bx 0 rfl).eq
      have s1 := S.slA 1 rfl
      have len_s1 := s1.lenF
      have z1 := s1.one
      try simp (disch := (first | exact dA | fail)) only [q0, len_s1, z1, e0, e1, e2, e8, d1, go_sem, Nat.reduceBEq, Nat.reduceAdd, reduceIte]
      have hw : wantR first servers ticket name st = ({ st with cache := ck }, 18) := by
       unfold wantR
       rw [hck, hfn, hfn2]
       simp only [if_pos h16]
      rw [hw]
      exact ⟨rfl, vq, vk, vx, vd, rq, rk, rx, rd, S⟩
     ·have d1 : decide ((16 : Int) ≤ rq.length) = false := decide_eq_false (by omega)
      have q0 := (S.bx 0 rfl).eq
      have s1 := S.slA 1 rfl
      have len_s1 := s1.lenF
      have z1 := s1.one
      try simp (disch := (first | exact dA | fail)) only [q0, len_s1, z1, e0, e1, e2, e8, d1, go_sem, Nat.reduceBEq, Nat.reduceAdd, reduceIte]
      refine Sp.bsl1 S (by first | rfl | (rw [cells_one (by assumption)]; rfl)) (by first | rfl | simp (disch := assumption) only [go_sem, cells_one, one_as]) fun p9 g9 S E_g9 l_g9 => ?_
      try simp only [cells_agg, cells_int, cells_bool, cells_ptr, cells_str] at S
      have S0 := S
      clear S
      have S := S0.boxSl (n := 1) (x := false) rfl (.inr (by simp))
      clear S0
      have zt : (IV.slice p9 0 1).one = true := rfl
      have q1 := (S.bx 1 rfl).eq
      have s2 := S.slA 2 rfl
      have len_s2 := s2.lenF
      have z2 := s2.one
      try simp (disch := (first | exact dA | fail)) only [q1, len_s2, z2, e0, e1, e2, e8, zt, ca0, na0, lay_p, go_sem, Nat.reduceBEq, Nat.reduceAdd, reduceIte]
      refine Sp.bsl1 S (by first | rfl | (rw [cells_one (by assumption)]; rfl)) (by first | rfl | simp (disch := assumption) only [go_sem, cells_one, one_as]) fun p10 g10 S E_g10 l_g10 => ?_
      try simp only [cells_agg, cells_int, cells_bool, cells_ptr, cells_str] at S
      have q0 := (S.bx 0 rfl).eq
      have q2 := (S.bx 2 rfl).eq
      have s3 := S.slA 3 rfl
      have len_s3 := s3.lenF
      have z3 := s3.one
      try simp (disch := (first | exact dA | fail)) only [q0, q2, len_s3, z3, e0, e1, e2, e8, go_sem, Nat.reduceBEq, Nat.reduceAdd, reduceIte]
      have S := by simpa only [mc0, mn0, List.getD_cons_zero, List.getD_cons_succ, ds0, dz0, ca0, na0] using Sp.sel S 4 [0, 3, 1, 2] (by simp only [lc0]; omega) (by decide) (by decide)
      refine S.app1 (y := false) (b := 72) (by omega) ?_
      clear S
      intro v11 g11 S z11
      have q2 := (S.bx 2 rfl).eq
      try simp (disch := (first | exact dA | fail)) only [q2, e0, e1, e2, e8, z11, go_sem, Nat.reduceBEq, Nat.reduceAdd, reduceIte]
      refine st1_of (Nat.le_of_ble_eq_true rfl) (by first | rfl | assumption) fun g12 hg => ?_
      have l_g12 := n_set hg
      have S := S.set2 hg
      clear hg
      simp only [sz0, ss0, ts0, tz0, ds0, dz0, ca0, na0, Nat.reduceAdd] at S
      have wl : ∀ row : List IV, wr .i64 (((rq ++ [row]).length : Int) - 1) = ((st.l.length : Nat) : Int) := fun row => by
       rw [la0, List.length_singleton, wr64 _ (by omega)]; omega
      have q2 := (S.bx 2 rfl).eq
      have s0 := S.slA 0 rfl
      have len_s0 := s0.lenF
      have z0 := s0.one
      try simp (disch := (first | exact dA | fail)) only [q2, len_s0, z0, e0, e1, e2, e8, wl, go_sem, Nat.reduceBEq, Nat.reduceAdd, reduceIte]
      have S := by simpa only [mc0, mn0, List.getD_cons_zero, List.getD_cons_succ, ds0, dz0, ca0, na0] using Sp.sel S 3 [1, 0, 2] (by simp only [lc0]; omega) (by decide) (by decide)
      have S := (qn_un (q := ⟨name, 0, 0, 0, 0, [ticket]⟩) S rfl).a2one
      have S := by simpa only [mc0, mn0, List.getD_cons_zero, List.getD_cons_succ, ds0, dz0, ca0, na0] using Sp.sel S 4 [3, 0, 1, 2] (by simp only [lc0]; omega) (by decide) (by decide)
      have S := S.a2join
      have W : WS g12 w vs first { st with cache := ck, l := st.l ++ [⟨name, 0, 0, 0, 0, [ticket]⟩] } code ent ask L := ⟨v11, vk, vx, vd, _, rk, rx, rd, by
       have S := by simpa only [mc0, mn0, List.getD_cons_zero, List.getD_cons_succ, ds0, dz0, ca0, na0] using Sp.sel S 3 [2, 1, 0] (by simp only [lc0]; omega) (by decide) (by decide)
       exact S⟩
      clear S
      have hdn' := hg.dn
      refine callA_of (l19Again_c W hv (i := st.l.length) (q := ⟨name, 0, 0, 0, 0, [ticket]⟩) (by show (st.l ++ [_])[st.l.length]? = _; simp) f0 f1 hg.n0 (by show st.n ≤ 1000000000000; omega) hg.t0 hg.t1 (Int.le_refl 0) sv0 sv1 (by show (st.l ++ [_]).length ≤ 1000000; simp; omega) (by show st.done.length + 1 ≤ 1000000; omega) (by show st.sent.length ≤ 1000000; omega) (by show name.length ≤ 1048576; have := (okName_ne hn).2; omega)) ?_
      clear W
      rintro r13 g13 W
      try simp (disch := (first | exact dA | fail)) only [go_sem, Nat.reduceBEq, Nat.reduceAdd, reduceIte]
      have hw : wantR first servers ticket name st = (againS first servers { st with cache := ck, l := st.l ++ [⟨name, 0, 0, 0, 0, [ticket]⟩] } st.l.length, 0) := by
       unfold wantR
       rw [hck, hfn, hfn2]
       simp only [if_neg h16]
      rw [hw]
      exact ⟨rfl, W⟩
end
end Go.Proofs.YtaoffieemecioaaDoor



set_option maxRecDepth 20000
namespace Go.Proofs.YtaoffieemecioaaDoor
open Go Go.IW
section
attribute [local go_sem] boxA_1 boxA_2 boxA_3 bslA_1 List.getElem?_cons_zero List.getElem?_cons_succ Option.bind_some List.map_cons List.map_nil Nat.zero_add if_true List.getD_cons_zero List.getD_cons_succ List.contains_cons List.contains_nil Bool.or_true Bool.true_or Bool.or_false Bool.false_or Bool.not_true Bool.not_false true_and and_true rowA_whole push_n set_n push_obj set_obj set_push set_push_ne set_set Nat.add_assoc Nat.left_eq_add Nat.add_eq_left Nat.add_left_cancel_iff stO_1s stO_ws boxA_s one_bool one_int one_str one_ptr one_nilptr one_slice one_eslice one_nilslice one_func one_iface one_niliface List.all_cons List.all_nil List.length_cons List.length_nil Bool.and_true Nat.one_ne_zero Nat.succ_ne_zero if_false List.set_cons_zero List.set_cons_succ
set_option maxRecDepth 20000 in
theorem specDecodeReply_c (h : IH) (v : IV) (bs : List UInt8) (hs : SlR h 1 v (strRows bs)) (hl : bs.length ≤ 1048576) : ICalls Tryd.prog 31 [v] h fun r h' => ReplyRes h h' r (decR bs) := by
 refine icalls (.of ok31) (Nat.le_of_ble_eq_true rfl) ?_
 unfold c31
 have hlen := hs.lenF
 rw [strRows_len] at hlen
 have hm := (bs.getD 8 0).toNat_lt
 have hc := (bs.getD (9 + repM bs) 0).toNat_lt
 have hm' : repM bs < 256 := hm
 have hc' : repC bs < 256 := hc
 by_cases c0 : bs.length < 10 + repM bs
 ·have hdef : decR bs = (.zero, 2) := if_pos (.inl c0)
  simp only [go_sem, ↓act_zero, Nat.reduceBEq, Nat.reduceAdd, reduceIte, Nat.reduceEqDiff, Nat.reduceLT, Nat.reduceLeDiff]
  generalize hq_g0 : IH.push h (IObj.rows [[IV.int .i64 0, IV.int .i64 0, IV.int .i64 0, IV.str [], IV.nilslice]] 55 5 false) = g0
  have e_g0 : Ext h g0 := by rw [← hq_g0]; exact (Ext.refl _).push _
  have l_g0 : g0.n = h.n + 1 := by rw [← hq_g0]; rfl
  have bb : At g0 h.n (IObj.rows [[IV.int .i64 0, IV.int .i64 0, IV.int .i64 0, IV.str [], IV.nilslice]] 55 5 false) := by rw [← hq_g0]; exact At.new _ _
  clear hq_g0
  have hs := hs.ext e_g0
  refine callA_of (l19Text_c g0 v bs 8 hs hl (by omega)) ?_
  rintro r g ⟨rfl, rfl⟩
  by_cases c1 : bs.length ≤ 8 ∨ bs.length < 8 + 1 + (bs.getD 8 0).toNat
  ·have e1 : textAt bs 8 = ([], -1) := if_pos c1
   have d1 : decide ((-1 : Int) < 0) = true := rfl
   rw [e1]
   simp only [d1, bb.eq, lay_nil, lay_1, lay_w, Option.map_some, go_sem, ↓act_zero, Nat.reduceBEq, Nat.reduceAdd, reduceIte, Nat.reduceEqDiff, Nat.reduceLT, Nat.reduceLeDiff]
   rw [hdef]
   exact ⟨_, rfl, Own.nil, e_g0.set _ (Nat.le_refl _) _⟩
  ·have e1 : textAt bs 8 = ((bs.take (8 + 1 + (bs.getD 8 0).toNat)).drop (8 + 1), ((8 + 1 + (bs.getD 8 0).toNat : Nat) : Int)) := if_neg c1
   rw [e1]
   have d1 : decide (((8 + 1 + (bs.getD 8 0).toNat : Nat) : Int) < 0) = false := decide_eq_false (by omega)
   have d2 : decide ((bs.length : Int) ≤ ((8 + 1 + (bs.getD 8 0).toNat : Nat) : Int)) = true := decide_eq_true (by unfold repM at c0; omega)
   simp only [d1, hlen, d2, bb.eq, lay_nil, lay_1, lay_w, Option.map_some, go_sem, ↓act_zero, Nat.reduceBEq, Nat.reduceAdd, reduceIte, Nat.reduceEqDiff, Nat.reduceLT, Nat.reduceLeDiff]
   rw [hdef]
   exact ⟨_, rfl, Own.nil, e_g0.set _ (Nat.le_refl _) _⟩
 have e1 : textAt bs 8 = ((bs.take (9 + repM bs)).drop 9, ((9 + repM bs : Nat) : Int)) := by
  refine (if_neg (by unfold repM at c0; omega)).trans ?_
  show (_, (((9 + repM bs : Nat) : Int))) = _
  rfl
 have hkp := getD_at (bs := bs) (k := 9 + repM bs) (by omega)
 have hcd : (bs.getD (9 + repM bs) 0).toNat = repC bs := rfl
 have hnm : (repAt bs).nm = (bs.take (9 + repM bs)).drop 9 := rfl
 have d1 : decide (((9 + repM bs : Nat) : Int) < 0) = false := decide_eq_false (by omega)
 have d2 : decide ((bs.length : Int) ≤ ((9 + repM bs : Nat) : Int)) = false := decide_eq_false (by omega)
 obtain ⟨tot, ht⟩ : ∃ t, t = 10 + repM bs + 4 * repC bs := ⟨_, rfl⟩
 have w1 : wr .i64 (((9 + repM bs : Nat) : Int) + 1) = ((10 + repM bs : Nat) : Int) := by rw [wr64 _ (by omega)]; omega
 have w2 : wr .i64 ((repC bs : Nat) : Int) = ((repC bs : Nat) : Int) := wr64 _ (by omega)
 have w3 : wr .i64 (4 * ((repC bs : Nat) : Int)) = ((4 * repC bs : Nat) : Int) := by rw [wr64 _ (by omega)]; omega
 have w4 : wr .i64 (((10 + repM bs : Nat) : Int) + ((4 * repC bs : Nat) : Int)) = (tot : Int) := by rw [wr64 _ (by omega)]; omega
 by_cases c1 : bs.length < 10 + repM bs + 4 * repC bs
 ·have hdef : decR bs = (.zero, 2) := if_pos (.inr c1)
  have d3 : decide ((bs.length : Int) < (tot : Int)) = true := decide_eq_true (by omega)
  simp only [go_sem, ↓act_zero, Nat.reduceBEq, Nat.reduceAdd, reduceIte, Nat.reduceEqDiff, Nat.reduceLT, Nat.reduceLeDiff]
  generalize hq_g0 : IH.push h (IObj.rows [[IV.int .i64 0, IV.int .i64 0, IV.int .i64 0, IV.str [], IV.nilslice]] 55 5 false) = g0
  have e_g0 : Ext h g0 := by rw [← hq_g0]; exact (Ext.refl _).push _
  have l_g0 : g0.n = h.n + 1 := by rw [← hq_g0]; rfl
  have bb : At g0 h.n (IObj.rows [[IV.int .i64 0, IV.int .i64 0, IV.int .i64 0, IV.str [], IV.nilslice]] 55 5 false) := by rw [← hq_g0]; exact At.new _ _
  clear hq_g0
  have hs := hs.ext e_g0
  refine callA_of (l19Text_c g0 v bs 8 hs hl (by omega)) ?_
  rintro r g ⟨rfl, rfl⟩
  rw [e1]
  obtain ⟨l, j, hia, hll, hrow⟩ := hs.at (m := 9 + repM bs) (strRows_at hkp) .i64
  have hc := cellO_row hrow
  rw [hcd] at hc
  simp only [d1, d2, hlen, w1, hia, hc, w2, w3, w4, d3, bb.eq, lay_nil, lay_1, lay_w, Option.map_some, go_sem, ↓act_zero, Nat.reduceBEq, Nat.reduceAdd, reduceIte, Nat.reduceEqDiff, Nat.reduceLT, Nat.reduceLeDiff]
  rw [hdef]
  exact ⟨_, rfl, Own.nil, e_g0.set _ (Nat.le_refl _) _⟩
 have d3 : decide ((bs.length : Int) < (tot : Int)) = false := decide_eq_false (by omega)
 by_cases c2 : 10 + repM bs + 4 * repC bs < bs.length
 ·have hdef : decR bs = (.zero, 5) := (if_neg (by omega)).trans (if_pos c2)
  have d4 : decide ((tot : Int) < (bs.length : Int)) = true := decide_eq_true (by omega)
  simp only [go_sem, ↓act_zero, Nat.reduceBEq, Nat.reduceAdd, reduceIte, Nat.reduceEqDiff, Nat.reduceLT, Nat.reduceLeDiff]
  generalize hq_g0 : IH.push h (IObj.rows [[IV.int .i64 0, IV.int .i64 0, IV.int .i64 0, IV.str [], IV.nilslice]] 55 5 false) = g0
  have e_g0 : Ext h g0 := by rw [← hq_g0]; exact (Ext.refl _).push _
  have l_g0 : g0.n = h.n + 1 := by rw [← hq_g0]; rfl
  have bb : At g0 h.n (IObj.rows [[IV.int .i64 0, IV.int .i64 0, IV.int .i64 0, IV.str [], IV.nilslice]] 55 5 false) := by rw [← hq_g0]; exact At.new _ _
  clear hq_g0
  have hs := hs.ext e_g0
  refine callA_of (l19Text_c g0 v bs 8 hs hl (by omega)) ?_
  rintro r g ⟨rfl, rfl⟩
  rw [e1]
  obtain ⟨l, j, hia, hll, hrow⟩ := hs.at (m := 9 + repM bs) (strRows_at hkp) .i64
  have hc := cellO_row hrow
  rw [hcd] at hc
  simp only [d1, d2, hlen, w1, hia, hc, w2, w3, w4, d3, d4, bb.eq, lay_nil, lay_1, lay_w, Option.map_some, go_sem, ↓act_zero, Nat.reduceBEq, Nat.reduceAdd, reduceIte, Nat.reduceEqDiff, Nat.reduceLT, Nat.reduceLeDiff]
  rw [hdef]
  exact ⟨_, rfl, Own.nil, e_g0.set _ (Nat.le_refl _) _⟩
 have d4 : decide ((tot : Int) < (bs.length : Int)) = false := decide_eq_false (by omega)
 have hdef : decR bs = if bs.getD 2 0 ≠ 1 then (.zero, 9) else if okName (repAt bs).nm = false then (.zero, 6) else if (repAt bs).ok = true then (repAt bs, 0) else (.zero, 1) := (if_neg (by omega)).trans (if_neg c2)
 have hk2 := getD_at (bs := bs) (k := 2) (by omega)
 by_cases c3 : bs.getD 2 0 ≠ 1
 ·rw [if_pos c3] at hdef
  have d5 : decide (((bs.getD 2 0).toNat : Int) = 1) = false := decide_eq_false (byte_ne (b := 1) c3)
  simp only [go_sem, ↓act_zero, Nat.reduceBEq, Nat.reduceAdd, reduceIte, Nat.reduceEqDiff, Nat.reduceLT, Nat.reduceLeDiff]
  generalize hq_g0 : IH.push h (IObj.rows [[IV.int .i64 0, IV.int .i64 0, IV.int .i64 0, IV.str [], IV.nilslice]] 55 5 false) = g0
  have e_g0 : Ext h g0 := by rw [← hq_g0]; exact (Ext.refl _).push _
  have l_g0 : g0.n = h.n + 1 := by rw [← hq_g0]; rfl
  have bb : At g0 h.n (IObj.rows [[IV.int .i64 0, IV.int .i64 0, IV.int .i64 0, IV.str [], IV.nilslice]] 55 5 false) := by rw [← hq_g0]; exact At.new _ _
  clear hq_g0
  have hs := hs.ext e_g0
  refine callA_of (l19Text_c g0 v bs 8 hs hl (by omega)) ?_
  rintro r g ⟨rfl, rfl⟩
  rw [e1]
  obtain ⟨l, j, hia, hll, hrow⟩ := hs.at (m := 9 + repM bs) (strRows_at hkp) .i64
  have hc := cellO_row hrow
  rw [hcd] at hc
  obtain ⟨l2, j2, hia2, hll2, hrow2⟩ := hs.at (m := 2) (strRows_at hk2) .i64
  have hc2 := cellO_row hrow2
  have hia2 : iadrF g 1 v (.int .i64 2) = some (.ptr l2 j2 0) := hia2
  simp only [d1, d2, hlen, w1, hia, hc, w2, w3, w4, d3, d4, hia2, hc2, d5, bb.eq, lay_nil, lay_1, lay_w, Option.map_some, go_sem, ↓act_zero, Nat.reduceBEq, Nat.reduceAdd, reduceIte, Nat.reduceEqDiff, Nat.reduceLT, Nat.reduceLeDiff]
  rw [hdef]
  exact ⟨_, rfl, Own.nil, e_g0.set _ (Nat.le_refl _) _⟩
 rw [if_neg c3] at hdef
 have c3' : bs.getD 2 0 = 1 := by simpa using c3
 have d5 : decide (((bs.getD 2 0).toNat : Int) = 1) = true := decide_eq_true (by rw [c3']; rfl)
 have hnl : (repAt bs).nm.length ≤ 1048576 := by rw [hnm, List.length_drop, List.length_take]; omega
 refine vc_split 6 (fun e g => okName (repAt bs).nm = true ∧ e 0 = v ∧ e 2 = .ptr h.n 0 0 ∧ e 4 = .str (repAt bs).nm ∧ e 5 = .int .i64 ((9 + repM bs : Nat) : Int) ∧ At g h.n (IObj.rows [[IV.int .i64 0, IV.int .i64 0, IV.int .i64 0, IV.str [], IV.nilslice]] 55 5 false) ∧ SlR g 1 v (strRows bs) ∧ Ext h g) ?_ ?_
 ·simp only [CC.split]
  simp only [go_sem, ↓act_zero, Nat.reduceBEq, Nat.reduceAdd, reduceIte, Nat.reduceEqDiff, Nat.reduceLT, Nat.reduceLeDiff]
  generalize hq_g0 : IH.push h (IObj.rows [[IV.int .i64 0, IV.int .i64 0, IV.int .i64 0, IV.str [], IV.nilslice]] 55 5 false) = g0
  have e_g0 : Ext h g0 := by rw [← hq_g0]; exact (Ext.refl _).push _
  have l_g0 : g0.n = h.n + 1 := by rw [← hq_g0]; rfl
  have bb : At g0 h.n (IObj.rows [[IV.int .i64 0, IV.int .i64 0, IV.int .i64 0, IV.str [], IV.nilslice]] 55 5 false) := by rw [← hq_g0]; exact At.new _ _
  clear hq_g0
  have hs := hs.ext e_g0
  refine callA_of (l19Text_c g0 v bs 8 hs hl (by omega)) ?_
  rintro r g ⟨rfl, rfl⟩
  rw [e1]
  obtain ⟨l, j, hia, hll, hrow⟩ := hs.at (m := 9 + repM bs) (strRows_at hkp) .i64
  have hc := cellO_row hrow
  rw [hcd] at hc
  obtain ⟨l2, j2, hia2, hll2, hrow2⟩ := hs.at (m := 2) (strRows_at hk2) .i64
  have hc2 := cellO_row hrow2
  have hia2 : iadrF g 1 v (.int .i64 2) = some (.ptr l2 j2 0) := hia2
  simp only [d1, d2, hlen, w1, hia, hc, w2, w3, w4, d3, d4, hia2, hc2, d5, bb.eq, lay_nil, lay_1, lay_w, Option.map_some, go_sem, ↓act_zero, Nat.reduceBEq, Nat.reduceAdd, reduceIte, Nat.reduceEqDiff, Nat.reduceLT, Nat.reduceLeDiff]
  rw [← hnm]
  refine callA_of (specNameOK_c g _ hnl) ?_
  rintro r h1 ⟨rfl, E1⟩
  have bb := bb.ext E1
  have hs := hs.ext E1
  have le_E1 := E1.le
  have E := e_g0.trans E1
  cases c4 : okName (repAt bs).nm
  ·rw [c4, if_pos rfl] at hdef
   simp only [c4, bb.eq, lay_nil, lay_1, lay_w, Option.map_some, go_sem, ↓act_zero, Nat.reduceBEq, Nat.reduceAdd, reduceIte, Nat.reduceEqDiff, Nat.reduceLT, Nat.reduceLeDiff]
   rw [hdef]
   exact ⟨_, rfl, Own.nil, E.set _ (Nat.le_refl _) _⟩
  ·simp only [c4, bb.eq, lay_nil, lay_1, lay_w, Option.map_some, go_sem, ↓act_zero, Nat.reduceBEq, Nat.reduceAdd, reduceIte, Nat.reduceEqDiff, Nat.reduceLT, Nat.reduceLeDiff]
   exact ⟨bb, hs, E⟩
 simp only [CC.split]
 rintro e g ⟨c4, i0, i2, i4, i5, bb, hs, E⟩
 have lb := bb.lt
 rw [c4, if_neg (by decide)] at hdef
 refine vc_cut (fun e g' => ∃ q, g.n = q ∧ e 0 = v ∧ e 2 = .ptr h.n 0 0 ∧ e 5 = .int .i64 ((9 + repM bs : Nat) : Int) ∧ e 6 = .ptr q 0 0 ∧ At g' q (IObj.rows [[IV.int .i64 (repAt bs).id, IV.int .i64 (repAt bs).code, IV.int .i64 (repAt bs).ttl, IV.str (repAt bs).nm, IV.nilslice]] 55 5 false) ∧ g'.n = q + 1 ∧ Ext g g') ?_ ?_
 ·obtain ⟨v1, hv1, hs1⟩ := hs.hi (b := 2) (q := .i64) (by rw [strRows_len]; omega)
  rw [strRows_take] at hs1
  have hv1 : slcF g 1 v none (some (.int .i64 2)) = some v1 := hv1
  obtain ⟨v2, hv2, hs2⟩ := hs.lohi (a := 4) (b := 8) (q := .i64) (q' := .i64) (by omega) (by rw [strRows_len]; omega)
  rw [strRows_take, strRows_drop] at hs2
  have hv2 : slcF g 1 v (some (.int .i64 4)) (some (.int .i64 8)) = some v2 := hv2
  have hk3 := getD_at (bs := bs) (k := 3) (by omega)
  obtain ⟨l3, j3, hia3, hll3, hrow3⟩ := hs.at (m := 3) (strRows_at hk3) .i64
  have hc3 := cellO_row hrow3
  have hia3 : iadrF g 1 v (.int .i64 3) = some (.ptr l3 j3 0) := hia3
  have hb3 := (bs.getD 3 0).toNat_lt
  have w5 : wr .i64 (((bs.getD 3 0).toNat : Nat) : Int) = (((bs.getD 3 0).toNat : Nat) : Int) := wr64 _ (by omega)
  simp only [i0, i2, i4, i5, hv1, hv2, hia3, hc3, w5, Option.map_some, Option.map_none, lay_nil, lay_1, lay_w, Option.map_some, go_sem, ↓act_zero, Nat.reduceBEq, Nat.reduceAdd, reduceIte, Nat.reduceEqDiff, Nat.reduceLT, Nat.reduceLeDiff]
  have e0 : Ext g (g.push (IObj.rows [[IV.int .i64 0, IV.int .i64 0, IV.int .i64 0, IV.str [], IV.nilslice]] 55 5 false)) := (Ext.refl _).push _
  have hv1g := (slcF_ext hs e0 none (some (.int .i64 2))).trans hv1
  have hv2g := (slcF_ext hs e0 (some (.int .i64 4)) (some (.int .i64 8))).trans hv2
  have hia3g := (iadrF_ext hs e0 (.int .i64 3)).trans hia3
  have n3 : (l3 = g.n) = False := by simp; omega
  refine either_of ?_ ?_
  ·try simp only [i0, i2, i4, i5, hv1, hv2, hia3, hc3, w5, Option.map_some, Option.map_none, lay_nil, lay_1, lay_w, Option.map_some, go_sem, ↓act_zero, Nat.reduceBEq, Nat.reduceAdd, reduceIte, Nat.reduceEqDiff, Nat.reduceLT, Nat.reduceLeDiff]
   refine callA_of (l03Num_c g v1 _ hs1 (by simp; omega)) ?_
   rintro r g2 ⟨rfl, rfl⟩
   simp only [i0, i2, i4, i5, hv1, hv2, hia3, hc3, w5, Option.map_some, Option.map_none, lay_nil, lay_1, lay_w, Option.map_some, go_sem, ↓act_zero, Nat.reduceBEq, Nat.reduceAdd, reduceIte, Nat.reduceEqDiff, Nat.reduceLT, Nat.reduceLeDiff]
   refine either_of ?_ ?_
   ·simp only [i0, i2, i4, i5, hv1, hv2, hia3, hc3, w5, Option.map_some, Option.map_none, lay_nil, lay_1, lay_w, Option.map_some, go_sem, ↓act_zero, Nat.reduceBEq, Nat.reduceAdd, reduceIte, Nat.reduceEqDiff, Nat.reduceLT, Nat.reduceLeDiff]
    refine callA_of (l03Num_c _ v2 _ hs2 (by simp; omega)) ?_
    rintro r g2 ⟨rfl, rfl⟩
    simp only [i0, i2, i4, i5, hv1, hv2, hv1g, hv2g, hia3g, n3, hia3, hc3, w5, Option.map_some, Option.map_none, lay_nil, lay_1, lay_w, Option.map_some, go_sem, ↓act_zero, Nat.reduceBEq, Nat.reduceAdd, reduceIte, Nat.reduceEqDiff, Nat.reduceLT, Nat.reduceLeDiff]
    exact ⟨_, rfl, rfl, At.new _ _, rfl, (Ext.refl _).push _⟩
   ·simp only [i0, i2, i4, i5, hv1, hv2, hv1g, hv2g, hia3g, n3, hia3, hc3, w5, Option.map_some, Option.map_none, lay_nil, lay_1, lay_w, Option.map_some, go_sem, ↓act_zero, Nat.reduceBEq, Nat.reduceAdd, reduceIte, Nat.reduceEqDiff, Nat.reduceLT, Nat.reduceLeDiff]
    refine callA_of (l03Num_c _ v2 _ (hs2.ext e0) (by simp; omega)) ?_
    rintro r g3 ⟨rfl, rfl⟩
    simp only [i0, i2, i4, i5, hv1, hv2, hv1g, hv2g, hia3g, n3, hia3, hc3, w5, Option.map_some, Option.map_none, lay_nil, lay_1, lay_w, Option.map_some, go_sem, ↓act_zero, Nat.reduceBEq, Nat.reduceAdd, reduceIte, Nat.reduceEqDiff, Nat.reduceLT, Nat.reduceLeDiff]
    exact ⟨_, rfl, rfl, At.new _ _, rfl, (Ext.refl _).push _⟩
  ·simp only [i0, i2, i4, i5, hv1, hv2, hv1g, hv2g, hia3g, n3, hia3, hc3, w5, Option.map_some, Option.map_none, lay_nil, lay_1, lay_w, Option.map_some, go_sem, ↓act_zero, Nat.reduceBEq, Nat.reduceAdd, reduceIte, Nat.reduceEqDiff, Nat.reduceLT, Nat.reduceLeDiff]
   refine callA_of (l03Num_c _ v1 _ (hs1.ext e0) (by simp; omega)) ?_
   rintro r g2 ⟨rfl, rfl⟩
   simp only [i0, i2, i4, i5, hv1, hv2, hv1g, hv2g, hia3g, n3, hia3, hc3, w5, Option.map_some, Option.map_none, lay_nil, lay_1, lay_w, Option.map_some, go_sem, ↓act_zero, Nat.reduceBEq, Nat.reduceAdd, reduceIte, Nat.reduceEqDiff, Nat.reduceLT, Nat.reduceLeDiff]
   refine callA_of (l03Num_c _ v2 _ (hs2.ext e0) (by simp; omega)) ?_
   rintro r g3 ⟨rfl, rfl⟩
   simp only [i0, i2, i4, i5, hv1, hv2, hv1g, hv2g, hia3g, n3, hia3, hc3, w5, Option.map_some, Option.map_none, lay_nil, lay_1, lay_w, Option.map_some, go_sem, ↓act_zero, Nat.reduceBEq, Nat.reduceAdd, reduceIte, Nat.reduceEqDiff, Nat.reduceLT, Nat.reduceLeDiff]
   exact ⟨_, rfl, rfl, At.new _ _, rfl, (Ext.refl _).push _⟩
 clear i0 i2 i4 i5
 rintro e g1 ⟨q, hgq, i0, i2, i5, i6, bq, l1, E1⟩
 have RD : decR bs = if (repAt bs).ok = true then (repAt bs, 0) else (.zero, 1) := hdef
 have hzz : (repAt bs).zs = wordsAt bs (10 + repM bs) (repC bs) := rfl
 have hsB := hs
 have bbB := bb
 have hs1 := hsB.ext E1
 obtain ⟨st, hst⟩ : ∃ st, st = 10 + repM bs := ⟨_, rfl⟩
 rw [← hst] at w1 hzz
 rw [← hst] at ht c0
 have loopI : True := trivial
 simp only [i5, w1, go_sem, ↓act_zero, Nat.reduceBEq, Nat.reduceAdd, reduceIte, Nat.reduceEqDiff, Nat.reduceLT, Nat.reduceLeDiff]
 refine loop_at (fun n e g' => ∃ (k : Nat) (vz : IV) (lo hi : Nat), n = repC bs - k ∧ k ≤ repC bs ∧ e 0 = v ∧ e 2 = .ptr h.n 0 0 ∧ e 6 = .ptr q 0 0 ∧ e 7 = .int .i64 ((st + 4 * k : Nat) : Int) ∧ At g' q (IObj.rows [[IV.int .i64 (repAt bs).id, IV.int .i64 (repAt bs).code, IV.int .i64 (repAt bs).ttl, IV.str (repAt bs).nm, vz]] 55 5 false) ∧ Own lo hi g' 2 1 vz (intRows (wordsAt bs st k)) ∧ q < lo ∧ hi ≤ g'.n ∧ Ext g g') (repC bs) ?_ ?_
 ·refine ⟨0, .nilslice, q + 1, q + 1, by omega, by omega, ?_⟩
  simp only [i0, i2, i6, go_sem, ↓act_zero, Nat.reduceBEq, Nat.reduceAdd, reduceIte, Nat.reduceEqDiff, Nat.reduceLT, Nat.reduceLeDiff]
  exact ⟨rfl, bq, Own.nil, Nat.lt_succ_self _, by omega, E1⟩
 ·clear i0 i2 i5 i6 bq l1 E1 hs1
  rintro n e g' ⟨k, vz, lo, hi, rfl, hk, i0, i2, i6, i7, bq, oz, hlo, hhi, E1⟩
  have hs1 := hsB.ext E1
  have bb := bbB.ext E1
  have lg := E1.le
  have lq := bq.lt
  simp only [i0, i2, i6, i7, hlen, bb.eq, bq.eq, go_sem, ↓act_zero, Nat.reduceBEq, Nat.reduceAdd, reduceIte, Nat.reduceEqDiff, Nat.reduceLT, Nat.reduceLeDiff]
  refine test_dec (fun hb => ?_) (fun hb => ?_)
  ·have hlt : k < repC bs := by omega
   have w6 : wr .i64 (((st + 4 * k : Nat) : Int) + 4) = ((st + 4 * k + 4 : Nat) : Int) := by rw [wr64 _ (by omega)]; omega
   obtain ⟨a0, ha0⟩ : ∃ a, a = st + 4 * k := ⟨_, rfl⟩
   obtain ⟨a4, ha4⟩ : ∃ a, a = st + 4 * k + 4 := ⟨_, rfl⟩
   rw [← ha4, ← ha0] at w6
   rw [← ha0] at i7
   obtain ⟨v1, hv1, hs2⟩ := hs1.lohi (a := a0) (b := a4) (q := .i64) (q' := .i64) (by omega) (by rw [strRows_len]; omega)
   rw [strRows_take, strRows_drop] at hs2
   have hvg := (slcF_ext hsB E1 (some (.int .i64 a0)) (some (.int .i64 a4))).symm.trans hv1
   simp only [i0, i2, i6, i7, hlen, bb.eq, bq.eq, w6, hv1, Option.map_some, Option.map_none, go_sem, ↓act_zero, Nat.reduceBEq, Nat.reduceAdd, reduceIte, Nat.reduceEqDiff, Nat.reduceLT, Nat.reduceLeDiff]
   refine callA_of (l03Num_c _ v1 _ hs2 (by simp; omega)) ?_
   rintro r g2 ⟨rfl, rfl⟩
   generalize hnum : numB ((bs.take a4).drop a0) = num
   have nq : (q = g2.n) = False := by simp; omega
   have hvp := (slcF_ext hs1 ((Ext.refl g2).push (IObj.rows [[IV.int .i64 num]] 2 1 false)) (some (.int .i64 a0)) (some (.int .i64 a4))).trans hv1
   simp only [i0, i2, i6, i7, hlen, bb.eq, bq.eq, w6, hv1, hvp, nq, bslA_1, Option.map_some, Option.map_none, go_sem, ↓act_zero, Nat.reduceBEq, Nat.reduceAdd, reduceIte, Nat.reduceEqDiff, Nat.reduceLT, Nat.reduceLeDiff]
   generalize hq_g3 : IH.push g2 (IObj.rows [[IV.int .i64 num]] 2 1 false) = g3
   have e_g3 : Ext g2 g3 := by rw [← hq_g3]; exact (Ext.refl _).push _
   have l_g3 : g3.n = g2.n + 1 := by rw [← hq_g3]; rfl
   have bw : At g3 g2.n (IObj.rows [[IV.int .i64 num]] 2 1 false) := by rw [← hq_g3]; exact At.new _ _
   clear hq_g3
   have bq := bq.ext e_g3
   have oz := oz.ext e_g3
   have E1 := E1.ext e_g3
   refine oz.app (by simp) (by rw [intRows_len, wordsAt_len]; simp; omega) ?_
   intro v6 h6 o6 t6 n6 v6o v6c
   have bq := bq.turn oz (by omega) t6
   have E1 := E1.turn oz (by omega) t6
   have le_t6 := t6.le
   have hv6 := (slcF_ext hsB E1 (some (.int .i64 a0)) (some (.int .i64 a4))).trans hvg
   have o7 : Own g3.n (g3.n + 1) h6 2 1 v6 (intRows (wordsAt bs st (k + 1))) := by
    rw [wordsAt_succ, intRows_append, ← ha4, ← ha0, hnum]; exact o6
   simp only [i0, i2, i6, i7, bq.eq, w6, hv6, v6o, v6c, Option.map_some, Option.map_none, go_sem, ↓act_zero, Nat.reduceBEq, Nat.reduceAdd, reduceIte, Nat.reduceEqDiff, Nat.reduceLT, Nat.reduceLeDiff]
   generalize hq_g9 : IH.set h6 (q) (IObj.rows [[IV.int .i64 (repAt bs).id, IV.int .i64 (repAt bs).code, IV.int .i64 (repAt bs).ttl, IV.str (repAt bs).nm, v6]] 55 5 false) = g9
   have l_g9 : g9.n = h6.n := by rw [← hq_g9]; rfl
   have bq : At g9 (q) (IObj.rows [[IV.int .i64 (repAt bs).id, IV.int .i64 (repAt bs).code, IV.int .i64 (repAt bs).ttl, IV.str (repAt bs).nm, v6]] 55 5 false) := by rw [← hq_g9]; exact bq.here
   have o7 := o7.set (m := q) (by omega) (IObj.rows [[IV.int .i64 (repAt bs).id, IV.int .i64 (repAt bs).code, IV.int .i64 (repAt bs).ttl, IV.str (repAt bs).nm, v6]] 55 5 false)
   rw [hq_g9] at o7
   have E1 := E1.set (q) (by omega) (IObj.rows [[IV.int .i64 (repAt bs).id, IV.int .i64 (repAt bs).code, IV.int .i64 (repAt bs).ttl, IV.str (repAt bs).nm, v6]] 55 5 false)
   rw [hq_g9] at E1
   clear hq_g9
   refine ⟨_, ?_, k + 1, v6, g3.n, g3.n + 1, rfl, by omega, ?_, bq, o7, by omega, by omega, E1⟩
   ·omega
   ·rw [ha4]; rfl
  ·obtain rfl : k = repC bs := by omega
   rw [← hzz] at oz
   simp only [i0, i2, i6, bq.eq, bb.eq, go_sem, ↓act_zero, Nat.reduceBEq, Nat.reduceAdd, reduceIte, Nat.reduceEqDiff, Nat.reduceLT, Nat.reduceLeDiff]
   refine callA_of (l19ReplyOK_c g' (repAt bs).id (repAt bs).code (repAt bs).ttl (repAt bs).nm vz (repAt bs).zs oz.sl hnl (by rw [hzz, wordsAt_len]; omega)) ?_
   rintro r h7 ⟨rfl, E7⟩
   have bb := bb.ext E7
   have bq := bq.ext E7
   have oz := oz.ext E7
   have E1 := E1.ext E7
   have le_E7 := E7.le
   have lE := E.le
   have hok : okRep (repAt bs).id (repAt bs).code (repAt bs).ttl (repAt bs).nm (repAt bs).zs = (repAt bs).ok := rfl
   rw [hok]
   cases c5 : (repAt bs).ok
   ·rw [c5, if_neg (by decide)] at RD
    simp only [i2, bb.eq, lay_nil, lay_1, lay_w, Option.map_some, go_sem, ↓act_zero, Nat.reduceBEq, Nat.reduceAdd, reduceIte, Nat.reduceEqDiff, Nat.reduceLT, Nat.reduceLeDiff]
    rw [RD]
    exact ⟨_, rfl, Own.nil, (E.trans E1).set _ (Nat.le_refl _) _⟩
   ·rw [c5, if_pos rfl] at RD
    have vo := oz.sl.one
    have vc := oz.sl.cells
    simp only [i2, i6, bb.eq, bq.eq, vo, vc, lay_nil, lay_1, lay_w, Option.map_some, go_sem, ↓act_zero, Nat.reduceBEq, Nat.reduceAdd, reduceIte, Nat.reduceEqDiff, Nat.reduceLT, Nat.reduceLeDiff]
    rw [RD]
    exact ⟨vz, rfl, (Own.set oz (m := h.n) (by omega) _).wide (by omega) (by rw [set_n]; omega) (Nat.le_refl _), (E.trans E1).set _ (Nat.le_refl _) _⟩
end
end Go.Proofs.YtaoffieemecioaaDoor

