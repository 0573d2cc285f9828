import Derived.Test.YtaolhgjnlmaooaaDoorK3
import Derived.Test.YtaolhgjnlmaooaaDoorProg
import Derived.KernelRfl
import Derived.Test.YtaolhgjnlmaooaaDoorL1
set_option linter.unusedSimpArgs false
set_option linter.unusedVariables false
namespace Go.Proofs.YtaolhgjnlmaooaaDoor
open Go Go.IW
def t_Field : Ty := .cat .str (.cat .str (.nil))
def t_Reply : Ty := .cat (.int .i64) (.cat (.slice 104 t_Field) (.cat (.slice 5 (.int .u8)) (.nil)))
set_option maxRecDepth 20000 in
theorem eqByteS_f : EqC Tryd.prog 15 (.slice 5 (.int .u8)) := eqSlI_calls (by kernel_rfl) rfl
set_option maxRecDepth 20000 in
theorem eqField_f : EqC Tryd.prog 68 t_Field := eqSt_calls (N := 15) (a1 := 104) (a2 := 104) (sz := 2) (fs := [(.str, none), (.str, none)]) (by kernel_rfl) (by decide) rfl ⟨rfl, ⟨rfl, trivial⟩⟩
set_option maxRecDepth 20000 in
theorem eqFieldS_f : EqC Tryd.prog 46 (.slice 104 t_Field) := eqSl_calls (g := 68) (by kernel_rfl) eqField_f
set_option maxRecDepth 20000 in
theorem eqReply_f : EqC Tryd.prog 16 t_Reply := eqSt_calls (N := 22) (a1 := 43) (a2 := 43) (sz := 3) (fs := [(.int .i64, none), (.slice 104 t_Field, some 46), (.slice 5 (.int .u8), some 15)]) (by kernel_rfl) (by decide) rfl ⟨rfl, ⟨eqFieldS_f, ⟨eqByteS_f, trivial⟩⟩⟩
set_option maxRecDepth 20000 in
theorem heldByteS_f : HdC Tryd.prog 19 (.slice 5 (.int .u8)) := held_calls (N := 22) (q := []) (by kernel_rfl) (by decide) rfl trivial
set_option maxRecDepth 20000 in
theorem markByteS_f : MkC Tryd.prog 18 (.slice 5 (.int .u8)) := mark_calls (N := 20) (q := []) (by kernel_rfl) (by decide) rfl trivial
set_option maxRecDepth 20000 in
theorem markText_f : MtC Tryd.prog 69 := mtx_calls (el := 5) (by kernel_rfl)
set_option maxRecDepth 20000 in
theorem markFieldS_f : MkC Tryd.prog 47 (.slice 104 t_Field) := mark_calls (N := 29) (q := [69, 69]) (by kernel_rfl) (by decide) rfl ⟨markText_f, ⟨markText_f, trivial⟩⟩
set_option maxRecDepth 20000 in
theorem markReply_f : MkC Tryd.prog 17 t_Reply := markSt_calls (N := 14) (ein := 43) (sz := 3) (fs := [(.int .i64, none), (.slice 104 t_Field, some 47), (.slice 5 (.int .u8), some 18)]) (by kernel_rfl) (by decide) rfl ⟨rfl, ⟨markFieldS_f, ⟨markByteS_f, trivial⟩⟩⟩
set_option maxRecDepth 20000 in
theorem szByteS_f : SzC Tryd.prog 27 (.slice 5 (.int .u8)) := szSlL_calls (by kernel_rfl) (by exact flat_tot (by decide))
set_option maxRecDepth 20000 in
theorem szField_f : SzC Tryd.prog 63 t_Field := szSt_calls (N := 20) (ein := 102) (sz := 2) (fs := [(.str, .text), (.str, .text)]) (by kernel_rfl) (by decide) rfl ⟨rfl, ⟨rfl, trivial⟩⟩
set_option maxRecDepth 20000 in
theorem szFieldS_f : SzC Tryd.prog 40 (.slice 104 t_Field) := szSl_calls (g := 63) (by kernel_rfl) szField_f
set_option maxRecDepth 20000 in
theorem szReply_f : SzC Tryd.prog 11 t_Reply := szSt_calls (N := 18) (ein := 37) (sz := 3) (fs := [(.int .i64, .no), (.slice 104 t_Field, .sub 40), (.slice 5 (.int .u8), .sub 27)]) (by kernel_rfl) (by decide) rfl ⟨(by exact flat_tot (by decide)), ⟨szFieldS_f, ⟨szByteS_f, trivial⟩⟩⟩
set_option maxRecDepth 20000 in
theorem toByteS_f : ToC Tryd.prog 34 (.slice 5 (.int .u8)) := toSlI_calls (b := 1) (z := [.int .u8 0]) (by kernel_rfl) rfl (by decide) rfl
set_option maxRecDepth 20000 in
theorem toField_f : ToC Tryd.prog 66 t_Field := toSt_calls (N := 11) (ein := 102) (eout := 104) (sz := 2) (zs := [.str [], .str []]) (fs := [(.str, none), (.str, none)]) (by kernel_rfl) (by decide) rfl rfl rfl ⟨rfl, ⟨rfl, trivial⟩⟩
set_option maxRecDepth 20000 in
theorem toFieldS_f : ToC Tryd.prog 43 (.slice 104 t_Field) := toSl_calls (g := 66) (b := 32) (z := [.str [], .str []]) (by kernel_rfl) rfl (by decide) toField_f
set_option maxRecDepth 20000 in
theorem toReply_f : ToC Tryd.prog 13 t_Reply := toSt_calls (N := 16) (ein := 37) (eout := 43) (sz := 3) (zs := [.int .i64 0, .nilslice, .nilslice]) (fs := [(.int .i64, none), (.slice 104 t_Field, some 43), (.slice 5 (.int .u8), some 34)]) (by kernel_rfl) (by decide) rfl rfl rfl ⟨rfl, ⟨toFieldS_f, ⟨toByteS_f, trivial⟩⟩⟩
end Go.Proofs.YtaolhgjnlmaooaaDoor

set_option maxRecDepth 20000
namespace Go.Proofs.YtaolhgjnlmaooaaDoor
open Go Go.IW

/-! Replies and requests as data. -/
def fldD (f : Fld) : Dat := .pair (.str f.1) (.pair (.str f.2) .unit)
theorem fld_vw {S : Nat → Prop} {h : IH} {cs : List IV} {d : Dat} (hv : Rp S h t_Field cs d) : ∃ x : Fld, cs = [.str x.1, .str x.2] ∧ d = fldD x := by
  obtain ⟨_, _, _, _, rfl, rfl, ⟨a1, rfl, rfl⟩, _, _, _, _, rfl, rfl, ⟨a2, rfl, rfl⟩, rfl, rfl⟩ := hv
  exact ⟨(a1, a2), rfl, rfl⟩
theorem fldD_inj {a b : List Fld} (h : a.map fldD = b.map fldD) : a = b := by
  refine (List.map_inj_right (fun x y e => ?_)).1 h
  obtain ⟨x1, x2⟩ := x
  obtain ⟨y1, y2⟩ := y
  simp [fldD] at e
  simp [e]
theorem fldL_tot : ∀ (fs : List Fld), ∀ f ∈ fs, f.1.length ≤ totL (fs.map fldD) ∧ f.2.length ≤ totL (fs.map fldD)
  | g :: fs, f, h => by
    simp only [List.map_cons, totL, fldD, Dat.tot]
    rcases List.mem_cons.1 h with rfl | h
    · omega
    · have := fldL_tot fs f h; omega
theorem fldL_cnt (fs : List Fld) : cntL t_Field (fs.map fldD) = 2 * fs.length := by
  induction fs with
  | nil => rfl
  | cons p r ih => simp only [List.map_cons, cntL, ih]; simp [t_Field, fldD, cntE]; omega
theorem bytes_cntL (bs : List UInt8) : cntL (.int .u8) (bs.map fun b => .int (b.toNat : Int)) = bs.length := by
  induction bs with
  | nil => rfl
  | cons p r ih => simp only [List.map_cons, cntL, ih]; simp [cntE]; omega
theorem bytes_cnt (el : Nat) (bs : List UInt8) : cntW (.slice el (.int .u8)) (bytesD bs) = bs.length := by
  simp [cntW, bytesD, cntE, bytes_cntL]
theorem bytes_ow {lo hi : Nat} {h : IH} {v : IV} {bs : List UInt8} (ho : Own lo hi h 5 1 v (strRows bs)) (hh : hi ≤ h.n) : Ow lo hi h (.slice 5 (.int .u8)) [v] (bytesD bs) :=
  Own.ow (t := .int .u8) (row := fun b : UInt8 => [.int .u8 (b.toNat : Int)]) (dat := fun b : UInt8 => .int (b.toNat : Int)) (fun x => ⟨_, rfl, rfl, rfl⟩) ho hh

def repD (st : Int) (fs : List Fld) (body : List UInt8) : Dat := .pair (.int st) (.pair (.list (fs.map fldD)) (.pair (bytesD body) .unit))
theorem rep_any {lo hi : Nat} {h : IH} {cs : List IV} {d : Dat} (hv : Vw lo hi h t_Reply cs d) (hw : wfD t_Reply d) : ∃ st v w fs body, cs = [.int .i64 st, v, w] ∧ d = repD st fs body ∧ SlR h 2 v (fldRows fs) ∧ SlR h 1 w (strRows body) := by
  obtain ⟨_, _, _, _, rfl, rfl, ⟨a1, rfl, rfl⟩, c2, _, d2, _, rfl, rfl, h2, c3, _, d3, _, rfl, rfl, h3, rfl, rfl⟩ := hv
  obtain ⟨v, rfl⟩ := one_list rfl (Rp.len h2)
  obtain ⟨w, rfl⟩ := one_list rfl (Rp.len h3)
  obtain ⟨fs, rfl, hs, _⟩ := view_sl (t := t_Field) (row := fun x : Fld => [.str x.1, .str x.2]) (dat := fldD) fld_vw h2
  obtain ⟨_, _, w3, _⟩ := hw
  obtain ⟨bs, rfl, hd⟩ := bytes_any h3 w3
  exact ⟨a1, v, w, fs, bs, rfl, rfl, hs, hd⟩
theorem repD_inj {a b : Int} {fs gs : List Fld} {x y : List UInt8} (h : repD a fs x = repD b gs y) : a = b ∧ fs = gs ∧ x = y := by
  simp only [repD, Dat.pair.injEq, Dat.int.injEq, Dat.list.injEq, and_true] at h
  exact ⟨h.1, fldD_inj h.2.1, bytesD_inj h.2.2⟩
theorem rep_vw {lo hi : Nat} {h : IH} {cs : List IV} {st : Int} {fs : List Fld} {body : List UInt8} (hv : Vw lo hi h t_Reply cs (repD st fs body)) (hw : wfD t_Reply (repD st fs body)) : ∃ v w, cs = [.int .i64 st, v, w] ∧ SlR h 2 v (fldRows fs) ∧ SlR h 1 w (strRows body) := by
  obtain ⟨st', v, w, fs', body', rfl, hd, h1, h2⟩ := rep_any hv hw
  obtain ⟨rfl, rfl, rfl⟩ := repD_inj hd
  exact ⟨v, w, rfl, h1, h2⟩
theorem repD_tot (st : Int) (fs : List Fld) (body : List UInt8) : (repD st fs body).tot = (fs.length + totL (fs.map fldD)) + body.length := by
  simp [repD, Dat.tot, bytesD_tot]
theorem repD_cnt (st : Int) (fs : List Fld) (body : List UInt8) : cntW t_Reply (repD st fs body) = 2 * fs.length + body.length := by
  simp [repD, t_Reply, cntW, cntE, fldL_cnt, bytesD, bytes_cntL]

theorem msg_len {first : List UInt8} {fs : List Fld} {body : List UInt8} (hR : restB fs body.length = true) (hl : first.length ≤ 1000) : (message first fs body).length ≤ 100000 := by
  obtain ⟨r1, r2, r3⟩ := restB_un hR
  have ll := lines_len r3
  have hd : (Lib.decDigits body.length).length ≤ 20 := dec_le _ (by omega)
  have hL : (lenLine body).length ≤ 40 := by
    unfold lenLine; split
    · simp [lengthS]; omega
    · simp
  unfold message
  simp only [List.length_append, List.length_cons, List.length_nil]
  omega
theorem showReply_len (st : Int) (fs : List Fld) (body : List UInt8) : (showReply st fs body).1.length ≤ 100000 := by
  unfold showReply
  split
  · rename_i h
    obtain ⟨h1, h2, h3⟩ := replyB_un h
    have := numI_len (n := st) (by omega)
    exact msg_len h3 (by simp [replyW]; omega)
  · simp
end Go.Proofs.YtaolhgjnlmaooaaDoor

set_option maxRecDepth 20000
namespace Go.Proofs.YtaolhgjnlmaooaaDoor
open Go Go.IW
section
attribute [local go_sem] List.getElem?_cons_zero List.getElem?_cons_succ Option.bind_some List.map_cons List.map_nil Nat.zero_add if_true List.getD_cons_zero List.getD_cons_succ List.contains_cons List.contains_nil Bool.or_true Bool.true_or Bool.or_false Bool.false_or Bool.not_true Bool.not_false true_and and_true rowA_whole mid_get stO_mid rowO_rows cellO_rows push_n set_n push_at push_old set_here set_there set_pushT set_pushN set_set upd_ne Nat.add_assoc Nat.add_zero stO_1s stO_ws boxA_s List.all_cons List.all_nil one_bool one_int one_str one_ptr one_nilptr one_slice one_eslice one_nilslice one_func one_iface one_niliface Bool.and_true Bool.and_self List.length_cons List.length_nil Nat.one_ne_zero Nat.succ_ne_zero if_false List.set_cons_zero List.set_cons_succ lay_nil lay_1 lay_w Option.map_some

set_option maxHeartbeats 4000000 in
theorem lawShowReply : LawTrue Tryd.prog 4 [(t_Reply.sh, true)] := by
  rintro h ivs ha ⟨iv, r, rfl, ⟨cs, rfl, hf⟩, rfl⟩
  obtain ⟨dS, aS, okS', wS⟩ := fits_vw t_Reply hf
  obtain ⟨st, v, w, fs, body, rfl, rfl, s1, s2⟩ := rep_any aS wS
  refine icalls (.of ok4) (Nat.le_of_ble_eq_true rfl) ?_
  unfold c4
  have o1 := s1.one
  have o2 := s2.one
  simp (disch := (first | omega | assumption | (simp only [push_n, set_n, put_n, List.length_cons, List.length_nil, List.length_append, Nat.reduceAdd]; done) | (simp only [push_n, set_n, put_n, List.length_cons, List.length_nil, List.length_append]; omega) | (simp only [List.all_cons, List.all_nil, one_bool, one_int, one_str, one_ptr, one_nilptr, one_slice, one_eslice, one_nilslice, one_func, one_iface, one_niliface, Bool.and_true, Bool.true_and, List.getD_cons_zero, List.getD_cons_succ, List.contains_cons, List.contains_nil, Bool.or_true, Bool.true_or, Bool.or_false, Bool.false_or, Nat.reduceBEq, *]; done) | fail)) only [o1, o2, go_sem, Hold.p, HoldK.k, HoldL.K, HoldL.body, Nat.reduceBEq, Nat.reduceAdd, reduceIte]
  generalize hq_g0 : IH.push h (IObj.rows [[.int .i64 st, v, w]] 37 3 false) = g0
  have e_g0 : Ext h g0 := by rw [← hq_g0]; exact (Ext.refl _).push _
  have l_g0 : g0.n = h.n + 1 := by rw [← hq_g0]; rfl
  have b0 : At g0 h.n (IObj.rows [[.int .i64 st, v, w]] 37 3 false) := by rw [← hq_g0]; exact At.new _ _
  clear hq_g0
  have aS := aS.ext e_g0
  have q0 := b0.eq
  try simp (disch := (first | omega | assumption | (simp only [push_n, set_n, put_n, List.length_cons, List.length_nil, List.length_append, Nat.reduceAdd]; done) | (simp only [push_n, set_n, put_n, List.length_cons, List.length_nil, List.length_append]; omega) | (simp only [List.all_cons, List.all_nil, one_bool, one_int, one_str, one_ptr, one_nilptr, one_slice, one_eslice, one_nilslice, one_func, one_iface, one_niliface, Bool.and_true, Bool.true_and, List.getD_cons_zero, List.getD_cons_succ, List.contains_cons, List.contains_nil, Bool.or_true, Bool.true_or, Bool.or_false, Bool.false_or, Nat.reduceBEq, *]; done) | fail)) only [q0, go_sem, Hold.p, HoldK.k, HoldL.K, HoldL.body, Nat.reduceBEq, Nat.reduceAdd, reduceIte]
  refine callA_of (SzC.st szReply_f rfl (aS.up (by omega)) okS' (by omega)) ?_
  rintro r g1 ⟨⟨L, rfl, hL1, hL2⟩, E1⟩
  have b0 := b0.ext E1
  have aS := aS.ext E1
  have le_E1 := E1.le
  by_cases hn1 : L < 0
  · have d1 : decide (L < 0) = true := decide_eq_true hn1
    simp (disch := (first | omega | assumption | (simp only [push_n, set_n, put_n, List.length_cons, List.length_nil, List.length_append, Nat.reduceAdd]; done) | (simp only [push_n, set_n, put_n, List.length_cons, List.length_nil, List.length_append]; omega) | (simp only [List.all_cons, List.all_nil, one_bool, one_int, one_str, one_ptr, one_nilptr, one_slice, one_eslice, one_nilslice, one_func, one_iface, one_niliface, Bool.and_true, Bool.true_and, List.getD_cons_zero, List.getD_cons_succ, List.contains_cons, List.contains_nil, Bool.or_true, Bool.true_or, Bool.or_false, Bool.false_or, Nat.reduceBEq, *]; done) | fail)) only [d1, go_sem, Hold.p, HoldK.k, HoldL.K, HoldL.body, Nat.reduceBEq, Nat.reduceAdd, reduceIte]
  have d1 : decide (L < 0) = false := decide_eq_false hn1
  have tS := hL2 (by omega)
  have tT := repD_tot st fs body
  have tC := repD_cnt st fs body
  have hF : FldS fs := fun f hf => by have := fldL_tot fs f hf; omega
  have hXl := showReply_len st fs body
  have q0 := b0.eq
  simp (disch := (first | omega | assumption | (simp only [push_n, set_n, put_n, List.length_cons, List.length_nil, List.length_append, Nat.reduceAdd]; done) | (simp only [push_n, set_n, put_n, List.length_cons, List.length_nil, List.length_append]; omega) | (simp only [List.all_cons, List.all_nil, one_bool, one_int, one_str, one_ptr, one_nilptr, one_slice, one_eslice, one_nilslice, one_func, one_iface, one_niliface, Bool.and_true, Bool.true_and, List.getD_cons_zero, List.getD_cons_succ, List.contains_cons, List.contains_nil, Bool.or_true, Bool.true_or, Bool.or_false, Bool.false_or, Nat.reduceBEq, *]; done) | fail)) only [d1, q0, go_sem, Hold.p, HoldK.k, HoldL.K, HoldL.body, Nat.reduceBEq, Nat.reduceAdd, reduceIte]
  refine callA_of (ToC.st toReply_f rfl (aS.up (by omega)) (by omega)) ?_
  rintro r g2 ⟨c1, rfl, t1, E2⟩
  have b0 := b0.ext E2
  have aS := aS.ext E2
  have le_E2 := E2.le
  obtain ⟨x1, x2, rfl, sx1, sx2⟩ := rep_vw t1.view wS
  simp (disch := (first | omega | assumption | (simp only [push_n, set_n, put_n, List.length_cons, List.length_nil, List.length_append, Nat.reduceAdd]; done) | (simp only [push_n, set_n, put_n, List.length_cons, List.length_nil, List.length_append]; omega) | (simp only [List.all_cons, List.all_nil, one_bool, one_int, one_str, one_ptr, one_nilptr, one_slice, one_eslice, one_nilslice, one_func, one_iface, one_niliface, Bool.and_true, Bool.true_and, List.getD_cons_zero, List.getD_cons_succ, List.contains_cons, List.contains_nil, Bool.or_true, Bool.true_or, Bool.or_false, Bool.false_or, Nat.reduceBEq, *]; done) | fail)) only [go_sem, Hold.p, HoldK.k, HoldL.K, HoldL.body, Nat.reduceBEq, Nat.reduceAdd, reduceIte]
  refine callA_of (specShowReply_c g2 st x1 x2 fs body sx1 sx2 (by omega) hF) ?_
  rintro r g3 ⟨vw, rfl, oW, E3⟩
  have b0 := b0.ext E3
  have aS := aS.ext E3
  have le_E3 := E3.le
  have oW := bytes_ow oW (Nat.le_refl _)
  have hI : ∀ (g : IH) (y1 y2 : IV), SlR g 2 y1 (fldRows fs) → SlR g 1 y2 (strRows body) → ICalls Tryd.prog 14 [.agg [.int .i64 st, y1, y2]] g fun r h' => BytesR g h' r (showReply st fs body) := fun g y1 y2 h1 h2 => implShowReply_c g st y1 y2 fs body h1 h2 (by omega) hF
  generalize showReply st fs body = X at oW hI hXl
  obtain ⟨xb, xc⟩ := X
  simp only at oW hXl ⊢
  have tX := bytesD_tot xb
  have cX := bytes_cnt 5 xb
  have q0 := b0.eq
  simp (disch := (first | omega | assumption | (simp only [push_n, set_n, put_n, List.length_cons, List.length_nil, List.length_append, Nat.reduceAdd]; done) | (simp only [push_n, set_n, put_n, List.length_cons, List.length_nil, List.length_append]; omega) | (simp only [List.all_cons, List.all_nil, one_bool, one_int, one_str, one_ptr, one_nilptr, one_slice, one_eslice, one_nilslice, one_func, one_iface, one_niliface, Bool.and_true, Bool.true_and, List.getD_cons_zero, List.getD_cons_succ, List.contains_cons, List.contains_nil, Bool.or_true, Bool.true_or, Bool.or_false, Bool.false_or, Nat.reduceBEq, *]; done) | fail)) only [q0, go_sem, Hold.p, HoldK.k, HoldL.K, HoldL.body, Nat.reduceBEq, Nat.reduceAdd, reduceIte]
  refine callA_of (ToC.st toReply_f rfl (aS.up (by omega)) (by omega)) ?_
  rintro r g4 ⟨c2, rfl, oX, E4⟩
  have b0 := b0.ext E4
  have aS := aS.ext E4
  have oW := oW.ext E4
  have le_E4 := E4.le
  obtain ⟨y1, y2, rfl, sy1, sy2⟩ := rep_vw oX.view wS
  have p1 := sy1.one
  have p2 := sy2.one
  simp (disch := (first | omega | assumption | (simp only [push_n, set_n, put_n, List.length_cons, List.length_nil, List.length_append, Nat.reduceAdd]; done) | (simp only [push_n, set_n, put_n, List.length_cons, List.length_nil, List.length_append]; omega) | (simp only [List.all_cons, List.all_nil, one_bool, one_int, one_str, one_ptr, one_nilptr, one_slice, one_eslice, one_nilslice, one_func, one_iface, one_niliface, Bool.and_true, Bool.true_and, List.getD_cons_zero, List.getD_cons_succ, List.contains_cons, List.contains_nil, Bool.or_true, Bool.true_or, Bool.or_false, Bool.false_or, Nat.reduceBEq, *]; done) | fail)) only [p1, p2, go_sem, Hold.p, HoldK.k, HoldL.K, HoldL.body, Nat.reduceBEq, Nat.reduceAdd, reduceIte]
  generalize hq_g5 : IH.push g4 (IObj.rows [[.int .i64 st, y1, y2]] 43 3 false) = g5
  have e_g5 : Ext g4 g5 := by rw [← hq_g5]; exact (Ext.refl _).push _
  have l_g5 : g5.n = g4.n + 1 := by rw [← hq_g5]; rfl
  have bX : At g5 g4.n (IObj.rows [[.int .i64 st, y1, y2]] 43 3 false) := by rw [← hq_g5]; exact At.new _ _
  clear hq_g5
  have b0 := b0.ext e_g5
  have aS := aS.ext e_g5
  have oW := oW.ext e_g5
  have oX := oX.ext e_g5
  have sy1 := sy1.ext e_g5
  have sy2 := sy2.ext e_g5
  have qX := bX.eq
  try simp (disch := (first | omega | assumption | (simp only [push_n, set_n, put_n, List.length_cons, List.length_nil, List.length_append, Nat.reduceAdd]; done) | (simp only [push_n, set_n, put_n, List.length_cons, List.length_nil, List.length_append]; omega) | (simp only [List.all_cons, List.all_nil, one_bool, one_int, one_str, one_ptr, one_nilptr, one_slice, one_eslice, one_nilslice, one_func, one_iface, one_niliface, Bool.and_true, Bool.true_and, List.getD_cons_zero, List.getD_cons_succ, List.contains_cons, List.contains_nil, Bool.or_true, Bool.true_or, Bool.or_false, Bool.false_or, Nat.reduceBEq, *]; done) | fail)) only [qX, p1, p2, go_sem, Hold.p, HoldK.k, HoldL.K, HoldL.body, Nat.reduceBEq, Nat.reduceAdd, reduceIte]
  refine callA_of (hI g5 y1 y2 sy1 sy2) ?_
  rintro r g6 ⟨vg, rfl, oG, E6⟩
  have b0 := b0.ext E6
  have bX := bX.ext E6
  have aS := aS.ext E6
  have oW := oW.ext E6
  have oX := oX.ext E6
  have le_E6 := E6.le
  have oG := bytes_ow oG (Nat.le_refl _)
  simp only at oG
  simp (disch := (first | omega | assumption | (simp only [push_n, set_n, put_n, List.length_cons, List.length_nil, List.length_append, Nat.reduceAdd]; done) | (simp only [push_n, set_n, put_n, List.length_cons, List.length_nil, List.length_append]; omega) | (simp only [List.all_cons, List.all_nil, one_bool, one_int, one_str, one_ptr, one_nilptr, one_slice, one_eslice, one_nilslice, one_func, one_iface, one_niliface, Bool.and_true, Bool.true_and, List.getD_cons_zero, List.getD_cons_succ, List.contains_cons, List.contains_nil, Bool.or_true, Bool.true_or, Bool.or_false, Bool.false_or, Nat.reduceBEq, *]; done) | fail)) only [go_sem, Hold.p, HoldK.k, HoldL.K, HoldL.body, Nat.reduceBEq, Nat.reduceAdd, reduceIte]
  refine callA_of (EqC.sl eqByteS_f oG.up oW.up (by omega)) ?_
  rintro r g7 ⟨rfl, E7⟩
  have b0 := b0.ext E7
  have bX := bX.ext E7
  have aS := aS.ext E7
  have oW := oW.ext E7
  have oX := oX.ext E7
  have oG := oG.ext E7
  have le_E7 := E7.le
  have q0 := b0.eq
  have qX := bX.eq
  simp (disch := (first | omega | assumption | (simp only [push_n, set_n, put_n, List.length_cons, List.length_nil, List.length_append, Nat.reduceAdd]; done) | (simp only [push_n, set_n, put_n, List.length_cons, List.length_nil, List.length_append]; omega) | (simp only [List.all_cons, List.all_nil, one_bool, one_int, one_str, one_ptr, one_nilptr, one_slice, one_eslice, one_nilslice, one_func, one_iface, one_niliface, Bool.and_true, Bool.true_and, List.getD_cons_zero, List.getD_cons_succ, List.contains_cons, List.contains_nil, Bool.or_true, Bool.true_or, Bool.or_false, Bool.false_or, Nat.reduceBEq, *]; done) | fail)) only [q0, qX, decide_true, go_sem, Hold.p, HoldK.k, HoldL.K, HoldL.body, Nat.reduceBEq, Nat.reduceAdd, reduceIte]
  refine callA_of (ToC.st toReply_f rfl (aS.up (by omega)) (by omega)) ?_
  rintro r g8 ⟨c3, rfl, t3, E8⟩
  have b0 := b0.ext E8
  have bX := bX.ext E8
  have aS := aS.ext E8
  have oW := oW.ext E8
  have oX := oX.ext E8
  have oG := oG.ext E8
  have le_E8 := E8.le
  have q0 := b0.eq
  have qX := bX.eq
  simp (disch := (first | omega | assumption | (simp only [push_n, set_n, put_n, List.length_cons, List.length_nil, List.length_append, Nat.reduceAdd]; done) | (simp only [push_n, set_n, put_n, List.length_cons, List.length_nil, List.length_append]; omega) | (simp only [List.all_cons, List.all_nil, one_bool, one_int, one_str, one_ptr, one_nilptr, one_slice, one_eslice, one_nilslice, one_func, one_iface, one_niliface, Bool.and_true, Bool.true_and, List.getD_cons_zero, List.getD_cons_succ, List.contains_cons, List.contains_nil, Bool.or_true, Bool.true_or, Bool.or_false, Bool.false_or, Nat.reduceBEq, *]; done) | fail)) only [q0, qX, go_sem, Hold.p, HoldK.k, HoldL.K, HoldL.body, Nat.reduceBEq, Nat.reduceAdd, reduceIte]
  refine callA_of (EqC.st eqReply_f rfl oX.up t3.up (by omega)) ?_
  rintro r g9 ⟨rfl, E9⟩
  have b0 := b0.ext E9
  have bX := bX.ext E9
  have aS := aS.ext E9
  have oW := oW.ext E9
  have oX := oX.ext E9
  have oG := oG.ext E9
  have le_E9 := E9.le
  have qX := bX.eq
  simp (disch := (first | omega | assumption | (simp only [push_n, set_n, put_n, List.length_cons, List.length_nil, List.length_append, Nat.reduceAdd]; done) | (simp only [push_n, set_n, put_n, List.length_cons, List.length_nil, List.length_append]; omega) | (simp only [List.all_cons, List.all_nil, one_bool, one_int, one_str, one_ptr, one_nilptr, one_slice, one_eslice, one_nilslice, one_func, one_iface, one_niliface, Bool.and_true, Bool.true_and, List.getD_cons_zero, List.getD_cons_succ, List.contains_cons, List.contains_nil, Bool.or_true, Bool.true_or, Bool.or_false, Bool.false_or, Nat.reduceBEq, *]; done) | fail)) only [qX, go_sem, Hold.p, HoldK.k, HoldL.K, HoldL.body, Nat.reduceBEq, Nat.reduceAdd, reduceIte]
  refine callA_of (MkC.st (k := 1) markReply_f rfl oX (by omega)) ?_
  rintro r g10 ⟨rfl, oX, T10⟩
  have b0 := b0.trn T10 (by omega)
  have bX := bX.trn T10 (by omega)
  have aS := aS.trn T10 (by omega)
  have oW := oW.trn T10 (by omega)
  have oG := oG.trn T10 (by omega)
  have le_T10 := T10.le
  have hk : decide (((1 + cntW t_Reply (repD st fs body) : Nat) : Int) < 0) = false := decide_eq_false (by omega)
  simp (disch := (first | omega | assumption | (simp only [push_n, set_n, put_n, List.length_cons, List.length_nil, List.length_append, Nat.reduceAdd]; done) | (simp only [push_n, set_n, put_n, List.length_cons, List.length_nil, List.length_append]; omega) | (simp only [List.all_cons, List.all_nil, one_bool, one_int, one_str, one_ptr, one_nilptr, one_slice, one_eslice, one_nilslice, one_func, one_iface, one_niliface, Bool.and_true, Bool.true_and, List.getD_cons_zero, List.getD_cons_succ, List.contains_cons, List.contains_nil, Bool.or_true, Bool.true_or, Bool.or_false, Bool.false_or, Nat.reduceBEq, *]; done) | fail)) only [hk, go_sem, Hold.p, HoldK.k, HoldL.K, HoldL.body, Nat.reduceBEq, Nat.reduceAdd, reduceIte]
  refine callA_of (EqC.sl eqByteS_f oG.up oW.up (by omega)) ?_
  rintro r g11 ⟨rfl, E11⟩
  have b0 := b0.ext E11
  have bX := bX.ext E11
  have aS := aS.ext E11
  have oW := oW.ext E11
  have oG := oG.ext E11
  have le_E11 := E11.le
  simp (disch := (first | omega | assumption | (simp only [push_n, set_n, put_n, List.length_cons, List.length_nil, List.length_append, Nat.reduceAdd]; done) | (simp only [push_n, set_n, put_n, List.length_cons, List.length_nil, List.length_append]; omega) | (simp only [List.all_cons, List.all_nil, one_bool, one_int, one_str, one_ptr, one_nilptr, one_slice, one_eslice, one_nilslice, one_func, one_iface, one_niliface, Bool.and_true, Bool.true_and, List.getD_cons_zero, List.getD_cons_succ, List.contains_cons, List.contains_nil, Bool.or_true, Bool.true_or, Bool.or_false, Bool.false_or, Nat.reduceBEq, *]; done) | fail)) only [decide_true, go_sem, Hold.p, HoldK.k, HoldL.K, HoldL.body, Nat.reduceBEq, Nat.reduceAdd, reduceIte]
  refine callA_of (MkC.sl (k := 1) markByteS_f oG (by omega)) ?_
  rintro r g12 ⟨rfl, oG, T12⟩
  have b0 := b0.trn T12 (by omega)
  have bX := bX.trn T12 (by omega)
  have aS := aS.trn T12 (by omega)
  have oW := oW.trn T12 (by omega)
  have le_T12 := T12.le
  simp (disch := (first | omega | assumption | (simp only [push_n, set_n, put_n, List.length_cons, List.length_nil, List.length_append, Nat.reduceAdd]; done) | (simp only [push_n, set_n, put_n, List.length_cons, List.length_nil, List.length_append]; omega) | (simp only [List.all_cons, List.all_nil, one_bool, one_int, one_str, one_ptr, one_nilptr, one_slice, one_eslice, one_nilslice, one_func, one_iface, one_niliface, Bool.and_true, Bool.true_and, List.getD_cons_zero, List.getD_cons_succ, List.contains_cons, List.contains_nil, Bool.or_true, Bool.true_or, Bool.or_false, Bool.false_or, Nat.reduceBEq, *]; done) | fail)) only [go_sem, Hold.p, HoldK.k, HoldL.K, HoldL.body, Nat.reduceBEq, Nat.reduceAdd, reduceIte]
  refine callA_of (HdC.sl (k := 1) heldByteS_f oG.up (by omega)) ?_
  rintro r g13 ⟨rfl, E13⟩
  have b0 := b0.ext E13
  have bX := bX.ext E13
  have aS := aS.ext E13
  have oW := oW.ext E13
  have oG := oG.ext E13
  have le_E13 := E13.le
  have hq : decide (((1 + cntW (.slice 5 (.int .u8)) (bytesD xb) : Nat) : Int) < 0) = false := decide_eq_false (by omega)
  have q0 := b0.eq
  simp (disch := (first | omega | assumption | (simp only [push_n, set_n, put_n, List.length_cons, List.length_nil, List.length_append, Nat.reduceAdd]; done) | (simp only [push_n, set_n, put_n, List.length_cons, List.length_nil, List.length_append]; omega) | (simp only [List.all_cons, List.all_nil, one_bool, one_int, one_str, one_ptr, one_nilptr, one_slice, one_eslice, one_nilslice, one_func, one_iface, one_niliface, Bool.and_true, Bool.true_and, List.getD_cons_zero, List.getD_cons_succ, List.contains_cons, List.contains_nil, Bool.or_true, Bool.true_or, Bool.or_false, Bool.false_or, Nat.reduceBEq, *]; done) | fail)) only [hq, q0, decide_true, go_sem, Hold.p, HoldK.k, HoldL.K, HoldL.body, Nat.reduceBEq, Nat.reduceAdd, reduceIte]
  refine callA_of (ToC.st toReply_f rfl (aS.up (by omega)) (by omega)) ?_
  rintro r g14 ⟨c4, rfl, t4, E14⟩
  have b0 := b0.ext E14
  have bX := bX.ext E14
  have aS := aS.ext E14
  have oW := oW.ext E14
  have oG := oG.ext E14
  have le_E14 := E14.le
  obtain ⟨z1, z2, rfl, sz1, sz2⟩ := rep_vw t4.view wS
  simp (disch := (first | omega | assumption | (simp only [push_n, set_n, put_n, List.length_cons, List.length_nil, List.length_append, Nat.reduceAdd]; done) | (simp only [push_n, set_n, put_n, List.length_cons, List.length_nil, List.length_append]; omega) | (simp only [List.all_cons, List.all_nil, one_bool, one_int, one_str, one_ptr, one_nilptr, one_slice, one_eslice, one_nilslice, one_func, one_iface, one_niliface, Bool.and_true, Bool.true_and, List.getD_cons_zero, List.getD_cons_succ, List.contains_cons, List.contains_nil, Bool.or_true, Bool.true_or, Bool.or_false, Bool.false_or, Nat.reduceBEq, *]; done) | fail)) only [go_sem, Hold.p, HoldK.k, HoldL.K, HoldL.body, Nat.reduceBEq, Nat.reduceAdd, reduceIte]
  refine callA_of (hI g14 z1 z2 sz1 sz2) ?_
  rintro r g15 ⟨vh, rfl, oH, E15⟩
  have b0 := b0.ext E15
  have bX := bX.ext E15
  have aS := aS.ext E15
  have oW := oW.ext E15
  have oG := oG.ext E15
  have le_E15 := E15.le
  have oH := bytes_ow oH (Nat.le_refl _)
  simp only at oH
  simp (disch := (first | omega | assumption | (simp only [push_n, set_n, put_n, List.length_cons, List.length_nil, List.length_append, Nat.reduceAdd]; done) | (simp only [push_n, set_n, put_n, List.length_cons, List.length_nil, List.length_append]; omega) | (simp only [List.all_cons, List.all_nil, one_bool, one_int, one_str, one_ptr, one_nilptr, one_slice, one_eslice, one_nilslice, one_func, one_iface, one_niliface, Bool.and_true, Bool.true_and, List.getD_cons_zero, List.getD_cons_succ, List.contains_cons, List.contains_nil, Bool.or_true, Bool.true_or, Bool.or_false, Bool.false_or, Nat.reduceBEq, *]; done) | fail)) only [go_sem, Hold.p, HoldK.k, HoldL.K, HoldL.body, Nat.reduceBEq, Nat.reduceAdd, reduceIte]
  refine callA_of (EqC.sl eqByteS_f oH.up oW.up (by omega)) ?_
  rintro r g16 ⟨rfl, E16⟩
  have oG := oG.ext E16
  have le_E16 := E16.le
  simp (disch := (first | omega | assumption | (simp only [push_n, set_n, put_n, List.length_cons, List.length_nil, List.length_append, Nat.reduceAdd]; done) | (simp only [push_n, set_n, put_n, List.length_cons, List.length_nil, List.length_append]; omega) | (simp only [List.all_cons, List.all_nil, one_bool, one_int, one_str, one_ptr, one_nilptr, one_slice, one_eslice, one_nilslice, one_func, one_iface, one_niliface, Bool.and_true, Bool.true_and, List.getD_cons_zero, List.getD_cons_succ, List.contains_cons, List.contains_nil, Bool.or_true, Bool.true_or, Bool.or_false, Bool.false_or, Nat.reduceBEq, *]; done) | fail)) only [decide_true, go_sem, Hold.p, HoldK.k, HoldL.K, HoldL.body, Nat.reduceBEq, Nat.reduceAdd, reduceIte]
  refine callA_of (HdC.sl (k := 1) heldByteS_f oG.up (by omega)) ?_
  rintro r g17 ⟨rfl, E17⟩
  simp (disch := (first | omega | assumption | (simp only [push_n, set_n, put_n, List.length_cons, List.length_nil, List.length_append, Nat.reduceAdd]; done) | (simp only [push_n, set_n, put_n, List.length_cons, List.length_nil, List.length_append]; omega) | (simp only [List.all_cons, List.all_nil, one_bool, one_int, one_str, one_ptr, one_nilptr, one_slice, one_eslice, one_nilslice, one_func, one_iface, one_niliface, Bool.and_true, Bool.true_and, List.getD_cons_zero, List.getD_cons_succ, List.contains_cons, List.contains_nil, Bool.or_true, Bool.true_or, Bool.or_false, Bool.false_or, Nat.reduceBEq, *]; done) | fail)) only [hq, decide_true, go_sem, Hold.p, HoldK.k, HoldL.K, HoldL.body, Nat.reduceBEq, Nat.reduceAdd, reduceIte]
end
end Go.Proofs.YtaolhgjnlmaooaaDoor
