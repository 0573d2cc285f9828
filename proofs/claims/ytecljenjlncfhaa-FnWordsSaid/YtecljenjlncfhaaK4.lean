import Derived.Test.YtecljenjlncfhaaK3
set_option linter.unusedSimpArgs false
set_option linter.unusedVariables false
namespace Go.IW
open Go Go.RowKit
variable {P : Program}

theorem wr8 (x : Int) : wr .u8 x = ((UInt8.ofNat (x % 256).toNat).toNat : Int) := by
  have h1 : wr .u8 x = x % 256 := by unfold wr; rw [IntKind.wrap_u8]
  rw [h1]
  have h2 : (x % 256).toNat < 256 := by omega
  simp [UInt8.toNat_ofNat']
  omega
def mtxC (el : Nat) : CC :=
 (.seq (.reg [
   ⟨(some 2), none, .f (.mv (.c (.str [])))⟩])
 (.seq (.seq (.reg [
   ⟨(some 4), none, .f (.mv (.t 0))⟩,
   ⟨(some 5), none, .f (.bin .leq (.t 4) (.c (.int .i64 0)))⟩])
 (.cond (.t 5)
  (.seq (.reg [
    ⟨(some 2), none, .f (.mv (.c (.str [109, 48])))⟩])
  .ret)
  .skip))
 (.seq (.reg [
   ⟨(some 3), none, .f (.mv (.c (.str [])))⟩])
 (.seq (.block 0 (.loop (.seq (.seq (.reg [
     ⟨(some 6), none, .f (.mv (.t 0))⟩,
     ⟨(some 7), none, .f (.bin .gtr (.t 6) (.c (.int .i64 0)))⟩])
   (.cond (.t 7)
    .skip
    (.exit 0)))
   (.block 1 (.seq (.reg [
      ⟨(some 8), none, .f (.mv (.t 0))⟩,
      ⟨(some 9), none, .f (.bin .rem (.t 8) (.c (.int .i64 10)))⟩,
      ⟨(some 10), none, .f (.bin .add (.c (.int .i64 48)) (.t 9))⟩,
      ⟨(some 11), none, .f (.cvI .u8 (.t 10))⟩,
      ⟨(some 12), none, .x (.bslice el 1 [(.int .u8 0)] 1 [(0, (.t 11))])⟩,
      ⟨(some 13), none, .f (.b2s (.t 12))⟩,
      ⟨(some 14), none, .f (.mv (.t 3))⟩,
      ⟨(some 15), none, .f (.bin .add (.t 13) (.t 14))⟩,
      ⟨(some 3), none, .f (.mv (.t 15))⟩])
    (.reg [
      ⟨(some 16), none, .f (.mv (.t 0))⟩,
      ⟨(some 17), none, .f (.bin .quo (.t 16) (.c (.int .i64 10)))⟩,
      ⟨(some 0), none, .f (.mv (.t 17))⟩]))))))
 (.seq (.reg [
   ⟨(some 18), none, .f (.mv (.t 3))⟩,
   ⟨(some 19), none, .f (.bin .add (.c (.str [109])) (.t 18))⟩,
   ⟨(some 2), none, .f (.mv (.t 19))⟩])
 .ret)))))
theorem digs_0 (f : Nat) (acc : List UInt8) : digs f 0 acc = acc := by cases f <;> rfl
set_option maxRecDepth 20000 in
theorem mtx_calls {f el : Nat} (hf : fnComp P f = some (20, mtxC el, [.mv (.t 2)])) : MtC P f := by
  intro h n hn
  refine icalls (.of hf) (Nat.le_of_ble_eq_true rfl) ?_
  unfold mtxC
  by_cases h0 : n = 0
  · subst h0
    have d0 : decide (((0 : Nat) : Int) ≤ 0) = true := rfl
    simp only [d0, go_sem, Hold.p, HoldK.k, HoldL.K, HoldL.body, Nat.reduceBEq, Nat.reduceAdd, List.getElem?_cons_zero, List.getElem?_cons_succ, Option.bind_some, List.map_cons, List.map_nil, Nat.zero_add, if_true, List.getD_cons_zero, List.getD_cons_succ, List.contains_cons, List.contains_nil, Nat.reduceBEq, Bool.or_true, Bool.true_or, Bool.or_false, Bool.false_or, Bool.not_true, Bool.not_false, true_and, and_true]
    exact ⟨rfl, Ext.refl _⟩
  have d0 : decide ((n : Int) ≤ 0) = false := decide_eq_false (by omega)
  simp only [d0, go_sem, Hold.p, HoldK.k, HoldL.K, HoldL.body, Nat.reduceBEq, Nat.reduceAdd, List.getElem?_cons_zero, List.getElem?_cons_succ, Option.bind_some, List.map_cons, List.map_nil, Nat.zero_add, if_true, List.getD_cons_zero, List.getD_cons_succ, List.contains_cons, List.contains_nil, Nat.reduceBEq, Bool.or_true, Bool.true_or, Bool.or_false, Bool.false_or, Bool.not_true, Bool.not_false, true_and, and_true]
  refine loop_at (fun m e g => ∃ f k acc, m = k ∧ k ≤ f ∧ acc.length + k ≤ n ∧ digs f k acc = digs n n [] ∧ e 0 = .int .i64 (k : Nat) ∧ e 3 = .str acc ∧ Ext h g) n ?_ ?_
  · refine ⟨n, n, [], rfl, Nat.le_refl _, by simp, rfl, ?_⟩
    simp only [go_sem, Hold.p, HoldK.k, HoldL.K, HoldL.body, Nat.reduceBEq, Nat.reduceAdd, List.getElem?_cons_zero, List.getElem?_cons_succ, Option.bind_some, List.map_cons, List.map_nil, Nat.zero_add, if_true, List.getD_cons_zero, List.getD_cons_succ, List.contains_cons, List.contains_nil, Nat.reduceBEq, Bool.or_true, Bool.true_or, Bool.or_false, Bool.false_or, Bool.not_true, Bool.not_false, true_and, and_true]
    exact Ext.refl _
  · rintro m e g ⟨f, k, acc, rfl, hf, hl, hd, e0, e3, E⟩
    simp only [e0, e3, go_sem, Hold.p, HoldK.k, HoldL.K, HoldL.body, Nat.reduceBEq, Nat.reduceAdd, List.getElem?_cons_zero, List.getElem?_cons_succ, Option.bind_some, List.map_cons, List.map_nil, Nat.zero_add, if_true, List.getD_cons_zero, List.getD_cons_succ, List.contains_cons, List.contains_nil, Nat.reduceBEq, Bool.or_true, Bool.true_or, Bool.or_false, Bool.false_or, Bool.not_true, Bool.not_false, true_and, and_true]
    refine test_dec (fun hb => ?_) (fun hb => ?_)
    · obtain ⟨f', rfl⟩ : ∃ f', f = f' + 1 := ⟨f - 1, by omega⟩
      have w1 : ibin .rem (.int .i64 (m : Nat)) (.int .i64 10) = some (.int .i64 ((m % 10 : Nat) : Int)) := by
        simp [ibin, Int.tmod_eq_emod_of_nonneg]
      have w2 : wr .i64 (48 + ((m % 10 : Nat) : Int)) = ((48 + m % 10 : Nat) : Int) := by rw [wr64 _ (by omega)]; rfl
      have w3 : wr .u8 ((48 + m % 10 : Nat) : Int) = ((UInt8.ofNat (48 + m % 10)).toNat : Int) := by
        rw [wr8]; congr 2; congr 1; omega
      have w4 : ibin .quo (.int .i64 (m : Nat)) (.int .i64 10) = some (.int .i64 ((m / 10 : Nat) : Int)) := by
        have : wr .i64 ((m / 10 : Nat) : Int) = ((m / 10 : Nat) : Int) := wr64 _ (by omega)
        simp [ibin, Int.tdiv_eq_ediv_of_nonneg, this]
        exact this
      have hbb : bytesOf (List.take 1 (List.drop 0 [[IV.int .u8 ((UInt8.ofNat (48 + m % 10)).toNat : Int)]])) = some [UInt8.ofNat (48 + m % 10)] := bytesOf_strRows [UInt8.ofNat (48 + m % 10)]
      have hadd : ibin .add (.str [UInt8.ofNat (48 + m % 10)]) (.str acc) = some (.str (UInt8.ofNat (48 + m % 10) :: acc)) := by
        have : [UInt8.ofNat (48 + m % 10)].length + acc.length ≤ 9223372036854775807 := by simp; omega
        simp only [ibin, if_pos this]; rfl
      simp only [e0, e3, w1, w2, w3, w4, bslA_1, cells_int, List.length_singleton, List.all_cons, List.all_nil, one_int, Bool.and_true, hbb, hadd, Nat.le_refl, Option.map_some, go_sem, Hold.p, HoldK.k, HoldL.K, HoldL.body, Nat.reduceBEq, Nat.reduceAdd, List.getElem?_cons_zero, List.getElem?_cons_succ, Option.bind_some, List.map_cons, List.map_nil, Nat.zero_add, if_true, List.getD_cons_zero, List.getD_cons_succ, List.contains_cons, List.contains_nil, Nat.reduceBEq, Bool.or_true, Bool.true_or, Bool.or_false, Bool.false_or, Bool.not_true, Bool.not_false, true_and, and_true]
      refine ⟨m / 10, by omega, f', m / 10, _, rfl, by omega, ?_, ?_, rfl, rfl, E.push _⟩
      · simp; omega
      · rw [← hd, digs, if_neg (by omega)]
    · obtain rfl : m = 0 := by omega
      rw [digs_0] at hd
      have hadd : ibin .add (.str [109]) (.str acc) = some (.str (109 :: acc)) := by
        have : ([109] : List UInt8).length + acc.length ≤ 9223372036854775807 := by simp; omega
        simp only [ibin, if_pos this]; rfl
      simp only [e0, e3, hadd, go_sem, Hold.p, HoldK.k, HoldL.K, HoldL.body, Nat.reduceBEq, Nat.reduceAdd, List.getElem?_cons_zero, List.getElem?_cons_succ, Option.bind_some, List.map_cons, List.map_nil, Nat.zero_add, if_true, List.getD_cons_zero, List.getD_cons_succ, List.contains_cons, List.contains_nil, Nat.reduceBEq, Bool.or_true, Bool.true_or, Bool.or_false, Bool.false_or, Bool.not_true, Bool.not_false, true_and, and_true]
      refine ⟨?_, E⟩
      unfold mtext
      rw [if_neg h0, hd]

/-! The shapes in which they are used. -/
section
variable {g el : Nat} {e t : Ty} {h : IH} {d : Dat}
theorem one_list {t : Ty} (ht : t.one = true) {cs : List IV} (hl : cs.length = t.sz) : ∃ v, cs = [v] := by
  rw [one_sz ht] at hl
  match cs, hl with
  | [v], _ => exact ⟨v, rfl⟩
theorem ToC.sl (hg : ToC P g (.slice el e)) {v : IV} (hv : Vw 0 h.n h (.slice el e) [v] d) (hd : d.tot ≤ 1048576) : ICalls P g [v] h fun r h' => Ow h.n h'.n h' (.slice el e) [r] d ∧ Ext h h' := by
  refine (hg h [v] d hv hd).mono ?_
  rintro r h' ⟨cs', rfl, o, E⟩
  obtain ⟨w, rfl⟩ := one_list rfl o.len
  exact ⟨o, E⟩
theorem ToC.st (hg : ToC P g t) (ht : t.one = false) {cs : List IV} (hv : Vw 0 h.n h t cs d) (hd : d.tot ≤ 1048576) : ICalls P g [.agg cs] h fun r h' => ∃ cs', r = .agg cs' ∧ Ow h.n h'.n h' t cs' d ∧ Ext h h' := by
  have := hg h cs d hv hd
  rw [pk_agg ht] at this
  refine this.mono ?_
  rintro r h' ⟨cs', rfl, o, E⟩
  exact ⟨cs', pk_agg ht, o, E⟩
theorem SzC.sl (hg : SzC P g (.slice el e)) {v : IV} {left : Int} (hv : Vw 0 h.n h (.slice el e) [v] d) (hd : d.ok) (hl : 0 ≤ left ∧ left ≤ 1048576) : ICalls P g [v, .int .i64 left] h fun r h' => SzR left r d.tot ∧ Ext h h' := hg h [v] d left hv hd hl
theorem SzC.st (hg : SzC P g t) (ht : t.one = false) {cs : List IV} {left : Int} (hv : Vw 0 h.n h t cs d) (hd : d.ok) (hl : 0 ≤ left ∧ left ≤ 1048576) : ICalls P g [.agg cs, .int .i64 left] h fun r h' => SzR left r d.tot ∧ Ext h h' := by
  have := hg h cs d left hv hd hl
  rwa [pk_agg ht] at this
theorem EqC.sl (hg : EqC P g (.slice el e)) {v w : IV} (hv : Vw 0 h.n h (.slice el e) [v] d) (hw : Vw 0 h.n h (.slice el e) [w] d) (hd : d.tot ≤ 4611686018427387903) : ICalls P g [v, w] h fun r h' => r = .bool true ∧ Ext h h' := hg h [v] [w] d hv hw hd
theorem EqC.st (hg : EqC P g t) (ht : t.one = false) {c1 c2 : List IV} (hv : Vw 0 h.n h t c1 d) (hw : Vw 0 h.n h t c2 d) (hd : d.tot ≤ 4611686018427387903) : ICalls P g [.agg c1, .agg c2] h fun r h' => r = .bool true ∧ Ext h h' := by
  have := hg h c1 c2 d hv hw hd
  rwa [pk_agg ht, pk_agg ht] at this
theorem MkC.sl (hg : MkC P g (.slice el e)) {lo hi k : Nat} {v : IV} (ho : Ow lo hi h (.slice el e) [v] d) (hk : k + cntW (.slice el e) d + d.tot < 4611686018427387904) :
    ICalls P g [v, .int .i64 (k : Int)] h fun r h' => r = .int .i64 ((k + cntW (.slice el e) d : Nat) : Int) ∧ Ow lo hi h' (.slice el e) [v] (mkW (.slice el e) d k) ∧ Trn lo hi h h' := hg.ow ho hk
theorem MkC.st (hg : MkC P g t) (ht : t.one = false) {lo hi k : Nat} {cs : List IV} (ho : Ow lo hi h t cs d) (hk : k + cntW t d + d.tot < 4611686018427387904) :
    ICalls P g [.agg cs, .int .i64 (k : Int)] h fun r h' => r = .int .i64 ((k + cntW t d : Nat) : Int) ∧ Ow lo hi h' t cs (mkW t d k) ∧ Trn lo hi h h' := by
  have := hg.ow ho hk
  rwa [pk_agg ht] at this
theorem HdC.sl (hg : HdC P g (.slice el e)) {k : Nat} {v : IV} (hv : Vw 0 h.n h (.slice el e) [v] (mkW (.slice el e) d k)) (hk : k + cntW (.slice el e) d + d.tot < 4611686018427387904) :
    ICalls P g [v, .int .i64 (k : Int)] h fun r h' => r = .int .i64 ((k + cntW (.slice el e) d : Nat) : Int) ∧ Ext h h' := hg h [v] d k hv hk
theorem HdC.st (hg : HdC P g t) (ht : t.one = false) {k : Nat} {cs : List IV} (hv : Vw 0 h.n h t cs (mkW t d k)) (hk : k + cntW t d + d.tot < 4611686018427387904) :
    ICalls P g [.agg cs, .int .i64 (k : Int)] h fun r h' => r = .int .i64 ((k + cntW t d : Nat) : Int) ∧ Ext h h' := by
  have := hg h cs d k hv hk
  rwa [pk_agg ht] at this
end
end Go.IW

namespace Go.IW
open Go Go.RowKit

mutual
/-- Numbers within their kinds. -/
def wfD : Ty → Dat → Prop
  | .int k, .int n => (Lit.int k n).wf = true
  | .slice _ e, .list l => wfL e l
  | .cat a b, .pair x y => wfD a x ∧ wfD b y
  | _, _ => True
def wfL (e : Ty) : List Dat → Prop
  | [] => True
  | x :: l => wfD e x ∧ wfL e l
end
theorem wfL_mem {e : Ty} : ∀ {l : List Dat} {d : Dat}, wfL e l → d ∈ l → wfD e d
  | x :: l, d, h, hm => by
    rcases List.mem_cons.1 hm with rfl | hm
    · exact h.1
    · exact wfL_mem h.2 hm
theorem fits_vw {h : IH} : ∀ (t : Ty) {cs : List IV}, Fits h t.sh cs → ∃ d, Vw 0 h.n h t cs d ∧ d.ok ∧ wfD t d
  | .nil, _, e => ⟨.unit, ⟨e, rfl⟩, trivial, trivial⟩
  | .bool, _, ⟨b, e⟩ => ⟨.bool b, ⟨b, e, rfl⟩, trivial, trivial⟩
  | .int k, _, ⟨n, e, hw⟩ => ⟨.int n, ⟨n, e, rfl⟩, trivial, hw⟩
  | .str, _, ⟨s, e, hl⟩ => ⟨.str s, ⟨s, e, rfl⟩, hl, trivial⟩
  | .slice el t, _, ⟨v, rs, e, hs, hl, hf⟩ => by
    rw [Ty.sh_sz] at hs
    have key : ∀ rs : List (List IV), (∀ r ∈ rs, Fits h t.sh r) → ∃ ds, All2 (Rp (fun l => 0 ≤ l ∧ l < h.n) h t) rs ds ∧ okL ds ∧ wfL t ds := by
      intro rs
      induction rs with
      | nil => intro _; exact ⟨[], .nil, trivial, trivial⟩
      | cons r rs ih =>
        intro hr
        obtain ⟨d, a, b, c⟩ := fits_vw t (hr r List.mem_cons_self)
        obtain ⟨ds, a2, b2, c2⟩ := ih fun x hx => hr x (List.mem_cons_of_mem _ hx)
        exact ⟨d :: ds, .cons a a2, ⟨b, b2⟩, ⟨c, c2⟩⟩
    obtain ⟨ds, a, b, c⟩ := key rs hf
    exact ⟨.list ds, ⟨v, rs, ds, e, rfl, hs, fun l i n hv => ⟨Nat.zero_le _, hs.lt l i n hv⟩, a⟩, ⟨by rw [← a.len]; exact hl, b⟩, c⟩
  | .cat a b, _, ⟨x, y, e, h1, h2⟩ => by
    obtain ⟨d1, p1, q1, r1⟩ := fits_vw a h1
    obtain ⟨d2, p2, q2, r2⟩ := fits_vw b h2
    exact ⟨.pair d1 d2, ⟨x, y, d1, d2, e, rfl, p1, p2⟩, ⟨q1, q2⟩, ⟨r1, r2⟩⟩
end Go.IW

namespace Go.IW
open Go Go.RowKit
variable {P : Program}

/-- A value that is there only if b. Not to be looked into. -/
def gv (b : Bool) (v : IV) : IV := if b then v else .tuple []
theorem gv_t (v : IV) : gv true v = v := rfl
theorem gv_f (v : IV) : gv false v = .tuple [] := rfl
/-- A guarded step: what is told under b. -/
class HoldG where
  k : IV → Prop
def gpure (b : Bool) (o : Option IV) [K : HoldG] : Prop := if b then (match o with | some v => K.k v | none => False) else K.k (.tuple [])
theorem gp_some (b : Bool) (v : IV) (K : HoldG) : @gpure b (some v) K = K.k (gv b v) := by
  cases b <;> rfl
theorem gpure_of {b : Bool} {o : Option IV} {K : HoldG} (v : IV) (h : b = true → o = some v) (hk : K.k (gv b v)) : @gpure b o K := by
  cases b
  · exact hk
  · simp only [gpure, h rfl]; exact hk
theorem gpure_lift {b : Bool} {o o' : Option IV} {K : HoldG} (h : b = true → o = o') : @gpure b o K = @gpure b o' K := by
  cases b
  · rfl
  · rw [h rfl]
theorem gp_t (o : Option IV) (K : HoldG) : @gpure true o K = (match o with | some v => K.k v | none => False) := rfl
theorem gp_f (o : Option IV) (K : HoldG) : @gpure false o K = K.k (.tuple []) := rfl

/-- A guard over a known slot. -/
class HoldB where
  k : Env → IH → Prop
def gop (P : Program) (c : IV) (want : Bool) (d : Nat) (k : FK) (e : Env) (h : IH) [K : HoldB] : Prop := match c with
  | .bool b => @gpure (b == want) (feval e h k) ⟨fun v => K.k (upd e d v) h⟩
  | .tuple [] => K.k (upd e d (.tuple [])) h
  | _ => False
@[go_sem ↓ high] theorem vcOp_gpure (d t : Nat) (want : Bool) (k : FK) (K : Env → IH → Prop) (e : Env) (h : IH) : vcOp P ⟨some d, some (t, want), .f k⟩ K e h = @gop P (e t) want d k e h ⟨K⟩ := by
  unfold vcOp gop
  simp only
  cases e t with
  | bool b =>
    cases b <;> cases want <;> simp [gpure, vcK, put] <;> cases feval e h k <;> simp
  | tuple vs => cases vs <;> simp [put]
  | _ => rfl
@[go_sem] theorem gop_bt (b : Bool) (d : Nat) (k : FK) (e : Env) (h : IH) (K : HoldB) : @gop P (.bool b) true d k e h K = @gpure b (feval e h k) ⟨fun v => K.k (upd e d v) h⟩ := by
  unfold gop; simp
@[go_sem] theorem gop_bf (b : Bool) (d : Nat) (k : FK) (e : Env) (h : IH) (K : HoldB) : @gop P (.bool b) false d k e h K = @gpure (!b) (feval e h k) ⟨fun v => K.k (upd e d v) h⟩ := by
  unfold gop; cases b <;> rfl
@[go_sem] theorem gop_u (want : Bool) (d : Nat) (k : FK) (e : Env) (h : IH) (K : HoldB) : @gop P (.tuple []) want d k e h K = K.k (upd e d (.tuple [])) h := by
  unfold gop; rfl
attribute [go_sem] gp_some gp_f HoldG.k HoldB.k gv_t gv_f

section
variable (b : Bool) (K : HoldG) (x y : IV) (h : IH)
@[go_sem] theorem gl_mv : @gpure b (some (gv b x)) K = @gpure b (some x) K := gpure_lift fun e => by rw [e]; rfl
@[go_sem] theorem gl_ld : @gpure b (ldF h (gv b x)) K = @gpure b (ldF h x) K := gpure_lift fun e => by rw [e]; rfl
@[go_sem] theorem gl_ldA (n : Nat) : @gpure b (ldAF h n (gv b x)) K = @gpure b (ldAF h n x) K := gpure_lift fun e => by rw [e]; rfl
@[go_sem] theorem gl_nck : @gpure b (nckF (gv b x)) K = @gpure b (nckF x) K := gpure_lift fun e => by rw [e]; rfl
@[go_sem] theorem gl_fadr (o : Nat) : @gpure b (fadrF o (gv b x)) K = @gpure b (fadrF o x) K := gpure_lift fun e => by rw [e]; rfl
@[go_sem] theorem gl_bin1 (op : BinOp) : @gpure b (ibin op (gv b x) y) K = @gpure b (ibin op x y) K := gpure_lift fun e => by rw [e]; rfl
@[go_sem] theorem gl_bin2 (op : BinOp) : @gpure b (ibin op x (gv b y)) K = @gpure b (ibin op x y) K := gpure_lift fun e => by rw [e]; rfl
@[go_sem] theorem gl_binB1 (g : Bool) : @gpure b (ibinB g (gv b x) y) K = @gpure b (ibinB g x y) K := gpure_lift fun e => by rw [e]; rfl
@[go_sem] theorem gl_binB2 (g : Bool) : @gpure b (ibinB g x (gv b y)) K = @gpure b (ibinB g x y) K := gpure_lift fun e => by rw [e]; rfl
@[go_sem] theorem gl_nil1 (k : NK) (g : Bool) (o : Option Bool) : @gpure b (eqnF g (isNil k (gv b x)) o) K = @gpure b (eqnF g (isNil k x) o) K := gpure_lift fun e => by rw [e]; rfl
@[go_sem] theorem gl_nil2 (k : NK) (g : Bool) (o : Option Bool) : @gpure b (eqnF g o (isNil k (gv b x))) K = @gpure b (eqnF g o (isNil k x)) K := gpure_lift fun e => by rw [e]; rfl
@[go_sem] theorem gl_un (op : UnOp) : @gpure b (iun op (gv b x)) K = @gpure b (iun op x) K := gpure_lift fun e => by rw [e]; rfl
@[go_sem] theorem gl_cvI (k : IntKind) : @gpure b (cvIF k (gv b x)) K = @gpure b (cvIF k x) K := gpure_lift fun e => by rw [e]; rfl
@[go_sem] theorem gl_len : @gpure b (lenF (gv b x)) K = @gpure b (lenF x) K := gpure_lift fun e => by rw [e]; rfl
@[go_sem] theorem gl_lenS : @gpure b (lenSF (gv b x)) K = @gpure b (lenSF x) K := gpure_lift fun e => by rw [e]; rfl
@[go_sem] theorem gl_iadr1 (sz : Nat) : @gpure b (iadrF h sz (gv b x) y) K = @gpure b (iadrF h sz x y) K := gpure_lift fun e => by rw [e]; rfl
@[go_sem] theorem gl_iadr2 (sz : Nat) : @gpure b (iadrF h sz x (gv b y)) K = @gpure b (iadrF h sz x y) K := gpure_lift fun e => by rw [e]; rfl
@[go_sem] theorem gl_idxS1 : @gpure b (idxSF (gv b x) y) K = @gpure b (idxSF x y) K := gpure_lift fun e => by rw [e]; rfl
@[go_sem] theorem gl_idxS2 : @gpure b (idxSF x (gv b y)) K = @gpure b (idxSF x y) K := gpure_lift fun e => by rw [e]; rfl
@[go_sem] theorem gl_ext (i : Nat) : @gpure b (extF i (gv b x)) K = @gpure b (extF i x) K := gpure_lift fun e => by rw [e]; rfl
@[go_sem] theorem gl_fld (o n : Nat) (a : Bool) : @gpure b (fldF o n a (gv b x)) K = @gpure b (fldF o n a x) K := gpure_lift fun e => by rw [e]; rfl
@[go_sem] theorem gl_cell (l i k : Nat) : @gpure b (h.cell l i k) K = @gpure b (cellO (h.obj l) i k) K := by rw [cell_eq]
/-- What comes of a chain. -/
@[go_sem] theorem pick_and (c : Bool) : pickF (.bool b) (gv b (.bool c)) (.bool false) = some (.bool (b && c)) := by cases b <;> rfl
@[go_sem] theorem pick_or (c : Bool) : pickF (.bool b) (.bool true) (gv (!b) (.bool c)) = some (.bool (b || c)) := by cases b <;> rfl
/-- .. inside a chain. -/
@[go_sem] theorem gl_pick1 (z : IV) : @gpure b (pickF (gv b x) y z) K = @gpure b (pickF x y z) K := gpure_lift fun e => by rw [e]; rfl
@[go_sem] theorem gl_pick2 (z : IV) : @gpure b (pickF x (gv b y) z) K = @gpure b (pickF x y z) K := gpure_lift fun e => by rw [e]; rfl
@[go_sem] theorem gl_pick3 (z : IV) : @gpure b (pickF x y (gv b z)) K = @gpure b (pickF x y z) K := gpure_lift fun e => by rw [e]; rfl
end
theorem set_pushT {h : IH} {l : Nat} {a o : IObj} (hl : l = h.n) : (h.push a).set l o = h.push o := set_push (by simp [hl]) a o
theorem set_pushN {h : IH} {l : Nat} {a o : IObj} (hl : l ≠ h.n) : (h.push a).set l o = (h.set l o).push a := set_push_ne (by simp [hl]) a o
theorem mid_get {α : Type} {A B : List α} {r : α} {i : Nat} (hi : A.length = i) : (A ++ r :: B)[i]? = some r := by
  subst hi; simp
theorem mid_set {α : Type} {A B : List α} {r x : α} {i : Nat} (hi : A.length = i) : (A ++ r :: B).set i x = A ++ x :: B := by
  subst hi; simp
/-- A store into one row of several. -/
theorem stO_mid {l i k : Nat} {c : IV} {A B : List (List IV)} {row : List IV} {el sz : Nat} {h : IH} {K : HoldK} (hi : A.length = i) (hk : k < row.length) (hc : c.one = true) :
    @stO 1 i k [c] l (.rows (A ++ row :: B) el sz false) h K = K.k (.tuple []) (h.set l (.rows (A ++ row.set k c :: B) el sz false)) := by
  unfold stO
  simp only [mid_get hi, List.length_singleton, List.all_cons, List.all_nil, hc, Bool.and_true, true_and, wrt, Nat.succ_le_of_lt hk, mid_set hi]
/-! Parts of a text. -/
theorem slcS_hi {s : List UInt8} {m : Nat} {q : IntKind} (h : m ≤ s.length) : slcSF (.str s) none (some (.int q (m : Int))) = some (.str (s.take m)) := by
  rw [slcSF_of (boundF_of (by omega) (by omega)) rfl]; simp
theorem slcS_lo {s : List UInt8} {m : Nat} {q : IntKind} (h : m ≤ s.length) : slcSF (.str s) (some (.int q (m : Int))) none = some (.str (s.drop m)) := by
  rw [slcSF_of rfl (boundF_of (by omega) (by omega))]; simp
theorem slcS_mid {s : List UInt8} {m n : Nat} {q q' : IntKind} (h : m ≤ n) (h2 : n ≤ s.length) : slcSF (.str s) (some (.int q (m : Int))) (some (.int q' (n : Int))) = some (.str ((s.take n).drop m)) := by
  rw [slcSF_of (boundF_of (by omega) (by omega)) (boundF_of (by omega) (by simp; omega))]; simp
theorem ibs_cat {s t : List UInt8} (h : s.length + t.length ≤ 9223372036854775807) : ibin .add (.str s) (.str t) = some (.str (s ++ t)) := if_pos h
theorem iadr_sl {h : IH} {sz l j k : Nat} {v x : IV} (hi : iadrF h sz v x = some (.ptr l j k)) : ∃ i n, v = .slice l i n := by
  unfold iadrF at hi
  split at hi
  · split at hi
    · have := Option.some.inj hi
      simp only [IV.ptr.injEq] at this
      exact ⟨_, _, by rw [this.1]⟩
    · cases hi
  · cases hi
theorem iadr_same {h h' : IH} {sz l j k : Nat} {v x : IV} (hi : iadrF h sz v x = some (.ptr l j k)) (ho : h'.obj l = h.obj l) : iadrF h' sz v x = some (.ptr l j k) := by
  obtain ⟨i, n, rfl⟩ := iadr_sl hi
  cases x with
  | int q m =>
    unfold iadrF at hi ⊢
    simp only [size_eq, ho] at hi ⊢
    exact hi
  | _ => simp [iadrF] at hi
/-- Nothing old has turned but one object. -/
structure Sav (b : Nat) (h g : IH) : Prop where
  le : h.n ≤ g.n
  obj : ∀ m, m < h.n → m ≠ b → g.obj m = h.obj m
theorem Sav.refl (b : Nat) (h : IH) : Sav b h h := ⟨Nat.le_refl _, fun _ _ _ => rfl⟩
theorem Sav.trans {b : Nat} {h g k : IH} (s : Sav b h g) (t : Sav b g k) : Sav b h k := ⟨Nat.le_trans s.le t.le, fun m hm hb => (t.obj m (Nat.lt_of_lt_of_le hm s.le) hb).trans (s.obj m hm hb)⟩
theorem Sav.ext {b : Nat} {h g g' : IH} (s : Sav b h g) (E : Ext g g') : Sav b h g' := ⟨Nat.le_trans s.le E.le, fun m hm hb => (E.obj m (Nat.lt_of_lt_of_le hm s.le)).trans (s.obj m hm hb)⟩
theorem Sav.set {b l : Nat} {h g : IH} (s : Sav b h g) (hl : h.n ≤ l ∨ l = b) (o : IObj) : Sav b h (g.set l o) := ⟨s.le, fun m hm hb => (set_there _ _ _ _ (by omega)).trans (s.obj m hm hb)⟩
theorem Sav.sl {b : Nat} {h g : IH} (s : Sav b h g) {sz : Nat} {v : IV} {rs : List (List IV)} (hs : SlR h sz v rs) (hb : ∀ l i n, v = .slice l i n → l ≠ b) : SlR g sz v rs :=
  hs.same s.le fun l i n hv => s.obj l (hs.lt l i n hv) (hb l i n hv)
/-- What was made anew is new: an extension of what was there ahead of it. -/
theorem Ext.sav {a b c : IH} {p : Nat} (e : Ext a b) (s : Sav p b c) (hp : a.n ≤ p) : Ext a c :=
  ⟨Nat.le_trans e.le s.le, fun l hl => (s.obj l (Nat.lt_of_lt_of_le hl e.le) (by omega)).trans (e.obj l hl)⟩
theorem At.sav {h g : IH} {p q : Nat} {o : IObj} (a : At h q o) (s : Sav p h g) (hq : q ≠ p) : At g q o := ⟨Nat.lt_of_lt_of_le a.lt s.le, (s.obj q a.lt hq).trans a.eq⟩
theorem Own.sav {lo hi el sz : Nat} {h g : IH} {p : Nat} {v : IV} {rs : List (List IV)} (o : Own lo hi h el sz v rs) (s : Sav p h g) (hp : p < lo ∨ hi ≤ p) : Own lo hi g el sz v rs := by
  rcases o with o | ⟨l, h0, rfl, h1, h2, h3, h4⟩
  · exact .inl o
  · exact .inr ⟨l, h0, rfl, h1, h2, Nat.le_trans h3 s.le, (s.obj l (by omega) (by omega)).trans h4⟩
theorem SlR.sav {h g : IH} {p sz : Nat} {v : IV} {rs : List (List IV)} (hs : SlR h sz v rs) (s : Sav p h g) (hb : ∀ l i n, v = .slice l i n → l ≠ p) : SlR g sz v rs := s.sl hs hb
/-! The bytes of a constant text. -/
def smO (o : IObj) (v : IV) (h : IH) [K : HoldK] : Prop := match o with | .rows _ _ _ false => K.k v h | _ => False
def smA (x : IV) (h : IH) [K : HoldK] : Prop := match x with | .slice l i n => smO (h.obj l) (.slice l i n) h | _ => False
@[go_sem ↓] theorem act_smark (x : CX) (e : Env) (h : IH) (K : IV → IH → Prop) : act P h e K (.ux .smark [x]) = @smA (x.ev e) h ⟨K⟩ := by
  unfold smA
  simp only [act, uact, List.map_cons, List.map_nil]
  cases x.ev e with
  | slice l i n =>
    simp only [smO]
    cases h.obj l <;> rfl
  | _ => simp
@[go_sem] theorem smA_slice (l i n : Nat) (h : IH) (K : HoldK) : @smA (.slice l i n) h K = @smO (h.obj l) (.slice l i n) h K := nr rfl
@[go_sem] theorem smO_rows (rs : List (List IV)) (e sz : Nat) (v : IV) (h : IH) (K : HoldK) : @smO (.rows rs e sz false) v h K = K.k v h := nr rfl
/-! Rows of structs without slices. -/
theorem flat_list {α : Type} {row : α → List IV} {dat : α → Dat} {S : Nat → Prop} {h : IH} {t : Ty} (hx : ∀ {cs d}, Rp S h t cs d → ∃ x, cs = row x ∧ d = dat x) : ∀ {rs : List (List IV)} {ds : List Dat}, All2 (Rp S h t) rs ds → ∃ xs : List α, rs = xs.map row ∧ ds = xs.map dat
  | _, _, .nil => ⟨[], rfl, rfl⟩
  | _, _, .cons h t => by
    obtain ⟨x, rfl, rfl⟩ := hx h
    obtain ⟨xs, rfl, rfl⟩ := flat_list hx t
    exact ⟨x :: xs, rfl, rfl⟩
theorem flat_own {α : Type} {row : α → List IV} {dat : α → Dat} {h : IH} {t : Ty} (hx : ∀ x, Ro h t (row x) (dat x) []) : ∀ xs : List α, All3 (Ro h t) (xs.map row) (xs.map dat) []
  | [] => .nil
  | x :: xs => by
    have := All3.cons (hx x) (flat_own hx xs)
    simpa using this
theorem Own.ow {α : Type} {row : α → List IV} {dat : α → Dat} {lo hi : Nat} {h : IH} {el : Nat} {t : Ty} {v : IV} {xs : List α} (hx : ∀ x, Ro h t (row x) (dat x) []) (ho : Own lo hi h el t.sz v (xs.map row)) (hh : hi ≤ h.n) :
    Ow lo hi h (.slice el t) [v] (.list (xs.map dat)) := by
  rcases ho with ⟨hn, hv⟩ | ⟨l, hne, rfl, h1, h2, h3, hob⟩
  · have : xs = [] := List.map_eq_nil_iff.1 hn
    subst this
    exact Ow.flat rfl ⟨v, [], rfl, rfl, .inl ⟨rfl, rfl, hv⟩⟩ hh
  · refine ⟨⟨[l], ⟨_, _, rfl, rfl, .inr ⟨l, xs.map row, [], ?_, by simp, by omega, hob, rfl, flat_own hx xs⟩⟩, by simp, by simp; omega⟩, hh⟩
    intro he
    exact hne (by rw [List.map_eq_nil_iff] at he; rw [he]; rfl)
theorem view_sl {α : Type} {row : α → List IV} {dat : α → Dat} {lo hi : Nat} {h : IH} {el : Nat} {t : Ty} {v : IV} {d : Dat} (hx : ∀ {cs d}, Rp (fun l => lo ≤ l ∧ l < hi) h t cs d → ∃ x, cs = row x ∧ d = dat x) (hv : Vw lo hi h (.slice el t) [v] d) :
    ∃ xs : List α, d = .list (xs.map dat) ∧ SlR h t.sz v (xs.map row) ∧ ∀ l i n, v = .slice l i n → lo ≤ l ∧ l < hi := by
  obtain ⟨v', rs, ds, e1, rfl, hs, hS, ha⟩ := hv
  obtain rfl := (List.cons.inj e1).1
  obtain ⟨xs, rfl, rfl⟩ := flat_list hx ha
  exact ⟨xs, rfl, hs, hS⟩
theorem Vw.up {lo hi : Nat} {h : IH} {t : Ty} {cs : List IV} {d : Dat} (hv : Vw lo hi h t cs d) (hh : hi ≤ h.n) : Vw 0 h.n h t cs d := hv.wide (Nat.zero_le _) hh
theorem Ow.up {lo hi : Nat} {h : IH} {t : Ty} {cs : List IV} {d : Dat} (ho : Ow lo hi h t cs d) : Vw 0 h.n h t cs d := ho.view.up ho.le
end Go.IW
