import Derived.Test.YtdpaehdolhdjdaaDoorK2
import Derived.Lib.AppendIntMem
import Derived.Lib.ItoaLen
import Derived.Lib.Join
import Derived.Lib.HexFns
set_option linter.unusedSimpArgs false
set_option linter.unusedVariables false
namespace Go.IW
open Go Go.RowKit
variable {P : Program}

/-! The shapes in which they are used. -/
section
variable {g el : Nat} {e t : Ty} {h : IH} {d : Dat}
theorem one_list {t : Ty} (ht : t.one = true) {cs : List IV} (hl : cs.length = t.sz) : ∃ v, cs = [v] := by
  rw [one_sz ht] at hl
  match cs, hl with
  | [v], _ => exact ⟨v, rfl⟩
theorem ToC.sl (hg : ToC P g (.slice el e)) {v : IV} (hv : Vw 0 h.n h (.slice el e) [v] d) (hd : d.tot ≤ 1048576) : ICalls P g [v] h fun r h' => Ow h.n h'.n h' (.slice el e) [r] d ∧ Ext h h' := by
  refine (hg h [v] d hv hd).mono ?_
  rintro r h' ⟨cs', rfl, o, E⟩
  obtain ⟨w, rfl⟩ := one_list rfl o.len
  exact ⟨o, E⟩
theorem ToC.st (hg : ToC P g t) (ht : t.one = false) {cs : List IV} (hv : Vw 0 h.n h t cs d) (hd : d.tot ≤ 1048576) : ICalls P g [.agg cs] h fun r h' => ∃ cs', r = .agg cs' ∧ Ow h.n h'.n h' t cs' d ∧ Ext h h' := by
  have := hg h cs d hv hd
  rw [pk_agg ht] at this
  refine this.mono ?_
  rintro r h' ⟨cs', rfl, o, E⟩
  exact ⟨cs', pk_agg ht, o, E⟩
theorem SzC.sl (hg : SzC P g (.slice el e)) {v : IV} {left : Int} (hv : Vw 0 h.n h (.slice el e) [v] d) (hd : d.ok) (hl : 0 ≤ left ∧ left ≤ 1048576) : ICalls P g [v, .int .i64 left] h fun r h' => SzR left r d.tot ∧ Ext h h' := hg h [v] d left hv hd hl
theorem SzC.st (hg : SzC P g t) (ht : t.one = false) {cs : List IV} {left : Int} (hv : Vw 0 h.n h t cs d) (hd : d.ok) (hl : 0 ≤ left ∧ left ≤ 1048576) : ICalls P g [.agg cs, .int .i64 left] h fun r h' => SzR left r d.tot ∧ Ext h h' := by
  have := hg h cs d left hv hd hl
  rwa [pk_agg ht] at this
theorem EqC.sl (hg : EqC P g (.slice el e)) {v w : IV} (hv : Vw 0 h.n h (.slice el e) [v] d) (hw : Vw 0 h.n h (.slice el e) [w] d) (hd : d.tot ≤ 4611686018427387903) : ICalls P g [v, w] h fun r h' => r = .bool true ∧ Ext h h' := hg h [v] [w] d hv hw hd
theorem EqC.st (hg : EqC P g t) (ht : t.one = false) {c1 c2 : List IV} (hv : Vw 0 h.n h t c1 d) (hw : Vw 0 h.n h t c2 d) (hd : d.tot ≤ 4611686018427387903) : ICalls P g [.agg c1, .agg c2] h fun r h' => r = .bool true ∧ Ext h h' := by
  have := hg h c1 c2 d hv hw hd
  rwa [pk_agg ht, pk_agg ht] at this
theorem MkC.sl (hg : MkC P g (.slice el e)) {lo hi k : Nat} {v : IV} (ho : Ow lo hi h (.slice el e) [v] d) (hk : k + cntW (.slice el e) d + d.tot < 4611686018427387904) :
    ICalls P g [v, .int .i64 (k : Int)] h fun r h' => r = .int .i64 ((k + cntW (.slice el e) d : Nat) : Int) ∧ Ow lo hi h' (.slice el e) [v] (mkW (.slice el e) d k) ∧ Trn lo hi h h' := hg.ow ho hk
theorem MkC.st (hg : MkC P g t) (ht : t.one = false) {lo hi k : Nat} {cs : List IV} (ho : Ow lo hi h t cs d) (hk : k + cntW t d + d.tot < 4611686018427387904) :
    ICalls P g [.agg cs, .int .i64 (k : Int)] h fun r h' => r = .int .i64 ((k + cntW t d : Nat) : Int) ∧ Ow lo hi h' t cs (mkW t d k) ∧ Trn lo hi h h' := by
  have := hg.ow ho hk
  rwa [pk_agg ht] at this
theorem HdC.sl (hg : HdC P g (.slice el e)) {k : Nat} {v : IV} (hv : Vw 0 h.n h (.slice el e) [v] (mkW (.slice el e) d k)) (hk : k + cntW (.slice el e) d + d.tot < 4611686018427387904) :
    ICalls P g [v, .int .i64 (k : Int)] h fun r h' => r = .int .i64 ((k + cntW (.slice el e) d : Nat) : Int) ∧ Ext h h' := hg h [v] d k hv hk
theorem HdC.st (hg : HdC P g t) (ht : t.one = false) {k : Nat} {cs : List IV} (hv : Vw 0 h.n h t cs (mkW t d k)) (hk : k + cntW t d + d.tot < 4611686018427387904) :
    ICalls P g [.agg cs, .int .i64 (k : Int)] h fun r h' => r = .int .i64 ((k + cntW t d : Nat) : Int) ∧ Ext h h' := by
  have := hg h cs d k hv hk
  rwa [pk_agg ht] at this
end
end Go.IW

namespace Go.IW
open Go Go.RowKit

mutual
/-- Numbers within their kinds. -/
def wfD : Ty → Dat → Prop
  | .int k, .int n => (Lit.int k n).wf = true
  | .slice _ e, .list l => wfL e l
  | .cat a b, .pair x y => wfD a x ∧ wfD b y
  | _, _ => True
def wfL (e : Ty) : List Dat → Prop
  | [] => True
  | x :: l => wfD e x ∧ wfL e l
end
end Go.IW

namespace Go.IW
open Go Go.RowKit
variable {P : Program}

/-- A value that is there only if b. Not to be looked into. -/
def gv (b : Bool) (v : IV) : IV := if b then v else .tuple []
theorem gv_t (v : IV) : gv true v = v := rfl
theorem gv_f (v : IV) : gv false v = .tuple [] := rfl
/-- A guarded step: what is told under b. -/
class HoldG where
  k : IV → Prop
def gpure (b : Bool) (o : Option IV) [K : HoldG] : Prop := if b then (match o with | some v => K.k v | none => False) else K.k (.tuple [])
theorem gp_some (b : Bool) (v : IV) (K : HoldG) : @gpure b (some v) K = K.k (gv b v) := by
  cases b <;> rfl
theorem gpure_lift {b : Bool} {o o' : Option IV} {K : HoldG} (h : b = true → o = o') : @gpure b o K = @gpure b o' K := by
  cases b
  · rfl
  · rw [h rfl]
theorem gp_f (o : Option IV) (K : HoldG) : @gpure false o K = K.k (.tuple []) := rfl

/-- A guard over a known slot. -/
class HoldB where
  k : Env → IH → Prop
def gop (P : Program) (c : IV) (want : Bool) (d : Nat) (k : FK) (e : Env) (h : IH) [K : HoldB] : Prop := match c with
  | .bool b => @gpure (b == want) (feval e h k) ⟨fun v => K.k (upd e d v) h⟩
  | .tuple [] => K.k (upd e d (.tuple [])) h
  | _ => False
@[go_sem ↓ high] theorem vcOp_gpure (d t : Nat) (want : Bool) (k : FK) (K : Env → IH → Prop) (e : Env) (h : IH) : vcOp P ⟨some d, some (t, want), .f k⟩ K e h = @gop P (e t) want d k e h ⟨K⟩ := by
  unfold vcOp gop
  simp only
  cases e t with
  | bool b =>
    cases b <;> cases want <;> simp [gpure, vcK, put] <;> cases feval e h k <;> simp
  | tuple vs => cases vs <;> simp [put]
  | _ => rfl
@[go_sem] theorem gop_bt (b : Bool) (d : Nat) (k : FK) (e : Env) (h : IH) (K : HoldB) : @gop P (.bool b) true d k e h K = @gpure b (feval e h k) ⟨fun v => K.k (upd e d v) h⟩ := by
  unfold gop; simp
@[go_sem] theorem gop_bf (b : Bool) (d : Nat) (k : FK) (e : Env) (h : IH) (K : HoldB) : @gop P (.bool b) false d k e h K = @gpure (!b) (feval e h k) ⟨fun v => K.k (upd e d v) h⟩ := by
  unfold gop; cases b <;> rfl
@[go_sem] theorem gop_u (want : Bool) (d : Nat) (k : FK) (e : Env) (h : IH) (K : HoldB) : @gop P (.tuple []) want d k e h K = K.k (upd e d (.tuple [])) h := by
  unfold gop; rfl
attribute [go_sem] gp_some gp_f HoldG.k HoldB.k gv_t gv_f

section
variable (b : Bool) (K : HoldG) (x y : IV) (h : IH)
@[go_sem] theorem gl_mv : @gpure b (some (gv b x)) K = @gpure b (some x) K := gpure_lift fun e => by rw [e]; rfl
@[go_sem] theorem gl_ld : @gpure b (ldF h (gv b x)) K = @gpure b (ldF h x) K := gpure_lift fun e => by rw [e]; rfl
@[go_sem] theorem gl_ldA (n : Nat) : @gpure b (ldAF h n (gv b x)) K = @gpure b (ldAF h n x) K := gpure_lift fun e => by rw [e]; rfl
@[go_sem] theorem gl_nck : @gpure b (nckF (gv b x)) K = @gpure b (nckF x) K := gpure_lift fun e => by rw [e]; rfl
@[go_sem] theorem gl_fadr (o : Nat) : @gpure b (fadrF o (gv b x)) K = @gpure b (fadrF o x) K := gpure_lift fun e => by rw [e]; rfl
@[go_sem] theorem gl_bin1 (op : BinOp) : @gpure b (ibin op (gv b x) y) K = @gpure b (ibin op x y) K := gpure_lift fun e => by rw [e]; rfl
@[go_sem] theorem gl_bin2 (op : BinOp) : @gpure b (ibin op x (gv b y)) K = @gpure b (ibin op x y) K := gpure_lift fun e => by rw [e]; rfl
@[go_sem] theorem gl_binB1 (g : Bool) : @gpure b (ibinB g (gv b x) y) K = @gpure b (ibinB g x y) K := gpure_lift fun e => by rw [e]; rfl
@[go_sem] theorem gl_binB2 (g : Bool) : @gpure b (ibinB g x (gv b y)) K = @gpure b (ibinB g x y) K := gpure_lift fun e => by rw [e]; rfl
@[go_sem] theorem gl_nil1 (k : NK) (g : Bool) (o : Option Bool) : @gpure b (eqnF g (isNil k (gv b x)) o) K = @gpure b (eqnF g (isNil k x) o) K := gpure_lift fun e => by rw [e]; rfl
@[go_sem] theorem gl_nil2 (k : NK) (g : Bool) (o : Option Bool) : @gpure b (eqnF g o (isNil k (gv b x))) K = @gpure b (eqnF g o (isNil k x)) K := gpure_lift fun e => by rw [e]; rfl
@[go_sem] theorem gl_un (op : UnOp) : @gpure b (iun op (gv b x)) K = @gpure b (iun op x) K := gpure_lift fun e => by rw [e]; rfl
@[go_sem] theorem gl_cvI (k : IntKind) : @gpure b (cvIF k (gv b x)) K = @gpure b (cvIF k x) K := gpure_lift fun e => by rw [e]; rfl
@[go_sem] theorem gl_len : @gpure b (lenF (gv b x)) K = @gpure b (lenF x) K := gpure_lift fun e => by rw [e]; rfl
@[go_sem] theorem gl_lenS : @gpure b (lenSF (gv b x)) K = @gpure b (lenSF x) K := gpure_lift fun e => by rw [e]; rfl
@[go_sem] theorem gl_iadr1 (sz : Nat) : @gpure b (iadrF h sz (gv b x) y) K = @gpure b (iadrF h sz x y) K := gpure_lift fun e => by rw [e]; rfl
@[go_sem] theorem gl_iadr2 (sz : Nat) : @gpure b (iadrF h sz x (gv b y)) K = @gpure b (iadrF h sz x y) K := gpure_lift fun e => by rw [e]; rfl
@[go_sem] theorem gl_idxS1 : @gpure b (idxSF (gv b x) y) K = @gpure b (idxSF x y) K := gpure_lift fun e => by rw [e]; rfl
@[go_sem] theorem gl_idxS2 : @gpure b (idxSF x (gv b y)) K = @gpure b (idxSF x y) K := gpure_lift fun e => by rw [e]; rfl
@[go_sem] theorem gl_ext (i : Nat) : @gpure b (extF i (gv b x)) K = @gpure b (extF i x) K := gpure_lift fun e => by rw [e]; rfl
@[go_sem] theorem gl_fld (o n : Nat) (a : Bool) : @gpure b (fldF o n a (gv b x)) K = @gpure b (fldF o n a x) K := gpure_lift fun e => by rw [e]; rfl
@[go_sem] theorem gl_cell (l i k : Nat) : @gpure b (h.cell l i k) K = @gpure b (cellO (h.obj l) i k) K := by rw [cell_eq]
/-- What comes of a chain. -/
@[go_sem] theorem pick_and (c : Bool) : pickF (.bool b) (gv b (.bool c)) (.bool false) = some (.bool (b && c)) := by cases b <;> rfl
@[go_sem] theorem pick_or (c : Bool) : pickF (.bool b) (.bool true) (gv (!b) (.bool c)) = some (.bool (b || c)) := by cases b <;> rfl
/-- .. inside a chain. -/
@[go_sem] theorem gl_pick1 (z : IV) : @gpure b (pickF (gv b x) y z) K = @gpure b (pickF x y z) K := gpure_lift fun e => by rw [e]; rfl
@[go_sem] theorem gl_pick2 (z : IV) : @gpure b (pickF x (gv b y) z) K = @gpure b (pickF x y z) K := gpure_lift fun e => by rw [e]; rfl
@[go_sem] theorem gl_pick3 (z : IV) : @gpure b (pickF x y (gv b z)) K = @gpure b (pickF x y z) K := gpure_lift fun e => by rw [e]; rfl
end
theorem set_pushT {h : IH} {l : Nat} {a o : IObj} (hl : l = h.n) : (h.push a).set l o = h.push o := set_push (by simp [hl]) a o
theorem set_pushN {h : IH} {l : Nat} {a o : IObj} (hl : l ≠ h.n) : (h.push a).set l o = (h.set l o).push a := set_push_ne (by simp [hl]) a o
theorem mid_get {α : Type} {A B : List α} {r : α} {i : Nat} (hi : A.length = i) : (A ++ r :: B)[i]? = some r := by
  subst hi; simp
theorem mid_set {α : Type} {A B : List α} {r x : α} {i : Nat} (hi : A.length = i) : (A ++ r :: B).set i x = A ++ x :: B := by
  subst hi; simp
/-- A store into one row of several. -/
theorem stO_mid {l i k : Nat} {c : IV} {A B : List (List IV)} {row : List IV} {el sz : Nat} {h : IH} {K : HoldK} (hi : A.length = i) (hk : k < row.length) (hc : c.one = true) :
    @stO 1 i k [c] l (.rows (A ++ row :: B) el sz false) h K = K.k (.tuple []) (h.set l (.rows (A ++ row.set k c :: B) el sz false)) := by
  unfold stO
  simp only [mid_get hi, List.length_singleton, List.all_cons, List.all_nil, hc, Bool.and_true, true_and, wrt, Nat.succ_le_of_lt hk, mid_set hi]
/-! Parts of a text. -/
theorem slcS_hi {s : List UInt8} {m : Nat} {q : IntKind} (h : m ≤ s.length) : slcSF (.str s) none (some (.int q (m : Int))) = some (.str (s.take m)) := by
  rw [slcSF_of (boundF_of (by omega) (by omega)) rfl]; simp
theorem slcS_lo {s : List UInt8} {m : Nat} {q : IntKind} (h : m ≤ s.length) : slcSF (.str s) (some (.int q (m : Int))) none = some (.str (s.drop m)) := by
  rw [slcSF_of rfl (boundF_of (by omega) (by omega))]; simp
theorem slcS_mid {s : List UInt8} {m n : Nat} {q q' : IntKind} (h : m ≤ n) (h2 : n ≤ s.length) : slcSF (.str s) (some (.int q (m : Int))) (some (.int q' (n : Int))) = some (.str ((s.take n).drop m)) := by
  rw [slcSF_of (boundF_of (by omega) (by omega)) (boundF_of (by omega) (by simp; omega))]; simp
theorem ibs_cat {s t : List UInt8} (h : s.length + t.length ≤ 9223372036854775807) : ibin .add (.str s) (.str t) = some (.str (s ++ t)) := if_pos h
theorem iadr_sl {h : IH} {sz l j k : Nat} {v x : IV} (hi : iadrF h sz v x = some (.ptr l j k)) : ∃ i n, v = .slice l i n := by
  unfold iadrF at hi
  split at hi
  · split at hi
    · have := Option.some.inj hi
      simp only [IV.ptr.injEq] at this
      exact ⟨_, _, by rw [this.1]⟩
    · cases hi
  · cases hi
theorem iadr_same {h h' : IH} {sz l j k : Nat} {v x : IV} (hi : iadrF h sz v x = some (.ptr l j k)) (ho : h'.obj l = h.obj l) : iadrF h' sz v x = some (.ptr l j k) := by
  obtain ⟨i, n, rfl⟩ := iadr_sl hi
  cases x with
  | int q m =>
    unfold iadrF at hi ⊢
    simp only [size_eq, ho] at hi ⊢
    exact hi
  | _ => simp [iadrF] at hi
/-- Nothing old has turned but one object. -/
structure Sav (b : Nat) (h g : IH) : Prop where
  le : h.n ≤ g.n
  obj : ∀ m, m < h.n → m ≠ b → g.obj m = h.obj m
theorem Sav.refl (b : Nat) (h : IH) : Sav b h h := ⟨Nat.le_refl _, fun _ _ _ => rfl⟩
theorem Sav.trans {b : Nat} {h g k : IH} (s : Sav b h g) (t : Sav b g k) : Sav b h k := ⟨Nat.le_trans s.le t.le, fun m hm hb => (t.obj m (Nat.lt_of_lt_of_le hm s.le) hb).trans (s.obj m hm hb)⟩
theorem Sav.ext {b : Nat} {h g g' : IH} (s : Sav b h g) (E : Ext g g') : Sav b h g' := ⟨Nat.le_trans s.le E.le, fun m hm hb => (E.obj m (Nat.lt_of_lt_of_le hm s.le)).trans (s.obj m hm hb)⟩
theorem Sav.set {b l : Nat} {h g : IH} (s : Sav b h g) (hl : h.n ≤ l ∨ l = b) (o : IObj) : Sav b h (g.set l o) := ⟨s.le, fun m hm hb => (set_there _ _ _ _ (by omega)).trans (s.obj m hm hb)⟩
theorem Sav.sl {b : Nat} {h g : IH} (s : Sav b h g) {sz : Nat} {v : IV} {rs : List (List IV)} (hs : SlR h sz v rs) (hb : ∀ l i n, v = .slice l i n → l ≠ b) : SlR g sz v rs :=
  hs.same s.le fun l i n hv => s.obj l (hs.lt l i n hv) (hb l i n hv)
/-- What was made anew is new: an extension of what was there ahead of it. -/
theorem Ext.sav {a b c : IH} {p : Nat} (e : Ext a b) (s : Sav p b c) (hp : a.n ≤ p) : Ext a c :=
  ⟨Nat.le_trans e.le s.le, fun l hl => (s.obj l (Nat.lt_of_lt_of_le hl e.le) (by omega)).trans (e.obj l hl)⟩
theorem At.sav {h g : IH} {p q : Nat} {o : IObj} (a : At h q o) (s : Sav p h g) (hq : q ≠ p) : At g q o := ⟨Nat.lt_of_lt_of_le a.lt s.le, (s.obj q a.lt hq).trans a.eq⟩
theorem Own.sav {lo hi el sz : Nat} {h g : IH} {p : Nat} {v : IV} {rs : List (List IV)} (o : Own lo hi h el sz v rs) (s : Sav p h g) (hp : p < lo ∨ hi ≤ p) : Own lo hi g el sz v rs := by
  rcases o with o | ⟨l, h0, rfl, h1, h2, h3, h4⟩
  · exact .inl o
  · exact .inr ⟨l, h0, rfl, h1, h2, Nat.le_trans h3 s.le, (s.obj l (by omega) (by omega)).trans h4⟩
theorem SlR.sav {h g : IH} {p sz : Nat} {v : IV} {rs : List (List IV)} (hs : SlR h sz v rs) (s : Sav p h g) (hb : ∀ l i n, v = .slice l i n → l ≠ p) : SlR g sz v rs := s.sl hs hb
/-! The bytes of a constant text. -/
def smO (o : IObj) (v : IV) (h : IH) [K : HoldK] : Prop := match o with | .rows _ _ _ false => K.k v h | _ => False
def smA (x : IV) (h : IH) [K : HoldK] : Prop := match x with | .slice l i n => smO (h.obj l) (.slice l i n) h | _ => False
@[go_sem ↓] theorem act_smark (x : CX) (e : Env) (h : IH) (K : IV → IH → Prop) : act P h e K (.ux .smark [x]) = @smA (x.ev e) h ⟨K⟩ := by
  unfold smA
  simp only [act, uact, List.map_cons, List.map_nil]
  cases x.ev e with
  | slice l i n =>
    simp only [smO]
    cases h.obj l <;> rfl
  | _ => simp
@[go_sem] theorem smA_slice (l i n : Nat) (h : IH) (K : HoldK) : @smA (.slice l i n) h K = @smO (h.obj l) (.slice l i n) h K := nr rfl
@[go_sem] theorem smO_rows (rs : List (List IV)) (e sz : Nat) (v : IV) (h : IH) (K : HoldK) : @smO (.rows rs e sz false) v h K = K.k v h := nr rfl
theorem flat_own {α : Type} {row : α → List IV} {dat : α → Dat} {h : IH} {t : Ty} (hx : ∀ x, Ro h t (row x) (dat x) []) : ∀ xs : List α, All3 (Ro h t) (xs.map row) (xs.map dat) []
  | [] => .nil
  | x :: xs => by
    have := All3.cons (hx x) (flat_own hx xs)
    simpa using this
theorem Own.ow {α : Type} {row : α → List IV} {dat : α → Dat} {lo hi : Nat} {h : IH} {el : Nat} {t : Ty} {v : IV} {xs : List α} (hx : ∀ x, Ro h t (row x) (dat x) []) (ho : Own lo hi h el t.sz v (xs.map row)) (hh : hi ≤ h.n) :
    Ow lo hi h (.slice el t) [v] (.list (xs.map dat)) := by
  rcases ho with ⟨hn, hv⟩ | ⟨l, hne, rfl, h1, h2, h3, hob⟩
  · have : xs = [] := List.map_eq_nil_iff.1 hn
    subst this
    exact Ow.flat rfl ⟨v, [], rfl, rfl, .inl ⟨rfl, rfl, hv⟩⟩ hh
  · refine ⟨⟨[l], ⟨_, _, rfl, rfl, .inr ⟨l, xs.map row, [], ?_, by simp, by omega, hob, rfl, flat_own hx xs⟩⟩, by simp, by simp; omega⟩, hh⟩
    intro he
    exact hne (by rw [List.map_eq_nil_iff] at he; rw [he]; rfl)
end Go.IW

namespace Go.IW
open Go
/-! A region that draws its order, by what each operation leaves. -/
section
variable {P : Program} (ops : List COp) (anc : List (List Nat)) (n : Nat)
def finT : DT → Bool
  | .fin => true
  | _ => false
def okStep (done : List Nat) (i : Nat) : Bool := decide (i < n) && !done.contains i && (anc.getD i []).all done.contains
def okLast (done : List Nat) (i : Nat) (t : DT) : Bool := decide (i = n) && (anc.getD n []).all done.contains && done.all (anc.getD n []).contains && finT t
def okTree : List Nat → DT → Bool
  | _, .fin => false
  | _, .stop => true
  | done, .fl i r => okLast anc n done i r || (okStep anc n done i && okTree (i :: done) r)
  | done, .br i t r => (okLast anc n done i t || (okStep anc n done i && okTree (i :: done) t)) && okTree done r
variable {ops anc n}
theorem vcT_facts {B : Env → IH → Prop} {F : Nat → Env → IH → Prop} {K : Env → IH → Prop}
    (hstep : ∀ i e h, i < n → B e h → (∀ j ∈ anc.getD i [], F j e h) → vcOp P (ops.getD i default) (fun e' h' => B e' h' ∧ F i e' h' ∧ ∀ j, j < n → j ≠ i → i ∉ anc.getD j [] → F j e h → F j e' h') e h)
    (hagain : ∀ j e h, j < n → F j e h → again (ops.getD j default) e h)
    (hlast : ∀ e h, B e h → (∀ j ∈ anc.getD n [], F j e h) → vcOp P (ops.getD n default) K e h) :
    ∀ (t : DT) (done : List Nat) (e : Env) (h : IH), okTree anc n done t = true → B e h → (∀ j ∈ done, j < n ∧ F j e h ∧ ∀ a ∈ anc.getD j [], a ∈ done) → vcT P ops anc done t K e h := by
  have hag : ∀ i e h (l : List Nat), (∀ j ∈ l, j < n ∧ F j e h) → againAll ops anc i e h l := by
    intro i e h l
    induction l with
    | nil => intro _; trivial
    | cons a r ih => intro hl; exact ⟨.inr (hagain a e h (hl a (List.mem_cons_self ..)).1 (hl a (List.mem_cons_self ..)).2), ih fun j hj => hl j (List.mem_cons_of_mem _ hj)⟩
  have hall : ∀ i e h (l : List Nat), (∀ j ∈ l, (anc.getD i []).contains j = true) → againAll ops anc i e h l := by
    intro i e h l
    induction l with
    | nil => intro _; trivial
    | cons a r ih => intro hl; exact ⟨.inl (hl a (List.mem_cons_self ..)), ih fun j hj => hl j (List.mem_cons_of_mem _ hj)⟩
  have hone : ∀ (i : Nat) (r : DT) (done : List Nat) (e : Env) (h : IH), (okStep anc n done i && okTree anc n (i :: done) r) = true → B e h → (∀ j ∈ done, j < n ∧ F j e h ∧ ∀ a ∈ anc.getD j [], a ∈ done) →
      (∀ e' h', B e' h' → (∀ j ∈ i :: done, j < n ∧ F j e' h' ∧ ∀ a ∈ anc.getD j [], a ∈ i :: done) → vcT P ops anc (i :: done) r K e' h') →
      vcOp P (ops.getD i default) (fun e' h' => againAll ops anc i e' h' done ∧ vcT P ops anc (i :: done) r K e' h') e h := by
    intro i r done e h hk hB hd ih
    simp only [okStep, Bool.and_eq_true, decide_eq_true_eq, Bool.not_eq_true', List.all_eq_true] at hk
    obtain ⟨⟨⟨k1, k2⟩, k3⟩, k4⟩ := hk
    have hnd : i ∉ done := by simpa using k2
    have han : ∀ a ∈ anc.getD i [], a ∈ done := fun a ha => by simpa using k3 a ha
    refine vcOp_mono (fun e' h' hp => ?_) (hstep i e h k1 hB fun j hj => (hd j (han j hj)).2.1)
    obtain ⟨p1, p2, p3⟩ := hp
    have hF : ∀ j ∈ done, j < n ∧ F j e' h' := fun j hj => ⟨(hd j hj).1, p3 j (hd j hj).1 (fun hc => hnd (hc ▸ hj)) (fun hc => hnd ((hd j hj).2.2 i hc)) (hd j hj).2.1⟩
    refine ⟨hag i e' h' done hF, ih e' h' p1 fun j hj => ?_⟩
    rcases List.mem_cons.1 hj with rfl | hj
    · exact ⟨k1, p2, fun a ha => List.mem_cons_of_mem _ (han a ha)⟩
    · exact ⟨(hF j hj).1, (hF j hj).2, fun a ha => List.mem_cons_of_mem _ ((hd j hj).2.2 a ha)⟩
  have hlst : ∀ (i : Nat) (r : DT) (done : List Nat) (e : Env) (h : IH), okLast anc n done i r = true → B e h → (∀ j ∈ done, j < n ∧ F j e h ∧ ∀ a ∈ anc.getD j [], a ∈ done) →
      vcOp P (ops.getD i default) (fun e' h' => againAll ops anc i e' h' done ∧ vcT P ops anc (i :: done) r K e' h') e h := by
    intro i r done e h hk hB hd
    simp only [okLast, Bool.and_eq_true, decide_eq_true_eq, List.all_eq_true] at hk
    obtain ⟨⟨⟨rfl, k2⟩, k3⟩, k4⟩ := hk
    have hr : r = .fin := by cases r <;> simp [finT] at k4 ⊢
    subst hr
    exact vcOp_mono (fun e' h' hp => ⟨hall _ e' h' done fun j hj => k3 j hj, hp⟩) (hlast e h hB fun j hj => (hd j (by simpa using k2 j hj)).2.1)
  intro t
  induction t with
  | fin => intro done e h hk; simp [okTree] at hk
  | stop => intro done e h _ _ _; trivial
  | fl i r ih =>
    intro done e h hk hB hd
    simp only [okTree, Bool.or_eq_true] at hk
    refine vcOp_mono (fun e' h' hp => hp.2) (?_ : vcOp P (ops.getD i default) (fun e' h' => againAll ops anc i e' h' done ∧ vcT P ops anc (i :: done) r K e' h') e h)
    rcases hk with hk | hk
    · exact hlst i r done e h hk hB hd
    · exact hone i r done e h hk hB hd fun e' h' b d => ih _ e' h' (by simp only [Bool.and_eq_true] at hk; exact hk.2) b d
  | br i t r iht ihr =>
    intro done e h hk hB hd
    simp only [okTree, Bool.and_eq_true, Bool.or_eq_true] at hk
    refine ⟨?_, ihr done e h hk.2 hB hd⟩
    rcases hk.1 with hk | hk
    · exact hlst i t done e h hk hB hd
    · exact hone i t done e h (by simp only [Bool.and_eq_true]; exact hk) hB hd fun e' h' b d => iht _ e' h' hk.2 b d
end
/-! Flat structs held against each other. -/
section
variable (h : IH) (g : Bool) (ks : List Nat) (r r' xs ys : List IV)
@[go_sem] theorem ueval_aeq : ueval h (.aeq g ks) [.agg xs, .agg ys] = (aeqV ks xs ys).map fun b => .bool (b != g) := rfl
@[go_sem] theorem aeqV_nil : aeqV [] [] [] = some true := rfl
@[go_sem] theorem aeqV_int (k : IntKind) (a b : Int) : aeqV (0 :: ks) (.int k a :: r) (.int k b :: r') = (aeqV ks r r').map fun t => decide (a = b) && t := by simp [aeqV]
@[go_sem] theorem aeqV_str (a b : List UInt8) : aeqV (1 :: ks) (.str a :: r) (.str b :: r') = (aeqV ks r r').map fun t => decide (a = b) && t := rfl
@[go_sem] theorem aeqV_bool (a b : Bool) : aeqV (2 :: ks) (.bool a :: r) (.bool b :: r') = (aeqV ks r r').map fun t => decide (a = b) && t := rfl
end
end Go.IW

namespace Go.IW
open Go Go.RowKit

/-- Where the rows of a slice lie. -/
theorem SlR.mem {ρ : List RLoc} {B : Nat} {w : World} {h : IH} {x : Value} {v : IV} {rs : List (List IV)} (hw : WRel ρ B w h) (hx : VRel ρ x v) (hs : SlR h 1 v rs) (hne : rs ≠ []) :
    ∃ bk o c news, x = .slice (some ⟨bk, o, none⟩) rs.length c ∧ rs.length ≤ c ∧ LRel ρ news rs.flatten ∧ news.length = rs.length ∧ bk < w.heap.size ∧ ∀ (j : Nat) u, news[j]? = some u → w.cell? ⟨bk, o + j, none⟩ = some u := by
  obtain ⟨ad, c, news, e1, hcap, hl, hnl, hok, had, hget⟩ := src_rows hw hx hs.src
  have hsrc := hs.src
  cases hx with
  | @slice l i n c' r h1 h2 h3 h4 =>
    obtain ⟨rs0, e, ro, ho, _⟩ := srcRows_live hsrc
    have hbk : r.block < w.heap.size := (hw.obj l r h1).block_lt (by rw [ho]; rfl)
    simp only [Value.slice.injEq] at e1
    obtain ⟨rfl, rfl, rfl⟩ := e1
    refine ⟨_, _, _, news, rfl, hcap, hl, by simpa using hnl, hbk, fun j u hu => ?_⟩
    have := hget _ rfl j u hu
    rwa [Lib.add_plain] at this
  | _ => first | (simp only [srcRows, Option.some.injEq] at hsrc; exact absurd hsrc.symm hne) | (simp [srcRows] at hsrc; done) | (simp [srcRows] at hsrc; exact absurd hsrc hne)

end Go.IW
