import Derived.Test.YtdpaehdolhdjdaaGreatDoorK2
import Derived.Lib.AppendIntMem
import Derived.Lib.ItoaLen
import Derived.Lib.Join
import Derived.Lib.HexFns
import Derived.Lib.IndexMore
import Derived.Lib.Bytes
import Derived.WalkSmall
import Derived.SizedLaws
import Derived.Shelf.Vars
set_option linter.unusedSimpArgs false
set_option linter.unusedVariables false
namespace Go.IW
open Go Go.RowKit

mutual
/-- Numbers within their kinds. -/
def wfD : Ty → Dat → Prop
  | .int k, .int n => (Lit.int k n).wf = true
  | .slice _ e, .list l => wfL e l
  | .cat a b, .pair x y => wfD a x ∧ wfD b y
  | _, _ => True
def wfL (e : Ty) : List Dat → Prop
  | [] => True
  | x :: l => wfD e x ∧ wfL e l
end
theorem fits_vw {h : IH} : ∀ (t : Ty) {cs : List IV}, Fits h t.sh cs → ∃ d, Vw 0 h.n h t cs d ∧ d.ok ∧ wfD t d
  | .nil, _, e => ⟨.unit, ⟨e, rfl⟩, trivial, trivial⟩
  | .bool, _, ⟨b, e⟩ => ⟨.bool b, ⟨b, e, rfl⟩, trivial, trivial⟩
  | .int k, _, ⟨n, e, hw⟩ => ⟨.int n, ⟨n, e, rfl⟩, trivial, hw⟩
  | .str, _, ⟨s, e, hl⟩ => ⟨.str s, ⟨s, e, rfl⟩, hl, trivial⟩
  | .slice el t, _, ⟨v, rs, e, hs, hl, hf⟩ => by
    rw [Ty.sh_sz] at hs
    have key : ∀ rs : List (List IV), (∀ r ∈ rs, Fits h t.sh r) → ∃ ds, All2 (Rp (fun l => 0 ≤ l ∧ l < h.n) h t) rs ds ∧ okL ds ∧ wfL t ds := by
      intro rs
      induction rs with
      | nil => intro _; exact ⟨[], .nil, trivial, trivial⟩
      | cons r rs ih =>
        intro hr
        obtain ⟨d, a, b, c⟩ := fits_vw t (hr r List.mem_cons_self)
        obtain ⟨ds, a2, b2, c2⟩ := ih fun x hx => hr x (List.mem_cons_of_mem _ hx)
        exact ⟨d :: ds, .cons a a2, ⟨b, b2⟩, ⟨c, c2⟩⟩
    obtain ⟨ds, a, b, c⟩ := key rs hf
    exact ⟨.list ds, ⟨v, rs, ds, e, rfl, hs, fun l i n hv => ⟨Nat.zero_le _, hs.lt l i n hv⟩, a⟩, ⟨by rw [← a.len]; exact hl, b⟩, c⟩
  | .cat a b, _, ⟨x, y, e, h1, h2⟩ => by
    obtain ⟨d1, p1, q1, r1⟩ := fits_vw a h1
    obtain ⟨d2, p2, q2, r2⟩ := fits_vw b h2
    exact ⟨.pair d1 d2, ⟨x, y, d1, d2, e, rfl, p1, p2⟩, ⟨q1, q2⟩, ⟨r1, r2⟩⟩
end Go.IW

namespace Go.IW
open Go Go.RowKit
variable {P : Program}

/-- A value that is there only if b. Not to be looked into. -/
def gv (b : Bool) (v : IV) : IV := if b then v else .tuple []
theorem gv_t (v : IV) : gv true v = v := rfl
theorem gv_f (v : IV) : gv false v = .tuple [] := rfl
/-- A guarded step: what is told under b. -/
class HoldG where
  k : IV → Prop
def gpure (b : Bool) (o : Option IV) [K : HoldG] : Prop := if b then (match o with | some v => K.k v | none => False) else K.k (.tuple [])
theorem gp_some (b : Bool) (v : IV) (K : HoldG) : @gpure b (some v) K = K.k (gv b v) := by
  cases b <;> rfl
theorem gpure_lift {b : Bool} {o o' : Option IV} {K : HoldG} (h : b = true → o = o') : @gpure b o K = @gpure b o' K := by
  cases b
  · rfl
  · rw [h rfl]
theorem gp_f (o : Option IV) (K : HoldG) : @gpure false o K = K.k (.tuple []) := rfl

/-- A guard over a known slot. -/
class HoldB where
  k : Env → IH → Prop
def gop (P : Program) (c : IV) (want : Bool) (d : Nat) (k : FK) (e : Env) (h : IH) [K : HoldB] : Prop := match c with
  | .bool b => @gpure (b == want) (feval e h k) ⟨fun v => K.k (upd e d v) h⟩
  | .tuple [] => K.k (upd e d (.tuple [])) h
  | _ => False
@[go_sem ↓ high] theorem vcOp_gpure (d t : Nat) (want : Bool) (k : FK) (K : Env → IH → Prop) (e : Env) (h : IH) : vcOp P ⟨some d, some (t, want), .f k⟩ K e h = @gop P (e t) want d k e h ⟨K⟩ := by
  unfold vcOp gop
  simp only
  cases e t with
  | bool b =>
    cases b <;> cases want <;> simp [gpure, vcK, put] <;> cases feval e h k <;> simp
  | tuple vs => cases vs <;> simp [put]
  | _ => rfl
@[go_sem] theorem gop_bt (b : Bool) (d : Nat) (k : FK) (e : Env) (h : IH) (K : HoldB) : @gop P (.bool b) true d k e h K = @gpure b (feval e h k) ⟨fun v => K.k (upd e d v) h⟩ := by
  unfold gop; simp
@[go_sem] theorem gop_bf (b : Bool) (d : Nat) (k : FK) (e : Env) (h : IH) (K : HoldB) : @gop P (.bool b) false d k e h K = @gpure (!b) (feval e h k) ⟨fun v => K.k (upd e d v) h⟩ := by
  unfold gop; cases b <;> rfl
@[go_sem] theorem gop_u (want : Bool) (d : Nat) (k : FK) (e : Env) (h : IH) (K : HoldB) : @gop P (.tuple []) want d k e h K = K.k (upd e d (.tuple [])) h := by
  unfold gop; rfl
attribute [go_sem] gp_some gp_f HoldG.k HoldB.k gv_t gv_f

section
variable (b : Bool) (K : HoldG) (x y : IV) (h : IH)
@[go_sem] theorem gl_mv : @gpure b (some (gv b x)) K = @gpure b (some x) K := gpure_lift fun e => by rw [e]; rfl
@[go_sem] theorem gl_ld : @gpure b (ldF h (gv b x)) K = @gpure b (ldF h x) K := gpure_lift fun e => by rw [e]; rfl
@[go_sem] theorem gl_ldA (n : Nat) : @gpure b (ldAF h n (gv b x)) K = @gpure b (ldAF h n x) K := gpure_lift fun e => by rw [e]; rfl
@[go_sem] theorem gl_nck : @gpure b (nckF (gv b x)) K = @gpure b (nckF x) K := gpure_lift fun e => by rw [e]; rfl
@[go_sem] theorem gl_fadr (o : Nat) : @gpure b (fadrF o (gv b x)) K = @gpure b (fadrF o x) K := gpure_lift fun e => by rw [e]; rfl
@[go_sem] theorem gl_bin1 (op : BinOp) : @gpure b (ibin op (gv b x) y) K = @gpure b (ibin op x y) K := gpure_lift fun e => by rw [e]; rfl
@[go_sem] theorem gl_bin2 (op : BinOp) : @gpure b (ibin op x (gv b y)) K = @gpure b (ibin op x y) K := gpure_lift fun e => by rw [e]; rfl
@[go_sem] theorem gl_binB1 (g : Bool) : @gpure b (ibinB g (gv b x) y) K = @gpure b (ibinB g x y) K := gpure_lift fun e => by rw [e]; rfl
@[go_sem] theorem gl_binB2 (g : Bool) : @gpure b (ibinB g x (gv b y)) K = @gpure b (ibinB g x y) K := gpure_lift fun e => by rw [e]; rfl
@[go_sem] theorem gl_nil1 (k : NK) (g : Bool) (o : Option Bool) : @gpure b (eqnF g (isNil k (gv b x)) o) K = @gpure b (eqnF g (isNil k x) o) K := gpure_lift fun e => by rw [e]; rfl
@[go_sem] theorem gl_nil2 (k : NK) (g : Bool) (o : Option Bool) : @gpure b (eqnF g o (isNil k (gv b x))) K = @gpure b (eqnF g o (isNil k x)) K := gpure_lift fun e => by rw [e]; rfl
@[go_sem] theorem gl_un (op : UnOp) : @gpure b (iun op (gv b x)) K = @gpure b (iun op x) K := gpure_lift fun e => by rw [e]; rfl
@[go_sem] theorem gl_cvI (k : IntKind) : @gpure b (cvIF k (gv b x)) K = @gpure b (cvIF k x) K := gpure_lift fun e => by rw [e]; rfl
@[go_sem] theorem gl_len : @gpure b (lenF (gv b x)) K = @gpure b (lenF x) K := gpure_lift fun e => by rw [e]; rfl
@[go_sem] theorem gl_lenS : @gpure b (lenSF (gv b x)) K = @gpure b (lenSF x) K := gpure_lift fun e => by rw [e]; rfl
@[go_sem] theorem gl_iadr1 (sz : Nat) : @gpure b (iadrF h sz (gv b x) y) K = @gpure b (iadrF h sz x y) K := gpure_lift fun e => by rw [e]; rfl
@[go_sem] theorem gl_iadr2 (sz : Nat) : @gpure b (iadrF h sz x (gv b y)) K = @gpure b (iadrF h sz x y) K := gpure_lift fun e => by rw [e]; rfl
@[go_sem] theorem gl_idxS1 : @gpure b (idxSF (gv b x) y) K = @gpure b (idxSF x y) K := gpure_lift fun e => by rw [e]; rfl
@[go_sem] theorem gl_idxS2 : @gpure b (idxSF x (gv b y)) K = @gpure b (idxSF x y) K := gpure_lift fun e => by rw [e]; rfl
@[go_sem] theorem gl_ext (i : Nat) : @gpure b (extF i (gv b x)) K = @gpure b (extF i x) K := gpure_lift fun e => by rw [e]; rfl
@[go_sem] theorem gl_fld (o n : Nat) (a : Bool) : @gpure b (fldF o n a (gv b x)) K = @gpure b (fldF o n a x) K := gpure_lift fun e => by rw [e]; rfl
@[go_sem] theorem gl_cell (l i k : Nat) : @gpure b (h.cell l i k) K = @gpure b (cellO (h.obj l) i k) K := by rw [cell_eq]
/-- What comes of a chain. -/
@[go_sem] theorem pick_and (c : Bool) : pickF (.bool b) (gv b (.bool c)) (.bool false) = some (.bool (b && c)) := by cases b <;> rfl
@[go_sem] theorem pick_or (c : Bool) : pickF (.bool b) (.bool true) (gv (!b) (.bool c)) = some (.bool (b || c)) := by cases b <;> rfl
/-- .. inside a chain. -/
@[go_sem] theorem gl_pick1 (z : IV) : @gpure b (pickF (gv b x) y z) K = @gpure b (pickF x y z) K := gpure_lift fun e => by rw [e]; rfl
@[go_sem] theorem gl_pick2 (z : IV) : @gpure b (pickF x (gv b y) z) K = @gpure b (pickF x y z) K := gpure_lift fun e => by rw [e]; rfl
@[go_sem] theorem gl_pick3 (z : IV) : @gpure b (pickF x y (gv b z)) K = @gpure b (pickF x y z) K := gpure_lift fun e => by rw [e]; rfl
end
theorem set_pushT {h : IH} {l : Nat} {a o : IObj} (hl : l = h.n) : (h.push a).set l o = h.push o := set_push (by simp [hl]) a o
theorem set_pushN {h : IH} {l : Nat} {a o : IObj} (hl : l ≠ h.n) : (h.push a).set l o = (h.set l o).push a := set_push_ne (by simp [hl]) a o
theorem mid_get {α : Type} {A B : List α} {r : α} {i : Nat} (hi : A.length = i) : (A ++ r :: B)[i]? = some r := by
  subst hi; simp
theorem mid_set {α : Type} {A B : List α} {r x : α} {i : Nat} (hi : A.length = i) : (A ++ r :: B).set i x = A ++ x :: B := by
  subst hi; simp
/-- A store into one row of several. -/
theorem stO_mid {l i k : Nat} {c : IV} {A B : List (List IV)} {row : List IV} {el sz : Nat} {h : IH} {K : HoldK} (hi : A.length = i) (hk : k < row.length) (hc : c.one = true) :
    @stO 1 i k [c] l (.rows (A ++ row :: B) el sz false) h K = K.k (.tuple []) (h.set l (.rows (A ++ row.set k c :: B) el sz false)) := by
  unfold stO
  simp only [mid_get hi, List.length_singleton, List.all_cons, List.all_nil, hc, Bool.and_true, true_and, wrt, Nat.succ_le_of_lt hk, mid_set hi]
/-! Parts of a text. -/
theorem slcS_hi {s : List UInt8} {m : Nat} {q : IntKind} (h : m ≤ s.length) : slcSF (.str s) none (some (.int q (m : Int))) = some (.str (s.take m)) := by
  rw [slcSF_of (boundF_of (by omega) (by omega)) rfl]; simp
theorem slcS_lo {s : List UInt8} {m : Nat} {q : IntKind} (h : m ≤ s.length) : slcSF (.str s) (some (.int q (m : Int))) none = some (.str (s.drop m)) := by
  rw [slcSF_of rfl (boundF_of (by omega) (by omega))]; simp
theorem ibs_cat {s t : List UInt8} (h : s.length + t.length ≤ 9223372036854775807) : ibin .add (.str s) (.str t) = some (.str (s ++ t)) := if_pos h
theorem iadr_sl {h : IH} {sz l j k : Nat} {v x : IV} (hi : iadrF h sz v x = some (.ptr l j k)) : ∃ i n, v = .slice l i n := by
  unfold iadrF at hi
  split at hi
  · split at hi
    · have := Option.some.inj hi
      simp only [IV.ptr.injEq] at this
      exact ⟨_, _, by rw [this.1]⟩
    · cases hi
  · cases hi
theorem iadr_same {h h' : IH} {sz l j k : Nat} {v x : IV} (hi : iadrF h sz v x = some (.ptr l j k)) (ho : h'.obj l = h.obj l) : iadrF h' sz v x = some (.ptr l j k) := by
  obtain ⟨i, n, rfl⟩ := iadr_sl hi
  cases x with
  | int q m =>
    unfold iadrF at hi ⊢
    simp only [size_eq, ho] at hi ⊢
    exact hi
  | _ => simp [iadrF] at hi
/-- Nothing old has turned but one object. -/
structure Sav (b : Nat) (h g : IH) : Prop where
  le : h.n ≤ g.n
  obj : ∀ m, m < h.n → m ≠ b → g.obj m = h.obj m
theorem Sav.refl (b : Nat) (h : IH) : Sav b h h := ⟨Nat.le_refl _, fun _ _ _ => rfl⟩
theorem Sav.trans {b : Nat} {h g k : IH} (s : Sav b h g) (t : Sav b g k) : Sav b h k := ⟨Nat.le_trans s.le t.le, fun m hm hb => (t.obj m (Nat.lt_of_lt_of_le hm s.le) hb).trans (s.obj m hm hb)⟩
theorem Sav.ext {b : Nat} {h g g' : IH} (s : Sav b h g) (E : Ext g g') : Sav b h g' := ⟨Nat.le_trans s.le E.le, fun m hm hb => (E.obj m (Nat.lt_of_lt_of_le hm s.le)).trans (s.obj m hm hb)⟩
theorem Sav.set {b l : Nat} {h g : IH} (s : Sav b h g) (hl : h.n ≤ l ∨ l = b) (o : IObj) : Sav b h (g.set l o) := ⟨s.le, fun m hm hb => (set_there _ _ _ _ (by omega)).trans (s.obj m hm hb)⟩
theorem Sav.sl {b : Nat} {h g : IH} (s : Sav b h g) {sz : Nat} {v : IV} {rs : List (List IV)} (hs : SlR h sz v rs) (hb : ∀ l i n, v = .slice l i n → l ≠ b) : SlR g sz v rs :=
  hs.same s.le fun l i n hv => s.obj l (hs.lt l i n hv) (hb l i n hv)
/-- What was made anew is new: an extension of what was there ahead of it. -/
theorem Ext.sav {a b c : IH} {p : Nat} (e : Ext a b) (s : Sav p b c) (hp : a.n ≤ p) : Ext a c :=
  ⟨Nat.le_trans e.le s.le, fun l hl => (s.obj l (Nat.lt_of_lt_of_le hl e.le) (by omega)).trans (e.obj l hl)⟩
theorem At.sav {h g : IH} {p q : Nat} {o : IObj} (a : At h q o) (s : Sav p h g) (hq : q ≠ p) : At g q o := ⟨Nat.lt_of_lt_of_le a.lt s.le, (s.obj q a.lt hq).trans a.eq⟩
theorem Own.sav {lo hi el sz : Nat} {h g : IH} {p : Nat} {v : IV} {rs : List (List IV)} (o : Own lo hi h el sz v rs) (s : Sav p h g) (hp : p < lo ∨ hi ≤ p) : Own lo hi g el sz v rs := by
  rcases o with o | ⟨l, h0, rfl, h1, h2, h3, h4⟩
  · exact .inl o
  · exact .inr ⟨l, h0, rfl, h1, h2, Nat.le_trans h3 s.le, (s.obj l (by omega) (by omega)).trans h4⟩
theorem SlR.sav {h g : IH} {p sz : Nat} {v : IV} {rs : List (List IV)} (hs : SlR h sz v rs) (s : Sav p h g) (hb : ∀ l i n, v = .slice l i n → l ≠ p) : SlR g sz v rs := s.sl hs hb
/-! The bytes of a constant text. -/
def smO (o : IObj) (v : IV) (h : IH) [K : HoldK] : Prop := match o with | .rows _ _ _ false => K.k v h | _ => False
def smA (x : IV) (h : IH) [K : HoldK] : Prop := match x with | .slice l i n => smO (h.obj l) (.slice l i n) h | _ => False
@[go_sem ↓] theorem act_smark (x : CX) (e : Env) (h : IH) (K : IV → IH → Prop) : act P h e K (.ux .smark [x]) = @smA (x.ev e) h ⟨K⟩ := by
  unfold smA
  simp only [act, uact, List.map_cons, List.map_nil]
  cases x.ev e with
  | slice l i n =>
    simp only [smO]
    cases h.obj l <;> rfl
  | _ => simp
@[go_sem] theorem smA_slice (l i n : Nat) (h : IH) (K : HoldK) : @smA (.slice l i n) h K = @smO (h.obj l) (.slice l i n) h K := nr rfl
@[go_sem] theorem smO_rows (rs : List (List IV)) (e sz : Nat) (v : IV) (h : IH) (K : HoldK) : @smO (.rows rs e sz false) v h K = K.k v h := nr rfl
theorem flat_own {α : Type} {row : α → List IV} {dat : α → Dat} {h : IH} {t : Ty} (hx : ∀ x, Ro h t (row x) (dat x) []) : ∀ xs : List α, All3 (Ro h t) (xs.map row) (xs.map dat) []
  | [] => .nil
  | x :: xs => by
    have := All3.cons (hx x) (flat_own hx xs)
    simpa using this
theorem Own.ow {α : Type} {row : α → List IV} {dat : α → Dat} {lo hi : Nat} {h : IH} {el : Nat} {t : Ty} {v : IV} {xs : List α} (hx : ∀ x, Ro h t (row x) (dat x) []) (ho : Own lo hi h el t.sz v (xs.map row)) (hh : hi ≤ h.n) :
    Ow lo hi h (.slice el t) [v] (.list (xs.map dat)) := by
  rcases ho with ⟨hn, hv⟩ | ⟨l, hne, rfl, h1, h2, h3, hob⟩
  · have : xs = [] := List.map_eq_nil_iff.1 hn
    subst this
    exact Ow.flat rfl ⟨v, [], rfl, rfl, .inl ⟨rfl, rfl, hv⟩⟩ hh
  · refine ⟨⟨[l], ⟨_, _, rfl, rfl, .inr ⟨l, xs.map row, [], ?_, by simp, by omega, hob, rfl, flat_own hx xs⟩⟩, by simp, by simp; omega⟩, hh⟩
    intro he
    exact hne (by rw [List.map_eq_nil_iff] at he; rw [he]; rfl)
end Go.IW

namespace Go.IW
open Go
/-! A region that draws its order, by what each operation leaves. -/
section
variable {P : Program} (ops : List COp) (anc : List (List Nat)) (n : Nat)
def finT : DT → Bool
  | .fin => true
  | _ => false
def okStep (done : List Nat) (i : Nat) : Bool := decide (i < n) && !done.contains i && (anc.getD i []).all done.contains
def okLast (done : List Nat) (i : Nat) (t : DT) : Bool := decide (i = n) && (anc.getD n []).all done.contains && done.all (anc.getD n []).contains && finT t
def okTree : List Nat → DT → Bool
  | _, .fin => false
  | _, .stop => true
  | done, .fl i r => okLast anc n done i r || (okStep anc n done i && okTree (i :: done) r)
  | done, .br i t r => (okLast anc n done i t || (okStep anc n done i && okTree (i :: done) t)) && okTree done r
variable {ops anc n}
theorem vcT_facts {B : Env → IH → Prop} {F : Nat → Env → IH → Prop} {K : Env → IH → Prop}
    (hstep : ∀ i e h, i < n → B e h → (∀ j ∈ anc.getD i [], F j e h) → vcOp P (ops.getD i default) (fun e' h' => B e' h' ∧ F i e' h' ∧ ∀ j, j < n → j ≠ i → i ∉ anc.getD j [] → F j e h → F j e' h') e h)
    (hagain : ∀ j e h, j < n → F j e h → again (ops.getD j default) e h)
    (hlast : ∀ e h, B e h → (∀ j ∈ anc.getD n [], F j e h) → vcOp P (ops.getD n default) K e h) :
    ∀ (t : DT) (done : List Nat) (e : Env) (h : IH), okTree anc n done t = true → B e h → (∀ j ∈ done, j < n ∧ F j e h ∧ ∀ a ∈ anc.getD j [], a ∈ done) → vcT P ops anc done t K e h := by
  have hag : ∀ i e h (l : List Nat), (∀ j ∈ l, j < n ∧ F j e h) → againAll ops anc i e h l := by
    intro i e h l
    induction l with
    | nil => intro _; trivial
    | cons a r ih => intro hl; exact ⟨.inr (hagain a e h (hl a (List.mem_cons_self ..)).1 (hl a (List.mem_cons_self ..)).2), ih fun j hj => hl j (List.mem_cons_of_mem _ hj)⟩
  have hall : ∀ i e h (l : List Nat), (∀ j ∈ l, (anc.getD i []).contains j = true) → againAll ops anc i e h l := by
    intro i e h l
    induction l with
    | nil => intro _; trivial
    | cons a r ih => intro hl; exact ⟨.inl (hl a (List.mem_cons_self ..)), ih fun j hj => hl j (List.mem_cons_of_mem _ hj)⟩
  have hone : ∀ (i : Nat) (r : DT) (done : List Nat) (e : Env) (h : IH), (okStep anc n done i && okTree anc n (i :: done) r) = true → B e h → (∀ j ∈ done, j < n ∧ F j e h ∧ ∀ a ∈ anc.getD j [], a ∈ done) →
      (∀ e' h', B e' h' → (∀ j ∈ i :: done, j < n ∧ F j e' h' ∧ ∀ a ∈ anc.getD j [], a ∈ i :: done) → vcT P ops anc (i :: done) r K e' h') →
      vcOp P (ops.getD i default) (fun e' h' => againAll ops anc i e' h' done ∧ vcT P ops anc (i :: done) r K e' h') e h := by
    intro i r done e h hk hB hd ih
    simp only [okStep, Bool.and_eq_true, decide_eq_true_eq, Bool.not_eq_true', List.all_eq_true] at hk
    obtain ⟨⟨⟨k1, k2⟩, k3⟩, k4⟩ := hk
    have hnd : i ∉ done := by simpa using k2
    have han : ∀ a ∈ anc.getD i [], a ∈ done := fun a ha => by simpa using k3 a ha
    refine vcOp_mono (fun e' h' hp => ?_) (hstep i e h k1 hB fun j hj => (hd j (han j hj)).2.1)
    obtain ⟨p1, p2, p3⟩ := hp
    have hF : ∀ j ∈ done, j < n ∧ F j e' h' := fun j hj => ⟨(hd j hj).1, p3 j (hd j hj).1 (fun hc => hnd (hc ▸ hj)) (fun hc => hnd ((hd j hj).2.2 i hc)) (hd j hj).2.1⟩
    refine ⟨hag i e' h' done hF, ih e' h' p1 fun j hj => ?_⟩
    rcases List.mem_cons.1 hj with rfl | hj
    · exact ⟨k1, p2, fun a ha => List.mem_cons_of_mem _ (han a ha)⟩
    · exact ⟨(hF j hj).1, (hF j hj).2, fun a ha => List.mem_cons_of_mem _ ((hd j hj).2.2 a ha)⟩
  have hlst : ∀ (i : Nat) (r : DT) (done : List Nat) (e : Env) (h : IH), okLast anc n done i r = true → B e h → (∀ j ∈ done, j < n ∧ F j e h ∧ ∀ a ∈ anc.getD j [], a ∈ done) →
      vcOp P (ops.getD i default) (fun e' h' => againAll ops anc i e' h' done ∧ vcT P ops anc (i :: done) r K e' h') e h := by
    intro i r done e h hk hB hd
    simp only [okLast, Bool.and_eq_true, decide_eq_true_eq, List.all_eq_true] at hk
    obtain ⟨⟨⟨rfl, k2⟩, k3⟩, k4⟩ := hk
    have hr : r = .fin := by cases r <;> simp [finT] at k4 ⊢
    subst hr
    exact vcOp_mono (fun e' h' hp => ⟨hall _ e' h' done fun j hj => k3 j hj, hp⟩) (hlast e h hB fun j hj => (hd j (by simpa using k2 j hj)).2.1)
  intro t
  induction t with
  | fin => intro done e h hk; simp [okTree] at hk
  | stop => intro done e h _ _ _; trivial
  | fl i r ih =>
    intro done e h hk hB hd
    simp only [okTree, Bool.or_eq_true] at hk
    refine vcOp_mono (fun e' h' hp => hp.2) (?_ : vcOp P (ops.getD i default) (fun e' h' => againAll ops anc i e' h' done ∧ vcT P ops anc (i :: done) r K e' h') e h)
    rcases hk with hk | hk
    · exact hlst i r done e h hk hB hd
    · exact hone i r done e h hk hB hd fun e' h' b d => ih _ e' h' (by simp only [Bool.and_eq_true] at hk; exact hk.2) b d
  | br i t r iht ihr =>
    intro done e h hk hB hd
    simp only [okTree, Bool.and_eq_true, Bool.or_eq_true] at hk
    refine ⟨?_, ihr done e h hk.2 hB hd⟩
    rcases hk.1 with hk | hk
    · exact hlst i t done e h hk hB hd
    · exact hone i t done e h (by simp only [Bool.and_eq_true]; exact hk) hB hd fun e' h' b d => iht _ e' h' hk.2 b d
end
/-! Flat structs held against each other. -/
section
variable (h : IH) (g : Bool) (ks : List Nat) (r r' xs ys : List IV)
@[go_sem] theorem ueval_aeq : ueval h (.aeq g ks) [.agg xs, .agg ys] = (aeqV ks xs ys).map fun b => .bool (b != g) := rfl
@[go_sem] theorem aeqV_nil : aeqV [] [] [] = some true := rfl
@[go_sem] theorem aeqV_int (k : IntKind) (a b : Int) : aeqV (0 :: ks) (.int k a :: r) (.int k b :: r') = (aeqV ks r r').map fun t => decide (a = b) && t := by simp [aeqV]
@[go_sem] theorem aeqV_str (a b : List UInt8) : aeqV (1 :: ks) (.str a :: r) (.str b :: r') = (aeqV ks r r').map fun t => decide (a = b) && t := rfl
@[go_sem] theorem aeqV_bool (a b : Bool) : aeqV (2 :: ks) (.bool a :: r) (.bool b :: r') = (aeqV ks r r').map fun t => decide (a = b) && t := rfl
end
end Go.IW

namespace Go.IW
open Go Go.RowKit

/-- The heap has grown: nothing that was there has turned. -/
theorem WRel.grew {ρ : List RLoc} {B : Nat} {w w' : World} {h : IH} (hw : WRel ρ B w h) (hb : Below w.heap.size w w') : WRel ρ B w' h := by
  refine ⟨hw.len, Nat.le_trans hw.base hb.size, fun l r hr => ?_, hw.excl⟩
  have h0 := hw.obj l r hr
  by_cases hl : (h.obj l).live = true
  · exact h0.congr (hb.block _ (h0.block_lt hl))
  · cases ho : h.obj l with
    | dead => exact trivial
    | rows rs e sz ro => rw [ho] at hl; simp [IObj.live] at hl

/-- A library function that leaves what was there as it was. -/
theorem lib_calls {P : Program} {f : Nat} {args : List IV} {h : IH} {v : IV} (he : ∀ (args : Array Value) (w : World), (callFunc f args).run P w = .ok (.enter f args) w)
    (hr : ∀ (ρ : List RLoc) (B : Nat) (w : World) (args' : Array Value), GOk P B w → WRel ρ B w h → LRel ρ args'.toList args → ∃ v', VRel ρ v' v ∧ Calls P f args' w fun e w' => e = .returned v' ∧ Below w.heap.size w w') :
    ICalls P f args h fun r h' => r = v ∧ h' = h := by
  intro ρ B w args' hg hw ha
  obtain ⟨v', hv, hc⟩ := hr ρ B w args' hg hw ha
  rw [he]
  simp only [UponF]
  refine hc.mono fun e w' ⟨h1, h2⟩ => ?_
  subst h1
  exact ⟨ρ, v, h, List.prefix_refl _, hw.grew h2, hv, h2.mono hw.base, rfl, rfl⟩

theorem int_rel {ρ : List RLoc} {x : Value} {k : IntKind} {n : Int} (h : VRel ρ x (.int k n)) : x = .int k n := by
  generalize hv : IV.int k n = v at h
  cases h <;> cases hv
  rfl

/-- strconv.FormatInt at base 10. -/
theorem formatInt_calls {P : Program} {f : Nat} (he : ∀ (args : Array Value) (w : World), (callFunc f args).run P w = .ok (.enter f args) w)
    (hc : ∀ (n : Int), -9223372036854775808 ≤ n → n ≤ 9223372036854775807 → ∀ (w : World), Lib.TabIs P w "internal/strconv.uint64pow10" .u64 Lib.pow10Tab →
      Calls P f #[.int .i64 n, .int .i64 10] w fun e w' => e = .returned (.string ⟨(Lib.itoa n).toArray⟩) ∧ ∃ k os, w' = Sort.grow (w.drewN k) os)
    (hgs : (P.globalNamed "internal/strconv.uint64pow10").isSome = true) (ht : ("internal/strconv.uint64pow10", IntKind.u64, Lib.pow10Tab) ∈ tabs)
    (h : IH) {n : Int} (h0 : -9223372036854775808 ≤ n) (h1 : n ≤ 9223372036854775807) :
    ICalls P f [.int .i64 n, .int .i64 10] h fun r h' => r = .str (Lib.itoa n) ∧ h' = h := by
  obtain ⟨g, hg⟩ := Option.isSome_iff_exists.1 hgs
  refine lib_calls he fun ρ B w args' hG hw ha => ?_
  obtain ⟨x, y, rfl, hx, hy⟩ := args2 ha
  obtain rfl := int_rel hx
  obtain rfl := int_rel hy
  refine ⟨_, ?_, (hc n h0 h1 w (hG.g _ ht g hg).2).mono fun e w' ⟨e1, k, os, e2⟩ => ⟨e1, e2 ▸ Lib.below_grow _ w (Nat.le_refl _) k os⟩⟩
  have := VRel.str (ρ := ρ) ⟨(Lib.itoa n).toArray⟩
  simpa using this

/-- Where the rows of a slice lie. -/
theorem SlR.mem {ρ : List RLoc} {B : Nat} {w : World} {h : IH} {x : Value} {v : IV} {rs : List (List IV)} (hw : WRel ρ B w h) (hx : VRel ρ x v) (hs : SlR h 1 v rs) (hne : rs ≠ []) :
    ∃ bk o c news, x = .slice (some ⟨bk, o, none⟩) rs.length c ∧ rs.length ≤ c ∧ LRel ρ news rs.flatten ∧ news.length = rs.length ∧ bk < w.heap.size ∧ ∀ (j : Nat) u, news[j]? = some u → w.cell? ⟨bk, o + j, none⟩ = some u := by
  obtain ⟨ad, c, news, e1, hcap, hl, hnl, hok, had, hget⟩ := src_rows hw hx hs.src
  have hsrc := hs.src
  cases hx with
  | @slice l i n c' r h1 h2 h3 h4 =>
    obtain ⟨rs0, e, ro, ho, _⟩ := srcRows_live hsrc
    have hbk : r.block < w.heap.size := (hw.obj l r h1).block_lt (by rw [ho]; rfl)
    simp only [Value.slice.injEq] at e1
    obtain ⟨rfl, rfl, rfl⟩ := e1
    refine ⟨_, _, _, news, rfl, hcap, hl, by simpa using hnl, hbk, fun j u hu => ?_⟩
    have := hget _ rfl j u hu
    rwa [Lib.add_plain] at this
  | _ => first | (simp only [srcRows, Option.some.injEq] at hsrc; exact absurd hsrc.symm hne) | (simp [srcRows] at hsrc; done) | (simp [srcRows] at hsrc; exact absurd hsrc hne)

/-- A slice without rows. -/
theorem SlR.mem0 {ρ : List RLoc} {h : IH} {x : Value} {v : IV} (hx : VRel ρ x v) (hs : SlR h 1 v []) : ∃ a c, x = .slice a 0 c := by
  have hl := hs.len
  cases hx with
  | @slice l i n c' r h1 h2 h3 h4 =>
    simp [ilen] at hl
    subst hl
    exact ⟨_, _, rfl⟩
  | nilslice => exact ⟨_, _, rfl⟩
  | eslice _ _ => exact ⟨_, _, rfl⟩
  | _ => simp [ilen] at hl

/-! Guarded calls of functions that leave the heap as it is: kept whole, as one value. -/
section
variable {P : Program} {f : Nat} {as : List CX} {e : Env} {h : IH} {d : Option Nat} {K : Env → IH → Prop} {b : Bool} {v : IV}
theorem guard_pureT (hc : b = true → ICalls P f (as.map (CX.ev e)) h fun r h' => r = v ∧ h' = h) (hk : K (put e d (gv b v)) h) :
    @guard (.bool b) true ⟨vcK P (.x (.call f as)) e h fun v h' => K (put e d v) h'⟩ ⟨K (put e d (.tuple [])) h⟩ := by
  refine guard_of (fun hb => ?_) (fun hb => ?_)
  · subst hb
    exact (hc rfl).mono fun r h' ⟨h1, h2⟩ => by subst h1; subst h2; exact hk
  · simp at hb; subst hb; exact hk
theorem guard_pureF (hc : b = false → ICalls P f (as.map (CX.ev e)) h fun r h' => r = v ∧ h' = h) (hk : K (put e d (gv (!b) v)) h) :
    @guard (.bool b) false ⟨vcK P (.x (.call f as)) e h fun v h' => K (put e d v) h'⟩ ⟨K (put e d (.tuple [])) h⟩ := by
  refine guard_of (fun hb => ?_) (fun hb => ?_)
  · subst hb
    exact (hc rfl).mono fun r h' ⟨h1, h2⟩ => by subst h1; subst h2; exact hk
  · simp at hb; subst hb; exact hk
theorem guard_extT (hc : b = true → ICalls P f (as.map (CX.ev e)) h fun r h' => r = v ∧ Ext h h') (hk : ∀ h', Ext h h' → K (put e d (gv b v)) h') :
    @guard (.bool b) true ⟨vcK P (.x (.call f as)) e h fun v h' => K (put e d v) h'⟩ ⟨K (put e d (.tuple [])) h⟩ := by
  refine guard_of (fun hb => ?_) (fun hb => ?_)
  · subst hb
    exact (hc rfl).mono fun r h' ⟨h1, h2⟩ => by subst h1; exact hk h' h2
  · simp at hb; subst hb; exact hk h (Ext.refl _)
end
/-! A chain inside a chain. -/
section
variable {P : Program}
@[go_sem] theorem gv_gv (b : Bool) (v : IV) : gv b (gv b v) = gv b v := by cases b <;> rfl
@[go_sem] theorem gop_gvt (b c : Bool) (d : Nat) (k : FK) (e : Env) (h : IH) (K : HoldB) : @gop P (gv b (.bool c)) true d k e h K = @gpure (b && c) (feval e h k) ⟨fun v => K.k (upd e d v) h⟩ := by
  cases b <;> cases c <;> rfl
@[go_sem] theorem gop_gvf (b c : Bool) (d : Nat) (k : FK) (e : Env) (h : IH) (K : HoldB) : @gop P (gv b (.bool c)) false d k e h K = @gpure (b && !c) (feval e h k) ⟨fun v => K.k (upd e d v) h⟩ := by
  cases b <;> cases c <;> rfl
@[go_sem] theorem gl_pick2c (b c : Bool) (K : HoldG) (x y z : IV) : @gpure b (pickF x (gv (b && c) y) z) K = @gpure b (pickF x (gv c y) z) K := gpure_lift fun e => by rw [e]; rfl
@[go_sem] theorem gl_pick3c (b c : Bool) (K : HoldG) (x y z : IV) : @gpure b (pickF x y (gv (b && c) z)) K = @gpure b (pickF x y (gv c z)) K := gpure_lift fun e => by rw [e]; rfl
end
end Go.IW

namespace Go.IW
open Go Go.RowKit

def bytesD (bs : List UInt8) : Dat := .list (bs.map fun b => .int (b.toNat : Int))
theorem bytesL {S : Nat → Prop} {h : IH} : ∀ {rs : List (List IV)} {ds : List Dat}, All2 (Rp S h (.int .u8)) rs ds → wfL (.int .u8) ds → ∃ bs : List UInt8, rs = strRows bs ∧ ds = bs.map fun b => .int (b.toNat : Int)
  | _, _, .nil, _ => ⟨[], rfl, rfl⟩
  | _, _, .cons (a := r) (b := d) h1 h2, hw => by
    obtain ⟨n, rfl, rfl⟩ := h1
    obtain ⟨bs, rfl, rfl⟩ := bytesL h2 hw.2
    have hn : (Lit.int .u8 n).wf = true := hw.1
    have hr : 0 ≤ n ∧ n < 256 := by
      simp [Lit.wf, IntKind.min, IntKind.max, IntKind.signed, IntKind.bits] at hn
      omega
    refine ⟨UInt8.ofNat n.toNat :: bs, ?_, ?_⟩
    · simp only [strRows, List.map_cons, List.cons.injEq, and_true, IV.int.injEq, true_and]
      rw [UInt8.toNat_ofNat']
      omega
    · simp only [List.map_cons, List.cons.injEq, Dat.int.injEq, and_true]
      rw [UInt8.toNat_ofNat']
      omega
theorem bytes_any {lo hi el : Nat} {h : IH} {v : IV} {d : Dat} (hv : Vw lo hi h (.slice el (.int .u8)) [v] d) (hw : wfD (.slice el (.int .u8)) d) : ∃ bs, d = bytesD bs ∧ SlR h 1 v (strRows bs) := by
  obtain ⟨v', rs, ds, e1, rfl, hs, hS, ha⟩ := hv
  obtain rfl := (List.cons.inj e1).1
  obtain ⟨bs, rfl, rfl⟩ := bytesL ha hw
  exact ⟨bs, rfl, hs⟩
end Go.IW

namespace Go.IW
open Go Go.RowKit

theorem str_mk {ρ : List RLoc} (l : List UInt8) : VRel ρ (.string ⟨l.toArray⟩) (.str l) := by
  have := VRel.str (ρ := ρ) ⟨l.toArray⟩
  simpa using this
/-- strings.Cut. -/
theorem cut_calls {P : Program} {f G : Nat} (he : ∀ (args : Array Value) (w : World), (callFunc f args).run P w = .ok (.enter f args) w)
    (hc : ∀ (s sep : ByteArray) (m : Int) (w : World), s.size < 4294967281 → w.cell? ⟨G, 0, none⟩ = some (.int .i64 m) →
      Calls P f #[.string s, .string sep] w fun e w' => e = .returned (.tuple #[.string ⟨(Lib.cut s.data.toList sep.data.toList).1.toArray⟩, .string ⟨(Lib.cut s.data.toList sep.data.toList).2.1.toArray⟩, .bool (Lib.cut s.data.toList sep.data.toList).2.2]) ∧ ∃ n, w' = w.drewN n)
    (hg : P.globalNamed "internal/bytealg.MaxLen" = some G) (hm : mxOn = true) {h : IH} {s sep : List UInt8} (hs : s.length < 4294967281) :
    ICalls P f [.str s, .str sep] h fun r h' => r = .tuple [.str (Lib.cut s sep).1, .str (Lib.cut s sep).2.1, .bool (Lib.cut s sep).2.2] ∧ h' = h := by
  refine lib_calls he fun ρ B w args' hG hw ha => ?_
  obtain ⟨x, y, rfl, hx, hy⟩ := args2 ha
  obtain ⟨bx, rfl, rfl⟩ := str_rel hx
  obtain ⟨bz, rfl, rfl⟩ := str_rel hy
  obtain ⟨_, m, hmx⟩ := hG.mx hm G hg
  have hsz : bx.size = bx.data.toList.length := Lib.size_eq bx
  refine ⟨_, LRel.tuple (cs := #[_, _, _]) (LRel.cons (str_mk _) (LRel.cons (str_mk _) (LRel.cons (VRel.bool _) (LRel.nil ρ)))), (hc bx bz m w (by omega) hmx).mono fun e w' ⟨e1, n, e2⟩ => ⟨e1, e2 ▸ below_drewN (Below.refl _ _) n⟩⟩

/-- bytes.Index, of a needle that is there. -/
theorem bindex_calls {P : Program} {f G : Nat} (he : ∀ (args : Array Value) (w : World), (callFunc f args).run P w = .ok (.enter f args) w)
    (hc : ∀ (a1 a2 : Addr) (n c1 k c2 : Nat) (xs ys : List Int) (m : Int) (w : World), xs.length = n → ys.length = k → (∀ x ∈ xs, 0 ≤ x ∧ x < 256) → (∀ y ∈ ys, 0 ≤ y ∧ y < 256) →
      (∀ i, i < n → w.cell? (a1.add i) = some (.int .u8 (xs.getD i 0))) → (∀ i, i < k → w.cell? (a2.add i) = some (.int .u8 (ys.getD i 0))) → n ≤ c1 → n < 4294967281 → k ≤ 9223372036854775807 → w.cell? ⟨G, 0, none⟩ = some (.int .i64 m) →
      Calls P f #[.slice (some a1) n c1, .slice (some a2) k c2] w fun e w' => e = .returned (.int .i64 (Lib.index (Lib.bytesOf xs) (Lib.bytesOf ys))) ∧ ∃ q, w' = w.drewN q)
    (hc0 : ∀ (p2 : Option Addr) (k c2 : Nat) (w : World), k ≤ 9223372036854775807 → (k = 1 → ∃ b2 o2 cv, p2 = some ⟨b2, o2, none⟩ ∧ w.cell? ⟨b2, o2, none⟩ = some (.int .u8 cv)) →
      Calls P f #[.slice none 0 0, .slice p2 k c2] w fun e w' => e = .returned (.int .i64 (if k = 0 then 0 else -1)) ∧ w' = w)
    (hg : P.globalNamed "internal/bytealg.MaxLen" = some G) (hm : mxOn = true) {h : IH} {v w0 : IV} {a b : List UInt8} (ha : SlR h 1 v (strRows a)) (hb : SlR h 1 w0 (strRows b)) (hl : a.length < 4294967281) (hbl : 2 ≤ b.length) (hbl2 : b.length ≤ 1000) :
    ICalls P f [v, w0] h fun r h' => r = .int .i64 (Lib.index a b) ∧ h' = h := by
  refine lib_calls he fun ρ B w args' hG hw hargs => ?_
  obtain ⟨x, y, rfl, hx, hy⟩ := args2 hargs
  obtain ⟨_, m, hmx⟩ := hG.mx hm G hg
  have hbne : strRows b ≠ [] := by intro e; have := congrArg List.length e; simp [strRows] at this; subst this; simp at hbl
  have cells : ∀ {l : List UInt8} {news : List Value} {bk o : Nat}, LRel ρ news (strRows l).flatten → news.length = (strRows l).length → (∀ (j : Nat) u, news[j]? = some u → w.cell? ⟨bk, o + j, none⟩ = some u) →
      ∀ i, i < l.length → w.cell? ((⟨bk, o, none⟩ : Addr).add i) = some (.int .u8 ((l.map fun c => (c.toNat : Int)).getD i 0)) := by
    intro l news bk o hL hN hget i hi
    have hi' : i < news.length := by rw [hN]; simpa [strRows] using hi
    have h1 : (strRows l).flatten[i]? = some (.int .u8 ((l[i]'hi).toNat : Int)) := by
      rw [strRows_flat, List.getElem?_map, List.getElem?_eq_getElem hi]; rfl
    have h3 := int_rel (hL.2 i _ _ (List.getElem?_eq_getElem hi') h1)
    rw [Lib.add_plain, hget i _ (List.getElem?_eq_getElem hi'), h3]
    rw [List.getD_eq_getElem?_getD, List.getElem?_map, List.getElem?_eq_getElem hi]; rfl
  have rng : ∀ (l : List UInt8), ∀ z ∈ l.map (fun c => (c.toNat : Int)), 0 ≤ z ∧ z < 256 := by
    intro l z hz
    obtain ⟨c, _, rfl⟩ := List.mem_map.1 hz
    have := c.toNat_lt
    omega
  have back : ∀ l : List UInt8, Lib.bytesOf (l.map fun c => (c.toNat : Int)) = l := by
    intro l
    unfold Lib.bytesOf
    rw [List.map_map]
    induction l with
    | nil => rfl
    | cons c l ih =>
      rw [List.map_cons, ih]
      congr 1
      show UInt8.ofNat ((c.toNat : Int)).toNat = c
      simp
  obtain ⟨bk2, o2, c2, news2, rfl, hcap2, hl2, hn2, hbk2, hget2⟩ := SlR.mem hw hy hb hbne
  have hb2 : (strRows b).length = b.length := by simp [strRows]
  rw [hb2] at hcap2 ⊢
  by_cases hz : a = []
  · subst hz
    obtain ⟨ad, c, rfl⟩ := SlR.mem0 hx ha
    have hidx : Lib.index [] b = -1 := by
      unfold Lib.index
      cases b with
      | nil => simp at hbl
      | cons c t => rfl
    rw [hidx]
    cases ad with
    | none =>
      have hc' : c = 0 := by
        cases hx with
        | nilslice => rfl
      subst hc'
      refine ⟨.int .i64 (-1), .int _ _, (hc0 (some ⟨bk2, o2, none⟩) b.length c2 w (by omega) (fun e => by omega)).mono fun e w' ⟨e1, e2⟩ => ⟨?_, e2 ▸ Below.refl _ _⟩⟩
      rw [e1, if_neg (by omega)]
    | some a1 =>
      refine ⟨.int .i64 (-1), .int _ _, (hc a1 ⟨bk2, o2, none⟩ 0 c b.length c2 [] (b.map fun c => (c.toNat : Int)) m w rfl (by simp) (by simp) (rng b) (fun i hi => by omega) (cells hl2 hn2 hget2) (by omega) (by omega) (by omega) hmx).mono fun e w' ⟨e1, n, e2⟩ => ⟨?_, e2 ▸ below_drewN (Below.refl _ _) n⟩⟩
      rw [e1, back]
      have : Lib.bytesOf [] = [] := rfl
      rw [this, hidx]
  · have hane : strRows a ≠ [] := by intro e; have := congrArg List.length e; simp [strRows] at this; exact hz this
    obtain ⟨bk1, o1, c1, news1, rfl, hcap1, hl1, hn1, hbk1, hget1⟩ := SlR.mem hw hx ha hane
    have hb1 : (strRows a).length = a.length := by simp [strRows]
    rw [hb1] at hcap1 ⊢
    refine ⟨.int .i64 (Lib.index a b), .int _ _, (hc ⟨bk1, o1, none⟩ ⟨bk2, o2, none⟩ a.length c1 b.length c2 (a.map fun c => (c.toNat : Int)) (b.map fun c => (c.toNat : Int)) m w (by simp) (by simp) (rng a) (rng b) (cells hl1 hn1 hget1) (cells hl2 hn2 hget2) (by omega) (by omega) (by omega) hmx).mono fun e w' ⟨e1, n, e2⟩ => ⟨?_, e2 ▸ below_drewN (Below.refl _ _) n⟩⟩
    rw [e1, back, back]
end Go.IW

namespace Go.IW
open Go Go.RowKit

/-- One more element behind those that are there. -/
theorem Ow.app {lo hi lo2 hi2 lo' : Nat} {h : IH} {el b : Nat} {t : Ty} {v : IV} {cs : List IV} {ds : List Dat} {d : Dat} {K : HoldK}
    (ho : Ow lo hi h (.slice el t) [v] (.list ds)) (hx : Ow lo2 hi2 h t cs d) (hd : hi ≤ lo2 ∨ hi2 ≤ lo) (h1 : lo' ≤ lo) (h2 : lo' ≤ lo2) (h3 : lo' ≤ h.n) (hb : (ds.length + 1) * b ≤ 140737488355328)
    (hk : ∀ v' h', Ow lo' h'.n h' (.slice el t) [v'] (.list (ds ++ [d])) → Trn lo hi h h' → h'.n = h.n + 1 → v'.one = true → v'.cells = [v'] → K.k v' h') : @appA h el t.sz b v (some [cs]) K := by
  obtain ⟨⟨fs, hr, hnd, hin⟩, hhi⟩ := ho
  obtain ⟨⟨f2, hr2, hnd2, hin2⟩, hhi2⟩ := hx
  obtain ⟨v1, ds1, e1, e2, hcase⟩ := hr
  obtain rfl := (List.cons.inj e1).1
  simp only [Dat.list.injEq] at e2
  subst e2
  rcases hcase with ⟨rfl, rfl, rfl | rfl⟩ | ⟨l, rs, gs, h0, rfl, hl, hob, rfl, hall⟩
  · refine appA_new (by simp) (by simpa using hb) (hk _ _ ?_ (Trn.of_ext ((Ext.refl _).push _)) rfl rfl rfl)
    refine ⟨⟨h.n :: f2, ⟨_, _, rfl, rfl, .inr ⟨h.n, [cs], f2, by simp, rfl, by rw [push_n]; omega, push_new _ _, rfl, All3.one (hr2.same (by rw [push_n]; omega) fun x hx => push_old _ _ _ (hr2.lt x hx))⟩⟩, ?_, ?_⟩, Nat.le_refl _⟩
    · exact List.nodup_cons.2 ⟨fun hm => by have := hr2.lt _ hm; omega, hnd2⟩
    · intro x hx
      rw [push_n]
      rcases List.mem_cons.1 hx with rfl | hx
      · omega
      · have := hin2 x hx; have := hr2.lt x hx; omega
  · refine appA_newe (by simp) (by simpa using hb) (hk _ _ ?_ (Trn.of_ext ((Ext.refl _).push _)) rfl rfl rfl)
    refine ⟨⟨h.n :: f2, ⟨_, _, rfl, rfl, .inr ⟨h.n, [cs], f2, by simp, rfl, by rw [push_n]; omega, push_new _ _, rfl, All3.one (hr2.same (by rw [push_n]; omega) fun x hx => push_old _ _ _ (hr2.lt x hx))⟩⟩, ?_, ?_⟩, Nat.le_refl _⟩
    · exact List.nodup_cons.2 ⟨fun hm => by have := hr2.lt _ hm; omega, hnd2⟩
    · intro x hx
      rw [push_n]
      rcases List.mem_cons.1 hx with rfl | hx
      · omega
      · have := hin2 x hx; have := hr2.lt x hx; omega
  · have hrl := hall.len
    have hnl : ds.length = rs.length := hrl.symm
    rw [hnl]
    rw [List.nodup_cons] at hnd
    have hlin := hin l List.mem_cons_self
    have hgn : ∀ x ∈ gs, x < h.n := by
      intro x hx
      have := hin x (List.mem_cons_of_mem _ hx)
      omega
    have hold : ∀ o : IObj, ∀ x, x < h.n → x ≠ l → ((h.set l .dead).push o).obj x = h.obj x := fun o x hx hne => by
      rw [push_old _ _ _ (by rw [set_n]; exact hx), set_there _ _ _ _ hne]
    refine appA_own hob rfl (by simp) (by simp; rw [← hnl]; exact hb) (hk _ _ ?_ ?_ rfl rfl rfl)
    · refine ⟨⟨h.n :: (gs ++ f2), ⟨_, _, rfl, rfl, .inr ⟨h.n, rs ++ [cs], gs ++ f2, by simp, by simp [hnl], by rw [push_n, set_n]; omega, push_new _ _, rfl, ?_⟩⟩, ?_, ?_⟩, Nat.le_refl _⟩
      · refine All3.app (hall.mono fun a c f hf x => x.same (by rw [push_n, set_n]; omega) fun y hy => hold _ y (hgn y (hf y hy)) (fun e => hnd.1 (e ▸ hf y hy))) (All3.one (hr2.same (by rw [push_n, set_n]; omega) fun x hx => hold _ x (hr2.lt x hx) (fun e => by have := hin2 x hx; omega)))
      · refine List.nodup_cons.2 ⟨fun hm => ?_, List.nodup_append.2 ⟨hnd.2, hnd2, fun x hx y hy e => ?_⟩⟩
        · rcases List.mem_append.1 hm with hm | hm
          · have := hgn _ hm; omega
          · have := hr2.lt _ hm; omega
        · subst e
          have := hin x (List.mem_cons_of_mem _ hx)
          have := hin2 x hy
          omega
      · intro x hx
        rw [push_n, set_n]
        rcases List.mem_cons.1 hx with rfl | hx
        · omega
        · rcases List.mem_append.1 hx with hx | hx
          · have := hin x (List.mem_cons_of_mem _ hx); have := hgn x hx; omega
          · have := hin2 x hx; have := hr2.lt x hx; omega
    · exact ⟨by rw [push_n, set_n]; omega, fun x hx hv => hold _ x hx (fun e => hv (by rw [e]; exact hlin))⟩
theorem Ow.nil0 {el : Nat} {t : Ty} (h : IH) : Ow h.n h.n h (.slice el t) [.nilslice] (.list []) :=
  ⟨⟨[], ⟨_, _, rfl, rfl, .inl ⟨rfl, rfl, .inl rfl⟩⟩, List.nodup_nil, fun _ h => by simp at h⟩, Nat.le_refl _⟩
end Go.IW

namespace Go.IW
open Go Go.RowKit

theorem cell_lt {w : World} {n : Nat} {v : Value} (h : w.cell? ⟨n, 0, none⟩ = some v) : n < w.heap.size := by
  rcases Nat.lt_or_ge n w.heap.size with h' | h'
  · exact h'
  · unfold World.cell? at h
    rw [Array.getElem?_eq_none h'] at h
    cases h
/-- What a row is to show, where the call is told the shape of its world and one thing more. -/
theorem row_shaped {H : Type} {enc : TypeId × Value → H} {C : Checked} {os : Os} {f : FuncId} {fn : Func} {s : ChangeSpec} {conds : List PathCond} {apart fresh handsOn again : Bool} {X : World → Array Value → Prop}
    (hX : ∀ (w w' : World) (args : Array Value), w.heap = w'.heap → X w args → X w' args)
    (own : ownKnob C.prog.godebug = none) (started : os.Started) (noInit : C.prog.inits.idxOf? f = none) (hfn : C.prog.funcs[f]? = some fn)
    (witness : ∃ (w : World) (tape : Tape) (i : Input), w.os = os ∧ (w.forCall tape i).Shaped C.prog ∧ i.vars = [] ∧ Input.okWide C.prog (w.forCall tape i) .any w.heap.size f i ∧
      ((s.pre enc C.prog fn conds apart (w.forCall tape i).memory i.args ∧ X (w.forCall tape i).memory i.args) ∧ sizedMet enc C.prog fn (OpenSpec.ofChange s) apart (w.forCall tape i).memory i.args) ∧ Assume.holds {} C.prog (lone (Frame.enter C.prog f i.args .normal) [] (w.forCall tape i)))
    (call : ∀ (W : World) (base : Nat) (args : Array Value) (ds gs : List (DataW H)) (before : List MemPlace),
      (∀ (j : Nat) t v, fn.params[j]? = some t → args[j]? = some v → Value.okWide C.prog W .any base t v) → DataW.Whole enc C.prog fn.params.toList s.vars apart W args.toList ds gs before → X W args → W.ShapedOpen C.prog →
      Calls C.prog f args W fun e W' => ∃ v, e = .returned v ∧ s.post enc C.prog fn apart fresh handsOn again W args v W') :
    ReturnsInHanded {} C os f .any (fun w args => (s.pre enc C.prog fn conds apart w args ∧ X w args) ∧ sizedMet enc C.prog fn (OpenSpec.ofChange s) apart w args) (s.post enc C.prog fn apart fresh handsOn again) := by
  refine returnsInHanded_of_calls own started noInit witness fun w tape i _ hshape _ hok hpre _ => ?_
  obtain ⟨_, _, _, fn', hfn', _, _, _, _, hval⟩ := hok
  obtain rfl : fn = fn' := Option.some.inj (hfn.symm.trans hfn')
  obtain ⟨⟨⟨ds, gs, before, hw, _⟩, hx⟩, _⟩ := hpre
  exact (call (w.forCall tape i) w.heap.size i.args ds gs before hval (DataW.Whole.of_heap (w' := w.forCall tape i) (by rfl) hw) (hX _ _ _ (by rfl) hx) hshape).mono fun e W' ⟨v, he, hp⟩ => by
    subst he; exact ChangeSpec.post_blind hp
/-- The table of powers and the greatest needle's length. -/
theorem GOk.both {P : Program} {W : World} (h : Lib.TabIs P W "internal/strconv.uint64pow10" .u64 Lib.pow10Tab) {n : Nat} (hn : P.globalNamed "internal/bytealg.MaxLen" = some n) (hc : ∃ m, W.cell? ⟨n, 0, none⟩ = some (.int .i64 m)) : GOk P W.heap.size W := by
  refine ⟨fun t ht n hn => ?_, fun _ n' hn' => ?_⟩
  · simp only [tabs, List.mem_cons, List.not_mem_nil, or_false] at ht
    subst ht
    refine ⟨?_, h⟩
    unfold Lib.TabIs World.var? at h
    rw [hn] at h
    simp only [Option.bind_some] at h
    rcases Nat.lt_or_ge n W.heap.size with h' | h'
    · exact h'
    · rw [Array.getElem?_eq_none h'] at h
      cases h
  · obtain rfl := Option.some.inj (hn.symm.trans hn')
    exact ⟨cell_lt hc.choose_spec, hc⟩
end Go.IW
