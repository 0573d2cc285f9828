import Derived.Test.YtaoffieemecioaaDoorK2
import Derived.Lib.Builder
import Derived.Lib.AppendIntMem
import Derived.Lib.ItoaLen
import Derived.Lib.Join
import Derived.Lib.HexFns
import Derived.Lib.IndexMore
import Derived.Lib.Bytes
import Derived.WalkSmall
import Derived.SizedLaws
import Derived.Shelf.Vars
import Derived.Shelf.SlicesE.Delete
set_option linter.unusedSimpArgs false
set_option linter.unusedVariables false
namespace Go.IW
open Go Go.RowKit
variable {P : Program}

def gv (b : Bool) (v : IV) : IV := if b then v else .tuple []
theorem gv_t (v : IV) : gv true v = v := rfl
theorem gv_f (v : IV) : gv false v = .tuple [] := rfl
class HoldG where
 k : IV → Prop
def gpure (b : Bool) (o : Option IV) [K : HoldG] : Prop := if b then (match o with | some v => K.k v | none => False) else K.k (.tuple [])
theorem gp_some (b : Bool) (v : IV) (K : HoldG) : @gpure b (some v) K = K.k (gv b v) := by
 cases b <;> rfl
theorem gpure_lift {b : Bool} {o o' : Option IV} {K : HoldG} (h : b = true → o = o') : @gpure b o K = @gpure b o' K := by
 cases b
 ·rfl
 ·rw [h rfl]
theorem gp_f (o : Option IV) (K : HoldG) : @gpure false o K = K.k (.tuple []) := rfl

class HoldB where
 k : Env → IH → Prop
def gop (P : Program) (c : IV) (want : Bool) (d : Nat) (k : FK) (e : Env) (h : IH) [K : HoldB] : Prop := match c with
 | .bool b => @gpure (b == want) (feval e h k) ⟨fun v => K.k (upd e d v) h⟩
 | .tuple [] => K.k (upd e d (.tuple [])) h
 | _ => False
@[go_sem ↓ high] theorem vcOp_gpure (d t : Nat) (want : Bool) (k : FK) (K : Env → IH → Prop) (e : Env) (h : IH) : vcOp P ⟨some d, some (t, want), .f k⟩ K e h = @gop P (e t) want d k e h ⟨K⟩ := by
 unfold vcOp gop
 simp only
 cases e t with
 | bool b =>
  cases b <;> cases want <;> simp [gpure, vcK, put] <;> cases feval e h k <;> simp
 | tuple vs => cases vs <;> simp [put]
 | _ => rfl
@[go_sem] theorem gop_bt (b : Bool) (d : Nat) (k : FK) (e : Env) (h : IH) (K : HoldB) : @gop P (.bool b) true d k e h K = @gpure b (feval e h k) ⟨fun v => K.k (upd e d v) h⟩ := by
 unfold gop; simp
@[go_sem] theorem gop_bf (b : Bool) (d : Nat) (k : FK) (e : Env) (h : IH) (K : HoldB) : @gop P (.bool b) false d k e h K = @gpure (!b) (feval e h k) ⟨fun v => K.k (upd e d v) h⟩ := by
 unfold gop; cases b <;> rfl
@[go_sem] theorem gop_u (want : Bool) (d : Nat) (k : FK) (e : Env) (h : IH) (K : HoldB) : @gop P (.tuple []) want d k e h K = K.k (upd e d (.tuple [])) h := by
 unfold gop; rfl
attribute [go_sem] gp_some gp_f HoldG.k HoldB.k gv_t gv_f

section
variable (b : Bool) (K : HoldG) (x y : IV) (h : IH)
@[go_sem] theorem gl_mv : @gpure b (some (gv b x)) K = @gpure b (some x) K := gpure_lift fun e => by rw [e]; rfl
@[go_sem] theorem gl_ld : @gpure b (ldF h (gv b x)) K = @gpure b (ldF h x) K := gpure_lift fun e => by rw [e]; rfl
@[go_sem] theorem gl_ldA (n : Nat) : @gpure b (ldAF h n (gv b x)) K = @gpure b (ldAF h n x) K := gpure_lift fun e => by rw [e]; rfl
@[go_sem] theorem gl_nck : @gpure b (nckF (gv b x)) K = @gpure b (nckF x) K := gpure_lift fun e => by rw [e]; rfl
@[go_sem] theorem gl_fadr (o : Nat) : @gpure b (fadrF o (gv b x)) K = @gpure b (fadrF o x) K := gpure_lift fun e => by rw [e]; rfl
@[go_sem] theorem gl_bin1 (op : BinOp) : @gpure b (ibin op (gv b x) y) K = @gpure b (ibin op x y) K := gpure_lift fun e => by rw [e]; rfl
@[go_sem] theorem gl_bin2 (op : BinOp) : @gpure b (ibin op x (gv b y)) K = @gpure b (ibin op x y) K := gpure_lift fun e => by rw [e]; rfl
@[go_sem] theorem gl_binB1 (g : Bool) : @gpure b (ibinB g (gv b x) y) K = @gpure b (ibinB g x y) K := gpure_lift fun e => by rw [e]; rfl
@[go_sem] theorem gl_binB2 (g : Bool) : @gpure b (ibinB g x (gv b y)) K = @gpure b (ibinB g x y) K := gpure_lift fun e => by rw [e]; rfl
@[go_sem] theorem gl_nil1 (k : NK) (g : Bool) (o : Option Bool) : @gpure b (eqnF g (isNil k (gv b x)) o) K = @gpure b (eqnF g (isNil k x) o) K := gpure_lift fun e => by rw [e]; rfl
@[go_sem] theorem gl_nil2 (k : NK) (g : Bool) (o : Option Bool) : @gpure b (eqnF g o (isNil k (gv b x))) K = @gpure b (eqnF g o (isNil k x)) K := gpure_lift fun e => by rw [e]; rfl
@[go_sem] theorem gl_un (op : UnOp) : @gpure b (iun op (gv b x)) K = @gpure b (iun op x) K := gpure_lift fun e => by rw [e]; rfl
@[go_sem] theorem gl_cvI (k : IntKind) : @gpure b (cvIF k (gv b x)) K = @gpure b (cvIF k x) K := gpure_lift fun e => by rw [e]; rfl
@[go_sem] theorem gl_len : @gpure b (lenF (gv b x)) K = @gpure b (lenF x) K := gpure_lift fun e => by rw [e]; rfl
@[go_sem] theorem gl_lenS : @gpure b (lenSF (gv b x)) K = @gpure b (lenSF x) K := gpure_lift fun e => by rw [e]; rfl
@[go_sem] theorem gl_iadr1 (sz : Nat) : @gpure b (iadrF h sz (gv b x) y) K = @gpure b (iadrF h sz x y) K := gpure_lift fun e => by rw [e]; rfl
@[go_sem] theorem gl_iadr2 (sz : Nat) : @gpure b (iadrF h sz x (gv b y)) K = @gpure b (iadrF h sz x y) K := gpure_lift fun e => by rw [e]; rfl
@[go_sem] theorem gl_idxS1 : @gpure b (idxSF (gv b x) y) K = @gpure b (idxSF x y) K := gpure_lift fun e => by rw [e]; rfl
@[go_sem] theorem gl_idxS2 : @gpure b (idxSF x (gv b y)) K = @gpure b (idxSF x y) K := gpure_lift fun e => by rw [e]; rfl
@[go_sem] theorem gl_ext (i : Nat) : @gpure b (extF i (gv b x)) K = @gpure b (extF i x) K := gpure_lift fun e => by rw [e]; rfl
@[go_sem] theorem gl_fld (o n : Nat) (a : Bool) : @gpure b (fldF o n a (gv b x)) K = @gpure b (fldF o n a x) K := gpure_lift fun e => by rw [e]; rfl
@[go_sem] theorem gl_cell (l i k : Nat) : @gpure b (h.cell l i k) K = @gpure b (cellO (h.obj l) i k) K := by rw [cell_eq]
@[go_sem] theorem pick_and (c : Bool) : pickF (.bool b) (gv b (.bool c)) (.bool false) = some (.bool (b && c)) := by cases b <;> rfl
@[go_sem] theorem pick_or (c : Bool) : pickF (.bool b) (.bool true) (gv (!b) (.bool c)) = some (.bool (b || c)) := by cases b <;> rfl
@[go_sem] theorem gl_pick1 (z : IV) : @gpure b (pickF (gv b x) y z) K = @gpure b (pickF x y z) K := gpure_lift fun e => by rw [e]; rfl
@[go_sem] theorem gl_pick2 (z : IV) : @gpure b (pickF x (gv b y) z) K = @gpure b (pickF x y z) K := gpure_lift fun e => by rw [e]; rfl
@[go_sem] theorem gl_pick3 (z : IV) : @gpure b (pickF x y (gv b z)) K = @gpure b (pickF x y z) K := gpure_lift fun e => by rw [e]; rfl
end
theorem set_pushT {h : IH} {l : Nat} {a o : IObj} (hl : l = h.n) : (h.push a).set l o = h.push o := set_push (by simp [hl]) a o
theorem set_pushN {h : IH} {l : Nat} {a o : IObj} (hl : l ≠ h.n) : (h.push a).set l o = (h.set l o).push a := set_push_ne (by simp [hl]) a o
theorem mid_get {α : Type} {A B : List α} {r : α} {i : Nat} (hi : A.length = i) : (A ++ r :: B)[i]? = some r := by
 subst hi; simp
theorem mid_set {α : Type} {A B : List α} {r x : α} {i : Nat} (hi : A.length = i) : (A ++ r :: B).set i x = A ++ x :: B := by
 subst hi; simp
theorem stO_mid {l i k : Nat} {c : IV} {A B : List (List IV)} {row : List IV} {el sz : Nat} {h : IH} {K : HoldK} (hi : A.length = i) (hk : k < row.length) (hc : c.one = true) :
  @stO 1 i k [c] l (.rows (A ++ row :: B) el sz false) h K = K.k (.tuple []) (h.set l (.rows (A ++ row.set k c :: B) el sz false)) := by
 unfold stO
 simp only [mid_get hi, List.length_singleton, List.all_cons, List.all_nil, hc, Bool.and_true, true_and, wrt, Nat.succ_le_of_lt hk, mid_set hi]
theorem ibs_cat {s t : List UInt8} (h : s.length + t.length ≤ 9223372036854775807) : ibin .add (.str s) (.str t) = some (.str (s ++ t)) := if_pos h
theorem iadr_sl {h : IH} {sz l j k : Nat} {v x : IV} (hi : iadrF h sz v x = some (.ptr l j k)) : ∃ i n, v = .slice l i n := by
 unfold iadrF at hi
 split at hi
 ·split at hi
  ·have := Option.some.inj hi
   simp only [IV.ptr.injEq] at this
   exact ⟨_, _, by rw [this.1]⟩
  ·cases hi
 ·cases hi
theorem iadr_same {h h' : IH} {sz l j k : Nat} {v x : IV} (hi : iadrF h sz v x = some (.ptr l j k)) (ho : h'.obj l = h.obj l) : iadrF h' sz v x = some (.ptr l j k) := by
 obtain ⟨i, n, rfl⟩ := iadr_sl hi
 cases x with
 | int q m =>
  unfold iadrF at hi ⊢
  simp only [size_eq, ho] at hi ⊢
  exact hi
 | _ => simp [iadrF] at hi
structure Sav (b : Nat) (h g : IH) : Prop where
 le : h.n ≤ g.n
 obj : ∀ m, m < h.n → m ≠ b → g.obj m = h.obj m
theorem Sav.refl (b : Nat) (h : IH) : Sav b h h := ⟨Nat.le_refl _, fun _ _ _ => rfl⟩
theorem Sav.trans {b : Nat} {h g k : IH} (s : Sav b h g) (t : Sav b g k) : Sav b h k := ⟨Nat.le_trans s.le t.le, fun m hm hb => (t.obj m (Nat.lt_of_lt_of_le hm s.le) hb).trans (s.obj m hm hb)⟩
theorem Sav.ext {b : Nat} {h g g' : IH} (s : Sav b h g) (E : Ext g g') : Sav b h g' := ⟨Nat.le_trans s.le E.le, fun m hm hb => (E.obj m (Nat.lt_of_lt_of_le hm s.le)).trans (s.obj m hm hb)⟩
theorem Sav.set {b l : Nat} {h g : IH} (s : Sav b h g) (hl : h.n ≤ l ∨ l = b) (o : IObj) : Sav b h (g.set l o) := ⟨s.le, fun m hm hb => (set_there _ _ _ _ (by omega)).trans (s.obj m hm hb)⟩
theorem Sav.sl {b : Nat} {h g : IH} (s : Sav b h g) {sz : Nat} {v : IV} {rs : List (List IV)} (hs : SlR h sz v rs) (hb : ∀ l i n, v = .slice l i n → l ≠ b) : SlR g sz v rs :=
 hs.same s.le fun l i n hv => s.obj l (hs.lt l i n hv) (hb l i n hv)
theorem Ext.sav {a b c : IH} {p : Nat} (e : Ext a b) (s : Sav p b c) (hp : a.n ≤ p) : Ext a c :=
 ⟨Nat.le_trans e.le s.le, fun l hl => (s.obj l (Nat.lt_of_lt_of_le hl e.le) (by omega)).trans (e.obj l hl)⟩
theorem At.sav {h g : IH} {p q : Nat} {o : IObj} (a : At h q o) (s : Sav p h g) (hq : q ≠ p) : At g q o := ⟨Nat.lt_of_lt_of_le a.lt s.le, (s.obj q a.lt hq).trans a.eq⟩
theorem Own.sav {lo hi el sz : Nat} {h g : IH} {p : Nat} {v : IV} {rs : List (List IV)} (o : Own lo hi h el sz v rs) (s : Sav p h g) (hp : p < lo ∨ hi ≤ p) : Own lo hi g el sz v rs := by
 rcases o with o | ⟨l, h0, rfl, h1, h2, h3, h4⟩
 ·exact .inl o
 ·exact .inr ⟨l, h0, rfl, h1, h2, Nat.le_trans h3 s.le, (s.obj l (by omega) (by omega)).trans h4⟩
theorem SlR.sav {h g : IH} {p sz : Nat} {v : IV} {rs : List (List IV)} (hs : SlR h sz v rs) (s : Sav p h g) (hb : ∀ l i n, v = .slice l i n → l ≠ p) : SlR g sz v rs := s.sl hs hb
def smO (o : IObj) (v : IV) (h : IH) [K : HoldK] : Prop := match o with | .rows _ _ sz false => sz = 1 ∧ K.k v h | _ => False
def smA (x : IV) (h : IH) [K : HoldK] : Prop := match x with | .slice l i n => smO (h.obj l) (.slice l i n) h | _ => False
@[go_sem ↓] theorem act_smark (x : CX) (e : Env) (h : IH) (K : IV → IH → Prop) : act P h e K (.ux .smark [x]) = @smA (x.ev e) h ⟨K⟩ := by
 unfold smA
 simp only [act, uact, mc0, mn0]
 cases x.ev e with
 | slice l i n =>
  simp only [smO]
  cases h.obj l <;> rfl
 | _ => simp
@[go_sem] theorem smA_slice (l i n : Nat) (h : IH) (K : HoldK) : @smA (.slice l i n) h K = @smO (h.obj l) (.slice l i n) h K := nr rfl
@[go_sem] theorem smO_rows (rs : List (List IV)) (e : Nat) (v : IV) (h : IH) (K : HoldK) : @smO (.rows rs e 1 false) v h K = K.k v h := by simp [smO]
theorem flat_own {α : Type} {row : α → List IV} {dat : α → Dat} {h : IH} {t : Ty} (hx : ∀ x, Ro h t (row x) (dat x) []) : ∀ xs : List α, All3 (Ro h t) (xs.map row) (xs.map dat) []
 | [] => .nil
 | x :: xs => by
  have := All3.cons (hx x) (flat_own hx xs)
  simpa using this
theorem Own.ow {α : Type} {row : α → List IV} {dat : α → Dat} {lo hi : Nat} {h : IH} {el : Nat} {t : Ty} {v : IV} {xs : List α} (hx : ∀ x, Ro h t (row x) (dat x) []) (ho : Own lo hi h el t.sz v (xs.map row)) (hh : hi ≤ h.n) :
  Ow lo hi h (.slice el t) [v] (.list (xs.map dat)) := by
 rcases ho with ⟨hn, hv⟩ | ⟨l, hne, rfl, h1, h2, h3, hob⟩
 ·have : xs = [] := List.map_eq_nil_iff.1 hn
  subst this
  exact Ow.flat rfl ⟨v, [], rfl, rfl, .inl ⟨rfl, rfl, hv⟩⟩ hh
 ·refine ⟨⟨[l], ⟨_, _, rfl, rfl, .inr ⟨l, xs.map row, [], ?_, by simp, by omega, hob, rfl, flat_own hx xs⟩⟩, by simp, by simp; omega⟩, hh⟩
  intro he
  exact hne (by rw [List.map_eq_nil_iff] at he; rw [he]; rfl)
theorem Vw.up {lo hi : Nat} {h : IH} {t : Ty} {cs : List IV} {d : Dat} (hv : Vw lo hi h t cs d) (hh : hi ≤ h.n) : Vw 0 h.n h t cs d := hv.wide (Nat.zero_le _) hh
theorem Ow.up {lo hi : Nat} {h : IH} {t : Ty} {cs : List IV} {d : Dat} (ho : Ow lo hi h t cs d) : Vw 0 h.n h t cs d := ho.view.up ho.le
end Go.IW

namespace Go.IW
open Go
section
variable {P : Program} (ops : List COp) (anc : List (List Nat)) (n : Nat)
variable {ops anc n}
end
section
variable (h : IH) (g : Bool) (ks : List Nat) (r r' xs ys : List IV)
@[go_sem] theorem ueval_aeq : ueval h (.aeq g ks) [.agg xs, .agg ys] = (aeqV ks xs ys).map fun b => .bool (b != g) := rfl
@[go_sem] theorem aeqV_nil : aeqV [] [] [] = some true := rfl
@[go_sem] theorem aeqV_int (k : IntKind) (a b : Int) : aeqV (0 :: ks) (.int k a :: r) (.int k b :: r') = (aeqV ks r r').map fun t => decide (a = b) && t := by simp [aeqV]
@[go_sem] theorem aeqV_str (a b : List UInt8) : aeqV (1 :: ks) (.str a :: r) (.str b :: r') = (aeqV ks r r').map fun t => decide (a = b) && t := rfl
@[go_sem] theorem aeqV_bool (a b : Bool) : aeqV (2 :: ks) (.bool a :: r) (.bool b :: r') = (aeqV ks r r').map fun t => decide (a = b) && t := rfl
end
end Go.IW

set_option autoImplicit false
/- The library's strings.Builder. -/
namespace Go.IW
open Go
variable {P : Program}

@[go_sem] theorem fe_u (k : UK) (xs : List CX) (e : Env) (h : IH) : feval e h (.u k xs) = ueval h k (xs.map (CX.ev e)) := nr rfl
theorem ueval_peq (h : IH) (g : Bool) (l i k : Nat) : ueval h (.peq g) [.ptr l i k, .ptr l i k] = some (.bool (true != g)) := by simp [ueval]
theorem ueval_pne {h : IH} {g : Bool} {l i k l' i' k' : Nat} (hne : l ≠ l') (h1 : (h.obj l).big = true) (h2 : (h.obj l').big = true) : ueval h (.peq g) [.ptr l i k, .ptr l' i' k'] = some (.bool (false != g)) := by
 have e : ueval h (.peq g) [.ptr l i k, .ptr l' i' k'] = if l = l' ∧ i = i' ∧ k = k' then some (.bool (true != g)) else if l ≠ l' ∧ (h.obj l).big = true ∧ (h.obj l').big = true then some (.bool (false != g)) else none := rfl
 rw [e, if_neg (fun e => hne e.1), if_pos ⟨hne, h1, h2⟩]
def ustrA (P : Program) (el : Nat) (x y : IV) (h : IH) [K : HoldK] : Prop := uact P h K.k (.ustr el) [x, y]
@[go_sem ↓] theorem act_ustr (el : Nat) (x y : CX) (e : Env) (h : IH) (K : IV → IH → Prop) : act P h e K (.ux (.ustr el) [x, y]) = @ustrA P el (x.ev e) (y.ev e) h ⟨K⟩ := nr rfl
@[go_sem ↓] theorem act_bad (xs : List CX) (e : Env) (h : IH) (K : IV → IH → Prop) : act P h e K (.ux .bad xs) = False := by
 simp only [act, uact]
structure Bld (T el : Nat) (lo hi : Nat) (h : IH) (p : Nat) (s : List UInt8) : Prop where
 box : ∃ a v, At h p (.rows [[a, v]] T 2 false) ∧ (a = .nilptr ∨ a = .ptr p 0 0) ∧ (v = .nilslice ∨ s ≠ []) ∧ Own lo hi h el 1 v (strRows s)

theorem Bld.ext {T el lo hi : Nat} {h h' : IH} {p : Nat} {s : List UInt8} (b : Bld T el lo hi h p s) (e : Ext h h') : Bld T el lo hi h' p s := by
 obtain ⟨a, v, h1, h2, h3, h4⟩ := b.box
 exact ⟨a, v, h1.ext e, h2, h3, h4.ext e⟩

end Go.IW

namespace Go.IW
open Go Go.RowKit

theorem SlR.mem {ρ : List RLoc} {B : Nat} {w : World} {h : IH} {x : Value} {v : IV} {rs : List (List IV)} (hw : WRel ρ B w h) (hx : VRel ρ x v) (hs : SlR h 1 v rs) (hne : rs ≠ []) :
  ∃ bk o c news, x = .slice (some ⟨bk, o, none⟩) rs.length c ∧ rs.length ≤ c ∧ LRel ρ news rs.flatten ∧ news.length = rs.length ∧ bk < w.heap.size ∧ ∀ (j : Nat) u, news[j]? = some u → w.cell? ⟨bk, o + j, none⟩ = some u := by
 obtain ⟨ad, c, news, e1, hcap, hl, hnl, hok, had, hget⟩ := src_rows hw hx hs.src
 have hsrc := hs.src
 cases hx with
 | @slice l i n c' r h1 h2 h3 h4 =>
  obtain ⟨rs0, e, ro, ho, _⟩ := srcRows_live hsrc
  have hbk : r.block < w.heap.size := (hw.obj l r h1).block_lt (by rw [ho]; rfl)
  simp only [Value.slice.injEq] at e1
  obtain ⟨rfl, rfl, rfl⟩ := e1
  refine ⟨_, _, _, news, rfl, hcap, hl, by simpa using hnl, hbk, fun j u hu => ?_⟩
  have := hget _ rfl j u hu
  rwa [Lib.add_plain] at this
 | _ => first | (simp only [srcRows, Option.some.injEq] at hsrc; exact absurd hsrc.symm hne) | (simp [srcRows] at hsrc; done) | (simp [srcRows] at hsrc; exact absurd hsrc hne)

section
variable {P : Program} {f : Nat} {as0 : List CX} {e : Env} {h : IH} {d : Option Nat} {K : Env → IH → Prop} {b : Bool} {v : IV}
end
section
variable {P : Program}
@[go_sem] theorem gv_gv (b : Bool) (v : IV) : gv b (gv b v) = gv b v := by cases b <;> rfl
@[go_sem] theorem gop_gvt (b c : Bool) (d : Nat) (k : FK) (e : Env) (h : IH) (K : HoldB) : @gop P (gv b (.bool c)) true d k e h K = @gpure (b && c) (feval e h k) ⟨fun v => K.k (upd e d v) h⟩ := by
 cases b <;> cases c <;> rfl
@[go_sem] theorem gop_gvf (b c : Bool) (d : Nat) (k : FK) (e : Env) (h : IH) (K : HoldB) : @gop P (gv b (.bool c)) false d k e h K = @gpure (b && !c) (feval e h k) ⟨fun v => K.k (upd e d v) h⟩ := by
 cases b <;> cases c <;> rfl
@[go_sem] theorem gl_pick2c (b c : Bool) (K : HoldG) (x y z : IV) : @gpure b (pickF x (gv (b && c) y) z) K = @gpure b (pickF x (gv c y) z) K := gpure_lift fun e => by rw [e]; rfl
@[go_sem] theorem gl_pick3c (b c : Bool) (K : HoldG) (x y z : IV) : @gpure b (pickF x y (gv (b && c) z)) K = @gpure b (pickF x y (gv c z)) K := gpure_lift fun e => by rw [e]; rfl
end
end Go.IW

namespace Go.IW
open Go Go.RowKit

def bytesD (bs : List UInt8) : Dat := .list (bs.map fun b => .int (b.toNat : Int))
theorem bytesL {S : Nat → Prop} {h : IH} : ∀ {rs : List (List IV)} {ds : List Dat}, All2 (Rp S h (.int .u8)) rs ds → wfL (.int .u8) ds → ∃ bs : List UInt8, rs = strRows bs ∧ ds = bs.map fun b => .int (b.toNat : Int)
 | _, _, .nil, _ => ⟨[], rfl, rfl⟩
 | _, _, .cons (a := r) (b := d) h1 h2, hw => by
  obtain ⟨n, rfl, rfl⟩ := h1
  obtain ⟨bs, rfl, rfl⟩ := bytesL h2 hw.2
  have hn : (Lit.int .u8 n).wf = true := hw.1
  have hr : 0 ≤ n ∧ n < 256 := by
   simp [Lit.wf, IntKind.min, IntKind.max, IntKind.signed, IntKind.bits] at hn
   omega
  refine ⟨UInt8.ofNat n.toNat :: bs, ?_, ?_⟩
  ·simp only [strRows, mc0, List.cons.injEq, and_true, IV.int.injEq, true_and]
   rw [UInt8.toNat_ofNat']
   omega
  ·simp only [mc0, List.cons.injEq, Dat.int.injEq, and_true]
   rw [UInt8.toNat_ofNat']
   omega
theorem bytes_any {lo hi el : Nat} {h : IH} {v : IV} {d : Dat} (hv : Vw lo hi h (.slice el (.int .u8)) [v] d) (hw : wfD (.slice el (.int .u8)) d) : ∃ bs, d = bytesD bs ∧ SlR h 1 v (strRows bs) := by
 obtain ⟨v', rs, ds, e1, rfl, hs, hS, ha⟩ := hv
 obtain rfl := (List.cons.inj e1).1
 obtain ⟨bs, rfl, rfl⟩ := bytesL ha hw
 exact ⟨bs, rfl, hs⟩
end Go.IW

namespace Go.IW
open Go Go.RowKit

end Go.IW

namespace Go.IW
open Go Go.RowKit

end Go.IW

namespace Go.IW
open Go Go.RowKit

structure As where
 P : IH → List Nat → Prop
 same : ∀ {h h' : IH} {fs : List Nat}, P h fs → h.n ≤ h'.n → (∀ l ∈ fs, h'.obj l = h.obj l) → P h' fs
 lt : ∀ {h : IH} {fs : List Nat}, P h fs → ∀ l ∈ fs, l < h.n

def box (p : Nat) (o : IObj) : As where
 P h fs := fs = [p] ∧ p < h.n ∧ h.obj p = o
 same := by
  rintro h h' fs ⟨rfl, h1, h2⟩ hn ho
  exact ⟨rfl, by omega, (ho p (by simp)).trans h2⟩
 lt := by
  rintro h fs ⟨rfl, h1, _⟩ l hl
  have : l = p := by simpa using hl
  omega
def fact (p : Prop) : As where
 P _ fs := fs = [] ∧ p
 same h _ _ := h
 lt h := by rw [h.1]; simp
def emp : As := fact True
def old (h0 : IH) : As where
 P h fs := fs = List.range h0.n ∧ h0.n ≤ h.n ∧ ∀ l, l < h0.n → h.obj l = h0.obj l
 same := by
  rintro h h' fs ⟨rfl, h1, h2⟩ hn ho
  exact ⟨rfl, by omega, fun l hl => (ho l (by simpa using hl)).trans (h2 l hl)⟩
 lt := by
  rintro h fs ⟨rfl, h1, _⟩ l hl
  have : l < h0.n := by simpa using hl
  omega
def stars (A B : As) : As where
 P h fs := ∃ f g, fs = f ++ g ∧ A.P h f ∧ B.P h g
 same := by
  rintro h h' fs ⟨f, g, rfl, ha, hb⟩ hn ho
  exact ⟨f, g, rfl, A.same ha hn (fun l hl => ho l (List.mem_append_left _ hl)), B.same hb hn (fun l hl => ho l (List.mem_append_right _ hl))⟩
 lt := by
  rintro h fs ⟨f, g, rfl, ha, hb⟩ l hl
  rcases List.mem_append.1 hl with hl | hl
  ·exact A.lt ha l hl
  ·exact B.lt hb l hl
def exA {α : Type} (F : α → As) : As where
 P h fs := ∃ x, (F x).P h fs
 same := by rintro h h' fs ⟨x, hx⟩ hn ho; exact ⟨x, (F x).same hx hn ho⟩
 lt := by rintro h fs ⟨x, hx⟩; exact (F x).lt hx
def all2 {α : Type} (R : List IV → α → As) : List (List IV) → List α → As
 | [], [] => emp
 | r :: rs, x :: xs => stars (R r x) (all2 R rs xs)
 | _, _ => fact False

def SpF (h : IH) : List As → List Nat → Prop
 | [], fs => fs = []
 | A :: L, fs => ∃ f g, fs = f ++ g ∧ A.P h f ∧ SpF h L g
def Sp (h : IH) (L : List As) : Prop := ∃ fs, SpF h L fs ∧ fs.Nodup

section
variable {h h' : IH} {L M : List As} {A B C D E F A' : As}
theorem SpF.same : ∀ {L : List As} {fs : List Nat}, SpF h L fs → h.n ≤ h'.n → (∀ l ∈ fs, h'.obj l = h.obj l) → SpF h' L fs
 | [], _, e, _, _ => e
 | A :: L, _, ⟨f, g, e, ha, hl⟩, hn, ho => by
  subst e
  exact ⟨f, g, rfl, A.same ha hn (fun l hx => ho l (List.mem_append_left _ hx)), SpF.same hl hn (fun l hx => ho l (List.mem_append_right _ hx))⟩
theorem SpF.lt : ∀ {L : List As} {fs : List Nat}, SpF h L fs → ∀ l ∈ fs, l < h.n
 | [], _, e => by cases e; simp
 | A :: L, _, ⟨f, g, e, ha, hl⟩ => by
  subst e
  intro l hx
  rcases List.mem_append.1 hx with hx | hx
  ·exact A.lt ha l hx
  ·exact SpF.lt hl l hx
theorem SpF.perm (hp : L.Perm M) : ∀ {fs : List Nat}, SpF h L fs → ∃ gs, SpF h M gs ∧ fs.Perm gs := by
 induction hp with
 | nil => intro fs hs; exact ⟨fs, hs, List.Perm.refl _⟩
 | cons A _ ih =>
  rintro fs ⟨f, g, rfl, ha, hl⟩
  obtain ⟨gs, h1, h2⟩ := ih hl
  exact ⟨f ++ gs, ⟨f, gs, rfl, ha, h1⟩, List.Perm.append_left _ h2⟩
 | swap A B L =>
  rintro fs ⟨f, g, rfl, ha, f', g', rfl, hb, hl⟩
  refine ⟨f' ++ (f ++ g'), ⟨f', f ++ g', rfl, hb, f, g', rfl, ha, hl⟩, ?_⟩
  rw [← List.append_assoc, ← List.append_assoc]
  exact List.Perm.append_right _ List.perm_append_comm
 | trans _ _ ih1 ih2 =>
  intro fs hs
  obtain ⟨gs, h1, h2⟩ := ih1 hs
  obtain ⟨gs', h3, h4⟩ := ih2 h1
  exact ⟨gs', h3, h2.trans h4⟩
theorem Sp.perm (hs : Sp h L) (hp : L.Perm M) : Sp h M := by
 obtain ⟨fs, h1, h2⟩ := hs
 obtain ⟨gs, h3, h4⟩ := SpF.perm hp h1
 exact ⟨gs, h3, h4.nodup_iff.1 h2⟩
theorem Sp.ext (hs : Sp h L) (E : Ext h h') : Sp h' L := by
 obtain ⟨fs, h1, h2⟩ := hs
 exact ⟨fs, h1.same E.le (fun l hl => E.obj l (h1.lt l hl)), h2⟩
theorem Sp.turn (hs : Sp h (A :: L)) (hn : h.n ≤ h'.n) (ht : ∀ f, A.P h f → f.Nodup → (∃ f', A'.P h' f' ∧ f'.Nodup ∧ (∀ l ∈ f', l ∈ f ∨ h.n ≤ l)) ∧ ∀ l, l < h.n → l ∉ f → h'.obj l = h.obj l) : Sp h' (A' :: L) := by
 obtain ⟨fs, ⟨f, g, rfl, ha, hl⟩, hd⟩ := hs
 obtain ⟨hf, hg, hfg⟩ := List.nodup_append.1 hd
 obtain ⟨⟨f', ha', hd', hin⟩, ho⟩ := ht f ha hf
 refine ⟨f' ++ g, ⟨f', g, rfl, ha', hl.same hn fun l hlg => ho l (hl.lt l hlg) fun hlf => hfg l hlf l hlg rfl⟩, ?_⟩
 refine List.nodup_append.2 ⟨hd', hg, fun a ha b hb e => ?_⟩
 subst e
 rcases hin a ha with h1 | h1
 ·exact hfg a h1 a hb rfl
 ·have := hl.lt a hb; omega
theorem Sp.new (hs : Sp h L) (E : Ext h h') {f : List Nat} (ha : A.P h' f) (hd : f.Nodup) (hf : ∀ l ∈ f, h.n ≤ l) : Sp h' (A :: L) := by
 obtain ⟨fs, h1, h2⟩ := hs
 refine ⟨f ++ fs, ⟨f, fs, rfl, ha, h1.same E.le (fun l hl => E.obj l (h1.lt l hl))⟩, List.nodup_append.2 ⟨hd, h2, fun a ha b hb e => ?_⟩⟩
 subst e
 have := hf a ha; have := h1.lt a hb; omega
theorem Sp.imp (hs : Sp h (A :: L)) (hi : ∀ f, A.P h f → ∃ f', B.P h f' ∧ f'.Sublist f) : Sp h (B :: L) := by
 obtain ⟨fs, ⟨f, g, rfl, ha, hl⟩, hd⟩ := hs
 obtain ⟨f', hb, hsub⟩ := hi f ha
 exact ⟨f' ++ g, ⟨f', g, rfl, hb, hl⟩, (List.Sublist.append hsub (List.Sublist.refl g)).nodup hd⟩
theorem Sp.drop (hs : Sp h (A :: L)) : Sp h L := by
 obtain ⟨fs, ⟨f, g, rfl, ha, hl⟩, hd⟩ := hs
 exact ⟨g, hl, (List.nodup_append.1 hd).2.1⟩
theorem Sp.get (hs : Sp h (A :: L)) : ∃ f, A.P h f ∧ f.Nodup := by
 obtain ⟨fs, ⟨f, g, rfl, ha, hl⟩, hd⟩ := hs
 exact ⟨f, ha, (List.nodup_append.1 hd).1⟩
theorem Sp.star (hs : Sp h (stars A B :: L)) : Sp h (A :: B :: L) := by
 obtain ⟨fs, ⟨f, g, rfl, ⟨f1, f2, rfl, h1, h2⟩, hl⟩, hd⟩ := hs
 rw [List.append_assoc] at hd
 exact ⟨f1 ++ (f2 ++ g), ⟨f1, f2 ++ g, rfl, h1, f2, g, rfl, h2, hl⟩, hd⟩
theorem Sp.unstar (hs : Sp h (A :: B :: L)) : Sp h (stars A B :: L) := by
 obtain ⟨fs, ⟨f1, g, rfl, h1, f2, g2, rfl, h2, hl⟩, hd⟩ := hs
 rw [← List.append_assoc] at hd
 exact ⟨_, ⟨f1 ++ f2, g2, rfl, ⟨f1, f2, rfl, h1, h2⟩, hl⟩, hd⟩
theorem Sp.ex {α : Type} {F : α → As} (hs : Sp h (exA F :: L)) : ∃ x, Sp h (F x :: L) := by
 obtain ⟨fs, ⟨f, g, rfl, ⟨x, hx⟩, hl⟩, hd⟩ := hs
 exact ⟨x, _, ⟨f, g, rfl, hx, hl⟩, hd⟩
theorem Sp.unex {α : Type} {F : α → As} (x : α) (hs : Sp h (F x :: L)) : Sp h (exA F :: L) := by
 obtain ⟨fs, ⟨f, g, rfl, hx, hl⟩, hd⟩ := hs
 exact ⟨_, ⟨f, g, rfl, ⟨x, hx⟩, hl⟩, hd⟩
theorem Sp.fact {p : Prop} (hs : Sp h (IW.fact p :: L)) : p ∧ Sp h L := by
 refine ⟨?_, hs.drop⟩
 obtain ⟨f, ⟨_, hp⟩, _⟩ := hs.get
 exact hp
theorem Sp.unfact {p : Prop} (hp : p) (hs : Sp h L) : Sp h (IW.fact p :: L) := by
 obtain ⟨fs, h1, h2⟩ := hs
 exact ⟨fs, ⟨[], fs, rfl, ⟨rfl, hp⟩, h1⟩, h2⟩
theorem Sp.emp (hs : Sp h L) : Sp h (IW.emp :: L) := Sp.unfact trivial hs
theorem Sp.nil : Sp h [] := ⟨[], rfl, List.nodup_nil⟩
theorem Sp.start (h : IH) : Sp h [old h] := ⟨List.range h.n, ⟨List.range h.n, [], by simp, ⟨rfl, Nat.le_refl _, fun _ _ => rfl⟩, rfl⟩, List.nodup_range⟩
theorem Sp.oldE {h0 : IH} (hs : Sp h (old h0 :: L)) : Ext h0 h := by
 obtain ⟨f, ⟨_, h1, h2⟩, _⟩ := hs.get
 exact ⟨h1, h2⟩
theorem Sp.ne {p q : Nat} {o o' : IObj} (hs : Sp h (box p o :: box q o' :: L)) : p ≠ q := by
 obtain ⟨fs, ⟨f, g, rfl, ⟨rfl, _⟩, f', g', rfl, ⟨rfl, _⟩, _⟩, hd⟩ := hs
 intro e
 subst e
 simp at hd
theorem Sp.push {g : IH} {o : IObj} (hs : Sp h L) (hg : h.push o = g) : Sp g (box h.n o :: L) := by
 subst hg
 exact hs.new ((Ext.refl _).push _) (f := [h.n]) ⟨rfl, Nat.lt_succ_self _, push_new _ _⟩ (by simp) (by simp)
theorem Sp.set {g : IH} {p : Nat} {o o' : IObj} (hs : Sp h (box p o :: L)) (hg : h.set p o' = g) : Sp g (box p o' :: L) := by
 subst hg
 refine hs.turn (Nat.le_refl _) ?_
 rintro f ⟨rfl, h1, h2⟩ _
 refine ⟨⟨[p], ⟨rfl, h1, set_here _ _ _⟩, by simp, fun l hl => .inl hl⟩, fun l hl hf => set_there _ _ _ _ (by simpa using hf)⟩
theorem Sp.p1 (hs : Sp h (A :: B :: L)) : Sp h (B :: A :: L) := hs.perm (List.Perm.swap _ _ _)
theorem Sp.p2 (hs : Sp h (A :: B :: C :: L)) : Sp h (C :: A :: B :: L) := hs.perm ((List.Perm.swap _ _ _).cons A |>.trans (List.Perm.swap _ _ _))
end
end Go.IW

namespace Go.IW
open Go Go.RowKit

theorem SpF.lists {h : IH} : ∀ {L : List As} {fs : List Nat}, SpF h L fs ↔ ∃ fss : List (List Nat), fss.length = L.length ∧ fss.flatten = fs ∧ ∀ (i : Nat) (A : As) (f : List Nat), L[i]? = some A → fss[i]? = some f → A.P h f
 | [], fs => by
  constructor
  ·intro e; cases e; exact ⟨[], rfl, rfl, by simp⟩
  ·rintro ⟨fss, h1, h2, _⟩
   have : fss = [] := List.length_eq_zero_iff.1 h1
   subst this; exact h2.symm
 | A :: L, fs => by
  constructor
  ·rintro ⟨f, g, rfl, ha, hl⟩
   obtain ⟨fss, h1, rfl, h3⟩ := SpF.lists.1 hl
   refine ⟨f :: fss, by simp [h1], rfl, fun i B f' hB hf => ?_⟩
   cases i with
   | zero => simp at hB hf; subst hB; subst hf; exact ha
   | succ i => exact h3 i B f' (by simpa using hB) (by simpa using hf)
  ·rintro ⟨fss, h1, rfl, h3⟩
   cases fss with
   | nil => simp at h1
   | cons f fss =>
    exact ⟨f, fss.flatten, rfl, h3 0 A f rfl rfl, SpF.lists.2 ⟨fss, by simpa using h1, rfl, fun i B f' hB hf => h3 (i + 1) B f' (by simpa using hB) (by simpa using hf)⟩⟩
theorem Sp.lists {h : IH} {L : List As} : Sp h L ↔ ∃ fss : List (List Nat), fss.length = L.length ∧ fss.flatten.Nodup ∧ ∀ (i : Nat) (A : As) (f : List Nat), L[i]? = some A → fss[i]? = some f → A.P h f := by
 constructor
 ·rintro ⟨fs, h1, h2⟩
  obtain ⟨fss, a, rfl, c⟩ := SpF.lists.1 h1
  exact ⟨fss, a, h2, c⟩
 ·rintro ⟨fss, a, b, c⟩
  exact ⟨_, SpF.lists.2 ⟨fss, a, rfl, c⟩, b⟩
theorem pairwise_idx {α : Type} {R : α → α → Prop} (hs : ∀ a b, R a b → R b a) {l : List α} (hp : l.Pairwise R) {i j : Nat} {a b : α} (hi : l[i]? = some a) (hj : l[j]? = some b) (hne : i ≠ j) : R a b := by
 rw [List.pairwise_iff_getElem] at hp
 obtain ⟨h1, rfl⟩ := List.getElem?_eq_some_iff.1 hi
 obtain ⟨h2, rfl⟩ := List.getElem?_eq_some_iff.1 hj
 rcases Nat.lt_or_ge i j with h | h
 ·exact hp i j h1 h2 h
 ·exact hs _ _ (hp j i h2 h1 (by omega))
theorem Sp.sel {h : IH} {L : List As} (hs : Sp h L) (n : Nat) (is : List Nat) (hn : n ≤ L.length) (hd : is.Nodup) (hlt : ∀ i ∈ is, i < n) : Sp h (is.map (fun i => L.getD i IW.emp) ++ L.drop n) := by
 obtain ⟨fss, h1, h2, h3⟩ := Sp.lists.1 hs
 refine Sp.lists.2 ⟨is.map (fun i => fss.getD i []) ++ fss.drop n, by simp [h1], ?_, ?_⟩
 ·rw [List.Nodup, List.pairwise_flatten] at h2 ⊢
  obtain ⟨hn1, hp⟩ := h2
  have sym : ∀ a b : List Nat, (∀ x ∈ a, ∀ y ∈ b, x ≠ y) → (∀ x ∈ b, ∀ y ∈ a, x ≠ y) := fun a b h x hx y hy e => h y hy x hx e.symm
  have gd : ∀ i, i < n → fss[i]? = some (fss.getD i []) := fun i hi => by
   rw [List.getD_eq_getElem?_getD, List.getElem?_eq_getElem (by omega)]; rfl
  refine ⟨?_, ?_⟩
  ·intro l hl
   rcases List.mem_append.1 hl with hl | hl
   ·obtain ⟨i, hi, rfl⟩ := List.mem_map.1 hl
    exact hn1 _ (List.mem_of_getElem? (gd i (hlt i hi)))
   ·exact hn1 _ (List.mem_of_mem_drop hl)
  ·rw [List.pairwise_append]
   refine ⟨?_, hp.sublist (List.drop_sublist _ _), ?_⟩
   ·rw [List.pairwise_map]
    refine List.Pairwise.imp_of_mem (R := fun a b => a ≠ b) ?_ hd
    intro a b ha hb hab
    exact pairwise_idx sym hp (gd a (hlt a ha)) (gd b (hlt b hb)) hab
   ·intro a ha b hb
    obtain ⟨i, hi, rfl⟩ := List.mem_map.1 ha
    obtain ⟨j, hj⟩ := List.getElem?_of_mem hb
    rw [List.getElem?_drop] at hj
    have := hlt i hi
    exact pairwise_idx sym hp (gd i this) hj (by omega)
 ·intro i A f hA hf
  rcases Nat.lt_or_ge i is.length with hi | hi
  ·rw [List.getElem?_append_left (by simpa using hi), List.getElem?_map] at hA hf
   rw [List.getElem?_eq_getElem hi] at hA hf
   simp only [Option.map_some, Option.some.injEq] at hA hf
   have hm := hlt _ (List.getElem_mem hi)
   refine h3 is[i] A f ?_ ?_
   ·rw [← hA, List.getD_eq_getElem?_getD, List.getElem?_eq_getElem (by omega)]; rfl
   ·rw [← hf, List.getD_eq_getElem?_getD, List.getElem?_eq_getElem (by omega)]; rfl
  ·rw [List.getElem?_append_right (by simpa using hi), List.getElem?_drop] at hA hf
   simp only [List.length_map] at hA hf
   exact h3 _ A f hA hf
theorem Sp.part {h : IH} {L : List As} (hs : Sp h L) (k : Nat) {A : As} (hk : L[k]? = some A) : ∃ f, A.P h f := by
 obtain ⟨fss, h1, h2, h3⟩ := Sp.lists.1 hs
 have hl := (List.getElem?_eq_some_iff.1 hk).1
 exact ⟨_, h3 k A _ hk (List.getElem?_eq_getElem (by omega))⟩
theorem Sp.bx {h : IH} {L : List As} (hs : Sp h L) (k : Nat) {p : Nat} {o : IObj} (hk : L[k]? = some (box p o)) : At h p o := by
 obtain ⟨f, _, h1, h2⟩ := hs.part k hk
 exact ⟨h1, h2⟩
theorem Sp.nb {h : IH} {L : List As} (hs : Sp h L) (i j : Nat) {p q : Nat} {o o' : IObj} (hi : L[i]? = some (box p o)) (hj : L[j]? = some (box q o')) (hne : i ≠ j) : p ≠ q := by
 obtain ⟨fss, h1, h2, h3⟩ := Sp.lists.1 hs
 have hl := (List.getElem?_eq_some_iff.1 hi).1
 have hl' := (List.getElem?_eq_some_iff.1 hj).1
 have e1 := List.getElem?_eq_getElem (l := fss) (i := i) (by omega)
 have e2 := List.getElem?_eq_getElem (l := fss) (i := j) (by omega)
 obtain ⟨a1, _⟩ := h3 i _ _ hi e1
 obtain ⟨a2, _⟩ := h3 j _ _ hj e2
 rw [List.Nodup, List.pairwise_flatten] at h2
 have := pairwise_idx (R := fun a b : List Nat => ∀ x ∈ a, ∀ y ∈ b, x ≠ y) (fun a b h x hx y hy e => h y hy x hx e.symm) h2.2 e1 e2 hne
 rw [a1, a2] at this
 exact this p (by simp) q (by simp)
theorem Sp.ol {h h0 : IH} {L : List As} (hs : Sp h L) (k : Nat) (hk : L[k]? = some (old h0)) : Ext h0 h := by
 obtain ⟨f, _, h1, h2⟩ := hs.part k hk
 exact ⟨h1, h2⟩
theorem Sp.oldNot {h h0 : IH} {A : As} {L : List As} (hs : Sp h (A :: old h0 :: L)) : ∃ f, A.P h f ∧ f.Nodup ∧ ∀ l ∈ f, h0.n ≤ l := by
 obtain ⟨fs, ⟨f, g, rfl, ha, f', g', rfl, ⟨rfl, _⟩, _⟩, hd⟩ := hs
 obtain ⟨h1, _, h3⟩ := List.nodup_append.1 hd
 refine ⟨f, ha, h1, fun l hl => ?_⟩
 rcases Nat.lt_or_ge l h0.n with hlt | hge
 ·exact absurd rfl (h3 l hl l (by simp [hlt]))
 ·exact hge

theorem At.pushed {h g : IH} {o : IObj} (hq : h.push o = g) : At g h.n o := by subst hq; exact At.new _ _
theorem Ext.pushed {h g : IH} {o : IObj} (hq : h.push o = g) : Ext h g := by subst hq; exact (Ext.refl _).push _
theorem n_set {h g : IH} {l : Nat} {o : IObj} (hq : h.set l o = g) : g.n = h.n := by subst hq; rfl
theorem Sp.front {h : IH} {A : As} {L1 L : List As} (hs : Sp h (L1 ++ A :: L)) : Sp h (A :: (L1 ++ L)) := hs.perm List.perm_middle
theorem Sp.unfront {h : IH} {A : As} {L1 L : List As} (hs : Sp h (A :: (L1 ++ L))) : Sp h (L1 ++ A :: L) := hs.perm List.perm_middle.symm
theorem Sp.set0 {h g : IH} {L : List As} {p : Nat} {o o' : IObj} (hs : Sp h (box p o :: L)) (hg : h.set p o' = g) : Sp g (box p o' :: L) := hs.set hg
theorem Sp.set1 {h g : IH} {L : List As} {A0 : As} {p : Nat} {o o' : IObj} (hs : Sp h (A0 :: box p o :: L)) (hg : h.set p o' = g) : Sp g (A0 :: box p o' :: L) :=
 ((Sp.front (hs := hs) (L1 := [A0])).set hg).unfront (L1 := [A0])
theorem Sp.set2 {h g : IH} {L : List As} {A0 A1 : As} {p : Nat} {o o' : IObj} (hs : Sp h (A0 :: A1 :: box p o :: L)) (hg : h.set p o' = g) : Sp g (A0 :: A1 :: box p o' :: L) :=
 ((Sp.front (hs := hs) (L1 := [A0, A1])).set hg).unfront (L1 := [A0, A1])
theorem Sp.set3 {h g : IH} {L : List As} {A0 A1 A2 : As} {p : Nat} {o o' : IObj} (hs : Sp h (A0 :: A1 :: A2 :: box p o :: L)) (hg : h.set p o' = g) : Sp g (A0 :: A1 :: A2 :: box p o' :: L) :=
 ((Sp.front (hs := hs) (L1 := [A0, A1, A2])).set hg).unfront (L1 := [A0, A1, A2])
theorem Sp.set4 {h g : IH} {L : List As} {A0 A1 A2 A3 : As} {p : Nat} {o o' : IObj} (hs : Sp h (A0 :: A1 :: A2 :: A3 :: box p o :: L)) (hg : h.set p o' = g) : Sp g (A0 :: A1 :: A2 :: A3 :: box p o' :: L) :=
 ((Sp.front (hs := hs) (L1 := [A0, A1, A2, A3])).set hg).unfront (L1 := [A0, A1, A2, A3])
theorem Sp.set5 {h g : IH} {L : List As} {A0 A1 A2 A3 A4 : As} {p : Nat} {o o' : IObj} (hs : Sp h (A0 :: A1 :: A2 :: A3 :: A4 :: box p o :: L)) (hg : h.set p o' = g) : Sp g (A0 :: A1 :: A2 :: A3 :: A4 :: box p o' :: L) :=
 ((Sp.front (hs := hs) (L1 := [A0, A1, A2, A3, A4])).set hg).unfront (L1 := [A0, A1, A2, A3, A4])
theorem Sp.set9 {h g : IH} {L : List As} {A0 A1 A2 A3 A4 A5 A6 A7 A8 : As} {p : Nat} {o o' : IObj} (hs : Sp h (A0 :: A1 :: A2 :: A3 :: A4 :: A5 :: A6 :: A7 :: A8 :: box p o :: L)) (hg : h.set p o' = g) : Sp g (A0 :: A1 :: A2 :: A3 :: A4 :: A5 :: A6 :: A7 :: A8 :: box p o' :: L) :=
 ((Sp.front (hs := hs) (L1 := [A0, A1, A2, A3, A4, A5, A6, A7, A8])).set hg).unfront (L1 := [A0, A1, A2, A3, A4, A5, A6, A7, A8])
def sl (x : Bool) (el sz : Nat) (v : IV) (rs : List (List IV)) : As where
 P h fs := (rs = [] ∧ fs = [] ∧ (v = .nilslice ∨ v = .eslice true)) ∨ ∃ l, (x = true ∨ rs ≠ []) ∧ v = .slice l 0 rs.length ∧ fs = [l] ∧ l < h.n ∧ h.obj l = .rows rs el sz false
 same := by
  rintro h h' fs (⟨h1, h2, h3⟩ | ⟨l, h0, h1, rfl, h3, h4⟩) hn ho
  ·exact .inl ⟨h1, h2, h3⟩
  ·exact .inr ⟨l, h0, h1, rfl, by omega, (ho l (by simp)).trans h4⟩
 lt := by
  rintro h fs (⟨h1, h2, h3⟩ | ⟨l, h0, h1, rfl, h3, h4⟩)
  ·subst h2; simp
  ·intro m hm
   have : m = l := by simpa using hm
   omega
section
variable {h h' g : IH} {L : List As} {x y : Bool} {el sz b : Nat} {v : IV} {rs ys : List (List IV)}
theorem Sp.slA (hs : Sp h L) (k : Nat) (hk : L[k]? = some (sl x el sz v rs)) : SlR h sz v rs := by
 obtain ⟨f, (⟨rfl, _, rfl | rfl⟩ | ⟨l, h0, rfl, _, h3, h4⟩)⟩ := hs.part k hk
 ·exact SlR.nil _ _
 ·exact SlR.empty _ _ _
 ·exact SlR.whole h4 rfl h3
theorem Sp.slBox (hs : Sp h (sl x el sz v rs :: L)) (hne : rs ≠ []) : ∃ l, v = .slice l 0 rs.length ∧ Sp h (box l (.rows rs el sz false) :: L) := by
 obtain ⟨fs, ⟨f, g, rfl, hf | ⟨l, h0, rfl, rfl, h3, h4⟩, hl⟩, hd⟩ := hs
 ·exact absurd hf.1 hne
 ·exact ⟨l, rfl, _, ⟨[l], g, rfl, ⟨rfl, h3, h4⟩, hl⟩, hd⟩
theorem Sp.boxSl {l n : Nat} (hs : Sp h (box l (.rows rs el sz false) :: L)) (hn : rs.length = n) (hx : x = true ∨ rs ≠ []) : Sp h (sl x el sz (.slice l 0 n) rs :: L) :=
 hs.imp fun f hf => ⟨f, .inr ⟨l, hx, by rw [hn], hf⟩, List.Sublist.refl _⟩
theorem Sp.slNil (hs : Sp h L) : Sp h (sl x el sz .nilslice [] :: L) := by
 obtain ⟨fs, h1, h2⟩ := hs
 exact ⟨fs, ⟨[], fs, rfl, .inl ⟨rfl, rfl, .inl rfl⟩, h1⟩, h2⟩
theorem Sp.slEmpty (hs : Sp h L) : Sp h (sl x el sz (.eslice true) [] :: L) := by
 obtain ⟨fs, h1, h2⟩ := hs
 exact ⟨fs, ⟨[], fs, rfl, .inl ⟨rfl, rfl, .inr rfl⟩, h1⟩, h2⟩
theorem Sp.own {lo hi : Nat} (hs : Sp h L) (E : Ext h h') (ho : Own lo hi h' el sz v rs) (hlo : h.n ≤ lo) : Sp h' (sl x el sz v rs :: L) := by
 rcases ho with ⟨h1, h2⟩ | ⟨l, h0, rfl, h1, h2, h3, h4⟩
 ·exact hs.new E (f := []) (.inl ⟨h1, rfl, h2⟩) (by simp) (by simp)
 ·exact hs.new E (f := [l]) (.inr ⟨l, .inr h0, rfl, rfl, by omega, h4⟩) (by simp) (by simp; omega)
theorem Sp.app {K : HoldK} (hs : Sp h (sl x el sz v rs :: L)) (hy : ys ≠ []) (hb : (rs.length + ys.length) * b ≤ 140737488355328)
  (hk : ∀ v' h', Sp h' (sl y el sz v' (rs ++ ys) :: L) → v'.one = true → v'.cells = [v'] → K.k v' h') : @appA h el sz b v (some ys) K := by
 have hne : rs ++ ys ≠ [] := fun hx => hy (List.append_eq_nil_iff.1 hx).2
 have hs0 := hs
 obtain ⟨fs, ⟨f, g, rfl, (⟨rfl, rfl, rfl | rfl⟩ | ⟨l, h0, rfl, rfl, h3, h4⟩), hl⟩, hd⟩ := hs
 ·exact appA_new hy (by simpa using hb) (hk _ _ (by simpa using hs0.drop.new ((Ext.refl _).push _) (f := [h.n]) (A := sl y el sz (.slice h.n 0 ys.length) ys) (.inr ⟨h.n, .inr hy, rfl, rfl, Nat.lt_succ_self _, push_new _ _⟩) (by simp) (by simp)) rfl rfl)
 ·exact appA_newe hy (by simpa using hb) (hk _ _ (by simpa using hs0.drop.new ((Ext.refl _).push _) (f := [h.n]) (A := sl y el sz (.slice h.n 0 ys.length) ys) (.inr ⟨h.n, .inr hy, rfl, rfl, Nat.lt_succ_self _, push_new _ _⟩) (by simp) (by simp)) rfl rfl)
 ·refine appA_own h4 rfl hy hb (hk _ _ ?_ rfl rfl)
  have s1 : Sp (h.set l .dead) L := by
   obtain ⟨f, hf⟩ : ∃ f, f = [l] := ⟨_, rfl⟩
   obtain ⟨hd1, hd2, hd3⟩ := List.nodup_append.1 hd
   exact ⟨g, hl.same (Nat.le_refl _) fun m hm => set_there _ _ _ _ (fun e => hd3 l (by simp) m hm e.symm), hd2⟩
  have s2 := s1.push (o := .rows (rs ++ ys) el sz false) rfl
  have := s2.boxSl (n := rs.length + ys.length) (x := y) (by simp) (.inr hne)
  rwa [set_n] at this
end

theorem stO_row {i k l : Nat} {rs : List (List IV)} {row : List IV} {c : IV} {el sz : Nat} {h : IH} {K : HoldK} (hr : rs[i]? = some row) (hk : k < row.length) (hc : c.one = true) :
  @stO 1 i k [c] l (.rows rs el sz false) h K = K.k (.tuple []) (h.set l (.rows (rs.set i (row.set k c)) el sz false)) := by
 unfold stO
 simp only [hr, List.length_singleton, List.all_cons, List.all_nil, hc, Bool.and_true, true_and, wrt, Nat.succ_le_of_lt hk]
theorem stO_rw {i n l : Nat} {rs : List (List IV)} {row cs : List IV} {el sz : Nat} {h : IH} {K : HoldK} (hr : rs[i]? = some row) (h0 : cs.length = n) (h1 : row.length = n) (h3 : cs.all IV.one = true) :
  @stO n i 0 cs l (.rows rs el sz false) h K = K.k (.tuple []) (h.set l (.rows (rs.set i cs) el sz false)) := by
 have hw : wrt row 0 cs = cs := by
  rw [wrt_eq _ _ _ (by omega), tz0, na0, List.drop_eq_nil_of_le (by omega), List.append_nil]
 unfold stO
 simp only [hr, h0, h3, true_and, hw, Nat.zero_add, h1, Nat.le_refl]
theorem stO_part {n k l : Nat} {row cs : List IV} {el sz : Nat} {h : IH} {K : HoldK} (h0 : cs.length = n) (h1 : k + n ≤ row.length) (h3 : cs.all IV.one = true) :
  @stO n 0 k cs l (.rows [row] el sz false) h K = K.k (.tuple []) (h.set l (.rows [row.take k ++ cs ++ row.drop (k + n)] el sz false)) := by
 unfold stO
 simp only [List.getElem?_cons_zero, h0, h3, true_and, h1, sz0, wrt_eq row k cs (by omega)]

section
variable {α : Type} {R : List IV → α → As} {h : IH} {L : List As}
theorem all2_len : ∀ {rs : List (List IV)} {xs : List α} {fs : List Nat}, (all2 R rs xs).P h fs → rs.length = xs.length
 | [], [], _, _ => rfl
 | r :: rs, x :: xs, _, ⟨f, g, _, _, h2⟩ => by simp [all2_len h2]
 | [], _ :: _, _, h => h.2.elim
 | _ :: _, [], _, h => h.2.elim
theorem Sp.a2len {rs : List (List IV)} {xs : List α} (hs : Sp h (all2 R rs xs :: L)) : rs.length = xs.length := by
 obtain ⟨f, hf, _⟩ := hs.get
 exact all2_len hf
theorem Sp.a2nil (hs : Sp h L) : Sp h (all2 R [] [] :: L) := hs.emp
theorem all2_app : ∀ {as0 bs : List (List IV)} {xs ys : List α} {f g : List Nat}, (all2 R as0 xs).P h f → (all2 R bs ys).P h g → (all2 R (as0 ++ bs) (xs ++ ys)).P h (f ++ g)
 | [], _, [], _, _, _, h1, h2 => by
  rw [h1.1]; exact h2
 | r :: as0, _, x :: xs, _, _, _, ⟨f1, f2, e, ha, hb⟩, h2 => by
  subst e
  exact ⟨f1, _, List.append_assoc _ _ _, ha, all2_app hb h2⟩
 | [], _, _ :: _, _, _, _, h, _ => h.2.elim
 | _ :: _, _, [], _, _, _, h, _ => h.2.elim
theorem all2_unapp : ∀ {as0 bs : List (List IV)} {xs ys : List α} {f : List Nat}, as0.length = xs.length → (all2 R (as0 ++ bs) (xs ++ ys)).P h f → ∃ f1 f2, f = f1 ++ f2 ∧ (all2 R as0 xs).P h f1 ∧ (all2 R bs ys).P h f2
 | [], _, [], _, f, _, h2 => ⟨[], f, rfl, ⟨rfl, trivial⟩, h2⟩
 | r :: as0, _, x :: xs, _, _, hl, ⟨f1, f2, e, ha, hb⟩ => by
  subst e
  obtain ⟨g1, g2, rfl, k1, k2⟩ := all2_unapp (by simpa using hl) hb
  exact ⟨f1 ++ g1, g2, (List.append_assoc _ _ _).symm, ⟨f1, g1, rfl, ha, k1⟩, k2⟩
 | [], _, _ :: _, _, _, hl, _ => by simp at hl
 | _ :: _, _, [], _, _, hl, _ => by simp at hl
theorem Sp.a2join {as0 bs : List (List IV)} {xs ys : List α} (hs : Sp h (all2 R as0 xs :: all2 R bs ys :: L)) : Sp h (all2 R (as0 ++ bs) (xs ++ ys) :: L) := by
 refine hs.unstar.imp fun f hf => ?_
 obtain ⟨f1, f2, rfl, h1, h2⟩ := hf
 exact ⟨_, all2_app h1 h2, List.Sublist.refl _⟩
theorem Sp.a2split {as0 bs : List (List IV)} {xs ys : List α} (hs : Sp h (all2 R (as0 ++ bs) (xs ++ ys) :: L)) (hl : as0.length = xs.length) : Sp h (all2 R as0 xs :: all2 R bs ys :: L) := by
 refine Sp.star (hs.imp fun f hf => ?_)
 obtain ⟨f1, f2, rfl, h1, h2⟩ := all2_unapp hl hf
 exact ⟨_, ⟨f1, f2, rfl, h1, h2⟩, List.Sublist.refl _⟩
theorem Sp.a2one {r : List IV} {x : α} (hs : Sp h (R r x :: L)) : Sp h (all2 R [r] [x] :: L) := Sp.unstar (B := all2 R [] []) hs.emp.p1
theorem all2_at : ∀ {rs : List (List IV)} {xs : List α} {fs : List Nat} {i : Nat} {x : α}, (all2 R rs xs).P h fs → xs[i]? = some x → ∃ r f, rs[i]? = some r ∧ (R r x).P h f
 | r :: rs, x :: xs, _, 0, _, ⟨f, g, _, h1, _⟩, hi => by
  simp at hi; subst hi
  exact ⟨r, f, rfl, h1⟩
 | r :: rs, x :: xs, _, i + 1, _, ⟨f, g, _, _, h2⟩, hi => by
  obtain ⟨r', f', h3, h4⟩ := all2_at h2 (by simpa using hi)
  exact ⟨r', f', by simpa using h3, h4⟩
 | [], [], _, _, _, _, hi => by simp at hi
 | [], _ :: _, _, _, _, h, _ => h.2.elim
 | _ :: _, [], _, _, _, h, _ => h.2.elim
theorem Sp.a2at {rs : List (List IV)} {xs : List α} {i : Nat} {x : α} (hs : Sp h (all2 R rs xs :: L)) (hi : xs[i]? = some x) :
  ∃ as0 r bs xs1 ys, rs = as0 ++ r :: bs ∧ xs = xs1 ++ x :: ys ∧ as0.length = i ∧ xs1.length = i ∧ Sp h (R r x :: all2 R as0 xs1 :: all2 R bs ys :: L) := by
 have hl := hs.a2len
 obtain ⟨hi1, hi2⟩ := List.getElem?_eq_some_iff.1 hi
 have e1 : rs = rs.take i ++ rs[i] :: rs.drop (i + 1) := by rw [List.getElem_cons_drop, List.take_append_drop]
 have e2 : xs = xs.take i ++ x :: xs.drop (i + 1) := by rw [← hi2, List.getElem_cons_drop, List.take_append_drop]
 refine ⟨rs.take i, rs[i], rs.drop (i + 1), xs.take i, xs.drop (i + 1), e1, e2, by simp; omega, by simp; omega, ?_⟩
 have hs' : Sp h (all2 R (rs.take i ++ rs[i] :: rs.drop (i + 1)) (xs.take i ++ x :: xs.drop (i + 1)) :: L) := e2 ▸ e1 ▸ hs
 have h1 := hs'.a2split (by simp; omega)
 exact (Sp.star h1.p1).p2.p1
theorem Sp.a2mid {as0 bs : List (List IV)} {r : List IV} {x : α} {xs ys : List α} (hs : Sp h (R r x :: all2 R as0 xs :: all2 R bs ys :: L)) : Sp h (all2 R (as0 ++ r :: bs) (xs ++ x :: ys) :: L) :=
 Sp.a2join (Sp.unstar (A := R r x) (hs.p2.p1)).p1
theorem Sp.a2imp {β : Type} {R' : List IV → β → As} {t : α → β} (hR : ∀ r x f, (R r x).P h f → (R' r (t x)).P h f) {rs : List (List IV)} {xs : List α} (hs : Sp h (all2 R rs xs :: L)) : Sp h (all2 R' rs (xs.map t) :: L) := by
 refine hs.imp fun f hf => ⟨f, ?_, List.Sublist.refl _⟩
 clear hs
 induction rs generalizing xs f with
 | nil => cases xs with
  | nil => exact hf
  | cons x xs => exact hf.2.elim
 | cons r rs ih => cases xs with
  | nil => exact hf.2.elim
  | cons x xs =>
   obtain ⟨f1, f2, rfl, h1, h2⟩ := hf
   exact ⟨f1, f2, rfl, hR _ _ _ h1, ih _ h2⟩
end

def dat (t : Ty) (cs : List IV) (d : Dat) : As where
 P h fs := Ro h t cs d fs
 same hr hn ho := hr.same hn ho
 lt hr := hr.lt
section
variable {h h' h0 : IH} {L : List As} {t u : Ty} {cs cs' : List IV} {d d' : Dat} {el b : Nat} {v : IV} {ds : List Dat}
theorem Sp.ow {lo hi : Nat} (hs : Sp h L) (E : Ext h h') (ho : Ow lo hi h' t cs d) (hlo : h.n ≤ lo) : Sp h' (dat t cs d :: L) := by
 obtain ⟨⟨fs, h1, h2, h3⟩, h4⟩ := ho
 exact hs.new E (f := fs) h1 h2 (fun l hl => by have := h3 l hl; omega)
theorem Sp.toOw (hs : Sp h (dat t cs d :: old h0 :: L)) : Ow h0.n h.n h t cs d := by
 obtain ⟨f, h1, h2, h3⟩ := hs.oldNot
 exact ⟨⟨f, h1, h2, fun l hl => ⟨h3 l hl, Ro.lt h1 l hl⟩⟩, Nat.le_refl _⟩
theorem Sp.vw (hs : Sp h (dat t cs d :: L)) : Vw 0 h.n h t cs d := by
 obtain ⟨f, h1, h2⟩ := hs.get
 exact Ro.view h1 fun l hl => ⟨Nat.zero_le _, Ro.lt h1 l hl⟩
theorem Sp.vwA (hs : Sp h L) (k : Nat) (hk : L[k]? = some (dat t cs d)) : Vw 0 h.n h t cs d := by
 obtain ⟨f, h1⟩ := hs.part k hk
 exact Ro.view h1 fun l hl => ⟨Nat.zero_le _, Ro.lt h1 l hl⟩
theorem Sp.dcat (hs : Sp h (dat t cs d :: dat u cs' d' :: L)) : Sp h (dat (.cat t u) (cs ++ cs') (.pair d d') :: L) :=
 hs.unstar.imp fun f hf => by
  obtain ⟨f1, f2, rfl, h1, h2⟩ := hf
  exact ⟨_, ⟨cs, cs', d, d', f1, f2, rfl, rfl, rfl, h1, h2⟩, List.Sublist.refl _⟩
theorem Sp.dunit (hs : Sp h L) : Sp h (dat .nil [] .unit :: L) := hs.new (Ext.refl _) (f := []) ⟨rfl, rfl, rfl⟩ (by simp) (by simp)
theorem Sp.dint (k : IntKind) (n : Int) (hs : Sp h L) : Sp h (dat (.int k) [.int k n] (.int n) :: L) := hs.new (Ext.refl _) (f := []) ⟨n, rfl, rfl, rfl⟩ (by simp) (by simp)
theorem Sp.icat {k : IntKind} {n : Int} (hs : Sp h (dat u cs' d' :: L)) : Sp h (dat (.cat (.int k) u) (.int k n :: cs') (.pair (.int n) d') :: L) := (hs.dint k n).dcat
theorem Sp.slD {xs : List Dat} {rs : List (List IV)} (hs : Sp h (sl false el t.sz v rs :: all2 (dat t) rs xs :: L)) : Sp h (dat (.slice el t) [v] (.list xs) :: L) := by
 have hl := hs.p1.a2len
 refine hs.unstar.imp fun f hf => ?_
 obtain ⟨f1, f2, rfl, h1, h2⟩ := hf
 have key : ∀ {rs : List (List IV)} {xs : List Dat} {f2 : List Nat}, (all2 (dat t) rs xs).P h f2 → All3 (Ro h t) rs xs f2 := by
  intro rs
  induction rs with
  | nil => intro xs f2 h2; cases xs with
   | nil => rw [h2.1]; exact .nil
   | cons x xs => exact h2.2.elim
  | cons r rs ih => intro xs f2 h2; cases xs with
   | nil => exact h2.2.elim
   | cons x xs =>
    obtain ⟨g1, g2, rfl, k1, k2⟩ := h2
    exact .cons k1 (ih k2)
 refine ⟨f1 ++ f2, ⟨v, xs, rfl, rfl, ?_⟩, List.Sublist.refl _⟩
 rcases h1 with ⟨rfl, rfl, hv⟩ | ⟨l, h0, rfl, rfl, h3, h4⟩
 ·have : xs = [] := List.length_eq_zero_iff.1 hl.symm
  subst this
  have h2' : f2 = [] := h2.1
  exact .inl ⟨rfl, by rw [h2']; rfl, hv⟩
 ·have h0 : rs ≠ [] := by simpa using h0
  refine .inr ⟨l, rs, f2, ?_, by rw [hl], h3, h4, rfl, key h2⟩
  intro e; subst e; exact h0 (List.length_eq_zero_iff.1 hl)
theorem Sp.unslD (hs : Sp h (dat (.slice el t) [v] (.list ds) :: L)) : ∃ rs, Sp h (sl false el t.sz v rs :: all2 (dat t) rs ds :: L) := by
 have key : ∀ {rs : List (List IV)} {xs : List Dat} {f2 : List Nat}, All3 (Ro h t) rs xs f2 → (all2 (dat t) rs xs).P h f2 := by
  intro rs xs f2 h2
  induction h2 with
  | nil => exact ⟨rfl, trivial⟩
  | cons h1 _ ih => exact ⟨_, _, rfl, h1, ih⟩
 obtain ⟨fs, ⟨f, g, rfl, hr, hl⟩, hd⟩ := hs
 obtain ⟨v1, ds1, e1, e2, hc⟩ := hr
 obtain rfl := (List.cons.inj e1).1
 simp only [Dat.list.injEq] at e2
 subst e2
 rcases hc with ⟨rfl, rfl, hv⟩ | ⟨l, rs, gs, h0, rfl, h3, h4, rfl, h5⟩
 ·exact ⟨[], g, ⟨[], g, rfl, .inl ⟨rfl, rfl, hv⟩, [], g, rfl, ⟨rfl, trivial⟩, hl⟩, hd⟩
 ·have hne : rs ≠ [] := by
   intro e; subst e
   exact h0 (List.length_eq_zero_iff.1 h5.len.symm)
  exact ⟨rs, l :: gs ++ g, ⟨[l], gs ++ g, rfl, .inr ⟨l, .inr hne, by rw [h5.len], rfl, h3, h4⟩, gs, g, rfl, key h5, hl⟩, hd⟩
theorem Sp.dapp {K : HoldK} (hs : Sp h (dat (.slice el t) [v] (.list ds) :: dat t cs d :: L)) (hb : (ds.length + 1) * b ≤ 140737488355328)
  (hk : ∀ v' h', Sp h' (dat (.slice el t) [v'] (.list (ds ++ [d])) :: L) → v'.one = true → v'.cells = [v'] → K.k v' h') : @appA h el t.sz b v (some [cs]) K := by
 obtain ⟨rs, hs⟩ := hs.unslD
 have hl := hs.p1.a2len
 refine hs.app (y := false) (by simp) (by simpa [hl] using hb) fun v' h' S h1 h2 => hk v' h' (Sp.slD (rs := rs ++ [cs]) ?_) h1 h2
 exact (Sp.a2join (S.p2.a2one).p2).p1
end
end Go.IW

namespace Go.IW
open Go Go.RowKit

theorem one_as {v : IV} (h : v.one = true) : v.one = true := h
theorem lay_p {z cs : List IV} {off n : Nat} {r : List (Nat × Nat × IV)} (h1 : cs.length = n) (h2 : off + n ≤ z.length) : lay z ((off, n, .agg cs) :: r) = lay (z.take off ++ cs ++ z.drop (off + n)) r := by
 have hc : (IV.agg cs).cells = cs := rfl
 rw [lay, hc, if_pos ⟨h1, h2⟩]
section
variable {P : Program} {h : IH} {L : List As} {e : Env} {el sz : Nat}
theorem Sp.zero {cs : List IV} {K : IV → IH → Prop} (S : Sp h L) (hk : ∀ p g, Sp g (box p (.rows [cs] el sz false) :: L) → Ext h g → g.n = h.n + 1 → K (.ptr p 0 0) g) : act P h e K (.zero el sz cs) :=
 hk h.n _ (S.push rfl) (Ext.pushed rfl) rfl
theorem Sp.bxA {cs : List IV} {K : HoldK} (S : Sp h L) (h0 : cs.length = sz) (h1 : cs.all IV.one = true) (hk : ∀ p g, Sp g (box p (.rows [cs] el sz false) :: L) → Ext h g → g.n = h.n + 1 → K.k (.ptr p 0 0) g) : @boxA cs el sz h K :=
 ⟨h0, h1, hk h.n _ (S.push rfl) (Ext.pushed rfl) rfl⟩
theorem Sp.bsl1 {z : List IV} {v : IV} {K : HoldK} (S : Sp h L) (h0 : v.cells.length = sz) (h1 : v.cells.all IV.one = true) (hk : ∀ p g, Sp g (box p (.rows [v.cells] el sz false) :: L) → Ext h g → g.n = h.n + 1 → K.k (.slice p 0 1) g) : @bslA el sz z 1 [(0, v)] h K := by
 rw [bslA_1]
 exact ⟨h0, h1, hk h.n _ (S.push rfl) (Ext.pushed rfl) rfl⟩
theorem Sp.bsln {z : List IV} {len : Nat} {ps : List (Nat × IV)} {rows : List (List IV)} {K : HoldK} (S : Sp h L) (hl : len ≠ 0) (hr : layR (List.replicate len z) sz ps = some rows) (h1 : ∀ r ∈ rows, ∀ v ∈ r, v.one = true)
  (hk : ∀ p g, Sp g (box p (.rows rows el sz false) :: L) → Ext h g → g.n = h.n + 1 → K.k (.slice p 0 len) g) : @bslA el sz z len ps h K :=
 bslA_of hl hr h1 (hk h.n _ (S.push rfl) (Ext.pushed rfl) rfl)
theorem Sp.mks {z : List IV} {b : Nat} {k j : IntKind} {n : Nat} {K : HoldK} (S : Sp h L) (hb : b * n ≤ 140737488355328) (h63 : n ≤ 9223372036854775807) (hk : ∀ v g, Sp g (sl false el sz v (List.replicate n z) :: L) → Ext h g → v.one = true → K.k v g) : @mksA el sz b z (.int k n) (.int j n) h K := by
  by_cases h0 : n = 0
  · subst h0
    exact mksA_0 (hk _ _ S.slEmpty (Ext.refl _) rfl)
  · exact mksA_of h0 hb h63 (hk _ _ (by
      have := (S.push (o := .rows (List.replicate n z) el sz false) rfl).boxSl (x := false) (n := n) (by simp) (.inr (by intro e; have := congrArg List.length e; simp at this; omega))
      exact this) (Ext.pushed rfl) rfl)
theorem st1_of {p k : Nat} {row : List IV} {c : IV} {K : HoldK} (hk : k < row.length) (hc : c.one = true) (hK : ∀ g, h.set p (.rows [row.set k c] el sz false) = g → K.k (.tuple []) g) : @stO 1 0 k [c] p (.rows [row] el sz false) h K :=
 stO_box hk hc (hK _ rfl)
theorem stw_of {p n : Nat} {row cs : List IV} {K : HoldK} (h0 : cs.length = n) (h1 : row.length = n) (h2 : cs.all IV.one = true) (hK : ∀ g, h.set p (.rows [cs] el sz false) = g → K.k (.tuple []) g) : @stO n 0 0 cs p (.rows [row] el sz false) h K := by
 rw [stO_ws h0 h1 h2]
 exact hK _ rfl
theorem stp_of {p n k : Nat} {row cs : List IV} {K : HoldK} (h0 : cs.length = n) (h1 : k + n ≤ row.length) (h2 : cs.all IV.one = true) (hK : ∀ g, h.set p (.rows [row.take k ++ cs ++ row.drop (k + n)] el sz false) = g → K.k (.tuple []) g) : @stO n 0 k cs p (.rows [row] el sz false) h K := by
 rw [stO_part h0 h1 h2]
 exact hK _ rfl
theorem str_of {p i n : Nat} {rs : List (List IV)} {row cs : List IV} {K : HoldK} (hr : rs[i]? = some row) (h0 : cs.length = n) (h1 : row.length = n) (h2 : cs.all IV.one = true) (hK : ∀ g, h.set p (.rows (rs.set i cs) el sz false) = g → K.k (.tuple []) g) : @stO n i 0 cs p (.rows rs el sz false) h K := by
 rw [stO_rw hr h0 h1 h2]
 exact hK _ rfl
theorem stc_of {p i k : Nat} {rs : List (List IV)} {row : List IV} {c : IV} {K : HoldK} (hr : rs[i]? = some row) (hk : k < row.length) (hc : c.one = true) (hK : ∀ g, h.set p (.rows (rs.set i (row.set k c)) el sz false) = g → K.k (.tuple []) g) : @stO 1 i k [c] p (.rows rs el sz false) h K := by
 rw [stO_row hr hk hc]
 exact hK _ rfl
theorem Sp.app1 {x y : Bool} {b p : Nat} {v : IV} {rs : List (List IV)} {cs : List IV} {K : HoldK} (S : Sp h (box p (.rows [cs] el sz false) :: sl x el sz v rs :: L)) (hb : (rs.length + 1) * b ≤ 140737488355328)
  (hk : ∀ v' h', Sp h' (sl y el sz v' (rs ++ [cs]) :: L) → v'.one = true → K.k v' h') : @appA h el sz b v (some [cs]) K :=
 S.drop.app (by simp) (by simpa using hb) fun v' h' S' h1 _ => hk v' h' S' h1
end
end Go.IW

namespace Go.IW
open Go Go.RowKit

abbrev V1 := { v : Value // v.oneCell' = true }
instance : Inhabited V1 := ⟨⟨.pointer none, rfl⟩⟩
def V1.enc (x : V1) : Value := x.1
end Go.IW

namespace Go.IW
open Go Go.RowKit

def Shr (g g' : IH) : Prop := ∃ l rs e sz k, g.obj l = .rows rs e sz false ∧ g' = g.set l (.rows (rs.take k) e sz false)
theorem WRel.shr {ρ : List RLoc} {B : Nat} {w : World} {g g' : IH} (hw : WRel ρ B w g) (hs : Shr g g') : WRel ρ B w g' := by
 obtain ⟨l, rs, e, sz, k, ho, rfl⟩ := hs
 cases hr : ρ[l]? with
 | none =>
  refine ⟨hw.len, hw.base, ?_, ?_⟩
  ·intro l' r' hr'
   have hne : l' ≠ l := fun e => by rw [e, hr] at hr'; cases hr'
   simp only [IH.set, if_neg hne]
   exact hw.obj l' r' hr'
  ·intro l1 l2 r1 r2 h1 h2 hne
   have hn1 : l1 ≠ l := fun e => by rw [e, hr] at h1; cases h1
   have hn2 : l2 ≠ l := fun e => by rw [e, hr] at h2; cases h2
   simp only [IH.set, if_neg hn1, if_neg hn2]
   exact hw.excl l1 l2 r1 r2 h1 h2 hne
 | some r =>
  have h1 := hw.obj l r hr
  rw [ho] at h1
  obtain ⟨c, t, fz, hg, hrel⟩ := h1
  refine hw.set hr (by rw [ho]; rfl) (fun _ _ => rfl) (Nat.le_refl _) ⟨c, t, fz, hg, hrel.hsz, hrel.size, Nat.le_trans (by rw [List.length_take]; omega) hrel.len, fun row hrow => hrel.each row (List.mem_of_mem_take hrow), fun row hrow => hrel.one row (List.mem_of_mem_take hrow), fun i row hi => ?_, hrel.own⟩
  rw [List.getElem?_take] at hi
  split at hi
  ·exact hrel.cells i row hi
  ·cases hi
theorem ICalls.shr {P : Program} {f : Nat} {args : List IV} {h : IH} {Q Q' : IV → IH → Prop} (hc : ICalls P f args h Q) (hq : ∀ r g, Q r g → ∃ g', (g' = g ∨ Shr g g') ∧ Q' r g') : ICalls P f args h Q' :=
 fun ρ B w args' hg hw hl => (hc ρ B w args' hg hw hl).mono fun v w' ⟨ρ', x, g, h1, h2, h3, h4, h5⟩ => by
  obtain ⟨g', hs, hq'⟩ := hq _ _ h5
  refine ⟨ρ', x, g', h1, ?_, h3, h4, hq'⟩
  rcases hs with rfl | hs
  ·exact h2
  ·exact h2.shr hs
def clrA (sz : Nat) (z : List IV) (x : IV) (h : IH) [K : HoldK] : Prop := match ilen x with
 | some n => copyK h sz x (List.replicate n z) fun _ h' => K.k (.tuple []) h'
 | none => False
@[go_sem ↓] theorem act_clr {P : Program} (sz : Nat) (z : List IV) (x : CX) (e : Env) (h : IH) (K : IV → IH → Prop) : act P h e K (.ux (.clr sz z) [x]) = @clrA sz z (x.ev e) h ⟨K⟩ := by rfl
theorem clrA_of {sz l i n e : Nat} {z : List IV} {rs : List (List IV)} {h : IH} {K : HoldK} (ho : h.obj l = .rows rs e sz false) (hn : i + n = rs.length)
  (h0 : n = 0 → K.k (.tuple []) h) (hk : n ≠ 0 → K.k (.tuple []) (h.set l (.rows (rs.take i ++ List.replicate n z) e sz false))) : @clrA sz z (.slice l i n) h K := by
 unfold clrA
 simp only [ilen]
 unfold copyK
 simp only [List.length_replicate, Nat.min_self]
 by_cases hz : n = 0
 ·rw [if_pos hz]; exact h0 hz
 ·rw [if_neg hz]
  simp only [ho]
  refine ⟨trivial, by omega, ?_⟩
  have e1 : (List.replicate n z).take n = List.replicate n z := List.take_of_length_le (by simp)
  have e2 : rs.drop (i + n) = [] := List.drop_eq_nil_of_le (by omega)
  rw [e1, e2, List.append_nil]
  exact hk hz
end Go.IW

namespace Go.IW
open Go Go.RowKit

theorem Ow.app {lo hi lo2 hi2 lo' : Nat} {h : IH} {el b : Nat} {t : Ty} {v : IV} {cs : List IV} {ds : List Dat} {d : Dat} {K : HoldK}
  (ho : Ow lo hi h (.slice el t) [v] (.list ds)) (hx : Ow lo2 hi2 h t cs d) (hd : hi ≤ lo2 ∨ hi2 ≤ lo) (h1 : lo' ≤ lo) (h2 : lo' ≤ lo2) (h3 : lo' ≤ h.n) (hb : (ds.length + 1) * b ≤ 140737488355328)
  (hk : ∀ v' h', Ow lo' h'.n h' (.slice el t) [v'] (.list (ds ++ [d])) → Trn lo hi h h' → h'.n = h.n + 1 → v'.one = true → v'.cells = [v'] → K.k v' h') : @appA h el t.sz b v (some [cs]) K := by
 obtain ⟨⟨fs, hr, hnd, hin⟩, hhi⟩ := ho
 obtain ⟨⟨f2, hr2, hnd2, hin2⟩, hhi2⟩ := hx
 obtain ⟨v1, ds1, e1, e2, hcase⟩ := hr
 obtain rfl := (List.cons.inj e1).1
 simp only [Dat.list.injEq] at e2
 subst e2
 rcases hcase with ⟨rfl, rfl, rfl | rfl⟩ | ⟨l, rs, gs, h0, rfl, hl, hob, rfl, hall⟩
 ·refine appA_new (by simp) (by simpa using hb) (hk _ _ ?_ (Trn.of_ext ((Ext.refl _).push _)) rfl rfl rfl)
  refine ⟨⟨h.n :: f2, ⟨_, _, rfl, rfl, .inr ⟨h.n, [cs], f2, by simp, rfl, by rw [push_n]; omega, push_new _ _, rfl, All3.one (hr2.same (by rw [push_n]; omega) fun x hx => push_old _ _ _ (hr2.lt x hx))⟩⟩, ?_, ?_⟩, Nat.le_refl _⟩
  ·exact List.nodup_cons.2 ⟨fun hm => by have := hr2.lt _ hm; omega, hnd2⟩
  ·intro x hx
   rw [push_n]
   rcases List.mem_cons.1 hx with rfl | hx
   ·omega
   ·have := hin2 x hx; have := hr2.lt x hx; omega
 ·refine appA_newe (by simp) (by simpa using hb) (hk _ _ ?_ (Trn.of_ext ((Ext.refl _).push _)) rfl rfl rfl)
  refine ⟨⟨h.n :: f2, ⟨_, _, rfl, rfl, .inr ⟨h.n, [cs], f2, by simp, rfl, by rw [push_n]; omega, push_new _ _, rfl, All3.one (hr2.same (by rw [push_n]; omega) fun x hx => push_old _ _ _ (hr2.lt x hx))⟩⟩, ?_, ?_⟩, Nat.le_refl _⟩
  ·exact List.nodup_cons.2 ⟨fun hm => by have := hr2.lt _ hm; omega, hnd2⟩
  ·intro x hx
   rw [push_n]
   rcases List.mem_cons.1 hx with rfl | hx
   ·omega
   ·have := hin2 x hx; have := hr2.lt x hx; omega
 ·have hrl := hall.len
  have hnl : ds.length = rs.length := hrl.symm
  rw [hnl]
  rw [List.nodup_cons] at hnd
  have hlin := hin l List.mem_cons_self
  have hgn : ∀ x ∈ gs, x < h.n := by
   intro x hx
   have := hin x (List.mem_cons_of_mem _ hx)
   omega
  have hold : ∀ o : IObj, ∀ x, x < h.n → x ≠ l → ((h.set l .dead).push o).obj x = h.obj x := fun o x hx hne => by
   rw [push_old _ _ _ (by rw [set_n]; exact hx), set_there _ _ _ _ hne]
  refine appA_own hob rfl (by simp) (by simp; rw [← hnl]; exact hb) (hk _ _ ?_ ?_ rfl rfl rfl)
  ·refine ⟨⟨h.n :: (gs ++ f2), ⟨_, _, rfl, rfl, .inr ⟨h.n, rs ++ [cs], gs ++ f2, by simp, by simp [hnl], by rw [push_n, set_n]; omega, push_new _ _, rfl, ?_⟩⟩, ?_, ?_⟩, Nat.le_refl _⟩
   ·refine All3.app (hall.mono fun a c f hf x => x.same (by rw [push_n, set_n]; omega) fun y hy => hold _ y (hgn y (hf y hy)) (fun e => hnd.1 (e ▸ hf y hy))) (All3.one (hr2.same (by rw [push_n, set_n]; omega) fun x hx => hold _ x (hr2.lt x hx) (fun e => by have := hin2 x hx; omega)))
   ·refine List.nodup_cons.2 ⟨fun hm => ?_, List.nodup_append.2 ⟨hnd.2, hnd2, fun x hx y hy e => ?_⟩⟩
    ·rcases List.mem_append.1 hm with hm | hm
     ·have := hgn _ hm; omega
     ·have := hr2.lt _ hm; omega
    ·subst e
     have := hin x (List.mem_cons_of_mem _ hx)
     have := hin2 x hy
     omega
   ·intro x hx
    rw [push_n, set_n]
    rcases List.mem_cons.1 hx with rfl | hx
    ·omega
    ·rcases List.mem_append.1 hx with hx | hx
     ·have := hin x (List.mem_cons_of_mem _ hx); have := hgn x hx; omega
     ·have := hin2 x hx; have := hr2.lt x hx; omega
  ·exact ⟨by rw [push_n, set_n]; omega, fun x hx hv => hold _ x hx (fun e => hv (by rw [e]; exact hlin))⟩
end Go.IW

namespace Go.IW
open Go Go.RowKit

def calmO (bar : List Bool) (anc : List (List Nat)) : List Nat → List Nat → Bool
 | _, [] => true
 | done, i :: r => (!bar.getD i true || done.all fun j => (anc.getD i []).contains j) && calmO bar anc (i :: done) r
def CC.calm : CC → CC
 | .dreg ops b a o => if calmO b a [] o = true then .reg (o.map fun i => ops.getD i default) else .dreg ops b a o
 | .seq a b => .seq a.calm b.calm
 | .cond c a b => .cond c a.calm b.calm
 | .block i a => .block i a.calm
 | .loop a => .loop a.calm
 | .skip => .skip
 | .reg ops => .reg ops
 | .treg ops a t => .treg ops a t
 | .exit i => .exit i
 | .ret => .ret
variable {P : Program}
theorem againAll_calm {ops : List COp} {anc : List (List Nat)} {i : Nat} {e : Env} {h : IH} : ∀ {done : List Nat}, (done.all fun j => (anc.getD i []).contains j) = true → againAll ops anc i e h done
 | [], _ => trivial
 | j :: r, hd => by
  simp only [List.all_cons, Bool.and_eq_true] at hd
  exact ⟨.inl hd.1, againAll_calm hd.2⟩
theorem vcD_calm {ops : List COp} {bar : List Bool} {anc : List (List Nat)} {K : Env → IH → Prop} : ∀ {o done : List Nat} {e : Env} {h : IH}, calmO bar anc done o = true → vcOps P (o.map fun i => ops.getD i default) K e h → vcD P ops bar anc done o K e h
 | [], _, _, _, _, hv => hv
 | i :: r, done, e, h, hc, hv => by
  simp only [calmO, Bool.and_eq_true] at hc
  have hv' : vcOp P (ops.getD i default) (vcOps P (r.map fun i => ops.getD i default) K) e h := hv
  unfold vcD
  split
  ·rename_i hb
   rw [hb] at hc
   refine vcOp_mono (fun e' h' hk => ⟨againAll_calm (by simpa using hc.1), vcD_calm hc.2 hk⟩) hv'
  ·exact vcOp_mono (fun e' h' hk => vcD_calm hc.2 hk) hv'
theorem vc_calm : ∀ {c : CC} {K : EPost} {e : Env} {h : IH}, vc P c.calm K e h → vc P c K e h
 | .skip, _, _, _, hv => hv
 | .reg _, _, _, _, hv => hv
 | .dreg ops b a o, K, e, h, hv => by
  unfold CC.calm at hv
  split at hv
  ·rename_i hc; exact vcD_calm hc hv
  ·exact hv
 | .treg _ _ _, _, _, _, hv => hv
 | .seq a b, K, e, h, hv => by
  have h1 : vc P a (seqK (vc P b.calm K) K) e h := vc_calm (c := a) hv
  exact vc_mono (c := a) (fun x e h hk => by
   cases x
   ·exact vc_calm (c := b) hk
   all_goals exact hk) h1
 | .cond c a b, K, e, h, hv => by
  unfold CC.calm vc vcCond at hv
  unfold vc vcCond
  split at hv
  ·exact ⟨fun hb => vc_calm (hv.1 hb), fun hb => vc_calm (hv.2 hb)⟩
  ·exact hv.elim
 | .block i a, K, e, h, hv => vc_calm (c := a) hv
 | .loop a, K, e, h, ⟨I, h0, hr⟩ => ⟨I, h0, fun n e h hi => vc_calm (c := a) (hr n e h hi)⟩
 | .exit _, _, _, _, hv => hv
 | .ret, _, _, _, hv => hv
def fnCalm (P : Program) (f : Nat) : Option (Nat × CC × List FK) := (fnComp P f).map fun x => (x.1, x.2.1.calm, x.2.2)
structure FnC (P : Program) (f N : Nat) (d : CC) (rs : List FK) : Prop where
 ok : ∃ cc, FnOk P f N cc rs ∧ cc.calm = d
theorem FnC.of {f N : Nat} {d : CC} {rs : List FK} (hc : fnCalm P f = some (N, d, rs)) : FnC P f N d rs := by
 unfold fnCalm at hc
 rw [Option.map_eq_some_iff] at hc
 obtain ⟨⟨N', cc, rs'⟩, h1, h2⟩ := hc
 simp only [Prod.mk.injEq] at h2
 obtain ⟨rfl, h3, rfl⟩ := h2
 exact ⟨cc, .of h1, h3⟩
theorem icallsC {f N : Nat} {d : CC} {rs : List FK} {h : IH} (hf : FnC P f N d rs) {args : List IV} {Q : IV → IH → Prop} (hN : args.length ≤ N) (hv : vc P d (retK rs Q) (env0 args) h) : ICalls P f args h Q := by
 obtain ⟨cc, h1, rfl⟩ := hf.ok
 exact icalls h1 hN (vc_calm hv)
theorem FnC.enter {f N : Nat} {d : CC} {rs : List FK} (hf : FnC P f N d rs) (args : Array Value) (w : World) : (callFunc f args).run P w = .ok (.enter f args) w := by
 obtain ⟨cc, h1, _⟩ := hf.ok
 exact h1.enter args w
end Go.IW
