import Derived.WalkKit
import Derived.Below
import Derived.Laws.IdiomStrings
import Derived.Laws.StructEq
import Derived.ChangeKeysEq
import Derived.Laws.Strings2
import Derived.Laws.MakeOwn
import Derived.Lib.ItoaNum
import Derived.Lib.LaidTab
import Derived.Orders
import Derived.Lib.UnsafeStr
import Derived.Lib.Builder
set_option linter.unusedSimpArgs false
set_option linter.unusedVariables false
namespace Go.IW
theorem dA {p : Prop} (h : p := by (first | omega | assumption | (simp only [lc0, ln0, la0]; first | done | omega) | (simp (disch := assumption) only [go_sem, one_as, Nat.reduceBEq]; done) | fail)) : p := h
theorem dB {p : Prop} (h : p := by (first | omega | assumption | (simp only [push_n, set_n, put_n, lc0, ln0, la0, Nat.reduceAdd]; done) | (simp only [push_n, set_n, put_n, lc0, ln0, la0]; omega) | (simp only [List.all_cons, List.all_nil, one_bool, one_int, one_str, one_ptr, one_nilptr, one_slice, one_eslice, one_nilslice, one_func, one_iface, one_niliface, Bool.and_true, Bool.true_and, List.getD_cons_zero, List.getD_cons_succ, List.contains_cons, List.contains_nil, Bool.or_true, Bool.true_or, Bool.or_false, Bool.false_or, Nat.reduceBEq, *]; done) | fail)) : p := h
theorem lc0.{u} {α : Type u} {a : α} {as0 : List α} : (a :: as0).length = as0.length + 1 := rfl
theorem ln0.{u} {α : Type u} : ([] : List α).length = 0 := rfl
theorem la0.{u} {α : Type u} {as0 bs : List α} : (as0 ++ bs).length = as0.length + bs.length := List.length_append
theorem mc0.{u, v} {α : Type u} {β : Type v} {f : α → β} {a : α} {l : List α} : (a :: l).map f = f a :: l.map f := rfl
theorem mn0.{u, v} {α : Type u} {β : Type v} {f : α → β} : ([] : List α).map f = [] := rfl
theorem ds0.{u} {α : Type u} {a : α} {l : List α} {i : Nat} : (a :: l).drop (i + 1) = l.drop i := rfl
theorem dz0.{u} {α : Type u} {l : List α} : l.drop 0 = l := rfl
theorem ca0.{u} {α : Type u} {a : α} {as0 bs : List α} : (a :: as0) ++ bs = a :: (as0 ++ bs) := rfl
theorem na0.{u} {α : Type u} (as0 : List α) : [] ++ as0 = as0 := rfl
theorem sz0.{u} {α : Type u} {x a : α} {xs : List α} : (x :: xs).set 0 a = a :: xs := rfl
theorem ss0.{u} {α : Type u} {x a : α} {xs : List α} {n : Nat} : (x :: xs).set (n + 1) a = x :: xs.set n a := rfl
theorem ts0.{u} {α : Type u} {a : α} {as0 : List α} {i : Nat} : (a :: as0).take (i + 1) = a :: as0.take i := rfl
theorem tz0.{u} {α : Type u} {l : List α} : l.take 0 = [] := rfl
open Go.RowKit

inductive IV where
 | bool (b : Bool)
 | int (k : IntKind) (n : Int)
 | str (s : List UInt8)
 | nilptr
 | ptr (l i k : Nat)
 | nilslice
 | eslice (z : Bool)
 | slice (l i n : Nat)
 | nilmap
 | map (l : Nat)
 | nilfunc
 | func (f : Nat) (first caps : List IV)
 | niliface
 | iface (t : Nat) (v : IV)
 | agg (cs : List IV)
 | tuple (vs : List IV)
 deriving Inhabited

def IV.one : IV → Bool
 | .agg _ | .tuple _ => false
 | _ => true

structure RLoc where
 block : Nat
 base : Nat
 sz : Nat
 cap : Nat

inductive VRel (ρ : List RLoc) : Value → IV → Prop where
 | bool (b : Bool) : VRel ρ (.bool b) (.bool b)
 | int (k : IntKind) (n : Int) : VRel ρ (.int k n) (.int k n)
 | str (s : ByteArray) : VRel ρ (.string s) (.str s.data.toList)
 | nilptr : VRel ρ (.pointer none) .nilptr
 | ptr {l i k : Nat} {r : RLoc} (h : ρ[l]? = some r) : VRel ρ (.pointer (some ⟨r.block, r.base + i * r.sz + k, none⟩)) (.ptr l i k)
 | nilslice : VRel ρ (.slice none 0 0) .nilslice
 | eslice {a : Addr} {c : Nat} {z : Bool} (h : z = true → c = 0) (hc : c ≤ maxLen) : VRel ρ (.slice (some a) 0 c) (.eslice z)
 | slice {l i n c : Nat} {r : RLoc} (h : ρ[l]? = some r) (hn : n ≤ c) (hc : i + c ≤ r.cap) (hm : c ≤ maxLen) :
   VRel ρ (.slice (some ⟨r.block, r.base + i * r.sz, none⟩) n c) (.slice l i n)
 | nilmap : VRel ρ (.map none) .nilmap
 | map {l : Nat} {r : RLoc} (h : ρ[l]? = some r) : VRel ρ (.map (some r.block)) (.map l)
 | nilfunc : VRel ρ .nilFunc .nilfunc
 | func (f : Nat) {as0 cs : Array Value} {as0' cs' : List IV} (ha : as0.size = as0'.length) (hc : cs.size = cs'.length)
   (h1 : ∀ (i : Nat) v v', as0[i]? = some v → as0'[i]? = some v' → VRel ρ v v') (h2 : ∀ (i : Nat) v v', cs[i]? = some v → cs'[i]? = some v' → VRel ρ v v') :
   VRel ρ (.func (.func f) as0 cs) (.func f as0' cs')
 | niliface : VRel ρ .nilIface .niliface
 | iface (t : Nat) {v : Value} {v' : IV} (h : VRel ρ v v') : VRel ρ (.iface t v) (.iface t v')
 | agg {cs : Array Value} {cs' : List IV} (hl : cs.size = cs'.length) (h : ∀ (i : Nat) v v', cs[i]? = some v → cs'[i]? = some v' → VRel ρ v v') : VRel ρ (.agg cs) (.agg cs')
 | tuple {cs : Array Value} {cs' : List IV} (hl : cs.size = cs'.length) (h : ∀ (i : Nat) v v', cs[i]? = some v → cs'[i]? = some v' → VRel ρ v v') : VRel ρ (.tuple cs) (.tuple cs')

def LRel (ρ : List RLoc) (cs : List Value) (cs' : List IV) : Prop :=
 cs.length = cs'.length ∧ ∀ (i : Nat) v v', cs[i]? = some v → cs'[i]? = some v' → VRel ρ v v'

theorem prefix_get {α : Type} {a b : List α} (h : a <+: b) {i : Nat} {x : α} (hx : a[i]? = some x) : b[i]? = some x := by
 obtain ⟨s, rfl⟩ := h
 have hi : i < a.length := (List.getElem?_eq_some_iff.1 hx).1
 rw [List.getElem?_append_left hi]; exact hx

theorem VRel.mono {ρ ρ' : List RLoc} (hp : ρ <+: ρ') {v : Value} {v' : IV} (h : VRel ρ v v') : VRel ρ' v v' := by
 induction h with
 | bool b => exact .bool b
 | int k n => exact .int k n
 | str s => exact .str s
 | nilptr => exact .nilptr
 | ptr h => exact .ptr (prefix_get hp h)
 | nilslice => exact .nilslice
 | eslice h hc => exact .eslice h hc
 | slice h hn hc hm => exact .slice (prefix_get hp h) hn hc hm
 | nilmap => exact .nilmap
 | map h => exact .map (prefix_get hp h)
 | nilfunc => exact .nilfunc
 | func f ha hc _ _ i1 i2 => exact .func f ha hc i1 i2
 | niliface => exact .niliface
 | iface t _ ih => exact .iface t ih
 | agg hl _ ih => exact .agg hl ih
 | tuple hl _ ih => exact .tuple hl ih

theorem LRel.mono {ρ ρ' : List RLoc} (hp : ρ <+: ρ') {v : List Value} {v' : List IV} (h : LRel ρ v v') : LRel ρ' v v' :=
 ⟨h.1, fun i a b x y => (h.2 i a b x y).mono hp⟩

theorem LRel.nil (ρ : List RLoc) : LRel ρ [] [] := ⟨rfl, fun i a b h => by simp at h⟩
theorem LRel.cons {ρ : List RLoc} {v : Value} {v' : IV} {l : List Value} {l' : List IV} (h : VRel ρ v v') (hl : LRel ρ l l') : LRel ρ (v :: l) (v' :: l') := by
 refine ⟨by simp [hl.1], fun i a b x y => ?_⟩
 cases i with
 | zero => simp at x y; subst x; subst y; exact h
 | succ i => simp at x y; exact hl.2 i a b x y
theorem LRel.head {ρ : List RLoc} {v : Value} {v' : IV} {l : List Value} {l' : List IV} (h : LRel ρ (v :: l) (v' :: l')) : VRel ρ v v' := h.2 0 v v' rfl rfl
theorem LRel.tail {ρ : List RLoc} {v : Value} {v' : IV} {l : List Value} {l' : List IV} (h : LRel ρ (v :: l) (v' :: l')) : LRel ρ l l' :=
 ⟨by have := h.1; simpa using this, fun i a b x y => h.2 (i + 1) a b x y⟩
theorem LRel.append {ρ : List RLoc} {l m : List Value} {l' m' : List IV} (h : LRel ρ l l') (k : LRel ρ m m') : LRel ρ (l ++ m) (l' ++ m') := by
 refine ⟨by simp [h.1, k.1], fun i a b x y => ?_⟩
 rcases Nat.lt_or_ge i l.length with hi | hi
 ·rw [List.getElem?_append_left hi] at x
  rw [List.getElem?_append_left (by rw [← h.1]; exact hi)] at y
  exact h.2 i a b x y
 ·rw [List.getElem?_append_right hi] at x
  rw [List.getElem?_append_right (by rw [← h.1]; exact hi), ← h.1] at y
  exact k.2 _ a b x y
theorem LRel.of_get {ρ : List RLoc} {l : List Value} {l' : List IV} (h : LRel ρ l l') {i : Nat} {v : Value} (hv : l[i]? = some v) : ∃ v', l'[i]? = some v' ∧ VRel ρ v v' := by
 have hi : i < l.length := (List.getElem?_eq_some_iff.1 hv).1
 have hi' : i < l'.length := by have := h.1; omega
 exact ⟨l'[i], List.getElem?_eq_getElem hi', h.2 i v _ hv (List.getElem?_eq_getElem hi')⟩
theorem LRel.of_get' {ρ : List RLoc} {l : List Value} {l' : List IV} (h : LRel ρ l l') {i : Nat} {v' : IV} (hv : l'[i]? = some v') : ∃ v, l[i]? = some v ∧ VRel ρ v v' := by
 have hi' : i < l'.length := (List.getElem?_eq_some_iff.1 hv).1
 have hi : i < l.length := by have := h.1; omega
 exact ⟨l[i], List.getElem?_eq_getElem hi, h.2 i _ v' (List.getElem?_eq_getElem hi) hv⟩
theorem LRel.take {ρ : List RLoc} {l : List Value} {l' : List IV} (h : LRel ρ l l') (n : Nat) : LRel ρ (l.take n) (l'.take n) := by
 refine ⟨by simp [h.1], fun i a b x y => ?_⟩
 rw [List.getElem?_take] at x y
 split at x
 ·rw [if_pos ‹_›] at y; exact h.2 i a b x y
 ·simp at x
theorem LRel.drop {ρ : List RLoc} {l : List Value} {l' : List IV} (h : LRel ρ l l') (n : Nat) : LRel ρ (l.drop n) (l'.drop n) := by
 refine ⟨by simp [h.1], fun i a b x y => ?_⟩
 rw [List.getElem?_drop] at x y
 exact h.2 _ a b x y

inductive IObj where
 | dead
 | rows (rs : List (List IV)) (e sz : Nat) (ro : Bool)
 deriving Inhabited

def IObj.own : IObj → Bool
 | .rows _ _ _ ro => !ro
 | _ => false
def IObj.live : IObj → Bool
 | .dead => false
 | _ => true

def IObj.big : IObj → Bool
 | .rows _ _ sz ro => !ro && sz != 1
 | _ => false
structure IH where
 n : Nat
 obj : Nat → IObj

def IH.push (h : IH) (o : IObj) : IH := ⟨h.n + 1, fun l => if l = h.n then o else h.obj l⟩
def IH.set (h : IH) (l : Nat) (o : IObj) : IH := ⟨h.n, fun l' => if l' = l then o else h.obj l'⟩

def RowAt (ρ : List RLoc) (c : Array Value) (at_ : Nat) (row : List IV) : Prop :=
 ∀ (k : Nat) v', row[k]? = some v' → ∃ v, c[at_ + k]? = some v ∧ VRel ρ v v'

def FzOk (sz n : Nat) (fz : Nat × Nat) : Prop := fz.1 = fz.2 ∨ (sz = 1 ∧ n ≤ fz.1)
theorem FzOk.free {sz n : Nat} {fz : Nat × Nat} (h : FzOk sz n fz) : ∀ j, j < n → ¬ (fz.1 ≤ j ∧ j < fz.2) := by
 intro j hj; rcases h with h | h <;> omega
theorem FzOk.zero (sz n : Nat) : FzOk sz n (0, 0) := .inl rfl

structure RowsRel (ρ : List RLoc) (B : Nat) (r : RLoc) (rs : List (List IV)) (e sz : Nat) (ro : Bool) (c : Array Value) (t : Nat) (fz : Nat × Nat) : Prop where
 hsz : r.sz = sz
 size : r.base + r.cap * sz ≤ c.size
 len : rs.length ≤ r.cap
 each : ∀ row ∈ rs, row.length = sz
 one : ∀ row ∈ rs, ∀ v ∈ row, v.one = true
 cells : ∀ (i : Nat) row, rs[i]? = some row → RowAt ρ c (r.base + i * sz) row
 own : ro = false → r.base = 0 ∧ B ≤ r.block ∧ FzOk sz c.size fz ∧ t = e ∧ r.cap ≤ maxLen ∧ c.size = r.cap * sz

def ORel (ρ : List RLoc) (B : Nat) (w : World) (r : RLoc) : IObj → Prop
 | .dead => True
 | .rows rs e sz ro => ∃ c t fz, w.heap[r.block]? = some (.cells c t fz) ∧ RowsRel ρ B r rs e sz ro c t fz

structure WRel (ρ : List RLoc) (B : Nat) (w : World) (h : IH) : Prop where
 len : ρ.length = h.n
 base : B ≤ w.heap.size
 obj : ∀ l r, ρ[l]? = some r → ORel ρ B w r (h.obj l)
 excl : ∀ l l' r r', ρ[l]? = some r → ρ[l']? = some r' → l ≠ l' → (h.obj l).own = true → (h.obj l').live = true → r.block ≠ r'.block

theorem RowAt.mono {ρ ρ' : List RLoc} (hp : ρ <+: ρ') {c : Array Value} {a : Nat} {row : List IV} (h : RowAt ρ c a row) : RowAt ρ' c a row :=
 fun k v' hk => let ⟨v, hv, hr⟩ := h k v' hk; ⟨v, hv, hr.mono hp⟩

theorem RowsRel.mono {ρ ρ' : List RLoc} {B : Nat} {r : RLoc} {rs : List (List IV)} {e sz : Nat} {ro : Bool} {c : Array Value} {t : Nat} {fz : Nat × Nat}
  (hp : ρ <+: ρ') (h : RowsRel ρ B r rs e sz ro c t fz) : RowsRel ρ' B r rs e sz ro c t fz :=
 ⟨h.hsz, h.size, h.len, h.each, h.one, fun i row hi => (h.cells i row hi).mono hp, h.own⟩

theorem ORel.mono {ρ ρ' : List RLoc} (hp : ρ <+: ρ') {B : Nat} {w : World} {r : RLoc} {o : IObj} (h : ORel ρ B w r o) : ORel ρ' B w r o := by
 cases o with
 | dead => exact trivial
 | rows rs e sz ro => obtain ⟨c, t, fz, hc, hr⟩ := h; exact ⟨c, t, fz, hc, hr.mono hp⟩

theorem ORel.congr {ρ : List RLoc} {B : Nat} {w w' : World} {r : RLoc} {o : IObj} (h : ORel ρ B w r o) (hw : w'.heap[r.block]? = w.heap[r.block]?) : ORel ρ B w' r o := by
 cases o with
 | dead => exact trivial
 | rows rs e sz ro => obtain ⟨c, t, fz, hc, hr⟩ := h; exact ⟨c, t, fz, hw.trans hc, hr⟩

theorem ORel.block_lt {ρ : List RLoc} {B : Nat} {w : World} {r : RLoc} {o : IObj} (h : ORel ρ B w r o) (hl : o.live = true) : r.block < w.heap.size := by
 cases o with
 | dead => simp [IObj.live] at hl
 | rows rs e sz ro => obtain ⟨c, t, fz, hc, _⟩ := h; exact (Array.getElem?_eq_some_iff.1 hc).1

theorem WRel.same {ρ : List RLoc} {B : Nat} {w w' : World} {h : IH} (hw : WRel ρ B w h) (he : w'.heap = w.heap) : WRel ρ B w' h :=
 ⟨hw.len, by rw [he]; exact hw.base, fun l r hr => (hw.obj l r hr).congr (by rw [he]), hw.excl⟩

theorem WRel.lt {ρ : List RLoc} {B : Nat} {w : World} {h : IH} (hw : WRel ρ B w h) {l : Nat} {r : RLoc} (hr : ρ[l]? = some r) : l < h.n := by
 rw [← hw.len]; exact (List.getElem?_eq_some_iff.1 hr).1
theorem WRel.get {ρ : List RLoc} {B : Nat} {w : World} {h : IH} (hw : WRel ρ B w h) {l : Nat} (hl : l < h.n) : ∃ r, ρ[l]? = some r :=
 ⟨ρ[l]'(by rw [hw.len]; exact hl), List.getElem?_eq_getElem _⟩

theorem WRel.push {ρ : List RLoc} {B : Nat} {w w' : World} {h : IH} {o : IObj} {r : RLoc} (hw : WRel ρ B w h)
  (hold : ∀ k, k < w.heap.size → w'.heap[k]? = w.heap[k]?) (hsz : w.heap.size ≤ w'.heap.size) (hb : w.heap.size ≤ r.block)
  (ho : ORel (ρ ++ [r]) B w' r o) : WRel (ρ ++ [r]) B w' (h.push o) := by
 have hp : ρ <+: ρ ++ [r] := List.prefix_append _ _
 have hlen : ρ.length = h.n := hw.len
 refine ⟨by simp [IH.push, hlen], Nat.le_trans hw.base hsz, ?_, ?_⟩
 ·intro l r' hr
  by_cases hl : l = h.n
  ·subst hl
   rw [← hlen, List.getElem?_concat_length] at hr
   obtain rfl := Option.some.inj hr
   simpa [IH.push] using ho
  ·have hlt : l < ρ.length := by have := (List.getElem?_eq_some_iff.1 hr).1; simp at this; omega
   rw [List.getElem?_append_left hlt] at hr
   have h0 := hw.obj l r' hr
   simp only [IH.push, if_neg hl]
   by_cases hlive : (h.obj l).live = true
   ·exact (h0.congr (hold _ (h0.block_lt hlive))).mono hp
   ·cases ho' : h.obj l with
    | dead => exact trivial
    | rows rs e sz ro => rw [ho'] at hlive; simp [IObj.live] at hlive
 ·intro l l' r1 r2 h1 h2 hne hown hlive
  simp only [IH.push] at hown hlive
  by_cases hl : l = h.n
  ·subst hl
   rw [← hlen, List.getElem?_concat_length] at h1
   obtain rfl := Option.some.inj h1
   have hlt : l' < ρ.length := by have := (List.getElem?_eq_some_iff.1 h2).1; simp at this; omega
   rw [List.getElem?_append_left hlt] at h2
   rw [if_neg (fun e => hne e.symm)] at hlive
   have := (hw.obj l' r2 h2).block_lt hlive
   omega
  ·have hlt : l < ρ.length := by have := (List.getElem?_eq_some_iff.1 h1).1; simp at this; omega
   rw [List.getElem?_append_left hlt] at h1
   rw [if_neg hl] at hown
   by_cases hl' : l' = h.n
   ·subst hl'
    rw [← hlen, List.getElem?_concat_length] at h2
    obtain rfl := Option.some.inj h2
    have hlv : (h.obj l).live = true := by cases ho' : h.obj l <;> rw [ho'] at hown <;> simp [IObj.own, IObj.live] at *
    have := (hw.obj l r1 h1).block_lt hlv
    omega
   ·have hlt' : l' < ρ.length := by have := (List.getElem?_eq_some_iff.1 h2).1; simp at this; omega
    rw [List.getElem?_append_left hlt'] at h2
    rw [if_neg hl'] at hlive
    exact hw.excl l l' r1 r2 h1 h2 hne hown hlive

theorem WRel.set {ρ : List RLoc} {B : Nat} {w w' : World} {h : IH} {o : IObj} {l : Nat} {r : RLoc} (hw : WRel ρ B w h)
  (hr : ρ[l]? = some r) (hown : (h.obj l).own = true) (hold : ∀ k, k ≠ r.block → w'.heap[k]? = w.heap[k]?) (hsz : w.heap.size ≤ w'.heap.size)
  (ho : ORel ρ B w' r o) : WRel ρ B w' (h.set l o) := by
 refine ⟨hw.len, Nat.le_trans hw.base hsz, ?_, ?_⟩
 ·intro l' r' hr'
  by_cases hl : l' = l
  ·subst hl; rw [hr] at hr'; obtain rfl := Option.some.inj hr'; simpa [IH.set] using ho
  ·simp only [IH.set, if_neg hl]
   by_cases hlive : (h.obj l').live = true
   ·exact (hw.obj l' r' hr').congr (hold _ (fun e => hw.excl l l' r r' hr hr' (fun e => hl e.symm) hown hlive e.symm))
   ·cases ho' : h.obj l' with
    | dead => exact trivial
    | rows rs e sz ro => rw [ho'] at hlive; simp [IObj.live] at hlive
 ·intro l1 l2 r1 r2 h1 h2 hne ho1 ho2
  simp only [IH.set] at ho1 ho2
  have key : ∀ m rm, ρ[m]? = some rm → m ≠ l → (h.obj m).live = true → r.block ≠ rm.block := fun m rm hm hml hlv => hw.excl l m r rm hr hm (fun e => hml e.symm) hown hlv
  by_cases e1 : l1 = l
  ·subst e1
   rw [hr] at h1; obtain rfl := Option.some.inj h1
   rw [if_neg (fun e => hne e.symm)] at ho2
   exact key l2 r2 h2 (fun e => hne e.symm) ho2
  ·rw [if_neg e1] at ho1
   by_cases e2 : l2 = l
   ·subst e2
    rw [hr] at h2; obtain rfl := Option.some.inj h2
    have hlv : (h.obj l1).live = true := by cases ho' : h.obj l1 <;> rw [ho'] at ho1 <;> simp [IObj.own, IObj.live] at *
    exact fun e => key l1 r1 h1 e1 hlv e.symm
   ·rw [if_neg e2] at ho2
    exact hw.excl l1 l2 r1 r2 h1 h2 hne ho1 ho2

theorem WRel.kill {ρ : List RLoc} {B : Nat} {w : World} {h : IH} (l : Nat) (hw : WRel ρ B w h) : WRel ρ B w (h.set l .dead) := by
 refine ⟨hw.len, hw.base, ?_, ?_⟩
 ·intro l' r' hr'
  by_cases hl : l' = l
  ·simp only [IH.set, if_pos hl]; exact trivial
  ·simp only [IH.set, if_neg hl]; exact hw.obj l' r' hr'
 ·intro l1 l2 r1 r2 h1 h2 hne ho1 ho2
  simp only [IH.set] at ho1 ho2
  split at ho1
  ·simp [IObj.own] at ho1
  ·split at ho2
   ·simp [IObj.live] at ho2
   ·exact hw.excl l1 l2 r1 r2 h1 h2 hne ho1 ho2

theorem WRel.rename {ρ : List RLoc} {B : Nat} {w w' : World} {h : IH} {o : IObj} {l : Nat} {r : RLoc} (hw : WRel ρ B w h)
  (hr : ρ[l]? = some r) (hown : (h.obj l).own = true) (hold : ∀ k, k ≠ r.block → w'.heap[k]? = w.heap[k]?) (hsz : w.heap.size ≤ w'.heap.size)
  (ho : ORel (ρ ++ [r]) B w' r o) : WRel (ρ ++ [r]) B w' ((h.set l .dead).push o) := by
 have hp : ρ <+: ρ ++ [r] := List.prefix_append _ _
 have hlen : ρ.length = h.n := hw.len
 have hln : l ≠ h.n := by have := hw.lt hr; omega
 have key : ∀ m rm, ρ[m]? = some rm → m ≠ l → (h.obj m).live = true → r.block ≠ rm.block := fun m rm hm hml hlv => hw.excl l m r rm hr hm (fun e => hml e.symm) hown hlv
 have obj_of : ∀ m, m ≠ h.n → ((h.set l .dead).push o).obj m = if m = l then .dead else h.obj m := by
  intro m hm
  simp [IH.push, IH.set, hm]
 have obj_new : ((h.set l .dead).push o).obj h.n = o := by simp [IH.push, IH.set]
 have old : ∀ m rm, (ρ ++ [r])[m]? = some rm → m ≠ h.n → ρ[m]? = some rm := by
  intro m rm hm hne
  have hlt : m < ρ.length := by have := (List.getElem?_eq_some_iff.1 hm).1; simp at this; omega
  rwa [List.getElem?_append_left hlt] at hm
 have new : ∀ rm, (ρ ++ [r])[h.n]? = some rm → rm = r := by
  intro rm hm
  rw [← hlen, List.getElem?_concat_length] at hm
  exact (Option.some.inj hm).symm
 refine ⟨by simp [IH.push, IH.set, hlen], Nat.le_trans hw.base hsz, ?_, ?_⟩
 ·intro m rm hm
  by_cases hmn : m = h.n
  ·subst hmn
   rw [obj_new]; obtain rfl := new rm hm; exact ho
  ·rw [obj_of m hmn]
   have hm' := old m rm hm hmn
   split
   ·exact trivial
   ·rename_i hml
    by_cases hlive : (h.obj m).live = true
    ·exact ((hw.obj m rm hm').congr (hold _ (fun e => key m rm hm' hml hlive e.symm))).mono hp
    ·cases ho' : h.obj m with
     | dead => exact trivial
     | rows rs e sz ro => rw [ho'] at hlive; simp [IObj.live] at hlive
 ·intro l1 l2 r1 r2 h1 h2 hne ho1 ho2
  by_cases e1 : l1 = h.n
  ·subst e1
   obtain rfl := new r1 h1
   rw [obj_of l2 (fun e => hne e.symm)] at ho2
   split at ho2
   ·simp [IObj.live] at ho2
   ·exact key l2 r2 (old l2 r2 h2 (fun e => hne e.symm)) ‹_› ho2
  ·rw [obj_of l1 e1] at ho1
   split at ho1
   ·simp [IObj.own] at ho1
   ·rename_i hl1
    have hlv : (h.obj l1).live = true := by cases ho' : h.obj l1 <;> rw [ho'] at ho1 <;> simp [IObj.own, IObj.live] at *
    by_cases e2 : l2 = h.n
    ·subst e2
     obtain rfl := new r2 h2
     exact fun e => key l1 r1 (old l1 r1 h1 e1) hl1 hlv e.symm
    ·rw [obj_of l2 e2] at ho2
     split at ho2
     ·simp [IObj.live] at ho2
     ·exact hw.excl l1 l2 r1 r2 (old l1 r1 h1 e1) (old l2 r2 h2 e2) hne ho1 ho2

end Go.IW

namespace Go.IW
open Go.RowKit

abbrev Env := Nat → IV
def upd (e : Env) (d : Nat) (v : IV) : Env := fun t => if t = d then v else e t
theorem upd_eq (e : Env) (d : Nat) (v : IV) : upd e d v d = v := by simp [upd]
theorem upd_ne (e : Env) {d t : Nat} (v : IV) (h : t ≠ d) : upd e d v t = e t := by simp [upd, h]
def put (e : Env) (d : Option Nat) (v : IV) : Env := match d with | some d => upd e d v | none => e

inductive CX where
 | t (n : Nat)
 | c (v : IV)
 | fn (f : Nat)
 deriving Inhabited
def CX.ev (e : Env) : CX → IV
 | .t n => e n
 | .c v => v
 | .fn f => .func f [] []

structure ARel (ρ : List RLoc) (N : Nat) (a : Act) (e : Env) : Prop where
 size : a.tmps.size = N
 defers : a.defers = []
 val : ∀ t, VRel ρ (a.tmps.getD t undef) (e t)

theorem ARel.mono {ρ ρ' : List RLoc} (hp : ρ <+: ρ') {N : Nat} {a : Act} {e : Env} (h : ARel ρ N a e) : ARel ρ' N a e := ⟨h.size, h.defers, fun t => (h.val t).mono hp⟩
theorem ARel.put {ρ : List RLoc} {N : Nat} {a : Act} {e : Env} (h : ARel ρ N a e) {d : Option Nat} {v : Value} {v' : IV} (hd : ∀ t, d = some t → t < N) (hv : VRel ρ v v') : ARel ρ N (a.put d v) (put e d v') := by
 cases d with
 | none => exact h
 | some d =>
  refine ⟨by simp [Act.put, h.size], h.defers, fun t => ?_⟩
  have hlt : d < a.tmps.size := by rw [h.size]; exact hd d rfl
  simp only [Act.put, IW.put]
  by_cases e1 : t = d
  ·subst e1; simp [upd, hlt]; exact hv
  ·have := h.val t
   simp only [upd, if_neg e1]
   rw [Array.getD_eq_getD_getElem?] at this ⊢
   rw [Array.getElem?_setIfInBounds_ne (fun x => e1 x.symm)]
   exact this

def cv1 : Value → Option IV
 | .bool b => some (.bool b)
 | .int k n => some (.int k n)
 | .string s => some (.str s.data.toList)
 | .pointer none => some .nilptr
 | .slice none 0 0 => some .nilslice
 | .map none => some .nilmap
 | .nilFunc => some .nilfunc
 | .nilIface => some .niliface
 | _ => none
def cvs : List Value → Option (List IV)
 | [] => some []
 | v :: l => match cv1 v, cvs l with
  | some v', some l' => some (v' :: l')
  | _, _ => none
def cv (v : Value) : Option IV := match v with
 | .agg cs => (cvs cs.toList).map .agg
 | .tuple cs => (cvs cs.toList).map .tuple
 | v => cv1 v

theorem cv1_rel {v : Value} {v' : IV} (h : cv1 v = some v') (ρ : List RLoc) : VRel ρ v v' := by
 unfold cv1 at h
 split at h <;> first
  | (obtain rfl := Option.some.inj h; constructor; done)
  | cases h
theorem cvs_rel : ∀ {l : List Value} {l' : List IV}, cvs l = some l' → ∀ (ρ : List RLoc), LRel ρ l l'
 | [], l', h, ρ => by simp [cvs] at h; subst h; exact LRel.nil ρ
 | v :: l, l', h, ρ => by
  simp only [cvs] at h
  split at h
  ·rename_i v1 l1 h1 h2
   obtain rfl := Option.some.inj h
   exact LRel.cons (cv1_rel h1 ρ) (cvs_rel h2 ρ)
  ·cases h
theorem LRel.agg {ρ : List RLoc} {cs : Array Value} {cs' : List IV} (h : LRel ρ cs.toList cs') : VRel ρ (.agg cs) (.agg cs') :=
 .agg (by have := h.1; simpa using this) (fun i v v' a b => h.2 i v v' (by simpa using a) b)
theorem LRel.tuple {ρ : List RLoc} {cs : Array Value} {cs' : List IV} (h : LRel ρ cs.toList cs') : VRel ρ (.tuple cs) (.tuple cs') :=
 .tuple (by have := h.1; simpa using this) (fun i v v' a b => h.2 i v v' (by simpa using a) b)
theorem VRel.of_agg {ρ : List RLoc} {v : Value} {cs' : List IV} (h : VRel ρ v (.agg cs')) : ∃ cs : Array Value, v = .agg cs ∧ LRel ρ cs.toList cs' := by
 cases h with
 | agg hl h => exact ⟨_, rfl, by simpa using hl, fun i v v' a b => h i v v' (by simpa using a) b⟩
theorem VRel.of_tuple {ρ : List RLoc} {v : Value} {cs' : List IV} (h : VRel ρ v (.tuple cs')) : ∃ cs : Array Value, v = .tuple cs ∧ LRel ρ cs.toList cs' := by
 cases h with
 | tuple hl h => exact ⟨_, rfl, by simpa using hl, fun i v v' a b => h i v v' (by simpa using a) b⟩
theorem cv_rel {v : Value} {v' : IV} (h : cv v = some v') (ρ : List RLoc) : VRel ρ v v' := by
 unfold cv at h
 split at h
 ·rw [Option.map_eq_some_iff] at h
  obtain ⟨l, hl, rfl⟩ := h
  exact (cvs_rel hl ρ).agg
 ·rw [Option.map_eq_some_iff] at h
  obtain ⟨l, hl, rfl⟩ := h
  exact (cvs_rel hl ρ).tuple
 ·exact cv1_rel h ρ

def cx : Operand → Option CX
 | .tmp t => some (.t t)
 | .const v => (cv v).map .c
 | .func f => some (.fn f)
 | .global _ => none
theorem cx_rel {x : Operand} {x' : CX} (h : cx x = some x') {ρ : List RLoc} {N : Nat} {a : Act} {e : Env} (ha : ARel ρ N a e) : VRel ρ (a.eval x) (x'.ev e) := by
 cases x with
 | tmp t => simp [cx] at h; subst h; exact ha.val t
 | const v => simp [cx] at h; obtain ⟨v', hv, rfl⟩ := h; exact cv_rel hv ρ
 | func f => simp [cx] at h; subst h; exact .func f rfl rfl (fun i v v' x => by simp at x) (fun i v v' x => by simp at x)
 | global g => simp [cx] at h

def wr (k : IntKind) (n : Int) : Int := k.wrap n

def bits (op : BinOp) (k : IntKind) (x y : Int) : Int :=
 let a := BitVec.ofInt k.bits x
 let b := BitVec.ofInt k.bits y
 wr k (match op with
  | .and => ((a &&& b).toNat : Int)
  | .or => ((a ||| b).toNat : Int)
  | .xor => ((a ^^^ b).toNat : Int)
  | _ => ((a &&& ~~~b).toNat : Int))

def bless : List UInt8 → List UInt8 → Bool := Op.bytesLess

def ibin (op : BinOp) : IV → IV → Option IV
 | .int k a, .int k' b =>
  match op with
  | .shl => if b < 0 then none else some (.int k (wr k (a * 2 ^ (min b.toNat k.bits))))
  | .shr => if b < 0 then none else some (.int k (a.fdiv (2 ^ (min b.toNat k.bits))))
  | .add => if k = k' then some (.int k (wr k (a + b))) else none
  | .sub => if k = k' then some (.int k (wr k (a - b))) else none
  | .mul => if k = k' then some (.int k (wr k (a * b))) else none
  | .quo => if k = k' then (if b = 0 then none else some (.int k (wr k (a.tdiv b)))) else none
  | .rem => if k = k' then (if b = 0 then none else some (.int k (a.tmod b))) else none
  | .and => if k = k' then some (.int k (bits .and k a b)) else none
  | .or => if k = k' then some (.int k (bits .or k a b)) else none
  | .xor => if k = k' then some (.int k (bits .xor k a b)) else none
  | .andNot => if k = k' then some (.int k (bits .andNot k a b)) else none
  | .eql => if k = k' then some (.bool (decide (a = b))) else none
  | .neq => if k = k' then some (.bool (!decide (a = b))) else none
  | .lss => if k = k' then some (.bool (decide (a < b))) else none
  | .leq => if k = k' then some (.bool (decide (a ≤ b))) else none
  | .gtr => if k = k' then some (.bool (decide (b < a))) else none
  | .geq => if k = k' then some (.bool (decide (b ≤ a))) else none
 | .str s, .str t =>
  match op with
  | .add => if s.length + t.length ≤ 9223372036854775807 then some (.str (s ++ t)) else none
  | .eql => some (.bool (decide (s = t)))
  | .neq => some (.bool (!decide (s = t)))
  | .lss => some (.bool (bless s t))
  | .leq => some (.bool (bless s t || decide (s = t)))
  | .gtr => some (.bool (!(bless s t || decide (s = t))))
  | .geq => some (.bool (!bless s t))
  | _ => none
 | _, _ => none
def ibinB (neg : Bool) : IV → IV → Option IV
 | .bool a, .bool b => some (.bool ((a == b) != neg))
 | _, _ => none

inductive NK where | ptr | slice | map | func | iface
 deriving DecidableEq
def isNil : NK → IV → Option Bool
 | .ptr, .nilptr | .slice, .nilslice | .map, .nilmap | .func, .nilfunc | .iface, .niliface => some true
 | .ptr, .ptr .. | .slice, .slice .. | .slice, .eslice _ | .map, .map _ | .func, .func .. | .iface, .iface .. => some false
 | _, _ => none
def nkOf : TypeDesc → Option NK
 | .pointer _ => some .ptr
 | .slice _ => some .slice
 | .map _ _ => some .map
 | .func _ _ _ => some .func
 | .interface _ => some .iface
 | _ => none
def negOf : BinOp → Option Bool
 | .eql => some false
 | .neq => some true
 | _ => none

def iun (op : UnOp) : IV → Option IV
 | .bool b => match op with | .not => some (.bool (!b)) | _ => none
 | .int k n => match op with
  | .neg => some (.int k (wr k (0 - n)))
  | .xor => some (.int k (bits .xor k (if k.signed then -1 else k.max) n))
  | _ => none
 | _ => none

def IH.row (h : IH) (l i : Nat) : Option (List IV) :=
 match h.obj l with
 | .rows rs _ _ _ => rs[i]?
 | _ => none
def IH.cell (h : IH) (l i k : Nat) : Option IV := (h.row l i).bind (·[k]?)
def IH.size (h : IH) (l : Nat) : Option Nat :=
 match h.obj l with
 | .rows _ _ sz _ => some sz
 | _ => none

def IV.cells : IV → List IV
 | .agg cs => cs
 | v => [v]
theorem VRel.cells {ρ : List RLoc} {v : Value} {v' : IV} (h : VRel ρ v v') : LRel ρ v.cells.toList v'.cells := by
 cases h with
 | agg hl h => exact ⟨by simpa [Value.cells, IV.cells] using hl, fun j a b x y => h j a b (by simpa [Value.cells] using x) y⟩
 | _ => exact LRel.cons (by constructor <;> assumption) (LRel.nil ρ)
def lay (zero : List IV) : List (Nat × Nat × IV) → Option (List IV)
 | [] => some zero
 | (off, size, v) :: r =>
  if v.cells.length = size ∧ off + size ≤ zero.length then lay (zero.take off ++ v.cells ++ zero.drop (off + size)) r else none

inductive UK where
 | none_
 | peq (g : Bool)
 | aeq (g : Bool) (ks : List Nat)
 | toU
 | frU (e sz : Nat)
 | sdata
 deriving Inhabited

inductive FK where
 | mv (x : CX)
 | pick (c a b : CX)
 | build (zero : List IV) (parts : List (Nat × Nat × CX))
 | ld (x : CX)
 | ldA (n : Nat) (x : CX)
 | nck (x : CX)
 | bin (op : BinOp) (x y : CX)
 | binB (neg : Bool) (x y : CX)
 | eqn (k : NK) (neg : Bool) (x y : CX)
 | un (op : UnOp) (x : CX)
 | cvI (k : IntKind) (x : CX)
 | cvS (x : CX)
 | b2s (x : CX)
 | ext (i : Nat) (x : CX)
 | fld (off n : Nat) (agg : Bool) (x : CX)
 | fadr (off : Nat) (x : CX)
 | iadr (sz : Nat) (x i : CX)
 | iadrA (len sz : Nat) (x i : CX)
 | idxS (x i : CX)
 | idxA (len sz : Nat) (agg : Bool) (x i : CX)
 | len (x : CX)
 | lenS (x : CX)
 | mm (max : Bool) (x y : CX)
 | slcS (x : CX) (lo hi : Option CX)
 | slc (sz : Nat) (x : CX) (lo hi mx : Option CX)
 | mkif (t : Nat) (x : CX)
 | mkf (f : Nat) (first caps : List CX)
 | u (k : UK) (xs : List CX)
 deriving Inhabited

def obound (len : Nat) (x : Option CX) (e : Env) (d : Nat) : Option Nat :=
 match x with
 | none => some d
 | some x => match x.ev e with
  | .int _ n => if 0 ≤ n ∧ n ≤ len then some n.toNat else none
  | _ => none

def bytesOf : List (List IV) → Option (List UInt8)
 | [] => some []
 | [.int .u8 n] :: r => (bytesOf r).map (UInt8.ofNat n.toNat :: ·)
 | _ => none

def islc (h : IH) (sz : Nat) (x : IV) (lo hi : Nat) (mx : Option Nat) : Option IV :=
  match x with
  | .slice l i n => if lo ≤ hi ∧ hi ≤ n ∧ h.size l = some sz then
      (match mx with
      | none => some (if hi = lo ∧ lo ≠ 0 then .eslice false else .slice l (i + lo) (hi - lo))
      | some m => if hi ≤ m ∧ m ≤ n then some (if hi = lo then .eslice (decide (m = lo)) else .slice l (i + lo) (hi - lo)) else none) else none
  | .eslice z => if lo = 0 ∧ hi = 0 ∧ (mx = none ∨ mx = some 0) then some (.eslice (z || mx.isSome)) else none
  | .nilslice => if lo = 0 ∧ hi = 0 ∧ (mx = none ∨ mx = some 0) then some .nilslice else none
  | _ => none
def ilen : IV → Option Nat
 | .slice _ _ n => some n
 | .eslice _ => some 0
 | .nilslice => some 0
 | _ => none

def aeqV : List Nat → List IV → List IV → Option Bool
 | [], [], [] => some true
 | 0 :: ks, .int k a :: r, .int k' b :: r' => if k = k' then (aeqV ks r r').map fun t => decide (a = b) && t else none
 | 1 :: ks, .str a :: r, .str b :: r' => (aeqV ks r r').map fun t => decide (a = b) && t
 | 2 :: ks, .bool a :: r, .bool b :: r' => (aeqV ks r r').map fun t => decide (a = b) && t
 | _, _, _ => none
def ueval (h : IH) : UK → List IV → Option IV
 | .peq g, [.ptr l i k, .ptr l' i' k'] => if l = l' ∧ i = i' ∧ k = k' then some (.bool (true != g)) else if l ≠ l' ∧ (h.obj l).big = true ∧ (h.obj l').big = true then some (.bool (false != g)) else none
 | .toU, [.ptr l 0 0] => match h.obj l with
  | .rows (_ :: _) _ sz false => if sz = 0 then none else some (.ptr l 0 0)
  | _ => none
 | .frU e sz, [.ptr l 0 0] => match h.obj l with
  | .rows (_ :: _) e' sz' false => if e' = e ∧ sz' = sz then some (.ptr l 0 0) else none
  | _ => none
 | .sdata, [.slice l i n] => if n = 0 then none else some (.ptr l i 0)
 | .sdata, [.nilslice] => some .nilptr
 | .aeq g ks, [.agg xs, .agg ys] => (aeqV ks xs ys).map fun b => .bool (b != g)
 | _, _ => none

def feval (e : Env) (h : IH) : FK → Option IV
 | .mv x => some (x.ev e)
 | .pick c a b => match c.ev e with
  | .bool true => some (a.ev e)
  | .bool false => some (b.ev e)
  | _ => none
 | .build zero parts => (lay zero (parts.map fun p => (p.1, p.2.1, p.2.2.ev e))).map .agg
 | .ld x => match x.ev e with
  | .ptr l i k => h.cell l i k
  | _ => none
 | .ldA n x => match x.ev e with
  | .ptr l i k => match h.row l i with
   | some row => if k + n ≤ row.length then some (.agg ((row.drop k).take n)) else none
   | none => none
  | _ => none
 | .nck x => match x.ev e with
  | .ptr l i k => some (.ptr l i k)
  | .func f as0 cs => some (.func f as0 cs)
  | .iface t v => some (.iface t v)
  | _ => none
 | .bin op x y => ibin op (x.ev e) (y.ev e)
 | .binB neg x y => ibinB neg (x.ev e) (y.ev e)
 | .eqn k neg x y => match isNil k (x.ev e), isNil k (y.ev e) with
  | some true, some b => some (.bool (b != neg))
  | some b, some true => some (.bool (b != neg))
  | _, _ => none
 | .un op x => iun op (x.ev e)
 | .cvI k x => match x.ev e with
  | .int _ n => some (.int k (wr k n))
  | _ => none
 | .cvS x => match x.ev e with
  | .str s => some (.str s)
  | _ => none
 | .b2s x => match x.ev e with
  | .nilslice => some (.str [])
  | .eslice _ => some (.str [])
  | .slice l i n => match h.obj l with
   | .rows rs _ sz _ => if sz = 1 ∧ i + n ≤ rs.length then (bytesOf ((rs.drop i).take n)).map .str else none
   | _ => none
  | _ => none
 | .ext i x => match x.ev e with
  | .tuple vs => vs[i]?
  | _ => none
 | .fld off n agg x => match x.ev e with
  | .agg cs => if agg then (if off + n ≤ cs.length then some (.agg ((cs.drop off).take n)) else none) else cs[off]?
  | _ => none
 | .fadr off x => match x.ev e with
  | .ptr l i k => some (.ptr l i (k + off))
  | _ => none
 | .iadr sz x i => match x.ev e, i.ev e with
  | .slice l j n, .int _ m => if 0 ≤ m ∧ m < n ∧ h.size l = some sz then some (.ptr l (j + m.toNat) 0) else none
  | _, _ => none
 | .iadrA len sz x i => match x.ev e, i.ev e with
  | .ptr l j k, .int _ m => if 0 ≤ m ∧ m < len then some (.ptr l j (k + m.toNat * sz)) else none
  | _, _ => none
 | .idxS x i => match x.ev e, i.ev e with
  | .str s, .int _ m => if 0 ≤ m then (s[m.toNat]?).map (fun b => .int .u8 b.toNat) else none
  | _, _ => none
 | .idxA len sz agg x i => match x.ev e, i.ev e with
  | .agg cs, .int _ m => if 0 ≤ m ∧ m < len then
    (if agg then (if m.toNat * sz + sz ≤ cs.length then some (.agg ((cs.drop (m.toNat * sz)).take sz)) else none) else cs[m.toNat * sz]?) else none
  | _, _ => none
 | .len x => (ilen (x.ev e)).map fun (n : Nat) => IV.int .i64 (n : Int)
 | .lenS x => match x.ev e with
  | .str s => some (.int .i64 s.length)
  | _ => none
 | .mm max x y => match x.ev e, y.ev e with
  | .int k a, .int _ b => some (.int k (if max then (if b > a then b else a) else (if b < a then b else a)))
  | _, _ => none
 | .slcS x lo hi => match x.ev e with
  | .str s => match obound s.length hi e s.length with
   | some b => match obound b lo e 0 with
    | some a => some (.str ((s.take b).drop a))
    | none => none
   | none => none
  | _ => none
 | .slc sz x lo hi mx => match ilen (x.ev e) with
  | some n => match mx with
   | none => match obound n hi e n with
    | some b => match obound b lo e 0 with
     | some a => islc h sz (x.ev e) a b none
     | none => none
    | none => none
   | some m => match obound n (some m) e n with
    | some m => match obound m hi e n with
     | some b => match obound b lo e 0 with
      | some a => if hi.isSome then islc h sz (x.ev e) a b (some m) else none
      | none => none
     | none => none
    | none => none
  | none => none
 | .mkif t x => some (.iface t (x.ev e))
 | .mkf f first caps => some (.func f (first.map (CX.ev e)) (caps.map (CX.ev e)))
 | .u k xs => ueval h k (xs.map (CX.ev e))

def tsz (P : Program) (t : TypeId) : Option Nat := (P.info? t).map (·.size)
def isAggD : TypeDesc → Bool
 | .struct _ | .array _ _ => true
 | _ => false
def ocx : Option Operand → Option (Option CX)
 | none => some none
 | some x => (cx x).map some
def cxs : List Operand → Option (List CX)
 | [] => some []
 | x :: l => match cx x, cxs l with
  | some x', some l' => some (x' :: l')
  | _, _ => none
def placesS (P : Program) (fs : Array Field) : List (Nat × Operand) → Option (List (Nat × Nat × CX))
 | [] => some []
 | (i, x) :: r => match fs[i]?, cx x, placesS P fs r with
  | some f, some x', some r' => (tsz P f.type).map fun n => (f.offset, n, x') :: r'
  | _, _, _ => none
def placesA (sz : Nat) : List (Nat × Operand) → Option (List (Nat × Nat × CX))
 | [] => some []
 | (i, x) :: r => match cx x, placesA sz r with
  | some x', some r' => some ((i * sz, sz, x') :: r')
  | _, _ => none
def allTsz (P : Program) (fs : Array Field) : Bool := fs.toList.all fun f => (tsz P f.type).isSome
def zeroOf (P : Program) (t : TypeId) : Option (List IV) :=
 match (P.info? t).bind (·.zero) with
 | some z => cvs z.cells.toList
 | none => none
def isConstO : Operand → Bool
 | .const _ => true
 | _ => false

def fcomp (P : Program) (op : Op) : Option FK :=
 match op with
 | .move x | .assign x => (cx x).map .mv
 | .pick c a b => match cx c, cx a, cx b with
  | some c, some a, some b => some (.pick c a b)
  | _, _, _ => none
 | .build t parts => match P.underlying t, zeroOf P t with
  | some (.struct fs), some z => if allTsz P fs then (placesS P fs parts.toList).map (.build z) else none
  | some (.array _ el), some z => match tsz P el with
   | some sz => (placesA sz parts.toList).map (.build z)
   | none => none
  | _, _ => none
 | .load t a => match P.underlying t, tsz P t, cx a with
  | some d, some n, some a => some (if isAggD d then .ldA n a else .ld a)
  | _, _, _ => none
 | .nilCheck x => (cx x).map .nck
 | .binOp op t x y _ => match P.underlying t, cx x, cx y with
  | some (.int _), some x, some y => some (.bin op x y)
  | some .string, some x, some y => some (.bin op x y)
  | some .bool, some x, some y => (negOf op).map fun g => .binB g x y
  | some d, some x', some y' => match nkOf d, negOf op with
   | some k, some g => if (k = .iface || k = .ptr) && !(isConstO x || isConstO y) then none else some (.eqn k g x' y')
   | _, _ => none
  | _, _, _ => none
 | .unOp op _ x => (cx x).map (.un op)
 | .convert s d x => match P.underlying s, P.underlying d, cx x with
  | some (.int _), some (.int k), some x => some (.cvI k x)
  | some .string, some .string, some x => some (.cvS x)
  | some (.slice e), some .string, some x => match P.underlying e with
   | some (.int .u8) => some (.b2s x)
   | _ => none
  | _, _, _ => none
 | .extract x i => (cx x).map (.ext i)
 | .field t x f => match P.underlying t, cx x with
  | some (.struct fs), some x => match fs[f]? with
   | some f => match P.underlying f.type, tsz P f.type with
    | some d, some n => some (.fld f.offset n (isAggD d) x)
    | _, _ => none
   | none => none
  | _, _ => none
 | .fieldAddr t x f => match P.underlying t, cx x with
  | some (.struct fs), some x => match fs[f]? with
   | some f => match tsz P f.type with
    | some (_ + 1) => some (.fadr f.offset x)
    | _ => none
   | none => none
  | _, _ => none
 | .indexAddr t x i => match P.underlying t, cx x, cx i with
  | some (.slice e), some x, some i => (tsz P e).map fun n => .iadr n x i
  | some (.array len e), some x, some i => (tsz P e).map fun n => .iadrA len n x i
  | _, _, _ => none
 | .index t x i => match P.underlying t, cx x, cx i with
  | some .string, some x, some i => some (.idxS x i)
  | some (.array len e), some x, some i => match P.underlying e, tsz P e with
   | some d, some n => some (.idxA len n (isAggD d) x i)
   | _, _ => none
  | _, _, _ => none
 | .slice t x lo hi mx => match P.underlying t, cx x, ocx lo, ocx hi with
  | some .string, some x, some lo, some hi => if mx.isNone then some (.slcS x lo hi) else none
  | some (.slice e), some x, some lo, some hi => match tsz P e, ocx mx with
   | some n, some mx => some (.slc n x lo hi mx)
   | _, _ => none
  | _, _, _, _ => none
 | .makeInterface t x => match P.underlying t, cx x with
  | some (.interface _), _ => none
  | some _, some x => some (.mkif t x)
  | _, _ => none
 | .makeFunc (.func f) first caps => match cxs first.toList, cxs caps.toList with
  | some a, some b => some (.mkf f a b)
  | _, _ => none
 | .call { callee := .builtin .len, args, argTypes } => match args.toList, argTypes.toList with
  | [x], [t] => match P.underlying t, cx x with
   | some (.slice _), some x => some (.len x)
   | some .string, some x => some (.lenS x)
   | _, _ => none
  | _, _ => none
 | .call { callee := .builtin .max, args, .. } => match args.toList with
  | [x, y] => match cx x, cx y with
   | some x, some y => some (.mm true x y)
   | _, _ => none
  | _ => none
 | .call { callee := .builtin .min, args, .. } => match args.toList with
  | [x, y] => match cx x, cx y with
   | some x, some y => some (.mm false x y)
   | _, _ => none
  | _ => none
 | _ => none

def flatK (P : Program) : Nat → List Field → Option (List Nat)
 | _, [] => some []
 | i, f :: r => if f.name ≠ "_" ∧ f.offset = i ∧ P.plainKey f.type = true then
   match P.underlying f.type, flatK P (i + 1) r with
   | some (.int _), some l => some (0 :: l)
   | some .string, some l => some (1 :: l)
   | some .bool, some l => some (2 :: l)
   | _, _ => none
  else none
def ucomp (P : Program) (op : Op) : Option (UK × List CX) :=
 match op with
 | .binOp bop t x y _ => match P.underlying t, negOf bop, cx x, cx y with
  | some (.pointer te), some g, some x, some y => match P.info? te with
   | some j => if j.size ≠ 0 then some (.peq g, [x, y]) else none
   | none => none
  | some (.struct fs), some g, some x, some y => if P.stoodInHeld t = false ∧ P.eqGuardType P.depth t = false then (flatK P 0 fs.toList).map fun ks => (.aeq g ks, [x, y]) else none
  | _, _, _, _ => none
 | .convert src dst x => match P.underlying src, P.underlying dst, cx x with
  | some (.pointer t), some .unsafePointer, some x => match P.info? t with
   | some j => if j.size = 0 then none else some (.toU, [x])
   | none => none
  | some .unsafePointer, some (.pointer u), some x => match P.info? u with
   | some _ => if P.cellsOf u = 0 then none else some (.frU u (P.cellsOf u), [x])
   | none => none
  | _, _, _ => none
 | .call { callee := .builtin .unsafeSliceData, args, .. } => match args.toList with
  | [x] => (cx x).map fun x => (.sdata, [x])
  | _ => none
 | _ => none
def fkc (P : Program) (op : Op) : Option FK :=
 match fcomp P op with
 | some k => some k
 | none => (ucomp P op).map fun p => .u p.1 p.2

end Go.IW

namespace Go.IW
open Go.RowKit

def Answers (P : Program) (s : Sem Value) (w : World) (ρ : List RLoc) (v : IV) : Prop := ∃ v', s.run P w = .ok v' w ∧ VRel ρ v' v

section
variable {P : Program} {ρ : List RLoc} {B : Nat} {w : World} {h : IH}

theorem Answers.pure {v' : Value} {v : IV} (hv : VRel ρ v' v) : Answers P (Pure.pure v') w ρ v := ⟨v', rfl, hv⟩

theorem beq_dec (s t : List UInt8) : (s == t) = decide (s = t) := by rw [Bool.eq_iff_iff]; simp

theorem size_list (s : ByteArray) : s.data.toList.length = s.size := Array.length_toList

theorem ibin_sound {op : BinOp} {t : TypeId} {x y : Value} {x' y' v : IV} (hx : VRel ρ x x') (hy : VRel ρ y y') (hv : ibin op x' y' = some v) : Answers P (binOp op t x y) w ρ v := by
 unfold ibin at hv
 split at hv
 ·rename_i k a k' b
  cases hx; cases hy
  cases op <;> simp only at hv <;>
   (try split at hv) <;> (try split at hv) <;> (first | (obtain rfl := Option.some.inj hv) | cases hv) <;>
   first
    | (refine ⟨_, ?_, VRel.int _ _⟩; simp [binOp, Op.shift, Op.intArith, Op.intDiv, Op.intBits, wr, bits, *]; done)
    | (refine ⟨_, ?_, VRel.bool _⟩; simp [binOp, Op.intCmp, *]; done)
    | (refine ⟨_, ?_, VRel.bool _⟩; simp [binOp, Op.intCmp, *]; rfl)
 ·rename_i s t'
  generalize hs : IV.str s = s' at hx
  cases hx <;> cases hs
  rename_i s
  generalize ht : IV.str t' = t'' at hy
  cases hy <;> cases ht
  rename_i t1
  cases op <;> simp only at hv <;>
   (try split at hv) <;> (first | (obtain rfl := Option.some.inj hv) | cases hv) <;>
   first
    | exact ⟨_, by simp only [binOp, Op.stringOp, ByteArray.toList_eq, bless, beq_dec]; rfl, VRel.bool _⟩
    | skip
  rename_i hlen
  have e : s.data.toList ++ t1.data.toList = (s ++ t1).data.toList := by simp
  rw [e]
  refine ⟨_, ?_, VRel.str _⟩
  rw [size_list, size_list] at hlen
  exact run_string_add_sum w s t1 hlen
 ·cases hv

theorem ibinB_sound {op : BinOp} {g : Bool} {t : TypeId} {x y : Value} {x' y' v : IV} (hx : VRel ρ x x') (hy : VRel ρ y y') (hg : negOf op = some g) (hv : ibinB g x' y' = some v)
  (ht : P.underlying t = some .bool) : Answers P (binOp op t x y) w ρ v := by
 unfold ibinB at hv
 split at hv
 ·cases hx; cases hy
  obtain rfl := Option.some.inj hv
  refine ⟨_, ?_, VRel.bool _⟩
  unfold negOf at hg
  split at hg <;> simp at hg <;> subst hg <;> simp [binOp, run_equal_bool _ _ _ _ ht]
 ·cases hv

theorem isNil_cases {k : NK} {v : Value} {v' : IV} {b : Bool} (hr : VRel ρ v v') (hn : isNil k v' = some b) :
  (k = .ptr ∧ ∃ a, v = .pointer a ∧ a.isNone = b) ∨ (k = .slice ∧ ∃ a n c, v = .slice a n c ∧ a.isNone = b) ∨ (k = .map ∧ ∃ a, v = .map a ∧ a.isNone = b) ∨
  (k = .func ∧ ((v = .nilFunc ∧ b = true) ∨ ∃ f x y, v = .func f x y ∧ b = false)) ∨ (k = .iface ∧ ((v = .nilIface ∧ b = true) ∨ ∃ t x, v = .iface t x ∧ b = false)) := by
 cases hr <;> cases k <;> simp [isNil] at hn <;> subst hn <;> simp

theorem run_equal_of {t : TypeId} {x y : Value} {b : Bool} (h : ∀ d, (Op.equalIn (d + 1) t x y).run P w = .ok b w) : (Op.equal t x y).run P w = .ok b w := h 9999

theorem run_equal_nils {k : NK} {t : TypeId} {d : TypeDesc} {x y : Value} {x' y' : IV} {a b : Bool} (hx : VRel ρ x x') (hy : VRel ρ y y')
  (ht : P.underlying t = some d) (hd : nkOf d = some k) (ha : isNil k x' = some a) (hb : isNil k y' = some b) (hab : a = true ∨ b = true) :
  (Op.equal t x y).run P w = .ok (a && b) w := by
 refine run_equal_of (fun m => ?_)
 rcases isNil_cases hx ha with ⟨rfl, a1, rfl, e1⟩ | ⟨rfl, a1, n1, c1, rfl, e1⟩ | ⟨rfl, a1, rfl, e1⟩ | ⟨rfl, h1⟩ | ⟨rfl, h1⟩ <;>
 rcases isNil_cases hy hb with ⟨h2, a2, rfl, e2⟩ | ⟨h2, a2, n2, c2, rfl, e2⟩ | ⟨h2, a2, rfl, e2⟩ | ⟨h2, h3⟩ | ⟨h2, h3⟩ <;> (try cases h2) <;>
 (unfold nkOf at hd; split at hd <;> try (simp at hd; done))
 ·cases a1 <;> cases a2 <;> simp at e1 e2 <;> subst e1 <;> subst e2 <;> simp at hab <;> (unfold Op.equalIn; simp [run_underlying ht])
 ·cases a1 <;> cases a2 <;> simp at e1 e2 <;> subst e1 <;> subst e2 <;> simp at hab <;> (unfold Op.equalIn; simp [run_underlying ht])
 ·cases a1 <;> cases a2 <;> simp at e1 e2 <;> subst e1 <;> subst e2 <;> simp at hab <;> (unfold Op.equalIn; simp [run_underlying ht])
 ·rcases h1 with ⟨rfl, rfl⟩ | ⟨_, _, _, rfl, rfl⟩ <;> rcases h3 with ⟨rfl, rfl⟩ | ⟨_, _, _, rfl, rfl⟩ <;> simp at hab <;> (unfold Op.equalIn; simp [run_underlying ht])
 ·rcases h1 with ⟨rfl, rfl⟩ | ⟨_, _, rfl, rfl⟩ <;> rcases h3 with ⟨rfl, rfl⟩ | ⟨_, _, rfl, rfl⟩ <;> simp at hab <;> (unfold Op.equalIn; simp [run_underlying ht])

theorem binOp_equal {op : BinOp} {g : Bool} {t : TypeId} {x y : Value} {b : Bool} (hg : negOf op = some g) (hs : ∀ k n, x ≠ .int k n) (hs1 : ∀ k n, x ≠ .float k n) (hs2 : ∀ k n m, x ≠ .complex k n m) (hs3 : ∀ s, x ≠ .string s)
  (h : (Op.equal t x y).run P w = .ok b w) : (binOp op t x y).run P w = .ok (.bool (b != g)) w := by
 unfold negOf at hg
 split at hg <;> first | (cases hg; done) | (obtain rfl := Option.some.inj hg; unfold binOp; split <;> simp_all)

theorem eqn_sound {op : BinOp} {k : NK} {g : Bool} {t : TypeId} {d : TypeDesc} {x y : Value} {x' y' : IV} {a b : Bool} (hx : VRel ρ x x') (hy : VRel ρ y y') (hg : negOf op = some g)
  (ht : P.underlying t = some d) (hd : nkOf d = some k) (ha : isNil k x' = some a) (hb : isNil k y' = some b) (hab : a = true ∨ b = true) :
  Answers P (binOp op t x y) w ρ (.bool ((a && b) != g)) := by
 refine ⟨_, binOp_equal hg ?_ ?_ ?_ ?_ (run_equal_nils hx hy ht hd ha hb hab), VRel.bool _⟩ <;>
  (intros; rintro rfl; cases hx <;> simp [isNil] at ha)

theorem iun_sound {op : UnOp} {x : Value} {x' v : IV} (hx : VRel ρ x x') (hv : iun op x' = some v) : Answers P (Op.unary op x) w ρ v := by
 unfold iun at hv
 split at hv
 ·cases hx
  split at hv
  ·obtain rfl := Option.some.inj hv; exact ⟨_, by simp [Op.unary], VRel.bool _⟩
  ·cases hv
 ·cases hx
  split at hv
  ·obtain rfl := Option.some.inj hv; exact ⟨_, by simp [Op.unary, Op.intArith, wr], VRel.int _ _⟩
  ·obtain rfl := Option.some.inj hv; exact ⟨_, by simp [Op.unary, Op.intBits, bits, wr], VRel.int _ _⟩
  ·cases hv
 ·cases hv

theorem cell_sound (hw : WRel ρ B w h) {l i k : Nat} {r : RLoc} {v : IV} (hr : ρ[l]? = some r) (hc : h.cell l i k = some v) :
  ∃ v', w.cell? ⟨r.block, r.base + i * r.sz + k, none⟩ = some v' ∧ VRel ρ v' v := by
 unfold IH.cell IH.row at hc
 have ho := hw.obj l r hr
 cases hobj : h.obj l with
 | dead => rw [hobj] at hc; simp at hc
 | rows rs e sz ro =>
  rw [hobj] at hc ho
  obtain ⟨c, t, fz, hg, hrel⟩ := ho
  simp only at hc
  cases hrow : rs[i]? with
  | none => rw [hrow] at hc; simp at hc
  | some row =>
   rw [hrow] at hc
   simp only [Option.bind_some] at hc
   obtain ⟨v', h1, h2⟩ := hrel.cells i row hrow k v hc
   refine ⟨v', ?_, h2⟩
   rw [cell_of_row w r.block _ c t fz hg, hrel.hsz]; exact h1

theorem row_sound (hw : WRel ρ B w h) {l i : Nat} {r : RLoc} {row : List IV} (hr : ρ[l]? = some r) (hc : h.row l i = some row) :
  ∃ vs : List Value, LRel ρ vs row ∧ ∀ (j : Nat) v, vs[j]? = some v → w.cell? ⟨r.block, r.base + i * r.sz + j, none⟩ = some v := by
 have key : ∀ (k : Nat) v, row[k]? = some v → ∃ v', w.cell? ⟨r.block, r.base + i * r.sz + k, none⟩ = some v' ∧ VRel ρ v' v := fun k v hk =>
  cell_sound hw hr (by unfold IH.cell; rw [hc]; exact hk)
 clear hc
 generalize r.base + i * r.sz = at_ at key ⊢
 induction row generalizing at_ with
 | nil => exact ⟨[], LRel.nil ρ, fun j v hv => by simp at hv⟩
 | cons x row ih =>
  obtain ⟨v0, hv0, hr0⟩ := key 0 x rfl
  obtain ⟨vs, hvs, hcell⟩ := ih (at_ + 1) (fun k v hk => by
   have := key (k + 1) v hk
   rwa [Nat.add_assoc, Nat.add_comm 1 k])
  refine ⟨v0 :: vs, LRel.cons hr0 hvs, fun j v hv => ?_⟩
  cases j with
  | zero => simp at hv; subst hv; simpa using hv0
  | succ j => simp at hv; have := hcell j v hv; rwa [Nat.add_assoc, Nat.add_comm 1 j] at this

theorem addr_add (b o n : Nat) : (⟨b, o, none⟩ : Addr).add n = ⟨b, o + n, none⟩ := by
 unfold Addr.add; split <;> simp_all

theorem run_isAgg {t : TypeId} {d : TypeDesc} (hd : P.underlying t = some d) : (isAgg t).run P w = .ok (isAggD d) w := by
 unfold isAgg
 cases d <;> simp [run_underlying hd, isAggD]

theorem run_sizeOf' {t : TypeId} {n : Nat} (hn : tsz P t = some n) : (sizeOf t).run P w = .ok n w := by
 unfold tsz at hn
 rw [Option.map_eq_some_iff] at hn
 obtain ⟨i, hi, rfl⟩ := hn
 simp [sizeOf, typeInfo, hi]

end
end Go.IW

namespace Go.IW
open Go.RowKit

section
variable {P : Program} {ρ : List RLoc} {B : Nat} {w : World} {h : IH}

theorem ld_sound (hw : WRel ρ B w h) {t : TypeId} {d : TypeDesc} {x : Value} {l i k : Nat} {v : IV} (hd : P.underlying t = some d) (ha : isAggD d = false) (hx : VRel ρ x (.ptr l i k))
  (hc : h.cell l i k = some v) : Answers P (Instr.loadAt t x) w ρ v := by
 cases hx with
 | ptr hr =>
  obtain ⟨v', h1, h2⟩ := cell_sound hw hr hc
  exact ⟨v', by simp [Instr.loadAt, Instr.sureAddr, loadVar, run_isAgg hd, ha, h1], h2⟩

theorem ldA_sound (hw : WRel ρ B w h) {t : TypeId} {d : TypeDesc} {x : Value} {l i k n : Nat} {row : List IV} (hd : P.underlying t = some d) (ha : isAggD d = true) (hn : tsz P t = some n)
  (hx : VRel ρ x (.ptr l i k)) (hc : h.row l i = some row) (hk : k + n ≤ row.length) : Answers P (Instr.loadAt t x) w ρ (.agg ((row.drop k).take n)) := by
 cases hx with
 | @ptr l i k r hr =>
  obtain ⟨vs, h1, h2⟩ := row_sound hw hr hc
  have hlen := h1.1
  have hr2 := run_loadCells_list (P := P) (w := w) (⟨r.block, r.base + i * r.sz + k, none⟩ : Addr) ((vs.drop k).take n) (fun j v hv => by
   rw [List.getElem?_take] at hv
   split at hv
   ·rw [List.getElem?_drop] at hv
    have := h2 _ v hv
    rw [addr_add]
    rw [Nat.add_assoc]; exact this
   ·cases hv)
  have hl : ((vs.drop k).take n).length = n := by simp; omega
  rw [hl] at hr2
  refine ⟨.agg ((vs.drop k).take n).toArray, ?_, LRel.agg (by simpa using (h1.drop k).take n)⟩
  simp [Instr.loadAt, Instr.sureAddr, loadVar, run_isAgg hd, ha, run_sizeOf' hn, hr2]

theorem ilen_rel {x : Value} {x' : IV} {n : Nat} (hx : VRel ρ x x') (hn : ilen x' = some n) : ∃ a c, x = .slice a n c ∧ n ≤ c ∧ c ≤ maxLen := by
 cases hx <;> simp [ilen] at hn <;> subst hn
 ·exact ⟨_, _, rfl, Nat.le_refl _, Nat.zero_le _⟩
 ·rename_i hc; exact ⟨_, _, rfl, Nat.zero_le _, hc⟩
 ·rename_i hn hc hm; exact ⟨_, _, rfl, hn, hm⟩

theorem len_sound {t ty el : TypeId} {x : Value} {x' : IV} {n : Nat} (hx : VRel ρ x x') (hn : ilen x' = some n) (ht : P.underlying t = some (.slice el)) : Answers P (Builtin.len_ #[t] ty #[x]) w ρ (.int .i64 n) := by
 refine ⟨_, ?_, VRel.int _ _⟩
 obtain ⟨a, c, rfl, _, _⟩ := ilen_rel hx hn
 simp [Builtin.len_, run_underlying ht, goInt]
theorem lenS_sound {t ty : TypeId} {x : Value} {s : List UInt8} (hx : VRel ρ x (.str s)) (ht : P.underlying t = some .string) : Answers P (Builtin.len_ #[t] ty #[x]) w ρ (.int .i64 s.length) := by
 generalize hs : IV.str s = s' at hx
 cases hx <;> cases hs
 rename_i s
 refine ⟨_, ?_, VRel.int _ _⟩
 rw [size_list]
 simp [Builtin.len_, run_underlying ht, goInt]

theorem part_sound {t : TypeId} {d : TypeDesc} {n off : Nat} {cs : Array Value} {cs' : List IV} {v : IV} (hd : P.underlying t = some d) (hn : tsz P t = some n) (hx : LRel ρ cs.toList cs')
  (hv : (if isAggD d then (if off + n ≤ cs'.length then some (IV.agg ((cs'.drop off).take n)) else none) else cs'[off]?) = some v) : Answers P (part t cs off) w ρ v := by
 cases hagg : isAggD d
 ·rw [hagg, if_neg (by simp)] at hv
  obtain ⟨v', h1, h2⟩ := hx.of_get' hv
  refine ⟨v', ?_, h2⟩
  have h1' : cs[off]? = some v' := by simpa using h1
  simp [part, run_isAgg hd, hagg, h1']
 ·rw [hagg, if_pos rfl] at hv
  split at hv
  ·obtain rfl := Option.some.inj hv
   refine ⟨.agg (cs.extract off (off + n)), ?_, LRel.agg ?_⟩
   ·simp [part, run_isAgg hd, hagg, run_sizeOf' hn]
   ·have : (cs.extract off (off + n)).toList = (cs.toList.drop off).take n := by simp [Array.toList_extract, List.extract_eq_take_drop]
    rw [this]; exact (hx.drop off).take n
  ·cases hv

theorem list_set_range (l m : List Value) (off : Nat) (h : off + m.length ≤ l.length) :
  (m.toArray.zipIdx.foldl (fun cs (p : Value × Nat) => cs.setIfInBounds (off + p.2) p.1) l.toArray) = (l.take off ++ m ++ l.drop (off + m.length)).toArray := by
 have key : ∀ (m : List Value) (i : Nat) (l : List Value), off + i + m.length ≤ l.length →
   ((m.zipIdx i).foldl (fun cs (p : Value × Nat) => cs.setIfInBounds (off + p.2) p.1) l.toArray) = (l.take (off + i) ++ m ++ l.drop (off + i + m.length)).toArray := by
  intro m
  induction m with
  | nil => intro i l h; simp
  | cons x m ih =>
   intro i l h
   simp only [lc0] at h
   rw [List.zipIdx_cons, List.foldl_cons]
   simp only [List.setIfInBounds_toArray]
   rw [ih (i + 1) (l.set (off + i) x) (by simp; omega)]
   congr 1
   apply List.ext_getElem?
   intro j
   simp only [List.getElem?_append, List.length_take, la0, List.length_set, List.getElem?_take, List.getElem?_drop, List.getElem?_set, lc0, List.getElem?_cons]
   have e1 : min (off + (i + 1)) l.length = off + i + 1 := by omega
   have e2 : min (off + i) l.length = off + i := by omega
   simp only [e1, e2]
   rcases Nat.lt_trichotomy j (off + i) with hj | hj | hj
   ·simp [show j < off + i + 1 + m.length by omega, show j < off + i + 1 by omega, show j < off + i + (m.length + 1) by omega, hj, show off + i ≠ j by omega, show j < off + (i + 1) by omega]
   ·subst hj
    simp [show off + i < off + i + 1 + m.length by omega, show off + i < off + i + (m.length + 1) by omega, show off + i < off + (i + 1) by omega, show off + i < l.length by omega]
   ·by_cases h2 : j < off + i + 1 + m.length
    ·simp [h2, show ¬ j < off + i + 1 by omega, show j < off + i + (m.length + 1) by omega, show ¬ j < off + i by omega, show j - (off + i) ≠ 0 by omega, show j - (off + i) - 1 = j - (off + i + 1) by omega]
    ·simp [h2, show ¬ j < off + i + (m.length + 1) by omega, show off + i ≠ off + (i + 1) + m.length + (j - (off + i + 1 + m.length)) by omega]
     congr 1; omega
 have := key m 0 l (by simpa using h)
 simpa using this

theorem fill_sound (place : Nat → Option (Nat × Nat)) : ∀ (ps : List (Nat × Value)) (qs : List (Nat × Nat × IV)) (zero : List Value) (zero' out : List IV),
  ps.length = qs.length → (∀ (i : Nat) p q, ps[i]? = some p → qs[i]? = some q → place p.1 = some (q.1, q.2.1) ∧ VRel ρ p.2 q.2.2) → LRel ρ zero zero' → lay zero' qs = some out →
  ∃ cells : List Value, Instr.fill place zero.toArray ps = some cells.toArray ∧ LRel ρ cells out := by
 intro ps
 induction ps with
 | nil =>
  intro qs zero zero' out hl _ hz ho
  cases qs with
  | nil => simp [lay] at ho; subst ho; exact ⟨zero, rfl, hz⟩
  | cons q qs => simp at hl
 | cons p ps ih =>
  intro qs zero zero' out hl hpq hz ho
  cases qs with
  | nil => simp at hl
  | cons q qs =>
   obtain ⟨off, size, v⟩ := q
   obtain ⟨i, u⟩ := p
   obtain ⟨hplace, hv⟩ := hpq 0 _ _ rfl rfl
   simp only at hplace hv
   have hcells : LRel ρ u.cells.toList v.cells := hv.cells
   simp only [lay] at ho
   split at ho
   ·rename_i hsz
    have hlen := hcells.1
    have hzl := hz.1
    have hu0 : u.cells.toList.length = u.cells.size := by simp
    have hu : u.cells.size = size := by omega
    have hrange := list_set_range zero u.cells.toList off (by simp; omega)
    have hrel : LRel ρ (zero.take off ++ u.cells.toList ++ zero.drop (off + size)) (zero'.take off ++ v.cells ++ zero'.drop (off + size)) :=
     ((hz.take off).append hcells).append (hz.drop (off + size))
    obtain ⟨cells, hc1, hc2⟩ := ih qs _ _ out (by simpa using hl) (fun j a b x y => hpq (j + 1) a b (by simpa using x) (by simpa using y)) hrel ho
    refine ⟨cells, ?_, hc2⟩
    rw [← hc1]
    simp only [Instr.fill, hplace]
    rw [if_neg (by simp [hu]; omega)]
    congr 1
    have hA : u.cells.toList.toArray = u.cells := by simp
    rw [hA] at hrange
    simp only [Array.length_toList, hu] at hrange
    exact hrange
   ·cases ho

end
end Go.IW

namespace Go.IW
open Go.RowKit

section
variable {P : Program} {ρ : List RLoc} {B : Nat} {w : World} {h : IH} {N : Nat} {a : Act} {e : Env}

theorem bytesOf_sound : ∀ {rs : List (List IV)} {s : List UInt8}, bytesOf rs = some s → rs.length = s.length ∧ ∀ (i : Nat) row, rs[i]? = some row → ∃ n, row = [.int .u8 n] ∧ s[i]? = some (UInt8.ofNat n.toNat)
 | [], s, h => by simp [bytesOf] at h; subst h; simp
 | row :: rs, s, h => by
  unfold bytesOf at h
  split at h
  ·rename_i h0; cases h0
  ·rename_i n r h0
   obtain ⟨rfl, rfl⟩ := List.cons.inj h0
   rw [Option.map_eq_some_iff] at h
   obtain ⟨s', hs', rfl⟩ := h
   obtain ⟨h1, h2⟩ := bytesOf_sound hs'
   refine ⟨by simp [h1], fun i row hi => ?_⟩
   cases i with
   | zero => simp at hi; exact ⟨n, hi.symm, rfl⟩
   | succ i => simp at hi ⊢; exact h2 i row hi
  ·cases h

theorem foldl_bytes : ∀ (ns : List Int) (r : ByteArray), ns.foldl (fun (r : ByteArray) n => r.push (UInt8.ofNat n.toNat)) r = ⟨r.data ++ (ns.map fun n => UInt8.ofNat n.toNat).toArray⟩
 | [], r => by simp
 | n :: ns, r => by
  rw [List.foldl_cons, foldl_bytes ns]
  simp [ByteArray.push]

theorem b2s_sound (hw : WRel ρ B w h) {src dst el : TypeId} (hs : P.underlying src = some (.slice el)) (he : P.underlying el = some (.int .u8)) (hd : P.underlying dst = some .string)
  {x : Value} {l i n : Nat} {rs : List (List IV)} {t : Nat} {ro : Bool} {s : List UInt8} (hx : VRel ρ x (.slice l i n)) (ho : h.obj l = .rows rs t 1 ro) (hin : i + n ≤ rs.length)
  (hb : bytesOf ((rs.drop i).take n) = some s) : Answers P (convert src dst x) w ρ (.str s) := by
 cases hx with
 | @slice l i n c r hr hn hc hm =>
  obtain ⟨h1, h2⟩ := bytesOf_sound hb
  have hlen : s.length = n := by rw [← h1]; simp; omega
  have hsz : r.sz = 1 := by
   have := hw.obj l r hr
   rw [ho] at this
   obtain ⟨_, _, _, _, hrel⟩ := this
   exact hrel.hsz
  let ns : List Int := ((rs.drop i).take n).map fun row => match row with | [.int .u8 n] => n | _ => 0
  have hns : ns.map (fun n => UInt8.ofNat n.toNat) = s := by
   apply List.ext_getElem?
   intro j
   simp only [ns, List.map_map, List.getElem?_map]
   cases hj : ((rs.drop i).take n)[j]? with
   | none =>
    simp only [Option.map_none]
    symm
    rw [List.getElem?_eq_none_iff] at hj ⊢
    omega
   | some row =>
    obtain ⟨m, rfl, hm⟩ := h2 j row hj
    simp [hm]
  have hload := run_loadCells_list (P := P) (w := w) (⟨r.block, r.base + i * r.sz, none⟩ : Addr) (ns.map (Value.int .u8)) (fun j v hj => by
   simp only [ns, List.map_map, List.getElem?_map] at hj
   cases hj' : ((rs.drop i).take n)[j]? with
   | none => rw [hj'] at hj; simp at hj
   | some row =>
    rw [hj'] at hj
    obtain ⟨m, rfl, hm⟩ := h2 j row hj'
    simp at hj
    subst hj
    have hrow : rs[i + j]? = some [.int .u8 m] := by
     rw [List.getElem?_take] at hj'
     split at hj'
     ·rwa [List.getElem?_drop] at hj'
     ·cases hj'
    obtain ⟨v', hv', hr'⟩ := cell_sound (l := l) (i := i + j) (k := 0) hw hr (v := .int .u8 m) (by simp [IH.cell, IH.row, ho, hrow])
    rw [addr_add]
    rw [hsz] at hv' ⊢
    cases hr'
    simpa [Nat.add_assoc] using hv')
  have hl : (ns.map (Value.int .u8)).length = n := by simp only [ns, List.length_map]; omega
  rw [hl] at hload
  refine ⟨.string ⟨s.toArray⟩, ?_, ?_⟩
  ·rw [run_convert_bytes_string w src dst el _ n c hs he hd, run_bytesToString w _ n c ns hload, foldl_bytes, hns]
   have he0 : ByteArray.empty.data = #[] := rfl
   rw [he0]; simp
  ·have := VRel.str (ρ := ρ) ⟨s.toArray⟩
   simpa using this

theorem b2s_empty {src dst el : TypeId} (hs : P.underlying src = some (.slice el)) (he : P.underlying el = some (.int .u8)) (hd : P.underlying dst = some .string)
  {x : Value} {x' : IV} (hx : VRel ρ x x') (hn : ilen x' = some 0) : Answers P (convert src dst x) w ρ (.str []) := by
 have hv := VRel.str (ρ := ρ) ByteArray.empty
 refine ⟨.string ByteArray.empty, ?_, hv⟩
 obtain ⟨ad, c, rfl, _, _⟩ := ilen_rel hx hn
 ·rw [run_convert_bytes_string w src dst el _ 0 c hs he hd]
  cases ad with
  | none => simp [Conv.bytesToString]
  | some ad =>
   have := run_bytesToString (P := P) w ad 0 c [] (by simp [loadCells, loadCellsFrom])
   simpa using this

theorem sliceBound_sound {x : Value} {k : IntKind} {n : Int} {y : Nat} (code : BoundsCode) (hx : VRel ρ x (.int k n)) (h0 : 0 ≤ n) (h1 : n ≤ y) : (Instr.sliceBound x y code).run P w = .ok n.toNat w := by
 cases hx
 simp [Instr.sliceBound, asIntOf, h0, h1]

theorem obound_int {len : Nat} {x : CX} {d m : Nat} (ho : obound len (some x) e d = some m) : ∃ k n, x.ev e = .int k n ∧ 0 ≤ n ∧ n ≤ len ∧ n.toNat = m := by
 unfold obound at ho
 split at ho
 ·rename_i h0; cases h0
 ·rename_i x1 h0
  cases h0
  split at ho
  ·rename_i k n hx
   split at ho
   ·rename_i hb; exact ⟨k, n, hx, hb.1, hb.2, Option.some.inj ho⟩
   ·cases ho
  ·cases ho

theorem obound_le {len : Nat} {x : Option CX} {d m : Nat} (ho : obound len x e d = some m) (hd : d ≤ len) : m ≤ len := by
 cases x with
 | none => simp [obound] at ho; omega
 | some x => obtain ⟨k, n, _, h0, h1, rfl⟩ := obound_int ho; omega

theorem oarg_sound (ha : ARel ρ N a e) {x0 : Option Operand} {x : Option CX} (hx : ocx x0 = some x) {len d m : Nat} (ho : obound len x e d = some m) :
  (x0 = none ∧ m = d) ∨ (∃ x1, x0 = some x1 ∧ ∀ (y : Nat) code, len ≤ y → (Instr.sliceBound (a.eval x1) y code).run P w = .ok m w) := by
 cases x0 with
 | none => simp [ocx] at hx; subst hx; simp [obound] at ho; exact .inl ⟨rfl, ho.symm⟩
 | some x1 =>
  simp [ocx] at hx
  obtain ⟨x, hx, rfl⟩ := hx
  obtain ⟨k, n, he, h0, h1, rfl⟩ := obound_int ho
  have hr := cx_rel hx ha
  rw [he] at hr
  exact .inr ⟨x1, rfl, fun y code hy => sliceBound_sound code hr h0 (by omega)⟩

theorem bounds2_sound (ha : ARel ρ N a e) {lo0 hi0 : Option Operand} {lo hi : Option CX} (hlo : ocx lo0 = some lo) (hhi : ocx hi0 = some hi) {n c p q : Nat} (isSlice : Bool) (hq : obound n hi e n = some q) (hp : obound q lo e 0 = some p) (hc : n ≤ c) :
  (Instr.sliceBounds isSlice n c (lo0.map a.eval) (hi0.map a.eval) none).run P w = .ok (p, q, c) w := by
 rcases oarg_sound (P := P) (w := w) ha hlo hp with ⟨rfl, rfl⟩ | ⟨x1, rfl, h1⟩ <;>
 rcases oarg_sound (P := P) (w := w) ha hhi hq with ⟨rfl, rfl⟩ | ⟨x2, rfl, h2⟩
 ·simp [Instr.sliceBounds]
 ·simp [Instr.sliceBounds, h2 c _ hc]
 ·simp [Instr.sliceBounds, h1 _ _ (Nat.le_refl _)]
 ·simp [Instr.sliceBounds, h1 _ _ (Nat.le_refl _), h2 c _ hc]

theorem bounds3_sound (ha : ARel ρ N a e) {lo0 : Option Operand} {hi0 mx0 : Operand} {lo : Option CX} {hi mx : CX} (hlo : ocx lo0 = some lo) (hhi : cx hi0 = some hi) (hmx : cx mx0 = some mx) {n c p q m : Nat} (isSlice : Bool)
  (hm : obound n (some mx) e n = some m) (hq : obound m (some hi) e n = some q) (hp : obound q lo e 0 = some p) (hc : n ≤ c) :
  (Instr.sliceBounds isSlice n c (lo0.map a.eval) (some (a.eval hi0)) (some (a.eval mx0))).run P w = .ok (p, q, m) w := by
 rcases oarg_sound (P := P) (w := w) (x0 := some mx0) ha (by simp [ocx, hmx]) hm with ⟨h0, _⟩ | ⟨x1, h0, h1⟩
 ·cases h0
 cases h0
 rcases oarg_sound (P := P) (w := w) (x0 := some hi0) ha (by simp [ocx, hhi]) hq with ⟨h0, _⟩ | ⟨x2, h0, h2⟩
 ·cases h0
 cases h0
 rcases oarg_sound (P := P) (w := w) ha hlo hp with ⟨rfl, rfl⟩ | ⟨x3, rfl, h3⟩
 ·simp [Instr.sliceBounds, h1 c _ hc, h2 m _ (Nat.le_refl _)]
 ·simp [Instr.sliceBounds, h1 c _ hc, h2 m _ (Nat.le_refl _), h3 q _ (Nat.le_refl _)]

theorem str_extract (s : ByteArray) (p q : Nat) (hq : q ≤ s.data.toList.length) : (s.extract p q).data.toList = (s.data.toList.take q).drop p := by
 obtain ⟨⟨l⟩⟩ := s
 have h := ByteArray.extract_mk l p q
 have h2 : (ByteArray.mk ⟨l⟩) = ByteArray.mk l.toArray := rfl
 rw [h2, h]
 simp only [List.drop_take]

theorem slcS_sound (ha : ARel ρ N a e) {t : TypeId} (ht : P.underlying t = some .string) {lo0 hi0 : Option Operand} {lo hi : Option CX} (hlo : ocx lo0 = some lo) (hhi : ocx hi0 = some hi)
  {x : Value} {s : List UInt8} (hx : VRel ρ x (.str s)) {p q : Nat} (hq : obound s.length hi e s.length = some q) (hp : obound q lo e 0 = some p) :
  Answers P (Instr.sliceAt t x (lo0.map a.eval) (hi0.map a.eval) none) w ρ (.str ((s.take q).drop p)) := by
 generalize hs : IV.str s = s' at hx
 cases hx <;> cases hs
 rename_i s
 have hb := bounds2_sound (P := P) (w := w) ha hlo hhi (n := s.size) (c := s.size) false (by rw [size_list] at hq; exact hq) hp (Nat.le_refl _)
 have hqle := obound_le hq (Nat.le_refl _)
 rw [← str_extract s p q hqle]
 have hrun : (Instr.sliceAt t (.string s) (lo0.map a.eval) (hi0.map a.eval) none).run P w = .ok (.string (s.extract p q)) w := by
  unfold Instr.sliceAt Instr.slice
  simp [run_underlying ht, hb]
 exact ⟨_, hrun, VRel.str _⟩

theorem slc_sound (hw : WRel ρ B w h) {t el : TypeId} {sz : Nat} (ht : P.underlying t = some (.slice el)) (hsz : tsz P el = some sz) {lo0 hi0 mx0 : Option Value}
  {x : Value} {x' v : IV} (hx : VRel ρ x x') {n p q : Nat} {m : Option Nat} (hn : ilen x' = some n)
  (hb : ∀ c, n ≤ c → (Instr.sliceBounds true n c lo0 hi0 mx0).run P w = .ok (p, q, m.getD c) w) (hv : islc h sz x' p q m = some v) :
  Answers P (Instr.sliceAt t x lo0 hi0 mx0) w ρ v := by
 unfold islc at hv
 split at hv
 ·rename_i l i n'
  simp [ilen] at hn
  subst hn
  cases hx with
  | @slice l i n c r hr hn hc hm =>
   split at hv
   ·rename_i hcond
    obtain ⟨hpq, hqn, hls⟩ := hcond
    have hrsz : r.sz = sz := by
     have := hw.obj l r hr
     unfold IH.size at hls
     cases ho : h.obj l with
     | dead => rw [ho] at hls; simp at hls
     | rows rs e' sz' ro =>
      rw [ho] at hls this
      simp at hls
      subst hls
      obtain ⟨_, _, _, _, hrel⟩ := this
      exact hrel.hsz
    have hrun : (Instr.sliceAt t (.slice (some ⟨r.block, r.base + i * r.sz, none⟩) n' c) lo0 hi0 mx0).run P w =
      .ok (.slice (if m.getD c = p then some ⟨r.block, r.base + i * r.sz, none⟩ else some ⟨r.block, r.base + (i + p) * r.sz, none⟩) (q - p) (m.getD c - p)) w := by
     simp only [Instr.sliceAt, Instr.slice, run_underlying ht, Sem.run_bind, Result.andThen_ok, hb c hn, run_sizeOf' hsz, Sem.run_pure]
     congr 2
     split
     ·rfl
     ·simp [addr_add, hrsz, Nat.add_mul, Nat.add_assoc]
    refine ⟨_, hrun, ?_⟩
    cases m with
    | none =>
     simp only at hv
     obtain rfl := Option.some.inj hv
     simp only [Option.getD_none]
     by_cases hqp : q = p ∧ p ≠ 0
     ·obtain ⟨rfl, hp0⟩ := hqp
      rw [Nat.sub_self, if_pos (show q = q ∧ q ≠ 0 from ⟨rfl, hp0⟩)]
      split <;> exact .eslice (fun h => by cases h) (by omega)
     ·rw [if_neg hqp]
      by_cases hcp : c = p
      ·obtain rfl : p = 0 := by
        by_cases h0 : p = 0
        ·exact h0
        ·exact absurd ⟨by omega, h0⟩ hqp
       rw [if_pos hcp]
       exact .slice (i := i) hr (by omega) (by omega) (by omega)
      ·rw [if_neg hcp]
       exact .slice hr (by omega) (by omega) (by omega)
    | some m =>
     simp only at hv
     split at hv
     ·rename_i hmm
      obtain rfl := Option.some.inj hv
      simp only [Option.getD_some]
      by_cases hqp : q = p
      ·subst hqp
       rw [Nat.sub_self, if_pos rfl]
       split <;> exact .eslice (fun h => by simp at h; omega) (by omega)
      ·rw [if_neg hqp, if_neg (by omega)]
       exact .slice hr (by omega) (by omega) (by omega)
     ·cases hv
   ·cases hv
 ·rename_i z
  simp [ilen] at hn
  subst hn
  cases hx with
  | @eslice ad c z hz hc =>
   split at hv
   ·rename_i hcond
    obtain ⟨rfl, rfl, hm⟩ := hcond
    obtain rfl := Option.some.inj hv
    have hrun : ∃ ad', (Instr.sliceAt t (.slice (some ad) 0 c) lo0 hi0 mx0).run P w = .ok (.slice (some ad') 0 (m.getD c)) w := by
     simp only [Instr.sliceAt, Instr.slice, run_underlying ht, Sem.run_bind, Result.andThen_ok, hb c (Nat.zero_le _), run_sizeOf' hsz, Sem.run_pure]
     split
     ·exact ⟨_, rfl⟩
     ·exact ⟨_, rfl⟩
    obtain ⟨ad', hrun⟩ := hrun
    refine ⟨_, hrun, ?_⟩
    rcases hm with rfl | rfl
    ·simp only [Option.getD_none, Option.isSome_none, Bool.or_false]; exact .eslice hz hc
    ·simp only [Option.getD_some]; exact .eslice (fun _ => rfl) (Nat.zero_le _)
   ·cases hv
 ·simp [ilen] at hn
  subst hn
  cases hx
  split at hv
  ·rename_i hcond
   obtain ⟨rfl, rfl, hm⟩ := hcond
   obtain rfl := Option.some.inj hv
   have hm0 : m.getD 0 = 0 := by rcases hm with rfl | rfl <;> rfl
   refine ⟨.slice none 0 0, ?_, VRel.nilslice⟩
   have h0 := hb 0 (Nat.le_refl _)
   rw [hm0] at h0
   simp [Instr.sliceAt, Instr.slice, run_underlying ht, h0, run_sizeOf' hsz]
  ·cases hv
 ·cases hv

end
end Go.IW

namespace Go.IW
open Go.RowKit

def Gives (P : Program) (o : Oper) (a : Act) (w : World) (ρ : List RLoc) (v : IV) : Prop := ∃ v', (execOp a.eval o).run P w = .ok (.value v') w ∧ VRel ρ v' v

section
variable {P : Program} {ρ : List RLoc} {B : Nat} {w : World} {h : IH} {N : Nat} {a : Act} {e : Env}

theorem Answers.gives {s : Sem Value} {v : IV} (hs : Answers P s w ρ v) : ∃ v', (Bind.bind s (fun x => (Pure.pure (Next.value x) : Sem Next))).run P w = .ok (Next.value v') w ∧ VRel ρ v' v := by
 obtain ⟨v', h1, h2⟩ := hs
 exact ⟨v', by simp [h1], h2⟩

theorem cxs_rel (ha : ARel ρ N a e) : ∀ {l : List Operand} {l' : List CX}, cxs l = some l' → LRel ρ (l.map a.eval) (l'.map (CX.ev e))
 | [], l', h => by simp [cxs] at h; subst h; exact LRel.nil ρ
 | x :: l, l', h => by
  simp only [cxs] at h
  split at h
  ·rename_i x' l1 h1 h2
   obtain rfl := Option.some.inj h
   exact LRel.cons (cx_rel h1 ha) (cxs_rel ha h2)
  ·cases h

theorem placesS_rel (ha : ARel ρ N a e) {fs : Array Field} : ∀ {l : List (Nat × Operand)} {l' : List (Nat × Nat × CX)}, placesS P fs l = some l' →
  l.length = l'.length ∧ ∀ (i : Nat) p q, l[i]? = some p → l'[i]? = some q → (∃ f, fs[p.1]? = some f ∧ f.offset = q.1 ∧ tsz P f.type = some q.2.1) ∧ VRel ρ (a.eval p.2) (q.2.2.ev e)
 | [], l', h => by simp [placesS] at h; subst h; simp
 | (i, x) :: r, l', h => by
  simp only [placesS] at h
  split at h
  ·rename_i f x' r' h1 h2 h3
   rw [Option.map_eq_some_iff] at h
   obtain ⟨n, hn, rfl⟩ := h
   obtain ⟨hl, ih⟩ := placesS_rel ha h3
   refine ⟨by simp [hl], fun j p q hp hq => ?_⟩
   cases j with
   | zero => simp at hp hq; subst hp; subst hq; exact ⟨⟨f, h1, rfl, hn⟩, cx_rel h2 ha⟩
   | succ j => simp at hp hq; exact ih j p q hp hq
  ·cases h

theorem placesA_rel (ha : ARel ρ N a e) {sz : Nat} : ∀ {l : List (Nat × Operand)} {l' : List (Nat × Nat × CX)}, placesA sz l = some l' →
  l.length = l'.length ∧ ∀ (i : Nat) p q, l[i]? = some p → l'[i]? = some q → (q.1 = p.1 * sz ∧ q.2.1 = sz) ∧ VRel ρ (a.eval p.2) (q.2.2.ev e)
 | [], l', h => by simp [placesA] at h; subst h; simp
 | (i, x) :: r, l', h => by
  simp only [placesA] at h
  split at h
  ·rename_i x' r' h2 h3
   obtain rfl := Option.some.inj h
   obtain ⟨hl, ih⟩ := placesA_rel ha h3
   refine ⟨by simp [hl], fun j p q hp hq => ?_⟩
   cases j with
   | zero => simp at hp hq; subst hp; subst hq; exact ⟨⟨rfl, rfl⟩, cx_rel h2 ha⟩
   | succ j => simp at hp hq; exact ih j p q hp hq
  ·cases h

theorem zeroOf_rel {t : TypeId} {z' : List IV} (h : zeroOf P t = some z') (ρ : List RLoc) : ∃ z, (zeroValue t).run P w = .ok z w ∧ LRel ρ z.cells.toList z' ∧ (P.info? t).bind (·.zero) = some z := by
 unfold zeroOf at h
 split at h
 ·rename_i z hz
  refine ⟨z, ?_, cvs_rel h ρ, hz⟩
  cases hi : P.info? t with
  | none => rw [hi] at hz; cases hz
  | some i => rw [hi] at hz; simp at hz; simp [zeroValue, typeInfo, hi, hz]
 ·cases h

theorem run_mapM_places {fs : Array Field} (h : allTsz P fs = true) : ∃ ps : Array (Nat × Nat), (fs.mapM fun f => do pure (f.offset, ← sizeOf f.type) : Sem (Array (Nat × Nat))).run P w = .ok ps w ∧
  ∀ (i : Nat) f n, fs[i]? = some f → tsz P f.type = some n → ps[i]? = some (f.offset, n) := by
 have hall : ∀ f ∈ fs.toList, ∃ n, tsz P f.type = some n := by
  intro f hf
  unfold allTsz at h
  have := List.all_eq_true.1 h f hf
  exact Option.isSome_iff_exists.1 this
 have key : ∀ (l : List Field), (∀ f ∈ l, ∃ n, tsz P f.type = some n) → ∃ ps : List (Nat × Nat), (l.mapM fun f => do pure (f.offset, ← sizeOf f.type) : Sem (List (Nat × Nat))).run P w = .ok ps w ∧
   ∀ (i : Nat) f n, l[i]? = some f → tsz P f.type = some n → ps[i]? = some (f.offset, n) := by
  intro l
  induction l with
  | nil => intro _; exact ⟨[], by simp, fun i f n hi => by simp at hi⟩
  | cons f l ih =>
   intro hl
   obtain ⟨n, hn⟩ := hl f (List.mem_cons_self)
   obtain ⟨ps, h1, h2⟩ := ih (fun g hg => hl g (List.mem_cons_of_mem _ hg))
   refine ⟨(f.offset, n) :: ps, ?_, fun i g m hi hm => ?_⟩
   ·simp only [List.mapM_cons, Sem.run_bind, run_sizeOf' hn, Result.andThen_ok, Sem.run_pure, h1]
   ·cases i with
    | zero => simp at hi; subst hi; rw [hn] at hm; cases hm; rfl
    | succ i => simp at hi ⊢; exact h2 i g m hi hm
 obtain ⟨ps, h1, h2⟩ := key fs.toList hall
 refine ⟨ps.toArray, ?_, fun i f n hi hn => by simpa using h2 i f n (by simpa using hi) hn⟩
 rw [Array.mapM_eq_mapM_toList, Sem.run_map, h1]
 rfl

theorem ibin_plain {op : BinOp} {x : Value} {x' y' v : IV} (hx : VRel ρ x x') (hv : ibin op x' y' = some v) : (x ≠ .nilIface ∧ ∀ cs, x ≠ .agg cs) ∧ True := by
 refine ⟨?_, trivial⟩
 cases hx <;> simp [ibin] at hv <;> simp
theorem ibinB_plain {g : Bool} {x : Value} {x' y' v : IV} (hx : VRel ρ x x') (hv : ibinB g x' y' = some v) : x ≠ .nilIface ∧ ∀ cs, x ≠ .agg cs := by
 cases hx <;> simp [ibinB] at hv <;> simp
theorem eqGuard_plain {op : BinOp} {t : TypeId} {x y : Operand} {p q : Value} (hp : p ≠ .nilIface ∧ ∀ cs, p ≠ .agg cs) : (eqGuard op t x y p q).run P w = .ok () w := by
 cases p <;> first
  | exact absurd rfl hp.1
  | exact absurd rfl (hp.2 _)
  | (cases op <;> simp [eqGuard])
theorem eqGuard_nil {op : BinOp} {k : NK} {t : TypeId} {x y : Operand} {p q : Value} {p' : IV} {b : Bool} (hp : VRel ρ p p') (hn : isNil k p' = some b) (hc : k = .iface → (isConstO x || isConstO y) = true) :
  (eqGuard op t x y p q).run P w = .ok () w := by
 cases hp with
 | niliface =>
  have hk : k = .iface := by cases k <;> simp [isNil] at hn; rfl
  have h1 := hc hk
  cases q <;> first
   | (cases op <;> simp [eqGuard]; done)
   | (cases x <;> cases y <;> simp [isConstO] at h1 <;> cases op <;> simp [eqGuard])
 | agg hl h => cases k <;> simp [isNil] at hn
 | _ => cases op <;> simp [eqGuard]
theorem size_rel (hw : WRel ρ B w h) {l : Nat} {r : RLoc} {n : Nat} (hr : ρ[l]? = some r) (hs : h.size l = some n) : r.sz = n := by
 have := hw.obj l r hr
 unfold IH.size at hs
 cases ho : h.obj l with
 | dead => rw [ho] at hs; simp at hs
 | rows rs e' sz' ro =>
  rw [ho] at hs this
  simp at hs
  subst hs
  obtain ⟨_, _, _, _, hrel⟩ := this
  exact hrel.hsz

theorem fk_sound (hw : WRel ρ B w h) (ha : ARel ρ N a e) {o : Oper} {ck : FK} {v : IV} (hc : fcomp P o.op = some ck) (hv : feval e h ck = some v) : Gives P o a w ρ v := by
 unfold Gives
 generalize hop : o.op = op at hc
 unfold fcomp at hc
 split at hc
 ·-- move
  rw [Option.map_eq_some_iff] at hc; obtain ⟨x', hx, rfl⟩ := hc
  simp only [feval] at hv; obtain rfl := Option.some.inj hv
  exact ⟨_, by simp [execOp, hop], cx_rel hx ha⟩
 ·-- assign
  rw [Option.map_eq_some_iff] at hc; obtain ⟨x', hx, rfl⟩ := hc
  simp only [feval] at hv; obtain rfl := Option.some.inj hv
  exact ⟨_, by simp [execOp, hop], cx_rel hx ha⟩
 ·-- pick
  split at hc
  ·rename_i c' a' b' h1 h2 h3
   obtain rfl := Option.some.inj hc
   have r1 := cx_rel h1 ha
   simp only [feval] at hv
   split at hv
   ·rename_i hb
    obtain rfl := Option.some.inj hv
    rw [hb] at r1
    generalize hcv : a.eval _ = cv at r1
    cases r1
    exact ⟨_, by simp [execOp, hop, asBool, hcv], cx_rel h2 ha⟩
   ·rename_i hb
    obtain rfl := Option.some.inj hv
    rw [hb] at r1
    generalize hcv : a.eval _ = cv at r1
    cases r1
    exact ⟨_, by simp [execOp, hop, asBool, hcv], cx_rel h3 ha⟩
   ·cases hv
  ·cases hc
 ·-- build
  rename_i t parts
  split at hc
  ·rename_i fs z' ht hz
   split at hc
   ·rename_i hall
    rw [Option.map_eq_some_iff] at hc; obtain ⟨ps', hps, rfl⟩ := hc
    simp only [feval] at hv
    rw [Option.map_eq_some_iff] at hv; obtain ⟨out, hout, rfl⟩ := hv
    obtain ⟨z, hz1, hz2, _⟩ := zeroOf_rel (w := w) hz ρ
    obtain ⟨pl, hpl1, hpl2⟩ := run_mapM_places (w := w) hall
    obtain ⟨hl, hp⟩ := placesS_rel ha hps
    obtain ⟨cells, hc1, hc2⟩ := fill_sound (ρ := ρ) (pl[·]?) (parts.toList.map fun p => (p.1, a.eval p.2)) (ps'.map fun p => (p.1, p.2.1, p.2.2.ev e)) z.cells.toList z' out (by simp [hl])
     (fun i p q h1 h2 => by
      rw [List.getElem?_map, Option.map_eq_some_iff] at h1 h2
      obtain ⟨p0, hp0, rfl⟩ := h1
      obtain ⟨q0, hq0, rfl⟩ := h2
      obtain ⟨⟨f, hf1, hf2, hf3⟩, hr⟩ := hp i p0 q0 hp0 hq0
      exact ⟨by rw [← hf2]; exact hpl2 _ f _ hf1 hf3, hr⟩) hz2 hout
    have hparts : (parts.map fun p => (p.1, a.eval p.2)).toList = parts.toList.map fun p => (p.1, a.eval p.2) := by simp
    refine ⟨.agg cells.toArray, ?_, LRel.agg (by simpa using hc2)⟩
    have hzt : z.cells.toList.toArray = z.cells := by simp
    rw [hzt] at hc1
    simp only [execOp, hop, Instr.build, Sem.run_bind, hz1, Result.andThen_ok, run_underlying ht, hpl1, hparts, hc1, Sem.run_pure]
   ·cases hc
  ·rename_i len el z' ht hz
   split at hc
   ·rename_i sz hsz
    rw [Option.map_eq_some_iff] at hc; obtain ⟨ps', hps, rfl⟩ := hc
    simp only [feval] at hv
    rw [Option.map_eq_some_iff] at hv; obtain ⟨out, hout, rfl⟩ := hv
    obtain ⟨z, hz1, hz2, _⟩ := zeroOf_rel (w := w) hz ρ
    obtain ⟨hl, hp⟩ := placesA_rel ha hps
    obtain ⟨cells, hc1, hc2⟩ := fill_sound (ρ := ρ) (fun i => some (i * sz, sz)) (parts.toList.map fun p => (p.1, a.eval p.2)) (ps'.map fun p => (p.1, p.2.1, p.2.2.ev e)) z.cells.toList z' out (by simp [hl])
     (fun i p q h1 h2 => by
      rw [List.getElem?_map, Option.map_eq_some_iff] at h1 h2
      obtain ⟨p0, hp0, rfl⟩ := h1
      obtain ⟨q0, hq0, rfl⟩ := h2
      obtain ⟨⟨hf1, hf2⟩, hr⟩ := hp i p0 q0 hp0 hq0
      exact ⟨by simp [hf1, hf2], hr⟩) hz2 hout
    have hparts : (parts.map fun p => (p.1, a.eval p.2)).toList = parts.toList.map fun p => (p.1, a.eval p.2) := by simp
    refine ⟨.agg cells.toArray, ?_, LRel.agg (by simpa using hc2)⟩
    have hzt : z.cells.toList.toArray = z.cells := by simp
    rw [hzt] at hc1
    simp only [execOp, hop, Instr.build, Sem.run_bind, hz1, Result.andThen_ok, run_underlying ht, run_sizeOf' hsz, hparts, hc1, Sem.run_pure]
   ·cases hc
  ·cases hc
 ·-- load
  split at hc
  ·rename_i d n x' ht hn hx
   obtain rfl := Option.some.inj hc
   have hr := cx_rel hx ha
   cases hagg : isAggD d
   ·simp only [hagg, feval, Bool.false_eq_true, if_false] at hv
    split at hv
    ·rename_i l i k hp
     rw [hp] at hr
     simpa [execOp, hop] using (ld_sound hw ht hagg hr hv).gives
    ·cases hv
   ·simp only [hagg, feval, if_true] at hv
    split at hv
    ·rename_i l i k hp
     rw [hp] at hr
     split at hv
     ·rename_i row hrow
      split at hv
      ·rename_i hk
       obtain rfl := Option.some.inj hv
       simpa [execOp, hop] using (ldA_sound hw ht hagg hn hr hrow hk).gives
      ·cases hv
     ·cases hv
    ·cases hv
  ·cases hc
 ·-- nilCheck
  rw [Option.map_eq_some_iff] at hc; obtain ⟨x', hx, rfl⟩ := hc
  have hr := cx_rel hx ha
  simp only [feval] at hv
  rename_i x
  generalize hax : a.eval x = xv at hr
  split at hv
  all_goals first
   | (rename_i hp; rw [hp] at hr; obtain rfl := Option.some.inj hv; refine ⟨xv, ?_, hr⟩; cases hr <;> simp [execOp, hop, hax]; done)
   | cases hv
 ·-- binOp
  rename_i bop t x y yt
  split at hc
  ·rename_i k x' y' ht hx hy
   obtain rfl := Option.some.inj hc
   simp only [feval] at hv
   obtain ⟨v', h1, h2⟩ := ibin_sound (P := P) (w := w) (t := t) (cx_rel hx ha) (cx_rel hy ha) hv
   refine ⟨v', ?_, h2⟩
   simp only [execOp, hop, Sem.run_bind, eqGuard_plain (ibin_plain (cx_rel hx ha) hv).1, Result.andThen_ok, h1, Sem.run_pure]
  ·rename_i x' y' ht hx hy
   obtain rfl := Option.some.inj hc
   simp only [feval] at hv
   obtain ⟨v', h1, h2⟩ := ibin_sound (P := P) (w := w) (t := t) (cx_rel hx ha) (cx_rel hy ha) hv
   refine ⟨v', ?_, h2⟩
   simp only [execOp, hop, Sem.run_bind, eqGuard_plain (ibin_plain (cx_rel hx ha) hv).1, Result.andThen_ok, h1, Sem.run_pure]
  ·rename_i x' y' ht hx hy
   rw [Option.map_eq_some_iff] at hc; obtain ⟨g, hg, rfl⟩ := hc
   simp only [feval] at hv
   obtain ⟨v', h1, h2⟩ := ibinB_sound (P := P) (w := w) (cx_rel hx ha) (cx_rel hy ha) hg hv ht
   refine ⟨v', ?_, h2⟩
   simp only [execOp, hop, Sem.run_bind, eqGuard_plain (ibinB_plain (cx_rel hx ha) hv), Result.andThen_ok, h1, Sem.run_pure]
  ·rename_i d x' y' hd1 hd2 hd3 ht hx hy
   split at hc
   ·rename_i k g hk hg
    split at hc
    ·cases hc
    ·rename_i hconst
     obtain rfl := Option.some.inj hc
     simp only [feval] at hv
     have hnil : ∃ p q, isNil k (x'.ev e) = some p ∧ isNil k (y'.ev e) = some q ∧ (p = true ∨ q = true) ∧ v = .bool ((p && q) != g) := by
      split at hv
      ·rename_i q h1 h2; exact ⟨true, q, h1, h2, .inl rfl, by have := Option.some.inj hv; simp [← this]⟩
      ·rename_i p _ h1 h2; exact ⟨p, true, h1, h2, .inr rfl, by have := Option.some.inj hv; simp [← this]⟩
      ·cases hv
     obtain ⟨p, q, hp, hq, hpq, rfl⟩ := hnil
     obtain ⟨v', h1, h2⟩ := eqn_sound (P := P) (w := w) (cx_rel hx ha) (cx_rel hy ha) hg ht hk hp hq hpq
     refine ⟨v', ?_, h2⟩
     have hgu : (eqGuard bop t x y (a.eval x) (a.eval y)).run P w = .ok () w := by
      apply eqGuard_nil (cx_rel hx ha) hp
      intro hki
      subst hki
      cases hx1 : isConstO x <;> cases hy1 : isConstO y <;> simp_all
     simp only [execOp, hop, Sem.run_bind, hgu, Result.andThen_ok, h1, Sem.run_pure]
   ·cases hc
  ·cases hc
 ·-- unOp
  rw [Option.map_eq_some_iff] at hc; obtain ⟨x', hx, rfl⟩ := hc
  simp only [feval] at hv
  simpa [execOp, hop] using (iun_sound (P := P) (w := w) (cx_rel hx ha) hv).gives
 ·-- convert
  split at hc
  ·rename_i k1 k x' hs hd hx
   obtain rfl := Option.some.inj hc
   simp only [feval] at hv
   split at hv
   ·rename_i k0 n hp
    have hr := cx_rel hx ha
    rw [hp] at hr
    obtain rfl := Option.some.inj hv
    generalize hax : a.eval _ = xv at hr
    cases hr
    exact ⟨_, by simp [execOp, hop, hax, convert, run_underlying hs, run_underlying hd, Conv.intToInt]; rfl, VRel.int _ _⟩
   ·cases hv
  ·rename_i x' hs hd hx
   obtain rfl := Option.some.inj hc
   simp only [feval] at hv
   split at hv
   ·rename_i s hp
    have hr := cx_rel hx ha
    rw [hp] at hr
    obtain rfl := Option.some.inj hv
    generalize hax : a.eval _ = xv at hr
    generalize hsv : IV.str s = sv at hr
    cases hr <;> cases hsv
    exact ⟨_, by simp [execOp, hop, hax, convert, run_underlying hs, run_underlying hd], VRel.str _⟩
   ·cases hv
  ·rename_i el x' hs hd hx
   split at hc
   ·rename_i he
    obtain rfl := Option.some.inj hc
    simp only [feval] at hv
    have hr := cx_rel hx ha
    split at hv
    ·rename_i hp; rw [hp] at hr; obtain rfl := Option.some.inj hv
     simpa [execOp, hop] using (b2s_empty (P := P) (w := w) hs he hd hr rfl).gives
    ·rename_i hp; rw [hp] at hr; obtain rfl := Option.some.inj hv
     simpa [execOp, hop] using (b2s_empty (P := P) (w := w) hs he hd hr rfl).gives
    ·rename_i l i n hp; rw [hp] at hr
     split at hv
     ·rename_i rs t sz ro hobj
      split at hv
      ·rename_i hcond
       obtain ⟨rfl, hin⟩ := hcond
       rw [Option.map_eq_some_iff] at hv; obtain ⟨s, hs', rfl⟩ := hv
       simpa [execOp, hop] using (b2s_sound hw hs he hd hr hobj hin hs').gives
      ·cases hv
     ·cases hv
    ·cases hv
   ·cases hc
  ·cases hc
 ·-- extract
  rw [Option.map_eq_some_iff] at hc; obtain ⟨x', hx, rfl⟩ := hc
  simp only [feval] at hv
  split at hv
  ·rename_i vs hp
   have hr := cx_rel hx ha
   rw [hp] at hr
   obtain ⟨cs, hcs, hl⟩ := hr.of_tuple
   obtain ⟨v', h1, h2⟩ := hl.of_get' hv
   rw [Array.getElem?_toList] at h1
   exact ⟨v', by simp [execOp, hop, hcs, Instr.extract, h1], h2⟩
  ·cases hv
 ·-- field
  split at hc
  ·rename_i fs x' ht hx
   split at hc
   ·rename_i f hf
    split at hc
    ·rename_i d n hd hn
     obtain rfl := Option.some.inj hc
     simp only [feval] at hv
     split at hv
     ·rename_i cs' hp
      have hr := cx_rel hx ha
      rw [hp] at hr
      obtain ⟨cs, hcs, hl⟩ := hr.of_agg
      obtain ⟨v', h1, h2⟩ := part_sound (P := P) (w := w) hd hn hl hv
      exact ⟨v', by simp [execOp, hop, Instr.field, run_underlying ht, hf, hcs, asAgg, h1], h2⟩
     ·cases hv
    ·cases hc
   ·cases hc
  ·cases hc
 ·-- fieldAddr
  split at hc
  ·rename_i fs x' ht hx
   split at hc
   ·rename_i f hf
    split at hc
    ·rename_i n hn
     obtain rfl := Option.some.inj hc
     simp only [feval] at hv
     split at hv
     ·rename_i l i k hp
      have hr := cx_rel hx ha
      rw [hp] at hr
      obtain rfl := Option.some.inj hv
      generalize hax : a.eval _ = xv at hr
      cases hr with
      | @ptr l i k r hr =>
       refine ⟨.pointer (some ⟨r.block, r.base + i * r.sz + (k + f.offset), none⟩), ?_, VRel.ptr hr⟩
       simp [execOp, hop, hax, Instr.fieldAt, run_underlying ht, hf, Instr.sureAddr, fieldPlace, run_sizeOf' hn, addr_add, Nat.add_assoc]
     ·cases hv
    ·cases hc
   ·cases hc
  ·cases hc
 ·-- indexAddr
  split at hc
  ·rename_i el x' i' ht hx hi
   rw [Option.map_eq_some_iff] at hc; obtain ⟨n, hn, rfl⟩ := hc
   simp only [feval] at hv
   split at hv
   ·rename_i l j n1 k1 m hp hq
    split at hv
    ·rename_i hcond
     obtain ⟨h0, h1, hsz⟩ := hcond
     obtain rfl := Option.some.inj hv
     have hr := cx_rel hx ha
     rw [hp] at hr
     have hri := cx_rel hi ha
     rw [hq] at hri
     generalize hax : a.eval _ = xv at hr
     generalize hai : a.eval _ = iv at hri
     cases hri
     cases hr with
     | @slice l i n c r hr hn' hc hm =>
      have hrsz : r.sz = _ := size_rel hw hr hsz
      refine ⟨.pointer (some ⟨r.block, r.base + (j + m.toNat) * r.sz + 0, none⟩), ?_, VRel.ptr hr⟩
      simp [execOp, hop, hax, hai, Instr.indexAt, asIntOf, run_underlying ht, h0, h1, run_sizeOf' hn, addr_add, hrsz, Nat.add_mul, Nat.add_assoc]
    ·cases hv
   ·cases hv
  ·rename_i len el x' i' ht hx hi
   rw [Option.map_eq_some_iff] at hc; obtain ⟨n, hn, rfl⟩ := hc
   simp only [feval] at hv
   split at hv
   ·rename_i l j k k1 m hp hq
    split at hv
    ·rename_i hcond
     obtain ⟨h0, h1⟩ := hcond
     obtain rfl := Option.some.inj hv
     have hr := cx_rel hx ha
     rw [hp] at hr
     have hri := cx_rel hi ha
     rw [hq] at hri
     generalize hax : a.eval _ = xv at hr
     generalize hai : a.eval _ = iv at hri
     cases hri
     cases hr with
     | @ptr l i k r hr =>
      refine ⟨.pointer (some ⟨r.block, r.base + j * r.sz + (k + m.toNat * n), none⟩), ?_, VRel.ptr hr⟩
      simp [execOp, hop, hax, hai, Instr.indexAt, asIntOf, run_underlying ht, Instr.sureAddr, h0, h1, run_sizeOf' hn, addr_add, Nat.add_assoc]
    ·cases hv
   ·cases hv
  ·cases hc
 ·-- index
  split at hc
  ·rename_i x' i' ht hx hi
   obtain rfl := Option.some.inj hc
   simp only [feval] at hv
   split at hv
   ·rename_i s k1 m hp hq
    split at hv
    ·rename_i h0
     rw [Option.map_eq_some_iff] at hv; obtain ⟨b, hb, rfl⟩ := hv
     have hr := cx_rel hx ha
     rw [hp] at hr
     have hri := cx_rel hi ha
     rw [hq] at hri
     generalize hax : a.eval _ = xv at hr
     generalize hai : a.eval _ = iv at hri
     cases hri
     generalize hsv : IV.str s = sv at hr
     cases hr <;> cases hsv
     rename_i s
     refine ⟨_, ?_, VRel.int _ _⟩
     have hlt : m.toNat < s.size := by
      have := (List.getElem?_eq_some_iff.1 hb).1
      rw [size_list] at this; exact this
     have hget : s[m.toNat]? = some b := by
      rw [ByteArray.getElem?_lt' s _ hlt]
      have : s.data.toList[m.toNat]? = some (s[m.toNat]) := by
       rw [List.getElem?_eq_getElem (by rw [size_list]; exact hlt)]
       rfl
      rw [this] at hb
      exact hb
     simp [execOp, hop, hax, hai, Instr.index, asIntOf, run_underlying ht, h0, hget]
    ·cases hv
   ·cases hv
  ·rename_i len el x' i' ht hx hi
   split at hc
   ·rename_i d n hd hn
    obtain rfl := Option.some.inj hc
    simp only [feval] at hv
    split at hv
    ·rename_i cs' k1 m hp hq
     split at hv
     ·rename_i hcond
      obtain ⟨h0, h1⟩ := hcond
      have hr := cx_rel hx ha
      rw [hp] at hr
      have hri := cx_rel hi ha
      rw [hq] at hri
      generalize hai : a.eval _ = iv at hri
      cases hri
      obtain ⟨cs, hcs, hl⟩ := hr.of_agg
      obtain ⟨v', h2, h3⟩ := part_sound (P := P) (w := w) (off := m.toNat * n) hd hn hl hv
      exact ⟨v', by simp [execOp, hop, hcs, hai, Instr.index, asIntOf, run_underlying ht, h0, h1, run_sizeOf' hn, h2], h3⟩
     ·cases hv
    ·cases hv
   ·cases hc
  ·cases hc
 ·-- slice
  rename_i t x lo hi mx
  split at hc
  ·rename_i x' lo' hi' ht hx hlo hhi
   split at hc
   ·rename_i hmx
    obtain rfl := Option.some.inj hc
    simp only [feval] at hv
    split at hv
    ·rename_i s hp
     have hr := cx_rel hx ha
     rw [hp] at hr
     split at hv
     ·rename_i q hq
      split at hv
      ·rename_i p hpb
       obtain rfl := Option.some.inj hv
       have hmx' : mx = none := by simpa using hmx
       subst hmx'
       simpa [execOp, hop] using (slcS_sound (P := P) (w := w) ha ht hlo hhi hr hq hpb).gives
      ·cases hv
     ·cases hv
    ·cases hv
   ·cases hc
  ·rename_i el x' lo' hi' ht hx hlo hhi
   split at hc
   ·rename_i n mx' hn hmx
    obtain rfl := Option.some.inj hc
    simp only [feval] at hv
    have hr := cx_rel hx ha
    split at hv
    ·rename_i nn hlen
     cases mx with
     | none =>
      simp [ocx] at hmx; subst hmx
      simp only at hv
      split at hv
      ·rename_i q hq
       split at hv
       ·rename_i p hpb
        simpa [execOp, hop] using (slc_sound (P := P) hw ht hn (m := none) hr hlen (fun c hc => by simpa using bounds2_sound (P := P) (w := w) ha hlo hhi true hq hpb hc) hv).gives
       ·cases hv
      ·cases hv
     | some mx0 =>
      simp [ocx] at hmx
      obtain ⟨mx1, hmx1, rfl⟩ := hmx
      simp only at hv
      split at hv
      ·rename_i m hm
       split at hv
       ·rename_i q hq
        split at hv
        ·rename_i p hpb
         split at hv
         ·rename_i hsome
          cases hi with
          | none => simp [ocx] at hhi; subst hhi; simp at hsome
          | some hi0 =>
           simp [ocx] at hhi
           obtain ⟨hi1, hhi1, rfl⟩ := hhi
           simpa [execOp, hop] using (slc_sound (P := P) hw ht hn (m := some m) hr hlen (fun c hc => by simpa using bounds3_sound (P := P) (w := w) ha hlo hhi1 hmx1 true hm hq hpb hc) hv).gives
         ·cases hv
        ·cases hv
       ·cases hv
      ·cases hv
    ·cases hv
   ·cases hc
  ·cases hc
 ·-- makeInterface
  split at hc
  ·cases hc
  ·rename_i d x' hne ht hx
   obtain rfl := Option.some.inj hc
   simp only [feval] at hv
   obtain rfl := Option.some.inj hv
   refine ⟨.iface _ (a.eval _), ?_, VRel.iface _ (cx_rel hx ha)⟩
   simp only [execOp, hop, Instr.makeInterface, Sem.run_bind, run_underlying ht, Result.andThen_ok]
   simp
  ·cases hc
 ·-- makeFunc
  rename_i f first caps
  split at hc
  ·rename_i as0 cs h1 h2
   obtain rfl := Option.some.inj hc
   simp only [feval] at hv
   obtain rfl := Option.some.inj hv
   have r1 := cxs_rel ha h1
   have r2 := cxs_rel ha h2
   refine ⟨.func (.func f) (first.map a.eval) (caps.map a.eval), ?_, VRel.func f (as0 := first.map a.eval) (cs := caps.map a.eval) ?_ ?_ ?_ ?_⟩
   rotate_left 1
   ·simpa using r1.1
   ·simpa using r2.1
   ·exact fun i v v' hi hj => r1.2 i v v' (by simpa using hi) hj
   ·exact fun i v v' hi hj => r2.2 i v v' (by simpa using hi) hj
   ·simp [execOp, hop, Instr.makeFunc]
  ·cases hc
 ·-- len
  rename_i args argTypes
  split at hc
  ·rename_i x t hargs htys
   have e1 : args = #[x] := by cases args; simp_all
   have e2 : argTypes = #[t] := by cases argTypes; simp_all
   subst e1; subst e2
   split at hc
   ·rename_i el x' ht hx
    obtain rfl := Option.some.inj hc
    simp only [feval] at hv
    rw [Option.map_eq_some_iff] at hv; obtain ⟨n, hn, rfl⟩ := hv
    have hr := cx_rel hx ha
    obtain ⟨v', h1, h2⟩ := len_sound (P := P) (w := w) (ty := o.type) hr hn ht
    exact ⟨v', by simp [execOp, hop, resolve, invoke, builtin, h1], h2⟩
   ·rename_i x' ht hx
    obtain rfl := Option.some.inj hc
    simp only [feval] at hv
    split at hv
    ·rename_i s hp
     obtain rfl := Option.some.inj hv
     have hr := cx_rel hx ha
     rw [hp] at hr
     obtain ⟨v', h1, h2⟩ := lenS_sound (P := P) (w := w) (ty := o.type) hr ht
     exact ⟨v', by simp [execOp, hop, resolve, invoke, builtin, h1], h2⟩
    ·cases hv
   ·cases hc
  ·cases hc
 ·-- max
  rename_i args _
  split at hc
  ·rename_i x y hargs
   have e1 : args = #[x, y] := by cases args; simp_all
   subst e1
   split at hc
   ·rename_i x' y' hx hy
    obtain rfl := Option.some.inj hc
    simp only [feval] at hv
    split at hv
    ·rename_i k p k' q hp hq
     obtain rfl := Option.some.inj hv
     have hr := cx_rel hx ha
     rw [hp] at hr
     have hr2 := cx_rel hy ha
     rw [hq] at hr2
     generalize hax : a.eval x = xv at hr
     generalize hay : a.eval y = yv at hr2
     cases hr; cases hr2
     refine ⟨_, ?_, VRel.int _ _⟩
     simp [execOp, hop, resolve, invoke, builtin, Builtin.max_, Builtin.max2, hax, hay]
    ·cases hv
   ·cases hc
  ·cases hc
 ·-- min
  rename_i args _
  split at hc
  ·rename_i x y hargs
   have e1 : args = #[x, y] := by cases args; simp_all
   subst e1
   split at hc
   ·rename_i x' y' hx hy
    obtain rfl := Option.some.inj hc
    simp only [feval] at hv
    split at hv
    ·rename_i k p k' q hp hq
     obtain rfl := Option.some.inj hv
     have hr := cx_rel hx ha
     rw [hp] at hr
     have hr2 := cx_rel hy ha
     rw [hq] at hr2
     generalize hax : a.eval x = xv at hr
     generalize hay : a.eval y = yv at hr2
     cases hr; cases hr2
     refine ⟨_, ?_, VRel.int _ _⟩
     simp [execOp, hop, resolve, invoke, builtin, Builtin.min_, Builtin.min2, hax, hay]
    ·cases hv
   ·cases hc
  ·cases hc
 ·cases hc

end
end Go.IW

namespace Go.IW
open Go.RowKit

theorem VRel.one {ρ : List RLoc} {v : Value} {v' : IV} (h : VRel ρ v v') (h1 : v'.one = true) : v.oneCell' = true := by
 cases h <;> first | rfl | simp [IV.one] at h1

section
variable {P : Program} {ρ : List RLoc} {B : Nat} {w : World} {h : IH}

def Out (ρ : List RLoc) (B : Nat) (w : World) (K : IV → IH → Prop) (v' : Value) (w' : World) : Prop :=
 ∃ ρ' v h', ρ <+: ρ' ∧ WRel ρ' B w' h' ∧ VRel ρ' v' v ∧ Below B w w' ∧ K v h'

theorem heap_alloc_lt (w : World) (o : Obj) (k : Nat) (hk : k < w.heap.size) : (w.alloc o).heap[k]? = w.heap[k]? := by
 show (w.heap.push o)[k]? = _
 rw [Array.getElem?_push, if_neg (by omega)]

theorem new_rows (hw : WRel ρ B w h) (cells : Array Value) (e sz cap : Nat) (fz : Nat × Nat) (rs : List (List IV)) (hlen : cells.size = cap * sz) (hrs : rs.length ≤ cap) (each : ∀ row ∈ rs, row.length = sz)
  (one : ∀ row ∈ rs, ∀ v ∈ row, v.one = true) (hc : ∀ (i : Nat) row, rs[i]? = some row → RowAt ρ cells (i * sz) row) (hm : cap ≤ maxLen) (hfz : FzOk sz cells.size fz) :
  WRel (ρ ++ [⟨w.heap.size, 0, sz, cap⟩]) B (w.alloc (.cells cells e fz)) (h.push (.rows rs e sz false)) ∧ Below B w (w.alloc (.cells cells e fz)) := by
 refine ⟨hw.push (heap_alloc_lt w _) (by simp) (Nat.le_refl _) ?_, (Below.refl B w).alloc hw.base _⟩
 refine ⟨cells, e, fz, heap_alloc_new w _, rfl, by simp [hlen], hrs, each, one, fun i row hi => ?_, fun _ => ⟨rfl, hw.base, hfz, rfl, hm, hlen⟩⟩
 rw [Nat.zero_add]
 exact (hc i row hi).mono (List.prefix_append _ _)

theorem getlast_new (ρ : List RLoc) (r : RLoc) (h : IH) (hl : ρ.length = h.n) : (ρ ++ [r])[h.n]? = some r := by
 rw [← hl]; exact List.getElem?_concat_length

theorem box_out (hw : WRel ρ B w h) {v : Value} {v' : IV} (hv : VRel ρ v v') {e sz : Nat} (hsz : v'.cells.length = sz) (h1 : ∀ x ∈ v'.cells, x.one = true) {K : IV → IH → Prop}
  (hk : K (.ptr h.n 0 0) (h.push (.rows [v'.cells] e sz false))) : Out ρ B w K (.pointer (some ⟨w.heap.size, 0, none⟩)) (w.alloc (.cells v.cells e)) := by
 have hl := hv.cells
 have hlen : v.cells.size = 1 * sz := by have := hl.1; simp at this; omega
 obtain ⟨h2, h3⟩ := new_rows hw v.cells e sz 1 (0, 0) [v'.cells] hlen (by simp) (by simpa using hsz) (by simpa using h1) (fun i row hi k x hx => by
  cases i with
  | zero =>
   simp at hi; subst hi
   obtain ⟨y, hy, hr⟩ := hl.of_get' hx
   exact ⟨y, by simpa using hy, hr⟩
  | succ i => simp at hi) (by decide) (.inl rfl)
 refine ⟨_, _, _, List.prefix_append _ _, h2, ?_, h3, hk⟩
 have := VRel.ptr (i := 0) (k := 0) (getlast_new ρ ⟨w.heap.size, 0, sz, 1⟩ h hw.len)
 simpa using this

theorem run_storeCells_fz (g o : Nat) (t : TypeId) (fz : Nat × Nat) : ∀ (vs : List Value) (i : Nat) (cur : Array Value) (w : World), w.heap[g]? = some (.cells cur t fz) → (∀ j, j < cur.size → ¬ (fz.1 ≤ j ∧ j < fz.2)) → o + i + vs.length ≤ cur.size → (∀ v ∈ vs, v.oneCell' = true) →
  (storeCells ⟨g, o, none⟩ vs i).run P w = .ok () (w.setRow g (cur.toList.take (o + i) ++ vs ++ cur.toList.drop (o + i + vs.length)).toArray)
 | [], i, cur, w, hg, _, _, _ => by
  simp only [storeCells, List.append_nil, ln0, Nat.add_zero, List.take_append_drop, Array.toArray_toList]
  rw [setRow_self w g cur t fz hg]
  rfl
 | v :: rest, i, cur, w, hg, hfz, hl, h1 => by
  have hi : o + i < cur.size := by simp at hl; omega
  have hcell : w.cell? ⟨g, o + i, none⟩ = some cur[o + i] := by simp [World.cell?, hg, hi]
  have hfro : w.frozen? ⟨g, o + i, none⟩ = false := by
   have := hfz _ hi
   simp only [World.frozen?, hg]
   simpa using this
  have hst : (store ((⟨g, o, none⟩ : Addr).add i) v).run P w = .ok () (w.setRow g (cur.setIfInBounds (o + i) v)) := by
   rw [addr_add, run_store P w _ v _ (h1 v (by simp)), hcell]
   simp [hfro, setCell_eq_setRow w g (o + i) cur t fz v hg]
  have ih := run_storeCells_fz g o t fz rest (i + 1) (cur.setIfInBounds (o + i) v) (w.setRow g (cur.setIfInBounds (o + i) v)) (setRow_heap w g cur _ t _ hg) (by simpa using hfz) (by simp at hl ⊢; omega) (fun x hx => h1 x (by simp [hx]))
  simp only [storeCells, Sem.run_bind, hst, Result.andThen_ok, ih, setRow_setRow]
  congr 3
  have e := list_seg_step cur.toList (o + i) v rest (by simp at hl ⊢; omega)
  simpa [Array.toList_setIfInBounds, Nat.add_assoc] using e

def wrt (row : List IV) (k : Nat) (cs : List IV) : List IV :=
 match cs with
 | [c] => row.set k c
 | cs => row.take k ++ cs ++ row.drop (k + cs.length)
theorem set_eq_take {α : Type} (row : List α) (k : Nat) (c : α) (h : k < row.length) : row.set k c = row.take k ++ [c] ++ row.drop (k + 1) := by
 rw [List.set_eq_take_append_cons_drop, if_pos h]
 simp
theorem wrt_eq (row : List IV) (k : Nat) (cs : List IV) (h : k + cs.length ≤ row.length) : wrt row k cs = row.take k ++ cs ++ row.drop (k + cs.length) := by
 unfold wrt
 split
 ·simp at h; exact set_eq_take _ _ _ (by omega)
 ·rfl
theorem wrt_length (row : List IV) (k : Nat) (cs : List IV) (h : k + cs.length ≤ row.length) : (wrt row k cs).length = row.length := by
 rw [wrt_eq _ _ _ h]; simp; omega

theorem mem_of_get {α : Type} {l : List α} {i : Nat} {x : α} (h : l[i]? = some x) : x ∈ l := List.mem_of_getElem? h

theorem WRel.rows (hw : WRel ρ B w h) {l : Nat} {r : RLoc} {rs : List (List IV)} {e sz : Nat} {ro : Bool} (hr : ρ[l]? = some r) (ho : h.obj l = .rows rs e sz ro) :
  ∃ c t fz, w.heap[r.block]? = some (.cells c t fz) ∧ RowsRel ρ B r rs e sz ro c t fz := by
 have := hw.obj l r hr
 rw [ho] at this
 exact this

theorem setRow_get (w : World) (g k : Nat) (cs : Array Value) (hk : k ≠ g) : (w.setRow g cs).heap[k]? = w.heap[k]? := setRow_other w g k cs hk

theorem set_rows (hw : WRel ρ B w h) {l : Nat} {r : RLoc} {rs rs' : List (List IV)} {e sz : Nat} (hr : ρ[l]? = some r) (ho : h.obj l = .rows rs e sz false) (cells : Array Value)
  (hlen : cells.size = r.cap * sz) (hrs : rs'.length ≤ r.cap) (each : ∀ row ∈ rs', row.length = sz) (one : ∀ row ∈ rs', ∀ v ∈ row, v.one = true) (hc : ∀ (i : Nat) row, rs'[i]? = some row → RowAt ρ cells (i * sz) row) :
  WRel ρ B (w.setRow r.block cells) (h.set l (.rows rs' e sz false)) ∧ Below B w (w.setRow r.block cells) := by
 obtain ⟨c, t, fz, hg, hrel⟩ := hw.rows hr ho
 obtain ⟨hb, hB, hfz, ht, hcap, hcs⟩ := hrel.own rfl
 refine ⟨hw.set hr (by rw [ho]; rfl) (fun k hk => setRow_get w _ _ _ hk) (by simp) ?_, ?_⟩
 ·refine ⟨cells, t, fz, setRow_heap w _ _ _ _ _ hg, hrel.hsz, by rw [hb]; simp [hlen], hrs, each, one, fun i row hi => ?_, fun _ => ⟨hb, hB, ?_, ht, hcap, hlen⟩⟩
  ·rw [hb, Nat.zero_add]; exact hc i row hi
  ·rw [hlen, ← hcs]; exact hfz
 ·exact ⟨rfl, rfl, rfl, by simp, fun k hk => setRow_get w _ _ _ (by omega)⟩

theorem st_out (hw : WRel ρ B w h) {l i k : Nat} {r : RLoc} {rs : List (List IV)} {row : List IV} {e sz : Nat} (hr : ρ[l]? = some r) (ho : h.obj l = .rows rs e sz false) (hrow : rs[i]? = some row)
  {vs : List Value} {vs' : List IV} (hv : LRel ρ vs vs') (hk : k + vs'.length ≤ row.length) (h1 : ∀ x ∈ vs', x.one = true) :
  ∃ w', (storeCells ⟨r.block, r.base + i * r.sz + k, none⟩ vs).run P w = .ok () w' ∧ WRel ρ B w' (h.set l (.rows (rs.set i (wrt row k vs')) e sz false)) ∧ Below B w w' := by
 obtain ⟨c, t, fz, hg, hrel⟩ := hw.rows hr ho
 obtain ⟨hb, hB, hfz, ht, hcap, hcs⟩ := hrel.own rfl
 have hrl : row.length = sz := hrel.each row (mem_of_get hrow)
 have hi : i < rs.length := (List.getElem?_eq_some_iff.1 hrow).1
 have hic : i < r.cap := Nat.lt_of_lt_of_le hi hrel.len
 have hsz : (i + 1) * sz ≤ c.size := by rw [hcs]; exact Nat.mul_le_mul_right _ hic
 have hvl := hv.1
 have hfit : i * sz + k + vs.length ≤ c.size := by rw [Nat.add_mul, Nat.one_mul] at hsz; omega
 have hone : ∀ v ∈ vs, v.oneCell' = true := by
  intro v hm
  obtain ⟨j, hj⟩ := List.getElem?_of_mem hm
  obtain ⟨v', h2, h3⟩ := hv.of_get hj
  exact h3.one (h1 v' (mem_of_get h2))
 have hrun := run_storeCells_fz (P := P) r.block (i * sz + k) t fz vs 0 c w hg hfz.free (by simpa using hfit) hone
 rw [hb, hrel.hsz, Nat.zero_add]
 refine ⟨_, hrun, set_rows hw hr ho _ ?_ (by simpa using hrel.len) ?_ ?_ ?_⟩
 ·simp; omega
 ·intro x hx
  rcases List.mem_or_eq_of_mem_set hx with h2 | h2
  ·exact hrel.each x h2
  ·rw [h2, wrt_length _ _ _ hk, hrl]
 ·intro x hx
  rcases List.mem_or_eq_of_mem_set hx with h2 | h2
  ·exact hrel.one x h2
  ·rw [h2, wrt_eq _ _ _ hk]
   intro v hm
   simp only [List.mem_append] at hm
   rcases hm with (hm | hm) | hm
   ·exact hrel.one row (mem_of_get hrow) v (List.mem_of_mem_take hm)
   ·exact h1 v hm
   ·exact hrel.one row (mem_of_get hrow) v (List.mem_of_mem_drop hm)
 ·intro j x hj q u hu
  have hget : ∀ m, (c.toList.take (i * sz + k + 0) ++ vs ++ c.toList.drop (i * sz + k + 0 + vs.length)).toArray[m]? = if m < i * sz + k then c[m]? else if m < i * sz + k + vs.length then vs[m - (i * sz + k)]? else c[m]? := by
   intro m
   rw [List.getElem?_toArray]
   simp only [Nat.add_zero, List.getElem?_append, la0, List.length_take, Array.length_toList, List.getElem?_take, List.getElem?_drop, Array.getElem?_toList]
   have e1 : min (i * sz + k) c.size = i * sz + k := by omega
   rw [e1]
   by_cases a1 : m < i * sz + k
   ·simp [a1, show m < i * sz + k + vs.length by omega]
   ·by_cases a2 : m < i * sz + k + vs.length
    ·simp [a1, a2]
    ·simp [a1, a2, show i * sz + k + vs.length + (m - (i * sz + k + vs.length)) = m by omega]
  by_cases hij : i = j
  ·subst hij
   rw [List.getElem?_set_self hi] at hj
   obtain rfl := Option.some.inj hj
   rw [wrt_eq _ _ _ hk] at hu
   have hq : q < row.length := by
    have := (List.getElem?_eq_some_iff.1 hu).1
    simp at this; omega
   simp only [List.getElem?_append, la0, List.length_take, List.getElem?_take, List.getElem?_drop] at hu
   have e1 : min k row.length = k := by omega
   rw [e1] at hu
   rw [hget]
   by_cases a1 : q < k
   ·simp only [a1, show q < k + vs'.length by omega, if_true] at hu
    rw [if_pos (by omega)]
    have := hrel.cells i row hrow q u hu
    rw [hb, Nat.zero_add] at this
    exact this
   ·by_cases a2 : q < k + vs'.length
    ·simp only [a1, a2, if_true, if_false] at hu
     rw [if_neg (by omega), if_pos (by omega)]
     obtain ⟨v, h2, h3⟩ := hv.of_get' hu
     exact ⟨v, by rw [show i * sz + q - (i * sz + k) = q - k by omega]; exact h2, h3⟩
    ·simp only [a2, if_false] at hu
     rw [if_neg (by omega), if_neg (by omega)]
     have := hrel.cells i row hrow q u (by rwa [show k + vs'.length + (q - (k + vs'.length)) = q by omega] at hu)
     rw [hb, Nat.zero_add] at this
     exact this
  ·rw [List.getElem?_set_ne hij] at hj
   have hx := hrel.cells j x hj q u hu
   rw [hb, Nat.zero_add] at hx
   rw [hget]
   have hq : q < sz := by rw [← hrel.each x (mem_of_get hj)]; exact (List.getElem?_eq_some_iff.1 hu).1
   rcases Nat.lt_or_ge j i with hlt | hge
   ·have : (j + 1) * sz ≤ i * sz := Nat.mul_le_mul_right _ hlt
    rw [Nat.add_mul, Nat.one_mul] at this
    rw [if_pos (by omega)]; exact hx
   ·have hgt : i + 1 ≤ j := by omega
    have : (i + 1) * sz ≤ j * sz := Nat.mul_le_mul_right _ hgt
    rw [Nat.add_mul, Nat.one_mul] at this
    rw [if_neg (by omega), if_neg (by omega)]; exact hx

end
end Go.IW

namespace Go.IW
open Go.RowKit

section
variable {P : Program} {ρ : List RLoc} {B : Nat} {w : World} {h : IH}

structure Src (P : Program) (w : World) (u : TypeId) (size m : Nat) (x : Value) (news : List Value) : Prop where
 ty : (∃ e', P.underlying u = some (.slice e')) ∨ P.underlying u = some .string
 len : ∀ w', (Builtin.lenOf x).run P w' = .ok m w'
 cells : (Builtin.firstCells size m x).run P w = .ok news.toArray w
 drew : (Builtin.firstCells size m x).run P w.drew = .ok news.toArray w.drew
 size : news.length = m * size

theorem app_zero (t u ty e : TypeId) (i : TypeInfo) (ht : P.underlying t = some (.slice e)) (hi : P.info? e = some i) {n c m : Nat} {b : Option Addr} {x : Value} {news : List Value}
  (hs : Src P w u i.size m x news) (hm : m = 0) (hc : n ≤ c) : (Builtin.append_ #[t, u] ty #[.slice b n c, x]).run P w = .ok (.slice b n c) w := by
 subst hm
 have hn : news = [] := List.eq_nil_of_length_eq_zero (by have := hs.size; simpa using this)
 subst hn
 have h1 := hs.cells
 rcases hs.ty with ⟨e', hd⟩ | hd <;> cases b <;> simp [Builtin.append_, run_underlying ht, run_underlying hd, sizeOf, typeInfo, hi, hs.len, h1, hc, storeCells]

theorem app_room (t u ty e : TypeId) (i : TypeInfo) (ht : P.underlying t = some (.slice e)) (hi : P.info? e = some i) {m : Nat} {x : Value} {news : List Value} (hs : Src P w u i.size m x news)
  (g sLen sCap : Nat) (cur : Array Value) (fz : Nat × Nat) (t' : TypeId) (hg : w.heap[g]? = some (.cells cur t' fz)) (hfz : ∀ j, j < cur.size → ¬ (fz.1 ≤ j ∧ j < fz.2)) (h1 : ∀ v ∈ news, v.oneCell' = true)
  (hroom : sLen + m ≤ sCap) (hfit : sLen * i.size + news.length ≤ cur.size) :
  (Builtin.append_ #[t, u] ty #[.slice (some ⟨g, 0, none⟩) sLen sCap, x]).run P w =
   .ok (.slice (some ⟨g, 0, none⟩) (sLen + m) sCap) (w.setRow g (cur.toList.take (sLen * i.size) ++ news ++ cur.toList.drop (sLen * i.size + news.length)).toArray) := by
 have hst := run_storeCells_fz (P := P) g (sLen * i.size) t' fz news 0 cur w hg hfz (by simpa using hfit) h1
 simp only [Nat.add_zero] at hst
 have h2 := hs.cells
 rcases hs.ty with ⟨e', hd⟩ | hd <;> simp [Builtin.append_, run_underlying ht, run_underlying hd, sizeOf, typeInfo, hi, hs.len, h2, hroom, addr_add, hst]

theorem app_grow (t u ty e : TypeId) (i : TypeInfo) (z : Value) (ht : P.underlying t = some (.slice e)) (hi : P.info? e = some i) (hz : i.zero = some z) {m : Nat} {x : Value} {news : List Value} (hs : Src P w u i.size m x news)
  (b : Option Addr) (sLen sCap : Nat) (olds : List Value) (hb : b = none → sLen = 0) (hlo : olds.length = sLen * i.size) (holds : ∀ a, b = some a → ∀ j v, olds[j]? = some v → w.cell? (a.add j) = some v)
  (hg : sCap < sLen + m) (h63 : ((sLen + m : Nat) : Int) ≤ 9223372036854775807) (hfit : Builtin.nextslicecap (sLen + m) sCap * i.bytes ≤ 281474976710656) :
  (Builtin.append_ #[t, u] ty #[.slice b sLen sCap, x]).run P w =
   .ok (.slice (some ⟨w.heap.size, 0, none⟩) (sLen + m) (grownCap w (sLen + m) sCap e))
    (w.drew.alloc (.cells (olds.toArray ++ news.toArray ++ Builtin.zeroCells z.cells (grownCap w (sLen + m) sCap e - (sLen + m))) e)) := by
 have hn : ¬ (sLen + m ≤ sCap) := by omega
 have h63' : ¬ (9223372036854775807 < ((sLen : Int) + (m : Int))) := by omega
 have h48' : ¬ (281474976710656 < Builtin.nextslicecap (sLen + m) sCap * i.bytes) := by omega
 have h2 := hs.drew
 have hfo : (Builtin.firstCells i.size sLen (.slice b sLen sCap)).run P w.drew = .ok olds.toArray w.drew := by
  cases b with
  | none =>
   have := hb rfl
   subst this
   have : olds = [] := List.eq_nil_of_length_eq_zero (by simpa using hlo)
   subst this
   simp [run_firstCells_none]
  | some a => exact run_firstCells_some (P := P) w.drew i.size sLen a sLen sCap olds hlo (by simpa using holds a rfl)
 have key : ∀ d, ((∃ e', d = TypeDesc.slice e') ∨ d = .string) → P.underlying u = some d → (Builtin.append_ #[t, u] ty #[.slice b sLen sCap, x]).run P w =
   .ok (.slice (some ⟨w.heap.size, 0, none⟩) (sLen + m) (grownCap w (sLen + m) sCap e))
    (w.drew.alloc (.cells (olds.toArray ++ news.toArray ++ Builtin.zeroCells z.cells (grownCap w (sLen + m) sCap e - (sLen + m))) e)) := by
  intro d hd0 hd
  rcases hd0 with ⟨e', rfl⟩ | rfl
  ·simp [Builtin.append_, run_underlying ht, run_underlying hd, sizeOf, typeInfo, zeroValue, hi, hz, hs.len, hn, h63', h48', Question.forced, h2, hfo, newRow, grownCap]
   congr 2
   apply Array.ext'
   simp [List.append_assoc]
  ·simp [Builtin.append_, run_underlying ht, run_underlying hd, sizeOf, typeInfo, zeroValue, hi, hz, hs.len, hn, h63', h48', Question.forced, h2, hfo, newRow, grownCap]
   congr 2
   apply Array.ext'
   simp [List.append_assoc]
 rcases hs.ty with ⟨e', hd⟩ | hd
 ·exact key _ (.inl ⟨e', rfl⟩) hd
 ·exact key _ (.inr rfl) hd

theorem rows_vals {c : Array Value} {sz : Nat} : ∀ (rs : List (List IV)) (at_ : Nat), (∀ (i : Nat) row, rs[i]? = some row → RowAt ρ c (at_ + i * sz) row) → (∀ row ∈ rs, row.length = sz) →
  ∃ vs : List Value, LRel ρ vs rs.flatten ∧ vs.length = rs.length * sz ∧ ∀ (j : Nat) u, vs[j]? = some u → c[at_ + j]? = some u
 | [], at_, _, _ => ⟨[], LRel.nil ρ, by simp, fun j u hu => by simp at hu⟩
 | row :: rs, at_, hc, he => by
  obtain ⟨vs, h1, h2, h3⟩ := rows_vals rs (at_ + sz) (fun i r hi => by
   have := hc (i + 1) r hi
   rwa [Nat.add_mul, Nat.one_mul, Nat.add_comm (i * sz), ← Nat.add_assoc] at this) (fun r hr => he r (List.mem_cons_of_mem _ hr))
  have h0 := hc 0 row rfl
  simp only [Nat.zero_mul, Nat.add_zero] at h0
  have hrow : ∃ us : List Value, LRel ρ us row ∧ ∀ (j : Nat) u, us[j]? = some u → c[at_ + j]? = some u := by
   clear hc he h1 h2 h3
   induction row generalizing at_ with
   | nil => exact ⟨[], LRel.nil ρ, fun j u hu => by simp at hu⟩
   | cons x row ih =>
    obtain ⟨v0, hv0, hr0⟩ := h0 0 x rfl
    obtain ⟨us, hu1, hu2⟩ := ih (at_ + 1) (fun k v hk => by
     have := h0 (k + 1) v hk
     rwa [Nat.add_assoc, Nat.add_comm 1 k])
    refine ⟨v0 :: us, LRel.cons hr0 hu1, fun j v hv => ?_⟩
    cases j with
    | zero => simp at hv; subst hv; simpa using hv0
    | succ j => simp at hv; have := hu2 j v hv; rwa [Nat.add_assoc, Nat.add_comm 1 j] at this
  obtain ⟨us, hu1, hu2⟩ := hrow
  have hul : us.length = sz := by rw [hu1.1]; exact he row (List.mem_cons_self)
  refine ⟨us ++ vs, by rw [List.flatten_cons]; exact hu1.append h1, by simp [hul, h2, Nat.add_mul]; omega, fun j u hu => ?_⟩
  rcases Nat.lt_or_ge j us.length with hj | hj
  ·rw [List.getElem?_append_left hj] at hu; exact hu2 j u hu
  ·rw [List.getElem?_append_right hj] at hu
   have := h3 _ u hu
   rwa [show at_ + sz + (j - us.length) = at_ + j by omega] at this

theorem rowAt_flat {c : Array Value} {sz : Nat} : ∀ (rs : List (List IV)) (at_ : Nat) (vs : List Value), LRel ρ vs rs.flatten → (∀ row ∈ rs, row.length = sz) → (∀ (j : Nat) u, vs[j]? = some u → c[at_ + j]? = some u) →
  ∀ (i : Nat) row, rs[i]? = some row → RowAt ρ c (at_ + i * sz) row
 | [], _, _, _, _, _, i, row, h => by simp at h
 | r0 :: rs, at_, vs, hl, he, hc, i, row, hi => by
  rw [List.flatten_cons] at hl
  have h0 : r0.length = sz := he r0 (List.mem_cons_self)
  cases i with
  | zero =>
   simp at hi; subst hi
   intro k v hk
   have hk' : k < r0.length := (List.getElem?_eq_some_iff.1 hk).1
   obtain ⟨u, hu, hr⟩ := hl.of_get' (i := k) (v' := v) (by rw [List.getElem?_append_left hk']; exact hk)
   exact ⟨u, by simpa using hc k u hu, hr⟩
  | succ i =>
   simp at hi
   have hd : LRel ρ (vs.drop sz) rs.flatten := by
    have := hl.drop sz
    rwa [← h0, List.drop_left, h0] at this
   have := rowAt_flat rs (at_ + sz) (vs.drop sz) hd (fun r hr => he r (List.mem_cons_of_mem _ hr)) (fun j u hu => by
    rw [List.getElem?_drop] at hu
    have := hc _ u hu
    rwa [← Nat.add_assoc] at this) i row hi
   rwa [Nat.add_mul, Nat.one_mul, Nat.add_comm (i * sz), ← Nat.add_assoc]

def srcRows (h : IH) (sz : Nat) : IV → Option (List (List IV))
 | .nilslice | .eslice _ => some []
 | .slice l i n => match h.obj l with
  | .rows rs _ sz' _ => if sz' = sz ∧ i + n ≤ rs.length then some ((rs.drop i).take n) else none
  | _ => none
 | _ => none

structure RowsOk (sz : Nat) (rs : List (List IV)) : Prop where
 each : ∀ row ∈ rs, row.length = sz
 one : ∀ row ∈ rs, ∀ v ∈ row, v.one = true

theorem src_rows (hw : WRel ρ B w h) {sz : Nat} {x : Value} {x' : IV} {ys : List (List IV)} (hx : VRel ρ x x') (hs : srcRows h sz x' = some ys) :
  ∃ ad c news, x = .slice ad ys.length c ∧ ys.length ≤ c ∧ LRel ρ news ys.flatten ∧ news.length = ys.length * sz ∧ RowsOk sz ys ∧ (ad = none → ys = []) ∧ (∀ a, ad = some a → ∀ (j : Nat) u, news[j]? = some u → w.cell? (a.add j) = some u) := by
 cases hx <;> simp [srcRows] at hs
 ·subst hs; exact ⟨none, 0, [], rfl, Nat.le_refl _, LRel.nil ρ, by simp, ⟨by simp, by simp⟩, fun _ => rfl, fun a ha => by cases ha⟩
 ·subst hs; exact ⟨some _, _, [], rfl, Nat.zero_le _, LRel.nil ρ, by simp, ⟨by simp, by simp⟩, fun _ => rfl, fun a ha j u hu => by simp at hu⟩
 ·rename_i l i n c r hr hn hc hm
  split at hs
  ·rename_i rs e sz' ro ho
   split at hs
   ·rename_i hcond
    obtain ⟨rfl, hin⟩ := hcond
    obtain rfl := Option.some.inj hs
    obtain ⟨cs, t, fz, hg, hrel⟩ := hw.rows hr ho
    have hlen : ((rs.drop i).take n).length = n := by simp; omega
    have hmem : ∀ row ∈ (rs.drop i).take n, row ∈ rs := fun row hrow => List.mem_of_mem_drop (List.mem_of_mem_take hrow)
    obtain ⟨vs, h1, h2, h3⟩ := rows_vals (ρ := ρ) (c := cs) (sz := sz') ((rs.drop i).take n) (r.base + i * sz') (fun j row hj => by
     rw [List.getElem?_take] at hj
     split at hj
     ·rw [List.getElem?_drop] at hj
      have := hrel.cells (i + j) row hj
      rwa [Nat.add_mul, ← Nat.add_assoc] at this
     ·cases hj) (fun row hrow => hrel.each row (hmem row hrow))
    refine ⟨_, c, vs, by rw [hlen], by rw [hlen]; exact hn, h1, h2, ⟨fun row hrow => hrel.each row (hmem row hrow), fun row hrow => hrel.one row (hmem row hrow)⟩, fun hh => (by cases hh), fun a ha j u hu => ?_⟩
    cases ha
    rw [addr_add, cell_of_row w _ _ _ _ _ hg, hrel.hsz]
    exact h3 j u hu
   ·cases hs
  ·cases hs

theorem src_slice (hw : WRel ρ B w h) {t el : TypeId} {i : TypeInfo} (ht : P.underlying t = some (.slice el)) {x : Value} {x' : IV} {ys : List (List IV)} (hx : VRel ρ x x') (hs : srcRows h i.size x' = some ys) :
  ∃ news, Src P w t i.size ys.length x news ∧ LRel ρ news ys.flatten ∧ RowsOk i.size ys := by
 obtain ⟨ad, c, news, rfl, hc, hl, hlen, hok, hnil, hcell⟩ := src_rows hw hx hs
 refine ⟨news, ⟨.inl ⟨_, ht⟩, fun w' => by simp [Builtin.lenOf], ?_, ?_, hlen⟩, hl, hok⟩
 ·cases ad with
  | none =>
   have := hnil rfl; subst this
   have : news = [] := List.eq_nil_of_length_eq_zero (by simpa using hlen)
   subst this
   simp [run_firstCells_none]
  | some a => exact run_firstCells_some (P := P) w i.size _ a _ c news hlen (hcell a rfl)
 ·cases ad with
  | none =>
   have := hnil rfl; subst this
   have : news = [] := List.eq_nil_of_length_eq_zero (by simpa using hlen)
   subst this
   simp [run_firstCells_none]
  | some a => exact run_firstCells_some (P := P) w.drew i.size _ a _ c news hlen (by simpa using hcell a rfl)

def strRows (s : List UInt8) : List (List IV) := s.map fun b => [.int .u8 b.toNat]
theorem strRows_ok (s : List UInt8) : RowsOk 1 (strRows s) := by
 refine ⟨fun row hr => ?_, fun row hr v hv => ?_⟩ <;> (simp [strRows] at hr; obtain ⟨b, _, rfl⟩ := hr)
 ·rfl
 ·simp at hv; subst hv; rfl
theorem strRows_flat (s : List UInt8) : (strRows s).flatten = s.map fun b => IV.int .u8 b.toNat := by
 induction s with
 | nil => rfl
 | cons b s ih => simp [strRows] at ih ⊢; exact ih
theorem strRows_rel (s : List UInt8) (ρ : List RLoc) : LRel ρ (s.map fun b => Value.int .u8 b.toNat) (strRows s).flatten := by
 rw [strRows_flat]
 refine ⟨by simp, fun i v v' a b => ?_⟩
 rw [List.getElem?_map, Option.map_eq_some_iff] at a b
 obtain ⟨x, hx, rfl⟩ := a
 obtain ⟨y, hy, rfl⟩ := b
 rw [hx] at hy; cases hy
 exact .int _ _

theorem src_string {t : TypeId} (ht : P.underlying t = some .string) {x : Value} {s : List UInt8} (hx : VRel ρ x (.str s)) :
  ∃ news, Src P w t 1 (strRows s).length x news ∧ LRel ρ news (strRows s).flatten := by
 generalize hs : IV.str s = s' at hx
 cases hx <;> cases hs
 rename_i s
 have hlen : (strRows s.data.toList).length = s.size := by simp only [strRows, List.length_map]; exact size_list s
 have hcells : ∀ w' : World, (Builtin.firstCells 1 s.size (.string s)).run P w' = .ok (s.data.toList.map fun b => Value.int .u8 b.toNat).toArray w' := by
  intro w'
  obtain ⟨⟨l⟩⟩ := s
  have h2 : (ByteArray.mk ⟨l⟩).extract 0 (ByteArray.mk ⟨l⟩).size = ByteArray.mk ⟨l⟩ := by
   have := ByteArray.extract_mk l 0 l.length
   simp only [dz0, Nat.sub_zero, List.take_length] at this
   exact this
  simp only [Builtin.firstCells, h2, Sem.run_pure]
  simp
 refine ⟨_, ⟨.inr ht, fun w' => ?_, ?_, ?_, ?_⟩, strRows_rel _ ρ⟩
 ·rw [hlen]; rfl
 ·rw [hlen]; exact hcells w
 ·rw [hlen]; exact hcells w.drew
 ·simp [strRows]

def appK (h : IH) (e sz bytes : Nat) (x : IV) (ys : List (List IV)) (K : IV → IH → Prop) : Prop :=
 match x with
 | .nilslice => if ys = [] then K .nilslice h else ys.length * bytes ≤ 140737488355328 ∧ K (.slice h.n 0 ys.length) (h.push (.rows ys e sz false))
 | .eslice z => if ys = [] then K (.eslice z) h else z = true ∧ ys.length * bytes ≤ 140737488355328 ∧ K (.slice h.n 0 ys.length) (h.push (.rows ys e sz false))
 | .slice l i n => if ys = [] then K (.slice l i n) h else
  match h.obj l with
  | .rows rs e' sz' false => i = 0 ∧ e' = e ∧ sz' = sz ∧ rs.length = n ∧ (n + ys.length) * bytes ≤ 140737488355328 ∧
   K (.slice h.n 0 (n + ys.length)) ((h.set l .dead).push (.rows (rs ++ ys) e sz false))
  | _ => False
 | _ => False

theorem flatten_one {sz : Nat} {ys : List (List IV)} (hok : RowsOk sz ys) : ∀ v ∈ ys.flatten, v.one = true := by
 intro v hv
 obtain ⟨row, h1, h2⟩ := List.mem_flatten.1 hv
 exact hok.one row h1 v h2

theorem LRel.ones {l : List Value} {l' : List IV} (hl : LRel ρ l l') (h1 : ∀ v ∈ l', v.one = true) : ∀ v ∈ l, v.oneCell' = true := by
 intro v hv
 obtain ⟨i, hi⟩ := List.getElem?_of_mem hv
 obtain ⟨v', h2, h3⟩ := hl.of_get hi
 exact h3.one (h1 v' (mem_of_get h2))

theorem app_out (hw : WRel ρ B w h) {t u ty e : TypeId} {i : TypeInfo} {z : Value} (ht : P.underlying t = some (.slice e)) (hi : P.info? e = some i) (hz : i.zero = some z) (hzs : z.cells.size = i.size) (hpos : 0 < i.bytes)
    {x y : Value} {x' : IV} {ys : List (List IV)} {news : List Value} (hx : VRel ρ x x') (hs : Src P w u i.size ys.length y news) (hl : LRel ρ news ys.flatten) (hok : RowsOk i.size ys) {K : IV → IH → Prop}
    (hk : appK h e i.size i.bytes x' ys K) : ∃ v' w', (Builtin.append_ #[t, u] ty #[x, y]).run P w = .ok v' w' ∧ Out ρ B w K v' w' := by
  have out0 : ∀ {v' : Value} {v : IV}, VRel ρ v' v → K v h → Out ρ B w K v' w := fun h1 h2 => ⟨ρ, _, h, List.prefix_refl _, hw, h1, Below.refl _ _, h2⟩
  -- a new block, behind what was there before
  have fresh : ∀ (b : Option Addr) (sLen sCap : Nat) (rs : List (List IV)) (olds : List Value) (h1 : IH), WRel ρ B w h1 → (b = none → sLen = 0) → rs.length = sLen → RowsOk i.size rs → LRel ρ olds rs.flatten → olds.length = sLen * i.size →
      (∀ a, b = some a → ∀ j v, olds[j]? = some v → w.cell? (a.add j) = some v) → sCap < sLen + ys.length → (sLen + ys.length) * i.bytes ≤ 140737488355328 → K (.slice h1.n 0 (sLen + ys.length)) (h1.push (.rows (rs ++ ys) e i.size false)) →
      ∃ v' w', (Builtin.append_ #[t, u] ty #[.slice b sLen sCap, y]).run P w = .ok v' w' ∧ Out ρ B w K v' w' := by
    intro b sLen sCap rs olds h1 hw1 hb hrs hrok hol hlo holds hgt hby hk
    have h63 : sLen + ys.length ≤ 140737488355328 := Nat.le_trans (Nat.le_mul_of_pos_right _ hpos) hby
    have hrun := app_grow t u ty e i z ht hi hz hs b sLen sCap olds hb hlo holds hgt (by omega) (growslice_fits hgt hby)
    refine ⟨_, _, hrun, ?_⟩
    have hge := grownCap_ge w (sLen + ys.length) sCap e
    have hcm : grownCap w (sLen + ys.length) sCap e ≤ maxLen := grownCap_le_maxLen w (sLen + ys.length) sCap e (by simp only [maxLen]; omega)
    generalize grownCap w (sLen + ys.length) sCap e = cap at hge hcm
    have hw2 : WRel ρ B w.drew h1 := hw1.same rfl
    have hall : LRel ρ (olds ++ news) (rs ++ ys).flatten := by rw [List.flatten_append]; exact hol.append hl
    have hnl := hs.size
    obtain ⟨g1, g2⟩ := new_rows hw2 (olds.toArray ++ news.toArray ++ Builtin.zeroCells z.cells (cap - (sLen + ys.length))) e i.size cap (0, 0) (rs ++ ys)
      (by simp only [Array.size_append, List.size_toArray, size_zeroCells, hzs, hlo, hnl, ← Nat.add_mul]; congr 1; omega)
      (by simp only [la0, hrs]; exact hge)
      (fun row hr => by rcases List.mem_append.1 hr with h | h; exact hrok.each row h; exact hok.each row h)
      (fun row hr => by rcases List.mem_append.1 hr with h | h; exact hrok.one row h; exact hok.one row h)
      (by
        have := rowAt_flat (c := olds.toArray ++ news.toArray ++ Builtin.zeroCells z.cells (cap - (sLen + ys.length))) (rs ++ ys) 0 (olds ++ news) hall
          (fun row hr => by rcases List.mem_append.1 hr with h | h; exact hrok.each row h; exact hok.each row h)
          (fun j u hu => by
            rw [Nat.zero_add]
            have hj := (List.getElem?_eq_some_iff.1 hu).1
            rw [Array.getElem?_append_left (by simpa using hj)]
            have e1 : (olds.toArray ++ news.toArray) = (olds ++ news).toArray := by simp
            rw [e1]; simpa using hu)
        intro j row hj
        have := this j row hj
        rwa [Nat.zero_add] at this)
      hcm (.inl rfl)
    refine ⟨_, _, _, List.prefix_append _ _, g1, ?_, (Below.refl B w).drew.trans g2, hk⟩
    have hlast := getlast_new ρ ⟨w.heap.size, 0, i.size, cap⟩ h1 hw1.len
    have := VRel.slice (i := 0) (n := sLen + ys.length) (c := cap) hlast hge (by simp) hcm
    simpa using this
  have hsz0 : ys = [] → ys.length = 0 := fun e => by rw [e]; rfl
  unfold appK at hk
  split at hk
  · cases hx
    split at hk
    · rename_i hys
      exact ⟨_, _, app_zero t u ty e i ht hi hs (hsz0 hys) (Nat.le_refl _), out0 .nilslice hk⟩
    · rename_i hys
      have hp : 0 < ys.length := List.length_pos_iff.2 hys
      exact fresh none 0 0 [] [] h hw (fun _ => rfl) rfl ⟨by simp, by simp⟩ (LRel.nil ρ) (by simp) (fun a ha => by cases ha) (by omega) (by simpa using hk.1) (by simpa using hk.2)
  · rename_i zf
    cases hx with
    | @eslice a c z' hzc hc =>
      split at hk
      · rename_i hys
        exact ⟨_, _, app_zero t u ty e i ht hi hs (hsz0 hys) (Nat.zero_le _), out0 (.eslice hzc hc) hk⟩
      · rename_i hys
        have hp : 0 < ys.length := List.length_pos_iff.2 hys
        obtain ⟨k1, k2, k3⟩ := hk
        have hc0 := hzc k1
        subst hc0
        exact fresh (some a) 0 0 [] [] h hw (fun h => by cases h) rfl ⟨by simp, by simp⟩ (LRel.nil ρ) (by simp) (fun a ha j v hv => by simp at hv) (by omega) (by simpa using k2) (by simpa using k3)
  · rename_i l j n
    cases hx with
    | @slice l j n c r hr hn hc hm =>
      split at hk
      · rename_i hys
        exact ⟨_, _, app_zero t u ty e i ht hi hs (hsz0 hys) hn, out0 (.slice hr hn hc hm) hk⟩
      · rename_i hys
        have hp : 0 < ys.length := List.length_pos_iff.2 hys
        split at hk
        · rename_i rs e' sz' ho
          obtain ⟨rfl, rfl, rfl, hrl, hby, hk⟩ := hk
          obtain ⟨cs, t', fz, hg, hrel⟩ := hw.rows hr ho
          obtain ⟨hb, hB, hfz, ht', hcap, hcs⟩ := hrel.own rfl
          have hcells := hrel.cells
          rw [hb] at hcells
          obtain ⟨olds, ho1, ho2, ho3⟩ := rows_vals (ρ := ρ) (c := cs) (sz := i.size) rs 0 hcells hrel.each
          have hrok : RowsOk i.size rs := ⟨hrel.each, hrel.one⟩
          rw [hb, Nat.zero_mul, Nat.add_zero]
          by_cases hroom : n + ys.length ≤ c
          · -- in place
            have hnl := hs.size
            have hfit : n * i.size + news.length ≤ cs.size := by
              rw [hnl, ← Nat.add_mul, hcs]; exact Nat.mul_le_mul_right _ (by omega)
            have hrun := app_room t u ty e' i ht hi hs r.block n c cs fz t' hg hfz.free (hl.ones (flatten_one hok)) hroom hfit
            refine ⟨_, _, hrun, ?_⟩
            generalize hcur : (cs.toList.take (n * i.size) ++ news ++ cs.toList.drop (n * i.size + news.length)).toArray = cur
            have hsz : cur.size = r.cap * i.size := by rw [← hcur]; simp; omega
            have hall : LRel ρ (olds ++ news) (rs ++ ys).flatten := by rw [List.flatten_append]; exact ho1.append hl
            have hw2 := hw.rename (w' := w.setRow r.block cur) (o := .rows (rs ++ ys) e' i.size false) hr (by rw [ho]; rfl) (fun k hk => setRow_get w _ _ _ hk) (by simp)
              (by
                refine ⟨cur, t', fz, setRow_heap w _ _ _ _ _ hg, hrel.hsz, by rw [hb]; simp [hsz], by simp; omega, ?_, ?_, ?_, fun _ => ⟨hb, hB, by rw [hsz, ← hcs]; exact hfz, ht', hcap, hsz⟩⟩
                · intro row hrow
                  rcases List.mem_append.1 hrow with h | h
                  · exact hrel.each row h
                  · exact hok.each row h
                · intro row hrow
                  rcases List.mem_append.1 hrow with h | h
                  · exact hrel.one row h
                  · exact hok.one row h
                · intro q row hq
                  rw [hb]
                  refine (rowAt_flat (c := cur) (rs ++ ys) 0 (olds ++ news) hall ?_ ?_ q row hq).mono (List.prefix_append _ _)
                  · intro row hrow
                    rcases List.mem_append.1 hrow with h | h
                    · exact hrel.each row h
                    · exact hok.each row h
                  · intro m v hv
                    rw [Nat.zero_add, ← hcur, List.getElem?_toArray]
                    have ho2' : olds.length = n * i.size := by rw [ho2, hrl]
                    simp only [List.getElem?_append, la0, List.length_take, Array.length_toList, List.getElem?_take] at hv ⊢
                    have e1 : min (n * i.size) cs.size = n * i.size := by omega
                    rw [e1]
                    by_cases hm1 : m < olds.length
                    · rw [if_pos hm1] at hv
                      rw [if_pos (by omega), if_pos (by omega), if_pos (by omega)]
                      have := ho3 m v hv
                      rw [Nat.zero_add] at this
                      simpa using this
                    · rw [if_neg hm1] at hv
                      have hm2 := (List.getElem?_eq_some_iff.1 hv).1
                      rw [if_pos (by omega), if_neg (by omega), ← ho2']
                      exact hv)
            refine ⟨_, _, _, List.prefix_append _ _, hw2, ?_, ⟨rfl, rfl, rfl, by simp, fun k hk => setRow_get w _ _ _ (by omega)⟩, hk⟩
            have hlast := getlast_new ρ r h hw.len
            have := VRel.slice (i := 0) (n := n + ys.length) (c := c) hlast hroom (by omega) hm
            simpa [hb] using this
          · -- a new block
            have hkw := hw.kill l
            refine fresh (some ⟨r.block, 0, none⟩) n c rs olds _ hkw (fun h => by cases h) hrl hrok ho1 (by rw [ho2, hrl]) (fun a ha j v hv => ?_) (by omega) hby hk
            cases ha
            rw [addr_add, cell_of_row w _ _ _ _ _ hg]
            exact ho3 j v hv
        · cases hk
  · cases hk

end
end Go.IW

namespace Go.IW
open Go.RowKit

section
variable {P : Program} {ρ : List RLoc} {B : Nat} {w : World} {h : IH} {N : Nat} {a : Act} {e : Env}

theorem WRel.grown {w' : World} (hw : WRel ρ B w h) (hold : ∀ k, k < w.heap.size → w'.heap[k]? = w.heap[k]?) (hsz : w.heap.size ≤ w'.heap.size) : WRel ρ B w' h := by
 refine ⟨hw.len, Nat.le_trans hw.base hsz, fun l r hr => ?_, hw.excl⟩
 by_cases hlive : (h.obj l).live = true
 ·exact (hw.obj l r hr).congr (hold _ ((hw.obj l r hr).block_lt hlive))
 ·cases ho' : h.obj l with
  | dead => exact trivial
  | rows rs e sz ro => rw [ho'] at hlive; simp [IObj.live] at hlive

theorem box_list (hw : WRel ρ B w h) {cs : Array Value} {cs' : List IV} (hl : LRel ρ cs.toList cs') {e sz : Nat} (hsz : cs'.length = sz) (h1 : ∀ x ∈ cs', x.one = true) {K : IV → IH → Prop}
  (hk : K (.ptr h.n 0 0) (h.push (.rows [cs'] e sz false))) : Out ρ B w K (.pointer (some ⟨w.heap.size, 0, none⟩)) (w.alloc (.cells cs e)) := by
 have hlen : cs.size = 1 * sz := by have := hl.1; simp at this; omega
 obtain ⟨h2, h3⟩ := new_rows hw cs e sz 1 (0, 0) [cs'] hlen (by simp) (by simpa using hsz) (by simpa using h1) (fun i row hi k x hx => by
  cases i with
  | zero =>
   simp at hi; subst hi
   obtain ⟨y, hy, hr⟩ := hl.of_get' hx
   exact ⟨y, by simpa using hy, hr⟩
  | succ i => simp at hi) (by decide) (.inl rfl)
 refine ⟨_, _, _, List.prefix_append _ _, h2, ?_, h3, hk⟩
 have := VRel.ptr (i := 0) (k := 0) (getlast_new ρ ⟨w.heap.size, 0, sz, 1⟩ h hw.len)
 simpa using this

def layR : List (List IV) → Nat → List (Nat × IV) → Option (List (List IV))
 | rows, _, [] => some rows
 | rows, sz, (i, v) :: r => if v.cells.length = sz ∧ i < rows.length then layR (rows.set i v.cells) sz r else none

theorem flatten_set {sz : Nat} : ∀ (rows : List (List IV)) (i : Nat) (c : List IV), (∀ r ∈ rows, r.length = sz) → i < rows.length →
  (rows.set i c).flatten = rows.flatten.take (i * sz) ++ c ++ rows.flatten.drop (i * sz + sz)
 | [], i, c, _, h => by simp at h
 | r :: rows, 0, c, he, _ => by
  have hr : r.length = sz := he r (List.mem_cons_self)
  simp only [sz0, List.flatten_cons, Nat.zero_mul, tz0, na0, Nat.zero_add]
  rw [← hr, List.drop_left]
 | r :: rows, i + 1, c, he, hi => by
  have hr : r.length = sz := he r (List.mem_cons_self)
  have ih := flatten_set rows i c (fun x hx => he x (List.mem_cons_of_mem _ hx)) (by simpa using hi)
  simp only [ss0, List.flatten_cons]
  rw [ih]
  have e1 : (i + 1) * sz = r.length + i * sz := by rw [hr, Nat.add_mul]; omega
  rw [e1, List.take_length_add_append]
  rw [show r.length + i * sz + sz = r.length + (i * sz + sz) by omega, List.drop_length_add_append]
  simp [List.append_assoc]

theorem flatten_length {sz : Nat} : ∀ (rows : List (List IV)), (∀ r ∈ rows, r.length = sz) → rows.flatten.length = rows.length * sz
 | [], _ => by simp
 | r :: rows, he => by
  have ih := flatten_length rows (fun x hx => he x (List.mem_cons_of_mem _ hx))
  rw [List.flatten_cons, la0, he r (List.mem_cons_self), ih, lc0, Nat.add_mul]; omega

theorem layR_ok {sz : Nat} : ∀ (ps : List (Nat × IV)) (rows out : List (List IV)), (∀ r ∈ rows, r.length = sz) → layR rows sz ps = some out →
  out.length = rows.length ∧ (∀ r ∈ out, r.length = sz) ∧ lay rows.flatten (ps.map fun p => (p.1 * sz, sz, p.2)) = some out.flatten
 | [], rows, out, he, h => by
  simp [layR] at h; subst h
  exact ⟨rfl, he, rfl⟩
 | (i, v) :: ps, rows, out, he, h => by
  simp only [layR] at h
  split at h
  ·rename_i hc
   obtain ⟨h1, h2⟩ := hc
   obtain ⟨g1, g2, g3⟩ := layR_ok ps (rows.set i v.cells) out (fun r hr => by
    rcases List.mem_or_eq_of_mem_set hr with h | h
    ·exact he r h
    ·rw [h]; exact h1) h
   refine ⟨by simpa using g1, g2, ?_⟩
   simp only [mc0, lay]
   have hfl := flatten_length rows he
   have : (i + 1) * sz ≤ rows.length * sz := Nat.mul_le_mul_right _ h2
   rw [Nat.add_mul, Nat.one_mul] at this
   rw [if_pos ⟨h1, by omega⟩, ← flatten_set rows i v.cells he h2]
   exact g3
  ·cases h

inductive UX where
 | bad
 | ustr (e : Nat)
 | smark
 | clr (sz : Nat) (z : List IV)
 deriving Inhabited

inductive EK where
 | zero (e sz : Nat) (cs : List IV)
 | box (e sz : Nat) (x : CX)
 | bslice (e sz : Nat) (zero : List IV) (len : Nat) (parts : List (Nat × CX))
 | st (n : Nat) (a x : CX)
 | app (e sz bytes : Nat) (x y : CX)
 | appS (e bytes : Nat) (x y : CX)
 | copy (sz : Nat) (d s : CX)
 | copyS (d s : CX)
 | mks (e sz bytes : Nat) (zero : List IV) (len cap : CX)
 | s2b (e : Nat) (x : CX)
 | call (f : Nat) (args : List CX)
 | callv (f : CX) (args : List CX)
 | ux (k : UX) (xs : List CX)
 deriving Inhabited

def UponF (P : Program) (r : Result Next) (R : Value → World → Prop) : Prop :=
 match r with
 | .ok (.value v) w => R v w
 | .ok (.enter f args) w => Calls P f args w fun
  | .returned v, w' => R v w'
  | _, _ => False
 | _ => False

def tabs : List (String × IntKind × List Int) := []
def mxOn : Bool := false
class GOk (P : Program) (B : Nat) (w : World) : Prop where
 g : ∀ t ∈ tabs, ∀ n, P.globalNamed t.1 = some n → n < B ∧ Lib.TabIs P w t.1 t.2.1 t.2.2
 mx : mxOn = true → ∀ n, P.globalNamed "internal/bytealg.MaxLen" = some n → n < B ∧ ∃ m, w.cell? ⟨n, 0, none⟩ = some (.int .i64 m)
theorem tabIs_block {P : Program} {w w' : World} {name : String} {k : IntKind} {zs : List Int} {n : Nat} (hn : P.globalNamed name = some n) (he : w'.heap[n]? = w.heap[n]?) (h : Lib.TabIs P w name k zs) : Lib.TabIs P w' name k zs := by
 unfold Lib.TabIs World.var? at *
 rw [hn] at h ⊢
 simp only [Option.bind_some] at h ⊢
 rw [he]; exact h
theorem GOk.below {P : Program} {B : Nat} {w w' : World} (h : GOk P B w) (hb : Below B w w') : GOk P B w' :=
 ⟨fun t ht n hn => ⟨(h.g t ht n hn).1, tabIs_block hn (hb.block n (h.g t ht n hn).1) (h.g t ht n hn).2⟩,
  fun hm n hn => ⟨(h.mx hm n hn).1, by obtain ⟨m, h2⟩ := (h.mx hm n hn).2; exact ⟨m, (hb.cell (p := ⟨n, 0, none⟩) (h.mx hm n hn).1).trans h2⟩⟩⟩

theorem GOk.free {P : Program} {B : Nat} {w : World} (h : (tabs.all fun t => (P.globalNamed t.1).isNone) = true) (hm : mxOn = false := by rfl) : GOk P B w :=
 ⟨fun t ht n hn => (by have := List.all_eq_true.1 h t ht; rw [hn] at this; cases this), fun h1 => by rw [hm] at h1; cases h1⟩
theorem GOk.max {P : Program} {w : World} (h : (tabs.all fun t => (P.globalNamed t.1).isNone) = true) {n : Nat} (hn : P.globalNamed "internal/bytealg.MaxLen" = some n) (hlt : n < w.heap.size) (hc : ∃ m, w.cell? ⟨n, 0, none⟩ = some (.int .i64 m)) : GOk P w.heap.size w :=
 ⟨fun t ht n hn => (by have := List.all_eq_true.1 h t ht; rw [hn] at this; cases this), fun _ n' hn' => by obtain rfl := Option.some.inj (hn.symm.trans hn'); exact ⟨hlt, hc⟩⟩

def ICalls (P : Program) (f : Nat) (args : List IV) (h : IH) (Q : IV → IH → Prop) : Prop :=
 ∀ (ρ : List RLoc) (B : Nat) (w : World) (args' : Array Value), GOk P B w → WRel ρ B w h → LRel ρ args'.toList args → UponF P ((callFunc f args').run P w) (Out ρ B w Q)

theorem UponF.mono {r : Result Next} {R R' : Value → World → Prop} (hr : ∀ v w, R v w → R' v w) (hu : UponF P r R) : UponF P r R' := by
 unfold UponF at *
 split at hu
 ·exact hr _ _ hu
 ·exact Calls.mono hu (fun e w' he => by cases e <;> first | exact hr _ _ he | exact he)
 ·exact hu

theorem Out.mono {K K' : IV → IH → Prop} (hk : ∀ v h, K v h → K' v h) {v' : Value} {w' : World} (ho : Out ρ B w K v' w') : Out ρ B w K' v' w' :=
 let ⟨ρ', v, h', h1, h2, h3, h4, h5⟩ := ho
 ⟨ρ', v, h', h1, h2, h3, h4, hk _ _ h5⟩

theorem ICalls.mono {f : Nat} {args : List IV} {Q Q' : IV → IH → Prop} (hc : ICalls P f args h Q) (hq : ∀ v h', Q v h' → Q' v h') : ICalls P f args h Q' :=
 fun ρ B w args' hg hw ha => (hc ρ B w args' hg hw ha).mono (fun _ _ ho => ho.mono hq)

def copyK (h : IH) (sz : Nat) (d : IV) (ys : List (List IV)) (K : IV → IH → Prop) : Prop :=
 match d with
 | .nilslice | .eslice _ => K (.int .i64 0) h
 | .slice l i n => if min ys.length n = 0 then K (.int .i64 0) h else
  match h.obj l with
  | .rows rs e sz' false => sz' = sz ∧ i + n ≤ rs.length ∧ K (.int .i64 (min ys.length n : Nat)) (h.set l (.rows (rs.take i ++ ys.take n ++ rs.drop (i + min ys.length n)) e sz false))
  | _ => False
 | _ => False

def uact (P : Program) (h : IH) (K : IV → IH → Prop) : UX → List IV → Prop
 | .ustr _, [.nilptr, .int .i64 n] => n = 0 ∧ K (.str []) h
 | .ustr el, [.ptr l 0 0, .int .i64 n] => match h.obj l with
  | .rows rs e sz false => e = el ∧ sz = 1 ∧ 0 < n ∧ n ≤ 9223372036854775807 ∧ n.toNat ≤ rs.length ∧
   (match bytesOf (rs.take n.toNat) with
    | some s => K (.str s) (h.set l (.rows rs e 1 true))
    | none => False)
  | _ => False
 | .smark, [.slice l i n] => match h.obj l with
  | .rows _ _ sz false => sz = 1 ∧ K (.slice l i n) h
  | _ => False
 | .clr sz z, [x] => match ilen x with
  | some n => copyK h sz x (List.replicate n z) fun _ h' => K (.tuple []) h'
  | none => False
 | _, _ => False

def act (P : Program) (h : IH) (e : Env) (K : IV → IH → Prop) : EK → Prop
 | .zero el sz cs => K (.ptr h.n 0 0) (h.push (.rows [cs] el sz false))
 | .box el sz x => (x.ev e).cells.length = sz ∧ (x.ev e).cells.all IV.one = true ∧ K (.ptr h.n 0 0) (h.push (.rows [(x.ev e).cells] el sz false))
 | .bslice el sz zero len parts => if len = 0 then K (.eslice true) h else
  match layR (List.replicate len zero) sz (parts.map fun p => (p.1, p.2.ev e)) with
  | some rows => (rows.all fun r => r.all IV.one) = true ∧ K (.slice h.n 0 len) (h.push (.rows rows el sz false))
  | none => False
 | .st n a x => match a.ev e with
  | .ptr l i k => match h.obj l with
   | .rows rs el sz false => match rs[i]? with
    | some row => (x.ev e).cells.length = n ∧ k + n ≤ row.length ∧ (x.ev e).cells.all IV.one = true ∧ K (.tuple []) (h.set l (.rows (rs.set i (wrt row k (x.ev e).cells)) el sz false))
    | none => False
   | _ => False
  | _ => False
 | .app el sz bytes x y => match srcRows h sz (y.ev e) with
  | some ys => appK h el sz bytes (x.ev e) ys K
  | none => False
 | .appS el bytes x y => match y.ev e with
  | .str s => appK h el 1 bytes (x.ev e) (strRows s) K
  | _ => False
 | .copy sz d s => match srcRows h sz (s.ev e) with
  | some ys => copyK h sz (d.ev e) ys K
  | none => False
 | .copyS d s => match s.ev e with
  | .str s => copyK h 1 (d.ev e) (strRows s) K
  | _ => False
 | .mks el sz bytes zero len cap => match len.ev e, cap.ev e with
  | .int _ l, .int _ c => 0 ≤ l ∧ l ≤ c ∧ (bytes : Int) * c ≤ 140737488355328 ∧ c ≤ 9223372036854775807 ∧
   (if c = 0 then K (.eslice true) h else K (.slice h.n 0 l.toNat) (h.push (.rows (List.replicate l.toNat zero) el sz false)))
  | _, _ => False
 | .s2b el x => match x.ev e with
  | .str s => if s = [] then K (.eslice false) h else s.length ≤ 9223372036854775807 ∧ K (.slice h.n 0 s.length) (h.push (.rows (strRows s) el 1 false))
  | _ => False
 | .call f args => ICalls P f (args.map (CX.ev e)) h K
 | .callv f args => match f.ev e with
  | .func g first caps => ICalls P g (first ++ args.map (CX.ev e) ++ caps) h K
  | _ => False
 | .ux k xs => uact P h K k (xs.map (CX.ev e))

def bparts : List (Nat × Operand) → Option (List (Nat × CX))
 | [] => some []
 | (i, x) :: r => match cx x, bparts r with
  | some x', some r' => some ((i, x') :: r')
  | _, _ => none

def ecomp (P : Program) (op : Op) : Option EK :=
 match op with
 | .alloc t => match zeroOf P t, tsz P t with
  | some z, some n => if z.length = n ∧ z.all IV.one = true then some (.zero t n z) else none
  | _, _ => none
 | .box t x => match cx x, tsz P t with
  | some x, some n => some (.box t n x)
  | _, _ => none
 | .buildSlice t len parts => match P.underlying t with
  | some (.slice el) => match zeroOf P el, tsz P el, bparts parts.toList with
   | some z, some n, some ps => if z.length = n ∧ 0 < n ∧ len * n ≤ 16777216 ∧ (len ≠ 0 ∨ ps.length = 0) then some (.bslice el n z len ps) else none
   | _, _, _ => none
  | _ => none
 | .store t a x => match tsz P t, cx a, cx x with
  | some n, some a, some x => some (.st n a x)
  | _, _, _ => none
 | .makeSlice t l c => match P.underlying t with
  | some (.slice el) => match zeroOf P el, P.info? el, cx l, cx c with
   | some z, some i, some l, some c => if z.length = i.size ∧ 0 < i.size ∧ 0 < i.bytes ∧ z.all IV.one = true then some (.mks el i.size i.bytes z l c) else none
   | _, _, _, _ => none
  | _ => none
 | .convert s d x => match P.underlying s, P.underlying d, cx x with
  | some .string, some (.slice el), some x => match P.underlying el, tsz P el with
   | some (.int .u8), some 1 => some (.s2b el x)
   | _, _ => none
  | _, _, _ => none
 | .call { callee := .builtin .append, args, argTypes } => match args.toList, argTypes.toList with
  | [x, y], [t, u] => match P.underlying t, P.underlying u, cx x, cx y with
   | some (.slice el), some (.slice el'), some x, some y => match P.info? el, zeroOf P el with
    | some i, some z => if el' = el ∧ z.length = i.size ∧ 0 < i.bytes then some (.app el i.size i.bytes x y) else none
    | _, _ => none
   | some (.slice el), some .string, some x, some y => match P.info? el, zeroOf P el with
    | some i, some z => if i.size = 1 ∧ z.length = 1 ∧ 0 < i.bytes then some (.appS el i.bytes x y) else none
    | _, _ => none
   | _, _, _, _ => none
  | _, _ => none
 | .call { callee := .builtin .copy, args, argTypes } => match args.toList, argTypes.toList with
  | [x, y], [t, u] => match P.underlying t, P.underlying u, cx x, cx y with
   | some (.slice el), some (.slice _), some x, some y => (tsz P el).map fun n => .copy n x y
   | some (.slice el), some .string, some x, some y => if tsz P el = some 1 then some (.copyS x y) else none
   | _, _, _, _ => none
  | _, _ => none
 | .call { callee := .value (.func f), args, .. } => (cxs args.toList).map (.call f)
 | .call { callee := .value f, args, .. } => match cx f, cxs args.toList with
  | some f, some args => some (.callv f args)
  | _, _ => none
 | _ => none

def uxcomp (P : Program) (op : Op) : Option (UX × List CX) :=
 match op with
 | .call { callee := .builtin .unsafeString, args, argTypes } => match args.toList, argTypes.toList with
  | [x, y], [t, _] => match P.underlying t, cx x, cx y with
   | some (.pointer e), some x, some y => if P.cellsOf e = 1 then some (.ustr e, [x, y]) else none
   | _, _, _ => none
  | _, _ => none
 | .convert src dst x => match P.underlying src, cx x with
  | some (.slice e), some x => match P.underlying e with
   | some (.int .u8) => if src = dst then some (.smark, [x]) else none
   | _ => none
  | _, _ => none
 | .call { callee := .builtin .clear, args, argTypes } => match args.toList, argTypes.toList with
  | [x], [t] => match P.underlying t, cx x with
   | some (.slice el), some x => match zeroOf P el, P.info? el with
    | some z, some i => if z.length = i.size ∧ 0 < i.size ∧ z.all IV.one = true then some (.clr i.size z, [x]) else none
    | _, _ => none
   | _, _ => none
  | _, _ => none
 | _ => none
def ekc (P : Program) (op : Op) : EK :=
 match ecomp P op with
 | some k => k
 | none => match uxcomp P op with
  | some p => .ux p.1 p.2
  | none => .ux .bad []

end
end Go.IW

namespace Go.IW
open Go.RowKit

section
variable {P : Program} {ρ : List RLoc} {B : Nat} {w : World} {h : IH} {N : Nat} {a : Act} {e : Env}

def Does (P : Program) (o : Oper) (a : Act) (w : World) (ρ : List RLoc) (B : Nat) (K : IV → IH → Prop) : Prop :=
 ∀ (next : Act → World → Prop) (Q : Exit → Act → World → Prop), (∀ v' w', Out ρ B w K v' w' → next (a.put o.dst v') w') → o.wp P a w next Q

theorem does_value {o : Oper} {K : IV → IH → Prop} (hr : ∃ v' w', (execOp a.eval o).run P w = .ok (.value v') w' ∧ Out ρ B w K v' w') : Does P o a w ρ B K := by
 intro next Q hn
 obtain ⟨v', w', h1, h2⟩ := hr
 unfold Oper.wp
 rw [h1]
 exact hn v' w' h2
theorem does_skip {o : Oper} {K : IV → IH → Prop} (hr : ∃ w', (execOp a.eval o).run P w = .ok .skip w' ∧ Out ρ B w K undef w') : Does P o a w ρ B K := by
 intro next Q hn
 obtain ⟨w', h1, h2⟩ := hr
 unfold Oper.wp
 rw [h1]
 exact hn undef w' h2
theorem does_upon {o : Oper} {K : IV → IH → Prop} (hr : UponF P ((execOp a.eval o).run P w) (Out ρ B w K)) : Does P o a w ρ B K := by
 intro next Q hn
 unfold Oper.wp
 unfold UponF at hr
 split at hr
 ·rename_i v w' h1; rw [h1]; exact hn v w' hr
 ·rename_i f args w' h1
  rw [h1]
  exact Calls.mono hr (fun en w'' he => by cases en <;> first | exact hn _ _ he | exact he.elim)
 ·exact hr.elim

theorem all_one {l : List IV} (h : l.all IV.one = true) : ∀ x ∈ l, x.one = true := List.all_eq_true.1 h

theorem run_zeroValue {t : TypeId} {z' : List IV} (h : zeroOf P t = some z') (ρ : List RLoc) : ∃ z, (∀ w, (zeroValue t).run P w = .ok z w) ∧ LRel ρ z.cells.toList z' ∧ (P.info? t).bind (·.zero) = some z := by
 unfold zeroOf at h
 split at h
 ·rename_i z hz
  refine ⟨z, fun w => ?_, cvs_rel h ρ, hz⟩
  cases hi : P.info? t with
  | none => rw [hi] at hz; cases hz
  | some i => rw [hi] at hz; simp at hz; simp [zeroValue, typeInfo, hi, hz]
 ·cases h

theorem bparts_rel (ha : ARel ρ N a e) : ∀ {l : List (Nat × Operand)} {l' : List (Nat × CX)}, bparts l = some l' →
  l.length = l'.length ∧ ∀ (i : Nat) p q, l[i]? = some p → l'[i]? = some q → q.1 = p.1 ∧ VRel ρ (a.eval p.2) (q.2.ev e)
 | [], l', h => by simp [bparts] at h; subst h; simp
 | (i, x) :: r, l', h => by
  simp only [bparts] at h
  split at h
  ·rename_i x' r' h2 h3
   obtain rfl := Option.some.inj h
   obtain ⟨hl, ih⟩ := bparts_rel ha h3
   refine ⟨by simp [hl], fun j p q hp hq => ?_⟩
   cases j with
   | zero => simp at hp hq; subst hp; subst hq; exact ⟨rfl, cx_rel h2 ha⟩
   | succ j => simp at hp hq; exact ih j p q hp hq
  ·cases h

theorem madeCells_at (z : Array Value) (n i k : Nat) (hk : k < z.size) (hi : i * z.size + k < n) : (madeCells z n)[i * z.size + k]? = z[k]? := by
 unfold madeCells
 have : (i * z.size + k) % z.size = k := by rw [Nat.mul_comm, Nat.mul_add_mod]; exact Nat.mod_eq_of_lt hk
 simp [hi, this, hk]

theorem made_rows {z : Array Value} {z' : List IV} (hz : LRel ρ z.toList z') {n m : Nat} (hm : n ≤ m) :
  ∀ (i : Nat) row, (List.replicate n z')[i]? = some row → RowAt ρ (madeCells z (m * z.size)) (i * z.size) row := by
 intro i row hi k v hk
 rw [List.getElem?_replicate] at hi
 split at hi
 ·rename_i hin
  obtain rfl := Option.some.inj hi
  obtain ⟨u, hu, hr⟩ := hz.of_get' hk
  have hkz : k < z.size := by have := (List.getElem?_eq_some_iff.1 hu).1; simpa using this
  refine ⟨u, ?_, hr⟩
  have hlt : (i + 1) * z.size ≤ m * z.size := Nat.mul_le_mul_right _ (by omega)
  rw [Nat.add_mul, Nat.one_mul] at hlt
  rw [madeCells_at z _ i k hkz (by omega)]
  simpa using hu
 ·cases hi

theorem madeCells_flat {z : Array Value} {z' : List IV} (hz : LRel ρ z.toList z') (n : Nat) (hpos : 0 < z.size) : LRel ρ (madeCells z (n * z.size)).toList (List.replicate n z').flatten := by
 have hzl : z'.length = z.size := by have := hz.1; simp at this; omega
 have hfl : (List.replicate n z').flatten.length = n * z.size := by simp [hzl]
 refine ⟨by simp [size_madeCells, hfl], fun i v v' hv hv' => ?_⟩
 have hi : i < n * z.size := by have := (List.getElem?_eq_some_iff.1 hv).1; simpa [size_madeCells] using this
 have hq : i = (i / z.size) * z.size + i % z.size := by rw [Nat.mul_comm]; exact (Nat.div_add_mod i z.size).symm
 have hk : i % z.size < z.size := Nat.mod_lt _ hpos
 have h1 := madeCells_at z (n * z.size) (i / z.size) (i % z.size) hk (by omega)
 rw [← hq] at h1
 rw [Array.getElem?_toList, h1] at hv
 have h2 : (List.replicate n z').flatten[i]? = z'[i % z.size]? := by
  clear hv hv' h1
  induction n generalizing i with
  | zero => simp at hi
  | succ n ih =>
   rw [List.replicate_succ, List.flatten_cons]
   rcases Nat.lt_or_ge i z'.length with hlt | hge
   ·rw [List.getElem?_append_left hlt, Nat.mod_eq_of_lt (by omega)]
   ·rw [List.getElem?_append_right hge]
    have e1 : (i - z'.length) % z.size = i % z.size := by
     rw [hzl] at hge ⊢
     exact (Nat.mod_eq_sub_mod hge).symm
    have hi' : i - z'.length < n * z.size := by rw [Nat.add_mul, Nat.one_mul] at hi; omega
    have := ih (by simp [hzl]) (i - z'.length) hi' (by rw [Nat.mul_comm]; exact (Nat.div_add_mod _ _).symm) (by rw [e1]; exact hk)
    rw [this, e1]
 rw [h2] at hv'
 exact hz.2 _ v v' (by rw [Array.getElem?_toList]; exact hv) hv'

theorem take_flatten {sz : Nat} : ∀ (ys : List (List IV)) (k : Nat), (∀ r ∈ ys, r.length = sz) → ys.flatten.take (k * sz) = (ys.take k).flatten
 | [], k, _ => by simp
 | r :: ys, 0, _ => by simp
 | r :: ys, k + 1, he => by
  have hr : r.length = sz := he r (List.mem_cons_self)
  rw [List.flatten_cons, ts0, List.flatten_cons, ← take_flatten ys k (fun x hx => he x (List.mem_cons_of_mem _ hx))]
  rw [show (k + 1) * sz = r.length + k * sz by rw [hr, Nat.add_mul]; omega, List.take_length_add_append]

theorem row_out (hw : WRel ρ B w h) {sz : Nat} {x : Value} {x' : IV} {ys : List (List IV)} {news : List Value} (hx : VRel ρ x x') (hl : LRel ρ news ys.flatten) (hok : RowsOk sz ys) {R : Sem Value} {fv : Nat → Value} {K : IV → IH → Prop} (hk : copyK h sz x' ys K)
    (r0 : ∀ b n c, x = .slice b n c → min ys.length n = 0 → R.run P w = .ok (fv 0) w)
    (r1 : ∀ r i n c w1, x = .slice (some ⟨r, i, none⟩) n c → min ys.length n ≠ 0 → (storeCells ⟨r, i, none⟩ (news.take (min ys.length n * sz)) 0).run P w = .ok () w1 → R.run P w = .ok (fv (min ys.length n)) w1) :
    ∃ (k : Nat) (w' : World) (ρ' : List RLoc) (h' : IH), R.run P w = .ok (fv k) w' ∧ ρ <+: ρ' ∧ WRel ρ' B w' h' ∧ Below B w w' ∧ K (.int .i64 k) h' := by
  have zero : ∀ (b : Option Addr) (n c : Nat), x = .slice b n c → min ys.length n = 0 → K (.int .i64 0) h → ∃ (k : Nat) (w' : World) (ρ' : List RLoc) (h' : IH), R.run P w = .ok (fv k) w' ∧ ρ <+: ρ' ∧ WRel ρ' B w' h' ∧ Below B w w' ∧ K (.int .i64 k) h' :=
    fun b n c hx hm hk => ⟨0, w, ρ, h, r0 b n c hx hm, List.prefix_refl _, hw, Below.refl _ _, hk⟩
  unfold copyK at hk
  split at hk
  · cases hx; exact zero none 0 0 rfl (by simp) hk
  · cases hx; exact zero _ _ _ rfl (by simp) hk
  · rename_i l i n
    cases hx with
    | @slice l i n c r hr hn hc hm =>
      split at hk
      · rename_i h0; exact zero _ _ _ rfl h0 hk
      · rename_i h0
        split at hk
        · rename_i rs el' sz' ho
          obtain ⟨rfl, hin, hk⟩ := hk
          obtain ⟨cs, t', fz, hg, hrel⟩ := hw.rows hr ho
          obtain ⟨hb, hB, hfz, ht', hcap, hcs⟩ := hrel.own rfl
          have r1 := r1 r.block (i * sz') n c
          have rx : ∀ w1, (storeCells ⟨r.block, i * sz', none⟩ (news.take (min ys.length n * sz')) 0).run P w = .ok () w1 → R.run P w = .ok (fv (min ys.length n)) w1 := fun w1 => r1 w1 (by rw [hb, hrel.hsz, Nat.zero_add]) h0
          clear r0 r1
          generalize hkk : min ys.length n = k at *
          have hkle : k ≤ ys.length := by omega
          have htk : LRel ρ (news.take (k * sz')) (ys.take k).flatten := by rw [← take_flatten ys k hok.each]; exact hl.take _
          have hytake : ∀ row ∈ ys.take k, row ∈ ys := fun row hrow => List.mem_of_mem_take hrow
          have htlen : (news.take (k * sz')).length = k * sz' := by
            rw [htk.1, flatten_length _ (fun row hrow => hok.each row (hytake row hrow)), List.length_take, Nat.min_eq_left hkle]
          generalize news.take (k * sz') = nw at rx htk htlen
          have hfit : i * sz' + nw.length ≤ cs.size := by
            rw [htlen, ← Nat.add_mul, hcs]; exact Nat.mul_le_mul_right _ (by omega)
          have hone : ∀ v ∈ nw, v.oneCell' = true := htk.ones (flatten_one ⟨fun row hrow => hok.each row (hytake row hrow), fun row hrow => hok.one row (hytake row hrow)⟩)
          have hst := run_storeCells_fz (P := P) r.block (i * sz') t' fz (nw) 0 cs w hg hfz.free (by simpa using hfit) hone
          simp only [Nat.add_zero] at hst
          have hrun := rx _ hst
          refine Exists.intro k ?_
          have hcells := hrel.cells
          rw [hb] at hcells
          obtain ⟨olds, ho1, ho2, ho3⟩ := rows_vals (ρ := ρ) (c := cs) (sz := sz') rs 0 hcells hrel.each
          have hmem : ∀ row ∈ rs.take i ++ ys.take n ++ rs.drop (i + k), row ∈ rs ∨ row ∈ ys := by
            intro row hrow
            simp only [List.mem_append] at hrow
            rcases hrow with (h | h) | h
            · exact .inl (List.mem_of_mem_take h)
            · exact .inr (List.mem_of_mem_take h)
            · exact .inl (List.mem_of_mem_drop h)
          have htakeeq : ys.take n = ys.take k := by
            rcases Nat.le_total ys.length n with h | h
            · have : k = ys.length := by omega
              rw [this, List.take_of_length_le h, List.take_length]
            · have : k = n := by omega
              rw [this]
          obtain ⟨g1, g2⟩ := set_rows (rs' := rs.take i ++ ys.take n ++ rs.drop (i + k)) hw hr ho (cs.toList.take (i * sz') ++ nw ++ cs.toList.drop (i * sz' + nw.length)).toArray
            (by simp only [List.size_toArray, la0, List.length_take, List.length_drop, Array.length_toList]; omega)
            (by have := hrel.len; simp only [la0, List.length_take, List.length_drop]; omega)
            (fun row hrow => by rcases hmem row hrow with h | h; exact hrel.each row h; exact hok.each row h)
            (fun row hrow => by rcases hmem row hrow with h | h; exact hrel.one row h; exact hok.one row h)
            (by
              have hfl : LRel ρ (olds.take (i * sz') ++ nw ++ olds.drop ((i + k) * sz')) (rs.take i ++ ys.take n ++ rs.drop (i + k)).flatten := by
                rw [List.flatten_append, List.flatten_append, htakeeq]
                refine ((?_ : LRel ρ _ _).append htk).append ?_
                · rw [← take_flatten rs i hrel.each]; exact ho1.take _
                · have e1 : (rs.drop (i + k)).flatten = rs.flatten.drop ((i + k) * sz') := by
                    have h1 : rs.flatten = (rs.take (i + k)).flatten ++ (rs.drop (i + k)).flatten := by rw [← List.flatten_append, List.take_append_drop]
                    have h2 : (rs.take (i + k)).flatten.length = (i + k) * sz' := by
                      rw [flatten_length _ (fun row hrow => hrel.each row (List.mem_of_mem_take hrow))]; rw [List.length_take, Nat.min_eq_left (by omega)]
                    rw [h1, ← h2, List.drop_left]
                  rw [e1]; exact ho1.drop _
              have := rowAt_flat (c := (cs.toList.take (i * sz') ++ nw ++ cs.toList.drop (i * sz' + nw.length)).toArray) (rs.take i ++ ys.take n ++ rs.drop (i + k)) 0 _ hfl
                (fun row hrow => by rcases hmem row hrow with h | h; exact hrel.each row h; exact hok.each row h)
                (fun m v hv => by
                  rw [Nat.zero_add, List.getElem?_toArray]
                  have ho2' : olds.length = rs.length * sz' := ho2
                  have hle : (i + k) * sz' ≤ rs.length * sz' := Nat.mul_le_mul_right _ (by omega)
                  have hcap2 : rs.length * sz' ≤ cs.size := by rw [hcs]; exact Nat.mul_le_mul_right _ hrel.len
                  rw [Nat.add_mul] at hle
                  simp only [List.getElem?_append, la0, List.length_take, Array.length_toList, List.getElem?_take, List.getElem?_drop, htlen] at hv ⊢
                  have e1 : min (i * sz') cs.size = i * sz' := by omega
                  have e2 : min (i * sz') olds.length = i * sz' := by omega
                  rw [e1]
                  rw [e2] at hv
                  by_cases a1 : m < i * sz'
                  · rw [if_pos (by omega), if_pos a1, if_pos a1] at hv
                    rw [if_pos (by omega), if_pos a1, if_pos a1]
                    have := ho3 m v hv
                    rw [Nat.zero_add] at this
                    simpa using this
                  · by_cases a2 : m < i * sz' + k * sz'
                    · rw [if_pos a2, if_neg a1] at hv
                      rw [if_pos a2, if_neg a1]
                      exact hv
                    · rw [if_neg a2] at hv
                      rw [if_neg a2]
                      rw [Nat.add_mul] at hv
                      have := ho3 _ v hv
                      rw [Nat.zero_add] at this
                      simpa using this)
              intro q row hq
              have := this q row hq
              rwa [Nat.zero_add] at this)
          exact ⟨_, ρ, _, hrun, List.prefix_refl _, g1, g2, hk⟩
        · cases hk
  · cases hk
theorem copy_out (hw : WRel ρ B w h) {t u ty el : TypeId} {sz : Nat} (ht : P.underlying t = some (.slice el)) (hsz : tsz P el = some sz)
  {x y : Value} {x' : IV} {ys : List (List IV)} {news : List Value} (hx : VRel ρ x x') (hlen : ∀ w', (Builtin.lenOf y).run P w' = .ok ys.length w')
  (hcell : ∀ k, k ≤ ys.length → (Builtin.firstCells sz k y).run P w = .ok (news.take (k * sz)).toArray w) (hl : LRel ρ news ys.flatten) (hok : RowsOk sz ys) {K : IV → IH → Prop}
  (hk : copyK h sz x' ys K) : ∃ v' w', (Builtin.copy_ #[t, u] ty #[x, y]).run P w = .ok v' w' ∧ Out ρ B w K v' w' := by
 obtain ⟨k, w', ρ', h', e1, e2, e3, e4, e5⟩ := row_out (P := P) (R := Builtin.copy_ #[t, u] ty #[x, y]) (fv := fun k => .int .i64 (k : Nat)) hw hx hl hok hk
  (fun b n c hx hm => by
   subst hx
   have h0 := hcell 0 (Nat.zero_le _)
   simp only [Nat.zero_mul, tz0] at h0
   have hm' : ys.length.min n = 0 := hm
   cases b <;> simp [Builtin.copy_, run_underlying ht, hlen, run_sizeOf' hsz, hm', h0, storeCells, goInt])
  (fun r i n c w1 hx hm hst => by
   subst hx
   have hcell' := hcell (min ys.length n) (by omega)
   have hkk' : ys.length.min n = min ys.length n := rfl
   simp [Builtin.copy_, run_underlying ht, hlen, run_sizeOf' hsz, hkk', hcell', hst, goInt])
 exact ⟨_, w', e1, ρ', _, h', e2, e3, .int _ _, e4, e5⟩

end
end Go.IW

namespace Go.IW
open Go.RowKit

section
variable {P : Program} {ρ : List RLoc} {B : Nat} {w : World} {h : IH} {N : Nat} {a : Act} {e : Env}

theorem info_size {t : TypeId} {z : Value} {z' : List IV} {i : TypeInfo} (hz : (P.info? t).bind (·.zero) = some z) (hi : P.info? t = some i) (hl : LRel ρ z.cells.toList z') (hn : z'.length = i.size) : i.zero = some z ∧ z.cells.size = i.size := by
 rw [hi] at hz
 refine ⟨hz, ?_⟩
 have := hl.1
 simp at this
 omega

theorem undef_rel (ρ : List RLoc) : VRel ρ undef (.tuple []) := .tuple (cs := #[]) rfl (fun i v v' h => by simp at h)

theorem all_rows {rows : List (List IV)} (h : (rows.all fun r => r.all IV.one) = true) : ∀ row ∈ rows, row.all IV.one = true := List.all_eq_true.1 h

theorem madeBuild (z : Array Value) (n : Nat) : (Array.range n).map (z[· % z.size]!) = madeCells z n := rfl

theorem ek_sound [hG : GOk P B w] (hw : WRel ρ B w h) (ha : ARel ρ N a e) {o : Oper} {ck : EK} {K : IV → IH → Prop} (hc : ecomp P o.op = some ck) (hk : act P h e K ck) : Does P o a w ρ B K := by
  generalize hop : o.op = op at hc
  unfold ecomp at hc
  split at hc
  · -- alloc
    rename_i t
    split at hc
    · rename_i z n hz hn
      split at hc
      · rename_i hcond
        obtain ⟨hl, hone⟩ := hcond
        obtain rfl := Option.some.inj hc
        obtain ⟨zv, hz1, hz2, hz3⟩ := run_zeroValue hz ρ
        refine does_value ⟨_, _, ?_, box_list hw hz2 hl (all_one hone) hk⟩
        simp [execOp, hop, Instr.alloc, hz1, newVar, newRow]
      · cases hc
    · cases hc
  · -- box
    rename_i t x
    split at hc
    · rename_i x' n hx hn
      obtain rfl := Option.some.inj hc
      obtain ⟨h1, h2, h3⟩ := hk
      have hr := cx_rel hx ha
      refine does_value ⟨_, _, ?_, box_out hw hr h1 (all_one h2) h3⟩
      simp [execOp, hop, Instr.box, newVar, newRow]
    · cases hc
  · -- buildSlice
    rename_i t len parts
    split at hc
    · rename_i el ht
      split at hc
      · rename_i z n ps hz hn hps
        split at hc
        · rename_i hcond
          obtain ⟨hzl, hpos, hlim, hps0⟩ := hcond
          obtain rfl := Option.some.inj hc
          obtain ⟨zv, hz1, hz2, hz3⟩ := run_zeroValue hz ρ
          have hzs : zv.cells.size = n := by have := hz2.1; simp at this; omega
          have hlim' : ¬ (16777216 < len * n) := by omega
          simp only [act] at hk
          split at hk
          · rename_i hlen0
            subst hlen0
            obtain ⟨hpl, hpp⟩ := bparts_rel ha hps
            have hp0 : parts.toList = [] := List.eq_nil_of_length_eq_zero (by rw [hpl]; omega)
            have hp1 : parts = #[] := by cases parts; simp_all
            subst hp1
            have hrun : (execOp a.eval o).run P w = .ok (.value (.slice (some ⟨w.heap.size, 0, none⟩) 0 0)) (w.alloc (.cells #[] el)) := by
              simp [execOp, hop, Instr.buildSlice, run_underlying ht, run_sizeOf' hn, Instr.fill, newRow, Array.range_zero']
            exact does_value ⟨_, _, hrun, ρ, _, h, List.prefix_refl _, hw.grown (heap_alloc_lt w _) (by simp), .eslice (fun _ => rfl) (Nat.zero_le _), (Below.refl B w).alloc hw.base _, hk⟩
          · rename_i hlen0
            split at hk
            · rename_i rows hrows
              obtain ⟨hone, hk⟩ := hk
              have hzlen : ∀ r ∈ List.replicate len z, r.length = n := fun r hr => by rw [List.eq_of_mem_replicate hr]; exact hzl
              obtain ⟨g1, g2, g3⟩ := layR_ok _ _ _ hzlen hrows
              rw [List.length_replicate] at g1
              obtain ⟨hpl, hpp⟩ := bparts_rel ha hps
              have hmade := madeCells_flat (ρ := ρ) hz2 len (by omega)
              rw [hzs] at hmade
              obtain ⟨cells, hc1, hc2⟩ := fill_sound (ρ := ρ) (fun i => some (i * n, n)) (parts.toList.map fun p => (p.1, a.eval p.2)) ((ps.map fun p => (p.1, p.2.ev e)).map fun p => (p.1 * n, n, p.2)) (madeCells zv.cells (len * n)).toList _ _
                (by simp [hpl]) (fun i p q h1 h2 => by
                  rw [List.getElem?_map, Option.map_eq_some_iff] at h1 h2
                  obtain ⟨p0, hp0, rfl⟩ := h1
                  obtain ⟨q0, hq0, rfl⟩ := h2
                  rw [List.getElem?_map, Option.map_eq_some_iff] at hq0
                  obtain ⟨q1, hq1, rfl⟩ := hq0
                  obtain ⟨hf, hr⟩ := hpp i p0 q1 hp0 hq1
                  exact ⟨by simp [hf], hr⟩) hmade g3
              have hparts : (parts.map fun p => (p.1, a.eval p.2)).toList = parts.toList.map fun p => (p.1, a.eval p.2) := by simp
              have hmt : (madeCells zv.cells (len * n)).toList.toArray = madeCells zv.cells (len * n) := by simp
              rw [hmt] at hc1
              have hne : ¬ (len * n = 0) := by
                intro h0
                rcases Nat.mul_eq_zero.1 h0 with h0 | h0 <;> omega
              have hrun : (execOp a.eval o).run P w = .ok (.value (.slice (some ⟨w.heap.size, 0, none⟩) len len)) (w.alloc (.cells cells.toArray el)) := by
                simp only [execOp, hop, Instr.buildSlice, Sem.run_bind, run_underlying ht, Result.andThen_ok, run_sizeOf' hn, if_neg (show ¬ (len * n > 2 ^ 24) from hlim'), Sem.run_pure, if_neg hne, hz1, madeBuild, hparts, hc1, newRow, run_newObj]
                rfl
              have hcl : cells.length = len * n := by rw [hc2.1, flatten_length rows g2, g1]
              obtain ⟨k1, k2⟩ := new_rows hw cells.toArray el n len (0, 0) rows (by simpa using hcl) (by omega) g2 (fun row hrow => all_one (all_rows hone row hrow))
                (by
                  have := rowAt_flat (ρ := ρ) (c := cells.toArray) rows 0 cells hc2 g2 (fun j u hu => by simpa using hu)
                  intro j row hj
                  have := this j row hj
                  rwa [Nat.zero_add] at this) (by simp only [maxLen]; have : len ≤ len * n := Nat.le_mul_of_pos_right _ hpos; omega) (.inl rfl)
              refine does_value ⟨_, _, hrun, _, _, _, List.prefix_append _ _, k1, ?_, k2, hk⟩
              have hlast := getlast_new ρ ⟨w.heap.size, 0, n, len⟩ h hw.len
              have := VRel.slice (i := 0) (n := len) (c := len) hlast (Nat.le_refl _) (by simp) (by simp only [maxLen]; have : len ≤ len * n := Nat.le_mul_of_pos_right _ hpos; omega)
              simpa using this
            · cases hk
        · cases hc
      · cases hc
    · cases hc
  · -- store
    rename_i t x y
    split at hc
    · rename_i n x' y' hn hx hy
      obtain rfl := Option.some.inj hc
      have hrx := cx_rel hx ha
      have hry := cx_rel hy ha
      simp only [act] at hk
      split at hk
      · rename_i l i k hp
        rw [hp] at hrx
        split at hk
        · rename_i rs el sz ho
          split at hk
          · rename_i row hrow
            obtain ⟨h1, h2, h3, h4⟩ := hk
            generalize hax : a.eval x = xv at hrx
            cases hrx with
            | @ptr l i k r hr =>
              obtain ⟨w', g1, g2, g3⟩ := st_out (P := P) hw hr ho hrow (k := k) hry.cells (by omega) (all_one h3)
              have hvs : (a.eval y).cells.size = n := by have := hry.cells.1; simp at this; omega
              refine does_skip ⟨w', ?_, ρ, _, _, List.prefix_refl _, g2, undef_rel ρ, g3, h4⟩
              simp [execOp, hop, Instr.storeAt, hax, Instr.sureAddr, storeVar, run_sizeOf' hn, hvs, g1]
          · cases hk
        · cases hk
      · cases hk
    · cases hc
  · -- makeSlice
    rename_i t l c
    split at hc
    · rename_i el ht
      split at hc
      · rename_i z i l' c' hz hi hl hcc
        split at hc
        · rename_i hcond
          obtain ⟨hzl, hpos, hbpos, hone⟩ := hcond
          obtain rfl := Option.some.inj hc
          have hrl := cx_rel hl ha
          have hrc := cx_rel hcc ha
          simp only [act] at hk
          split at hk
          · rename_i kl lv kc cv hp hq
            rw [hp] at hrl
            rw [hq] at hrc
            obtain ⟨h0, h1, h2, h3, hk⟩ := hk
            obtain ⟨zv, hz1, hz2, hz3⟩ := run_zeroValue hz ρ
            obtain ⟨hiz, hzs⟩ := info_size hz3 hi hz2 hzl
            generalize hal : a.eval l = lx at hrl
            generalize hac : a.eval c = cx' at hrc
            cases hrl
            cases hrc
            have hrun := run_make (P := P) w t el i zv ht hi hiz kl kc lv cv h0 h1 (by omega) h3
            have hex : (execOp a.eval o).run P w = .ok (.value (.slice (some ⟨w.heap.size, 0, none⟩) lv.toNat cv.toNat)) (w.alloc (.cells (madeCells zv.cells (cv.toNat * i.size)) el)) := by
              simp [execOp, hop, hal, hac, hrun]
            split at hk
            · rename_i hc0
              subst hc0
              refine does_value ⟨_, _, hex, ρ, _, h, List.prefix_refl _, hw.grown (heap_alloc_lt w _) (by simp), ?_, (Below.refl B w).alloc hw.base _, hk⟩
              have : lv.toNat = 0 := by omega
              rw [this]
              exact .eslice (fun _ => rfl) (Nat.zero_le _)
            · rename_i hc0
              obtain ⟨k1, k2⟩ := new_rows hw (madeCells zv.cells (cv.toNat * i.size)) el i.size cv.toNat (0, 0) (List.replicate lv.toNat z) (size_madeCells _ _) (by simp; omega)
                (fun r hr => by rw [List.eq_of_mem_replicate hr]; exact hzl) (fun r hr => by rw [List.eq_of_mem_replicate hr]; exact all_one hone)
                (by have := made_rows (ρ := ρ) hz2 (n := lv.toNat) (m := cv.toNat) (by omega); rw [hzs] at this; exact this) (by simp only [maxLen]; omega) (.inl rfl)
              refine does_value ⟨_, _, hex, _, _, _, List.prefix_append _ _, k1, ?_, k2, hk⟩
              have hlast := getlast_new ρ ⟨w.heap.size, 0, i.size, cv.toNat⟩ h hw.len
              have := VRel.slice (i := 0) (n := lv.toNat) (c := cv.toNat) hlast (by omega) (by simp) (by simp only [maxLen]; omega)
              simpa using this
          · cases hk
        · cases hc
      · cases hc
    · cases hc
  · -- convert
    rename_i s d x
    split at hc
    · rename_i el x' hs hd hx
      split at hc
      · rename_i he hn
        obtain rfl := Option.some.inj hc
        have hr := cx_rel hx ha
        simp only [act] at hk
        split at hk
        · rename_i str hp
          rw [hp] at hr
          generalize hax : a.eval x = xv at hr
          generalize hsv : IV.str str = sv at hr
          cases hr <;> cases hsv
          rename_i str
          have hrun := run_bytes_of_string (P := P) w s d el str hs hd he
          have hsz : str.data.toList.length = str.size := size_list str
          generalize hcap : grownCap w str.size 0 el = cap at hrun
          have hge : str.size ≤ cap := by rw [← hcap]; exact grownCap_ge _ _ _ _
          have hbl : (bytesRow str cap).size = cap := by
            have e0 : str.data.size = str.size := rfl
            simp only [bytesRow, Array.size_append, Array.size_map, Array.size_replicate, e0]; omega
          have hex : (execOp a.eval o).run P w = .ok (.value (.slice (some ⟨w.heap.size, 0, none⟩) str.size cap)) (w.drew.alloc (.cells (bytesRow str cap) el ((bytesRow str cap).size, (bytesRow str cap).size + 1))) := by
            simp [execOp, hop, hax, hrun]
          have hcm : str.size ≤ maxLen → cap ≤ maxLen := fun hm => by rw [← hcap]; exact grownCap_le_maxLen w _ _ _ hm
          split at hk
          · rename_i h0
            have h0' : str.size = 0 := by rw [← hsz, h0]; rfl
            refine does_value ⟨_, _, hex, ρ, _, h, List.prefix_refl _, (hw.same (w' := w.drew) rfl).grown (heap_alloc_lt w.drew _) (by simp), ?_, (Below.refl B w).drew.alloc hw.base _, hk⟩
            rw [h0']
            exact .eslice (fun h => by cases h) (hcm (by omega))
          · obtain ⟨h1, hk⟩ := hk
            rw [hsz] at h1 hk
            have hcm' := hcm h1
            obtain ⟨k1, k2⟩ := new_rows (hw.same (w' := w.drew) rfl) (bytesRow str cap) el 1 cap ((bytesRow str cap).size, (bytesRow str cap).size + 1) (strRows str.data.toList) (by rw [hbl]; omega) (by simp only [strRows, List.length_map, hsz]; exact hge)
              (strRows_ok _).each (strRows_ok _).one
              (by
                have := rowAt_flat (ρ := ρ) (c := bytesRow str cap) (strRows str.data.toList) 0 _ (strRows_rel _ ρ) (strRows_ok _).each (fun j u hu => by
                  rw [Nat.zero_add]
                  rw [List.getElem?_map, Option.map_eq_some_iff] at hu
                  obtain ⟨b, hb, rfl⟩ := hu
                  have hj : j < str.data.size := by have := (List.getElem?_eq_some_iff.1 hb).1; simpa using this
                  rw [bytesRow_at str cap j hj]
                  rw [Array.getElem?_toList, Array.getElem?_eq_getElem hj] at hb
                  obtain rfl := Option.some.inj hb
                  rfl)
                intro j row hj
                have := this j row hj
                rwa [Nat.zero_add] at this) hcm' (.inr ⟨rfl, Nat.le_refl _⟩)
            refine does_value ⟨_, _, hex, _, _, _, List.prefix_append _ _, k1, ?_, (Below.refl B w).drew.trans k2, hk⟩
            have hlast := getlast_new ρ ⟨w.heap.size, 0, 1, cap⟩ h hw.len
            have := VRel.slice (i := 0) (n := str.size) (c := cap) hlast hge (by simp) hcm'
            simpa using this
        · cases hk
      · cases hc
    · cases hc
  · -- append
    rename_i args argTypes
    split at hc
    · rename_i x y t u hargs htys
      have e1 : args = #[x, y] := by cases args; simp_all
      have e2 : argTypes = #[t, u] := by cases argTypes; simp_all
      subst e1; subst e2
      split at hc
      · rename_i el el' x' y' ht hu hx hy
        split at hc
        · rename_i i z hi hz
          split at hc
          · rename_i hcond
            obtain ⟨rfl, hzl, hbpos⟩ := hcond
            obtain rfl := Option.some.inj hc
            obtain ⟨zv, hz1, hz2, hz3⟩ := run_zeroValue hz ρ
            obtain ⟨hiz, hzs⟩ := info_size hz3 hi hz2 hzl
            simp only [act] at hk
            split at hk
            · rename_i ys hys
              obtain ⟨news, g1, g2, g3⟩ := src_slice (P := P) hw hu (i := i) (cx_rel hy ha) hys
              obtain ⟨v', w', k1, k2⟩ := app_out (P := P) (ty := o.type) hw ht hi hiz hzs hbpos (cx_rel hx ha) g1 g2 g3 hk
              exact does_value ⟨v', w', by simp [execOp, hop, resolve, invoke, builtin, k1], k2⟩
            · cases hk
          · cases hc
        · cases hc
      · rename_i el x' y' ht hu hx hy
        split at hc
        · rename_i i z hi hz
          split at hc
          · rename_i hcond
            obtain ⟨hsz1, hzl, hbpos⟩ := hcond
            obtain rfl := Option.some.inj hc
            obtain ⟨zv, hz1, hz2, hz3⟩ := run_zeroValue hz ρ
            obtain ⟨hiz, hzs⟩ := info_size hz3 hi hz2 (by omega)
            simp only [act] at hk
            split at hk
            · rename_i s hp
              have hry := cx_rel hy ha
              rw [hp] at hry
              obtain ⟨news, g1, g2⟩ := src_string (P := P) (w := w) hu hry
              rw [← hsz1] at g1 hk
              obtain ⟨v', w', k1, k2⟩ := app_out (P := P) (ty := o.type) hw ht hi hiz hzs hbpos (cx_rel hx ha) g1 g2 (by rw [hsz1]; exact strRows_ok s) hk
              exact does_value ⟨v', w', by simp [execOp, hop, resolve, invoke, builtin, k1], k2⟩
            · cases hk
          · cases hc
        · cases hc
      · cases hc
    · cases hc
  · -- copy
    rename_i args argTypes
    split at hc
    · rename_i x y t u hargs htys
      have e1 : args = #[x, y] := by cases args; simp_all
      have e2 : argTypes = #[t, u] := by cases argTypes; simp_all
      subst e1; subst e2
      split at hc
      · rename_i el el' x' y' ht hu hx hy
        rw [Option.map_eq_some_iff] at hc; obtain ⟨n, hn, rfl⟩ := hc
        simp only [act] at hk
        split at hk
        · rename_i ys hys
          obtain ⟨ad, c, news, hyv, hlc, hl, hlen, hok, hnil, hcell⟩ := src_rows hw (cx_rel hy ha) hys
          obtain ⟨v', w', k1, k2⟩ := copy_out (P := P) (u := u) (ty := o.type) (y := a.eval y) hw ht hn (cx_rel hx ha) (fun w' => by rw [hyv]; simp [Builtin.lenOf]) (fun k hk' => by
            rw [hyv]
            cases ad with
            | none =>
              have := hnil rfl; subst this
              have : k = 0 := by simpa using hk'
              subst this
              simp [run_firstCells_none]
            | some ad =>
              refine run_firstCells_some (P := P) w n k ad _ c (news.take (k * n)) ?_ (fun j v hv => ?_)
              · rw [List.length_take, hlen, Nat.min_eq_left (Nat.mul_le_mul_right _ hk')]
              · rw [List.getElem?_take] at hv
                split at hv
                · exact hcell ad rfl j v hv
                · cases hv) hl hok hk
          exact does_value ⟨v', w', by simp [execOp, hop, resolve, invoke, builtin, k1], k2⟩
        · cases hk
      · rename_i el x' y' ht hu hx hy
        split at hc
        · rename_i hn
          obtain rfl := Option.some.inj hc
          simp only [act] at hk
          split at hk
          · rename_i s hp
            have hry := cx_rel hy ha
            rw [hp] at hry
            generalize hay : a.eval y = yv at hry
            generalize hsv : IV.str s = sv at hry
            cases hry <;> cases hsv
            rename_i s
            have hlen : (strRows s.data.toList).length = s.size := by simp only [strRows, List.length_map]; exact size_list s
            obtain ⟨v', w', k1, k2⟩ := copy_out (P := P) (u := u) (ty := o.type) (y := .string s) hw ht hn (cx_rel hx ha) (fun w' => by rw [hlen]; rfl) (fun k hk' => by
              obtain ⟨⟨l⟩⟩ := s
              have hex := ByteArray.extract_mk l 0 k
              simp only [dz0, Nat.sub_zero] at hex
              have hex' : (ByteArray.mk ⟨l⟩).extract 0 k = ByteArray.mk (l.take k).toArray := hex
              simp only [Builtin.firstCells, hex', Sem.run_pure, Nat.mul_one]
              simp) (strRows_rel _ ρ) (strRows_ok _) hk
            exact does_value ⟨v', w', by simp [execOp, hop, resolve, invoke, builtin, hay, k1], k2⟩
          · cases hk
        · cases hc
      · cases hc
    · cases hc
  · -- call
    rename_i f args _
    rw [Option.map_eq_some_iff] at hc; obtain ⟨args', hargs, rfl⟩ := hc
    have hl := cxs_rel ha hargs
    have := hk ρ B w (args.map a.eval) hG hw (by simpa using hl)
    refine does_upon ?_
    simpa [execOp, hop, resolve, Act.eval, Deferred.ofValue, invoke] using this
  · -- a call of a value
    rename_i f args _ _
    split at hc
    · rename_i f' args' hf hargs
      obtain rfl := Option.some.inj hc
      have hl := cxs_rel ha hargs
      have hrf := cx_rel hf ha
      simp only [act] at hk
      split at hk
      · rename_i g first caps hp
        rw [hp] at hrf
        generalize haf : a.eval f = fv at hrf
        cases hrf with
        | @func _ as0 cs _ _ h1 h2 h3 h4 =>
          have l1 : LRel ρ as0.toList first := ⟨by simpa using h1, fun i v v' x y => h3 i v v' (by simpa using x) y⟩
          have l2 : LRel ρ cs.toList caps := ⟨by simpa using h2, fun i v v' x y => h4 i v v' (by simpa using x) y⟩
          have := hk ρ B w (as0 ++ args.map a.eval ++ cs) hG hw (by simpa using (l1.append hl).append l2)
          refine does_upon ?_
          simpa [execOp, hop, resolve, haf, Deferred.ofValue, invoke] using this
      · cases hk
    · cases hc
  · cases hc

end
end Go.IW

namespace Go.IW
open Go.RowKit

inductive CK where
 | f (k : FK)
 | x (k : EK)
 deriving Inhabited
structure COp where
 dst : Option Nat
 guard : Option (Nat × Bool)
 op : CK
 deriving Inhabited

abbrev p0 (d : Nat) (k : FK) : COp := ⟨some d, none, .f k⟩
abbrev x0 (d : Nat) (k : EK) : COp := ⟨some d, none, .x k⟩
abbrev s0 (k : EK) : COp := ⟨none, none, .x k⟩
abbrev g0 (d t : Nat) (w : Bool) (k : FK) : COp := ⟨some d, some (t, w), .f k⟩
inductive DT where
 | fin
 | fl (i : Nat) (r : DT)
 | br (i : Nat) (t r : DT)
 | stop
 deriving Inhabited

inductive CC where
 | skip
 | reg (ops : List COp)
 | dreg (ops : List COp) (bar : List Bool) (anc : List (List Nat)) (ord : List Nat)
 | treg (ops : List COp) (anc : List (List Nat)) (t : DT)
 | seq (a b : CC)
 | cond (c : CX) (a b : CC)
 | block (id : Nat) (a : CC)
 | loop (a : CC)
 | exit (id : Nat)
 | ret
 deriving Inhabited

abbrev EPost := Exit → Env → IH → Prop

section
variable (P : Program)

def vcK (k : CK) (e : Env) (h : IH) (K : IV → IH → Prop) : Prop :=
 match k with
 | .f k => match feval e h k with
  | some v => K v h
  | none => False
 | .x k => act P h e K k
def vcOp (o : COp) (K : Env → IH → Prop) (e : Env) (h : IH) : Prop :=
 match o.guard with
 | none => vcK P o.op e h fun v h' => K (put e o.dst v) h'
 | some (t, want) => match e t with
  | .bool b => (b = want → vcK P o.op e h fun v h' => K (put e o.dst v) h') ∧ (b = !want → K (put e o.dst (.tuple [])) h)
  | .tuple [] => K (put e o.dst (.tuple [])) h
  | _ => False
def vcOps : List COp → (Env → IH → Prop) → Env → IH → Prop
 | [], K, e, h => K e h
 | o :: r, K, e, h => vcOp P o (vcOps r K) e h

def again (o : COp) (e : Env) (h : IH) : Prop :=
 match o.op with
 | .x _ => True
 | .f k => match o.guard with
  | none => match o.dst with
   | some d => feval e h k = some (e d)
   | none => (feval e h k).isSome = true
  | some (t, want) => match e t with
   | .bool b => if b = want then (match o.dst with
     | some d => feval e h k = some (e d)
     | none => (feval e h k).isSome = true) else (match o.dst with
     | some d => e d = .tuple []
     | none => True)
   | .tuple [] => (match o.dst with
     | some d => e d = .tuple []
     | none => True)
   | _ => False
def againAll (ops : List COp) (anc : List (List Nat)) (i : Nat) (e : Env) (h : IH) : List Nat → Prop
 | [] => True
 | j :: r => ((anc.getD i []).contains j = true ∨ again (ops.getD j default) e h) ∧ againAll ops anc i e h r

def vcD (ops : List COp) (bar : List Bool) (anc : List (List Nat)) : List Nat → List Nat → (Env → IH → Prop) → Env → IH → Prop
 | _, [], K, e, h => K e h
 | done, i :: r, K, e, h =>
  if bar.getD i true then vcOp P (ops.getD i default) (fun e' h' => againAll ops anc i e' h' done ∧ vcD ops bar anc (i :: done) r K e' h') e h
  else vcOp P (ops.getD i default) (vcD ops bar anc (i :: done) r K) e h

def vcT (ops : List COp) (anc : List (List Nat)) : List Nat → DT → (Env → IH → Prop) → Env → IH → Prop
 | _, .fin, K, e, h => K e h
 | done, .fl i r, K, e, h => vcOp P (ops.getD i default) (vcT ops anc (i :: done) r K) e h
 | done, .br i t r, K, e, h => vcOp P (ops.getD i default) (fun e' h' => againAll ops anc i e' h' done ∧ vcT ops anc (i :: done) t K e' h') e h ∧ vcT ops anc done r K e h
 | _, .stop, _, _, _ => True

def vcCond (c : IV) (A B : Prop) : Prop :=
 match c with
 | .bool b => (b = true → A) ∧ (b = false → B)
 | _ => False
def blockK (id : Nat) (K : EPost) : EPost := fun ex e h =>
 match ex with
 | .exit id' => if id' = id then K .normal e h else K (.exit id') e h
 | ex => K ex e h
def seqK (next : Env → IH → Prop) (K : EPost) : EPost := fun ex e h =>
 match ex with
 | .normal => next e h
 | ex => K ex e h
def vcLoop (body : EPost → Env → IH → Prop) (K : EPost) (e : Env) (h : IH) : Prop :=
 ∃ I : Nat → Env → IH → Prop, (∃ n, I n e h) ∧ ∀ n e h, I n e h → body (seqK (fun e' h' => ∃ m, m < n ∧ I m e' h') K) e h

def vc : CC → EPost → Env → IH → Prop
 | .skip, K, e, h => K .normal e h
 | .reg ops, K, e, h => vcOps P ops (K .normal) e h
 | .dreg ops bar anc ord, K, e, h => vcD P ops bar anc [] ord (K .normal) e h
 | .treg ops anc t, K, e, h => vcT P ops anc [] t (K .normal) e h
 | .seq a b, K, e, h => vc a (seqK (vc b K) K) e h
 | .cond c a b, K, e, h => vcCond (c.ev e) (vc a K e h) (vc b K e h)
 | .block id a, K, e, h => vc a (blockK id K) e h
 | .loop a, K, e, h => vcLoop (vc a) K e h
 | .exit id, K, e, h => K (.exit id) e h
 | .ret, K, e, h => K .ret e h

def gcomp (ops : Array Oper) (o : Oper) : Option (Option (Nat × Bool)) :=
 match o.guard with
 | none => some none
 | some (j, want) => match (ops[j]?).bind (·.dst) with
  | some t => some (some (t, want))
  | none => none
def dOk (N : Nat) (o : Oper) : Bool := match o.dst with | some d => decide (d < N) | none => true
def kcomp (op : Op) : Option CK :=
 match fkc P op with
 | some k => some (.f k)
 | none => some (.x (ekc P op))
def ocomp (N : Nat) (ops : Array Oper) (o : Oper) : Option COp :=
 match gcomp ops o, dOk N o, kcomp P o.op with
 | some g, true, some k => some ⟨o.dst, g, k⟩
 | _, _, _ => none
def ocomps (N : Nat) (ops : Array Oper) : List Oper → Option (List COp)
 | [] => some []
 | o :: r => match ocomp P N ops o, ocomps N ops r with
  | some c, some cs => some (c :: cs)
  | _, _ => none

end

def St (ρ0 : List RLoc) (N B : Nat) (w0 : World) (K : Env → IH → Prop) (a : Act) (w : World) : Prop :=
 ∃ ρ e h, ρ0 <+: ρ ∧ WRel ρ B w h ∧ ARel ρ N a e ∧ Below B w0 w ∧ K e h
def Post (ρ0 : List RLoc) (N B : Nat) (w0 : World) (K : EPost) : Exit → Act → World → Prop := fun ex => St ρ0 N B w0 (K ex)

section
variable {P : Program} {ρ ρ0 : List RLoc} {B : Nat} {w w0 : World} {h : IH} {N : Nat} {a : Act} {e : Env}

theorem ocomp_spec {ops : Array Oper} {o : Oper} {c : COp} (hc : ocomp P N ops o = some c) :
  c.dst = o.dst ∧ (∀ d, o.dst = some d → d < N) ∧ ((o.guard = none ∧ c.guard = none) ∨ ∃ j want t, o.guard = some (j, want) ∧ (ops[j]?).bind (·.dst) = some t ∧ c.guard = some (t, want)) ∧
  ((∃ k, c.op = .f k ∧ fkc P o.op = some k) ∨ (∃ k, c.op = .x k ∧ ekc P o.op = k)) := by
 unfold ocomp at hc
 split at hc
 ·rename_i g k hg hd hk
  obtain rfl := Option.some.inj hc
  refine ⟨rfl, ?_, ?_, ?_⟩
  ·intro d hdd
   unfold dOk at hd
   rw [hdd] at hd
   simpa using hd
  ·unfold gcomp at hg
   split at hg
   ·rename_i h0; exact .inl ⟨h0, (Option.some.inj hg).symm⟩
   ·rename_i j want h0
    split at hg
    ·rename_i t ht; exact .inr ⟨j, want, t, h0, ht, (Option.some.inj hg).symm⟩
    ·cases hg
  ·unfold kcomp at hk
   split at hk
   ·rename_i k' h0; exact .inl ⟨k', (Option.some.inj hk).symm, h0⟩
   ·exact .inr ⟨_, (Option.some.inj hk).symm, rfl⟩
 ·cases hc

theorem yielded_of {ops : Array Oper} {j t : Nat} {b : Bool} (ha : ARel ρ N a e) (ht : (ops[j]?).bind (·.dst) = some t) (he : e t = .bool b) : yielded ops a.tmps j = some b := by
 have hr := ha.val t
 rw [he] at hr
 unfold yielded
 rw [ht]
 simp only [Option.bind_some]
 rw [Array.getD_eq_getD_getElem?] at hr
 cases hx : a.tmps[t]? with
 | none => rw [hx] at hr; simp [undef] at hr; cases hr
 | some v => rw [hx] at hr; simp at hr; cases hr; rfl

theorem yielded_undef {ops : Array Oper} {j t : Nat} (ha : ARel ρ N a e) (ht : (ops[j]?).bind (·.dst) = some t) (he : e t = .tuple []) : yielded ops a.tmps j = none := by
 have hr := ha.val t
 rw [he] at hr
 unfold yielded
 rw [ht]
 simp only [Option.bind_some]
 rw [Array.getD_eq_getD_getElem?] at hr
 cases hx : a.tmps[t]? with
 | none => rfl
 | some v => rw [hx] at hr; simp at hr; cases hr; rfl

theorem liesAt_own {e : TypeId} (hc : P.cellsOf e ≠ 0) (count : Nat) (hn : 1 ≤ count) : liesAt P P.depth e count 0 e 1 = true := by
 have hd : P.depth = (2 * (P.types.size + Made.depth) + 1) + 1 := rfl
 rw [hd]
 simp only [liesAt, Bool.or_eq_true]
 left
 rw [hd]
 simp [rowAt, hc, hn, sameLayout]
theorem run_eq_ptr_same {bop : BinOp} {g : Bool} {tp te : TypeId} {j : TypeInfo} (hg : negOf bop = some g) (ad : Addr) (hp : P.underlying tp = some (.pointer te)) (hte : P.info? te = some j) :
  (binOp bop tp (.pointer (some ad)) (.pointer (some ad))).run P w = .ok (.bool (true != g)) w := by
 have h : ∀ d : Nat, (Op.equalIn (d + 1) tp (.pointer (some ad)) (.pointer (some ad))).run P w = .ok true w := fun d => by
  simp [Op.equalIn, run_underlying hp, sizeOf, typeInfo, hte, run_sameAddr_same]
 cases bop <;> simp only [negOf] at hg <;> first | cases hg | skip
 all_goals (simp only [binOp]; simp [Op.equal, Op.maxDepth, h 9999])

theorem run_eq_ptr_far {bop : BinOp} {g : Bool} {tp te : TypeId} {j : TypeInfo} {a b : Addr} {ca cb : Array Value} {ta tb : TypeId} {fa fb : Nat × Nat} (hg : negOf bop = some g) (hp : P.underlying tp = some (.pointer te)) (hte : P.info? te = some j) (hsz : j.size ≠ 0)
  (hne : a.block ≠ b.block) (ha : w.heap[a.block]? = some (.cells ca ta fa)) (hfa : fa.1 = fa.2) (hb : w.heap[b.block]? = some (.cells cb tb fb)) (hfb : fb.1 = fb.2) :
  (binOp bop tp (.pointer (some a)) (.pointer (some b))).run P w = .ok (.bool (false != g)) w := by
 obtain ⟨a1, a2⟩ := fa
 obtain ⟨b1, b2⟩ := fb
 simp only at hfa hfb
 subst hfa hfb
 have hs : (sameAddr a b).run P w = .ok false w := by
  have k1 : ∀ o : Nat, (decide (a1 ≤ o) && decide (o < a1)) = false := fun o => by
   rw [Bool.and_eq_false_iff, decide_eq_false_iff_not, decide_eq_false_iff_not]; omega
  have k2 : ∀ o : Nat, (decide (b1 ≤ o) && decide (o < b1)) = false := fun o => by
   rw [Bool.and_eq_false_iff, decide_eq_false_iff_not, decide_eq_false_iff_not]; omega
  simp [sameAddr, hne, World.frozen?, ha, hb, noView, viewAt, World.shape?, mayBeOne, stringish, k1, k2, -Bool.and_eq_false_imp, -Bool.and_eq_true]
 have h : ∀ d : Nat, (Op.equalIn (d + 1) tp (.pointer (some a)) (.pointer (some b))).run P w = .ok false w := fun d => by
  simp [Op.equalIn, run_underlying hp, sizeOf, typeInfo, hte, hsz, hs]
 cases bop <;> simp only [negOf] at hg <;> first | cases hg | skip
 all_goals (simp only [binOp]; simp [Op.equal, Op.maxDepth, h 9999])
theorem big_cells (hw : WRel ρ B w h) {l : Nat} {r : RLoc} (hr : ρ[l]? = some r) (hb : (h.obj l).big = true) : ∃ c t fz, w.heap[r.block]? = some (.cells c t fz) ∧ fz.1 = fz.2 := by
 have ho := hw.obj l r hr
 cases hob : h.obj l with
 | dead => rw [hob] at hb; cases hb
 | rows rs e sz ro =>
  rw [hob] at ho hb
  simp only [IObj.big, Bool.and_eq_true, Bool.not_eq_true', bne_iff_ne] at hb
  obtain ⟨rfl, hz⟩ := hb
  obtain ⟨c, t, fz, hg, hrel⟩ := ho
  rcases (hrel.own rfl).2.2.1 with h1 | h1
  ·exact ⟨c, t, fz, hg, h1⟩
  ·exact absurd h1.1 hz
theorem big_apart (hw : WRel ρ B w h) {l l' : Nat} {r r' : RLoc} (hr : ρ[l]? = some r) (hr' : ρ[l']? = some r') (hne : l ≠ l') (hb : (h.obj l).big = true) (hb' : (h.obj l').big = true) : r.block ≠ r'.block := by
 refine hw.excl l l' r r' hr hr' hne ?_ ?_
 ·cases hob : h.obj l <;> rw [hob] at hb <;> simp [IObj.big, IObj.own] at *
  exact hb.1
 ·cases hob : h.obj l' <;> rw [hob] at hb' <;> simp [IObj.big, IObj.live] at *

theorem eqFields_flat {xs ys : Array Value} {d : Nat} : ∀ (fs : List Field) (i : Nat) (ks : List Nat) (us vs : List IV) (b : Bool), flatK P i fs = some ks → LRel ρ (xs.toList.drop i) us → LRel ρ (ys.toList.drop i) vs → aeqV ks us vs = some b →
  (Op.eqFields (d + 1) xs ys fs).run P w = .ok b w
 | [], i, ks, us, vs, b, hf, _, _, he => by
  simp only [flatK, Option.some.injEq] at hf
  subst hf
  cases us <;> cases vs <;> simp [aeqV] at he
  subst he
  simp [Op.eqFields]
 | f :: r, i, ks, us, vs, b, hf, hu, hv, he => by
  simp only [flatK] at hf
  split at hf
  ·rename_i hc
   obtain ⟨f1, rfl, f3⟩ := hc
   have key : ∀ (l : List Nat) (u v : IV) (us' vs' : List IV), flatK P (f.offset + 1) r = some l → us = u :: us' → vs = v :: vs' → ∃ x y, VRel ρ x u ∧ VRel ρ y v ∧
     ∀ (e t : Bool), (Op.equalIn (d + 1) f.type x y).run P w = .ok e w → aeqV l us' vs' = some t → (Op.eqFields (d + 1) xs ys (f :: r)).run P w = .ok (e && t) w := by
    rintro l u v us' vs' f5 rfl rfl
    obtain ⟨x, hx, rx⟩ := hu.of_get' (i := 0) (v' := u) rfl
    obtain ⟨y, hy, ry⟩ := hv.of_get' (i := 0) (v' := v) rfl
    have hx' : xs[f.offset]? = some x := by simpa [List.getElem?_drop] using hx
    have hy' : ys[f.offset]? = some y := by simpa [List.getElem?_drop] using hy
    have tu : LRel ρ (xs.toList.drop (f.offset + 1)) us' := by
     rw [← List.tail_drop]
     cases hh : xs.toList.drop f.offset with
     | nil => rw [hh] at hx; simp at hx
     | cons a t => rw [hh] at hu; exact hu.tail
    have tv : LRel ρ (ys.toList.drop (f.offset + 1)) vs' := by
     rw [← List.tail_drop]
     cases hh : ys.toList.drop f.offset with
     | nil => rw [hh] at hy; simp at hy
     | cons a t => rw [hh] at hv; exact hv.tail
    have p1 := run_part_plain (w := w) f3 hx'
    have p2 := run_part_plain (w := w) f3 hy'
    refine ⟨x, y, rx, ry, fun e t h3 h4 => ?_⟩
    have h6 := eqFields_flat (d := d) r (f.offset + 1) l us' vs' t f5 tu tv h4
    cases e <;> simp [Op.eqFields, f1, p1, p2, h3, h6]
   split at hf
   ·rename_i k l hu1 hl
    obtain rfl := Option.some.inj hf
    unfold aeqV at he
    split at he <;> first | cases he | skip
    all_goals first | (rename_i hks; cases hks; done) | skip
    ·rename_i ks' k1 a r1 k2 b1 r2 hks
     cases hks
     split at he
     ·rename_i hk
      subst hk
      rw [Option.map_eq_some_iff] at he
      obtain ⟨t, ht, rfl⟩ := he
      obtain ⟨x, y, rx, ry, fin⟩ := key l _ _ _ _ hl rfl rfl
      cases rx
      cases ry
      exact fin _ t (run_equalIn_int w d f.type k1 k a b1 hu1) ht
     ·cases he
   ·rename_i l hu1 hl
    obtain rfl := Option.some.inj hf
    unfold aeqV at he
    split at he <;> first | cases he | skip
    all_goals first | (rename_i hks; cases hks; done) | skip
    ·rename_i ks' a r1 b1 r2 hks
     cases hks
     rw [Option.map_eq_some_iff] at he
     obtain ⟨t, ht, rfl⟩ := he
     obtain ⟨x, y, rx, ry, fin⟩ := key l _ _ _ _ hl rfl rfl
     cases rx
     cases ry
     rename_i sa sb
     have h7 := run_equalIn_string (P := P) w d f.type sa sb hu1
     rw [show (sa.toList == sb.toList) = decide (sa.data.toList = sb.data.toList) by rw [ByteArray.toList_eq, ByteArray.toList_eq]; rw [Bool.eq_iff_iff]; simp] at h7
     exact fin _ t h7 ht
   ·rename_i l hu1 hl
    obtain rfl := Option.some.inj hf
    unfold aeqV at he
    split at he <;> first | cases he | skip
    all_goals first | (rename_i hks; cases hks; done) | skip
    ·rename_i ks' a r1 b1 r2 hks
     cases hks
     rw [Option.map_eq_some_iff] at he
     obtain ⟨t, ht, rfl⟩ := he
     obtain ⟨x, y, rx, ry, fin⟩ := key l _ _ _ _ hl rfl rfl
     cases rx
     cases ry
     exact fin _ t (run_equalIn_bool' w d f.type a b1 hu1) ht
   ·cases hf
  ·cases hf
theorem u_sound (hw : WRel ρ B w h) (ha : ARel ρ N a e) {o : Oper} {k : UK} {xs : List CX} {v : IV} (hc : ucomp P o.op = some (k, xs)) (hv : ueval h k (xs.map (CX.ev e)) = some v) : Gives P o a w ρ v := by
 unfold Gives
 generalize hop : o.op = op at hc
 unfold ucomp at hc
 split at hc
 ·-- pointers held against each other
  rename_i bop t x y yt
  split at hc
  ·rename_i te g x' y' ht hg hx hy
   split at hc
   rotate_left
   ·cases hc
   rename_i j hj
   split at hc
   ·rename_i hjz
    obtain ⟨rfl, rfl⟩ := Prod.mk.inj (Option.some.inj hc)
    simp only [mc0, mn0] at hv
    unfold ueval at hv
    split at hv
    ·rename_i g0 l i k l' i' k' hk hl
     simp only [List.cons.injEq, and_true] at hl
     obtain ⟨h1, h2⟩ := hl
     cases hk
     split at hv
     ·rename_i heq
      obtain ⟨rfl, rfl, rfl⟩ := heq
      obtain rfl := Option.some.inj hv
      have r1 := cx_rel hx ha
      have r2 := cx_rel hy ha
      rw [h1] at r1
      rw [h2] at r2
      generalize hxv : a.eval x = xv at r1
      generalize hyv : a.eval y = yv at r2
      cases r1 with
      | ptr q1 =>
       cases r2 with
       | ptr q2 =>
        rw [q1] at q2
        obtain rfl := Option.some.inj q2
        refine ⟨_, ?_, VRel.bool _⟩
        simp only [execOp, hop, Sem.run_bind, hxv, hyv, eqGuard_plain (P := P) (w := w) (op := bop) (t := t) (x := x) (y := y) (p := .pointer (some ⟨_, _, none⟩)) ⟨by simp, by simp⟩, Result.andThen_ok, run_eq_ptr_same hg _ ht hj, Sem.run_pure]
     ·split at hv
      ·rename_i hfar
       obtain ⟨hne, hb1, hb2⟩ := hfar
       obtain rfl := Option.some.inj hv
       have r1 := cx_rel hx ha
       have r2 := cx_rel hy ha
       rw [h1] at r1
       rw [h2] at r2
       generalize hxv : a.eval x = xv at r1
       generalize hyv : a.eval y = yv at r2
       cases r1 with
       | ptr q1 =>
        cases r2 with
        | ptr q2 =>
         obtain ⟨ca, ta, fa, w1, f1⟩ := big_cells hw q1 hb1
         obtain ⟨cb, tb, fb, w2, f2⟩ := big_cells hw q2 hb2
         refine ⟨_, ?_, VRel.bool _⟩
         simp only [execOp, hop, Sem.run_bind, hxv, hyv, eqGuard_plain (P := P) (w := w) (op := bop) (t := t) (x := x) (y := y) (p := .pointer (some ⟨_, _, none⟩)) ⟨by simp, by simp⟩, Result.andThen_ok, run_eq_ptr_far hg ht hj hjz (a := ⟨_, _, none⟩) (b := ⟨_, _, none⟩) (big_apart hw q1 q2 hne hb1 hb2) w1 f1 w2 f2, Sem.run_pure]
      ·cases hv
    all_goals (rename_i hk _; first | cases hk | cases hv)
   ·cases hc
  ·rename_i fs g x' y' ht hg hx hy
   split at hc
   ·rename_i hi
    obtain ⟨hi1, hi2⟩ := hi
    rw [Option.map_eq_some_iff] at hc
    obtain ⟨ks, hks, hc⟩ := hc
    obtain ⟨rfl, rfl⟩ := Prod.mk.inj hc
    simp only [mc0, mn0] at hv
    unfold ueval at hv
    split at hv <;> first | (rename_i hk _; cases hk; done) | skip
    ·rename_i g0 ks0 us vs hk hl
     cases hk
     simp only [List.cons.injEq, and_true] at hl
     obtain ⟨h1, h2⟩ := hl
     rw [Option.map_eq_some_iff] at hv
     obtain ⟨b, hb, rfl⟩ := hv
     have r1 := cx_rel hx ha
     have r2 := cx_rel hy ha
     rw [h1] at r1
     rw [h2] at r2
     generalize hxv : a.eval x = xv at r1
     generalize hyv : a.eval y = yv at r2
     cases r1 with
     | agg hl1 q1 =>
      rename_i cs1
      cases r2 with
      | agg hl2 q2 =>
       rename_i cs2
       have hfo : P.fieldsOf t = fs := by unfold Program.fieldsOf; rw [ht]
       have he := eqFields_flat (w := w) (P := P) (ρ := ρ) (xs := cs1) (ys := cs2) (d := 9998) fs.toList 0 ks us vs b hks ⟨by simpa using hl1, fun i v v' hv hv' => q1 i v v' (by simpa using hv) hv'⟩ ⟨by simpa using hl2, fun i v v' hv hv' => q2 i v v' (by simpa using hv) hv'⟩ hb
       have hq := run_equalIn_agg (P := P) w 9999 t cs1 cs2 (by rw [hfo]; exact ht) hi1
       rw [hfo, he] at hq
       refine ⟨.bool (b != g), ?_, VRel.bool _⟩
       simp only [execOp, hop, Sem.run_bind, hxv, hyv, run_eqGuard_agg w _ _ _ _ _ _ hi2, Result.andThen_ok]
       cases bop <;> simp only [negOf] at hg <;> first | cases hg | skip
       ·rw [run_eql_struct, hq]; simp [Sem.run_pure]
       ·rw [run_neq_struct, hq]; simp [Sem.run_pure]
    ·cases hv
   ·cases hc
  ·cases hc
 ·rename_i src dst x
  split at hc
  ·rename_i t x' hs hd hx
   split at hc
   ·rename_i j hj
    split at hc
    ·cases hc
    ·rename_i hz
     obtain ⟨rfl, rfl⟩ := Prod.mk.inj (Option.some.inj hc)
     simp only [mc0, mn0] at hv
     unfold ueval at hv
     split at hv
     ·rename_i hk _; cases hk
     ·rename_i l hk hl
      simp only [List.cons.injEq, and_true] at hl
      have r1 := cx_rel hx ha
      rw [hl] at r1
      split at hv
      ·rename_i r0 rs0 e0 sz0 hob
       split at hv
       ·cases hv
       ·rename_i hs0
        obtain rfl := Option.some.inj hv
        generalize hxv : a.eval x = xv at r1
        cases r1 with
        | ptr q1 =>
         rename_i r
         have ho := hw.obj l r q1
         rw [hob] at ho
         obtain ⟨c, t', fz, hheap, hrel⟩ := ho
         obtain ⟨b0, b1, b2, b3, b4, b5⟩ := hrel.own rfl
         have hlen := hrel.len
         have hsh : w.shape? r.block = some (t', c.size) := by unfold World.shape?; rw [hheap]
         refine ⟨_, ?_, VRel.ptr q1⟩
         have hpos : 0 < c.size := by rw [b5]; exact Nat.mul_pos (by simp at hlen; omega) (by omega)
         have hr := Lib.run_to_unsafe (P := P) w ⟨r.block, r.base + 0 * r.sz + 0, none⟩ hs hd hj hz hsh (by simp [b0, hpos])
         simp only [Nat.zero_mul, Nat.add_zero] at hr
         simp [execOp, hop, hxv, hr]
      ·cases hv
     all_goals (rename_i hk _; first | cases hk | cases hv)
   ·cases hc
  ·rename_i u x' hs hd hx
   split at hc
   ·rename_i j hj
    split at hc
    ·cases hc
    ·rename_i hz
     obtain ⟨rfl, rfl⟩ := Prod.mk.inj (Option.some.inj hc)
     simp only [mc0, mn0] at hv
     unfold ueval at hv
     split at hv
     ·rename_i hk _; cases hk
     ·rename_i hk _; cases hk
     ·rename_i e1 sz1 l hk hl
      cases hk
      simp only [List.cons.injEq, and_true] at hl
      have r1 := cx_rel hx ha
      rw [hl] at r1
      split at hv
      ·rename_i r0 rs0 e0 sz0 hob
       split at hv
       ·rename_i heq
        obtain ⟨rfl, rfl⟩ := heq
        obtain rfl := Option.some.inj hv
        generalize hxv : a.eval x = xv at r1
        cases r1 with
        | ptr q1 =>
         rename_i r
         have ho := hw.obj l r q1
         rw [hob] at ho
         obtain ⟨c, t', fz, hheap, hrel⟩ := ho
         obtain ⟨b0, b1, b2, b3, b4, b5⟩ := hrel.own rfl
         have hlen := hrel.len
         have hsh : w.shape? r.block = some (t', c.size) := by unfold World.shape?; rw [hheap]
         rw [b3] at hsh
         refine ⟨_, ?_, VRel.ptr q1⟩
         have hcnt : c.size / P.cellsOf e0 = r.cap := by rw [b5]; exact Nat.mul_div_cancel _ (by omega)
         have hlies : liesAt P P.depth e0 (c.size / P.cellsOf e0) (⟨r.block, r.base + 0 * r.sz + 0, none⟩ : Addr).off e0 1 = true := by
          show liesAt P P.depth e0 (c.size / P.cellsOf e0) (r.base + 0 * r.sz + 0) e0 1 = true
          rw [b0, hcnt]
          simp only [Nat.zero_mul, Nat.add_zero]
          exact liesAt_own hz _ (by simp at hlen; omega)
         have hr := Lib.run_from_unsafe (P := P) w ⟨r.block, r.base + 0 * r.sz + 0, none⟩ hs hd hj hsh hlies
         simp only [Nat.zero_mul, Nat.add_zero] at hr
         simp [execOp, hop, hxv, hr]
       ·cases hv
      ·cases hv
     all_goals (rename_i hk _; first | cases hk | cases hv)
   ·cases hc
  ·cases hc
 ·rename_i args argTypes
  split at hc
  ·rename_i x hargs
   rw [Option.map_eq_some_iff] at hc
   obtain ⟨x', hx, hc⟩ := hc
   obtain ⟨rfl, rfl⟩ := Prod.mk.inj hc
   have e1 : args = #[x] := by cases args; simp_all
   subst e1
   simp only [mc0, mn0] at hv
   unfold ueval at hv
   split at hv
   ·rename_i hk _; cases hk
   ·rename_i hk _; cases hk
   ·rename_i hk _; cases hk
   ·rename_i l i n _ hl
    simp only [List.cons.injEq, and_true] at hl
    have r1 := cx_rel hx ha
    rw [hl] at r1
    split at hv
    ·cases hv
    ·rename_i hn
     obtain rfl := Option.some.inj hv
     generalize hxv : a.eval x = xv at r1
     cases r1 with
     | slice q1 q2 q3 q4 =>
      rename_i c r
      refine ⟨_, ?_, VRel.ptr q1⟩
      simp [execOp, hop, resolve, invoke, builtin, hxv, Lib.run_unsafeSliceData_row (P := P) w _ _ ⟨r.block, r.base + i * r.sz, none⟩ n c (by omega)]
   ·rename_i _ hl
    simp only [List.cons.injEq, and_true] at hl
    have r1 := cx_rel hx ha
    rw [hl] at r1
    obtain rfl := Option.some.inj hv
    generalize hxv : a.eval x = xv at r1
    cases r1
    refine ⟨_, ?_, VRel.nilptr⟩
    simp [execOp, hop, resolve, invoke, builtin, hxv, Lib.run_unsafeSliceData_nil (P := P) w]
   ·rename_i hk _; cases hk
   ·cases hv
  ·cases hc
 ·cases hc
theorem fkc_sound (hw : WRel ρ B w h) (ha : ARel ρ N a e) {o : Oper} {ck : FK} {v : IV} (hc : fkc P o.op = some ck) (hv : feval e h ck = some v) : Gives P o a w ρ v := by
 unfold fkc at hc
 split at hc
 ·rename_i k h0
  obtain rfl := Option.some.inj hc
  exact fk_sound hw ha h0 hv
 ·rw [Option.map_eq_some_iff] at hc
  obtain ⟨⟨k, xs⟩, h0, rfl⟩ := hc
  exact u_sound hw ha h0 hv
theorem run_loadB : ∀ (l : List Int) (ad : Addr) (acc : ByteArray), (∀ j x, l[j]? = some x → w.cell? (ad.add j) = some (.int .u8 x)) →
  (loadBytes ad acc l.length).run P w = .ok ⟨acc.data ++ (l.map fun x => x.toNat.toUInt8).toArray⟩ w
 | [], ad, acc, _ => by simp [loadBytes]
 | x :: l, ad, acc, hl => by
  have h0 : w.cell? ad = some (.int .u8 x) := by
   have := hl 0 x rfl
   simpa [Addr.add] using this
  have ih := run_loadB l (ad.add 1) (acc.push x.toNat.toUInt8) (fun j y hy => by
   have := hl (j + 1) y (by simpa using hy)
   have e : (ad.add 1).add j = ad.add (j + 1) := by
    unfold Addr.add
    by_cases hj : j = 0
    ·subst hj; simp
    ·simp [hj]; omega
   rw [e]; exact this)
  simp only [lc0, loadBytes, Sem.run_bind, run_load, h0, Result.andThen]
  rw [ih]
  congr 1
  apply ByteArray.ext
  simp [ByteArray.push]
theorem run_unsafeB (pt it ty e : TypeId) (hp : P.underlying pt = some (.pointer e)) (hc : P.cellsOf e = 1) (g cells : Nat) (hsh : w.shape? g = some (e, cells)) (l : List Int) (h0 : l ≠ []) (hn : l.length ≤ cells) (h63 : (l.length : Int) ≤ 9223372036854775807)
    (hcell : ∀ j x, l[j]? = some x → w.cell? ((⟨g, 0, none⟩ : Addr).add j) = some (.int .u8 x)) :
    (Builtin.unsafeString_ #[pt, it] ty #[.pointer (some ⟨g, 0, none⟩), .int .i64 l.length]).run P w = .ok (.string ⟨(l.map fun x => x.toNat.toUInt8).toArray⟩) (w.freeze ⟨g, 0, none⟩ l.length) := by
  have hl : l.length ≠ 0 := by simpa using h0
  have hlb := run_loadB (P := P) (w := w) l ⟨g, 0, none⟩ .empty hcell
  have hlies := Lib.liesAt_bytes (P := P) hc (cells / P.cellsOf e) l.length (by rw [hc]; simpa using hn)
  have h63' : ¬ (9223372036854775807 : Int) < (l.length : Int) := by omega
  have hdef : Builtin.unsafeString_ #[pt, it] ty #[.pointer (some ⟨g, 0, none⟩), .int .i64 l.length] =
      (do
        let n ← asInt (.int .i64 l.length)
        if n < 0 then runtimePanic (.error "unsafe.String: len out of range")
        if n > IntKind.i64.max then unsupported (.unsafePointer "String: a length above the largest int")
        if n = 0 then pure (.string .empty)
        else if ← variablesAt ⟨g, 0, none⟩ (← elemOf pt) n.toNat then do
          let s ← loadBytes ⟨g, 0, none⟩ .empty n.toNat
          freeze ⟨g, 0, none⟩ n.toNat
          pure (.string s)
        else unsupported (.unsafePointer "String: not so many bytes at ptr")) := rfl
  rw [hdef]
  have hmax : IntKind.i64.max = 9223372036854775807 := rfl
  have hneg : ¬ (l.length : Int) < 0 := by omega
  simp [asInt, asIntOf, hmax, h63', hneg, hl, variablesAt, hsh, elemOf, run_underlying hp, hlies, hlb]
theorem bytesOf_ints : ∀ {rs : List (List IV)} {s : List UInt8}, bytesOf rs = some s → ∃ l : List Int, rs = l.map (fun x => [IV.int .u8 x]) ∧ s = l.map fun x => x.toNat.toUInt8
 | [], s, h => by cases h; exact ⟨[], rfl, rfl⟩
 | [.int .u8 n] :: r, s, h => by
  simp only [bytesOf] at h
  rw [Option.map_eq_some_iff] at h
  obtain ⟨t, ht, rfl⟩ := h
  obtain ⟨l, rfl, rfl⟩ := bytesOf_ints ht
  exact ⟨n :: l, rfl, rfl⟩

theorem clr_out (hw : WRel ρ B w h) {t ty el : TypeId} (ht : P.underlying t = some (.slice el)) {i : TypeInfo} (hi : P.info? el = some i) {z : List IV} (hz : zeroOf P el = some z) (hzl : z.length = i.size) (hpos : 0 < i.size) (hone : z.all IV.one = true)
  {x : Value} {x' : IV} (hx : VRel ρ x x') {n : Nat} (hn : ilen x' = some n) {K : IV → IH → Prop} (hk : copyK h i.size x' (List.replicate n z) fun _ h' => K (.tuple []) h') :
  ∃ v' w', (Builtin.clear_ #[t] ty #[x]).run P w = .ok v' w' ∧ Out ρ B w K v' w' := by
 obtain ⟨zv, hz1, hz2, hz3⟩ := run_zeroValue hz ρ
 obtain ⟨hiz, hzs⟩ := info_size hz3 hi hz2 hzl
 have hxn : ∃ b c, x = .slice b n c := by
  cases hx <;> simp [ilen] at hn
  ·exact ⟨_, _, by rw [hn]⟩
  ·exact ⟨_, _, by rw [hn]⟩
  ·exact ⟨_, _, by rw [hn]⟩
 obtain ⟨b, c, rfl⟩ := hxn
 have hfl := madeCells_flat hz2 n (by omega)
 have hmin : min (List.replicate n z).length n = n := by simp
 obtain ⟨k, w', ρ', h', e1, e2, e3, e4, e5⟩ := row_out (P := P) (R := Builtin.clear_ #[t] ty #[.slice b n c]) (fv := fun _ => .tuple #[]) hw hx hfl
  ⟨fun r hr => by rw [List.eq_of_mem_replicate hr]; exact hzl, fun r hr => by rw [List.eq_of_mem_replicate hr]; exact all_one hone⟩ hk
  (fun b' n' c' hx' hm => by
   cases hx'
   rw [hmin] at hm
   subst hm
   cases b <;> simp [Builtin.clear_, run_underlying ht])
  (fun r j n' c' w1 hx' hm hst => by
   cases hx'
   rw [hmin] at hm hst
   have e : (madeCells zv.cells (n * zv.cells.size)).toList.take (n * i.size) = (Builtin.zeroCells zv.cells n).toList := by
    rw [List.take_of_length_le (by rw [Array.length_toList, size_madeCells, hzs]; exact Nat.le_refl _)]
    rfl
   rw [e] at hst
   obtain ⟨q, rfl⟩ : ∃ q, n = q + 1 := ⟨n - 1, by omega⟩
   simp [Builtin.clear_, run_underlying ht, hz1, hst])
 exact ⟨_, w', e1, ρ', _, h', e2, e3, .tuple rfl (by simp), e4, e5⟩

theorem ux_sound (hw : WRel ρ B w h) (ha : ARel ρ N a e) {o : Oper} {k : UX} {xs : List CX} {K : IV → IH → Prop} (hc : uxcomp P o.op = some (k, xs)) (hk : uact P h K k (xs.map (CX.ev e))) : Does P o a w ρ B K := by
 generalize hop : o.op = op at hc
 unfold uxcomp at hc
 split at hc
 ·rename_i args argTypes
  split at hc
  ·rename_i x y t u hargs htys
   split at hc
   ·rename_i el x' y' ht hx hy
    split at hc
    ·rename_i hcell
     obtain ⟨rfl, rfl⟩ := Prod.mk.inj (Option.some.inj hc)
     have e1 : args = #[x, y] := by cases args; simp_all
     have e2 : argTypes = #[t, u] := by cases argTypes; simp_all
     subst e1; subst e2
     simp only [mc0, mn0] at hk
     have r1 := cx_rel hx ha
     have r2 := cx_rel hy ha
     unfold uact at hk
     split at hk
     ·rename_i n _ hl
      simp only [List.cons.injEq, and_true] at hl
      obtain ⟨l1, l2⟩ := hl
      obtain ⟨rfl, hk⟩ := hk
      rw [l1] at r1
      rw [l2] at r2
      generalize hxv : a.eval x = xv at r1
      generalize hyv : a.eval y = yv at r2
      cases r1
      cases r2
      refine does_value ⟨.string .empty, w, ?_, ρ, .str [], h, List.prefix_rfl, hw, (VRel.str ByteArray.empty : VRel ρ (.string .empty) (.str [])), Below.refl _ _, hk⟩
      simp [execOp, hop, resolve, invoke, builtin, hxv, hyv, Lib.run_unsafeString_none (P := P) w]
     ·rename_i el' l n hq hl
      cases hq
      simp only [List.cons.injEq, and_true] at hl
      obtain ⟨l1, l2⟩ := hl
      rw [l1] at r1
      rw [l2] at r2
      split at hk
      ·rename_i rs e0 sz0 hob
       obtain ⟨rfl, rfl, hn0, hn1, hn2, hk⟩ := hk
       split at hk
       ·rename_i s hs
        generalize hxv : a.eval x = xv at r1
        generalize hyv : a.eval y = yv at r2
        cases r1 with
        | ptr q1 =>
         rename_i r
         cases r2
         have ho := hw.obj l r q1
         rw [hob] at ho
         obtain ⟨c, t', fz, hheap, hrel⟩ := ho
         obtain ⟨b0, b1, b2, b3, b4, b5⟩ := hrel.own rfl
         have hlen := hrel.len
         have hsh : w.shape? r.block = some (t', c.size) := by unfold World.shape?; rw [hheap]
         rw [b3] at hsh
         obtain ⟨li, hli, rfl⟩ := bytesOf_ints hs
         have hll : li.length = n.toNat := by
          have := congrArg List.length hli
          simp at this; omega
         have hcell2 : ∀ j x, li[j]? = some x → w.cell? ((⟨r.block, 0, none⟩ : Addr).add j) = some (.int .u8 x) := by
          intro j x hj
          have hrj : rs[j]? = some [IV.int .u8 x] := by
           have h1 : (rs.take n.toNat)[j]? = some [IV.int .u8 x] := by rw [hli]; simp [hj]
           rw [List.getElem?_take] at h1
           split at h1
           ·exact h1
           ·cases h1
          obtain ⟨v, g1, g2⟩ := hrel.cells j _ hrj 0 (.int .u8 x) rfl
          cases g2
          have : (⟨r.block, 0, none⟩ : Addr).add j = ⟨r.block, j, none⟩ := by
           unfold Addr.add
           by_cases h0 : j = 0
           ·subst h0; rfl
           ·simp [h0]
          rw [this, Lib.cell_of_heap hheap]
          rw [b0] at g1
          simpa using g1
         have hrun := run_unsafeB (P := P) (w := w) t u o.type e0 ht hcell r.block c.size hsh li (by intro h0; rw [h0] at hll; simp at hll; omega) (by rw [b5]; omega) (by omega) hcell2
         have hnn : ((li.length : Nat) : Int) = n := by omega
         rw [hnn] at hrun
         have hvr : VRel ρ (.string ⟨(li.map fun x => x.toNat.toUInt8).toArray⟩) (.str (li.map fun x => x.toNat.toUInt8)) := by
          have := VRel.str (ρ := ρ) ⟨(li.map fun x => x.toNat.toUInt8).toArray⟩
          simpa using this
         refine does_value ⟨.string ⟨(li.map fun x => x.toNat.toUInt8).toArray⟩, w.freeze ⟨r.block, 0, none⟩ li.length, ?_, ρ, .str (li.map fun x => x.toNat.toUInt8), h.set l (.rows rs e0 1 true), List.prefix_rfl, ?_, hvr, Lib.below_freeze (Below.refl _ _) b1 _, ?_⟩
         ·have hz : (⟨r.block, r.base + 0 * r.sz + 0, none⟩ : Addr) = ⟨r.block, 0, none⟩ := by rw [b0]; simp
          rw [hz] at hxv
          simp [execOp, hop, resolve, invoke, builtin, hxv, hyv]
          rw [hrun]
          rfl
         ·have hfree : ∃ fz', (w.freeze ⟨r.block, 0, none⟩ li.length).heap[r.block]? = some (.cells c t' fz') := by
           unfold World.freeze
           split
           ·exact ⟨fz, hheap⟩
           ·obtain ⟨f1, f2⟩ := fz
            exact ⟨if f1 == f2 then (0, 0 + li.length) else (min f1 0, max f2 (0 + li.length)), by
             rw [Array.getElem?_modify, if_pos rfl, hheap]; rfl⟩
          obtain ⟨fz', hfree⟩ := hfree
          refine hw.set q1 (by rw [hob]; rfl) ?_ ?_ ⟨c, t', fz', hfree, ⟨hrel.hsz, hrel.size, hrel.len, hrel.each, hrel.one, hrel.cells, fun h0 => by cases h0⟩⟩
          ·intro k hkb
           unfold World.freeze
           split
           ·rfl
           ·simp only [Array.getElem?_modify]
            rw [if_neg (fun e => hkb e.symm)]
          ·unfold World.freeze
           split
           ·exact Nat.le_refl _
           ·simp
         ·exact hk
       ·exact hk.elim
      ·exact hk.elim
     ·rename_i hq _; cases hq
     ·rename_i hq _; cases hq
     ·exact hk.elim
    ·cases hc
   ·cases hc
  ·cases hc
 ·rename_i src dst x
  split at hc
  ·rename_i te x' hs hx
   split at hc
   ·rename_i he
    split at hc
    ·rename_i hsd
     subst hsd
     obtain ⟨rfl, rfl⟩ := Prod.mk.inj (Option.some.inj hc)
     simp only [mc0, mn0] at hk
     have r1 := cx_rel hx ha
     unfold uact at hk
     split at hk
     ·rename_i hq _; cases hq
     ·rename_i hq _; cases hq
     ·rename_i l i n _ hl
      simp only [List.cons.injEq, and_true] at hl
      rw [hl] at r1
      split at hk
      ·rename_i rs e0 sz0 hob
       obtain ⟨hz1, hk⟩ := hk
       generalize hxv : a.eval x = xv at r1
       cases r1 with
       | slice q1 q2 q3 q4 =>
        rename_i cp r
        have ho := hw.obj l r q1
        rw [hob] at ho
        obtain ⟨c, t', fz, hheap, hrel⟩ := ho
        obtain ⟨b0, b1, b2, b3, b4, b5⟩ := hrel.own rfl
        have hsh : w.shape? r.block = some (t', c.size) := by unfold World.shape?; rw [hheap]
        have hself : h.set l (.rows rs e0 sz0 false) = h := by
         unfold IH.set
         cases h
         simp only [IH.mk.injEq, true_and]
         funext m
         split
         ·rename_i e; subst e; exact hob.symm
         ·rfl
        have hv1 : VRel ρ (.slice (some ⟨r.block, r.base + i * r.sz, none⟩) n cp) (.slice l i n) := .slice q1 q2 q3 q4
        refine does_value ⟨_, w.freeze ⟨r.block, c.size, none⟩ 1, ?_, ρ, .slice l i n, h, List.prefix_rfl, ?_, hv1, Lib.below_freeze (Below.refl _ _) b1 _, hk⟩
        ·simp [execOp, hop, hxv, convert, run_underlying hs, run_underlying he, markStringish, hsh]
        ·have hfree : ∃ fz', (w.freeze ⟨r.block, c.size, none⟩ 1).heap[r.block]? = some (.cells c t' fz') ∧ FzOk sz0 c.size fz' := by
          unfold World.freeze
          rw [if_neg (by decide)]
          obtain ⟨f1, f2⟩ := fz
          refine ⟨if f1 == f2 then (c.size, c.size + 1) else (min f1 c.size, max f2 (c.size + 1)), ?_, ?_⟩
          ·rw [Array.getElem?_modify, if_pos rfl, hheap]; rfl
          ·split
           ·exact .inr ⟨hz1, Nat.le_refl _⟩
           ·rename_i hne
            rcases b2 with h0 | ⟨_, h0⟩
            ·simp at hne; exact absurd h0 hne
            ·refine .inr ⟨hz1, ?_⟩
             simp only at h0 ⊢
             omega
         obtain ⟨fz', hfree, hfz'⟩ := hfree
         have := hw.set (o := .rows rs e0 sz0 false) (w' := w.freeze ⟨r.block, c.size, none⟩ 1) q1 (by rw [hob]; rfl) ?_ ?_ ⟨c, t', fz', hfree, ⟨hrel.hsz, hrel.size, hrel.len, hrel.each, hrel.one, hrel.cells, fun _ => ⟨b0, b1, hfz', b3, b4, b5⟩⟩⟩
         ·rw [hself] at this; exact this
         ·intro k hkb
          unfold World.freeze
          split
          ·rfl
          ·simp only [Array.getElem?_modify]
           rw [if_neg (fun e => hkb e.symm)]
         ·unfold World.freeze
          split
          ·exact Nat.le_refl _
          ·simp
      ·exact hk.elim
     ·rename_i hq _; cases hq
     ·exact hk.elim
    ·cases hc
   ·cases hc
  ·cases hc
 ·rename_i args argTypes
  split at hc
  ·rename_i x t hargs htys
   have e1 : args = #[x] := by cases args; simp_all
   have e2 : argTypes = #[t] := by cases argTypes; simp_all
   subst e1; subst e2
   split at hc
   ·rename_i el x' ht hx
    split at hc
    ·rename_i z i hz hi
     split at hc
     ·rename_i hcond
      obtain ⟨hzl, hpos, hone⟩ := hcond
      obtain ⟨rfl, rfl⟩ := Prod.mk.inj (Option.some.inj hc)
      simp only [mc0, mn0] at hk
      have hk : (match ilen (x'.ev e) with | some n => copyK h i.size (x'.ev e) (List.replicate n z) fun _ h' => K (.tuple []) h' | none => False) := hk
      split at hk
      ·rename_i n hn
       obtain ⟨v', w', k1, k2⟩ := clr_out (P := P) (ty := o.type) hw ht hi hz hzl hpos hone (cx_rel hx ha) hn hk
       exact does_value ⟨v', w', by simp [execOp, hop, resolve, invoke, builtin, k1], k2⟩
      ·exact hk.elim
     ·cases hc
    ·cases hc
   ·cases hc
  ·cases hc
 ·cases hc
theorem ekc_sound [GOk P B w] (hw : WRel ρ B w h) (ha : ARel ρ N a e) {o : Oper} {ck : EK} {K : IV → IH → Prop} (hc : ekc P o.op = ck) (hk : act P h e K ck) : Does P o a w ρ B K := by
 unfold ekc at hc
 split at hc
 ·rename_i k h0
  subst hc
  exact ek_sound hw ha h0 hk
 ·split at hc
  ·rename_i p h0
   subst hc
   exact ux_sound hw ha h0 hk
  ·subst hc
   exact False.elim hk

theorem op_step [hG : GOk P B w0] (hw : WRel ρ B w h) (ha : ARel ρ N a e) (hp : ρ0 <+: ρ) (hb : Below B w0 w) {ops : Array Oper} {i : Nat} {o : Oper} {c : COp} (hi : ops[i]? = some o) (hc : ocomp P N ops o = some c)
  {K : Env → IH → Prop} (hv : vcOp P c K e h) {R : Act → World → Prop} {Q : Exit → Act → World → Prop} (hR : ∀ a' w', St ρ0 N B w0 K a' w' → R a' w') : wpOp P ops Q i R a w := by
 obtain ⟨hdst, hd, hg, hk⟩ := ocomp_spec hc
 unfold wpOp
 rw [hi]
 simp only
 have skip : ∀ {v' : Value} {v : IV}, VRel ρ v' v → K (put e c.dst v) h → R (a.put o.dst v') w := fun hr hk => hR _ _ ⟨ρ, _, h, hp, hw, by rw [← hdst]; exact ha.put (fun t ht => hd t (by rw [← hdst]; exact ht)) hr, hb, hk⟩
 have float : ∀ {k : FK} {v : IV}, fkc P o.op = some k → feval e h k = some v → K (put e c.dst v) h → o.wp P a w R Q := by
  intro k v h1 h2 h3
  obtain ⟨v', g1, g2⟩ := fkc_sound hw ha h1 h2
  unfold Oper.wp
  rw [g1]
  exact skip g2 h3
 have eff : ∀ {k : EK}, ekc P o.op = k → act P h e (fun v h' => K (put e c.dst v) h') k → o.wp P a w R Q := by
  intro k h1 h2
  haveI := hG.below hb
  refine ekc_sound hw ha h1 h2 R Q (fun v' w' ho => ?_)
  obtain ⟨ρ', v, h', g1, g2, g3, g4, g5⟩ := ho
  exact hR _ _ ⟨ρ', _, h', hp.trans g1, g2, by rw [← hdst]; exact (ha.mono g1).put (fun t ht => hd t (by rw [← hdst]; exact ht)) g3, hb.trans g4, g5⟩
 unfold vcOp at hv
 rcases hg with ⟨hg1, hg2⟩ | ⟨j, want, t, hg1, hg2, hg3⟩
 ·rw [hg2] at hv
  rw [if_pos (by simp [Region.wanted, hg1])]
  left
  rcases hk with ⟨k, hk1, hk2⟩ | ⟨k, hk1, hk2⟩
  ·simp only [hk1, vcK] at hv
   split at hv
   ·rename_i v hfv; exact float hk2 hfv hv
   ·cases hv
  ·simp only [hk1, vcK] at hv
   exact eff hk2 hv
 ·rw [hg3] at hv
  simp only at hv
  split at hv
  ·rename_i b he
   have hy := yielded_of ha hg2 he
   have hwant : Region.wanted o (yielded ops a.tmps) = (b == want) := by
    simp only [Region.wanted, hg1, hy]
    cases b <;> cases want <;> rfl
   rw [hwant]
   by_cases hbw : b = want
   ·rw [if_pos (by simp [hbw])]
    left
    have hv := hv.1 hbw
    rcases hk with ⟨k, hk1, hk2⟩ | ⟨k, hk1, hk2⟩
    ·simp only [hk1, vcK] at hv
     split at hv
     ·rename_i v hfv; exact float hk2 hfv hv
     ·cases hv
    ·simp only [hk1, vcK] at hv
     exact eff hk2 hv
   ·rw [if_neg (by simpa using hbw)]
    exact skip (undef_rel ρ) (hv.2 (by cases b <;> cases want <;> simp_all))
  ·rename_i he
   have hy := yielded_undef ha hg2 he
   have hwant : Region.wanted o (yielded ops a.tmps) = false := by
    simp only [Region.wanted, hg1, hy]
    rfl
   rw [hwant, if_neg (by simp)]
   exact skip (undef_rel ρ) hv
  ·cases hv

theorem ocomps_get {ops : Array Oper} : ∀ {l : List Oper} {cs : List COp}, ocomps P N ops l = some cs → l.length = cs.length ∧ ∀ (i : Nat) o c, l[i]? = some o → cs[i]? = some c → ocomp P N ops o = some c
 | [], cs, h => by simp [ocomps] at h; subst h; simp
 | o :: l, cs, h => by
  simp only [ocomps] at h
  split at h
  ·rename_i c cs' h1 h2
   obtain rfl := Option.some.inj h
   obtain ⟨g1, g2⟩ := ocomps_get h2
   refine ⟨by simp [g1], fun i o' c' hi hj => ?_⟩
   cases i with
   | zero => simp at hi hj; subst hi; subst hj; exact h1
   | succ i => simp at hi hj; exact g2 i o' c' hi hj
  ·cases h

theorem ops_sound [GOk P B w0] {ops : Array Oper} {cs : List COp} (hcs : ocomps P N ops ops.toList = some cs) {K : Env → IH → Prop} {Q : Exit → Act → World → Prop} (hQ : ∀ a w, St ρ0 N B w0 K a w → Q .normal a w) :
  ∀ (m k : Nat), k + m = ops.size → ∀ a w, St ρ0 N B w0 (vcOps P (cs.drop k) K) a w → wpOps P ops Q (List.range' k m) a w := by
 obtain ⟨hlen, hget⟩ := ocomps_get hcs
 have hl : cs.length = ops.size := by rw [← hlen]; simp
 intro m
 induction m with
 | zero =>
  intro k hk a w hs
  have : cs.drop k = [] := List.drop_eq_nil_of_le (by omega)
  rw [this] at hs
  exact hQ a w hs
 | succ m ih =>
  intro k hk a w hs
  have hkl : k < cs.length := by omega
  obtain ⟨ρ, e, h, hp, hw, ha, hb, hv⟩ := hs
  rw [List.drop_eq_getElem_cons hkl] at hv
  rw [List.range'_succ, wpOps_cons]
  have hko : ops[k]? = some ops[k] := Array.getElem?_eq_getElem (by omega)
  refine op_step hw ha hp hb hko (hget k _ _ (by rw [Array.getElem?_toList]; exact hko) (List.getElem?_eq_getElem hkl)) hv (fun a' w' hs' => ?_)
  exact ih (k + 1) (by omega) a' w' hs'

end
end Go.IW
