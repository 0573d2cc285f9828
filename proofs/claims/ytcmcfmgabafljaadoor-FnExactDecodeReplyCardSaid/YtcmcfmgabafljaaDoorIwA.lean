/- The ideal heap: values without block numbers and capacities, and their relation to a world of the machine. -/
import Derived.WalkKit
import Derived.Below
set_option linter.unusedVariables false
set_option linter.unusedSimpArgs false
namespace Go.IW
open Go.RowKit

/-- Ideal values. A place is: object, row, cell. -/
inductive IV where
  | bool (b : Bool)
  | int (k : IntKind) (n : Int)
  | str (s : List UInt8)
  | nilptr
  | ptr (l i k : Nat)
  | nilslice
  | eslice (z : Bool)
  | slice (l i n : Nat)
  | nilmap
  | map (l : Nat)
  | nilfunc
  | func (f : Nat) (first caps : List IV)
  | niliface
  | iface (t : Nat) (v : IV)
  | agg (cs : List IV)
  | tuple (vs : List IV)
  deriving Inhabited

/-- A value of one cell. -/
def IV.one : IV → Bool
  | .agg _ | .tuple _ => false
  | _ => true

/-- Where an object lies in the machine. -/
structure RLoc where
  block : Nat
  base : Nat
  sz : Nat
  cap : Nat

inductive VRel (ρ : List RLoc) : Value → IV → Prop where
  | bool (b : Bool) : VRel ρ (.bool b) (.bool b)
  | int (k : IntKind) (n : Int) : VRel ρ (.int k n) (.int k n)
  | str (s : ByteArray) : VRel ρ (.string s) (.str s.data.toList)
  | nilptr : VRel ρ (.pointer none) .nilptr
  | ptr {l i k : Nat} {r : RLoc} (h : ρ[l]? = some r) : VRel ρ (.pointer (some ⟨r.block, r.base + i * r.sz + k, none⟩)) (.ptr l i k)
  | nilslice : VRel ρ (.slice none 0 0) .nilslice
  | eslice {a : Addr} {c : Nat} {z : Bool} (h : z = true → c = 0) (hc : c ≤ maxLen) : VRel ρ (.slice (some a) 0 c) (.eslice z)
  | slice {l i n c : Nat} {r : RLoc} (h : ρ[l]? = some r) (hn : n ≤ c) (hc : i + c ≤ r.cap) (hm : c ≤ maxLen) :
      VRel ρ (.slice (some ⟨r.block, r.base + i * r.sz, none⟩) n c) (.slice l i n)
  | nilmap : VRel ρ (.map none) .nilmap
  | map {l : Nat} {r : RLoc} (h : ρ[l]? = some r) : VRel ρ (.map (some r.block)) (.map l)
  | nilfunc : VRel ρ .nilFunc .nilfunc
  | func (f : Nat) {as cs : Array Value} {as' cs' : List IV} (ha : as.size = as'.length) (hc : cs.size = cs'.length)
      (h1 : ∀ (i : Nat) v v', as[i]? = some v → as'[i]? = some v' → VRel ρ v v') (h2 : ∀ (i : Nat) v v', cs[i]? = some v → cs'[i]? = some v' → VRel ρ v v') :
      VRel ρ (.func (.func f) as cs) (.func f as' cs')
  | niliface : VRel ρ .nilIface .niliface
  | iface (t : Nat) {v : Value} {v' : IV} (h : VRel ρ v v') : VRel ρ (.iface t v) (.iface t v')
  | agg {cs : Array Value} {cs' : List IV} (hl : cs.size = cs'.length) (h : ∀ (i : Nat) v v', cs[i]? = some v → cs'[i]? = some v' → VRel ρ v v') : VRel ρ (.agg cs) (.agg cs')
  | tuple {cs : Array Value} {cs' : List IV} (hl : cs.size = cs'.length) (h : ∀ (i : Nat) v v', cs[i]? = some v → cs'[i]? = some v' → VRel ρ v v') : VRel ρ (.tuple cs) (.tuple cs')

/-- Ordered lists of values, cell for cell. -/
def LRel (ρ : List RLoc) (cs : List Value) (cs' : List IV) : Prop :=
  cs.length = cs'.length ∧ ∀ (i : Nat) v v', cs[i]? = some v → cs'[i]? = some v' → VRel ρ v v'

theorem prefix_get {α : Type} {a b : List α} (h : a <+: b) {i : Nat} {x : α} (hx : a[i]? = some x) : b[i]? = some x := by
  obtain ⟨s, rfl⟩ := h
  have hi : i < a.length := (List.getElem?_eq_some_iff.1 hx).1
  rw [List.getElem?_append_left hi]; exact hx

theorem VRel.mono {ρ ρ' : List RLoc} (hp : ρ <+: ρ') {v : Value} {v' : IV} (h : VRel ρ v v') : VRel ρ' v v' := by
  induction h with
  | bool b => exact .bool b
  | int k n => exact .int k n
  | str s => exact .str s
  | nilptr => exact .nilptr
  | ptr h => exact .ptr (prefix_get hp h)
  | nilslice => exact .nilslice
  | eslice h hc => exact .eslice h hc
  | slice h hn hc hm => exact .slice (prefix_get hp h) hn hc hm
  | nilmap => exact .nilmap
  | map h => exact .map (prefix_get hp h)
  | nilfunc => exact .nilfunc
  | func f ha hc _ _ i1 i2 => exact .func f ha hc i1 i2
  | niliface => exact .niliface
  | iface t _ ih => exact .iface t ih
  | agg hl _ ih => exact .agg hl ih
  | tuple hl _ ih => exact .tuple hl ih

theorem LRel.mono {ρ ρ' : List RLoc} (hp : ρ <+: ρ') {v : List Value} {v' : List IV} (h : LRel ρ v v') : LRel ρ' v v' :=
  ⟨h.1, fun i a b x y => (h.2 i a b x y).mono hp⟩

theorem LRel.nil (ρ : List RLoc) : LRel ρ [] [] := ⟨rfl, fun i a b h => by simp at h⟩
theorem LRel.cons {ρ : List RLoc} {v : Value} {v' : IV} {l : List Value} {l' : List IV} (h : VRel ρ v v') (hl : LRel ρ l l') : LRel ρ (v :: l) (v' :: l') := by
  refine ⟨by simp [hl.1], fun i a b x y => ?_⟩
  cases i with
  | zero => simp at x y; subst x; subst y; exact h
  | succ i => simp at x y; exact hl.2 i a b x y
theorem LRel.head {ρ : List RLoc} {v : Value} {v' : IV} {l : List Value} {l' : List IV} (h : LRel ρ (v :: l) (v' :: l')) : VRel ρ v v' := h.2 0 v v' rfl rfl
theorem LRel.tail {ρ : List RLoc} {v : Value} {v' : IV} {l : List Value} {l' : List IV} (h : LRel ρ (v :: l) (v' :: l')) : LRel ρ l l' :=
  ⟨by have := h.1; simpa using this, fun i a b x y => h.2 (i + 1) a b x y⟩
theorem LRel.append {ρ : List RLoc} {l m : List Value} {l' m' : List IV} (h : LRel ρ l l') (k : LRel ρ m m') : LRel ρ (l ++ m) (l' ++ m') := by
  refine ⟨by simp [h.1, k.1], fun i a b x y => ?_⟩
  rcases Nat.lt_or_ge i l.length with hi | hi
  · rw [List.getElem?_append_left hi] at x
    rw [List.getElem?_append_left (by rw [← h.1]; exact hi)] at y
    exact h.2 i a b x y
  · rw [List.getElem?_append_right hi] at x
    rw [List.getElem?_append_right (by rw [← h.1]; exact hi), ← h.1] at y
    exact k.2 _ a b x y
theorem LRel.of_get {ρ : List RLoc} {l : List Value} {l' : List IV} (h : LRel ρ l l') {i : Nat} {v : Value} (hv : l[i]? = some v) : ∃ v', l'[i]? = some v' ∧ VRel ρ v v' := by
  have hi : i < l.length := (List.getElem?_eq_some_iff.1 hv).1
  have hi' : i < l'.length := by have := h.1; omega
  exact ⟨l'[i], List.getElem?_eq_getElem hi', h.2 i v _ hv (List.getElem?_eq_getElem hi')⟩
theorem LRel.of_get' {ρ : List RLoc} {l : List Value} {l' : List IV} (h : LRel ρ l l') {i : Nat} {v' : IV} (hv : l'[i]? = some v') : ∃ v, l[i]? = some v ∧ VRel ρ v v' := by
  have hi' : i < l'.length := (List.getElem?_eq_some_iff.1 hv).1
  have hi : i < l.length := by have := h.1; omega
  exact ⟨l[i], List.getElem?_eq_getElem hi, h.2 i _ v' (List.getElem?_eq_getElem hi) hv⟩
theorem LRel.take {ρ : List RLoc} {l : List Value} {l' : List IV} (h : LRel ρ l l') (n : Nat) : LRel ρ (l.take n) (l'.take n) := by
  refine ⟨by simp [h.1], fun i a b x y => ?_⟩
  rw [List.getElem?_take] at x y
  split at x
  · rw [if_pos ‹_›] at y; exact h.2 i a b x y
  · simp at x
theorem LRel.drop {ρ : List RLoc} {l : List Value} {l' : List IV} (h : LRel ρ l l') (n : Nat) : LRel ρ (l.drop n) (l'.drop n) := by
  refine ⟨by simp [h.1], fun i a b x y => ?_⟩
  rw [List.getElem?_drop] at x y
  exact h.2 _ a b x y

/-- Ideal objects. A row that is not 'ro' owns its block. -/
inductive IObj where
  | dead
  | rows (rs : List (List IV)) (e sz : Nat) (ro : Bool)
  deriving Inhabited

def IObj.own : IObj → Bool
  | .rows _ _ _ ro => !ro
  | _ => false
def IObj.live : IObj → Bool
  | .dead => false
  | _ => true

/-- Ideal heaps. -/
structure IH where
  n : Nat
  obj : Nat → IObj

def IH.push (h : IH) (o : IObj) : IH := ⟨h.n + 1, fun l => if l = h.n then o else h.obj l⟩
def IH.set (h : IH) (l : Nat) (o : IObj) : IH := ⟨h.n, fun l' => if l' = l then o else h.obj l'⟩

def RowAt (ρ : List RLoc) (c : Array Value) (at_ : Nat) (row : List IV) : Prop :=
  ∀ (k : Nat) v', row[k]? = some v' → ∃ v, c[at_ + k]? = some v ∧ VRel ρ v v'

structure RowsRel (ρ : List RLoc) (B : Nat) (r : RLoc) (rs : List (List IV)) (e sz : Nat) (ro : Bool) (c : Array Value) (t : Nat) (fz : Nat × Nat) : Prop where
  hsz : r.sz = sz
  size : r.base + r.cap * sz ≤ c.size
  len : rs.length ≤ r.cap
  each : ∀ row ∈ rs, row.length = sz
  one : ∀ row ∈ rs, ∀ v ∈ row, v.one = true
  cells : ∀ (i : Nat) row, rs[i]? = some row → RowAt ρ c (r.base + i * sz) row
  own : ro = false → r.base = 0 ∧ B ≤ r.block ∧ (∀ j, j < c.size → ¬ (fz.1 ≤ j ∧ j < fz.2)) ∧ t = e ∧ r.cap ≤ maxLen ∧ c.size = r.cap * sz

def ORel (ρ : List RLoc) (B : Nat) (w : World) (r : RLoc) : IObj → Prop
  | .dead => True
  | .rows rs e sz ro => ∃ c t fz, w.heap[r.block]? = some (.cells c t fz) ∧ RowsRel ρ B r rs e sz ro c t fz

structure WRel (ρ : List RLoc) (B : Nat) (w : World) (h : IH) : Prop where
  len : ρ.length = h.n
  base : B ≤ w.heap.size
  obj : ∀ l r, ρ[l]? = some r → ORel ρ B w r (h.obj l)
  excl : ∀ l l' r r', ρ[l]? = some r → ρ[l']? = some r' → l ≠ l' → (h.obj l).own = true → (h.obj l').live = true → r.block ≠ r'.block

theorem RowAt.mono {ρ ρ' : List RLoc} (hp : ρ <+: ρ') {c : Array Value} {a : Nat} {row : List IV} (h : RowAt ρ c a row) : RowAt ρ' c a row :=
  fun k v' hk => let ⟨v, hv, hr⟩ := h k v' hk; ⟨v, hv, hr.mono hp⟩

theorem RowsRel.mono {ρ ρ' : List RLoc} {B : Nat} {r : RLoc} {rs : List (List IV)} {e sz : Nat} {ro : Bool} {c : Array Value} {t : Nat} {fz : Nat × Nat}
    (hp : ρ <+: ρ') (h : RowsRel ρ B r rs e sz ro c t fz) : RowsRel ρ' B r rs e sz ro c t fz :=
  ⟨h.hsz, h.size, h.len, h.each, h.one, fun i row hi => (h.cells i row hi).mono hp, h.own⟩

theorem ORel.mono {ρ ρ' : List RLoc} (hp : ρ <+: ρ') {B : Nat} {w : World} {r : RLoc} {o : IObj} (h : ORel ρ B w r o) : ORel ρ' B w r o := by
  cases o with
  | dead => exact trivial
  | rows rs e sz ro => obtain ⟨c, t, fz, hc, hr⟩ := h; exact ⟨c, t, fz, hc, hr.mono hp⟩

theorem ORel.congr {ρ : List RLoc} {B : Nat} {w w' : World} {r : RLoc} {o : IObj} (h : ORel ρ B w r o) (hw : w'.heap[r.block]? = w.heap[r.block]?) : ORel ρ B w' r o := by
  cases o with
  | dead => exact trivial
  | rows rs e sz ro => obtain ⟨c, t, fz, hc, hr⟩ := h; exact ⟨c, t, fz, hw.trans hc, hr⟩

theorem ORel.block_lt {ρ : List RLoc} {B : Nat} {w : World} {r : RLoc} {o : IObj} (h : ORel ρ B w r o) (hl : o.live = true) : r.block < w.heap.size := by
  cases o with
  | dead => simp [IObj.live] at hl
  | rows rs e sz ro => obtain ⟨c, t, fz, hc, _⟩ := h; exact (Array.getElem?_eq_some_iff.1 hc).1

/-- The world has turned nowhere that matters: draws. -/
theorem WRel.same {ρ : List RLoc} {B : Nat} {w w' : World} {h : IH} (hw : WRel ρ B w h) (he : w'.heap = w.heap) : WRel ρ B w' h :=
  ⟨hw.len, by rw [he]; exact hw.base, fun l r hr => (hw.obj l r hr).congr (by rw [he]), hw.excl⟩

theorem WRel.lt {ρ : List RLoc} {B : Nat} {w : World} {h : IH} (hw : WRel ρ B w h) {l : Nat} {r : RLoc} (hr : ρ[l]? = some r) : l < h.n := by
  rw [← hw.len]; exact (List.getElem?_eq_some_iff.1 hr).1
theorem WRel.get {ρ : List RLoc} {B : Nat} {w : World} {h : IH} (hw : WRel ρ B w h) {l : Nat} (hl : l < h.n) : ∃ r, ρ[l]? = some r :=
  ⟨ρ[l]'(by rw [hw.len]; exact hl), List.getElem?_eq_getElem _⟩

/-- A new object in a new block. -/
theorem WRel.push {ρ : List RLoc} {B : Nat} {w w' : World} {h : IH} {o : IObj} {r : RLoc} (hw : WRel ρ B w h)
    (hold : ∀ k, k < w.heap.size → w'.heap[k]? = w.heap[k]?) (hsz : w.heap.size ≤ w'.heap.size) (hb : w.heap.size ≤ r.block)
    (ho : ORel (ρ ++ [r]) B w' r o) : WRel (ρ ++ [r]) B w' (h.push o) := by
  have hp : ρ <+: ρ ++ [r] := List.prefix_append _ _
  have hlen : ρ.length = h.n := hw.len
  refine ⟨by simp [IH.push, hlen], Nat.le_trans hw.base hsz, ?_, ?_⟩
  · intro l r' hr
    by_cases hl : l = h.n
    · subst hl
      rw [← hlen, List.getElem?_concat_length] at hr
      obtain rfl := Option.some.inj hr
      simpa [IH.push] using ho
    · have hlt : l < ρ.length := by have := (List.getElem?_eq_some_iff.1 hr).1; simp at this; omega
      rw [List.getElem?_append_left hlt] at hr
      have h0 := hw.obj l r' hr
      simp only [IH.push, if_neg hl]
      by_cases hlive : (h.obj l).live = true
      · exact (h0.congr (hold _ (h0.block_lt hlive))).mono hp
      · cases ho' : h.obj l with
        | dead => exact trivial
        | rows rs e sz ro => rw [ho'] at hlive; simp [IObj.live] at hlive
  · intro l l' r1 r2 h1 h2 hne hown hlive
    simp only [IH.push] at hown hlive
    by_cases hl : l = h.n
    · subst hl
      rw [← hlen, List.getElem?_concat_length] at h1
      obtain rfl := Option.some.inj h1
      have hlt : l' < ρ.length := by have := (List.getElem?_eq_some_iff.1 h2).1; simp at this; omega
      rw [List.getElem?_append_left hlt] at h2
      rw [if_neg (fun e => hne e.symm)] at hlive
      have := (hw.obj l' r2 h2).block_lt hlive
      omega
    · have hlt : l < ρ.length := by have := (List.getElem?_eq_some_iff.1 h1).1; simp at this; omega
      rw [List.getElem?_append_left hlt] at h1
      rw [if_neg hl] at hown
      by_cases hl' : l' = h.n
      · subst hl'
        rw [← hlen, List.getElem?_concat_length] at h2
        obtain rfl := Option.some.inj h2
        have hlv : (h.obj l).live = true := by cases ho' : h.obj l <;> rw [ho'] at hown <;> simp [IObj.own, IObj.live] at *
        have := (hw.obj l r1 h1).block_lt hlv
        omega
      · have hlt' : l' < ρ.length := by have := (List.getElem?_eq_some_iff.1 h2).1; simp at this; omega
        rw [List.getElem?_append_left hlt'] at h2
        rw [if_neg hl'] at hlive
        exact hw.excl l l' r1 r2 h1 h2 hne hown hlive

/-- An object that owns its block is written. -/
theorem WRel.set {ρ : List RLoc} {B : Nat} {w w' : World} {h : IH} {o : IObj} {l : Nat} {r : RLoc} (hw : WRel ρ B w h)
    (hr : ρ[l]? = some r) (hown : (h.obj l).own = true) (hold : ∀ k, k ≠ r.block → w'.heap[k]? = w.heap[k]?) (hsz : w.heap.size ≤ w'.heap.size)
    (ho : ORel ρ B w' r o) : WRel ρ B w' (h.set l o) := by
  refine ⟨hw.len, Nat.le_trans hw.base hsz, ?_, ?_⟩
  · intro l' r' hr'
    by_cases hl : l' = l
    · subst hl; rw [hr] at hr'; obtain rfl := Option.some.inj hr'; simpa [IH.set] using ho
    · simp only [IH.set, if_neg hl]
      by_cases hlive : (h.obj l').live = true
      · exact (hw.obj l' r' hr').congr (hold _ (fun e => hw.excl l l' r r' hr hr' (fun e => hl e.symm) hown hlive e.symm))
      · cases ho' : h.obj l' with
        | dead => exact trivial
        | rows rs e sz ro => rw [ho'] at hlive; simp [IObj.live] at hlive
  · intro l1 l2 r1 r2 h1 h2 hne ho1 ho2
    simp only [IH.set] at ho1 ho2
    have key : ∀ m rm, ρ[m]? = some rm → m ≠ l → (h.obj m).live = true → r.block ≠ rm.block := fun m rm hm hml hlv => hw.excl l m r rm hr hm (fun e => hml e.symm) hown hlv
    by_cases e1 : l1 = l
    · subst e1
      rw [hr] at h1; obtain rfl := Option.some.inj h1
      rw [if_neg (fun e => hne e.symm)] at ho2
      exact key l2 r2 h2 (fun e => hne e.symm) ho2
    · rw [if_neg e1] at ho1
      by_cases e2 : l2 = l
      · subst e2
        rw [hr] at h2; obtain rfl := Option.some.inj h2
        have hlv : (h.obj l1).live = true := by cases ho' : h.obj l1 <;> rw [ho'] at ho1 <;> simp [IObj.own, IObj.live] at *
        exact fun e => key l1 r1 h1 e1 hlv e.symm
      · rw [if_neg e2] at ho2
        exact hw.excl l1 l2 r1 r2 h1 h2 hne ho1 ho2

/-- An object is forgotten. -/
theorem WRel.kill {ρ : List RLoc} {B : Nat} {w : World} {h : IH} (l : Nat) (hw : WRel ρ B w h) : WRel ρ B w (h.set l .dead) := by
  refine ⟨hw.len, hw.base, ?_, ?_⟩
  · intro l' r' hr'
    by_cases hl : l' = l
    · simp only [IH.set, if_pos hl]; exact trivial
    · simp only [IH.set, if_neg hl]; exact hw.obj l' r' hr'
  · intro l1 l2 r1 r2 h1 h2 hne ho1 ho2
    simp only [IH.set] at ho1 ho2
    split at ho1
    · simp [IObj.own] at ho1
    · split at ho2
      · simp [IObj.live] at ho2
      · exact hw.excl l1 l2 r1 r2 h1 h2 hne ho1 ho2

/-- A second name for a block whose owner is forgotten: an append in place. -/
theorem WRel.rename {ρ : List RLoc} {B : Nat} {w w' : World} {h : IH} {o : IObj} {l : Nat} {r : RLoc} (hw : WRel ρ B w h)
    (hr : ρ[l]? = some r) (hown : (h.obj l).own = true) (hold : ∀ k, k ≠ r.block → w'.heap[k]? = w.heap[k]?) (hsz : w.heap.size ≤ w'.heap.size)
    (ho : ORel (ρ ++ [r]) B w' r o) : WRel (ρ ++ [r]) B w' ((h.set l .dead).push o) := by
  have hp : ρ <+: ρ ++ [r] := List.prefix_append _ _
  have hlen : ρ.length = h.n := hw.len
  have hln : l ≠ h.n := by have := hw.lt hr; omega
  have key : ∀ m rm, ρ[m]? = some rm → m ≠ l → (h.obj m).live = true → r.block ≠ rm.block := fun m rm hm hml hlv => hw.excl l m r rm hr hm (fun e => hml e.symm) hown hlv
  have obj_of : ∀ m, m ≠ h.n → ((h.set l .dead).push o).obj m = if m = l then .dead else h.obj m := by
    intro m hm
    simp [IH.push, IH.set, hm]
  have obj_new : ((h.set l .dead).push o).obj h.n = o := by simp [IH.push, IH.set]
  have old : ∀ m rm, (ρ ++ [r])[m]? = some rm → m ≠ h.n → ρ[m]? = some rm := by
    intro m rm hm hne
    have hlt : m < ρ.length := by have := (List.getElem?_eq_some_iff.1 hm).1; simp at this; omega
    rwa [List.getElem?_append_left hlt] at hm
  have new : ∀ rm, (ρ ++ [r])[h.n]? = some rm → rm = r := by
    intro rm hm
    rw [← hlen, List.getElem?_concat_length] at hm
    exact (Option.some.inj hm).symm
  refine ⟨by simp [IH.push, IH.set, hlen], Nat.le_trans hw.base hsz, ?_, ?_⟩
  · intro m rm hm
    by_cases hmn : m = h.n
    · subst hmn
      rw [obj_new]; obtain rfl := new rm hm; exact ho
    · rw [obj_of m hmn]
      have hm' := old m rm hm hmn
      split
      · exact trivial
      · rename_i hml
        by_cases hlive : (h.obj m).live = true
        · exact ((hw.obj m rm hm').congr (hold _ (fun e => key m rm hm' hml hlive e.symm))).mono hp
        · cases ho' : h.obj m with
          | dead => exact trivial
          | rows rs e sz ro => rw [ho'] at hlive; simp [IObj.live] at hlive
  · intro l1 l2 r1 r2 h1 h2 hne ho1 ho2
    by_cases e1 : l1 = h.n
    · subst e1
      obtain rfl := new r1 h1
      rw [obj_of l2 (fun e => hne e.symm)] at ho2
      split at ho2
      · simp [IObj.live] at ho2
      · exact key l2 r2 (old l2 r2 h2 (fun e => hne e.symm)) ‹_› ho2
    · rw [obj_of l1 e1] at ho1
      split at ho1
      · simp [IObj.own] at ho1
      · rename_i hl1
        have hlv : (h.obj l1).live = true := by cases ho' : h.obj l1 <;> rw [ho'] at ho1 <;> simp [IObj.own, IObj.live] at *
        by_cases e2 : l2 = h.n
        · subst e2
          obtain rfl := new r2 h2
          exact fun e => key l1 r1 (old l1 r1 h1 e1) hl1 hlv e.symm
        · rw [obj_of l2 e2] at ho2
          split at ho2
          · simp [IObj.live] at ho2
          · exact hw.excl l1 l2 r1 r2 (old l1 r1 h1 e1) (old l2 r2 h2 e2) hne ho1 ho2

end Go.IW
