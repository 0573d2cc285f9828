/- Data in memory: what a row of cells holds, and the places that it reaches. -/
import Derived.Test.YtcmcfmgabafljaaDoorIwR
set_option linter.unusedSimpArgs false
set_option linter.unusedVariables false
namespace Go.IW
open Go.RowKit

/-- Places: object and row. -/
abbrev FP := List (Nat × Nat)
/-- Row cells, data, places. -/
abbrev RR (α : Type) := IH → List IV → α → FP → Prop

/-- At these places nothing has turned. -/
structure Same (h h' : IH) (fs : FP) : Prop where
  le : h.n ≤ h'.n
  size : ∀ p ∈ fs, sizeO (h'.obj p.1) = sizeO (h.obj p.1)
  row : ∀ p ∈ fs, rowO (h'.obj p.1) p.2 = rowO (h.obj p.1) p.2

theorem Same.refl (h : IH) (fs : FP) : Same h h fs := ⟨Nat.le_refl _, fun _ _ => rfl, fun _ _ => rfl⟩
theorem Same.trans {a b c : IH} {fs : FP} (h1 : Same a b fs) (h2 : Same b c fs) : Same a c fs :=
  ⟨Nat.le_trans h1.le h2.le, fun p hp => (h2.size p hp).trans (h1.size p hp), fun p hp => (h2.row p hp).trans (h1.row p hp)⟩
theorem Same.sub {h h' : IH} {fs gs : FP} (hs : Same h h' fs) (hg : ∀ p ∈ gs, p ∈ fs) : Same h h' gs :=
  ⟨hs.le, fun p hp => hs.size p (hg p hp), fun p hp => hs.row p (hg p hp)⟩
theorem Same.of_ext {h h' : IH} {fs : FP} (he : Ext h h') (hf : ∀ p ∈ fs, p.1 < h.n) : Same h h' fs :=
  ⟨he.le, fun p hp => by rw [he.obj _ (hf p hp)], fun p hp => by rw [he.obj _ (hf p hp)]⟩

/-- A relation that looks at its places alone; its rows are of one size; its places lie in the heap. -/
structure Locl {α : Type} (sz : Nat) (R : RR α) : Prop where
  same : ∀ {h h' row x fs}, R h row x fs → Same h h' fs → R h' row x fs
  len : ∀ {h row x fs}, R h row x fs → row.length = sz
  one : ∀ {h row x fs}, R h row x fs → ∀ v ∈ row, v.one = true
  lt : ∀ {h row x fs}, R h row x fs → ∀ p ∈ fs, p.1 < h.n

/-- A slice of such rows. -/
def Sl {α : Type} (R : RR α) (sz : Nat) (h : IH) (v : IV) (xs : List α) (fs : FP) : Prop :=
  (xs = [] ∧ fs = [] ∧ (v = .nilslice ∨ ∃ z, v = .eslice z)) ∨
  ∃ l i, xs ≠ [] ∧ v = .slice l i xs.length ∧ l < h.n ∧ sizeO (h.obj l) = some sz ∧
    ∃ fss : Nat → FP, (∀ j x, xs[j]? = some x → ∃ row, rowO (h.obj l) (i + j) = some row ∧ R h row x (fss j)) ∧
      fs = (List.range xs.length).flatMap fun j => (l, i + j) :: fss j

theorem Sl.one {α : Type} {R : RR α} {sz : Nat} {h : IH} {v : IV} {xs : List α} {fs : FP} (hs : Sl R sz h v xs fs) : v.one = true := by
  rcases hs with ⟨_, _, rfl | ⟨z, rfl⟩⟩ | ⟨l, i, _, rfl, _⟩ <;> rfl
theorem Sl.cells {α : Type} {R : RR α} {sz : Nat} {h : IH} {v : IV} {xs : List α} {fs : FP} (hs : Sl R sz h v xs fs) : v.cells = [v] := by
  rcases hs with ⟨_, _, rfl | ⟨z, rfl⟩⟩ | ⟨l, i, _, rfl, _⟩ <;> rfl
theorem Sl.ilen {α : Type} {R : RR α} {sz : Nat} {h : IH} {v : IV} {xs : List α} {fs : FP} (hs : Sl R sz h v xs fs) : ilen v = some xs.length := by
  rcases hs with ⟨rfl, _, rfl | ⟨z, rfl⟩⟩ | ⟨l, i, _, rfl, _⟩ <;> rfl
theorem Sl.lenF {α : Type} {R : RR α} {sz : Nat} {h : IH} {v : IV} {xs : List α} {fs : FP} (hs : Sl R sz h v xs fs) : lenF v = some (.int .i64 xs.length) := by
  unfold IW.lenF; rw [hs.ilen]; rfl
theorem Sl.nil {α : Type} {R : RR α} {sz : Nat} {h : IH} : Sl R sz h .nilslice [] [] := .inl ⟨rfl, rfl, .inl rfl⟩
theorem Sl.empty {α : Type} {R : RR α} {sz : Nat} {h : IH} (z : Bool) : Sl R sz h (.eslice z) [] [] := .inl ⟨rfl, rfl, .inr ⟨z, rfl⟩⟩

theorem Sl.same {α : Type} {R : RR α} {sz : Nat} (hR : Locl sz R) {h h' : IH} {v : IV} {xs : List α} {fs : FP} (hs : Sl R sz h v xs fs) (he : Same h h' fs) : Sl R sz h' v xs fs := by
  rcases hs with hs | ⟨l, i, h0, rfl, hl, hz, fss, hf, rfl⟩
  · exact .inl hs
  · refine .inr ⟨l, i, h0, rfl, Nat.lt_of_lt_of_le hl he.le, ?_, fss, fun j x hx => ?_, rfl⟩
    · have hpos : 0 < xs.length := List.length_pos_iff.2 h0
      rw [← hz]
      exact he.size (l, i + 0) (List.mem_flatMap.2 ⟨0, by simpa using hpos, by simp⟩)
    · have hj : j < xs.length := (List.getElem?_eq_some_iff.1 hx).1
      obtain ⟨row, hr, hR'⟩ := hf j x hx
      refine ⟨row, ?_, hR.same hR' (he.sub fun p hp => List.mem_flatMap.2 ⟨j, by simpa using hj, by simp [hp]⟩)⟩
      rw [← hr]
      exact he.row (l, i + j) (List.mem_flatMap.2 ⟨j, by simpa using hj, by simp⟩)
theorem Sl.lt {α : Type} {R : RR α} {sz : Nat} (hR : Locl sz R) {h : IH} {v : IV} {xs : List α} {fs : FP} (hs : Sl R sz h v xs fs) : ∀ p ∈ fs, p.1 < h.n := by
  rcases hs with ⟨_, rfl, _⟩ | ⟨l, i, h0, rfl, hl, hz, fss, hf, rfl⟩
  · simp
  · intro p hp
    obtain ⟨j, hj, hp⟩ := List.mem_flatMap.1 hp
    have hj' : j < xs.length := by simpa using hj
    rcases List.mem_cons.1 hp with rfl | hp
    · exact hl
    · obtain ⟨row, hr, hR'⟩ := hf j _ (List.getElem?_eq_getElem hj')
      exact hR.lt hR' p hp

theorem iadrF_nat {h : IH} {sz l i n k : Nat} {q : IntKind} (hk : k < n) (hz : sizeO (h.obj l) = some sz) : iadrF h sz (.slice l i n) (.int q k) = some (.ptr l (i + k) 0) := by
  have := iadrF_of (h := h) (j := i) (k := q) (m := (k : Int)) (n := n) (by omega) (by omega) (by rw [size_eq]; exact hz : h.size l = some sz)
  simpa using this
/-- An element's place and row. -/
theorem Sl.at {α : Type} {R : RR α} {sz : Nat} {h : IH} {v : IV} {xs : List α} {fs : FP} (hs : Sl R sz h v xs fs) {m : Nat} {x : α} (hm : xs[m]? = some x) (k : IntKind) :
    ∃ l j row gs, iadrF h sz v (.int k m) = some (.ptr l j 0) ∧ l < h.n ∧ rowO (h.obj l) j = some row ∧ R h row x gs ∧ (∀ p ∈ gs, p ∈ fs) ∧ (l, j) ∈ fs := by
  have hlt : m < xs.length := (List.getElem?_eq_some_iff.1 hm).1
  rcases hs with ⟨rfl, _, _⟩ | ⟨l, i, h0, rfl, hl, hz, fss, hf, rfl⟩
  · simp at hm
  · obtain ⟨row, hr, hR⟩ := hf m x hm
    refine ⟨l, i + m, row, fss m, ?_, hl, hr, hR, fun p hp => List.mem_flatMap.2 ⟨m, by simpa using hlt, by simp [hp]⟩, List.mem_flatMap.2 ⟨m, by simpa using hlt, by simp⟩⟩
    have := iadrF_of (h := h) (j := i) (k := k) (m := (m : Int)) (n := xs.length) (by omega) (by omega) (by rw [size_eq]; exact hz : h.size l = some sz)
    simpa using this

/-- Flat rows: no places. -/
def Flat {α : Type} (f : α → List IV) : RR α := fun _ row x fs => row = f x ∧ fs = []
theorem Flat.loc {α : Type} {f : α → List IV} {sz : Nat} (h1 : ∀ x, (f x).length = sz) (h2 : ∀ x, ∀ v ∈ f x, v.one = true) : Locl sz (Flat f) :=
  ⟨fun h _ => h, fun h => by rw [h.1]; exact h1 _, fun h => by rw [h.1]; exact h2 _, fun h => by rw [h.2]; simp⟩

theorem set_self {h : IH} {l : Nat} {o : IObj} (ho : h.obj l = o) : h.set l o = h := by
  unfold IH.set
  cases h
  simp only [IH.mk.injEq, true_and]
  funext m
  split
  · rename_i e; subst e; exact ho.symm
  · rfl

/-- A list that is written over. -/
theorem over_set {α : Type} {xs ys : List α} {k : Nat} {x : α} (hl : xs.length = ys.length) (hk : xs[k]? = some x) : (xs.take k ++ ys.drop k).set k x = xs.take (k + 1) ++ ys.drop (k + 1) := by
  have hlt : k < xs.length := (List.getElem?_eq_some_iff.1 hk).1
  have h1 : (xs.take k).length = k := by simp; omega
  have h2 : ys.drop k = ys[k] :: ys.drop (k + 1) := List.drop_eq_getElem_cons (by omega)
  rw [List.set_append_right _ _ (by omega), h1, Nat.sub_self, h2, List.set_cons_zero, List.take_add_one, hk]
  simp

/-! ### Rows written in place -/

def putO (o : IObj) (i : Nat) (row : List IV) : IObj := match o with | .rows rs e sz ro => .rows (rs.set i row) e sz ro | .dead => .dead
/-- Row i of object l becomes this row. -/
def IH.put (h : IH) (l i : Nat) (row : List IV) : IH := h.set l (putO (h.obj l) i row)

theorem put_n (h : IH) (l i : Nat) (row : List IV) : (h.put l i row).n = h.n := nr rfl
theorem put_obj_same (h : IH) (l i : Nat) (row : List IV) : (h.put l i row).obj l = putO (h.obj l) i row := by simp [IH.put, IH.set]
theorem put_obj_ne {h : IH} {l m : Nat} (hm : (m = l) = False) (i : Nat) (row : List IV) : (h.put l i row).obj m = h.obj m := by simp [IH.put, IH.set, hm]
theorem sizeO_putO (o : IObj) (i : Nat) (row : List IV) : sizeO (putO o i row) = sizeO o := by cases o <;> rfl
theorem own_putO (o : IObj) (i : Nat) (row : List IV) : (putO o i row).own = o.own := by cases o <;> rfl
theorem size_put (h : IH) (l i m : Nat) (row : List IV) : sizeO ((h.put l i row).obj m) = sizeO (h.obj m) := by
  by_cases hm : m = l
  · subst hm; rw [put_obj_same, sizeO_putO]
  · rw [put_obj_ne (by simp [hm])]
theorem own_put (h : IH) (l i m : Nat) (row : List IV) : ((h.put l i row).obj m).own = (h.obj m).own := by
  by_cases hm : m = l
  · subst hm; rw [put_obj_same, own_putO]
  · rw [put_obj_ne (by simp [hm])]
theorem row_put_same {h : IH} {l i : Nat} {row row0 : List IV} (hr : rowO (h.obj l) i = some row0) : rowO ((h.put l i row).obj l) i = some row := by
  rw [put_obj_same]
  cases ho : h.obj l with
  | dead => rw [ho] at hr; cases hr
  | rows rs e sz ro =>
    rw [ho] at hr
    have hi : i < rs.length := (List.getElem?_eq_some_iff.1 hr).1
    show (rs.set i row)[i]? = some row
    simp [hi]
theorem row_put_ne {h : IH} {l i m j : Nat} {row : List IV} (hne : ¬ (m = l ∧ j = i)) : rowO ((h.put l i row).obj m) j = rowO (h.obj m) j := by
  by_cases hm : m = l
  · subst hm
    rw [put_obj_same]
    cases ho : h.obj m with
    | dead => rfl
    | rows rs e sz ro =>
      show (rs.set i row)[j]? = rs[j]?
      rw [List.getElem?_set_ne (by intro h; exact hne ⟨rfl, h.symm⟩)]
  · rw [put_obj_ne (by simp [hm])]
theorem put_put (h : IH) (l i : Nat) (a b : List IV) : (h.put l i a).put l i b = h.put l i b := by
  unfold IH.put
  rw [set_here, set_set]
  cases h.obj l with
  | dead => rfl
  | rows rs e sz ro => simp [putO]
theorem put_self {h : IH} {l i : Nat} {row : List IV} (hr : rowO (h.obj l) i = some row) : h.put l i row = h := by
  unfold IH.put
  have : putO (h.obj l) i row = h.obj l := by
    cases ho : h.obj l with
    | dead => rfl
    | rows rs e sz ro =>
      rw [ho] at hr
      have : rs.set i row = rs := by
        have h2 : rs[i]? = some row := hr
        obtain ⟨hi, h3⟩ := List.getElem?_eq_some_iff.1 h2
        rw [← h3]; simp
      simp [putO, this]
  rw [this]
  unfold IH.set
  cases h
  simp only [IH.mk.injEq, true_and]
  funext m
  split
  · rename_i e; subst e; rfl
  · rfl

theorem iadrF_put (h : IH) (l i : Nat) (row : List IV) (sz : Nat) (x y : IV) : iadrF (h.put l i row) sz x y = iadrF h sz x y := by
  unfold iadrF
  simp only [size_eq, size_put]
theorem cell_put {h : IH} {l i : Nat} {row row0 : List IV} (hr : rowO (h.obj l) i = some row0) (k : Nat) : cellO ((h.put l i row).obj l) i k = row[k]? :=
  cellO_row (row_put_same hr) k
/-- A store into a row of one's own, in place. -/
theorem stA_put1 {h : IH} {l i k : Nat} {c : IV} {row : List IV} {K : HoldK} (hr : (rowO (h.obj l) i).isSome = true) (ho : (h.obj l).own = true) (hk : k < row.length) (hc : c.one = true) :
    @stO 1 i k [c] l ((h.put l i row).obj l) (h.put l i row) K = K.k (.tuple []) (h.put l i (row.set k c)) := by
  obtain ⟨row0, hr⟩ := Option.isSome_iff_exists.1 hr
  rw [put_obj_same]
  cases hob : h.obj l with
  | dead => rw [hob] at hr; cases hr
  | rows rs e sz ro =>
    rw [hob] at hr ho
    have hro : ro = false := by cases ro <;> simp_all [IObj.own]
    subst hro
    have hi : i < rs.length := (List.getElem?_eq_some_iff.1 hr).1
    have hput : ∀ r, h.put l i r = h.set l (.rows (rs.set i r) e sz false) := fun r => by simp [IH.put, hob, putO]
    unfold stO
    simp only [putO, List.getElem?_set_self hi, List.length_singleton, List.all_cons, List.all_nil, hc, Bool.and_true, true_and, wrt, Nat.succ_le_of_lt hk, hput, set_set, List.set_set]

end Go.IW
