/- What makes memory or writes it: the machine's steps. -/
import Derived.Test.YtcmcfmgabafljaaDoorIwF
import Derived.Laws.MakeOwn
set_option linter.unusedVariables false
set_option linter.unusedSimpArgs false
namespace Go.IW
open Go.RowKit

theorem VRel.one {ρ : List RLoc} {v : Value} {v' : IV} (h : VRel ρ v v') (h1 : v'.one = true) : v.oneCell' = true := by
  cases h <;> first | rfl | simp [IV.one] at h1

section
variable {P : Program} {ρ : List RLoc} {B : Nat} {w : World} {h : IH}

/-- What comes of an operation: its value, the new places, the new heap. -/
def Out (ρ : List RLoc) (B : Nat) (w : World) (K : IV → IH → Prop) (v' : Value) (w' : World) : Prop :=
  ∃ ρ' v h', ρ <+: ρ' ∧ WRel ρ' B w' h' ∧ VRel ρ' v' v ∧ Below B w w' ∧ K v h'

theorem heap_alloc_lt (w : World) (o : Obj) (k : Nat) (hk : k < w.heap.size) : (w.alloc o).heap[k]? = w.heap[k]? := by
  show (w.heap.push o)[k]? = _
  rw [Array.getElem?_push, if_neg (by omega)]

/-- New rows in a new block. -/
theorem new_rows (hw : WRel ρ B w h) (cells : Array Value) (e sz cap : Nat) (fz : Nat × Nat) (rs : List (List IV)) (hlen : cells.size = cap * sz) (hrs : rs.length ≤ cap) (each : ∀ row ∈ rs, row.length = sz)
    (one : ∀ row ∈ rs, ∀ v ∈ row, v.one = true) (hc : ∀ (i : Nat) row, rs[i]? = some row → RowAt ρ cells (i * sz) row) (hm : cap ≤ maxLen) (hfz : ∀ j, j < cells.size → ¬ (fz.1 ≤ j ∧ j < fz.2)) :
    WRel (ρ ++ [⟨w.heap.size, 0, sz, cap⟩]) B (w.alloc (.cells cells e fz)) (h.push (.rows rs e sz false)) ∧ Below B w (w.alloc (.cells cells e fz)) := by
  refine ⟨hw.push (heap_alloc_lt w _) (by simp) (Nat.le_refl _) ?_, (Below.refl B w).alloc hw.base _⟩
  refine ⟨cells, e, fz, heap_alloc_new w _, rfl, by simp [hlen], hrs, each, one, fun i row hi => ?_, fun _ => ⟨rfl, hw.base, hfz, rfl, hm, hlen⟩⟩
  rw [Nat.zero_add]
  exact (hc i row hi).mono (List.prefix_append _ _)

theorem getlast_new (ρ : List RLoc) (r : RLoc) (h : IH) (hl : ρ.length = h.n) : (ρ ++ [r])[h.n]? = some r := by
  rw [← hl]; exact List.getElem?_concat_length

/-- One struct or one cell, boxed. -/
theorem box_out (hw : WRel ρ B w h) {v : Value} {v' : IV} (hv : VRel ρ v v') {e sz : Nat} (hsz : v'.cells.length = sz) (h1 : ∀ x ∈ v'.cells, x.one = true) {K : IV → IH → Prop}
    (hk : K (.ptr h.n 0 0) (h.push (.rows [v'.cells] e sz false))) : Out ρ B w K (.pointer (some ⟨w.heap.size, 0, none⟩)) (w.alloc (.cells v.cells e)) := by
  have hl := hv.cells
  have hlen : v.cells.size = 1 * sz := by have := hl.1; simp at this; omega
  obtain ⟨h2, h3⟩ := new_rows hw v.cells e sz 1 (0, 0) [v'.cells] hlen (by simp) (by simpa using hsz) (by simpa using h1) (fun i row hi k x hx => by
    cases i with
    | zero =>
      simp at hi; subst hi
      obtain ⟨y, hy, hr⟩ := hl.of_get' hx
      exact ⟨y, by simpa using hy, hr⟩
    | succ i => simp at hi) (by decide) (by simp)
  refine ⟨_, _, _, List.prefix_append _ _, h2, ?_, h3, hk⟩
  have := VRel.ptr (i := 0) (k := 0) (getlast_new ρ ⟨w.heap.size, 0, sz, 1⟩ h hw.len)
  simpa using this

/-- A row of cells, stored. -/
theorem run_storeCells_fz (g o : Nat) (t : TypeId) (fz : Nat × Nat) : ∀ (vs : List Value) (i : Nat) (cur : Array Value) (w : World), w.heap[g]? = some (.cells cur t fz) → (∀ j, j < cur.size → ¬ (fz.1 ≤ j ∧ j < fz.2)) → o + i + vs.length ≤ cur.size → (∀ v ∈ vs, v.oneCell' = true) →
    (storeCells ⟨g, o, none⟩ vs i).run P w = .ok () (w.setRow g (cur.toList.take (o + i) ++ vs ++ cur.toList.drop (o + i + vs.length)).toArray)
  | [], i, cur, w, hg, _, _, _ => by
    simp only [storeCells, List.append_nil, List.length_nil, Nat.add_zero, List.take_append_drop, Array.toArray_toList]
    rw [setRow_self w g cur t fz hg]
    rfl
  | v :: rest, i, cur, w, hg, hfz, hl, h1 => by
    have hi : o + i < cur.size := by simp at hl; omega
    have hcell : w.cell? ⟨g, o + i, none⟩ = some cur[o + i] := by simp [World.cell?, hg, hi]
    have hfro : w.frozen? ⟨g, o + i, none⟩ = false := by
      have := hfz _ hi
      simp only [World.frozen?, hg]
      simpa using this
    have hst : (store ((⟨g, o, none⟩ : Addr).add i) v).run P w = .ok () (w.setRow g (cur.setIfInBounds (o + i) v)) := by
      rw [addr_add, run_store P w _ v _ (h1 v (by simp)), hcell]
      simp [hfro, setCell_eq_setRow w g (o + i) cur t fz v hg]
    have ih := run_storeCells_fz g o t fz rest (i + 1) (cur.setIfInBounds (o + i) v) (w.setRow g (cur.setIfInBounds (o + i) v)) (setRow_heap w g cur _ t _ hg) (by simpa using hfz) (by simp at hl ⊢; omega) (fun x hx => h1 x (by simp [hx]))
    simp only [storeCells, Sem.run_bind, hst, Result.andThen_ok, ih, setRow_setRow]
    congr 3
    have e := list_seg_step cur.toList (o + i) v rest (by simp at hl ⊢; omega)
    simpa [Array.toList_setIfInBounds, Nat.add_assoc] using e

/-- A part of a row, written. -/
def wrt (row : List IV) (k : Nat) (cs : List IV) : List IV :=
  match cs with
  | [c] => row.set k c
  | cs => row.take k ++ cs ++ row.drop (k + cs.length)
theorem set_eq_take {α : Type} (row : List α) (k : Nat) (c : α) (h : k < row.length) : row.set k c = row.take k ++ [c] ++ row.drop (k + 1) := by
  rw [List.set_eq_take_append_cons_drop, if_pos h]
  simp
theorem wrt_eq (row : List IV) (k : Nat) (cs : List IV) (h : k + cs.length ≤ row.length) : wrt row k cs = row.take k ++ cs ++ row.drop (k + cs.length) := by
  unfold wrt
  split
  · simp at h; exact set_eq_take _ _ _ (by omega)
  · rfl
theorem wrt_length (row : List IV) (k : Nat) (cs : List IV) (h : k + cs.length ≤ row.length) : (wrt row k cs).length = row.length := by
  rw [wrt_eq _ _ _ h]; simp; omega

theorem mem_of_get {α : Type} {l : List α} {i : Nat} {x : α} (h : l[i]? = some x) : x ∈ l := List.mem_of_getElem? h

theorem WRel.rows (hw : WRel ρ B w h) {l : Nat} {r : RLoc} {rs : List (List IV)} {e sz : Nat} {ro : Bool} (hr : ρ[l]? = some r) (ho : h.obj l = .rows rs e sz ro) :
    ∃ c t fz, w.heap[r.block]? = some (.cells c t fz) ∧ RowsRel ρ B r rs e sz ro c t fz := by
  have := hw.obj l r hr
  rw [ho] at this
  exact this

theorem setRow_get (w : World) (g k : Nat) (cs : Array Value) (hk : k ≠ g) : (w.setRow g cs).heap[k]? = w.heap[k]? := setRow_other w g k cs hk

/-- The block of an object that owns it, written. -/
theorem set_rows (hw : WRel ρ B w h) {l : Nat} {r : RLoc} {rs rs' : List (List IV)} {e sz : Nat} (hr : ρ[l]? = some r) (ho : h.obj l = .rows rs e sz false) (cells : Array Value)
    (hlen : cells.size = r.cap * sz) (hrs : rs'.length ≤ r.cap) (each : ∀ row ∈ rs', row.length = sz) (one : ∀ row ∈ rs', ∀ v ∈ row, v.one = true) (hc : ∀ (i : Nat) row, rs'[i]? = some row → RowAt ρ cells (i * sz) row) :
    WRel ρ B (w.setRow r.block cells) (h.set l (.rows rs' e sz false)) ∧ Below B w (w.setRow r.block cells) := by
  obtain ⟨c, t, fz, hg, hrel⟩ := hw.rows hr ho
  obtain ⟨hb, hB, hfz, ht, hcap, hcs⟩ := hrel.own rfl
  refine ⟨hw.set hr (by rw [ho]; rfl) (fun k hk => setRow_get w _ _ _ hk) (by simp) ?_, ?_⟩
  · refine ⟨cells, t, fz, setRow_heap w _ _ _ _ _ hg, hrel.hsz, by rw [hb]; simp [hlen], hrs, each, one, fun i row hi => ?_, fun _ => ⟨hb, hB, ?_, ht, hcap, hlen⟩⟩
    · rw [hb, Nat.zero_add]; exact hc i row hi
    · rw [hlen, ← hcs]; exact hfz
  · exact ⟨rfl, rfl, rfl, by simp, fun k hk => setRow_get w _ _ _ (by omega)⟩

/-- A place in an object that owns its block, written. -/
theorem st_out (hw : WRel ρ B w h) {l i k : Nat} {r : RLoc} {rs : List (List IV)} {row : List IV} {e sz : Nat} (hr : ρ[l]? = some r) (ho : h.obj l = .rows rs e sz false) (hrow : rs[i]? = some row)
    {vs : List Value} {vs' : List IV} (hv : LRel ρ vs vs') (hk : k + vs'.length ≤ row.length) (h1 : ∀ x ∈ vs', x.one = true) :
    ∃ w', (storeCells ⟨r.block, r.base + i * r.sz + k, none⟩ vs).run P w = .ok () w' ∧ WRel ρ B w' (h.set l (.rows (rs.set i (wrt row k vs')) e sz false)) ∧ Below B w w' := by
  obtain ⟨c, t, fz, hg, hrel⟩ := hw.rows hr ho
  obtain ⟨hb, hB, hfz, ht, hcap, hcs⟩ := hrel.own rfl
  have hrl : row.length = sz := hrel.each row (mem_of_get hrow)
  have hi : i < rs.length := (List.getElem?_eq_some_iff.1 hrow).1
  have hic : i < r.cap := Nat.lt_of_lt_of_le hi hrel.len
  have hsz : (i + 1) * sz ≤ c.size := by rw [hcs]; exact Nat.mul_le_mul_right _ hic
  have hvl := hv.1
  have hfit : i * sz + k + vs.length ≤ c.size := by rw [Nat.add_mul, Nat.one_mul] at hsz; omega
  have hone : ∀ v ∈ vs, v.oneCell' = true := by
    intro v hm
    obtain ⟨j, hj⟩ := List.getElem?_of_mem hm
    obtain ⟨v', h2, h3⟩ := hv.of_get hj
    exact h3.one (h1 v' (mem_of_get h2))
  have hrun := run_storeCells_fz (P := P) r.block (i * sz + k) t fz vs 0 c w hg hfz (by simpa using hfit) hone
  rw [hb, hrel.hsz, Nat.zero_add]
  refine ⟨_, hrun, set_rows hw hr ho _ ?_ (by simpa using hrel.len) ?_ ?_ ?_⟩
  · simp; omega
  · intro x hx
    rcases List.mem_or_eq_of_mem_set hx with h2 | h2
    · exact hrel.each x h2
    · rw [h2, wrt_length _ _ _ hk, hrl]
  · intro x hx
    rcases List.mem_or_eq_of_mem_set hx with h2 | h2
    · exact hrel.one x h2
    · rw [h2, wrt_eq _ _ _ hk]
      intro v hm
      simp only [List.mem_append] at hm
      rcases hm with (hm | hm) | hm
      · exact hrel.one row (mem_of_get hrow) v (List.mem_of_mem_take hm)
      · exact h1 v hm
      · exact hrel.one row (mem_of_get hrow) v (List.mem_of_mem_drop hm)
  · intro j x hj q u hu
    have hget : ∀ m, (c.toList.take (i * sz + k + 0) ++ vs ++ c.toList.drop (i * sz + k + 0 + vs.length)).toArray[m]? = if m < i * sz + k then c[m]? else if m < i * sz + k + vs.length then vs[m - (i * sz + k)]? else c[m]? := by
      intro m
      rw [List.getElem?_toArray]
      simp only [Nat.add_zero, List.getElem?_append, List.length_append, List.length_take, Array.length_toList, List.getElem?_take, List.getElem?_drop, Array.getElem?_toList]
      have e1 : min (i * sz + k) c.size = i * sz + k := by omega
      rw [e1]
      by_cases a1 : m < i * sz + k
      · simp [a1, show m < i * sz + k + vs.length by omega]
      · by_cases a2 : m < i * sz + k + vs.length
        · simp [a1, a2]
        · simp [a1, a2, show i * sz + k + vs.length + (m - (i * sz + k + vs.length)) = m by omega]
    by_cases hij : i = j
    · subst hij
      rw [List.getElem?_set_self hi] at hj
      obtain rfl := Option.some.inj hj
      rw [wrt_eq _ _ _ hk] at hu
      have hq : q < row.length := by
        have := (List.getElem?_eq_some_iff.1 hu).1
        simp at this; omega
      simp only [List.getElem?_append, List.length_append, List.length_take, List.getElem?_take, List.getElem?_drop] at hu
      have e1 : min k row.length = k := by omega
      rw [e1] at hu
      rw [hget]
      by_cases a1 : q < k
      · simp only [a1, show q < k + vs'.length by omega, if_true] at hu
        rw [if_pos (by omega)]
        have := hrel.cells i row hrow q u hu
        rw [hb, Nat.zero_add] at this
        exact this
      · by_cases a2 : q < k + vs'.length
        · simp only [a1, a2, if_true, if_false] at hu
          rw [if_neg (by omega), if_pos (by omega)]
          obtain ⟨v, h2, h3⟩ := hv.of_get' hu
          exact ⟨v, by rw [show i * sz + q - (i * sz + k) = q - k by omega]; exact h2, h3⟩
        · simp only [a2, if_false] at hu
          rw [if_neg (by omega), if_neg (by omega)]
          have := hrel.cells i row hrow q u (by rwa [show k + vs'.length + (q - (k + vs'.length)) = q by omega] at hu)
          rw [hb, Nat.zero_add] at this
          exact this
    · rw [List.getElem?_set_ne hij] at hj
      have hx := hrel.cells j x hj q u hu
      rw [hb, Nat.zero_add] at hx
      rw [hget]
      have hq : q < sz := by rw [← hrel.each x (mem_of_get hj)]; exact (List.getElem?_eq_some_iff.1 hu).1
      rcases Nat.lt_or_ge j i with hlt | hge
      · have : (j + 1) * sz ≤ i * sz := Nat.mul_le_mul_right _ hlt
        rw [Nat.add_mul, Nat.one_mul] at this
        rw [if_pos (by omega)]; exact hx
      · have hgt : i + 1 ≤ j := by omega
        have : (i + 1) * sz ≤ j * sz := Nat.mul_le_mul_right _ hgt
        rw [Nat.add_mul, Nat.one_mul] at this
        rw [if_neg (by omega), if_neg (by omega)]; exact hx

end
end Go.IW
