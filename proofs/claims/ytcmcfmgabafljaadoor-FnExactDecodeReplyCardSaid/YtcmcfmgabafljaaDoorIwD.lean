/- What writes nothing answers as the ideal says: the rest, and all together. -/
import Derived.Test.YtcmcfmgabafljaaDoorIwC
set_option linter.unusedVariables false
set_option linter.unusedSimpArgs false
namespace Go.IW
open Go.RowKit

section
variable {P : Program} {ρ : List RLoc} {B : Nat} {w : World} {h : IH}

theorem ld_sound (hw : WRel ρ B w h) {t : TypeId} {d : TypeDesc} {x : Value} {l i k : Nat} {v : IV} (hd : P.underlying t = some d) (ha : isAggD d = false) (hx : VRel ρ x (.ptr l i k))
    (hc : h.cell l i k = some v) : Answers P (Instr.loadAt t x) w ρ v := by
  cases hx with
  | ptr hr =>
    obtain ⟨v', h1, h2⟩ := cell_sound hw hr hc
    exact ⟨v', by simp [Instr.loadAt, Instr.sureAddr, loadVar, run_isAgg hd, ha, h1], h2⟩

theorem ldA_sound (hw : WRel ρ B w h) {t : TypeId} {d : TypeDesc} {x : Value} {l i k n : Nat} {row : List IV} (hd : P.underlying t = some d) (ha : isAggD d = true) (hn : tsz P t = some n)
    (hx : VRel ρ x (.ptr l i k)) (hc : h.row l i = some row) (hk : k + n ≤ row.length) : Answers P (Instr.loadAt t x) w ρ (.agg ((row.drop k).take n)) := by
  cases hx with
  | @ptr l i k r hr =>
    obtain ⟨vs, h1, h2⟩ := row_sound hw hr hc
    have hlen := h1.1
    have hr2 := run_loadCells_list (P := P) (w := w) (⟨r.block, r.base + i * r.sz + k, none⟩ : Addr) ((vs.drop k).take n) (fun j v hv => by
      rw [List.getElem?_take] at hv
      split at hv
      · rw [List.getElem?_drop] at hv
        have := h2 _ v hv
        rw [addr_add]
        rw [Nat.add_assoc]; exact this
      · cases hv)
    have hl : ((vs.drop k).take n).length = n := by simp; omega
    rw [hl] at hr2
    refine ⟨.agg ((vs.drop k).take n).toArray, ?_, LRel.agg (by simpa using (h1.drop k).take n)⟩
    simp [Instr.loadAt, Instr.sureAddr, loadVar, run_isAgg hd, ha, run_sizeOf' hn, hr2]

theorem ilen_rel {x : Value} {x' : IV} {n : Nat} (hx : VRel ρ x x') (hn : ilen x' = some n) : ∃ a c, x = .slice a n c ∧ n ≤ c ∧ c ≤ maxLen := by
  cases hx <;> simp [ilen] at hn <;> subst hn
  · exact ⟨_, _, rfl, Nat.le_refl _, Nat.zero_le _⟩
  · rename_i hc; exact ⟨_, _, rfl, Nat.zero_le _, hc⟩
  · rename_i hn hc hm; exact ⟨_, _, rfl, hn, hm⟩

theorem len_sound {t ty el : TypeId} {x : Value} {x' : IV} {n : Nat} (hx : VRel ρ x x') (hn : ilen x' = some n) (ht : P.underlying t = some (.slice el)) : Answers P (Builtin.len_ #[t] ty #[x]) w ρ (.int .i64 n) := by
  refine ⟨_, ?_, VRel.int _ _⟩
  obtain ⟨a, c, rfl, _, _⟩ := ilen_rel hx hn
  simp [Builtin.len_, run_underlying ht, goInt]
theorem lenS_sound {t ty : TypeId} {x : Value} {s : List UInt8} (hx : VRel ρ x (.str s)) (ht : P.underlying t = some .string) : Answers P (Builtin.len_ #[t] ty #[x]) w ρ (.int .i64 s.length) := by
  generalize hs : IV.str s = s' at hx
  cases hx <;> cases hs
  rename_i s
  refine ⟨_, ?_, VRel.int _ _⟩
  rw [size_list]
  simp [Builtin.len_, run_underlying ht, goInt]

theorem part_sound {t : TypeId} {d : TypeDesc} {n off : Nat} {cs : Array Value} {cs' : List IV} {v : IV} (hd : P.underlying t = some d) (hn : tsz P t = some n) (hx : LRel ρ cs.toList cs')
    (hv : (if isAggD d then (if off + n ≤ cs'.length then some (IV.agg ((cs'.drop off).take n)) else none) else cs'[off]?) = some v) : Answers P (part t cs off) w ρ v := by
  cases hagg : isAggD d
  · rw [hagg, if_neg (by simp)] at hv
    obtain ⟨v', h1, h2⟩ := hx.of_get' hv
    refine ⟨v', ?_, h2⟩
    have h1' : cs[off]? = some v' := by simpa using h1
    simp [part, run_isAgg hd, hagg, h1']
  · rw [hagg, if_pos rfl] at hv
    split at hv
    · obtain rfl := Option.some.inj hv
      refine ⟨.agg (cs.extract off (off + n)), ?_, LRel.agg ?_⟩
      · simp [part, run_isAgg hd, hagg, run_sizeOf' hn]
      · have : (cs.extract off (off + n)).toList = (cs.toList.drop off).take n := by simp [Array.toList_extract, List.extract_eq_take_drop]
        rw [this]; exact (hx.drop off).take n
    · cases hv

theorem list_set_range (l m : List Value) (off : Nat) (h : off + m.length ≤ l.length) :
    (m.toArray.zipIdx.foldl (fun cs (p : Value × Nat) => cs.setIfInBounds (off + p.2) p.1) l.toArray) = (l.take off ++ m ++ l.drop (off + m.length)).toArray := by
  have key : ∀ (m : List Value) (i : Nat) (l : List Value), off + i + m.length ≤ l.length →
      ((m.zipIdx i).foldl (fun cs (p : Value × Nat) => cs.setIfInBounds (off + p.2) p.1) l.toArray) = (l.take (off + i) ++ m ++ l.drop (off + i + m.length)).toArray := by
    intro m
    induction m with
    | nil => intro i l h; simp
    | cons x m ih =>
      intro i l h
      simp only [List.length_cons] at h
      rw [List.zipIdx_cons, List.foldl_cons]
      simp only [List.setIfInBounds_toArray]
      rw [ih (i + 1) (l.set (off + i) x) (by simp; omega)]
      congr 1
      apply List.ext_getElem?
      intro j
      simp only [List.getElem?_append, List.length_take, List.length_append, List.length_set, List.getElem?_take, List.getElem?_drop, List.getElem?_set, List.length_cons, List.getElem?_cons]
      have e1 : min (off + (i + 1)) l.length = off + i + 1 := by omega
      have e2 : min (off + i) l.length = off + i := by omega
      simp only [e1, e2]
      rcases Nat.lt_trichotomy j (off + i) with hj | hj | hj
      · simp [show j < off + i + 1 + m.length by omega, show j < off + i + 1 by omega, show j < off + i + (m.length + 1) by omega, hj, show off + i ≠ j by omega, show j < off + (i + 1) by omega]
      · subst hj
        simp [show off + i < off + i + 1 + m.length by omega, show off + i < off + i + (m.length + 1) by omega, show off + i < off + (i + 1) by omega, show off + i < l.length by omega]
      · by_cases h2 : j < off + i + 1 + m.length
        · simp [h2, show ¬ j < off + i + 1 by omega, show j < off + i + (m.length + 1) by omega, show ¬ j < off + i by omega, show j - (off + i) ≠ 0 by omega, show j - (off + i) - 1 = j - (off + i + 1) by omega]
        · simp [h2, show ¬ j < off + i + (m.length + 1) by omega, show off + i ≠ off + (i + 1) + m.length + (j - (off + i + 1 + m.length)) by omega]
          congr 1; omega
  have := key m 0 l (by simpa using h)
  simpa using this

/-- Parts, laid. -/
theorem fill_sound (place : Nat → Option (Nat × Nat)) : ∀ (ps : List (Nat × Value)) (qs : List (Nat × Nat × IV)) (zero : List Value) (zero' out : List IV),
    ps.length = qs.length → (∀ (i : Nat) p q, ps[i]? = some p → qs[i]? = some q → place p.1 = some (q.1, q.2.1) ∧ VRel ρ p.2 q.2.2) → LRel ρ zero zero' → lay zero' qs = some out →
    ∃ cells : List Value, Instr.fill place zero.toArray ps = some cells.toArray ∧ LRel ρ cells out := by
  intro ps
  induction ps with
  | nil =>
    intro qs zero zero' out hl _ hz ho
    cases qs with
    | nil => simp [lay] at ho; subst ho; exact ⟨zero, rfl, hz⟩
    | cons q qs => simp at hl
  | cons p ps ih =>
    intro qs zero zero' out hl hpq hz ho
    cases qs with
    | nil => simp at hl
    | cons q qs =>
      obtain ⟨off, size, v⟩ := q
      obtain ⟨i, u⟩ := p
      obtain ⟨hplace, hv⟩ := hpq 0 _ _ rfl rfl
      simp only at hplace hv
      have hcells : LRel ρ u.cells.toList v.cells := hv.cells
      simp only [lay] at ho
      split at ho
      · rename_i hsz
        have hlen := hcells.1
        have hzl := hz.1
        have hu0 : u.cells.toList.length = u.cells.size := by simp
        have hu : u.cells.size = size := by omega
        have hrange := list_set_range zero u.cells.toList off (by simp; omega)
        have hrel : LRel ρ (zero.take off ++ u.cells.toList ++ zero.drop (off + size)) (zero'.take off ++ v.cells ++ zero'.drop (off + size)) :=
          ((hz.take off).append hcells).append (hz.drop (off + size))
        obtain ⟨cells, hc1, hc2⟩ := ih qs _ _ out (by simpa using hl) (fun j a b x y => hpq (j + 1) a b (by simpa using x) (by simpa using y)) hrel ho
        refine ⟨cells, ?_, hc2⟩
        rw [← hc1]
        simp only [Instr.fill, hplace]
        rw [if_neg (by simp [hu]; omega)]
        congr 1
        have hA : u.cells.toList.toArray = u.cells := by simp
        rw [hA] at hrange
        simp only [Array.length_toList, hu] at hrange
        exact hrange
      · cases ho

end
end Go.IW
