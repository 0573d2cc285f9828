/- Memory that a call has made, and what is written into it. -/
import Derived.Test.YtcmcfmgabafljaaDoorIwT
set_option linter.unusedSimpArgs false
set_option linter.unusedVariables false
namespace Go.IW
open Go.RowKit

/-- Object p of the heap is o. -/
structure At (h : IH) (p : Nat) (o : IObj) : Prop where
  lt : p < h.n
  eq : h.obj p = o
theorem At.ext {h h' : IH} {p : Nat} {o : IObj} (a : At h p o) (e : Ext h h') : At h' p o := ⟨Nat.lt_of_lt_of_le a.lt e.le, (e.obj p a.lt).trans a.eq⟩
theorem At.new (h : IH) (o : IObj) : At (h.push o) h.n o := ⟨Nat.lt_succ_self _, push_new _ _⟩

/-- A value that names an object as a slice. -/
def IV.at_ (v : IV) (m : Nat) : Prop := ∃ i n, v = .slice m i n
/-- Nothing has turned but what v names. -/
structure Turn (v : IV) (h h' : IH) : Prop where
  le : h.n ≤ h'.n
  obj : ∀ m, m < h.n → ¬ v.at_ m → h'.obj m = h.obj m
theorem Turn.refl (v : IV) (h : IH) : Turn v h h := ⟨Nat.le_refl _, fun _ _ _ => rfl⟩
theorem Turn.trans {v : IV} {a b c : IH} (h1 : Turn v a b) (h2 : Turn v b c) : Turn v a c :=
  ⟨Nat.le_trans h1.le h2.le, fun m hm hv => (h2.obj m (Nat.lt_of_lt_of_le hm h1.le) hv).trans (h1.obj m hm hv)⟩
theorem Turn.of_ext {v : IV} {a b : IH} (h1 : Ext a b) : Turn v a b := ⟨h1.le, fun m hm _ => h1.obj m hm⟩

/-- What a call has made: an object between two numbers, or none. -/
def Own (lo hi : Nat) (h : IH) (el sz : Nat) (v : IV) (rs : List (List IV)) : Prop :=
  (rs = [] ∧ (v = .nilslice ∨ v = .eslice true)) ∨ ∃ l, rs ≠ [] ∧ v = .slice l 0 rs.length ∧ lo ≤ l ∧ l < hi ∧ hi ≤ h.n ∧ h.obj l = .rows rs el sz false

section
variable {lo hi lo' hi' : Nat} {h h' : IH} {el sz : Nat} {v w : IV} {rs : List (List IV)}
theorem Own.nil : Own lo hi h el sz .nilslice [] := .inl ⟨rfl, .inl rfl⟩
theorem Own.empty : Own lo hi h el sz (.eslice true) [] := .inl ⟨rfl, .inr rfl⟩
theorem Own.mk {l : Nat} (h0 : rs ≠ []) (h1 : lo ≤ l) (h2 : l < hi) (h3 : hi ≤ h.n) (h4 : h.obj l = .rows rs el sz false) : Own lo hi h el sz (.slice l 0 rs.length) rs :=
  .inr ⟨l, h0, rfl, h1, h2, h3, h4⟩
theorem Own.sl (ho : Own lo hi h el sz v rs) : SlR h sz v rs := by
  rcases ho with ⟨rfl, rfl | rfl⟩ | ⟨l, _, rfl, _, h2, h3, h4⟩
  · exact SlR.nil _ _
  · exact SlR.empty _ _ _
  · exact SlR.whole h4 rfl (by omega)
theorem Own.one (ho : Own lo hi h el sz v rs) : v.one = true := ho.sl.one
theorem Own.cells (ho : Own lo hi h el sz v rs) : v.cells = [v] := ho.sl.cells
theorem Own.lenF (ho : Own lo hi h el sz v rs) : lenF v = some (.int .i64 rs.length) := ho.sl.lenF
theorem Own.ext (ho : Own lo hi h el sz v rs) (e : Ext h h') : Own lo hi h' el sz v rs := by
  rcases ho with ho | ⟨l, h0, rfl, h1, h2, h3, h4⟩
  · exact .inl ho
  · exact .inr ⟨l, h0, rfl, h1, h2, Nat.le_trans h3 e.le, (e.obj l (by omega)).trans h4⟩
theorem Own.wide (ho : Own lo hi h el sz v rs) (w1 : lo' ≤ lo) (w2 : hi ≤ hi') (w3 : hi' ≤ h.n) : Own lo' hi' h el sz v rs := by
  rcases ho with ho | ⟨l, h0, rfl, h1, h2, h3, h4⟩
  · exact .inl ho
  · exact .inr ⟨l, h0, rfl, by omega, by omega, w3, h4⟩
theorem Own.at_ {m : Nat} (ho : Own lo hi h el sz v rs) (hv : v.at_ m) : lo ≤ m ∧ m < hi := by
  rcases ho with ⟨_, rfl | rfl⟩ | ⟨l, h0, rfl, h1, h2, h3, h4⟩
  · obtain ⟨i, n, h⟩ := hv; cases h
  · obtain ⟨i, n, h⟩ := hv; cases h
  · obtain ⟨i, n, h⟩ := hv; cases h; exact ⟨h1, h2⟩
theorem Own.set (ho : Own lo hi h el sz v rs) {m : Nat} (hm : m < lo ∨ hi ≤ m) (o : IObj) : Own lo hi (h.set m o) el sz v rs := by
  rcases ho with ho | ⟨l, h0, rfl, h1, h2, h3, h4⟩
  · exact .inl ho
  · exact .inr ⟨l, h0, rfl, h1, h2, h3, (set_there _ _ _ _ (by omega)).trans h4⟩
/-- What another value names is turned. -/
theorem Own.turn {rs' : List (List IV)} {el' sz' : Nat} (ho : Own lo hi h el sz v rs) (hw : Own lo' hi' h el' sz' w rs') (hd : hi ≤ lo' ∨ hi' ≤ lo) (t : Turn w h h') : Own lo hi h' el sz v rs := by
  rcases ho with ho | ⟨l, h0, rfl, h1, h2, h3, h4⟩
  · exact .inl ho
  · exact .inr ⟨l, h0, rfl, h1, h2, Nat.le_trans h3 t.le, (t.obj l (by omega) (fun hv => by have := hw.at_ hv; omega)).trans h4⟩
theorem At.turn {p : Nat} {o : IObj} (a : At h p o) (hw : Own lo hi h el sz w rs) (hd : p < lo ∨ hi ≤ p) (t : Turn w h h') : At h' p o :=
  ⟨Nat.lt_of_lt_of_le a.lt t.le, (t.obj p a.lt (fun hv => by have := hw.at_ hv; omega)).trans a.eq⟩
/-- Rows from outside: below what the calls have made. -/
theorem SlR.turn {rs' : List (List IV)} {sz' : Nat} (hs : SlR h sz v rs) (hlo : ∀ l i n, v = .slice l i n → l < lo) (hw : Own lo hi h el sz' w rs') (t : Turn w h h') : SlR h' sz v rs := by
  refine ⟨?_, hs.len, fun l i n hv => Nat.lt_of_lt_of_le (hs.lt l i n hv) t.le⟩
  have h1 := hs.src
  cases v with
  | slice l i n =>
    have hl := hlo l i n rfl
    have := t.obj l (hs.lt l i n rfl) (fun hv => by have := hw.at_ hv; omega)
    simp only [srcRows, this] at h1 ⊢
    exact h1
  | nilslice => exact h1
  | eslice z => exact h1
  | _ => simp [srcRows] at h1
end

/-- Rows from outside, below a number. -/
structure Arg (lo : Nat) (h : IH) (sz : Nat) (v : IV) (rs : List (List IV)) : Prop where
  sl : SlR h sz v rs
  lt : ∀ l i n, v = .slice l i n → l < lo
theorem Arg.of {h : IH} {sz : Nat} {v : IV} {rs : List (List IV)} (hs : SlR h sz v rs) : Arg h.n h sz v rs := ⟨hs, hs.lt⟩
theorem Arg.ext {lo : Nat} {h h' : IH} {sz : Nat} {v : IV} {rs : List (List IV)} (a : Arg lo h sz v rs) (e : Ext h h') : Arg lo h' sz v rs := ⟨a.sl.ext e, a.lt⟩
theorem Arg.turn {lo l0 hi : Nat} {h h' : IH} {el sz sz' : Nat} {v w : IV} {rs rs' : List (List IV)} (a : Arg lo h sz v rs) (hw : Own l0 hi h el sz' w rs') (hd : lo ≤ l0) (t : Turn w h h') : Arg lo h' sz v rs :=
  ⟨a.sl.turn (fun l i n hv => Nat.lt_of_lt_of_le (a.lt l i n hv) hd) hw t, a.lt⟩

/-- Marks are written over the whole of what a call has made. -/
theorem Own.mark {lo hi : Nat} {h : IH} {el sz : Nat} {v : IV} {rs : List (List IV)} (ho : Own lo hi h el sz v rs) {P : Prop}
    (h0 : rs = [] → IW.lenF v = some (.int .i64 0) → v.one = true → P)
    (h1 : ∀ l, v = .slice l 0 rs.length → rs.length ≠ 0 → l < h.n → lo ≤ l → l < hi → hi ≤ h.n → h.obj l = .rows rs el sz false → P) : P := by
  rcases ho with ⟨rfl, rfl | rfl⟩ | ⟨l, h0', rfl, h1', h2, h3, h4⟩
  · exact h0 rfl rfl rfl
  · exact h0 rfl rfl rfl
  · exact h1 l rfl (by simpa using h0') (by omega) h1' h2 h3 h4
theorem Own.over {lo hi l el n : Nat} {h : IH} {sz : Nat} {rs : List (List IV)} (hn : rs.length = n) (h0 : n ≠ 0) (h1 : lo ≤ l) (h2 : l < hi) (h3 : hi ≤ h.n) : Own lo hi (h.set l (.rows rs el sz false)) el sz (.slice l 0 n) rs := by
  subst hn
  exact .inr ⟨l, fun hr => h0 (by simp [hr]), rfl, h1, h2, h3, set_here _ _ _⟩
theorem Turn.set {l i n : Nat} {h : IH} (o : IObj) : Turn (.slice l i n) h (h.set l o) :=
  ⟨Nat.le_refl _, fun m _ hv => set_there _ _ _ _ (fun e => hv ⟨i, n, by rw [e]⟩)⟩

theorem SlR.nilq {h : IH} {sz : Nat} {v : IV} {rs : List (List IV)} (hs : SlR h sz v rs) : ∃ b, isNil .slice v = some b ∧ (b = true → rs = []) := by
  have h1 := hs.src
  have h2 := hs.len
  cases v with
  | nilslice => exact ⟨true, rfl, fun _ => by simp [srcRows] at h1; exact h1⟩
  | eslice z => exact ⟨false, rfl, fun h => by cases h⟩
  | slice l i n => exact ⟨false, rfl, fun h => by cases h⟩
  | _ => simp [ilen] at h2

theorem Ext.turn {a b c : IH} {lo hi el sz : Nat} {w : IV} {rs : List (List IV)} (e : Ext a b) (hw : Own lo hi b el sz w rs) (hlo : a.n ≤ lo) (t : Turn w b c) : Ext a c :=
  ⟨Nat.le_trans e.le t.le, fun l hl => (t.obj l (Nat.lt_of_lt_of_le hl e.le) (fun hv => by have := hw.at_ hv; omega)).trans (e.obj l hl)⟩

/-! Places in rows that are known. -/
def iadrO (o : IObj) (sz l i n : Nat) (m : Int) : Option IV := if 0 ≤ m ∧ m < n ∧ sizeO o = some sz then some (.ptr l (i + m.toNat) 0) else none
theorem iadrF_sl (h : IH) (sz l i n : Nat) (q : IntKind) (m : Int) : iadrF h sz (.slice l i n) (.int q m) = iadrO (h.obj l) sz l i n m := by
  unfold iadrO
  simp only [iadrF, size_eq]
theorem iadrO_rows {rs : List (List IV)} {e sz l i n : Nat} {ro : Bool} {m : Int} (h0 : 0 ≤ m) (h1 : m < n) : iadrO (.rows rs e sz ro) sz l i n m = some (.ptr l (i + m.toNat) 0) := if_pos ⟨h0, h1, rfl⟩
theorem iadrO_nat {rs : List (List IV)} {e sz l i n k : Nat} {ro : Bool} (h1 : k < n) : iadrO (.rows rs e sz ro) sz l i n (k : Int) = some (.ptr l (i + k) 0) := by
  rw [iadrO_rows (by omega) (by omega)]; simp
theorem iadrO_0 {rs : List (List IV)} {e sz l i n : Nat} {ro : Bool} (h1 : n ≠ 0) : iadrO (.rows rs e sz ro) sz l i n 0 = some (.ptr l i 0) := by
  rw [iadrO_rows (by omega) (by omega)]; simp

/-- Rows are appended to what a call has made. -/
theorem Own.app {lo hi : Nat} {h : IH} {el sz b : Nat} {v : IV} {rs ys : List (List IV)} {K : HoldK} (ho : Own lo hi h el sz v rs) (hy : ys ≠ []) (hb : (rs.length + ys.length) * b ≤ 140737488355328)
    (hk : ∀ v' h', Own h.n (h.n + 1) h' el sz v' (rs ++ ys) → Turn v h h' → h'.n = h.n + 1 → v'.one = true → v'.cells = [v'] → K.k v' h') : @appA h el sz b v (some ys) K := by
  have hne : rs ++ ys ≠ [] := fun hx => hy (List.append_eq_nil_iff.1 hx).2
  rcases ho with ⟨rfl, rfl | rfl⟩ | ⟨l, h0, rfl, h1, h2, h3, h4⟩
  · exact appA_new hy (by simpa using hb) (hk _ _ (.inr ⟨h.n, hne, rfl, Nat.le_refl _, Nat.lt_succ_self _, Nat.le_refl _, push_new _ _⟩) (Turn.of_ext ((Ext.refl _).push _)) rfl rfl rfl)
  · exact appA_newe hy (by simpa using hb) (hk _ _ (.inr ⟨h.n, hne, rfl, Nat.le_refl _, Nat.lt_succ_self _, Nat.le_refl _, push_new _ _⟩) (Turn.of_ext ((Ext.refl _).push _)) rfl rfl rfl)
  · refine appA_own h4 rfl hy hb (hk _ _ (.inr ⟨h.n, hne, by simp, Nat.le_refl _, Nat.lt_succ_self _, Nat.le_refl _, push_new _ _⟩) ?_ rfl rfl rfl)
    exact ⟨Nat.le_succ _, fun m hm hv => by
      rw [push_old _ _ _ (by rw [set_n]; exact hm), set_there _ _ _ _ (fun e => hv ⟨0, rs.length, by rw [e]⟩)]⟩

/-! Values that are built. -/
theorem lay_nil (z : List IV) : lay z [] = some z := nr rfl
theorem lay_1 {z : List IV} {off : Nat} {v : IV} {r : List (Nat × Nat × IV)} (hv : v.one = true) (hl : off < z.length) : lay z ((off, 1, v) :: r) = lay (z.set off v) r := by
  have hc : v.cells = [v] := by cases v <;> first | rfl | cases hv
  rw [lay, hc, if_pos ⟨rfl, hl⟩, set_eq_take _ _ _ hl]
theorem lay_w {z cs : List IV} {n : Nat} {r : List (Nat × Nat × IV)} (h1 : cs.length = n) (h2 : z.length = n) : lay z ((0, n, .agg cs) :: r) = lay cs r := by
  have hc : (IV.agg cs).cells = cs := rfl
  rw [lay, hc, if_pos ⟨h1, by omega⟩, List.take_zero, List.nil_append, List.drop_eq_nil_of_le (by omega), List.append_nil]

theorem At.set {h : IH} {p q : Nat} {o o' : IObj} (a : At h q o) (hq : q ≠ p) : At (h.set p o') q o := ⟨a.lt, (set_there _ _ _ _ hq).trans a.eq⟩
theorem At.here {h : IH} {p : Nat} {o o' : IObj} (a : At h p o) : At (h.set p o') p o' := ⟨a.lt, set_here _ _ _⟩

theorem Ext.ext {a b c : IH} (h1 : Ext a b) (h2 : Ext b c) : Ext a c := h1.trans h2

end Go.IW
