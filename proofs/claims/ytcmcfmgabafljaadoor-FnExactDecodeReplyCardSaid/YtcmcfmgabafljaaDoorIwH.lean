/- append: in place or in a new block, the ideal tells no difference. -/
import Derived.Test.YtcmcfmgabafljaaDoorIwG
set_option linter.unusedVariables false
set_option linter.unusedSimpArgs false
namespace Go.IW
open Go.RowKit

section
variable {P : Program} {ρ : List RLoc} {B : Nat} {w : World} {h : IH}

/-- What is appended, whatever its source. -/
structure Src (P : Program) (w : World) (u : TypeId) (size m : Nat) (x : Value) (news : List Value) : Prop where
  ty : (∃ e', P.underlying u = some (.slice e')) ∨ P.underlying u = some .string
  len : ∀ w', (Builtin.lenOf x).run P w' = .ok m w'
  cells : (Builtin.firstCells size m x).run P w = .ok news.toArray w
  drew : (Builtin.firstCells size m x).run P w.drew = .ok news.toArray w.drew
  size : news.length = m * size

theorem app_zero (t u ty e : TypeId) (i : TypeInfo) (ht : P.underlying t = some (.slice e)) (hi : P.info? e = some i) {n c m : Nat} {b : Option Addr} {x : Value} {news : List Value}
    (hs : Src P w u i.size m x news) (hm : m = 0) (hc : n ≤ c) : (Builtin.append_ #[t, u] ty #[.slice b n c, x]).run P w = .ok (.slice b n c) w := by
  subst hm
  have hn : news = [] := List.eq_nil_of_length_eq_zero (by have := hs.size; simpa using this)
  subst hn
  have h1 := hs.cells
  rcases hs.ty with ⟨e', hd⟩ | hd <;> cases b <;> simp [Builtin.append_, run_underlying ht, run_underlying hd, sizeOf, typeInfo, hi, hs.len, h1, hc, storeCells]

theorem app_room (t u ty e : TypeId) (i : TypeInfo) (ht : P.underlying t = some (.slice e)) (hi : P.info? e = some i) {m : Nat} {x : Value} {news : List Value} (hs : Src P w u i.size m x news)
    (g sLen sCap : Nat) (cur : Array Value) (fz : Nat × Nat) (t' : TypeId) (hg : w.heap[g]? = some (.cells cur t' fz)) (hfz : ∀ j, j < cur.size → ¬ (fz.1 ≤ j ∧ j < fz.2)) (h1 : ∀ v ∈ news, v.oneCell' = true)
    (hroom : sLen + m ≤ sCap) (hfit : sLen * i.size + news.length ≤ cur.size) :
    (Builtin.append_ #[t, u] ty #[.slice (some ⟨g, 0, none⟩) sLen sCap, x]).run P w =
      .ok (.slice (some ⟨g, 0, none⟩) (sLen + m) sCap) (w.setRow g (cur.toList.take (sLen * i.size) ++ news ++ cur.toList.drop (sLen * i.size + news.length)).toArray) := by
  have hst := run_storeCells_fz (P := P) g (sLen * i.size) t' fz news 0 cur w hg hfz (by simpa using hfit) h1
  simp only [Nat.add_zero] at hst
  have h2 := hs.cells
  rcases hs.ty with ⟨e', hd⟩ | hd <;> simp [Builtin.append_, run_underlying ht, run_underlying hd, sizeOf, typeInfo, hi, hs.len, h2, hroom, addr_add, hst]

theorem app_grow (t u ty e : TypeId) (i : TypeInfo) (z : Value) (ht : P.underlying t = some (.slice e)) (hi : P.info? e = some i) (hz : i.zero = some z) {m : Nat} {x : Value} {news : List Value} (hs : Src P w u i.size m x news)
    (b : Option Addr) (sLen sCap : Nat) (olds : List Value) (hb : b = none → sLen = 0) (hlo : olds.length = sLen * i.size) (holds : ∀ a, b = some a → ∀ j v, olds[j]? = some v → w.cell? (a.add j) = some v)
    (hg : sCap < sLen + m) (h63 : ((sLen + m : Nat) : Int) ≤ 9223372036854775807) (hfit : Builtin.nextslicecap (sLen + m) sCap * i.bytes ≤ 281474976710656) :
    (Builtin.append_ #[t, u] ty #[.slice b sLen sCap, x]).run P w =
      .ok (.slice (some ⟨w.heap.size, 0, none⟩) (sLen + m) (grownCap w (sLen + m) sCap e))
        (w.drew.alloc (.cells (olds.toArray ++ news.toArray ++ Builtin.zeroCells z.cells (grownCap w (sLen + m) sCap e - (sLen + m))) e)) := by
  have hn : ¬ (sLen + m ≤ sCap) := by omega
  have h63' : ¬ (9223372036854775807 < ((sLen : Int) + (m : Int))) := by omega
  have h48' : ¬ (281474976710656 < Builtin.nextslicecap (sLen + m) sCap * i.bytes) := by omega
  have h2 := hs.drew
  have hfo : (Builtin.firstCells i.size sLen (.slice b sLen sCap)).run P w.drew = .ok olds.toArray w.drew := by
    cases b with
    | none =>
      have := hb rfl
      subst this
      have : olds = [] := List.eq_nil_of_length_eq_zero (by simpa using hlo)
      subst this
      simp [run_firstCells_none]
    | some a => exact run_firstCells_some (P := P) w.drew i.size sLen a sLen sCap olds hlo (by simpa using holds a rfl)
  have key : ∀ d, ((∃ e', d = TypeDesc.slice e') ∨ d = .string) → P.underlying u = some d → (Builtin.append_ #[t, u] ty #[.slice b sLen sCap, x]).run P w =
      .ok (.slice (some ⟨w.heap.size, 0, none⟩) (sLen + m) (grownCap w (sLen + m) sCap e))
        (w.drew.alloc (.cells (olds.toArray ++ news.toArray ++ Builtin.zeroCells z.cells (grownCap w (sLen + m) sCap e - (sLen + m))) e)) := by
    intro d hd0 hd
    rcases hd0 with ⟨e', rfl⟩ | rfl
    · simp [Builtin.append_, run_underlying ht, run_underlying hd, sizeOf, typeInfo, zeroValue, hi, hz, hs.len, hn, h63', h48', Question.forced, h2, hfo, newRow, grownCap]
      congr 2
      apply Array.ext'
      simp [List.append_assoc]
    · simp [Builtin.append_, run_underlying ht, run_underlying hd, sizeOf, typeInfo, zeroValue, hi, hz, hs.len, hn, h63', h48', Question.forced, h2, hfo, newRow, grownCap]
      congr 2
      apply Array.ext'
      simp [List.append_assoc]
  rcases hs.ty with ⟨e', hd⟩ | hd
  · exact key _ (.inl ⟨e', rfl⟩) hd
  · exact key _ (.inr rfl) hd

/-- Rows' cells in a list of values. -/
theorem rows_vals {c : Array Value} {sz : Nat} : ∀ (rs : List (List IV)) (at_ : Nat), (∀ (i : Nat) row, rs[i]? = some row → RowAt ρ c (at_ + i * sz) row) → (∀ row ∈ rs, row.length = sz) →
    ∃ vs : List Value, LRel ρ vs rs.flatten ∧ vs.length = rs.length * sz ∧ ∀ (j : Nat) u, vs[j]? = some u → c[at_ + j]? = some u
  | [], at_, _, _ => ⟨[], LRel.nil ρ, by simp, fun j u hu => by simp at hu⟩
  | row :: rs, at_, hc, he => by
    obtain ⟨vs, h1, h2, h3⟩ := rows_vals rs (at_ + sz) (fun i r hi => by
      have := hc (i + 1) r hi
      rwa [Nat.add_mul, Nat.one_mul, Nat.add_comm (i * sz), ← Nat.add_assoc] at this) (fun r hr => he r (List.mem_cons_of_mem _ hr))
    have h0 := hc 0 row rfl
    simp only [Nat.zero_mul, Nat.add_zero] at h0
    have hrow : ∃ us : List Value, LRel ρ us row ∧ ∀ (j : Nat) u, us[j]? = some u → c[at_ + j]? = some u := by
      clear hc he h1 h2 h3
      induction row generalizing at_ with
      | nil => exact ⟨[], LRel.nil ρ, fun j u hu => by simp at hu⟩
      | cons x row ih =>
        obtain ⟨v0, hv0, hr0⟩ := h0 0 x rfl
        obtain ⟨us, hu1, hu2⟩ := ih (at_ + 1) (fun k v hk => by
          have := h0 (k + 1) v hk
          rwa [Nat.add_assoc, Nat.add_comm 1 k])
        refine ⟨v0 :: us, LRel.cons hr0 hu1, fun j v hv => ?_⟩
        cases j with
        | zero => simp at hv; subst hv; simpa using hv0
        | succ j => simp at hv; have := hu2 j v hv; rwa [Nat.add_assoc, Nat.add_comm 1 j] at this
    obtain ⟨us, hu1, hu2⟩ := hrow
    have hul : us.length = sz := by rw [hu1.1]; exact he row (List.mem_cons_self)
    refine ⟨us ++ vs, by rw [List.flatten_cons]; exact hu1.append h1, by simp [hul, h2, Nat.add_mul]; omega, fun j u hu => ?_⟩
    rcases Nat.lt_or_ge j us.length with hj | hj
    · rw [List.getElem?_append_left hj] at hu; exact hu2 j u hu
    · rw [List.getElem?_append_right hj] at hu
      have := h3 _ u hu
      rwa [show at_ + sz + (j - us.length) = at_ + j by omega] at this

/-- And back: rows laid one behind the other. -/
theorem rowAt_flat {c : Array Value} {sz : Nat} : ∀ (rs : List (List IV)) (at_ : Nat) (vs : List Value), LRel ρ vs rs.flatten → (∀ row ∈ rs, row.length = sz) → (∀ (j : Nat) u, vs[j]? = some u → c[at_ + j]? = some u) →
    ∀ (i : Nat) row, rs[i]? = some row → RowAt ρ c (at_ + i * sz) row
  | [], _, _, _, _, _, i, row, h => by simp at h
  | r0 :: rs, at_, vs, hl, he, hc, i, row, hi => by
    rw [List.flatten_cons] at hl
    have h0 : r0.length = sz := he r0 (List.mem_cons_self)
    cases i with
    | zero =>
      simp at hi; subst hi
      intro k v hk
      have hk' : k < r0.length := (List.getElem?_eq_some_iff.1 hk).1
      obtain ⟨u, hu, hr⟩ := hl.of_get' (i := k) (v' := v) (by rw [List.getElem?_append_left hk']; exact hk)
      exact ⟨u, by simpa using hc k u hu, hr⟩
    | succ i =>
      simp at hi
      have hd : LRel ρ (vs.drop sz) rs.flatten := by
        have := hl.drop sz
        rwa [← h0, List.drop_left, h0] at this
      have := rowAt_flat rs (at_ + sz) (vs.drop sz) hd (fun r hr => he r (List.mem_cons_of_mem _ hr)) (fun j u hu => by
        rw [List.getElem?_drop] at hu
        have := hc _ u hu
        rwa [← Nat.add_assoc] at this) i row hi
      rwa [Nat.add_mul, Nat.one_mul, Nat.add_comm (i * sz), ← Nat.add_assoc]

/-- The rows of a slice. -/
def srcRows (h : IH) (sz : Nat) : IV → Option (List (List IV))
  | .nilslice | .eslice _ => some []
  | .slice l i n => match h.obj l with
    | .rows rs _ sz' _ => if sz' = sz ∧ i + n ≤ rs.length then some ((rs.drop i).take n) else none
    | _ => none
  | _ => none

structure RowsOk (sz : Nat) (rs : List (List IV)) : Prop where
  each : ∀ row ∈ rs, row.length = sz
  one : ∀ row ∈ rs, ∀ v ∈ row, v.one = true

theorem src_rows (hw : WRel ρ B w h) {sz : Nat} {x : Value} {x' : IV} {ys : List (List IV)} (hx : VRel ρ x x') (hs : srcRows h sz x' = some ys) :
    ∃ ad c news, x = .slice ad ys.length c ∧ ys.length ≤ c ∧ LRel ρ news ys.flatten ∧ news.length = ys.length * sz ∧ RowsOk sz ys ∧ (ad = none → ys = []) ∧ (∀ a, ad = some a → ∀ (j : Nat) u, news[j]? = some u → w.cell? (a.add j) = some u) := by
  cases hx <;> simp [srcRows] at hs
  · subst hs; exact ⟨none, 0, [], rfl, Nat.le_refl _, LRel.nil ρ, by simp, ⟨by simp, by simp⟩, fun _ => rfl, fun a ha => by cases ha⟩
  · subst hs; exact ⟨some _, _, [], rfl, Nat.zero_le _, LRel.nil ρ, by simp, ⟨by simp, by simp⟩, fun _ => rfl, fun a ha j u hu => by simp at hu⟩
  · rename_i l i n c r hr hn hc hm
    split at hs
    · rename_i rs e sz' ro ho
      split at hs
      · rename_i hcond
        obtain ⟨rfl, hin⟩ := hcond
        obtain rfl := Option.some.inj hs
        obtain ⟨cs, t, fz, hg, hrel⟩ := hw.rows hr ho
        have hlen : ((rs.drop i).take n).length = n := by simp; omega
        have hmem : ∀ row ∈ (rs.drop i).take n, row ∈ rs := fun row hrow => List.mem_of_mem_drop (List.mem_of_mem_take hrow)
        obtain ⟨vs, h1, h2, h3⟩ := rows_vals (ρ := ρ) (c := cs) (sz := sz') ((rs.drop i).take n) (r.base + i * sz') (fun j row hj => by
          rw [List.getElem?_take] at hj
          split at hj
          · rw [List.getElem?_drop] at hj
            have := hrel.cells (i + j) row hj
            rwa [Nat.add_mul, ← Nat.add_assoc] at this
          · cases hj) (fun row hrow => hrel.each row (hmem row hrow))
        refine ⟨_, c, vs, by rw [hlen], by rw [hlen]; exact hn, h1, h2, ⟨fun row hrow => hrel.each row (hmem row hrow), fun row hrow => hrel.one row (hmem row hrow)⟩, fun hh => (by cases hh), fun a ha j u hu => ?_⟩
        cases ha
        rw [addr_add, cell_of_row w _ _ _ _ _ hg, hrel.hsz]
        exact h3 j u hu
      · cases hs
    · cases hs

theorem src_slice (hw : WRel ρ B w h) {t el : TypeId} {i : TypeInfo} (ht : P.underlying t = some (.slice el)) {x : Value} {x' : IV} {ys : List (List IV)} (hx : VRel ρ x x') (hs : srcRows h i.size x' = some ys) :
    ∃ news, Src P w t i.size ys.length x news ∧ LRel ρ news ys.flatten ∧ RowsOk i.size ys := by
  obtain ⟨ad, c, news, rfl, hc, hl, hlen, hok, hnil, hcell⟩ := src_rows hw hx hs
  refine ⟨news, ⟨.inl ⟨_, ht⟩, fun w' => by simp [Builtin.lenOf], ?_, ?_, hlen⟩, hl, hok⟩
  · cases ad with
    | none =>
      have := hnil rfl; subst this
      have : news = [] := List.eq_nil_of_length_eq_zero (by simpa using hlen)
      subst this
      simp [run_firstCells_none]
    | some a => exact run_firstCells_some (P := P) w i.size _ a _ c news hlen (hcell a rfl)
  · cases ad with
    | none =>
      have := hnil rfl; subst this
      have : news = [] := List.eq_nil_of_length_eq_zero (by simpa using hlen)
      subst this
      simp [run_firstCells_none]
    | some a => exact run_firstCells_some (P := P) w.drew i.size _ a _ c news hlen (by simpa using hcell a rfl)

/-- A string's bytes as rows. -/
def strRows (s : List UInt8) : List (List IV) := s.map fun b => [.int .u8 b.toNat]
theorem strRows_ok (s : List UInt8) : RowsOk 1 (strRows s) := by
  refine ⟨fun row hr => ?_, fun row hr v hv => ?_⟩ <;> (simp [strRows] at hr; obtain ⟨b, _, rfl⟩ := hr)
  · rfl
  · simp at hv; subst hv; rfl
theorem strRows_flat (s : List UInt8) : (strRows s).flatten = s.map fun b => IV.int .u8 b.toNat := by
  induction s with
  | nil => rfl
  | cons b s ih => simp [strRows] at ih ⊢; exact ih
theorem strRows_rel (s : List UInt8) (ρ : List RLoc) : LRel ρ (s.map fun b => Value.int .u8 b.toNat) (strRows s).flatten := by
  rw [strRows_flat]
  refine ⟨by simp, fun i v v' a b => ?_⟩
  rw [List.getElem?_map, Option.map_eq_some_iff] at a b
  obtain ⟨x, hx, rfl⟩ := a
  obtain ⟨y, hy, rfl⟩ := b
  rw [hx] at hy; cases hy
  exact .int _ _

theorem src_string {t : TypeId} (ht : P.underlying t = some .string) {x : Value} {s : List UInt8} (hx : VRel ρ x (.str s)) :
    ∃ news, Src P w t 1 (strRows s).length x news ∧ LRel ρ news (strRows s).flatten := by
  generalize hs : IV.str s = s' at hx
  cases hx <;> cases hs
  rename_i s
  have hlen : (strRows s.data.toList).length = s.size := by simp only [strRows, List.length_map]; exact size_list s
  have hcells : ∀ w' : World, (Builtin.firstCells 1 s.size (.string s)).run P w' = .ok (s.data.toList.map fun b => Value.int .u8 b.toNat).toArray w' := by
    intro w'
    obtain ⟨⟨l⟩⟩ := s
    have h2 : (ByteArray.mk ⟨l⟩).extract 0 (ByteArray.mk ⟨l⟩).size = ByteArray.mk ⟨l⟩ := by
      have := ByteArray.extract_mk l 0 l.length
      simp only [List.drop_zero, Nat.sub_zero, List.take_length] at this
      exact this
    simp only [Builtin.firstCells, h2, Sem.run_pure]
    simp
  refine ⟨_, ⟨.inr ht, fun w' => ?_, ?_, ?_, ?_⟩, strRows_rel _ ρ⟩
  · rw [hlen]; rfl
  · rw [hlen]; exact hcells w
  · rw [hlen]; exact hcells w.drew
  · simp [strRows]

/-- append, over the ideal heap. -/
def appK (h : IH) (e sz bytes : Nat) (x : IV) (ys : List (List IV)) (K : IV → IH → Prop) : Prop :=
  match x with
  | .nilslice => if ys = [] then K .nilslice h else ys.length * bytes ≤ 140737488355328 ∧ K (.slice h.n 0 ys.length) (h.push (.rows ys e sz false))
  | .eslice z => if ys = [] then K (.eslice z) h else z = true ∧ ys.length * bytes ≤ 140737488355328 ∧ K (.slice h.n 0 ys.length) (h.push (.rows ys e sz false))
  | .slice l i n => if ys = [] then K (.slice l i n) h else
    match h.obj l with
    | .rows rs e' sz' false => i = 0 ∧ e' = e ∧ sz' = sz ∧ rs.length = n ∧ (n + ys.length) * bytes ≤ 140737488355328 ∧
      K (.slice h.n 0 (n + ys.length)) ((h.set l .dead).push (.rows (rs ++ ys) e sz false))
    | _ => False
  | _ => False

theorem flatten_one {sz : Nat} {ys : List (List IV)} (hok : RowsOk sz ys) : ∀ v ∈ ys.flatten, v.one = true := by
  intro v hv
  obtain ⟨row, h1, h2⟩ := List.mem_flatten.1 hv
  exact hok.one row h1 v h2

theorem LRel.ones {l : List Value} {l' : List IV} (hl : LRel ρ l l') (h1 : ∀ v ∈ l', v.one = true) : ∀ v ∈ l, v.oneCell' = true := by
  intro v hv
  obtain ⟨i, hi⟩ := List.getElem?_of_mem hv
  obtain ⟨v', h2, h3⟩ := hl.of_get hi
  exact h3.one (h1 v' (mem_of_get h2))

theorem app_out (hw : WRel ρ B w h) {t u ty e : TypeId} {i : TypeInfo} {z : Value} (ht : P.underlying t = some (.slice e)) (hi : P.info? e = some i) (hz : i.zero = some z) (hzs : z.cells.size = i.size) (hpos : 0 < i.bytes)
    {x y : Value} {x' : IV} {ys : List (List IV)} {news : List Value} (hx : VRel ρ x x') (hs : Src P w u i.size ys.length y news) (hl : LRel ρ news ys.flatten) (hok : RowsOk i.size ys) {K : IV → IH → Prop}
    (hk : appK h e i.size i.bytes x' ys K) : ∃ v' w', (Builtin.append_ #[t, u] ty #[x, y]).run P w = .ok v' w' ∧ Out ρ B w K v' w' := by
  have out0 : ∀ {v' : Value} {v : IV}, VRel ρ v' v → K v h → Out ρ B w K v' w := fun h1 h2 => ⟨ρ, _, h, List.prefix_refl _, hw, h1, Below.refl _ _, h2⟩
  -- a new block, behind what was there before
  have fresh : ∀ (b : Option Addr) (sLen sCap : Nat) (rs : List (List IV)) (olds : List Value) (h1 : IH), WRel ρ B w h1 → (b = none → sLen = 0) → rs.length = sLen → RowsOk i.size rs → LRel ρ olds rs.flatten → olds.length = sLen * i.size →
      (∀ a, b = some a → ∀ j v, olds[j]? = some v → w.cell? (a.add j) = some v) → sCap < sLen + ys.length → (sLen + ys.length) * i.bytes ≤ 140737488355328 → K (.slice h1.n 0 (sLen + ys.length)) (h1.push (.rows (rs ++ ys) e i.size false)) →
      ∃ v' w', (Builtin.append_ #[t, u] ty #[.slice b sLen sCap, y]).run P w = .ok v' w' ∧ Out ρ B w K v' w' := by
    intro b sLen sCap rs olds h1 hw1 hb hrs hrok hol hlo holds hgt hby hk
    have h63 : sLen + ys.length ≤ 140737488355328 := Nat.le_trans (Nat.le_mul_of_pos_right _ hpos) hby
    have hrun := app_grow t u ty e i z ht hi hz hs b sLen sCap olds hb hlo holds hgt (by omega) (growslice_fits hgt hby)
    refine ⟨_, _, hrun, ?_⟩
    have hge := grownCap_ge w (sLen + ys.length) sCap e
    have hcm : grownCap w (sLen + ys.length) sCap e ≤ maxLen := grownCap_le_maxLen w (sLen + ys.length) sCap e (by simp only [maxLen]; omega)
    generalize grownCap w (sLen + ys.length) sCap e = cap at hge hcm
    have hw2 : WRel ρ B w.drew h1 := hw1.same rfl
    have hall : LRel ρ (olds ++ news) (rs ++ ys).flatten := by rw [List.flatten_append]; exact hol.append hl
    have hnl := hs.size
    obtain ⟨g1, g2⟩ := new_rows hw2 (olds.toArray ++ news.toArray ++ Builtin.zeroCells z.cells (cap - (sLen + ys.length))) e i.size cap (0, 0) (rs ++ ys)
      (by simp only [Array.size_append, List.size_toArray, size_zeroCells, hzs, hlo, hnl, ← Nat.add_mul]; congr 1; omega)
      (by simp only [List.length_append, hrs]; exact hge)
      (fun row hr => by rcases List.mem_append.1 hr with h | h; exact hrok.each row h; exact hok.each row h)
      (fun row hr => by rcases List.mem_append.1 hr with h | h; exact hrok.one row h; exact hok.one row h)
      (by
        have := rowAt_flat (c := olds.toArray ++ news.toArray ++ Builtin.zeroCells z.cells (cap - (sLen + ys.length))) (rs ++ ys) 0 (olds ++ news) hall
          (fun row hr => by rcases List.mem_append.1 hr with h | h; exact hrok.each row h; exact hok.each row h)
          (fun j u hu => by
            rw [Nat.zero_add]
            have hj := (List.getElem?_eq_some_iff.1 hu).1
            rw [Array.getElem?_append_left (by simpa using hj)]
            have e1 : (olds.toArray ++ news.toArray) = (olds ++ news).toArray := by simp
            rw [e1]; simpa using hu)
        intro j row hj
        have := this j row hj
        rwa [Nat.zero_add] at this)
      hcm (by simp)
    refine ⟨_, _, _, List.prefix_append _ _, g1, ?_, (Below.refl B w).drew.trans g2, hk⟩
    have hlast := getlast_new ρ ⟨w.heap.size, 0, i.size, cap⟩ h1 hw1.len
    have := VRel.slice (i := 0) (n := sLen + ys.length) (c := cap) hlast hge (by simp) hcm
    simpa using this
  have hsz0 : ys = [] → ys.length = 0 := fun e => by rw [e]; rfl
  unfold appK at hk
  split at hk
  · cases hx
    split at hk
    · rename_i hys
      exact ⟨_, _, app_zero t u ty e i ht hi hs (hsz0 hys) (Nat.le_refl _), out0 .nilslice hk⟩
    · rename_i hys
      have hp : 0 < ys.length := List.length_pos_iff.2 hys
      exact fresh none 0 0 [] [] h hw (fun _ => rfl) rfl ⟨by simp, by simp⟩ (LRel.nil ρ) (by simp) (fun a ha => by cases ha) (by omega) (by simpa using hk.1) (by simpa using hk.2)
  · rename_i zf
    cases hx with
    | @eslice a c z' hzc hc =>
      split at hk
      · rename_i hys
        exact ⟨_, _, app_zero t u ty e i ht hi hs (hsz0 hys) (Nat.zero_le _), out0 (.eslice hzc hc) hk⟩
      · rename_i hys
        have hp : 0 < ys.length := List.length_pos_iff.2 hys
        obtain ⟨k1, k2, k3⟩ := hk
        have hc0 := hzc k1
        subst hc0
        exact fresh (some a) 0 0 [] [] h hw (fun h => by cases h) rfl ⟨by simp, by simp⟩ (LRel.nil ρ) (by simp) (fun a ha j v hv => by simp at hv) (by omega) (by simpa using k2) (by simpa using k3)
  · rename_i l j n
    cases hx with
    | @slice l j n c r hr hn hc hm =>
      split at hk
      · rename_i hys
        exact ⟨_, _, app_zero t u ty e i ht hi hs (hsz0 hys) hn, out0 (.slice hr hn hc hm) hk⟩
      · rename_i hys
        have hp : 0 < ys.length := List.length_pos_iff.2 hys
        split at hk
        · rename_i rs e' sz' ho
          obtain ⟨rfl, rfl, rfl, hrl, hby, hk⟩ := hk
          obtain ⟨cs, t', fz, hg, hrel⟩ := hw.rows hr ho
          obtain ⟨hb, hB, hfz, ht', hcap, hcs⟩ := hrel.own rfl
          have hcells := hrel.cells
          rw [hb] at hcells
          obtain ⟨olds, ho1, ho2, ho3⟩ := rows_vals (ρ := ρ) (c := cs) (sz := i.size) rs 0 hcells hrel.each
          have hrok : RowsOk i.size rs := ⟨hrel.each, hrel.one⟩
          rw [hb, Nat.zero_mul, Nat.add_zero]
          by_cases hroom : n + ys.length ≤ c
          · -- in place
            have hnl := hs.size
            have hfit : n * i.size + news.length ≤ cs.size := by
              rw [hnl, ← Nat.add_mul, hcs]; exact Nat.mul_le_mul_right _ (by omega)
            have hrun := app_room t u ty e' i ht hi hs r.block n c cs fz t' hg hfz (hl.ones (flatten_one hok)) hroom hfit
            refine ⟨_, _, hrun, ?_⟩
            generalize hcur : (cs.toList.take (n * i.size) ++ news ++ cs.toList.drop (n * i.size + news.length)).toArray = cur
            have hsz : cur.size = r.cap * i.size := by rw [← hcur]; simp; omega
            have hall : LRel ρ (olds ++ news) (rs ++ ys).flatten := by rw [List.flatten_append]; exact ho1.append hl
            have hw2 := hw.rename (w' := w.setRow r.block cur) (o := .rows (rs ++ ys) e' i.size false) hr (by rw [ho]; rfl) (fun k hk => setRow_get w _ _ _ hk) (by simp)
              (by
                refine ⟨cur, t', fz, setRow_heap w _ _ _ _ _ hg, hrel.hsz, by rw [hb]; simp [hsz], by simp; omega, ?_, ?_, ?_, fun _ => ⟨hb, hB, by rw [hsz, ← hcs]; exact hfz, ht', hcap, hsz⟩⟩
                · intro row hrow
                  rcases List.mem_append.1 hrow with h | h
                  · exact hrel.each row h
                  · exact hok.each row h
                · intro row hrow
                  rcases List.mem_append.1 hrow with h | h
                  · exact hrel.one row h
                  · exact hok.one row h
                · intro q row hq
                  rw [hb]
                  refine (rowAt_flat (c := cur) (rs ++ ys) 0 (olds ++ news) hall ?_ ?_ q row hq).mono (List.prefix_append _ _)
                  · intro row hrow
                    rcases List.mem_append.1 hrow with h | h
                    · exact hrel.each row h
                    · exact hok.each row h
                  · intro m v hv
                    rw [Nat.zero_add, ← hcur, List.getElem?_toArray]
                    have ho2' : olds.length = n * i.size := by rw [ho2, hrl]
                    simp only [List.getElem?_append, List.length_append, List.length_take, Array.length_toList, List.getElem?_take] at hv ⊢
                    have e1 : min (n * i.size) cs.size = n * i.size := by omega
                    rw [e1]
                    by_cases hm1 : m < olds.length
                    · rw [if_pos hm1] at hv
                      rw [if_pos (by omega), if_pos (by omega), if_pos (by omega)]
                      have := ho3 m v hv
                      rw [Nat.zero_add] at this
                      simpa using this
                    · rw [if_neg hm1] at hv
                      have hm2 := (List.getElem?_eq_some_iff.1 hv).1
                      rw [if_pos (by omega), if_neg (by omega), ← ho2']
                      exact hv)
            refine ⟨_, _, _, List.prefix_append _ _, hw2, ?_, ⟨rfl, rfl, rfl, by simp, fun k hk => setRow_get w _ _ _ (by omega)⟩, hk⟩
            have hlast := getlast_new ρ r h hw.len
            have := VRel.slice (i := 0) (n := n + ys.length) (c := c) hlast hroom (by omega) hm
            simpa [hb] using this
          · -- a new block
            have hkw := hw.kill l
            refine fresh (some ⟨r.block, 0, none⟩) n c rs olds _ hkw (fun h => by cases h) hrl hrok ho1 (by rw [ho2, hrl]) (fun a ha j v hv => ?_) (by omega) hby hk
            cases ha
            rw [addr_add, cell_of_row w _ _ _ _ _ hg]
            exact ho3 j v hv
        · cases hk
  · cases hk

end
end Go.IW
