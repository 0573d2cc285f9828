/- Functions that the machine does by itself. -/
import Derived.Test.YtcmcfmgabafljaaDoorIwU
import Derived.Laws.Externs
import Derived.Lib.Bytealg
import Derived.Laws.BitsLemmas
set_option linter.unusedSimpArgs false
set_option linter.unusedVariables false
namespace Go.IW
open Go.RowKit

theorem ext_calls {P : Program} {f : Nat} {fn : Func} {en : Array Value → Sem Value} (hf : P.funcs[f]? = some fn) (hname : (fn.name == "runtime.NumGoroutine") = false) (hb : fn.body.isNone = true) (hn : Extern.findNext fn = none) (he : Extern.find fn = some en)
    {args : List IV} {h : IH} {v : IV} (hr : ∀ (ρ : List RLoc) (args' : Array Value) (w : World), LRel ρ args'.toList args → ∃ v', (en args').run P w = .ok v' w ∧ VRel ρ v' v) : ICalls P f args h fun r h' => r = v ∧ h' = h := by
  intro ρ B w args' hw ha
  obtain ⟨v', h1, h2⟩ := hr ρ args' w ha
  rw [run_callFunc_extern hf hname hb hn he, h1]
  exact ⟨ρ, v, h, List.prefix_refl _, hw, h2, Below.refl B w, rfl, rfl⟩

theorem args2 {ρ : List RLoc} {args' : Array Value} {a b : IV} (h : LRel ρ args'.toList [a, b]) : ∃ x y, args' = #[x, y] ∧ VRel ρ x a ∧ VRel ρ y b := by
  have hl := h.1
  match args', hl with
  | ⟨[x, y]⟩, _ => exact ⟨x, y, rfl, h.head, h.tail.head⟩

theorem str_rel {ρ : List RLoc} {x : Value} {s : List UInt8} (h : VRel ρ x (.str s)) : ∃ b : ByteArray, x = .string b ∧ b.data.toList = s := by
  generalize hv : IV.str s = v at h
  cases h <;> cases hv
  exact ⟨_, rfl, rfl⟩

/-- The place of a byte in a string. -/
theorem idxByte_calls {P : Program} {f : Nat} {fn : Func} (hf : P.funcs[f]? = some fn) (hname : (fn.name == "runtime.NumGoroutine") = false) (hb : fn.body.isNone = true) (hn : Extern.findNext fn = none) (he : Extern.find fn = some Extern.BytealgIndexByte.indexByte)
    (h : IH) (s : List UInt8) (c : Int) : ICalls P f [.str s, .int .u8 c] h fun r h' => r = .int .i64 (Lib.indexByte s c.toNat.toUInt8) ∧ h' = h := by
  refine ext_calls hf hname hb hn he fun ρ args' w ha => ?_
  obtain ⟨x, y, rfl, hx, hy⟩ := args2 ha
  obtain ⟨b, rfl, rfl⟩ := str_rel hx
  cases hy
  exact ⟨_, Lib.run_indexByteString b c w, .int _ _⟩
/-- How often a byte stands in a string. -/
theorem cntByte_calls {P : Program} {f : Nat} {fn : Func} (hf : P.funcs[f]? = some fn) (hname : (fn.name == "runtime.NumGoroutine") = false) (hb : fn.body.isNone = true) (hn : Extern.findNext fn = none) (he : Extern.find fn = some Extern.BytealgCount.count)
    (h : IH) (s : List UInt8) (c : Int) : ICalls P f [.str s, .int .u8 c] h fun r h' => r = .int .i64 (Lib.countByte s c.toNat.toUInt8) ∧ h' = h := by
  refine ext_calls hf hname hb hn he fun ρ args' w ha => ?_
  obtain ⟨x, y, rfl, hx, hy⟩ := args2 ha
  obtain ⟨b, rfl, rfl⟩ := str_rel hx
  cases hy
  exact ⟨_, Lib.run_countString b c w, .int _ _⟩

/-! Texts cut at a byte. -/
/-- The parts of a text between the bytes of one value. -/
def cutAt (c : UInt8) : List UInt8 → List (List UInt8)
  | [] => [[]]
  | b :: r => if b == c then [] :: cutAt c r else match cutAt c r with
    | [] => [[b]]
    | p :: ps => (b :: p) :: ps
theorem cutAt_ne (c : UInt8) : ∀ l, cutAt c l ≠ []
  | [] => by simp [cutAt]
  | b :: r => by
    simp only [cutAt]
    split
    · simp
    · split <;> simp
theorem cutAt_len (c : UInt8) : ∀ l, (cutAt c l).length = l.count c + 1
  | [] => by simp [cutAt]
  | b :: r => by
    have i := cutAt_len c r
    simp only [cutAt, List.count_cons]
    split
    · simp [i]
    · split
      · rename_i h; exact absurd h (cutAt_ne c r)
      · rename_i p ps h; rw [h] at i; simpa using i
/-- No such byte: one part. -/
theorem cutAt_none (c : UInt8) : ∀ {l : List UInt8}, Lib.indexByte l c = -1 → cutAt c l = [l]
  | [], _ => rfl
  | b :: r, h => by
    have hge := Lib.indexByte_ge r c
    simp only [Lib.indexByte] at h
    split at h
    · simp at h
    · rename_i hb
      split at h
      · rename_i h1
        simp only [cutAt, hb, cutAt_none c (l := r) (by simpa using h1)]
        simp
      · omega
/-- The first such byte: the part ahead of it, and what is cut behind it. -/
theorem cutAt_some (c : UInt8) : ∀ {l : List UInt8} {m : Nat}, Lib.indexByte l c = m → m < l.length ∧ cutAt c l = l.take m :: cutAt c (l.drop (m + 1)) ∧ l.count c = (l.drop (m + 1)).count c + 1
  | [], m, h => by simp [Lib.indexByte] at h
  | b :: r, m, h => by
    have hge := Lib.indexByte_ge r c
    simp only [Lib.indexByte] at h
    split at h
    · rename_i hb
      have : m = 0 := by omega
      subst this
      have hb' : b = c := by simpa using hb
      subst hb'
      simp [cutAt]
    · rename_i hb
      split at h
      · omega
      · rename_i h1
        have h2 : Lib.indexByte r c ≠ -1 := by simpa using h1
        have hm : m = (m - 1) + 1 := by omega
        obtain ⟨i1, i2, i3⟩ := cutAt_some c (l := r) (m := m - 1) (by omega)
        rw [hm]
        refine ⟨by simp; omega, ?_, ?_⟩
        · simp only [cutAt, hb, i2, List.take_succ_cons, List.drop_succ_cons]; simp
        · have hb2 : ¬ (b == c) = true := hb
          rw [List.drop_succ_cons, List.count_cons, if_neg hb2, i3, Nat.add_zero]

/-- Cut from the front, byte by byte: what has been cut, and the part that is open. -/
theorem cutAt_snoc (c : UInt8) : ∀ (l : List UInt8) (out : List (List UInt8)) (cur : List UInt8) (b : UInt8), cutAt c l = out ++ [cur] → cutAt c (l ++ [b]) = if b == c then out ++ [cur, []] else out ++ [cur ++ [b]]
  | [], out, cur, b, h => by
    have : out = [] ∧ cur = [] := by
      cases out with
      | nil => simp [cutAt] at h; exact ⟨rfl, h⟩
      | cons x xs => simp [cutAt] at h
    obtain ⟨rfl, rfl⟩ := this
    by_cases hb : (b == c) = true <;> simp [cutAt, hb]
  | a :: r, out, cur, b, h => by
    have hne := cutAt_ne c r
    simp only [List.cons_append, cutAt] at h ⊢
    by_cases ha : (a == c) = true
    · rw [if_pos ha] at h ⊢
      cases out with
      | nil => simp at h; exact absurd h.2 hne
      | cons x xs =>
        simp at h
        obtain ⟨rfl, h⟩ := h
        rw [cutAt_snoc c r xs cur b h]
        by_cases hb : (b == c) = true <;> simp [hb]
    · rw [if_neg ha] at h ⊢
      cases hr : cutAt c r with
      | nil => exact absurd hr hne
      | cons p ps =>
        rw [hr] at h
        simp only at h
        cases out with
        | nil =>
          simp at h
          obtain ⟨rfl, rfl⟩ := h
          rw [cutAt_snoc c r [] p b hr]
          by_cases hb : (b == c) = true <;> simp [hb]
        | cons x xs =>
          simp at h
          obtain ⟨rfl, rfl⟩ := h
          rw [cutAt_snoc c r (p :: xs) cur b hr]
          by_cases hb : (b == c) = true <;> simp [hb]

/-! Slices of two cells. -/
theorem cells_one {v : IV} (hv : v.one = true) : v.cells = [v] := by cases v <;> first | rfl | cases hv
theorem bslA_2 {h : IH} {el : Nat} {z a b : IV} {K : HoldK} (ha : a.one = true) (hb : b.one = true) : @bslA el 1 [z] 2 [(0, a), (1, b)] h K = K.k (.slice h.n 0 2) (h.push (.rows [[a], [b]] el 1 false)) := by
  unfold bslA
  simp [layR, cells_one ha, cells_one hb, ha, hb]
theorem bslA_3 {h : IH} {el : Nat} {z a b c : IV} {K : HoldK} (ha : a.one = true) (hb : b.one = true) (hc : c.one = true) : @bslA el 1 [z] 3 [(0, a), (1, b), (2, c)] h K = K.k (.slice h.n 0 3) (h.push (.rows [[a], [b], [c]] el 1 false)) := by
  unfold bslA
  simp [layR, cells_one ha, cells_one hb, cells_one hc, ha, hb, hc]
theorem srcO_2 (a b : List IV) (e sz : Nat) (ro : Bool) : srcO (.rows [a, b] e sz ro) sz 0 2 = some [a, b] := by simp [srcO]
theorem srcO_3 (a b c : List IV) (e sz : Nat) (ro : Bool) : srcO (.rows [a, b, c] e sz ro) sz 0 3 = some [a, b, c] := by simp [srcO]
theorem s2bA_some {h : IH} {el : Nat} {s : List UInt8} {K : HoldK} (h0 : s ≠ []) (hl : s.length ≤ 9223372036854775807) : @s2bA el (.str s) h K = K.k (.slice h.n 0 s.length) (h.push (.rows (strRows s) el 1 false)) := by
  unfold s2bA
  simp [h0, hl]
theorem s2bA_nil {h : IH} {el : Nat} {K : HoldK} : @s2bA el (.str []) h K = K.k (.eslice false) h := by
  unfold s2bA
  simp

/-! Parts of slices. -/
theorem SlR.part {h : IH} {sz : Nat} {v : IV} {rs : List (List IV)} (hs : SlR h sz v rs) {a b : Nat} (hab : a ≤ b) (hb : b ≤ rs.length) : ∃ v', islc h sz v a b none = some v' ∧ SlR h sz v' ((rs.take b).drop a) := by
  have h1 := hs.src
  have h2 := hs.len
  cases v with
  | slice l i n =>
    obtain ⟨rs0, e, ro, ho, hc, rfl⟩ := srcRows_live h1
    simp [ilen] at h2
    have hn : b ≤ n := by simp at hb; omega
    have hsz : h.size l = some sz := by rw [size_eq, ho]; rfl
    by_cases hlt : a < b
    · refine ⟨_, islc_some h hlt hn hsz, ?_, ?_, fun l' i' n' hv => by cases hv; exact hs.lt _ _ _ rfl⟩
      · rw [src_sl, ho]
        have : i + a + (b - a) ≤ rs0.length := by omega
        simp only [srcO, true_and, this, if_true]
        congr 1
        rw [List.take_take, List.drop_take, List.drop_drop, show min b n = b by omega]
      · simp [ilen]; omega
    · obtain rfl : a = b := by omega
      refine ⟨_, islc_none h hn hsz, ?_⟩
      have : (List.take a (List.take n (List.drop i rs0))).drop a = [] := List.drop_eq_nil_of_le (by simp; omega)
      rw [this]
      exact SlR.empty _ _ _
  | nilslice =>
    simp [srcRows] at h1; subst h1
    have hb0 : b = 0 := by simpa using hb
    obtain rfl : a = 0 := by omega
    subst hb0
    exact ⟨.nilslice, by simp [islc], by simpa using SlR.nil h sz⟩
  | eslice z =>
    simp [srcRows] at h1; subst h1
    have hb0 : b = 0 := by simpa using hb
    obtain rfl : a = 0 := by omega
    subst hb0
    exact ⟨.eslice z, by simp [islc], by simpa using SlR.empty h sz z⟩
  | _ => simp [ilen] at h2
theorem SlR.lo {h : IH} {sz : Nat} {v : IV} {rs : List (List IV)} (hs : SlR h sz v rs) {a : Nat} {q : IntKind} (ha : a ≤ rs.length) : ∃ v', slcF h sz v (some (.int q (a : Int))) none = some v' ∧ SlR h sz v' (rs.drop a) := by
  obtain ⟨v', h1, h2⟩ := hs.part ha (Nat.le_refl _)
  rw [List.take_length] at h2
  refine ⟨v', ?_, h2⟩
  rw [slcF_of h hs.len rfl (boundF_of (by omega) (by omega))]
  simpa using h1
theorem SlR.hi {h : IH} {sz : Nat} {v : IV} {rs : List (List IV)} (hs : SlR h sz v rs) {b : Nat} {q : IntKind} (hb : b ≤ rs.length) : ∃ v', slcF h sz v none (some (.int q (b : Int))) = some v' ∧ SlR h sz v' (rs.take b) := by
  obtain ⟨v', h1, h2⟩ := hs.part (Nat.zero_le b) hb
  rw [List.drop_zero] at h2
  refine ⟨v', ?_, h2⟩
  rw [slcF_of h hs.len (boundF_of (by omega) (by omega)) rfl]
  simpa using h1
theorem SlR.lohi {h : IH} {sz : Nat} {v : IV} {rs : List (List IV)} (hs : SlR h sz v rs) {a b : Nat} {q q' : IntKind} (hab : a ≤ b) (hb : b ≤ rs.length) : ∃ v', slcF h sz v (some (.int q (a : Int))) (some (.int q' (b : Int))) = some v' ∧ SlR h sz v' ((rs.take b).drop a) := by
  obtain ⟨v', h1, h2⟩ := hs.part hab hb
  refine ⟨v', ?_, h2⟩
  rw [slcF_of h hs.len (boundF_of (by omega) (by omega)) (boundF_of (by omega) (by simp; omega))]
  simpa using h1
theorem bytesOf_strRows : ∀ s : List UInt8, bytesOf (strRows s) = some s
  | [] => rfl
  | b :: r => by
    have i := bytesOf_strRows r
    have : strRows (b :: r) = [.int .u8 b.toNat] :: strRows r := rfl
    rw [this, bytesOf, i]
    simp
theorem SlR.b2s {h : IH} {v : IV} {s : List UInt8} (hs : SlR h 1 v (strRows s)) : b2sF h v = some (.str s) := by
  have h1 := hs.src
  cases v with
  | slice l i n =>
    obtain ⟨rs0, e, ro, ho, hc, hr⟩ := srcRows_live h1
    rw [b2sF_slice, ho, b2sO_rows, if_pos hc, ← hr, bytesOf_strRows]; rfl
  | nilslice => simp [srcRows, strRows] at h1; subst h1; rfl
  | eslice z => simp [srcRows, strRows] at h1; subst h1; rfl
  | _ => simp [srcRows] at h1

/-- All but an object and what v names is as before. -/
structure But (b : Nat) (v : IV) (h h' : IH) : Prop where
  le : h.n ≤ h'.n
  obj : ∀ m, m < h.n → m ≠ b → ¬ v.at_ m → h'.obj m = h.obj m
theorem But.refl (b : Nat) (v : IV) (h : IH) : But b v h h := ⟨Nat.le_refl _, fun _ _ _ _ => rfl⟩
theorem nil_at (m : Nat) : ¬ IV.at_ .nilslice m := by rintro ⟨i, n, h⟩; cases h
theorem But.trans {p : Nat} {v : IV} {a b c : IH} (h1 : But p v a b) (h2 : But p v b c) : But p v a c :=
  ⟨Nat.le_trans h1.le h2.le, fun m hm hp hv => (h2.obj m (Nat.lt_of_lt_of_le hm h1.le) hp hv).trans (h1.obj m hm hp hv)⟩
theorem But.of_ext {p : Nat} {v : IV} {a b : IH} (e : Ext a b) : But p v a b := ⟨e.le, fun m hm _ _ => e.obj m hm⟩
theorem But.set {p : Nat} {v : IV} {a b : IH} (h1 : But p v a b) (o : IObj) : But p v a (b.set p o) :=
  ⟨h1.le, fun m hm hp hv => (set_there _ _ _ _ hp).trans (h1.obj m hm hp hv)⟩
/-- Above a number: what a call has made. -/
theorem But.ext0 {a b c : IH} {p : Nat} (t : But p .nilslice b c) (e : Ext a b) (hp : a.n ≤ p) : Ext a c :=
  ⟨Nat.le_trans e.le t.le, fun l hl => (t.obj l (Nat.lt_of_lt_of_le hl e.le) (by omega) (nil_at l)).trans (e.obj l hl)⟩
theorem But.at0 {b c : IH} {p q : Nat} {o : IObj} (t : But p .nilslice b c) (a : At b q o) (hp : q ≠ p) : At c q o :=
  ⟨Nat.lt_of_lt_of_le a.lt t.le, (t.obj q a.lt hp (nil_at q)).trans a.eq⟩
theorem SlR.but {h h' : IH} {sz sz2 e p : Nat} {q : List (List IV)} {ro : Bool} {v : IV} {rs : List (List IV)} (hs : SlR h sz v rs) (t : But p .nilslice h h') (hp : h.obj p = .rows q e sz2 ro) (hne : sz ≠ sz2) : SlR h' sz v rs := by
  have h1 := hs.src
  refine ⟨?_, hs.len, fun l i n hv => Nat.lt_of_lt_of_le (hs.lt l i n hv) t.le⟩
  cases v with
  | slice l i n =>
    have hl := hs.lt l i n rfl
    have hlp : l ≠ p := by
      rintro rfl
      simp only [srcRows, hp] at h1
      split at h1
      · rename_i hc; exact hne hc.1.symm
      · cases h1
    have := t.obj l hl hlp (nil_at l)
    simp only [srcRows, this] at h1 ⊢
    exact h1
  | nilslice => exact h1
  | eslice z => exact h1
  | _ => simp [srcRows] at h1

/-! Numbers of bytes. -/
def numB (bs : List UInt8) : Int := bs.foldl (fun n b => n * 256 + b.toNat) 0
theorem numB_snoc (a : List UInt8) (b : UInt8) : numB (a ++ [b]) = numB a * 256 + b.toNat := by simp [numB]
theorem numB_bound : ∀ (n : Nat) (a : List UInt8), a.length ≤ n → 0 ≤ numB a ∧ numB a < 256 ^ n
  | 0, a, h => by
    have : a = [] := List.length_eq_zero_iff.1 (by omega)
    subst this; simp [numB]
  | n + 1, a, h => by
    by_cases ha : a = []
    · subst ha
      refine ⟨by simp [numB], ?_⟩
      have : (0 : Int) < 256 ^ (n + 1) := Int.pow_pos (by omega)
      simpa [numB] using this
    · have e := List.dropLast_concat_getLast ha
      have i := numB_bound n a.dropLast (by simp; omega)
      have hb : ((a.getLast ha).toNat : Int) < 256 := by have := (a.getLast ha).toNat_lt; omega
      rw [← e, numB_snoc]
      refine ⟨by omega, ?_⟩
      rw [Int.pow_succ]
      omega
theorem or_join {x c : Int} (h0 : 0 ≤ x) (h1 : x < 36028797018963968) (c0 : 0 ≤ c) (c1 : c < 256) : bits .or .i64 (x * 256) c = x * 256 + c := by
  refine bits_join .i64 63 (by decide) (fun n hn0 hn1 => by rw [IntKind.wrap_i64]; omega) 8 (x * 256) c (by omega) (by omega) (by omega) c0 (by omega) (by omega)

end Go.IW
