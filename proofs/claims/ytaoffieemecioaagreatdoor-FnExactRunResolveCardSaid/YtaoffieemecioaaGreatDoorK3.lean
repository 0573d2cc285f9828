import Derived.Test.YtaoffieemecioaaGreatDoorK2
import Derived.SizedLaws
import Derived.OpenShut
import Derived.Carry
import Derived.ChangeAnyMap
import Derived.Lib.AppendIntMem
import Derived.Lib.ItoaLen
import Derived.Lib.Join
import Derived.Lib.HexFns
import Derived.Lib.IndexMore
import Derived.Lib.Bytes
import Derived.WalkSmall
import Derived.Shelf.Vars
set_option linter.unusedSimpArgs false
set_option linter.unusedVariables false
namespace Go.IW
open Go.RowKit

inductive Sh where
  | nil
  | bool
  | int (k : IntKind)
  | str
  | slice (e : Sh)
  | cat (a b : Sh)

def Sh.sz : Sh → Nat
  | .nil => 0
  | .cat a b => a.sz + b.sz
  | _ => 1

def shFields (P : Program) (g : TypeId → Option Sh) (t : TypeId) : List Field → Nat → Option Sh
  | [], n => if n = P.cellsOf t then some .nil else none
  | f :: r, n =>
    if f.offset = n then
      match g f.type with
      | some s => if s.sz = P.cellsOf f.type then (shFields P g t r (n + s.sz)).map (Sh.cat s) else none
      | none => none
    else none

def shOf (P : Program) : Nat → TypeId → Option Sh
  | 0, _ => none
  | n + 1, t =>
    match P.underlying t with
    | some .bool => some .bool
    | some (.int k) => some (.int k)
    | some .string => some .str
    | some (.slice e) => match shOf P n e with
      | some s => if s.sz = P.cellsOf e ∧ 0 < s.sz then some (.slice s) else none
      | none => none
    | some (.struct fs) => shFields P (shOf P n) t fs.toList 0
    | _ => none

def Fits (h : IH) : Sh → List IV → Prop
  | .nil, cs => cs = []
  | .bool, cs => ∃ b, cs = [.bool b]
  | .int k, cs => ∃ n, cs = [.int k n] ∧ (Lit.int k n).wf = true
  | .str, cs => ∃ s, cs = [.str s] ∧ s.length ≤ maxLen
  | .slice e, cs => ∃ v rs, cs = [v] ∧ SlR h e.sz v rs ∧ rs.length ≤ maxLen ∧ ∀ r ∈ rs, Fits h e r
  | .cat a b, cs => ∃ x y, cs = x ++ y ∧ Fits h a x ∧ Fits h b y

theorem Fits.len {h : IH} : ∀ {s : Sh} {cs : List IV}, Fits h s cs → cs.length = s.sz
  | .nil, _, e => by obtain rfl := e; rfl
  | .bool, _, ⟨b, e⟩ => by subst e; rfl
  | .int k, _, ⟨n, e, _⟩ => by subst e; rfl
  | .str, _, ⟨n, e, _⟩ => by subst e; rfl
  | .slice s, _, ⟨v, rs, e, _⟩ => by subst e; rfl
  | .cat a b, _, ⟨x, y, e, h1, h2⟩ => by subst e; simp [Sh.sz, Fits.len h1, Fits.len h2]

theorem Fits.one {h : IH} : ∀ {s : Sh} {cs : List IV}, Fits h s cs → ∀ v ∈ cs, v.one = true
  | .nil, _, e => by obtain rfl := e; simp
  | .bool, _, ⟨b, e⟩ => by subst e; simp [IV.one]
  | .int k, _, ⟨n, e, _⟩ => by subst e; simp [IV.one]
  | .str, _, ⟨n, e, _⟩ => by subst e; simp [IV.one]
  | .slice s, _, ⟨v, rs, e, hs, _⟩ => by subst e; simp [hs.one]
  | .cat a b, _, ⟨x, y, e, h1, h2⟩ => by
    subst e
    intro v hv
    rcases List.mem_append.1 hv with hv | hv
    · exact Fits.one h1 v hv
    · exact Fits.one h2 v hv

theorem Fits.ext {h h' : IH} (he : Ext h h') : ∀ {s : Sh} {cs : List IV}, Fits h s cs → Fits h' s cs
  | .nil, _, e => e
  | .bool, _, e => e
  | .int k, _, e => e
  | .str, _, e => e
  | .slice s, _, ⟨v, rs, e, hs, hl, ha⟩ => ⟨v, rs, e, hs.ext he, hl, fun r hr => Fits.ext he (ha r hr)⟩
  | .cat a b, _, ⟨x, y, e, h1, h2⟩ => ⟨x, y, e, Fits.ext he h1, Fits.ext he h2⟩

def AllRo (h : IH) : Prop := ∀ l, (h.obj l).own = false

theorem WRel.pushRo {ρ : List RLoc} {B : Nat} {w : World} {h : IH} {o : IObj} {r : RLoc} (hw : WRel ρ B w h) (ha : AllRo h) (hro : o.own = false)
    (ho : ORel (ρ ++ [r]) B w r o) : WRel (ρ ++ [r]) B w (h.push o) := by
  have hp : ρ <+: ρ ++ [r] := List.prefix_append _ _
  have hlen : ρ.length = h.n := hw.len
  refine ⟨by simp [IH.push, hlen], hw.base, ?_, ?_⟩
  · intro l r' hr
    by_cases hl : l = h.n
    · subst hl
      rw [← hlen, List.getElem?_concat_length] at hr
      obtain rfl := Option.some.inj hr
      simpa [IH.push] using ho
    · have hlt : l < ρ.length := by have := (List.getElem?_eq_some_iff.1 hr).1; simp at this; omega
      rw [List.getElem?_append_left hlt] at hr
      simp only [IH.push, hl, if_false]
      exact (hw.obj l r' hr).mono hp
  · intro l l' r1 r2 h1 h2 hne hown _
    exfalso
    simp only [IH.push] at hown
    split at hown
    · rw [hro] at hown; cases hown
    · rw [ha] at hown; cases hown

theorem AllRo.push {h : IH} {o : IObj} (ha : AllRo h) (ho : o.own = false) : AllRo (h.push o) := by
  intro l
  simp only [IH.push]
  split
  · exact ho
  · exact ha l

theorem range_mapM {α : Type} {f : Nat → Option α} {n : Nat} {r : List α} (h : (List.range n).mapM f = some r) : r.length = n ∧ ∀ i, i < n → f i = r[i]? := by
  have hl := Go.mapM_len h
  rw [List.length_range] at hl
  refine ⟨hl, ?_⟩
  clear hl
  induction n generalizing r with
  | zero => intro i hi; omega
  | succ n ih =>
    rw [List.range_succ, List.mapM_append] at h
    cases ha : (List.range n).mapM f with
    | none => rw [ha] at h; cases h
    | some a =>
      rw [ha] at h
      cases hb : f n with
      | none => simp [hb] at h
      | some b =>
        simp [hb] at h
        subst h
        have hl := Go.mapM_len ha
        rw [List.length_range] at hl
        intro i hi
        by_cases hin : i < n
        · rw [ih ha i hin, List.getElem?_append_left (by omega)]
        · obtain rfl : i = n := by omega
          rw [List.getElem?_append_right (by omega), hl, hb]; simp

theorem cells_at {w : World} {a : Addr} {n : Nat} {cs : List Value} (h : w.cells? 0 a n = some cs) : cs.length = n ∧ ∀ i, i < n → w.cell? (a.add i) = cs[i]? := by
  unfold World.cells? at h
  rw [if_pos (Nat.zero_le _)] at h
  exact range_mapM h

theorem cell_some {w : World} {a : Addr} {v : Value} (h : w.cell? a = some v) : ∃ c t fz, w.heap[a.block]? = some (.cells c t fz) ∧ a.spot = none ∧ c[a.off]? = some v := by
  unfold World.cell? at h
  split at h
  · rename_i c t fz hc
    split at h
    · cases h
    · rename_i hs
      refine ⟨c, t, fz, hc, ?_, h⟩
      cases hsp : a.spot <;> simp_all
  · cases h


def Came (W : World) (ρ : List RLoc) (h : IH) (cs : List Value) (sh : Sh) : Prop :=
  ∃ ρ' h' cs', ρ <+: ρ' ∧ WRel ρ' W.heap.size W h' ∧ AllRo h' ∧ Ext h h' ∧ LRel ρ' cs cs' ∧ Fits h' sh cs'

variable {H : Type} {enc : TypeId × Value → H} {P : Program} {W : World}

def Readable (enc : TypeId × Value → H) (P : Program) (W : World) (t : TypeId) (sh : Sh) : Prop :=
  ∀ (ρ : List RLoc) (h : IH) (fuel : Nat) (cs : List Value) (x : DataW H × List MemPlace), WRel ρ W.heap.size W h → AllRo h →
    DataW.trod enc P W 0 (fun _ => true) true fuel t cs = some x → Came W ρ h cs sh

theorem came_fields {t : TypeId} {g : TypeId → Option Sh} (hg : ∀ t sh, g t = some sh → Readable enc P W t sh) {cs : List Value} (hl : cs.length = P.cellsOf t) :
    ∀ (fs : List Field) (n : Nat) (sh : Sh) (ρ : List RLoc) (h : IH), shFields P g t fs n = some sh →
      (∀ f ∈ fs, ∃ fuel x, DataW.trod enc P W 0 (fun _ => true) true fuel f.type ((cs.drop f.offset).take (P.cellsOf f.type)) = some x) →
      WRel ρ W.heap.size W h → AllRo h → Came W ρ h (cs.drop n) sh
  | [], n, sh, ρ, h, hs, _, hw, ha => by
    simp only [shFields] at hs
    split at hs
    · rename_i hn
      obtain rfl := Option.some.inj hs
      refine ⟨ρ, h, [], List.prefix_refl _, hw, ha, Ext.refl _, ?_, rfl⟩
      rw [List.drop_eq_nil_of_le (by omega)]
      exact LRel.nil _
    · cases hs
  | f :: r, n, sh, ρ, h, hs, hr, hw, ha => by
    simp only [shFields] at hs
    split at hs
    · rename_i ho
      split at hs
      · rename_i s hgs
        split at hs
        · rename_i hsz
          simp only [Option.map_eq_some_iff] at hs
          obtain ⟨s2, hs2, rfl⟩ := hs
          obtain ⟨fuel, x, hx⟩ := hr f (by simp)
          obtain ⟨ρ1, h1, c1, p1, w1, a1, e1, l1, f1⟩ := hg _ _ hgs ρ h fuel _ x hw ha hx
          obtain ⟨ρ2, h2, c2, p2, w2, a2, e2, l2, f2⟩ := came_fields hg hl r (n + s.sz) s2 ρ1 h1 hs2 (fun f' hf' => hr f' (by simp [hf'])) w1 a1
          refine ⟨ρ2, h2, c1 ++ c2, p1.trans p2, w2, a2, e1.trans e2, ?_, ⟨c1, c2, rfl, f1.ext e2, f2⟩⟩
          have hcat : cs.drop n = (cs.drop f.offset).take (P.cellsOf f.type) ++ cs.drop (n + s.sz) := by
            rw [ho, ← hsz, ← List.drop_drop, List.take_append_drop]
          rw [hcat]
          exact (l1.mono p2).append l2
        · cases hs
      · cases hs
    · cases hs

theorem came_elems {e : TypeId} {se : Sh} (hg : Readable enc P W e se) {a : Addr} {n : Nat} (sz : Nat) :
    ∀ (len : Nat) (ρ : List RLoc) (h : IH), WRel ρ W.heap.size W h → AllRo h →
      (∀ i, i < len → ∃ csi x, W.cells? 0 (a.add (i * sz)) sz = some csi ∧ DataW.trod enc P W 0 (fun _ => true) true n e csi = some x) →
      ∃ (ρ' : List RLoc) (h' : IH) (rs : List (List IV)), ρ <+: ρ' ∧ WRel ρ' W.heap.size W h' ∧ AllRo h' ∧ Ext h h' ∧ rs.length = len ∧
        ∀ (i : Nat) (row : List IV), rs[i]? = some row → ∃ csi, W.cells? 0 (a.add (i * sz)) sz = some csi ∧ LRel ρ' csi row ∧ Fits h' se row
  | 0, ρ, h, hw, ha, _ => ⟨ρ, h, [], List.prefix_refl _, hw, ha, Ext.refl _, rfl, fun i row hi => by simp at hi⟩
  | len + 1, ρ, h, hw, ha, hr => by
    obtain ⟨ρ1, h1, rs, p1, w1, a1, e1, l1, f1⟩ := came_elems hg sz len ρ h hw ha (fun i hi => hr i (by omega))
    obtain ⟨csi, x, hc, hx⟩ := hr len (by omega)
    obtain ⟨ρ2, h2, row, p2, w2, a2, e2, l2, f2⟩ := hg ρ1 h1 n csi x w1 a1 hx
    refine ⟨ρ2, h2, rs ++ [row], p1.trans p2, w2, a2, e1.trans e2, by simp [l1], fun i row' hi => ?_⟩
    by_cases hin : i < len
    · rw [List.getElem?_append_left (by omega)] at hi
      obtain ⟨csj, hcj, hlj, hfj⟩ := f1 i row' hi
      exact ⟨csj, hcj, hlj.mono p2, hfj.ext e2⟩
    · have : i < (rs ++ [row]).length := (List.getElem?_eq_some_iff.1 hi).1
      simp at this
      obtain rfl : i = len := by omega
      rw [List.getElem?_append_right (by omega), l1] at hi
      simp at hi
      subst hi
      exact ⟨csi, hc, l2, f2⟩


theorem Addr_add {a : Addr} (hs : a.spot = none) (n : Nat) : a.add n = ⟨a.block, a.off + n, none⟩ := by
  obtain ⟨b, o, sp⟩ := a
  obtain rfl : sp = none := hs
  unfold Addr.add
  split
  · subst_vars; rfl
  · rfl

theorem readable : ∀ (n : Nat) (t : TypeId) (sh : Sh), shOf P n t = some sh → Readable enc P W t sh
  | 0, _, _, hs => by cases hs
  | n + 1, t, sh, hs => by
    intro ρ h fuel cs x hw ha hx
    simp only [shOf] at hs
    split at hs
    · rename_i hu
      obtain rfl := Option.some.inj hs
      obtain ⟨b, rfl, _⟩ := DataW.trod_bool hu hx
      exact ⟨ρ, h, [.bool b], List.prefix_refl _, hw, ha, Ext.refl _, (LRel.nil _).cons (.bool b), b, rfl⟩
    · rename_i k hu
      obtain rfl := Option.some.inj hs
      obtain ⟨m, rfl, _, hwf⟩ := DataW.trod_int hu hx
      exact ⟨ρ, h, [.int k m], List.prefix_refl _, hw, ha, Ext.refl _, (LRel.nil _).cons (.int k m), m, rfl, hwf⟩
    · rename_i hu
      obtain rfl := Option.some.inj hs
      obtain ⟨b, rfl, _, hl⟩ := DataW.trod_string hu hx
      exact ⟨ρ, h, [.str b.data.toList], List.prefix_refl _, hw, ha, Ext.refl _, (LRel.nil _).cons (.str b), _, rfl, by simpa using hl⟩
    · rename_i e hu
      split at hs
      · rename_i se hse
        split at hs
        · rename_i hsz
          obtain ⟨hsz, hpos⟩ := hsz
          obtain rfl := Option.some.inj hs
          rcases DataW.trod_slice hu hx with ⟨rfl, _⟩ | ⟨a, len, cap, elems, rest, m, _, rfl, _, _, hlc, hcm, helen, hel, hsp, _⟩
          · exact ⟨ρ, h, [.nilslice], List.prefix_refl _, hw, ha, Ext.refl _, (LRel.nil _).cons .nilslice, _, [], rfl, SlR.nil _ _, Nat.zero_le _, by simp⟩
          · by_cases h0 : len = 0
            · subst h0
              refine ⟨ρ, h, [.eslice (decide (cap = 0))], List.prefix_refl _, hw, ha, Ext.refl _, (LRel.nil _).cons (.eslice (by simp) hcm), _, [], rfl, SlR.empty _ _ _, Nat.zero_le _, by simp⟩
            · obtain ⟨hrest, hsp⟩ := hsp rfl
              have all : ∀ i, i < cap → ∃ csi x, W.cells? 0 (a.add (i * se.sz)) se.sz = some csi ∧ DataW.trod enc P W 0 (fun _ => true) true m e csi = some x := by
                intro i hi
                by_cases hil : i < len
                · have := hel i hil
                  rw [List.getElem?_eq_getElem (by omega), Option.bind_eq_some_iff, ← hsz] at this
                  obtain ⟨csi, h1, h2⟩ := this
                  exact ⟨csi, _, h1, h2⟩
                · have := hsp (i - len) (by omega)
                  rw [List.getElem?_eq_getElem (by omega), Option.bind_eq_some_iff, ← hsz] at this
                  obtain ⟨csi, h1, h2⟩ := this
                  rw [show len + (i - len) = i by omega] at h1
                  exact ⟨csi, _, h1, h2⟩
              obtain ⟨ρ1, h1, rs, p1, w1, a1, e1, l1, f1⟩ := came_elems (readable n e se hse) se.sz len ρ h hw ha (fun i hi => all i (by omega))
              obtain ⟨c0, x0, hc0, _⟩ := all 0 (by omega)
              obtain ⟨hl0, hg0⟩ := cells_at hc0
              have hz := hg0 0 hpos
              rw [List.getElem?_eq_getElem (by omega)] at hz
              obtain ⟨c, tc, fz, hcell, hspot, _⟩ := cell_some hz
              have hspot' : a.spot = none := by
                have : (a.add (0 * se.sz)).add 0 = a := by simp [Addr.add]
                rw [this] at hspot; exact hspot
              have hblk : W.heap[a.block]? = some (.cells c tc fz) := by
                have : ((a.add (0 * se.sz)).add 0).block = a.block := by simp [Addr.add]
                rw [this] at hcell; exact hcell
              have hat : ∀ i csi, W.cells? 0 (a.add (i * se.sz)) se.sz = some csi → csi.length = se.sz ∧ ∀ k, k < se.sz → c[a.off + i * se.sz + k]? = csi[k]? := by
                intro i csi hi
                obtain ⟨hli, hgi⟩ := cells_at hi
                refine ⟨hli, fun k hk => ?_⟩
                have := hgi k hk
                rw [Addr_add hspot' _, Addr_add rfl] at this
                rw [← this]
                simp [World.cell?, hblk]
              refine ⟨ρ1 ++ [⟨a.block, a.off, se.sz, cap⟩], h1.push (.rows rs 0 se.sz true), [.slice h1.n 0 len], p1.trans (List.prefix_append _ _), ?_, a1.push rfl, e1.push _, ?_, ?_⟩
              · refine w1.pushRo a1 rfl ⟨c, tc, fz, hblk, rfl, ?_, by simp only; omega, ?_, ?_, ?_, fun h => by cases h⟩
                · obtain ⟨cl, xl, hcl, _⟩ := all (cap - 1) (by omega)
                  obtain ⟨hll, hgl⟩ := hat _ _ hcl
                  have := hgl (se.sz - 1) (by omega)
                  rw [List.getElem?_eq_getElem (by omega)] at this
                  have h3 := (Array.getElem?_eq_some_iff.1 this).1
                  have h4 : cap * se.sz = (cap - 1) * se.sz + se.sz := by rw [← Nat.succ_mul]; congr 1; omega
                  simp only
                  omega
                · intro row hrow
                  obtain ⟨i, hi⟩ := List.getElem?_of_mem hrow
                  obtain ⟨csi, hci, hli, hfi⟩ := f1 i row hi
                  exact hfi.len
                · intro row hrow
                  obtain ⟨i, hi⟩ := List.getElem?_of_mem hrow
                  obtain ⟨csi, hci, hli, hfi⟩ := f1 i row hi
                  exact hfi.one
                · intro i row hi k v' hk
                  obtain ⟨csi, hci, hli, hfi⟩ := f1 i row hi
                  obtain ⟨v, hv, hr⟩ := hli.of_get' hk
                  refine ⟨v, ?_, hr.mono (List.prefix_append _ _)⟩
                  have hkl : k < se.sz := by rw [← hfi.len]; exact (List.getElem?_eq_some_iff.1 hk).1
                  exact ((hat _ _ hci).2 k hkl).trans hv
              · refine (LRel.nil _).cons ?_
                have hq : (ρ1 ++ [(⟨a.block, a.off, se.sz, cap⟩ : RLoc)])[h1.n]? = some ⟨a.block, a.off, se.sz, cap⟩ := by rw [← w1.len]; exact List.getElem?_concat_length
                have := VRel.slice (i := 0) (n := len) (c := cap) hq hlc (by simp) hcm
                have ea : a = ⟨a.block, a.off + 0 * se.sz, none⟩ := by
                  obtain ⟨b, o, sp⟩ := a
                  obtain rfl : sp = none := hspot'
                  simp
                have h5 : VRel (ρ1 ++ [(⟨a.block, a.off, se.sz, cap⟩ : RLoc)]) (.slice (some ⟨a.block, a.off + 0 * se.sz, none⟩) len cap) (.slice h1.n 0 len) := this
                rw [← ea] at h5; exact h5
              · refine ⟨_, rs, rfl, SlR.whole (e := 0) (ro := true) (push_new _ _) l1 (by simp only [push_n]; omega), by omega, fun row hrow => ?_⟩
                obtain ⟨i, hi⟩ := List.getElem?_of_mem hrow
                obtain ⟨csi, hci, hli, hfi⟩ := f1 i row hi
                exact hfi.ext ((Ext.refl _).push _)
        · cases hs
      · cases hs
    · rename_i fs hu
      obtain ⟨xs, m, _, _, hl, hxl, hf⟩ := DataW.trod_struct hu hx
      have := came_fields (enc := enc) (W := W) (fun t sh hh => readable n t sh hh) hl fs.toList 0 sh ρ h hs (fun f hfm => by
        obtain ⟨i, hi⟩ := List.getElem?_of_mem hfm
        have hi' : fs[i]? = some f := by simpa using hi
        have h1 := hf i f hi'
        have : i < xs.length := by rw [hxl]; exact (Array.getElem?_eq_some_iff.1 hi').1
        rw [List.getElem?_eq_getElem this] at h1
        exact ⟨_, _, h1⟩) hw ha
      simpa using this
    · cases hs



def parOf (P : Program) (t : TypeId) : Option (Sh × Bool) :=
  match shOf P 24 t with
  | some s => match P.underlying t with
    | some (.struct _) => some (s, true)
    | some (.array _ _) => none
    | _ => if s.sz = 1 then some (s, false) else none
  | none => none

def parsOf (P : Program) : List TypeId → Option (List (Sh × Bool))
  | [] => some []
  | t :: ts => match parOf P t, parsOf P ts with
    | some p, some ps => some (p :: ps)
    | _, _ => none

def PFit (h : IH) : Sh × Bool → IV → Prop
  | (s, true), v => ∃ cs, v = .agg cs ∧ Fits h s cs
  | (s, false), v => Fits h s [v]

def PFits (h : IH) : List (Sh × Bool) → List IV → Prop
  | [], vs => vs = []
  | p :: ps, vs => ∃ v r, vs = v :: r ∧ PFit h p v ∧ PFits h ps r

theorem PFit.ext {h h' : IH} (he : Ext h h') : ∀ {p : Sh × Bool} {v : IV}, PFit h p v → PFit h' p v
  | (s, true), _, ⟨cs, e, hf⟩ => ⟨cs, e, hf.ext he⟩
  | (s, false), _, hf => Fits.ext he hf

theorem came_par {t : TypeId} {p : Sh × Bool} (hp : parOf P t = some p) {v : Value} {base : Nat} (hok : Value.okWide P W .any base t v) {d : DataW H} {ps : List MemPlace}
    (ht : DataW.Trod enc P W 0 (fun _ => true) true t v d ps) {ρ : List RLoc} {h : IH} (hw : WRel ρ W.heap.size W h) (ha : AllRo h) :
    ∃ ρ' h' iv, ρ <+: ρ' ∧ WRel ρ' W.heap.size W h' ∧ AllRo h' ∧ Ext h h' ∧ VRel ρ' v iv ∧ PFit h' p iv := by
  obtain ⟨fuel, hf⟩ := ht
  unfold parOf at hp
  cases hs : shOf P 24 t with
  | none => rw [hs] at hp; cases hp
  | some s =>
    rw [hs] at hp
    simp only at hp
    obtain ⟨ρ', h', cs', p1, w1, a1, e1, l1, f1⟩ := readable _ _ _ hs ρ h fuel _ _ hw ha hf
    split at hp
    · rename_i fs hu
      obtain rfl := Option.some.inj hp
      simp only [Value.okWide, hu] at hok
      obtain ⟨cs, rfl, _, _⟩ := hok
      refine ⟨ρ', h', .agg cs', p1, w1, a1, e1, ?_, cs', rfl, f1⟩
      refine .agg (by simpa [Value.cells] using l1.1) fun i a b x y => l1.2 i a b (by simpa [Value.cells] using x) y
    · cases hp
    · rename_i hn1 hn2
      split at hp
      · rename_i h1
        obtain rfl := Option.some.inj hp
        have hc : v.cells.toList = [v] := by
          have hok' : Cell.okWide P W .any base t v := by
            simp only [Value.okWide] at hok
            exact hok
          cases v <;> first | rfl | (exfalso; revert hok'; unfold Cell.okWide; split <;> simp_all [Cell.ok])
        rw [hc] at l1
        match cs', l1, f1 with
        | [], l1, _ => exact absurd l1.1 (by simp)
        | [iv], l1, f1 => exact ⟨ρ', h', iv, p1, w1, a1, e1, l1.head, f1⟩
        | _ :: _ :: _, l1, _ => exact absurd l1.1 (by simp)
      · cases hp

theorem came_args : ∀ (ts : List TypeId) (vs : List Value) (ds : List (DataW H)) (ps : List MemPlace) (prs : List (Sh × Bool)) {base : Nat} {ρ : List RLoc} {h : IH},
    parsOf P ts = some prs → DataW.TrodAll enc P W 0 (fun _ => true) true ts vs ds ps → (∀ (j : Nat) t v, ts[j]? = some t → vs[j]? = some v → Value.okWide P W .any base t v) →
    WRel ρ W.heap.size W h → AllRo h → ∃ ρ' h' ivs, ρ <+: ρ' ∧ WRel ρ' W.heap.size W h' ∧ AllRo h' ∧ Ext h h' ∧ LRel ρ' vs ivs ∧ PFits h' prs ivs
  | [], vs, ds, ps, prs, base, ρ, h, hp, ht, _, hw, ha => by
    obtain rfl := Option.some.inj hp
    match vs, ds, ht with
    | [], [], _ => exact ⟨ρ, h, [], List.prefix_refl _, hw, ha, Ext.refl _, LRel.nil _, rfl⟩
  | t :: ts, vs, ds, ps, prs, base, ρ, h, hp, ht, hok, hw, ha => by
    obtain ⟨v, vs, d, ds, p, q, rfl, rfl, rfl, h1, h2⟩ := Go.ChangeShapes.trodAll_cons ht
    simp only [parsOf] at hp
    split at hp
    · rename_i p0 ps0 e1 e2
      obtain rfl := Option.some.inj hp
      obtain ⟨ρ1, g1, iv, p1, w1, a1, x1, r1, f1⟩ := came_par e1 (hok 0 t v rfl rfl) h1 hw ha
      obtain ⟨ρ2, g2, ivs, p2, w2, a2, x2, r2, f2⟩ := came_args ts vs ds q ps0 e2 h2 (fun j t' v' ht' hv' => hok (j + 1) t' v' ht' hv') w1 a1
      exact ⟨ρ2, g2, iv :: ivs, p1.trans p2, w2, a2, x1.trans x2, (LRel.cons (r1.mono p2) r2), iv, ivs, rfl, f1.ext x2, f2⟩
    · cases hp

theorem wrel_empty (W : World) : WRel [] W.heap.size W ⟨0, fun _ => .dead⟩ :=
  ⟨rfl, Nat.le_refl _, fun l r h => by simp at h, fun l l' r r' h => by simp at h⟩

theorem trodAll_below (hl : laidOutB P = true) {W' : World} (hb : Below W.heap.size W W') : ∀ (ts : List TypeId) (vs : List Value) (ds : List (DataW H)) (ps : List MemPlace),
    (ts.all fun t => P.readableRec t && decide (t < P.types.size)) = true → DataW.TrodAll enc P W 0 (fun _ => true) true ts vs ds ps →
    DataW.TrodAll enc P W' 0 (fun b => decide (b < W.heap.size)) true ts vs ds ps
  | [], vs, ds, ps, _, ht => by
    match vs, ds, ht with
    | [], [], ht => exact ht
  | t :: ts, vs, ds, ps, hr, ht => by
    obtain ⟨v, vs, d, ds, p, q, rfl, rfl, rfl, h1, h2⟩ := Go.ChangeShapes.trodAll_cons ht
    simp only [List.all_cons, Bool.and_eq_true, decide_eq_true_eq] at hr
    refine ⟨p, q, Below.trod hl hr.1.1 hr.1.2 h1 hb ?_, trodAll_below hl hb ts vs ds q hr.2 h2, rfl⟩
    obtain ⟨m, hm⟩ := h1
    exact DataW.trod_lt m _ _ _ hm

theorem FnOk.enter {f N : Nat} {cc : CC} {rs : List FK} (hf : FnOk P f N cc rs) (args : Array Value) (w : World) : (callFunc f args).run P w = .ok (.enter f args) w := by
  obtain ⟨fn, c, h1, h2, h3, _⟩ := hf.ok
  simp [callFunc, h1, h2, h3]

def LawTrue (P : Program) (f : Nat) (prs : List (Sh × Bool)) : Prop :=
  ∀ (h : IH) (ivs : List IV), AllRo h → PFits h prs ivs → ICalls P f ivs h fun r _ => r = .bool true

theorem law_calls {f : Nat} {fn : Func} {prs : List (Sh × Bool)} (hG : GOk P W.heap.size W) (hfn : P.funcs[f]? = some fn) (henter : ∀ (args : Array Value) (w : World), (callFunc f args).run P w = .ok (.enter f args) w) (hp : parsOf P fn.params.toList = some prs)
    (hlaw : LawTrue P f prs) {args : Array Value} {ds : List (DataW H)} {ps : List MemPlace} {base : Nat}
    (hval : ∀ (j : Nat) t v, fn.params[j]? = some t → args[j]? = some v → Value.okWide P W .any base t v)
    (hA : DataW.TrodAll enc P W 0 (fun _ => true) true fn.params.toList args.toList ds ps) :
    Calls P f args W fun e W' => e = .returned (.bool true) ∧ Below W.heap.size W W' := by
  obtain ⟨ρ, h, ivs, _, hw, ha, _, hl, hf⟩ := came_args _ _ _ _ _ hp hA (fun j t v ht hv => hval j t v (by simpa using ht) (by simpa using hv)) (wrel_empty W) (fun l => rfl)
  have hc := hlaw h ivs ha hf ρ W.heap.size W args hG hw hl
  rw [henter] at hc
  simp only [UponF] at hc
  refine hc.mono fun e w' he => ?_
  cases e <;> simp only at he
  obtain ⟨ρ', v, h', _, _, hv, hb, rfl⟩ := he
  cases hv
  exact ⟨rfl, hb⟩

end Go.IW

namespace Go.IW
open Go Go.RowKit

inductive Ty where
  | nil
  | bool
  | int (k : IntKind)
  | str
  | slice (el : Nat) (e : Ty)
  | cat (a b : Ty)
def Ty.sz : Ty → Nat
  | .nil => 0
  | .cat a b => a.sz + b.sz
  | _ => 1
def Ty.sh : Ty → Sh
  | .nil => .nil
  | .bool => .bool
  | .int k => .int k
  | .str => .str
  | .slice _ e => .slice e.sh
  | .cat a b => .cat a.sh b.sh
theorem Ty.sh_sz : ∀ t : Ty, t.sh.sz = t.sz
  | .nil | .bool | .int _ | .str | .slice _ _ => rfl
  | .cat a b => by simp [Ty.sh, Sh.sz, Ty.sz, a.sh_sz, b.sh_sz]
def Ty.one : Ty → Bool
  | .nil | .cat .. => false
  | _ => true
def Ty.pk (t : Ty) (cs : List IV) : IV := if t.one then cs.headD .nilptr else .agg cs

inductive Dat where
  | unit
  | bool (b : Bool)
  | int (n : Int)
  | str (s : List UInt8)
  | list (l : List Dat)
  | pair (a b : Dat)
  deriving Inhabited

mutual
def Dat.tot : Dat → Nat
  | .str s => s.length
  | .list l => l.length + totL l
  | .pair a b => a.tot + b.tot
  | _ => 0
def totL : List Dat → Nat
  | [] => 0
  | d :: l => d.tot + totL l
end
theorem tot_mem : ∀ {l : List Dat} {d : Dat}, d ∈ l → d.tot ≤ totL l
  | x :: l, d, h => by
    rcases List.mem_cons.1 h with rfl | h
    · simp [totL]
    · have := tot_mem h; simp only [totL]; omega

inductive All2 {α β : Type} (R : α → β → Prop) : List α → List β → Prop
  | nil : All2 R [] []
  | cons {a : α} {b : β} {l : List α} {m : List β} (h : R a b) (t : All2 R l m) : All2 R (a :: l) (b :: m)
inductive All3 {α β : Type} (R : α → β → List Nat → Prop) : List α → List β → List Nat → Prop
  | nil : All3 R [] [] []
  | cons {a : α} {b : β} {f : List Nat} {l : List α} {m : List β} {g : List Nat} (h : R a b f) (t : All3 R l m g) : All3 R (a :: l) (b :: m) (f ++ g)
section
variable {α β : Type} {R R' : α → β → Prop} {Q Q' : α → β → List Nat → Prop} {l l' : List α} {m m' : List β} {g g' : List Nat}
theorem All2.len (h : All2 R l m) : l.length = m.length := by
  induction h with
  | nil => rfl
  | cons _ _ ih => simp [ih]
theorem All2.mono (hR : ∀ a ∈ l, ∀ b, R a b → R' a b) (h : All2 R l m) : All2 R' l m := by
  induction h with
  | nil => exact .nil
  | cons h _ ih => exact .cons (hR _ List.mem_cons_self _ h) (ih fun a ha => hR a (List.mem_cons_of_mem _ ha))
theorem All2.at (h : All2 R l m) {i : Nat} {b : β} (hb : m[i]? = some b) : ∃ a, l[i]? = some a ∧ R a b := by
  induction h generalizing i with
  | nil => simp at hb
  | @cons a b' l m h _ ih =>
    cases i with
    | zero => simp at hb; subst hb; exact ⟨a, rfl, h⟩
    | succ i => simpa using ih (by simpa using hb)
theorem All2.app (h : All2 R l m) (h' : All2 R l' m') : All2 R (l ++ l') (m ++ m') := by
  induction h with
  | nil => exact h'
  | cons h _ ih => exact .cons h ih
theorem All2.take (h : All2 R l m) (n : Nat) : All2 R (l.take n) (m.take n) := by
  induction h generalizing n with
  | nil => simp; exact .nil
  | cons h _ ih => cases n with
    | zero => exact .nil
    | succ n => exact .cons h (ih n)
theorem All2.drop (h : All2 R l m) (n : Nat) : All2 R (l.drop n) (m.drop n) := by
  induction h generalizing n with
  | nil => simp; exact .nil
  | cons h t ih => cases n with
    | zero => exact .cons h t
    | succ n => exact ih n
theorem All2.all (h : All2 R l m) {p : α → Prop} (hp : ∀ a b, R a b → p a) : ∀ a ∈ l, p a := by
  induction h with
  | nil => simp
  | cons h _ ih =>
    intro a ha
    rcases List.mem_cons.1 ha with rfl | ha
    · exact hp _ _ h
    · exact ih a ha
theorem All3.len (h : All3 Q l m g) : l.length = m.length := by
  induction h with
  | nil => rfl
  | cons _ _ ih => simp [ih]
theorem All3.mono (hQ : ∀ a b f, (∀ x ∈ f, x ∈ g) → Q a b f → Q' a b f) (h : All3 Q l m g) : All3 Q' l m g := by
  induction h with
  | nil => exact .nil
  | cons h _ ih => exact .cons (hQ _ _ _ (fun x hx => List.mem_append_left _ hx) h) (ih fun a b f hf => hQ a b f fun x hx => List.mem_append_right _ (hf x hx))
theorem All3.two (hQ : ∀ a b f, (∀ x ∈ f, x ∈ g) → Q a b f → R a b) (h : All3 Q l m g) : All2 R l m := by
  induction h with
  | nil => exact .nil
  | cons h _ ih => exact .cons (hQ _ _ _ (fun x hx => List.mem_append_left _ hx) h) (ih fun a b f hf => hQ a b f fun x hx => List.mem_append_right _ (hf x hx))
theorem All3.app (h : All3 Q l m g) (h' : All3 Q l' m' g') : All3 Q (l ++ l') (m ++ m') (g ++ g') := by
  induction h with
  | nil => exact h'
  | cons h _ ih => rw [List.append_assoc]; exact .cons h ih
theorem All3.one {a : α} {b : β} (h : Q a b g) : All3 Q [a] [b] g := by
  have := All3.cons h (.nil (R := Q)); simpa using this
theorem All3.split (h : All3 Q l m g) {i : Nat} {b : β} (hb : m[i]? = some b) :
    ∃ a g1 f g2, l[i]? = some a ∧ g = g1 ++ (f ++ g2) ∧ Q a b f ∧ All3 Q (l.take i) (m.take i) g1 ∧ All3 Q (l.drop (i + 1)) (m.drop (i + 1)) g2 := by
  induction h generalizing i with
  | nil => simp at hb
  | @cons a b' f l m g h t ih =>
    cases i with
    | zero => simp at hb; subst hb; exact ⟨a, [], f, g, rfl, rfl, h, .nil, by simpa using t⟩
    | succ i =>
      obtain ⟨a1, g1, f1, g2, e1, rfl, q, t1, t2⟩ := ih (by simpa using hb)
      exact ⟨a1, f ++ g1, f1, g2, by simpa using e1, by simp, q, .cons h t1, by simpa using t2⟩
end

def Rp (S : Nat → Prop) (h : IH) : Ty → List IV → Dat → Prop
  | .nil => fun cs d => cs = [] ∧ d = .unit
  | .bool => fun cs d => ∃ b, cs = [.bool b] ∧ d = .bool b
  | .int k => fun cs d => ∃ n, cs = [.int k n] ∧ d = .int n
  | .str => fun cs d => ∃ s, cs = [.str s] ∧ d = .str s
  | .slice _ e => fun cs d => ∃ v rs ds, cs = [v] ∧ d = .list ds ∧ SlR h e.sz v rs ∧ (∀ l i n, v = .slice l i n → S l) ∧ All2 (Rp S h e) rs ds
  | .cat a b => fun cs d => ∃ c1 c2 d1 d2, cs = c1 ++ c2 ∧ d = .pair d1 d2 ∧ Rp S h a c1 d1 ∧ Rp S h b c2 d2
def Ro (h : IH) : Ty → List IV → Dat → List Nat → Prop
  | .nil => fun cs d fs => cs = [] ∧ d = .unit ∧ fs = []
  | .bool => fun cs d fs => ∃ b, cs = [.bool b] ∧ d = .bool b ∧ fs = []
  | .int k => fun cs d fs => ∃ n, cs = [.int k n] ∧ d = .int n ∧ fs = []
  | .str => fun cs d fs => ∃ s, cs = [.str s] ∧ d = .str s ∧ fs = []
  | .slice el e => fun cs d fs => ∃ v ds, cs = [v] ∧ d = .list ds ∧ ((ds = [] ∧ fs = [] ∧ (v = .nilslice ∨ v = .eslice true)) ∨
      ∃ l rs gs, ds ≠ [] ∧ v = .slice l 0 ds.length ∧ l < h.n ∧ h.obj l = .rows rs el e.sz false ∧ fs = l :: gs ∧ All3 (Ro h e) rs ds gs)
  | .cat a b => fun cs d fs => ∃ c1 c2 d1 d2 f1 f2, cs = c1 ++ c2 ∧ d = .pair d1 d2 ∧ fs = f1 ++ f2 ∧ Ro h a c1 d1 f1 ∧ Ro h b c2 d2 f2

section
variable {S S' : Nat → Prop} {h h' : IH}
theorem Rp.len : ∀ {t : Ty} {cs : List IV} {d : Dat}, Rp S h t cs d → cs.length = t.sz
  | .nil, _, _, ⟨e, _⟩ => by subst e; rfl
  | .bool, _, _, ⟨_, e, _⟩ => by subst e; rfl
  | .int _, _, _, ⟨_, e, _⟩ => by subst e; rfl
  | .str, _, _, ⟨_, e, _⟩ => by subst e; rfl
  | .slice _ _, _, _, ⟨_, _, _, e, _⟩ => by subst e; rfl
  | .cat a b, _, _, ⟨_, _, _, _, e, _, h1, h2⟩ => by subst e; simp [Ty.sz, h1.len, h2.len]
theorem Rp.one : ∀ {t : Ty} {cs : List IV} {d : Dat}, Rp S h t cs d → ∀ v ∈ cs, v.one = true
  | .nil, _, _, ⟨e, _⟩ => by subst e; simp
  | .bool, _, _, ⟨_, e, _⟩ => by subst e; simp [IV.one]
  | .int _, _, _, ⟨_, e, _⟩ => by subst e; simp [IV.one]
  | .str, _, _, ⟨_, e, _⟩ => by subst e; simp [IV.one]
  | .slice _ _, _, _, ⟨_, _, _, e, _, hs, _⟩ => by subst e; simp [hs.one]
  | .cat a b, _, _, ⟨_, _, _, _, e, _, h1, h2⟩ => by
    subst e
    intro v hv
    rcases List.mem_append.1 hv with hv | hv
    · exact h1.one v hv
    · exact h2.one v hv
theorem SlR.same {sz : Nat} {v : IV} {rs : List (List IV)} (hs : SlR h sz v rs) (hn : h.n ≤ h'.n) (ho : ∀ l i n, v = .slice l i n → h'.obj l = h.obj l) : SlR h' sz v rs := by
  refine ⟨?_, hs.len, fun l i n hv => Nat.lt_of_lt_of_le (hs.lt l i n hv) hn⟩
  have h1 := hs.src
  cases v with
  | slice l i n =>
    have := ho l i n rfl
    simp only [srcRows, this] at h1 ⊢
    exact h1
  | nilslice => exact h1
  | eslice z => exact h1
  | _ => simp [srcRows] at h1
theorem Rp.same (hn : h.n ≤ h'.n) (ho : ∀ l, S l → l < h.n → h'.obj l = h.obj l) (hS : ∀ l, S l → l < h.n → S' l) : ∀ {t : Ty} {cs : List IV} {d : Dat}, Rp S h t cs d → Rp S' h' t cs d
  | .nil, _, _, e => e
  | .bool, _, _, e => e
  | .int _, _, _, e => e
  | .str, _, _, e => e
  | .slice _ _, _, _, ⟨v, rs, ds, e1, e2, hs, h1, h2⟩ => ⟨v, rs, ds, e1, e2, hs.same hn (fun l i n hv => ho l (h1 l i n hv) (hs.lt l i n hv)), fun l i n hv => hS l (h1 l i n hv) (hs.lt l i n hv), h2.mono fun _ _ _ x => x.same hn ho hS⟩
  | .cat a b, _, _, ⟨c1, c2, d1, d2, e1, e2, h1, h2⟩ => ⟨c1, c2, d1, d2, e1, e2, h1.same hn ho hS, h2.same hn ho hS⟩
theorem Ro.same (hn : h.n ≤ h'.n) : ∀ {t : Ty} {cs : List IV} {d : Dat} {fs : List Nat}, (∀ l ∈ fs, h'.obj l = h.obj l) → Ro h t cs d fs → Ro h' t cs d fs
  | .nil, _, _, _, _, e => e
  | .bool, _, _, _, _, e => e
  | .int _, _, _, _, _, e => e
  | .str, _, _, _, _, e => e
  | .slice _ _, _, _, _, ho, ⟨v, ds, e1, e2, h1⟩ => by
    refine ⟨v, ds, e1, e2, ?_⟩
    rcases h1 with h1 | ⟨l, rs, gs, h0, h1, h2, h3, rfl, h4⟩
    · exact .inl h1
    · refine .inr ⟨l, rs, gs, h0, h1, Nat.lt_of_lt_of_le h2 hn, (ho l List.mem_cons_self).trans h3, rfl, h4.mono fun a b f hf x => x.same hn fun l hl => ho l (List.mem_cons_of_mem _ (hf l hl))⟩
  | .cat a b, _, _, _, ho, ⟨c1, c2, d1, d2, f1, f2, e1, e2, e3, h1, h2⟩ =>
    ⟨c1, c2, d1, d2, f1, f2, e1, e2, e3, h1.same hn (fun l hl => ho l (by rw [e3]; exact List.mem_append_left _ hl)), h2.same hn (fun l hl => ho l (by rw [e3]; exact List.mem_append_right _ hl))⟩
theorem Ro.view : ∀ {t : Ty} {cs : List IV} {d : Dat} {fs : List Nat}, Ro h t cs d fs → (∀ l ∈ fs, S l) → Rp S h t cs d
  | .nil, _, _, _, ⟨a, b, _⟩, _ => ⟨a, b⟩
  | .bool, _, _, _, ⟨x, a, b, _⟩, _ => ⟨x, a, b⟩
  | .int _, _, _, _, ⟨x, a, b, _⟩, _ => ⟨x, a, b⟩
  | .str, _, _, _, ⟨x, a, b, _⟩, _ => ⟨x, a, b⟩
  | .slice el e, _, _, _, ⟨v, ds, e1, e2, h1⟩, hS => by
    rcases h1 with ⟨rfl, rfl, rfl | rfl⟩ | ⟨l, rs, gs, h0, rfl, h2, h3, rfl, h4⟩
    · exact ⟨_, [], [], e1, e2, SlR.nil _ _, (fun _ _ _ h => by cases h), All2.nil⟩
    · exact ⟨_, [], [], e1, e2, SlR.empty _ _ _, (fun _ _ _ h => by cases h), All2.nil⟩
    · refine ⟨_, rs, ds, e1, e2, SlR.whole h3 h4.len h2, fun l i n hv => ?_, h4.two fun a b f hf x => x.view fun l hl => hS l (List.mem_cons_of_mem _ (hf l hl))⟩
      cases hv; exact hS _ List.mem_cons_self
  | .cat a b, _, _, _, ⟨c1, c2, d1, d2, f1, f2, e1, e2, e3, h1, h2⟩, hS =>
    ⟨c1, c2, d1, d2, e1, e2, h1.view fun l hl => hS l (by rw [e3]; exact List.mem_append_left _ hl), h2.view fun l hl => hS l (by rw [e3]; exact List.mem_append_right _ hl)⟩
theorem Ro.len {t : Ty} {cs : List IV} {d : Dat} {fs : List Nat} (hr : Ro h t cs d fs) : cs.length = t.sz := (hr.view (S := fun _ => True) fun _ _ => trivial).len
theorem Ro.one {t : Ty} {cs : List IV} {d : Dat} {fs : List Nat} (hr : Ro h t cs d fs) : ∀ v ∈ cs, v.one = true := (hr.view (S := fun _ => True) fun _ _ => trivial).one
theorem Ro.lt : ∀ {t : Ty} {cs : List IV} {d : Dat} {fs : List Nat}, Ro h t cs d fs → ∀ l ∈ fs, l < h.n
  | .nil, _, _, _, ⟨_, _, e⟩ => by subst e; simp
  | .bool, _, _, _, ⟨_, _, _, e⟩ => by subst e; simp
  | .int _, _, _, _, ⟨_, _, _, e⟩ => by subst e; simp
  | .str, _, _, _, ⟨_, _, _, e⟩ => by subst e; simp
  | .slice _ e, _, _, _, ⟨v, ds, e1, e2, h1⟩ => by
    rcases h1 with ⟨_, rfl, _⟩ | ⟨l, rs, gs, h0, rfl, h2, h3, rfl, h4⟩
    · simp
    · intro x hx
      rcases List.mem_cons.1 hx with rfl | hx
      · exact h2
      · clear e1 e2 h0 h3
        induction h4 with
        | nil => simp at hx
        | cons h _ ih =>
          rcases List.mem_append.1 hx with hx | hx
          · exact h.lt x hx
          · exact ih (List.mem_cons_of_mem _ hx) hx
  | .cat a b, _, _, _, ⟨c1, c2, d1, d2, f1, f2, e1, e2, rfl, h1, h2⟩ => by
    intro x hx
    rcases List.mem_append.1 hx with hx | hx
    · exact h1.lt x hx
    · exact h2.lt x hx
end

def Vw (lo hi : Nat) (h : IH) (t : Ty) (cs : List IV) (d : Dat) : Prop := Rp (fun l => lo ≤ l ∧ l < hi) h t cs d
def Ow (lo hi : Nat) (h : IH) (t : Ty) (cs : List IV) (d : Dat) : Prop := (∃ fs, Ro h t cs d fs ∧ fs.Nodup ∧ ∀ l ∈ fs, lo ≤ l ∧ l < hi) ∧ hi ≤ h.n
structure Trn (lo hi : Nat) (h h' : IH) : Prop where
  le : h.n ≤ h'.n
  obj : ∀ l, l < h.n → ¬ (lo ≤ l ∧ l < hi) → h'.obj l = h.obj l
theorem Trn.refl (lo hi : Nat) (h : IH) : Trn lo hi h h := ⟨Nat.le_refl _, fun _ _ _ => rfl⟩
theorem Trn.of_ext {lo hi : Nat} {h h' : IH} (e : Ext h h') : Trn lo hi h h' := ⟨e.le, fun l hl _ => e.obj l hl⟩
theorem Trn.trans {lo hi : Nat} {a b c : IH} (h1 : Trn lo hi a b) (h2 : Trn lo hi b c) : Trn lo hi a c :=
  ⟨Nat.le_trans h1.le h2.le, fun l hl hv => (h2.obj l (Nat.lt_of_lt_of_le hl h1.le) hv).trans (h1.obj l hl hv)⟩
theorem Trn.wide {lo hi lo' hi' : Nat} {h h' : IH} (t : Trn lo hi h h') (h1 : lo' ≤ lo) (h2 : hi ≤ hi') : Trn lo' hi' h h' := ⟨t.le, fun l hl hv => t.obj l hl (by omega)⟩
theorem Trn.set {lo hi l : Nat} {h : IH} (o : IObj) (hl : lo ≤ l ∧ l < hi) : Trn lo hi h (h.set l o) := ⟨Nat.le_refl _, fun m _ hv => set_there _ _ _ _ (by omega)⟩
theorem Ext.trn {a b c : IH} {lo hi : Nat} (e : Ext a b) (t : Trn lo hi b c) (hlo : a.n ≤ lo) : Ext a c :=
  ⟨Nat.le_trans e.le t.le, fun l hl => (t.obj l (Nat.lt_of_lt_of_le hl e.le) (by omega)).trans (e.obj l hl)⟩
theorem At.trn {lo hi p : Nat} {h h' : IH} {o : IObj} (a : At h p o) (t : Trn lo hi h h') (hd : p < lo ∨ hi ≤ p) : At h' p o :=
  ⟨Nat.lt_of_lt_of_le a.lt t.le, (t.obj p a.lt (by omega)).trans a.eq⟩

section
variable {lo hi lo' hi' : Nat} {h h' : IH} {t : Ty} {cs : List IV} {d : Dat}
theorem Vw.trn (hv : Vw lo hi h t cs d) (tr : Trn lo' hi' h h') (hd : hi ≤ lo' ∨ hi' ≤ lo) : Vw lo hi h' t cs d :=
  Rp.same tr.le (fun l hl hn => tr.obj l hn (by omega)) (fun l hl _ => hl) hv
theorem Vw.ext (hv : Vw lo hi h t cs d) (e : Ext h h') : Vw lo hi h' t cs d := Rp.same e.le (fun l _ hn => e.obj l hn) (fun l hl _ => hl) hv
theorem Vw.wide (hv : Vw lo hi h t cs d) (h1 : lo' ≤ lo) (h2 : hi ≤ hi') : Vw lo' hi' h t cs d := Rp.same (Nat.le_refl _) (fun _ _ _ => rfl) (fun l hl _ => ⟨by omega, by omega⟩) hv
theorem Ow.trn (ho : Ow lo hi h t cs d) (tr : Trn lo' hi' h h') (hd : hi ≤ lo' ∨ hi' ≤ lo) : Ow lo hi h' t cs d := by
  obtain ⟨⟨fs, h1, h2, h3⟩, h4⟩ := ho
  exact ⟨⟨fs, h1.same tr.le (fun l hl => tr.obj l (h1.lt l hl) (by have := h3 l hl; omega)), h2, h3⟩, Nat.le_trans h4 tr.le⟩
theorem Ow.ext (ho : Ow lo hi h t cs d) (e : Ext h h') : Ow lo hi h' t cs d := by
  obtain ⟨⟨fs, h1, h2, h3⟩, h4⟩ := ho
  exact ⟨⟨fs, h1.same e.le (fun l hl => e.obj l (h1.lt l hl)), h2, h3⟩, Nat.le_trans h4 e.le⟩
theorem Ow.wide (ho : Ow lo hi h t cs d) (h1 : lo' ≤ lo) (h2 : hi ≤ hi') (h3 : hi' ≤ h.n) : Ow lo' hi' h t cs d := by
  obtain ⟨⟨fs, a, b, c⟩, _⟩ := ho
  exact ⟨⟨fs, a, b, fun l hl => by have := c l hl; omega⟩, h3⟩
theorem Ow.view (ho : Ow lo hi h t cs d) : Vw lo hi h t cs d := by
  obtain ⟨⟨fs, a, b, c⟩, _⟩ := ho
  exact a.view c
theorem Vw.len (hv : Vw lo hi h t cs d) : cs.length = t.sz := Rp.len hv
theorem Vw.one (hv : Vw lo hi h t cs d) : ∀ v ∈ cs, v.one = true := Rp.one hv
theorem Ow.len (ho : Ow lo hi h t cs d) : cs.length = t.sz := ho.view.len
theorem Ow.one (ho : Ow lo hi h t cs d) : ∀ v ∈ cs, v.one = true := ho.view.one
theorem Ow.le (ho : Ow lo hi h t cs d) : hi ≤ h.n := ho.2
theorem Ow.cat {lo1 hi1 lo2 hi2 : Nat} {t2 : Ty} {cs2 : List IV} {d2 : Dat} (h1 : Ow lo1 hi1 h t cs d) (h2 : Ow lo2 hi2 h t2 cs2 d2) (hd : hi1 ≤ lo2 ∨ hi2 ≤ lo1) (a1 : lo ≤ lo1) (a2 : lo ≤ lo2) (b1 : hi1 ≤ hi) (b2 : hi2 ≤ hi) (hh : hi ≤ h.n) :
    Ow lo hi h (.cat t t2) (cs ++ cs2) (.pair d d2) := by
  obtain ⟨⟨fs, x1, y1, z1⟩, g1⟩ := h1
  obtain ⟨⟨gs, x2, y2, z2⟩, g2⟩ := h2
  refine ⟨⟨fs ++ gs, ⟨cs, cs2, d, d2, fs, gs, rfl, rfl, rfl, x1, x2⟩, ?_, ?_⟩, hh⟩
  · refine List.nodup_append.2 ⟨y1, y2, fun x hx y hy e => ?_⟩
    subst e
    have := z1 x hx; have := z2 x hy; omega
  · intro l hl
    rcases List.mem_append.1 hl with hl | hl
    · have := z1 l hl; omega
    · have := z2 l hl; omega
theorem Ow.flat {fs : List Nat} (hf : fs = []) (hr : Ro h t cs d fs) (hh : hi ≤ h.n) : Ow lo hi h t cs d := by
  subst hf
  exact ⟨⟨[], hr, List.nodup_nil, fun _ h => by simp at h⟩, hh⟩
end
end Go.IW

namespace Go.IW
open Go Go.RowKit
variable {P : Program}

def seqs : List CC → CC
  | [] => .skip
  | [c] => c
  | c :: l => .seq c (seqs l)
def vcs (P : Program) : List CC → EPost → Env → IH → Prop
  | [], K, e, h => K .normal e h
  | c :: l, K, e, h => vc P c (seqK (vcs P l K) K) e h
theorem vcs_nil (K : EPost) (e : Env) (h : IH) : vcs P [] K e h = K .normal e h := nr rfl
theorem vcs_cons (c : CC) (l : List CC) (K : EPost) (e : Env) (h : IH) : vcs P (c :: l) K e h = vc P c (seqK (vcs P l K) K) e h := nr rfl
theorem seqK_self (K : EPost) : seqK (K .normal) K = K := by
  funext x e h
  cases x <;> rfl
theorem vc_seqs : ∀ (l : List CC) (K : EPost) (e : Env) (h : IH), vc P (seqs l) K e h = vcs P l K e h
  | [], K, e, h => rfl
  | [c], K, e, h => by
    show vc P c K e h = vc P c (seqK (K .normal) K) e h
    rw [seqK_self]
  | c :: d :: l, K, e, h => by
    show vc P c (seqK (vc P (seqs (d :: l)) K) K) e h = vc P c (seqK (vcs P (d :: l) K) K) e h
    have : vc P (seqs (d :: l)) K = vcs P (d :: l) K := by funext e h; exact vc_seqs (d :: l) K e h
    rw [this]
def Ty.scal : Ty → Bool
  | .bool | .int _ | .str => true
  | _ => false
theorem scal_sz {t : Ty} (hs : t.scal = true) : t.sz = 1 := by cases t <;> first | rfl | cases hs
theorem scal_view {t : Ty} (hs : t.scal = true) {S : Nat → Prop} {h : IH} {cs : List IV} {d : Dat} (hv : Rp S h t cs d) : ∃ v, cs = [v] ∧ v.one = true ∧ ∀ h', Ro h' t [v] d [] := by
  cases t with
  | bool => obtain ⟨x, rfl, rfl⟩ := hv; exact ⟨_, rfl, rfl, fun _ => ⟨x, rfl, rfl, rfl⟩⟩
  | int k => obtain ⟨x, rfl, rfl⟩ := hv; exact ⟨_, rfl, rfl, fun _ => ⟨x, rfl, rfl, rfl⟩⟩
  | str => obtain ⟨x, rfl, rfl⟩ := hv; exact ⟨_, rfl, rfl, fun _ => ⟨x, rfl, rfl, rfl⟩⟩
  | _ => cases hs
theorem pk_one {t : Ty} {v : IV} (h : t.one = true) : t.pk [v] = v := by simp [Ty.pk, h]
theorem pk_agg {t : Ty} {cs : List IV} (h : t.one = false) : t.pk cs = .agg cs := by simp [Ty.pk, h]
theorem one_sz {t : Ty} (h : t.one = true) : t.sz = 1 := by cases t <;> first | rfl | cases h
theorem pk_cells {t : Ty} {cs : List IV} (hl : cs.length = t.sz) (h1 : ∀ v ∈ cs, v.one = true) : (t.pk cs).cells = cs := by
  cases ht : t.one
  · rw [pk_agg ht]; rfl
  · rw [one_sz ht] at hl
    match cs, hl with
    | [v], _ =>
      rw [pk_one ht]
      have := h1 v (by simp)
      cases v <;> first | rfl | (simp [IV.one] at this)

def tyOf : List (Ty × Option Nat) → Ty
  | [] => .nil
  | (t, _) :: r => .cat t (tyOf r)
def Flds (C : Nat → Ty → Prop) : List (Ty × Option Nat) → Prop
  | [] => True
  | (t, none) :: r => t.scal = true ∧ Flds C r
  | (t, some g) :: r => C g t ∧ Flds C r
def ldT (t : Ty) (a : CX) : FK := if t.one then .ld a else .ldA t.sz a

def ToC (P : Program) (g : Nat) (t : Ty) : Prop := ∀ (h : IH) (cs : List IV) (d : Dat), Vw 0 h.n h t cs d → d.tot ≤ 1048576 →
  ICalls P g [t.pk cs] h fun r h' => ∃ cs', r = t.pk cs' ∧ Ow h.n h'.n h' t cs' d ∧ Ext h h'
def toFs (sz : Nat) : List (Ty × Option Nat) → Nat → Nat → List CC
  | [], _, t => [.reg [⟨some t, none, .f (.ldA sz (.t 3))⟩, ⟨none, none, .x (.st sz (.t 2) (.t t))⟩], .ret]
  | (_, none) :: r, off, t => .reg [⟨some t, none, .f (.fadr off (.t 1))⟩, ⟨some (t + 1), none, .f (.ld (.t t))⟩, ⟨some (t + 2), none, .f (.fadr off (.t 3))⟩, ⟨none, none, .x (.st 1 (.t (t + 2)) (.t (t + 1)))⟩] :: toFs sz r (off + 1) (t + 3)
  | (ty, some g) :: r, off, t => .reg [⟨some t, none, .f (.fadr off (.t 1))⟩, ⟨some (t + 1), none, .f (ldT ty (.t t))⟩, ⟨some (t + 2), none, .x (.call g [.t (t + 1)])⟩, ⟨some (t + 3), none, .f (.fadr off (.t 3))⟩,
      ⟨none, none, .x (.st ty.sz (.t (t + 3)) (.t (t + 2)))⟩] :: toFs sz r (off + ty.sz) (t + 4)
def toC (ein eout sz : Nat) (zs : List IV) (fs : List (Ty × Option Nat)) : CC :=
  seqs (.reg [⟨some 1, none, .x (.box ein sz (.t 0))⟩, ⟨some 2, none, .x (.zero eout sz zs)⟩] :: .reg [⟨some 3, none, .x (.zero eout sz zs)⟩] :: toFs sz fs 0 4)

structure Oth (o q : Nat) (h h' : IH) : Prop where
  le : h.n ≤ h'.n
  obj : ∀ l, l < h.n → l ≠ o → l ≠ q → h'.obj l = h.obj l
theorem Oth.trans {o q : Nat} {a b c : IH} (h1 : Oth o q a b) (h2 : Oth o q b c) : Oth o q a c :=
  ⟨Nat.le_trans h1.le h2.le, fun l hl x y => (h2.obj l (Nat.lt_of_lt_of_le hl h1.le) x y).trans (h1.obj l hl x y)⟩
theorem Oth.ext {o q : Nat} {a b : IH} (e : Ext a b) : Oth o q a b := ⟨e.le, fun l hl _ _ => e.obj l hl⟩
theorem Oth.set1 {o q : Nat} {h : IH} (x : IObj) : Oth o q h (h.set o x) := ⟨Nat.le_refl _, fun l _ a _ => set_there _ _ _ _ a⟩
theorem Oth.set2 {o q : Nat} {h : IH} (x : IObj) : Oth o q h (h.set q x) := ⟨Nat.le_refl _, fun l _ _ a => set_there _ _ _ _ a⟩
theorem Vw.oth {o q lo hi : Nat} {h h' : IH} {t : Ty} {cs : List IV} {d : Dat} (hv : Vw lo hi h t cs d) (T : Oth o q h h') (h1 : hi ≤ o) (h2 : hi ≤ q) : Vw lo hi h' t cs d :=
  Rp.same T.le (fun l hl hn => T.obj l hn (by omega) (by omega)) (fun l hl _ => hl) hv
theorem Ow.oth {o q lo hi : Nat} {h h' : IH} {t : Ty} {cs : List IV} {d : Dat} (ho : Ow lo hi h t cs d) (T : Oth o q h h') (h1 : o < lo) (h2 : q < lo) : Ow lo hi h' t cs d := by
  obtain ⟨⟨fs, a, b, c⟩, g⟩ := ho
  exact ⟨⟨fs, a.same T.le (fun l hl => T.obj l (a.lt l hl) (by have := c l hl; omega) (by have := c l hl; omega)), b, c⟩, Nat.le_trans g T.le⟩
theorem sto_mid {k l : Nat} {cs pre mid suf : List IV} {el sz : Nat} {h : IH} {K : HoldK} (hk : k = pre.length) (hm : mid.length = cs.length) (h1 : ∀ v ∈ cs, v.one = true)
    (hK : K.k (.tuple []) (h.set l (.rows [pre ++ (cs ++ suf)] el sz false))) : @stO cs.length 0 k cs l (.rows [pre ++ (mid ++ suf)] el sz false) h K := by
  refine stO_of (row := pre ++ (mid ++ suf)) rfl rfl (by simp; omega) h1 ?_
  have : wrt (pre ++ (mid ++ suf)) k cs = pre ++ (cs ++ suf) := by
    rw [wrt_eq _ _ _ (by simp; omega), hk, ← hm]
    simp [List.take_append, List.drop_append]
  rw [this]
  exact hK
theorem cell_mid {k : Nat} {v : IV} {pre suf : List IV} (hk : k = pre.length) : (pre ++ ([v] ++ suf))[k]? = some v := by
  subst hk; simp
theorem rowA_mid {k n : Nat} {pre mid suf : List IV} (hk : k = pre.length) (hn : n = mid.length) : rowA (some (pre ++ (mid ++ suf))) k n = some (.agg mid) := by
  subst hk hn
  rw [rowA_some _ _ _ (by simp)]
  simp
theorem one_cells {v : IV} (hv : v.one = true) : v.cells = [v] := by cases v <;> first | rfl | cases hv
theorem ldT_mid {t : Ty} {h : IH} {p : Nat} {pre cs suf : List IV} {e sz : Nat} {ro : Bool} {x : CX} {en : Env} (hx : x.ev en = .ptr p 0 pre.length) (ho : h.obj p = .rows [pre ++ (cs ++ suf)] e sz ro) (hl : cs.length = t.sz) :
    feval en h (ldT t x) = some (t.pk cs) := by
  cases ht : t.one
  · simp only [ldT, ht, fe_ldA, hx, ldAF_ptr, row_eq, ho, rowO_rows, List.getElem?_cons_zero, pk_agg ht, Bool.false_eq_true, if_false]
    exact rowA_mid rfl hl.symm
  · rw [one_sz ht] at hl
    match cs, hl with
    | [v], _ =>
      simp only [ldT, ht, fe_ld, hx, ldF_ptr, cell_eq, ho, cellO_rows, List.getElem?_cons_zero, pk_one ht, if_true, Option.bind_some]
      exact cell_mid rfl

theorem toFs_vc {sz ein eout n0 p q o : Nat} {zs : List IV} (hzs : zs.length = sz) (hp : n0 ≤ p) (hq : n0 ≤ q) (ho : n0 ≤ o) (pq : p ≠ q) (po : p ≠ o) (qo : q ≠ o) :
    ∀ (fs : List (Ty × Option Nat)) (t : Nat) (e : Env) (h : IH) (apre ar opre os : List IV) (d : Dat) (K : EPost), 4 ≤ t → e 1 = .ptr p 0 0 → e 2 = .ptr q 0 0 → e 3 = .ptr o 0 0 →
      p < h.n → q < h.n → o < h.n → h.obj p = .rows [apre ++ ar] ein sz false → h.obj q = .rows [zs] eout sz false → h.obj o = .rows [opre ++ os] eout sz false →
      apre.length = opre.length → ar.length = os.length → opre.length + os.length = sz → (∀ v ∈ opre, v.one = true) → Vw 0 n0 h (tyOf fs) ar d → d.tot ≤ 1048576 → Flds (ToC P) fs →
      (∀ e' h' cr, e' 2 = .ptr q 0 0 → h'.obj q = .rows [opre ++ cr] eout sz false → Ow h.n h'.n h' (tyOf fs) cr d → Oth o q h h' → K .ret e' h') → vcs P (toFs sz fs opre.length t) K e h
  | [], t, e, h, apre, ar, opre, os, d, K, ht, e1, e2, e3, lp, lq, lo, op, oq, oo, la, lr, ls, hone, hv, hd, hf, hK => by
    obtain ⟨rfl, rfl⟩ := hv
    have hos : os = [] := List.length_eq_zero_iff.1 (by simpa using lr.symm)
    subst hos
    have hol : opre.length = sz := by simpa using ls
    rw [List.append_nil] at oo
    unfold toFs
    simp (disch := omega) only [vcs_cons, vcs_nil, go_sem, ↓act_zero, boxA_1, boxA_2, boxA_3, bslA_1, upd_eq, upd_ne, e1, e2, e3, oo, rowA_whole _ _ hol, Hold.p, HoldK.k, List.getElem?_cons_zero, oq]
    refine stO_of (row := zs) rfl hol (by omega) hone ?_
    have hw : wrt zs 0 opre = opre := by rw [wrt_all (by omega)]
    simp (disch := omega) only [vcs_cons, vcs_nil, go_sem, ↓act_zero, boxA_1, boxA_2, boxA_3, bslA_1, upd_eq, upd_ne, e1, e2, e3, hw, Hold.p, HoldK.k, sz0]
    refine hK _ _ [] (by simp (disch := omega) only [upd_eq, upd_ne, e2]) (by rw [set_here, List.append_nil]) ⟨⟨[], ⟨rfl, rfl, rfl⟩, List.nodup_nil, by simp⟩, Nat.le_refl _⟩ (Oth.set2 _)
  | (ty, none) :: r, t, e, h, apre, ar, opre, os, d, K, ht, e1, e2, e3, lp, lq, lo, op, oq, oo, la, lr, ls, hone, hv, hd, hf, hK => by
    obtain ⟨c1, c2, d1, d2, rfl, rfl, h1, h2⟩ := hv
    obtain ⟨hs, hf⟩ := hf
    obtain ⟨v, rfl, hv1, hro⟩ := scal_view hs h1
    match os, lr with
    | o0 :: os, lr =>
    have lr' : c2.length = os.length := by simpa using lr
    have x1 := cell_mid (k := opre.length) (v := v) (pre := apre) (suf := c2) la.symm
    unfold toFs
    simp (disch := omega) only [vcs_cons, vcs_nil, go_sem, ↓act_zero, boxA_1, boxA_2, boxA_3, bslA_1, upd_eq, upd_ne, e1, e2, e3, op, oo, x1, Hold.p, HoldK.k, List.getElem?_cons_zero, Option.bind_some, Nat.zero_add, one_cells hv1]
    refine sto_mid (cs := [v]) (mid := [o0]) (pre := opre) (suf := os) rfl rfl (by simpa using hv1) ?_
    simp (disch := omega) only [vcs_cons, vcs_nil, go_sem, ↓act_zero, boxA_1, boxA_2, boxA_3, bslA_1, Hold.p, HoldK.k]
    have e4 : opre.length + 1 = (opre ++ [v]).length := by simp
    rw [e4]
    refine toFs_vc (ein := ein) hzs hp hq ho pq po qo r (t + 3) _ _ (apre ++ [v]) c2 (opre ++ [v]) os d2 K (by omega) (by simp (disch := omega) only [upd_ne, e1]) (by simp (disch := omega) only [upd_ne, e2]) (by simp (disch := omega) only [upd_ne, e3])
      lp lq lo (by rw [set_there _ _ _ _ po, op]; simp) (by rw [set_there _ _ _ _ qo, oq]) (by rw [set_here]; simp) (by simp [la]) lr' (by simp at ls ⊢; omega) ?_ ?_ (by simp [Dat.tot] at hd; omega) hf ?_
    · intro x hx
      rcases List.mem_append.1 hx with hx | hx
      · exact hone x hx
      · simp at hx; subst hx; exact hv1
    · exact Vw.oth h2 (Oth.set1 (o := o) (q := q) _) ho hq
    · intro e' h' cr a1 a2 a3 a4
      refine hK e' h' (v :: cr) a1 (by rw [a2]; simp) ?_ ((Oth.set1 _).trans a4)
      have : Ow h.n h.n h' ty [v] d1 := Ow.flat rfl (hro _) (Nat.le_trans (Nat.le_refl _) (Nat.le_trans (by rw [set_n]; exact Nat.le_refl _) a4.le))
      exact this.cat a3 (.inl (Nat.le_refl _)) (Nat.le_refl _) (Nat.le_refl _) a4.le (Nat.le_refl _) (Nat.le_refl _)
  | (ty, some g) :: r, t, e, h, apre, ar, opre, os, d, K, ht, e1, e2, e3, lp, lq, lo, op, oq, oo, la, lr, ls, hone, hv, hd, hf, hK => by
    obtain ⟨c1, c2, d1, d2, rfl, rfl, h1, h2⟩ := hv
    obtain ⟨hs, hf⟩ := hf
    have hl1 := Rp.len h1
    have hn0 : n0 ≤ h.n := by omega
    have lsz : ty.sz ≤ os.length := by rw [← lr]; simp; omega
    obtain ⟨om, os2, rfl, hom⟩ : ∃ om os2, os = om ++ os2 ∧ om.length = ty.sz := ⟨os.take ty.sz, os.drop ty.sz, (List.take_append_drop _ _).symm, by simp; omega⟩
    have lr' : c2.length = os2.length := by simp at lr; omega
    have x1 : feval (upd e t (.ptr p 0 opre.length)) h (ldT ty (.t t)) = some (ty.pk c1) := ldT_mid (pre := apre) (by simp only [ev_t, upd_eq, la]) op hl1
    unfold toFs
    simp (disch := omega) only [vcs_cons, vcs_nil, go_sem, ↓act_zero, boxA_1, boxA_2, boxA_3, bslA_1, upd_eq, upd_ne, e1, e2, e3, x1, Hold.p, HoldK.k, Nat.zero_add, mc0, mn0]
    simp only [Dat.tot] at hd
    refine callA_of (hs h c1 d1 (Vw.wide (hv := h1) (Nat.le_refl _) hn0) (by omega)) ?_
    rintro r1 h3 ⟨cs', rfl, ow, E⟩
    have hle := E.le
    have hcl := ow.len
    have q1 := (E.obj o lo).trans oo
    simp (disch := omega) only [vcs_cons, vcs_nil, go_sem, ↓act_zero, boxA_1, boxA_2, boxA_3, bslA_1, upd_eq, upd_ne, e1, e2, e3, q1, Hold.p, HoldK.k, List.getElem?_cons_zero, Option.bind_some, Nat.zero_add, pk_cells hcl ow.one]
    rw [← hcl]
    refine sto_mid (cs := cs') (mid := om) (pre := opre) (suf := os2) rfl (by omega) ow.one ?_
    simp (disch := omega) only [vcs_cons, vcs_nil, go_sem, ↓act_zero, boxA_1, boxA_2, boxA_3, bslA_1, Hold.p, HoldK.k]
    have e4 : opre.length + cs'.length = (opre ++ cs').length := by simp
    rw [e4]
    have T1 : Oth o q h (h3.set o (.rows [opre ++ (cs' ++ os2)] eout sz false)) := (Oth.ext E).trans (Oth.set1 _)
    refine toFs_vc (ein := ein) hzs hp hq ho pq po qo r (t + 4) _ _ (apre ++ c1) c2 (opre ++ cs') os2 d2 K (by omega) (by simp (disch := omega) only [upd_ne, e1]) (by simp (disch := omega) only [upd_ne, e2]) (by simp (disch := omega) only [upd_ne, e3])
      (Nat.lt_of_lt_of_le lp hle) (Nat.lt_of_lt_of_le lq hle) (Nat.lt_of_lt_of_le lo hle) (by rw [set_there _ _ _ _ po, E.obj p lp, op]; simp) (by rw [set_there _ _ _ _ qo, E.obj q lq, oq]) (by rw [set_here]; simp) (by simp [la]; omega) lr' (by simp at ls ⊢; omega) ?_ ?_ (by omega) hf ?_
    · intro x hx
      rcases List.mem_append.1 hx with hx | hx
      · exact hone x hx
      · exact ow.one x hx
    · exact Vw.oth h2 T1 ho hq
    · intro e' h' cr a1 a2 a3 a4
      rw [set_n] at a3
      refine hK e' h' (cs' ++ cr) a1 (by rw [a2]; simp) ?_ (T1.trans a4)
      have ow1 : Ow h.n h3.n h' ty cs' d1 := (ow.oth (Oth.set1 (o := o) (q := q) _) lo lq).oth a4 lo lq
      exact ow1.cat a3 (.inl (Nat.le_refl _)) (Nat.le_refl _) hle (show h3.n ≤ h'.n from a4.le) (Nat.le_refl _) (Nat.le_refl _)

set_option maxRecDepth 20000 in
theorem toSt_calls {f N ein eout sz : Nat} {zs : List IV} {fs : List (Ty × Option Nat)} (hf : fnComp P f = some (N, toC ein eout sz zs fs, [.ldA sz (.t 2)])) (hN : 1 ≤ N) (hz : zs.length = sz) (hs : (tyOf fs).sz = sz) (hz1 : zs.all IV.one = true) (hfl : Flds (ToC P) fs) :
    ToC P f (tyOf fs) := by
  intro h cs d hv hd
  have hpk : (tyOf fs).pk cs = .agg cs := pk_agg (by cases fs with | nil => rfl | cons a r => obtain ⟨x, y⟩ := a; rfl)
  rw [hpk]
  have hl := Rp.len hv
  refine icalls (.of hf) (by simpa using hN) ?_
  unfold toC
  rw [vc_seqs]
  simp only [vcs_cons, vcs_nil, go_sem, ↓act_zero, boxA_1, boxA_2, boxA_3, bslA_1, Nat.reduceBEq, Hold.p, HoldK.k]
  refine boxA_of (by rw [hl, hs]) (Rp.one hv) ?_
  simp only [vcs_cons, vcs_nil, go_sem, ↓act_zero, boxA_1, boxA_2, boxA_3, bslA_1, Nat.reduceBEq, Hold.p, HoldK.k, Nat.add_assoc, Nat.reduceAdd]
  generalize hg : ((h.push (.rows [cs] ein sz false)).push (.rows [zs] eout sz false)).push (.rows [zs] eout sz false) = g
  have gn : g.n = h.n + 3 := by rw [← hg]; rfl
  have o0 : g.obj h.n = .rows [cs] ein sz false := by rw [← hg, push_old _ _ _ (by simp only [push_n]; omega), push_old _ _ _ (by simp only [push_n]; omega), push_new]
  have o1 : g.obj (h.n + 1) = .rows [zs] eout sz false := by rw [← hg, push_old _ _ _ (by simp only [push_n]; omega)]; exact push_at _ _ _ rfl
  have o2 : g.obj (h.n + 2) = .rows [zs] eout sz false := by rw [← hg]; exact push_at _ _ _ rfl
  have E : Ext h g := by rw [← hg]; exact (((Ext.refl _).push _).push _).push _
  clear hg
  refine toFs_vc (ein := ein) (eout := eout) (zs := zs) (n0 := h.n) (p := h.n) (q := h.n + 1) (o := h.n + 2) hz (Nat.le_refl _) (by omega) (by omega) (by omega) (by omega) (by omega) fs 4 _ g [] cs [] zs d _ (Nat.le_refl _)
    (by simp only [go_sem, ↓act_zero, boxA_1, boxA_2, boxA_3, bslA_1, Nat.reduceBEq]) (by simp only [go_sem, ↓act_zero, boxA_1, boxA_2, boxA_3, bslA_1, Nat.reduceBEq]) (by simp only [go_sem, ↓act_zero, boxA_1, boxA_2, boxA_3, bslA_1, Nat.reduceBEq]) (by omega) (by omega) (by omega) (by simpa using o0) o1 (by simpa using o2) rfl (by omega) (by simpa using hz) (by simp) (Vw.ext hv E) hd hfl ?_
  intro e' h' cr a1 a2 a3 a4
  have hcl := a3.len
  rw [hs] at hcl
  simp only [go_sem, ↓act_zero, boxA_1, boxA_2, boxA_3, bslA_1, a1, a2, na0, List.getElem?_cons_zero, rowA_whole _ _ hcl, HoldK.k]
  refine ⟨cr, (pk_agg (by cases fs with | nil => rfl | cons a r => obtain ⟨x, y⟩ := a; rfl)).symm, a3.wide (by omega) (Nat.le_refl _) (Nat.le_refl _), ?_⟩
  exact ⟨by have := a4.le; omega, fun l hl => (a4.obj l (by omega) (by omega) (by omega)).trans (E.obj l hl)⟩

mutual
def Dat.ok : Dat → Prop
  | .str s => s.length ≤ maxLen
  | .list l => l.length ≤ maxLen ∧ okL l
  | .pair a b => a.ok ∧ b.ok
  | _ => True
def okL : List Dat → Prop
  | [] => True
  | d :: l => d.ok ∧ okL l
end
theorem okL_mem : ∀ {l : List Dat} {d : Dat}, okL l → d ∈ l → d.ok
  | x :: l, d, h, hm => by
    rcases List.mem_cons.1 hm with rfl | hm
    · exact h.1
    · exact okL_mem h.2 hm
def SzR (left : Int) (r : IV) (n : Nat) : Prop := ∃ L : Int, r = .int .i64 L ∧ L ≤ left ∧ (0 ≤ L → L + n ≤ left)
def SzC (P : Program) (g : Nat) (t : Ty) : Prop := ∀ (h : IH) (cs : List IV) (d : Dat) (left : Int), Vw 0 h.n h t cs d → d.ok → 0 ≤ left ∧ left ≤ 1048576 →
  ICalls P g [t.pk cs, .int .i64 left] h fun r h' => SzR left r d.tot ∧ Ext h h'
inductive SzK where
  | no
  | text
  | sub (g : Nat)
def szOk (P : Program) : List (Ty × SzK) → Prop
  | [] => True
  | (t, .no) :: r => (∀ S h cs d, Rp S h t cs d → d.tot = 0) ∧ szOk P r
  | (t, .text) :: r => t = .str ∧ szOk P r
  | (t, .sub g) :: r => SzC P g t ∧ szOk P r
def tyZ : List (Ty × SzK) → Ty
  | [] => .nil
  | (t, _) :: r => .cat t (tyZ r)
def neg1 (t : Nat) : List CC := [.seq (.reg [⟨some t, none, .f (.mv (.t 1))⟩, ⟨some (t + 1), none, .f (.bin .lss (.t t) (.c (.int .i64 0)))⟩])
  (.cond (.t (t + 1)) (.seq (.reg [⟨some 4, none, .f (.mv (.c (.int .i64 (-1))))⟩]) .ret) .skip)]
def szFs : List (Ty × SzK) → Nat → Nat → List CC
  | [], _, t => [.reg [⟨some t, none, .f (.mv (.t 1))⟩, ⟨some 4, none, .f (.mv (.t t))⟩], .ret]
  | (ty, .no) :: r, off, t => szFs r (off + ty.sz) t
  | (ty, .text) :: r, off, t => .reg [⟨some t, none, .f (.mv (.t 1))⟩, ⟨some (t + 1), none, .f (.fadr off (.t 2))⟩, ⟨some (t + 2), none, .f (.ld (.t (t + 1)))⟩, ⟨some (t + 3), none, .f (.lenS (.t (t + 2)))⟩,
      ⟨some (t + 4), none, .f (.bin .sub (.t t) (.t (t + 3)))⟩, ⟨some 1, none, .f (.mv (.t (t + 4)))⟩] :: (neg1 (t + 5) ++ szFs r (off + 1) (t + 7))
  | (ty, .sub g) :: r, off, t => .reg [⟨some t, none, .f (.fadr off (.t 2))⟩, ⟨some (t + 1), none, .f (ldT ty (.t t))⟩, ⟨some (t + 2), none, .f (.mv (.t 1))⟩, ⟨some (t + 3), none, .x (.call g [.t (t + 1), .t (t + 2)])⟩,
      ⟨some 1, none, .f (.mv (.t (t + 3)))⟩] :: (neg1 (t + 4) ++ szFs r (off + ty.sz) (t + 6))
def szC (ein sz : Nat) (fs : List (Ty × SzK)) : CC :=
  seqs (.reg [⟨some 2, none, .x (.box ein sz (.t 0))⟩, ⟨some 4, none, .f (.mv (.c (.int .i64 0)))⟩] :: szFs fs 0 5)
def Ty.flat : Ty → Bool
  | .nil | .bool | .int _ => true
  | .cat a b => a.flat && b.flat
  | _ => false
theorem flat_tot : ∀ {t : Ty}, t.flat = true → ∀ (S : Nat → Prop) (h : IH) (cs : List IV) (d : Dat), Rp S h t cs d → d.tot = 0
  | .nil, _, _, _, _, _, hv => by obtain ⟨_, rfl⟩ := hv; rfl
  | .bool, _, _, _, _, _, hv => by obtain ⟨_, _, rfl⟩ := hv; rfl
  | .int _, _, _, _, _, _, hv => by obtain ⟨_, _, rfl⟩ := hv; rfl
  | .cat a b, hf, S, h, cs, d, hv => by
    simp only [Ty.flat, Bool.and_eq_true] at hf
    obtain ⟨c1, c2, d1, d2, rfl, rfl, h1, h2⟩ := hv
    simp only [Dat.tot, flat_tot hf.1 _ _ _ _ h1, flat_tot hf.2 _ _ _ _ h2]
theorem neg1_vc {t : Nat} {L : Int} {e : Env} {h : IH} {K : EPost} {l : List CC} (ht : 5 ≤ t) (e1 : e 1 = .int .i64 L)
    (hn : L < 0 → ∀ e', e' 4 = .int .i64 (-1) → K .ret e' h) (hp : 0 ≤ L → ∀ e', e' 1 = .int .i64 L → e' 2 = e 2 → vcs P l K e' h) : vcs P (neg1 t ++ l) K e h := by
  unfold neg1
  rw [List.singleton_append]
  simp (disch := omega) only [vcs_cons, go_sem, ↓act_zero, boxA_1, boxA_2, boxA_3, bslA_1, upd_eq, upd_ne, e1, Hold.p]
  refine test_dec (fun hb => ?_) (fun hb => ?_)
  · simp (disch := omega) only [go_sem, ↓act_zero, boxA_1, boxA_2, boxA_3, bslA_1, upd_eq, upd_ne]
    exact hn hb _ (by simp (disch := omega) only [upd_eq])
  · simp (disch := omega) only [go_sem, ↓act_zero, boxA_1, boxA_2, boxA_3, bslA_1, upd_eq, upd_ne]
    exact hp (by omega) _ (by simp (disch := omega) only [upd_ne, e1]) (by simp (disch := omega) only [upd_ne])

theorem szFs_vc {ein sz p n0 : Nat} {left : Int} {h0 : IH} (hn0 : n0 ≤ p) (hleft : left ≤ 1048576) (K : EPost) (n : Nat)
    (hK : ∀ e' h' L, e' 4 = .int .i64 L → Ext h0 h' → L ≤ left → (0 ≤ L → L + n ≤ left) → K .ret e' h') :
    ∀ (fs : List (Ty × SzK)) (t : Nat) (e : Env) (h : IH) (apre ar : List IV) (d : Dat) (L : Int) (m : Nat), 5 ≤ t → e 1 = .int .i64 L → e 2 = .ptr p 0 0 → p < h.n → h.obj p = .rows [apre ++ ar] ein sz false →
      Vw 0 n0 h (tyZ fs) ar d → d.ok → szOk P fs → Ext h0 h → 0 ≤ L → L + m ≤ left → m + d.tot = n → vcs P (szFs fs apre.length t) K e h
  | [], t, e, h, apre, ar, d, L, m, ht, e1, e2, lp, op, hv, hd, hf, E, hL0, hL, hm => by
    obtain ⟨rfl, rfl⟩ := hv
    simp only [Dat.tot] at hm
    unfold szFs
    simp (disch := omega) only [vcs_cons, vcs_nil, go_sem, ↓act_zero, boxA_1, boxA_2, boxA_3, bslA_1, upd_eq, upd_ne, e1]
    exact hK _ _ L (by simp (disch := omega) only [upd_eq, upd_ne, e1]) E (by omega) (fun _ => by omega)
  | (ty, .no) :: r, t, e, h, apre, ar, d, L, m, ht, e1, e2, lp, op, hv, hd, hf, E, hL0, hL, hm => by
    obtain ⟨c1, c2, d1, d2, rfl, rfl, h1, h2⟩ := hv
    obtain ⟨hs, hf⟩ := hf
    have ht0 := hs _ _ _ _ h1
    simp only [Dat.tot] at hm
    have hl1 := Rp.len h1
    unfold szFs
    have e4 : apre.length + ty.sz = (apre ++ c1).length := by simp [hl1]
    rw [e4]
    exact szFs_vc (ein := ein) (sz := sz) hn0 hleft K n hK r t e h (apre ++ c1) c2 d2 L m ht e1 e2 lp (by rw [op]; simp) h2 hd.2 hf E hL0 hL (by omega)
  | (ty, .text) :: r, t, e, h, apre, ar, d, L, m, ht, e1, e2, lp, op, hv, hd, hf, E, hL0, hL, hm => by
    obtain ⟨c1, c2, d1, d2, rfl, rfl, h1, h2⟩ := hv
    obtain ⟨rfl, hf⟩ := hf
    obtain ⟨s, rfl, rfl⟩ := h1
    simp only [Dat.tot] at hm
    have hsl : s.length ≤ maxLen := hd.1
    have x1 := cell_mid (k := apre.length) (v := .str s) (pre := apre) (suf := c2) rfl
    have w0 : wr .i64 (L - (s.length : Int)) = L - (s.length : Int) := wr64 _ (by unfold maxLen at hsl; omega)
    unfold szFs
    simp (disch := omega) only [vcs_cons, go_sem, ↓act_zero, boxA_1, boxA_2, boxA_3, bslA_1, upd_eq, upd_ne, e1, e2, op, x1, Hold.p, HoldK.k, List.getElem?_cons_zero, Option.bind_some, Nat.zero_add, w0]
    refine neg1_vc (L := L - (s.length : Int)) (by omega) (by simp (disch := omega) only [upd_eq, upd_ne]) (fun hb e' a => hK e' h (-1) a E (by omega) (by omega)) (fun hb e' a1 a2 => ?_)
    have e4 : apre.length + 1 = (apre ++ [IV.str s]).length := by simp
    rw [e4]
    exact szFs_vc (ein := ein) (sz := sz) hn0 hleft K n hK r (t + 7) e' h (apre ++ [.str s]) c2 d2 _ (m + s.length) (by omega) a1 (by rw [a2]; simp (disch := omega) only [upd_ne, e2]) lp (by rw [op]; simp) h2 hd.2 hf E hb (by omega) (by omega)
  | (ty, .sub g) :: r, t, e, h, apre, ar, d, L, m, ht, e1, e2, lp, op, hv, hd, hf, E, hL0, hL, hm => by
    obtain ⟨c1, c2, d1, d2, rfl, rfl, h1, h2⟩ := hv
    obtain ⟨hs, hf⟩ := hf
    have hl1 := Rp.len h1
    simp only [Dat.tot] at hm
    have x1 : feval (upd e t (.ptr p 0 apre.length)) h (ldT ty (.t t)) = some (ty.pk c1) := ldT_mid (pre := apre) (by simp only [ev_t, upd_eq]) op hl1
    unfold szFs
    simp (disch := omega) only [vcs_cons, go_sem, ↓act_zero, boxA_1, boxA_2, boxA_3, bslA_1, upd_eq, upd_ne, e1, e2, x1, Hold.p, HoldK.k, Nat.zero_add, mc0, mn0]
    refine callA_of (hs h c1 d1 L (Vw.wide (hv := h1) (Nat.le_refl _) (by omega)) hd.1 (by omega)) ?_
    rintro r1 h3 ⟨⟨L2, rfl, hL2, hL3⟩, E2⟩
    simp (disch := omega) only [go_sem, ↓act_zero, boxA_1, boxA_2, boxA_3, bslA_1, upd_eq, upd_ne, Hold.p, HoldK.k]
    refine neg1_vc (L := L2) (by omega) (by simp (disch := omega) only [upd_eq, upd_ne]) (fun hb e' a => hK e' _ (-1) a (E.trans E2) (by omega) (by omega)) (fun hb e' a1 a2 => ?_)
    have e4 : apre.length + ty.sz = (apre ++ c1).length := by simp [hl1]
    rw [e4]
    have := hL3 hb
    exact szFs_vc (ein := ein) (sz := sz) hn0 hleft K n hK r (t + 6) e' h3 (apre ++ c1) c2 d2 _ (m + d1.tot) (by omega) a1 (by rw [a2]; simp (disch := omega) only [upd_ne, e2]) (Nat.lt_of_lt_of_le lp E2.le) (by rw [E2.obj p lp, op]; simp) (Vw.ext h2 E2) hd.2 hf (E.trans E2) hb (by omega) (by omega)
theorem tyZ_agg (fs : List (Ty × SzK)) : (tyZ fs).one = false := by
  cases fs with
  | nil => rfl
  | cons a r => obtain ⟨x, y⟩ := a; rfl
set_option maxRecDepth 20000 in
theorem szSt_calls {f N ein sz : Nat} {fs : List (Ty × SzK)} (hf : fnComp P f = some (N, szC ein sz fs, [.mv (.t 4)])) (hN : 2 ≤ N) (hs : (tyZ fs).sz = sz) (hfl : szOk P fs) : SzC P f (tyZ fs) := by
  intro h cs d left hv hd hleft
  rw [pk_agg (tyZ_agg fs)]
  have hl := Rp.len hv
  refine icalls (.of hf) (by simpa using hN) ?_
  unfold szC
  rw [vc_seqs]
  simp only [vcs_cons, vcs_nil, go_sem, ↓act_zero, boxA_1, boxA_2, boxA_3, bslA_1, Nat.reduceBEq, Hold.p, HoldK.k]
  refine boxA_of (by rw [hl, hs]) (Rp.one hv) ?_
  simp only [vcs_cons, vcs_nil, go_sem, ↓act_zero, boxA_1, boxA_2, boxA_3, bslA_1, Nat.reduceBEq, Hold.p, HoldK.k]
  have E : Ext h (h.push (.rows [cs] ein sz false)) := (Ext.refl _).push _
  refine szFs_vc (ein := ein) (sz := sz) (h0 := h) (n0 := h.n) (p := h.n) (left := left) (Nat.le_refl _) hleft.2 _ d.tot ?_ fs 5 _ _ [] cs d left 0 (Nat.le_refl _) (by simp only [go_sem, ↓act_zero, boxA_1, boxA_2, boxA_3, bslA_1, Nat.reduceBEq]) (by simp only [go_sem, ↓act_zero, boxA_1, boxA_2, boxA_3, bslA_1, Nat.reduceBEq]) (by simp only [push_n]; omega)
    (by rw [push_new]; rfl) (Vw.ext hv E) hd hfl E hleft.1 (by omega) (by omega)
  intro e' h' L a1 a2 a3 a4
  simp only [go_sem, ↓act_zero, boxA_1, boxA_2, boxA_3, bslA_1, a1, HoldK.k]
  exact ⟨⟨L, rfl, a3, a4⟩, a2⟩

def EqC (P : Program) (g : Nat) (t : Ty) : Prop := ∀ (h : IH) (c1 c2 : List IV) (d : Dat), Vw 0 h.n h t c1 d → Vw 0 h.n h t c2 d → d.tot ≤ 4611686018427387903 →
  ICalls P g [t.pk c1, t.pk c2] h fun r h' => r = .bool true ∧ Ext h h'
def neT (ty : Ty) (x y : CX) : FK := match ty with | .bool => .binB true x y | _ => .bin .neq x y
def eqFs : List (Ty × Option Nat) → Nat → Nat → List CC
  | [], _, t => [.reg [⟨some 4, none, .f (.mv (.c (.bool true)))⟩], .ret]
  | (ty, none) :: r, off, t => .seq (.reg [⟨some t, none, .f (.fadr off (.t 2))⟩, ⟨some (t + 1), none, .f (.ld (.t t))⟩, ⟨some (t + 2), none, .f (.fadr off (.t 3))⟩, ⟨some (t + 3), none, .f (.ld (.t (t + 2)))⟩,
      ⟨some (t + 4), none, .f (neT ty (.t (t + 1)) (.t (t + 3)))⟩])
      (.cond (.t (t + 4)) (.seq (.reg [⟨some 4, none, .f (.mv (.c (.bool false)))⟩]) .ret) .skip) :: eqFs r (off + 1) (t + 5)
  | (ty, some g) :: r, off, t => .seq (.reg [⟨some t, none, .f (.fadr off (.t 2))⟩, ⟨some (t + 1), none, .f (ldT ty (.t t))⟩, ⟨some (t + 2), none, .f (.fadr off (.t 3))⟩, ⟨some (t + 3), none, .f (ldT ty (.t (t + 2)))⟩,
      ⟨some (t + 4), none, .x (.call g [.t (t + 1), .t (t + 3)])⟩, ⟨some (t + 5), none, .f (.un .not (.t (t + 4)))⟩])
      (.cond (.t (t + 5)) (.seq (.reg [⟨some 4, none, .f (.mv (.c (.bool false)))⟩]) .ret) .skip) :: eqFs r (off + ty.sz) (t + 6)
def eqC (e1 e2 sz : Nat) (fs : List (Ty × Option Nat)) : CC :=
  seqs (.reg [⟨some 2, none, .x (.box e1 sz (.t 0))⟩, ⟨some 3, none, .x (.box e2 sz (.t 1))⟩, ⟨some 4, none, .f (.mv (.c (.bool false)))⟩] :: eqFs fs 0 5)
theorem scal_same {t : Ty} (hs : t.scal = true) {S S' : Nat → Prop} {h h' : IH} {cs cs' : List IV} {d : Dat} (hv : Rp S h t cs d) (hv' : Rp S' h' t cs' d) : ∃ v, cs = [v] ∧ cs' = [v] ∧
    (match t with | .bool => ibinB true v v | _ => ibin .neq v v) = some (.bool false) := by
  cases t with
  | bool => obtain ⟨x, rfl, rfl⟩ := hv; obtain ⟨y, rfl, e⟩ := hv'; cases e; exact ⟨_, rfl, rfl, by cases x <;> rfl⟩
  | int k => obtain ⟨x, rfl, rfl⟩ := hv; obtain ⟨y, rfl, e⟩ := hv'; cases e; exact ⟨_, rfl, rfl, by simp [ibin]⟩
  | str => obtain ⟨x, rfl, rfl⟩ := hv; obtain ⟨y, rfl, e⟩ := hv'; cases e; exact ⟨_, rfl, rfl, by simp [ibin]⟩
  | _ => cases hs
theorem eqFs_vc {a1 a2 sz p q n0 : Nat} {h0 : IH} (hp : n0 ≤ p) (hq : n0 ≤ q) (K : EPost) (hK : ∀ e' h', e' 4 = .bool true → Ext h0 h' → K .ret e' h') :
    ∀ (fs : List (Ty × Option Nat)) (t : Nat) (e : Env) (h : IH) (apre ar bpre br : List IV) (d : Dat), 5 ≤ t → e 2 = .ptr p 0 0 → e 3 = .ptr q 0 0 → p < h.n → q < h.n → h.obj p = .rows [apre ++ ar] a1 sz false → h.obj q = .rows [bpre ++ br] a2 sz false →
      apre.length = bpre.length → Vw 0 n0 h (tyOf fs) ar d → Vw 0 n0 h (tyOf fs) br d → d.tot ≤ 4611686018427387903 → Flds (EqC P) fs → Ext h0 h → vcs P (eqFs fs apre.length t) K e h
  | [], t, e, h, apre, ar, bpre, br, d, ht, e2, e3, lp, lq, op, oq, la, hv, hw, hd, hf, E => by
    unfold eqFs
    simp (disch := omega) only [vcs_cons, vcs_nil, go_sem, ↓act_zero, boxA_1, boxA_2, boxA_3, bslA_1, upd_eq, upd_ne]
    exact hK _ _ (by simp (disch := omega) only [upd_eq]) E
  | (ty, none) :: r, t, e, h, apre, ar, bpre, br, d, ht, e2, e3, lp, lq, op, oq, la, hv, hw, hd, hf, E => by
    obtain ⟨c1, c2, d1, d2, rfl, rfl, h1, h2⟩ := hv
    obtain ⟨b1, b2, d1', d2', rfl, hdd, g1, g2⟩ := hw
    cases hdd
    obtain ⟨hs, hf⟩ := hf
    obtain ⟨v, rfl, rfl, hb⟩ := scal_same hs h1 g1
    have x1 := cell_mid (k := apre.length) (v := v) (pre := apre) (suf := c2) rfl
    have x2 := cell_mid (k := apre.length) (v := v) (pre := bpre) (suf := b2) la
    simp only [Dat.tot] at hd
    have key : feval (upd (upd (upd (upd e t (.ptr p 0 apre.length)) (t + 1) v) (t + 2) (.ptr q 0 apre.length)) (t + 3) v) h (neT ty (.t (t + 1)) (.t (t + 3))) = some (.bool false) := by
      unfold neT
      cases ty <;> first | (cases hs; done) | (simp (disch := omega) only [go_sem, ↓act_zero, boxA_1, boxA_2, boxA_3, bslA_1, upd_eq, upd_ne]; exact hb)
    unfold eqFs
    simp (disch := omega) only [vcs_cons, go_sem, ↓act_zero, boxA_1, boxA_2, boxA_3, bslA_1, upd_eq, upd_ne, e2, e3, op, oq, x1, x2, key, Hold.p, HoldK.k, List.getElem?_cons_zero, Option.bind_some, Nat.zero_add]
    have e4 : apre.length + 1 = (apre ++ [v]).length := by simp
    rw [e4]
    exact eqFs_vc (a1 := a1) (a2 := a2) (sz := sz) hp hq K hK r (t + 5) _ h (apre ++ [v]) c2 (bpre ++ [v]) b2 d2 (by omega) (by simp (disch := omega) only [upd_ne, e2]) (by simp (disch := omega) only [upd_ne, e3]) lp lq (by rw [op]; simp) (by rw [oq]; simp) (by simp [la]) h2 g2 (by omega) hf E
  | (ty, some g) :: r, t, e, h, apre, ar, bpre, br, d, ht, e2, e3, lp, lq, op, oq, la, hv, hw, hd, hf, E => by
    obtain ⟨c1, c2, d1, d2, rfl, rfl, h1, h2⟩ := hv
    obtain ⟨b1, b2, d1', d2', rfl, hdd, g1, g2⟩ := hw
    cases hdd
    obtain ⟨hs, hf⟩ := hf
    have hl1 := Rp.len h1
    have hl2 := Rp.len g1
    simp only [Dat.tot] at hd
    have x1 : feval (upd e t (.ptr p 0 apre.length)) h (ldT ty (.t t)) = some (ty.pk c1) := ldT_mid (pre := apre) (by simp only [ev_t, upd_eq]) op hl1
    have x2 : feval (upd (upd (upd e t (.ptr p 0 apre.length)) (t + 1) (ty.pk c1)) (t + 2) (.ptr q 0 apre.length)) h (ldT ty (.t (t + 2))) = some (ty.pk b1) := ldT_mid (pre := bpre) (by simp only [ev_t, upd_eq, la]) oq hl2
    unfold eqFs
    simp (disch := omega) only [vcs_cons, go_sem, ↓act_zero, boxA_1, boxA_2, boxA_3, bslA_1, upd_eq, upd_ne, e2, e3, x1, x2, Hold.p, HoldK.k, Nat.zero_add, mc0, mn0]
    refine callA_of (hs h c1 b1 d1 (Vw.wide (hv := h1) (Nat.le_refl _) (by omega)) (Vw.wide (hv := g1) (Nat.le_refl _) (by omega)) (by omega)) ?_
    rintro r1 h3 ⟨rfl, E2⟩
    simp (disch := omega) only [go_sem, ↓act_zero, boxA_1, boxA_2, boxA_3, bslA_1, upd_eq, upd_ne, Hold.p, HoldK.k, Bool.not_true]
    have e4 : apre.length + ty.sz = (apre ++ c1).length := by simp [hl1]
    rw [e4]
    exact eqFs_vc (a1 := a1) (a2 := a2) (sz := sz) hp hq K hK r (t + 6) _ h3 (apre ++ c1) c2 (bpre ++ b1) b2 d2 (by omega) (by simp (disch := omega) only [upd_ne, e2]) (by simp (disch := omega) only [upd_ne, e3]) (Nat.lt_of_lt_of_le lp E2.le) (Nat.lt_of_lt_of_le lq E2.le)
      (by rw [E2.obj p lp, op]; simp) (by rw [E2.obj q lq, oq]; simp) (by simp [la, hl1, hl2]) (Vw.ext h2 E2) (Vw.ext g2 E2) (by omega) hf (E.trans E2)
theorem tyOf_agg (fs : List (Ty × Option Nat)) : (tyOf fs).one = false := by
  cases fs with
  | nil => rfl
  | cons a r => obtain ⟨x, y⟩ := a; rfl
set_option maxRecDepth 20000 in
theorem eqSt_calls {f N a1 a2 sz : Nat} {fs : List (Ty × Option Nat)} (hf : fnComp P f = some (N, eqC a1 a2 sz fs, [.mv (.t 4)])) (hN : 2 ≤ N) (hs : (tyOf fs).sz = sz) (hfl : Flds (EqC P) fs) : EqC P f (tyOf fs) := by
  intro h c1 c2 d hv hw hd
  rw [pk_agg (tyOf_agg fs), pk_agg (tyOf_agg fs)]
  have hl := Rp.len hv
  have hl2 := Rp.len hw
  refine icalls (.of hf) (by simpa using hN) ?_
  unfold eqC
  rw [vc_seqs]
  simp only [vcs_cons, vcs_nil, go_sem, ↓act_zero, boxA_1, boxA_2, boxA_3, bslA_1, Nat.reduceBEq, Hold.p, HoldK.k]
  refine boxA_of (by rw [hl, hs]) (Rp.one hv) ?_
  simp only [vcs_cons, vcs_nil, go_sem, ↓act_zero, boxA_1, boxA_2, boxA_3, bslA_1, Nat.reduceBEq, Hold.p, HoldK.k]
  refine boxA_of (by rw [hl2, hs]) (Rp.one hw) ?_
  simp only [vcs_cons, vcs_nil, go_sem, ↓act_zero, boxA_1, boxA_2, boxA_3, bslA_1, Nat.reduceBEq, Hold.p, HoldK.k]
  have E : Ext h ((h.push (.rows [c1] a1 sz false)).push (.rows [c2] a2 sz false)) := ((Ext.refl _).push _).push _
  refine eqFs_vc (a1 := a1) (a2 := a2) (sz := sz) (h0 := h) (n0 := h.n) (p := h.n) (q := h.n + 1) (Nat.le_refl _) (Nat.le_succ _) _ ?_ fs 5 _ _ [] c1 [] c2 d (Nat.le_refl _) (by simp only [go_sem, ↓act_zero, boxA_1, boxA_2, boxA_3, bslA_1, Nat.reduceBEq, push_n]) (by simp only [go_sem, ↓act_zero, boxA_1, boxA_2, boxA_3, bslA_1, Nat.reduceBEq, push_n])
    (by simp only [push_n]; omega) (by simp only [push_n]; omega) (by rw [push_old _ _ _ (by simp only [push_n]; omega), push_new]; rfl) (push_at _ _ _ rfl) rfl (Vw.ext hv E) (Vw.ext hw E) hd hfl E
  intro e' h' a1 a2
  simp only [go_sem, ↓act_zero, boxA_1, boxA_2, boxA_3, bslA_1, a1, HoldK.k]
  exact ⟨trivial, a2⟩
end Go.IW

namespace Go.IW
open Go Go.RowKit
variable {P : Program}

theorem rep_at {α : Type} (xs : List α) (z : α) {m n : Nat} (hn : xs.length = n) (hm : m ≠ 0) : (xs ++ List.replicate m z)[n]? = some z := by
  subst hn
  rw [List.getElem?_append_right (Nat.le_refl _), Nat.sub_self, List.getElem?_replicate, if_pos (by omega)]
theorem rep_set {α : Type} (xs : List α) (z x : α) {m n : Nat} (hn : xs.length = n) (hm : m ≠ 0) : (xs ++ List.replicate m z).set n x = (xs ++ [x]) ++ List.replicate (m - 1) z := by
  subst hn
  obtain ⟨m, rfl⟩ : ∃ k, m = k + 1 := ⟨m - 1, by omega⟩
  rw [List.set_append_right _ _ (Nat.le_refl _), Nat.sub_self, List.replicate_succ, sz0]
  simp
theorem ldT_row {t : Ty} {h : IH} {p j : Nat} {cs : List IV} {x : CX} {en : Env} (hx : x.ev en = .ptr p j 0) (ho : rowO (h.obj p) j = some cs) (hl : cs.length = t.sz) :
    feval en h (ldT t x) = some (t.pk cs) := by
  cases ht : t.one
  · simp only [ldT, ht, fe_ldA, hx, ldAF_ptr, row_eq, ho, pk_agg ht, Bool.false_eq_true, if_false]
    exact rowA_whole _ _ hl
  · rw [one_sz ht] at hl
    match cs, hl with
    | [v], _ =>
      simp only [ldT, ht, fe_ld, hx, ldF_ptr, cell_eq, cellO_row ho, List.getElem?_cons_zero, pk_one ht, if_true]

def toSlC (g : Nat) (ty : Ty) (el b : Nat) (z : List IV) : CC :=
 (.seq (.reg [
   ⟨(some 2), none, .f (.mv (.c .nilslice))⟩])
 (.seq (.reg [
   ⟨(some 5), none, .f (.mv (.t 0))⟩,
   ⟨(some 6), none, .f (.len (.t 5))⟩,
   ⟨(some 7), none, .x (.mks el ty.sz b z (.t 6) (.t 6))⟩,
   ⟨(some 3), none, .f (.mv (.t 7))⟩])
 (.seq (.seq (.reg [
   ⟨(some 4), none, .f (.mv (.c (.int .i64 0)))⟩])
 (.block 0 (.loop (.seq (.seq (.reg [
     ⟨(some 8), none, .f (.mv (.t 4))⟩,
     ⟨(some 9), none, .f (.mv (.t 0))⟩,
     ⟨(some 10), none, .f (.len (.t 9))⟩,
     ⟨(some 11), none, .f (.bin .lss (.t 8) (.t 10))⟩])
   (.cond (.t 11)
    .skip
    (.exit 0)))
   (.seq (.block 1 (.reg [
      ⟨(some 14), none, .f (.mv (.t 3))⟩,
      ⟨(some 15), none, .f (.mv (.t 4))⟩,
      ⟨(some 16), none, .f (.mv (.t 0))⟩,
      ⟨(some 17), none, .f (.mv (.t 4))⟩,
      ⟨(some 18), none, .f (.iadr ty.sz (.t 16) (.t 17))⟩,
      ⟨(some 19), none, .f (ldT ty (.t 18))⟩,
      ⟨(some 20), none, .x (.call g [(.t 19)])⟩,
      ⟨(some 21), none, .f (.iadr ty.sz (.t 14) (.t 15))⟩,
      ⟨none, none, .x (.st ty.sz (.t 21) (.t 20))⟩]))
   (.reg [
     ⟨(some 12), none, .f (.mv (.t 4))⟩,
     ⟨(some 13), none, .f (.bin .add (.t 12) (.c (.int .i64 1)))⟩,
     ⟨(some 4), none, .f (.mv (.t 13))⟩]))))))
 (.seq (.reg [
   ⟨(some 22), none, .f (.mv (.t 3))⟩,
   ⟨(some 2), none, .f (.mv (.t 22))⟩])
 .ret))))
def toSlI (el b : Nat) (z : List IV) : CC :=
 (.seq (.reg [
   ⟨(some 2), none, .f (.mv (.c .nilslice))⟩])
 (.seq (.reg [
   ⟨(some 5), none, .f (.mv (.t 0))⟩,
   ⟨(some 6), none, .f (.len (.t 5))⟩,
   ⟨(some 7), none, .x (.mks el 1 b z (.t 6) (.t 6))⟩,
   ⟨(some 3), none, .f (.mv (.t 7))⟩])
 (.seq (.seq (.reg [
   ⟨(some 4), none, .f (.mv (.c (.int .i64 0)))⟩])
 (.block 0 (.loop (.seq (.seq (.reg [
     ⟨(some 8), none, .f (.mv (.t 4))⟩,
     ⟨(some 9), none, .f (.mv (.t 0))⟩,
     ⟨(some 10), none, .f (.len (.t 9))⟩,
     ⟨(some 11), none, .f (.bin .lss (.t 8) (.t 10))⟩])
   (.cond (.t 11)
    .skip
    (.exit 0)))
   (.seq (.block 1 (.reg [
      ⟨(some 14), none, .f (.mv (.t 3))⟩,
      ⟨(some 15), none, .f (.mv (.t 4))⟩,
      ⟨(some 16), none, .f (.mv (.t 0))⟩,
      ⟨(some 17), none, .f (.mv (.t 4))⟩,
      ⟨(some 18), none, .f (.iadr 1 (.t 16) (.t 17))⟩,
      ⟨(some 19), none, .f (.ld (.t 18))⟩,
      ⟨(some 20), none, .f (.iadr 1 (.t 14) (.t 15))⟩,
      ⟨none, none, .x (.st 1 (.t 20) (.t 19))⟩]))
   (.reg [
     ⟨(some 12), none, .f (.mv (.t 4))⟩,
     ⟨(some 13), none, .f (.bin .add (.t 12) (.c (.int .i64 1)))⟩,
     ⟨(some 4), none, .f (.mv (.t 13))⟩]))))))
 (.seq (.reg [
   ⟨(some 21), none, .f (.mv (.t 3))⟩,
   ⟨(some 2), none, .f (.mv (.t 21))⟩])
 .ret))))

structure Made (h g : IH) (el : Nat) (ty : Ty) (z : List IV) (ds : List Dat) (k : Nat) : Prop where
  ext : Ext h g
  lt : h.n < g.n
  made : ∃ rs fs, g.obj h.n = .rows (rs ++ List.replicate (ds.length - k) z) el ty.sz false ∧ All3 (Ro g ty) rs (ds.take k) fs ∧ fs.Nodup ∧ ∀ l ∈ fs, h.n < l ∧ l < g.n
theorem Made.next {h g g2 : IH} {el : Nat} {ty : Ty} {z : List IV} {ds : List Dat} {k : Nat} (m : Made h g el ty z ds k) {d : Dat} (hd : ds[k]? = some d) {cs : List IV} (o : Ow g.n g2.n g2 ty cs d) (E : Ext g g2) (hz : z.length = ty.sz) {n : Nat} (hn : n = ty.sz) {K : HoldK}
    (hK : ∀ g3, Made h g3 el ty z ds (k + 1) → K.k (.tuple []) g3) : @stO n k 0 cs h.n (g2.obj h.n) g2 K := by
  subst hn
  obtain ⟨rs, fs, h1, h2, h3, h4⟩ := m.made
  have hk := (List.getElem?_eq_some_iff.1 hd).1
  have hrl : rs.length = k := by rw [h2.len, List.length_take]; omega
  have hcl := o.len
  have hle := E.le
  have hlt := m.lt
  rw [(E.obj _ m.lt).trans h1]
  refine stO_of (row := z) (rep_at _ _ hrl (by omega)) hcl (by omega) o.one ?_
  rw [wrt_all (by omega), rep_set _ _ _ hrl (by omega), show ds.length - k - 1 = ds.length - (k + 1) by omega]
  refine hK _ ⟨(m.ext.trans E).set _ (Nat.le_refl _) _, by show h.n < g2.n; omega, ?_⟩
  obtain ⟨⟨gs, a, b, c⟩, _⟩ := o
  refine ⟨rs ++ [cs], fs ++ gs, set_here _ _ _, ?_, ?_, ?_⟩
  · rw [List.take_add_one, hd]
    refine All3.app ?_ ?_
    · refine h2.mono fun a b f hf x => ?_
      refine x.same (by rw [set_n]; exact hle) fun l hl => ?_
      have := h4 l (hf l hl)
      rw [set_there _ _ _ _ (by omega)]
      exact E.obj l this.2
    · refine All3.one ?_
      refine a.same (by rw [set_n]; exact Nat.le_refl _) fun l hl => ?_
      have := c l hl
      exact set_there _ _ _ _ (by omega)
  · refine List.nodup_append.2 ⟨h3, b, fun x hx y hy e => ?_⟩
    subst e
    have := h4 x hx; have := c x hy; omega
  · intro l hl
    show h.n < l ∧ l < g2.n
    rcases List.mem_append.1 hl with hl | hl
    · have := h4 l hl; omega
    · have := c l hl; omega
theorem Made.zero {h : IH} {el : Nat} {ty : Ty} {z : List IV} {ds : List Dat} : Made h (h.push (.rows (List.replicate ds.length z) el ty.sz false)) el ty z ds 0 :=
  ⟨(Ext.refl _).push _, Nat.lt_succ_self _, [], [], by rw [push_new]; rfl, .nil, List.nodup_nil, by simp⟩
theorem Made.done {h g : IH} {el : Nat} {ty : Ty} {z : List IV} {ds : List Dat} (m : Made h g el ty z ds ds.length) (h0 : ds ≠ []) : Ow h.n g.n g (.slice el ty) [.slice h.n 0 ds.length] (.list ds) := by
  obtain ⟨rs, fs, h1, h2, h3, h4⟩ := m.made
  rw [List.take_length] at h2
  rw [Nat.sub_self, List.replicate_zero, List.append_nil] at h1
  refine ⟨⟨h.n :: fs, ⟨_, _, rfl, rfl, .inr ⟨h.n, rs, fs, h0, rfl, m.lt, h1, rfl, h2⟩⟩, ?_, ?_⟩, Nat.le_refl _⟩
  · refine List.nodup_cons.2 ⟨fun hm => ?_, h3⟩
    have := h4 _ hm; omega
  · intro l hl
    have := m.lt
    rcases List.mem_cons.1 hl with rfl | hl
    · omega
    · have := h4 l hl; omega
theorem ow_empty {h : IH} {lo hi el : Nat} {ty : Ty} (hh : hi ≤ h.n) : Ow lo hi h (.slice el ty) [.eslice true] (.list []) :=
  Ow.flat rfl ⟨_, _, rfl, rfl, .inl ⟨rfl, rfl, .inr rfl⟩⟩ hh
theorem ow_nil {h : IH} {lo hi el : Nat} {ty : Ty} (hh : hi ≤ h.n) : Ow lo hi h (.slice el ty) [.nilslice] (.list []) :=
  Ow.flat rfl ⟨_, _, rfl, rfl, .inl ⟨rfl, rfl, .inl rfl⟩⟩ hh

section
attribute [local go_sem] boxA_1 boxA_2 boxA_3 bslA_1 List.getElem?_cons_zero List.getElem?_cons_succ Option.bind_some List.map_cons List.map_nil Nat.zero_add if_true List.getD_cons_zero List.getD_cons_succ List.contains_cons List.contains_nil Bool.or_true Bool.true_or Bool.or_false Bool.false_or Bool.not_true Bool.not_false true_and and_true rowA_whole push_n set_n push_obj set_obj set_push set_push_ne set_set Nat.add_assoc Nat.left_eq_add Nat.add_eq_left Nat.add_left_cancel_iff stO_1s stO_ws boxA_s one_bool one_int one_str one_ptr one_nilptr one_slice one_eslice one_nilslice one_func one_iface one_niliface List.all_cons List.all_nil List.length_cons List.length_nil Bool.and_true Nat.one_ne_zero Nat.succ_ne_zero if_false List.set_cons_zero List.set_cons_succ
set_option maxRecDepth 20000 in
theorem toSl_calls {f g el b : Nat} {ty : Ty} {z : List IV} (hf : fnComp P f = some (23, toSlC g ty el b z, [.mv (.t 2)])) (hz : z.length = ty.sz) (hb : b ≤ 134217728) (hg : ToC P g ty) : ToC P f (.slice el ty) := by
  intro h cs d hv hd
  obtain ⟨v, rs, ds, rfl, rfl, hs, hS, hall⟩ := hv
  rw [pk_one rfl]
  refine icalls (.of hf) (Nat.le_of_ble_eq_true rfl) ?_
  unfold toSlC
  have hv1 := hs.one
  have hlen := hs.lenF
  have hrl := hall.len
  rw [hrl] at hlen
  simp only [Dat.tot] at hd
  simp only [hv1, hlen, go_sem, ↓act_zero, Hold.p, HoldK.k, HoldL.K, HoldL.body, Nat.reduceBEq, Nat.reduceAdd, reduceIte, Nat.reduceEqDiff, Nat.reduceLT, Nat.reduceLeDiff]
  by_cases h0 : ds.length = 0
  · have hds : ds = [] := List.length_eq_zero_iff.1 h0
    subst hds
    refine mksA_0 ?_
    simp only [hv1, hlen, go_sem, ↓act_zero, Hold.p, HoldK.k, HoldL.K, HoldL.body, Nat.reduceBEq, Nat.reduceAdd, reduceIte, Nat.reduceEqDiff, Nat.reduceLT, Nat.reduceLeDiff]
    refine loop_at (fun n e h' => n = 0 ∧ h' = h ∧ e 0 = v ∧ e 3 = .eslice true ∧ e 4 = .int .i64 0) 0 ?_ ?_
    · simp only [go_sem, ↓act_zero, Hold.p, HoldK.k, HoldL.K, HoldL.body, Nat.reduceBEq, Nat.reduceAdd, reduceIte, Nat.reduceEqDiff, Nat.reduceLT, Nat.reduceLeDiff]
    · rintro n e h' ⟨rfl, rfl, e0, e3, e4⟩
      simp only [e0, e3, e4, hlen, go_sem, ↓act_zero, Hold.p, HoldK.k, HoldL.K, HoldL.body, Nat.reduceBEq, Nat.reduceAdd, reduceIte, Nat.reduceEqDiff, Nat.reduceLT, Nat.reduceLeDiff]
      refine test_dec (fun hb => absurd hb (by simp)) (fun _ => ?_)
      simp only [e0, e3, e4, hlen, go_sem, ↓act_zero, Hold.p, HoldK.k, HoldL.K, HoldL.body, Nat.reduceBEq, Nat.reduceAdd, reduceIte, Nat.reduceEqDiff, Nat.reduceLT, Nat.reduceLeDiff]
      exact ⟨[.eslice true], (pk_one rfl).symm, ow_empty (Nat.le_refl _), Ext.refl _⟩
  · have hbn : b * ds.length ≤ 140737488355328 := by
      have : b * ds.length ≤ 134217728 * 1048576 := Nat.mul_le_mul hb (by omega)
      omega
    refine mksA_of h0 hbn (by omega) ?_
    simp only [go_sem, ↓act_zero, Hold.p, HoldK.k, HoldL.K, HoldL.body, Nat.reduceBEq, Nat.reduceAdd, reduceIte, Nat.reduceEqDiff, Nat.reduceLT, Nat.reduceLeDiff]
    refine loop_at (fun n e h' => ∃ k, n = ds.length - k ∧ k ≤ ds.length ∧ e 0 = v ∧ e 3 = .slice h.n 0 ds.length ∧ e 4 = .int .i64 (k : Nat) ∧ Made h h' el ty z ds k) ds.length ?_ ?_
    · refine ⟨0, by omega, by omega, ?_⟩
      simp only [go_sem, ↓act_zero, Hold.p, HoldK.k, HoldL.K, HoldL.body, Nat.reduceBEq, Nat.reduceAdd, reduceIte, Nat.reduceEqDiff, Nat.reduceLT, Nat.reduceLeDiff]
      exact ⟨rfl, Made.zero⟩
    · rintro n e h' ⟨k, rfl, hk, e0, e3, e4, M⟩
      simp only [e0, e3, e4, hlen, go_sem, ↓act_zero, Hold.p, HoldK.k, HoldL.K, HoldL.body, Nat.reduceBEq, Nat.reduceAdd, reduceIte, Nat.reduceEqDiff, Nat.reduceLT, Nat.reduceLeDiff]
      refine test_dec (fun hb => ?_) (fun hb => ?_)
      · have hlt' : k < ds.length := by omega
        have hkd : ds[k]? = some ds[k] := List.getElem?_eq_getElem hlt'
        have hmem : ds[k] ∈ ds := List.getElem_mem hlt'
        generalize ds[k] = x at hkd hmem
        obtain ⟨r, hkr, hx⟩ := hall.at hkd
        have hx' : Vw 0 h.n h' ty r x := Rp.same M.ext.le (fun l _ hn => M.ext.obj l hn) (fun l hl _ => hl) hx
        obtain ⟨l, j, hia, hll, hrow⟩ := (hs.ext M.ext).at (m := k) hkr .i64
        have hld : ∀ en : Env, en 18 = .ptr l j 0 → feval en h' (ldT ty (.t 18)) = some (ty.pk r) := fun en he => ldT_row (x := .t 18) (by rw [ev_t, he]) hrow (Rp.len hx)
        have htot := tot_mem hmem
        simp only [hia, e0, e3, e4, hld, go_sem, ↓act_zero, Hold.p, HoldK.k, HoldL.K, HoldL.body, Nat.reduceBEq, Nat.reduceAdd, reduceIte, Nat.reduceEqDiff, Nat.reduceLT, Nat.reduceLeDiff]
        refine callA_of (hg h' r x (hx'.wide (Nat.le_refl _) (by have := M.lt; omega)) (by omega)) ?_
        rintro r2 h2 ⟨cs', rfl, o, E⟩
        obtain ⟨rs0, fs0, hob, _⟩ := M.made
        have hia2 : iadrF h2 ty.sz (.slice h.n 0 ds.length) (.int .i64 k) = some (.ptr h.n k 0) := by
          rw [iadrF_nat hlt' (by rw [(E.obj _ M.lt).trans hob]; rfl), Nat.zero_add]
        simp only [hia2, pk_cells o.len o.one, go_sem, ↓act_zero, Hold.p, HoldK.k, HoldL.K, HoldL.body, Nat.reduceBEq, Nat.reduceAdd, reduceIte, Nat.reduceEqDiff, Nat.reduceLT, Nat.reduceLeDiff]
        refine M.next hkd o E hz rfl fun g3 M3 => ?_
        simp only [e0, e3, e4, go_sem, ↓act_zero, Hold.p, HoldK.k, HoldL.K, HoldL.body, Nat.reduceBEq, Nat.reduceAdd, reduceIte, Nat.reduceEqDiff, Nat.reduceLT, Nat.reduceLeDiff]
        exact ⟨_, by omega, k + 1, rfl, by omega, wr64_succ k (by omega), M3⟩
      · simp only [e0, e3, e4, hlen, go_sem, ↓act_zero, Hold.p, HoldK.k, HoldL.K, HoldL.body, Nat.reduceBEq, Nat.reduceAdd, reduceIte, Nat.reduceEqDiff, Nat.reduceLT, Nat.reduceLeDiff]
        obtain rfl : k = ds.length := by omega
        exact ⟨[.slice h.n 0 ds.length], (pk_one rfl).symm, M.done (fun e => h0 (by rw [e]; rfl)), M.ext⟩
set_option maxRecDepth 20000 in
theorem toSlI_calls {f el b : Nat} {ty : Ty} {z : List IV} (hf : fnComp P f = some (22, toSlI el b z, [.mv (.t 2)])) (hz : z.length = 1) (hb : b ≤ 134217728) (hg : ty.scal = true) : ToC P f (.slice el ty) := by
  intro h cs d hv hd
  obtain ⟨v, rs, ds, rfl, rfl, hs, hS, hall⟩ := hv
  rw [pk_one rfl]
  refine icalls (.of hf) (Nat.le_of_ble_eq_true rfl) ?_
  unfold toSlI
  have hsz := scal_sz hg
  have hv1 := hs.one
  have hlen := hs.lenF
  have hrl := hall.len
  rw [hrl] at hlen
  simp only [Dat.tot] at hd
  simp only [hv1, hlen, go_sem, ↓act_zero, Hold.p, HoldK.k, HoldL.K, HoldL.body, Nat.reduceBEq, Nat.reduceAdd, reduceIte, Nat.reduceEqDiff, Nat.reduceLT, Nat.reduceLeDiff]
  by_cases h0 : ds.length = 0
  · have hds : ds = [] := List.length_eq_zero_iff.1 h0
    subst hds
    refine mksA_0 ?_
    simp only [hv1, hlen, go_sem, ↓act_zero, Hold.p, HoldK.k, HoldL.K, HoldL.body, Nat.reduceBEq, Nat.reduceAdd, reduceIte, Nat.reduceEqDiff, Nat.reduceLT, Nat.reduceLeDiff]
    refine loop_at (fun n e h' => n = 0 ∧ h' = h ∧ e 0 = v ∧ e 3 = .eslice true ∧ e 4 = .int .i64 0) 0 ?_ ?_
    · simp only [go_sem, ↓act_zero, Hold.p, HoldK.k, HoldL.K, HoldL.body, Nat.reduceBEq, Nat.reduceAdd, reduceIte, Nat.reduceEqDiff, Nat.reduceLT, Nat.reduceLeDiff]
    · rintro n e h' ⟨rfl, rfl, e0, e3, e4⟩
      simp only [e0, e3, e4, hlen, go_sem, ↓act_zero, Hold.p, HoldK.k, HoldL.K, HoldL.body, Nat.reduceBEq, Nat.reduceAdd, reduceIte, Nat.reduceEqDiff, Nat.reduceLT, Nat.reduceLeDiff]
      refine test_dec (fun hb => absurd hb (by simp)) (fun _ => ?_)
      simp only [e0, e3, e4, hlen, go_sem, ↓act_zero, Hold.p, HoldK.k, HoldL.K, HoldL.body, Nat.reduceBEq, Nat.reduceAdd, reduceIte, Nat.reduceEqDiff, Nat.reduceLT, Nat.reduceLeDiff]
      exact ⟨[.eslice true], (pk_one rfl).symm, ow_empty (Nat.le_refl _), Ext.refl _⟩
  · have hbn : b * ds.length ≤ 140737488355328 := by
      have : b * ds.length ≤ 134217728 * 1048576 := Nat.mul_le_mul hb (by omega)
      omega
    refine mksA_of h0 hbn (by omega) ?_
    simp only [go_sem, ↓act_zero, Hold.p, HoldK.k, HoldL.K, HoldL.body, Nat.reduceBEq, Nat.reduceAdd, reduceIte, Nat.reduceEqDiff, Nat.reduceLT, Nat.reduceLeDiff]
    refine loop_at (fun n e h' => ∃ k, n = ds.length - k ∧ k ≤ ds.length ∧ e 0 = v ∧ e 3 = .slice h.n 0 ds.length ∧ e 4 = .int .i64 (k : Nat) ∧ Made h h' el ty z ds k) ds.length ?_ ?_
    · refine ⟨0, by omega, by omega, ?_⟩
      simp only [go_sem, ↓act_zero, Hold.p, HoldK.k, HoldL.K, HoldL.body, Nat.reduceBEq, Nat.reduceAdd, reduceIte, Nat.reduceEqDiff, Nat.reduceLT, Nat.reduceLeDiff]
      have := Made.zero (h := h) (el := el) (ty := ty) (z := z) (ds := ds)
      rw [hsz] at this
      exact ⟨rfl, this⟩
    · rintro n e h' ⟨k, rfl, hk, e0, e3, e4, M⟩
      simp only [e0, e3, e4, hlen, go_sem, ↓act_zero, Hold.p, HoldK.k, HoldL.K, HoldL.body, Nat.reduceBEq, Nat.reduceAdd, reduceIte, Nat.reduceEqDiff, Nat.reduceLT, Nat.reduceLeDiff]
      refine test_dec (fun hb => ?_) (fun hb => ?_)
      · have hlt' : k < ds.length := by omega
        have hkd : ds[k]? = some ds[k] := List.getElem?_eq_getElem hlt'
        have hmem : ds[k] ∈ ds := List.getElem_mem hlt'
        generalize ds[k] = x at hkd hmem
        obtain ⟨r, hkr, hx⟩ := hall.at hkd
        obtain ⟨y, rfl, hy, hro⟩ := scal_view hg hx
        obtain ⟨l, j, hia, hll, hrow⟩ := (hs.ext M.ext).at (m := k) hkr .i64
        rw [hsz] at hia
        have hc := cellO_row hrow
        obtain ⟨rs0, fs0, hob, _⟩ := M.made
        have hia2 : iadrF h' 1 (.slice h.n 0 ds.length) (.int .i64 k) = some (.ptr h.n k 0) := by
          rw [iadrF_nat hlt' (by rw [hob, hsz]; rfl), Nat.zero_add]
        simp only [hia, hia2, e0, e3, e4, hc, one_cells hy, go_sem, ↓act_zero, Hold.p, HoldK.k, HoldL.K, HoldL.body, Nat.reduceBEq, Nat.reduceAdd, reduceIte, Nat.reduceEqDiff, Nat.reduceLT, Nat.reduceLeDiff]
        refine M.next (g2 := h') hkd (Ow.flat (lo := h'.n) (hi := h'.n) rfl (hro h') (Nat.le_refl _)) (Ext.refl _) (by rw [hsz]; exact hz) hsz.symm fun g3 M3 => ?_
        simp only [e0, e3, e4, go_sem, ↓act_zero, Hold.p, HoldK.k, HoldL.K, HoldL.body, Nat.reduceBEq, Nat.reduceAdd, reduceIte, Nat.reduceEqDiff, Nat.reduceLT, Nat.reduceLeDiff]
        exact ⟨_, by omega, k + 1, rfl, by omega, wr64_succ k (by omega), M3⟩
      · simp only [e0, e3, e4, hlen, go_sem, ↓act_zero, Hold.p, HoldK.k, HoldL.K, HoldL.body, Nat.reduceBEq, Nat.reduceAdd, reduceIte, Nat.reduceEqDiff, Nat.reduceLT, Nat.reduceLeDiff]
        obtain rfl : k = ds.length := by omega
        exact ⟨[.slice h.n 0 ds.length], (pk_one rfl).symm, M.done (fun e => h0 (by rw [e]; rfl)), M.ext⟩
end
end Go.IW

namespace Go.IW
open Go Go.RowKit
variable {P : Program}

def eqSlC (g : Nat) (ty : Ty) : CC :=
 (.seq (.reg [
   ⟨(some 4), none, .f (.mv (.c (.bool false)))⟩])
 (.seq (.seq (.reg [
   ⟨(some 6), none, .f (.mv (.t 0))⟩,
   ⟨(some 7), none, .f (.len (.t 6))⟩,
   ⟨(some 8), none, .f (.mv (.t 1))⟩,
   ⟨(some 9), none, .f (.len (.t 8))⟩,
   ⟨(some 10), none, .f (.bin .neq (.t 7) (.t 9))⟩])
 (.cond (.t 10)
  (.seq (.reg [
    ⟨(some 4), none, .f (.mv (.c (.bool false)))⟩])
  .ret)
  .skip))
 (.seq (.seq (.reg [
   ⟨(some 5), none, .f (.mv (.c (.int .i64 0)))⟩])
 (.block 0 (.loop (.seq (.seq (.reg [
     ⟨(some 11), none, .f (.mv (.t 5))⟩,
     ⟨(some 12), none, .f (.mv (.t 0))⟩,
     ⟨(some 13), none, .f (.len (.t 12))⟩,
     ⟨(some 14), none, .f (.bin .lss (.t 11) (.t 13))⟩])
   (.cond (.t 14)
    .skip
    (.exit 0)))
   (.seq (.block 1 (.seq (.dreg [
      ⟨(some 17), none, .f (.mv (.t 0))⟩,
      ⟨(some 18), none, .f (.mv (.t 5))⟩,
      ⟨(some 19), none, .f (.iadr ty.sz (.t 17) (.t 18))⟩,
      ⟨(some 20), none, .f (ldT ty (.t 19))⟩,
      ⟨(some 21), none, .f (.mv (.t 1))⟩,
      ⟨(some 22), none, .f (.mv (.t 5))⟩,
      ⟨(some 23), none, .f (.iadr ty.sz (.t 21) (.t 22))⟩,
      ⟨(some 24), none, .f (ldT ty (.t 23))⟩,
      ⟨(some 25), none, .x (.call g [(.t 20), (.t 24)])⟩,
      ⟨(some 26), none, .f (.un .not (.t 25))⟩]
      [false, false, false, false, false, false, false, false, true, false] [[], [], [0, 1], [2, 0, 1], [], [], [4, 5], [6, 4, 5], [3, 2, 0, 1, 7, 6, 4, 5], [8, 3, 2, 0, 1, 7, 6, 4, 5]] [0, 1, 2, 3, 4, 5, 6, 7, 8, 9])
    (.cond (.t 26)
     (.seq (.reg [
       ⟨(some 4), none, .f (.mv (.c (.bool false)))⟩])
     .ret)
     .skip)))
   (.reg [
     ⟨(some 15), none, .f (.mv (.t 5))⟩,
     ⟨(some 16), none, .f (.bin .add (.t 15) (.c (.int .i64 1)))⟩,
     ⟨(some 5), none, .f (.mv (.t 16))⟩]))))))
 (.seq (.reg [
   ⟨(some 4), none, .f (.mv (.c (.bool true)))⟩])
 .ret))))
def eqSlI (ty : Ty) : CC :=
 (.seq (.reg [
   ⟨(some 4), none, .f (.mv (.c (.bool false)))⟩])
 (.seq (.seq (.reg [
   ⟨(some 6), none, .f (.mv (.t 0))⟩,
   ⟨(some 7), none, .f (.len (.t 6))⟩,
   ⟨(some 8), none, .f (.mv (.t 1))⟩,
   ⟨(some 9), none, .f (.len (.t 8))⟩,
   ⟨(some 10), none, .f (.bin .neq (.t 7) (.t 9))⟩])
 (.cond (.t 10)
  (.seq (.reg [
    ⟨(some 4), none, .f (.mv (.c (.bool false)))⟩])
  .ret)
  .skip))
 (.seq (.seq (.reg [
   ⟨(some 5), none, .f (.mv (.c (.int .i64 0)))⟩])
 (.block 0 (.loop (.seq (.seq (.reg [
     ⟨(some 11), none, .f (.mv (.t 5))⟩,
     ⟨(some 12), none, .f (.mv (.t 0))⟩,
     ⟨(some 13), none, .f (.len (.t 12))⟩,
     ⟨(some 14), none, .f (.bin .lss (.t 11) (.t 13))⟩])
   (.cond (.t 14)
    .skip
    (.exit 0)))
   (.seq (.block 1 (.seq (.dreg [
      ⟨(some 17), none, .f (.mv (.t 0))⟩,
      ⟨(some 18), none, .f (.mv (.t 5))⟩,
      ⟨(some 19), none, .f (.iadr 1 (.t 17) (.t 18))⟩,
      ⟨(some 20), none, .f (.ld (.t 19))⟩,
      ⟨(some 21), none, .f (.mv (.t 1))⟩,
      ⟨(some 22), none, .f (.mv (.t 5))⟩,
      ⟨(some 23), none, .f (.iadr 1 (.t 21) (.t 22))⟩,
      ⟨(some 24), none, .f (.ld (.t 23))⟩,
      ⟨(some 25), none, .f (neT ty (.t 20) (.t 24))⟩]
      [false, false, false, false, false, false, false, false, false] [[], [], [0, 1], [2, 0, 1], [], [], [4, 5], [6, 4, 5], [3, 2, 0, 1, 7, 6, 4, 5]] [0, 1, 2, 3, 4, 5, 6, 7, 8])
    (.cond (.t 25)
     (.seq (.reg [
       ⟨(some 4), none, .f (.mv (.c (.bool false)))⟩])
     .ret)
     .skip)))
   (.reg [
     ⟨(some 15), none, .f (.mv (.t 5))⟩,
     ⟨(some 16), none, .f (.bin .add (.t 15) (.c (.int .i64 1)))⟩,
     ⟨(some 5), none, .f (.mv (.t 16))⟩]))))))
 (.seq (.reg [
   ⟨(some 4), none, .f (.mv (.c (.bool true)))⟩])
 .ret))))
section
attribute [local go_sem] boxA_1 boxA_2 boxA_3 bslA_1 List.getElem?_cons_zero List.getElem?_cons_succ Option.bind_some List.map_cons List.map_nil Nat.zero_add if_true List.getD_cons_zero List.getD_cons_succ List.contains_cons List.contains_nil Bool.or_true Bool.true_or Bool.or_false Bool.false_or Bool.not_true Bool.not_false true_and and_true
set_option maxRecDepth 20000 in
theorem eqSl_calls {f g el : Nat} {ty : Ty} (hf : fnComp P f = some (27, eqSlC g ty, [.mv (.t 4)])) (hg : EqC P g ty) : EqC P f (.slice el ty) := by
  intro h c1 c2 d hv hw hd
  obtain ⟨v, rs, ds, rfl, rfl, hs, hS, hall⟩ := hv
  obtain ⟨w, rs2, ds2, rfl, hdd, hs2, hS2, hall2⟩ := hw
  cases hdd
  rw [pk_one rfl, pk_one rfl]
  refine icalls (.of hf) (Nat.le_of_ble_eq_true rfl) ?_
  unfold eqSlC
  have hlv := hs.lenF
  have hlw := hs2.lenF
  rw [hall.len] at hlv
  rw [hall2.len] at hlw
  simp only [Dat.tot] at hd
  simp only [hlv, hlw, decide_true, go_sem, ↓act_zero, Hold.p, HoldK.k, HoldL.K, HoldL.body, Nat.reduceBEq, Nat.reduceAdd, reduceIte, Nat.reduceEqDiff, Nat.reduceLT, Nat.reduceLeDiff]
  refine loop_at (fun n e h' => ∃ k, n = ds.length - k ∧ k ≤ ds.length ∧ e 0 = v ∧ e 1 = w ∧ e 5 = .int .i64 (k : Nat) ∧ Ext h h') ds.length ?_ ?_
  · refine ⟨0, by omega, by omega, ?_⟩
    simp only [go_sem, ↓act_zero, Hold.p, HoldK.k, HoldL.K, HoldL.body, Nat.reduceBEq, Nat.reduceAdd, reduceIte, Nat.reduceEqDiff, Nat.reduceLT, Nat.reduceLeDiff]
    exact ⟨rfl, Ext.refl _⟩
  · rintro n e h' ⟨k, rfl, hk, e0, e1, e5, hE⟩
    simp only [e0, e1, e5, hlv, go_sem, ↓act_zero, Hold.p, HoldK.k, HoldL.K, HoldL.body, Nat.reduceBEq, Nat.reduceAdd, reduceIte, Nat.reduceEqDiff, Nat.reduceLT, Nat.reduceLeDiff]
    refine test_dec (fun hb => ?_) (fun hb => ?_)
    · have hlt' : k < ds.length := by omega
      have hkd : ds[k]? = some ds[k] := List.getElem?_eq_getElem hlt'
      have hmem : ds[k] ∈ ds := List.getElem_mem hlt'
      generalize ds[k] = x at hkd hmem
      obtain ⟨r, hkr, hx⟩ := hall.at hkd
      obtain ⟨r2, hkr2, hx2⟩ := hall2.at hkd
      have hx' : Vw 0 h.n h' ty r x := Rp.same hE.le (fun l _ hn => hE.obj l hn) (fun l hl _ => hl) hx
      have hx2' : Vw 0 h.n h' ty r2 x := Rp.same hE.le (fun l _ hn => hE.obj l hn) (fun l hl _ => hl) hx2
      obtain ⟨l, j, hia, hll, hrow⟩ := (hs.ext hE).at (m := k) hkr .i64
      obtain ⟨l2, j2, hia2, hll2, hrow2⟩ := (hs2.ext hE).at (m := k) hkr2 .i64
      have hld : ∀ en : Env, en 19 = .ptr l j 0 → feval en h' (ldT ty (.t 19)) = some (ty.pk r) := fun en he => ldT_row (x := .t 19) (by rw [ev_t, he]) hrow (Rp.len hx)
      have hld2 : ∀ en : Env, en 23 = .ptr l2 j2 0 → feval en h' (ldT ty (.t 23)) = some (ty.pk r2) := fun en he => ldT_row (x := .t 23) (by rw [ev_t, he]) hrow2 (Rp.len hx2)
      have htot := tot_mem hmem
      simp only [hia, hia2, e0, e1, e5, hld, hld2, go_sem, ↓act_zero, Hold.p, HoldK.k, HoldL.K, HoldL.body, Nat.reduceBEq, Nat.reduceAdd, reduceIte, Nat.reduceEqDiff, Nat.reduceLT, Nat.reduceLeDiff]
      refine callA_of (hg h' r r2 x (hx'.wide (Nat.le_refl _) hE.le) (hx2'.wide (Nat.le_refl _) hE.le) (by omega)) ?_
      rintro b h2 ⟨rfl, hE2⟩
      simp only [e0, e1, e5, go_sem, ↓act_zero, Hold.p, HoldK.k, HoldL.K, HoldL.body, Nat.reduceBEq, Nat.reduceAdd, reduceIte, Nat.reduceEqDiff, Nat.reduceLT, Nat.reduceLeDiff]
      refine ⟨_, ?_, k + 1, rfl, by omega, wr64_succ k (by omega), hE.trans hE2⟩
      omega
    · simp only [e0, e1, e5, go_sem, ↓act_zero, Hold.p, HoldK.k, HoldL.K, HoldL.body, Nat.reduceBEq, Nat.reduceAdd, reduceIte, Nat.reduceEqDiff, Nat.reduceLT, Nat.reduceLeDiff]
      exact hE
set_option maxRecDepth 20000 in
theorem eqSlI_calls {f el : Nat} {ty : Ty} (hf : fnComp P f = some (26, eqSlI ty, [.mv (.t 4)])) (hg : ty.scal = true) : EqC P f (.slice el ty) := by
  intro h c1 c2 d hv hw hd
  obtain ⟨v, rs, ds, rfl, rfl, hs, hS, hall⟩ := hv
  obtain ⟨w, rs2, ds2, rfl, hdd, hs2, hS2, hall2⟩ := hw
  cases hdd
  rw [pk_one rfl, pk_one rfl]
  refine icalls (.of hf) (Nat.le_of_ble_eq_true rfl) ?_
  unfold eqSlI
  have hsz := scal_sz hg
  have hlv := hs.lenF
  have hlw := hs2.lenF
  rw [hall.len] at hlv
  rw [hall2.len] at hlw
  simp only [Dat.tot] at hd
  simp only [hlv, hlw, decide_true, go_sem, ↓act_zero, Hold.p, HoldK.k, HoldL.K, HoldL.body, Nat.reduceBEq, Nat.reduceAdd, reduceIte, Nat.reduceEqDiff, Nat.reduceLT, Nat.reduceLeDiff]
  refine loop_at (fun n e h' => ∃ k, n = ds.length - k ∧ k ≤ ds.length ∧ e 0 = v ∧ e 1 = w ∧ e 5 = .int .i64 (k : Nat) ∧ h' = h) ds.length ?_ ?_
  · refine ⟨0, by omega, by omega, ?_⟩
    simp only [go_sem, ↓act_zero, Hold.p, HoldK.k, HoldL.K, HoldL.body, Nat.reduceBEq, Nat.reduceAdd, reduceIte, Nat.reduceEqDiff, Nat.reduceLT, Nat.reduceLeDiff]
    rfl
  · rintro n e h' ⟨k, rfl, hk, e0, e1, e5, rfl⟩
    simp only [e0, e1, e5, hlv, go_sem, ↓act_zero, Hold.p, HoldK.k, HoldL.K, HoldL.body, Nat.reduceBEq, Nat.reduceAdd, reduceIte, Nat.reduceEqDiff, Nat.reduceLT, Nat.reduceLeDiff]
    refine test_dec (fun hb => ?_) (fun hb => ?_)
    · have hlt' : k < ds.length := by omega
      have hkd : ds[k]? = some ds[k] := List.getElem?_eq_getElem hlt'
      generalize ds[k] = x at hkd
      obtain ⟨r, hkr, hx⟩ := hall.at hkd
      obtain ⟨r2, hkr2, hx2⟩ := hall2.at hkd
      obtain ⟨y, rfl, rfl, hy⟩ := scal_same hg hx hx2
      obtain ⟨l, j, hia, hll, hrow⟩ := hs.at (m := k) hkr .i64
      obtain ⟨l2, j2, hia2, hll2, hrow2⟩ := hs2.at (m := k) hkr2 .i64
      rw [hsz] at hia hia2
      have hc := cellO_row hrow
      have hc2 := cellO_row hrow2
      have hne : ∀ en : Env, en 20 = y → en 24 = y → feval en h' (neT ty (.t 20) (.t 24)) = some (.bool false) := by
        intro en a b
        unfold neT
        cases ty <;> first | (cases hg; done) | (simp only [go_sem, ↓act_zero, boxA_1, boxA_2, boxA_3, bslA_1, a, b]; exact hy)
      simp only [hia, hia2, hc, hc2, e0, e1, e5, hne, go_sem, ↓act_zero, Hold.p, HoldK.k, HoldL.K, HoldL.body, Nat.reduceBEq, Nat.reduceAdd, reduceIte, Nat.reduceEqDiff, Nat.reduceLT, Nat.reduceLeDiff]
      exact ⟨_, by omega, k + 1, rfl, by omega, wr64_succ k (by omega)⟩
    · simp only [e0, e1, e5, go_sem, ↓act_zero, Hold.p, HoldK.k, HoldL.K, HoldL.body, Nat.reduceBEq, Nat.reduceAdd, reduceIte, Nat.reduceEqDiff, Nat.reduceLT, Nat.reduceLeDiff]
      exact Ext.refl _

def szSlC (g : Nat) (ty : Ty) : CC :=
 (.seq (.reg [
   ⟨(some 4), none, .f (.mv (.c (.int .i64 0)))⟩])
 (.seq (.reg [
   ⟨(some 6), none, .f (.mv (.t 1))⟩,
   ⟨(some 7), none, .f (.mv (.t 0))⟩,
   ⟨(some 8), none, .f (.len (.t 7))⟩,
   ⟨(some 9), none, .f (.bin .sub (.t 6) (.t 8))⟩,
   ⟨(some 1), none, .f (.mv (.t 9))⟩])
 (.seq (.seq (.reg [
   ⟨(some 10), none, .f (.mv (.t 1))⟩,
   ⟨(some 11), none, .f (.bin .lss (.t 10) (.c (.int .i64 0)))⟩])
 (.cond (.t 11)
  (.seq (.reg [
    ⟨(some 4), none, .f (.mv (.c (.int .i64 (-1))))⟩])
  .ret)
  .skip))
 (.seq (.seq (.reg [
   ⟨(some 5), none, .f (.mv (.c (.int .i64 0)))⟩])
 (.block 0 (.loop (.seq (.seq (.reg [
     ⟨(some 12), none, .f (.mv (.t 5))⟩,
     ⟨(some 13), none, .f (.mv (.t 0))⟩,
     ⟨(some 14), none, .f (.len (.t 13))⟩,
     ⟨(some 15), none, .f (.bin .lss (.t 12) (.t 14))⟩])
   (.cond (.t 15)
    .skip
    (.exit 0)))
   (.seq (.block 1 (.seq (.reg [
      ⟨(some 18), none, .f (.mv (.t 0))⟩,
      ⟨(some 19), none, .f (.mv (.t 5))⟩,
      ⟨(some 20), none, .f (.iadr ty.sz (.t 18) (.t 19))⟩,
      ⟨(some 21), none, .f (ldT ty (.t 20))⟩,
      ⟨(some 22), none, .f (.mv (.t 1))⟩,
      ⟨(some 23), none, .x (.call g [(.t 21), (.t 22)])⟩,
      ⟨(some 1), none, .f (.mv (.t 23))⟩])
    (.seq (.reg [
      ⟨(some 24), none, .f (.mv (.t 1))⟩,
      ⟨(some 25), none, .f (.bin .lss (.t 24) (.c (.int .i64 0)))⟩])
    (.cond (.t 25)
     (.seq (.reg [
       ⟨(some 4), none, .f (.mv (.c (.int .i64 (-1))))⟩])
     .ret)
     .skip))))
   (.reg [
     ⟨(some 16), none, .f (.mv (.t 5))⟩,
     ⟨(some 17), none, .f (.bin .add (.t 16) (.c (.int .i64 1)))⟩,
     ⟨(some 5), none, .f (.mv (.t 17))⟩]))))))
 (.seq (.reg [
   ⟨(some 26), none, .f (.mv (.t 1))⟩,
   ⟨(some 4), none, .f (.mv (.t 26))⟩])
 .ret)))))
theorem totL_take {ds : List Dat} {k : Nat} {x : Dat} (h : ds[k]? = some x) : totL (ds.take (k + 1)) = totL (ds.take k) + x.tot := by
  induction ds generalizing k with
  | nil => simp at h
  | cons a l ih =>
    cases k with
    | zero => simp at h; subst h; simp [totL]
    | succ k => simp at h; simp [totL, ih h]; omega
set_option maxRecDepth 20000 in
theorem szSl_calls {f g el : Nat} {ty : Ty} (hf : fnComp P f = some (27, szSlC g ty, [.mv (.t 4)])) (hg : SzC P g ty) : SzC P f (.slice el ty) := by
  intro h cs d left hv hd hl
  obtain ⟨v, rs, ds, rfl, rfl, hs, hS, hall⟩ := hv
  rw [pk_one rfl]
  refine icalls (.of hf) (Nat.le_of_ble_eq_true rfl) ?_
  unfold szSlC
  have hlv := hs.lenF
  rw [hall.len] at hlv
  obtain ⟨hd1, hd2⟩ := hd
  simp only [Dat.tot]
  have w0 : wr .i64 (left - (ds.length : Int)) = left - (ds.length : Int) := wr64 _ (by unfold maxLen at hd1; omega)
  by_cases hc : left < (ds.length : Int)
  · have d0 : decide (left - (ds.length : Int) < 0) = true := decide_eq_true (by omega)
    simp only [hlv, w0, d0, go_sem, ↓act_zero, Hold.p, HoldK.k, HoldL.K, HoldL.body, Nat.reduceBEq, Nat.reduceAdd, reduceIte, Nat.reduceEqDiff, Nat.reduceLT, Nat.reduceLeDiff]
    exact ⟨⟨-1, rfl, by omega, fun hx => by omega⟩, Ext.refl _⟩
  · have d0 : decide (left - (ds.length : Int) < 0) = false := decide_eq_false (by omega)
    simp only [hlv, w0, d0, go_sem, ↓act_zero, Hold.p, HoldK.k, HoldL.K, HoldL.body, Nat.reduceBEq, Nat.reduceAdd, reduceIte, Nat.reduceEqDiff, Nat.reduceLT, Nat.reduceLeDiff]
    refine loop_at (fun n e h' => ∃ (k : Nat) (L : Int), n = ds.length - k ∧ k ≤ ds.length ∧ e 0 = v ∧ e 1 = .int .i64 L ∧ 0 ≤ L ∧ L + (ds.length + totL (ds.take k) : Nat) ≤ left ∧ e 5 = .int .i64 k ∧ Ext h h') ds.length ?_ ?_
    · refine ⟨0, left - ds.length, by omega, by omega, ?_⟩
      simp only [tz0, totL, go_sem, ↓act_zero, Hold.p, HoldK.k, HoldL.K, HoldL.body, Nat.reduceBEq, Nat.reduceAdd, reduceIte, Nat.reduceEqDiff, Nat.reduceLT, Nat.reduceLeDiff]
      refine ⟨by omega, by omega, rfl, Ext.refl _⟩
    · rintro n e h' ⟨k, L, rfl, hk, e0, e1, hL0, hL, e5, hE⟩
      simp only [e0, e1, e5, hlv, go_sem, ↓act_zero, Hold.p, HoldK.k, HoldL.K, HoldL.body, Nat.reduceBEq, Nat.reduceAdd, reduceIte, Nat.reduceEqDiff, Nat.reduceLT, Nat.reduceLeDiff]
      refine test_dec (fun hb => ?_) (fun hb => ?_)
      · have hlt' : k < ds.length := by omega
        have hkd : ds[k]? = some ds[k] := List.getElem?_eq_getElem hlt'
        have hmem : ds[k] ∈ ds := List.getElem_mem hlt'
        generalize ds[k] = x at hkd hmem
        obtain ⟨r, hkr, hx⟩ := hall.at hkd
        have hx' : Vw 0 h.n h' ty r x := Rp.same hE.le (fun l _ hn => hE.obj l hn) (fun l hl _ => hl) hx
        obtain ⟨l, j, hia, hll, hrow⟩ := (hs.ext hE).at (m := k) hkr .i64
        have hld : ∀ en : Env, en 20 = .ptr l j 0 → feval en h' (ldT ty (.t 20)) = some (ty.pk r) := fun en he => ldT_row (x := .t 20) (by rw [ev_t, he]) hrow (Rp.len hx)
        simp only [hia, e0, e1, e5, hld, go_sem, ↓act_zero, Hold.p, HoldK.k, HoldL.K, HoldL.body, Nat.reduceBEq, Nat.reduceAdd, reduceIte, Nat.reduceEqDiff, Nat.reduceLT, Nat.reduceLeDiff]
        refine callA_of (hg h' r x L (hx'.wide (Nat.le_refl _) hE.le) (okL_mem hd2 hmem) (by omega)) ?_
        rintro r h2 ⟨⟨L2, rfl, hL2, hQ2⟩, hE2⟩
        by_cases hn : L2 < 0
        · have d1 : decide (L2 < 0) = true := decide_eq_true hn
          simp only [d1, go_sem, ↓act_zero, Hold.p, HoldK.k, HoldL.K, HoldL.body, Nat.reduceBEq, Nat.reduceAdd, reduceIte, Nat.reduceEqDiff, Nat.reduceLT, Nat.reduceLeDiff]
          exact ⟨⟨-1, rfl, by omega, fun hx => by omega⟩, hE.trans hE2⟩
        · have d1 : decide (L2 < 0) = false := decide_eq_false hn
          simp only [d1, e0, e5, go_sem, ↓act_zero, Hold.p, HoldK.k, HoldL.K, HoldL.body, Nat.reduceBEq, Nat.reduceAdd, reduceIte, Nat.reduceEqDiff, Nat.reduceLT, Nat.reduceLeDiff]
          have := hQ2 (by omega)
          have ht := totL_take hkd
          refine ⟨_, ?_, k + 1, L2, rfl, by omega, rfl, by omega, by omega, wr64_succ k (by omega), hE.trans hE2⟩
          omega
      · obtain rfl : k = ds.length := by omega
        rw [List.take_length] at hL
        simp only [e1, go_sem, ↓act_zero, Hold.p, HoldK.k, HoldL.K, HoldL.body, Nat.reduceBEq, Nat.reduceAdd, reduceIte, Nat.reduceEqDiff, Nat.reduceLT, Nat.reduceLeDiff]
        exact ⟨⟨L, rfl, by omega, fun _ => hL⟩, hE⟩
set_option maxRecDepth 20000 in
theorem szSlL_calls {f el : Nat} {ty : Ty} (hf : fnComp P f = some (12, szLC, [.mv (.t 4)])) (hg : ∀ S h cs d, Rp S h ty cs d → d.tot = 0) : SzC P f (.slice el ty) := by
  intro h cs d left hv hd hl
  obtain ⟨v, rs, ds, rfl, rfl, hs, hS, hall⟩ := hv
  rw [pk_one rfl]
  have ht : totL ds = 0 := by
    have key : ∀ {rs : List (List IV)} {ds : List Dat}, All2 (Rp (fun l => 0 ≤ l ∧ l < h.n) h ty) rs ds → totL ds = 0 := by
      intro rs ds ha
      induction ha with
      | nil => rfl
      | cons hr _ ih => simp only [totL]; rw [hg _ _ _ _ hr, ih]
    exact key hall
  refine icalls (.of hf) (Nat.le_of_ble_eq_true rfl) ?_
  unfold szLC
  have hlv := hs.lenF
  rw [hall.len] at hlv
  obtain ⟨hd1, hd2⟩ := hd
  simp only [Dat.tot, ht]
  have w0 : wr .i64 (left - (ds.length : Int)) = left - (ds.length : Int) := wr64 _ (by unfold maxLen at hd1; omega)
  by_cases hc : left < (ds.length : Int)
  · have d0 : decide (left - (ds.length : Int) < 0) = true := decide_eq_true (by omega)
    simp only [hlv, w0, d0, go_sem, ↓act_zero, Hold.p, HoldK.k, HoldL.K, HoldL.body, Nat.reduceBEq, Nat.reduceAdd, reduceIte, Nat.reduceEqDiff, Nat.reduceLT, Nat.reduceLeDiff]
    exact ⟨⟨-1, rfl, by omega, fun hx => by omega⟩, Ext.refl _⟩
  · have d0 : decide (left - (ds.length : Int) < 0) = false := decide_eq_false (by omega)
    simp only [hlv, w0, d0, go_sem, ↓act_zero, Hold.p, HoldK.k, HoldL.K, HoldL.body, Nat.reduceBEq, Nat.reduceAdd, reduceIte, Nat.reduceEqDiff, Nat.reduceLT, Nat.reduceLeDiff]
    exact ⟨⟨_, rfl, by omega, fun hx => by omega⟩, Ext.refl _⟩
end
end Go.IW

namespace Go.IW
open Go Go.RowKit
variable {P : Program}

def digs : Nat → Nat → List UInt8 → List UInt8
  | 0, _, acc => acc
  | f + 1, n, acc => if n = 0 then acc else digs f (n / 10) (UInt8.ofNat (48 + n % 10) :: acc)
def mtext (n : Nat) : List UInt8 := if n = 0 then [109, 48] else 109 :: digs n n []

mutual
def cntE : Ty → Dat → Nat
  | .nil, _ => 0
  | .bool, _ => 1
  | .int _, _ => 1
  | .str, _ => 1
  | .slice _ e, .list l => cntL e l
  | .slice _ _, _ => 0
  | .cat a b, .pair x y => cntE a x + cntE b y
  | .cat _ _, _ => 0
def cntL (e : Ty) : List Dat → Nat
  | [] => 0
  | x :: l => cntE e x + cntL e l
end
mutual
def mkE : Ty → Dat → Nat → Dat
  | .nil, d, _ => d
  | .bool, _, n => .bool (decide ((n : Int) % 3 = 0))
  | .int k, _, n => .int (wr k n)
  | .str, _, n => .str (mtext n)
  | .slice _ e, .list l, n => .list (mkL e l n)
  | .slice _ _, d, _ => d
  | .cat a b, .pair x y, n => .pair (mkE a x n) (mkE b y (n + cntE a x))
  | .cat _ _, d, _ => d
def mkL (e : Ty) : List Dat → Nat → List Dat
  | [], _ => []
  | x :: l, n => mkE e x n :: mkL e l (n + cntE e x)
end
def cntW : Ty → Dat → Nat
  | .slice el e, d => cntE (.slice el e) d
  | .cat a b, .pair x y => cntW a x + cntW b y
  | _, _ => 0
def mkW : Ty → Dat → Nat → Dat
  | .slice el e, d, n => mkE (.slice el e) d n
  | .cat a b, .pair x y, n => .pair (mkW a x n) (mkW b y (n + cntW a x))
  | _, d, _ => d

theorem mkL_len (e : Ty) : ∀ (l : List Dat) (n : Nat), (mkL e l n).length = l.length
  | [], _ => rfl
  | x :: l, n => by simp [mkL, mkL_len e l]
theorem cntL_take {e : Ty} {ds : List Dat} {k : Nat} {x : Dat} (h : ds[k]? = some x) : cntL e (ds.take (k + 1)) = cntL e (ds.take k) + cntE e x := by
  induction ds generalizing k with
  | nil => simp at h
  | cons a l ih =>
    cases k with
    | zero => simp at h; subst h; simp [cntL]
    | succ k => simp at h; simp [cntL, ih h]; omega
theorem mkL_take {e : Ty} {ds : List Dat} {k n : Nat} {x : Dat} (h : ds[k]? = some x) : mkL e (ds.take (k + 1)) n = mkL e (ds.take k) n ++ [mkE e x (n + cntL e (ds.take k))] := by
  induction ds generalizing k n with
  | nil => simp at h
  | cons a l ih =>
    cases k with
    | zero => simp at h; subst h; simp [mkL, cntL]
    | succ k => simp at h; simp [mkL, cntL, ih h, Nat.add_assoc]

structure TrnL (fs : List Nat) (h h' : IH) : Prop where
  le : h.n ≤ h'.n
  obj : ∀ l, l < h.n → l ∉ fs → h'.obj l = h.obj l
theorem TrnL.refl (fs : List Nat) (h : IH) : TrnL fs h h := ⟨Nat.le_refl _, fun _ _ _ => rfl⟩
theorem TrnL.of_ext {fs : List Nat} {h h' : IH} (e : Ext h h') : TrnL fs h h' := ⟨e.le, fun l hl _ => e.obj l hl⟩
theorem TrnL.trans {fs : List Nat} {a b c : IH} (h1 : TrnL fs a b) (h2 : TrnL fs b c) : TrnL fs a c :=
  ⟨Nat.le_trans h1.le h2.le, fun l hl hn => (h2.obj l (Nat.lt_of_lt_of_le hl h1.le) hn).trans (h1.obj l hl hn)⟩
theorem TrnL.sub {fs gs : List Nat} {h h' : IH} (t : TrnL fs h h') (hs : ∀ l ∈ fs, l ∈ gs) : TrnL gs h h' := ⟨t.le, fun l hl hn => t.obj l hl fun hm => hn (hs l hm)⟩
theorem TrnL.set {l : Nat} {fs : List Nat} {h : IH} (o : IObj) (hl : l ∈ fs) : TrnL fs h (h.set l o) := ⟨Nat.le_refl _, fun m _ hn => set_there _ _ _ _ (fun e => hn (by rw [e]; exact hl))⟩
theorem Ro.trn {fs gs : List Nat} {h h' : IH} {t : Ty} {cs : List IV} {d : Dat} (hr : Ro h t cs d gs) (T : TrnL fs h h') (hd : ∀ l ∈ gs, l ∉ fs) : Ro h' t cs d gs :=
  hr.same T.le fun l hl => T.obj l (hr.lt l hl) (hd l hl)

def MtC (P : Program) (g : Nat) : Prop := ∀ (h : IH) (n : Nat), n < 4611686018427387904 → ICalls P g [.int .i64 (n : Int)] h fun r h' => r = .str (mtext n) ∧ Ext h h'
def MkC (P : Program) (g : Nat) (t : Ty) : Prop := ∀ (h : IH) (cs : List IV) (d : Dat) (fs : List Nat) (k : Nat), Ro h t cs d fs → fs.Nodup → k + cntW t d + d.tot < 4611686018427387904 →
  ICalls P g [t.pk cs, .int .i64 (k : Int)] h fun r h' => r = .int .i64 ((k + cntW t d : Nat) : Int) ∧ Ro h' t cs (mkW t d k) fs ∧ TrnL fs h h'

def fadrs : List Nat → Nat → List COp
  | [], _ => []
  | o :: r, t => ⟨some (t + 1), none, .f (.fadr o (.t t))⟩ :: fadrs r (t + 1)
theorem fadrs_vc {l i : Nat} {h : IH} {K : Env → IH → Prop} {rest : List COp} : ∀ (p : List Nat) (t o : Nat) (e : Env), e t = .ptr l i o →
    (∀ e' : Env, (∀ x, x ≤ t → e' x = e x) → e' (t + p.length) = .ptr l i (o + p.sum) → vcOps P rest K e' h) → vcOps P (fadrs p t ++ rest) K e h
  | [], t, o, e, he, hk => hk e (fun _ _ => rfl) (by simpa using he)
  | a :: p, t, o, e, he, hk => by
    unfold fadrs
    simp (disch := omega) only [ca0, go_sem, ↓act_zero, boxA_1, boxA_2, boxA_3, bslA_1, he]
    refine fadrs_vc (l := l) (i := i) p (t + 1) (o + a) _ (by simp only [upd_eq]) fun e' h1 h2 => hk e' (fun x hx => ?_) ?_
    · rw [h1 x (by omega), upd_ne _ _ (by omega)]
    · rw [lc0, List.sum_cons]
      have e1 : t + (p.length + 1) = t + 1 + p.length := by omega
      have e2 : o + (a + p.sum) = o + a + p.sum := by omega
      rw [e1, e2]; exact h2

def incC (t : Nat) : CC := .reg [⟨some t, none, .f (.mv (.t 1))⟩, ⟨some (t + 1), none, .f (.bin .add (.t t) (.c (.int .i64 1)))⟩, ⟨some 1, none, .f (.mv (.t (t + 1)))⟩]
def mkLf (sz : Nat) (p : List Nat) (g t : Nat) : Ty → List CC × Nat
  | .int .i64 => ([.reg ([⟨some t, none, .f (.mv (.t 0))⟩, ⟨some (t + 1), none, .f (.mv (.t 5))⟩, ⟨some (t + 2), none, .f (.mv (.t 1))⟩, ⟨some (t + 3), none, .f (.iadr sz (.t t) (.t (t + 1)))⟩] ++ (fadrs p (t + 3) ++
      [⟨none, none, .x (.st 1 (.t (t + 3 + p.length)) (.t (t + 2)))⟩])), incC (t + 4 + p.length)], t + 6 + p.length)
  | .int k => ([.reg ([⟨some t, none, .f (.mv (.t 0))⟩, ⟨some (t + 1), none, .f (.mv (.t 5))⟩, ⟨some (t + 2), none, .f (.mv (.t 1))⟩, ⟨some (t + 3), none, .f (.cvI k (.t (t + 2)))⟩, ⟨some (t + 4), none, .f (.iadr sz (.t t) (.t (t + 1)))⟩] ++ (fadrs p (t + 4) ++
      [⟨none, none, .x (.st 1 (.t (t + 4 + p.length)) (.t (t + 3)))⟩])), incC (t + 5 + p.length)], t + 7 + p.length)
  | .bool => ([.reg ([⟨some t, none, .f (.mv (.t 0))⟩, ⟨some (t + 1), none, .f (.mv (.t 5))⟩, ⟨some (t + 2), none, .f (.mv (.t 1))⟩, ⟨some (t + 3), none, .f (.bin .rem (.t (t + 2)) (.c (.int .i64 3)))⟩,
      ⟨some (t + 4), none, .f (.bin .eql (.t (t + 3)) (.c (.int .i64 0)))⟩, ⟨some (t + 5), none, .f (.iadr sz (.t t) (.t (t + 1)))⟩] ++ (fadrs p (t + 5) ++
      [⟨none, none, .x (.st 1 (.t (t + 5 + p.length)) (.t (t + 4)))⟩])), incC (t + 6 + p.length)], t + 8 + p.length)
  | .str => ([.reg ([⟨some t, none, .f (.mv (.t 0))⟩, ⟨some (t + 1), none, .f (.mv (.t 5))⟩, ⟨some (t + 2), none, .f (.mv (.t 1))⟩, ⟨some (t + 3), none, .x (.call g [.t (t + 2)])⟩, ⟨some (t + 4), none, .f (.iadr sz (.t t) (.t (t + 1)))⟩] ++ (fadrs p (t + 4) ++
      [⟨none, none, .x (.st 1 (.t (t + 4 + p.length)) (.t (t + 3)))⟩])), incC (t + 5 + p.length)], t + 7 + p.length)
  | .slice _ _ => ([.reg ([⟨some t, none, .f (.mv (.t 0))⟩, ⟨some (t + 1), none, .f (.mv (.t 5))⟩, ⟨some (t + 2), none, .f (.iadr sz (.t t) (.t (t + 1)))⟩] ++ (fadrs p (t + 2) ++
      [⟨some (t + 3 + p.length), none, .f (.ld (.t (t + 2 + p.length)))⟩, ⟨some (t + 4 + p.length), none, .f (.mv (.t 1))⟩, ⟨some (t + 5 + p.length), none, .x (.call g [.t (t + 3 + p.length), .t (t + 4 + p.length)])⟩,
       ⟨some 1, none, .f (.mv (.t (t + 5 + p.length)))⟩]))], t + 6 + p.length)
  | _ => ([], t)
def mkC (sz : Nat) : Ty → List Nat → Nat → List Nat → Nat → List CC × List Nat × Nat
  | .nil, _, _, q, t => ([], q, t)
  | .str, p, _, q, t => ((mkLf sz p (q.headD 0) t .str).1, q.tail, (mkLf sz p (q.headD 0) t .str).2)
  | .slice el e, p, _, q, t => ((mkLf sz p (q.headD 0) t (.slice el e)).1, q.tail, (mkLf sz p (q.headD 0) t (.slice el e)).2)
  | .bool, p, _, q, t => ((mkLf sz p 0 t .bool).1, q, (mkLf sz p 0 t .bool).2)
  | .int k, p, _, q, t => ((mkLf sz p 0 t (.int k)).1, q, (mkLf sz p 0 t (.int k)).2)
  | .cat a b, p, off, q, t =>
    ((mkC sz a (p ++ [off]) 0 q t).1 ++ (mkC sz b p (off + a.sz) (mkC sz a (p ++ [off]) 0 q t).2.1 (mkC sz a (p ++ [off]) 0 q t).2.2).1,
     (mkC sz b p (off + a.sz) (mkC sz a (p ++ [off]) 0 q t).2.1 (mkC sz a (p ++ [off]) 0 q t).2.2).2)
def mkOk (P : Program) : Ty → List Nat → Prop × List Nat
  | .nil, q => (True, q)
  | .bool, q => (True, q)
  | .int _, q => (True, q)
  | .str, q => (MtC P (q.headD 0), q.tail)
  | .slice el e, q => (MkC P (q.headD 0) (.slice el e), q.tail)
  | .cat a b, q => ((mkOk P a q).1 ∧ (mkOk P b (mkOk P a q).2).1, (mkOk P b (mkOk P a q).2).2)
def markBody (ty : Ty) (q : List Nat) : List CC × List Nat × Nat := mkC ty.sz ty [] 0 q 12
def markC (ty : Ty) (q : List Nat) : CC :=
 (.seq (.reg [
   ⟨(some 4), none, .f (.mv (.c (.int .i64 0)))⟩])
 (.seq (.seq (.reg [
   ⟨(some 5), none, .f (.mv (.c (.int .i64 0)))⟩])
 (.block 0 (.loop (.seq (.seq (.reg [
     ⟨(some 6), none, .f (.mv (.t 5))⟩,
     ⟨(some 7), none, .f (.mv (.t 0))⟩,
     ⟨(some 8), none, .f (.len (.t 7))⟩,
     ⟨(some 9), none, .f (.bin .lss (.t 6) (.t 8))⟩])
   (.cond (.t 9)
    .skip
    (.exit 0)))
   (.seq (.block 1 (seqs (markBody ty q).1))
   (.reg [
     ⟨(some 10), none, .f (.mv (.t 5))⟩,
     ⟨(some 11), none, .f (.bin .add (.t 10) (.c (.int .i64 1)))⟩,
     ⟨(some 5), none, .f (.mv (.t 11))⟩]))))))
 (.seq (.reg [
   ⟨(some (markBody ty q).2.2), none, .f (.mv (.t 1))⟩,
   ⟨(some 4), none, .f (.mv (.t (markBody ty q).2.2))⟩])
 .ret)))

def Ty.okT : Ty → Bool
  | .cat a b => !b.one && a.okT && b.okT
  | _ => true
theorem sto_row {l i k n : Nat} {cs pre mid suf : List IV} {rs : List (List IV)} {el sz : Nat} {h : IH} {K : HoldK} (ho : h.obj l = .rows rs el sz false) (hr : rs[i]? = some (pre ++ (mid ++ suf))) (hk : k = pre.length) (hm : mid.length = n) (hc : cs.length = n) (h1 : ∀ v ∈ cs, v.one = true)
    (hK : K.k (.tuple []) (h.set l (.rows (rs.set i (pre ++ (cs ++ suf))) el sz false))) : @stO n i k cs l (h.obj l) h K := by
  rw [ho]
  refine stO_of (row := pre ++ (mid ++ suf)) hr hc (by simp; omega) h1 ?_
  have : wrt (pre ++ (mid ++ suf)) k cs = pre ++ (cs ++ suf) := by
    rw [wrt_eq _ _ _ (by simp; omega), hk, hc, ← hm]
    simp [List.take_append, List.drop_append]
  rw [this]
  exact hK
structure Slot (e : Env) (h : IH) (l n i kk : Nat) (rs : List (List IV)) (el sz : Nat) (row : List IV) : Prop where
  e0 : e 0 = .slice l 0 n
  e5 : e 5 = .int .i64 (i : Nat)
  e1 : e 1 = .int .i64 (kk : Nat)
  lt : i < n
  obj : h.obj l = .rows rs el sz false
  ln : l < h.n
  row : rs[i]? = some row
theorem Slot.ia {e : Env} {h : IH} {l n i kk : Nat} {rs : List (List IV)} {el sz : Nat} {row : List IV} (s : Slot e h l n i kk rs el sz row) : iadrF h sz (.slice l 0 n) (.int .i64 (i : Nat)) = some (.ptr l i 0) := by
  rw [iadrF_nat s.lt (by rw [s.obj]; rfl), Nat.zero_add]
def MStep (P : Program) (c : List CC) (t : Ty) (sz off : Nat) : Prop :=
  ∀ (rest : List CC) (K : EPost) (e : Env) (h : IH) (l n i kk : Nat) (rs : List (List IV)) (el : Nat) (pre cs suf : List IV) (d : Dat) (fs : List Nat), Slot e h l n i kk rs el sz (pre ++ (cs ++ suf)) → pre.length = off → Ro h t cs d fs → fs.Nodup → l ∉ fs →
    kk + cntE t d + d.tot < 4611686018427387904 →
    (∀ (e' : Env) (h' : IH) (cs' : List IV), e' 0 = .slice l 0 n → e' 5 = .int .i64 (i : Nat) → e' 1 = .int .i64 ((kk + cntE t d : Nat) : Int) → h'.obj l = .rows (rs.set i (pre ++ (cs' ++ suf))) el sz false → Ro h' t cs' (mkE t d kk) fs → TrnL (l :: fs) h h' → vcs P rest K e' h') →
    vcs P (c ++ rest) K e h
theorem st_inc {a w t2 l n i kk : Nat} {rs : List (List IV)} {el sz : Nat} {pre suf : List IV} {v0 v : IV} {e : Env} {h : IH} {K : EPost} {rest : List CC} (ht : 6 ≤ t2) (S : Slot e h l n i kk rs el sz (pre ++ ([v0] ++ suf))) (ha : e a = .ptr l i pre.length) (hw : e w = v) (hv : v.one = true)
    (hkk : kk + 1 < 4611686018427387904)
    (hK : ∀ e' : Env, e' 0 = .slice l 0 n → e' 5 = .int .i64 (i : Nat) → e' 1 = .int .i64 ((kk + 1 : Nat) : Int) → vcs P rest K e' (h.set l (.rows (rs.set i (pre ++ ([v] ++ suf))) el sz false))) :
    vcOps P [⟨none, none, .x (.st 1 (.t a) (.t w))⟩] (seqK (vcs P (incC t2 :: rest) K) K .normal) e h := by
  simp only [go_sem, ↓act_zero, boxA_1, boxA_2, boxA_3, bslA_1, ha, hw, one_cells hv]
  refine sto_row S.obj S.row rfl rfl rfl (by simpa using hv) ?_
  have w0 : wr .i64 ((kk : Int) + 1) = ((kk + 1 : Nat) : Int) := by rw [wr64 _ (by omega)]; rfl
  simp (disch := omega) only [incC, vcs_cons, go_sem, ↓act_zero, boxA_1, boxA_2, boxA_3, bslA_1, upd_eq, upd_ne, S.e1, Hold.p, HoldK.k, w0]
  exact hK _ (by simp (disch := omega) only [upd_ne, S.e0]) (by simp (disch := omega) only [upd_ne, S.e5]) (by simp (disch := omega) only [upd_eq, upd_ne])
theorem scal_flat {t : Ty} (hs : t.scal = true) {h : IH} {cs : List IV} {d : Dat} {fs : List Nat} (hr : Ro h t cs d fs) : ∃ v, cs = [v] ∧ fs = [] := by
  cases t with
  | bool => obtain ⟨x, rfl, rfl, rfl⟩ := hr; exact ⟨_, rfl, rfl⟩
  | int k => obtain ⟨x, rfl, rfl, rfl⟩ := hr; exact ⟨_, rfl, rfl⟩
  | str => obtain ⟨x, rfl, rfl, rfl⟩ := hr; exact ⟨_, rfl, rfl⟩
  | _ => cases hs
theorem mkLf_i64 {sz off g t : Nat} {p : List Nat} (ht : 12 ≤ t) (hp : p.sum = off) : MStep P (mkLf sz p g t (.int .i64)).1 (.int .i64) sz off := by
  intro rest K e h l n i kk rs el pre cs suf d fs S hpl hr hn hl hkk hK
  obtain ⟨v0, rfl, rfl⟩ := scal_flat rfl hr
  have hia := S.ia
  simp (disch := omega) only [mkLf, vcs_cons, ca0, na0, go_sem, ↓act_zero, boxA_1, boxA_2, boxA_3, bslA_1, upd_eq, upd_ne, S.e0, S.e1, S.e5, hia]
  refine fadrs_vc (l := l) (i := i) p (t + 3) 0 _ (by simp only [upd_eq]) fun e' h1 h2 => ?_
  have x0 : e' 0 = .slice l 0 n := by rw [h1 _ (by omega)]; simp (disch := omega) only [upd_ne, S.e0]
  have x5 : e' 5 = .int .i64 (i : Nat) := by rw [h1 _ (by omega)]; simp (disch := omega) only [upd_ne, S.e5]
  have x1 : e' 1 = .int .i64 (kk : Nat) := by rw [h1 _ (by omega)]; simp (disch := omega) only [upd_ne, S.e1]
  have xw : e' (t + 2) = .int .i64 (kk : Nat) := by rw [h1 _ (by omega)]; simp (disch := omega) only [upd_eq, upd_ne]
  rw [hp, Nat.zero_add, ← hpl] at h2
  simp only [cntE] at hkk hK
  refine st_inc (by omega) ⟨x0, x5, x1, S.lt, S.obj, S.ln, S.row⟩ h2 xw rfl (by omega) fun e2 y0 y5 y1 => ?_
  refine hK e2 _ _ y0 y5 y1 (set_here _ _ _) ⟨_, rfl, ?_, rfl⟩ (TrnL.set _ List.mem_cons_self)
  rw [mkE, wr64 _ (by omega)]
theorem mkLf_int {sz off g t : Nat} {k : IntKind} {p : List Nat} (ht : 12 ≤ t) (hp : p.sum = off) : MStep P (mkLf sz p g t (.int k)).1 (.int k) sz off := by
  by_cases hk : k = .i64
  · subst hk; exact mkLf_i64 ht hp
  intro rest K e h l n i kk rs el pre cs suf d fs S hpl hr hn hl hkk hK
  obtain ⟨v0, rfl, rfl⟩ := scal_flat rfl hr
  have hia := S.ia
  have hc : mkLf sz p g t (.int k) = ([.reg ([⟨some t, none, .f (.mv (.t 0))⟩, ⟨some (t + 1), none, .f (.mv (.t 5))⟩, ⟨some (t + 2), none, .f (.mv (.t 1))⟩, ⟨some (t + 3), none, .f (.cvI k (.t (t + 2)))⟩, ⟨some (t + 4), none, .f (.iadr sz (.t t) (.t (t + 1)))⟩] ++ (fadrs p (t + 4) ++
      [⟨none, none, .x (.st 1 (.t (t + 4 + p.length)) (.t (t + 3)))⟩])), incC (t + 5 + p.length)], t + 7 + p.length) := by
    cases k <;> first | rfl | exact absurd rfl hk
  simp (disch := omega) only [hc, vcs_cons, ca0, na0, go_sem, ↓act_zero, boxA_1, boxA_2, boxA_3, bslA_1, upd_eq, upd_ne, S.e0, S.e1, S.e5, hia]
  refine fadrs_vc (l := l) (i := i) p (t + 4) 0 _ (by simp only [upd_eq]) fun e' h1 h2 => ?_
  have x0 : e' 0 = .slice l 0 n := by rw [h1 _ (by omega)]; simp (disch := omega) only [upd_ne, S.e0]
  have x5 : e' 5 = .int .i64 (i : Nat) := by rw [h1 _ (by omega)]; simp (disch := omega) only [upd_ne, S.e5]
  have x1 : e' 1 = .int .i64 (kk : Nat) := by rw [h1 _ (by omega)]; simp (disch := omega) only [upd_ne, S.e1]
  have xw : e' (t + 3) = .int k (wr k (kk : Nat)) := by rw [h1 _ (by omega)]; simp (disch := omega) only [upd_eq, upd_ne]
  rw [hp, Nat.zero_add, ← hpl] at h2
  simp only [cntE] at hkk hK
  refine st_inc (by omega) ⟨x0, x5, x1, S.lt, S.obj, S.ln, S.row⟩ h2 xw rfl (by omega) fun e2 y0 y5 y1 => ?_
  exact hK e2 _ _ y0 y5 y1 (set_here _ _ _) ⟨_, rfl, by rw [mkE], rfl⟩ (TrnL.set _ List.mem_cons_self)
theorem mkLf_bool {sz off g t : Nat} {p : List Nat} (ht : 12 ≤ t) (hp : p.sum = off) : MStep P (mkLf sz p g t .bool).1 .bool sz off := by
  intro rest K e h l n i kk rs el pre cs suf d fs S hpl hr hn hl hkk hK
  obtain ⟨v0, rfl, rfl⟩ := scal_flat rfl hr
  have hia := S.ia
  have hrem : ibin .rem (.int .i64 (kk : Nat)) (.int .i64 3) = some (.int .i64 (((kk : Nat) : Int).tmod 3)) := by simp [ibin]
  simp (disch := omega) only [mkLf, vcs_cons, ca0, na0, go_sem, ↓act_zero, boxA_1, boxA_2, boxA_3, bslA_1, upd_eq, upd_ne, S.e0, S.e1, S.e5, hia, hrem]
  refine fadrs_vc (l := l) (i := i) p (t + 5) 0 _ (by simp only [upd_eq]) fun e' h1 h2 => ?_
  have x0 : e' 0 = .slice l 0 n := by rw [h1 _ (by omega)]; simp (disch := omega) only [upd_ne, S.e0]
  have x5 : e' 5 = .int .i64 (i : Nat) := by rw [h1 _ (by omega)]; simp (disch := omega) only [upd_ne, S.e5]
  have x1 : e' 1 = .int .i64 (kk : Nat) := by rw [h1 _ (by omega)]; simp (disch := omega) only [upd_ne, S.e1]
  have xw : e' (t + 4) = .bool (decide (((kk : Nat) : Int).tmod 3 = 0)) := by rw [h1 _ (by omega)]; simp (disch := omega) only [upd_eq, upd_ne]
  rw [hp, Nat.zero_add, ← hpl] at h2
  simp only [cntE] at hkk hK
  refine st_inc (by omega) ⟨x0, x5, x1, S.lt, S.obj, S.ln, S.row⟩ h2 xw rfl (by omega) fun e2 y0 y5 y1 => ?_
  refine hK e2 _ _ y0 y5 y1 (set_here _ _ _) ⟨_, rfl, ?_, rfl⟩ (TrnL.set _ List.mem_cons_self)
  rw [mkE, Int.tmod_eq_emod_of_nonneg (by omega)]
theorem mkLf_str {sz off g t : Nat} {p : List Nat} (ht : 12 ≤ t) (hp : p.sum = off) (hg : MtC P g) : MStep P (mkLf sz p g t .str).1 .str sz off := by
  intro rest K e h l n i kk rs el pre cs suf d fs S hpl hr hn hl hkk hK
  obtain ⟨v0, rfl, rfl⟩ := scal_flat rfl hr
  simp (disch := omega) only [mkLf, vcs_cons, ca0, na0, go_sem, ↓act_zero, boxA_1, boxA_2, boxA_3, bslA_1, upd_eq, upd_ne, S.e0, S.e1, S.e5, mc0, mn0]
  refine callA_of (hg h kk (by omega)) ?_
  rintro r h2 ⟨rfl, E⟩
  have S2 : Slot e h2 l n i kk rs el sz (pre ++ ([v0] ++ suf)) := ⟨S.e0, S.e5, S.e1, S.lt, (E.obj l S.ln).trans S.obj, Nat.lt_of_lt_of_le S.ln E.le, S.row⟩
  have hia := S2.ia
  simp (disch := omega) only [go_sem, ↓act_zero, boxA_1, boxA_2, boxA_3, bslA_1, upd_eq, upd_ne, S.e0, S.e1, S.e5, hia, Hold.p, HoldK.k]
  refine fadrs_vc (l := l) (i := i) p (t + 4) 0 _ (by simp only [upd_eq]) fun e' h1 h3 => ?_
  have x0 : e' 0 = .slice l 0 n := by rw [h1 _ (by omega)]; simp (disch := omega) only [upd_ne, S.e0]
  have x5 : e' 5 = .int .i64 (i : Nat) := by rw [h1 _ (by omega)]; simp (disch := omega) only [upd_ne, S.e5]
  have x1 : e' 1 = .int .i64 (kk : Nat) := by rw [h1 _ (by omega)]; simp (disch := omega) only [upd_ne, S.e1]
  have xw : e' (t + 3) = .str (mtext kk) := by rw [h1 _ (by omega)]; simp (disch := omega) only [upd_eq, upd_ne]
  rw [hp, Nat.zero_add, ← hpl] at h3
  simp only [cntE] at hkk hK
  refine st_inc (by omega) ⟨x0, x5, x1, S.lt, S2.obj, S2.ln, S.row⟩ h3 xw rfl (by omega) fun e2 y0 y5 y1 => ?_
  exact hK e2 _ _ y0 y5 y1 (set_here _ _ _) ⟨_, rfl, by rw [mkE], rfl⟩ ((TrnL.of_ext E).trans (TrnL.set _ List.mem_cons_self))
theorem set_same {α : Type} {l : List α} {i : Nat} {x : α} (h : l[i]? = some x) : l.set i x = l := by
  obtain ⟨hi, rfl⟩ := List.getElem?_eq_some_iff.1 h
  simp
theorem mkLf_slice {sz off g t el : Nat} {ty : Ty} {p : List Nat} (ht : 12 ≤ t) (hp : p.sum = off) (hg : MkC P g (.slice el ty)) : MStep P (mkLf sz p g t (.slice el ty)).1 (.slice el ty) sz off := by
  intro rest K e h l n i kk rs el' pre cs suf d fs S hpl hr hn hl hkk hK
  have hlen := hr.len
  match cs, hlen with
  | [v], _ =>
  have hv := hr.one v (by simp)
  have hia := S.ia
  simp (disch := omega) only [mkLf, vcs_cons, ca0, na0, go_sem, ↓act_zero, boxA_1, boxA_2, boxA_3, bslA_1, upd_eq, upd_ne, S.e0, S.e1, S.e5, hia]
  refine fadrs_vc (l := l) (i := i) p (t + 2) 0 _ (by simp only [upd_eq]) fun e' h1 h2 => ?_
  have x0 : e' 0 = .slice l 0 n := by rw [h1 _ (by omega)]; simp (disch := omega) only [upd_ne, S.e0]
  have x5 : e' 5 = .int .i64 (i : Nat) := by rw [h1 _ (by omega)]; simp (disch := omega) only [upd_ne, S.e5]
  have x1 : e' 1 = .int .i64 (kk : Nat) := by rw [h1 _ (by omega)]; simp (disch := omega) only [upd_ne, S.e1]
  rw [hp, Nat.zero_add, ← hpl] at h2
  have hc : cellO (h.obj l) i pre.length = some v := by
    rw [S.obj, cellO_rows, S.row]
    exact cell_mid rfl
  simp (disch := omega) only [go_sem, ↓act_zero, boxA_1, boxA_2, boxA_3, bslA_1, upd_eq, upd_ne, h2, hc, x1, mc0, mn0]
  have hcall := hg h [v] d fs kk hr hn hkk
  rw [pk_one rfl] at hcall
  refine callA_of hcall ?_
  rintro r h3 ⟨rfl, r3, T⟩
  simp (disch := omega) only [go_sem, ↓act_zero, boxA_1, boxA_2, boxA_3, bslA_1, upd_eq, upd_ne, Hold.p, HoldK.k]
  refine hK _ h3 [v] (by simp (disch := omega) only [upd_ne, x0]) (by simp (disch := omega) only [upd_ne, x5]) (by simp (disch := omega) only [upd_eq]; rfl) ?_ r3 (T.sub fun x hx => List.mem_cons_of_mem _ hx)
  rw [T.obj l S.ln hl, S.obj, set_same S.row]
theorem MStep.cat {c1 c2 : List CC} {a b : Ty} {sz off : Nat} (h1 : MStep P c1 a sz off) (h2 : MStep P c2 b sz (off + a.sz)) : MStep P (c1 ++ c2) (.cat a b) sz off := by
  intro rest K e h l n i kk rs el pre cs suf d fs S hpl hr hn hl hkk hK
  obtain ⟨cs1, cs2, d1, d2, f1, f2, rfl, rfl, rfl, r1, r2⟩ := hr
  obtain ⟨n1, n2, n12⟩ := List.nodup_append.1 hn
  simp only [cntE, Dat.tot] at hkk hK
  have hll : ∀ x ∈ f1, x ≠ l := fun x hx e => hl (by rw [← e]; exact List.mem_append_left _ hx)
  have hlr : ∀ x ∈ f2, x ≠ l := fun x hx e => hl (by rw [← e]; exact List.mem_append_right _ hx)
  rw [List.append_assoc]
  refine h1 (c2 ++ rest) K e h l n i kk rs el pre cs1 (cs2 ++ suf) d1 f1 ⟨S.e0, S.e5, S.e1, S.lt, S.obj, S.ln, by rw [S.row, List.append_assoc]⟩ hpl r1 n1 (fun h => hll l h rfl) (by omega) ?_
  intro e' h' cs1' x0 x5 x1 ho q1 T1
  have hil := (List.getElem?_eq_some_iff.1 S.row).1
  have hq1 := q1.len
  have hr1 := r1.len
  have q2 : Ro h' b cs2 d2 f2 := r2.trn T1 fun x hx hm => by
    rcases List.mem_cons.1 hm with e | hm
    · exact hlr x hx e
    · exact n12 x hm x hx rfl
  refine h2 rest K e' h' l n i (kk + cntE a d1) (rs.set i (pre ++ (cs1' ++ (cs2 ++ suf)))) el (pre ++ cs1') cs2 suf d2 f2 ⟨x0, x5, x1, S.lt, ho, Nat.lt_of_lt_of_le S.ln T1.le, by rw [List.getElem?_set_self hil]; simp⟩
    (by rw [la0]; omega) q2 n2 (fun h => hlr l h rfl) (by omega) ?_
  intro e2 h2' cs2' y0 y5 y1 ho2 q3 T2
  refine hK e2 h2' (cs1' ++ cs2') y0 y5 (by rw [y1, Nat.add_assoc]) (by rw [ho2, List.set_set]; simp) ⟨cs1', cs2', _, _, f1, f2, rfl, by rw [mkE], rfl, ?_, q3⟩ ?_
  · exact q1.trn T2 fun x hx hm => by
      rcases List.mem_cons.1 hm with e | hm
      · exact hll x hx e
      · exact n12 x hx x hm rfl
  · refine (T1.sub fun x hx => ?_).trans (T2.sub fun x hx => ?_)
    · rcases List.mem_cons.1 hx with rfl | hx
      · exact List.mem_cons_self
      · exact List.mem_cons_of_mem _ (List.mem_append_left _ hx)
    · rcases List.mem_cons.1 hx with rfl | hx
      · exact List.mem_cons_self
      · exact List.mem_cons_of_mem _ (List.mem_append_right _ hx)
theorem MStep.none {sz off : Nat} : MStep P [] .nil sz off := by
  intro rest K e h l n i kk rs el pre cs suf d fs S hpl hr hn hl hkk hK
  obtain ⟨rfl, rfl, rfl⟩ := hr
  refine hK e h [] S.e0 S.e5 S.e1 (by rw [S.obj, set_same S.row]) ⟨rfl, rfl, rfl⟩ (TrnL.refl _ _)
theorem mkC_step {sz : Nat} : ∀ (ty : Ty) (p : List Nat) (off : Nat) (q : List Nat) (t : Nat), 12 ≤ t → ty.okT = true → (ty.one = true → off = 0) → (mkOk P ty q).1 →
    (mkC sz ty p off q t).2.1 = (mkOk P ty q).2 ∧ t ≤ (mkC sz ty p off q t).2.2 ∧ MStep P (mkC sz ty p off q t).1 ty sz (p.sum + off)
  | .nil, p, off, q, t, ht, _, _, _ => ⟨rfl, Nat.le_refl _, MStep.none⟩
  | .bool, p, off, q, t, ht, _, h0, _ => ⟨rfl, by show t ≤ t + 8 + p.length; omega, by rw [h0 rfl]; exact mkLf_bool (g := 0) ht rfl⟩
  | .int k, p, off, q, t, ht, _, h0, _ => ⟨rfl, by show t ≤ (mkLf sz p 0 t (.int k)).2; cases k <;> simp only [mkLf] <;> omega, by rw [h0 rfl]; exact mkLf_int (g := 0) ht rfl⟩
  | .str, p, off, q, t, ht, _, h0, hg => ⟨rfl, by show t ≤ t + 7 + p.length; omega, by rw [h0 rfl]; exact mkLf_str ht rfl hg⟩
  | .slice el e, p, off, q, t, ht, _, h0, hg => ⟨rfl, by show t ≤ t + 6 + p.length; omega, by rw [h0 rfl]; exact mkLf_slice ht rfl hg⟩
  | .cat a b, p, off, q, t, ht, hok, _, hg => by
    simp only [Ty.okT, Bool.and_eq_true, Bool.not_eq_true'] at hok
    obtain ⟨⟨hb, oka⟩, okb⟩ := hok
    obtain ⟨g1, g2⟩ := hg
    obtain ⟨a1, a2, a3⟩ := mkC_step (sz := sz) a (p ++ [off]) 0 q t ht oka (fun _ => rfl) g1
    rw [← a1] at g2
    obtain ⟨b1, b2, b3⟩ := mkC_step (sz := sz) b p (off + a.sz) _ _ (Nat.le_trans ht a2) okb (fun h => by rw [hb] at h; cases h) g2
    refine ⟨?_, Nat.le_trans a2 b2, ?_⟩
    · show (mkC sz b p (off + a.sz) (mkC sz a (p ++ [off]) 0 q t).2.1 (mkC sz a (p ++ [off]) 0 q t).2.2).2.1 = _
      rw [b1, a1]; rfl
    · refine MStep.cat ?_ ?_
      · have := a3
        simp only [List.sum_append, List.sum_cons, List.sum_nil, Nat.add_zero] at this
        exact this
      · rw [Nat.add_assoc]; exact b3

theorem marked_at {e : Ty} {ds : List Dat} {k k0 : Nat} {x : Dat} (h : ds[k]? = some x) : (mkL e (ds.take k) k0 ++ ds.drop k)[k]? = some x := by
  have hk := (List.getElem?_eq_some_iff.1 h).1
  have hl : (mkL e (ds.take k) k0).length = k := by rw [mkL_len, List.length_take]; omega
  rw [List.getElem?_append_right (by omega), hl, Nat.sub_self, List.getElem?_drop, Nat.add_zero]; exact h
set_option maxRecDepth 20000 in
theorem mark_calls {f N el : Nat} {ty : Ty} {q : List Nat} (hf : fnComp P f = some (N, markC ty q, [.mv (.t 4)])) (hN : 2 ≤ N) (hok : ty.okT = true) (hq : (mkOk P ty q).1) : MkC P f (.slice el ty) := by
  intro h cs d fs k0 hr hn hkk
  obtain ⟨m1, m2, m3⟩ := mkC_step (P := P) (sz := ty.sz) ty [] 0 q 12 (Nat.le_refl _) hok (fun _ => rfl) hq
  obtain ⟨v, ds, rfl, rfl, hv⟩ := hr
  rw [pk_one rfl]
  refine icalls (.of hf) (by simpa using hN) ?_
  unfold markC markBody
  generalize hc : mkC ty.sz ty [] 0 q 12 = c at m1 m2 m3
  obtain ⟨cl, cq, ct⟩ := c
  simp only at m1 m2 m3 ⊢
  simp only [cntW, cntE, Dat.tot] at hkk
  simp only [cntW, cntE, mkW, mkE]
  have c1 : (4 == ct) = false := by simp; omega
  have c2 : (1 == ct) = false := by simp; omega
  have c3 : (5 == ct) = false := by simp; omega
  rcases hv with ⟨rfl, rfl, hv⟩ | ⟨l, rs, gs, h0, rfl, hl, hob, rfl, hall⟩
  · have hlen : lenF v = some (.int .i64 0) := by rcases hv with rfl | rfl <;> rfl
    simp only [hlen, go_sem, ↓act_zero, boxA_1, boxA_2, boxA_3, bslA_1, Hold.p, HoldK.k, HoldL.K, HoldL.body, Nat.reduceBEq, Nat.reduceAdd, List.getElem?_cons_zero, List.getElem?_cons_succ, Option.bind_some, mc0, mn0, Nat.zero_add, if_true, List.getD_cons_zero, List.getD_cons_succ, List.contains_cons, List.contains_nil, Nat.reduceBEq, Bool.or_true, Bool.true_or, Bool.or_false, Bool.false_or, Bool.not_true, Bool.not_false, true_and, and_true]
    refine loop_at (fun n e h' => n = 0 ∧ h' = h ∧ e 0 = v ∧ e 1 = .int .i64 (k0 : Nat) ∧ e 5 = .int .i64 0) 0 ?_ ?_
    · simp only [go_sem, ↓act_zero, boxA_1, boxA_2, boxA_3, bslA_1, Hold.p, HoldK.k, HoldL.K, HoldL.body, Nat.reduceBEq, Nat.reduceAdd, List.getElem?_cons_zero, List.getElem?_cons_succ, Option.bind_some, mc0, mn0, Nat.zero_add, if_true, List.getD_cons_zero, List.getD_cons_succ, List.contains_cons, List.contains_nil, Nat.reduceBEq, Bool.or_true, Bool.true_or, Bool.or_false, Bool.false_or, Bool.not_true, Bool.not_false, true_and, and_true]
    · rintro n e h' ⟨rfl, rfl, e0, e1, e5⟩
      simp only [e0, e1, e5, hlen, go_sem, ↓act_zero, boxA_1, boxA_2, boxA_3, bslA_1, Hold.p, HoldK.k, HoldL.K, HoldL.body, Nat.reduceBEq, Nat.reduceAdd, List.getElem?_cons_zero, List.getElem?_cons_succ, Option.bind_some, mc0, mn0, Nat.zero_add, if_true, List.getD_cons_zero, List.getD_cons_succ, List.contains_cons, List.contains_nil, Nat.reduceBEq, Bool.or_true, Bool.true_or, Bool.or_false, Bool.false_or, Bool.not_true, Bool.not_false, true_and, and_true]
      refine test_dec (fun hb => absurd hb (by simp)) (fun _ => ?_)
      simp (disch := omega) only [go_sem, ↓act_zero, boxA_1, boxA_2, boxA_3, bslA_1, upd_eq, upd_ne, Hold.p, HoldK.k, HoldL.K, e1]
      exact ⟨by simp [cntL], ⟨v, [], rfl, rfl, .inl ⟨rfl, rfl, hv⟩⟩, TrnL.refl _ _⟩
  · obtain ⟨hlg, hng⟩ := List.nodup_cons.1 hn
    have hdl : 0 < ds.length := List.length_pos_iff.2 h0
    simp only [go_sem, ↓act_zero, boxA_1, boxA_2, boxA_3, bslA_1, Hold.p, HoldK.k, HoldL.K, HoldL.body, Nat.reduceBEq, Nat.reduceAdd, List.getElem?_cons_zero, List.getElem?_cons_succ, Option.bind_some, mc0, mn0, Nat.zero_add, if_true, List.getD_cons_zero, List.getD_cons_succ, List.contains_cons, List.contains_nil, Nat.reduceBEq, Bool.or_true, Bool.true_or, Bool.or_false, Bool.false_or, Bool.not_true, Bool.not_false, true_and, and_true]
    refine loop_at (fun n e h' => ∃ k rs', n = ds.length - k ∧ k ≤ ds.length ∧ e 0 = .slice l 0 ds.length ∧ e 1 = .int .i64 ((k0 + cntL ty (ds.take k) : Nat) : Int) ∧ e 5 = .int .i64 (k : Nat) ∧
      h'.obj l = .rows rs' el ty.sz false ∧ All3 (Ro h' ty) rs' (mkL ty (ds.take k) k0 ++ ds.drop k) gs ∧ TrnL (l :: gs) h h') ds.length ?_ ?_
    · refine ⟨0, rs, by omega, by omega, ?_⟩
      simp only [tz0, dz0, mkL, cntL, na0, Nat.add_zero, go_sem, ↓act_zero, boxA_1, boxA_2, boxA_3, bslA_1, Hold.p, HoldK.k, HoldL.K, HoldL.body, Nat.reduceBEq, Nat.reduceAdd, List.getElem?_cons_zero, List.getElem?_cons_succ, Option.bind_some, mc0, mn0, Nat.zero_add, if_true, List.getD_cons_zero, List.getD_cons_succ, List.contains_cons, List.contains_nil, Nat.reduceBEq, Bool.or_true, Bool.true_or, Bool.or_false, Bool.false_or, Bool.not_true, Bool.not_false, true_and, and_true]
      exact ⟨rfl, hob, hall, TrnL.refl _ _⟩
    · rintro n e h' ⟨k, rs', rfl, hk, e0, e1, e5, ho, ha, T⟩
      simp only [e0, e1, e5, go_sem, ↓act_zero, boxA_1, boxA_2, boxA_3, bslA_1, Hold.p, HoldK.k, HoldL.K, HoldL.body, Nat.reduceBEq, Nat.reduceAdd, List.getElem?_cons_zero, List.getElem?_cons_succ, Option.bind_some, mc0, mn0, Nat.zero_add, if_true, List.getD_cons_zero, List.getD_cons_succ, List.contains_cons, List.contains_nil, Nat.reduceBEq, Bool.or_true, Bool.true_or, Bool.or_false, Bool.false_or, Bool.not_true, Bool.not_false, true_and, and_true]
      refine test_dec (fun hb => ?_) (fun hb => ?_)
      · have hlt' : k < ds.length := by omega
        have hkd : ds[k]? = some ds[k] := List.getElem?_eq_getElem hlt'
        generalize ds[k] = x at hkd
        have hxm := marked_at (e := ty) (k0 := k0) hkd
        obtain ⟨r, g1, f1, g2, hrk, hg, hrx, s1, s2⟩ := ha.split hxm
        subst hg
        have hct := cntL_take (e := ty) hkd
        have htm := tot_mem (List.mem_of_getElem? hkd)
        have hcle : cntL ty (ds.take (k + 1)) ≤ cntL ty ds := by
          have key : ∀ (l : List Dat) (j : Nat), cntL ty (l.take j) ≤ cntL ty l := by
            intro l
            induction l with
            | nil => intro j; simp [cntL]
            | cons a l ih => intro j; cases j with
              | zero => simp [cntL]
              | succ j => simp only [ts0, cntL]; have := ih j; omega
          exact key _ _
        have hlf : l ∉ f1 := fun hm => hlg (List.mem_append_right _ (List.mem_append_left _ hm))
        obtain ⟨nd1, nd2, nd3⟩ := List.nodup_append.1 hng
        obtain ⟨nd4, nd5, nd6⟩ := List.nodup_append.1 nd2
        simp only [e0, e1, e5, go_sem, ↓act_zero, boxA_1, boxA_2, boxA_3, bslA_1, Hold.p, HoldK.k, HoldL.K, HoldL.body, Nat.reduceBEq, Nat.reduceAdd, List.getElem?_cons_zero, List.getElem?_cons_succ, Option.bind_some, mc0, mn0, Nat.zero_add, if_true, List.getD_cons_zero, List.getD_cons_succ, List.contains_cons, List.contains_nil, Nat.reduceBEq, Bool.or_true, Bool.true_or, Bool.or_false, Bool.false_or, Bool.not_true, Bool.not_false, true_and, and_true]
        rw [vc_seqs, ← List.append_nil cl]
        refine m3 [] _ _ h' l ds.length k (k0 + cntL ty (ds.take k)) rs' el [] r [] x f1 ⟨by simp (disch := omega) only [upd_ne, e0], by simp (disch := omega) only [upd_ne, e5], by simp (disch := omega) only [upd_ne, e1], hlt', ho, Nat.lt_of_lt_of_le hl T.le, by simpa using hrk⟩ rfl hrx nd4 hlf (by omega) ?_
        intro e2 h2 r' y0 y5 y1 o2 q2 T2
        simp only [na0, List.append_nil] at o2
        simp only [vcs_nil, y0, y1, y5, go_sem, ↓act_zero, boxA_1, boxA_2, boxA_3, bslA_1, Hold.p, HoldK.k, HoldL.K, HoldL.body, Nat.reduceBEq, Nat.reduceAdd, List.getElem?_cons_zero, List.getElem?_cons_succ, Option.bind_some, mc0, mn0, Nat.zero_add, if_true, List.getD_cons_zero, List.getD_cons_succ, List.contains_cons, List.contains_nil, Nat.reduceBEq, Bool.or_true, Bool.true_or, Bool.or_false, Bool.false_or, Bool.not_true, Bool.not_false, true_and, and_true]
        have hml : (mkL ty (ds.take k) k0).length = k := by rw [mkL_len, List.length_take]; omega
        have hrl := ha.len
        rw [la0, hml, List.length_drop] at hrl
        rw [List.take_left' hml] at s1
        have e3 : (mkL ty (ds.take k) k0 ++ ds.drop k).drop (k + 1) = ds.drop (k + 1) := by
          rw [List.drop_append, hml, List.drop_eq_nil_of_le (by omega), na0, List.drop_drop]
          congr 1; omega
        rw [e3] at s2
        have hll : ∀ y ∈ g1, y ∉ l :: f1 := fun y hy hm => by
          rcases List.mem_cons.1 hm with e | hm
          · exact hlg (by rw [← e]; exact List.mem_append_left _ hy)
          · exact nd3 y hy y (List.mem_append_left _ hm) rfl
        have hlr : ∀ y ∈ g2, y ∉ l :: f1 := fun y hy hm => by
          rcases List.mem_cons.1 hm with e | hm
          · exact hlg (by rw [← e]; exact List.mem_append_right _ (List.mem_append_right _ hy))
          · exact nd6 y hm y hy rfl
        refine ⟨_, ?_, k + 1, rs'.set k r', rfl, by omega, by rw [hct, Nat.add_assoc], wr64_succ k (by omega), o2, ?_, T.trans (T2.sub fun y hy => ?_)⟩
        · omega
        · rw [mkL_take hkd, List.append_assoc]
          have e4 : rs'.set k r' = rs'.take k ++ ([r'] ++ rs'.drop (k + 1)) := by
            rw [set_eq_take rs' k r' (List.getElem?_eq_some_iff.1 hrk).1, List.append_assoc]
          rw [e4]
          refine All3.app (s1.mono fun a b f hf y => y.trn T2 fun z hz => hll z (hf z hz)) (All3.cons q2 (s2.mono fun a b f hf y => y.trn T2 fun z hz => hlr z (hf z hz)))
        · rcases List.mem_cons.1 hy with rfl | hy
          · exact List.mem_cons_self
          · exact List.mem_cons_of_mem _ (List.mem_append_right _ (List.mem_append_left _ hy))
      · obtain rfl : k = ds.length := by omega
        rw [List.take_length] at e1 ha
        rw [List.drop_length, List.append_nil] at ha
        simp (disch := omega) only [go_sem, ↓act_zero, boxA_1, boxA_2, boxA_3, bslA_1, upd_eq, upd_ne, Hold.p, HoldK.k, HoldL.K, e1]
        refine ⟨trivial, ⟨_, _, rfl, rfl, .inr ⟨l, rs', gs, ?_, ?_, Nat.lt_of_lt_of_le hl T.le, ho, rfl, ha⟩⟩, T⟩
        · intro hx; have := congrArg List.length hx; rw [mkL_len] at this; exact h0 (List.length_eq_zero_iff.1 (by simpa using this))
        · rw [mkL_len]

def mkFs : List (Ty × Option Nat) → Nat → Nat → List CC
  | [], _, t => [.reg [⟨some t, none, .f (.mv (.t 1))⟩, ⟨some 4, none, .f (.mv (.t t))⟩], .ret]
  | (ty, none) :: r, off, t => mkFs r (off + ty.sz) t
  | (ty, some g) :: r, off, t => .reg [⟨some t, none, .f (.fadr off (.t 2))⟩, ⟨some (t + 1), none, .f (ldT ty (.t t))⟩, ⟨some (t + 2), none, .f (.mv (.t 1))⟩, ⟨some (t + 3), none, .x (.call g [.t (t + 1), .t (t + 2)])⟩,
      ⟨some 1, none, .f (.mv (.t (t + 3)))⟩] :: mkFs r (off + ty.sz) (t + 4)
def mkStC (ein sz : Nat) (fs : List (Ty × Option Nat)) : CC :=
  seqs (.reg [⟨some 2, none, .x (.box ein sz (.t 0))⟩, ⟨some 4, none, .f (.mv (.c (.int .i64 0)))⟩] :: mkFs fs 0 5)
theorem scal_w {t : Ty} (hs : t.scal = true) (d : Dat) (k : Nat) : mkW t d k = d ∧ cntW t d = 0 := by
  cases t <;> first | (cases hs; done) | exact ⟨by cases d <;> rfl, by cases d <;> rfl⟩
theorem mkFs_vc {ein sz p : Nat} (K : EPost) : ∀ (fs : List (Ty × Option Nat)) (t : Nat) (e : Env) (h : IH) (apre ar : List IV) (d : Dat) (gs : List Nat) (kk : Nat), 5 ≤ t → e 1 = .int .i64 (kk : Nat) → e 2 = .ptr p 0 0 → p < h.n → h.obj p = .rows [apre ++ ar] ein sz false →
      Ro h (tyOf fs) ar d gs → gs.Nodup → p ∉ gs → Flds (MkC P) fs → kk + cntW (tyOf fs) d + d.tot < 4611686018427387904 →
      (∀ e' h', e' 4 = .int .i64 ((kk + cntW (tyOf fs) d : Nat) : Int) → Ro h' (tyOf fs) ar (mkW (tyOf fs) d kk) gs → TrnL gs h h' → K .ret e' h') → vcs P (mkFs fs apre.length t) K e h
  | [], t, e, h, apre, ar, d, gs, kk, ht, e1, e2, lp, op, hr, hn, hp, hf, hkk, hK => by
    obtain ⟨rfl, rfl, rfl⟩ := hr
    unfold mkFs
    simp (disch := omega) only [vcs_cons, vcs_nil, go_sem, ↓act_zero, boxA_1, boxA_2, boxA_3, bslA_1, upd_eq, upd_ne, e1]
    exact hK _ _ (by simp (disch := omega) only [upd_eq]; rfl) ⟨rfl, rfl, rfl⟩ (TrnL.refl _ _)
  | (ty, none) :: r, t, e, h, apre, ar, d, gs, kk, ht, e1, e2, lp, op, hr, hn, hp, hf, hkk, hK => by
    obtain ⟨c1, c2, d1, d2, f1, f2, rfl, rfl, rfl, h1, h2⟩ := hr
    obtain ⟨hs, hf⟩ := hf
    obtain ⟨v, rfl, rfl⟩ := scal_flat hs h1
    obtain ⟨w1, w2⟩ := scal_w hs d1 kk
    simp only [tyOf, cntW, mkW, w1, w2, Nat.zero_add, Nat.add_zero, na0, Dat.tot] at hkk hK hn hp ⊢
    unfold mkFs
    have e4 : apre.length + ty.sz = (apre ++ [v]).length := by rw [scal_sz hs]; simp
    rw [e4]
    refine mkFs_vc (ein := ein) (sz := sz) K r t e h (apre ++ [v]) c2 d2 f2 kk ht e1 e2 lp (by rw [op]; simp) h2 hn hp hf (by omega) fun e' h' a1 a2 a3 => ?_
    refine hK e' h' a1 ⟨[v], c2, d1, _, [], f2, rfl, rfl, rfl, ?_, a2⟩ a3
    exact h1.same a3.le (by simp)
  | (ty, some g) :: r, t, e, h, apre, ar, d, gs, kk, ht, e1, e2, lp, op, hr, hn, hp, hf, hkk, hK => by
    obtain ⟨c1, c2, d1, d2, f1, f2, rfl, rfl, rfl, h1, h2⟩ := hr
    obtain ⟨hs, hf⟩ := hf
    obtain ⟨n1, n2, n12⟩ := List.nodup_append.1 hn
    have hl1 := h1.len
    simp only [tyOf, cntW, mkW, Dat.tot] at hkk hK ⊢
    have x1 : feval (upd e t (.ptr p 0 apre.length)) h (ldT ty (.t t)) = some (ty.pk c1) := ldT_mid (pre := apre) (by simp only [ev_t, upd_eq]) op hl1
    unfold mkFs
    simp (disch := omega) only [vcs_cons, go_sem, ↓act_zero, boxA_1, boxA_2, boxA_3, bslA_1, upd_eq, upd_ne, e1, e2, x1, Hold.p, HoldK.k, Nat.zero_add, mc0, mn0]
    refine callA_of (hs h c1 d1 f1 kk h1 n1 (by omega)) ?_
    rintro r1 h3 ⟨rfl, q1, T1⟩
    simp (disch := omega) only [go_sem, ↓act_zero, boxA_1, boxA_2, boxA_3, bslA_1, upd_eq, upd_ne, Hold.p, HoldK.k]
    have e4 : apre.length + ty.sz = (apre ++ c1).length := by simp [hl1]
    rw [e4]
    have h2' : Ro h3 (tyOf r) c2 d2 f2 := h2.trn T1 fun x hx hm => n12 x hm x hx rfl
    refine mkFs_vc (ein := ein) (sz := sz) K r (t + 4) _ h3 (apre ++ c1) c2 d2 f2 (kk + cntW ty d1) (by omega) (by simp (disch := omega) only [upd_eq]) (by simp (disch := omega) only [upd_ne, e2]) (Nat.lt_of_lt_of_le lp T1.le)
      (by rw [T1.obj p lp (fun hm => hp (List.mem_append_left _ hm)), op]; simp) h2' n2 (fun hm => hp (List.mem_append_right _ hm)) hf (by omega) fun e' h' a1 a2 a3 => ?_
    refine hK e' h' (by rw [a1, Nat.add_assoc]) ⟨c1, c2, _, _, f1, f2, rfl, rfl, rfl, ?_, a2⟩ ?_
    · exact q1.trn a3 fun x hx hm => n12 x hx x hm rfl
    · exact (T1.sub fun x hx => List.mem_append_left _ hx).trans (a3.sub fun x hx => List.mem_append_right _ hx)
set_option maxRecDepth 20000 in
theorem markSt_calls {f N ein sz : Nat} {fs : List (Ty × Option Nat)} (hf : fnComp P f = some (N, mkStC ein sz fs, [.mv (.t 4)])) (hN : 2 ≤ N) (hs : (tyOf fs).sz = sz) (hfl : Flds (MkC P) fs) : MkC P f (tyOf fs) := by
  intro h cs d gs kk hr hn hkk
  rw [pk_agg (tyOf_agg fs)]
  have hl := hr.len
  refine icalls (.of hf) (by simpa using hN) ?_
  unfold mkStC
  rw [vc_seqs]
  simp only [vcs_cons, vcs_nil, go_sem, ↓act_zero, boxA_1, boxA_2, boxA_3, bslA_1, Nat.reduceBEq, Hold.p, HoldK.k]
  refine boxA_of (by rw [hl, hs]) hr.one ?_
  simp only [vcs_cons, vcs_nil, go_sem, ↓act_zero, boxA_1, boxA_2, boxA_3, bslA_1, Nat.reduceBEq, Hold.p, HoldK.k]
  have E : Ext h (h.push (.rows [cs] ein sz false)) := (Ext.refl _).push _
  have hlt := hr.lt
  refine mkFs_vc (ein := ein) (sz := sz) (p := h.n) _ fs 5 _ _ [] cs d gs kk (Nat.le_refl _) (by simp only [go_sem, ↓act_zero, boxA_1, boxA_2, boxA_3, bslA_1, Nat.reduceBEq]) (by simp only [go_sem, ↓act_zero, boxA_1, boxA_2, boxA_3, bslA_1, Nat.reduceBEq]) (by simp only [push_n]; omega)
    (by rw [push_new]; rfl) (hr.same E.le fun l hl => E.obj l (hlt l hl)) hn (fun hm => Nat.lt_irrefl _ (hlt _ hm)) hfl hkk ?_
  intro e' h' a1 a2 a3
  simp only [go_sem, ↓act_zero, boxA_1, boxA_2, boxA_3, bslA_1, a1, HoldK.k]
  refine ⟨trivial, a2, (TrnL.of_ext E).trans a3⟩

theorem MkC.ow {g : Nat} {t : Ty} (hg : MkC P g t) {lo hi : Nat} {h : IH} {cs : List IV} {d : Dat} {k : Nat} (ho : Ow lo hi h t cs d) (hk : k + cntW t d + d.tot < 4611686018427387904) :
    ICalls P g [t.pk cs, .int .i64 (k : Int)] h fun r h' => r = .int .i64 ((k + cntW t d : Nat) : Int) ∧ Ow lo hi h' t cs (mkW t d k) ∧ Trn lo hi h h' := by
  obtain ⟨⟨fs, a, b, c⟩, e⟩ := ho
  refine (hg h cs d fs k a b hk).mono ?_
  rintro r h' ⟨rfl, q, T⟩
  exact ⟨rfl, ⟨⟨fs, q, b, c⟩, Nat.le_trans e T.le⟩, T.le, fun l hl hn => T.obj l hl fun hm => hn (c l hm)⟩
end Go.IW

namespace Go.IW
open Go Go.RowKit
variable {P : Program}

def HdC (P : Program) (g : Nat) (t : Ty) : Prop := ∀ (h : IH) (cs : List IV) (d : Dat) (k : Nat), Vw 0 h.n h t cs (mkW t d k) → k + cntW t d + d.tot < 4611686018427387904 →
  ICalls P g [t.pk cs, .int .i64 (k : Int)] h fun r h' => r = .int .i64 ((k + cntW t d : Nat) : Int) ∧ Ext h h'
def badC (c : Nat) : CC := .cond (.t c) (.seq (.reg [⟨some 4, none, .f (.mv (.c (.int .i64 (-1))))⟩]) .ret) .skip
def hdLf (sz : Nat) (p : List Nat) (g t : Nat) : Ty → List CC × Nat
  | .int .i64 => ([.seq (.reg ([⟨some t, none, .f (.mv (.t 0))⟩, ⟨some (t + 1), none, .f (.mv (.t 5))⟩, ⟨some (t + 2), none, .f (.iadr sz (.t t) (.t (t + 1)))⟩] ++ (fadrs p (t + 2) ++
      [⟨some (t + 3 + p.length), none, .f (.ld (.t (t + 2 + p.length)))⟩, ⟨some (t + 4 + p.length), none, .f (.mv (.t 1))⟩, ⟨some (t + 5 + p.length), none, .f (.bin .neq (.t (t + 3 + p.length)) (.t (t + 4 + p.length)))⟩]))) (badC (t + 5 + p.length)),
      incC (t + 6 + p.length)], t + 8 + p.length)
  | .int k => ([.seq (.reg ([⟨some t, none, .f (.mv (.t 0))⟩, ⟨some (t + 1), none, .f (.mv (.t 5))⟩, ⟨some (t + 2), none, .f (.iadr sz (.t t) (.t (t + 1)))⟩] ++ (fadrs p (t + 2) ++
      [⟨some (t + 3 + p.length), none, .f (.ld (.t (t + 2 + p.length)))⟩, ⟨some (t + 4 + p.length), none, .f (.mv (.t 1))⟩, ⟨some (t + 5 + p.length), none, .f (.cvI k (.t (t + 4 + p.length)))⟩,
       ⟨some (t + 6 + p.length), none, .f (.bin .neq (.t (t + 3 + p.length)) (.t (t + 5 + p.length)))⟩]))) (badC (t + 6 + p.length)), incC (t + 7 + p.length)], t + 9 + p.length)
  | .bool => ([.seq (.reg ([⟨some t, none, .f (.mv (.t 0))⟩, ⟨some (t + 1), none, .f (.mv (.t 5))⟩, ⟨some (t + 2), none, .f (.iadr sz (.t t) (.t (t + 1)))⟩] ++ (fadrs p (t + 2) ++
      [⟨some (t + 3 + p.length), none, .f (.ld (.t (t + 2 + p.length)))⟩, ⟨some (t + 4 + p.length), none, .f (.mv (.t 1))⟩, ⟨some (t + 5 + p.length), none, .f (.bin .rem (.t (t + 4 + p.length)) (.c (.int .i64 3)))⟩,
       ⟨some (t + 6 + p.length), none, .f (.bin .eql (.t (t + 5 + p.length)) (.c (.int .i64 0)))⟩, ⟨some (t + 7 + p.length), none, .f (.binB true (.t (t + 3 + p.length)) (.t (t + 6 + p.length)))⟩]))) (badC (t + 7 + p.length)),
      incC (t + 8 + p.length)], t + 10 + p.length)
  | .slice _ _ => ([.reg ([⟨some t, none, .f (.mv (.t 0))⟩, ⟨some (t + 1), none, .f (.mv (.t 5))⟩, ⟨some (t + 2), none, .f (.iadr sz (.t t) (.t (t + 1)))⟩] ++ (fadrs p (t + 2) ++
      [⟨some (t + 3 + p.length), none, .f (.ld (.t (t + 2 + p.length)))⟩, ⟨some (t + 4 + p.length), none, .f (.mv (.t 1))⟩, ⟨some (t + 5 + p.length), none, .x (.call g [.t (t + 3 + p.length), .t (t + 4 + p.length)])⟩,
       ⟨some 1, none, .f (.mv (.t (t + 5 + p.length)))⟩])),
      .seq (.reg [⟨some (t + 6 + p.length), none, .f (.mv (.t 1))⟩, ⟨some (t + 7 + p.length), none, .f (.bin .lss (.t (t + 6 + p.length)) (.c (.int .i64 0)))⟩]) (badC (t + 7 + p.length))], t + 8 + p.length)
  | .str => match p with
    | [o] => ([.seq (.dreg [⟨some t, none, .f (.mv (.t 0))⟩, ⟨some (t + 1), none, .f (.mv (.t 5))⟩, ⟨some (t + 2), none, .f (.iadr sz (.t t) (.t (t + 1)))⟩, ⟨some (t + 3), none, .f (.fadr o (.t (t + 2)))⟩, ⟨some (t + 4), none, .f (.ld (.t (t + 3)))⟩,
        ⟨some (t + 5), none, .f (.mv (.t 1))⟩, ⟨some (t + 6), none, .x (.call g [.t (t + 5)])⟩, ⟨some (t + 7), none, .f (.bin .neq (.t (t + 4)) (.t (t + 6)))⟩]
        [false, false, false, false, false, false, true, false] [[], [], [0, 1], [2, 0, 1], [3, 2, 0, 1], [], [5], [4, 3, 2, 0, 1, 6, 5]] [0, 1, 2, 3, 4, 5, 6, 7]) (badC (t + 7)), incC (t + 8)], t + 10)
    | _ => ([incC t], t + 2)
  | _ => ([], t)
def hdC (sz : Nat) : Ty → List Nat → Nat → List Nat → Nat → List CC × List Nat × Nat
  | .nil, _, _, q, t => ([], q, t)
  | .str, p, _, q, t => ((hdLf sz p (q.headD 0) t .str).1, q.tail, (hdLf sz p (q.headD 0) t .str).2)
  | .slice el e, p, _, q, t => ((hdLf sz p (q.headD 0) t (.slice el e)).1, q.tail, (hdLf sz p (q.headD 0) t (.slice el e)).2)
  | .bool, p, _, q, t => ((hdLf sz p 0 t .bool).1, q, (hdLf sz p 0 t .bool).2)
  | .int k, p, _, q, t => ((hdLf sz p 0 t (.int k)).1, q, (hdLf sz p 0 t (.int k)).2)
  | .cat a b, p, off, q, t =>
    ((hdC sz a (p ++ [off]) 0 q t).1 ++ (hdC sz b p (off + a.sz) (hdC sz a (p ++ [off]) 0 q t).2.1 (hdC sz a (p ++ [off]) 0 q t).2.2).1,
     (hdC sz b p (off + a.sz) (hdC sz a (p ++ [off]) 0 q t).2.1 (hdC sz a (p ++ [off]) 0 q t).2.2).2)
def hdOk (P : Program) : Ty → List Nat → Prop × List Nat
  | .nil, q => (True, q)
  | .bool, q => (True, q)
  | .int _, q => (True, q)
  | .str, q => (MtC P (q.headD 0), q.tail)
  | .slice el e, q => (HdC P (q.headD 0) (.slice el e), q.tail)
  | .cat a b, q => ((hdOk P a q).1 ∧ (hdOk P b (hdOk P a q).2).1, (hdOk P b (hdOk P a q).2).2)
def heldBody (ty : Ty) (q : List Nat) : List CC × List Nat × Nat := hdC ty.sz ty [] 0 q 12
def heldC (ty : Ty) (q : List Nat) : CC :=
 (.seq (.reg [
   ⟨(some 4), none, .f (.mv (.c (.int .i64 0)))⟩])
 (.seq (.seq (.reg [
   ⟨(some 5), none, .f (.mv (.c (.int .i64 0)))⟩])
 (.block 0 (.loop (.seq (.seq (.reg [
     ⟨(some 6), none, .f (.mv (.t 5))⟩,
     ⟨(some 7), none, .f (.mv (.t 0))⟩,
     ⟨(some 8), none, .f (.len (.t 7))⟩,
     ⟨(some 9), none, .f (.bin .lss (.t 6) (.t 8))⟩])
   (.cond (.t 9)
    .skip
    (.exit 0)))
   (.seq (.block 1 (seqs (heldBody ty q).1))
   (.reg [
     ⟨(some 10), none, .f (.mv (.t 5))⟩,
     ⟨(some 11), none, .f (.bin .add (.t 10) (.c (.int .i64 1)))⟩,
     ⟨(some 5), none, .f (.mv (.t 11))⟩]))))))
 (.seq (.reg [
   ⟨(some (heldBody ty q).2.2), none, .f (.mv (.t 1))⟩,
   ⟨(some 4), none, .f (.mv (.t (heldBody ty q).2.2))⟩])
 .ret)))

structure Look (e : Env) (h : IH) (v : IV) (i kk : Nat) (rs : List (List IV)) (sz : Nat) (row : List IV) : Prop where
  e0 : e 0 = v
  e5 : e 5 = .int .i64 (i : Nat)
  e1 : e 1 = .int .i64 (kk : Nat)
  sl : SlR h sz v rs
  row : rs[i]? = some row
def HStep (P : Program) (c : List CC) (t : Ty) (sz off : Nat) : Prop :=
  ∀ (rest : List CC) (K : EPost) (e : Env) (h : IH) (v : IV) (n0 i kk : Nat) (rs : List (List IV)) (pre cs suf : List IV) (d : Dat), Look e h v i kk rs sz (pre ++ (cs ++ suf)) → pre.length = off → Vw 0 n0 h t cs (mkE t d kk) → n0 ≤ h.n →
    kk + cntE t d + d.tot < 4611686018427387904 →
    (∀ (e' : Env) (h' : IH), e' 0 = v → e' 5 = .int .i64 (i : Nat) → e' 1 = .int .i64 ((kk + cntE t d : Nat) : Int) → Ext h h' → vcs P rest K e' h') →
    vcs P (c ++ rest) K e h
theorem inc_vc {t2 kk i : Nat} {v : IV} {e : Env} {h : IH} {K : EPost} {rest : List CC} (ht : 6 ≤ t2) (e0 : e 0 = v) (e5 : e 5 = .int .i64 (i : Nat)) (e1 : e 1 = .int .i64 (kk : Nat)) (hkk : kk + 1 < 4611686018427387904)
    (hK : ∀ e' : Env, e' 0 = v → e' 5 = .int .i64 (i : Nat) → e' 1 = .int .i64 ((kk + 1 : Nat) : Int) → vcs P rest K e' h) : vcs P (incC t2 :: rest) K e h := by
  have w0 : wr .i64 ((kk : Int) + 1) = ((kk + 1 : Nat) : Int) := by rw [wr64 _ (by omega)]; rfl
  simp (disch := omega) only [incC, vcs_cons, go_sem, ↓act_zero, boxA_1, boxA_2, boxA_3, bslA_1, upd_eq, upd_ne, e1, w0]
  exact hK _ (by simp (disch := omega) only [upd_ne, e0]) (by simp (disch := omega) only [upd_ne, e5]) (by simp (disch := omega) only [upd_eq, upd_ne])
theorem hdLf_int {sz off g t : Nat} {k : IntKind} {p : List Nat} (ht : 12 ≤ t) (hp : p.sum = off) : HStep P (hdLf sz p g t (.int k)).1 (.int k) sz off := by
  intro rest K e h v n0 i kk rs pre cs suf d S hpl hv hn0 hkk hK
  obtain ⟨x, rfl, hx⟩ := hv
  rw [mkE] at hx
  cases hx
  obtain ⟨l, j, hia, hll, hrow⟩ := S.sl.at S.row .i64
  have hc : cellO (h.obj l) j pre.length = some (.int k (wr k (kk : Int))) := by rw [cellO_row hrow]; exact cell_mid rfl
  simp only [cntE] at hkk hK
  have e0 := S.e0
  have e5 := S.e5
  have e1 := S.e1
  by_cases hk : k = .i64
  · subst hk
    have w0 : wr .i64 (kk : Int) = (kk : Int) := wr64 _ (by omega)
    rw [w0] at hc
    simp (disch := omega) only [hdLf, vcs_cons, ca0, na0, go_sem, ↓act_zero, boxA_1, boxA_2, boxA_3, bslA_1, upd_eq, upd_ne, e0, e1, e5, hia]
    refine fadrs_vc (l := l) (i := j) p (t + 2) 0 _ (by simp only [upd_eq]) fun e' h1 h2 => ?_
    have x0 : e' 0 = v := by rw [h1 _ (by omega)]; simp (disch := omega) only [upd_ne, e0]
    have x5 : e' 5 = .int .i64 (i : Nat) := by rw [h1 _ (by omega)]; simp (disch := omega) only [upd_ne, e5]
    have x1 : e' 1 = .int .i64 (kk : Nat) := by rw [h1 _ (by omega)]; simp (disch := omega) only [upd_ne, e1]
    rw [hp, Nat.zero_add, ← hpl] at h2
    simp (disch := omega) only [badC, go_sem, ↓act_zero, boxA_1, boxA_2, boxA_3, bslA_1, upd_eq, upd_ne, h2, hc, x1, decide_true, Bool.not_true, Hold.p]
    exact inc_vc (by omega) (by simp (disch := omega) only [upd_ne, x0]) (by simp (disch := omega) only [upd_ne, x5]) (by simp (disch := omega) only [upd_ne, x1]) (by omega) fun e2 y0 y5 y1 => hK e2 h y0 y5 y1 (Ext.refl _)
  · have hcd : hdLf sz p g t (.int k) = ([.seq (.reg ([⟨some t, none, .f (.mv (.t 0))⟩, ⟨some (t + 1), none, .f (.mv (.t 5))⟩, ⟨some (t + 2), none, .f (.iadr sz (.t t) (.t (t + 1)))⟩] ++ (fadrs p (t + 2) ++
      [⟨some (t + 3 + p.length), none, .f (.ld (.t (t + 2 + p.length)))⟩, ⟨some (t + 4 + p.length), none, .f (.mv (.t 1))⟩, ⟨some (t + 5 + p.length), none, .f (.cvI k (.t (t + 4 + p.length)))⟩,
       ⟨some (t + 6 + p.length), none, .f (.bin .neq (.t (t + 3 + p.length)) (.t (t + 5 + p.length)))⟩]))) (badC (t + 6 + p.length)), incC (t + 7 + p.length)], t + 9 + p.length) := by
      cases k <;> first | rfl | exact absurd rfl hk
    simp (disch := omega) only [hcd, vcs_cons, ca0, na0, go_sem, ↓act_zero, boxA_1, boxA_2, boxA_3, bslA_1, upd_eq, upd_ne, e0, e1, e5, hia]
    refine fadrs_vc (l := l) (i := j) p (t + 2) 0 _ (by simp only [upd_eq]) fun e' h1 h2 => ?_
    have x0 : e' 0 = v := by rw [h1 _ (by omega)]; simp (disch := omega) only [upd_ne, e0]
    have x5 : e' 5 = .int .i64 (i : Nat) := by rw [h1 _ (by omega)]; simp (disch := omega) only [upd_ne, e5]
    have x1 : e' 1 = .int .i64 (kk : Nat) := by rw [h1 _ (by omega)]; simp (disch := omega) only [upd_ne, e1]
    rw [hp, Nat.zero_add, ← hpl] at h2
    simp (disch := omega) only [badC, go_sem, ↓act_zero, boxA_1, boxA_2, boxA_3, bslA_1, upd_eq, upd_ne, h2, hc, x1, decide_true, Bool.not_true, Hold.p]
    exact inc_vc (by omega) (by simp (disch := omega) only [upd_ne, x0]) (by simp (disch := omega) only [upd_ne, x5]) (by simp (disch := omega) only [upd_ne, x1]) (by omega) fun e2 y0 y5 y1 => hK e2 h y0 y5 y1 (Ext.refl _)
theorem hdLf_bool {sz off g t : Nat} {p : List Nat} (ht : 12 ≤ t) (hp : p.sum = off) : HStep P (hdLf sz p g t .bool).1 .bool sz off := by
  intro rest K e h v n0 i kk rs pre cs suf d S hpl hv hn0 hkk hK
  obtain ⟨x, rfl, hx⟩ := hv
  rw [mkE] at hx
  cases hx
  obtain ⟨l, j, hia, hll, hrow⟩ := S.sl.at S.row .i64
  have hc : cellO (h.obj l) j pre.length = some (.bool (decide ((kk : Int) % 3 = 0))) := by rw [cellO_row hrow]; exact cell_mid rfl
  simp only [cntE] at hkk hK
  have e0 := S.e0
  have e5 := S.e5
  have e1 := S.e1
  have hrem : ibin .rem (.int .i64 (kk : Nat)) (.int .i64 3) = some (.int .i64 (((kk : Nat) : Int) % 3)) := by simp [ibin, Int.tmod_eq_emod_of_nonneg]
  have hbb : ibinB true (.bool (decide ((kk : Int) % 3 = 0))) (.bool (decide ((kk : Int) % 3 = 0))) = some (.bool false) := by simp [ibinB]
  simp (disch := omega) only [hdLf, vcs_cons, ca0, na0, go_sem, ↓act_zero, boxA_1, boxA_2, boxA_3, bslA_1, upd_eq, upd_ne, e0, e1, e5, hia]
  refine fadrs_vc (l := l) (i := j) p (t + 2) 0 _ (by simp only [upd_eq]) fun e' h1 h2 => ?_
  have x0 : e' 0 = v := by rw [h1 _ (by omega)]; simp (disch := omega) only [upd_ne, e0]
  have x5 : e' 5 = .int .i64 (i : Nat) := by rw [h1 _ (by omega)]; simp (disch := omega) only [upd_ne, e5]
  have x1 : e' 1 = .int .i64 (kk : Nat) := by rw [h1 _ (by omega)]; simp (disch := omega) only [upd_ne, e1]
  rw [hp, Nat.zero_add, ← hpl] at h2
  simp (disch := omega) only [badC, hbb, go_sem, ↓act_zero, boxA_1, boxA_2, boxA_3, bslA_1, upd_eq, upd_ne, h2, hc, x1, hrem, Hold.p]
  exact inc_vc (by omega) (by simp (disch := omega) only [upd_ne, x0]) (by simp (disch := omega) only [upd_ne, x5]) (by simp (disch := omega) only [upd_ne, x1]) (by omega) fun e2 y0 y5 y1 => hK e2 h y0 y5 y1 (Ext.refl _)
theorem iadr_ext {h h' : IH} (E : Ext h h') {sz l j k : Nat} {v x : IV} (hl : l < h.n) (hi : iadrF h sz v x = some (.ptr l j k)) : iadrF h' sz v x = some (.ptr l j k) := by
  unfold iadrF at hi ⊢
  split at hi
  · rename_i l0 j0 n0 q m
    have hll : l0 = l := by
      split at hi
      · have := Option.some.inj hi; simp only [IV.ptr.injEq] at this; exact this.1
      · cases hi
    subst hll
    simp only [size_eq, E.obj _ hl]
    simp only [size_eq] at hi
    exact hi
  · cases hi
theorem hdLf_str {sz off g t : Nat} {p : List Nat} (ht : 12 ≤ t) (hp : p.sum = off) (hg : MtC P g) : HStep P (hdLf sz p g t .str).1 .str sz off := by
  intro rest K e h v n0 i kk rs pre cs suf d S hpl hv hn0 hkk hK
  obtain ⟨x, rfl, hx⟩ := hv
  rw [mkE] at hx
  cases hx
  simp only [cntE] at hkk hK
  have e0 := S.e0
  have e5 := S.e5
  have e1 := S.e1
  by_cases hp1 : ∃ o, p = [o]
  · obtain ⟨o, rfl⟩ := hp1
    obtain ⟨l, j, hia, hll, hrow⟩ := S.sl.at S.row .i64
    have ho : o = pre.length := by rw [hpl, ← hp]; simp
    subst ho
    have hc : cellO (h.obj l) j pre.length = some (.str (mtext kk)) := by rw [cellO_row hrow]; exact cell_mid rfl
    simp (disch := first | decide | omega) only [hdLf, vcs_cons, ca0, na0, go_sem, ↓act_zero, boxA_1, boxA_2, boxA_3, bslA_1, upd_eq, upd_ne, e0, e1, e5, hia, hc, Nat.zero_add, List.getD_cons_zero, List.getD_cons_succ, mc0, mn0]
    refine callA_of (hg h kk (by omega)) ?_
    rintro r h3 ⟨rfl, E⟩
    have hia3 := iadr_ext E hll hia
    have hc3 : cellO (h3.obj l) j pre.length = some (.str (mtext kk)) := by rw [E.obj l hll, hc]
    simp (disch := first | decide | omega) only [badC, Hold.p, HoldK.k, go_sem, ↓act_zero, boxA_1, boxA_2, boxA_3, bslA_1, upd_eq, upd_ne, e0, e1, e5, hia3, hc3, Nat.zero_add, List.getD_cons_zero, List.getD_cons_succ, decide_true, Bool.not_true, List.contains_cons, List.contains_nil, Nat.reduceBEq, Bool.or_true, Bool.true_or, Bool.or_false, Bool.false_or, true_and, and_true]
    exact inc_vc (by omega) (by simp (disch := omega) only [upd_ne, e0]) (by simp (disch := omega) only [upd_ne, e5]) (by simp (disch := omega) only [upd_ne, e1]) (by omega) fun e2 y0 y5 y1 => hK e2 h3 y0 y5 y1 E
  · have hcode : (hdLf sz p g t .str).1 = [incC t] := by
      match p, hp1 with
      | [], _ => rfl
      | [o], hn => exact absurd ⟨o, rfl⟩ hn
      | _ :: _ :: _, _ => rfl
    rw [hcode]
    exact inc_vc (by omega) e0 e5 e1 (by omega) fun e2 y0 y5 y1 => hK e2 h y0 y5 y1 (Ext.refl _)
theorem hdLf_slice {sz off g t el : Nat} {ty : Ty} {p : List Nat} (ht : 12 ≤ t) (hp : p.sum = off) (hg : HdC P g (.slice el ty)) : HStep P (hdLf sz p g t (.slice el ty)).1 (.slice el ty) sz off := by
  intro rest K e h v n0 i kk rs pre cs suf d S hpl hv hn0 hkk hK
  have hlen := Vw.len hv
  match cs, hlen with
  | [x], _ =>
  obtain ⟨l, j, hia, hll, hrow⟩ := S.sl.at S.row .i64
  have hc : cellO (h.obj l) j pre.length = some x := by rw [cellO_row hrow]; exact cell_mid rfl
  have e0 := S.e0
  have e5 := S.e5
  have e1 := S.e1
  simp (disch := omega) only [hdLf, vcs_cons, ca0, na0, go_sem, ↓act_zero, boxA_1, boxA_2, boxA_3, bslA_1, upd_eq, upd_ne, e0, e1, e5, hia]
  refine fadrs_vc (l := l) (i := j) p (t + 2) 0 _ (by simp only [upd_eq]) fun e' h1 h2 => ?_
  have x0 : e' 0 = v := by rw [h1 _ (by omega)]; simp (disch := omega) only [upd_ne, e0]
  have x5 : e' 5 = .int .i64 (i : Nat) := by rw [h1 _ (by omega)]; simp (disch := omega) only [upd_ne, e5]
  have x1 : e' 1 = .int .i64 (kk : Nat) := by rw [h1 _ (by omega)]; simp (disch := omega) only [upd_ne, e1]
  rw [hp, Nat.zero_add, ← hpl] at h2
  simp (disch := omega) only [go_sem, ↓act_zero, boxA_1, boxA_2, boxA_3, bslA_1, upd_eq, upd_ne, h2, hc, x1, mc0, mn0]
  have hcall := hg h [x] d kk (hv.wide (Nat.le_refl _) hn0) hkk
  rw [pk_one rfl] at hcall
  refine callA_of hcall ?_
  rintro r h3 ⟨rfl, E⟩
  have d0 : decide (((kk + cntW (.slice el ty) d : Nat) : Int) < 0) = false := decide_eq_false (by omega)
  simp (disch := omega) only [vcs_cons, badC, go_sem, ↓act_zero, boxA_1, boxA_2, boxA_3, bslA_1, upd_eq, upd_ne, Hold.p, HoldK.k, d0]
  exact hK _ h3 (by simp (disch := omega) only [upd_ne, x0]) (by simp (disch := omega) only [upd_ne, x5]) (by simp (disch := omega) only [upd_eq, upd_ne]; rfl) E
theorem HStep.cat {c1 c2 : List CC} {a b : Ty} {sz off : Nat} (h1 : HStep P c1 a sz off) (h2 : HStep P c2 b sz (off + a.sz)) : HStep P (c1 ++ c2) (.cat a b) sz off := by
  intro rest K e h v n0 i kk rs pre cs suf d S hpl hv hn0 hkk hK
  obtain ⟨x, y, rfl⟩ : ∃ x y, d = .pair x y := by
    obtain ⟨_, _, d1, d2, _, e1, _⟩ := hv
    cases d <;> first | exact ⟨_, _, rfl⟩ | (simp [mkE] at e1)
  obtain ⟨cs1, cs2, d1, d2, rfl, hd, r1, r2⟩ := hv
  rw [mkE] at hd
  cases hd
  simp only [cntE, Dat.tot] at hkk hK
  have hl1 := Rp.len r1
  rw [List.append_assoc]
  refine h1 (c2 ++ rest) K e h v n0 i kk rs pre cs1 (cs2 ++ suf) x ⟨S.e0, S.e5, S.e1, S.sl, by rw [S.row, List.append_assoc]⟩ hpl r1 hn0 (by omega) ?_
  intro e' h' x0 x5 x1 E1
  refine h2 rest K e' h' v n0 i (kk + cntE a x) rs (pre ++ cs1) cs2 suf y ⟨x0, x5, x1, S.sl.ext E1, by rw [S.row]; simp⟩ (by rw [la0]; omega) (Vw.ext r2 E1) (Nat.le_trans hn0 E1.le) (by omega) ?_
  intro e2 h2' y0 y5 y1 E2
  exact hK e2 h2' y0 y5 (by rw [y1, Nat.add_assoc]) (E1.trans E2)
theorem HStep.none {sz off : Nat} : HStep P [] .nil sz off := by
  intro rest K e h v n0 i kk rs pre cs suf d S hpl hv hn0 hkk hK
  exact hK e h S.e0 S.e5 (by rw [cntE]; exact S.e1) (Ext.refl _)
theorem hdC_step {sz : Nat} : ∀ (ty : Ty) (p : List Nat) (off : Nat) (q : List Nat) (t : Nat), 12 ≤ t → ty.okT = true → (ty.one = true → off = 0) → (hdOk P ty q).1 →
    (hdC sz ty p off q t).2.1 = (hdOk P ty q).2 ∧ t ≤ (hdC sz ty p off q t).2.2 ∧ HStep P (hdC sz ty p off q t).1 ty sz (p.sum + off)
  | .nil, p, off, q, t, ht, _, _, _ => ⟨rfl, Nat.le_refl _, HStep.none⟩
  | .bool, p, off, q, t, ht, _, h0, _ => ⟨rfl, by show t ≤ t + 10 + p.length; omega, by rw [h0 rfl]; exact hdLf_bool (g := 0) ht rfl⟩
  | .int k, p, off, q, t, ht, _, h0, _ => ⟨rfl, by show t ≤ (hdLf sz p 0 t (.int k)).2; cases k <;> simp only [hdLf] <;> omega, by rw [h0 rfl]; exact hdLf_int (g := 0) ht rfl⟩
  | .str, p, off, q, t, ht, _, h0, hg => ⟨rfl, by show t ≤ (hdLf sz p (q.headD 0) t .str).2; match p with | [] => (show t ≤ t + 2; omega) | [_] => (show t ≤ t + 10; omega) | _ :: _ :: _ => (show t ≤ t + 2; omega), by rw [h0 rfl]; exact hdLf_str ht rfl hg⟩
  | .slice el e, p, off, q, t, ht, _, h0, hg => ⟨rfl, by show t ≤ t + 8 + p.length; omega, by rw [h0 rfl]; exact hdLf_slice ht rfl hg⟩
  | .cat a b, p, off, q, t, ht, hok, _, hg => by
    simp only [Ty.okT, Bool.and_eq_true, Bool.not_eq_true'] at hok
    obtain ⟨⟨hb, oka⟩, okb⟩ := hok
    obtain ⟨g1, g2⟩ := hg
    obtain ⟨a1, a2, a3⟩ := hdC_step (sz := sz) a (p ++ [off]) 0 q t ht oka (fun _ => rfl) g1
    rw [← a1] at g2
    obtain ⟨b1, b2, b3⟩ := hdC_step (sz := sz) b p (off + a.sz) _ _ (Nat.le_trans ht a2) okb (fun h => by rw [hb] at h; cases h) g2
    refine ⟨?_, Nat.le_trans a2 b2, ?_⟩
    · show (hdC sz b p (off + a.sz) (hdC sz a (p ++ [off]) 0 q t).2.1 (hdC sz a (p ++ [off]) 0 q t).2.2).2.1 = _
      rw [b1, a1]; rfl
    · refine HStep.cat ?_ ?_
      · have := a3
        simp only [List.sum_append, List.sum_cons, List.sum_nil, Nat.add_zero] at this
        exact this
      · rw [Nat.add_assoc]; exact b3
theorem mkL_at {e : Ty} {ds : List Dat} {k k0 : Nat} {x : Dat} (h : ds[k]? = some x) : (mkL e ds k0)[k]? = some (mkE e x (k0 + cntL e (ds.take k))) := by
  induction ds generalizing k k0 with
  | nil => simp at h
  | cons a l ih =>
    cases k with
    | zero => simp at h; subst h; simp [mkL, cntL]
    | succ k =>
      simp at h
      simp only [mkL, List.getElem?_cons_succ, ts0, cntL]
      rw [ih h, Nat.add_assoc]
theorem cntL_le {ty : Ty} : ∀ (l : List Dat) (j : Nat), cntL ty (l.take j) ≤ cntL ty l := by
  intro l
  induction l with
  | nil => intro j; simp [cntL]
  | cons a l ih => intro j; cases j with
    | zero => simp [cntL]
    | succ j => simp only [ts0, cntL]; have := ih j; omega
set_option maxRecDepth 20000 in
theorem held_calls {f N el : Nat} {ty : Ty} {q : List Nat} (hf : fnComp P f = some (N, heldC ty q, [.mv (.t 4)])) (hN : 2 ≤ N) (hok : ty.okT = true) (hq : (hdOk P ty q).1) : HdC P f (.slice el ty) := by
  intro h cs d k0 hv hkk
  obtain ⟨m1, m2, m3⟩ := hdC_step (P := P) (sz := ty.sz) ty [] 0 q 12 (Nat.le_refl _) hok (fun _ => rfl) hq
  have hd : ∃ ds, d = .list ds := by
    obtain ⟨_, _, _, _, e, _⟩ := hv
    cases d <;> first | exact ⟨_, rfl⟩ | (simp [mkW, mkE] at e)
  obtain ⟨ds, rfl⟩ := hd
  obtain ⟨v, rs, ms, rfl, hms, hs, hS, hall⟩ := hv
  rw [mkW, mkE] at hms
  cases hms
  rw [pk_one rfl]
  refine icalls (.of hf) (by simpa using hN) ?_
  unfold heldC heldBody
  generalize hc : hdC ty.sz ty [] 0 q 12 = c at m1 m2 m3
  obtain ⟨cl, cq, ct⟩ := c
  simp only at m1 m2 m3 ⊢
  simp only [cntW, cntE, Dat.tot] at hkk
  simp only [cntW, cntE]
  have hlen := hs.lenF
  rw [hall.len, mkL_len] at hlen
  simp only [hlen, go_sem, ↓act_zero, boxA_1, boxA_2, boxA_3, bslA_1, Hold.p, HoldK.k, HoldL.K, HoldL.body, Nat.reduceBEq, Nat.reduceAdd, List.getElem?_cons_zero, List.getElem?_cons_succ, Option.bind_some, mc0, mn0, Nat.zero_add, if_true, List.getD_cons_zero, List.getD_cons_succ, List.contains_cons, List.contains_nil, Nat.reduceBEq, Bool.or_true, Bool.true_or, Bool.or_false, Bool.false_or, Bool.not_true, Bool.not_false, true_and, and_true]
  refine loop_at (fun n e h' => ∃ k, n = ds.length - k ∧ k ≤ ds.length ∧ e 0 = v ∧ e 1 = .int .i64 ((k0 + cntL ty (ds.take k) : Nat) : Int) ∧ e 5 = .int .i64 (k : Nat) ∧ Ext h h') ds.length ?_ ?_
  · refine ⟨0, by omega, by omega, ?_⟩
    simp only [tz0, cntL, Nat.add_zero, go_sem, ↓act_zero, boxA_1, boxA_2, boxA_3, bslA_1, Hold.p, HoldK.k, HoldL.K, HoldL.body, Nat.reduceBEq, Nat.reduceAdd, List.getElem?_cons_zero, List.getElem?_cons_succ, Option.bind_some, mc0, mn0, Nat.zero_add, if_true, List.getD_cons_zero, List.getD_cons_succ, List.contains_cons, List.contains_nil, Nat.reduceBEq, Bool.or_true, Bool.true_or, Bool.or_false, Bool.false_or, Bool.not_true, Bool.not_false, true_and, and_true]
    exact ⟨rfl, Ext.refl _⟩
  · rintro n e h' ⟨k, rfl, hk, e0, e1, e5, hE⟩
    simp only [e0, e1, e5, hlen, go_sem, ↓act_zero, boxA_1, boxA_2, boxA_3, bslA_1, Hold.p, HoldK.k, HoldL.K, HoldL.body, Nat.reduceBEq, Nat.reduceAdd, List.getElem?_cons_zero, List.getElem?_cons_succ, Option.bind_some, mc0, mn0, Nat.zero_add, if_true, List.getD_cons_zero, List.getD_cons_succ, List.contains_cons, List.contains_nil, Nat.reduceBEq, Bool.or_true, Bool.true_or, Bool.or_false, Bool.false_or, Bool.not_true, Bool.not_false, true_and, and_true]
    refine test_dec (fun hb => ?_) (fun hb => ?_)
    · have hlt' : k < ds.length := by omega
      have hkd : ds[k]? = some ds[k] := List.getElem?_eq_getElem hlt'
      generalize ds[k] = x at hkd
      obtain ⟨r, hkr, hx⟩ := hall.at (mkL_at (e := ty) (k0 := k0) hkd)
      have hx' : Vw 0 h.n h' ty r (mkE ty x (k0 + cntL ty (ds.take k))) := Rp.same hE.le (fun l _ hn => hE.obj l hn) (fun l hl _ => hl) hx
      have hct := cntL_take (e := ty) hkd
      have htm := tot_mem (List.mem_of_getElem? hkd)
      have hcle := cntL_le (ty := ty) ds (k + 1)
      simp only [e0, e1, e5, go_sem, ↓act_zero, boxA_1, boxA_2, boxA_3, bslA_1, Hold.p, HoldK.k, HoldL.K, HoldL.body, Nat.reduceBEq, Nat.reduceAdd, List.getElem?_cons_zero, List.getElem?_cons_succ, Option.bind_some, mc0, mn0, Nat.zero_add, if_true, List.getD_cons_zero, List.getD_cons_succ, List.contains_cons, List.contains_nil, Nat.reduceBEq, Bool.or_true, Bool.true_or, Bool.or_false, Bool.false_or, Bool.not_true, Bool.not_false, true_and, and_true]
      rw [vc_seqs, ← List.append_nil cl]
      refine m3 [] _ _ h' v h.n k (k0 + cntL ty (ds.take k)) rs [] r [] x ⟨by simp (disch := omega) only [upd_ne, e0], by simp (disch := omega) only [upd_ne, e5], by simp (disch := omega) only [upd_ne, e1], hs.ext hE, by simpa using hkr⟩ rfl hx' hE.le (by omega) ?_
      intro e2 h2 y0 y5 y1 E2
      simp only [vcs_nil, y0, y1, y5, go_sem, ↓act_zero, boxA_1, boxA_2, boxA_3, bslA_1, Hold.p, HoldK.k, HoldL.K, HoldL.body, Nat.reduceBEq, Nat.reduceAdd, List.getElem?_cons_zero, List.getElem?_cons_succ, Option.bind_some, mc0, mn0, Nat.zero_add, if_true, List.getD_cons_zero, List.getD_cons_succ, List.contains_cons, List.contains_nil, Nat.reduceBEq, Bool.or_true, Bool.true_or, Bool.or_false, Bool.false_or, Bool.not_true, Bool.not_false, true_and, and_true]
      refine ⟨_, ?_, k + 1, rfl, by omega, by rw [hct, Nat.add_assoc], wr64_succ k (by omega), hE.trans E2⟩
      omega
    · obtain rfl : k = ds.length := by omega
      rw [List.take_length] at e1
      have c1 : (4 == ct) = false := by simp; omega
      simp (disch := omega) only [go_sem, ↓act_zero, boxA_1, boxA_2, boxA_3, bslA_1, upd_eq, upd_ne, Hold.p, HoldK.k, HoldL.K, e1]
      exact ⟨trivial, hE⟩

end Go.IW

namespace Go.IW
open Go Go.RowKit
variable {P : Program}

theorem wr8 (x : Int) : wr .u8 x = ((UInt8.ofNat (x % 256).toNat).toNat : Int) := by
  have h1 : wr .u8 x = x % 256 := by unfold wr; rw [IntKind.wrap_u8]
  rw [h1]
  have h2 : (x % 256).toNat < 256 := by omega
  simp [UInt8.toNat_ofNat']
  omega
def mtxC (el : Nat) : CC :=
 (.seq (.reg [
   ⟨(some 2), none, .f (.mv (.c (.str [])))⟩])
 (.seq (.seq (.reg [
   ⟨(some 4), none, .f (.mv (.t 0))⟩,
   ⟨(some 5), none, .f (.bin .leq (.t 4) (.c (.int .i64 0)))⟩])
 (.cond (.t 5)
  (.seq (.reg [
    ⟨(some 2), none, .f (.mv (.c (.str [109, 48])))⟩])
  .ret)
  .skip))
 (.seq (.reg [
   ⟨(some 3), none, .f (.mv (.c (.str [])))⟩])
 (.seq (.block 0 (.loop (.seq (.seq (.reg [
     ⟨(some 6), none, .f (.mv (.t 0))⟩,
     ⟨(some 7), none, .f (.bin .gtr (.t 6) (.c (.int .i64 0)))⟩])
   (.cond (.t 7)
    .skip
    (.exit 0)))
   (.block 1 (.seq (.reg [
      ⟨(some 8), none, .f (.mv (.t 0))⟩,
      ⟨(some 9), none, .f (.bin .rem (.t 8) (.c (.int .i64 10)))⟩,
      ⟨(some 10), none, .f (.bin .add (.c (.int .i64 48)) (.t 9))⟩,
      ⟨(some 11), none, .f (.cvI .u8 (.t 10))⟩,
      ⟨(some 12), none, .x (.bslice el 1 [(.int .u8 0)] 1 [(0, (.t 11))])⟩,
      ⟨(some 13), none, .f (.b2s (.t 12))⟩,
      ⟨(some 14), none, .f (.mv (.t 3))⟩,
      ⟨(some 15), none, .f (.bin .add (.t 13) (.t 14))⟩,
      ⟨(some 3), none, .f (.mv (.t 15))⟩])
    (.reg [
      ⟨(some 16), none, .f (.mv (.t 0))⟩,
      ⟨(some 17), none, .f (.bin .quo (.t 16) (.c (.int .i64 10)))⟩,
      ⟨(some 0), none, .f (.mv (.t 17))⟩]))))))
 (.seq (.reg [
   ⟨(some 18), none, .f (.mv (.t 3))⟩,
   ⟨(some 19), none, .f (.bin .add (.c (.str [109])) (.t 18))⟩,
   ⟨(some 2), none, .f (.mv (.t 19))⟩])
 .ret)))))
theorem digs_0 (f : Nat) (acc : List UInt8) : digs f 0 acc = acc := by cases f <;> rfl
section
attribute [local go_sem] boxA_1 boxA_2 boxA_3 bslA_1 List.getElem?_cons_zero List.getElem?_cons_succ Option.bind_some List.map_cons List.map_nil Nat.zero_add if_true List.getD_cons_zero List.getD_cons_succ List.contains_cons List.contains_nil Bool.or_true Bool.true_or Bool.or_false Bool.false_or Bool.not_true Bool.not_false true_and and_true
set_option maxRecDepth 20000 in
theorem mtx_calls {f el : Nat} (hf : fnComp P f = some (20, mtxC el, [.mv (.t 2)])) : MtC P f := by
  intro h n hn
  refine icalls (.of hf) (Nat.le_of_ble_eq_true rfl) ?_
  unfold mtxC
  by_cases h0 : n = 0
  · subst h0
    have d0 : decide (((0 : Nat) : Int) ≤ 0) = true := rfl
    simp only [d0, go_sem, ↓act_zero, Hold.p, HoldK.k, HoldL.K, HoldL.body, Nat.reduceBEq, Nat.reduceAdd, reduceIte, Nat.reduceEqDiff, Nat.reduceLT, Nat.reduceLeDiff]
    exact ⟨rfl, Ext.refl _⟩
  have d0 : decide ((n : Int) ≤ 0) = false := decide_eq_false (by omega)
  simp only [d0, go_sem, ↓act_zero, Hold.p, HoldK.k, HoldL.K, HoldL.body, Nat.reduceBEq, Nat.reduceAdd, reduceIte, Nat.reduceEqDiff, Nat.reduceLT, Nat.reduceLeDiff]
  refine loop_at (fun m e g => ∃ f k acc, m = k ∧ k ≤ f ∧ acc.length + k ≤ n ∧ digs f k acc = digs n n [] ∧ e 0 = .int .i64 (k : Nat) ∧ e 3 = .str acc ∧ Ext h g) n ?_ ?_
  · refine ⟨n, n, [], rfl, Nat.le_refl _, by simp, rfl, ?_⟩
    simp only [go_sem, ↓act_zero, Hold.p, HoldK.k, HoldL.K, HoldL.body, Nat.reduceBEq, Nat.reduceAdd, reduceIte, Nat.reduceEqDiff, Nat.reduceLT, Nat.reduceLeDiff]
    exact Ext.refl _
  · rintro m e g ⟨f, k, acc, rfl, hf, hl, hd, e0, e3, E⟩
    simp only [e0, e3, go_sem, ↓act_zero, Hold.p, HoldK.k, HoldL.K, HoldL.body, Nat.reduceBEq, Nat.reduceAdd, reduceIte, Nat.reduceEqDiff, Nat.reduceLT, Nat.reduceLeDiff]
    refine test_dec (fun hb => ?_) (fun hb => ?_)
    · obtain ⟨f', rfl⟩ : ∃ f', f = f' + 1 := ⟨f - 1, by omega⟩
      have w1 : ibin .rem (.int .i64 (m : Nat)) (.int .i64 10) = some (.int .i64 ((m % 10 : Nat) : Int)) := by
        simp [ibin, Int.tmod_eq_emod_of_nonneg]
      have w2 : wr .i64 (48 + ((m % 10 : Nat) : Int)) = ((48 + m % 10 : Nat) : Int) := by rw [wr64 _ (by omega)]; rfl
      have w3 : wr .u8 ((48 + m % 10 : Nat) : Int) = ((UInt8.ofNat (48 + m % 10)).toNat : Int) := by
        rw [wr8]; congr 2; congr 1; omega
      have w4 : ibin .quo (.int .i64 (m : Nat)) (.int .i64 10) = some (.int .i64 ((m / 10 : Nat) : Int)) := by
        have : wr .i64 ((m / 10 : Nat) : Int) = ((m / 10 : Nat) : Int) := wr64 _ (by omega)
        simp [ibin, Int.tdiv_eq_ediv_of_nonneg, this]
        exact this
      have hbb : bytesOf (List.take 1 (List.drop 0 [[IV.int .u8 ((UInt8.ofNat (48 + m % 10)).toNat : Int)]])) = some [UInt8.ofNat (48 + m % 10)] := bytesOf_strRows [UInt8.ofNat (48 + m % 10)]
      have hadd : ibin .add (.str [UInt8.ofNat (48 + m % 10)]) (.str acc) = some (.str (UInt8.ofNat (48 + m % 10) :: acc)) := by
        have : [UInt8.ofNat (48 + m % 10)].length + acc.length ≤ 9223372036854775807 := by simp; omega
        simp only [ibin, if_pos this]; rfl
      simp only [e0, e3, w1, w2, w3, w4, bslA_1, cells_int, List.length_singleton, List.all_cons, List.all_nil, one_int, Bool.and_true, hbb, hadd, Nat.le_refl, Option.map_some, go_sem, ↓act_zero, Hold.p, HoldK.k, HoldL.K, HoldL.body, Nat.reduceBEq, Nat.reduceAdd, reduceIte, Nat.reduceEqDiff, Nat.reduceLT, Nat.reduceLeDiff]
      refine ⟨m / 10, by omega, f', m / 10, _, rfl, by omega, ?_, ?_, rfl, rfl, E.push _⟩
      · simp; omega
      · rw [← hd, digs, if_neg (by omega)]
    · obtain rfl : m = 0 := by omega
      rw [digs_0] at hd
      have hadd : ibin .add (.str [109]) (.str acc) = some (.str (109 :: acc)) := by
        have : ([109] : List UInt8).length + acc.length ≤ 9223372036854775807 := by simp; omega
        simp only [ibin, if_pos this]; rfl
      simp only [e0, e3, hadd, go_sem, ↓act_zero, Hold.p, HoldK.k, HoldL.K, HoldL.body, Nat.reduceBEq, Nat.reduceAdd, reduceIte, Nat.reduceEqDiff, Nat.reduceLT, Nat.reduceLeDiff]
      refine ⟨?_, E⟩
      unfold mtext
      rw [if_neg h0, hd]
end
section
variable {g el : Nat} {e t : Ty} {h : IH} {d : Dat}
theorem one_list {t : Ty} (ht : t.one = true) {cs : List IV} (hl : cs.length = t.sz) : ∃ v, cs = [v] := by
  rw [one_sz ht] at hl
  match cs, hl with
  | [v], _ => exact ⟨v, rfl⟩
theorem ToC.sl (hg : ToC P g (.slice el e)) {v : IV} (hv : Vw 0 h.n h (.slice el e) [v] d) (hd : d.tot ≤ 1048576) : ICalls P g [v] h fun r h' => Ow h.n h'.n h' (.slice el e) [r] d ∧ Ext h h' := by
  refine (hg h [v] d hv hd).mono ?_
  rintro r h' ⟨cs', rfl, o, E⟩
  obtain ⟨w, rfl⟩ := one_list rfl o.len
  exact ⟨o, E⟩
theorem ToC.st (hg : ToC P g t) (ht : t.one = false) {cs : List IV} (hv : Vw 0 h.n h t cs d) (hd : d.tot ≤ 1048576) : ICalls P g [.agg cs] h fun r h' => ∃ cs', r = .agg cs' ∧ Ow h.n h'.n h' t cs' d ∧ Ext h h' := by
  have := hg h cs d hv hd
  rw [pk_agg ht] at this
  refine this.mono ?_
  rintro r h' ⟨cs', rfl, o, E⟩
  exact ⟨cs', pk_agg ht, o, E⟩
theorem SzC.sl (hg : SzC P g (.slice el e)) {v : IV} {left : Int} (hv : Vw 0 h.n h (.slice el e) [v] d) (hd : d.ok) (hl : 0 ≤ left ∧ left ≤ 1048576) : ICalls P g [v, .int .i64 left] h fun r h' => SzR left r d.tot ∧ Ext h h' := hg h [v] d left hv hd hl
theorem SzC.st (hg : SzC P g t) (ht : t.one = false) {cs : List IV} {left : Int} (hv : Vw 0 h.n h t cs d) (hd : d.ok) (hl : 0 ≤ left ∧ left ≤ 1048576) : ICalls P g [.agg cs, .int .i64 left] h fun r h' => SzR left r d.tot ∧ Ext h h' := by
  have := hg h cs d left hv hd hl
  rwa [pk_agg ht] at this
theorem EqC.sl (hg : EqC P g (.slice el e)) {v w : IV} (hv : Vw 0 h.n h (.slice el e) [v] d) (hw : Vw 0 h.n h (.slice el e) [w] d) (hd : d.tot ≤ 4611686018427387903) : ICalls P g [v, w] h fun r h' => r = .bool true ∧ Ext h h' := hg h [v] [w] d hv hw hd
theorem EqC.st (hg : EqC P g t) (ht : t.one = false) {c1 c2 : List IV} (hv : Vw 0 h.n h t c1 d) (hw : Vw 0 h.n h t c2 d) (hd : d.tot ≤ 4611686018427387903) : ICalls P g [.agg c1, .agg c2] h fun r h' => r = .bool true ∧ Ext h h' := by
  have := hg h c1 c2 d hv hw hd
  rwa [pk_agg ht, pk_agg ht] at this
theorem MkC.sl (hg : MkC P g (.slice el e)) {lo hi k : Nat} {v : IV} (ho : Ow lo hi h (.slice el e) [v] d) (hk : k + cntW (.slice el e) d + d.tot < 4611686018427387904) :
    ICalls P g [v, .int .i64 (k : Int)] h fun r h' => r = .int .i64 ((k + cntW (.slice el e) d : Nat) : Int) ∧ Ow lo hi h' (.slice el e) [v] (mkW (.slice el e) d k) ∧ Trn lo hi h h' := hg.ow ho hk
theorem MkC.st (hg : MkC P g t) (ht : t.one = false) {lo hi k : Nat} {cs : List IV} (ho : Ow lo hi h t cs d) (hk : k + cntW t d + d.tot < 4611686018427387904) :
    ICalls P g [.agg cs, .int .i64 (k : Int)] h fun r h' => r = .int .i64 ((k + cntW t d : Nat) : Int) ∧ Ow lo hi h' t cs (mkW t d k) ∧ Trn lo hi h h' := by
  have := hg.ow ho hk
  rwa [pk_agg ht] at this
theorem HdC.sl (hg : HdC P g (.slice el e)) {k : Nat} {v : IV} (hv : Vw 0 h.n h (.slice el e) [v] (mkW (.slice el e) d k)) (hk : k + cntW (.slice el e) d + d.tot < 4611686018427387904) :
    ICalls P g [v, .int .i64 (k : Int)] h fun r h' => r = .int .i64 ((k + cntW (.slice el e) d : Nat) : Int) ∧ Ext h h' := hg h [v] d k hv hk
theorem HdC.st (hg : HdC P g t) (ht : t.one = false) {k : Nat} {cs : List IV} (hv : Vw 0 h.n h t cs (mkW t d k)) (hk : k + cntW t d + d.tot < 4611686018427387904) :
    ICalls P g [.agg cs, .int .i64 (k : Int)] h fun r h' => r = .int .i64 ((k + cntW t d : Nat) : Int) ∧ Ext h h' := by
  have := hg h cs d k hv hk
  rwa [pk_agg ht] at this
end
end Go.IW

namespace Go.IW
open Go Go.RowKit

mutual
def wfD : Ty → Dat → Prop
  | .int k, .int n => (Lit.int k n).wf = true
  | .slice _ e, .list l => wfL e l
  | .cat a b, .pair x y => wfD a x ∧ wfD b y
  | _, _ => True
def wfL (e : Ty) : List Dat → Prop
  | [] => True
  | x :: l => wfD e x ∧ wfL e l
end
theorem fits_vw {h : IH} : ∀ (t : Ty) {cs : List IV}, Fits h t.sh cs → ∃ d, Vw 0 h.n h t cs d ∧ d.ok ∧ wfD t d
  | .nil, _, e => ⟨.unit, ⟨e, rfl⟩, trivial, trivial⟩
  | .bool, _, ⟨b, e⟩ => ⟨.bool b, ⟨b, e, rfl⟩, trivial, trivial⟩
  | .int k, _, ⟨n, e, hw⟩ => ⟨.int n, ⟨n, e, rfl⟩, trivial, hw⟩
  | .str, _, ⟨s, e, hl⟩ => ⟨.str s, ⟨s, e, rfl⟩, hl, trivial⟩
  | .slice el t, _, ⟨v, rs, e, hs, hl, hf⟩ => by
    rw [Ty.sh_sz] at hs
    have key : ∀ rs : List (List IV), (∀ r ∈ rs, Fits h t.sh r) → ∃ ds, All2 (Rp (fun l => 0 ≤ l ∧ l < h.n) h t) rs ds ∧ okL ds ∧ wfL t ds := by
      intro rs
      induction rs with
      | nil => intro _; exact ⟨[], .nil, trivial, trivial⟩
      | cons r rs ih =>
        intro hr
        obtain ⟨d, a, b, c⟩ := fits_vw t (hr r List.mem_cons_self)
        obtain ⟨ds, a2, b2, c2⟩ := ih fun x hx => hr x (List.mem_cons_of_mem _ hx)
        exact ⟨d :: ds, .cons a a2, ⟨b, b2⟩, ⟨c, c2⟩⟩
    obtain ⟨ds, a, b, c⟩ := key rs hf
    exact ⟨.list ds, ⟨v, rs, ds, e, rfl, hs, fun l i n hv => ⟨Nat.zero_le _, hs.lt l i n hv⟩, a⟩, ⟨by rw [← a.len]; exact hl, b⟩, c⟩
  | .cat a b, _, ⟨x, y, e, h1, h2⟩ => by
    obtain ⟨d1, p1, q1, r1⟩ := fits_vw a h1
    obtain ⟨d2, p2, q2, r2⟩ := fits_vw b h2
    exact ⟨.pair d1 d2, ⟨x, y, d1, d2, e, rfl, p1, p2⟩, ⟨q1, q2⟩, ⟨r1, r2⟩⟩
end Go.IW

namespace Go.IW
open Go Go.RowKit
variable {P : Program}

def gv (b : Bool) (v : IV) : IV := if b then v else .tuple []
theorem gv_t (v : IV) : gv true v = v := rfl
theorem gv_f (v : IV) : gv false v = .tuple [] := rfl
class HoldG where
  k : IV → Prop
def gpure (b : Bool) (o : Option IV) [K : HoldG] : Prop := if b then (match o with | some v => K.k v | none => False) else K.k (.tuple [])
theorem gp_some (b : Bool) (v : IV) (K : HoldG) : @gpure b (some v) K = K.k (gv b v) := by
  cases b <;> rfl
theorem gpure_lift {b : Bool} {o o' : Option IV} {K : HoldG} (h : b = true → o = o') : @gpure b o K = @gpure b o' K := by
  cases b
  · rfl
  · rw [h rfl]
theorem gp_f (o : Option IV) (K : HoldG) : @gpure false o K = K.k (.tuple []) := rfl

class HoldB where
  k : Env → IH → Prop
def gop (P : Program) (c : IV) (want : Bool) (d : Nat) (k : FK) (e : Env) (h : IH) [K : HoldB] : Prop := match c with
  | .bool b => @gpure (b == want) (feval e h k) ⟨fun v => K.k (upd e d v) h⟩
  | .tuple [] => K.k (upd e d (.tuple [])) h
  | _ => False
@[go_sem ↓ high] theorem vcOp_gpure (d t : Nat) (want : Bool) (k : FK) (K : Env → IH → Prop) (e : Env) (h : IH) : vcOp P ⟨some d, some (t, want), .f k⟩ K e h = @gop P (e t) want d k e h ⟨K⟩ := by
  unfold vcOp gop
  simp only
  cases e t with
  | bool b =>
    cases b <;> cases want <;> simp [gpure, vcK, put] <;> cases feval e h k <;> simp
  | tuple vs => cases vs <;> simp [put]
  | _ => rfl
@[go_sem] theorem gop_bt (b : Bool) (d : Nat) (k : FK) (e : Env) (h : IH) (K : HoldB) : @gop P (.bool b) true d k e h K = @gpure b (feval e h k) ⟨fun v => K.k (upd e d v) h⟩ := by
  unfold gop; simp
@[go_sem] theorem gop_bf (b : Bool) (d : Nat) (k : FK) (e : Env) (h : IH) (K : HoldB) : @gop P (.bool b) false d k e h K = @gpure (!b) (feval e h k) ⟨fun v => K.k (upd e d v) h⟩ := by
  unfold gop; cases b <;> rfl
@[go_sem] theorem gop_u (want : Bool) (d : Nat) (k : FK) (e : Env) (h : IH) (K : HoldB) : @gop P (.tuple []) want d k e h K = K.k (upd e d (.tuple [])) h := by
  unfold gop; rfl
attribute [go_sem] gp_some gp_f HoldG.k HoldB.k gv_t gv_f

section
variable (b : Bool) (K : HoldG) (x y : IV) (h : IH)
@[go_sem] theorem gl_mv : @gpure b (some (gv b x)) K = @gpure b (some x) K := gpure_lift fun e => by rw [e]; rfl
@[go_sem] theorem gl_ld : @gpure b (ldF h (gv b x)) K = @gpure b (ldF h x) K := gpure_lift fun e => by rw [e]; rfl
@[go_sem] theorem gl_ldA (n : Nat) : @gpure b (ldAF h n (gv b x)) K = @gpure b (ldAF h n x) K := gpure_lift fun e => by rw [e]; rfl
@[go_sem] theorem gl_nck : @gpure b (nckF (gv b x)) K = @gpure b (nckF x) K := gpure_lift fun e => by rw [e]; rfl
@[go_sem] theorem gl_fadr (o : Nat) : @gpure b (fadrF o (gv b x)) K = @gpure b (fadrF o x) K := gpure_lift fun e => by rw [e]; rfl
@[go_sem] theorem gl_bin1 (op : BinOp) : @gpure b (ibin op (gv b x) y) K = @gpure b (ibin op x y) K := gpure_lift fun e => by rw [e]; rfl
@[go_sem] theorem gl_bin2 (op : BinOp) : @gpure b (ibin op x (gv b y)) K = @gpure b (ibin op x y) K := gpure_lift fun e => by rw [e]; rfl
@[go_sem] theorem gl_binB1 (g : Bool) : @gpure b (ibinB g (gv b x) y) K = @gpure b (ibinB g x y) K := gpure_lift fun e => by rw [e]; rfl
@[go_sem] theorem gl_binB2 (g : Bool) : @gpure b (ibinB g x (gv b y)) K = @gpure b (ibinB g x y) K := gpure_lift fun e => by rw [e]; rfl
@[go_sem] theorem gl_nil1 (k : NK) (g : Bool) (o : Option Bool) : @gpure b (eqnF g (isNil k (gv b x)) o) K = @gpure b (eqnF g (isNil k x) o) K := gpure_lift fun e => by rw [e]; rfl
@[go_sem] theorem gl_nil2 (k : NK) (g : Bool) (o : Option Bool) : @gpure b (eqnF g o (isNil k (gv b x))) K = @gpure b (eqnF g o (isNil k x)) K := gpure_lift fun e => by rw [e]; rfl
@[go_sem] theorem gl_un (op : UnOp) : @gpure b (iun op (gv b x)) K = @gpure b (iun op x) K := gpure_lift fun e => by rw [e]; rfl
@[go_sem] theorem gl_cvI (k : IntKind) : @gpure b (cvIF k (gv b x)) K = @gpure b (cvIF k x) K := gpure_lift fun e => by rw [e]; rfl
@[go_sem] theorem gl_len : @gpure b (lenF (gv b x)) K = @gpure b (lenF x) K := gpure_lift fun e => by rw [e]; rfl
@[go_sem] theorem gl_lenS : @gpure b (lenSF (gv b x)) K = @gpure b (lenSF x) K := gpure_lift fun e => by rw [e]; rfl
@[go_sem] theorem gl_iadr1 (sz : Nat) : @gpure b (iadrF h sz (gv b x) y) K = @gpure b (iadrF h sz x y) K := gpure_lift fun e => by rw [e]; rfl
@[go_sem] theorem gl_iadr2 (sz : Nat) : @gpure b (iadrF h sz x (gv b y)) K = @gpure b (iadrF h sz x y) K := gpure_lift fun e => by rw [e]; rfl
@[go_sem] theorem gl_idxS1 : @gpure b (idxSF (gv b x) y) K = @gpure b (idxSF x y) K := gpure_lift fun e => by rw [e]; rfl
@[go_sem] theorem gl_idxS2 : @gpure b (idxSF x (gv b y)) K = @gpure b (idxSF x y) K := gpure_lift fun e => by rw [e]; rfl
@[go_sem] theorem gl_ext (i : Nat) : @gpure b (extF i (gv b x)) K = @gpure b (extF i x) K := gpure_lift fun e => by rw [e]; rfl
@[go_sem] theorem gl_fld (o n : Nat) (a : Bool) : @gpure b (fldF o n a (gv b x)) K = @gpure b (fldF o n a x) K := gpure_lift fun e => by rw [e]; rfl
@[go_sem] theorem gl_cell (l i k : Nat) : @gpure b (h.cell l i k) K = @gpure b (cellO (h.obj l) i k) K := by rw [cell_eq]
@[go_sem] theorem pick_and (c : Bool) : pickF (.bool b) (gv b (.bool c)) (.bool false) = some (.bool (b && c)) := by cases b <;> rfl
@[go_sem] theorem pick_or (c : Bool) : pickF (.bool b) (.bool true) (gv (!b) (.bool c)) = some (.bool (b || c)) := by cases b <;> rfl
@[go_sem] theorem gl_pick1 (z : IV) : @gpure b (pickF (gv b x) y z) K = @gpure b (pickF x y z) K := gpure_lift fun e => by rw [e]; rfl
@[go_sem] theorem gl_pick2 (z : IV) : @gpure b (pickF x (gv b y) z) K = @gpure b (pickF x y z) K := gpure_lift fun e => by rw [e]; rfl
@[go_sem] theorem gl_pick3 (z : IV) : @gpure b (pickF x y (gv b z)) K = @gpure b (pickF x y z) K := gpure_lift fun e => by rw [e]; rfl
end
theorem set_pushT {h : IH} {l : Nat} {a o : IObj} (hl : l = h.n) : (h.push a).set l o = h.push o := set_push (by simp [hl]) a o
theorem set_pushN {h : IH} {l : Nat} {a o : IObj} (hl : l ≠ h.n) : (h.push a).set l o = (h.set l o).push a := set_push_ne (by simp [hl]) a o
theorem mid_get {α : Type} {A B : List α} {r : α} {i : Nat} (hi : A.length = i) : (A ++ r :: B)[i]? = some r := by
  subst hi; simp
theorem mid_set {α : Type} {A B : List α} {r x : α} {i : Nat} (hi : A.length = i) : (A ++ r :: B).set i x = A ++ x :: B := by
  subst hi; simp
theorem stO_mid {l i k : Nat} {c : IV} {A B : List (List IV)} {row : List IV} {el sz : Nat} {h : IH} {K : HoldK} (hi : A.length = i) (hk : k < row.length) (hc : c.one = true) :
    @stO 1 i k [c] l (.rows (A ++ row :: B) el sz false) h K = K.k (.tuple []) (h.set l (.rows (A ++ row.set k c :: B) el sz false)) := by
  unfold stO
  simp only [mid_get hi, List.length_singleton, List.all_cons, List.all_nil, hc, Bool.and_true, true_and, wrt, Nat.succ_le_of_lt hk, mid_set hi]
structure Sav (b : Nat) (h g : IH) : Prop where
  le : h.n ≤ g.n
  obj : ∀ m, m < h.n → m ≠ b → g.obj m = h.obj m
theorem Sav.refl (b : Nat) (h : IH) : Sav b h h := ⟨Nat.le_refl _, fun _ _ _ => rfl⟩
theorem Sav.trans {b : Nat} {h g k : IH} (s : Sav b h g) (t : Sav b g k) : Sav b h k := ⟨Nat.le_trans s.le t.le, fun m hm hb => (t.obj m (Nat.lt_of_lt_of_le hm s.le) hb).trans (s.obj m hm hb)⟩
theorem Sav.ext {b : Nat} {h g g' : IH} (s : Sav b h g) (E : Ext g g') : Sav b h g' := ⟨Nat.le_trans s.le E.le, fun m hm hb => (E.obj m (Nat.lt_of_lt_of_le hm s.le)).trans (s.obj m hm hb)⟩
theorem Sav.set {b l : Nat} {h g : IH} (s : Sav b h g) (hl : h.n ≤ l ∨ l = b) (o : IObj) : Sav b h (g.set l o) := ⟨s.le, fun m hm hb => (set_there _ _ _ _ (by omega)).trans (s.obj m hm hb)⟩
theorem Sav.sl {b : Nat} {h g : IH} (s : Sav b h g) {sz : Nat} {v : IV} {rs : List (List IV)} (hs : SlR h sz v rs) (hb : ∀ l i n, v = .slice l i n → l ≠ b) : SlR g sz v rs :=
  hs.same s.le fun l i n hv => s.obj l (hs.lt l i n hv) (hb l i n hv)
def smO (o : IObj) (v : IV) (h : IH) [K : HoldK] : Prop := match o with | .rows _ _ sz false => sz = 1 ∧ K.k v h | _ => False
def smA (x : IV) (h : IH) [K : HoldK] : Prop := match x with | .slice l i n => smO (h.obj l) (.slice l i n) h | _ => False
@[go_sem ↓] theorem act_smark (x : CX) (e : Env) (h : IH) (K : IV → IH → Prop) : act P h e K (.ux .smark [x]) = @smA (x.ev e) h ⟨K⟩ := by
  unfold smA
  simp only [act, uact, mc0, mn0]
  cases x.ev e with
  | slice l i n =>
    simp only [smO]
    cases h.obj l <;> rfl
  | _ => simp
@[go_sem] theorem smA_slice (l i n : Nat) (h : IH) (K : HoldK) : @smA (.slice l i n) h K = @smO (h.obj l) (.slice l i n) h K := nr rfl
@[go_sem] theorem smO_rows (rs : List (List IV)) (e : Nat) (v : IV) (h : IH) (K : HoldK) : @smO (.rows rs e 1 false) v h K = K.k v h := by simp [smO]
theorem flat_own {α : Type} {row : α → List IV} {dat : α → Dat} {h : IH} {t : Ty} (hx : ∀ x, Ro h t (row x) (dat x) []) : ∀ xs : List α, All3 (Ro h t) (xs.map row) (xs.map dat) []
  | [] => .nil
  | x :: xs => by
    have := All3.cons (hx x) (flat_own hx xs)
    simpa using this
theorem Own.ow {α : Type} {row : α → List IV} {dat : α → Dat} {lo hi : Nat} {h : IH} {el : Nat} {t : Ty} {v : IV} {xs : List α} (hx : ∀ x, Ro h t (row x) (dat x) []) (ho : Own lo hi h el t.sz v (xs.map row)) (hh : hi ≤ h.n) :
    Ow lo hi h (.slice el t) [v] (.list (xs.map dat)) := by
  rcases ho with ⟨hn, hv⟩ | ⟨l, hne, rfl, h1, h2, h3, hob⟩
  · have : xs = [] := List.map_eq_nil_iff.1 hn
    subst this
    exact Ow.flat rfl ⟨v, [], rfl, rfl, .inl ⟨rfl, rfl, hv⟩⟩ hh
  · refine ⟨⟨[l], ⟨_, _, rfl, rfl, .inr ⟨l, xs.map row, [], ?_, by simp, by omega, hob, rfl, flat_own hx xs⟩⟩, by simp, by simp; omega⟩, hh⟩
    intro he
    exact hne (by rw [List.map_eq_nil_iff] at he; rw [he]; rfl)
theorem Vw.up {lo hi : Nat} {h : IH} {t : Ty} {cs : List IV} {d : Dat} (hv : Vw lo hi h t cs d) (hh : hi ≤ h.n) : Vw 0 h.n h t cs d := hv.wide (Nat.zero_le _) hh
theorem Ow.up {lo hi : Nat} {h : IH} {t : Ty} {cs : List IV} {d : Dat} (ho : Ow lo hi h t cs d) : Vw 0 h.n h t cs d := ho.view.up ho.le
end Go.IW

namespace Go.IW
open Go
section
variable {P : Program} (ops : List COp) (anc : List (List Nat)) (n : Nat)
variable {ops anc n}
end
section
variable (h : IH) (g : Bool) (ks : List Nat) (r r' xs ys : List IV)
@[go_sem] theorem ueval_aeq : ueval h (.aeq g ks) [.agg xs, .agg ys] = (aeqV ks xs ys).map fun b => .bool (b != g) := rfl
@[go_sem] theorem aeqV_nil : aeqV [] [] [] = some true := rfl
@[go_sem] theorem aeqV_int (k : IntKind) (a b : Int) : aeqV (0 :: ks) (.int k a :: r) (.int k b :: r') = (aeqV ks r r').map fun t => decide (a = b) && t := by simp [aeqV]
@[go_sem] theorem aeqV_str (a b : List UInt8) : aeqV (1 :: ks) (.str a :: r) (.str b :: r') = (aeqV ks r r').map fun t => decide (a = b) && t := rfl
@[go_sem] theorem aeqV_bool (a b : Bool) : aeqV (2 :: ks) (.bool a :: r) (.bool b :: r') = (aeqV ks r r').map fun t => decide (a = b) && t := rfl
end
end Go.IW

namespace Go.IW
open Go Go.RowKit

theorem SlR.mem {ρ : List RLoc} {B : Nat} {w : World} {h : IH} {x : Value} {v : IV} {rs : List (List IV)} (hw : WRel ρ B w h) (hx : VRel ρ x v) (hs : SlR h 1 v rs) (hne : rs ≠ []) :
    ∃ bk o c news, x = .slice (some ⟨bk, o, none⟩) rs.length c ∧ rs.length ≤ c ∧ LRel ρ news rs.flatten ∧ news.length = rs.length ∧ bk < w.heap.size ∧ ∀ (j : Nat) u, news[j]? = some u → w.cell? ⟨bk, o + j, none⟩ = some u := by
  obtain ⟨ad, c, news, e1, hcap, hl, hnl, hok, had, hget⟩ := src_rows hw hx hs.src
  have hsrc := hs.src
  cases hx with
  | @slice l i n c' r h1 h2 h3 h4 =>
    obtain ⟨rs0, e, ro, ho, _⟩ := srcRows_live hsrc
    have hbk : r.block < w.heap.size := (hw.obj l r h1).block_lt (by rw [ho]; rfl)
    simp only [Value.slice.injEq] at e1
    obtain ⟨rfl, rfl, rfl⟩ := e1
    refine ⟨_, _, _, news, rfl, hcap, hl, by simpa using hnl, hbk, fun j u hu => ?_⟩
    have := hget _ rfl j u hu
    rwa [Lib.add_plain] at this
  | _ => first | (simp only [srcRows, Option.some.injEq] at hsrc; exact absurd hsrc.symm hne) | (simp [srcRows] at hsrc; done) | (simp [srcRows] at hsrc; exact absurd hsrc hne)

section
variable {P : Program} {f : Nat} {as0 : List CX} {e : Env} {h : IH} {d : Option Nat} {K : Env → IH → Prop} {b : Bool} {v : IV}
end
section
variable {P : Program}
@[go_sem] theorem gv_gv (b : Bool) (v : IV) : gv b (gv b v) = gv b v := by cases b <;> rfl
@[go_sem] theorem gop_gvt (b c : Bool) (d : Nat) (k : FK) (e : Env) (h : IH) (K : HoldB) : @gop P (gv b (.bool c)) true d k e h K = @gpure (b && c) (feval e h k) ⟨fun v => K.k (upd e d v) h⟩ := by
  cases b <;> cases c <;> rfl
@[go_sem] theorem gop_gvf (b c : Bool) (d : Nat) (k : FK) (e : Env) (h : IH) (K : HoldB) : @gop P (gv b (.bool c)) false d k e h K = @gpure (b && !c) (feval e h k) ⟨fun v => K.k (upd e d v) h⟩ := by
  cases b <;> cases c <;> rfl
@[go_sem] theorem gl_pick2c (b c : Bool) (K : HoldG) (x y z : IV) : @gpure b (pickF x (gv (b && c) y) z) K = @gpure b (pickF x (gv c y) z) K := gpure_lift fun e => by rw [e]; rfl
@[go_sem] theorem gl_pick3c (b c : Bool) (K : HoldG) (x y z : IV) : @gpure b (pickF x y (gv (b && c) z)) K = @gpure b (pickF x y (gv c z)) K := gpure_lift fun e => by rw [e]; rfl
end
end Go.IW

namespace Go.IW
open Go Go.RowKit

def bytesD (bs : List UInt8) : Dat := .list (bs.map fun b => .int (b.toNat : Int))
theorem bytesL {S : Nat → Prop} {h : IH} : ∀ {rs : List (List IV)} {ds : List Dat}, All2 (Rp S h (.int .u8)) rs ds → wfL (.int .u8) ds → ∃ bs : List UInt8, rs = strRows bs ∧ ds = bs.map fun b => .int (b.toNat : Int)
  | _, _, .nil, _ => ⟨[], rfl, rfl⟩
  | _, _, .cons (a := r) (b := d) h1 h2, hw => by
    obtain ⟨n, rfl, rfl⟩ := h1
    obtain ⟨bs, rfl, rfl⟩ := bytesL h2 hw.2
    have hn : (Lit.int .u8 n).wf = true := hw.1
    have hr : 0 ≤ n ∧ n < 256 := by
      simp [Lit.wf, IntKind.min, IntKind.max, IntKind.signed, IntKind.bits] at hn
      omega
    refine ⟨UInt8.ofNat n.toNat :: bs, ?_, ?_⟩
    · simp only [strRows, mc0, List.cons.injEq, and_true, IV.int.injEq, true_and]
      rw [UInt8.toNat_ofNat']
      omega
    · simp only [mc0, List.cons.injEq, Dat.int.injEq, and_true]
      rw [UInt8.toNat_ofNat']
      omega
theorem bytesD_inj {a b : List UInt8} (h : bytesD a = bytesD b) : a = b := by
  unfold bytesD at h
  simp only [Dat.list.injEq] at h
  refine (List.map_inj_right (fun x y e => ?_)).1 h
  simp only [Dat.int.injEq] at e
  exact UInt8.toNat_inj.1 (by omega)
theorem bytesD_tot (bs : List UInt8) : (bytesD bs).tot = bs.length := by
  have : ∀ l : List UInt8, totL (l.map fun b => .int (b.toNat : Int)) = 0 := by
    intro l
    induction l with
    | nil => rfl
    | cons p r ih => simp only [mc0, totL, ih]; rfl
  simp [bytesD, Dat.tot, this]
end Go.IW

namespace Go.IW
open Go Go.RowKit

end Go.IW

namespace Go.IW
open Go Go.RowKit

end Go.IW

namespace Go.IW
open Go Go.RowKit

structure As where
  P : IH → List Nat → Prop
  same : ∀ {h h' : IH} {fs : List Nat}, P h fs → h.n ≤ h'.n → (∀ l ∈ fs, h'.obj l = h.obj l) → P h' fs
  lt : ∀ {h : IH} {fs : List Nat}, P h fs → ∀ l ∈ fs, l < h.n

def box (p : Nat) (o : IObj) : As where
  P h fs := fs = [p] ∧ p < h.n ∧ h.obj p = o
  same := by
    rintro h h' fs ⟨rfl, h1, h2⟩ hn ho
    exact ⟨rfl, by omega, (ho p (by simp)).trans h2⟩
  lt := by
    rintro h fs ⟨rfl, h1, _⟩ l hl
    have : l = p := by simpa using hl
    omega
def fact (p : Prop) : As where
  P _ fs := fs = [] ∧ p
  same h _ _ := h
  lt h := by rw [h.1]; simp
def emp : As := fact True
def old (h0 : IH) : As where
  P h fs := fs = List.range h0.n ∧ h0.n ≤ h.n ∧ ∀ l, l < h0.n → h.obj l = h0.obj l
  same := by
    rintro h h' fs ⟨rfl, h1, h2⟩ hn ho
    exact ⟨rfl, by omega, fun l hl => (ho l (by simpa using hl)).trans (h2 l hl)⟩
  lt := by
    rintro h fs ⟨rfl, h1, _⟩ l hl
    have : l < h0.n := by simpa using hl
    omega
def stars (A B : As) : As where
  P h fs := ∃ f g, fs = f ++ g ∧ A.P h f ∧ B.P h g
  same := by
    rintro h h' fs ⟨f, g, rfl, ha, hb⟩ hn ho
    exact ⟨f, g, rfl, A.same ha hn (fun l hl => ho l (List.mem_append_left _ hl)), B.same hb hn (fun l hl => ho l (List.mem_append_right _ hl))⟩
  lt := by
    rintro h fs ⟨f, g, rfl, ha, hb⟩ l hl
    rcases List.mem_append.1 hl with hl | hl
    · exact A.lt ha l hl
    · exact B.lt hb l hl
def exA {α : Type} (F : α → As) : As where
  P h fs := ∃ x, (F x).P h fs
  same := by rintro h h' fs ⟨x, hx⟩ hn ho; exact ⟨x, (F x).same hx hn ho⟩
  lt := by rintro h fs ⟨x, hx⟩; exact (F x).lt hx
def all2 {α : Type} (R : List IV → α → As) : List (List IV) → List α → As
  | [], [] => emp
  | r :: rs, x :: xs => stars (R r x) (all2 R rs xs)
  | _, _ => fact False

def SpF (h : IH) : List As → List Nat → Prop
  | [], fs => fs = []
  | A :: L, fs => ∃ f g, fs = f ++ g ∧ A.P h f ∧ SpF h L g
def Sp (h : IH) (L : List As) : Prop := ∃ fs, SpF h L fs ∧ fs.Nodup

section
variable {h h' : IH} {L M : List As} {A B C D E F A' : As}
theorem SpF.same : ∀ {L : List As} {fs : List Nat}, SpF h L fs → h.n ≤ h'.n → (∀ l ∈ fs, h'.obj l = h.obj l) → SpF h' L fs
  | [], _, e, _, _ => e
  | A :: L, _, ⟨f, g, e, ha, hl⟩, hn, ho => by
    subst e
    exact ⟨f, g, rfl, A.same ha hn (fun l hx => ho l (List.mem_append_left _ hx)), SpF.same hl hn (fun l hx => ho l (List.mem_append_right _ hx))⟩
theorem SpF.lt : ∀ {L : List As} {fs : List Nat}, SpF h L fs → ∀ l ∈ fs, l < h.n
  | [], _, e => by cases e; simp
  | A :: L, _, ⟨f, g, e, ha, hl⟩ => by
    subst e
    intro l hx
    rcases List.mem_append.1 hx with hx | hx
    · exact A.lt ha l hx
    · exact SpF.lt hl l hx
theorem SpF.perm (hp : L.Perm M) : ∀ {fs : List Nat}, SpF h L fs → ∃ gs, SpF h M gs ∧ fs.Perm gs := by
  induction hp with
  | nil => intro fs hs; exact ⟨fs, hs, List.Perm.refl _⟩
  | cons A _ ih =>
    rintro fs ⟨f, g, rfl, ha, hl⟩
    obtain ⟨gs, h1, h2⟩ := ih hl
    exact ⟨f ++ gs, ⟨f, gs, rfl, ha, h1⟩, List.Perm.append_left _ h2⟩
  | swap A B L =>
    rintro fs ⟨f, g, rfl, ha, f', g', rfl, hb, hl⟩
    refine ⟨f' ++ (f ++ g'), ⟨f', f ++ g', rfl, hb, f, g', rfl, ha, hl⟩, ?_⟩
    rw [← List.append_assoc, ← List.append_assoc]
    exact List.Perm.append_right _ List.perm_append_comm
  | trans _ _ ih1 ih2 =>
    intro fs hs
    obtain ⟨gs, h1, h2⟩ := ih1 hs
    obtain ⟨gs', h3, h4⟩ := ih2 h1
    exact ⟨gs', h3, h2.trans h4⟩
theorem Sp.perm (hs : Sp h L) (hp : L.Perm M) : Sp h M := by
  obtain ⟨fs, h1, h2⟩ := hs
  obtain ⟨gs, h3, h4⟩ := SpF.perm hp h1
  exact ⟨gs, h3, h4.nodup_iff.1 h2⟩
theorem Sp.ext (hs : Sp h L) (E : Ext h h') : Sp h' L := by
  obtain ⟨fs, h1, h2⟩ := hs
  exact ⟨fs, h1.same E.le (fun l hl => E.obj l (h1.lt l hl)), h2⟩
theorem Sp.turn (hs : Sp h (A :: L)) (hn : h.n ≤ h'.n) (ht : ∀ f, A.P h f → f.Nodup → (∃ f', A'.P h' f' ∧ f'.Nodup ∧ (∀ l ∈ f', l ∈ f ∨ h.n ≤ l)) ∧ ∀ l, l < h.n → l ∉ f → h'.obj l = h.obj l) : Sp h' (A' :: L) := by
  obtain ⟨fs, ⟨f, g, rfl, ha, hl⟩, hd⟩ := hs
  obtain ⟨hf, hg, hfg⟩ := List.nodup_append.1 hd
  obtain ⟨⟨f', ha', hd', hin⟩, ho⟩ := ht f ha hf
  refine ⟨f' ++ g, ⟨f', g, rfl, ha', hl.same hn fun l hlg => ho l (hl.lt l hlg) fun hlf => hfg l hlf l hlg rfl⟩, ?_⟩
  refine List.nodup_append.2 ⟨hd', hg, fun a ha b hb e => ?_⟩
  subst e
  rcases hin a ha with h1 | h1
  · exact hfg a h1 a hb rfl
  · have := hl.lt a hb; omega
theorem Sp.new (hs : Sp h L) (E : Ext h h') {f : List Nat} (ha : A.P h' f) (hd : f.Nodup) (hf : ∀ l ∈ f, h.n ≤ l) : Sp h' (A :: L) := by
  obtain ⟨fs, h1, h2⟩ := hs
  refine ⟨f ++ fs, ⟨f, fs, rfl, ha, h1.same E.le (fun l hl => E.obj l (h1.lt l hl))⟩, List.nodup_append.2 ⟨hd, h2, fun a ha b hb e => ?_⟩⟩
  subst e
  have := hf a ha; have := h1.lt a hb; omega
theorem Sp.imp (hs : Sp h (A :: L)) (hi : ∀ f, A.P h f → ∃ f', B.P h f' ∧ f'.Sublist f) : Sp h (B :: L) := by
  obtain ⟨fs, ⟨f, g, rfl, ha, hl⟩, hd⟩ := hs
  obtain ⟨f', hb, hsub⟩ := hi f ha
  exact ⟨f' ++ g, ⟨f', g, rfl, hb, hl⟩, (List.Sublist.append hsub (List.Sublist.refl g)).nodup hd⟩
theorem Sp.drop (hs : Sp h (A :: L)) : Sp h L := by
  obtain ⟨fs, ⟨f, g, rfl, ha, hl⟩, hd⟩ := hs
  exact ⟨g, hl, (List.nodup_append.1 hd).2.1⟩
theorem Sp.get (hs : Sp h (A :: L)) : ∃ f, A.P h f ∧ f.Nodup := by
  obtain ⟨fs, ⟨f, g, rfl, ha, hl⟩, hd⟩ := hs
  exact ⟨f, ha, (List.nodup_append.1 hd).1⟩
theorem Sp.star (hs : Sp h (stars A B :: L)) : Sp h (A :: B :: L) := by
  obtain ⟨fs, ⟨f, g, rfl, ⟨f1, f2, rfl, h1, h2⟩, hl⟩, hd⟩ := hs
  rw [List.append_assoc] at hd
  exact ⟨f1 ++ (f2 ++ g), ⟨f1, f2 ++ g, rfl, h1, f2, g, rfl, h2, hl⟩, hd⟩
theorem Sp.unstar (hs : Sp h (A :: B :: L)) : Sp h (stars A B :: L) := by
  obtain ⟨fs, ⟨f1, g, rfl, h1, f2, g2, rfl, h2, hl⟩, hd⟩ := hs
  rw [← List.append_assoc] at hd
  exact ⟨_, ⟨f1 ++ f2, g2, rfl, ⟨f1, f2, rfl, h1, h2⟩, hl⟩, hd⟩
theorem Sp.ex {α : Type} {F : α → As} (hs : Sp h (exA F :: L)) : ∃ x, Sp h (F x :: L) := by
  obtain ⟨fs, ⟨f, g, rfl, ⟨x, hx⟩, hl⟩, hd⟩ := hs
  exact ⟨x, _, ⟨f, g, rfl, hx, hl⟩, hd⟩
theorem Sp.unex {α : Type} {F : α → As} (x : α) (hs : Sp h (F x :: L)) : Sp h (exA F :: L) := by
  obtain ⟨fs, ⟨f, g, rfl, hx, hl⟩, hd⟩ := hs
  exact ⟨_, ⟨f, g, rfl, ⟨x, hx⟩, hl⟩, hd⟩
theorem Sp.fact {p : Prop} (hs : Sp h (IW.fact p :: L)) : p ∧ Sp h L := by
  refine ⟨?_, hs.drop⟩
  obtain ⟨f, ⟨_, hp⟩, _⟩ := hs.get
  exact hp
theorem Sp.unfact {p : Prop} (hp : p) (hs : Sp h L) : Sp h (IW.fact p :: L) := by
  obtain ⟨fs, h1, h2⟩ := hs
  exact ⟨fs, ⟨[], fs, rfl, ⟨rfl, hp⟩, h1⟩, h2⟩
theorem Sp.emp (hs : Sp h L) : Sp h (IW.emp :: L) := Sp.unfact trivial hs
theorem Sp.nil : Sp h [] := ⟨[], rfl, List.nodup_nil⟩
theorem Sp.start (h : IH) : Sp h [old h] := ⟨List.range h.n, ⟨List.range h.n, [], by simp, ⟨rfl, Nat.le_refl _, fun _ _ => rfl⟩, rfl⟩, List.nodup_range⟩
theorem Sp.oldE {h0 : IH} (hs : Sp h (old h0 :: L)) : Ext h0 h := by
  obtain ⟨f, ⟨_, h1, h2⟩, _⟩ := hs.get
  exact ⟨h1, h2⟩
theorem Sp.push {g : IH} {o : IObj} (hs : Sp h L) (hg : h.push o = g) : Sp g (box h.n o :: L) := by
  subst hg
  exact hs.new ((Ext.refl _).push _) (f := [h.n]) ⟨rfl, Nat.lt_succ_self _, push_new _ _⟩ (by simp) (by simp)
theorem Sp.set {g : IH} {p : Nat} {o o' : IObj} (hs : Sp h (box p o :: L)) (hg : h.set p o' = g) : Sp g (box p o' :: L) := by
  subst hg
  refine hs.turn (Nat.le_refl _) ?_
  rintro f ⟨rfl, h1, h2⟩ _
  refine ⟨⟨[p], ⟨rfl, h1, set_here _ _ _⟩, by simp, fun l hl => .inl hl⟩, fun l hl hf => set_there _ _ _ _ (by simpa using hf)⟩
theorem Sp.p1 (hs : Sp h (A :: B :: L)) : Sp h (B :: A :: L) := hs.perm (List.Perm.swap _ _ _)
theorem Sp.p2 (hs : Sp h (A :: B :: C :: L)) : Sp h (C :: A :: B :: L) := hs.perm ((List.Perm.swap _ _ _).cons A |>.trans (List.Perm.swap _ _ _))
end
end Go.IW
