/- What writes nothing answers as the ideal says: slicing, strings, and all together. -/
import Derived.Test.YtcmcfmgabafljaaDoorIwD
import Derived.Laws.Strings2
set_option linter.unusedVariables false
set_option linter.unusedSimpArgs false
namespace Go.IW
open Go.RowKit

section
variable {P : Program} {ρ : List RLoc} {B : Nat} {w : World} {h : IH} {N : Nat} {a : Act} {e : Env}

theorem bytesOf_sound : ∀ {rs : List (List IV)} {s : List UInt8}, bytesOf rs = some s → rs.length = s.length ∧ ∀ (i : Nat) row, rs[i]? = some row → ∃ n, row = [.int .u8 n] ∧ s[i]? = some (UInt8.ofNat n.toNat)
  | [], s, h => by simp [bytesOf] at h; subst h; simp
  | row :: rs, s, h => by
    unfold bytesOf at h
    split at h
    · rename_i h0; cases h0
    · rename_i n r h0
      obtain ⟨rfl, rfl⟩ := List.cons.inj h0
      rw [Option.map_eq_some_iff] at h
      obtain ⟨s', hs', rfl⟩ := h
      obtain ⟨h1, h2⟩ := bytesOf_sound hs'
      refine ⟨by simp [h1], fun i row hi => ?_⟩
      cases i with
      | zero => simp at hi; exact ⟨n, hi.symm, rfl⟩
      | succ i => simp at hi ⊢; exact h2 i row hi
    · cases h

theorem foldl_bytes : ∀ (ns : List Int) (r : ByteArray), ns.foldl (fun (r : ByteArray) n => r.push (UInt8.ofNat n.toNat)) r = ⟨r.data ++ (ns.map fun n => UInt8.ofNat n.toNat).toArray⟩
  | [], r => by simp
  | n :: ns, r => by
    rw [List.foldl_cons, foldl_bytes ns]
    simp [ByteArray.push]

theorem b2s_sound (hw : WRel ρ B w h) {src dst el : TypeId} (hs : P.underlying src = some (.slice el)) (he : P.underlying el = some (.int .u8)) (hd : P.underlying dst = some .string)
    {x : Value} {l i n : Nat} {rs : List (List IV)} {t : Nat} {ro : Bool} {s : List UInt8} (hx : VRel ρ x (.slice l i n)) (ho : h.obj l = .rows rs t 1 ro) (hin : i + n ≤ rs.length)
    (hb : bytesOf ((rs.drop i).take n) = some s) : Answers P (convert src dst x) w ρ (.str s) := by
  cases hx with
  | @slice l i n c r hr hn hc hm =>
    obtain ⟨h1, h2⟩ := bytesOf_sound hb
    have hlen : s.length = n := by rw [← h1]; simp; omega
    have hsz : r.sz = 1 := by
      have := hw.obj l r hr
      rw [ho] at this
      obtain ⟨_, _, _, _, hrel⟩ := this
      exact hrel.hsz
    let ns : List Int := ((rs.drop i).take n).map fun row => match row with | [.int .u8 n] => n | _ => 0
    have hns : ns.map (fun n => UInt8.ofNat n.toNat) = s := by
      apply List.ext_getElem?
      intro j
      simp only [ns, List.map_map, List.getElem?_map]
      cases hj : ((rs.drop i).take n)[j]? with
      | none =>
        simp only [Option.map_none]
        symm
        rw [List.getElem?_eq_none_iff] at hj ⊢
        omega
      | some row =>
        obtain ⟨m, rfl, hm⟩ := h2 j row hj
        simp [hm]
    have hload := run_loadCells_list (P := P) (w := w) (⟨r.block, r.base + i * r.sz, none⟩ : Addr) (ns.map (Value.int .u8)) (fun j v hj => by
      simp only [ns, List.map_map, List.getElem?_map] at hj
      cases hj' : ((rs.drop i).take n)[j]? with
      | none => rw [hj'] at hj; simp at hj
      | some row =>
        rw [hj'] at hj
        obtain ⟨m, rfl, hm⟩ := h2 j row hj'
        simp at hj
        subst hj
        have hrow : rs[i + j]? = some [.int .u8 m] := by
          rw [List.getElem?_take] at hj'
          split at hj'
          · rwa [List.getElem?_drop] at hj'
          · cases hj'
        obtain ⟨v', hv', hr'⟩ := cell_sound (l := l) (i := i + j) (k := 0) hw hr (v := .int .u8 m) (by simp [IH.cell, IH.row, ho, hrow])
        rw [addr_add]
        rw [hsz] at hv' ⊢
        cases hr'
        simpa [Nat.add_assoc] using hv')
    have hl : (ns.map (Value.int .u8)).length = n := by simp only [ns, List.length_map]; omega
    rw [hl] at hload
    refine ⟨.string ⟨s.toArray⟩, ?_, ?_⟩
    · rw [run_convert_bytes_string w src dst el _ n c hs he hd, run_bytesToString w _ n c ns hload, foldl_bytes, hns]
      have he0 : ByteArray.empty.data = #[] := rfl
      rw [he0]; simp
    · have := VRel.str (ρ := ρ) ⟨s.toArray⟩
      simpa using this

theorem b2s_empty {src dst el : TypeId} (hs : P.underlying src = some (.slice el)) (he : P.underlying el = some (.int .u8)) (hd : P.underlying dst = some .string)
    {x : Value} {x' : IV} (hx : VRel ρ x x') (hn : ilen x' = some 0) : Answers P (convert src dst x) w ρ (.str []) := by
  have hv := VRel.str (ρ := ρ) ByteArray.empty
  refine ⟨.string ByteArray.empty, ?_, hv⟩
  obtain ⟨ad, c, rfl, _, _⟩ := ilen_rel hx hn
  · rw [run_convert_bytes_string w src dst el _ 0 c hs he hd]
    cases ad with
    | none => simp [Conv.bytesToString]
    | some ad =>
      have := run_bytesToString (P := P) w ad 0 c [] (by simp [loadCells, loadCellsFrom])
      simpa using this

theorem sliceBound_sound {x : Value} {k : IntKind} {n : Int} {y : Nat} (code : BoundsCode) (hx : VRel ρ x (.int k n)) (h0 : 0 ≤ n) (h1 : n ≤ y) : (Instr.sliceBound x y code).run P w = .ok n.toNat w := by
  cases hx
  simp [Instr.sliceBound, asIntOf, h0, h1]

theorem obound_int {len : Nat} {x : CX} {d m : Nat} (ho : obound len (some x) e d = some m) : ∃ k n, x.ev e = .int k n ∧ 0 ≤ n ∧ n ≤ len ∧ n.toNat = m := by
  unfold obound at ho
  split at ho
  · rename_i h0; cases h0
  · rename_i x1 h0
    cases h0
    split at ho
    · rename_i k n hx
      split at ho
      · rename_i hb; exact ⟨k, n, hx, hb.1, hb.2, Option.some.inj ho⟩
      · cases ho
    · cases ho

theorem obound_le {len : Nat} {x : Option CX} {d m : Nat} (ho : obound len x e d = some m) (hd : d ≤ len) : m ≤ len := by
  cases x with
  | none => simp [obound] at ho; omega
  | some x => obtain ⟨k, n, _, h0, h1, rfl⟩ := obound_int ho; omega

theorem oarg_sound (ha : ARel ρ N a e) {x0 : Option Operand} {x : Option CX} (hx : ocx x0 = some x) {len d m : Nat} (ho : obound len x e d = some m) :
    (x0 = none ∧ m = d) ∨ (∃ x1, x0 = some x1 ∧ ∀ (y : Nat) code, len ≤ y → (Instr.sliceBound (a.eval x1) y code).run P w = .ok m w) := by
  cases x0 with
  | none => simp [ocx] at hx; subst hx; simp [obound] at ho; exact .inl ⟨rfl, ho.symm⟩
  | some x1 =>
    simp [ocx] at hx
    obtain ⟨x, hx, rfl⟩ := hx
    obtain ⟨k, n, he, h0, h1, rfl⟩ := obound_int ho
    have hr := cx_rel hx ha
    rw [he] at hr
    exact .inr ⟨x1, rfl, fun y code hy => sliceBound_sound code hr h0 (by omega)⟩

/-- The three bounds, without a third index. -/
theorem bounds2_sound (ha : ARel ρ N a e) {lo0 hi0 : Option Operand} {lo hi : Option CX} (hlo : ocx lo0 = some lo) (hhi : ocx hi0 = some hi) {n c p q : Nat} (isSlice : Bool) (hq : obound n hi e n = some q) (hp : obound q lo e 0 = some p) (hc : n ≤ c) :
    (Instr.sliceBounds isSlice n c (lo0.map a.eval) (hi0.map a.eval) none).run P w = .ok (p, q, c) w := by
  rcases oarg_sound (P := P) (w := w) ha hlo hp with ⟨rfl, rfl⟩ | ⟨x1, rfl, h1⟩ <;>
  rcases oarg_sound (P := P) (w := w) ha hhi hq with ⟨rfl, rfl⟩ | ⟨x2, rfl, h2⟩
  · simp [Instr.sliceBounds]
  · simp [Instr.sliceBounds, h2 c _ hc]
  · simp [Instr.sliceBounds, h1 _ _ (Nat.le_refl _)]
  · simp [Instr.sliceBounds, h1 _ _ (Nat.le_refl _), h2 c _ hc]

/-- The three bounds, with a third index. -/
theorem bounds3_sound (ha : ARel ρ N a e) {lo0 : Option Operand} {hi0 mx0 : Operand} {lo : Option CX} {hi mx : CX} (hlo : ocx lo0 = some lo) (hhi : cx hi0 = some hi) (hmx : cx mx0 = some mx) {n c p q m : Nat} (isSlice : Bool)
    (hm : obound n (some mx) e n = some m) (hq : obound m (some hi) e n = some q) (hp : obound q lo e 0 = some p) (hc : n ≤ c) :
    (Instr.sliceBounds isSlice n c (lo0.map a.eval) (some (a.eval hi0)) (some (a.eval mx0))).run P w = .ok (p, q, m) w := by
  rcases oarg_sound (P := P) (w := w) (x0 := some mx0) ha (by simp [ocx, hmx]) hm with ⟨h0, _⟩ | ⟨x1, h0, h1⟩
  · cases h0
  cases h0
  rcases oarg_sound (P := P) (w := w) (x0 := some hi0) ha (by simp [ocx, hhi]) hq with ⟨h0, _⟩ | ⟨x2, h0, h2⟩
  · cases h0
  cases h0
  rcases oarg_sound (P := P) (w := w) ha hlo hp with ⟨rfl, rfl⟩ | ⟨x3, rfl, h3⟩
  · simp [Instr.sliceBounds, h1 c _ hc, h2 m _ (Nat.le_refl _)]
  · simp [Instr.sliceBounds, h1 c _ hc, h2 m _ (Nat.le_refl _), h3 q _ (Nat.le_refl _)]

theorem str_extract (s : ByteArray) (p q : Nat) (hq : q ≤ s.data.toList.length) : (s.extract p q).data.toList = (s.data.toList.take q).drop p := by
  obtain ⟨⟨l⟩⟩ := s
  have h := ByteArray.extract_mk l p q
  have h2 : (ByteArray.mk ⟨l⟩) = ByteArray.mk l.toArray := rfl
  rw [h2, h]
  simp only [List.drop_take]

theorem slcS_sound (ha : ARel ρ N a e) {t : TypeId} (ht : P.underlying t = some .string) {lo0 hi0 : Option Operand} {lo hi : Option CX} (hlo : ocx lo0 = some lo) (hhi : ocx hi0 = some hi)
    {x : Value} {s : List UInt8} (hx : VRel ρ x (.str s)) {p q : Nat} (hq : obound s.length hi e s.length = some q) (hp : obound q lo e 0 = some p) :
    Answers P (Instr.sliceAt t x (lo0.map a.eval) (hi0.map a.eval) none) w ρ (.str ((s.take q).drop p)) := by
  generalize hs : IV.str s = s' at hx
  cases hx <;> cases hs
  rename_i s
  have hb := bounds2_sound (P := P) (w := w) ha hlo hhi (n := s.size) (c := s.size) false (by rw [size_list] at hq; exact hq) hp (Nat.le_refl _)
  have hqle := obound_le hq (Nat.le_refl _)
  rw [← str_extract s p q hqle]
  have hrun : (Instr.sliceAt t (.string s) (lo0.map a.eval) (hi0.map a.eval) none).run P w = .ok (.string (s.extract p q)) w := by
    unfold Instr.sliceAt Instr.slice
    simp [run_underlying ht, hb]
  exact ⟨_, hrun, VRel.str _⟩

theorem slc_sound (hw : WRel ρ B w h) {t el : TypeId} {sz : Nat} (ht : P.underlying t = some (.slice el)) (hsz : tsz P el = some sz) {lo0 hi0 mx0 : Option Value}
    {x : Value} {x' v : IV} (hx : VRel ρ x x') {n p q : Nat} {m : Option Nat} (hn : ilen x' = some n)
    (hb : ∀ c, n ≤ c → (Instr.sliceBounds true n c lo0 hi0 mx0).run P w = .ok (p, q, m.getD c) w) (hv : islc h sz x' p q m = some v) :
    Answers P (Instr.sliceAt t x lo0 hi0 mx0) w ρ v := by
  unfold islc at hv
  split at hv
  · rename_i l i n'
    simp [ilen] at hn
    subst hn
    cases hx with
    | @slice l i n c r hr hn hc hm =>
      split at hv
      · rename_i hcond
        obtain ⟨hpq, hqn, hls⟩ := hcond
        have hrsz : r.sz = sz := by
          have := hw.obj l r hr
          unfold IH.size at hls
          cases ho : h.obj l with
          | dead => rw [ho] at hls; simp at hls
          | rows rs e' sz' ro =>
            rw [ho] at hls this
            simp at hls
            subst hls
            obtain ⟨_, _, _, _, hrel⟩ := this
            exact hrel.hsz
        have hrun : (Instr.sliceAt t (.slice (some ⟨r.block, r.base + i * r.sz, none⟩) n' c) lo0 hi0 mx0).run P w =
            .ok (.slice (if m.getD c = p then some ⟨r.block, r.base + i * r.sz, none⟩ else some ⟨r.block, r.base + (i + p) * r.sz, none⟩) (q - p) (m.getD c - p)) w := by
          simp only [Instr.sliceAt, Instr.slice, run_underlying ht, Sem.run_bind, Result.andThen_ok, hb c hn, run_sizeOf' hsz, Sem.run_pure]
          congr 2
          split
          · rfl
          · simp [addr_add, hrsz, Nat.add_mul, Nat.add_assoc]
        refine ⟨_, hrun, ?_⟩
        cases m with
        | none =>
          simp only at hv
          obtain rfl := Option.some.inj hv
          simp only [Option.getD_none]
          by_cases hqp : q = p
          · subst hqp
            rw [Nat.sub_self, if_pos rfl]
            split <;> exact .eslice (fun h => by cases h) (by omega)
          · rw [if_neg hqp, if_neg (by omega)]
            exact .slice hr (by omega) (by omega) (by omega)
        | some m =>
          simp only at hv
          split at hv
          · rename_i hmm
            obtain rfl := Option.some.inj hv
            simp only [Option.getD_some]
            by_cases hqp : q = p
            · subst hqp
              rw [Nat.sub_self, if_pos rfl]
              split <;> exact .eslice (fun h => by simp at h; omega) (by omega)
            · rw [if_neg hqp, if_neg (by omega)]
              exact .slice hr (by omega) (by omega) (by omega)
          · cases hv
      · cases hv
  · rename_i z
    simp [ilen] at hn
    subst hn
    cases hx with
    | @eslice ad c z hz hc =>
      split at hv
      · rename_i hcond
        obtain ⟨rfl, rfl, hm⟩ := hcond
        obtain rfl := Option.some.inj hv
        have hrun : ∃ ad', (Instr.sliceAt t (.slice (some ad) 0 c) lo0 hi0 mx0).run P w = .ok (.slice (some ad') 0 (m.getD c)) w := by
          simp only [Instr.sliceAt, Instr.slice, run_underlying ht, Sem.run_bind, Result.andThen_ok, hb c (Nat.zero_le _), run_sizeOf' hsz, Sem.run_pure]
          split
          · exact ⟨_, rfl⟩
          · exact ⟨_, rfl⟩
        obtain ⟨ad', hrun⟩ := hrun
        refine ⟨_, hrun, ?_⟩
        rcases hm with rfl | rfl
        · simp only [Option.getD_none, Option.isSome_none, Bool.or_false]; exact .eslice hz hc
        · simp only [Option.getD_some]; exact .eslice (fun _ => rfl) (Nat.zero_le _)
      · cases hv
  · simp [ilen] at hn
    subst hn
    cases hx
    split at hv
    · rename_i hcond
      obtain ⟨rfl, rfl, hm⟩ := hcond
      obtain rfl := Option.some.inj hv
      have hm0 : m.getD 0 = 0 := by rcases hm with rfl | rfl <;> rfl
      refine ⟨.slice none 0 0, ?_, VRel.nilslice⟩
      have h0 := hb 0 (Nat.le_refl _)
      rw [hm0] at h0
      simp [Instr.sliceAt, Instr.slice, run_underlying ht, h0, run_sizeOf' hsz]
    · cases hv
  · cases hv

end
end Go.IW
