import Derived.Test.YtcmcfmgabafljaaDoorER
set_option linter.unusedSimpArgs false
set_option linter.unusedVariables false
namespace Go.Proofs.YtcmcfmgabafljaaDoor
open Go Go.IW

/-! Pieces that are taken one behind another: what is left, and the piece, by the place. -/
def restD (bs : List UInt8) (n : Nat) : List UInt8 × Bool := if bs.length < n then ([], true) else (bs.drop n, false)
def pieceD (bs : List UInt8) (n k : Nat) : List UInt8 := if bs.length < n + k then List.replicate (min k 8) 0 else (bs.drop n).take k
theorem takeD_rest (bs : List UInt8) (n k : Nat) : takeD (restD bs n).1 (restD bs n).2 k = (pieceD bs n k, (restD bs (n + k)).1, (restD bs (n + k)).2) := by
  unfold restD
  by_cases h : bs.length < n
  · rw [if_pos h]
    have h2 : bs.length < n + k := by omega
    unfold pieceD
    rw [if_pos h2, if_pos h2]
    cases k with
    | zero => rfl
    | succ k => exact if_pos (Nat.zero_lt_succ k)
  · rw [if_neg h]
    by_cases h2 : bs.length < n + k
    · unfold pieceD
      rw [if_pos h2, if_pos h2]
      exact if_pos (by rw [List.length_drop]; omega)
    · unfold pieceD
      rw [if_neg h2, if_neg h2]
      refine (takeD_long (by rw [List.length_drop]; omega)).trans ?_
      rw [List.drop_drop]
theorem restD_len (bs : List UInt8) (n : Nat) : (restD bs n).1.length ≤ bs.length := by unfold restD; split <;> simp
theorem pieceD_le (bs : List UInt8) (n k : Nat) : (pieceD bs n k).length ≤ k := by unfold pieceD; split <;> simp <;> omega
theorem pieceD_long {bs : List UInt8} {n k : Nat} (h : n + k ≤ bs.length) : pieceD bs n k = (bs.take (n + k)).drop n := by
  unfold pieceD
  rw [if_neg (by omega), List.drop_take]
  congr 1; omega
theorem pieceD_one {bs : List UInt8} {n : Nat} (h : n < bs.length) : pieceD bs n 1 = [bs.getD n 0] := by
  unfold pieceD
  rw [if_neg (by omega), drop_at h]; rfl
theorem pieceD_short1 {bs : List UInt8} {n : Nat} (h : bs.length ≤ n) : pieceD bs n 1 = [0] := by
  unfold pieceD
  rw [if_pos (by omega)]; rfl
def AtB (h : IH) (p : Nat) (bs : List UInt8) (n : Nat) : Prop := BitesAt h p (restD bs n).1 (restD bs n).2
theorem AtB.ext {h h' : IH} {p n : Nat} {bs : List UInt8} (b : AtB h p bs n) (e : Ext h h') : AtB h' p bs n := BitesAt.ext b e
theorem AtB.other {h : IH} {p q e sz n : Nat} {bs : List UInt8} {ro : Bool} {rs : List (List IV)} {o : IObj} (b : AtB h p bs n) (hq : p ≠ q) (ho : h.obj q = .rows rs e sz ro) (h1 : 1 ≠ sz) : AtB (h.set q o) p bs n := BitesAt.other b hq ho h1
theorem AtB.turn {lo hi : Nat} {h h' : IH} {p n el sz : Nat} {bs : List UInt8} {w : IV} {rs : List (List IV)} (b : AtB h p bs n) (hw : Own lo hi h el sz w rs) (hd : p < lo) (t : Turn w h h') : AtB h' p bs n := BitesAt.turn b hw hd t
theorem AtB.zero {h : IH} {p : Nat} {bs : List UInt8} (b : BitesAt h p bs false) : AtB h p bs 0 := by
  have : restD bs 0 = (bs, false) := by unfold restD; rw [if_neg (by omega)]; rfl
  unfold AtB
  rw [this]; exact b

set_option maxRecDepth 20000 in
theorem numAt_c (h : IH) (p n k : Nat) (bs : List UInt8) (hb : AtB h p bs n) (hk : k ≤ 7) (hl : bs.length ≤ 1048576) :
    ICalls Tryd.prog 66 [.ptr p 0 0, .int .i64 k] h fun r h' => r = .int .i64 (numB (pieceD bs n k)) ∧ AtB h' p bs (n + k) ∧ But p .nilslice h h' := by
  refine (num_c h p k _ _ hb hk (Nat.le_trans (restD_len bs n) hl)).mono ?_
  rintro r h' ⟨rfl, b, U⟩
  rw [takeD_rest] at b ⊢
  exact ⟨rfl, b, U⟩
set_option maxRecDepth 20000 in
theorem takeAt_c (h : IH) (p n k : Nat) (bs : List UInt8) (hb : AtB h p bs n) (hk : k ≤ 255) (hl : bs.length ≤ 1048576) :
    ICalls Tryd.prog 67 [.ptr p 0 0, .int .i64 k] h fun r h' => SlR h' 1 r (strRows (pieceD bs n k)) ∧ AtB h' p bs (n + k) ∧ But p .nilslice h h' := by
  refine (take_c h p k _ _ hb hk (Nat.le_trans (restD_len bs n) hl)).mono ?_
  rintro r h' ⟨s, b, U⟩
  rw [takeD_rest] at s b
  exact ⟨s, b, U⟩
def codeAt (bs : List UInt8) (n : Nat) (kind want : Int) (nm : List UInt8) : Int := if bs.length < n then 2 else if n < bs.length then 5 else if kind ≠ want then 9 else if okName nm = true then 0 else 6
set_option maxRecDepth 20000 in
theorem codeAt_c (h : IH) (p n : Nat) (bs : List UInt8) (kind want : Int) (nm : List UInt8) (hb : AtB h p bs n) (hl : bs.length ≤ 1048576) (hnl : nm.length ≤ 1048576) :
    ICalls Tryd.prog 68 [.ptr p 0 0, .int .i64 kind, .int .i64 want, .str nm] h fun r h' => r = .int .i64 (codeAt bs n kind want nm) ∧ Ext h h' := by
  refine (code_c h p _ _ kind want nm hb (Nat.le_trans (restD_len bs n) hl) hnl).mono ?_
  rintro r h' ⟨rfl, E⟩
  refine ⟨?_, E⟩
  congr 1
  unfold codeAt restD
  by_cases h1 : bs.length < n
  · rw [if_pos h1, if_pos h1]; rfl
  · rw [if_neg h1, if_neg h1]
    simp only [Bool.false_eq_true, if_false, List.length_drop]
    by_cases h2 : n < bs.length
    · rw [if_pos h2, if_pos (by omega)]
    · rw [if_neg h2, if_neg (by omega)]
theorem ownBut {lo hi : Nat} {h h' : IH} {el sz p : Nat} {v : IV} {rs : List (List IV)} (o : Own lo hi h el sz v rs) (t : But p .nilslice h h') (hp : p < lo ∨ hi ≤ p) : Own lo hi h' el sz v rs := by
  rcases o with h0 | ⟨l, h0, rfl, h1, h2, h3, h4⟩
  · exact .inl h0
  · exact .inr ⟨l, h0, rfl, h1, h2, Nat.le_trans h3 t.le, (t.obj l (by omega) (by omega) (nil_at l)).trans h4⟩
theorem codeAt_zero {bs : List UInt8} {n : Nat} {kind want : Int} {nm : List UInt8} (h : codeAt bs n kind want nm = 0) : okName nm = true := by
  unfold codeAt at h
  split at h
  · omega
  · split at h
    · omega
    · split at h
      · omega
      · split at h
        · assumption
        · omega
end Go.Proofs.YtcmcfmgabafljaaDoor
