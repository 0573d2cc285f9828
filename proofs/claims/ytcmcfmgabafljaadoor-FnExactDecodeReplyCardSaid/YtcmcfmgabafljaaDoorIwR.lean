/- Slices as lists of rows: words for contracts. -/
import Derived.Test.YtcmcfmgabafljaaDoorIwQ
set_option linter.unusedVariables false
set_option linter.unusedSimpArgs false
namespace Go.IW
open Go.RowKit

/-- A slice of any kind, read as rows. -/
theorem wr64 (n : Int) (h : -9223372036854775808 ≤ n ∧ n ≤ 9223372036854775807) : wr .i64 n = n := by
  unfold wr; rw [IntKind.wrap_i64]; omega
/-- `k + 1` of a counter that stays small -/
theorem wr64_succ (k : Nat) (h : k < 4611686018427387904) : IV.int .i64 (wr .i64 ((k : Int) + 1)) = .int .i64 ((k + 1 : Nat) : Int) := by
  rw [wr64 _ (by omega)]; rfl

/-! Heaps written out as pushes. -/
theorem push_obj (h : IH) (o : IObj) (l : Nat) : (h.push o).obj l = if l = h.n then o else h.obj l := rfl
theorem set_obj (h : IH) (m : Nat) (o : IObj) (l : Nat) : (h.set m o).obj l = if l = m then o else h.obj l := rfl
theorem set_push {h : IH} {l : Nat} (hl : (l = h.n) = True) (a o : IObj) : (h.push a).set l o = h.push o := by
  have hl := of_eq_true hl
  subst hl
  unfold IH.set IH.push
  simp only [IH.mk.injEq, true_and]
  funext l
  split <;> rfl
theorem set_push_ne {h : IH} {l : Nat} (hl : (l = h.n) = False) (a o : IObj) : (h.push a).set l o = (h.set l o).push a := by
  unfold IH.set IH.push
  simp only [IH.mk.injEq, true_and]
  funext m
  by_cases h1 : m = l
  · subst h1; simp [hl]
  · simp [h1]
theorem set_set (h : IH) (l : Nat) (a o : IObj) : (h.set l a).set l o = h.set l o := by
  unfold IH.set
  simp only [IH.mk.injEq, true_and]
  funext m
  split <;> rfl

/-! Stores and boxes whose rows are written out. -/
theorem one_eslice (z : Bool) : (IV.eslice z).one = true := nr rfl
theorem stO_1s {k l : Nat} {c : IV} {row : List IV} {el sz : Nat} {h : IH} {K : HoldK} (h2 : k < row.length) (h3 : c.one = true) :
    @stO 1 0 k [c] l (.rows [row] el sz false) h K = K.k (.tuple []) (h.set l (.rows [row.set k c] el sz false)) := by
  unfold stO
  simp only [List.getElem?_cons_zero, List.length_singleton, List.all_cons, List.all_nil, h3, Bool.and_true, List.set_cons_zero, true_and, wrt, Nat.succ_le_of_lt h2]
theorem stO_ws {n l : Nat} {cs row : List IV} {el sz : Nat} {h : IH} {K : HoldK} (h0 : cs.length = n) (h1 : row.length = n) (h3 : cs.all IV.one = true) :
    @stO n 0 0 cs l (.rows [row] el sz false) h K = K.k (.tuple []) (h.set l (.rows [cs] el sz false)) := by
  have hw : wrt row 0 cs = cs := by
    rw [wrt_eq _ _ _ (by omega), List.take_zero, List.nil_append, List.drop_eq_nil_of_le (by omega), List.append_nil]
  unfold stO
  simp only [List.getElem?_cons_zero, h0, h3, List.set_cons_zero, true_and, hw, Nat.zero_add, h1, Nat.le_refl]
theorem boxA_s {cs : List IV} {el sz : Nat} {h : IH} {K : HoldK} (h0 : cs.length = sz) (h1 : cs.all IV.one = true) : @boxA cs el sz h K = K.k (.ptr h.n 0 0) (h.push (.rows [cs] el sz false)) := by
  unfold boxA
  simp only [h0, h1, true_and]

/-! Regions that draw their order. -/
section
variable {P : Program} {ops : List COp} {bar : List Bool} {anc : List (List Nat)} {done r : List Nat} {i j : Nat} {K : Env → IH → Prop} {e : Env} {h : IH}
@[go_sem ↓] theorem vcD_free (hb : bar.getD i true = false) : vcD P ops bar anc done (i :: r) K e h = vcOp P (ops.getD i default) (vcD P ops bar anc (i :: done) r K) e h := by
  rw [vcD_cons, hb]; rfl
@[go_sem ↓] theorem vcD_bar (hb : bar.getD i true = true) : vcD P ops bar anc done (i :: r) K e h = vcOp P (ops.getD i default) (fun e' h' => againAll ops anc i e' h' done ∧ vcD P ops bar anc (i :: done) r K e' h') e h := by
  rw [vcD_cons, hb]; rfl
@[go_sem ↓] theorem vcT_fin : vcT P ops anc done .fin K e h = K e h := nr rfl
@[go_sem ↓] theorem vcT_stop : vcT P ops anc done .stop K e h = True := nr rfl
@[go_sem ↓] theorem vcT_fl (t : DT) : vcT P ops anc done (.fl i t) K e h = vcOp P (ops.getD i default) (vcT P ops anc (i :: done) t K) e h := nr rfl
@[go_sem ↓] theorem vcT_one (t : DT) : vcT P ops anc done (.br i t .stop) K e h = vcOp P (ops.getD i default) (fun e' h' => againAll ops anc i e' h' done ∧ vcT P ops anc (i :: done) t K e' h') e h := by
  simp only [vcT, and_true]
/-- Each of the two may come first. -/
class HoldO where
  p : Prop
  q : Prop
def either [A : HoldO] : Prop := A.p ∧ A.q
theorem either_of {A : HoldO} (h1 : A.p) (h2 : A.q) : @either A := ⟨h1, h2⟩
@[go_sem ↓] theorem vcT_br (t t2 : DT) (j : Nat) (t3 : DT) : vcT P ops anc done (.br i t (.br j t2 t3)) K e h = @either ⟨vcOp P (ops.getD i default) (fun e' h' => againAll ops anc i e' h' done ∧ vcT P ops anc (i :: done) t K e' h') e h, vcT P ops anc done (.br j t2 t3) K e h⟩ := nr rfl
@[go_sem ↓] theorem againAll_nil : againAll ops anc i e h [] = True := nr rfl
@[go_sem ↓] theorem againAll_anc (hc : (anc.getD i []).contains j = true) : againAll ops anc i e h (j :: r) = againAll ops anc i e h r := by
  simp only [againAll, hc, true_or, true_and]
@[go_sem ↓] theorem againAll_no (hc : (anc.getD i []).contains j = false) : againAll ops anc i e h (j :: r) = (again (ops.getD j default) e h ∧ againAll ops anc i e h r) := by
  simp only [againAll, hc, Bool.false_eq_true, false_or]
@[go_sem] theorem again_x (d : Option Nat) (g : Option (Nat × Bool)) (x : EK) : again ⟨d, g, .x x⟩ e h = True := nr rfl
@[go_sem] theorem again_f (d : Nat) (k : FK) : again ⟨some d, none, .f k⟩ e h = (feval e h k = some (e d)) := nr rfl
end

structure SlR (h : IH) (sz : Nat) (v : IV) (rs : List (List IV)) : Prop where
  src : srcRows h sz v = some rs
  len : ilen v = some rs.length
  lt : ∀ l i n, v = .slice l i n → l < h.n

theorem SlR.one {h : IH} {sz : Nat} {v : IV} {rs : List (List IV)} (hs : SlR h sz v rs) : v.one = true := by
  have := hs.len
  cases v <;> simp [ilen] at this <;> rfl
theorem SlR.cells {h : IH} {sz : Nat} {v : IV} {rs : List (List IV)} (hs : SlR h sz v rs) : v.cells = [v] := by
  have := hs.len
  cases v <;> simp [ilen] at this <;> rfl
theorem SlR.lenF {h : IH} {sz : Nat} {v : IV} {rs : List (List IV)} (hs : SlR h sz v rs) : lenF v = some (.int .i64 rs.length) := by
  unfold IW.lenF; rw [hs.len]; rfl
theorem SlR.nil (h : IH) (sz : Nat) : SlR h sz .nilslice [] := ⟨rfl, rfl, fun _ _ _ h => by cases h⟩
theorem SlR.empty (h : IH) (sz : Nat) (z : Bool) : SlR h sz (.eslice z) [] := ⟨rfl, rfl, fun _ _ _ h => by cases h⟩
theorem SlR.whole {h : IH} {l n e sz : Nat} {rs : List (List IV)} {ro : Bool} (ho : h.obj l = .rows rs e sz ro) (hn : rs.length = n) (hl : l < h.n) : SlR h sz (.slice l 0 n) rs := by
  refine ⟨?_, by simp [ilen, hn], fun _ _ _ h => by cases h; exact hl⟩
  rw [src_sl, ho]; exact srcO_whole hn

theorem srcRows_live {h : IH} {sz l i n : Nat} {rs : List (List IV)} (hs : srcRows h sz (.slice l i n) = some rs) : ∃ rs0 e ro, h.obj l = .rows rs0 e sz ro ∧ i + n ≤ rs0.length ∧ rs = (rs0.drop i).take n := by
  simp only [srcRows] at hs
  split at hs
  · rename_i rs0 e sz' ro ho
    split at hs
    · rename_i hc
      obtain ⟨rfl, hc⟩ := hc
      exact ⟨rs0, e, ro, ho, hc, (Option.some.inj hs).symm⟩
    · cases hs
  · cases hs

theorem SlR.ext {h : IH} {sz : Nat} {v : IV} {rs : List (List IV)} (hs : SlR h sz v rs) {h' : IH} (he : Ext h h') : SlR h' sz v rs := by
  refine ⟨?_, hs.len, fun l i n hv => Nat.lt_of_lt_of_le (hs.lt l i n hv) he.le⟩
  have h1 := hs.src
  cases v with
  | slice l i n =>
    have := he.obj l (hs.lt l i n rfl)
    simp only [srcRows, this] at h1 ⊢
    exact h1
  | nilslice => exact h1
  | eslice z => exact h1
  | _ => simp [srcRows] at h1

/-- An element's place. -/
theorem SlR.at {h : IH} {sz : Nat} {v : IV} {rs : List (List IV)} (hs : SlR h sz v rs) {m : Nat} {row : List IV} (hm : rs[m]? = some row) (k : IntKind) :
    ∃ l j, iadrF h sz v (.int k m) = some (.ptr l j 0) ∧ l < h.n ∧ rowO (h.obj l) j = some row := by
  have hlt : m < rs.length := (List.getElem?_eq_some_iff.1 hm).1
  have h1 := hs.src
  have h2 := hs.len
  cases v with
  | slice l i n =>
    obtain ⟨rs0, e, ro, ho, hc, rfl⟩ := srcRows_live h1
    simp [ilen] at h2
    have hn : m < n := by rw [h2]; simp at hlt ⊢; omega
    refine ⟨l, i + m, ?_, hs.lt _ _ _ rfl, ?_⟩
    · rw [iadrF_of h (by omega) (by omega) (by rw [size_eq, ho]; rfl)]; simp
    · rw [ho, rowO_rows]
      rw [List.getElem?_take, if_pos hn, List.getElem?_drop] at hm
      exact hm
  | nilslice => simp [srcRows] at h1; subst h1; simp at hm
  | eslice z => simp [srcRows] at h1; subst h1; simp at hm
  | _ => simp [srcRows] at h1

theorem cellO_row {o : IObj} {j : Nat} {row : List IV} (hr : rowO o j = some row) (k : Nat) : cellO o j k = row[k]? := by
  cases o with
  | dead => simp [rowO] at hr
  | rows rs e sz ro => simp only [rowO] at hr; simp only [cellO, hr]; try rfl
/-- A copy that fills up. -/
theorem fill_at {α : Type} (xs : List α) (z : α) {k n : Nat} (hn : n = xs.length) (hk : k < n) : (xs.take k ++ List.replicate (n - k) z)[k]? = some z := by
  have h1 : (xs.take k).length = k := by simp; omega
  rw [List.getElem?_append_right (by omega), h1]
  rw [List.getElem?_replicate, if_pos (by omega)]
theorem fill_set {α : Type} (xs : List α) (z x : α) {k n : Nat} (hn : n = xs.length) (hk : xs[k]? = some x) : (xs.take k ++ List.replicate (n - k) z).set k x = xs.take (k + 1) ++ List.replicate (n - (k + 1)) z := by
  have hlt : k < xs.length := (List.getElem?_eq_some_iff.1 hk).1
  have h1 : (xs.take k).length = k := by simp; omega
  have h2 : n - k = (n - (k + 1)) + 1 := by omega
  rw [List.set_append_right _ _ (by omega), h1, Nat.sub_self, h2, List.replicate_succ, List.set_cons_zero, List.take_add_one, hk]
  simp

end Go.IW
