import Derived.Test.YtdpaehdolhdjdaaDoorK2
import Derived.Lib.AppendIntMem
import Derived.Lib.ItoaLen
import Derived.Lib.Join
import Derived.Lib.HexFns
import Derived.Lib.IndexMore
import Derived.Lib.Bytes
import Derived.WalkSmall
import Derived.SizedLaws
import Derived.Shelf.Vars
set_option linter.unusedSimpArgs false
set_option linter.unusedVariables false
namespace Go.IW
open Go Go.RowKit
variable {P : Program}

theorem rep_at {α : Type} (xs : List α) (z : α) {m n : Nat} (hn : xs.length = n) (hm : m ≠ 0) : (xs ++ List.replicate m z)[n]? = some z := by
  subst hn
  rw [List.getElem?_append_right (Nat.le_refl _), Nat.sub_self, List.getElem?_replicate, if_pos (by omega)]
theorem rep_set {α : Type} (xs : List α) (z x : α) {m n : Nat} (hn : xs.length = n) (hm : m ≠ 0) : (xs ++ List.replicate m z).set n x = (xs ++ [x]) ++ List.replicate (m - 1) z := by
  subst hn
  obtain ⟨m, rfl⟩ : ∃ k, m = k + 1 := ⟨m - 1, by omega⟩
  rw [List.set_append_right _ _ (Nat.le_refl _), Nat.sub_self, List.replicate_succ, List.set_cons_zero]
  simp
/-- A load of an element. -/
theorem ldT_row {t : Ty} {h : IH} {p j : Nat} {cs : List IV} {x : CX} {en : Env} (hx : x.ev en = .ptr p j 0) (ho : rowO (h.obj p) j = some cs) (hl : cs.length = t.sz) :
    feval en h (ldT t x) = some (t.pk cs) := by
  cases ht : t.one
  · simp only [ldT, ht, fe_ldA, hx, ldAF_ptr, row_eq, ho, pk_agg ht, Bool.false_eq_true, if_false]
    exact rowA_whole _ _ hl
  · rw [one_sz ht] at hl
    match cs, hl with
    | [v], _ =>
      simp only [ldT, ht, fe_ld, hx, ldF_ptr, cell_eq, cellO_row ho, List.getElem?_cons_zero, pk_one ht, if_true]

/-- .. cell by cell. -/
def toSlI (el b : Nat) (z : List IV) : CC :=
 (.seq (.reg [
   ⟨(some 2), none, .f (.mv (.c .nilslice))⟩])
 (.seq (.reg [
   ⟨(some 5), none, .f (.mv (.t 0))⟩,
   ⟨(some 6), none, .f (.len (.t 5))⟩,
   ⟨(some 7), none, .x (.mks el 1 b z (.t 6) (.t 6))⟩,
   ⟨(some 3), none, .f (.mv (.t 7))⟩])
 (.seq (.seq (.reg [
   ⟨(some 4), none, .f (.mv (.c (.int .i64 0)))⟩])
 (.block 0 (.loop (.seq (.seq (.reg [
     ⟨(some 8), none, .f (.mv (.t 4))⟩,
     ⟨(some 9), none, .f (.mv (.t 0))⟩,
     ⟨(some 10), none, .f (.len (.t 9))⟩,
     ⟨(some 11), none, .f (.bin .lss (.t 8) (.t 10))⟩])
   (.cond (.t 11)
    .skip
    (.exit 0)))
   (.seq (.block 1 (.reg [
      ⟨(some 14), none, .f (.mv (.t 3))⟩,
      ⟨(some 15), none, .f (.mv (.t 4))⟩,
      ⟨(some 16), none, .f (.mv (.t 0))⟩,
      ⟨(some 17), none, .f (.mv (.t 4))⟩,
      ⟨(some 18), none, .f (.iadr 1 (.t 16) (.t 17))⟩,
      ⟨(some 19), none, .f (.ld (.t 18))⟩,
      ⟨(some 20), none, .f (.iadr 1 (.t 14) (.t 15))⟩,
      ⟨none, none, .x (.st 1 (.t 20) (.t 19))⟩]))
   (.reg [
     ⟨(some 12), none, .f (.mv (.t 4))⟩,
     ⟨(some 13), none, .f (.bin .add (.t 12) (.c (.int .i64 1)))⟩,
     ⟨(some 4), none, .f (.mv (.t 13))⟩]))))))
 (.seq (.reg [
   ⟨(some 21), none, .f (.mv (.t 3))⟩,
   ⟨(some 2), none, .f (.mv (.t 21))⟩])
 .ret))))

/-- What a loop of copying has made of its slice so far. -/
structure Made (h g : IH) (el : Nat) (ty : Ty) (z : List IV) (ds : List Dat) (k : Nat) : Prop where
  ext : Ext h g
  lt : h.n < g.n
  made : ∃ rs fs, g.obj h.n = .rows (rs ++ List.replicate (ds.length - k) z) el ty.sz false ∧ All3 (Ro g ty) rs (ds.take k) fs ∧ fs.Nodup ∧ ∀ l ∈ fs, h.n < l ∧ l < g.n
theorem Made.next {h g g2 : IH} {el : Nat} {ty : Ty} {z : List IV} {ds : List Dat} {k : Nat} (m : Made h g el ty z ds k) {d : Dat} (hd : ds[k]? = some d) {cs : List IV} (o : Ow g.n g2.n g2 ty cs d) (E : Ext g g2) (hz : z.length = ty.sz) {n : Nat} (hn : n = ty.sz) {K : HoldK}
    (hK : ∀ g3, Made h g3 el ty z ds (k + 1) → K.k (.tuple []) g3) : @stO n k 0 cs h.n (g2.obj h.n) g2 K := by
  subst hn
  obtain ⟨rs, fs, h1, h2, h3, h4⟩ := m.made
  have hk := (List.getElem?_eq_some_iff.1 hd).1
  have hrl : rs.length = k := by rw [h2.len, List.length_take]; omega
  have hcl := o.len
  have hle := E.le
  have hlt := m.lt
  rw [(E.obj _ m.lt).trans h1]
  refine stO_of (row := z) (rep_at _ _ hrl (by omega)) hcl (by omega) o.one ?_
  rw [wrt_all (by omega), rep_set _ _ _ hrl (by omega), show ds.length - k - 1 = ds.length - (k + 1) by omega]
  refine hK _ ⟨(m.ext.trans E).set _ (Nat.le_refl _) _, by show h.n < g2.n; omega, ?_⟩
  obtain ⟨⟨gs, a, b, c⟩, _⟩ := o
  refine ⟨rs ++ [cs], fs ++ gs, set_here _ _ _, ?_, ?_, ?_⟩
  · rw [List.take_add_one, hd]
    refine All3.app ?_ ?_
    · refine h2.mono fun a b f hf x => ?_
      refine x.same (by rw [set_n]; exact hle) fun l hl => ?_
      have := h4 l (hf l hl)
      rw [set_there _ _ _ _ (by omega)]
      exact E.obj l this.2
    · refine All3.one ?_
      refine a.same (by rw [set_n]; exact Nat.le_refl _) fun l hl => ?_
      have := c l hl
      exact set_there _ _ _ _ (by omega)
  · refine List.nodup_append.2 ⟨h3, b, fun x hx y hy e => ?_⟩
    subst e
    have := h4 x hx; have := c x hy; omega
  · intro l hl
    show h.n < l ∧ l < g2.n
    rcases List.mem_append.1 hl with hl | hl
    · have := h4 l hl; omega
    · have := c l hl; omega
theorem Made.zero {h : IH} {el : Nat} {ty : Ty} {z : List IV} {ds : List Dat} : Made h (h.push (.rows (List.replicate ds.length z) el ty.sz false)) el ty z ds 0 :=
  ⟨(Ext.refl _).push _, Nat.lt_succ_self _, [], [], by rw [push_new]; rfl, .nil, List.nodup_nil, by simp⟩
theorem Made.done {h g : IH} {el : Nat} {ty : Ty} {z : List IV} {ds : List Dat} (m : Made h g el ty z ds ds.length) (h0 : ds ≠ []) : Ow h.n g.n g (.slice el ty) [.slice h.n 0 ds.length] (.list ds) := by
  obtain ⟨rs, fs, h1, h2, h3, h4⟩ := m.made
  rw [List.take_length] at h2
  rw [Nat.sub_self, List.replicate_zero, List.append_nil] at h1
  refine ⟨⟨h.n :: fs, ⟨_, _, rfl, rfl, .inr ⟨h.n, rs, fs, h0, rfl, m.lt, h1, rfl, h2⟩⟩, ?_, ?_⟩, Nat.le_refl _⟩
  · refine List.nodup_cons.2 ⟨fun hm => ?_, h3⟩
    have := h4 _ hm; omega
  · intro l hl
    have := m.lt
    rcases List.mem_cons.1 hl with rfl | hl
    · omega
    · have := h4 l hl; omega
theorem ow_empty {h : IH} {lo hi el : Nat} {ty : Ty} (hh : hi ≤ h.n) : Ow lo hi h (.slice el ty) [.eslice true] (.list []) :=
  Ow.flat rfl ⟨_, _, rfl, rfl, .inl ⟨rfl, rfl, .inr rfl⟩⟩ hh
set_option maxRecDepth 20000 in
theorem toSlI_calls {f el b : Nat} {ty : Ty} {z : List IV} (hf : fnComp P f = some (22, toSlI el b z, [.mv (.t 2)])) (hz : z.length = 1) (hb : b ≤ 134217728) (hg : ty.scal = true) : ToC P f (.slice el ty) := by
  intro h cs d hv hd
  obtain ⟨v, rs, ds, rfl, rfl, hs, hS, hall⟩ := hv
  rw [pk_one rfl]
  refine icalls (.of hf) (Nat.le_of_ble_eq_true rfl) ?_
  unfold toSlI
  have hsz := scal_sz hg
  have hv1 := hs.one
  have hlen := hs.lenF
  have hrl := hall.len
  rw [hrl] at hlen
  simp only [Dat.tot] at hd
  simp only [hv1, hlen, go_sem, Hold.p, HoldK.k, HoldL.K, HoldL.body, Nat.reduceBEq, Nat.reduceAdd, List.getElem?_cons_zero, List.getElem?_cons_succ, Option.bind_some, List.map_cons, List.map_nil, Nat.zero_add, if_true, List.getD_cons_zero, List.getD_cons_succ, List.contains_cons, List.contains_nil, Nat.reduceBEq, Bool.or_true, Bool.true_or, Bool.or_false, Bool.false_or, Bool.not_true, Bool.not_false, true_and, and_true]
  by_cases h0 : ds.length = 0
  · have hds : ds = [] := List.length_eq_zero_iff.1 h0
    subst hds
    refine mksA_0 ?_
    simp only [hv1, hlen, go_sem, Hold.p, HoldK.k, HoldL.K, HoldL.body, Nat.reduceBEq, Nat.reduceAdd, List.getElem?_cons_zero, List.getElem?_cons_succ, Option.bind_some, List.map_cons, List.map_nil, Nat.zero_add, if_true, List.getD_cons_zero, List.getD_cons_succ, List.contains_cons, List.contains_nil, Nat.reduceBEq, Bool.or_true, Bool.true_or, Bool.or_false, Bool.false_or, Bool.not_true, Bool.not_false, true_and, and_true]
    refine loop_at (fun n e h' => n = 0 ∧ h' = h ∧ e 0 = v ∧ e 3 = .eslice true ∧ e 4 = .int .i64 0) 0 ?_ ?_
    · simp only [go_sem, Hold.p, HoldK.k, HoldL.K, HoldL.body, Nat.reduceBEq, Nat.reduceAdd, List.getElem?_cons_zero, List.getElem?_cons_succ, Option.bind_some, List.map_cons, List.map_nil, Nat.zero_add, if_true, List.getD_cons_zero, List.getD_cons_succ, List.contains_cons, List.contains_nil, Nat.reduceBEq, Bool.or_true, Bool.true_or, Bool.or_false, Bool.false_or, Bool.not_true, Bool.not_false, true_and, and_true]
    · rintro n e h' ⟨rfl, rfl, e0, e3, e4⟩
      simp only [e0, e3, e4, hlen, go_sem, Hold.p, HoldK.k, HoldL.K, HoldL.body, Nat.reduceBEq, Nat.reduceAdd, List.getElem?_cons_zero, List.getElem?_cons_succ, Option.bind_some, List.map_cons, List.map_nil, Nat.zero_add, if_true, List.getD_cons_zero, List.getD_cons_succ, List.contains_cons, List.contains_nil, Nat.reduceBEq, Bool.or_true, Bool.true_or, Bool.or_false, Bool.false_or, Bool.not_true, Bool.not_false, true_and, and_true]
      refine test_dec (fun hb => absurd hb (by simp)) (fun _ => ?_)
      simp only [e0, e3, e4, hlen, go_sem, Hold.p, HoldK.k, HoldL.K, HoldL.body, Nat.reduceBEq, Nat.reduceAdd, List.getElem?_cons_zero, List.getElem?_cons_succ, Option.bind_some, List.map_cons, List.map_nil, Nat.zero_add, if_true, List.getD_cons_zero, List.getD_cons_succ, List.contains_cons, List.contains_nil, Nat.reduceBEq, Bool.or_true, Bool.true_or, Bool.or_false, Bool.false_or, Bool.not_true, Bool.not_false, true_and, and_true]
      exact ⟨[.eslice true], (pk_one rfl).symm, ow_empty (Nat.le_refl _), Ext.refl _⟩
  · have hbn : b * ds.length ≤ 140737488355328 := by
      have : b * ds.length ≤ 134217728 * 1048576 := Nat.mul_le_mul hb (by omega)
      omega
    refine mksA_of h0 hbn (by omega) ?_
    simp only [go_sem, Hold.p, HoldK.k, HoldL.K, HoldL.body, Nat.reduceBEq, Nat.reduceAdd, List.getElem?_cons_zero, List.getElem?_cons_succ, Option.bind_some, List.map_cons, List.map_nil, Nat.zero_add, if_true, List.getD_cons_zero, List.getD_cons_succ, List.contains_cons, List.contains_nil, Nat.reduceBEq, Bool.or_true, Bool.true_or, Bool.or_false, Bool.false_or, Bool.not_true, Bool.not_false, true_and, and_true]
    refine loop_at (fun n e h' => ∃ k, n = ds.length - k ∧ k ≤ ds.length ∧ e 0 = v ∧ e 3 = .slice h.n 0 ds.length ∧ e 4 = .int .i64 (k : Nat) ∧ Made h h' el ty z ds k) ds.length ?_ ?_
    · refine ⟨0, by omega, by omega, ?_⟩
      simp only [go_sem, Hold.p, HoldK.k, HoldL.K, HoldL.body, Nat.reduceBEq, Nat.reduceAdd, List.getElem?_cons_zero, List.getElem?_cons_succ, Option.bind_some, List.map_cons, List.map_nil, Nat.zero_add, if_true, List.getD_cons_zero, List.getD_cons_succ, List.contains_cons, List.contains_nil, Nat.reduceBEq, Bool.or_true, Bool.true_or, Bool.or_false, Bool.false_or, Bool.not_true, Bool.not_false, true_and, and_true, rowA_whole, push_n, set_n, push_obj, set_obj, set_push, set_push_ne, set_set, Nat.add_assoc, Nat.left_eq_add, Nat.add_eq_left, Nat.add_left_cancel_iff, Nat.reduceEqDiff, stO_1s, stO_ws, boxA_s, one_bool, one_int, one_str, one_ptr, one_nilptr, one_slice, one_eslice, one_nilslice, one_func, one_iface, one_niliface, List.all_cons, List.all_nil, List.length_cons, List.length_nil, Nat.reduceLT, Nat.reduceEqDiff, Nat.reduceLeDiff, Bool.and_true, Nat.one_ne_zero, Nat.succ_ne_zero, reduceIte, if_false, List.getElem?_cons_zero, List.set_cons_zero, List.set_cons_succ]
      have := Made.zero (h := h) (el := el) (ty := ty) (z := z) (ds := ds)
      rw [hsz] at this
      exact ⟨rfl, this⟩
    · rintro n e h' ⟨k, rfl, hk, e0, e3, e4, M⟩
      simp only [e0, e3, e4, hlen, go_sem, Hold.p, HoldK.k, HoldL.K, HoldL.body, Nat.reduceBEq, Nat.reduceAdd, List.getElem?_cons_zero, List.getElem?_cons_succ, Option.bind_some, List.map_cons, List.map_nil, Nat.zero_add, if_true, List.getD_cons_zero, List.getD_cons_succ, List.contains_cons, List.contains_nil, Nat.reduceBEq, Bool.or_true, Bool.true_or, Bool.or_false, Bool.false_or, Bool.not_true, Bool.not_false, true_and, and_true]
      refine test_dec (fun hb => ?_) (fun hb => ?_)
      · have hlt' : k < ds.length := by omega
        have hkd : ds[k]? = some ds[k] := List.getElem?_eq_getElem hlt'
        have hmem : ds[k] ∈ ds := List.getElem_mem hlt'
        generalize ds[k] = x at hkd hmem
        obtain ⟨r, hkr, hx⟩ := hall.at hkd
        obtain ⟨y, rfl, hy, hro⟩ := scal_view hg hx
        obtain ⟨l, j, hia, hll, hrow⟩ := (hs.ext M.ext).at (m := k) hkr .i64
        rw [hsz] at hia
        have hc := cellO_row hrow
        obtain ⟨rs0, fs0, hob, _⟩ := M.made
        have hia2 : iadrF h' 1 (.slice h.n 0 ds.length) (.int .i64 k) = some (.ptr h.n k 0) := by
          rw [iadrF_nat hlt' (by rw [hob, hsz]; rfl), Nat.zero_add]
        simp only [hia, hia2, e0, e3, e4, hc, one_cells hy, go_sem, Hold.p, HoldK.k, HoldL.K, HoldL.body, Nat.reduceBEq, Nat.reduceAdd, List.getElem?_cons_zero, List.getElem?_cons_succ, Option.bind_some, List.map_cons, List.map_nil, Nat.zero_add, if_true, List.getD_cons_zero, List.getD_cons_succ, List.contains_cons, List.contains_nil, Nat.reduceBEq, Bool.or_true, Bool.true_or, Bool.or_false, Bool.false_or, Bool.not_true, Bool.not_false, true_and, and_true]
        refine M.next (g2 := h') hkd (Ow.flat (lo := h'.n) (hi := h'.n) rfl (hro h') (Nat.le_refl _)) (Ext.refl _) (by rw [hsz]; exact hz) hsz.symm fun g3 M3 => ?_
        simp only [e0, e3, e4, go_sem, Hold.p, HoldK.k, HoldL.K, HoldL.body, Nat.reduceBEq, Nat.reduceAdd, List.getElem?_cons_zero, List.getElem?_cons_succ, Option.bind_some, List.map_cons, List.map_nil, Nat.zero_add, if_true, List.getD_cons_zero, List.getD_cons_succ, List.contains_cons, List.contains_nil, Nat.reduceBEq, Bool.or_true, Bool.true_or, Bool.or_false, Bool.false_or, Bool.not_true, Bool.not_false, true_and, and_true]
        exact ⟨_, by omega, k + 1, rfl, by omega, wr64_succ k (by omega), M3⟩
      · simp only [e0, e3, e4, hlen, go_sem, Hold.p, HoldK.k, HoldL.K, HoldL.body, Nat.reduceBEq, Nat.reduceAdd, List.getElem?_cons_zero, List.getElem?_cons_succ, Option.bind_some, List.map_cons, List.map_nil, Nat.zero_add, if_true, List.getD_cons_zero, List.getD_cons_succ, List.contains_cons, List.contains_nil, Nat.reduceBEq, Bool.or_true, Bool.true_or, Bool.or_false, Bool.false_or, Bool.not_true, Bool.not_false, true_and, and_true]
        obtain rfl : k = ds.length := by omega
        exact ⟨[.slice h.n 0 ds.length], (pk_one rfl).symm, M.done (fun e => h0 (by rw [e]; rfl)), M.ext⟩
end Go.IW

namespace Go.IW
open Go Go.RowKit
variable {P : Program}

/-- The code of a comparison of two slices: element by element through a call. -/
def eqSlC (g : Nat) (ty : Ty) : CC :=
 (.seq (.reg [
   ⟨(some 4), none, .f (.mv (.c (.bool false)))⟩])
 (.seq (.seq (.reg [
   ⟨(some 6), none, .f (.mv (.t 0))⟩,
   ⟨(some 7), none, .f (.len (.t 6))⟩,
   ⟨(some 8), none, .f (.mv (.t 1))⟩,
   ⟨(some 9), none, .f (.len (.t 8))⟩,
   ⟨(some 10), none, .f (.bin .neq (.t 7) (.t 9))⟩])
 (.cond (.t 10)
  (.seq (.reg [
    ⟨(some 4), none, .f (.mv (.c (.bool false)))⟩])
  .ret)
  .skip))
 (.seq (.seq (.reg [
   ⟨(some 5), none, .f (.mv (.c (.int .i64 0)))⟩])
 (.block 0 (.loop (.seq (.seq (.reg [
     ⟨(some 11), none, .f (.mv (.t 5))⟩,
     ⟨(some 12), none, .f (.mv (.t 0))⟩,
     ⟨(some 13), none, .f (.len (.t 12))⟩,
     ⟨(some 14), none, .f (.bin .lss (.t 11) (.t 13))⟩])
   (.cond (.t 14)
    .skip
    (.exit 0)))
   (.seq (.block 1 (.seq (.dreg [
      ⟨(some 17), none, .f (.mv (.t 0))⟩,
      ⟨(some 18), none, .f (.mv (.t 5))⟩,
      ⟨(some 19), none, .f (.iadr ty.sz (.t 17) (.t 18))⟩,
      ⟨(some 20), none, .f (ldT ty (.t 19))⟩,
      ⟨(some 21), none, .f (.mv (.t 1))⟩,
      ⟨(some 22), none, .f (.mv (.t 5))⟩,
      ⟨(some 23), none, .f (.iadr ty.sz (.t 21) (.t 22))⟩,
      ⟨(some 24), none, .f (ldT ty (.t 23))⟩,
      ⟨(some 25), none, .x (.call g [(.t 20), (.t 24)])⟩,
      ⟨(some 26), none, .f (.un .not (.t 25))⟩]
      [false, false, false, false, false, false, false, false, true, false] [[], [], [0, 1], [2, 0, 1], [], [], [4, 5], [6, 4, 5], [3, 2, 0, 1, 7, 6, 4, 5], [8, 3, 2, 0, 1, 7, 6, 4, 5]] [0, 1, 2, 3, 4, 5, 6, 7, 8, 9])
    (.cond (.t 26)
     (.seq (.reg [
       ⟨(some 4), none, .f (.mv (.c (.bool false)))⟩])
     .ret)
     .skip)))
   (.reg [
     ⟨(some 15), none, .f (.mv (.t 5))⟩,
     ⟨(some 16), none, .f (.bin .add (.t 15) (.c (.int .i64 1)))⟩,
     ⟨(some 5), none, .f (.mv (.t 16))⟩]))))))
 (.seq (.reg [
   ⟨(some 4), none, .f (.mv (.c (.bool true)))⟩])
 .ret))))
/-- .. cell by cell. -/
def eqSlI (ty : Ty) : CC :=
 (.seq (.reg [
   ⟨(some 4), none, .f (.mv (.c (.bool false)))⟩])
 (.seq (.seq (.reg [
   ⟨(some 6), none, .f (.mv (.t 0))⟩,
   ⟨(some 7), none, .f (.len (.t 6))⟩,
   ⟨(some 8), none, .f (.mv (.t 1))⟩,
   ⟨(some 9), none, .f (.len (.t 8))⟩,
   ⟨(some 10), none, .f (.bin .neq (.t 7) (.t 9))⟩])
 (.cond (.t 10)
  (.seq (.reg [
    ⟨(some 4), none, .f (.mv (.c (.bool false)))⟩])
  .ret)
  .skip))
 (.seq (.seq (.reg [
   ⟨(some 5), none, .f (.mv (.c (.int .i64 0)))⟩])
 (.block 0 (.loop (.seq (.seq (.reg [
     ⟨(some 11), none, .f (.mv (.t 5))⟩,
     ⟨(some 12), none, .f (.mv (.t 0))⟩,
     ⟨(some 13), none, .f (.len (.t 12))⟩,
     ⟨(some 14), none, .f (.bin .lss (.t 11) (.t 13))⟩])
   (.cond (.t 14)
    .skip
    (.exit 0)))
   (.seq (.block 1 (.seq (.dreg [
      ⟨(some 17), none, .f (.mv (.t 0))⟩,
      ⟨(some 18), none, .f (.mv (.t 5))⟩,
      ⟨(some 19), none, .f (.iadr 1 (.t 17) (.t 18))⟩,
      ⟨(some 20), none, .f (.ld (.t 19))⟩,
      ⟨(some 21), none, .f (.mv (.t 1))⟩,
      ⟨(some 22), none, .f (.mv (.t 5))⟩,
      ⟨(some 23), none, .f (.iadr 1 (.t 21) (.t 22))⟩,
      ⟨(some 24), none, .f (.ld (.t 23))⟩,
      ⟨(some 25), none, .f (neT ty (.t 20) (.t 24))⟩]
      [false, false, false, false, false, false, false, false, false] [[], [], [0, 1], [2, 0, 1], [], [], [4, 5], [6, 4, 5], [3, 2, 0, 1, 7, 6, 4, 5]] [0, 1, 2, 3, 4, 5, 6, 7, 8])
    (.cond (.t 25)
     (.seq (.reg [
       ⟨(some 4), none, .f (.mv (.c (.bool false)))⟩])
     .ret)
     .skip)))
   (.reg [
     ⟨(some 15), none, .f (.mv (.t 5))⟩,
     ⟨(some 16), none, .f (.bin .add (.t 15) (.c (.int .i64 1)))⟩,
     ⟨(some 5), none, .f (.mv (.t 16))⟩]))))))
 (.seq (.reg [
   ⟨(some 4), none, .f (.mv (.c (.bool true)))⟩])
 .ret))))
set_option maxRecDepth 20000 in
theorem eqSl_calls {f g el : Nat} {ty : Ty} (hf : fnComp P f = some (27, eqSlC g ty, [.mv (.t 4)])) (hg : EqC P g ty) : EqC P f (.slice el ty) := by
  intro h c1 c2 d hv hw hd
  obtain ⟨v, rs, ds, rfl, rfl, hs, hS, hall⟩ := hv
  obtain ⟨w, rs2, ds2, rfl, hdd, hs2, hS2, hall2⟩ := hw
  cases hdd
  rw [pk_one rfl, pk_one rfl]
  refine icalls (.of hf) (Nat.le_of_ble_eq_true rfl) ?_
  unfold eqSlC
  have hlv := hs.lenF
  have hlw := hs2.lenF
  rw [hall.len] at hlv
  rw [hall2.len] at hlw
  simp only [Dat.tot] at hd
  simp only [hlv, hlw, decide_true, go_sem, Hold.p, HoldK.k, HoldL.K, HoldL.body, Nat.reduceBEq, Nat.reduceAdd, List.getElem?_cons_zero, List.getElem?_cons_succ, Option.bind_some, List.map_cons, List.map_nil, Nat.zero_add, if_true, List.getD_cons_zero, List.getD_cons_succ, List.contains_cons, List.contains_nil, Nat.reduceBEq, Bool.or_true, Bool.true_or, Bool.or_false, Bool.false_or, Bool.not_true, Bool.not_false, true_and, and_true]
  refine loop_at (fun n e h' => ∃ k, n = ds.length - k ∧ k ≤ ds.length ∧ e 0 = v ∧ e 1 = w ∧ e 5 = .int .i64 (k : Nat) ∧ Ext h h') ds.length ?_ ?_
  · refine ⟨0, by omega, by omega, ?_⟩
    simp only [go_sem, Hold.p, HoldK.k, HoldL.K, HoldL.body, Nat.reduceBEq, Nat.reduceAdd, List.getElem?_cons_zero, List.getElem?_cons_succ, Option.bind_some, List.map_cons, List.map_nil, Nat.zero_add, if_true, List.getD_cons_zero, List.getD_cons_succ, List.contains_cons, List.contains_nil, Nat.reduceBEq, Bool.or_true, Bool.true_or, Bool.or_false, Bool.false_or, Bool.not_true, Bool.not_false, true_and, and_true]
    exact ⟨rfl, Ext.refl _⟩
  · rintro n e h' ⟨k, rfl, hk, e0, e1, e5, hE⟩
    simp only [e0, e1, e5, hlv, go_sem, Hold.p, HoldK.k, HoldL.K, HoldL.body, Nat.reduceBEq, Nat.reduceAdd, List.getElem?_cons_zero, List.getElem?_cons_succ, Option.bind_some, List.map_cons, List.map_nil, Nat.zero_add, if_true, List.getD_cons_zero, List.getD_cons_succ, List.contains_cons, List.contains_nil, Nat.reduceBEq, Bool.or_true, Bool.true_or, Bool.or_false, Bool.false_or, Bool.not_true, Bool.not_false, true_and, and_true]
    refine test_dec (fun hb => ?_) (fun hb => ?_)
    · have hlt' : k < ds.length := by omega
      have hkd : ds[k]? = some ds[k] := List.getElem?_eq_getElem hlt'
      have hmem : ds[k] ∈ ds := List.getElem_mem hlt'
      generalize ds[k] = x at hkd hmem
      obtain ⟨r, hkr, hx⟩ := hall.at hkd
      obtain ⟨r2, hkr2, hx2⟩ := hall2.at hkd
      have hx' : Vw 0 h.n h' ty r x := Rp.same hE.le (fun l _ hn => hE.obj l hn) (fun l hl _ => hl) hx
      have hx2' : Vw 0 h.n h' ty r2 x := Rp.same hE.le (fun l _ hn => hE.obj l hn) (fun l hl _ => hl) hx2
      obtain ⟨l, j, hia, hll, hrow⟩ := (hs.ext hE).at (m := k) hkr .i64
      obtain ⟨l2, j2, hia2, hll2, hrow2⟩ := (hs2.ext hE).at (m := k) hkr2 .i64
      have hld : ∀ en : Env, en 19 = .ptr l j 0 → feval en h' (ldT ty (.t 19)) = some (ty.pk r) := fun en he => ldT_row (x := .t 19) (by rw [ev_t, he]) hrow (Rp.len hx)
      have hld2 : ∀ en : Env, en 23 = .ptr l2 j2 0 → feval en h' (ldT ty (.t 23)) = some (ty.pk r2) := fun en he => ldT_row (x := .t 23) (by rw [ev_t, he]) hrow2 (Rp.len hx2)
      have htot := tot_mem hmem
      simp only [hia, hia2, e0, e1, e5, hld, hld2, go_sem, Hold.p, HoldK.k, HoldL.K, HoldL.body, Nat.reduceBEq, Nat.reduceAdd, List.getElem?_cons_zero, List.getElem?_cons_succ, Option.bind_some, List.map_cons, List.map_nil, Nat.zero_add, if_true, List.getD_cons_zero, List.getD_cons_succ, List.contains_cons, List.contains_nil, Nat.reduceBEq, Bool.or_true, Bool.true_or, Bool.or_false, Bool.false_or, Bool.not_true, Bool.not_false, true_and, and_true]
      refine callA_of (hg h' r r2 x (hx'.wide (Nat.le_refl _) hE.le) (hx2'.wide (Nat.le_refl _) hE.le) (by omega)) ?_
      rintro b h2 ⟨rfl, hE2⟩
      simp only [e0, e1, e5, go_sem, Hold.p, HoldK.k, HoldL.K, HoldL.body, Nat.reduceBEq, Nat.reduceAdd, List.getElem?_cons_zero, List.getElem?_cons_succ, Option.bind_some, List.map_cons, List.map_nil, Nat.zero_add, if_true, List.getD_cons_zero, List.getD_cons_succ, List.contains_cons, List.contains_nil, Nat.reduceBEq, Bool.or_true, Bool.true_or, Bool.or_false, Bool.false_or, Bool.not_true, Bool.not_false, true_and, and_true]
      refine ⟨_, ?_, k + 1, rfl, by omega, wr64_succ k (by omega), hE.trans hE2⟩
      omega
    · simp only [e0, e1, e5, go_sem, Hold.p, HoldK.k, HoldL.K, HoldL.body, Nat.reduceBEq, Nat.reduceAdd, List.getElem?_cons_zero, List.getElem?_cons_succ, Option.bind_some, List.map_cons, List.map_nil, Nat.zero_add, if_true, List.getD_cons_zero, List.getD_cons_succ, List.contains_cons, List.contains_nil, Nat.reduceBEq, Bool.or_true, Bool.true_or, Bool.or_false, Bool.false_or, Bool.not_true, Bool.not_false, true_and, and_true]
      exact hE
set_option maxRecDepth 20000 in
theorem eqSlI_calls {f el : Nat} {ty : Ty} (hf : fnComp P f = some (26, eqSlI ty, [.mv (.t 4)])) (hg : ty.scal = true) : EqC P f (.slice el ty) := by
  intro h c1 c2 d hv hw hd
  obtain ⟨v, rs, ds, rfl, rfl, hs, hS, hall⟩ := hv
  obtain ⟨w, rs2, ds2, rfl, hdd, hs2, hS2, hall2⟩ := hw
  cases hdd
  rw [pk_one rfl, pk_one rfl]
  refine icalls (.of hf) (Nat.le_of_ble_eq_true rfl) ?_
  unfold eqSlI
  have hsz := scal_sz hg
  have hlv := hs.lenF
  have hlw := hs2.lenF
  rw [hall.len] at hlv
  rw [hall2.len] at hlw
  simp only [Dat.tot] at hd
  simp only [hlv, hlw, decide_true, go_sem, Hold.p, HoldK.k, HoldL.K, HoldL.body, Nat.reduceBEq, Nat.reduceAdd, List.getElem?_cons_zero, List.getElem?_cons_succ, Option.bind_some, List.map_cons, List.map_nil, Nat.zero_add, if_true, List.getD_cons_zero, List.getD_cons_succ, List.contains_cons, List.contains_nil, Nat.reduceBEq, Bool.or_true, Bool.true_or, Bool.or_false, Bool.false_or, Bool.not_true, Bool.not_false, true_and, and_true]
  refine loop_at (fun n e h' => ∃ k, n = ds.length - k ∧ k ≤ ds.length ∧ e 0 = v ∧ e 1 = w ∧ e 5 = .int .i64 (k : Nat) ∧ h' = h) ds.length ?_ ?_
  · refine ⟨0, by omega, by omega, ?_⟩
    simp only [go_sem, Hold.p, HoldK.k, HoldL.K, HoldL.body, Nat.reduceBEq, Nat.reduceAdd, List.getElem?_cons_zero, List.getElem?_cons_succ, Option.bind_some, List.map_cons, List.map_nil, Nat.zero_add, if_true, List.getD_cons_zero, List.getD_cons_succ, List.contains_cons, List.contains_nil, Nat.reduceBEq, Bool.or_true, Bool.true_or, Bool.or_false, Bool.false_or, Bool.not_true, Bool.not_false, true_and, and_true]
    rfl
  · rintro n e h' ⟨k, rfl, hk, e0, e1, e5, rfl⟩
    simp only [e0, e1, e5, hlv, go_sem, Hold.p, HoldK.k, HoldL.K, HoldL.body, Nat.reduceBEq, Nat.reduceAdd, List.getElem?_cons_zero, List.getElem?_cons_succ, Option.bind_some, List.map_cons, List.map_nil, Nat.zero_add, if_true, List.getD_cons_zero, List.getD_cons_succ, List.contains_cons, List.contains_nil, Nat.reduceBEq, Bool.or_true, Bool.true_or, Bool.or_false, Bool.false_or, Bool.not_true, Bool.not_false, true_and, and_true]
    refine test_dec (fun hb => ?_) (fun hb => ?_)
    · have hlt' : k < ds.length := by omega
      have hkd : ds[k]? = some ds[k] := List.getElem?_eq_getElem hlt'
      generalize ds[k] = x at hkd
      obtain ⟨r, hkr, hx⟩ := hall.at hkd
      obtain ⟨r2, hkr2, hx2⟩ := hall2.at hkd
      obtain ⟨y, rfl, rfl, hy⟩ := scal_same hg hx hx2
      obtain ⟨l, j, hia, hll, hrow⟩ := hs.at (m := k) hkr .i64
      obtain ⟨l2, j2, hia2, hll2, hrow2⟩ := hs2.at (m := k) hkr2 .i64
      rw [hsz] at hia hia2
      have hc := cellO_row hrow
      have hc2 := cellO_row hrow2
      have hne : ∀ en : Env, en 20 = y → en 24 = y → feval en h' (neT ty (.t 20) (.t 24)) = some (.bool false) := by
        intro en a b
        unfold neT
        cases ty <;> first | (cases hg; done) | (simp only [go_sem, a, b]; exact hy)
      simp only [hia, hia2, hc, hc2, e0, e1, e5, hne, go_sem, Hold.p, HoldK.k, HoldL.K, HoldL.body, Nat.reduceBEq, Nat.reduceAdd, List.getElem?_cons_zero, List.getElem?_cons_succ, Option.bind_some, List.map_cons, List.map_nil, Nat.zero_add, if_true, List.getD_cons_zero, List.getD_cons_succ, List.contains_cons, List.contains_nil, Nat.reduceBEq, Bool.or_true, Bool.true_or, Bool.or_false, Bool.false_or, Bool.not_true, Bool.not_false, true_and, and_true]
      exact ⟨_, by omega, k + 1, rfl, by omega, wr64_succ k (by omega)⟩
    · simp only [e0, e1, e5, go_sem, Hold.p, HoldK.k, HoldL.K, HoldL.body, Nat.reduceBEq, Nat.reduceAdd, List.getElem?_cons_zero, List.getElem?_cons_succ, Option.bind_some, List.map_cons, List.map_nil, Nat.zero_add, if_true, List.getD_cons_zero, List.getD_cons_succ, List.contains_cons, List.contains_nil, Nat.reduceBEq, Bool.or_true, Bool.true_or, Bool.or_false, Bool.false_or, Bool.not_true, Bool.not_false, true_and, and_true]
      exact Ext.refl _

end Go.IW

namespace Go.IW
open Go Go.RowKit
variable {P : Program}

/-- A number as a text of marks. -/
def digs : Nat → Nat → List UInt8 → List UInt8
  | 0, _, acc => acc
  | f + 1, n, acc => if n = 0 then acc else digs f (n / 10) (UInt8.ofNat (48 + n % 10) :: acc)
def mtext (n : Nat) : List UInt8 := if n = 0 then [109, 48] else 109 :: digs n n []

mutual
/-- How many marks. -/
def cntE : Ty → Dat → Nat
  | .nil, _ => 0
  | .bool, _ => 1
  | .int _, _ => 1
  | .str, _ => 1
  | .slice _ e, .list l => cntL e l
  | .slice _ _, _ => 0
  | .cat a b, .pair x y => cntE a x + cntE b y
  | .cat _ _, _ => 0
def cntL (e : Ty) : List Dat → Nat
  | [] => 0
  | x :: l => cntE e x + cntL e l
end
mutual
/-- The marks themselves. -/
def mkE : Ty → Dat → Nat → Dat
  | .nil, d, _ => d
  | .bool, _, n => .bool (decide ((n : Int) % 3 = 0))
  | .int k, _, n => .int (wr k n)
  | .str, _, n => .str (mtext n)
  | .slice _ e, .list l, n => .list (mkL e l n)
  | .slice _ _, d, _ => d
  | .cat a b, .pair x y, n => .pair (mkE a x n) (mkE b y (n + cntE a x))
  | .cat _ _, d, _ => d
def mkL (e : Ty) : List Dat → Nat → List Dat
  | [], _ => []
  | x :: l, n => mkE e x n :: mkL e l (n + cntE e x)
end
/-- Of a value that is handed over: its slices alone. -/
def cntW : Ty → Dat → Nat
  | .slice el e, d => cntE (.slice el e) d
  | .cat a b, .pair x y => cntW a x + cntW b y
  | _, _ => 0
def mkW : Ty → Dat → Nat → Dat
  | .slice el e, d, n => mkE (.slice el e) d n
  | .cat a b, .pair x y, n => .pair (mkW a x n) (mkW b y (n + cntW a x))
  | _, d, _ => d

theorem mkL_len (e : Ty) : ∀ (l : List Dat) (n : Nat), (mkL e l n).length = l.length
  | [], _ => rfl
  | x :: l, n => by simp [mkL, mkL_len e l]
theorem cntL_take {e : Ty} {ds : List Dat} {k : Nat} {x : Dat} (h : ds[k]? = some x) : cntL e (ds.take (k + 1)) = cntL e (ds.take k) + cntE e x := by
  induction ds generalizing k with
  | nil => simp at h
  | cons a l ih =>
    cases k with
    | zero => simp at h; subst h; simp [cntL]
    | succ k => simp at h; simp [cntL, ih h]; omega
theorem mkL_take {e : Ty} {ds : List Dat} {k n : Nat} {x : Dat} (h : ds[k]? = some x) : mkL e (ds.take (k + 1)) n = mkL e (ds.take k) n ++ [mkE e x (n + cntL e (ds.take k))] := by
  induction ds generalizing k n with
  | nil => simp at h
  | cons a l ih =>
    cases k with
    | zero => simp at h; subst h; simp [mkL, cntL]
    | succ k => simp at h; simp [mkL, cntL, ih h, Nat.add_assoc]

/-- Nothing old has turned but these objects. -/
structure TrnL (fs : List Nat) (h h' : IH) : Prop where
  le : h.n ≤ h'.n
  obj : ∀ l, l < h.n → l ∉ fs → h'.obj l = h.obj l
theorem TrnL.refl (fs : List Nat) (h : IH) : TrnL fs h h := ⟨Nat.le_refl _, fun _ _ _ => rfl⟩
theorem TrnL.of_ext {fs : List Nat} {h h' : IH} (e : Ext h h') : TrnL fs h h' := ⟨e.le, fun l hl _ => e.obj l hl⟩
theorem TrnL.trans {fs : List Nat} {a b c : IH} (h1 : TrnL fs a b) (h2 : TrnL fs b c) : TrnL fs a c :=
  ⟨Nat.le_trans h1.le h2.le, fun l hl hn => (h2.obj l (Nat.lt_of_lt_of_le hl h1.le) hn).trans (h1.obj l hl hn)⟩
theorem TrnL.sub {fs gs : List Nat} {h h' : IH} (t : TrnL fs h h') (hs : ∀ l ∈ fs, l ∈ gs) : TrnL gs h h' := ⟨t.le, fun l hl hn => t.obj l hl fun hm => hn (hs l hm)⟩
theorem TrnL.set {l : Nat} {fs : List Nat} {h : IH} (o : IObj) (hl : l ∈ fs) : TrnL fs h (h.set l o) := ⟨Nat.le_refl _, fun m _ hn => set_there _ _ _ _ (fun e => hn (by rw [e]; exact hl))⟩
theorem Ro.trn {fs gs : List Nat} {h h' : IH} {t : Ty} {cs : List IV} {d : Dat} (hr : Ro h t cs d gs) (T : TrnL fs h h') (hd : ∀ l ∈ gs, l ∉ fs) : Ro h' t cs d gs :=
  hr.same T.le fun l hl => T.obj l (hr.lt l hl) (hd l hl)

def MtC (P : Program) (g : Nat) : Prop := ∀ (h : IH) (n : Nat), n < 4611686018427387904 → ICalls P g [.int .i64 (n : Int)] h fun r h' => r = .str (mtext n) ∧ Ext h h'
def MkC (P : Program) (g : Nat) (t : Ty) : Prop := ∀ (h : IH) (cs : List IV) (d : Dat) (fs : List Nat) (k : Nat), Ro h t cs d fs → fs.Nodup → k + cntW t d + d.tot < 4611686018427387904 →
  ICalls P g [t.pk cs, .int .i64 (k : Int)] h fun r h' => r = .int .i64 ((k + cntW t d : Nat) : Int) ∧ Ro h' t cs (mkW t d k) fs ∧ TrnL fs h h'

def fadrs : List Nat → Nat → List COp
  | [], _ => []
  | o :: r, t => ⟨some (t + 1), none, .f (.fadr o (.t t))⟩ :: fadrs r (t + 1)
theorem fadrs_vc {l i : Nat} {h : IH} {K : Env → IH → Prop} {rest : List COp} : ∀ (p : List Nat) (t o : Nat) (e : Env), e t = .ptr l i o →
    (∀ e' : Env, (∀ x, x ≤ t → e' x = e x) → e' (t + p.length) = .ptr l i (o + p.sum) → vcOps P rest K e' h) → vcOps P (fadrs p t ++ rest) K e h
  | [], t, o, e, he, hk => hk e (fun _ _ => rfl) (by simpa using he)
  | a :: p, t, o, e, he, hk => by
    unfold fadrs
    simp (disch := omega) only [List.cons_append, go_sem, he]
    refine fadrs_vc (l := l) (i := i) p (t + 1) (o + a) _ (by simp only [upd_eq]) fun e' h1 h2 => hk e' (fun x hx => ?_) ?_
    · rw [h1 x (by omega), upd_ne _ _ (by omega)]
    · rw [List.length_cons, List.sum_cons]
      have e1 : t + (p.length + 1) = t + 1 + p.length := by omega
      have e2 : o + (a + p.sum) = o + a + p.sum := by omega
      rw [e1, e2]; exact h2

/-- k is counted on. -/
def incC (t : Nat) : CC := .reg [⟨some t, none, .f (.mv (.t 1))⟩, ⟨some (t + 1), none, .f (.bin .add (.t t) (.c (.int .i64 1)))⟩, ⟨some 1, none, .f (.mv (.t (t + 1)))⟩]
/-- One leaf: its code, and the next slot. -/
def mkLf (sz : Nat) (p : List Nat) (g t : Nat) : Ty → List CC × Nat
  | .int .i64 => ([.reg ([⟨some t, none, .f (.mv (.t 0))⟩, ⟨some (t + 1), none, .f (.mv (.t 5))⟩, ⟨some (t + 2), none, .f (.mv (.t 1))⟩, ⟨some (t + 3), none, .f (.iadr sz (.t t) (.t (t + 1)))⟩] ++ (fadrs p (t + 3) ++
      [⟨none, none, .x (.st 1 (.t (t + 3 + p.length)) (.t (t + 2)))⟩])), incC (t + 4 + p.length)], t + 6 + p.length)
  | .int k => ([.reg ([⟨some t, none, .f (.mv (.t 0))⟩, ⟨some (t + 1), none, .f (.mv (.t 5))⟩, ⟨some (t + 2), none, .f (.mv (.t 1))⟩, ⟨some (t + 3), none, .f (.cvI k (.t (t + 2)))⟩, ⟨some (t + 4), none, .f (.iadr sz (.t t) (.t (t + 1)))⟩] ++ (fadrs p (t + 4) ++
      [⟨none, none, .x (.st 1 (.t (t + 4 + p.length)) (.t (t + 3)))⟩])), incC (t + 5 + p.length)], t + 7 + p.length)
  | .bool => ([.reg ([⟨some t, none, .f (.mv (.t 0))⟩, ⟨some (t + 1), none, .f (.mv (.t 5))⟩, ⟨some (t + 2), none, .f (.mv (.t 1))⟩, ⟨some (t + 3), none, .f (.bin .rem (.t (t + 2)) (.c (.int .i64 3)))⟩,
      ⟨some (t + 4), none, .f (.bin .eql (.t (t + 3)) (.c (.int .i64 0)))⟩, ⟨some (t + 5), none, .f (.iadr sz (.t t) (.t (t + 1)))⟩] ++ (fadrs p (t + 5) ++
      [⟨none, none, .x (.st 1 (.t (t + 5 + p.length)) (.t (t + 4)))⟩])), incC (t + 6 + p.length)], t + 8 + p.length)
  | .str => ([.reg ([⟨some t, none, .f (.mv (.t 0))⟩, ⟨some (t + 1), none, .f (.mv (.t 5))⟩, ⟨some (t + 2), none, .f (.mv (.t 1))⟩, ⟨some (t + 3), none, .x (.call g [.t (t + 2)])⟩, ⟨some (t + 4), none, .f (.iadr sz (.t t) (.t (t + 1)))⟩] ++ (fadrs p (t + 4) ++
      [⟨none, none, .x (.st 1 (.t (t + 4 + p.length)) (.t (t + 3)))⟩])), incC (t + 5 + p.length)], t + 7 + p.length)
  | .slice _ _ => ([.reg ([⟨some t, none, .f (.mv (.t 0))⟩, ⟨some (t + 1), none, .f (.mv (.t 5))⟩, ⟨some (t + 2), none, .f (.iadr sz (.t t) (.t (t + 1)))⟩] ++ (fadrs p (t + 2) ++
      [⟨some (t + 3 + p.length), none, .f (.ld (.t (t + 2 + p.length)))⟩, ⟨some (t + 4 + p.length), none, .f (.mv (.t 1))⟩, ⟨some (t + 5 + p.length), none, .x (.call g [.t (t + 3 + p.length), .t (t + 4 + p.length)])⟩,
       ⟨some 1, none, .f (.mv (.t (t + 5 + p.length)))⟩]))], t + 6 + p.length)
  | _ => ([], t)
/-- All leaves of an element: q are the functions that they call. -/
def mkC (sz : Nat) : Ty → List Nat → Nat → List Nat → Nat → List CC × List Nat × Nat
  | .nil, _, _, q, t => ([], q, t)
  | .str, p, _, q, t => ((mkLf sz p (q.headD 0) t .str).1, q.tail, (mkLf sz p (q.headD 0) t .str).2)
  | .slice el e, p, _, q, t => ((mkLf sz p (q.headD 0) t (.slice el e)).1, q.tail, (mkLf sz p (q.headD 0) t (.slice el e)).2)
  | .bool, p, _, q, t => ((mkLf sz p 0 t .bool).1, q, (mkLf sz p 0 t .bool).2)
  | .int k, p, _, q, t => ((mkLf sz p 0 t (.int k)).1, q, (mkLf sz p 0 t (.int k)).2)
  | .cat a b, p, off, q, t =>
    ((mkC sz a (p ++ [off]) 0 q t).1 ++ (mkC sz b p (off + a.sz) (mkC sz a (p ++ [off]) 0 q t).2.1 (mkC sz a (p ++ [off]) 0 q t).2.2).1,
     (mkC sz b p (off + a.sz) (mkC sz a (p ++ [off]) 0 q t).2.1 (mkC sz a (p ++ [off]) 0 q t).2.2).2)
/-- What the functions that are called do. -/
def mkOk (P : Program) : Ty → List Nat → Prop × List Nat
  | .nil, q => (True, q)
  | .bool, q => (True, q)
  | .int _, q => (True, q)
  | .str, q => (MtC P (q.headD 0), q.tail)
  | .slice el e, q => (MkC P (q.headD 0) (.slice el e), q.tail)
  | .cat a b, q => ((mkOk P a q).1 ∧ (mkOk P b (mkOk P a q).2).1, (mkOk P b (mkOk P a q).2).2)
def markBody (ty : Ty) (q : List Nat) : List CC × List Nat × Nat := mkC ty.sz ty [] 0 q 12
def markC (ty : Ty) (q : List Nat) : CC :=
 (.seq (.reg [
   ⟨(some 4), none, .f (.mv (.c (.int .i64 0)))⟩])
 (.seq (.seq (.reg [
   ⟨(some 5), none, .f (.mv (.c (.int .i64 0)))⟩])
 (.block 0 (.loop (.seq (.seq (.reg [
     ⟨(some 6), none, .f (.mv (.t 5))⟩,
     ⟨(some 7), none, .f (.mv (.t 0))⟩,
     ⟨(some 8), none, .f (.len (.t 7))⟩,
     ⟨(some 9), none, .f (.bin .lss (.t 6) (.t 8))⟩])
   (.cond (.t 9)
    .skip
    (.exit 0)))
   (.seq (.block 1 (seqs (markBody ty q).1))
   (.reg [
     ⟨(some 10), none, .f (.mv (.t 5))⟩,
     ⟨(some 11), none, .f (.bin .add (.t 10) (.c (.int .i64 1)))⟩,
     ⟨(some 5), none, .f (.mv (.t 11))⟩]))))))
 (.seq (.reg [
   ⟨(some (markBody ty q).2.2), none, .f (.mv (.t 1))⟩,
   ⟨(some 4), none, .f (.mv (.t (markBody ty q).2.2))⟩])
 .ret)))

/-- Structs are lists of fields. -/
def Ty.okT : Ty → Bool
  | .cat a b => !b.one && a.okT && b.okT
  | _ => true
theorem sto_row {l i k n : Nat} {cs pre mid suf : List IV} {rs : List (List IV)} {el sz : Nat} {h : IH} {K : HoldK} (ho : h.obj l = .rows rs el sz false) (hr : rs[i]? = some (pre ++ (mid ++ suf))) (hk : k = pre.length) (hm : mid.length = n) (hc : cs.length = n) (h1 : ∀ v ∈ cs, v.one = true)
    (hK : K.k (.tuple []) (h.set l (.rows (rs.set i (pre ++ (cs ++ suf))) el sz false))) : @stO n i k cs l (h.obj l) h K := by
  rw [ho]
  refine stO_of (row := pre ++ (mid ++ suf)) hr hc (by simp; omega) h1 ?_
  have : wrt (pre ++ (mid ++ suf)) k cs = pre ++ (cs ++ suf) := by
    rw [wrt_eq _ _ _ (by simp; omega), hk, hc, ← hm]
    simp [List.take_append, List.drop_append]
  rw [this]
  exact hK
structure Slot (e : Env) (h : IH) (l n i kk : Nat) (rs : List (List IV)) (el sz : Nat) (row : List IV) : Prop where
  e0 : e 0 = .slice l 0 n
  e5 : e 5 = .int .i64 (i : Nat)
  e1 : e 1 = .int .i64 (kk : Nat)
  lt : i < n
  obj : h.obj l = .rows rs el sz false
  ln : l < h.n
  row : rs[i]? = some row
theorem Slot.ia {e : Env} {h : IH} {l n i kk : Nat} {rs : List (List IV)} {el sz : Nat} {row : List IV} (s : Slot e h l n i kk rs el sz row) : iadrF h sz (.slice l 0 n) (.int .i64 (i : Nat)) = some (.ptr l i 0) := by
  rw [iadrF_nat s.lt (by rw [s.obj]; rfl), Nat.zero_add]
def MStep (P : Program) (c : List CC) (t : Ty) (sz off : Nat) : Prop :=
  ∀ (rest : List CC) (K : EPost) (e : Env) (h : IH) (l n i kk : Nat) (rs : List (List IV)) (el : Nat) (pre cs suf : List IV) (d : Dat) (fs : List Nat), Slot e h l n i kk rs el sz (pre ++ (cs ++ suf)) → pre.length = off → Ro h t cs d fs → fs.Nodup → l ∉ fs →
    kk + cntE t d + d.tot < 4611686018427387904 →
    (∀ (e' : Env) (h' : IH) (cs' : List IV), e' 0 = .slice l 0 n → e' 5 = .int .i64 (i : Nat) → e' 1 = .int .i64 ((kk + cntE t d : Nat) : Int) → h'.obj l = .rows (rs.set i (pre ++ (cs' ++ suf))) el sz false → Ro h' t cs' (mkE t d kk) fs → TrnL (l :: fs) h h' → vcs P rest K e' h') →
    vcs P (c ++ rest) K e h
/-- The store of a leaf and the count. -/
theorem st_inc {a w t2 l n i kk : Nat} {rs : List (List IV)} {el sz : Nat} {pre suf : List IV} {v0 v : IV} {e : Env} {h : IH} {K : EPost} {rest : List CC} (ht : 6 ≤ t2) (S : Slot e h l n i kk rs el sz (pre ++ ([v0] ++ suf))) (ha : e a = .ptr l i pre.length) (hw : e w = v) (hv : v.one = true)
    (hkk : kk + 1 < 4611686018427387904)
    (hK : ∀ e' : Env, e' 0 = .slice l 0 n → e' 5 = .int .i64 (i : Nat) → e' 1 = .int .i64 ((kk + 1 : Nat) : Int) → vcs P rest K e' (h.set l (.rows (rs.set i (pre ++ ([v] ++ suf))) el sz false))) :
    vcOps P [⟨none, none, .x (.st 1 (.t a) (.t w))⟩] (seqK (vcs P (incC t2 :: rest) K) K .normal) e h := by
  simp only [go_sem, ha, hw, one_cells hv]
  refine sto_row S.obj S.row rfl rfl rfl (by simpa using hv) ?_
  have w0 : wr .i64 ((kk : Int) + 1) = ((kk + 1 : Nat) : Int) := by rw [wr64 _ (by omega)]; rfl
  simp (disch := omega) only [incC, vcs_cons, go_sem, upd_eq, upd_ne, S.e1, Hold.p, HoldK.k, w0]
  exact hK _ (by simp (disch := omega) only [upd_ne, S.e0]) (by simp (disch := omega) only [upd_ne, S.e5]) (by simp (disch := omega) only [upd_eq, upd_ne])
theorem scal_flat {t : Ty} (hs : t.scal = true) {h : IH} {cs : List IV} {d : Dat} {fs : List Nat} (hr : Ro h t cs d fs) : ∃ v, cs = [v] ∧ fs = [] := by
  cases t with
  | bool => obtain ⟨x, rfl, rfl, rfl⟩ := hr; exact ⟨_, rfl, rfl⟩
  | int k => obtain ⟨x, rfl, rfl, rfl⟩ := hr; exact ⟨_, rfl, rfl⟩
  | str => obtain ⟨x, rfl, rfl, rfl⟩ := hr; exact ⟨_, rfl, rfl⟩
  | _ => cases hs
theorem mkLf_i64 {sz off g t : Nat} {p : List Nat} (ht : 12 ≤ t) (hp : p.sum = off) : MStep P (mkLf sz p g t (.int .i64)).1 (.int .i64) sz off := by
  intro rest K e h l n i kk rs el pre cs suf d fs S hpl hr hn hl hkk hK
  obtain ⟨v0, rfl, rfl⟩ := scal_flat rfl hr
  have hia := S.ia
  simp (disch := omega) only [mkLf, vcs_cons, List.cons_append, List.nil_append, go_sem, upd_eq, upd_ne, S.e0, S.e1, S.e5, hia]
  refine fadrs_vc (l := l) (i := i) p (t + 3) 0 _ (by simp only [upd_eq]) fun e' h1 h2 => ?_
  have x0 : e' 0 = .slice l 0 n := by rw [h1 _ (by omega)]; simp (disch := omega) only [upd_ne, S.e0]
  have x5 : e' 5 = .int .i64 (i : Nat) := by rw [h1 _ (by omega)]; simp (disch := omega) only [upd_ne, S.e5]
  have x1 : e' 1 = .int .i64 (kk : Nat) := by rw [h1 _ (by omega)]; simp (disch := omega) only [upd_ne, S.e1]
  have xw : e' (t + 2) = .int .i64 (kk : Nat) := by rw [h1 _ (by omega)]; simp (disch := omega) only [upd_eq, upd_ne]
  rw [hp, Nat.zero_add, ← hpl] at h2
  simp only [cntE] at hkk hK
  refine st_inc (by omega) ⟨x0, x5, x1, S.lt, S.obj, S.ln, S.row⟩ h2 xw rfl (by omega) fun e2 y0 y5 y1 => ?_
  refine hK e2 _ _ y0 y5 y1 (set_here _ _ _) ⟨_, rfl, ?_, rfl⟩ (TrnL.set _ List.mem_cons_self)
  rw [mkE, wr64 _ (by omega)]
theorem mkLf_int {sz off g t : Nat} {k : IntKind} {p : List Nat} (ht : 12 ≤ t) (hp : p.sum = off) : MStep P (mkLf sz p g t (.int k)).1 (.int k) sz off := by
  by_cases hk : k = .i64
  · subst hk; exact mkLf_i64 ht hp
  intro rest K e h l n i kk rs el pre cs suf d fs S hpl hr hn hl hkk hK
  obtain ⟨v0, rfl, rfl⟩ := scal_flat rfl hr
  have hia := S.ia
  have hc : mkLf sz p g t (.int k) = ([.reg ([⟨some t, none, .f (.mv (.t 0))⟩, ⟨some (t + 1), none, .f (.mv (.t 5))⟩, ⟨some (t + 2), none, .f (.mv (.t 1))⟩, ⟨some (t + 3), none, .f (.cvI k (.t (t + 2)))⟩, ⟨some (t + 4), none, .f (.iadr sz (.t t) (.t (t + 1)))⟩] ++ (fadrs p (t + 4) ++
      [⟨none, none, .x (.st 1 (.t (t + 4 + p.length)) (.t (t + 3)))⟩])), incC (t + 5 + p.length)], t + 7 + p.length) := by
    cases k <;> first | rfl | exact absurd rfl hk
  simp (disch := omega) only [hc, vcs_cons, List.cons_append, List.nil_append, go_sem, upd_eq, upd_ne, S.e0, S.e1, S.e5, hia]
  refine fadrs_vc (l := l) (i := i) p (t + 4) 0 _ (by simp only [upd_eq]) fun e' h1 h2 => ?_
  have x0 : e' 0 = .slice l 0 n := by rw [h1 _ (by omega)]; simp (disch := omega) only [upd_ne, S.e0]
  have x5 : e' 5 = .int .i64 (i : Nat) := by rw [h1 _ (by omega)]; simp (disch := omega) only [upd_ne, S.e5]
  have x1 : e' 1 = .int .i64 (kk : Nat) := by rw [h1 _ (by omega)]; simp (disch := omega) only [upd_ne, S.e1]
  have xw : e' (t + 3) = .int k (wr k (kk : Nat)) := by rw [h1 _ (by omega)]; simp (disch := omega) only [upd_eq, upd_ne]
  rw [hp, Nat.zero_add, ← hpl] at h2
  simp only [cntE] at hkk hK
  refine st_inc (by omega) ⟨x0, x5, x1, S.lt, S.obj, S.ln, S.row⟩ h2 xw rfl (by omega) fun e2 y0 y5 y1 => ?_
  exact hK e2 _ _ y0 y5 y1 (set_here _ _ _) ⟨_, rfl, by rw [mkE], rfl⟩ (TrnL.set _ List.mem_cons_self)
theorem mkLf_bool {sz off g t : Nat} {p : List Nat} (ht : 12 ≤ t) (hp : p.sum = off) : MStep P (mkLf sz p g t .bool).1 .bool sz off := by
  intro rest K e h l n i kk rs el pre cs suf d fs S hpl hr hn hl hkk hK
  obtain ⟨v0, rfl, rfl⟩ := scal_flat rfl hr
  have hia := S.ia
  have hrem : ibin .rem (.int .i64 (kk : Nat)) (.int .i64 3) = some (.int .i64 (((kk : Nat) : Int).tmod 3)) := by simp [ibin]
  simp (disch := omega) only [mkLf, vcs_cons, List.cons_append, List.nil_append, go_sem, upd_eq, upd_ne, S.e0, S.e1, S.e5, hia, hrem]
  refine fadrs_vc (l := l) (i := i) p (t + 5) 0 _ (by simp only [upd_eq]) fun e' h1 h2 => ?_
  have x0 : e' 0 = .slice l 0 n := by rw [h1 _ (by omega)]; simp (disch := omega) only [upd_ne, S.e0]
  have x5 : e' 5 = .int .i64 (i : Nat) := by rw [h1 _ (by omega)]; simp (disch := omega) only [upd_ne, S.e5]
  have x1 : e' 1 = .int .i64 (kk : Nat) := by rw [h1 _ (by omega)]; simp (disch := omega) only [upd_ne, S.e1]
  have xw : e' (t + 4) = .bool (decide (((kk : Nat) : Int).tmod 3 = 0)) := by rw [h1 _ (by omega)]; simp (disch := omega) only [upd_eq, upd_ne]
  rw [hp, Nat.zero_add, ← hpl] at h2
  simp only [cntE] at hkk hK
  refine st_inc (by omega) ⟨x0, x5, x1, S.lt, S.obj, S.ln, S.row⟩ h2 xw rfl (by omega) fun e2 y0 y5 y1 => ?_
  refine hK e2 _ _ y0 y5 y1 (set_here _ _ _) ⟨_, rfl, ?_, rfl⟩ (TrnL.set _ List.mem_cons_self)
  rw [mkE, Int.tmod_eq_emod_of_nonneg (by omega)]
theorem mkLf_str {sz off g t : Nat} {p : List Nat} (ht : 12 ≤ t) (hp : p.sum = off) (hg : MtC P g) : MStep P (mkLf sz p g t .str).1 .str sz off := by
  intro rest K e h l n i kk rs el pre cs suf d fs S hpl hr hn hl hkk hK
  obtain ⟨v0, rfl, rfl⟩ := scal_flat rfl hr
  simp (disch := omega) only [mkLf, vcs_cons, List.cons_append, List.nil_append, go_sem, upd_eq, upd_ne, S.e0, S.e1, S.e5, List.map_cons, List.map_nil]
  refine callA_of (hg h kk (by omega)) ?_
  rintro r h2 ⟨rfl, E⟩
  have S2 : Slot e h2 l n i kk rs el sz (pre ++ ([v0] ++ suf)) := ⟨S.e0, S.e5, S.e1, S.lt, (E.obj l S.ln).trans S.obj, Nat.lt_of_lt_of_le S.ln E.le, S.row⟩
  have hia := S2.ia
  simp (disch := omega) only [go_sem, upd_eq, upd_ne, S.e0, S.e1, S.e5, hia, Hold.p, HoldK.k]
  refine fadrs_vc (l := l) (i := i) p (t + 4) 0 _ (by simp only [upd_eq]) fun e' h1 h3 => ?_
  have x0 : e' 0 = .slice l 0 n := by rw [h1 _ (by omega)]; simp (disch := omega) only [upd_ne, S.e0]
  have x5 : e' 5 = .int .i64 (i : Nat) := by rw [h1 _ (by omega)]; simp (disch := omega) only [upd_ne, S.e5]
  have x1 : e' 1 = .int .i64 (kk : Nat) := by rw [h1 _ (by omega)]; simp (disch := omega) only [upd_ne, S.e1]
  have xw : e' (t + 3) = .str (mtext kk) := by rw [h1 _ (by omega)]; simp (disch := omega) only [upd_eq, upd_ne]
  rw [hp, Nat.zero_add, ← hpl] at h3
  simp only [cntE] at hkk hK
  refine st_inc (by omega) ⟨x0, x5, x1, S.lt, S2.obj, S2.ln, S.row⟩ h3 xw rfl (by omega) fun e2 y0 y5 y1 => ?_
  exact hK e2 _ _ y0 y5 y1 (set_here _ _ _) ⟨_, rfl, by rw [mkE], rfl⟩ ((TrnL.of_ext E).trans (TrnL.set _ List.mem_cons_self))
theorem set_same {α : Type} {l : List α} {i : Nat} {x : α} (h : l[i]? = some x) : l.set i x = l := by
  obtain ⟨hi, rfl⟩ := List.getElem?_eq_some_iff.1 h
  simp
theorem mkLf_slice {sz off g t el : Nat} {ty : Ty} {p : List Nat} (ht : 12 ≤ t) (hp : p.sum = off) (hg : MkC P g (.slice el ty)) : MStep P (mkLf sz p g t (.slice el ty)).1 (.slice el ty) sz off := by
  intro rest K e h l n i kk rs el' pre cs suf d fs S hpl hr hn hl hkk hK
  have hlen := hr.len
  match cs, hlen with
  | [v], _ =>
  have hv := hr.one v (by simp)
  have hia := S.ia
  simp (disch := omega) only [mkLf, vcs_cons, List.cons_append, List.nil_append, go_sem, upd_eq, upd_ne, S.e0, S.e1, S.e5, hia]
  refine fadrs_vc (l := l) (i := i) p (t + 2) 0 _ (by simp only [upd_eq]) fun e' h1 h2 => ?_
  have x0 : e' 0 = .slice l 0 n := by rw [h1 _ (by omega)]; simp (disch := omega) only [upd_ne, S.e0]
  have x5 : e' 5 = .int .i64 (i : Nat) := by rw [h1 _ (by omega)]; simp (disch := omega) only [upd_ne, S.e5]
  have x1 : e' 1 = .int .i64 (kk : Nat) := by rw [h1 _ (by omega)]; simp (disch := omega) only [upd_ne, S.e1]
  rw [hp, Nat.zero_add, ← hpl] at h2
  have hc : cellO (h.obj l) i pre.length = some v := by
    rw [S.obj, cellO_rows, S.row]
    exact cell_mid rfl
  simp (disch := omega) only [go_sem, upd_eq, upd_ne, h2, hc, x1, List.map_cons, List.map_nil]
  have hcall := hg h [v] d fs kk hr hn hkk
  rw [pk_one rfl] at hcall
  refine callA_of hcall ?_
  rintro r h3 ⟨rfl, r3, T⟩
  simp (disch := omega) only [go_sem, upd_eq, upd_ne, Hold.p, HoldK.k]
  refine hK _ h3 [v] (by simp (disch := omega) only [upd_ne, x0]) (by simp (disch := omega) only [upd_ne, x5]) (by simp (disch := omega) only [upd_eq]; rfl) ?_ r3 (T.sub fun x hx => List.mem_cons_of_mem _ hx)
  rw [T.obj l S.ln hl, S.obj, set_same S.row]
theorem MStep.cat {c1 c2 : List CC} {a b : Ty} {sz off : Nat} (h1 : MStep P c1 a sz off) (h2 : MStep P c2 b sz (off + a.sz)) : MStep P (c1 ++ c2) (.cat a b) sz off := by
  intro rest K e h l n i kk rs el pre cs suf d fs S hpl hr hn hl hkk hK
  obtain ⟨cs1, cs2, d1, d2, f1, f2, rfl, rfl, rfl, r1, r2⟩ := hr
  obtain ⟨n1, n2, n12⟩ := List.nodup_append.1 hn
  simp only [cntE, Dat.tot] at hkk hK
  have hll : ∀ x ∈ f1, x ≠ l := fun x hx e => hl (by rw [← e]; exact List.mem_append_left _ hx)
  have hlr : ∀ x ∈ f2, x ≠ l := fun x hx e => hl (by rw [← e]; exact List.mem_append_right _ hx)
  rw [List.append_assoc]
  refine h1 (c2 ++ rest) K e h l n i kk rs el pre cs1 (cs2 ++ suf) d1 f1 ⟨S.e0, S.e5, S.e1, S.lt, S.obj, S.ln, by rw [S.row, List.append_assoc]⟩ hpl r1 n1 (fun h => hll l h rfl) (by omega) ?_
  intro e' h' cs1' x0 x5 x1 ho q1 T1
  have hil := (List.getElem?_eq_some_iff.1 S.row).1
  have hq1 := q1.len
  have hr1 := r1.len
  have q2 : Ro h' b cs2 d2 f2 := r2.trn T1 fun x hx hm => by
    rcases List.mem_cons.1 hm with e | hm
    · exact hlr x hx e
    · exact n12 x hm x hx rfl
  refine h2 rest K e' h' l n i (kk + cntE a d1) (rs.set i (pre ++ (cs1' ++ (cs2 ++ suf)))) el (pre ++ cs1') cs2 suf d2 f2 ⟨x0, x5, x1, S.lt, ho, Nat.lt_of_lt_of_le S.ln T1.le, by rw [List.getElem?_set_self hil]; simp⟩
    (by rw [List.length_append]; omega) q2 n2 (fun h => hlr l h rfl) (by omega) ?_
  intro e2 h2' cs2' y0 y5 y1 ho2 q3 T2
  refine hK e2 h2' (cs1' ++ cs2') y0 y5 (by rw [y1, Nat.add_assoc]) (by rw [ho2, List.set_set]; simp) ⟨cs1', cs2', _, _, f1, f2, rfl, by rw [mkE], rfl, ?_, q3⟩ ?_
  · exact q1.trn T2 fun x hx hm => by
      rcases List.mem_cons.1 hm with e | hm
      · exact hll x hx e
      · exact n12 x hx x hm rfl
  · refine (T1.sub fun x hx => ?_).trans (T2.sub fun x hx => ?_)
    · rcases List.mem_cons.1 hx with rfl | hx
      · exact List.mem_cons_self
      · exact List.mem_cons_of_mem _ (List.mem_append_left _ hx)
    · rcases List.mem_cons.1 hx with rfl | hx
      · exact List.mem_cons_self
      · exact List.mem_cons_of_mem _ (List.mem_append_right _ hx)
theorem MStep.none {sz off : Nat} : MStep P [] .nil sz off := by
  intro rest K e h l n i kk rs el pre cs suf d fs S hpl hr hn hl hkk hK
  obtain ⟨rfl, rfl, rfl⟩ := hr
  refine hK e h [] S.e0 S.e5 S.e1 (by rw [S.obj, set_same S.row]) ⟨rfl, rfl, rfl⟩ (TrnL.refl _ _)
theorem mkC_step {sz : Nat} : ∀ (ty : Ty) (p : List Nat) (off : Nat) (q : List Nat) (t : Nat), 12 ≤ t → ty.okT = true → (ty.one = true → off = 0) → (mkOk P ty q).1 →
    (mkC sz ty p off q t).2.1 = (mkOk P ty q).2 ∧ t ≤ (mkC sz ty p off q t).2.2 ∧ MStep P (mkC sz ty p off q t).1 ty sz (p.sum + off)
  | .nil, p, off, q, t, ht, _, _, _ => ⟨rfl, Nat.le_refl _, MStep.none⟩
  | .bool, p, off, q, t, ht, _, h0, _ => ⟨rfl, by show t ≤ t + 8 + p.length; omega, by rw [h0 rfl]; exact mkLf_bool (g := 0) ht rfl⟩
  | .int k, p, off, q, t, ht, _, h0, _ => ⟨rfl, by show t ≤ (mkLf sz p 0 t (.int k)).2; cases k <;> simp only [mkLf] <;> omega, by rw [h0 rfl]; exact mkLf_int (g := 0) ht rfl⟩
  | .str, p, off, q, t, ht, _, h0, hg => ⟨rfl, by show t ≤ t + 7 + p.length; omega, by rw [h0 rfl]; exact mkLf_str ht rfl hg⟩
  | .slice el e, p, off, q, t, ht, _, h0, hg => ⟨rfl, by show t ≤ t + 6 + p.length; omega, by rw [h0 rfl]; exact mkLf_slice ht rfl hg⟩
  | .cat a b, p, off, q, t, ht, hok, _, hg => by
    simp only [Ty.okT, Bool.and_eq_true, Bool.not_eq_true'] at hok
    obtain ⟨⟨hb, oka⟩, okb⟩ := hok
    obtain ⟨g1, g2⟩ := hg
    obtain ⟨a1, a2, a3⟩ := mkC_step (sz := sz) a (p ++ [off]) 0 q t ht oka (fun _ => rfl) g1
    rw [← a1] at g2
    obtain ⟨b1, b2, b3⟩ := mkC_step (sz := sz) b p (off + a.sz) _ _ (Nat.le_trans ht a2) okb (fun h => by rw [hb] at h; cases h) g2
    refine ⟨?_, Nat.le_trans a2 b2, ?_⟩
    · show (mkC sz b p (off + a.sz) (mkC sz a (p ++ [off]) 0 q t).2.1 (mkC sz a (p ++ [off]) 0 q t).2.2).2.1 = _
      rw [b1, a1]; rfl
    · refine MStep.cat ?_ ?_
      · have := a3
        simp only [List.sum_append, List.sum_cons, List.sum_nil, Nat.add_zero] at this
        exact this
      · rw [Nat.add_assoc]; exact b3

/-- The slices of marks in the making. -/
theorem marked_at {e : Ty} {ds : List Dat} {k k0 : Nat} {x : Dat} (h : ds[k]? = some x) : (mkL e (ds.take k) k0 ++ ds.drop k)[k]? = some x := by
  have hk := (List.getElem?_eq_some_iff.1 h).1
  have hl : (mkL e (ds.take k) k0).length = k := by rw [mkL_len, List.length_take]; omega
  rw [List.getElem?_append_right (by omega), hl, Nat.sub_self, List.getElem?_drop, Nat.add_zero]; exact h
set_option maxRecDepth 20000 in
theorem mark_calls {f N el : Nat} {ty : Ty} {q : List Nat} (hf : fnComp P f = some (N, markC ty q, [.mv (.t 4)])) (hN : 2 ≤ N) (hok : ty.okT = true) (hq : (mkOk P ty q).1) : MkC P f (.slice el ty) := by
  intro h cs d fs k0 hr hn hkk
  obtain ⟨m1, m2, m3⟩ := mkC_step (P := P) (sz := ty.sz) ty [] 0 q 12 (Nat.le_refl _) hok (fun _ => rfl) hq
  obtain ⟨v, ds, rfl, rfl, hv⟩ := hr
  rw [pk_one rfl]
  refine icalls (.of hf) (by simpa using hN) ?_
  unfold markC markBody
  generalize hc : mkC ty.sz ty [] 0 q 12 = c at m1 m2 m3
  obtain ⟨cl, cq, ct⟩ := c
  simp only at m1 m2 m3 ⊢
  simp only [cntW, cntE, Dat.tot] at hkk
  simp only [cntW, cntE, mkW, mkE]
  have c1 : (4 == ct) = false := by simp; omega
  have c2 : (1 == ct) = false := by simp; omega
  have c3 : (5 == ct) = false := by simp; omega
  rcases hv with ⟨rfl, rfl, hv⟩ | ⟨l, rs, gs, h0, rfl, hl, hob, rfl, hall⟩
  · have hlen : lenF v = some (.int .i64 0) := by rcases hv with rfl | rfl <;> rfl
    simp only [hlen, go_sem, Hold.p, HoldK.k, HoldL.K, HoldL.body, Nat.reduceBEq, Nat.reduceAdd, List.getElem?_cons_zero, List.getElem?_cons_succ, Option.bind_some, List.map_cons, List.map_nil, Nat.zero_add, if_true, List.getD_cons_zero, List.getD_cons_succ, List.contains_cons, List.contains_nil, Nat.reduceBEq, Bool.or_true, Bool.true_or, Bool.or_false, Bool.false_or, Bool.not_true, Bool.not_false, true_and, and_true]
    refine loop_at (fun n e h' => n = 0 ∧ h' = h ∧ e 0 = v ∧ e 1 = .int .i64 (k0 : Nat) ∧ e 5 = .int .i64 0) 0 ?_ ?_
    · simp only [go_sem, Hold.p, HoldK.k, HoldL.K, HoldL.body, Nat.reduceBEq, Nat.reduceAdd, List.getElem?_cons_zero, List.getElem?_cons_succ, Option.bind_some, List.map_cons, List.map_nil, Nat.zero_add, if_true, List.getD_cons_zero, List.getD_cons_succ, List.contains_cons, List.contains_nil, Nat.reduceBEq, Bool.or_true, Bool.true_or, Bool.or_false, Bool.false_or, Bool.not_true, Bool.not_false, true_and, and_true]
    · rintro n e h' ⟨rfl, rfl, e0, e1, e5⟩
      simp only [e0, e1, e5, hlen, go_sem, Hold.p, HoldK.k, HoldL.K, HoldL.body, Nat.reduceBEq, Nat.reduceAdd, List.getElem?_cons_zero, List.getElem?_cons_succ, Option.bind_some, List.map_cons, List.map_nil, Nat.zero_add, if_true, List.getD_cons_zero, List.getD_cons_succ, List.contains_cons, List.contains_nil, Nat.reduceBEq, Bool.or_true, Bool.true_or, Bool.or_false, Bool.false_or, Bool.not_true, Bool.not_false, true_and, and_true]
      refine test_dec (fun hb => absurd hb (by simp)) (fun _ => ?_)
      simp (disch := omega) only [go_sem, upd_eq, upd_ne, Hold.p, HoldK.k, HoldL.K, e1]
      exact ⟨by simp [cntL], ⟨v, [], rfl, rfl, .inl ⟨rfl, rfl, hv⟩⟩, TrnL.refl _ _⟩
  · obtain ⟨hlg, hng⟩ := List.nodup_cons.1 hn
    have hdl : 0 < ds.length := List.length_pos_iff.2 h0
    simp only [go_sem, Hold.p, HoldK.k, HoldL.K, HoldL.body, Nat.reduceBEq, Nat.reduceAdd, List.getElem?_cons_zero, List.getElem?_cons_succ, Option.bind_some, List.map_cons, List.map_nil, Nat.zero_add, if_true, List.getD_cons_zero, List.getD_cons_succ, List.contains_cons, List.contains_nil, Nat.reduceBEq, Bool.or_true, Bool.true_or, Bool.or_false, Bool.false_or, Bool.not_true, Bool.not_false, true_and, and_true]
    refine loop_at (fun n e h' => ∃ k rs', n = ds.length - k ∧ k ≤ ds.length ∧ e 0 = .slice l 0 ds.length ∧ e 1 = .int .i64 ((k0 + cntL ty (ds.take k) : Nat) : Int) ∧ e 5 = .int .i64 (k : Nat) ∧
      h'.obj l = .rows rs' el ty.sz false ∧ All3 (Ro h' ty) rs' (mkL ty (ds.take k) k0 ++ ds.drop k) gs ∧ TrnL (l :: gs) h h') ds.length ?_ ?_
    · refine ⟨0, rs, by omega, by omega, ?_⟩
      simp only [List.take_zero, List.drop_zero, mkL, cntL, List.nil_append, Nat.add_zero, go_sem, Hold.p, HoldK.k, HoldL.K, HoldL.body, Nat.reduceBEq, Nat.reduceAdd, List.getElem?_cons_zero, List.getElem?_cons_succ, Option.bind_some, List.map_cons, List.map_nil, Nat.zero_add, if_true, List.getD_cons_zero, List.getD_cons_succ, List.contains_cons, List.contains_nil, Nat.reduceBEq, Bool.or_true, Bool.true_or, Bool.or_false, Bool.false_or, Bool.not_true, Bool.not_false, true_and, and_true]
      exact ⟨rfl, hob, hall, TrnL.refl _ _⟩
    · rintro n e h' ⟨k, rs', rfl, hk, e0, e1, e5, ho, ha, T⟩
      simp only [e0, e1, e5, go_sem, Hold.p, HoldK.k, HoldL.K, HoldL.body, Nat.reduceBEq, Nat.reduceAdd, List.getElem?_cons_zero, List.getElem?_cons_succ, Option.bind_some, List.map_cons, List.map_nil, Nat.zero_add, if_true, List.getD_cons_zero, List.getD_cons_succ, List.contains_cons, List.contains_nil, Nat.reduceBEq, Bool.or_true, Bool.true_or, Bool.or_false, Bool.false_or, Bool.not_true, Bool.not_false, true_and, and_true]
      refine test_dec (fun hb => ?_) (fun hb => ?_)
      · have hlt' : k < ds.length := by omega
        have hkd : ds[k]? = some ds[k] := List.getElem?_eq_getElem hlt'
        generalize ds[k] = x at hkd
        have hxm := marked_at (e := ty) (k0 := k0) hkd
        obtain ⟨r, g1, f1, g2, hrk, hg, hrx, s1, s2⟩ := ha.split hxm
        subst hg
        have hct := cntL_take (e := ty) hkd
        have htm := tot_mem (List.mem_of_getElem? hkd)
        have hcle : cntL ty (ds.take (k + 1)) ≤ cntL ty ds := by
          have key : ∀ (l : List Dat) (j : Nat), cntL ty (l.take j) ≤ cntL ty l := by
            intro l
            induction l with
            | nil => intro j; simp [cntL]
            | cons a l ih => intro j; cases j with
              | zero => simp [cntL]
              | succ j => simp only [List.take_succ_cons, cntL]; have := ih j; omega
          exact key _ _
        have hlf : l ∉ f1 := fun hm => hlg (List.mem_append_right _ (List.mem_append_left _ hm))
        obtain ⟨nd1, nd2, nd3⟩ := List.nodup_append.1 hng
        obtain ⟨nd4, nd5, nd6⟩ := List.nodup_append.1 nd2
        simp only [e0, e1, e5, go_sem, Hold.p, HoldK.k, HoldL.K, HoldL.body, Nat.reduceBEq, Nat.reduceAdd, List.getElem?_cons_zero, List.getElem?_cons_succ, Option.bind_some, List.map_cons, List.map_nil, Nat.zero_add, if_true, List.getD_cons_zero, List.getD_cons_succ, List.contains_cons, List.contains_nil, Nat.reduceBEq, Bool.or_true, Bool.true_or, Bool.or_false, Bool.false_or, Bool.not_true, Bool.not_false, true_and, and_true]
        rw [vc_seqs, ← List.append_nil cl]
        refine m3 [] _ _ h' l ds.length k (k0 + cntL ty (ds.take k)) rs' el [] r [] x f1 ⟨by simp (disch := omega) only [upd_ne, e0], by simp (disch := omega) only [upd_ne, e5], by simp (disch := omega) only [upd_ne, e1], hlt', ho, Nat.lt_of_lt_of_le hl T.le, by simpa using hrk⟩ rfl hrx nd4 hlf (by omega) ?_
        intro e2 h2 r' y0 y5 y1 o2 q2 T2
        simp only [List.nil_append, List.append_nil] at o2
        simp only [vcs_nil, y0, y1, y5, go_sem, Hold.p, HoldK.k, HoldL.K, HoldL.body, Nat.reduceBEq, Nat.reduceAdd, List.getElem?_cons_zero, List.getElem?_cons_succ, Option.bind_some, List.map_cons, List.map_nil, Nat.zero_add, if_true, List.getD_cons_zero, List.getD_cons_succ, List.contains_cons, List.contains_nil, Nat.reduceBEq, Bool.or_true, Bool.true_or, Bool.or_false, Bool.false_or, Bool.not_true, Bool.not_false, true_and, and_true]
        have hml : (mkL ty (ds.take k) k0).length = k := by rw [mkL_len, List.length_take]; omega
        have hrl := ha.len
        rw [List.length_append, hml, List.length_drop] at hrl
        rw [List.take_left' hml] at s1
        have e3 : (mkL ty (ds.take k) k0 ++ ds.drop k).drop (k + 1) = ds.drop (k + 1) := by
          rw [List.drop_append, hml, List.drop_eq_nil_of_le (by omega), List.nil_append, List.drop_drop]
          congr 1; omega
        rw [e3] at s2
        have hll : ∀ y ∈ g1, y ∉ l :: f1 := fun y hy hm => by
          rcases List.mem_cons.1 hm with e | hm
          · exact hlg (by rw [← e]; exact List.mem_append_left _ hy)
          · exact nd3 y hy y (List.mem_append_left _ hm) rfl
        have hlr : ∀ y ∈ g2, y ∉ l :: f1 := fun y hy hm => by
          rcases List.mem_cons.1 hm with e | hm
          · exact hlg (by rw [← e]; exact List.mem_append_right _ (List.mem_append_right _ hy))
          · exact nd6 y hm y hy rfl
        refine ⟨_, ?_, k + 1, rs'.set k r', rfl, by omega, by rw [hct, Nat.add_assoc], wr64_succ k (by omega), o2, ?_, T.trans (T2.sub fun y hy => ?_)⟩
        · omega
        · rw [mkL_take hkd, List.append_assoc]
          have e4 : rs'.set k r' = rs'.take k ++ ([r'] ++ rs'.drop (k + 1)) := by
            rw [set_eq_take rs' k r' (List.getElem?_eq_some_iff.1 hrk).1, List.append_assoc]
          rw [e4]
          refine All3.app (s1.mono fun a b f hf y => y.trn T2 fun z hz => hll z (hf z hz)) (All3.cons q2 (s2.mono fun a b f hf y => y.trn T2 fun z hz => hlr z (hf z hz)))
        · rcases List.mem_cons.1 hy with rfl | hy
          · exact List.mem_cons_self
          · exact List.mem_cons_of_mem _ (List.mem_append_right _ (List.mem_append_left _ hy))
      · obtain rfl : k = ds.length := by omega
        rw [List.take_length] at e1 ha
        rw [List.drop_length, List.append_nil] at ha
        simp (disch := omega) only [go_sem, upd_eq, upd_ne, Hold.p, HoldK.k, HoldL.K, e1]
        refine ⟨trivial, ⟨_, _, rfl, rfl, .inr ⟨l, rs', gs, ?_, ?_, Nat.lt_of_lt_of_le hl T.le, ho, rfl, ha⟩⟩, T⟩
        · intro hx; have := congrArg List.length hx; rw [mkL_len] at this; exact h0 (List.length_eq_zero_iff.1 (by simpa using this))
        · rw [mkL_len]

/-- Over what is owned between two numbers. -/
theorem MkC.ow {g : Nat} {t : Ty} (hg : MkC P g t) {lo hi : Nat} {h : IH} {cs : List IV} {d : Dat} {k : Nat} (ho : Ow lo hi h t cs d) (hk : k + cntW t d + d.tot < 4611686018427387904) :
    ICalls P g [t.pk cs, .int .i64 (k : Int)] h fun r h' => r = .int .i64 ((k + cntW t d : Nat) : Int) ∧ Ow lo hi h' t cs (mkW t d k) ∧ Trn lo hi h h' := by
  obtain ⟨⟨fs, a, b, c⟩, e⟩ := ho
  refine (hg h cs d fs k a b hk).mono ?_
  rintro r h' ⟨rfl, q, T⟩
  exact ⟨rfl, ⟨⟨fs, q, b, c⟩, Nat.le_trans e T.le⟩, T.le, fun l hl hn => T.obj l hl fun hm => hn (c l hm)⟩
end Go.IW

namespace Go.IW
open Go Go.RowKit
variable {P : Program}

def HdC (P : Program) (g : Nat) (t : Ty) : Prop := ∀ (h : IH) (cs : List IV) (d : Dat) (k : Nat), Vw 0 h.n h t cs (mkW t d k) → k + cntW t d + d.tot < 4611686018427387904 →
  ICalls P g [t.pk cs, .int .i64 (k : Int)] h fun r h' => r = .int .i64 ((k + cntW t d : Nat) : Int) ∧ Ext h h'
/-- Not held: -1. -/
def badC (c : Nat) : CC := .cond (.t c) (.seq (.reg [⟨some 4, none, .f (.mv (.c (.int .i64 (-1))))⟩]) .ret) .skip
def hdLf (sz : Nat) (p : List Nat) (g t : Nat) : Ty → List CC × Nat
  | .int .i64 => ([.seq (.reg ([⟨some t, none, .f (.mv (.t 0))⟩, ⟨some (t + 1), none, .f (.mv (.t 5))⟩, ⟨some (t + 2), none, .f (.iadr sz (.t t) (.t (t + 1)))⟩] ++ (fadrs p (t + 2) ++
      [⟨some (t + 3 + p.length), none, .f (.ld (.t (t + 2 + p.length)))⟩, ⟨some (t + 4 + p.length), none, .f (.mv (.t 1))⟩, ⟨some (t + 5 + p.length), none, .f (.bin .neq (.t (t + 3 + p.length)) (.t (t + 4 + p.length)))⟩]))) (badC (t + 5 + p.length)),
      incC (t + 6 + p.length)], t + 8 + p.length)
  | .int k => ([.seq (.reg ([⟨some t, none, .f (.mv (.t 0))⟩, ⟨some (t + 1), none, .f (.mv (.t 5))⟩, ⟨some (t + 2), none, .f (.iadr sz (.t t) (.t (t + 1)))⟩] ++ (fadrs p (t + 2) ++
      [⟨some (t + 3 + p.length), none, .f (.ld (.t (t + 2 + p.length)))⟩, ⟨some (t + 4 + p.length), none, .f (.mv (.t 1))⟩, ⟨some (t + 5 + p.length), none, .f (.cvI k (.t (t + 4 + p.length)))⟩,
       ⟨some (t + 6 + p.length), none, .f (.bin .neq (.t (t + 3 + p.length)) (.t (t + 5 + p.length)))⟩]))) (badC (t + 6 + p.length)), incC (t + 7 + p.length)], t + 9 + p.length)
  | .bool => ([.seq (.reg ([⟨some t, none, .f (.mv (.t 0))⟩, ⟨some (t + 1), none, .f (.mv (.t 5))⟩, ⟨some (t + 2), none, .f (.iadr sz (.t t) (.t (t + 1)))⟩] ++ (fadrs p (t + 2) ++
      [⟨some (t + 3 + p.length), none, .f (.ld (.t (t + 2 + p.length)))⟩, ⟨some (t + 4 + p.length), none, .f (.mv (.t 1))⟩, ⟨some (t + 5 + p.length), none, .f (.bin .rem (.t (t + 4 + p.length)) (.c (.int .i64 3)))⟩,
       ⟨some (t + 6 + p.length), none, .f (.bin .eql (.t (t + 5 + p.length)) (.c (.int .i64 0)))⟩, ⟨some (t + 7 + p.length), none, .f (.binB true (.t (t + 3 + p.length)) (.t (t + 6 + p.length)))⟩]))) (badC (t + 7 + p.length)),
      incC (t + 8 + p.length)], t + 10 + p.length)
  | .slice _ _ => ([.reg ([⟨some t, none, .f (.mv (.t 0))⟩, ⟨some (t + 1), none, .f (.mv (.t 5))⟩, ⟨some (t + 2), none, .f (.iadr sz (.t t) (.t (t + 1)))⟩] ++ (fadrs p (t + 2) ++
      [⟨some (t + 3 + p.length), none, .f (.ld (.t (t + 2 + p.length)))⟩, ⟨some (t + 4 + p.length), none, .f (.mv (.t 1))⟩, ⟨some (t + 5 + p.length), none, .x (.call g [.t (t + 3 + p.length), .t (t + 4 + p.length)])⟩,
       ⟨some 1, none, .f (.mv (.t (t + 5 + p.length)))⟩])),
      .seq (.reg [⟨some (t + 6 + p.length), none, .f (.mv (.t 1))⟩, ⟨some (t + 7 + p.length), none, .f (.bin .lss (.t (t + 6 + p.length)) (.c (.int .i64 0)))⟩]) (badC (t + 7 + p.length))], t + 8 + p.length)
  | .str => match p with
    | [o] => ([.seq (.dreg [⟨some t, none, .f (.mv (.t 0))⟩, ⟨some (t + 1), none, .f (.mv (.t 5))⟩, ⟨some (t + 2), none, .f (.iadr sz (.t t) (.t (t + 1)))⟩, ⟨some (t + 3), none, .f (.fadr o (.t (t + 2)))⟩, ⟨some (t + 4), none, .f (.ld (.t (t + 3)))⟩,
        ⟨some (t + 5), none, .f (.mv (.t 1))⟩, ⟨some (t + 6), none, .x (.call g [.t (t + 5)])⟩, ⟨some (t + 7), none, .f (.bin .neq (.t (t + 4)) (.t (t + 6)))⟩]
        [false, false, false, false, false, false, true, false] [[], [], [0, 1], [2, 0, 1], [3, 2, 0, 1], [], [5], [4, 3, 2, 0, 1, 6, 5]] [0, 1, 2, 3, 4, 5, 6, 7]) (badC (t + 7)), incC (t + 8)], t + 10)
    | _ => ([incC t], t + 2)
  | _ => ([], t)
def hdC (sz : Nat) : Ty → List Nat → Nat → List Nat → Nat → List CC × List Nat × Nat
  | .nil, _, _, q, t => ([], q, t)
  | .str, p, _, q, t => ((hdLf sz p (q.headD 0) t .str).1, q.tail, (hdLf sz p (q.headD 0) t .str).2)
  | .slice el e, p, _, q, t => ((hdLf sz p (q.headD 0) t (.slice el e)).1, q.tail, (hdLf sz p (q.headD 0) t (.slice el e)).2)
  | .bool, p, _, q, t => ((hdLf sz p 0 t .bool).1, q, (hdLf sz p 0 t .bool).2)
  | .int k, p, _, q, t => ((hdLf sz p 0 t (.int k)).1, q, (hdLf sz p 0 t (.int k)).2)
  | .cat a b, p, off, q, t =>
    ((hdC sz a (p ++ [off]) 0 q t).1 ++ (hdC sz b p (off + a.sz) (hdC sz a (p ++ [off]) 0 q t).2.1 (hdC sz a (p ++ [off]) 0 q t).2.2).1,
     (hdC sz b p (off + a.sz) (hdC sz a (p ++ [off]) 0 q t).2.1 (hdC sz a (p ++ [off]) 0 q t).2.2).2)
def hdOk (P : Program) : Ty → List Nat → Prop × List Nat
  | .nil, q => (True, q)
  | .bool, q => (True, q)
  | .int _, q => (True, q)
  | .str, q => (MtC P (q.headD 0), q.tail)
  | .slice el e, q => (HdC P (q.headD 0) (.slice el e), q.tail)
  | .cat a b, q => ((hdOk P a q).1 ∧ (hdOk P b (hdOk P a q).2).1, (hdOk P b (hdOk P a q).2).2)
def heldBody (ty : Ty) (q : List Nat) : List CC × List Nat × Nat := hdC ty.sz ty [] 0 q 12
def heldC (ty : Ty) (q : List Nat) : CC :=
 (.seq (.reg [
   ⟨(some 4), none, .f (.mv (.c (.int .i64 0)))⟩])
 (.seq (.seq (.reg [
   ⟨(some 5), none, .f (.mv (.c (.int .i64 0)))⟩])
 (.block 0 (.loop (.seq (.seq (.reg [
     ⟨(some 6), none, .f (.mv (.t 5))⟩,
     ⟨(some 7), none, .f (.mv (.t 0))⟩,
     ⟨(some 8), none, .f (.len (.t 7))⟩,
     ⟨(some 9), none, .f (.bin .lss (.t 6) (.t 8))⟩])
   (.cond (.t 9)
    .skip
    (.exit 0)))
   (.seq (.block 1 (seqs (heldBody ty q).1))
   (.reg [
     ⟨(some 10), none, .f (.mv (.t 5))⟩,
     ⟨(some 11), none, .f (.bin .add (.t 10) (.c (.int .i64 1)))⟩,
     ⟨(some 5), none, .f (.mv (.t 11))⟩]))))))
 (.seq (.reg [
   ⟨(some (heldBody ty q).2.2), none, .f (.mv (.t 1))⟩,
   ⟨(some 4), none, .f (.mv (.t (heldBody ty q).2.2))⟩])
 .ret)))

/-- A row that is read. -/
structure Look (e : Env) (h : IH) (v : IV) (i kk : Nat) (rs : List (List IV)) (sz : Nat) (row : List IV) : Prop where
  e0 : e 0 = v
  e5 : e 5 = .int .i64 (i : Nat)
  e1 : e 1 = .int .i64 (kk : Nat)
  sl : SlR h sz v rs
  row : rs[i]? = some row
def HStep (P : Program) (c : List CC) (t : Ty) (sz off : Nat) : Prop :=
  ∀ (rest : List CC) (K : EPost) (e : Env) (h : IH) (v : IV) (n0 i kk : Nat) (rs : List (List IV)) (pre cs suf : List IV) (d : Dat), Look e h v i kk rs sz (pre ++ (cs ++ suf)) → pre.length = off → Vw 0 n0 h t cs (mkE t d kk) → n0 ≤ h.n →
    kk + cntE t d + d.tot < 4611686018427387904 →
    (∀ (e' : Env) (h' : IH), e' 0 = v → e' 5 = .int .i64 (i : Nat) → e' 1 = .int .i64 ((kk + cntE t d : Nat) : Int) → Ext h h' → vcs P rest K e' h') →
    vcs P (c ++ rest) K e h
theorem inc_vc {t2 kk i : Nat} {v : IV} {e : Env} {h : IH} {K : EPost} {rest : List CC} (ht : 6 ≤ t2) (e0 : e 0 = v) (e5 : e 5 = .int .i64 (i : Nat)) (e1 : e 1 = .int .i64 (kk : Nat)) (hkk : kk + 1 < 4611686018427387904)
    (hK : ∀ e' : Env, e' 0 = v → e' 5 = .int .i64 (i : Nat) → e' 1 = .int .i64 ((kk + 1 : Nat) : Int) → vcs P rest K e' h) : vcs P (incC t2 :: rest) K e h := by
  have w0 : wr .i64 ((kk : Int) + 1) = ((kk + 1 : Nat) : Int) := by rw [wr64 _ (by omega)]; rfl
  simp (disch := omega) only [incC, vcs_cons, go_sem, upd_eq, upd_ne, e1, w0]
  exact hK _ (by simp (disch := omega) only [upd_ne, e0]) (by simp (disch := omega) only [upd_ne, e5]) (by simp (disch := omega) only [upd_eq, upd_ne])
theorem hdLf_int {sz off g t : Nat} {k : IntKind} {p : List Nat} (ht : 12 ≤ t) (hp : p.sum = off) : HStep P (hdLf sz p g t (.int k)).1 (.int k) sz off := by
  intro rest K e h v n0 i kk rs pre cs suf d S hpl hv hn0 hkk hK
  obtain ⟨x, rfl, hx⟩ := hv
  rw [mkE] at hx
  cases hx
  obtain ⟨l, j, hia, hll, hrow⟩ := S.sl.at S.row .i64
  have hc : cellO (h.obj l) j pre.length = some (.int k (wr k (kk : Int))) := by rw [cellO_row hrow]; exact cell_mid rfl
  simp only [cntE] at hkk hK
  have e0 := S.e0
  have e5 := S.e5
  have e1 := S.e1
  by_cases hk : k = .i64
  · subst hk
    have w0 : wr .i64 (kk : Int) = (kk : Int) := wr64 _ (by omega)
    rw [w0] at hc
    simp (disch := omega) only [hdLf, vcs_cons, List.cons_append, List.nil_append, go_sem, upd_eq, upd_ne, e0, e1, e5, hia]
    refine fadrs_vc (l := l) (i := j) p (t + 2) 0 _ (by simp only [upd_eq]) fun e' h1 h2 => ?_
    have x0 : e' 0 = v := by rw [h1 _ (by omega)]; simp (disch := omega) only [upd_ne, e0]
    have x5 : e' 5 = .int .i64 (i : Nat) := by rw [h1 _ (by omega)]; simp (disch := omega) only [upd_ne, e5]
    have x1 : e' 1 = .int .i64 (kk : Nat) := by rw [h1 _ (by omega)]; simp (disch := omega) only [upd_ne, e1]
    rw [hp, Nat.zero_add, ← hpl] at h2
    simp (disch := omega) only [badC, go_sem, upd_eq, upd_ne, h2, hc, x1, decide_true, Bool.not_true, Hold.p]
    exact inc_vc (by omega) (by simp (disch := omega) only [upd_ne, x0]) (by simp (disch := omega) only [upd_ne, x5]) (by simp (disch := omega) only [upd_ne, x1]) (by omega) fun e2 y0 y5 y1 => hK e2 h y0 y5 y1 (Ext.refl _)
  · have hcd : hdLf sz p g t (.int k) = ([.seq (.reg ([⟨some t, none, .f (.mv (.t 0))⟩, ⟨some (t + 1), none, .f (.mv (.t 5))⟩, ⟨some (t + 2), none, .f (.iadr sz (.t t) (.t (t + 1)))⟩] ++ (fadrs p (t + 2) ++
      [⟨some (t + 3 + p.length), none, .f (.ld (.t (t + 2 + p.length)))⟩, ⟨some (t + 4 + p.length), none, .f (.mv (.t 1))⟩, ⟨some (t + 5 + p.length), none, .f (.cvI k (.t (t + 4 + p.length)))⟩,
       ⟨some (t + 6 + p.length), none, .f (.bin .neq (.t (t + 3 + p.length)) (.t (t + 5 + p.length)))⟩]))) (badC (t + 6 + p.length)), incC (t + 7 + p.length)], t + 9 + p.length) := by
      cases k <;> first | rfl | exact absurd rfl hk
    simp (disch := omega) only [hcd, vcs_cons, List.cons_append, List.nil_append, go_sem, upd_eq, upd_ne, e0, e1, e5, hia]
    refine fadrs_vc (l := l) (i := j) p (t + 2) 0 _ (by simp only [upd_eq]) fun e' h1 h2 => ?_
    have x0 : e' 0 = v := by rw [h1 _ (by omega)]; simp (disch := omega) only [upd_ne, e0]
    have x5 : e' 5 = .int .i64 (i : Nat) := by rw [h1 _ (by omega)]; simp (disch := omega) only [upd_ne, e5]
    have x1 : e' 1 = .int .i64 (kk : Nat) := by rw [h1 _ (by omega)]; simp (disch := omega) only [upd_ne, e1]
    rw [hp, Nat.zero_add, ← hpl] at h2
    simp (disch := omega) only [badC, go_sem, upd_eq, upd_ne, h2, hc, x1, decide_true, Bool.not_true, Hold.p]
    exact inc_vc (by omega) (by simp (disch := omega) only [upd_ne, x0]) (by simp (disch := omega) only [upd_ne, x5]) (by simp (disch := omega) only [upd_ne, x1]) (by omega) fun e2 y0 y5 y1 => hK e2 h y0 y5 y1 (Ext.refl _)
theorem hdLf_bool {sz off g t : Nat} {p : List Nat} (ht : 12 ≤ t) (hp : p.sum = off) : HStep P (hdLf sz p g t .bool).1 .bool sz off := by
  intro rest K e h v n0 i kk rs pre cs suf d S hpl hv hn0 hkk hK
  obtain ⟨x, rfl, hx⟩ := hv
  rw [mkE] at hx
  cases hx
  obtain ⟨l, j, hia, hll, hrow⟩ := S.sl.at S.row .i64
  have hc : cellO (h.obj l) j pre.length = some (.bool (decide ((kk : Int) % 3 = 0))) := by rw [cellO_row hrow]; exact cell_mid rfl
  simp only [cntE] at hkk hK
  have e0 := S.e0
  have e5 := S.e5
  have e1 := S.e1
  have hrem : ibin .rem (.int .i64 (kk : Nat)) (.int .i64 3) = some (.int .i64 (((kk : Nat) : Int) % 3)) := by simp [ibin, Int.tmod_eq_emod_of_nonneg]
  have hbb : ibinB true (.bool (decide ((kk : Int) % 3 = 0))) (.bool (decide ((kk : Int) % 3 = 0))) = some (.bool false) := by simp [ibinB]
  simp (disch := omega) only [hdLf, vcs_cons, List.cons_append, List.nil_append, go_sem, upd_eq, upd_ne, e0, e1, e5, hia]
  refine fadrs_vc (l := l) (i := j) p (t + 2) 0 _ (by simp only [upd_eq]) fun e' h1 h2 => ?_
  have x0 : e' 0 = v := by rw [h1 _ (by omega)]; simp (disch := omega) only [upd_ne, e0]
  have x5 : e' 5 = .int .i64 (i : Nat) := by rw [h1 _ (by omega)]; simp (disch := omega) only [upd_ne, e5]
  have x1 : e' 1 = .int .i64 (kk : Nat) := by rw [h1 _ (by omega)]; simp (disch := omega) only [upd_ne, e1]
  rw [hp, Nat.zero_add, ← hpl] at h2
  simp (disch := omega) only [badC, hbb, go_sem, upd_eq, upd_ne, h2, hc, x1, hrem, Hold.p]
  exact inc_vc (by omega) (by simp (disch := omega) only [upd_ne, x0]) (by simp (disch := omega) only [upd_ne, x5]) (by simp (disch := omega) only [upd_ne, x1]) (by omega) fun e2 y0 y5 y1 => hK e2 h y0 y5 y1 (Ext.refl _)
theorem iadr_ext {h h' : IH} (E : Ext h h') {sz l j k : Nat} {v x : IV} (hl : l < h.n) (hi : iadrF h sz v x = some (.ptr l j k)) : iadrF h' sz v x = some (.ptr l j k) := by
  unfold iadrF at hi ⊢
  split at hi
  · rename_i l0 j0 n0 q m
    have hll : l0 = l := by
      split at hi
      · have := Option.some.inj hi; simp only [IV.ptr.injEq] at this; exact this.1
      · cases hi
    subst hll
    simp only [size_eq, E.obj _ hl]
    simp only [size_eq] at hi
    exact hi
  · cases hi
theorem hdLf_str {sz off g t : Nat} {p : List Nat} (ht : 12 ≤ t) (hp : p.sum = off) (hg : MtC P g) : HStep P (hdLf sz p g t .str).1 .str sz off := by
  intro rest K e h v n0 i kk rs pre cs suf d S hpl hv hn0 hkk hK
  obtain ⟨x, rfl, hx⟩ := hv
  rw [mkE] at hx
  cases hx
  simp only [cntE] at hkk hK
  have e0 := S.e0
  have e5 := S.e5
  have e1 := S.e1
  by_cases hp1 : ∃ o, p = [o]
  · obtain ⟨o, rfl⟩ := hp1
    obtain ⟨l, j, hia, hll, hrow⟩ := S.sl.at S.row .i64
    have ho : o = pre.length := by rw [hpl, ← hp]; simp
    subst ho
    have hc : cellO (h.obj l) j pre.length = some (.str (mtext kk)) := by rw [cellO_row hrow]; exact cell_mid rfl
    simp (disch := first | decide | omega) only [hdLf, vcs_cons, List.cons_append, List.nil_append, go_sem, upd_eq, upd_ne, e0, e1, e5, hia, hc, Nat.zero_add, List.getD_cons_zero, List.getD_cons_succ, List.map_cons, List.map_nil]
    refine callA_of (hg h kk (by omega)) ?_
    rintro r h3 ⟨rfl, E⟩
    have hia3 := iadr_ext E hll hia
    have hc3 : cellO (h3.obj l) j pre.length = some (.str (mtext kk)) := by rw [E.obj l hll, hc]
    simp (disch := first | decide | omega) only [badC, Hold.p, HoldK.k, go_sem, upd_eq, upd_ne, e0, e1, e5, hia3, hc3, Nat.zero_add, List.getD_cons_zero, List.getD_cons_succ, decide_true, Bool.not_true, List.contains_cons, List.contains_nil, Nat.reduceBEq, Bool.or_true, Bool.true_or, Bool.or_false, Bool.false_or, true_and, and_true]
    exact inc_vc (by omega) (by simp (disch := omega) only [upd_ne, e0]) (by simp (disch := omega) only [upd_ne, e5]) (by simp (disch := omega) only [upd_ne, e1]) (by omega) fun e2 y0 y5 y1 => hK e2 h3 y0 y5 y1 E
  · have hcode : (hdLf sz p g t .str).1 = [incC t] := by
      match p, hp1 with
      | [], _ => rfl
      | [o], hn => exact absurd ⟨o, rfl⟩ hn
      | _ :: _ :: _, _ => rfl
    rw [hcode]
    exact inc_vc (by omega) e0 e5 e1 (by omega) fun e2 y0 y5 y1 => hK e2 h y0 y5 y1 (Ext.refl _)
theorem hdLf_slice {sz off g t el : Nat} {ty : Ty} {p : List Nat} (ht : 12 ≤ t) (hp : p.sum = off) (hg : HdC P g (.slice el ty)) : HStep P (hdLf sz p g t (.slice el ty)).1 (.slice el ty) sz off := by
  intro rest K e h v n0 i kk rs pre cs suf d S hpl hv hn0 hkk hK
  have hlen := Vw.len hv
  match cs, hlen with
  | [x], _ =>
  obtain ⟨l, j, hia, hll, hrow⟩ := S.sl.at S.row .i64
  have hc : cellO (h.obj l) j pre.length = some x := by rw [cellO_row hrow]; exact cell_mid rfl
  have e0 := S.e0
  have e5 := S.e5
  have e1 := S.e1
  simp (disch := omega) only [hdLf, vcs_cons, List.cons_append, List.nil_append, go_sem, upd_eq, upd_ne, e0, e1, e5, hia]
  refine fadrs_vc (l := l) (i := j) p (t + 2) 0 _ (by simp only [upd_eq]) fun e' h1 h2 => ?_
  have x0 : e' 0 = v := by rw [h1 _ (by omega)]; simp (disch := omega) only [upd_ne, e0]
  have x5 : e' 5 = .int .i64 (i : Nat) := by rw [h1 _ (by omega)]; simp (disch := omega) only [upd_ne, e5]
  have x1 : e' 1 = .int .i64 (kk : Nat) := by rw [h1 _ (by omega)]; simp (disch := omega) only [upd_ne, e1]
  rw [hp, Nat.zero_add, ← hpl] at h2
  simp (disch := omega) only [go_sem, upd_eq, upd_ne, h2, hc, x1, List.map_cons, List.map_nil]
  have hcall := hg h [x] d kk (hv.wide (Nat.le_refl _) hn0) hkk
  rw [pk_one rfl] at hcall
  refine callA_of hcall ?_
  rintro r h3 ⟨rfl, E⟩
  have d0 : decide (((kk + cntW (.slice el ty) d : Nat) : Int) < 0) = false := decide_eq_false (by omega)
  simp (disch := omega) only [vcs_cons, badC, go_sem, upd_eq, upd_ne, Hold.p, HoldK.k, d0]
  exact hK _ h3 (by simp (disch := omega) only [upd_ne, x0]) (by simp (disch := omega) only [upd_ne, x5]) (by simp (disch := omega) only [upd_eq, upd_ne]; rfl) E
theorem HStep.cat {c1 c2 : List CC} {a b : Ty} {sz off : Nat} (h1 : HStep P c1 a sz off) (h2 : HStep P c2 b sz (off + a.sz)) : HStep P (c1 ++ c2) (.cat a b) sz off := by
  intro rest K e h v n0 i kk rs pre cs suf d S hpl hv hn0 hkk hK
  obtain ⟨x, y, rfl⟩ : ∃ x y, d = .pair x y := by
    obtain ⟨_, _, d1, d2, _, e1, _⟩ := hv
    cases d <;> first | exact ⟨_, _, rfl⟩ | (simp [mkE] at e1)
  obtain ⟨cs1, cs2, d1, d2, rfl, hd, r1, r2⟩ := hv
  rw [mkE] at hd
  cases hd
  simp only [cntE, Dat.tot] at hkk hK
  have hl1 := Rp.len r1
  rw [List.append_assoc]
  refine h1 (c2 ++ rest) K e h v n0 i kk rs pre cs1 (cs2 ++ suf) x ⟨S.e0, S.e5, S.e1, S.sl, by rw [S.row, List.append_assoc]⟩ hpl r1 hn0 (by omega) ?_
  intro e' h' x0 x5 x1 E1
  refine h2 rest K e' h' v n0 i (kk + cntE a x) rs (pre ++ cs1) cs2 suf y ⟨x0, x5, x1, S.sl.ext E1, by rw [S.row]; simp⟩ (by rw [List.length_append]; omega) (Vw.ext r2 E1) (Nat.le_trans hn0 E1.le) (by omega) ?_
  intro e2 h2' y0 y5 y1 E2
  exact hK e2 h2' y0 y5 (by rw [y1, Nat.add_assoc]) (E1.trans E2)
theorem HStep.none {sz off : Nat} : HStep P [] .nil sz off := by
  intro rest K e h v n0 i kk rs pre cs suf d S hpl hv hn0 hkk hK
  exact hK e h S.e0 S.e5 (by rw [cntE]; exact S.e1) (Ext.refl _)
theorem hdC_step {sz : Nat} : ∀ (ty : Ty) (p : List Nat) (off : Nat) (q : List Nat) (t : Nat), 12 ≤ t → ty.okT = true → (ty.one = true → off = 0) → (hdOk P ty q).1 →
    (hdC sz ty p off q t).2.1 = (hdOk P ty q).2 ∧ t ≤ (hdC sz ty p off q t).2.2 ∧ HStep P (hdC sz ty p off q t).1 ty sz (p.sum + off)
  | .nil, p, off, q, t, ht, _, _, _ => ⟨rfl, Nat.le_refl _, HStep.none⟩
  | .bool, p, off, q, t, ht, _, h0, _ => ⟨rfl, by show t ≤ t + 10 + p.length; omega, by rw [h0 rfl]; exact hdLf_bool (g := 0) ht rfl⟩
  | .int k, p, off, q, t, ht, _, h0, _ => ⟨rfl, by show t ≤ (hdLf sz p 0 t (.int k)).2; cases k <;> simp only [hdLf] <;> omega, by rw [h0 rfl]; exact hdLf_int (g := 0) ht rfl⟩
  | .str, p, off, q, t, ht, _, h0, hg => ⟨rfl, by show t ≤ (hdLf sz p (q.headD 0) t .str).2; match p with | [] => (show t ≤ t + 2; omega) | [_] => (show t ≤ t + 10; omega) | _ :: _ :: _ => (show t ≤ t + 2; omega), by rw [h0 rfl]; exact hdLf_str ht rfl hg⟩
  | .slice el e, p, off, q, t, ht, _, h0, hg => ⟨rfl, by show t ≤ t + 8 + p.length; omega, by rw [h0 rfl]; exact hdLf_slice ht rfl hg⟩
  | .cat a b, p, off, q, t, ht, hok, _, hg => by
    simp only [Ty.okT, Bool.and_eq_true, Bool.not_eq_true'] at hok
    obtain ⟨⟨hb, oka⟩, okb⟩ := hok
    obtain ⟨g1, g2⟩ := hg
    obtain ⟨a1, a2, a3⟩ := hdC_step (sz := sz) a (p ++ [off]) 0 q t ht oka (fun _ => rfl) g1
    rw [← a1] at g2
    obtain ⟨b1, b2, b3⟩ := hdC_step (sz := sz) b p (off + a.sz) _ _ (Nat.le_trans ht a2) okb (fun h => by rw [hb] at h; cases h) g2
    refine ⟨?_, Nat.le_trans a2 b2, ?_⟩
    · show (hdC sz b p (off + a.sz) (hdC sz a (p ++ [off]) 0 q t).2.1 (hdC sz a (p ++ [off]) 0 q t).2.2).2.1 = _
      rw [b1, a1]; rfl
    · refine HStep.cat ?_ ?_
      · have := a3
        simp only [List.sum_append, List.sum_cons, List.sum_nil, Nat.add_zero] at this
        exact this
      · rw [Nat.add_assoc]; exact b3
theorem mkL_at {e : Ty} {ds : List Dat} {k k0 : Nat} {x : Dat} (h : ds[k]? = some x) : (mkL e ds k0)[k]? = some (mkE e x (k0 + cntL e (ds.take k))) := by
  induction ds generalizing k k0 with
  | nil => simp at h
  | cons a l ih =>
    cases k with
    | zero => simp at h; subst h; simp [mkL, cntL]
    | succ k =>
      simp at h
      simp only [mkL, List.getElem?_cons_succ, List.take_succ_cons, cntL]
      rw [ih h, Nat.add_assoc]
theorem cntL_le {ty : Ty} : ∀ (l : List Dat) (j : Nat), cntL ty (l.take j) ≤ cntL ty l := by
  intro l
  induction l with
  | nil => intro j; simp [cntL]
  | cons a l ih => intro j; cases j with
    | zero => simp [cntL]
    | succ j => simp only [List.take_succ_cons, cntL]; have := ih j; omega
set_option maxRecDepth 20000 in
theorem held_calls {f N el : Nat} {ty : Ty} {q : List Nat} (hf : fnComp P f = some (N, heldC ty q, [.mv (.t 4)])) (hN : 2 ≤ N) (hok : ty.okT = true) (hq : (hdOk P ty q).1) : HdC P f (.slice el ty) := by
  intro h cs d k0 hv hkk
  obtain ⟨m1, m2, m3⟩ := hdC_step (P := P) (sz := ty.sz) ty [] 0 q 12 (Nat.le_refl _) hok (fun _ => rfl) hq
  have hd : ∃ ds, d = .list ds := by
    obtain ⟨_, _, _, _, e, _⟩ := hv
    cases d <;> first | exact ⟨_, rfl⟩ | (simp [mkW, mkE] at e)
  obtain ⟨ds, rfl⟩ := hd
  obtain ⟨v, rs, ms, rfl, hms, hs, hS, hall⟩ := hv
  rw [mkW, mkE] at hms
  cases hms
  rw [pk_one rfl]
  refine icalls (.of hf) (by simpa using hN) ?_
  unfold heldC heldBody
  generalize hc : hdC ty.sz ty [] 0 q 12 = c at m1 m2 m3
  obtain ⟨cl, cq, ct⟩ := c
  simp only at m1 m2 m3 ⊢
  simp only [cntW, cntE, Dat.tot] at hkk
  simp only [cntW, cntE]
  have hlen := hs.lenF
  rw [hall.len, mkL_len] at hlen
  simp only [hlen, go_sem, Hold.p, HoldK.k, HoldL.K, HoldL.body, Nat.reduceBEq, Nat.reduceAdd, List.getElem?_cons_zero, List.getElem?_cons_succ, Option.bind_some, List.map_cons, List.map_nil, Nat.zero_add, if_true, List.getD_cons_zero, List.getD_cons_succ, List.contains_cons, List.contains_nil, Nat.reduceBEq, Bool.or_true, Bool.true_or, Bool.or_false, Bool.false_or, Bool.not_true, Bool.not_false, true_and, and_true]
  refine loop_at (fun n e h' => ∃ k, n = ds.length - k ∧ k ≤ ds.length ∧ e 0 = v ∧ e 1 = .int .i64 ((k0 + cntL ty (ds.take k) : Nat) : Int) ∧ e 5 = .int .i64 (k : Nat) ∧ Ext h h') ds.length ?_ ?_
  · refine ⟨0, by omega, by omega, ?_⟩
    simp only [List.take_zero, cntL, Nat.add_zero, go_sem, Hold.p, HoldK.k, HoldL.K, HoldL.body, Nat.reduceBEq, Nat.reduceAdd, List.getElem?_cons_zero, List.getElem?_cons_succ, Option.bind_some, List.map_cons, List.map_nil, Nat.zero_add, if_true, List.getD_cons_zero, List.getD_cons_succ, List.contains_cons, List.contains_nil, Nat.reduceBEq, Bool.or_true, Bool.true_or, Bool.or_false, Bool.false_or, Bool.not_true, Bool.not_false, true_and, and_true]
    exact ⟨rfl, Ext.refl _⟩
  · rintro n e h' ⟨k, rfl, hk, e0, e1, e5, hE⟩
    simp only [e0, e1, e5, hlen, go_sem, Hold.p, HoldK.k, HoldL.K, HoldL.body, Nat.reduceBEq, Nat.reduceAdd, List.getElem?_cons_zero, List.getElem?_cons_succ, Option.bind_some, List.map_cons, List.map_nil, Nat.zero_add, if_true, List.getD_cons_zero, List.getD_cons_succ, List.contains_cons, List.contains_nil, Nat.reduceBEq, Bool.or_true, Bool.true_or, Bool.or_false, Bool.false_or, Bool.not_true, Bool.not_false, true_and, and_true]
    refine test_dec (fun hb => ?_) (fun hb => ?_)
    · have hlt' : k < ds.length := by omega
      have hkd : ds[k]? = some ds[k] := List.getElem?_eq_getElem hlt'
      generalize ds[k] = x at hkd
      obtain ⟨r, hkr, hx⟩ := hall.at (mkL_at (e := ty) (k0 := k0) hkd)
      have hx' : Vw 0 h.n h' ty r (mkE ty x (k0 + cntL ty (ds.take k))) := Rp.same hE.le (fun l _ hn => hE.obj l hn) (fun l hl _ => hl) hx
      have hct := cntL_take (e := ty) hkd
      have htm := tot_mem (List.mem_of_getElem? hkd)
      have hcle := cntL_le (ty := ty) ds (k + 1)
      simp only [e0, e1, e5, go_sem, Hold.p, HoldK.k, HoldL.K, HoldL.body, Nat.reduceBEq, Nat.reduceAdd, List.getElem?_cons_zero, List.getElem?_cons_succ, Option.bind_some, List.map_cons, List.map_nil, Nat.zero_add, if_true, List.getD_cons_zero, List.getD_cons_succ, List.contains_cons, List.contains_nil, Nat.reduceBEq, Bool.or_true, Bool.true_or, Bool.or_false, Bool.false_or, Bool.not_true, Bool.not_false, true_and, and_true]
      rw [vc_seqs, ← List.append_nil cl]
      refine m3 [] _ _ h' v h.n k (k0 + cntL ty (ds.take k)) rs [] r [] x ⟨by simp (disch := omega) only [upd_ne, e0], by simp (disch := omega) only [upd_ne, e5], by simp (disch := omega) only [upd_ne, e1], hs.ext hE, by simpa using hkr⟩ rfl hx' hE.le (by omega) ?_
      intro e2 h2 y0 y5 y1 E2
      simp only [vcs_nil, y0, y1, y5, go_sem, Hold.p, HoldK.k, HoldL.K, HoldL.body, Nat.reduceBEq, Nat.reduceAdd, List.getElem?_cons_zero, List.getElem?_cons_succ, Option.bind_some, List.map_cons, List.map_nil, Nat.zero_add, if_true, List.getD_cons_zero, List.getD_cons_succ, List.contains_cons, List.contains_nil, Nat.reduceBEq, Bool.or_true, Bool.true_or, Bool.or_false, Bool.false_or, Bool.not_true, Bool.not_false, true_and, and_true]
      refine ⟨_, ?_, k + 1, rfl, by omega, by rw [hct, Nat.add_assoc], wr64_succ k (by omega), hE.trans E2⟩
      omega
    · obtain rfl : k = ds.length := by omega
      rw [List.take_length] at e1
      have c1 : (4 == ct) = false := by simp; omega
      simp (disch := omega) only [go_sem, upd_eq, upd_ne, Hold.p, HoldK.k, HoldL.K, e1]
      exact ⟨trivial, hE⟩

end Go.IW

namespace Go.IW
open Go Go.RowKit
variable {P : Program}

theorem wr8 (x : Int) : wr .u8 x = ((UInt8.ofNat (x % 256).toNat).toNat : Int) := by
  have h1 : wr .u8 x = x % 256 := by unfold wr; rw [IntKind.wrap_u8]
  rw [h1]
  have h2 : (x % 256).toNat < 256 := by omega
  simp [UInt8.toNat_ofNat']
  omega
def mtxC (el : Nat) : CC :=
 (.seq (.reg [
   ⟨(some 2), none, .f (.mv (.c (.str [])))⟩])
 (.seq (.seq (.reg [
   ⟨(some 4), none, .f (.mv (.t 0))⟩,
   ⟨(some 5), none, .f (.bin .leq (.t 4) (.c (.int .i64 0)))⟩])
 (.cond (.t 5)
  (.seq (.reg [
    ⟨(some 2), none, .f (.mv (.c (.str [109, 48])))⟩])
  .ret)
  .skip))
 (.seq (.reg [
   ⟨(some 3), none, .f (.mv (.c (.str [])))⟩])
 (.seq (.block 0 (.loop (.seq (.seq (.reg [
     ⟨(some 6), none, .f (.mv (.t 0))⟩,
     ⟨(some 7), none, .f (.bin .gtr (.t 6) (.c (.int .i64 0)))⟩])
   (.cond (.t 7)
    .skip
    (.exit 0)))
   (.block 1 (.seq (.reg [
      ⟨(some 8), none, .f (.mv (.t 0))⟩,
      ⟨(some 9), none, .f (.bin .rem (.t 8) (.c (.int .i64 10)))⟩,
      ⟨(some 10), none, .f (.bin .add (.c (.int .i64 48)) (.t 9))⟩,
      ⟨(some 11), none, .f (.cvI .u8 (.t 10))⟩,
      ⟨(some 12), none, .x (.bslice el 1 [(.int .u8 0)] 1 [(0, (.t 11))])⟩,
      ⟨(some 13), none, .f (.b2s (.t 12))⟩,
      ⟨(some 14), none, .f (.mv (.t 3))⟩,
      ⟨(some 15), none, .f (.bin .add (.t 13) (.t 14))⟩,
      ⟨(some 3), none, .f (.mv (.t 15))⟩])
    (.reg [
      ⟨(some 16), none, .f (.mv (.t 0))⟩,
      ⟨(some 17), none, .f (.bin .quo (.t 16) (.c (.int .i64 10)))⟩,
      ⟨(some 0), none, .f (.mv (.t 17))⟩]))))))
 (.seq (.reg [
   ⟨(some 18), none, .f (.mv (.t 3))⟩,
   ⟨(some 19), none, .f (.bin .add (.c (.str [109])) (.t 18))⟩,
   ⟨(some 2), none, .f (.mv (.t 19))⟩])
 .ret)))))
theorem digs_0 (f : Nat) (acc : List UInt8) : digs f 0 acc = acc := by cases f <;> rfl
set_option maxRecDepth 20000 in
theorem mtx_calls {f el : Nat} (hf : fnComp P f = some (20, mtxC el, [.mv (.t 2)])) : MtC P f := by
  intro h n hn
  refine icalls (.of hf) (Nat.le_of_ble_eq_true rfl) ?_
  unfold mtxC
  by_cases h0 : n = 0
  · subst h0
    have d0 : decide (((0 : Nat) : Int) ≤ 0) = true := rfl
    simp only [d0, go_sem, Hold.p, HoldK.k, HoldL.K, HoldL.body, Nat.reduceBEq, Nat.reduceAdd, List.getElem?_cons_zero, List.getElem?_cons_succ, Option.bind_some, List.map_cons, List.map_nil, Nat.zero_add, if_true, List.getD_cons_zero, List.getD_cons_succ, List.contains_cons, List.contains_nil, Nat.reduceBEq, Bool.or_true, Bool.true_or, Bool.or_false, Bool.false_or, Bool.not_true, Bool.not_false, true_and, and_true]
    exact ⟨rfl, Ext.refl _⟩
  have d0 : decide ((n : Int) ≤ 0) = false := decide_eq_false (by omega)
  simp only [d0, go_sem, Hold.p, HoldK.k, HoldL.K, HoldL.body, Nat.reduceBEq, Nat.reduceAdd, List.getElem?_cons_zero, List.getElem?_cons_succ, Option.bind_some, List.map_cons, List.map_nil, Nat.zero_add, if_true, List.getD_cons_zero, List.getD_cons_succ, List.contains_cons, List.contains_nil, Nat.reduceBEq, Bool.or_true, Bool.true_or, Bool.or_false, Bool.false_or, Bool.not_true, Bool.not_false, true_and, and_true]
  refine loop_at (fun m e g => ∃ f k acc, m = k ∧ k ≤ f ∧ acc.length + k ≤ n ∧ digs f k acc = digs n n [] ∧ e 0 = .int .i64 (k : Nat) ∧ e 3 = .str acc ∧ Ext h g) n ?_ ?_
  · refine ⟨n, n, [], rfl, Nat.le_refl _, by simp, rfl, ?_⟩
    simp only [go_sem, Hold.p, HoldK.k, HoldL.K, HoldL.body, Nat.reduceBEq, Nat.reduceAdd, List.getElem?_cons_zero, List.getElem?_cons_succ, Option.bind_some, List.map_cons, List.map_nil, Nat.zero_add, if_true, List.getD_cons_zero, List.getD_cons_succ, List.contains_cons, List.contains_nil, Nat.reduceBEq, Bool.or_true, Bool.true_or, Bool.or_false, Bool.false_or, Bool.not_true, Bool.not_false, true_and, and_true]
    exact Ext.refl _
  · rintro m e g ⟨f, k, acc, rfl, hf, hl, hd, e0, e3, E⟩
    simp only [e0, e3, go_sem, Hold.p, HoldK.k, HoldL.K, HoldL.body, Nat.reduceBEq, Nat.reduceAdd, List.getElem?_cons_zero, List.getElem?_cons_succ, Option.bind_some, List.map_cons, List.map_nil, Nat.zero_add, if_true, List.getD_cons_zero, List.getD_cons_succ, List.contains_cons, List.contains_nil, Nat.reduceBEq, Bool.or_true, Bool.true_or, Bool.or_false, Bool.false_or, Bool.not_true, Bool.not_false, true_and, and_true]
    refine test_dec (fun hb => ?_) (fun hb => ?_)
    · obtain ⟨f', rfl⟩ : ∃ f', f = f' + 1 := ⟨f - 1, by omega⟩
      have w1 : ibin .rem (.int .i64 (m : Nat)) (.int .i64 10) = some (.int .i64 ((m % 10 : Nat) : Int)) := by
        simp [ibin, Int.tmod_eq_emod_of_nonneg]
      have w2 : wr .i64 (48 + ((m % 10 : Nat) : Int)) = ((48 + m % 10 : Nat) : Int) := by rw [wr64 _ (by omega)]; rfl
      have w3 : wr .u8 ((48 + m % 10 : Nat) : Int) = ((UInt8.ofNat (48 + m % 10)).toNat : Int) := by
        rw [wr8]; congr 2; congr 1; omega
      have w4 : ibin .quo (.int .i64 (m : Nat)) (.int .i64 10) = some (.int .i64 ((m / 10 : Nat) : Int)) := by
        have : wr .i64 ((m / 10 : Nat) : Int) = ((m / 10 : Nat) : Int) := wr64 _ (by omega)
        simp [ibin, Int.tdiv_eq_ediv_of_nonneg, this]
        exact this
      have hbb : bytesOf (List.take 1 (List.drop 0 [[IV.int .u8 ((UInt8.ofNat (48 + m % 10)).toNat : Int)]])) = some [UInt8.ofNat (48 + m % 10)] := bytesOf_strRows [UInt8.ofNat (48 + m % 10)]
      have hadd : ibin .add (.str [UInt8.ofNat (48 + m % 10)]) (.str acc) = some (.str (UInt8.ofNat (48 + m % 10) :: acc)) := by
        have : [UInt8.ofNat (48 + m % 10)].length + acc.length ≤ 9223372036854775807 := by simp; omega
        simp only [ibin, if_pos this]; rfl
      simp only [e0, e3, w1, w2, w3, w4, bslA_1, cells_int, List.length_singleton, List.all_cons, List.all_nil, one_int, Bool.and_true, hbb, hadd, Nat.le_refl, Option.map_some, go_sem, Hold.p, HoldK.k, HoldL.K, HoldL.body, Nat.reduceBEq, Nat.reduceAdd, List.getElem?_cons_zero, List.getElem?_cons_succ, Option.bind_some, List.map_cons, List.map_nil, Nat.zero_add, if_true, List.getD_cons_zero, List.getD_cons_succ, List.contains_cons, List.contains_nil, Nat.reduceBEq, Bool.or_true, Bool.true_or, Bool.or_false, Bool.false_or, Bool.not_true, Bool.not_false, true_and, and_true]
      refine ⟨m / 10, by omega, f', m / 10, _, rfl, by omega, ?_, ?_, rfl, rfl, E.push _⟩
      · simp; omega
      · rw [← hd, digs, if_neg (by omega)]
    · obtain rfl : m = 0 := by omega
      rw [digs_0] at hd
      have hadd : ibin .add (.str [109]) (.str acc) = some (.str (109 :: acc)) := by
        have : ([109] : List UInt8).length + acc.length ≤ 9223372036854775807 := by simp; omega
        simp only [ibin, if_pos this]; rfl
      simp only [e0, e3, hadd, go_sem, Hold.p, HoldK.k, HoldL.K, HoldL.body, Nat.reduceBEq, Nat.reduceAdd, List.getElem?_cons_zero, List.getElem?_cons_succ, Option.bind_some, List.map_cons, List.map_nil, Nat.zero_add, if_true, List.getD_cons_zero, List.getD_cons_succ, List.contains_cons, List.contains_nil, Nat.reduceBEq, Bool.or_true, Bool.true_or, Bool.or_false, Bool.false_or, Bool.not_true, Bool.not_false, true_and, and_true]
      refine ⟨?_, E⟩
      unfold mtext
      rw [if_neg h0, hd]

/-! The shapes in which they are used. -/
section
variable {g el : Nat} {e t : Ty} {h : IH} {d : Dat}
theorem one_list {t : Ty} (ht : t.one = true) {cs : List IV} (hl : cs.length = t.sz) : ∃ v, cs = [v] := by
  rw [one_sz ht] at hl
  match cs, hl with
  | [v], _ => exact ⟨v, rfl⟩
theorem ToC.sl (hg : ToC P g (.slice el e)) {v : IV} (hv : Vw 0 h.n h (.slice el e) [v] d) (hd : d.tot ≤ 1048576) : ICalls P g [v] h fun r h' => Ow h.n h'.n h' (.slice el e) [r] d ∧ Ext h h' := by
  refine (hg h [v] d hv hd).mono ?_
  rintro r h' ⟨cs', rfl, o, E⟩
  obtain ⟨w, rfl⟩ := one_list rfl o.len
  exact ⟨o, E⟩
theorem ToC.st (hg : ToC P g t) (ht : t.one = false) {cs : List IV} (hv : Vw 0 h.n h t cs d) (hd : d.tot ≤ 1048576) : ICalls P g [.agg cs] h fun r h' => ∃ cs', r = .agg cs' ∧ Ow h.n h'.n h' t cs' d ∧ Ext h h' := by
  have := hg h cs d hv hd
  rw [pk_agg ht] at this
  refine this.mono ?_
  rintro r h' ⟨cs', rfl, o, E⟩
  exact ⟨cs', pk_agg ht, o, E⟩
theorem SzC.sl (hg : SzC P g (.slice el e)) {v : IV} {left : Int} (hv : Vw 0 h.n h (.slice el e) [v] d) (hd : d.ok) (hl : 0 ≤ left ∧ left ≤ 1048576) : ICalls P g [v, .int .i64 left] h fun r h' => SzR left r d.tot ∧ Ext h h' := hg h [v] d left hv hd hl
theorem SzC.st (hg : SzC P g t) (ht : t.one = false) {cs : List IV} {left : Int} (hv : Vw 0 h.n h t cs d) (hd : d.ok) (hl : 0 ≤ left ∧ left ≤ 1048576) : ICalls P g [.agg cs, .int .i64 left] h fun r h' => SzR left r d.tot ∧ Ext h h' := by
  have := hg h cs d left hv hd hl
  rwa [pk_agg ht] at this
theorem EqC.sl (hg : EqC P g (.slice el e)) {v w : IV} (hv : Vw 0 h.n h (.slice el e) [v] d) (hw : Vw 0 h.n h (.slice el e) [w] d) (hd : d.tot ≤ 4611686018427387903) : ICalls P g [v, w] h fun r h' => r = .bool true ∧ Ext h h' := hg h [v] [w] d hv hw hd
theorem EqC.st (hg : EqC P g t) (ht : t.one = false) {c1 c2 : List IV} (hv : Vw 0 h.n h t c1 d) (hw : Vw 0 h.n h t c2 d) (hd : d.tot ≤ 4611686018427387903) : ICalls P g [.agg c1, .agg c2] h fun r h' => r = .bool true ∧ Ext h h' := by
  have := hg h c1 c2 d hv hw hd
  rwa [pk_agg ht, pk_agg ht] at this
theorem MkC.sl (hg : MkC P g (.slice el e)) {lo hi k : Nat} {v : IV} (ho : Ow lo hi h (.slice el e) [v] d) (hk : k + cntW (.slice el e) d + d.tot < 4611686018427387904) :
    ICalls P g [v, .int .i64 (k : Int)] h fun r h' => r = .int .i64 ((k + cntW (.slice el e) d : Nat) : Int) ∧ Ow lo hi h' (.slice el e) [v] (mkW (.slice el e) d k) ∧ Trn lo hi h h' := hg.ow ho hk
theorem MkC.st (hg : MkC P g t) (ht : t.one = false) {lo hi k : Nat} {cs : List IV} (ho : Ow lo hi h t cs d) (hk : k + cntW t d + d.tot < 4611686018427387904) :
    ICalls P g [.agg cs, .int .i64 (k : Int)] h fun r h' => r = .int .i64 ((k + cntW t d : Nat) : Int) ∧ Ow lo hi h' t cs (mkW t d k) ∧ Trn lo hi h h' := by
  have := hg.ow ho hk
  rwa [pk_agg ht] at this
theorem HdC.sl (hg : HdC P g (.slice el e)) {k : Nat} {v : IV} (hv : Vw 0 h.n h (.slice el e) [v] (mkW (.slice el e) d k)) (hk : k + cntW (.slice el e) d + d.tot < 4611686018427387904) :
    ICalls P g [v, .int .i64 (k : Int)] h fun r h' => r = .int .i64 ((k + cntW (.slice el e) d : Nat) : Int) ∧ Ext h h' := hg h [v] d k hv hk
theorem HdC.st (hg : HdC P g t) (ht : t.one = false) {k : Nat} {cs : List IV} (hv : Vw 0 h.n h t cs (mkW t d k)) (hk : k + cntW t d + d.tot < 4611686018427387904) :
    ICalls P g [.agg cs, .int .i64 (k : Int)] h fun r h' => r = .int .i64 ((k + cntW t d : Nat) : Int) ∧ Ext h h' := by
  have := hg h cs d k hv hk
  rwa [pk_agg ht] at this
end
end Go.IW

namespace Go.IW
open Go Go.RowKit

mutual
/-- Numbers within their kinds. -/
def wfD : Ty → Dat → Prop
  | .int k, .int n => (Lit.int k n).wf = true
  | .slice _ e, .list l => wfL e l
  | .cat a b, .pair x y => wfD a x ∧ wfD b y
  | _, _ => True
def wfL (e : Ty) : List Dat → Prop
  | [] => True
  | x :: l => wfD e x ∧ wfL e l
end
theorem fits_vw {h : IH} : ∀ (t : Ty) {cs : List IV}, Fits h t.sh cs → ∃ d, Vw 0 h.n h t cs d ∧ d.ok ∧ wfD t d
  | .nil, _, e => ⟨.unit, ⟨e, rfl⟩, trivial, trivial⟩
  | .bool, _, ⟨b, e⟩ => ⟨.bool b, ⟨b, e, rfl⟩, trivial, trivial⟩
  | .int k, _, ⟨n, e, hw⟩ => ⟨.int n, ⟨n, e, rfl⟩, trivial, hw⟩
  | .str, _, ⟨s, e, hl⟩ => ⟨.str s, ⟨s, e, rfl⟩, hl, trivial⟩
  | .slice el t, _, ⟨v, rs, e, hs, hl, hf⟩ => by
    rw [Ty.sh_sz] at hs
    have key : ∀ rs : List (List IV), (∀ r ∈ rs, Fits h t.sh r) → ∃ ds, All2 (Rp (fun l => 0 ≤ l ∧ l < h.n) h t) rs ds ∧ okL ds ∧ wfL t ds := by
      intro rs
      induction rs with
      | nil => intro _; exact ⟨[], .nil, trivial, trivial⟩
      | cons r rs ih =>
        intro hr
        obtain ⟨d, a, b, c⟩ := fits_vw t (hr r List.mem_cons_self)
        obtain ⟨ds, a2, b2, c2⟩ := ih fun x hx => hr x (List.mem_cons_of_mem _ hx)
        exact ⟨d :: ds, .cons a a2, ⟨b, b2⟩, ⟨c, c2⟩⟩
    obtain ⟨ds, a, b, c⟩ := key rs hf
    exact ⟨.list ds, ⟨v, rs, ds, e, rfl, hs, fun l i n hv => ⟨Nat.zero_le _, hs.lt l i n hv⟩, a⟩, ⟨by rw [← a.len]; exact hl, b⟩, c⟩
  | .cat a b, _, ⟨x, y, e, h1, h2⟩ => by
    obtain ⟨d1, p1, q1, r1⟩ := fits_vw a h1
    obtain ⟨d2, p2, q2, r2⟩ := fits_vw b h2
    exact ⟨.pair d1 d2, ⟨x, y, d1, d2, e, rfl, p1, p2⟩, ⟨q1, q2⟩, ⟨r1, r2⟩⟩
end Go.IW

namespace Go.IW
open Go Go.RowKit
variable {P : Program}

/-- A value that is there only if b. Not to be looked into. -/
def gv (b : Bool) (v : IV) : IV := if b then v else .tuple []
theorem gv_t (v : IV) : gv true v = v := rfl
theorem gv_f (v : IV) : gv false v = .tuple [] := rfl
/-- A guarded step: what is told under b. -/
class HoldG where
  k : IV → Prop
def gpure (b : Bool) (o : Option IV) [K : HoldG] : Prop := if b then (match o with | some v => K.k v | none => False) else K.k (.tuple [])
theorem gp_some (b : Bool) (v : IV) (K : HoldG) : @gpure b (some v) K = K.k (gv b v) := by
  cases b <;> rfl
theorem gpure_lift {b : Bool} {o o' : Option IV} {K : HoldG} (h : b = true → o = o') : @gpure b o K = @gpure b o' K := by
  cases b
  · rfl
  · rw [h rfl]
theorem gp_f (o : Option IV) (K : HoldG) : @gpure false o K = K.k (.tuple []) := rfl

/-- A guard over a known slot. -/
class HoldB where
  k : Env → IH → Prop
def gop (P : Program) (c : IV) (want : Bool) (d : Nat) (k : FK) (e : Env) (h : IH) [K : HoldB] : Prop := match c with
  | .bool b => @gpure (b == want) (feval e h k) ⟨fun v => K.k (upd e d v) h⟩
  | .tuple [] => K.k (upd e d (.tuple [])) h
  | _ => False
@[go_sem ↓ high] theorem vcOp_gpure (d t : Nat) (want : Bool) (k : FK) (K : Env → IH → Prop) (e : Env) (h : IH) : vcOp P ⟨some d, some (t, want), .f k⟩ K e h = @gop P (e t) want d k e h ⟨K⟩ := by
  unfold vcOp gop
  simp only
  cases e t with
  | bool b =>
    cases b <;> cases want <;> simp [gpure, vcK, put] <;> cases feval e h k <;> simp
  | tuple vs => cases vs <;> simp [put]
  | _ => rfl
@[go_sem] theorem gop_bt (b : Bool) (d : Nat) (k : FK) (e : Env) (h : IH) (K : HoldB) : @gop P (.bool b) true d k e h K = @gpure b (feval e h k) ⟨fun v => K.k (upd e d v) h⟩ := by
  unfold gop; simp
@[go_sem] theorem gop_bf (b : Bool) (d : Nat) (k : FK) (e : Env) (h : IH) (K : HoldB) : @gop P (.bool b) false d k e h K = @gpure (!b) (feval e h k) ⟨fun v => K.k (upd e d v) h⟩ := by
  unfold gop; cases b <;> rfl
@[go_sem] theorem gop_u (want : Bool) (d : Nat) (k : FK) (e : Env) (h : IH) (K : HoldB) : @gop P (.tuple []) want d k e h K = K.k (upd e d (.tuple [])) h := by
  unfold gop; rfl
attribute [go_sem] gp_some gp_f HoldG.k HoldB.k gv_t gv_f

section
variable (b : Bool) (K : HoldG) (x y : IV) (h : IH)
@[go_sem] theorem gl_mv : @gpure b (some (gv b x)) K = @gpure b (some x) K := gpure_lift fun e => by rw [e]; rfl
@[go_sem] theorem gl_ld : @gpure b (ldF h (gv b x)) K = @gpure b (ldF h x) K := gpure_lift fun e => by rw [e]; rfl
@[go_sem] theorem gl_ldA (n : Nat) : @gpure b (ldAF h n (gv b x)) K = @gpure b (ldAF h n x) K := gpure_lift fun e => by rw [e]; rfl
@[go_sem] theorem gl_nck : @gpure b (nckF (gv b x)) K = @gpure b (nckF x) K := gpure_lift fun e => by rw [e]; rfl
@[go_sem] theorem gl_fadr (o : Nat) : @gpure b (fadrF o (gv b x)) K = @gpure b (fadrF o x) K := gpure_lift fun e => by rw [e]; rfl
@[go_sem] theorem gl_bin1 (op : BinOp) : @gpure b (ibin op (gv b x) y) K = @gpure b (ibin op x y) K := gpure_lift fun e => by rw [e]; rfl
@[go_sem] theorem gl_bin2 (op : BinOp) : @gpure b (ibin op x (gv b y)) K = @gpure b (ibin op x y) K := gpure_lift fun e => by rw [e]; rfl
@[go_sem] theorem gl_binB1 (g : Bool) : @gpure b (ibinB g (gv b x) y) K = @gpure b (ibinB g x y) K := gpure_lift fun e => by rw [e]; rfl
@[go_sem] theorem gl_binB2 (g : Bool) : @gpure b (ibinB g x (gv b y)) K = @gpure b (ibinB g x y) K := gpure_lift fun e => by rw [e]; rfl
@[go_sem] theorem gl_nil1 (k : NK) (g : Bool) (o : Option Bool) : @gpure b (eqnF g (isNil k (gv b x)) o) K = @gpure b (eqnF g (isNil k x) o) K := gpure_lift fun e => by rw [e]; rfl
@[go_sem] theorem gl_nil2 (k : NK) (g : Bool) (o : Option Bool) : @gpure b (eqnF g o (isNil k (gv b x))) K = @gpure b (eqnF g o (isNil k x)) K := gpure_lift fun e => by rw [e]; rfl
@[go_sem] theorem gl_un (op : UnOp) : @gpure b (iun op (gv b x)) K = @gpure b (iun op x) K := gpure_lift fun e => by rw [e]; rfl
@[go_sem] theorem gl_cvI (k : IntKind) : @gpure b (cvIF k (gv b x)) K = @gpure b (cvIF k x) K := gpure_lift fun e => by rw [e]; rfl
@[go_sem] theorem gl_len : @gpure b (lenF (gv b x)) K = @gpure b (lenF x) K := gpure_lift fun e => by rw [e]; rfl
@[go_sem] theorem gl_lenS : @gpure b (lenSF (gv b x)) K = @gpure b (lenSF x) K := gpure_lift fun e => by rw [e]; rfl
@[go_sem] theorem gl_iadr1 (sz : Nat) : @gpure b (iadrF h sz (gv b x) y) K = @gpure b (iadrF h sz x y) K := gpure_lift fun e => by rw [e]; rfl
@[go_sem] theorem gl_iadr2 (sz : Nat) : @gpure b (iadrF h sz x (gv b y)) K = @gpure b (iadrF h sz x y) K := gpure_lift fun e => by rw [e]; rfl
@[go_sem] theorem gl_idxS1 : @gpure b (idxSF (gv b x) y) K = @gpure b (idxSF x y) K := gpure_lift fun e => by rw [e]; rfl
@[go_sem] theorem gl_idxS2 : @gpure b (idxSF x (gv b y)) K = @gpure b (idxSF x y) K := gpure_lift fun e => by rw [e]; rfl
@[go_sem] theorem gl_ext (i : Nat) : @gpure b (extF i (gv b x)) K = @gpure b (extF i x) K := gpure_lift fun e => by rw [e]; rfl
@[go_sem] theorem gl_fld (o n : Nat) (a : Bool) : @gpure b (fldF o n a (gv b x)) K = @gpure b (fldF o n a x) K := gpure_lift fun e => by rw [e]; rfl
@[go_sem] theorem gl_cell (l i k : Nat) : @gpure b (h.cell l i k) K = @gpure b (cellO (h.obj l) i k) K := by rw [cell_eq]
/-- What comes of a chain. -/
@[go_sem] theorem pick_and (c : Bool) : pickF (.bool b) (gv b (.bool c)) (.bool false) = some (.bool (b && c)) := by cases b <;> rfl
@[go_sem] theorem pick_or (c : Bool) : pickF (.bool b) (.bool true) (gv (!b) (.bool c)) = some (.bool (b || c)) := by cases b <;> rfl
/-- .. inside a chain. -/
@[go_sem] theorem gl_pick1 (z : IV) : @gpure b (pickF (gv b x) y z) K = @gpure b (pickF x y z) K := gpure_lift fun e => by rw [e]; rfl
@[go_sem] theorem gl_pick2 (z : IV) : @gpure b (pickF x (gv b y) z) K = @gpure b (pickF x y z) K := gpure_lift fun e => by rw [e]; rfl
@[go_sem] theorem gl_pick3 (z : IV) : @gpure b (pickF x y (gv b z)) K = @gpure b (pickF x y z) K := gpure_lift fun e => by rw [e]; rfl
end
theorem set_pushT {h : IH} {l : Nat} {a o : IObj} (hl : l = h.n) : (h.push a).set l o = h.push o := set_push (by simp [hl]) a o
theorem set_pushN {h : IH} {l : Nat} {a o : IObj} (hl : l ≠ h.n) : (h.push a).set l o = (h.set l o).push a := set_push_ne (by simp [hl]) a o
theorem mid_get {α : Type} {A B : List α} {r : α} {i : Nat} (hi : A.length = i) : (A ++ r :: B)[i]? = some r := by
  subst hi; simp
theorem mid_set {α : Type} {A B : List α} {r x : α} {i : Nat} (hi : A.length = i) : (A ++ r :: B).set i x = A ++ x :: B := by
  subst hi; simp
/-- A store into one row of several. -/
theorem stO_mid {l i k : Nat} {c : IV} {A B : List (List IV)} {row : List IV} {el sz : Nat} {h : IH} {K : HoldK} (hi : A.length = i) (hk : k < row.length) (hc : c.one = true) :
    @stO 1 i k [c] l (.rows (A ++ row :: B) el sz false) h K = K.k (.tuple []) (h.set l (.rows (A ++ row.set k c :: B) el sz false)) := by
  unfold stO
  simp only [mid_get hi, List.length_singleton, List.all_cons, List.all_nil, hc, Bool.and_true, true_and, wrt, Nat.succ_le_of_lt hk, mid_set hi]
/-! Parts of a text. -/
theorem slcS_hi {s : List UInt8} {m : Nat} {q : IntKind} (h : m ≤ s.length) : slcSF (.str s) none (some (.int q (m : Int))) = some (.str (s.take m)) := by
  rw [slcSF_of (boundF_of (by omega) (by omega)) rfl]; simp
theorem slcS_lo {s : List UInt8} {m : Nat} {q : IntKind} (h : m ≤ s.length) : slcSF (.str s) (some (.int q (m : Int))) none = some (.str (s.drop m)) := by
  rw [slcSF_of rfl (boundF_of (by omega) (by omega))]; simp
theorem ibs_cat {s t : List UInt8} (h : s.length + t.length ≤ 9223372036854775807) : ibin .add (.str s) (.str t) = some (.str (s ++ t)) := if_pos h
theorem iadr_sl {h : IH} {sz l j k : Nat} {v x : IV} (hi : iadrF h sz v x = some (.ptr l j k)) : ∃ i n, v = .slice l i n := by
  unfold iadrF at hi
  split at hi
  · split at hi
    · have := Option.some.inj hi
      simp only [IV.ptr.injEq] at this
      exact ⟨_, _, by rw [this.1]⟩
    · cases hi
  · cases hi
theorem iadr_same {h h' : IH} {sz l j k : Nat} {v x : IV} (hi : iadrF h sz v x = some (.ptr l j k)) (ho : h'.obj l = h.obj l) : iadrF h' sz v x = some (.ptr l j k) := by
  obtain ⟨i, n, rfl⟩ := iadr_sl hi
  cases x with
  | int q m =>
    unfold iadrF at hi ⊢
    simp only [size_eq, ho] at hi ⊢
    exact hi
  | _ => simp [iadrF] at hi
/-- Nothing old has turned but one object. -/
structure Sav (b : Nat) (h g : IH) : Prop where
  le : h.n ≤ g.n
  obj : ∀ m, m < h.n → m ≠ b → g.obj m = h.obj m
theorem Sav.refl (b : Nat) (h : IH) : Sav b h h := ⟨Nat.le_refl _, fun _ _ _ => rfl⟩
theorem Sav.trans {b : Nat} {h g k : IH} (s : Sav b h g) (t : Sav b g k) : Sav b h k := ⟨Nat.le_trans s.le t.le, fun m hm hb => (t.obj m (Nat.lt_of_lt_of_le hm s.le) hb).trans (s.obj m hm hb)⟩
theorem Sav.ext {b : Nat} {h g g' : IH} (s : Sav b h g) (E : Ext g g') : Sav b h g' := ⟨Nat.le_trans s.le E.le, fun m hm hb => (E.obj m (Nat.lt_of_lt_of_le hm s.le)).trans (s.obj m hm hb)⟩
theorem Sav.set {b l : Nat} {h g : IH} (s : Sav b h g) (hl : h.n ≤ l ∨ l = b) (o : IObj) : Sav b h (g.set l o) := ⟨s.le, fun m hm hb => (set_there _ _ _ _ (by omega)).trans (s.obj m hm hb)⟩
theorem Sav.sl {b : Nat} {h g : IH} (s : Sav b h g) {sz : Nat} {v : IV} {rs : List (List IV)} (hs : SlR h sz v rs) (hb : ∀ l i n, v = .slice l i n → l ≠ b) : SlR g sz v rs :=
  hs.same s.le fun l i n hv => s.obj l (hs.lt l i n hv) (hb l i n hv)
/-! The bytes of a constant text. -/
def smO (o : IObj) (v : IV) (h : IH) [K : HoldK] : Prop := match o with | .rows _ _ _ false => K.k v h | _ => False
def smA (x : IV) (h : IH) [K : HoldK] : Prop := match x with | .slice l i n => smO (h.obj l) (.slice l i n) h | _ => False
@[go_sem ↓] theorem act_smark (x : CX) (e : Env) (h : IH) (K : IV → IH → Prop) : act P h e K (.ux .smark [x]) = @smA (x.ev e) h ⟨K⟩ := by
  unfold smA
  simp only [act, uact, List.map_cons, List.map_nil]
  cases x.ev e with
  | slice l i n =>
    simp only [smO]
    cases h.obj l <;> rfl
  | _ => simp
@[go_sem] theorem smA_slice (l i n : Nat) (h : IH) (K : HoldK) : @smA (.slice l i n) h K = @smO (h.obj l) (.slice l i n) h K := nr rfl
@[go_sem] theorem smO_rows (rs : List (List IV)) (e sz : Nat) (v : IV) (h : IH) (K : HoldK) : @smO (.rows rs e sz false) v h K = K.k v h := nr rfl
theorem flat_own {α : Type} {row : α → List IV} {dat : α → Dat} {h : IH} {t : Ty} (hx : ∀ x, Ro h t (row x) (dat x) []) : ∀ xs : List α, All3 (Ro h t) (xs.map row) (xs.map dat) []
  | [] => .nil
  | x :: xs => by
    have := All3.cons (hx x) (flat_own hx xs)
    simpa using this
theorem Own.ow {α : Type} {row : α → List IV} {dat : α → Dat} {lo hi : Nat} {h : IH} {el : Nat} {t : Ty} {v : IV} {xs : List α} (hx : ∀ x, Ro h t (row x) (dat x) []) (ho : Own lo hi h el t.sz v (xs.map row)) (hh : hi ≤ h.n) :
    Ow lo hi h (.slice el t) [v] (.list (xs.map dat)) := by
  rcases ho with ⟨hn, hv⟩ | ⟨l, hne, rfl, h1, h2, h3, hob⟩
  · have : xs = [] := List.map_eq_nil_iff.1 hn
    subst this
    exact Ow.flat rfl ⟨v, [], rfl, rfl, .inl ⟨rfl, rfl, hv⟩⟩ hh
  · refine ⟨⟨[l], ⟨_, _, rfl, rfl, .inr ⟨l, xs.map row, [], ?_, by simp, by omega, hob, rfl, flat_own hx xs⟩⟩, by simp, by simp; omega⟩, hh⟩
    intro he
    exact hne (by rw [List.map_eq_nil_iff] at he; rw [he]; rfl)
theorem Vw.up {lo hi : Nat} {h : IH} {t : Ty} {cs : List IV} {d : Dat} (hv : Vw lo hi h t cs d) (hh : hi ≤ h.n) : Vw 0 h.n h t cs d := hv.wide (Nat.zero_le _) hh
theorem Ow.up {lo hi : Nat} {h : IH} {t : Ty} {cs : List IV} {d : Dat} (ho : Ow lo hi h t cs d) : Vw 0 h.n h t cs d := ho.view.up ho.le
end Go.IW

namespace Go.IW
open Go
/-! A region that draws its order, by what each operation leaves. -/
section
variable {P : Program} (ops : List COp) (anc : List (List Nat)) (n : Nat)
variable {ops anc n}
end
/-! Flat structs held against each other. -/
section
variable (h : IH) (g : Bool) (ks : List Nat) (r r' xs ys : List IV)
@[go_sem] theorem ueval_aeq : ueval h (.aeq g ks) [.agg xs, .agg ys] = (aeqV ks xs ys).map fun b => .bool (b != g) := rfl
@[go_sem] theorem aeqV_nil : aeqV [] [] [] = some true := rfl
@[go_sem] theorem aeqV_int (k : IntKind) (a b : Int) : aeqV (0 :: ks) (.int k a :: r) (.int k b :: r') = (aeqV ks r r').map fun t => decide (a = b) && t := by simp [aeqV]
@[go_sem] theorem aeqV_str (a b : List UInt8) : aeqV (1 :: ks) (.str a :: r) (.str b :: r') = (aeqV ks r r').map fun t => decide (a = b) && t := rfl
@[go_sem] theorem aeqV_bool (a b : Bool) : aeqV (2 :: ks) (.bool a :: r) (.bool b :: r') = (aeqV ks r r').map fun t => decide (a = b) && t := rfl
end
end Go.IW

namespace Go.IW
open Go Go.RowKit

/-- The heap has grown: nothing that was there has turned. -/
theorem WRel.grew {ρ : List RLoc} {B : Nat} {w w' : World} {h : IH} (hw : WRel ρ B w h) (hb : Below w.heap.size w w') : WRel ρ B w' h := by
  refine ⟨hw.len, Nat.le_trans hw.base hb.size, fun l r hr => ?_, hw.excl⟩
  have h0 := hw.obj l r hr
  by_cases hl : (h.obj l).live = true
  · exact h0.congr (hb.block _ (h0.block_lt hl))
  · cases ho : h.obj l with
    | dead => exact trivial
    | rows rs e sz ro => rw [ho] at hl; simp [IObj.live] at hl

/-- A library function that leaves what was there as it was. -/
theorem lib_calls {P : Program} {f : Nat} {args : List IV} {h : IH} {v : IV} (he : ∀ (args : Array Value) (w : World), (callFunc f args).run P w = .ok (.enter f args) w)
    (hr : ∀ (ρ : List RLoc) (B : Nat) (w : World) (args' : Array Value), GOk P B w → WRel ρ B w h → LRel ρ args'.toList args → ∃ v', VRel ρ v' v ∧ Calls P f args' w fun e w' => e = .returned v' ∧ Below w.heap.size w w') :
    ICalls P f args h fun r h' => r = v ∧ h' = h := by
  intro ρ B w args' hg hw ha
  obtain ⟨v', hv, hc⟩ := hr ρ B w args' hg hw ha
  rw [he]
  simp only [UponF]
  refine hc.mono fun e w' ⟨h1, h2⟩ => ?_
  subst h1
  exact ⟨ρ, v, h, List.prefix_refl _, hw.grew h2, hv, h2.mono hw.base, rfl, rfl⟩

theorem int_rel {ρ : List RLoc} {x : Value} {k : IntKind} {n : Int} (h : VRel ρ x (.int k n)) : x = .int k n := by
  generalize hv : IV.int k n = v at h
  cases h <;> cases hv
  rfl

/-- Where the rows of a slice lie. -/
theorem SlR.mem {ρ : List RLoc} {B : Nat} {w : World} {h : IH} {x : Value} {v : IV} {rs : List (List IV)} (hw : WRel ρ B w h) (hx : VRel ρ x v) (hs : SlR h 1 v rs) (hne : rs ≠ []) :
    ∃ bk o c news, x = .slice (some ⟨bk, o, none⟩) rs.length c ∧ rs.length ≤ c ∧ LRel ρ news rs.flatten ∧ news.length = rs.length ∧ bk < w.heap.size ∧ ∀ (j : Nat) u, news[j]? = some u → w.cell? ⟨bk, o + j, none⟩ = some u := by
  obtain ⟨ad, c, news, e1, hcap, hl, hnl, hok, had, hget⟩ := src_rows hw hx hs.src
  have hsrc := hs.src
  cases hx with
  | @slice l i n c' r h1 h2 h3 h4 =>
    obtain ⟨rs0, e, ro, ho, _⟩ := srcRows_live hsrc
    have hbk : r.block < w.heap.size := (hw.obj l r h1).block_lt (by rw [ho]; rfl)
    simp only [Value.slice.injEq] at e1
    obtain ⟨rfl, rfl, rfl⟩ := e1
    refine ⟨_, _, _, news, rfl, hcap, hl, by simpa using hnl, hbk, fun j u hu => ?_⟩
    have := hget _ rfl j u hu
    rwa [Lib.add_plain] at this
  | _ => first | (simp only [srcRows, Option.some.injEq] at hsrc; exact absurd hsrc.symm hne) | (simp [srcRows] at hsrc; done) | (simp [srcRows] at hsrc; exact absurd hsrc hne)

/-- A slice without rows. -/
theorem SlR.mem0 {ρ : List RLoc} {h : IH} {x : Value} {v : IV} (hx : VRel ρ x v) (hs : SlR h 1 v []) : ∃ a c, x = .slice a 0 c := by
  have hl := hs.len
  cases hx with
  | @slice l i n c' r h1 h2 h3 h4 =>
    simp [ilen] at hl
    subst hl
    exact ⟨_, _, rfl⟩
  | nilslice => exact ⟨_, _, rfl⟩
  | eslice _ _ => exact ⟨_, _, rfl⟩
  | _ => simp [ilen] at hl

/-! Guarded calls of functions that leave the heap as it is: kept whole, as one value. -/
section
variable {P : Program} {f : Nat} {as : List CX} {e : Env} {h : IH} {d : Option Nat} {K : Env → IH → Prop} {b : Bool} {v : IV}
theorem guard_extT (hc : b = true → ICalls P f (as.map (CX.ev e)) h fun r h' => r = v ∧ Ext h h') (hk : ∀ h', Ext h h' → K (put e d (gv b v)) h') :
    @guard (.bool b) true ⟨vcK P (.x (.call f as)) e h fun v h' => K (put e d v) h'⟩ ⟨K (put e d (.tuple [])) h⟩ := by
  refine guard_of (fun hb => ?_) (fun hb => ?_)
  · subst hb
    exact (hc rfl).mono fun r h' ⟨h1, h2⟩ => by subst h1; exact hk h' h2
  · simp at hb; subst hb; exact hk h (Ext.refl _)
end
/-! A chain inside a chain. -/
section
variable {P : Program}
@[go_sem] theorem gv_gv (b : Bool) (v : IV) : gv b (gv b v) = gv b v := by cases b <;> rfl
@[go_sem] theorem gop_gvt (b c : Bool) (d : Nat) (k : FK) (e : Env) (h : IH) (K : HoldB) : @gop P (gv b (.bool c)) true d k e h K = @gpure (b && c) (feval e h k) ⟨fun v => K.k (upd e d v) h⟩ := by
  cases b <;> cases c <;> rfl
@[go_sem] theorem gop_gvf (b c : Bool) (d : Nat) (k : FK) (e : Env) (h : IH) (K : HoldB) : @gop P (gv b (.bool c)) false d k e h K = @gpure (b && !c) (feval e h k) ⟨fun v => K.k (upd e d v) h⟩ := by
  cases b <;> cases c <;> rfl
@[go_sem] theorem gl_pick2c (b c : Bool) (K : HoldG) (x y z : IV) : @gpure b (pickF x (gv (b && c) y) z) K = @gpure b (pickF x (gv c y) z) K := gpure_lift fun e => by rw [e]; rfl
@[go_sem] theorem gl_pick3c (b c : Bool) (K : HoldG) (x y z : IV) : @gpure b (pickF x y (gv (b && c) z)) K = @gpure b (pickF x y (gv c z)) K := gpure_lift fun e => by rw [e]; rfl
end
end Go.IW

namespace Go.IW
open Go Go.RowKit

def bytesD (bs : List UInt8) : Dat := .list (bs.map fun b => .int (b.toNat : Int))
theorem bytesL {S : Nat → Prop} {h : IH} : ∀ {rs : List (List IV)} {ds : List Dat}, All2 (Rp S h (.int .u8)) rs ds → wfL (.int .u8) ds → ∃ bs : List UInt8, rs = strRows bs ∧ ds = bs.map fun b => .int (b.toNat : Int)
  | _, _, .nil, _ => ⟨[], rfl, rfl⟩
  | _, _, .cons (a := r) (b := d) h1 h2, hw => by
    obtain ⟨n, rfl, rfl⟩ := h1
    obtain ⟨bs, rfl, rfl⟩ := bytesL h2 hw.2
    have hn : (Lit.int .u8 n).wf = true := hw.1
    have hr : 0 ≤ n ∧ n < 256 := by
      simp [Lit.wf, IntKind.min, IntKind.max, IntKind.signed, IntKind.bits] at hn
      omega
    refine ⟨UInt8.ofNat n.toNat :: bs, ?_, ?_⟩
    · simp only [strRows, List.map_cons, List.cons.injEq, and_true, IV.int.injEq, true_and]
      rw [UInt8.toNat_ofNat']
      omega
    · simp only [List.map_cons, List.cons.injEq, Dat.int.injEq, and_true]
      rw [UInt8.toNat_ofNat']
      omega
theorem bytes_any {lo hi el : Nat} {h : IH} {v : IV} {d : Dat} (hv : Vw lo hi h (.slice el (.int .u8)) [v] d) (hw : wfD (.slice el (.int .u8)) d) : ∃ bs, d = bytesD bs ∧ SlR h 1 v (strRows bs) := by
  obtain ⟨v', rs, ds, e1, rfl, hs, hS, ha⟩ := hv
  obtain rfl := (List.cons.inj e1).1
  obtain ⟨bs, rfl, rfl⟩ := bytesL ha hw
  exact ⟨bs, rfl, hs⟩
theorem bytesD_wf (el : Nat) (bs : List UInt8) : wfD (.slice el (.int .u8)) (bytesD bs) := by
  show wfL (.int .u8) (bs.map fun b => .int (b.toNat : Int))
  induction bs with
  | nil => trivial
  | cons b bs ih =>
    refine ⟨?_, ih⟩
    have := b.toNat_lt
    show (Lit.int .u8 (b.toNat : Int)).wf = true
    simp [Lit.wf, IntKind.min, IntKind.max, IntKind.signed, IntKind.bits]
    omega
theorem bytesD_inj {a b : List UInt8} (h : bytesD a = bytesD b) : a = b := by
  unfold bytesD at h
  simp only [Dat.list.injEq] at h
  refine (List.map_inj_right (fun x y e => ?_)).1 h
  simp only [Dat.int.injEq] at e
  exact UInt8.toNat_inj.1 (by omega)
theorem bytes_vw {lo hi el : Nat} {h : IH} {v : IV} {bs : List UInt8} (hv : Vw lo hi h (.slice el (.int .u8)) [v] (bytesD bs)) : SlR h 1 v (strRows bs) := by
  obtain ⟨bs', hb, hs⟩ := bytes_any hv (bytesD_wf el bs)
  obtain rfl := bytesD_inj hb
  exact hs
theorem bytesD_tot (bs : List UInt8) : (bytesD bs).tot = bs.length := by
  have : ∀ l : List UInt8, totL (l.map fun b => .int (b.toNat : Int)) = 0 := by
    intro l
    induction l with
    | nil => rfl
    | cons p r ih => simp only [List.map_cons, totL, ih]; rfl
  simp [bytesD, Dat.tot, this]
end Go.IW

namespace Go.IW
open Go Go.RowKit

theorem str_mk {ρ : List RLoc} (l : List UInt8) : VRel ρ (.string ⟨l.toArray⟩) (.str l) := by
  have := VRel.str (ρ := ρ) ⟨l.toArray⟩
  simpa using this
/-- strings.Cut. -/
theorem cut_calls {P : Program} {f G : Nat} (he : ∀ (args : Array Value) (w : World), (callFunc f args).run P w = .ok (.enter f args) w)
    (hc : ∀ (s sep : ByteArray) (m : Int) (w : World), s.size < 4294967281 → w.cell? ⟨G, 0, none⟩ = some (.int .i64 m) →
      Calls P f #[.string s, .string sep] w fun e w' => e = .returned (.tuple #[.string ⟨(Lib.cut s.data.toList sep.data.toList).1.toArray⟩, .string ⟨(Lib.cut s.data.toList sep.data.toList).2.1.toArray⟩, .bool (Lib.cut s.data.toList sep.data.toList).2.2]) ∧ ∃ n, w' = w.drewN n)
    (hg : P.globalNamed "internal/bytealg.MaxLen" = some G) (hm : mxOn = true) {h : IH} {s sep : List UInt8} (hs : s.length < 4294967281) :
    ICalls P f [.str s, .str sep] h fun r h' => r = .tuple [.str (Lib.cut s sep).1, .str (Lib.cut s sep).2.1, .bool (Lib.cut s sep).2.2] ∧ h' = h := by
  refine lib_calls he fun ρ B w args' hG hw ha => ?_
  obtain ⟨x, y, rfl, hx, hy⟩ := args2 ha
  obtain ⟨bx, rfl, rfl⟩ := str_rel hx
  obtain ⟨bz, rfl, rfl⟩ := str_rel hy
  obtain ⟨_, m, hmx⟩ := hG.mx hm G hg
  have hsz : bx.size = bx.data.toList.length := Lib.size_eq bx
  refine ⟨_, LRel.tuple (cs := #[_, _, _]) (LRel.cons (str_mk _) (LRel.cons (str_mk _) (LRel.cons (VRel.bool _) (LRel.nil ρ)))), (hc bx bz m w (by omega) hmx).mono fun e w' ⟨e1, n, e2⟩ => ⟨e1, e2 ▸ below_drewN (Below.refl _ _) n⟩⟩

/-- bytes.Index, of a needle that is there. -/
theorem bindex_calls {P : Program} {f G : Nat} (he : ∀ (args : Array Value) (w : World), (callFunc f args).run P w = .ok (.enter f args) w)
    (hc : ∀ (a1 a2 : Addr) (n c1 k c2 : Nat) (xs ys : List Int) (m : Int) (w : World), xs.length = n → ys.length = k → (∀ x ∈ xs, 0 ≤ x ∧ x < 256) → (∀ y ∈ ys, 0 ≤ y ∧ y < 256) →
      (∀ i, i < n → w.cell? (a1.add i) = some (.int .u8 (xs.getD i 0))) → (∀ i, i < k → w.cell? (a2.add i) = some (.int .u8 (ys.getD i 0))) → n ≤ c1 → n < 4294967281 → k ≤ 9223372036854775807 → w.cell? ⟨G, 0, none⟩ = some (.int .i64 m) →
      Calls P f #[.slice (some a1) n c1, .slice (some a2) k c2] w fun e w' => e = .returned (.int .i64 (Lib.index (Lib.bytesOf xs) (Lib.bytesOf ys))) ∧ ∃ q, w' = w.drewN q)
    (hc0 : ∀ (p2 : Option Addr) (k c2 : Nat) (w : World), k ≤ 9223372036854775807 → (k = 1 → ∃ b2 o2 cv, p2 = some ⟨b2, o2, none⟩ ∧ w.cell? ⟨b2, o2, none⟩ = some (.int .u8 cv)) →
      Calls P f #[.slice none 0 0, .slice p2 k c2] w fun e w' => e = .returned (.int .i64 (if k = 0 then 0 else -1)) ∧ w' = w)
    (hg : P.globalNamed "internal/bytealg.MaxLen" = some G) (hm : mxOn = true) {h : IH} {v w0 : IV} {a b : List UInt8} (ha : SlR h 1 v (strRows a)) (hb : SlR h 1 w0 (strRows b)) (hl : a.length < 4294967281) (hbl : 2 ≤ b.length) (hbl2 : b.length ≤ 1000) :
    ICalls P f [v, w0] h fun r h' => r = .int .i64 (Lib.index a b) ∧ h' = h := by
  refine lib_calls he fun ρ B w args' hG hw hargs => ?_
  obtain ⟨x, y, rfl, hx, hy⟩ := args2 hargs
  obtain ⟨_, m, hmx⟩ := hG.mx hm G hg
  have hbne : strRows b ≠ [] := by intro e; have := congrArg List.length e; simp [strRows] at this; subst this; simp at hbl
  have cells : ∀ {l : List UInt8} {news : List Value} {bk o : Nat}, LRel ρ news (strRows l).flatten → news.length = (strRows l).length → (∀ (j : Nat) u, news[j]? = some u → w.cell? ⟨bk, o + j, none⟩ = some u) →
      ∀ i, i < l.length → w.cell? ((⟨bk, o, none⟩ : Addr).add i) = some (.int .u8 ((l.map fun c => (c.toNat : Int)).getD i 0)) := by
    intro l news bk o hL hN hget i hi
    have hi' : i < news.length := by rw [hN]; simpa [strRows] using hi
    have h1 : (strRows l).flatten[i]? = some (.int .u8 ((l[i]'hi).toNat : Int)) := by
      rw [strRows_flat, List.getElem?_map, List.getElem?_eq_getElem hi]; rfl
    have h3 := int_rel (hL.2 i _ _ (List.getElem?_eq_getElem hi') h1)
    rw [Lib.add_plain, hget i _ (List.getElem?_eq_getElem hi'), h3]
    rw [List.getD_eq_getElem?_getD, List.getElem?_map, List.getElem?_eq_getElem hi]; rfl
  have rng : ∀ (l : List UInt8), ∀ z ∈ l.map (fun c => (c.toNat : Int)), 0 ≤ z ∧ z < 256 := by
    intro l z hz
    obtain ⟨c, _, rfl⟩ := List.mem_map.1 hz
    have := c.toNat_lt
    omega
  have back : ∀ l : List UInt8, Lib.bytesOf (l.map fun c => (c.toNat : Int)) = l := by
    intro l
    unfold Lib.bytesOf
    rw [List.map_map]
    induction l with
    | nil => rfl
    | cons c l ih =>
      rw [List.map_cons, ih]
      congr 1
      show UInt8.ofNat ((c.toNat : Int)).toNat = c
      simp
  obtain ⟨bk2, o2, c2, news2, rfl, hcap2, hl2, hn2, hbk2, hget2⟩ := SlR.mem hw hy hb hbne
  have hb2 : (strRows b).length = b.length := by simp [strRows]
  rw [hb2] at hcap2 ⊢
  by_cases hz : a = []
  · subst hz
    obtain ⟨ad, c, rfl⟩ := SlR.mem0 hx ha
    have hidx : Lib.index [] b = -1 := by
      unfold Lib.index
      cases b with
      | nil => simp at hbl
      | cons c t => rfl
    rw [hidx]
    cases ad with
    | none =>
      have hc' : c = 0 := by
        cases hx with
        | nilslice => rfl
      subst hc'
      refine ⟨.int .i64 (-1), .int _ _, (hc0 (some ⟨bk2, o2, none⟩) b.length c2 w (by omega) (fun e => by omega)).mono fun e w' ⟨e1, e2⟩ => ⟨?_, e2 ▸ Below.refl _ _⟩⟩
      rw [e1, if_neg (by omega)]
    | some a1 =>
      refine ⟨.int .i64 (-1), .int _ _, (hc a1 ⟨bk2, o2, none⟩ 0 c b.length c2 [] (b.map fun c => (c.toNat : Int)) m w rfl (by simp) (by simp) (rng b) (fun i hi => by omega) (cells hl2 hn2 hget2) (by omega) (by omega) (by omega) hmx).mono fun e w' ⟨e1, n, e2⟩ => ⟨?_, e2 ▸ below_drewN (Below.refl _ _) n⟩⟩
      rw [e1, back]
      have : Lib.bytesOf [] = [] := rfl
      rw [this, hidx]
  · have hane : strRows a ≠ [] := by intro e; have := congrArg List.length e; simp [strRows] at this; exact hz this
    obtain ⟨bk1, o1, c1, news1, rfl, hcap1, hl1, hn1, hbk1, hget1⟩ := SlR.mem hw hx ha hane
    have hb1 : (strRows a).length = a.length := by simp [strRows]
    rw [hb1] at hcap1 ⊢
    refine ⟨.int .i64 (Lib.index a b), .int _ _, (hc ⟨bk1, o1, none⟩ ⟨bk2, o2, none⟩ a.length c1 b.length c2 (a.map fun c => (c.toNat : Int)) (b.map fun c => (c.toNat : Int)) m w (by simp) (by simp) (rng a) (rng b) (cells hl1 hn1 hget1) (cells hl2 hn2 hget2) (by omega) (by omega) (by omega) hmx).mono fun e w' ⟨e1, n, e2⟩ => ⟨?_, e2 ▸ below_drewN (Below.refl _ _) n⟩⟩
    rw [e1, back, back]
end Go.IW

namespace Go.IW
open Go Go.RowKit

/-- One more element behind those that are there. -/
theorem Ow.app {lo hi lo2 hi2 lo' : Nat} {h : IH} {el b : Nat} {t : Ty} {v : IV} {cs : List IV} {ds : List Dat} {d : Dat} {K : HoldK}
    (ho : Ow lo hi h (.slice el t) [v] (.list ds)) (hx : Ow lo2 hi2 h t cs d) (hd : hi ≤ lo2 ∨ hi2 ≤ lo) (h1 : lo' ≤ lo) (h2 : lo' ≤ lo2) (h3 : lo' ≤ h.n) (hb : (ds.length + 1) * b ≤ 140737488355328)
    (hk : ∀ v' h', Ow lo' h'.n h' (.slice el t) [v'] (.list (ds ++ [d])) → Trn lo hi h h' → h'.n = h.n + 1 → v'.one = true → v'.cells = [v'] → K.k v' h') : @appA h el t.sz b v (some [cs]) K := by
  obtain ⟨⟨fs, hr, hnd, hin⟩, hhi⟩ := ho
  obtain ⟨⟨f2, hr2, hnd2, hin2⟩, hhi2⟩ := hx
  obtain ⟨v1, ds1, e1, e2, hcase⟩ := hr
  obtain rfl := (List.cons.inj e1).1
  simp only [Dat.list.injEq] at e2
  subst e2
  rcases hcase with ⟨rfl, rfl, rfl | rfl⟩ | ⟨l, rs, gs, h0, rfl, hl, hob, rfl, hall⟩
  · refine appA_new (by simp) (by simpa using hb) (hk _ _ ?_ (Trn.of_ext ((Ext.refl _).push _)) rfl rfl rfl)
    refine ⟨⟨h.n :: f2, ⟨_, _, rfl, rfl, .inr ⟨h.n, [cs], f2, by simp, rfl, by rw [push_n]; omega, push_new _ _, rfl, All3.one (hr2.same (by rw [push_n]; omega) fun x hx => push_old _ _ _ (hr2.lt x hx))⟩⟩, ?_, ?_⟩, Nat.le_refl _⟩
    · exact List.nodup_cons.2 ⟨fun hm => by have := hr2.lt _ hm; omega, hnd2⟩
    · intro x hx
      rw [push_n]
      rcases List.mem_cons.1 hx with rfl | hx
      · omega
      · have := hin2 x hx; have := hr2.lt x hx; omega
  · refine appA_newe (by simp) (by simpa using hb) (hk _ _ ?_ (Trn.of_ext ((Ext.refl _).push _)) rfl rfl rfl)
    refine ⟨⟨h.n :: f2, ⟨_, _, rfl, rfl, .inr ⟨h.n, [cs], f2, by simp, rfl, by rw [push_n]; omega, push_new _ _, rfl, All3.one (hr2.same (by rw [push_n]; omega) fun x hx => push_old _ _ _ (hr2.lt x hx))⟩⟩, ?_, ?_⟩, Nat.le_refl _⟩
    · exact List.nodup_cons.2 ⟨fun hm => by have := hr2.lt _ hm; omega, hnd2⟩
    · intro x hx
      rw [push_n]
      rcases List.mem_cons.1 hx with rfl | hx
      · omega
      · have := hin2 x hx; have := hr2.lt x hx; omega
  · have hrl := hall.len
    have hnl : ds.length = rs.length := hrl.symm
    rw [hnl]
    rw [List.nodup_cons] at hnd
    have hlin := hin l List.mem_cons_self
    have hgn : ∀ x ∈ gs, x < h.n := by
      intro x hx
      have := hin x (List.mem_cons_of_mem _ hx)
      omega
    have hold : ∀ o : IObj, ∀ x, x < h.n → x ≠ l → ((h.set l .dead).push o).obj x = h.obj x := fun o x hx hne => by
      rw [push_old _ _ _ (by rw [set_n]; exact hx), set_there _ _ _ _ hne]
    refine appA_own hob rfl (by simp) (by simp; rw [← hnl]; exact hb) (hk _ _ ?_ ?_ rfl rfl rfl)
    · refine ⟨⟨h.n :: (gs ++ f2), ⟨_, _, rfl, rfl, .inr ⟨h.n, rs ++ [cs], gs ++ f2, by simp, by simp [hnl], by rw [push_n, set_n]; omega, push_new _ _, rfl, ?_⟩⟩, ?_, ?_⟩, Nat.le_refl _⟩
      · refine All3.app (hall.mono fun a c f hf x => x.same (by rw [push_n, set_n]; omega) fun y hy => hold _ y (hgn y (hf y hy)) (fun e => hnd.1 (e ▸ hf y hy))) (All3.one (hr2.same (by rw [push_n, set_n]; omega) fun x hx => hold _ x (hr2.lt x hx) (fun e => by have := hin2 x hx; omega)))
      · refine List.nodup_cons.2 ⟨fun hm => ?_, List.nodup_append.2 ⟨hnd.2, hnd2, fun x hx y hy e => ?_⟩⟩
        · rcases List.mem_append.1 hm with hm | hm
          · have := hgn _ hm; omega
          · have := hr2.lt _ hm; omega
        · subst e
          have := hin x (List.mem_cons_of_mem _ hx)
          have := hin2 x hy
          omega
      · intro x hx
        rw [push_n, set_n]
        rcases List.mem_cons.1 hx with rfl | hx
        · omega
        · rcases List.mem_append.1 hx with hx | hx
          · have := hin x (List.mem_cons_of_mem _ hx); have := hgn x hx; omega
          · have := hin2 x hx; have := hr2.lt x hx; omega
    · exact ⟨by rw [push_n, set_n]; omega, fun x hx hv => hold _ x hx (fun e => hv (by rw [e]; exact hlin))⟩
theorem Ow.nil0 {el : Nat} {t : Ty} (h : IH) : Ow h.n h.n h (.slice el t) [.nilslice] (.list []) :=
  ⟨⟨[], ⟨_, _, rfl, rfl, .inl ⟨rfl, rfl, .inl rfl⟩⟩, List.nodup_nil, fun _ h => by simp at h⟩, Nat.le_refl _⟩
theorem Ow.empty0 {el : Nat} {t : Ty} (h : IH) : Ow h.n h.n h (.slice el t) [.eslice true] (.list []) :=
  ⟨⟨[], ⟨_, _, rfl, rfl, .inl ⟨rfl, rfl, .inr rfl⟩⟩, List.nodup_nil, fun _ h => by simp at h⟩, Nat.le_refl _⟩
end Go.IW

namespace Go.IW
open Go Go.RowKit

theorem cell_lt {w : World} {n : Nat} {v : Value} (h : w.cell? ⟨n, 0, none⟩ = some v) : n < w.heap.size := by
  rcases Nat.lt_or_ge n w.heap.size with h' | h'
  · exact h'
  · unfold World.cell? at h
    rw [Array.getElem?_eq_none h'] at h
    cases h
/-- What a row is to show, where the call is told the shape of its world and one thing more. -/
theorem row_shaped {H : Type} {enc : TypeId × Value → H} {C : Checked} {os : Os} {f : FuncId} {fn : Func} {s : ChangeSpec} {conds : List PathCond} {apart fresh handsOn again : Bool} {X : World → Array Value → Prop}
    (hX : ∀ (w w' : World) (args : Array Value), w.heap = w'.heap → X w args → X w' args)
    (own : ownKnob C.prog.godebug = none) (started : os.Started) (noInit : C.prog.inits.idxOf? f = none) (hfn : C.prog.funcs[f]? = some fn)
    (witness : ∃ (w : World) (tape : Tape) (i : Input), w.os = os ∧ (w.forCall tape i).Shaped C.prog ∧ i.vars = [] ∧ Input.okWide C.prog (w.forCall tape i) .any w.heap.size f i ∧
      ((s.pre enc C.prog fn conds apart (w.forCall tape i).memory i.args ∧ X (w.forCall tape i).memory i.args) ∧ sizedMet enc C.prog fn (OpenSpec.ofChange s) apart (w.forCall tape i).memory i.args) ∧ Assume.holds {} C.prog (lone (Frame.enter C.prog f i.args .normal) [] (w.forCall tape i)))
    (call : ∀ (W : World) (base : Nat) (args : Array Value) (ds gs : List (DataW H)) (before : List MemPlace),
      (∀ (j : Nat) t v, fn.params[j]? = some t → args[j]? = some v → Value.okWide C.prog W .any base t v) → DataW.Whole enc C.prog fn.params.toList s.vars apart W args.toList ds gs before → X W args → W.ShapedOpen C.prog →
      Calls C.prog f args W fun e W' => ∃ v, e = .returned v ∧ s.post enc C.prog fn apart fresh handsOn again W args v W') :
    ReturnsInHanded {} C os f .any (fun w args => (s.pre enc C.prog fn conds apart w args ∧ X w args) ∧ sizedMet enc C.prog fn (OpenSpec.ofChange s) apart w args) (s.post enc C.prog fn apart fresh handsOn again) := by
  refine returnsInHanded_of_calls own started noInit witness fun w tape i _ hshape _ hok hpre _ => ?_
  obtain ⟨_, _, _, fn', hfn', _, _, _, _, hval⟩ := hok
  obtain rfl : fn = fn' := Option.some.inj (hfn.symm.trans hfn')
  obtain ⟨⟨⟨ds, gs, before, hw, _⟩, hx⟩, _⟩ := hpre
  exact (call (w.forCall tape i) w.heap.size i.args ds gs before hval (DataW.Whole.of_heap (w' := w.forCall tape i) (by rfl) hw) (hX _ _ _ (by rfl) hx) hshape).mono fun e W' ⟨v, he, hp⟩ => by
    subst he; exact ChangeSpec.post_blind hp
end Go.IW
