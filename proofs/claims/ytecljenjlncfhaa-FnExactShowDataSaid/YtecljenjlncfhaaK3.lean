import Derived.Test.YtecljenjlncfhaaK2
import Derived.Lib.Builder
import Derived.SizedLaws
import Derived.OpenShut
import Derived.Carry
import Derived.ChangeAnyMap
set_option linter.unusedSimpArgs false
set_option linter.unusedVariables false
set_option autoImplicit false
/- The library's strings.Builder. -/
namespace Go.IW
open Go
variable {P : Program}

@[go_sem] theorem fe_u (k : UK) (xs : List CX) (e : Env) (h : IH) : feval e h (.u k xs) = ueval h k (xs.map (CX.ev e)) := nr rfl
theorem ueval_peq (h : IH) (g : Bool) (l i k : Nat) : ueval h (.peq g) [.ptr l i k, .ptr l i k] = some (.bool (true != g)) := by simp [ueval]
theorem ueval_toU {h : IH} {l e sz : Nat} {r : List IV} {rs : List (List IV)} (ho : h.obj l = .rows (r :: rs) e sz false) (hz : sz ≠ 0) : ueval h .toU [.ptr l 0 0] = some (.ptr l 0 0) := by simp [ueval, ho, hz]
theorem ueval_frU {h : IH} {l e sz : Nat} {r : List IV} {rs : List (List IV)} (ho : h.obj l = .rows (r :: rs) e sz false) : ueval h (.frU e sz) [.ptr l 0 0] = some (.ptr l 0 0) := by simp [ueval, ho]
theorem ueval_sdata {h : IH} {l i n : Nat} (hn : n ≠ 0) : ueval h .sdata [.slice l i n] = some (.ptr l i 0) := by simp [ueval, hn]
theorem ueval_sdata0 (h : IH) : ueval h .sdata [.nilslice] = some .nilptr := rfl
def ustrA (P : Program) (el : Nat) (x y : IV) (h : IH) [K : HoldK] : Prop := uact P h K.k (.ustr el) [x, y]
@[go_sem ↓] theorem act_ustr (el : Nat) (x y : CX) (e : Env) (h : IH) (K : IV → IH → Prop) : act P h e K (.ux (.ustr el) [x, y]) = @ustrA P el (x.ev e) (y.ev e) h ⟨K⟩ := nr rfl
@[go_sem ↓] theorem act_bad (xs : List CX) (e : Env) (h : IH) (K : IV → IH → Prop) : act P h e K (.ux .bad xs) = False := by
  simp only [act, uact]
theorem ustr_of {el l : Nat} {s : List UInt8} {rs : List (List IV)} {h : IH} {K : HoldK} (ho : h.obj l = .rows rs el 1 false) (hs : strRows s = rs) (h0 : s ≠ []) (hl : s.length ≤ 9223372036854775807)
    (hk : K.k (.str s) (h.set l (.rows rs el 1 true))) : @ustrA P el (.ptr l 0 0) (.int .i64 (s.length : Nat)) h K := by
  subst hs
  have hlen : (strRows s).length = s.length := by simp [strRows]
  have hpos : 0 < s.length := List.length_pos_iff.2 h0
  unfold ustrA uact
  simp only [ho]
  refine ⟨trivial, trivial, by omega, by omega, by rw [hlen]; omega, ?_⟩
  have : (strRows s).take ((s.length : Nat) : Int).toNat = strRows s := List.take_of_length_le (by rw [hlen]; omega)
  rw [this, bytesOf_strRows]
  exact hk
theorem ustr_nil {el : Nat} {h : IH} {K : HoldK} (hk : K.k (.str []) h) : @ustrA P el .nilptr (.int .i64 0) h K := ⟨rfl, hk⟩

theorem args1 {ρ : List RLoc} {args' : Array Value} {a : IV} (h : LRel ρ args'.toList [a]) : ∃ x, args' = #[x] ∧ VRel ρ x a := by
  have hl := h.1
  match args', hl with
  | ⟨[x]⟩, _ => exact ⟨x, rfl, h.head⟩
theorem noEscape_calls {f : Nat} {fn : Func} (hf : P.funcs[f]? = some fn) (hname : (fn.name == "runtime.NumGoroutine") = false) (hb : fn.body.isNone = true) (hn : Extern.findNext fn = none) (he : Extern.find fn = some Extern.AbiNoEscape.same)
    (h : IH) (v : IV) : ICalls P f [v] h fun r h' => r = v ∧ h' = h :=
  ext_calls hf hname hb hn he fun ρ args' w ha => by
    obtain ⟨x, rfl, hx⟩ := args1 ha
    exact ⟨x, rfl, hx⟩

/-- The code of copyCheck. -/
def ccC (esc T : Nat) : CC :=
 (.seq (.reg [
   ⟨(some 2), none, .f (.mv (.t 0))⟩,
   ⟨(some 3), none, .f (.nck (.t 2))⟩,
   ⟨(some 4), none, .f (.fadr 0 (.t 3))⟩,
   ⟨(some 5), none, .f (.ld (.t 4))⟩,
   ⟨(some 6), none, .f (.eqn .ptr false (.t 5) (.c .nilptr))⟩])
 (.cond (.t 6)
  (.reg [
    ⟨(some 7), none, .f (.mv (.t 0))⟩,
    ⟨(some 8), none, .f (.mv (.t 0))⟩,
    ⟨(some 9), none, .f (.u .toU [(.t 8)])⟩,
    ⟨(some 10), none, .x (.call esc [(.t 9)])⟩,
    ⟨(some 11), none, .f (.u (.frU T 2) [(.t 10)])⟩,
    ⟨(some 12), none, .f (.nck (.t 7))⟩,
    ⟨(some 13), none, .f (.fadr 0 (.t 12))⟩,
    ⟨none, none, .x (.st 1 (.t 13) (.t 11))⟩])
  (.seq (.reg [
    ⟨(some 14), none, .f (.mv (.t 0))⟩,
    ⟨(some 15), none, .f (.nck (.t 14))⟩,
    ⟨(some 16), none, .f (.fadr 0 (.t 15))⟩,
    ⟨(some 17), none, .f (.ld (.t 16))⟩,
    ⟨(some 18), none, .f (.mv (.t 0))⟩,
    ⟨(some 19), none, .f (.u (.peq true) [(.t 17), (.t 18)])⟩])
  (.cond (.t 19)
   (.reg [
     ⟨none, none, .x (.ux .bad [])⟩])
   .skip))))

/-- A builder that holds a text: fresh or used. -/
structure Bld (T el : Nat) (lo hi : Nat) (h : IH) (p : Nat) (s : List UInt8) : Prop where
  box : ∃ a v, At h p (.rows [[a, v]] T 2 false) ∧ (a = .nilptr ∨ a = .ptr p 0 0) ∧ (v = .nilslice ∨ s ≠ []) ∧ Own lo hi h el 1 v (strRows s)

theorem Bld.ext {T el lo hi : Nat} {h h' : IH} {p : Nat} {s : List UInt8} (b : Bld T el lo hi h p s) (e : Ext h h') : Bld T el lo hi h' p s := by
  obtain ⟨a, v, h1, h2, h3, h4⟩ := b.box
  exact ⟨a, v, h1.ext e, h2, h3, h4.ext e⟩

set_option maxRecDepth 20000 in
theorem copyCheck_calls {f esc T : Nat} (hf : fnComp P f = some (20, ccC esc T, [])) (hesc : ∀ (h : IH) (v : IV), ICalls P esc [v] h fun r h' => r = v ∧ h' = h) {h : IH} {p : Nat} {a v : IV} (hb : At h p (.rows [[a, v]] T 2 false)) (ha : a = .nilptr ∨ a = .ptr p 0 0) :
    ICalls P f [.ptr p 0 0] h fun r h' => r = .tuple [] ∧ h' = h.set p (.rows [[.ptr p 0 0, v]] T 2 false) := by
  refine icalls (.of hf) (Nat.le_of_ble_eq_true rfl) ?_
  unfold ccC
  have h1 := ueval_toU hb.eq (by decide)
  have h2 := ueval_frU hb.eq
  have t1 : (true != false) = true := rfl
  have t2 : (false != false) = false := rfl
  have t3 : (true != true) = false := rfl
  rcases ha with rfl | rfl
  · simp only [hb.eq, h1, h2, t1, go_sem, Hold.p, HoldK.k, HoldL.K, HoldL.body, Nat.reduceBEq, Nat.reduceAdd, List.getElem?_cons_zero, List.getElem?_cons_succ, Option.bind_some, List.map_cons, List.map_nil, Nat.zero_add, if_true, List.getD_cons_zero, List.getD_cons_succ, List.contains_cons, List.contains_nil, Nat.reduceBEq, Bool.or_true, Bool.true_or, Bool.or_false, Bool.false_or, Bool.not_true, Bool.not_false, true_and, and_true, rowA_whole, push_n, set_n, push_obj, set_obj, set_push, set_push_ne, set_set, Nat.add_assoc, Nat.left_eq_add, Nat.add_eq_left, Nat.add_left_cancel_iff, Nat.reduceEqDiff, stO_1s, stO_ws, boxA_s, one_bool, one_int, one_str, one_ptr, one_nilptr, one_slice, one_eslice, one_nilslice, one_func, one_iface, one_niliface, List.all_cons, List.all_nil, List.length_cons, List.length_nil, Nat.reduceLT, Nat.reduceEqDiff, Nat.reduceLeDiff, Bool.and_true, Nat.one_ne_zero, Nat.succ_ne_zero, reduceIte, if_false, List.getElem?_cons_zero, List.set_cons_zero, List.set_cons_succ]
    refine callA_of (hesc h (.ptr p 0 0)) ?_
    rintro r h' ⟨rfl, rfl⟩
    simp only [hb.eq, h1, h2, go_sem, Hold.p, HoldK.k, HoldL.K, HoldL.body, Nat.reduceBEq, Nat.reduceAdd, List.getElem?_cons_zero, List.getElem?_cons_succ, Option.bind_some, List.map_cons, List.map_nil, Nat.zero_add, if_true, List.getD_cons_zero, List.getD_cons_succ, List.contains_cons, List.contains_nil, Nat.reduceBEq, Bool.or_true, Bool.true_or, Bool.or_false, Bool.false_or, Bool.not_true, Bool.not_false, true_and, and_true, rowA_whole, push_n, set_n, push_obj, set_obj, set_push, set_push_ne, set_set, Nat.add_assoc, Nat.left_eq_add, Nat.add_eq_left, Nat.add_left_cancel_iff, Nat.reduceEqDiff, stO_1s, stO_ws, boxA_s, one_bool, one_int, one_str, one_ptr, one_nilptr, one_slice, one_eslice, one_nilslice, one_func, one_iface, one_niliface, List.all_cons, List.all_nil, List.length_cons, List.length_nil, Nat.reduceLT, Nat.reduceEqDiff, Nat.reduceLeDiff, Bool.and_true, Nat.one_ne_zero, Nat.succ_ne_zero, reduceIte, if_false, List.getElem?_cons_zero, List.set_cons_zero, List.set_cons_succ]
  · simp only [hb.eq, ueval_peq, t2, t3, go_sem, Hold.p, HoldK.k, HoldL.K, HoldL.body, Nat.reduceBEq, Nat.reduceAdd, List.getElem?_cons_zero, List.getElem?_cons_succ, Option.bind_some, List.map_cons, List.map_nil, Nat.zero_add, if_true, List.getD_cons_zero, List.getD_cons_succ, List.contains_cons, List.contains_nil, Nat.reduceBEq, Bool.or_true, Bool.true_or, Bool.or_false, Bool.false_or, Bool.not_true, Bool.not_false, true_and, and_true, rowA_whole, push_n, set_n, push_obj, set_obj, set_push, set_push_ne, set_set, Nat.add_assoc, Nat.left_eq_add, Nat.add_eq_left, Nat.add_left_cancel_iff, Nat.reduceEqDiff, stO_1s, stO_ws, boxA_s, one_bool, one_int, one_str, one_ptr, one_nilptr, one_slice, one_eslice, one_nilslice, one_func, one_iface, one_niliface, List.all_cons, List.all_nil, List.length_cons, List.length_nil, Nat.reduceLT, Nat.reduceEqDiff, Nat.reduceLeDiff, Bool.and_true, Nat.one_ne_zero, Nat.succ_ne_zero, reduceIte, if_false, List.getElem?_cons_zero, List.set_cons_zero, List.set_cons_succ]
    exact (set_self hb.eq).symm

/-- The code of WriteByte. -/
def wbC (cc el : Nat) (z : IV) : CC :=
 (.seq (.reg [
   ⟨(some 4), none, .f (.mv (.c .niliface))⟩])
 (.seq (.reg [
   ⟨(some 5), none, .f (.mv (.t 0))⟩,
   ⟨(some 6), none, .x (.call cc [(.t 5)])⟩])
 (.seq (.reg [
   ⟨(some 7), none, .f (.mv (.t 0))⟩,
   ⟨(some 8), none, .f (.mv (.t 0))⟩,
   ⟨(some 9), none, .f (.nck (.t 8))⟩,
   ⟨(some 10), none, .f (.fadr 1 (.t 9))⟩,
   ⟨(some 11), none, .f (.ld (.t 10))⟩,
   ⟨(some 12), none, .f (.mv (.t 1))⟩,
   ⟨(some 13), none, .x (.bslice el 1 [z] 1 [(0, (.t 12))])⟩,
   ⟨(some 14), none, .x (.app el 1 1 (.t 11) (.t 13))⟩,
   ⟨(some 15), none, .f (.nck (.t 7))⟩,
   ⟨(some 16), none, .f (.fadr 1 (.t 15))⟩,
   ⟨none, none, .x (.st 1 (.t 16) (.t 14))⟩])
 (.seq (.reg [
   ⟨(some 4), none, .f (.mv (.c .niliface))⟩])
 .ret))))
/-- The code of Write. -/
def wrC (cc el : Nat) : CC :=
 (.seq (.reg [
   ⟨(some 4), none, .f (.mv (.c (.int .i64 0)))⟩,
   ⟨(some 5), none, .f (.mv (.c .niliface))⟩])
 (.seq (.reg [
   ⟨(some 6), none, .f (.mv (.t 0))⟩,
   ⟨(some 7), none, .x (.call cc [(.t 6)])⟩])
 (.seq (.reg [
   ⟨(some 8), none, .f (.mv (.t 0))⟩,
   ⟨(some 9), none, .f (.mv (.t 0))⟩,
   ⟨(some 10), none, .f (.nck (.t 9))⟩,
   ⟨(some 11), none, .f (.fadr 1 (.t 10))⟩,
   ⟨(some 12), none, .f (.ld (.t 11))⟩,
   ⟨(some 13), none, .f (.mv (.t 1))⟩,
   ⟨(some 14), none, .x (.app el 1 1 (.t 12) (.t 13))⟩,
   ⟨(some 15), none, .f (.nck (.t 8))⟩,
   ⟨(some 16), none, .f (.fadr 1 (.t 15))⟩,
   ⟨none, none, .x (.st 1 (.t 16) (.t 14))⟩])
 (.seq (.reg [
   ⟨(some 17), none, .f (.mv (.t 1))⟩,
   ⟨(some 18), none, .f (.len (.t 17))⟩,
   ⟨(some 4), none, .f (.mv (.t 18))⟩,
   ⟨(some 5), none, .f (.mv (.c .niliface))⟩])
 .ret))))
/-- The code of String. -/
def bsC (el : Nat) : CC :=
 (.seq (.reg [
   ⟨(some 2), none, .f (.mv (.c (.str [])))⟩])
 (.seq (.dreg [
   ⟨(some 3), none, .f (.mv (.t 0))⟩,
   ⟨(some 4), none, .f (.nck (.t 3))⟩,
   ⟨(some 5), none, .f (.fadr 1 (.t 4))⟩,
   ⟨(some 6), none, .f (.ld (.t 5))⟩,
   ⟨(some 7), none, .f (.u .sdata [(.t 6)])⟩,
   ⟨(some 8), none, .f (.mv (.t 0))⟩,
   ⟨(some 9), none, .f (.nck (.t 8))⟩,
   ⟨(some 10), none, .f (.fadr 1 (.t 9))⟩,
   ⟨(some 11), none, .f (.ld (.t 10))⟩,
   ⟨(some 12), none, .f (.len (.t 11))⟩,
   ⟨(some 13), none, .x (.ux (.ustr el) [(.t 7), (.t 12)])⟩,
   ⟨(some 2), none, .f (.mv (.t 13))⟩]
   [false, false, false, false, false, false, false, false, false, false, true, false] [[], [0], [1, 0], [2, 1, 0], [3, 2, 1, 0], [], [5], [6, 5], [7, 6, 5], [8, 7, 6, 5], [4, 3, 2, 1, 0, 9, 8, 7, 6, 5], [10, 4, 3, 2, 1, 0, 9, 8, 7, 6, 5]] [0, 1, 2, 3, 4, 5, 6, 7, 8, 9, 10, 11])
 .ret))

set_option maxRecDepth 20000 in
theorem writeByte_calls {f cc T el lo hi : Nat} {z : IV} (hf : fnComp P f = some (17, wbC cc el z, [.mv (.t 4)])) (hcc : ∀ (h : IH) (p : Nat) (a v : IV), At h p (.rows [[a, v]] T 2 false) → (a = .nilptr ∨ a = .ptr p 0 0) → ICalls P cc [.ptr p 0 0] h fun r h' => r = .tuple [] ∧ h' = h.set p (.rows [[.ptr p 0 0, v]] T 2 false))
    {h0 h : IH} {p : Nat} {s : List UInt8} (hE : Ext h0 h) (hb : Bld T el lo hi h p s) (hp : h0.n ≤ p) (hlo : p < lo) (hhi : hi ≤ h.n) (hl : s.length ≤ 16777216) (c : UInt8) :
    ICalls P f [.ptr p 0 0, .int .u8 c.toNat] h fun r h' => r = .niliface ∧ ∃ lo' hi', Bld T el lo' hi' h' p (s ++ [c]) ∧ Ext h0 h' ∧ p < lo' ∧ hi' ≤ h'.n := by
  refine icalls (.of hf) (Nat.le_of_ble_eq_true rfl) ?_
  unfold wbC
  obtain ⟨a, v, bb, ha, hv, ov⟩ := hb.box
  simp only [go_sem, Hold.p, HoldK.k, HoldL.K, HoldL.body, Nat.reduceBEq, Nat.reduceAdd, List.getElem?_cons_zero, List.getElem?_cons_succ, Option.bind_some, List.map_cons, List.map_nil, Nat.zero_add, if_true, List.getD_cons_zero, List.getD_cons_succ, List.contains_cons, List.contains_nil, Nat.reduceBEq, Bool.or_true, Bool.true_or, Bool.or_false, Bool.false_or, Bool.not_true, Bool.not_false, true_and, and_true, rowA_whole, push_n, set_n, push_obj, set_obj, set_push, set_push_ne, set_set, Nat.add_assoc, Nat.left_eq_add, Nat.add_eq_left, Nat.add_left_cancel_iff, Nat.reduceEqDiff, stO_1s, stO_ws, boxA_s, one_bool, one_int, one_str, one_ptr, one_nilptr, one_slice, one_eslice, one_nilslice, one_func, one_iface, one_niliface, List.all_cons, List.all_nil, List.length_cons, List.length_nil, Nat.reduceLT, Nat.reduceEqDiff, Nat.reduceLeDiff, Bool.and_true, Nat.one_ne_zero, Nat.succ_ne_zero, reduceIte, if_false, List.getElem?_cons_zero, List.set_cons_zero, List.set_cons_succ]
  refine callA_of (hcc h p a v bb ha) ?_
  rintro r h1 ⟨rfl, rfl⟩
  have bl := bb.lt
  have b2 : At (h.set p (.rows [[.ptr p 0 0, v]] T 2 false)) p (.rows [[.ptr p 0 0, v]] T 2 false) := bb.here
  have o2 := ov.set (m := p) (by omega) (.rows [[.ptr p 0 0, v]] T 2 false)
  have E2 := hE.set p hp (.rows [[.ptr p 0 0, v]] T 2 false)
  generalize hg : h.set p (.rows [[.ptr p 0 0, v]] T 2 false) = g at b2 o2 E2 ⊢
  have gn : g.n = h.n := by rw [← hg]; rfl
  have nq : (p = g.n) = False := by simp; omega
  simp only [b2.eq, nq, bslA_1, go_sem, Hold.p, HoldK.k, HoldL.K, HoldL.body, Nat.reduceBEq, Nat.reduceAdd, List.getElem?_cons_zero, List.getElem?_cons_succ, Option.bind_some, List.map_cons, List.map_nil, Nat.zero_add, if_true, List.getD_cons_zero, List.getD_cons_succ, List.contains_cons, List.contains_nil, Nat.reduceBEq, Bool.or_true, Bool.true_or, Bool.or_false, Bool.false_or, Bool.not_true, Bool.not_false, true_and, and_true, rowA_whole, push_n, set_n, push_obj, set_obj, set_push, set_push_ne, set_set, Nat.add_assoc, Nat.left_eq_add, Nat.add_eq_left, Nat.add_left_cancel_iff, Nat.reduceEqDiff, stO_1s, stO_ws, boxA_s, one_bool, one_int, one_str, one_ptr, one_nilptr, one_slice, one_eslice, one_nilslice, one_func, one_iface, one_niliface, List.all_cons, List.all_nil, List.length_cons, List.length_nil, Nat.reduceLT, Nat.reduceEqDiff, Nat.reduceLeDiff, Bool.and_true, Nat.one_ne_zero, Nat.succ_ne_zero, reduceIte, if_false, List.getElem?_cons_zero, List.set_cons_zero, List.set_cons_succ]
  generalize hq_g3 : IH.push g (IObj.rows [[IV.int .u8 c.toNat]] el 1 false) = g3
  have e_g3 : Ext g g3 := by rw [← hq_g3]; exact (Ext.refl _).push _
  have l_g3 : g3.n = g.n + 1 := by rw [← hq_g3]; rfl
  have bw : At g3 g.n (IObj.rows [[IV.int .u8 c.toNat]] el 1 false) := by rw [← hq_g3]; exact At.new _ _
  clear hq_g3
  have b2 := b2.ext e_g3
  have o2 := o2.ext e_g3
  have E2 := E2.ext e_g3
  refine o2.app (by simp) (by simp [strRows]; omega) ?_
  intro v6 h6 o6 t6 n6 v6o v6c
  have b2 := b2.turn o2 (by omega) t6
  have E2 := E2.turn o2 (by omega) t6
  have le_t6 := t6.le
  simp only [b2.eq, v6o, v6c, go_sem, Hold.p, HoldK.k, HoldL.K, HoldL.body, Nat.reduceBEq, Nat.reduceAdd, List.getElem?_cons_zero, List.getElem?_cons_succ, Option.bind_some, List.map_cons, List.map_nil, Nat.zero_add, if_true, List.getD_cons_zero, List.getD_cons_succ, List.contains_cons, List.contains_nil, Nat.reduceBEq, Bool.or_true, Bool.true_or, Bool.or_false, Bool.false_or, Bool.not_true, Bool.not_false, true_and, and_true, rowA_whole, push_n, set_n, push_obj, set_obj, set_push, set_push_ne, set_set, Nat.add_assoc, Nat.left_eq_add, Nat.add_eq_left, Nat.add_left_cancel_iff, Nat.reduceEqDiff, stO_1s, stO_ws, boxA_s, one_bool, one_int, one_str, one_ptr, one_nilptr, one_slice, one_eslice, one_nilslice, one_func, one_iface, one_niliface, List.all_cons, List.all_nil, List.length_cons, List.length_nil, Nat.reduceLT, Nat.reduceEqDiff, Nat.reduceLeDiff, Bool.and_true, Nat.one_ne_zero, Nat.succ_ne_zero, reduceIte, if_false, List.getElem?_cons_zero, List.set_cons_zero, List.set_cons_succ]
  have o7 : Own g3.n (g3.n + 1) h6 el 1 v6 (strRows (s ++ [c])) := by
    have : strRows (s ++ [c]) = strRows s ++ [[IV.int .u8 c.toNat]] := by simp [strRows]
    rw [this]; exact o6
  refine ⟨g3.n, g3.n + 1, ⟨_, v6, b2.here, .inr rfl, .inr (by simp), o7.set (m := p) (by omega) _⟩, E2.set p hp _, by omega, by first | omega | (rw [set_n]; omega)⟩

set_option maxRecDepth 20000 in
theorem write_calls {f cc T el lo hi : Nat} (hf : fnComp P f = some (19, wrC cc el, [.mv (.t 4), .mv (.t 5)])) (hcc : ∀ (h : IH) (p : Nat) (a v : IV), At h p (.rows [[a, v]] T 2 false) → (a = .nilptr ∨ a = .ptr p 0 0) → ICalls P cc [.ptr p 0 0] h fun r h' => r = .tuple [] ∧ h' = h.set p (.rows [[.ptr p 0 0, v]] T 2 false))
    {h0 h : IH} {p : Nat} {s t : List UInt8} {w : IV} {lw hw : Nat} (hE : Ext h0 h) (hb : Bld T el lo hi h p s) (hp : h0.n ≤ p) (hlo : p < lo) (hhi : hi ≤ h.n) (hl : s.length ≤ 16777216) (ht : t ≠ []) (hlt : t.length ≤ 16777216)
    (hw0 : Own lw hw h el 1 w (strRows t)) (hwp : p < lw) (hww : hw ≤ h.n) (hdis : hi ≤ lw) :
    ICalls P f [.ptr p 0 0, w] h fun r h' => r = .tuple [.int .i64 (t.length : Nat), .niliface] ∧ ∃ lo' hi', Bld T el lo' hi' h' p (s ++ t) ∧ Ext h0 h' ∧ p < lo' ∧ hi' ≤ h'.n := by
  refine icalls (.of hf) (Nat.le_of_ble_eq_true rfl) ?_
  unfold wrC
  obtain ⟨a, v, bb, ha, hv, ov⟩ := hb.box
  simp only [go_sem, Hold.p, HoldK.k, HoldL.K, HoldL.body, Nat.reduceBEq, Nat.reduceAdd, List.getElem?_cons_zero, List.getElem?_cons_succ, Option.bind_some, List.map_cons, List.map_nil, Nat.zero_add, if_true, List.getD_cons_zero, List.getD_cons_succ, List.contains_cons, List.contains_nil, Nat.reduceBEq, Bool.or_true, Bool.true_or, Bool.or_false, Bool.false_or, Bool.not_true, Bool.not_false, true_and, and_true, rowA_whole, push_n, set_n, push_obj, set_obj, set_push, set_push_ne, set_set, Nat.add_assoc, Nat.left_eq_add, Nat.add_eq_left, Nat.add_left_cancel_iff, Nat.reduceEqDiff, stO_1s, stO_ws, boxA_s, one_bool, one_int, one_str, one_ptr, one_nilptr, one_slice, one_eslice, one_nilslice, one_func, one_iface, one_niliface, List.all_cons, List.all_nil, List.length_cons, List.length_nil, Nat.reduceLT, Nat.reduceEqDiff, Nat.reduceLeDiff, Bool.and_true, Nat.one_ne_zero, Nat.succ_ne_zero, reduceIte, if_false, List.getElem?_cons_zero, List.set_cons_zero, List.set_cons_succ]
  refine callA_of (hcc h p a v bb ha) ?_
  rintro r h1 ⟨rfl, rfl⟩
  have bl := bb.lt
  have b2 : At (h.set p (.rows [[.ptr p 0 0, v]] T 2 false)) p (.rows [[.ptr p 0 0, v]] T 2 false) := bb.here
  have o2 := ov.set (m := p) (by omega) (.rows [[.ptr p 0 0, v]] T 2 false)
  have w2 := hw0.set (m := p) (by omega) (.rows [[.ptr p 0 0, v]] T 2 false)
  have E2 := hE.set p hp (.rows [[.ptr p 0 0, v]] T 2 false)
  generalize hg : h.set p (.rows [[.ptr p 0 0, v]] T 2 false) = g at b2 o2 E2 w2 ⊢
  have gn : g.n = h.n := by rw [← hg]; rfl
  have hsrc := w2.sl.src
  have hlen := w2.sl.lenF
  have htl : (strRows t).length = t.length := by simp [strRows]
  rw [htl] at hlen
  have htr : strRows t ≠ [] := by intro h0; exact ht (List.length_eq_zero_iff.1 (by rw [← htl, h0]; rfl))
  simp only [b2.eq, hsrc, go_sem, Hold.p, HoldK.k, HoldL.K, HoldL.body, Nat.reduceBEq, Nat.reduceAdd, List.getElem?_cons_zero, List.getElem?_cons_succ, Option.bind_some, List.map_cons, List.map_nil, Nat.zero_add, if_true, List.getD_cons_zero, List.getD_cons_succ, List.contains_cons, List.contains_nil, Nat.reduceBEq, Bool.or_true, Bool.true_or, Bool.or_false, Bool.false_or, Bool.not_true, Bool.not_false, true_and, and_true, rowA_whole, push_n, set_n, push_obj, set_obj, set_push, set_push_ne, set_set, Nat.add_assoc, Nat.left_eq_add, Nat.add_eq_left, Nat.add_left_cancel_iff, Nat.reduceEqDiff, stO_1s, stO_ws, boxA_s, one_bool, one_int, one_str, one_ptr, one_nilptr, one_slice, one_eslice, one_nilslice, one_func, one_iface, one_niliface, List.all_cons, List.all_nil, List.length_cons, List.length_nil, Nat.reduceLT, Nat.reduceEqDiff, Nat.reduceLeDiff, Bool.and_true, Nat.one_ne_zero, Nat.succ_ne_zero, reduceIte, if_false, List.getElem?_cons_zero, List.set_cons_zero, List.set_cons_succ]
  refine o2.app htr (by simp [strRows]; omega) ?_
  intro v6 h6 o6 t6 n6 v6o v6c
  have b2 := b2.turn o2 (by omega) t6
  have E2 := E2.turn o2 (by omega) t6
  have le_t6 := t6.le
  simp only [b2.eq, v6o, v6c, hlen, go_sem, Hold.p, HoldK.k, HoldL.K, HoldL.body, Nat.reduceBEq, Nat.reduceAdd, List.getElem?_cons_zero, List.getElem?_cons_succ, Option.bind_some, List.map_cons, List.map_nil, Nat.zero_add, if_true, List.getD_cons_zero, List.getD_cons_succ, List.contains_cons, List.contains_nil, Nat.reduceBEq, Bool.or_true, Bool.true_or, Bool.or_false, Bool.false_or, Bool.not_true, Bool.not_false, true_and, and_true, rowA_whole, push_n, set_n, push_obj, set_obj, set_push, set_push_ne, set_set, Nat.add_assoc, Nat.left_eq_add, Nat.add_eq_left, Nat.add_left_cancel_iff, Nat.reduceEqDiff, stO_1s, stO_ws, boxA_s, one_bool, one_int, one_str, one_ptr, one_nilptr, one_slice, one_eslice, one_nilslice, one_func, one_iface, one_niliface, List.all_cons, List.all_nil, List.length_cons, List.length_nil, Nat.reduceLT, Nat.reduceEqDiff, Nat.reduceLeDiff, Bool.and_true, Nat.one_ne_zero, Nat.succ_ne_zero, reduceIte, if_false, List.getElem?_cons_zero, List.set_cons_zero, List.set_cons_succ]
  have o7 : Own g.n (g.n + 1) h6 el 1 v6 (strRows (s ++ t)) := by
    have : strRows (s ++ t) = strRows s ++ strRows t := by simp [strRows]
    rw [this]; exact o6
  refine ⟨g.n, g.n + 1, ⟨_, v6, b2.here, .inr rfl, .inr (by simp [ht]), o7.set (m := p) (by omega) _⟩, E2.set p hp _, by omega, by first | omega | (rw [set_n]; omega)⟩

set_option maxRecDepth 20000 in
theorem bstring_calls {f T el lo hi : Nat} (hf : fnComp P f = some (14, bsC el, [.mv (.t 2)])) {h0 h : IH} {p : Nat} {s : List UInt8} (hE : Ext h0 h) (hb : Bld T el lo hi h p s) (hp : h0.n ≤ p) (hlo : p < lo) (hl : s.length ≤ 9223372036854775807) :
    ICalls P f [.ptr p 0 0] h fun r h' => r = .str s ∧ Ext h0 h' := by
  refine icalls (.of hf) (Nat.le_of_ble_eq_true rfl) ?_
  unfold bsC
  obtain ⟨a, v, bb, ha, hv, ov⟩ := hb.box
  have hlen := ov.sl.lenF
  have hsl : (strRows s).length = s.length := by simp [strRows]
  rw [hsl] at hlen
  rcases ov with ⟨he, rfl | rfl⟩ | ⟨l, hne, rfl, h1, h2, h3, h4⟩
  · have hs : s = [] := List.length_eq_zero_iff.1 (by rw [← hsl, he]; rfl)
    subst hs
    simp only [bb.eq, ueval_sdata0, hlen, go_sem, Hold.p, HoldK.k, HoldL.K, HoldL.body, Nat.reduceBEq, Nat.reduceAdd, List.getElem?_cons_zero, List.getElem?_cons_succ, Option.bind_some, List.map_cons, List.map_nil, Nat.zero_add, if_true, List.getD_cons_zero, List.getD_cons_succ, List.contains_cons, List.contains_nil, Nat.reduceBEq, Bool.or_true, Bool.true_or, Bool.or_false, Bool.false_or, Bool.not_true, Bool.not_false, true_and, and_true, rowA_whole, push_n, set_n, push_obj, set_obj, set_push, set_push_ne, set_set, Nat.add_assoc, Nat.left_eq_add, Nat.add_eq_left, Nat.add_left_cancel_iff, Nat.reduceEqDiff, stO_1s, stO_ws, boxA_s, one_bool, one_int, one_str, one_ptr, one_nilptr, one_slice, one_eslice, one_nilslice, one_func, one_iface, one_niliface, List.all_cons, List.all_nil, List.length_cons, List.length_nil, Nat.reduceLT, Nat.reduceEqDiff, Nat.reduceLeDiff, Bool.and_true, Nat.one_ne_zero, Nat.succ_ne_zero, reduceIte, if_false, List.getElem?_cons_zero, List.set_cons_zero, List.set_cons_succ]
    refine ustr_nil ?_
    simp only [bb.eq, ueval_sdata0, go_sem, Hold.p, HoldK.k, HoldL.K, HoldL.body, Nat.reduceBEq, Nat.reduceAdd, List.getElem?_cons_zero, List.getElem?_cons_succ, Option.bind_some, List.map_cons, List.map_nil, Nat.zero_add, if_true, List.getD_cons_zero, List.getD_cons_succ, List.contains_cons, List.contains_nil, Nat.reduceBEq, Bool.or_true, Bool.true_or, Bool.or_false, Bool.false_or, Bool.not_true, Bool.not_false, true_and, and_true, rowA_whole, push_n, set_n, push_obj, set_obj, set_push, set_push_ne, set_set, Nat.add_assoc, Nat.left_eq_add, Nat.add_eq_left, Nat.add_left_cancel_iff, Nat.reduceEqDiff, stO_1s, stO_ws, boxA_s, one_bool, one_int, one_str, one_ptr, one_nilptr, one_slice, one_eslice, one_nilslice, one_func, one_iface, one_niliface, List.all_cons, List.all_nil, List.length_cons, List.length_nil, Nat.reduceLT, Nat.reduceEqDiff, Nat.reduceLeDiff, Bool.and_true, Nat.one_ne_zero, Nat.succ_ne_zero, reduceIte, if_false, List.getElem?_cons_zero, List.set_cons_zero, List.set_cons_succ]
    exact hE
  · have hs : s = [] := List.length_eq_zero_iff.1 (by rw [← hsl, he]; rfl)
    rcases hv with hv | hv
    · cases hv
    · exact absurd hs hv
  · have hs : s ≠ [] := by intro hx; subst hx; exact hne rfl
    have hpos : s.length ≠ 0 := fun hx => hs (List.length_eq_zero_iff.1 hx)
    rw [hsl] at hlen bb
    have hud := ueval_sdata (h := h) (l := l) (i := 0) hpos
    simp only [bb.eq, hud, hlen, go_sem, Hold.p, HoldK.k, HoldL.K, HoldL.body, Nat.reduceBEq, Nat.reduceAdd, List.getElem?_cons_zero, List.getElem?_cons_succ, Option.bind_some, List.map_cons, List.map_nil, Nat.zero_add, if_true, List.getD_cons_zero, List.getD_cons_succ, List.contains_cons, List.contains_nil, Nat.reduceBEq, Bool.or_true, Bool.true_or, Bool.or_false, Bool.false_or, Bool.not_true, Bool.not_false, true_and, and_true, rowA_whole, push_n, set_n, push_obj, set_obj, set_push, set_push_ne, set_set, Nat.add_assoc, Nat.left_eq_add, Nat.add_eq_left, Nat.add_left_cancel_iff, Nat.reduceEqDiff, stO_1s, stO_ws, boxA_s, one_bool, one_int, one_str, one_ptr, one_nilptr, one_slice, one_eslice, one_nilslice, one_func, one_iface, one_niliface, List.all_cons, List.all_nil, List.length_cons, List.length_nil, Nat.reduceLT, Nat.reduceEqDiff, Nat.reduceLeDiff, Bool.and_true, Nat.one_ne_zero, Nat.succ_ne_zero, reduceIte, if_false, List.getElem?_cons_zero, List.set_cons_zero, List.set_cons_succ]
    refine ustr_of h4 rfl hs hl ?_
    have npl : (p = l) = False := by simp; omega
    simp only [bb.eq, npl, go_sem, Hold.p, HoldK.k, HoldL.K, HoldL.body, Nat.reduceBEq, Nat.reduceAdd, List.getElem?_cons_zero, List.getElem?_cons_succ, Option.bind_some, List.map_cons, List.map_nil, Nat.zero_add, if_true, List.getD_cons_zero, List.getD_cons_succ, List.contains_cons, List.contains_nil, Nat.reduceBEq, Bool.or_true, Bool.true_or, Bool.or_false, Bool.false_or, Bool.not_true, Bool.not_false, true_and, and_true, rowA_whole, push_n, set_n, push_obj, set_obj, set_push, set_push_ne, set_set, Nat.add_assoc, Nat.left_eq_add, Nat.add_eq_left, Nat.add_left_cancel_iff, Nat.reduceEqDiff, stO_1s, stO_ws, boxA_s, one_bool, one_int, one_str, one_ptr, one_nilptr, one_slice, one_eslice, one_nilslice, one_func, one_iface, one_niliface, List.all_cons, List.all_nil, List.length_cons, List.length_nil, Nat.reduceLT, Nat.reduceEqDiff, Nat.reduceLeDiff, Bool.and_true, Nat.one_ne_zero, Nat.succ_ne_zero, reduceIte, if_false, List.getElem?_cons_zero, List.set_cons_zero, List.set_cons_succ]
    exact hE.set l (by omega) _
end Go.IW

namespace Go.IW
open Go.RowKit

/-- The shape of a type's cells. -/
inductive Sh where
  | nil
  | bool
  | int (k : IntKind)
  | str
  | slice (e : Sh)
  | cat (a b : Sh)

def Sh.sz : Sh → Nat
  | .nil => 0
  | .cat a b => a.sz + b.sz
  | _ => 1

def shFields (P : Program) (g : TypeId → Option Sh) (t : TypeId) : List Field → Nat → Option Sh
  | [], n => if n = P.cellsOf t then some .nil else none
  | f :: r, n =>
    if f.offset = n then
      match g f.type with
      | some s => if s.sz = P.cellsOf f.type then (shFields P g t r (n + s.sz)).map (Sh.cat s) else none
      | none => none
    else none

def shOf (P : Program) : Nat → TypeId → Option Sh
  | 0, _ => none
  | n + 1, t =>
    match P.underlying t with
    | some .bool => some .bool
    | some (.int k) => some (.int k)
    | some .string => some .str
    | some (.slice e) => match shOf P n e with
      | some s => if s.sz = P.cellsOf e ∧ 0 < s.sz then some (.slice s) else none
      | none => none
    | some (.struct fs) => shFields P (shOf P n) t fs.toList 0
    | _ => none

/-- The cells, as far as their types tell them. -/
def Fits (h : IH) : Sh → List IV → Prop
  | .nil, cs => cs = []
  | .bool, cs => ∃ b, cs = [.bool b]
  | .int k, cs => ∃ n, cs = [.int k n] ∧ (Lit.int k n).wf = true
  | .str, cs => ∃ s, cs = [.str s] ∧ s.length ≤ maxLen
  | .slice e, cs => ∃ v rs, cs = [v] ∧ SlR h e.sz v rs ∧ rs.length ≤ maxLen ∧ ∀ r ∈ rs, Fits h e r
  | .cat a b, cs => ∃ x y, cs = x ++ y ∧ Fits h a x ∧ Fits h b y

theorem Fits.len {h : IH} : ∀ {s : Sh} {cs : List IV}, Fits h s cs → cs.length = s.sz
  | .nil, _, e => by obtain rfl := e; rfl
  | .bool, _, ⟨b, e⟩ => by subst e; rfl
  | .int k, _, ⟨n, e, _⟩ => by subst e; rfl
  | .str, _, ⟨n, e, _⟩ => by subst e; rfl
  | .slice s, _, ⟨v, rs, e, _⟩ => by subst e; rfl
  | .cat a b, _, ⟨x, y, e, h1, h2⟩ => by subst e; simp [Sh.sz, Fits.len h1, Fits.len h2]

theorem Fits.one {h : IH} : ∀ {s : Sh} {cs : List IV}, Fits h s cs → ∀ v ∈ cs, v.one = true
  | .nil, _, e => by obtain rfl := e; simp
  | .bool, _, ⟨b, e⟩ => by subst e; simp [IV.one]
  | .int k, _, ⟨n, e, _⟩ => by subst e; simp [IV.one]
  | .str, _, ⟨n, e, _⟩ => by subst e; simp [IV.one]
  | .slice s, _, ⟨v, rs, e, hs, _⟩ => by subst e; simp [hs.one]
  | .cat a b, _, ⟨x, y, e, h1, h2⟩ => by
    subst e
    intro v hv
    rcases List.mem_append.1 hv with hv | hv
    · exact Fits.one h1 v hv
    · exact Fits.one h2 v hv

theorem Fits.ext {h h' : IH} (he : Ext h h') : ∀ {s : Sh} {cs : List IV}, Fits h s cs → Fits h' s cs
  | .nil, _, e => e
  | .bool, _, e => e
  | .int k, _, e => e
  | .str, _, e => e
  | .slice s, _, ⟨v, rs, e, hs, hl, ha⟩ => ⟨v, rs, e, hs.ext he, hl, fun r hr => Fits.ext he (ha r hr)⟩
  | .cat a b, _, ⟨x, y, e, h1, h2⟩ => ⟨x, y, e, Fits.ext he h1, Fits.ext he h2⟩

def AllRo (h : IH) : Prop := ∀ l, (h.obj l).own = false

theorem WRel.pushRo {ρ : List RLoc} {B : Nat} {w : World} {h : IH} {o : IObj} {r : RLoc} (hw : WRel ρ B w h) (ha : AllRo h) (hro : o.own = false)
    (ho : ORel (ρ ++ [r]) B w r o) : WRel (ρ ++ [r]) B w (h.push o) := by
  have hp : ρ <+: ρ ++ [r] := List.prefix_append _ _
  have hlen : ρ.length = h.n := hw.len
  refine ⟨by simp [IH.push, hlen], hw.base, ?_, ?_⟩
  · intro l r' hr
    by_cases hl : l = h.n
    · subst hl
      rw [← hlen, List.getElem?_concat_length] at hr
      obtain rfl := Option.some.inj hr
      simpa [IH.push] using ho
    · have hlt : l < ρ.length := by have := (List.getElem?_eq_some_iff.1 hr).1; simp at this; omega
      rw [List.getElem?_append_left hlt] at hr
      simp only [IH.push, hl, if_false]
      exact (hw.obj l r' hr).mono hp
  · intro l l' r1 r2 h1 h2 hne hown _
    exfalso
    simp only [IH.push] at hown
    split at hown
    · rw [hro] at hown; cases hown
    · rw [ha] at hown; cases hown

theorem AllRo.push {h : IH} {o : IObj} (ha : AllRo h) (ho : o.own = false) : AllRo (h.push o) := by
  intro l
  simp only [IH.push]
  split
  · exact ho
  · exact ha l

theorem range_mapM {α : Type} {f : Nat → Option α} {n : Nat} {r : List α} (h : (List.range n).mapM f = some r) : r.length = n ∧ ∀ i, i < n → f i = r[i]? := by
  have hl := Go.mapM_len h
  rw [List.length_range] at hl
  refine ⟨hl, ?_⟩
  clear hl
  induction n generalizing r with
  | zero => intro i hi; omega
  | succ n ih =>
    rw [List.range_succ, List.mapM_append] at h
    cases ha : (List.range n).mapM f with
    | none => rw [ha] at h; cases h
    | some a =>
      rw [ha] at h
      cases hb : f n with
      | none => simp [hb] at h
      | some b =>
        simp [hb] at h
        subst h
        have hl := Go.mapM_len ha
        rw [List.length_range] at hl
        intro i hi
        by_cases hin : i < n
        · rw [ih ha i hin, List.getElem?_append_left (by omega)]
        · obtain rfl : i = n := by omega
          rw [List.getElem?_append_right (by omega), hl, hb]; simp

theorem cells_at {w : World} {a : Addr} {n : Nat} {cs : List Value} (h : w.cells? 0 a n = some cs) : cs.length = n ∧ ∀ i, i < n → w.cell? (a.add i) = cs[i]? := by
  unfold World.cells? at h
  rw [if_pos (Nat.zero_le _)] at h
  exact range_mapM h

theorem cell_some {w : World} {a : Addr} {v : Value} (h : w.cell? a = some v) : ∃ c t fz, w.heap[a.block]? = some (.cells c t fz) ∧ a.spot = none ∧ c[a.off]? = some v := by
  unfold World.cell? at h
  split at h
  · rename_i c t fz hc
    split at h
    · cases h
    · rename_i hs
      refine ⟨c, t, fz, hc, ?_, h⟩
      cases hsp : a.spot <;> simp_all
  · cases h


/-- What a reading comes to. -/
def Came (W : World) (ρ : List RLoc) (h : IH) (cs : List Value) (sh : Sh) : Prop :=
  ∃ ρ' h' cs', ρ <+: ρ' ∧ WRel ρ' W.heap.size W h' ∧ AllRo h' ∧ Ext h h' ∧ LRel ρ' cs cs' ∧ Fits h' sh cs'

variable {H : Type} {enc : TypeId × Value → H} {P : Program} {W : World}

/-- Each cell row of this type, read. -/
def Readable (enc : TypeId × Value → H) (P : Program) (W : World) (t : TypeId) (sh : Sh) : Prop :=
  ∀ (ρ : List RLoc) (h : IH) (fuel : Nat) (cs : List Value) (x : DataW H × List MemPlace), WRel ρ W.heap.size W h → AllRo h →
    DataW.trod enc P W 0 (fun _ => true) true fuel t cs = some x → Came W ρ h cs sh

theorem came_fields {t : TypeId} {g : TypeId → Option Sh} (hg : ∀ t sh, g t = some sh → Readable enc P W t sh) {cs : List Value} (hl : cs.length = P.cellsOf t) :
    ∀ (fs : List Field) (n : Nat) (sh : Sh) (ρ : List RLoc) (h : IH), shFields P g t fs n = some sh →
      (∀ f ∈ fs, ∃ fuel x, DataW.trod enc P W 0 (fun _ => true) true fuel f.type ((cs.drop f.offset).take (P.cellsOf f.type)) = some x) →
      WRel ρ W.heap.size W h → AllRo h → Came W ρ h (cs.drop n) sh
  | [], n, sh, ρ, h, hs, _, hw, ha => by
    simp only [shFields] at hs
    split at hs
    · rename_i hn
      obtain rfl := Option.some.inj hs
      refine ⟨ρ, h, [], List.prefix_refl _, hw, ha, Ext.refl _, ?_, rfl⟩
      rw [List.drop_eq_nil_of_le (by omega)]
      exact LRel.nil _
    · cases hs
  | f :: r, n, sh, ρ, h, hs, hr, hw, ha => by
    simp only [shFields] at hs
    split at hs
    · rename_i ho
      split at hs
      · rename_i s hgs
        split at hs
        · rename_i hsz
          simp only [Option.map_eq_some_iff] at hs
          obtain ⟨s2, hs2, rfl⟩ := hs
          obtain ⟨fuel, x, hx⟩ := hr f (by simp)
          obtain ⟨ρ1, h1, c1, p1, w1, a1, e1, l1, f1⟩ := hg _ _ hgs ρ h fuel _ x hw ha hx
          obtain ⟨ρ2, h2, c2, p2, w2, a2, e2, l2, f2⟩ := came_fields hg hl r (n + s.sz) s2 ρ1 h1 hs2 (fun f' hf' => hr f' (by simp [hf'])) w1 a1
          refine ⟨ρ2, h2, c1 ++ c2, p1.trans p2, w2, a2, e1.trans e2, ?_, ⟨c1, c2, rfl, f1.ext e2, f2⟩⟩
          have hcat : cs.drop n = (cs.drop f.offset).take (P.cellsOf f.type) ++ cs.drop (n + s.sz) := by
            rw [ho, ← hsz, ← List.drop_drop, List.take_append_drop]
          rw [hcat]
          exact (l1.mono p2).append l2
        · cases hs
      · cases hs
    · cases hs

theorem came_elems {e : TypeId} {se : Sh} (hg : Readable enc P W e se) {a : Addr} {n : Nat} (sz : Nat) :
    ∀ (len : Nat) (ρ : List RLoc) (h : IH), WRel ρ W.heap.size W h → AllRo h →
      (∀ i, i < len → ∃ csi x, W.cells? 0 (a.add (i * sz)) sz = some csi ∧ DataW.trod enc P W 0 (fun _ => true) true n e csi = some x) →
      ∃ (ρ' : List RLoc) (h' : IH) (rs : List (List IV)), ρ <+: ρ' ∧ WRel ρ' W.heap.size W h' ∧ AllRo h' ∧ Ext h h' ∧ rs.length = len ∧
        ∀ (i : Nat) (row : List IV), rs[i]? = some row → ∃ csi, W.cells? 0 (a.add (i * sz)) sz = some csi ∧ LRel ρ' csi row ∧ Fits h' se row
  | 0, ρ, h, hw, ha, _ => ⟨ρ, h, [], List.prefix_refl _, hw, ha, Ext.refl _, rfl, fun i row hi => by simp at hi⟩
  | len + 1, ρ, h, hw, ha, hr => by
    obtain ⟨ρ1, h1, rs, p1, w1, a1, e1, l1, f1⟩ := came_elems hg sz len ρ h hw ha (fun i hi => hr i (by omega))
    obtain ⟨csi, x, hc, hx⟩ := hr len (by omega)
    obtain ⟨ρ2, h2, row, p2, w2, a2, e2, l2, f2⟩ := hg ρ1 h1 n csi x w1 a1 hx
    refine ⟨ρ2, h2, rs ++ [row], p1.trans p2, w2, a2, e1.trans e2, by simp [l1], fun i row' hi => ?_⟩
    by_cases hin : i < len
    · rw [List.getElem?_append_left (by omega)] at hi
      obtain ⟨csj, hcj, hlj, hfj⟩ := f1 i row' hi
      exact ⟨csj, hcj, hlj.mono p2, hfj.ext e2⟩
    · have : i < (rs ++ [row]).length := (List.getElem?_eq_some_iff.1 hi).1
      simp at this
      obtain rfl : i = len := by omega
      rw [List.getElem?_append_right (by omega), l1] at hi
      simp at hi
      subst hi
      exact ⟨csi, hc, l2, f2⟩


theorem Addr_add {a : Addr} (hs : a.spot = none) (n : Nat) : a.add n = ⟨a.block, a.off + n, none⟩ := by
  obtain ⟨b, o, sp⟩ := a
  obtain rfl : sp = none := hs
  unfold Addr.add
  split
  · subst_vars; rfl
  · rfl

theorem readable : ∀ (n : Nat) (t : TypeId) (sh : Sh), shOf P n t = some sh → Readable enc P W t sh
  | 0, _, _, hs => by cases hs
  | n + 1, t, sh, hs => by
    intro ρ h fuel cs x hw ha hx
    simp only [shOf] at hs
    split at hs
    · rename_i hu
      obtain rfl := Option.some.inj hs
      obtain ⟨b, rfl, _⟩ := DataW.trod_bool hu hx
      exact ⟨ρ, h, [.bool b], List.prefix_refl _, hw, ha, Ext.refl _, (LRel.nil _).cons (.bool b), b, rfl⟩
    · rename_i k hu
      obtain rfl := Option.some.inj hs
      obtain ⟨m, rfl, _, hwf⟩ := DataW.trod_int hu hx
      exact ⟨ρ, h, [.int k m], List.prefix_refl _, hw, ha, Ext.refl _, (LRel.nil _).cons (.int k m), m, rfl, hwf⟩
    · rename_i hu
      obtain rfl := Option.some.inj hs
      obtain ⟨b, rfl, _, hl⟩ := DataW.trod_string hu hx
      exact ⟨ρ, h, [.str b.data.toList], List.prefix_refl _, hw, ha, Ext.refl _, (LRel.nil _).cons (.str b), _, rfl, by simpa using hl⟩
    · rename_i e hu
      split at hs
      · rename_i se hse
        split at hs
        · rename_i hsz
          obtain ⟨hsz, hpos⟩ := hsz
          obtain rfl := Option.some.inj hs
          rcases DataW.trod_slice hu hx with ⟨rfl, _⟩ | ⟨a, len, cap, elems, rest, m, _, rfl, _, _, hlc, hcm, helen, hel, hsp, _⟩
          · exact ⟨ρ, h, [.nilslice], List.prefix_refl _, hw, ha, Ext.refl _, (LRel.nil _).cons .nilslice, _, [], rfl, SlR.nil _ _, Nat.zero_le _, by simp⟩
          · by_cases h0 : len = 0
            · subst h0
              refine ⟨ρ, h, [.eslice (decide (cap = 0))], List.prefix_refl _, hw, ha, Ext.refl _, (LRel.nil _).cons (.eslice (by simp) hcm), _, [], rfl, SlR.empty _ _ _, Nat.zero_le _, by simp⟩
            · obtain ⟨hrest, hsp⟩ := hsp rfl
              have all : ∀ i, i < cap → ∃ csi x, W.cells? 0 (a.add (i * se.sz)) se.sz = some csi ∧ DataW.trod enc P W 0 (fun _ => true) true m e csi = some x := by
                intro i hi
                by_cases hil : i < len
                · have := hel i hil
                  rw [List.getElem?_eq_getElem (by omega), Option.bind_eq_some_iff, ← hsz] at this
                  obtain ⟨csi, h1, h2⟩ := this
                  exact ⟨csi, _, h1, h2⟩
                · have := hsp (i - len) (by omega)
                  rw [List.getElem?_eq_getElem (by omega), Option.bind_eq_some_iff, ← hsz] at this
                  obtain ⟨csi, h1, h2⟩ := this
                  rw [show len + (i - len) = i by omega] at h1
                  exact ⟨csi, _, h1, h2⟩
              obtain ⟨ρ1, h1, rs, p1, w1, a1, e1, l1, f1⟩ := came_elems (readable n e se hse) se.sz len ρ h hw ha (fun i hi => all i (by omega))
              obtain ⟨c0, x0, hc0, _⟩ := all 0 (by omega)
              obtain ⟨hl0, hg0⟩ := cells_at hc0
              have hz := hg0 0 hpos
              rw [List.getElem?_eq_getElem (by omega)] at hz
              obtain ⟨c, tc, fz, hcell, hspot, _⟩ := cell_some hz
              have hspot' : a.spot = none := by
                have : (a.add (0 * se.sz)).add 0 = a := by simp [Addr.add]
                rw [this] at hspot; exact hspot
              have hblk : W.heap[a.block]? = some (.cells c tc fz) := by
                have : ((a.add (0 * se.sz)).add 0).block = a.block := by simp [Addr.add]
                rw [this] at hcell; exact hcell
              have hat : ∀ i csi, W.cells? 0 (a.add (i * se.sz)) se.sz = some csi → csi.length = se.sz ∧ ∀ k, k < se.sz → c[a.off + i * se.sz + k]? = csi[k]? := by
                intro i csi hi
                obtain ⟨hli, hgi⟩ := cells_at hi
                refine ⟨hli, fun k hk => ?_⟩
                have := hgi k hk
                rw [Addr_add hspot' _, Addr_add rfl] at this
                rw [← this]
                simp [World.cell?, hblk]
              refine ⟨ρ1 ++ [⟨a.block, a.off, se.sz, cap⟩], h1.push (.rows rs 0 se.sz true), [.slice h1.n 0 len], p1.trans (List.prefix_append _ _), ?_, a1.push rfl, e1.push _, ?_, ?_⟩
              · refine w1.pushRo a1 rfl ⟨c, tc, fz, hblk, rfl, ?_, by simp only; omega, ?_, ?_, ?_, fun h => by cases h⟩
                · obtain ⟨cl, xl, hcl, _⟩ := all (cap - 1) (by omega)
                  obtain ⟨hll, hgl⟩ := hat _ _ hcl
                  have := hgl (se.sz - 1) (by omega)
                  rw [List.getElem?_eq_getElem (by omega)] at this
                  have h3 := (Array.getElem?_eq_some_iff.1 this).1
                  have h4 : cap * se.sz = (cap - 1) * se.sz + se.sz := by rw [← Nat.succ_mul]; congr 1; omega
                  simp only
                  omega
                · intro row hrow
                  obtain ⟨i, hi⟩ := List.getElem?_of_mem hrow
                  obtain ⟨csi, hci, hli, hfi⟩ := f1 i row hi
                  exact hfi.len
                · intro row hrow
                  obtain ⟨i, hi⟩ := List.getElem?_of_mem hrow
                  obtain ⟨csi, hci, hli, hfi⟩ := f1 i row hi
                  exact hfi.one
                · intro i row hi k v' hk
                  obtain ⟨csi, hci, hli, hfi⟩ := f1 i row hi
                  obtain ⟨v, hv, hr⟩ := hli.of_get' hk
                  refine ⟨v, ?_, hr.mono (List.prefix_append _ _)⟩
                  have hkl : k < se.sz := by rw [← hfi.len]; exact (List.getElem?_eq_some_iff.1 hk).1
                  exact ((hat _ _ hci).2 k hkl).trans hv
              · refine (LRel.nil _).cons ?_
                have hq : (ρ1 ++ [(⟨a.block, a.off, se.sz, cap⟩ : RLoc)])[h1.n]? = some ⟨a.block, a.off, se.sz, cap⟩ := by rw [← w1.len]; exact List.getElem?_concat_length
                have := VRel.slice (i := 0) (n := len) (c := cap) hq hlc (by simp) hcm
                have ea : a = ⟨a.block, a.off + 0 * se.sz, none⟩ := by
                  obtain ⟨b, o, sp⟩ := a
                  obtain rfl : sp = none := hspot'
                  simp
                have h5 : VRel (ρ1 ++ [(⟨a.block, a.off, se.sz, cap⟩ : RLoc)]) (.slice (some ⟨a.block, a.off + 0 * se.sz, none⟩) len cap) (.slice h1.n 0 len) := this
                rw [← ea] at h5; exact h5
              · refine ⟨_, rs, rfl, SlR.whole (e := 0) (ro := true) (push_new _ _) l1 (by simp only [push_n]; omega), by omega, fun row hrow => ?_⟩
                obtain ⟨i, hi⟩ := List.getElem?_of_mem hrow
                obtain ⟨csi, hci, hli, hfi⟩ := f1 i row hi
                exact hfi.ext ((Ext.refl _).push _)
        · cases hs
      · cases hs
    · rename_i fs hu
      obtain ⟨xs, m, _, _, hl, hxl, hf⟩ := DataW.trod_struct hu hx
      have := came_fields (enc := enc) (W := W) (fun t sh hh => readable n t sh hh) hl fs.toList 0 sh ρ h hs (fun f hfm => by
        obtain ⟨i, hi⟩ := List.getElem?_of_mem hfm
        have hi' : fs[i]? = some f := by simpa using hi
        have h1 := hf i f hi'
        have : i < xs.length := by rw [hxl]; exact (Array.getElem?_eq_some_iff.1 hi').1
        rw [List.getElem?_eq_getElem this] at h1
        exact ⟨_, _, h1⟩) hw ha
      simpa using this
    · cases hs


/-! ### Arguments -/

def parOf (P : Program) (t : TypeId) : Option (Sh × Bool) :=
  match shOf P 24 t with
  | some s => match P.underlying t with
    | some (.struct _) => some (s, true)
    | some (.array _ _) => none
    | _ => if s.sz = 1 then some (s, false) else none
  | none => none

def parsOf (P : Program) : List TypeId → Option (List (Sh × Bool))
  | [] => some []
  | t :: ts => match parOf P t, parsOf P ts with
    | some p, some ps => some (p :: ps)
    | _, _ => none

def PFit (h : IH) : Sh × Bool → IV → Prop
  | (s, true), v => ∃ cs, v = .agg cs ∧ Fits h s cs
  | (s, false), v => Fits h s [v]

def PFits (h : IH) : List (Sh × Bool) → List IV → Prop
  | [], vs => vs = []
  | p :: ps, vs => ∃ v r, vs = v :: r ∧ PFit h p v ∧ PFits h ps r

theorem PFit.ext {h h' : IH} (he : Ext h h') : ∀ {p : Sh × Bool} {v : IV}, PFit h p v → PFit h' p v
  | (s, true), _, ⟨cs, e, hf⟩ => ⟨cs, e, hf.ext he⟩
  | (s, false), _, hf => Fits.ext he hf

theorem came_par {t : TypeId} {p : Sh × Bool} (hp : parOf P t = some p) {v : Value} {base : Nat} (hok : Value.okWide P W .any base t v) {d : DataW H} {ps : List MemPlace}
    (ht : DataW.Trod enc P W 0 (fun _ => true) true t v d ps) {ρ : List RLoc} {h : IH} (hw : WRel ρ W.heap.size W h) (ha : AllRo h) :
    ∃ ρ' h' iv, ρ <+: ρ' ∧ WRel ρ' W.heap.size W h' ∧ AllRo h' ∧ Ext h h' ∧ VRel ρ' v iv ∧ PFit h' p iv := by
  obtain ⟨fuel, hf⟩ := ht
  unfold parOf at hp
  cases hs : shOf P 24 t with
  | none => rw [hs] at hp; cases hp
  | some s =>
    rw [hs] at hp
    simp only at hp
    obtain ⟨ρ', h', cs', p1, w1, a1, e1, l1, f1⟩ := readable _ _ _ hs ρ h fuel _ _ hw ha hf
    split at hp
    · rename_i fs hu
      obtain rfl := Option.some.inj hp
      simp only [Value.okWide, hu] at hok
      obtain ⟨cs, rfl, _, _⟩ := hok
      refine ⟨ρ', h', .agg cs', p1, w1, a1, e1, ?_, cs', rfl, f1⟩
      refine .agg (by simpa [Value.cells] using l1.1) fun i a b x y => l1.2 i a b (by simpa [Value.cells] using x) y
    · cases hp
    · rename_i hn1 hn2
      split at hp
      · rename_i h1
        obtain rfl := Option.some.inj hp
        have hc : v.cells.toList = [v] := by
          have hok' : Cell.okWide P W .any base t v := by
            simp only [Value.okWide] at hok
            exact hok
          cases v <;> first | rfl | (exfalso; revert hok'; unfold Cell.okWide; split <;> simp_all [Cell.ok])
        rw [hc] at l1
        match cs', l1, f1 with
        | [], l1, _ => exact absurd l1.1 (by simp)
        | [iv], l1, f1 => exact ⟨ρ', h', iv, p1, w1, a1, e1, l1.head, f1⟩
        | _ :: _ :: _, l1, _ => exact absurd l1.1 (by simp)
      · cases hp

theorem came_args : ∀ (ts : List TypeId) (vs : List Value) (ds : List (DataW H)) (ps : List MemPlace) (prs : List (Sh × Bool)) {base : Nat} {ρ : List RLoc} {h : IH},
    parsOf P ts = some prs → DataW.TrodAll enc P W 0 (fun _ => true) true ts vs ds ps → (∀ (j : Nat) t v, ts[j]? = some t → vs[j]? = some v → Value.okWide P W .any base t v) →
    WRel ρ W.heap.size W h → AllRo h → ∃ ρ' h' ivs, ρ <+: ρ' ∧ WRel ρ' W.heap.size W h' ∧ AllRo h' ∧ Ext h h' ∧ LRel ρ' vs ivs ∧ PFits h' prs ivs
  | [], vs, ds, ps, prs, base, ρ, h, hp, ht, _, hw, ha => by
    obtain rfl := Option.some.inj hp
    match vs, ds, ht with
    | [], [], _ => exact ⟨ρ, h, [], List.prefix_refl _, hw, ha, Ext.refl _, LRel.nil _, rfl⟩
  | t :: ts, vs, ds, ps, prs, base, ρ, h, hp, ht, hok, hw, ha => by
    obtain ⟨v, vs, d, ds, p, q, rfl, rfl, rfl, h1, h2⟩ := Go.ChangeShapes.trodAll_cons ht
    simp only [parsOf] at hp
    split at hp
    · rename_i p0 ps0 e1 e2
      obtain rfl := Option.some.inj hp
      obtain ⟨ρ1, g1, iv, p1, w1, a1, x1, r1, f1⟩ := came_par e1 (hok 0 t v rfl rfl) h1 hw ha
      obtain ⟨ρ2, g2, ivs, p2, w2, a2, x2, r2, f2⟩ := came_args ts vs ds q ps0 e2 h2 (fun j t' v' ht' hv' => hok (j + 1) t' v' ht' hv') w1 a1
      exact ⟨ρ2, g2, iv :: ivs, p1.trans p2, w2, a2, x1.trans x2, (LRel.cons (r1.mono p2) r2), iv, ivs, rfl, f1.ext x2, f2⟩
    · cases hp

theorem wrel_empty (W : World) : WRel [] W.heap.size W ⟨0, fun _ => .dead⟩ :=
  ⟨rfl, Nat.le_refl _, fun l r h => by simp at h, fun l l' r r' h => by simp at h⟩

/-- The arguments read behind the call as before. -/
theorem trodAll_below (hl : laidOutB P = true) {W' : World} (hb : Below W.heap.size W W') : ∀ (ts : List TypeId) (vs : List Value) (ds : List (DataW H)) (ps : List MemPlace),
    (ts.all fun t => P.readableRec t && decide (t < P.types.size)) = true → DataW.TrodAll enc P W 0 (fun _ => true) true ts vs ds ps →
    DataW.TrodAll enc P W' 0 (fun b => decide (b < W.heap.size)) true ts vs ds ps
  | [], vs, ds, ps, _, ht => by
    match vs, ds, ht with
    | [], [], ht => exact ht
  | t :: ts, vs, ds, ps, hr, ht => by
    obtain ⟨v, vs, d, ds, p, q, rfl, rfl, rfl, h1, h2⟩ := Go.ChangeShapes.trodAll_cons ht
    simp only [List.all_cons, Bool.and_eq_true, decide_eq_true_eq] at hr
    refine ⟨p, q, Below.trod hl hr.1.1 hr.1.2 h1 hb ?_, trodAll_below hl hb ts vs ds q hr.2 h2, rfl⟩
    obtain ⟨m, hm⟩ := h1
    exact DataW.trod_lt m _ _ _ hm

theorem FnOk.enter {f N : Nat} {cc : CC} {rs : List FK} (hf : FnOk P f N cc rs) (args : Array Value) (w : World) : (callFunc f args).run P w = .ok (.enter f args) w := by
  obtain ⟨fn, c, h1, h2, h3, _⟩ := hf.ok
  simp [callFunc, h1, h2, h3]

/-- THE LAW'S CALL: true, whatever it is handed. -/
def LawTrue (P : Program) (f : Nat) (prs : List (Sh × Bool)) : Prop :=
  ∀ (h : IH) (ivs : List IV), AllRo h → PFits h prs ivs → ICalls P f ivs h fun r _ => r = .bool true

theorem law_calls {f : Nat} {fn : Func} {prs : List (Sh × Bool)} (hfn : P.funcs[f]? = some fn) (henter : ∀ (args : Array Value) (w : World), (callFunc f args).run P w = .ok (.enter f args) w) (hp : parsOf P fn.params.toList = some prs)
    (hlaw : LawTrue P f prs) {args : Array Value} {ds : List (DataW H)} {ps : List MemPlace} {base : Nat}
    (hval : ∀ (j : Nat) t v, fn.params[j]? = some t → args[j]? = some v → Value.okWide P W .any base t v)
    (hA : DataW.TrodAll enc P W 0 (fun _ => true) true fn.params.toList args.toList ds ps) :
    Calls P f args W fun e W' => e = .returned (.bool true) ∧ Below W.heap.size W W' := by
  obtain ⟨ρ, h, ivs, _, hw, ha, _, hl, hf⟩ := came_args _ _ _ _ _ hp hA (fun j t v ht hv => hval j t v (by simpa using ht) (by simpa using hv)) (wrel_empty W) (fun l => rfl)
  have hc := hlaw h ivs ha hf ρ W.heap.size W args hw hl
  rw [henter] at hc
  simp only [UponF] at hc
  refine hc.mono fun e w' he => ?_
  cases e <;> simp only at he
  obtain ⟨ρ', v, h', _, _, hv, hb, rfl⟩ := he
  cases hv
  exact ⟨rfl, hb⟩

end Go.IW
