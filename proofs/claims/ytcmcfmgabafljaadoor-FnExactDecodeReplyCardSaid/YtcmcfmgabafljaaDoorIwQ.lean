/- Words for the proofs of contracts: what a verification condition is rewritten by. -/
import Derived.Test.YtcmcfmgabafljaaDoorIwP
set_option linter.unusedVariables false
set_option linter.unusedSimpArgs false
namespace Go.IW
open Go.RowKit

/-- Not told as 'rfl': the rewriting keeps each step, and the kernel need not find it again. -/
theorem nr {α : Sort _} {a b : α} (h : a = b) : a = b := h

@[go_sem] theorem put_some (e : Env) (d : Nat) (v : IV) : put e (some d) v = upd e d v := nr rfl
@[go_sem] theorem put_none (e : Env) (v : IV) : put e none v = e := nr rfl
@[go_sem] theorem upd_self (e : Env) (d : Nat) (v : IV) : upd e d v d = v := upd_eq e d v
@[go_sem] theorem upd_far (e : Env) (d t : Nat) (v : IV) (h : (t == d) = false) : upd e d v t = e t := upd_ne e v (by simpa using h)
@[go_sem] theorem ev_t (e : Env) (n : Nat) : CX.ev e (.t n) = e n := nr rfl
@[go_sem] theorem ev_c (e : Env) (v : IV) : CX.ev e (.c v) = v := nr rfl
@[go_sem] theorem ev_fn (e : Env) (f : Nat) : CX.ev e (.fn f) = .func f [] [] := nr rfl
@[go_sem ↓] theorem seqK_normal (n : Env → IH → Prop) (K : EPost) (e : Env) (h : IH) : seqK n K .normal e h = n e h := nr rfl
@[go_sem ↓] theorem seqK_ret (n : Env → IH → Prop) (K : EPost) (e : Env) (h : IH) : seqK n K .ret e h = K .ret e h := nr rfl
@[go_sem ↓] theorem seqK_exit (n : Env → IH → Prop) (K : EPost) (i : Nat) (e : Env) (h : IH) : seqK n K (.exit i) e h = K (.exit i) e h := nr rfl
@[go_sem ↓] theorem blockK_normal (i : Nat) (K : EPost) (e : Env) (h : IH) : blockK i K .normal e h = K .normal e h := nr rfl
@[go_sem ↓] theorem blockK_ret (i : Nat) (K : EPost) (e : Env) (h : IH) : blockK i K .ret e h = K .ret e h := nr rfl
theorem blockK_exit (i j : Nat) (K : EPost) (e : Env) (h : IH) : blockK i K (.exit j) e h = if j = i then K .normal e h else K (.exit j) e h := nr rfl
@[go_sem ↓] theorem blockK_here (i : Nat) (K : EPost) (e : Env) (h : IH) : blockK i K (.exit i) e h = K .normal e h := by simp [blockK]
@[go_sem ↓] theorem blockK_far (i j : Nat) (K : EPost) (e : Env) (h : IH) (hij : (j == i) = false) : blockK i K (.exit j) e h = K (.exit j) e h := by
  rw [blockK_exit, if_neg (by simpa using hij)]

/-- What is to be shown later: not looked into by the rewriting. -/
class Hold where
  p : Prop
class HoldK where
  k : IV → IH → Prop
class HoldL where
  body : EPost → Env → IH → Prop
  K : EPost

/-- A test. -/
def test (c : IV) [A : Hold] [B : Hold] : Prop := vcCond c A.p B.p
@[go_sem] theorem test_true (A B : Hold) : @test (.bool true) A B = A.p := by simp [test, vcCond]
@[go_sem] theorem test_false (A B : Hold) : @test (.bool false) A B = B.p := by simp [test, vcCond]
theorem test_of {b : Bool} {A B : Hold} (h1 : b = true → A.p) (h2 : b = false → B.p) : @test (.bool b) A B := ⟨h1, h2⟩
theorem test_dec {p : Prop} [Decidable p] {A B : Hold} (h1 : p → A.p) (h2 : ¬ p → B.p) : @test (.bool (decide p)) A B := ⟨fun h => h1 (by simpa using h), fun h => h2 (by simpa using h)⟩
theorem test_not {p : Prop} [Decidable p] {A B : Hold} (h1 : ¬ p → A.p) (h2 : p → B.p) : @test (.bool (!decide p)) A B := ⟨fun h => h1 (by simpa using h), fun h => h2 (by simpa using h)⟩
/-- A loop. -/
def loop [L : HoldL] (e : Env) (h : IH) : Prop := vcLoop L.body L.K e h
theorem loop_of {L : HoldL} {e : Env} {h : IH} (I : Nat → Env → IH → Prop) (h0 : ∃ n, I n e h) (hr : ∀ n e h, I n e h → L.body (seqK (fun e' h' => ∃ m, m < n ∧ I m e' h') L.K) e h) : @loop L e h := ⟨I, h0, hr⟩

theorem loop_at {L : HoldL} {e : Env} {h : IH} (I : Nat → Env → IH → Prop) (n0 : Nat) (h0 : I n0 e h) (hr : ∀ n e h, I n e h → L.body (seqK (fun e' h' => ∃ m, m < n ∧ I m e' h') L.K) e h) : @loop L e h := ⟨I, ⟨n0, h0⟩, hr⟩

section
variable (P : Program) (K : EPost) (e : Env) (h : IH)
@[go_sem ↓] theorem vc_skip : vc P .skip K e h = K .normal e h := nr rfl
@[go_sem ↓] theorem vc_reg (ops : List COp) : vc P (.reg ops) K e h = vcOps P ops (K .normal) e h := nr rfl
@[go_sem ↓] theorem vc_dreg (ops : List COp) (b : List Bool) (a : List (List Nat)) (o : List Nat) : vc P (.dreg ops b a o) K e h = vcD P ops b a [] o (K .normal) e h := nr rfl
@[go_sem ↓] theorem vc_treg (ops : List COp) (a : List (List Nat)) (t : DT) : vc P (.treg ops a t) K e h = vcT P ops a [] t (K .normal) e h := nr rfl
@[go_sem ↓] theorem vc_seq (a b : CC) : vc P (.seq a b) K e h = vc P a (seqK (vc P b K) K) e h := nr rfl
@[go_sem ↓] theorem vc_cond (c : CX) (a b : CC) : vc P (.cond c a b) K e h = @test (c.ev e) ⟨vc P a K e h⟩ ⟨vc P b K e h⟩ := nr rfl
@[go_sem ↓] theorem vc_block (i : Nat) (a : CC) : vc P (.block i a) K e h = vc P a (blockK i K) e h := nr rfl
@[go_sem ↓] theorem vc_loop (a : CC) : vc P (.loop a) K e h = @loop ⟨vc P a, K⟩ e h := nr rfl
@[go_sem ↓] theorem vc_exit (i : Nat) : vc P (.exit i) K e h = K (.exit i) e h := nr rfl
@[go_sem ↓] theorem vc_ret : vc P .ret K e h = K .ret e h := nr rfl
end

section
variable (P : Program) (K : Env → IH → Prop) (e : Env) (h : IH)
@[go_sem ↓] theorem vcOps_nil : vcOps P [] K e h = K e h := nr rfl
@[go_sem ↓] theorem vcOps_cons (o : COp) (r : List COp) : vcOps P (o :: r) K e h = vcOp P o (vcOps P r K) e h := nr rfl
@[go_sem ↓] theorem vcOp_plain (d : Option Nat) (k : CK) : vcOp P ⟨d, none, k⟩ K e h = vcK P k e h fun v h' => K (put e d v) h' := nr rfl
/-- A guard. -/
def guard (c : IV) (want : Bool) [A : Hold] [B : Hold] : Prop :=
  match c with
  | .bool b => (b = want → A.p) ∧ (b = !want → B.p)
  | .tuple [] => B.p
  | _ => False
@[go_sem ↓] theorem vcOp_guard (d : Option Nat) (t : Nat) (want : Bool) (k : CK) : vcOp P ⟨d, some (t, want), k⟩ K e h = @guard (e t) want ⟨vcK P k e h fun v h' => K (put e d v) h'⟩ ⟨K (put e d (.tuple [])) h⟩ := nr rfl
@[go_sem] theorem guard_tt (A B : Hold) : @guard (.bool true) true A B = A.p := by simp [guard]
@[go_sem] theorem guard_tf (A B : Hold) : @guard (.bool true) false A B = B.p := by simp [guard]
@[go_sem] theorem guard_ft (A B : Hold) : @guard (.bool false) true A B = B.p := by simp [guard]
@[go_sem] theorem guard_ff (A B : Hold) : @guard (.bool false) false A B = A.p := by simp [guard]
@[go_sem] theorem guard_u (want : Bool) (A B : Hold) : @guard (.tuple []) want A B = B.p := nr rfl
/-- The guard's value comes to be known on either way. -/
theorem guard_of {b want : Bool} {A B : Hold} (h1 : b = want → A.p) (h2 : b = !want → B.p) : @guard (.bool b) want A B := ⟨h1, h2⟩
/-- A value that may be none, told on. -/
def got (o : Option IV) (h : IH) [K : HoldK] : Prop := match o with | some v => K.k v h | none => False
@[go_sem ↓] theorem vcK_f (k : FK) (K : IV → IH → Prop) : vcK P (.f k) e h K = @got (feval e h k) h ⟨K⟩ := nr rfl
@[go_sem] theorem got_some (v : IV) (K : HoldK) : @got (some v) h K = K.k v h := nr rfl
theorem got_of {h : IH} {o : Option IV} {v : IV} {K : HoldK} (ho : o = some v) (hk : K.k v h) : @got o h K := by rw [ho]; exact hk
@[go_sem ↓] theorem vcK_x (k : EK) (K : IV → IH → Prop) : vcK P (.x k) e h K = act P h e K k := nr rfl
end


/-! What an operation answers, told apart by its operands. -/
section
variable (e : Env) (h : IH)
@[go_sem] theorem fe_mv (x : CX) : feval e h (.mv x) = some (x.ev e) := nr rfl
def pickF (c a b : IV) : Option IV := match c with | .bool true => some a | .bool false => some b | _ => none
@[go_sem] theorem fe_pick (c a b : CX) : feval e h (.pick c a b) = pickF (c.ev e) (a.ev e) (b.ev e) := nr rfl
@[go_sem] theorem pickF_true (a b : IV) : pickF (.bool true) a b = some a := nr rfl
@[go_sem] theorem pickF_false (a b : IV) : pickF (.bool false) a b = some b := nr rfl
@[go_sem] theorem fe_build (z : List IV) (ps : List (Nat × Nat × CX)) : feval e h (.build z ps) = (lay z (ps.map fun p => (p.1, p.2.1, p.2.2.ev e))).map .agg := nr rfl
def ldF (h : IH) (x : IV) : Option IV := match x with | .ptr l i k => h.cell l i k | _ => none
@[go_sem] theorem fe_ld (x : CX) : feval e h (.ld x) = ldF h (x.ev e) := nr rfl
@[go_sem] theorem ldF_ptr (l i k : Nat) : ldF h (.ptr l i k) = h.cell l i k := nr rfl
def rowA (row : Option (List IV)) (k n : Nat) : Option IV := match row with | some row => if k + n ≤ row.length then some (.agg ((row.drop k).take n)) else none | none => none
def ldAF (h : IH) (n : Nat) (x : IV) : Option IV := match x with | .ptr l i k => rowA (h.row l i) k n | _ => none
@[go_sem] theorem fe_ldA (n : Nat) (x : CX) : feval e h (.ldA n x) = ldAF h n (x.ev e) := nr rfl
@[go_sem] theorem ldAF_ptr (n l i k : Nat) : ldAF h n (.ptr l i k) = rowA (h.row l i) k n := nr rfl
theorem rowA_some (row : List IV) (k n : Nat) (hk : k + n ≤ row.length) : rowA (some row) k n = some (.agg ((row.drop k).take n)) := if_pos hk
theorem rowA_whole (row : List IV) (n : Nat) (hk : row.length = n) : rowA (some row) 0 n = some (.agg row) := by
  unfold rowA; simp [← hk]
def nckF (x : IV) : Option IV := match x with | .ptr l i k => some (.ptr l i k) | .func f as cs => some (.func f as cs) | .iface t v => some (.iface t v) | _ => none
@[go_sem] theorem fe_nck (x : CX) : feval e h (.nck x) = nckF (x.ev e) := nr rfl
@[go_sem] theorem nckF_ptr (l i k : Nat) : nckF (.ptr l i k) = some (.ptr l i k) := nr rfl
@[go_sem] theorem nckF_func (f : Nat) (a c : List IV) : nckF (.func f a c) = some (.func f a c) := nr rfl
@[go_sem] theorem fe_bin (op : BinOp) (x y : CX) : feval e h (.bin op x y) = ibin op (x.ev e) (y.ev e) := nr rfl
@[go_sem] theorem fe_binB (g : Bool) (x y : CX) : feval e h (.binB g x y) = ibinB g (x.ev e) (y.ev e) := nr rfl
@[go_sem] theorem ibinB_bool (g a b : Bool) : ibinB g (.bool a) (.bool b) = some (.bool ((a == b) != g)) := nr rfl
def eqnF (neg : Bool) (a b : Option Bool) : Option IV := match a, b with
  | some true, some b => some (.bool (b != neg))
  | some b, some true => some (.bool (b != neg))
  | _, _ => none
@[go_sem] theorem fe_eqn (k : NK) (g : Bool) (x y : CX) : feval e h (.eqn k g x y) = eqnF g (isNil k (x.ev e)) (isNil k (y.ev e)) := nr rfl
@[go_sem] theorem eqnF_right (g : Bool) (a : Bool) : eqnF g (some a) (some true) = some (.bool (a != g)) := by cases a <;> rfl
@[go_sem] theorem eqnF_left (g : Bool) (a : Bool) : eqnF g (some true) (some a) = some (.bool (a != g)) := by cases a <;> rfl
@[go_sem] theorem isNil_1 : isNil .ptr .nilptr = some true := nr rfl
@[go_sem] theorem isNil_2 : isNil .slice .nilslice = some true := nr rfl
@[go_sem] theorem isNil_3 : isNil .map .nilmap = some true := nr rfl
@[go_sem] theorem isNil_4 : isNil .func .nilfunc = some true := nr rfl
@[go_sem] theorem isNil_5 : isNil .iface .niliface = some true := nr rfl
@[go_sem] theorem isNil_6 (l i k : Nat) : isNil .ptr (.ptr l i k) = some false := nr rfl
@[go_sem] theorem isNil_7 (l i k : Nat) : isNil .slice (.slice l i k) = some false := nr rfl
@[go_sem] theorem isNil_8 (z : Bool) : isNil .slice (.eslice z) = some false := nr rfl
@[go_sem] theorem isNil_9 (l : Nat) : isNil .map (.map l) = some false := nr rfl
@[go_sem] theorem isNil_10 (f : Nat) (a b : List IV) : isNil .func (.func f a b) = some false := nr rfl
@[go_sem] theorem isNil_11 (t : Nat) (v : IV) : isNil .iface (.iface t v) = some false := nr rfl
@[go_sem] theorem fe_un (op : UnOp) (x : CX) : feval e h (.un op x) = iun op (x.ev e) := nr rfl
@[go_sem] theorem iun_not (b : Bool) : iun .not (.bool b) = some (.bool (!b)) := nr rfl
@[go_sem] theorem iun_neg (k : IntKind) (n : Int) : iun .neg (.int k n) = some (.int k (wr k (0 - n))) := nr rfl
@[go_sem] theorem iun_xor (k : IntKind) (n : Int) : iun .xor (.int k n) = some (.int k (bits .xor k (if k.signed then -1 else k.max) n)) := nr rfl
def cvIF (k : IntKind) (x : IV) : Option IV := match x with | .int _ n => some (.int k (wr k n)) | _ => none
@[go_sem] theorem fe_cvI (k : IntKind) (x : CX) : feval e h (.cvI k x) = cvIF k (x.ev e) := nr rfl
@[go_sem] theorem cvIF_int (k j : IntKind) (n : Int) : cvIF k (.int j n) = some (.int k (wr k n)) := nr rfl
def cvSF (x : IV) : Option IV := match x with | .str s => some (.str s) | _ => none
@[go_sem] theorem fe_cvS (x : CX) : feval e h (.cvS x) = cvSF (x.ev e) := nr rfl
@[go_sem] theorem cvSF_str (s : List UInt8) : cvSF (.str s) = some (.str s) := nr rfl
def b2sO (o : IObj) (i n : Nat) : Option IV := match o with | .rows rs _ sz _ => if sz = 1 ∧ i + n ≤ rs.length then (bytesOf ((rs.drop i).take n)).map .str else none | _ => none
def b2sF (h : IH) (x : IV) : Option IV := match x with | .nilslice => some (.str []) | .eslice _ => some (.str []) | .slice l i n => b2sO (h.obj l) i n | _ => none
@[go_sem] theorem fe_b2s (x : CX) : feval e h (.b2s x) = b2sF h (x.ev e) := nr rfl
@[go_sem] theorem b2sF_nil : b2sF h .nilslice = some (.str []) := nr rfl
@[go_sem] theorem b2sF_e (z : Bool) : b2sF h (.eslice z) = some (.str []) := nr rfl
@[go_sem] theorem b2sF_slice (l i n : Nat) : b2sF h (.slice l i n) = b2sO (h.obj l) i n := nr rfl
def extF (i : Nat) (x : IV) : Option IV := match x with | .tuple vs => vs[i]? | _ => none
@[go_sem] theorem fe_ext (i : Nat) (x : CX) : feval e h (.ext i x) = extF i (x.ev e) := nr rfl
@[go_sem] theorem extF_tuple (i : Nat) (vs : List IV) : extF i (.tuple vs) = vs[i]? := nr rfl
def fldF (off n : Nat) (agg : Bool) (x : IV) : Option IV := match x with | .agg cs => if agg then (if off + n ≤ cs.length then some (.agg ((cs.drop off).take n)) else none) else cs[off]? | _ => none
@[go_sem] theorem fe_fld (off n : Nat) (agg : Bool) (x : CX) : feval e h (.fld off n agg x) = fldF off n agg (x.ev e) := nr rfl
@[go_sem] theorem fldF_one (off n : Nat) (cs : List IV) : fldF off n false (.agg cs) = cs[off]? := nr rfl
theorem fldF_agg (off n : Nat) (cs : List IV) (hk : off + n ≤ cs.length) : fldF off n true (.agg cs) = some (.agg ((cs.drop off).take n)) := if_pos hk
def fadrF (off : Nat) (x : IV) : Option IV := match x with | .ptr l i k => some (.ptr l i (k + off)) | _ => none
@[go_sem] theorem fe_fadr (off : Nat) (x : CX) : feval e h (.fadr off x) = fadrF off (x.ev e) := nr rfl
@[go_sem] theorem fadrF_ptr (off l i k : Nat) : fadrF off (.ptr l i k) = some (.ptr l i (k + off)) := nr rfl
def iadrF (h : IH) (sz : Nat) (x i : IV) : Option IV := match x, i with | .slice l j n, .int _ m => if 0 ≤ m ∧ m < n ∧ h.size l = some sz then some (.ptr l (j + m.toNat) 0) else none | _, _ => none
@[go_sem] theorem fe_iadr (sz : Nat) (x i : CX) : feval e h (.iadr sz x i) = iadrF h sz (x.ev e) (i.ev e) := nr rfl
theorem iadrF_of {sz l j n : Nat} {k : IntKind} {m : Int} (h0 : 0 ≤ m) (h1 : m < n) (hs : h.size l = some sz) : iadrF h sz (.slice l j n) (.int k m) = some (.ptr l (j + m.toNat) 0) := if_pos ⟨h0, h1, hs⟩
def iadrAF (len sz : Nat) (x i : IV) : Option IV := match x, i with | .ptr l j k, .int _ m => if 0 ≤ m ∧ m < len then some (.ptr l j (k + m.toNat * sz)) else none | _, _ => none
@[go_sem] theorem fe_iadrA (len sz : Nat) (x i : CX) : feval e h (.iadrA len sz x i) = iadrAF len sz (x.ev e) (i.ev e) := nr rfl
theorem iadrAF_of {len sz l j k : Nat} {q : IntKind} {m : Int} (h0 : 0 ≤ m) (h1 : m < len) : iadrAF len sz (.ptr l j k) (.int q m) = some (.ptr l j (k + m.toNat * sz)) := if_pos ⟨h0, h1⟩
def idxSF (x i : IV) : Option IV := match x, i with | .str s, .int _ m => if 0 ≤ m then (s[m.toNat]?).map (fun b => .int .u8 b.toNat) else none | _, _ => none
@[go_sem] theorem fe_idxS (x i : CX) : feval e h (.idxS x i) = idxSF (x.ev e) (i.ev e) := nr rfl
theorem idxSF_of {s : List UInt8} {k : IntKind} {m : Int} {b : UInt8} (h0 : 0 ≤ m) (hb : s[m.toNat]? = some b) : idxSF (.str s) (.int k m) = some (.int .u8 b.toNat) := by
  simp [idxSF, h0, hb]
def idxAF (len sz : Nat) (agg : Bool) (x i : IV) : Option IV := match x, i with
  | .agg cs, .int _ m => if 0 ≤ m ∧ m < len then
        (if agg then (if m.toNat * sz + sz ≤ cs.length then some (.agg ((cs.drop (m.toNat * sz)).take sz)) else none) else cs[m.toNat * sz]?) else none
  | _, _ => none
@[go_sem] theorem fe_idxA (len sz : Nat) (agg : Bool) (x i : CX) : feval e h (.idxA len sz agg x i) = idxAF len sz agg (x.ev e) (i.ev e) := nr rfl
def lenF (x : IV) : Option IV := (ilen x).map fun (n : Nat) => IV.int .i64 (n : Int)
@[go_sem] theorem fe_len (x : CX) : feval e h (.len x) = lenF (x.ev e) := nr rfl
@[go_sem] theorem lenF_slice (l i n : Nat) : lenF (.slice l i n) = some (.int .i64 n) := nr rfl
@[go_sem] theorem lenF_e (z : Bool) : lenF (.eslice z) = some (.int .i64 0) := nr rfl
@[go_sem] theorem lenF_nil : lenF .nilslice = some (.int .i64 0) := nr rfl
def lenSF (x : IV) : Option IV := match x with | .str s => some (.int .i64 s.length) | _ => none
@[go_sem] theorem fe_lenS (x : CX) : feval e h (.lenS x) = lenSF (x.ev e) := nr rfl
@[go_sem] theorem lenSF_str (s : List UInt8) : lenSF (.str s) = some (.int .i64 s.length) := nr rfl
def mmF (max : Bool) (x y : IV) : Option IV := match x, y with | .int k a, .int _ b => some (.int k (if max then (if b > a then b else a) else (if b < a then b else a))) | _, _ => none
@[go_sem] theorem fe_mm (m : Bool) (x y : CX) : feval e h (.mm m x y) = mmF m (x.ev e) (y.ev e) := nr rfl
@[go_sem] theorem mmF_max (k j : IntKind) (a b : Int) : mmF true (.int k a) (.int j b) = some (.int k (max a b)) := by
  simp only [mmF, if_true]; congr 2; split <;> omega
@[go_sem] theorem mmF_min (k j : IntKind) (a b : Int) : mmF false (.int k a) (.int j b) = some (.int k (min a b)) := by
  simp only [mmF, Bool.false_eq_true, if_false]; congr 2; split <;> omega
/-- A bound that stands. -/
def boundF (len : Nat) (x : Option IV) (d : Nat) : Option Nat := match x with
  | none => some d
  | some x => match x with
    | .int _ n => if 0 ≤ n ∧ n ≤ len then some n.toNat else none
    | _ => none
@[go_sem] theorem boundF_none (len d : Nat) : boundF len none d = some d := nr rfl
theorem boundF_of {len d : Nat} {k : IntKind} {n : Int} (h0 : 0 ≤ n) (h1 : n ≤ len) : boundF len (some (.int k n)) d = some n.toNat := if_pos ⟨h0, h1⟩
theorem obound_eq (len : Nat) (x : Option CX) (d : Nat) : obound len x e d = boundF len (x.map (CX.ev e)) d := by cases x <;> rfl
def slcSF (x : IV) (lo hi : Option IV) : Option IV := match x with
  | .str s => match boundF s.length hi s.length with
    | some b => match boundF b lo 0 with
      | some a => some (.str ((s.take b).drop a))
      | none => none
    | none => none
  | _ => none
@[go_sem] theorem fe_slcS (x : CX) (lo hi : Option CX) : feval e h (.slcS x lo hi) = slcSF (x.ev e) (lo.map (CX.ev e)) (hi.map (CX.ev e)) := by
  simp only [feval, slcSF, obound_eq]; rfl
theorem slcSF_of {s : List UInt8} {lo hi : Option IV} {a b : Nat} (hb : boundF s.length hi s.length = some b) (ha : boundF b lo 0 = some a) : slcSF (.str s) lo hi = some (.str ((s.take b).drop a)) := by
  simp only [slcSF, hb, ha]
def slcF (h : IH) (sz : Nat) (x : IV) (lo hi : Option IV) : Option IV := match ilen x with
  | some n => match boundF n hi n with
    | some b => match boundF b lo 0 with
      | some a => islc h sz x a b none
      | none => none
    | none => none
  | none => none
@[go_sem] theorem fe_slc (sz : Nat) (x : CX) (lo hi : Option CX) : feval e h (.slc sz x lo hi none) = slcF h sz (x.ev e) (lo.map (CX.ev e)) (hi.map (CX.ev e)) := by
  simp only [feval, slcF, obound_eq]; rfl
theorem slcF_of {sz n a b : Nat} {x : IV} {lo hi : Option IV} (hn : ilen x = some n) (hb : boundF n hi n = some b) (ha : boundF b lo 0 = some a) : slcF h sz x lo hi = islc h sz x a b none := by
  simp only [slcF, hn, hb, ha]
def slc3F (h : IH) (sz : Nat) (x : IV) (lo hi : Option IV) (mx : IV) : Option IV := match ilen x with
  | some n => match boundF n (some mx) n with
    | some m => match boundF m hi n with
      | some b => match boundF b lo 0 with
        | some a => if hi.isSome then islc h sz x a b (some m) else none
        | none => none
      | none => none
    | none => none
  | none => none
@[go_sem] theorem fe_slc3 (sz : Nat) (x mx : CX) (lo hi : Option CX) : feval e h (.slc sz x lo hi (some mx)) = slc3F h sz (x.ev e) (lo.map (CX.ev e)) (hi.map (CX.ev e)) (mx.ev e) := by
  simp only [feval, slc3F, obound_eq, Option.map_some, Option.isSome_map]; rfl
@[go_sem] theorem islc_nil (sz : Nat) : islc h sz .nilslice 0 0 none = some .nilslice := nr rfl
@[go_sem] theorem islc_e (sz : Nat) (z : Bool) : islc h sz (.eslice z) 0 0 none = some (.eslice z) := by simp [islc]
theorem islc_some {sz l i n a b : Nat} (hab : a < b) (hb : b ≤ n) (hs : h.size l = some sz) : islc h sz (.slice l i n) a b none = some (.slice l (i + a) (b - a)) := by
  simp [islc, Nat.le_of_lt hab, hb, hs, Nat.ne_of_gt hab]
theorem islc_none {sz l i n a : Nat} (hb : a ≤ n) (hs : h.size l = some sz) : islc h sz (.slice l i n) a a none = some (.eslice false) := by
  simp [islc, hb, hs]
@[go_sem] theorem fe_mkif (t : Nat) (x : CX) : feval e h (.mkif t x) = some (.iface t (x.ev e)) := nr rfl
@[go_sem] theorem fe_mkf (f : Nat) (a c : List CX) : feval e h (.mkf f a c) = some (.func f (a.map (CX.ev e)) (c.map (CX.ev e))) := nr rfl
end
section
variable (k : IntKind) (a b : Int) (s t : List UInt8)
@[go_sem] theorem ib_add : ibin .add (.int k a) (.int k b) = some (.int k (wr k (a + b))) := if_pos rfl
@[go_sem] theorem ib_sub : ibin .sub (.int k a) (.int k b) = some (.int k (wr k (a - b))) := if_pos rfl
@[go_sem] theorem ib_mul : ibin .mul (.int k a) (.int k b) = some (.int k (wr k (a * b))) := if_pos rfl
theorem ib_quo (hb : b ≠ 0) : ibin .quo (.int k a) (.int k b) = some (.int k (wr k (a.tdiv b))) := (if_pos rfl).trans (if_neg hb)
theorem ib_rem (hb : b ≠ 0) : ibin .rem (.int k a) (.int k b) = some (.int k (a.tmod b)) := (if_pos rfl).trans (if_neg hb)
@[go_sem] theorem ib_and : ibin .and (.int k a) (.int k b) = some (.int k (bits .and k a b)) := if_pos rfl
@[go_sem] theorem ib_or : ibin .or (.int k a) (.int k b) = some (.int k (bits .or k a b)) := if_pos rfl
@[go_sem] theorem ib_xor : ibin .xor (.int k a) (.int k b) = some (.int k (bits .xor k a b)) := if_pos rfl
@[go_sem] theorem ib_andNot : ibin .andNot (.int k a) (.int k b) = some (.int k (bits .andNot k a b)) := if_pos rfl
@[go_sem] theorem ib_eql : ibin .eql (.int k a) (.int k b) = some (.bool (decide (a = b))) := if_pos rfl
@[go_sem] theorem ib_neq : ibin .neq (.int k a) (.int k b) = some (.bool (!decide (a = b))) := if_pos rfl
@[go_sem] theorem ib_lss : ibin .lss (.int k a) (.int k b) = some (.bool (decide (a < b))) := if_pos rfl
@[go_sem] theorem ib_leq : ibin .leq (.int k a) (.int k b) = some (.bool (decide (a ≤ b))) := if_pos rfl
@[go_sem] theorem ib_gtr : ibin .gtr (.int k a) (.int k b) = some (.bool (decide (b < a))) := if_pos rfl
@[go_sem] theorem ib_geq : ibin .geq (.int k a) (.int k b) = some (.bool (decide (b ≤ a))) := if_pos rfl
theorem ib_shl (j : IntKind) (hb : ¬ b < 0) : ibin .shl (.int k a) (.int j b) = some (.int k (wr k (a * 2 ^ (min b.toNat k.bits)))) := if_neg hb
theorem ib_shr (j : IntKind) (hb : ¬ b < 0) : ibin .shr (.int k a) (.int j b) = some (.int k (a.fdiv (2 ^ (min b.toNat k.bits)))) := if_neg hb
theorem ibs_add (hl : s.length + t.length ≤ 9223372036854775807) : ibin .add (.str s) (.str t) = some (.str (s ++ t)) := if_pos hl
@[go_sem] theorem ibs_eql : ibin .eql (.str s) (.str t) = some (.bool (decide (s = t))) := nr rfl
@[go_sem] theorem ibs_neq : ibin .neq (.str s) (.str t) = some (.bool (!decide (s = t))) := nr rfl
@[go_sem] theorem ibs_lss : ibin .lss (.str s) (.str t) = some (.bool (bless s t)) := nr rfl
@[go_sem] theorem ibs_leq : ibin .leq (.str s) (.str t) = some (.bool (bless s t || decide (s = t))) := nr rfl
@[go_sem] theorem ibs_gtr : ibin .gtr (.str s) (.str t) = some (.bool (!(bless s t || decide (s = t)))) := nr rfl
@[go_sem] theorem ibs_geq : ibin .geq (.str s) (.str t) = some (.bool (!bless s t)) := nr rfl
end


/-! Heaps. -/
section
variable (h : IH) (o : IObj) (l : Nat)
@[go_sem] theorem push_n : (h.push o).n = h.n + 1 := nr rfl
@[go_sem] theorem set_n : (h.set l o).n = h.n := nr rfl
@[go_sem] theorem push_new : (h.push o).obj h.n = o := by simp [IH.push]
theorem push_old (hl : l < h.n) : (h.push o).obj l = h.obj l := by simp only [IH.push]; rw [if_neg (by omega)]
theorem push_at (m : Nat) (hm : m = h.n) : (h.push o).obj m = o := by subst hm; exact push_new h o
@[go_sem] theorem set_here : (h.set l o).obj l = o := by simp [IH.set]
theorem set_there (m : Nat) (hm : m ≠ l) : (h.set l o).obj m = h.obj m := by simp [IH.set, hm]
def cellO (o : IObj) (i k : Nat) : Option IV := match o with | .rows rs _ _ _ => (rs[i]?).bind (·[k]?) | _ => none
@[go_sem] theorem cell_eq (i k : Nat) : h.cell l i k = cellO (h.obj l) i k := by unfold IH.cell IH.row cellO; cases h.obj l <;> rfl
@[go_sem] theorem cellO_rows (rs : List (List IV)) (e sz : Nat) (ro : Bool) (i k : Nat) : cellO (.rows rs e sz ro) i k = (rs[i]?).bind (·[k]?) := nr rfl
def rowO (o : IObj) (i : Nat) : Option (List IV) := match o with | .rows rs _ _ _ => rs[i]? | _ => none
@[go_sem] theorem row_eq (i : Nat) : h.row l i = rowO (h.obj l) i := by unfold IH.row rowO; cases h.obj l <;> rfl
@[go_sem] theorem rowO_rows (rs : List (List IV)) (e sz : Nat) (ro : Bool) (i : Nat) : rowO (.rows rs e sz ro) i = rs[i]? := nr rfl
def sizeO (o : IObj) : Option Nat := match o with | .rows _ _ sz _ => some sz | _ => none
@[go_sem] theorem size_eq : h.size l = sizeO (h.obj l) := by unfold IH.size sizeO; cases h.obj l <;> rfl
@[go_sem] theorem sizeO_rows (rs : List (List IV)) (e sz : Nat) (ro : Bool) : sizeO (.rows rs e sz ro) = some sz := nr rfl
@[go_sem] theorem b2sO_rows (rs : List (List IV)) (e i n : Nat) (ro : Bool) : b2sO (.rows rs e 1 ro) i n = if i + n ≤ rs.length then (bytesOf ((rs.drop i).take n)).map .str else none := by simp [b2sO]
end
/-- h' is h and more. -/
structure Ext (h h' : IH) : Prop where
  le : h.n ≤ h'.n
  obj : ∀ l, l < h.n → h'.obj l = h.obj l
theorem Ext.refl (h : IH) : Ext h h := ⟨Nat.le_refl _, fun _ _ => rfl⟩
theorem Ext.trans {a b c : IH} (h1 : Ext a b) (h2 : Ext b c) : Ext a c := ⟨Nat.le_trans h1.le h2.le, fun l hl => (h2.obj l (Nat.lt_of_lt_of_le hl h1.le)).trans (h1.obj l hl)⟩
theorem Ext.push {a b : IH} (h1 : Ext a b) (o : IObj) : Ext a (b.push o) := ⟨Nat.le_succ_of_le h1.le, fun l hl => (push_old b o l (Nat.lt_of_lt_of_le hl h1.le)).trans (h1.obj l hl)⟩
theorem Ext.set {a b : IH} (h1 : Ext a b) (l : Nat) (hl : a.n ≤ l) (o : IObj) : Ext a (b.set l o) := ⟨h1.le, fun m hm => (set_there b o l m (by omega)).trans (h1.obj m hm)⟩

/-! What makes memory, writes it, calls. -/
section
variable (P : Program) (h : IH) (e : Env) (K : IV → IH → Prop)
@[go_sem] theorem cells_bool (b : Bool) : (IV.bool b).cells = [.bool b] := nr rfl
@[go_sem] theorem cells_int (k : IntKind) (n : Int) : (IV.int k n).cells = [.int k n] := nr rfl
@[go_sem] theorem cells_str (s : List UInt8) : (IV.str s).cells = [.str s] := nr rfl
@[go_sem] theorem cells_nilptr : (IV.nilptr).cells = [.nilptr] := nr rfl
@[go_sem] theorem cells_ptr (l i k : Nat) : (IV.ptr l i k).cells = [.ptr l i k] := nr rfl
@[go_sem] theorem cells_nilslice : (IV.nilslice).cells = [.nilslice] := nr rfl
@[go_sem] theorem cells_e (z : Bool) : (IV.eslice z).cells = [.eslice z] := nr rfl
@[go_sem] theorem cells_slice (l i k : Nat) : (IV.slice l i k).cells = [.slice l i k] := nr rfl
@[go_sem] theorem cells_nilmap : (IV.nilmap).cells = [.nilmap] := nr rfl
@[go_sem] theorem cells_map (l : Nat) : (IV.map l).cells = [.map l] := nr rfl
@[go_sem] theorem cells_nilfunc : (IV.nilfunc).cells = [.nilfunc] := nr rfl
@[go_sem] theorem cells_func (f : Nat) (a c : List IV) : (IV.func f a c).cells = [.func f a c] := nr rfl
@[go_sem] theorem cells_niliface : (IV.niliface).cells = [.niliface] := nr rfl
@[go_sem] theorem cells_iface (t : Nat) (v : IV) : (IV.iface t v).cells = [.iface t v] := nr rfl
@[go_sem] theorem cells_agg (cs : List IV) : (IV.agg cs).cells = cs := nr rfl
@[go_sem] theorem one_bool (b : Bool) : (IV.bool b).one = true := nr rfl
@[go_sem] theorem one_int (k : IntKind) (n : Int) : (IV.int k n).one = true := nr rfl
@[go_sem] theorem one_str (s : List UInt8) : (IV.str s).one = true := nr rfl
@[go_sem] theorem one_nilptr : (IV.nilptr).one = true := nr rfl
@[go_sem] theorem one_ptr (l i k : Nat) : (IV.ptr l i k).one = true := nr rfl
@[go_sem] theorem one_nilslice : (IV.nilslice).one = true := nr rfl
@[go_sem] theorem one_e (z : Bool) : (IV.eslice z).one = true := nr rfl
@[go_sem] theorem one_slice (l i k : Nat) : (IV.slice l i k).one = true := nr rfl
@[go_sem] theorem one_nilmap : (IV.nilmap).one = true := nr rfl
@[go_sem] theorem one_map (l : Nat) : (IV.map l).one = true := nr rfl
@[go_sem] theorem one_nilfunc : (IV.nilfunc).one = true := nr rfl
@[go_sem] theorem one_func (f : Nat) (a c : List IV) : (IV.func f a c).one = true := nr rfl
@[go_sem] theorem one_niliface : (IV.niliface).one = true := nr rfl
@[go_sem] theorem one_iface (t : Nat) (v : IV) : (IV.iface t v).one = true := nr rfl

@[go_sem ↓] theorem act_zero (el sz : Nat) (cs : List IV) : act P h e K (.zero el sz cs) = K (.ptr h.n 0 0) (h.push (.rows [cs] el sz false)) := nr rfl
def boxA (cs : List IV) (el sz : Nat) (h : IH) [K : HoldK] : Prop := cs.length = sz ∧ cs.all IV.one = true ∧ K.k (.ptr h.n 0 0) (h.push (.rows [cs] el sz false))
@[go_sem ↓] theorem act_box (el sz : Nat) (x : CX) : act P h e K (.box el sz x) = @boxA (x.ev e).cells el sz h ⟨K⟩ := nr rfl
theorem boxA_of {cs : List IV} {el sz : Nat} {h : IH} {K : HoldK} (h1 : cs.length = sz) (h2 : ∀ v ∈ cs, v.one = true) (hk : K.k (.ptr h.n 0 0) (h.push (.rows [cs] el sz false))) : @boxA cs el sz h K := ⟨h1, List.all_eq_true.2 h2, hk⟩
@[go_sem] theorem boxA_1 (v : IV) (hv : v.one = true) (el : Nat) (K : HoldK) : @boxA [v] el 1 h K = K.k (.ptr h.n 0 0) (h.push (.rows [[v]] el 1 false)) := by simp [boxA, hv]
@[go_sem] theorem boxA_2 (v1 v2 : IV) (h1 : v1.one = true) (h2 : v2.one = true) (el : Nat) (K : HoldK) : @boxA [v1, v2] el 2 h K = K.k (.ptr h.n 0 0) (h.push (.rows [[v1, v2]] el 2 false)) := by simp [boxA, h1, h2]
@[go_sem] theorem boxA_3 (v1 v2 v3 : IV) (h1 : v1.one = true) (h2 : v2.one = true) (h3 : v3.one = true) (el : Nat) (K : HoldK) : @boxA [v1, v2, v3] el 3 h K = K.k (.ptr h.n 0 0) (h.push (.rows [[v1, v2, v3]] el 3 false)) := by simp [boxA, h1, h2, h3]
def bslA (el sz : Nat) (zero : List IV) (len : Nat) (parts : List (Nat × IV)) (h : IH) [K : HoldK] : Prop :=
  if len = 0 then K.k (.eslice true) h else
    match layR (List.replicate len zero) sz parts with
    | some rows => (rows.all fun r => r.all IV.one) = true ∧ K.k (.slice h.n 0 len) (h.push (.rows rows el sz false))
    | none => False
@[go_sem ↓] theorem act_bslice (el sz : Nat) (z : List IV) (len : Nat) (ps : List (Nat × CX)) : act P h e K (.bslice el sz z len ps) = @bslA el sz z len (ps.map fun p => (p.1, p.2.ev e)) h ⟨K⟩ := nr rfl
@[go_sem] theorem bslA_0 (el sz : Nat) (z : List IV) (ps : List (Nat × IV)) (K : HoldK) : @bslA el sz z 0 ps h K = K.k (.eslice true) h := nr rfl
def bslP (el sz : Nat) (rows : Option (List (List IV))) (len : Nat) (h : IH) [K : HoldK] : Prop :=
  match rows with
  | some rows => (∀ r ∈ rows, ∀ v ∈ r, v.one = true) ∧ K.k (.slice h.n 0 len) (h.push (.rows rows el sz false))
  | none => False
theorem bslA_of {el sz len : Nat} {z : List IV} {ps : List (Nat × IV)} {h : IH} {K : HoldK} (hl : len ≠ 0) {rows : List (List IV)} (hr : layR (List.replicate len z) sz ps = some rows) (h1 : ∀ r ∈ rows, ∀ v ∈ r, v.one = true)
    (hk : K.k (.slice h.n 0 len) (h.push (.rows rows el sz false))) : @bslA el sz z len ps h K := by
  unfold bslA
  rw [if_neg hl, hr]
  exact ⟨by simp only [List.all_eq_true]; exact h1, hk⟩
/-- One element. -/
@[go_sem] theorem bslA_1 (el sz : Nat) (z : List IV) (v : IV) (K : HoldK) : @bslA el sz z 1 [(0, v)] h K = (v.cells.length = sz ∧ v.cells.all IV.one = true ∧ K.k (.slice h.n 0 1) (h.push (.rows [v.cells] el sz false))) := by
  unfold bslA
  by_cases hv : v.cells.length = sz <;> simp [layR, hv]
def stO (n i k : Nat) (cs : List IV) (l : Nat) (o : IObj) (h : IH) [K : HoldK] : Prop :=
  match o with
  | .rows rs el sz false => match rs[i]? with
    | some row => cs.length = n ∧ k + n ≤ row.length ∧ cs.all IV.one = true ∧ K.k (.tuple []) (h.set l (.rows (rs.set i (wrt row k cs)) el sz false))
    | none => False
  | _ => False
def stA (n : Nat) (a : IV) (cs : List IV) (h : IH) [K : HoldK] : Prop := match a with | .ptr l i k => stO n i k cs l (h.obj l) h | _ => False
@[go_sem ↓] theorem act_st (n : Nat) (a x : CX) : act P h e K (.st n a x) = @stA n (a.ev e) (x.ev e).cells h ⟨K⟩ := nr rfl
@[go_sem] theorem stA_ptr (n l i k : Nat) (cs : List IV) (K : HoldK) : @stA n (.ptr l i k) cs h K = @stO n i k cs l (h.obj l) h K := nr rfl
theorem stO_of {n i k l : Nat} {cs row : List IV} {rs : List (List IV)} {el sz : Nat} {h : IH} {K : HoldK} (hr : rs[i]? = some row) (h1 : cs.length = n) (h2 : k + n ≤ row.length) (h3 : ∀ v ∈ cs, v.one = true)
    (hk : K.k (.tuple []) (h.set l (.rows (rs.set i (wrt row k cs)) el sz false))) : @stO n i k cs l (.rows rs el sz false) h K := by
  unfold stO
  simp only [hr]
  exact ⟨h1, h2, List.all_eq_true.2 h3, hk⟩
/-- One cell of a box. -/
theorem stO_box {k l : Nat} {c : IV} {row : List IV} {el sz : Nat} {h : IH} {K : HoldK} (h2 : k < row.length) (h3 : c.one = true)
    (hk : K.k (.tuple []) (h.set l (.rows [row.set k c] el sz false))) : @stO 1 0 k [c] l (.rows [row] el sz false) h K :=
  stO_of (row := row) rfl rfl h2 (by simpa using h3) (by simpa [wrt] using hk)
def callA (P : Program) (f : Nat) (args : List IV) (h : IH) [K : HoldK] : Prop := ICalls P f args h K.k
@[go_sem ↓] theorem act_call (f : Nat) (as : List CX) : act P h e K (.call f as) = @callA P f (as.map (CX.ev e)) h ⟨K⟩ := nr rfl
theorem callA_of {P : Program} {f : Nat} {args : List IV} {h : IH} {K : HoldK} {Q : IV → IH → Prop} (hc : ICalls P f args h Q) (hk : ∀ v h', Q v h' → K.k v h') : @callA P f args h K := hc.mono hk
def callvA (P : Program) (f : IV) (args : List IV) (h : IH) [K : HoldK] : Prop := match f with | .func g first caps => ICalls P g (first ++ args ++ caps) h K.k | _ => False
@[go_sem ↓] theorem act_callv (f : CX) (as : List CX) : act P h e K (.callv f as) = @callvA P (f.ev e) (as.map (CX.ev e)) h ⟨K⟩ := nr rfl
@[go_sem] theorem callvA_func (g : Nat) (first caps args : List IV) (K : HoldK) : @callvA P (.func g first caps) args h K = @callA P g (first ++ args ++ caps) h K := nr rfl
def srcO (o : IObj) (sz i n : Nat) : Option (List (List IV)) := match o with | .rows rs _ sz' _ => if sz' = sz ∧ i + n ≤ rs.length then some ((rs.drop i).take n) else none | _ => none
@[go_sem] theorem src_nil (sz : Nat) : srcRows h sz .nilslice = some [] := nr rfl
@[go_sem] theorem src_e (sz : Nat) (z : Bool) : srcRows h sz (.eslice z) = some [] := nr rfl
@[go_sem] theorem src_sl (sz l i n : Nat) : srcRows h sz (.slice l i n) = srcO (h.obj l) sz i n := nr rfl
theorem srcO_whole {rs : List (List IV)} {e sz n : Nat} {ro : Bool} (hn : rs.length = n) : srcO (.rows rs e sz ro) sz 0 n = some rs := by simp [srcO, ← hn]
theorem srcO_of {rs : List (List IV)} {e sz i n : Nat} {ro : Bool} (hn : i + n ≤ rs.length) : srcO (.rows rs e sz ro) sz i n = some ((rs.drop i).take n) := by simp [srcO, hn]
@[go_sem] theorem srcO_1 (r : List IV) (e sz : Nat) (ro : Bool) : srcO (.rows [r] e sz ro) sz 0 1 = some [r] := by simp [srcO]
def appA (h : IH) (el sz b : Nat) (x : IV) (ys : Option (List (List IV))) [K : HoldK] : Prop := match ys with | some ys => appK h el sz b x ys K.k | none => False
@[go_sem ↓] theorem act_app (el sz b : Nat) (x y : CX) : act P h e K (.app el sz b x y) = @appA h el sz b (x.ev e) (srcRows h sz (y.ev e)) ⟨K⟩ := by
  simp only [act, appA]; rfl
def appSA (h : IH) (el b : Nat) (x y : IV) [K : HoldK] : Prop := match y with | .str s => appK h el 1 b x (strRows s) K.k | _ => False
@[go_sem ↓] theorem act_appS (el b : Nat) (x y : CX) : act P h e K (.appS el b x y) = @appSA h el b (x.ev e) (y.ev e) ⟨K⟩ := nr rfl
@[go_sem] theorem appSA_str (el b : Nat) (x : IV) (s : List UInt8) (K : HoldK) : @appSA h el b x (.str s) K = @appA h el 1 b x (some (strRows s)) K := nr rfl
/-- Nothing is appended. -/
theorem appA_none {h : IH} {el sz b : Nat} {x : IV} {n : Nat} {K : HoldK} (hx : ilen x = some n) (hk : K.k x h) : @appA h el sz b x (some []) K := by
  unfold appA appK
  cases x <;> simp [ilen] at hx <;> simpa using hk
/-- Onto nothing. -/
theorem appA_new {h : IH} {el sz b : Nat} {ys : List (List IV)} {K : HoldK} (hy : ys ≠ []) (hb : ys.length * b ≤ 140737488355328) (hk : K.k (.slice h.n 0 ys.length) (h.push (.rows ys el sz false))) : @appA h el sz b .nilslice (some ys) K := by
  unfold appA appK
  simp only [if_neg hy]
  exact ⟨hb, hk⟩
theorem appA_newe {h : IH} {el sz b : Nat} {ys : List (List IV)} {K : HoldK} (hy : ys ≠ []) (hb : ys.length * b ≤ 140737488355328) (hk : K.k (.slice h.n 0 ys.length) (h.push (.rows ys el sz false))) : @appA h el sz b (.eslice true) (some ys) K := by
  unfold appA appK
  simp only [if_neg hy]
  exact ⟨trivial, hb, hk⟩
/-- Onto rows of one's own: the old name is gone. -/
theorem appA_own {h : IH} {el sz b l n : Nat} {rs ys : List (List IV)} {K : HoldK} (ho : h.obj l = .rows rs el sz false) (hn : rs.length = n) (hy : ys ≠ []) (hb : (n + ys.length) * b ≤ 140737488355328)
    (hk : K.k (.slice h.n 0 (n + ys.length)) ((h.set l .dead).push (.rows (rs ++ ys) el sz false))) : @appA h el sz b (.slice l 0 n) (some ys) K := by
  unfold appA appK
  simp only [if_neg hy, ho]
  exact ⟨trivial, trivial, trivial, hn, hb, hk⟩
def copyA (h : IH) (sz : Nat) (x : IV) (ys : Option (List (List IV))) [K : HoldK] : Prop := match ys with | some ys => copyK h sz x ys K.k | none => False
@[go_sem ↓] theorem act_copy (sz : Nat) (x y : CX) : act P h e K (.copy sz x y) = @copyA h sz (x.ev e) (srcRows h sz (y.ev e)) ⟨K⟩ := by
  simp only [act, copyA]; rfl
def copySA (h : IH) (x y : IV) [K : HoldK] : Prop := match y with | .str s => copyK h 1 x (strRows s) K.k | _ => False
@[go_sem ↓] theorem act_copyS (x y : CX) : act P h e K (.copyS x y) = @copySA h (x.ev e) (y.ev e) ⟨K⟩ := nr rfl
def mksA (el sz b : Nat) (z : List IV) (l c : IV) (h : IH) [K : HoldK] : Prop := match l, c with
  | .int _ l, .int _ c => 0 ≤ l ∧ l ≤ c ∧ (b : Int) * c ≤ 140737488355328 ∧ c ≤ 9223372036854775807 ∧
      (if c = 0 then K.k (.eslice true) h else K.k (.slice h.n 0 l.toNat) (h.push (.rows (List.replicate l.toNat z) el sz false)))
  | _, _ => False
@[go_sem ↓] theorem act_mks (el sz b : Nat) (z : List IV) (l c : CX) : act P h e K (.mks el sz b z l c) = @mksA el sz b z (l.ev e) (c.ev e) h ⟨K⟩ := nr rfl
theorem mksA_of {el sz b : Nat} {z : List IV} {k j : IntKind} {n : Nat} {h : IH} {K : HoldK} (h0 : n ≠ 0) (hb : b * n ≤ 140737488355328) (h63 : n ≤ 9223372036854775807) (hk : K.k (.slice h.n 0 n) (h.push (.rows (List.replicate n z) el sz false))) :
    @mksA el sz b z (.int k n) (.int j n) h K := by
  refine ⟨by omega, by omega, by rw [← Int.natCast_mul]; omega, by omega, ?_⟩
  rw [if_neg (by omega)]
  simpa using hk
theorem mksA_0 {el sz b : Nat} {z : List IV} {k j : IntKind} {h : IH} {K : HoldK} (hk : K.k (.eslice true) h) : @mksA el sz b z (.int k 0) (.int j 0) h K :=
  ⟨by omega, by omega, by omega, by omega, by rw [if_pos rfl]; exact hk⟩
def s2bA (el : Nat) (x : IV) (h : IH) [K : HoldK] : Prop := match x with
  | .str s => if s = [] then K.k (.eslice false) h else s.length ≤ 9223372036854775807 ∧ K.k (.slice h.n 0 s.length) (h.push (.rows (strRows s) el 1 false))
  | _ => False
@[go_sem ↓] theorem act_s2b (el : Nat) (x : CX) : act P h e K (.s2b el x) = @s2bA el (x.ev e) h ⟨K⟩ := nr rfl
end

/-! Ends. -/
section
variable (Q : IV → IH → Prop) (e : Env) (h : IH) (k k1 k2 k3 : FK)
def got2 (o1 o2 : Option IV) (h : IH) [K : HoldK] : Prop := match o1, o2 with | some v1, some v2 => K.k (.tuple [v1, v2]) h | _, _ => False
def got3 (o1 o2 o3 : Option IV) (h : IH) [K : HoldK] : Prop := match o1, o2, o3 with | some v1, some v2, some v3 => K.k (.tuple [v1, v2, v3]) h | _, _, _ => False
@[go_sem] theorem got2_some (v1 v2 : IV) (K : HoldK) : @got2 (some v1) (some v2) h K = K.k (.tuple [v1, v2]) h := nr rfl
@[go_sem] theorem got3_some (v1 v2 v3 : IV) (K : HoldK) : @got3 (some v1) (some v2) (some v3) h K = K.k (.tuple [v1, v2, v3]) h := nr rfl
@[go_sem ↓] theorem ret_0 : retK [] Q .ret e h = Q (.tuple []) h := nr rfl
@[go_sem ↓] theorem end_0 : retK [] Q .normal e h = Q (.tuple []) h := nr rfl
@[go_sem ↓] theorem ret_1 : retK [k] Q .ret e h = @got (feval e h k) h ⟨Q⟩ := by
  simp only [retK, resVs, got]; cases feval e h k <;> rfl
@[go_sem ↓] theorem end_1 : retK [k] Q .normal e h = @got (feval e h k) h ⟨Q⟩ := by
  simp only [retK, resVs, got]; cases feval e h k <;> rfl
@[go_sem ↓] theorem ret_2 : retK [k1, k2] Q .ret e h = @got2 (feval e h k1) (feval e h k2) h ⟨Q⟩ := by
  simp only [retK, resVs, got2]; cases feval e h k1 <;> cases feval e h k2 <;> rfl
@[go_sem ↓] theorem end_2 : retK [k1, k2] Q .normal e h = @got2 (feval e h k1) (feval e h k2) h ⟨Q⟩ := by
  simp only [retK, resVs, got2]; cases feval e h k1 <;> cases feval e h k2 <;> rfl
@[go_sem ↓] theorem ret_3 : retK [k1, k2, k3] Q .ret e h = @got3 (feval e h k1) (feval e h k2) (feval e h k3) h ⟨Q⟩ := by
  simp only [retK, resVs, got3]; cases feval e h k1 <;> cases feval e h k2 <;> cases feval e h k3 <;> rfl
@[go_sem ↓] theorem end_3 : retK [k1, k2, k3] Q .normal e h = @got3 (feval e h k1) (feval e h k2) (feval e h k3) h ⟨Q⟩ := by
  simp only [retK, resVs, got3]; cases feval e h k1 <;> cases feval e h k2 <;> cases feval e h k3 <;> rfl
@[go_sem] theorem env0_0 (a : IV) (l : List IV) : env0 (a :: l) 0 = a := nr rfl
@[go_sem] theorem env0_s (a : IV) (l : List IV) (n : Nat) : env0 (a :: l) (n + 1) = env0 l n := nr rfl
end

/-! Regions that draw. -/
section
variable (P : Program) (ops : List COp) (bar : List Bool) (anc : List (List Nat)) (K : Env → IH → Prop) (e : Env) (h : IH)
@[go_sem ↓] theorem vcD_nil (done : List Nat) : vcD P ops bar anc done [] K e h = K e h := nr rfl
theorem vcD_cons (done : List Nat) (i : Nat) (r : List Nat) : vcD P ops bar anc done (i :: r) K e h = if bar.getD i true then vcOp P (ops.getD i default) (fun e' h' => againAll ops anc i e' h' done ∧ vcD P ops bar anc (i :: done) r K e' h') e h
    else vcOp P (ops.getD i default) (vcD P ops bar anc (i :: done) r K) e h := nr rfl
end

end Go.IW
