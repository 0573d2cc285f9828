/- Operations that write nothing: their small form, what they answer over an ideal heap, and that the machine answers the same. -/
import Derived.Test.YtcmcfmgabafljaaDoorIwA
import Derived.Laws.IdiomStrings
set_option linter.unusedVariables false
set_option linter.unusedSimpArgs false
namespace Go.IW
open Go.RowKit

abbrev Env := Nat → IV
/-- A slot's new value. Not to be looked into: 'upd_eq', 'upd_ne'. -/
def upd (e : Env) (d : Nat) (v : IV) : Env := fun t => if t = d then v else e t
theorem upd_eq (e : Env) (d : Nat) (v : IV) : upd e d v d = v := by simp [upd]
theorem upd_ne (e : Env) {d t : Nat} (v : IV) (h : t ≠ d) : upd e d v t = e t := by simp [upd, h]
def put (e : Env) (d : Option Nat) (v : IV) : Env := match d with | some d => upd e d v | none => e

/-- Operands. -/
inductive CX where
  | t (n : Nat)
  | c (v : IV)
  | fn (f : Nat)
  deriving Inhabited
def CX.ev (e : Env) : CX → IV
  | .t n => e n
  | .c v => v
  | .fn f => .func f [] []

structure ARel (ρ : List RLoc) (N : Nat) (a : Act) (e : Env) : Prop where
  size : a.tmps.size = N
  defers : a.defers = []
  val : ∀ t, VRel ρ (a.tmps.getD t undef) (e t)

theorem ARel.mono {ρ ρ' : List RLoc} (hp : ρ <+: ρ') {N : Nat} {a : Act} {e : Env} (h : ARel ρ N a e) : ARel ρ' N a e := ⟨h.size, h.defers, fun t => (h.val t).mono hp⟩
theorem ARel.put {ρ : List RLoc} {N : Nat} {a : Act} {e : Env} (h : ARel ρ N a e) {d : Option Nat} {v : Value} {v' : IV} (hd : ∀ t, d = some t → t < N) (hv : VRel ρ v v') : ARel ρ N (a.put d v) (put e d v') := by
  cases d with
  | none => exact h
  | some d =>
    refine ⟨by simp [Act.put, h.size], h.defers, fun t => ?_⟩
    have hlt : d < a.tmps.size := by rw [h.size]; exact hd d rfl
    simp only [Act.put, IW.put]
    by_cases e1 : t = d
    · subst e1; simp [upd, hlt]; exact hv
    · have := h.val t
      simp only [upd, if_neg e1]
      rw [Array.getD_eq_getD_getElem?] at this ⊢
      rw [Array.getElem?_setIfInBounds_ne (fun x => e1 x.symm)]
      exact this

/-- Closed values of the text. -/
def cv1 : Value → Option IV
  | .bool b => some (.bool b)
  | .int k n => some (.int k n)
  | .string s => some (.str s.data.toList)
  | .pointer none => some .nilptr
  | .slice none 0 0 => some .nilslice
  | .map none => some .nilmap
  | .nilFunc => some .nilfunc
  | .nilIface => some .niliface
  | _ => none
def cvs : List Value → Option (List IV)
  | [] => some []
  | v :: l => match cv1 v, cvs l with
    | some v', some l' => some (v' :: l')
    | _, _ => none
def cv (v : Value) : Option IV := match v with
  | .agg cs => (cvs cs.toList).map .agg
  | .tuple cs => (cvs cs.toList).map .tuple
  | v => cv1 v

theorem cv1_rel {v : Value} {v' : IV} (h : cv1 v = some v') (ρ : List RLoc) : VRel ρ v v' := by
  unfold cv1 at h
  split at h <;> first
    | (obtain rfl := Option.some.inj h; constructor; done)
    | cases h
theorem cvs_rel : ∀ {l : List Value} {l' : List IV}, cvs l = some l' → ∀ (ρ : List RLoc), LRel ρ l l'
  | [], l', h, ρ => by simp [cvs] at h; subst h; exact LRel.nil ρ
  | v :: l, l', h, ρ => by
    simp only [cvs] at h
    split at h
    · rename_i v1 l1 h1 h2
      obtain rfl := Option.some.inj h
      exact LRel.cons (cv1_rel h1 ρ) (cvs_rel h2 ρ)
    · cases h
theorem LRel.agg {ρ : List RLoc} {cs : Array Value} {cs' : List IV} (h : LRel ρ cs.toList cs') : VRel ρ (.agg cs) (.agg cs') :=
  .agg (by have := h.1; simpa using this) (fun i v v' a b => h.2 i v v' (by simpa using a) b)
theorem LRel.tuple {ρ : List RLoc} {cs : Array Value} {cs' : List IV} (h : LRel ρ cs.toList cs') : VRel ρ (.tuple cs) (.tuple cs') :=
  .tuple (by have := h.1; simpa using this) (fun i v v' a b => h.2 i v v' (by simpa using a) b)
theorem VRel.of_agg {ρ : List RLoc} {v : Value} {cs' : List IV} (h : VRel ρ v (.agg cs')) : ∃ cs : Array Value, v = .agg cs ∧ LRel ρ cs.toList cs' := by
  cases h with
  | agg hl h => exact ⟨_, rfl, by simpa using hl, fun i v v' a b => h i v v' (by simpa using a) b⟩
theorem VRel.of_tuple {ρ : List RLoc} {v : Value} {cs' : List IV} (h : VRel ρ v (.tuple cs')) : ∃ cs : Array Value, v = .tuple cs ∧ LRel ρ cs.toList cs' := by
  cases h with
  | tuple hl h => exact ⟨_, rfl, by simpa using hl, fun i v v' a b => h i v v' (by simpa using a) b⟩
theorem cv_rel {v : Value} {v' : IV} (h : cv v = some v') (ρ : List RLoc) : VRel ρ v v' := by
  unfold cv at h
  split at h
  · rw [Option.map_eq_some_iff] at h
    obtain ⟨l, hl, rfl⟩ := h
    exact (cvs_rel hl ρ).agg
  · rw [Option.map_eq_some_iff] at h
    obtain ⟨l, hl, rfl⟩ := h
    exact (cvs_rel hl ρ).tuple
  · exact cv1_rel h ρ

def cx : Operand → Option CX
  | .tmp t => some (.t t)
  | .const v => (cv v).map .c
  | .func f => some (.fn f)
  | .global _ => none
theorem cx_rel {x : Operand} {x' : CX} (h : cx x = some x') {ρ : List RLoc} {N : Nat} {a : Act} {e : Env} (ha : ARel ρ N a e) : VRel ρ (a.eval x) (x'.ev e) := by
  cases x with
  | tmp t => simp [cx] at h; subst h; exact ha.val t
  | const v => simp [cx] at h; obtain ⟨v', hv, rfl⟩ := h; exact cv_rel hv ρ
  | func f => simp [cx] at h; subst h; exact .func f rfl rfl (fun i v v' x => by simp at x) (fun i v v' x => by simp at x)
  | global g => simp [cx] at h

/-- Whole numbers as the machine wraps them. -/
def wr (k : IntKind) (n : Int) : Int := k.wrap n

/-- Bits, as the machine has them. -/
def bits (op : BinOp) (k : IntKind) (x y : Int) : Int :=
  let a := BitVec.ofInt k.bits x
  let b := BitVec.ofInt k.bits y
  wr k (match op with
    | .and => ((a &&& b).toNat : Int)
    | .or => ((a ||| b).toNat : Int)
    | .xor => ((a ^^^ b).toNat : Int)
    | _ => ((a &&& ~~~b).toNat : Int))

def bless : List UInt8 → List UInt8 → Bool := Op.bytesLess

/-- Two ints, two strings, two bools. -/
def ibin (op : BinOp) : IV → IV → Option IV
  | .int k a, .int k' b =>
    match op with
    | .shl => if b < 0 then none else some (.int k (wr k (a * 2 ^ (min b.toNat k.bits))))
    | .shr => if b < 0 then none else some (.int k (a.fdiv (2 ^ (min b.toNat k.bits))))
    | .add => if k = k' then some (.int k (wr k (a + b))) else none
    | .sub => if k = k' then some (.int k (wr k (a - b))) else none
    | .mul => if k = k' then some (.int k (wr k (a * b))) else none
    | .quo => if k = k' then (if b = 0 then none else some (.int k (wr k (a.tdiv b)))) else none
    | .rem => if k = k' then (if b = 0 then none else some (.int k (a.tmod b))) else none
    | .and => if k = k' then some (.int k (bits .and k a b)) else none
    | .or => if k = k' then some (.int k (bits .or k a b)) else none
    | .xor => if k = k' then some (.int k (bits .xor k a b)) else none
    | .andNot => if k = k' then some (.int k (bits .andNot k a b)) else none
    | .eql => if k = k' then some (.bool (decide (a = b))) else none
    | .neq => if k = k' then some (.bool (!decide (a = b))) else none
    | .lss => if k = k' then some (.bool (decide (a < b))) else none
    | .leq => if k = k' then some (.bool (decide (a ≤ b))) else none
    | .gtr => if k = k' then some (.bool (decide (b < a))) else none
    | .geq => if k = k' then some (.bool (decide (b ≤ a))) else none
  | .str s, .str t =>
    match op with
    | .add => if s.length + t.length ≤ 9223372036854775807 then some (.str (s ++ t)) else none
    | .eql => some (.bool (decide (s = t)))
    | .neq => some (.bool (!decide (s = t)))
    | .lss => some (.bool (bless s t))
    | .leq => some (.bool (bless s t || decide (s = t)))
    | .gtr => some (.bool (!(bless s t || decide (s = t))))
    | .geq => some (.bool (!bless s t))
    | _ => none
  | _, _ => none
def ibinB (neg : Bool) : IV → IV → Option IV
  | .bool a, .bool b => some (.bool ((a == b) != neg))
  | _, _ => none

/-- Kinds of what can be nil. -/
inductive NK where | ptr | slice | map | func | iface
  deriving DecidableEq
def isNil : NK → IV → Option Bool
  | .ptr, .nilptr | .slice, .nilslice | .map, .nilmap | .func, .nilfunc | .iface, .niliface => some true
  | .ptr, .ptr .. | .slice, .slice .. | .slice, .eslice _ | .map, .map _ | .func, .func .. | .iface, .iface .. => some false
  | _, _ => none
def nkOf : TypeDesc → Option NK
  | .pointer _ => some .ptr
  | .slice _ => some .slice
  | .map _ _ => some .map
  | .func _ _ _ => some .func
  | .interface _ => some .iface
  | _ => none
def negOf : BinOp → Option Bool
  | .eql => some false
  | .neq => some true
  | _ => none

def iun (op : UnOp) : IV → Option IV
  | .bool b => match op with | .not => some (.bool (!b)) | _ => none
  | .int k n => match op with
    | .neg => some (.int k (wr k (0 - n)))
    | .xor => some (.int k (bits .xor k (if k.signed then -1 else k.max) n))
    | _ => none
  | _ => none

def IH.row (h : IH) (l i : Nat) : Option (List IV) :=
  match h.obj l with
  | .rows rs _ _ _ => rs[i]?
  | _ => none
def IH.cell (h : IH) (l i k : Nat) : Option IV := (h.row l i).bind (·[k]?)
def IH.size (h : IH) (l : Nat) : Option Nat :=
  match h.obj l with
  | .rows _ _ sz _ => some sz
  | _ => none

def IV.cells : IV → List IV
  | .agg cs => cs
  | v => [v]
theorem VRel.cells {ρ : List RLoc} {v : Value} {v' : IV} (h : VRel ρ v v') : LRel ρ v.cells.toList v'.cells := by
  cases h with
  | agg hl h => exact ⟨by simpa [Value.cells, IV.cells] using hl, fun j a b x y => h j a b (by simpa [Value.cells] using x) y⟩
  | _ => exact LRel.cons (by constructor <;> assumption) (LRel.nil ρ)
/-- Parts of a struct or an array laid over its zero. -/
def lay (zero : List IV) : List (Nat × Nat × IV) → Option (List IV)
  | [] => some zero
  | (off, size, v) :: r =>
    if v.cells.length = size ∧ off + size ≤ zero.length then lay (zero.take off ++ v.cells ++ zero.drop (off + size)) r else none

/-- Further operations that write nothing. -/
inductive UK where
  | none_
  deriving Inhabited

/-- What writes nothing. -/
inductive FK where
  | mv (x : CX)
  | pick (c a b : CX)
  | build (zero : List IV) (parts : List (Nat × Nat × CX))
  | ld (x : CX)
  | ldA (n : Nat) (x : CX)
  | nck (x : CX)
  | bin (op : BinOp) (x y : CX)
  | binB (neg : Bool) (x y : CX)
  | eqn (k : NK) (neg : Bool) (x y : CX)
  | un (op : UnOp) (x : CX)
  | cvI (k : IntKind) (x : CX)
  | cvS (x : CX)
  | b2s (x : CX)
  | ext (i : Nat) (x : CX)
  | fld (off n : Nat) (agg : Bool) (x : CX)
  | fadr (off : Nat) (x : CX)
  | iadr (sz : Nat) (x i : CX)
  | iadrA (len sz : Nat) (x i : CX)
  | idxS (x i : CX)
  | idxA (len sz : Nat) (agg : Bool) (x i : CX)
  | len (x : CX)
  | lenS (x : CX)
  | mm (max : Bool) (x y : CX)
  | slcS (x : CX) (lo hi : Option CX)
  | slc (sz : Nat) (x : CX) (lo hi mx : Option CX)
  | mkif (t : Nat) (x : CX)
  | mkf (f : Nat) (first caps : List CX)
  | u (k : UK) (xs : List CX)
  deriving Inhabited

def obound (len : Nat) (x : Option CX) (e : Env) (d : Nat) : Option Nat :=
  match x with
  | none => some d
  | some x => match x.ev e with
    | .int _ n => if 0 ≤ n ∧ n ≤ len then some n.toNat else none
    | _ => none

/-- The bytes of some rows of one byte each. -/
def bytesOf : List (List IV) → Option (List UInt8)
  | [] => some []
  | [.int .u8 n] :: r => (bytesOf r).map (UInt8.ofNat n.toNat :: ·)
  | _ => none

def islc (h : IH) (sz : Nat) (x : IV) (lo hi : Nat) (mx : Option Nat) : Option IV :=
  match x with
  | .slice l i n => if lo ≤ hi ∧ hi ≤ n ∧ h.size l = some sz then
      (match mx with
      | none => some (if hi = lo then .eslice false else .slice l (i + lo) (hi - lo))
      | some m => if hi ≤ m ∧ m ≤ n then some (if hi = lo then .eslice (decide (m = lo)) else .slice l (i + lo) (hi - lo)) else none) else none
  | .eslice z => if lo = 0 ∧ hi = 0 ∧ (mx = none ∨ mx = some 0) then some (.eslice (z || mx.isSome)) else none
  | .nilslice => if lo = 0 ∧ hi = 0 ∧ (mx = none ∨ mx = some 0) then some .nilslice else none
  | _ => none
def ilen : IV → Option Nat
  | .slice _ _ n => some n
  | .eslice _ => some 0
  | .nilslice => some 0
  | _ => none

def ueval (h : IH) : UK → List IV → Option IV
  | .none_, _ => none

def feval (e : Env) (h : IH) : FK → Option IV
  | .mv x => some (x.ev e)
  | .pick c a b => match c.ev e with
    | .bool true => some (a.ev e)
    | .bool false => some (b.ev e)
    | _ => none
  | .build zero parts => (lay zero (parts.map fun p => (p.1, p.2.1, p.2.2.ev e))).map .agg
  | .ld x => match x.ev e with
    | .ptr l i k => h.cell l i k
    | _ => none
  | .ldA n x => match x.ev e with
    | .ptr l i k => match h.row l i with
      | some row => if k + n ≤ row.length then some (.agg ((row.drop k).take n)) else none
      | none => none
    | _ => none
  | .nck x => match x.ev e with
    | .ptr l i k => some (.ptr l i k)
    | .func f as cs => some (.func f as cs)
    | .iface t v => some (.iface t v)
    | _ => none
  | .bin op x y => ibin op (x.ev e) (y.ev e)
  | .binB neg x y => ibinB neg (x.ev e) (y.ev e)
  | .eqn k neg x y => match isNil k (x.ev e), isNil k (y.ev e) with
    | some true, some b => some (.bool (b != neg))
    | some b, some true => some (.bool (b != neg))
    | _, _ => none
  | .un op x => iun op (x.ev e)
  | .cvI k x => match x.ev e with
    | .int _ n => some (.int k (wr k n))
    | _ => none
  | .cvS x => match x.ev e with
    | .str s => some (.str s)
    | _ => none
  | .b2s x => match x.ev e with
    | .nilslice => some (.str [])
    | .eslice _ => some (.str [])
    | .slice l i n => match h.obj l with
      | .rows rs _ sz _ => if sz = 1 ∧ i + n ≤ rs.length then (bytesOf ((rs.drop i).take n)).map .str else none
      | _ => none
    | _ => none
  | .ext i x => match x.ev e with
    | .tuple vs => vs[i]?
    | _ => none
  | .fld off n agg x => match x.ev e with
    | .agg cs => if agg then (if off + n ≤ cs.length then some (.agg ((cs.drop off).take n)) else none) else cs[off]?
    | _ => none
  | .fadr off x => match x.ev e with
    | .ptr l i k => some (.ptr l i (k + off))
    | _ => none
  | .iadr sz x i => match x.ev e, i.ev e with
    | .slice l j n, .int _ m => if 0 ≤ m ∧ m < n ∧ h.size l = some sz then some (.ptr l (j + m.toNat) 0) else none
    | _, _ => none
  | .iadrA len sz x i => match x.ev e, i.ev e with
    | .ptr l j k, .int _ m => if 0 ≤ m ∧ m < len then some (.ptr l j (k + m.toNat * sz)) else none
    | _, _ => none
  | .idxS x i => match x.ev e, i.ev e with
    | .str s, .int _ m => if 0 ≤ m then (s[m.toNat]?).map (fun b => .int .u8 b.toNat) else none
    | _, _ => none
  | .idxA len sz agg x i => match x.ev e, i.ev e with
    | .agg cs, .int _ m => if 0 ≤ m ∧ m < len then
        (if agg then (if m.toNat * sz + sz ≤ cs.length then some (.agg ((cs.drop (m.toNat * sz)).take sz)) else none) else cs[m.toNat * sz]?) else none
    | _, _ => none
  | .len x => (ilen (x.ev e)).map fun (n : Nat) => IV.int .i64 (n : Int)
  | .lenS x => match x.ev e with
    | .str s => some (.int .i64 s.length)
    | _ => none
  | .mm max x y => match x.ev e, y.ev e with
    | .int k a, .int _ b => some (.int k (if max then (if b > a then b else a) else (if b < a then b else a)))
    | _, _ => none
  | .slcS x lo hi => match x.ev e with
    | .str s => match obound s.length hi e s.length with
      | some b => match obound b lo e 0 with
        | some a => some (.str ((s.take b).drop a))
        | none => none
      | none => none
    | _ => none
  | .slc sz x lo hi mx => match ilen (x.ev e) with
    | some n => match mx with
      | none => match obound n hi e n with
        | some b => match obound b lo e 0 with
          | some a => islc h sz (x.ev e) a b none
          | none => none
        | none => none
      | some m => match obound n (some m) e n with
        | some m => match obound m hi e n with
          | some b => match obound b lo e 0 with
            | some a => if hi.isSome then islc h sz (x.ev e) a b (some m) else none
            | none => none
          | none => none
        | none => none
    | none => none
  | .mkif t x => some (.iface t (x.ev e))
  | .mkf f first caps => some (.func f (first.map (CX.ev e)) (caps.map (CX.ev e)))
  | .u k xs => ueval h k (xs.map (CX.ev e))

/-! The small form of an operation. -/
def tsz (P : Program) (t : TypeId) : Option Nat := (P.info? t).map (·.size)
def isAggD : TypeDesc → Bool
  | .struct _ | .array _ _ => true
  | _ => false
def ocx : Option Operand → Option (Option CX)
  | none => some none
  | some x => (cx x).map some
def cxs : List Operand → Option (List CX)
  | [] => some []
  | x :: l => match cx x, cxs l with
    | some x', some l' => some (x' :: l')
    | _, _ => none
/-- Where a struct's fields lie. -/
def placesS (P : Program) (fs : Array Field) : List (Nat × Operand) → Option (List (Nat × Nat × CX))
  | [] => some []
  | (i, x) :: r => match fs[i]?, cx x, placesS P fs r with
    | some f, some x', some r' => (tsz P f.type).map fun n => (f.offset, n, x') :: r'
    | _, _, _ => none
def placesA (sz : Nat) : List (Nat × Operand) → Option (List (Nat × Nat × CX))
  | [] => some []
  | (i, x) :: r => match cx x, placesA sz r with
    | some x', some r' => some ((i * sz, sz, x') :: r')
    | _, _ => none
def allTsz (P : Program) (fs : Array Field) : Bool := fs.toList.all fun f => (tsz P f.type).isSome
def zeroOf (P : Program) (t : TypeId) : Option (List IV) :=
  match (P.info? t).bind (·.zero) with
  | some z => cvs z.cells.toList
  | none => none
def isConstO : Operand → Bool
  | .const _ => true
  | _ => false

def fcomp (P : Program) (op : Op) : Option FK :=
  match op with
  | .move x | .assign x => (cx x).map .mv
  | .pick c a b => match cx c, cx a, cx b with
    | some c, some a, some b => some (.pick c a b)
    | _, _, _ => none
  | .build t parts => match P.underlying t, zeroOf P t with
    | some (.struct fs), some z => if allTsz P fs then (placesS P fs parts.toList).map (.build z) else none
    | some (.array _ el), some z => match tsz P el with
      | some sz => (placesA sz parts.toList).map (.build z)
      | none => none
    | _, _ => none
  | .load t a => match P.underlying t, tsz P t, cx a with
    | some d, some n, some a => some (if isAggD d then .ldA n a else .ld a)
    | _, _, _ => none
  | .nilCheck x => (cx x).map .nck
  | .binOp op t x y _ => match P.underlying t, cx x, cx y with
    | some (.int _), some x, some y => some (.bin op x y)
    | some .string, some x, some y => some (.bin op x y)
    | some .bool, some x, some y => (negOf op).map fun g => .binB g x y
    | some d, some x', some y' => match nkOf d, negOf op with
      | some k, some g => if k = .iface && !(isConstO x || isConstO y) then none else some (.eqn k g x' y')
      | _, _ => none
    | _, _, _ => none
  | .unOp op _ x => (cx x).map (.un op)
  | .convert s d x => match P.underlying s, P.underlying d, cx x with
    | some (.int _), some (.int k), some x => some (.cvI k x)
    | some .string, some .string, some x => some (.cvS x)
    | some (.slice e), some .string, some x => match P.underlying e with
      | some (.int .u8) => some (.b2s x)
      | _ => none
    | _, _, _ => none
  | .extract x i => (cx x).map (.ext i)
  | .field t x f => match P.underlying t, cx x with
    | some (.struct fs), some x => match fs[f]? with
      | some f => match P.underlying f.type, tsz P f.type with
        | some d, some n => some (.fld f.offset n (isAggD d) x)
        | _, _ => none
      | none => none
    | _, _ => none
  | .fieldAddr t x f => match P.underlying t, cx x with
    | some (.struct fs), some x => match fs[f]? with
      | some f => match tsz P f.type with
        | some (_ + 1) => some (.fadr f.offset x)
        | _ => none
      | none => none
    | _, _ => none
  | .indexAddr t x i => match P.underlying t, cx x, cx i with
    | some (.slice e), some x, some i => (tsz P e).map fun n => .iadr n x i
    | some (.array len e), some x, some i => (tsz P e).map fun n => .iadrA len n x i
    | _, _, _ => none
  | .index t x i => match P.underlying t, cx x, cx i with
    | some .string, some x, some i => some (.idxS x i)
    | some (.array len e), some x, some i => match P.underlying e, tsz P e with
      | some d, some n => some (.idxA len n (isAggD d) x i)
      | _, _ => none
    | _, _, _ => none
  | .slice t x lo hi mx => match P.underlying t, cx x, ocx lo, ocx hi with
    | some .string, some x, some lo, some hi => if mx.isNone then some (.slcS x lo hi) else none
    | some (.slice e), some x, some lo, some hi => match tsz P e, ocx mx with
      | some n, some mx => some (.slc n x lo hi mx)
      | _, _ => none
    | _, _, _, _ => none
  | .makeInterface t x => match P.underlying t, cx x with
    | some (.interface _), _ => none
    | some _, some x => some (.mkif t x)
    | _, _ => none
  | .makeFunc (.func f) first caps => match cxs first.toList, cxs caps.toList with
    | some a, some b => some (.mkf f a b)
    | _, _ => none
  | .call { callee := .builtin .len, args, argTypes } => match args.toList, argTypes.toList with
    | [x], [t] => match P.underlying t, cx x with
      | some (.slice _), some x => some (.len x)
      | some .string, some x => some (.lenS x)
      | _, _ => none
    | _, _ => none
  | .call { callee := .builtin .max, args, .. } => match args.toList with
    | [x, y] => match cx x, cx y with
      | some x, some y => some (.mm true x y)
      | _, _ => none
    | _ => none
  | .call { callee := .builtin .min, args, .. } => match args.toList with
    | [x, y] => match cx x, cx y with
      | some x, some y => some (.mm false x y)
      | _, _ => none
    | _ => none
  | _ => none

def ucomp (P : Program) (op : Op) : Option (UK × List CX) := none
/-- All that writes nothing. -/
def fkc (P : Program) (op : Op) : Option FK :=
  match fcomp P op with
  | some k => some k
  | none => (ucomp P op).map fun p => .u p.1 p.2

end Go.IW
