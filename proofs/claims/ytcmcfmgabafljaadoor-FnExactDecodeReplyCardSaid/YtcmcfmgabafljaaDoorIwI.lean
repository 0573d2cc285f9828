/- What makes memory or writes it: small forms, over the ideal heap, and that the machine does so. -/
import Derived.Test.YtcmcfmgabafljaaDoorIwH
set_option linter.unusedVariables false
set_option linter.unusedSimpArgs false
namespace Go.IW
open Go.RowKit

section
variable {P : Program} {ρ : List RLoc} {B : Nat} {w : World} {h : IH} {N : Nat} {a : Act} {e : Env}

theorem WRel.grown {w' : World} (hw : WRel ρ B w h) (hold : ∀ k, k < w.heap.size → w'.heap[k]? = w.heap[k]?) (hsz : w.heap.size ≤ w'.heap.size) : WRel ρ B w' h := by
  refine ⟨hw.len, Nat.le_trans hw.base hsz, fun l r hr => ?_, hw.excl⟩
  by_cases hlive : (h.obj l).live = true
  · exact (hw.obj l r hr).congr (hold _ ((hw.obj l r hr).block_lt hlive))
  · cases ho' : h.obj l with
    | dead => exact trivial
    | rows rs e sz ro => rw [ho'] at hlive; simp [IObj.live] at hlive

theorem box_list (hw : WRel ρ B w h) {cs : Array Value} {cs' : List IV} (hl : LRel ρ cs.toList cs') {e sz : Nat} (hsz : cs'.length = sz) (h1 : ∀ x ∈ cs', x.one = true) {K : IV → IH → Prop}
    (hk : K (.ptr h.n 0 0) (h.push (.rows [cs'] e sz false))) : Out ρ B w K (.pointer (some ⟨w.heap.size, 0, none⟩)) (w.alloc (.cells cs e)) := by
  have hlen : cs.size = 1 * sz := by have := hl.1; simp at this; omega
  obtain ⟨h2, h3⟩ := new_rows hw cs e sz 1 (0, 0) [cs'] hlen (by simp) (by simpa using hsz) (by simpa using h1) (fun i row hi k x hx => by
    cases i with
    | zero =>
      simp at hi; subst hi
      obtain ⟨y, hy, hr⟩ := hl.of_get' hx
      exact ⟨y, by simpa using hy, hr⟩
    | succ i => simp at hi) (by decide) (by simp)
  refine ⟨_, _, _, List.prefix_append _ _, h2, ?_, h3, hk⟩
  have := VRel.ptr (i := 0) (k := 0) (getlast_new ρ ⟨w.heap.size, 0, sz, 1⟩ h hw.len)
  simpa using this

/-- Parts laid into rows. -/
def layR : List (List IV) → Nat → List (Nat × IV) → Option (List (List IV))
  | rows, _, [] => some rows
  | rows, sz, (i, v) :: r => if v.cells.length = sz ∧ i < rows.length then layR (rows.set i v.cells) sz r else none

theorem flatten_set {sz : Nat} : ∀ (rows : List (List IV)) (i : Nat) (c : List IV), (∀ r ∈ rows, r.length = sz) → i < rows.length →
    (rows.set i c).flatten = rows.flatten.take (i * sz) ++ c ++ rows.flatten.drop (i * sz + sz)
  | [], i, c, _, h => by simp at h
  | r :: rows, 0, c, he, _ => by
    have hr : r.length = sz := he r (List.mem_cons_self)
    simp only [List.set_cons_zero, List.flatten_cons, Nat.zero_mul, List.take_zero, List.nil_append, Nat.zero_add]
    rw [← hr, List.drop_left]
  | r :: rows, i + 1, c, he, hi => by
    have hr : r.length = sz := he r (List.mem_cons_self)
    have ih := flatten_set rows i c (fun x hx => he x (List.mem_cons_of_mem _ hx)) (by simpa using hi)
    simp only [List.set_cons_succ, List.flatten_cons]
    rw [ih]
    have e1 : (i + 1) * sz = r.length + i * sz := by rw [hr, Nat.add_mul]; omega
    rw [e1, List.take_length_add_append]
    rw [show r.length + i * sz + sz = r.length + (i * sz + sz) by omega, List.drop_length_add_append]
    simp [List.append_assoc]

theorem flatten_length {sz : Nat} : ∀ (rows : List (List IV)), (∀ r ∈ rows, r.length = sz) → rows.flatten.length = rows.length * sz
  | [], _ => by simp
  | r :: rows, he => by
    have ih := flatten_length rows (fun x hx => he x (List.mem_cons_of_mem _ hx))
    rw [List.flatten_cons, List.length_append, he r (List.mem_cons_self), ih, List.length_cons, Nat.add_mul]; omega

theorem layR_ok {sz : Nat} : ∀ (ps : List (Nat × IV)) (rows out : List (List IV)), (∀ r ∈ rows, r.length = sz) → layR rows sz ps = some out →
    out.length = rows.length ∧ (∀ r ∈ out, r.length = sz) ∧ lay rows.flatten (ps.map fun p => (p.1 * sz, sz, p.2)) = some out.flatten
  | [], rows, out, he, h => by
    simp [layR] at h; subst h
    exact ⟨rfl, he, rfl⟩
  | (i, v) :: ps, rows, out, he, h => by
    simp only [layR] at h
    split at h
    · rename_i hc
      obtain ⟨h1, h2⟩ := hc
      obtain ⟨g1, g2, g3⟩ := layR_ok ps (rows.set i v.cells) out (fun r hr => by
        rcases List.mem_or_eq_of_mem_set hr with h | h
        · exact he r h
        · rw [h]; exact h1) h
      refine ⟨by simpa using g1, g2, ?_⟩
      simp only [List.map_cons, lay]
      have hfl := flatten_length rows he
      have : (i + 1) * sz ≤ rows.length * sz := Nat.mul_le_mul_right _ h2
      rw [Nat.add_mul, Nat.one_mul] at this
      rw [if_pos ⟨h1, by omega⟩, ← flatten_set rows i v.cells he h2]
      exact g3
    · cases h

/-- Further operations that make memory or write it; 'bad': one that is not spoken of. -/
inductive UX where
  | bad
  deriving Inhabited

/-- What makes memory or writes it. -/
inductive EK where
  | zero (e sz : Nat) (cs : List IV)
  | box (e sz : Nat) (x : CX)
  | bslice (e sz : Nat) (zero : List IV) (len : Nat) (parts : List (Nat × CX))
  | st (n : Nat) (a x : CX)
  | app (e sz bytes : Nat) (x y : CX)
  | appS (e bytes : Nat) (x y : CX)
  | copy (sz : Nat) (d s : CX)
  | copyS (d s : CX)
  | mks (e sz bytes : Nat) (zero : List IV) (len cap : CX)
  | s2b (e : Nat) (x : CX)
  | call (f : Nat) (args : List CX)
  | callv (f : CX) (args : List CX)
  | ux (k : UX) (xs : List CX)
  deriving Inhabited

/-- A call, in the machine. -/
def UponF (P : Program) (r : Result Next) (R : Value → World → Prop) : Prop :=
  match r with
  | .ok (.value v) w => R v w
  | .ok (.enter f args) w => Calls P f args w fun
    | .returned v, w' => R v w'
    | _, _ => False
  | _ => False

/-- THE CONTRACT of a Go function: over every ideal heap. -/
def ICalls (P : Program) (f : Nat) (args : List IV) (h : IH) (Q : IV → IH → Prop) : Prop :=
  ∀ (ρ : List RLoc) (B : Nat) (w : World) (args' : Array Value), WRel ρ B w h → LRel ρ args'.toList args → UponF P ((callFunc f args').run P w) (Out ρ B w Q)

theorem UponF.mono {r : Result Next} {R R' : Value → World → Prop} (hr : ∀ v w, R v w → R' v w) (hu : UponF P r R) : UponF P r R' := by
  unfold UponF at *
  split at hu
  · exact hr _ _ hu
  · exact Calls.mono hu (fun e w' he => by cases e <;> first | exact hr _ _ he | exact he)
  · exact hu

theorem Out.mono {K K' : IV → IH → Prop} (hk : ∀ v h, K v h → K' v h) {v' : Value} {w' : World} (ho : Out ρ B w K v' w') : Out ρ B w K' v' w' :=
  let ⟨ρ', v, h', h1, h2, h3, h4, h5⟩ := ho
  ⟨ρ', v, h', h1, h2, h3, h4, hk _ _ h5⟩

theorem ICalls.mono {f : Nat} {args : List IV} {Q Q' : IV → IH → Prop} (hc : ICalls P f args h Q) (hq : ∀ v h', Q v h' → Q' v h') : ICalls P f args h Q' :=
  fun ρ B w args' hw ha => (hc ρ B w args' hw ha).mono (fun _ _ ho => ho.mono hq)

/-- copy, over the ideal heap. -/
def copyK (h : IH) (sz : Nat) (d : IV) (ys : List (List IV)) (K : IV → IH → Prop) : Prop :=
  match d with
  | .nilslice | .eslice _ => K (.int .i64 0) h
  | .slice l i n => if min ys.length n = 0 then K (.int .i64 0) h else
    match h.obj l with
    | .rows rs e sz' false => sz' = sz ∧ i + n ≤ rs.length ∧ K (.int .i64 (min ys.length n : Nat)) (h.set l (.rows (rs.take i ++ ys.take n ++ rs.drop (i + min ys.length n)) e sz false))
    | _ => False
  | _ => False

def uact (P : Program) (h : IH) (K : IV → IH → Prop) : UX → List IV → Prop
  | .bad, _ => False

def act (P : Program) (h : IH) (e : Env) (K : IV → IH → Prop) : EK → Prop
  | .zero el sz cs => K (.ptr h.n 0 0) (h.push (.rows [cs] el sz false))
  | .box el sz x => (x.ev e).cells.length = sz ∧ (x.ev e).cells.all IV.one = true ∧ K (.ptr h.n 0 0) (h.push (.rows [(x.ev e).cells] el sz false))
  | .bslice el sz zero len parts => if len = 0 then K (.eslice true) h else
    match layR (List.replicate len zero) sz (parts.map fun p => (p.1, p.2.ev e)) with
    | some rows => (rows.all fun r => r.all IV.one) = true ∧ K (.slice h.n 0 len) (h.push (.rows rows el sz false))
    | none => False
  | .st n a x => match a.ev e with
    | .ptr l i k => match h.obj l with
      | .rows rs el sz false => match rs[i]? with
        | some row => (x.ev e).cells.length = n ∧ k + n ≤ row.length ∧ (x.ev e).cells.all IV.one = true ∧ K (.tuple []) (h.set l (.rows (rs.set i (wrt row k (x.ev e).cells)) el sz false))
        | none => False
      | _ => False
    | _ => False
  | .app el sz bytes x y => match srcRows h sz (y.ev e) with
    | some ys => appK h el sz bytes (x.ev e) ys K
    | none => False
  | .appS el bytes x y => match y.ev e with
    | .str s => appK h el 1 bytes (x.ev e) (strRows s) K
    | _ => False
  | .copy sz d s => match srcRows h sz (s.ev e) with
    | some ys => copyK h sz (d.ev e) ys K
    | none => False
  | .copyS d s => match s.ev e with
    | .str s => copyK h 1 (d.ev e) (strRows s) K
    | _ => False
  | .mks el sz bytes zero len cap => match len.ev e, cap.ev e with
    | .int _ l, .int _ c => 0 ≤ l ∧ l ≤ c ∧ (bytes : Int) * c ≤ 140737488355328 ∧ c ≤ 9223372036854775807 ∧
      (if c = 0 then K (.eslice true) h else K (.slice h.n 0 l.toNat) (h.push (.rows (List.replicate l.toNat zero) el sz false)))
    | _, _ => False
  | .s2b el x => match x.ev e with
    | .str s => if s = [] then K (.eslice false) h else s.length ≤ 9223372036854775807 ∧ K (.slice h.n 0 s.length) (h.push (.rows (strRows s) el 1 false))
    | _ => False
  | .call f args => ICalls P f (args.map (CX.ev e)) h K
  | .callv f args => match f.ev e with
    | .func g first caps => ICalls P g (first ++ args.map (CX.ev e) ++ caps) h K
    | _ => False
  | .ux k xs => uact P h K k (xs.map (CX.ev e))

def bparts : List (Nat × Operand) → Option (List (Nat × CX))
  | [] => some []
  | (i, x) :: r => match cx x, bparts r with
    | some x', some r' => some ((i, x') :: r')
    | _, _ => none

def ecomp (P : Program) (op : Op) : Option EK :=
  match op with
  | .alloc t => match zeroOf P t, tsz P t with
    | some z, some n => if z.length = n ∧ z.all IV.one = true then some (.zero t n z) else none
    | _, _ => none
  | .box t x => match cx x, tsz P t with
    | some x, some n => some (.box t n x)
    | _, _ => none
  | .buildSlice t len parts => match P.underlying t with
    | some (.slice el) => match zeroOf P el, tsz P el, bparts parts.toList with
      | some z, some n, some ps => if z.length = n ∧ 0 < n ∧ len * n ≤ 16777216 ∧ (len ≠ 0 ∨ ps.length = 0) then some (.bslice el n z len ps) else none
      | _, _, _ => none
    | _ => none
  | .store t a x => match tsz P t, cx a, cx x with
    | some n, some a, some x => some (.st n a x)
    | _, _, _ => none
  | .makeSlice t l c => match P.underlying t with
    | some (.slice el) => match zeroOf P el, P.info? el, cx l, cx c with
      | some z, some i, some l, some c => if z.length = i.size ∧ 0 < i.size ∧ 0 < i.bytes ∧ z.all IV.one = true then some (.mks el i.size i.bytes z l c) else none
      | _, _, _, _ => none
    | _ => none
  | .convert s d x => match P.underlying s, P.underlying d, cx x with
    | some .string, some (.slice el), some x => match P.underlying el, tsz P el with
      | some (.int .u8), some 1 => some (.s2b el x)
      | _, _ => none
    | _, _, _ => none
  | .call { callee := .builtin .append, args, argTypes } => match args.toList, argTypes.toList with
    | [x, y], [t, u] => match P.underlying t, P.underlying u, cx x, cx y with
      | some (.slice el), some (.slice el'), some x, some y => match P.info? el, zeroOf P el with
        | some i, some z => if el' = el ∧ z.length = i.size ∧ 0 < i.bytes then some (.app el i.size i.bytes x y) else none
        | _, _ => none
      | some (.slice el), some .string, some x, some y => match P.info? el, zeroOf P el with
        | some i, some z => if i.size = 1 ∧ z.length = 1 ∧ 0 < i.bytes then some (.appS el i.bytes x y) else none
        | _, _ => none
      | _, _, _, _ => none
    | _, _ => none
  | .call { callee := .builtin .copy, args, argTypes } => match args.toList, argTypes.toList with
    | [x, y], [t, u] => match P.underlying t, P.underlying u, cx x, cx y with
      | some (.slice el), some (.slice _), some x, some y => (tsz P el).map fun n => .copy n x y
      | some (.slice el), some .string, some x, some y => if tsz P el = some 1 then some (.copyS x y) else none
      | _, _, _, _ => none
    | _, _ => none
  | .call { callee := .value (.func f), args, .. } => (cxs args.toList).map (.call f)
  | .call { callee := .value f, args, .. } => match cx f, cxs args.toList with
    | some f, some args => some (.callv f args)
    | _, _ => none
  | _ => none

def uxcomp (P : Program) (op : Op) : Option (UX × List CX) := none
/-- All that makes memory or writes it. -/
def ekc (P : Program) (op : Op) : EK :=
  match ecomp P op with
  | some k => k
  | none => match uxcomp P op with
    | some p => .ux p.1 p.2
    | none => .ux .bad []

end
end Go.IW
