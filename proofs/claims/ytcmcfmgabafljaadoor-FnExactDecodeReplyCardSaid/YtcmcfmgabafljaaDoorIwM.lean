/- Code and functions: the verification condition is enough. -/
import Derived.Test.YtcmcfmgabafljaaDoorIwL
set_option linter.unusedVariables false
set_option linter.unusedSimpArgs false
namespace Go.IW
open Go.RowKit

/-- A loop whose invariant goes down. -/
theorem wp_loop_idx {P : Program} {Q : Exit → Act → World → Prop} {a : Act} {w : World} {c : Code} (I : Nat → Act → World → Prop) (h₀ : ∃ n, I n a w)
    (round : ∀ n a w, I n a w → c.wp P (Exit.then (fun a' w' => ∃ m, m < n ∧ I m a' w') Q) a w) : (Code.loop c).wp P Q a w := by
  intro b k cs
  have key : ∀ n a w, I n a w → ∃ e a' w', Q e a' w' ∧ Arrives P (lone (b.at a (.code c :: .inLoop c :: k)) cs w) b k cs e a' w' := by
    intro n
    induction n using Nat.strongRecOn with
    | _ n ih =>
      intro a w hI
      obtain ⟨e, a₁, w₁, hq, harr⟩ := round n a w hI b (.inLoop c :: k) cs
      cases e with
      | normal =>
        obtain ⟨m, hlt, hI₁⟩ := hq
        obtain ⟨e₂, a₂, w₂, hq₂, harr₂⟩ := ih m hlt a₁ w₁ hI₁
        exact ⟨e₂, a₂, w₂, hq₂, .of_steps (Steps.trans harr (.one step_inLoop)) harr₂⟩
      | exit id => exact ⟨_, a₁, w₁, hq, .pass (x := .inLoop c) rfl (fun _ _ => .inl (by simp)) harr⟩
      | goto l => exact ⟨_, a₁, w₁, hq, .pass (x := .inLoop c) rfl (fun _ _ => .inl (by simp)) harr⟩
      | ret => exact ⟨_, a₁, w₁, hq, .pass (x := .inLoop c) rfl (fun _ _ => .inl (by simp)) harr⟩
      | panic ch => exact ⟨_, a₁, w₁, hq, .pass (x := .inLoop c) rfl (fun _ _ => .inl (by simp)) harr⟩
      | outgrown => exact ⟨_, a₁, w₁, hq, .pass (x := .inLoop c) rfl (fun _ _ => .inl (by simp)) harr⟩
  obtain ⟨n, hn⟩ := h₀
  obtain ⟨e, a', w', hq, harr⟩ := key n a w hn
  exact ⟨e, a', w', hq, .of_steps (.one step_loop) harr⟩

/-- The places that an operation looks at. -/
def CX.tmps : CX → List Nat
  | .t n => [n]
  | _ => []
def ocxT : Option CX → List Nat
  | some x => x.tmps
  | none => []
def FK.tmps : FK → List Nat
  | .mv x | .ld x | .ldA _ x | .nck x | .un _ x | .cvI _ x | .cvS x | .b2s x | .ext _ x | .fld _ _ _ x | .fadr _ x | .len x | .lenS x | .mkif _ x => x.tmps
  | .pick c a b => c.tmps ++ (a.tmps ++ b.tmps)
  | .build _ ps => ps.flatMap fun p => p.2.2.tmps
  | .bin _ x y | .binB _ x y | .eqn _ _ x y | .iadr _ x y | .iadrA _ _ x y | .idxS x y | .idxA _ _ _ x y | .mm _ x y => x.tmps ++ y.tmps
  | .slcS x lo hi => x.tmps ++ (ocxT lo ++ ocxT hi)
  | .slc _ x lo hi mx => x.tmps ++ (ocxT lo ++ (ocxT hi ++ ocxT mx))
  | .mkf _ as cs => (as.flatMap CX.tmps) ++ (cs.flatMap CX.tmps)
  | .u _ xs => xs.flatMap CX.tmps
def EK.tmps : EK → List Nat
  | .zero _ _ _ => []
  | .box _ _ x | .s2b _ x => x.tmps
  | .bslice _ _ _ _ ps => ps.flatMap fun p => p.2.tmps
  | .st _ x y | .app _ _ _ x y | .appS _ _ x y | .copy _ x y | .copyS x y | .mks _ _ _ _ x y => x.tmps ++ y.tmps
  | .call _ as => as.flatMap CX.tmps
  | .callv f as => f.tmps ++ as.flatMap CX.tmps
  | .ux _ xs => xs.flatMap CX.tmps
def COp.looks (o : COp) : List Nat :=
  (match o.op with | .f k => k.tmps | .x k => k.tmps) ++ (match o.guard with | some (t, _) => [t] | none => [])

/-! The static side of a region that draws. -/
def edgesOf (o : Oper) : List Nat := (o.after.toList.filter (Region.binds .any)).map (·.on)
def unionL (a b : List Nat) : List Nat := a ++ b.filter fun x => !a.contains x
def ancsOf (ops : List Oper) : List (List Nat) :=
  ops.foldl (init := []) fun acc o => acc ++ [(edgesOf o).foldl (init := []) fun s k => unionL s (unionL [k] (acc.getD k []))]
/-- What must come in its turn: what makes memory, writes, calls; and what writes a slot that another looked at ahead of it. -/
def barsOf (cs : List COp) (anc : List (List Nat)) : List Bool :=
  cs.zipIdx.map fun (c, j) => (match c.op with | .x _ => true | .f _ => false) ||
    (match c.dst with | some d => cs.zipIdx.any fun (c', i) => (i == j || (anc.getD j []).contains i) && c'.looks.contains d | none => false)
def ordOf (bar : List Bool) (anc : List (List Nat)) : (fuel : Nat) → List Nat → List Nat
  | 0, acc => acc.reverse
  | f + 1, acc =>
    let rs := (List.range bar.length).filter fun i => !acc.contains i && (anc.getD i []).all acc.contains
    match rs.find? (fun i => !bar.getD i true) with
    | some i => ordOf bar anc f (i :: acc)
    | none => match rs with
      | i :: _ => ordOf bar anc f (i :: acc)
      | [] => acc.reverse

/-- What may come next. -/
def readyL (anc : List (List Nat)) (n : Nat) (done : List Nat) : List Nat := (List.range n).filter fun i => !done.contains i && (anc.getD i []).all done.contains
def kidsT (g : Nat → DT) : List Nat → DT
  | [] => .stop
  | i :: r => .br i (g i) (kidsT g r)
def mkT (bar : List Bool) (anc : List (List Nat)) (n : Nat) : (fuel : Nat) → List Nat → DT
  | 0, _ => .fin
  | f + 1, done => match (readyL anc n done).find? (fun i => !bar.getD i true) with
    | some i => .fl i (mkT bar anc n f (i :: done))
    | none => kidsT (fun i => mkT bar anc n f (i :: done)) (readyL anc n done)

structure TOk (ops : Array Oper) (cs : List COp) (bar : List Bool) (anc : List (List Nat)) : Prop where
  edges : ∀ i o, ops[i]? = some o → ∀ k ∈ edgesOf o, k < i ∧ k ∈ anc.getD i []
  ancs : ∀ i o, ops[i]? = some o → ∀ j ∈ anc.getD i [], j < i ∧ ∃ k ∈ edgesOf o, j = k ∨ j ∈ anc.getD k []
  data : ∀ i < ops.size, ∀ j < ops.size, i ≠ j → ∀ d, (cs.getD j default).dst = some d → d ∈ (cs.getD i default).looks → j ∈ anc.getD i [] ∨ (i ∈ anc.getD j [] ∧ bar.getD j true = true)
  dsts : ∀ i < ops.size, ∀ j < ops.size, i ≠ j → ∀ d, (cs.getD j default).dst = some d → (cs.getD i default).dst ≠ some d
  effs : ∀ i < ops.size, bar.getD i true = false → ∃ k, (cs.getD i default).op = .f k
  self : ∀ i < ops.size, bar.getD i true = false → ∀ d, (cs.getD i default).dst = some d → d ∉ (cs.getD i default).looks

def tCheck (ops : Array Oper) (cs : List COp) (bar : List Bool) (anc : List (List Nat)) : Bool :=
  let R := List.range ops.size
  ops.toList.zipIdx.all (fun (o, i) => (edgesOf o).all fun k => decide (k < i) && (anc.getD i []).contains k) &&
  ops.toList.zipIdx.all (fun (o, i) => (anc.getD i []).all fun j => decide (j < i) && (edgesOf o).any fun k => j == k || (anc.getD k []).contains j) &&
  R.all (fun i => R.all fun j => i == j || (match (cs.getD j default).dst with
    | some d => (!(cs.getD i default).looks.contains d || (anc.getD i []).contains j || ((anc.getD j []).contains i && bar.getD j true)) && ((cs.getD i default).dst != some d)
    | none => true)) &&
  R.all (fun i => bar.getD i true || (match (cs.getD i default).op with | .f _ => true | _ => false)) &&
  R.all (fun i => bar.getD i true || (match (cs.getD i default).dst with | some d => !(cs.getD i default).looks.contains d | none => true))

/-- Is i ahead of j in the list? -/
def ahead (ord : List Nat) (i j : Nat) : Bool :=
  match ord with
  | [] => false
  | x :: r => if x == i then r.contains j else if x == j then false else ahead r i j

structure DOk (ops : Array Oper) (cs : List COp) (bar : List Bool) (anc : List (List Nat)) (ord : List Nat) : Prop where
  nodup : ord.Nodup
  perm : ∀ i, i ∈ ord ↔ i < ops.size
  edges : ∀ i o, ops[i]? = some o → ∀ k ∈ edgesOf o, k < i ∧ k ∈ anc.getD i []
  ancs : ∀ i o, ops[i]? = some o → ∀ j ∈ anc.getD i [], j < i ∧ ∃ k ∈ edgesOf o, j = k ∨ j ∈ anc.getD k []
  order : ∀ i < ops.size, ∀ j ∈ anc.getD i [], ahead ord j i = true
  data : ∀ i < ops.size, ∀ j < ops.size, i ≠ j → ∀ d, (cs.getD j default).dst = some d → d ∈ (cs.getD i default).looks → j ∈ anc.getD i [] ∨ (i ∈ anc.getD j [] ∧ bar.getD j true = true)
  dsts : ∀ i < ops.size, ∀ j < ops.size, i ≠ j → ∀ d, (cs.getD j default).dst = some d → (cs.getD i default).dst ≠ some d
  effs : ∀ i < ops.size, bar.getD i true = false → ∃ k, (cs.getD i default).op = .f k
  self : ∀ i < ops.size, bar.getD i true = false → ∀ d, (cs.getD i default).dst = some d → d ∉ (cs.getD i default).looks
  bars : ∀ i < ops.size, ∀ j < ops.size, bar.getD i true = true → ahead ord i j = true → i ∈ anc.getD j []

def dCheck (ops : Array Oper) (cs : List COp) (bar : List Bool) (anc : List (List Nat)) (ord : List Nat) : Bool :=
  let n := ops.size
  let R := List.range n
  decide ord.Nodup && decide (ord.length = n) && ord.all (fun i => decide (i < n)) && R.all (fun i => ord.contains i) &&
  ops.toList.zipIdx.all (fun (o, i) => (edgesOf o).all fun k => decide (k < i) && (anc.getD i []).contains k) &&
  ops.toList.zipIdx.all (fun (o, i) => (anc.getD i []).all fun j => decide (j < i) && (edgesOf o).any fun k => j == k || (anc.getD k []).contains j) &&
  R.all (fun i => (anc.getD i []).all fun j => ahead ord j i) &&
  R.all (fun i => R.all fun j => i == j || (match (cs.getD j default).dst with
    | some d => (!(cs.getD i default).looks.contains d || (anc.getD i []).contains j || ((anc.getD j []).contains i && bar.getD j true)) && ((cs.getD i default).dst != some d)
    | none => true)) &&
  R.all (fun i => bar.getD i true || (match (cs.getD i default).op with | .f _ => true | _ => false)) &&
  R.all (fun i => bar.getD i true || (match (cs.getD i default).dst with | some d => !(cs.getD i default).looks.contains d | none => true)) &&
  R.all (fun i => R.all fun j => !(bar.getD i true) || !(ahead ord i j) || (anc.getD j []).contains i)

theorem tCheck_ok {ops : Array Oper} {cs : List COp} {bar : List Bool} {anc : List (List Nat)} (h : tCheck ops cs bar anc = true) : TOk ops cs bar anc := by
  unfold tCheck at h
  simp only [Bool.and_eq_true, decide_eq_true_eq] at h
  obtain ⟨⟨⟨⟨h5, h6⟩, h8⟩, h9⟩, h11⟩ := h
  have zip : ∀ i o, ops[i]? = some o → (o, i) ∈ ops.toList.zipIdx := by
    intro i o hi
    rw [List.mem_zipIdx_iff_getElem?]
    simpa using hi
  refine ⟨?_, ?_, ?_, ?_, ?_, ?_⟩
  · intro i o hi k hk
    have := List.all_eq_true.1 h5 _ (zip i o hi)
    simp only [List.all_eq_true] at this
    simpa using this k hk
  · intro i o hi j hj
    have := List.all_eq_true.1 h6 _ (zip i o hi)
    simp only [List.all_eq_true] at this
    simpa using this j hj
  · intro i hi j hj hne d hd hl
    have := List.all_eq_true.1 (List.all_eq_true.1 h8 i (List.mem_range.2 hi)) j (List.mem_range.2 hj)
    rw [hd] at this
    simp [hne] at this
    have hl' : d ∈ (cs[i]?.getD default).looks := by simpa using hl
    rcases this.1 with (h | h) | h
    · exact absurd hl' h
    · exact .inl (by simpa using h)
    · exact .inr (by simpa using h)
  · intro i hi j hj hne d hd hl
    have := List.all_eq_true.1 (List.all_eq_true.1 h8 i (List.mem_range.2 hi)) j (List.mem_range.2 hj)
    rw [hd] at this
    simp [hne] at this
    exact this.2 (by simpa using hl)
  · intro i hi hb
    have := List.all_eq_true.1 h9 i (List.mem_range.2 hi)
    rw [hb] at this
    simp at this
    split at this
    · rename_i k hk; exact ⟨k, hk⟩
    · cases this
  · intro i hi hb d hd hl
    have := List.all_eq_true.1 h11 i (List.mem_range.2 hi)
    rw [hb, hd] at this
    simp at this
    exact this (by simpa using hl)

theorem dCheck_ok {ops : Array Oper} {cs : List COp} {bar : List Bool} {anc : List (List Nat)} {ord : List Nat} (h : dCheck ops cs bar anc ord = true) : DOk ops cs bar anc ord := by
  unfold dCheck at h
  simp only [Bool.and_eq_true, decide_eq_true_eq] at h
  obtain ⟨⟨⟨⟨⟨⟨⟨⟨⟨⟨h1, h2⟩, h3⟩, h4⟩, h5⟩, h6⟩, h7⟩, h8⟩, h9⟩, h11⟩, h10⟩ := h
  have zip : ∀ i o, ops[i]? = some o → (o, i) ∈ ops.toList.zipIdx := by
    intro i o hi
    rw [List.mem_zipIdx_iff_getElem?]
    simpa using hi
  refine ⟨h1, fun i => ⟨fun hi => by simpa using List.all_eq_true.1 h3 i hi, fun hi => by simpa using List.all_eq_true.1 h4 i (List.mem_range.2 hi)⟩, ?_, ?_, ?_, ?_, ?_, ?_, ?_, ?_⟩
  · intro i o hi k hk
    have := List.all_eq_true.1 h5 _ (zip i o hi)
    simp only [List.all_eq_true] at this
    simpa using this k hk
  · intro i o hi j hj
    have := List.all_eq_true.1 h6 _ (zip i o hi)
    simp only [List.all_eq_true] at this
    simpa using this j hj
  · intro i hi j hj
    have := List.all_eq_true.1 h7 i (List.mem_range.2 hi)
    exact List.all_eq_true.1 this j hj
  · intro i hi j hj hne d hd hl
    have := List.all_eq_true.1 (List.all_eq_true.1 h8 i (List.mem_range.2 hi)) j (List.mem_range.2 hj)
    rw [hd] at this
    simp [hne] at this
    have hl' : d ∈ (cs[i]?.getD default).looks := by simpa using hl
    rcases this.1 with (h | h) | h
    · exact absurd hl' h
    · exact .inl (by simpa using h)
    · exact .inr (by simpa using h)
  · intro i hi j hj hne d hd hl
    have := List.all_eq_true.1 (List.all_eq_true.1 h8 i (List.mem_range.2 hi)) j (List.mem_range.2 hj)
    rw [hd] at this
    simp [hne] at this
    exact this.2 (by simpa using hl)
  · intro i hi hb
    have := List.all_eq_true.1 h9 i (List.mem_range.2 hi)
    rw [hb] at this
    simp at this
    split at this
    · rename_i k hk; exact ⟨k, hk⟩
    · cases this
  · intro i hi hb d hd hl
    have := List.all_eq_true.1 h11 i (List.mem_range.2 hi)
    rw [hb, hd] at this
    simp at this
    exact this (by simpa using hl)
  · intro i hi j hj hb ha
    have := List.all_eq_true.1 (List.all_eq_true.1 h10 i (List.mem_range.2 hi)) j (List.mem_range.2 hj)
    rw [hb, ha] at this
    simpa using this

section
variable (P : Program)

def ccomp (N : Nat) : Code → Option CC
  | .skip => some .skip
  | .region _ ops false => (ocomps P N ops ops.toList).map .reg
  | .region _ ops true => match ocomps P N ops ops.toList with
    | some cs =>
      let anc := ancsOf ops.toList
      let bar := barsOf cs anc
      let ord := ordOf bar anc cs.length []
      if dCheck ops cs bar anc ord && P.follows .mixedOrders then some (.dreg cs bar anc ord) else
        if tCheck ops cs bar anc && P.follows .mixedOrders then some (.treg cs anc (mkT bar anc cs.length cs.length [])) else none
    | none => none
  | .seq a b => match ccomp N a, ccomp N b with
    | some a, some b => some (.seq a b)
    | _, _ => none
  | .cond c a b => match cx c, ccomp N a, ccomp N b with
    | some c, some a, some b => some (.cond c a b)
    | _, _, _ => none
  | .block id a => (ccomp N a).map (.block id)
  | .loop a => (ccomp N a).map .loop
  | .exit id => some (.exit id)
  | .ret => some .ret
  | _ => none

def rcomp : ResultVar → Option FK
  | .tmp t => some (.mv (.t t))
  | .cell a t => match P.underlying t, tsz P t with
    | some d, some n => some (if isAggD d then .ldA n (.t a) else .ld (.t a))
    | _, _ => none
def rcomps : List ResultVar → Option (List FK)
  | [] => some []
  | r :: l => match rcomp P r, rcomps l with
    | some k, some ks => some (k :: ks)
    | _, _ => none
end

def resVs (e : Env) (h : IH) : List FK → Option (List IV)
  | [] => some []
  | k :: ks => match feval e h k, resVs e h ks with
    | some v, some vs => some (v :: vs)
    | _, _ => none
def resV : List IV → IV
  | [v] => v
  | vs => .tuple vs
/-- The end of a function. -/
def retK (rs : List FK) (Q : IV → IH → Prop) : EPost := fun ex e h =>
  match ex with
  | .normal | .ret => match resVs e h rs with
    | some vs => Q (resV vs) h
    | none => False
  | _ => False
def env0 (args : List IV) : Env := fun t => args.getD t (.tuple [])

end Go.IW
