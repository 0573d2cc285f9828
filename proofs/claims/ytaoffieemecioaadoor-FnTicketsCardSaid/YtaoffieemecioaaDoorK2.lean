import Derived.Test.YtaoffieemecioaaDoorK1
import Derived.Laws.Externs
import Derived.Lib.Bytealg
import Derived.Laws.BitsLemmas
import Derived.SizedLaws
import Derived.OpenShut
import Derived.Carry
import Derived.ChangeAnyMap
set_option linter.unusedSimpArgs false
set_option linter.unusedVariables false
namespace Go.IW
open Go.RowKit

theorem wp_loop_idx {P : Program} {Q : Exit → Act → World → Prop} {a : Act} {w : World} {c : Code} (I : Nat → Act → World → Prop) (h₀ : ∃ n, I n a w)
  (round : ∀ n a w, I n a w → c.wp P (Exit.then (fun a' w' => ∃ m, m < n ∧ I m a' w') Q) a w) : (Code.loop c).wp P Q a w := by
 intro b k cs
 have key : ∀ n a w, I n a w → ∃ e a' w', Q e a' w' ∧ Arrives P (lone (b.at a (.code c :: .inLoop c :: k)) cs w) b k cs e a' w' := by
  intro n
  induction n using Nat.strongRecOn with
  | _ n ih =>
   intro a w hI
   obtain ⟨e, a₁, w₁, hq, harr⟩ := round n a w hI b (.inLoop c :: k) cs
   cases e with
   | normal =>
    obtain ⟨m, hlt, hI₁⟩ := hq
    obtain ⟨e₂, a₂, w₂, hq₂, harr₂⟩ := ih m hlt a₁ w₁ hI₁
    exact ⟨e₂, a₂, w₂, hq₂, .of_steps (Steps.trans harr (.one step_inLoop)) harr₂⟩
   | exit id => exact ⟨_, a₁, w₁, hq, .pass (x := .inLoop c) rfl (fun _ _ => .inl (by simp)) harr⟩
   | goto l => exact ⟨_, a₁, w₁, hq, .pass (x := .inLoop c) rfl (fun _ _ => .inl (by simp)) harr⟩
   | ret => exact ⟨_, a₁, w₁, hq, .pass (x := .inLoop c) rfl (fun _ _ => .inl (by simp)) harr⟩
   | panic ch => exact ⟨_, a₁, w₁, hq, .pass (x := .inLoop c) rfl (fun _ _ => .inl (by simp)) harr⟩
   | outgrown => exact ⟨_, a₁, w₁, hq, .pass (x := .inLoop c) rfl (fun _ _ => .inl (by simp)) harr⟩
 obtain ⟨n, hn⟩ := h₀
 obtain ⟨e, a', w', hq, harr⟩ := key n a w hn
 exact ⟨e, a', w', hq, .of_steps (.one step_loop) harr⟩

def CX.tmps : CX → List Nat
 | .t n => [n]
 | _ => []
def ocxT : Option CX → List Nat
 | some x => x.tmps
 | none => []
def FK.tmps : FK → List Nat
 | .mv x | .ld x | .ldA _ x | .nck x | .un _ x | .cvI _ x | .cvS x | .b2s x | .ext _ x | .fld _ _ _ x | .fadr _ x | .len x | .lenS x | .mkif _ x => x.tmps
 | .pick c a b => c.tmps ++ (a.tmps ++ b.tmps)
 | .build _ ps => ps.flatMap fun p => p.2.2.tmps
 | .bin _ x y | .binB _ x y | .eqn _ _ x y | .iadr _ x y | .iadrA _ _ x y | .idxS x y | .idxA _ _ _ x y | .mm _ x y => x.tmps ++ y.tmps
 | .slcS x lo hi => x.tmps ++ (ocxT lo ++ ocxT hi)
 | .slc _ x lo hi mx => x.tmps ++ (ocxT lo ++ (ocxT hi ++ ocxT mx))
 | .mkf _ as0 cs => (as0.flatMap CX.tmps) ++ (cs.flatMap CX.tmps)
 | .u _ xs => xs.flatMap CX.tmps
def EK.tmps : EK → List Nat
 | .zero _ _ _ => []
 | .box _ _ x | .s2b _ x => x.tmps
 | .bslice _ _ _ _ ps => ps.flatMap fun p => p.2.tmps
 | .st _ x y | .app _ _ _ x y | .appS _ _ x y | .copy _ x y | .copyS x y | .mks _ _ _ _ x y => x.tmps ++ y.tmps
 | .call _ as0 => as0.flatMap CX.tmps
 | .callv f as0 => f.tmps ++ as0.flatMap CX.tmps
 | .ux _ xs => xs.flatMap CX.tmps
def COp.looks (o : COp) : List Nat :=
 (match o.op with | .f k => k.tmps | .x k => k.tmps) ++ (match o.guard with | some (t, _) => [t] | none => [])

def edgesOf (o : Oper) : List Nat := (o.after.toList.filter (Region.binds .any)).map (·.on)
def unionL (a b : List Nat) : List Nat := a ++ b.filter fun x => !a.contains x
def ancsOf (ops : List Oper) : List (List Nat) :=
 ops.foldl (init := []) fun acc o => acc ++ [(edgesOf o).foldl (init := []) fun s k => unionL s (unionL [k] (acc.getD k []))]
def barsOf (cs : List COp) (anc : List (List Nat)) : List Bool :=
 cs.zipIdx.map fun (c, j) => (match c.op with | .x _ => true | .f _ => false) ||
  (match c.dst with | some d => cs.zipIdx.any fun (c', i) => (i == j || (anc.getD j []).contains i) && c'.looks.contains d | none => false)
def ordOf (bar : List Bool) (anc : List (List Nat)) : (fuel : Nat) → List Nat → List Nat
 | 0, acc => acc.reverse
 | f + 1, acc =>
  let rs := (List.range bar.length).filter fun i => !acc.contains i && (anc.getD i []).all acc.contains
  match rs.find? (fun i => !bar.getD i true) with
  | some i => ordOf bar anc f (i :: acc)
  | none => match rs with
   | i :: _ => ordOf bar anc f (i :: acc)
   | [] => acc.reverse

def readyL (anc : List (List Nat)) (n : Nat) (done : List Nat) : List Nat := (List.range n).filter fun i => !done.contains i && (anc.getD i []).all done.contains
def kidsT (g : Nat → DT) : List Nat → DT
 | [] => .stop
 | i :: r => .br i (g i) (kidsT g r)
def mkT (bar : List Bool) (anc : List (List Nat)) (n : Nat) : (fuel : Nat) → List Nat → DT
 | 0, _ => .fin
 | f + 1, done => match (readyL anc n done).find? (fun i => !bar.getD i true) with
  | some i => .fl i (mkT bar anc n f (i :: done))
  | none => kidsT (fun i => mkT bar anc n f (i :: done)) (readyL anc n done)

structure TOk (ops : Array Oper) (cs : List COp) (bar : List Bool) (anc : List (List Nat)) : Prop where
 edges : ∀ i o, ops[i]? = some o → ∀ k ∈ edgesOf o, k < i ∧ k ∈ anc.getD i []
 ancs : ∀ i o, ops[i]? = some o → ∀ j ∈ anc.getD i [], j < i ∧ ∃ k ∈ edgesOf o, j = k ∨ j ∈ anc.getD k []
 data : ∀ i < ops.size, ∀ j < ops.size, i ≠ j → ∀ d, (cs.getD j default).dst = some d → d ∈ (cs.getD i default).looks → j ∈ anc.getD i [] ∨ (i ∈ anc.getD j [] ∧ bar.getD j true = true)
 dsts : ∀ i < ops.size, ∀ j < ops.size, i ≠ j → ∀ d, (cs.getD j default).dst = some d → (cs.getD i default).dst ≠ some d
 effs : ∀ i < ops.size, bar.getD i true = false → ∃ k, (cs.getD i default).op = .f k
 self : ∀ i < ops.size, bar.getD i true = false → ∀ d, (cs.getD i default).dst = some d → d ∉ (cs.getD i default).looks

def tCheck (ops : Array Oper) (cs : List COp) (bar : List Bool) (anc : List (List Nat)) : Bool :=
 let R := List.range ops.size
 ops.toList.zipIdx.all (fun (o, i) => (edgesOf o).all fun k => decide (k < i) && (anc.getD i []).contains k) &&
 ops.toList.zipIdx.all (fun (o, i) => (anc.getD i []).all fun j => decide (j < i) && (edgesOf o).any fun k => j == k || (anc.getD k []).contains j) &&
 R.all (fun i => R.all fun j => i == j || (match (cs.getD j default).dst with
  | some d => (!(cs.getD i default).looks.contains d || (anc.getD i []).contains j || ((anc.getD j []).contains i && bar.getD j true)) && ((cs.getD i default).dst != some d)
  | none => true)) &&
 R.all (fun i => bar.getD i true || (match (cs.getD i default).op with | .f _ => true | _ => false)) &&
 R.all (fun i => bar.getD i true || (match (cs.getD i default).dst with | some d => !(cs.getD i default).looks.contains d | none => true))

def ahead (ord : List Nat) (i j : Nat) : Bool :=
 match ord with
 | [] => false
 | x :: r => if x == i then r.contains j else if x == j then false else ahead r i j

structure DOk (ops : Array Oper) (cs : List COp) (bar : List Bool) (anc : List (List Nat)) (ord : List Nat) : Prop where
 nodup : ord.Nodup
 perm : ∀ i, i ∈ ord ↔ i < ops.size
 edges : ∀ i o, ops[i]? = some o → ∀ k ∈ edgesOf o, k < i ∧ k ∈ anc.getD i []
 ancs : ∀ i o, ops[i]? = some o → ∀ j ∈ anc.getD i [], j < i ∧ ∃ k ∈ edgesOf o, j = k ∨ j ∈ anc.getD k []
 order : ∀ i < ops.size, ∀ j ∈ anc.getD i [], ahead ord j i = true
 data : ∀ i < ops.size, ∀ j < ops.size, i ≠ j → ∀ d, (cs.getD j default).dst = some d → d ∈ (cs.getD i default).looks → j ∈ anc.getD i [] ∨ (i ∈ anc.getD j [] ∧ bar.getD j true = true)
 dsts : ∀ i < ops.size, ∀ j < ops.size, i ≠ j → ∀ d, (cs.getD j default).dst = some d → (cs.getD i default).dst ≠ some d
 effs : ∀ i < ops.size, bar.getD i true = false → ∃ k, (cs.getD i default).op = .f k
 self : ∀ i < ops.size, bar.getD i true = false → ∀ d, (cs.getD i default).dst = some d → d ∉ (cs.getD i default).looks
 bars : ∀ i < ops.size, ∀ j < ops.size, bar.getD i true = true → ahead ord i j = true → i ∈ anc.getD j []

def dCheck (ops : Array Oper) (cs : List COp) (bar : List Bool) (anc : List (List Nat)) (ord : List Nat) : Bool :=
 let n := ops.size
 let R := List.range n
 decide ord.Nodup && decide (ord.length = n) && ord.all (fun i => decide (i < n)) && R.all (fun i => ord.contains i) &&
 ops.toList.zipIdx.all (fun (o, i) => (edgesOf o).all fun k => decide (k < i) && (anc.getD i []).contains k) &&
 ops.toList.zipIdx.all (fun (o, i) => (anc.getD i []).all fun j => decide (j < i) && (edgesOf o).any fun k => j == k || (anc.getD k []).contains j) &&
 R.all (fun i => (anc.getD i []).all fun j => ahead ord j i) &&
 R.all (fun i => R.all fun j => i == j || (match (cs.getD j default).dst with
  | some d => (!(cs.getD i default).looks.contains d || (anc.getD i []).contains j || ((anc.getD j []).contains i && bar.getD j true)) && ((cs.getD i default).dst != some d)
  | none => true)) &&
 R.all (fun i => bar.getD i true || (match (cs.getD i default).op with | .f _ => true | _ => false)) &&
 R.all (fun i => bar.getD i true || (match (cs.getD i default).dst with | some d => !(cs.getD i default).looks.contains d | none => true)) &&
 R.all (fun i => R.all fun j => !(bar.getD i true) || !(ahead ord i j) || (anc.getD j []).contains i)

theorem tCheck_ok {ops : Array Oper} {cs : List COp} {bar : List Bool} {anc : List (List Nat)} (h : tCheck ops cs bar anc = true) : TOk ops cs bar anc := by
 unfold tCheck at h
 simp only [Bool.and_eq_true, decide_eq_true_eq] at h
 obtain ⟨⟨⟨⟨h5, h6⟩, h8⟩, h9⟩, h11⟩ := h
 have zip : ∀ i o, ops[i]? = some o → (o, i) ∈ ops.toList.zipIdx := by
  intro i o hi
  rw [List.mem_zipIdx_iff_getElem?]
  simpa using hi
 refine ⟨?_, ?_, ?_, ?_, ?_, ?_⟩
 ·intro i o hi k hk
  have := List.all_eq_true.1 h5 _ (zip i o hi)
  simp only [List.all_eq_true] at this
  simpa using this k hk
 ·intro i o hi j hj
  have := List.all_eq_true.1 h6 _ (zip i o hi)
  simp only [List.all_eq_true] at this
  simpa using this j hj
 ·intro i hi j hj hne d hd hl
  have := List.all_eq_true.1 (List.all_eq_true.1 h8 i (List.mem_range.2 hi)) j (List.mem_range.2 hj)
  rw [hd] at this
  simp [hne] at this
  have hl' : d ∈ (cs[i]?.getD default).looks := by simpa using hl
  rcases this.1 with (h | h) | h
  ·exact absurd hl' h
  ·exact .inl (by simpa using h)
  ·exact .inr (by simpa using h)
 ·intro i hi j hj hne d hd hl
  have := List.all_eq_true.1 (List.all_eq_true.1 h8 i (List.mem_range.2 hi)) j (List.mem_range.2 hj)
  rw [hd] at this
  simp [hne] at this
  exact this.2 (by simpa using hl)
 ·intro i hi hb
  have := List.all_eq_true.1 h9 i (List.mem_range.2 hi)
  rw [hb] at this
  simp at this
  split at this
  ·rename_i k hk; exact ⟨k, hk⟩
  ·cases this
 ·intro i hi hb d hd hl
  have := List.all_eq_true.1 h11 i (List.mem_range.2 hi)
  rw [hb, hd] at this
  simp at this
  exact this (by simpa using hl)

theorem dCheck_ok {ops : Array Oper} {cs : List COp} {bar : List Bool} {anc : List (List Nat)} {ord : List Nat} (h : dCheck ops cs bar anc ord = true) : DOk ops cs bar anc ord := by
 unfold dCheck at h
 simp only [Bool.and_eq_true, decide_eq_true_eq] at h
 obtain ⟨⟨⟨⟨⟨⟨⟨⟨⟨⟨h1, h2⟩, h3⟩, h4⟩, h5⟩, h6⟩, h7⟩, h8⟩, h9⟩, h11⟩, h10⟩ := h
 have zip : ∀ i o, ops[i]? = some o → (o, i) ∈ ops.toList.zipIdx := by
  intro i o hi
  rw [List.mem_zipIdx_iff_getElem?]
  simpa using hi
 refine ⟨h1, fun i => ⟨fun hi => by simpa using List.all_eq_true.1 h3 i hi, fun hi => by simpa using List.all_eq_true.1 h4 i (List.mem_range.2 hi)⟩, ?_, ?_, ?_, ?_, ?_, ?_, ?_, ?_⟩
 ·intro i o hi k hk
  have := List.all_eq_true.1 h5 _ (zip i o hi)
  simp only [List.all_eq_true] at this
  simpa using this k hk
 ·intro i o hi j hj
  have := List.all_eq_true.1 h6 _ (zip i o hi)
  simp only [List.all_eq_true] at this
  simpa using this j hj
 ·intro i hi j hj
  have := List.all_eq_true.1 h7 i (List.mem_range.2 hi)
  exact List.all_eq_true.1 this j hj
 ·intro i hi j hj hne d hd hl
  have := List.all_eq_true.1 (List.all_eq_true.1 h8 i (List.mem_range.2 hi)) j (List.mem_range.2 hj)
  rw [hd] at this
  simp [hne] at this
  have hl' : d ∈ (cs[i]?.getD default).looks := by simpa using hl
  rcases this.1 with (h | h) | h
  ·exact absurd hl' h
  ·exact .inl (by simpa using h)
  ·exact .inr (by simpa using h)
 ·intro i hi j hj hne d hd hl
  have := List.all_eq_true.1 (List.all_eq_true.1 h8 i (List.mem_range.2 hi)) j (List.mem_range.2 hj)
  rw [hd] at this
  simp [hne] at this
  exact this.2 (by simpa using hl)
 ·intro i hi hb
  have := List.all_eq_true.1 h9 i (List.mem_range.2 hi)
  rw [hb] at this
  simp at this
  split at this
  ·rename_i k hk; exact ⟨k, hk⟩
  ·cases this
 ·intro i hi hb d hd hl
  have := List.all_eq_true.1 h11 i (List.mem_range.2 hi)
  rw [hb, hd] at this
  simp at this
  exact this (by simpa using hl)
 ·intro i hi j hj hb ha
  have := List.all_eq_true.1 (List.all_eq_true.1 h10 i (List.mem_range.2 hi)) j (List.mem_range.2 hj)
  rw [hb, ha] at this
  simpa using this

section
variable (P : Program)

def ccomp (N : Nat) : Code → Option CC
 | .skip => some .skip
 | .region _ ops false => (ocomps P N ops ops.toList).map .reg
 | .region _ ops true => match ocomps P N ops ops.toList with
  | some cs =>
   let anc := ancsOf ops.toList
   let bar := barsOf cs anc
   let ord := ordOf bar anc cs.length []
   if dCheck ops cs bar anc ord && P.follows .mixedOrders then some (.dreg cs bar anc ord) else
    if tCheck ops cs bar anc && P.follows .mixedOrders then some (.treg cs anc (mkT bar anc cs.length cs.length [])) else none
  | none => none
 | .seq a b => match ccomp N a, ccomp N b with
  | some a, some b => some (.seq a b)
  | _, _ => none
 | .cond c a b => match cx c, ccomp N a, ccomp N b with
  | some c, some a, some b => some (.cond c a b)
  | _, _, _ => none
 | .block id a => (ccomp N a).map (.block id)
 | .loop a => (ccomp N a).map .loop
 | .exit id => some (.exit id)
 | .ret => some .ret
 | .refuse _ => some (.reg [⟨none, none, .x (.ux .bad [])⟩])
 | _ => none

def rcomp : ResultVar → Option FK
 | .tmp t => some (.mv (.t t))
 | .cell a t => match P.underlying t, tsz P t with
  | some d, some n => some (if isAggD d then .ldA n (.t a) else .ld (.t a))
  | _, _ => none
def rcomps : List ResultVar → Option (List FK)
 | [] => some []
 | r :: l => match rcomp P r, rcomps l with
  | some k, some ks => some (k :: ks)
  | _, _ => none
end

def resVs (e : Env) (h : IH) : List FK → Option (List IV)
 | [] => some []
 | k :: ks => match feval e h k, resVs e h ks with
  | some v, some vs => some (v :: vs)
  | _, _ => none
def resV : List IV → IV
 | [v] => v
 | vs => .tuple vs
def retK (rs : List FK) (Q : IV → IH → Prop) : EPost := fun ex e h =>
 match ex with
 | .normal | .ret => match resVs e h rs with
  | some vs => Q (resV vs) h
  | none => False
 | _ => False
def env0 (args : List IV) : Env := fun t => args.getD t (.tuple [])

end Go.IW

namespace Go.IW
open Go.RowKit

theorem CX.congr {x : CX} {e e' : Env} (h : ∀ t ∈ x.tmps, e t = e' t) : x.ev e = x.ev e' := by
 cases x with
 | t n => exact h n (by simp [CX.tmps])
 | c v => rfl
 | fn f => rfl

theorem CX.congrs {l : List CX} {e e' : Env} (h : ∀ t ∈ l.flatMap CX.tmps, e t = e' t) : l.map (CX.ev e) = l.map (CX.ev e') :=
 List.map_congr_left fun x hx => CX.congr fun t ht => h t (List.mem_flatMap.2 ⟨x, hx, ht⟩)

theorem obound_congr {x : Option CX} {e e' : Env} (h : ∀ t ∈ ocxT x, e t = e' t) (len d : Nat) : obound len x e d = obound len x e' d := by
 cases x with
 | none => rfl
 | some x => simp only [obound, CX.congr (x := x) h]

theorem feval_congr {k : FK} {e e' : Env} {h : IH} (hk : ∀ t ∈ k.tmps, e t = e' t) : feval e h k = feval e' h k := by
 cases k with
 | build zero ps =>
  simp only [feval]
  congr 2
  exact List.map_congr_left fun p hp => by rw [CX.congr (x := p.2.2) fun t ht => hk t (List.mem_flatMap.2 ⟨p, hp, ht⟩)]
 | pick c a b =>
  simp only [FK.tmps, List.mem_append] at hk
  simp only [feval, CX.congr (x := c) fun t ht => hk t (.inl ht), CX.congr (x := a) fun t ht => hk t (.inr (.inl ht)), CX.congr (x := b) fun t ht => hk t (.inr (.inr ht))]
 | slcS x lo hi =>
  simp only [FK.tmps, List.mem_append] at hk
  simp only [feval, CX.congr (x := x) fun t ht => hk t (.inl ht), obound_congr (x := lo) fun t ht => hk t (.inr (.inl ht)), obound_congr (x := hi) fun t ht => hk t (.inr (.inr ht))]
 | slc sz x lo hi mx =>
  simp only [FK.tmps, List.mem_append] at hk
  cases mx with
  | none => simp only [feval, CX.congr (x := x) fun t ht => hk t (.inl ht), obound_congr (x := lo) fun t ht => hk t (.inr (.inl ht)), obound_congr (x := hi) fun t ht => hk t (.inr (.inr (.inl ht)))]
  | some m => simp only [feval, CX.congr (x := x) fun t ht => hk t (.inl ht), obound_congr (x := lo) fun t ht => hk t (.inr (.inl ht)), obound_congr (x := hi) fun t ht => hk t (.inr (.inr (.inl ht))), obound_congr (x := some m) fun t ht => hk t (.inr (.inr (.inr ht)))]
 | mkf f as0 cs =>
  simp only [FK.tmps, List.mem_append] at hk
  simp only [feval, CX.congrs (l := as0) fun t ht => hk t (.inl ht), CX.congrs (l := cs) fun t ht => hk t (.inr ht)]
 | u k xs => simp only [feval, CX.congrs (l := xs) hk]
 | mv x => simp only [feval, CX.congr (x := x) hk]
 | ld x => simp only [feval, CX.congr (x := x) hk]
 | ldA n x => simp only [feval, CX.congr (x := x) hk]
 | nck x => simp only [feval, CX.congr (x := x) hk]
 | un op x => simp only [feval, CX.congr (x := x) hk]
 | cvI k x => simp only [feval, CX.congr (x := x) hk]
 | cvS x => simp only [feval, CX.congr (x := x) hk]
 | b2s x => simp only [feval, CX.congr (x := x) hk]
 | ext i x => simp only [feval, CX.congr (x := x) hk]
 | fld o n g x => simp only [feval, CX.congr (x := x) hk]
 | fadr o x => simp only [feval, CX.congr (x := x) hk]
 | len x => simp only [feval, CX.congr (x := x) hk]
 | lenS x => simp only [feval, CX.congr (x := x) hk]
 | mkif t x => simp only [feval, CX.congr (x := x) hk]
 | bin op x y => simp only [FK.tmps, List.mem_append] at hk; simp only [feval, CX.congr (x := x) fun t ht => hk t (.inl ht), CX.congr (x := y) fun t ht => hk t (.inr ht)]
 | binB g x y => simp only [FK.tmps, List.mem_append] at hk; simp only [feval, CX.congr (x := x) fun t ht => hk t (.inl ht), CX.congr (x := y) fun t ht => hk t (.inr ht)]
 | eqn n g x y => simp only [FK.tmps, List.mem_append] at hk; simp only [feval, CX.congr (x := x) fun t ht => hk t (.inl ht), CX.congr (x := y) fun t ht => hk t (.inr ht)]
 | iadr n x y => simp only [FK.tmps, List.mem_append] at hk; simp only [feval, CX.congr (x := x) fun t ht => hk t (.inl ht), CX.congr (x := y) fun t ht => hk t (.inr ht)]
 | iadrA n m x y => simp only [FK.tmps, List.mem_append] at hk; simp only [feval, CX.congr (x := x) fun t ht => hk t (.inl ht), CX.congr (x := y) fun t ht => hk t (.inr ht)]
 | idxS x y => simp only [FK.tmps, List.mem_append] at hk; simp only [feval, CX.congr (x := x) fun t ht => hk t (.inl ht), CX.congr (x := y) fun t ht => hk t (.inr ht)]
 | idxA n m g x y => simp only [FK.tmps, List.mem_append] at hk; simp only [feval, CX.congr (x := x) fun t ht => hk t (.inl ht), CX.congr (x := y) fun t ht => hk t (.inr ht)]
 | mm g x y => simp only [FK.tmps, List.mem_append] at hk; simp only [feval, CX.congr (x := x) fun t ht => hk t (.inl ht), CX.congr (x := y) fun t ht => hk t (.inr ht)]

section
variable {P : Program}

theorem appK_mono {h : IH} {e sz b : Nat} {x : IV} {ys : List (List IV)} {K K' : IV → IH → Prop} (hK : ∀ v h', K v h' → K' v h') (hk : appK h e sz b x ys K) : appK h e sz b x ys K' := by
 unfold appK at *
 split at hk
 ·split at hk
  ·rename_i h0; rw [if_pos h0]; exact hK _ _ hk
  ·rename_i h0; rw [if_neg h0]; exact ⟨hk.1, hK _ _ hk.2⟩
 ·split at hk
  ·rename_i h0; rw [if_pos h0]; exact hK _ _ hk
  ·rename_i h0; rw [if_neg h0]; exact ⟨hk.1, hk.2.1, hK _ _ hk.2.2⟩
 ·split at hk
  ·rename_i h0; rw [if_pos h0]; exact hK _ _ hk
  ·rename_i h0
   rw [if_neg h0]
   split at hk
   ·obtain ⟨h1, h2, h3, h4, h5, h6⟩ := hk; exact ⟨h1, h2, h3, h4, h5, hK _ _ h6⟩
   ·exact hk
 ·exact hk

theorem copyK_mono {h : IH} {sz : Nat} {x : IV} {ys : List (List IV)} {K K' : IV → IH → Prop} (hK : ∀ v h', K v h' → K' v h') (hk : copyK h sz x ys K) : copyK h sz x ys K' := by
 unfold copyK at *
 split at hk
 ·exact hK _ _ hk
 ·exact hK _ _ hk
 ·split at hk
  ·rename_i h0; rw [if_pos h0]; exact hK _ _ hk
  ·rename_i h0
   rw [if_neg h0]
   split at hk
   ·exact ⟨hk.1, hk.2.1, hK _ _ hk.2.2⟩
   ·exact hk
 ·exact hk

theorem uact_mono {h : IH} {K K' : IV → IH → Prop} (hK : ∀ v h', K v h' → K' v h') {k : UX} {xs : List IV} (hk : uact P h K k xs) : uact P h K' k xs := by
 unfold uact at *
 split at hk
 ·exact ⟨hk.1, hK _ _ hk.2⟩
 ·split at hk
  ·obtain ⟨h1, h2, h3, h4, h5, h6⟩ := hk
   refine ⟨h1, h2, h3, h4, h5, ?_⟩
   split at h6
   ·exact hK _ _ h6
   ·exact h6
  ·exact hk
 ·split at hk
  ·exact ⟨hk.1, hK _ _ hk.2⟩
  ·exact hk
 ·split at hk
  ·exact copyK_mono (fun _ h' => hK _ h') hk
  ·exact hk
 ·exact hk

theorem act_mono {h : IH} {e : Env} {K K' : IV → IH → Prop} (hK : ∀ v h', K v h' → K' v h') {k : EK} (hk : act P h e K k) : act P h e K' k := by
 cases k with
 | zero el sz cs => exact hK _ _ hk
 | box el sz x => exact ⟨hk.1, hk.2.1, hK _ _ hk.2.2⟩
 | bslice el sz z len ps =>
  simp only [act] at *
  split at hk
  ·rename_i h0; rw [if_pos h0]; exact hK _ _ hk
  ·rename_i h0
   rw [if_neg h0]
   split at hk
   ·exact ⟨hk.1, hK _ _ hk.2⟩
   ·exact hk
 | st n a x =>
  simp only [act] at *
  split at hk
  ·split at hk
   ·split at hk
    ·obtain ⟨h1, h2, h3, h4⟩ := hk; exact ⟨h1, h2, h3, hK _ _ h4⟩
    ·exact hk
   ·exact hk
  ·exact hk
 | app el sz b x y =>
  simp only [act] at *
  split at hk
  ·exact appK_mono hK hk
  ·exact hk
 | appS el b x y =>
  simp only [act] at *
  split at hk
  ·exact appK_mono hK hk
  ·exact hk
 | copy sz d s =>
  simp only [act] at *
  split at hk
  ·exact copyK_mono hK hk
  ·exact hk
 | copyS d s =>
  simp only [act] at *
  split at hk
  ·exact copyK_mono hK hk
  ·exact hk
 | mks el sz b z len cap =>
  simp only [act] at *
  split at hk
  ·obtain ⟨h1, h2, h3, h4, h5⟩ := hk
   refine ⟨h1, h2, h3, h4, ?_⟩
   split at h5
   ·rename_i h0; rw [if_pos h0]; exact hK _ _ h5
   ·rename_i h0; rw [if_neg h0]; exact hK _ _ h5
  ·exact hk
 | s2b el x =>
  simp only [act] at *
  split at hk
  ·split at hk
   ·rename_i h0; rw [if_pos h0]; exact hK _ _ hk
   ·rename_i h0; rw [if_neg h0]; exact ⟨hk.1, hK _ _ hk.2⟩
  ·exact hk
 | ux k xs =>
  simp only [act] at *
  exact uact_mono hK hk
 | call f as0 => exact ICalls.mono hk hK
 | callv f as0 =>
  simp only [act] at *
  split at hk
  ·exact ICalls.mono hk hK
  ·exact hk

theorem act_congr {h : IH} {e e' : Env} {K : IV → IH → Prop} {k : EK} (hk : ∀ t ∈ k.tmps, e t = e' t) : act P h e K k = act P h e' K k := by
 cases k with
 | zero el sz cs => rfl
 | box el sz x => simp only [act, CX.congr (x := x) hk]
 | bslice el sz z len ps =>
  simp only [act]
  have : (ps.map fun p => (p.1, p.2.ev e)) = (ps.map fun p => (p.1, p.2.ev e')) :=
   List.map_congr_left fun p hp => by rw [CX.congr (x := p.2) fun t ht => hk t (List.mem_flatMap.2 ⟨p, hp, ht⟩)]
  rw [this]
 | st n x y => simp only [EK.tmps, List.mem_append] at hk; simp only [act, CX.congr (x := x) fun t ht => hk t (.inl ht), CX.congr (x := y) fun t ht => hk t (.inr ht)]
 | app el sz b x y => simp only [EK.tmps, List.mem_append] at hk; simp only [act, CX.congr (x := x) fun t ht => hk t (.inl ht), CX.congr (x := y) fun t ht => hk t (.inr ht)]
 | appS el b x y => simp only [EK.tmps, List.mem_append] at hk; simp only [act, CX.congr (x := x) fun t ht => hk t (.inl ht), CX.congr (x := y) fun t ht => hk t (.inr ht)]
 | copy sz x y => simp only [EK.tmps, List.mem_append] at hk; simp only [act, CX.congr (x := x) fun t ht => hk t (.inl ht), CX.congr (x := y) fun t ht => hk t (.inr ht)]
 | copyS x y => simp only [EK.tmps, List.mem_append] at hk; simp only [act, CX.congr (x := x) fun t ht => hk t (.inl ht), CX.congr (x := y) fun t ht => hk t (.inr ht)]
 | mks el sz b z x y => simp only [EK.tmps, List.mem_append] at hk; simp only [act, CX.congr (x := x) fun t ht => hk t (.inl ht), CX.congr (x := y) fun t ht => hk t (.inr ht)]
 | s2b el x => simp only [act, CX.congr (x := x) hk]
 | call f as0 => simp only [act, CX.congrs (l := as0) hk]
 | ux k xs => simp only [act, CX.congrs (l := xs) hk]
 | callv f as0 => simp only [EK.tmps, List.mem_append] at hk; simp only [act, CX.congr (x := f) fun t ht => hk t (.inl ht), CX.congrs (l := as0) fun t ht => hk t (.inr ht)]

theorem vcOp_move {o : COp} {K K' : Env → IH → Prop} {e e' : Env} {h : IH} (hl : ∀ t ∈ o.looks, e t = e' t) (hK : ∀ v h', K (put e o.dst v) h' → K' (put e' o.dst v) h') (hv : vcOp P o K e h) : vcOp P o K' e' h := by
 obtain ⟨dst, guard, op⟩ := o
 simp only [COp.looks, List.mem_append] at hl
 have hl1 : ∀ t ∈ (match op with | .f k => k.tmps | .x k => k.tmps), e t = e' t := fun t ht => hl t (.inl ht)
 cases guard with
 | none =>
  simp only [vcOp, vcK] at *
  cases op with
  | f k =>
   simp only at *
   rw [← feval_congr hl1]
   split at hv
   ·exact hK _ _ hv
   ·exact hv
  | x k =>
   simp only at *
   rw [← act_congr hl1]
   exact act_mono hK hv
 | some g =>
  obtain ⟨t, want⟩ := g
  have ht : e t = e' t := hl t (.inr (by simp))
  simp only [vcOp] at *
  rw [← ht]
  split at hv
  ·rename_i b hb
   refine ⟨fun hbw => ?_, fun hbw => hK _ _ (hv.2 hbw)⟩
   have hv := hv.1 hbw
   simp only [vcK] at *
   cases op with
   | f k =>
    simp only at *
    rw [← feval_congr hl1]
    split at hv
    ·exact hK _ _ hv
    ·exact hv
   | x k =>
    simp only at *
    rw [← act_congr hl1]
    exact act_mono hK hv
  ·exact hK _ _ hv
  ·exact hv.elim

theorem again_congr {o : COp} {e e' : Env} {h : IH} (hl : ∀ t ∈ o.looks, e t = e' t) (hd : ∀ d, o.dst = some d → e d = e' d) : again o e h = again o e' h := by
 obtain ⟨dst, guard, op⟩ := o
 simp only [COp.looks, List.mem_append] at hl
 cases op with
 | x k => rfl
 | f k =>
  have hk := feval_congr (k := k) (h := h) fun t ht => hl t (.inl ht)
  cases guard with
  | none =>
   cases dst with
   | none => simp only [again, hk]
   | some d => simp only [again, hk, hd d rfl]
  | some g =>
   obtain ⟨t, want⟩ := g
   have ht : e t = e' t := hl t (.inr (by simp))
   cases dst with
   | none => simp only [again, hk, ht]
   | some d => simp only [again, hk, ht, hd d rfl]

end
end Go.IW

namespace Go.IW
open Go.RowKit

theorem ahead_split {A R : List Nat} {i j : Nat} (hn : (A ++ i :: R).Nodup) : (ahead (A ++ i :: R) j i = true → j ∈ A) ∧ (ahead (A ++ i :: R) i j = true → j ∈ R) ∧ (j ∈ R → ahead (A ++ i :: R) i j = true) := by
 induction A with
 | nil =>
  simp only [na0, List.nodup_cons] at hn ⊢
  refine ⟨fun h => ?_, fun h => ?_, fun h => ?_⟩
  ·unfold ahead at h
   split at h
   ·rename_i hij; simp at hij h; exact absurd h hn.1
   ·simp at h
  ·unfold ahead at h; simpa using h
  ·unfold ahead; simpa using h
 | cons x A ih =>
  simp only [ca0, List.nodup_cons] at hn ⊢
  obtain ⟨ih1, ih2, ih3⟩ := ih hn.2
  have hxi : x ≠ i := fun e => hn.1 (by rw [e]; simp)
  refine ⟨fun h => ?_, fun h => ?_, fun h => ?_⟩
  ·unfold ahead at h
   split at h
   ·rename_i hxj; simp at hxj; rw [hxj]; exact List.mem_cons_self
   ·split at h
    ·cases h
    ·exact List.mem_cons_of_mem _ (ih1 h)
  ·unfold ahead at h
   rw [if_neg (by simpa using hxi)] at h
   split at h
   ·cases h
   ·exact ih2 h
  ·unfold ahead
   rw [if_neg (by simpa using hxi)]
   have hxj : x ≠ j := fun e => hn.1 (by rw [e]; simp [h])
   rw [if_neg (by simpa using hxj)]
   exact ih3 h

theorem put_same {e : Env} {d : Nat} {v : IV} : put e (some d) v d = v := upd_eq e d v
theorem put_other {e : Env} {o : Option Nat} {t : Nat} {v : IV} (h : o ≠ some t) : put e o v t = e t := by
 cases o with
 | none => rfl
 | some d => exact upd_ne e v (fun ht => h (by rw [ht]))

section
variable {P : Program}

theorem again_vcOp {c : COp} {k : FK} (hk : c.op = .f k) {e : Env} {h : IH} (hg : again c e h) : vcOp P c (fun e' h' => h' = h ∧ ∀ d, c.dst = some d → e' d = e d) e h := by
 obtain ⟨dst, guard, op⟩ := c
 simp only at hk
 subst hk
 cases guard with
 | none =>
  simp only [again] at hg
  simp only [vcOp, vcK]
  cases dst with
  | none =>
   simp only at hg
   obtain ⟨v, hv⟩ := Option.isSome_iff_exists.1 hg
   rw [hv]; exact ⟨trivial, fun d hd => by cases hd⟩
  | some d =>
   simp only at hg
   rw [hg]; exact ⟨trivial, fun d' hd => by cases hd; exact put_same⟩
 | some g =>
  obtain ⟨t, want⟩ := g
  simp only [again] at hg
  simp only [vcOp]
  split at hg
  ·rename_i b hb
   split at hg
   ·rename_i hbw
    refine ⟨fun _ => ?_, fun h0 => by rw [hbw] at h0; cases want <;> cases h0⟩
    simp only [vcK]
    cases dst with
    | none =>
     simp only at hg
     obtain ⟨v, hv⟩ := Option.isSome_iff_exists.1 hg
     rw [hv]; exact ⟨trivial, fun d hd => by cases hd⟩
    | some d =>
     simp only at hg
     rw [hg]; exact ⟨trivial, fun d' hd => by cases hd; exact put_same⟩
   ·rename_i hbw
    refine ⟨fun h => absurd h hbw, fun _ => ?_⟩
    cases dst with
    | none => exact ⟨trivial, fun d hd => by cases hd⟩
    | some d => exact ⟨trivial, fun d' hd => by cases hd; rw [put_same]; exact hg.symm⟩
  ·rename_i hb
   cases dst with
   | none => exact ⟨trivial, fun d hd => by cases hd⟩
   | some d => exact ⟨trivial, fun d' hd => by cases hd; rw [put_same]; exact hg.symm⟩
  ·exact hg.elim

theorem float_run {c : COp} {k : FK} (hk : c.op = .f k) (hs : ∀ d, c.dst = some d → d ∉ c.looks) {K : Env → IH → Prop} {e : Env} {h : IH} (hv : vcOp P c K e h) :
  ∃ e', K e' h ∧ again c e' h ∧ ∀ t, c.dst ≠ some t → e' t = e t := by
 obtain ⟨dst, guard, op⟩ := c
 simp only at hk
 subst hk
 have hlook : ∀ v, ∀ t ∈ (COp.mk dst guard (.f k)).looks, put e dst v t = e t := by
  intro v t ht
  refine put_other (fun hd => ?_)
  exact hs t hd ht
 have hfe : ∀ v, feval (put e dst v) h k = feval e h k := fun v => feval_congr fun t ht => hlook v t (by simp [COp.looks, ht])
 cases guard with
 | none =>
  simp only [vcOp, vcK] at hv
  split at hv
  ·rename_i v hfv
   refine ⟨put e dst v, hv, ?_, fun t ht => put_other ht⟩
   simp only [again]
   cases dst with
   | none => simp only [hfe v, hfv]; rfl
   | some d => simp only [hfe v, hfv, put_same]
  ·exact hv.elim
 | some g =>
  obtain ⟨t, want⟩ := g
  simp only [vcOp] at hv
  split at hv
  ·rename_i b hb
   have hte : ∀ v, put e dst v t = .bool b := fun v => by rw [hlook v t (by simp [COp.looks]), hb]
   by_cases hbw : b = want
   ·have hv := hv.1 hbw
    simp only [vcK] at hv
    split at hv
    ·rename_i v hfv
     refine ⟨_, hv, ?_, fun t ht => put_other ht⟩
     simp only [again, hte]
     rw [if_pos hbw]
     cases dst with
     | none => simp only [hfe, hfv]; rfl
     | some d => simp only [hfe, hfv, put_same]
    ·exact hv.elim
   ·refine ⟨_, hv.2 (by cases b <;> cases want <;> simp_all), ?_, fun t ht => put_other ht⟩
    simp only [again, hte]
    rw [if_neg hbw]
    cases dst with
    | none => trivial
    | some d => simp only [put_same]
  ·rename_i hb
   refine ⟨_, hv, ?_, fun t ht => put_other ht⟩
   have hte : ∀ v, put e dst v t = .tuple [] := fun v => by rw [hlook v t (by simp [COp.looks]), hb]
   simp only [again, hte]
   cases dst with
   | none => trivial
   | some d => simp only [put_same]
  ·exact hv.elim

theorem againAll_get {cs : List COp} {anc : List (List Nat)} {i : Nat} {e : Env} {h : IH} : ∀ {l : List Nat}, againAll cs anc i e h l → ∀ j ∈ l, j ∈ anc.getD i [] ∨ again (cs.getD j default) e h
 | [], _, j, hj => by cases hj
 | x :: l, ha, j, hj => by
  obtain ⟨h1, h2⟩ := ha
  rcases List.mem_cons.1 hj with rfl | hj
  ·rcases h1 with h1 | h1
   ·exact .inl (by simpa using h1)
   ·exact .inr h1
  ·exact againAll_get h2 j hj

variable (ops : Array Oper) (cs : List COp) (bar : List Bool) (anc : List (List Nat)) (ord : List Nat) (K : Env → IH → Prop)

structure DInv (P : Program) (L : Nat → Prop) (done todo : List Nat) (ex ec : Env) (h : IH) : Prop where
 split : ord = done.reverse ++ todo
 sub : ∀ i, i < ops.size → L i → i ∈ done
 down : ∀ i, i < ops.size → L i → ∀ j ∈ anc.getD i [], L j
 barl : ∀ i ∈ done, bar.getD i true = true → L i
 env : ∀ t, (∀ i ∈ done, (cs.getD i default).dst = some t → L i) → ex t = ec t
 pend : ∀ i ∈ done, ¬ L i → again (cs.getD i default) ec h
 cond : vcD P cs bar anc done todo K ec h

variable {ops cs bar anc ord K}

theorem advance (hok : DOk ops cs bar anc ord) {L : Nat → Prop} : ∀ (todo done : List Nat) (ex ec : Env) (h : IH), DInv ops cs bar anc ord K P L done todo ex ec h →
  ∃ done' todo' ec', DInv ops cs bar anc ord K P L done' todo' ex ec' h ∧ (todo' = [] ∨ ∃ b r, todo' = b :: r ∧ bar.getD b true = true)
 | [], done, ex, ec, h, hi => ⟨done, [], ec, hi, .inl rfl⟩
 | i :: r, done, ex, ec, h, hi => by
  by_cases hb : bar.getD i true = true
  ·exact ⟨done, i :: r, ec, hi, .inr ⟨i, r, rfl, hb⟩⟩
  ·have hbf : bar.getD i true = false := by simpa using hb
   have hmem : i ∈ ord := by rw [hi.split]; simp
   have hin : i < ops.size := (hok.perm i).1 hmem
   have hnd : (done.reverse ++ i :: r).Nodup := by rw [← hi.split]; exact hok.nodup
   have hid : i ∉ done := fun hd => by
    have := (List.nodup_append.1 hnd).2.2 i (by simpa using hd) i (List.mem_cons_self)
    exact this rfl
   have hnl : ¬ L i := fun hl => hid (hi.sub i hin hl)
   obtain ⟨k, hk⟩ := hok.effs i hin hbf
   have hc := hi.cond
   simp only [vcD, hbf, Bool.false_eq_true, if_false] at hc
   obtain ⟨ec', g1, g2, g3⟩ := float_run hk (hok.self i hin hbf) hc
   have hnew : DInv ops cs bar anc ord K P L (i :: done) r ex ec' h := by
    refine ⟨by rw [hi.split]; simp, fun j hj hl => List.mem_cons_of_mem _ (hi.sub j hj hl), hi.down, ?_, ?_, ?_, g1⟩
    ·intro j hj hbj
     rcases List.mem_cons.1 hj with rfl | hj
     ·rw [hbf] at hbj; cases hbj
     ·exact hi.barl j hj hbj
    ·intro t ht
     have hdt : (cs.getD i default).dst ≠ some t := fun hd => hnl (ht i (List.mem_cons_self) hd)
     rw [g3 t hdt]
     exact hi.env t fun j hj hd => ht j (List.mem_cons_of_mem _ hj) hd
    ·intro j hj hnlj
     rcases List.mem_cons.1 hj with rfl | hj
     ·exact g2
     ·have hji : j ≠ i := fun e => hid (e ▸ hj)
      have hjn : j < ops.size := (hok.perm j).1 (by rw [hi.split]; simp [hj])
      have := hi.pend j hj hnlj
      refine (again_congr ?_ ?_).mp this
      ·intro t ht
       symm
       refine g3 t (fun hd => ?_)
       rcases hok.data j hjn i hin hji t hd ht with h1 | ⟨_, h2⟩
       ·have := hok.order j hjn i h1
        rw [hi.split] at this
        have := (ahead_split hnd).2.1 this
        have h3 := (List.nodup_append.1 hnd).2.2 j (by simpa using hj) j (List.mem_cons_of_mem _ this)
        exact h3 rfl
       ·rw [hbf] at h2; cases h2
      ·intro d hd
       symm
       exact g3 d (hok.dsts i hin j hjn (fun e => hji e.symm) d hd)
   exact advance hok r (i :: done) ex ec' h hnew

variable {ρ0 : List RLoc} {B N : Nat} {w0 : World}

theorem ready_iff {listed : Array Bool} {i : Nat} : i ∈ Region.ready .any ops listed ↔ i < ops.size ∧ listed.getD i true = false ∧ ∃ o, ops[i]? = some o ∧ ∀ k ∈ edgesOf o, listed.getD k false = true := by
 unfold Region.ready
 rw [List.mem_filter, List.mem_range]
 constructor
 ·rintro ⟨h1, h2⟩
  simp only [Bool.and_eq_true, Bool.not_eq_true'] at h2
  refine ⟨h1, h2.1, ops[i], Array.getElem?_eq_getElem h1, fun k hk => ?_⟩
  have h3 := h2.2
  rw [Array.getElem?_eq_getElem h1] at h3
  simp only [Option.map_some, Option.getD_some] at h3
  rw [Array.all_eq_true'] at h3
  unfold edgesOf at hk
  rw [List.mem_map] at hk
  obtain ⟨e, he, rfl⟩ := hk
  rw [List.mem_filter] at he
  have := h3 e (by simpa using he.1)
  rw [he.2] at this
  simpa using this
 ·rintro ⟨h1, h2, o, ho, h3⟩
  refine ⟨h1, ?_⟩
  simp only [Bool.and_eq_true, Bool.not_eq_true']
  refine ⟨h2, ?_⟩
  rw [ho]
  simp only [Option.map_some, Option.getD_some]
  rw [Array.all_eq_true']
  intro e he
  cases hb : Region.binds .any e with
  | false => rfl
  | true =>
   have := h3 e.on (by unfold edgesOf; exact List.mem_map.2 ⟨e, List.mem_filter.2 ⟨by simpa using he, hb⟩, rfl⟩)
   simp [this]

theorem filter_all {α : Type} (p : α → Bool) (l : List α) (h : (l.filter p).length = l.length) : ∀ x ∈ l, p x = true := by
 rw [List.length_filter_eq_length_iff] at h
 exact h

theorem filter_one {l : List Nat} (hn : l.Nodup) {p q : Nat → Bool} {i : Nat} (hi : i ∈ l) (hp : p i = false) (hq : q i = true) (he : ∀ j, j ≠ i → q j = p j) : (l.filter q).length = (l.filter p).length + 1 := by
 induction l with
 | nil => cases hi
 | cons x l ih =>
  rw [List.nodup_cons] at hn
  rcases List.mem_cons.1 hi with rfl | hi
  ·have hsame : l.filter q = l.filter p := List.filter_congr fun j hj => he j (fun e => hn.1 (e ▸ hj))
   rw [List.filter_cons_of_pos hq, List.filter_cons_of_neg (by simp [hp]), hsame]; simp
  ·have hx : x ≠ i := fun e => hn.1 (e ▸ hi)
   have ih := ih hn.2 hi
   cases hpx : p x with
   | true => rw [List.filter_cons_of_pos (by rw [he x hx]; exact hpx), List.filter_cons_of_pos hpx]; simp [ih]
   | false => rw [List.filter_cons_of_neg (by rw [he x hx]; simp [hpx]), List.filter_cons_of_neg (by simp [hpx])]; exact ih

theorem draw_any [GOk P B w0] (hcs : ocomps P N ops ops.toList = some cs) (hok : DOk ops cs bar anc ord) {Q : Exit → Act → World → Prop} (hQ : ∀ a w, St ρ0 N B w0 K a w → Q .normal a w) :
  ∀ (fuel : Nat) (listed : Array Bool) (a : Act) (w : World), listed.size = ops.size → (ord.filter fun i => listed.getD i true).length + fuel = ops.size →
  (∃ ρ done todo ex ec h, ρ0 <+: ρ ∧ WRel ρ B w h ∧ ARel ρ N a ex ∧ Below B w0 w ∧ DInv ops cs bar anc ord K P (fun i => listed.getD i true = true) done todo ex ec h) →
  wpAny P .any ops Q fuel listed a w := by
 obtain ⟨hlen, hget⟩ := ocomps_get hcs
 have hl : cs.length = ops.size := by rw [← hlen]; simp
 have hol : ord.length = ops.size := by
  have h1 : ord.Perm (List.range ops.size) := by
   rw [List.perm_ext_iff_of_nodup hok.nodup List.nodup_range]
   intro i; rw [hok.perm, List.mem_range]
  rw [h1.length_eq, List.length_range]
 -- all have come up
 have fin : ∀ (listed : Array Bool) (a : Act) (w : World), (∀ i, i < ops.size → listed.getD i true = true) →
   (∃ ρ done todo ex ec h, ρ0 <+: ρ ∧ WRel ρ B w h ∧ ARel ρ N a ex ∧ Below B w0 w ∧ DInv ops cs bar anc ord K P (fun i => listed.getD i true = true) done todo ex ec h) → Q .normal a w := by
  intro listed a w hall hst
  obtain ⟨ρ, done, todo, ex, ec, h, g1, g2, g3, g4, g5⟩ := hst
  have htodo : todo = [] := by
   cases todo with
   | nil => rfl
   | cons b r =>
    have hb : b ∈ ord := by rw [g5.split]; simp
    have hbn := (hok.perm b).1 hb
    have hbd := g5.sub b hbn (hall b hbn)
    have hnd := hok.nodup
    rw [g5.split] at hnd
    exact absurd rfl ((List.nodup_append.1 hnd).2.2 b (by simpa using hbd) b (List.mem_cons_self))
  subst htodo
  have hee : ex = ec := by
   funext t
   refine g5.env t fun i hi _ => ?_
   exact hall i ((hok.perm i).1 (by rw [g5.split]; simp [hi]))
  have hc := g5.cond
  simp only [vcD] at hc
  rw [← hee] at hc
  exact hQ a w ⟨ρ, ex, h, g1, g2, g3, g4, hc⟩
 have none_left : ∀ listed : Array Bool, listed.size = ops.size → Region.ready .any ops listed = [] → ∀ i, i < ops.size → listed.getD i true = true := by
  intro listed hsz hr i
  induction i using Nat.strongRecOn with
  | _ i ih =>
   intro hi
   cases hx : listed.getD i true with
   | true => rfl
   | false =>
    have : i ∈ Region.ready .any ops listed := by
     rw [ready_iff]
     refine ⟨hi, hx, ops[i], Array.getElem?_eq_getElem hi, fun k hk => ?_⟩
     have hki := (hok.edges i _ (Array.getElem?_eq_getElem hi) k hk).1
     have h1 := ih k hki (by omega)
     have hks : k < listed.size := by omega
     simp [Array.getD, hks] at h1 ⊢; exact h1
    rw [hr] at this; cases this
 intro fuel
 induction fuel with
 | zero =>
  intro listed a w hsz hcount hst
  have hall : ∀ i, i < ops.size → listed.getD i true = true := fun i hi => filter_all (fun i => listed.getD i true) ord (by omega) i ((hok.perm i).2 hi)
  refine ⟨?_, fin listed a w hall hst⟩
  rw [List.eq_nil_iff_forall_not_mem]
  intro i hi
  rw [ready_iff] at hi
  rw [hall i hi.1] at hi
  cases hi.2.1
 | succ fuel ih =>
  intro listed a w hsz hcount hst
  refine ⟨fun hr => fin listed a w (none_left listed hsz hr) hst, fun i hi => ?_⟩
  rw [ready_iff] at hi
  obtain ⟨hin, hil, o, ho, hedge⟩ := hi
  obtain ⟨ρ, done0, todo0, ex, ec0, h, g1, g2, g3, g4, g5⟩ := hst
  obtain ⟨done, todo, ec, inv, hhead⟩ := advance hok todo0 done0 ex ec0 h g5
  have hio : i ∈ ord := (hok.perm i).2 hin
  have hci : cs[i]? = some (cs.getD i default) := by
   rw [List.getD_eq_getElem?_getD, List.getElem?_eq_getElem (by omega)]; rfl
  have hcomp : ocomp P N ops o = some (cs.getD i default) := hget i o _ (by rw [Array.getElem?_toList]; exact ho) hci
  -- what i waits for has come up
  have hanc : ∀ j ∈ anc.getD i [], listed.getD j true = true := by
   intro j hj
   obtain ⟨hji, k, hk, hjk⟩ := hok.ancs i o ho j hj
   have hke := hok.edges i o ho k hk
   have hkl : listed.getD k true = true := by
    have := hedge k hk
    have hks : k < listed.size := by omega
    simp [Array.getD, hks] at this ⊢; exact this
   rcases hjk with rfl | hjk
   ·exact hkl
   ·exact inv.down k (by omega) hkl j hjk
  have hset : ∀ j, (listed.setIfInBounds i true).getD j true = if j = i then true else listed.getD j true := by
   intro j
   by_cases hji : j = i
   ·subst hji; simp [Array.getD, hsz, hin]
   ·simp only [if_neg hji, Array.getD_eq_getD_getElem?]
    rw [Array.getElem?_setIfInBounds_ne (fun e => hji e.symm)]
  have hset_i : (listed.setIfInBounds i true).getD i true = true := by rw [hset, if_pos rfl]
  have hset_of : ∀ j, listed.getD j true = true → (listed.setIfInBounds i true).getD j true = true := by
   intro j hj; rw [hset]; split <;> first | rfl | exact hj
  have hset_back : ∀ j, j ≠ i → (listed.setIfInBounds i true).getD j true = true → listed.getD j true = true := by
   intro j hj h; rwa [hset, if_neg hj] at h
  have hcount' : (ord.filter fun j => (listed.setIfInBounds i true).getD j true).length + fuel = ops.size := by
   have := filter_one (p := fun j => listed.getD j true) (q := fun j => (listed.setIfInBounds i true).getD j true) hok.nodup hio hil hset_i (fun j hj => by simp only [hset, if_neg hj])
   omega
  have hdown' : ∀ j, j < ops.size → (listed.setIfInBounds i true).getD j true = true → ∀ m ∈ anc.getD j [], (listed.setIfInBounds i true).getD m true = true := by
   intro j hj hjl m hm
   by_cases hji : j = i
   ·subst hji; exact hset_of m (hanc m hm)
   ·exact hset_of m (inv.down j hj (hset_back j hji hjl) m hm)
  have hnd := hok.nodup
  by_cases hid : i ∈ done
  ·-- it has been told
   have hnl : ¬ (listed.getD i true = true) := by rw [hil]; simp
   have hbar : bar.getD i true = false := by
    cases hb : bar.getD i true with
    | false => rfl
    | true => exact absurd (inv.barl i hid hb) hnl
   obtain ⟨k, hk⟩ := hok.effs i hin hbar
   have hag := again_vcOp (P := P) hk (inv.pend i hid hnl)
   -- the places that it looks at
   have hlooks : ∀ t ∈ (cs.getD i default).looks, ec t = ex t := by
    intro t ht
    symm
    refine inv.env t fun j hj hd => ?_
    have hjn : j < ops.size := (hok.perm j).1 (by rw [inv.split]; simp [hj])
    by_cases hji : j = i
    ·subst hji; exact absurd ht (hok.self j hjn hbar t hd)
    ·rcases hok.data i hin j hjn (fun e => hji e.symm) t hd ht with h1 | ⟨h1, h2⟩
     ·exact hanc j h1
     ·exact absurd (inv.down j hjn (inv.barl j hj h2) i h1) hnl
   have hv := vcOp_move (P := P) (K' := fun e' h' => h' = h ∧ (∀ d, (cs.getD i default).dst = some d → e' d = ec d) ∧ (∀ t, (cs.getD i default).dst ≠ some t → e' t = ex t)) (e' := ex) hlooks
    (fun v h' hk' => ⟨hk'.1, fun d hd => by have := hk'.2 d hd; rw [hd] at this ⊢; rw [put_same] at this ⊢; exact this, fun t ht => put_other ht⟩) hag
   refine op_step g2 g3 g1 g4 ho hcomp hv (fun a' w' hs' => ih _ a' w' (by simp [hsz]) hcount' ?_)
   obtain ⟨ρ', e', h', k1, k2, k3, k4, rfl, k5, k6⟩ := hs'
   refine ⟨ρ', done, todo, e', ec, h', k1, k2, k3, k4, inv.split, ?_, hdown', fun j hj hb => hset_of j (inv.barl j hj hb), ?_, ?_, inv.cond⟩
   ·intro j hj hjl
    by_cases hji : j = i
    ·rw [hji]; exact hid
    ·exact inv.sub j hj (hset_back j hji hjl)
   ·intro t ht
    by_cases hdt : (cs.getD i default).dst = some t
    ·exact k5 t hdt
    ·rw [k6 t hdt]
     refine inv.env t fun j hj hd => hset_back j (fun e => hdt (e ▸ hd)) (ht j hj hd)
   ·intro j hj hjl
    exact inv.pend j hj (fun hl => hjl (hset_of j hl))
  ·-- it is the barrier
   have hit : i ∈ todo := by
    rw [inv.split] at hio
    rcases List.mem_append.1 hio with h1 | h1
    ·exact absurd (by simpa using h1) hid
    ·exact h1
   have hhd : ∃ r, todo = i :: r ∧ bar.getD i true = true := by
    rcases hhead with h0 | ⟨b, r, h0, hb⟩
    ·rw [h0] at hit; cases hit
    ·rw [h0] at hit
     rcases List.mem_cons.1 hit with rfl | hir
     ·exact ⟨r, h0, hb⟩
     ·-- the barrier ahead of it has come up: no
      have hbo : b ∈ ord := by rw [inv.split, h0]; simp
      have hbn := (hok.perm b).1 hbo
      have hnd' : (done.reverse ++ b :: r).Nodup := by rw [← h0, ← inv.split]; exact hnd
      have hah : ahead ord b i = true := by rw [inv.split, h0]; exact (ahead_split hnd').2.2 hir
      have hbl := hanc b (hok.bars b hbn i hin hb hah)
      have hbd := inv.sub b hbn hbl
      exact absurd rfl ((List.nodup_append.1 hnd').2.2 b (by simpa using hbd) b (List.mem_cons_self))
   obtain ⟨r, htodo, hbi⟩ := hhd
   subst htodo
   have hnd' : (done.reverse ++ i :: r).Nodup := by rw [← inv.split]; exact hnd
   have hc := inv.cond
   simp only [vcD, hbi, if_true] at hc
   have hlooks : ∀ t ∈ (cs.getD i default).looks, ec t = ex t := by
    intro t ht
    symm
    refine inv.env t fun j hj hd => ?_
    have hjn : j < ops.size := (hok.perm j).1 (by rw [inv.split]; simp [hj])
    have hji : i ≠ j := fun e => hid (e ▸ hj)
    rcases hok.data i hin j hjn hji t hd ht with h1 | ⟨h1, _⟩
    ·exact hanc j h1
    ·have hah := hok.order j hjn i h1
     rw [inv.split] at hah
     have := (ahead_split hnd').2.1 hah
     exact absurd rfl ((List.nodup_append.1 hnd').2.2 j (by simpa using hj) j (List.mem_cons_of_mem _ this))
   have hv := vcOp_move (P := P) (K' := fun e' h' => ∃ v, e' = put ex (cs.getD i default).dst v ∧ againAll cs anc i (put ec (cs.getD i default).dst v) h' done ∧ vcD P cs bar anc (i :: done) r K (put ec (cs.getD i default).dst v) h') (e' := ex) hlooks
    (fun v h' hk' => ⟨v, rfl, hk'.1, hk'.2⟩) hc
   refine op_step g2 g3 g1 g4 ho hcomp hv (fun a' w' hs' => ih _ a' w' (by simp [hsz]) hcount' ?_)
   obtain ⟨ρ', e', h', k1, k2, k3, k4, v, rfl, k5, k6⟩ := hs'
   refine ⟨ρ', i :: done, r, _, _, h', k1, k2, k3, k4, by rw [inv.split]; simp, ?_, hdown', ?_, ?_, ?_, k6⟩
   ·intro j hj hjl
    by_cases hji : j = i
    ·rw [hji]; exact List.mem_cons_self
    ·exact List.mem_cons_of_mem _ (inv.sub j hj (hset_back j hji hjl))
   ·intro j hj hb
    rcases List.mem_cons.1 hj with rfl | hj
    ·exact hset_i
    ·exact hset_of j (inv.barl j hj hb)
   ·intro t ht
    by_cases hdt : (cs.getD i default).dst = some t
    ·rw [hdt, put_same, put_same]
    ·rw [put_other hdt, put_other hdt]
     refine inv.env t fun j hj hd => hset_back j (fun e => hdt (e ▸ hd)) (ht j (List.mem_cons_of_mem _ hj) hd)
   ·intro j hj hjl
    rcases List.mem_cons.1 hj with rfl | hj
    ·exact absurd hset_i hjl
    ·rcases againAll_get k5 j hj with h1 | h1
     ·exact absurd (hset_of j (hanc j h1)) hjl
     ·exact h1



variable (ops cs bar anc K) in
structure TInv (P : Program) (L : Nat → Prop) (f : Nat) (done : List Nat) (ex ec : Env) (h : IH) : Prop where
 len : done.length + f = ops.size
 nodup : done.Nodup
 mem : ∀ i ∈ done, i < ops.size
 clos : ∀ i ∈ done, ∀ j ∈ anc.getD i [], j ∈ done
 sub : ∀ i, i < ops.size → L i → i ∈ done
 down : ∀ i, i < ops.size → L i → ∀ j ∈ anc.getD i [], L j
 barl : ∀ i ∈ done, bar.getD i true = true → L i
 env : ∀ t, (∀ i ∈ done, (cs.getD i default).dst = some t → L i) → ex t = ec t
 pend : ∀ i ∈ done, ¬ L i → again (cs.getD i default) ec h
 cond : vcT P cs anc done (mkT bar anc ops.size f done) K ec h

theorem mem_ready {n : Nat} {done : List Nat} {i : Nat} : i ∈ readyL anc n done ↔ i < n ∧ i ∉ done ∧ ∀ j ∈ anc.getD i [], j ∈ done := by
 unfold readyL
 rw [List.mem_filter, List.mem_range]
 simp only [Bool.and_eq_true, Bool.not_eq_true', List.all_eq_true]
 constructor
 ·rintro ⟨h1, h2, h3⟩
  exact ⟨h1, by simpa using h2, fun j hj => by simpa using h3 j hj⟩
 ·rintro ⟨h1, h2, h3⟩
  exact ⟨h1, by simpa using h2, fun j hj => by simpa using h3 j hj⟩

theorem kids_get {g : Nat → DT} {done : List Nat} {e : Env} {h : IH} {i : Nat} : ∀ {l : List Nat}, i ∈ l → vcT P cs anc done (kidsT g l) K e h →
  vcOp P (cs.getD i default) (fun e' h' => againAll cs anc i e' h' done ∧ vcT P cs anc (i :: done) (g i) K e' h') e h
 | [], hi, _ => by cases hi
 | x :: l, hi, hv => by
  simp only [kidsT, vcT] at hv
  rcases List.mem_cons.1 hi with rfl | hi
  ·exact hv.1
  ·exact kids_get hi hv.2

theorem advanceT (hok : TOk ops cs bar anc) {L : Nat → Prop} : ∀ (f : Nat) (done : List Nat) (ex ec : Env) (h : IH), TInv ops cs bar anc K P L f done ex ec h →
  ∃ f' done' ec', TInv ops cs bar anc K P L f' done' ex ec' h ∧ (f' = 0 ∨ ∃ g, f' = g + 1 ∧ (readyL anc ops.size done').find? (fun i => !bar.getD i true) = none)
 | 0, done, ex, ec, h, hi => ⟨0, done, ec, hi, .inl rfl⟩
 | f + 1, done, ex, ec, h, hi => by
  cases hfind : (readyL anc ops.size done).find? (fun i => !bar.getD i true) with
  | none => exact ⟨f + 1, done, ec, hi, .inr ⟨f, rfl, hfind⟩⟩
  | some i =>
   have hp := List.find?_some hfind
   have hbf : bar.getD i true = false := by simpa using hp
   have hrd := mem_ready.1 (List.mem_of_find?_eq_some hfind)
   obtain ⟨hin, hid, hanc⟩ := hrd
   have hnl : ¬ L i := fun hl => hid (hi.sub i hin hl)
   obtain ⟨k, hk⟩ := hok.effs i hin hbf
   have hc := hi.cond
   simp only [mkT, hfind, vcT] at hc
   obtain ⟨ec', g1, g2, g3⟩ := float_run hk (hok.self i hin hbf) hc
   have hnew : TInv ops cs bar anc K P L f (i :: done) ex ec' h := by
    refine ⟨by have := hi.len; simp; omega, List.nodup_cons.2 ⟨hid, hi.nodup⟩, ?_, ?_, fun j hj hl => List.mem_cons_of_mem _ (hi.sub j hj hl), hi.down, ?_, ?_, ?_, g1⟩
    ·intro j hj
     rcases List.mem_cons.1 hj with rfl | hj
     ·exact hin
     ·exact hi.mem j hj
    ·intro j hj m hm
     rcases List.mem_cons.1 hj with rfl | hj
     ·exact List.mem_cons_of_mem _ (hanc m hm)
     ·exact List.mem_cons_of_mem _ (hi.clos j hj m hm)
    ·intro j hj hbj
     rcases List.mem_cons.1 hj with rfl | hj
     ·rw [hbf] at hbj; cases hbj
     ·exact hi.barl j hj hbj
    ·intro t ht
     have hdt : (cs.getD i default).dst ≠ some t := fun hd => hnl (ht i (List.mem_cons_self) hd)
     rw [g3 t hdt]
     exact hi.env t fun j hj hd => ht j (List.mem_cons_of_mem _ hj) hd
    ·intro j hj hnlj
     rcases List.mem_cons.1 hj with rfl | hj
     ·exact g2
     ·have hji : j ≠ i := fun e => hid (e ▸ hj)
      have hjn : j < ops.size := hi.mem j hj
      have := hi.pend j hj hnlj
      refine (again_congr ?_ ?_).mp this
      ·intro t ht
       symm
       refine g3 t (fun hd => ?_)
       rcases hok.data j hjn i hin hji t hd ht with h1 | ⟨_, h2⟩
       ·exact hid (hi.clos j hj i h1)
       ·rw [hbf] at h2; cases h2
      ·intro d hd
       symm
       exact g3 d (hok.dsts i hin j hjn (fun e => hji e.symm) d hd)
   exact advanceT hok f (i :: done) ex ec' h hnew

theorem full_done {n : Nat} {done : List Nat} (hn : done.Nodup) (hm : ∀ i ∈ done, i < n) (ha : ∀ i, i < n → i ∈ done) : done.length = n := by
 have h1 : done.Perm (List.range n) := by
  rw [List.perm_ext_iff_of_nodup hn List.nodup_range]
  intro i
  rw [List.mem_range]
  exact ⟨hm i, ha i⟩
 rw [h1.length_eq, List.length_range]
theorem nodup_le : ∀ (l m : List Nat), l.Nodup → (∀ x ∈ l, x ∈ m) → l.length ≤ m.length
 | [], m, _, _ => Nat.zero_le _
 | x :: l, m, hn, hm => by
  rw [List.nodup_cons] at hn
  have hx := hm x (List.mem_cons_self)
  have h1 := nodup_le l (m.erase x) hn.2 (fun y hy => (List.mem_erase_of_ne (fun (e : y = x) => hn.1 (by rw [← e]; exact hy))).2 (hm y (List.mem_cons_of_mem _ hy)))
  rw [List.length_erase_of_mem hx] at h1
  have h2 := List.length_pos_of_mem hx
  rw [lc0]
  omega
theorem not_full {n : Nat} {done : List Nat} (hn : done.Nodup) (hm : ∀ i ∈ done, i < n) {i : Nat} (hi : i < n) (hd : i ∉ done) : done.length < n := by
 have h1 := nodup_le (i :: done) (List.range n) (List.nodup_cons.2 ⟨hd, hn⟩) (fun j hj => by
  rw [List.mem_range]
  rcases List.mem_cons.1 hj with rfl | hj
  ·exact hi
  ·exact hm j hj)
 rw [List.length_range, lc0] at h1
 omega

theorem draw_anyT [GOk P B w0] (hcs : ocomps P N ops ops.toList = some cs) (hok : TOk ops cs bar anc) {Q : Exit → Act → World → Prop} (hQ : ∀ a w, St ρ0 N B w0 K a w → Q .normal a w) :
  ∀ (fuel : Nat) (listed : Array Bool) (a : Act) (w : World), listed.size = ops.size → ((List.range ops.size).filter fun i => listed.getD i true).length + fuel = ops.size →
  (∃ ρ f done ex ec h, ρ0 <+: ρ ∧ WRel ρ B w h ∧ ARel ρ N a ex ∧ Below B w0 w ∧ TInv ops cs bar anc K P (fun i => listed.getD i true = true) f done ex ec h) →
  wpAny P .any ops Q fuel listed a w := by
 obtain ⟨hlen, hget⟩ := ocomps_get hcs
 have hl : cs.length = ops.size := by rw [← hlen]; simp
 -- all have come up
 have fin : ∀ (listed : Array Bool) (a : Act) (w : World), (∀ i, i < ops.size → listed.getD i true = true) →
   (∃ ρ f done ex ec h, ρ0 <+: ρ ∧ WRel ρ B w h ∧ ARel ρ N a ex ∧ Below B w0 w ∧ TInv ops cs bar anc K P (fun i => listed.getD i true = true) f done ex ec h) → Q .normal a w := by
  intro listed a w hall hst
  obtain ⟨ρ, f, done, ex, ec, h, g1, g2, g3, g4, g5⟩ := hst
  have hfull := full_done g5.nodup g5.mem fun i hi => g5.sub i hi (hall i hi)
  have hf : f = 0 := by have := g5.len; omega
  subst hf
  have hee : ex = ec := by
   funext t
   refine g5.env t fun i hi _ => hall i (g5.mem i hi)
  have hc := g5.cond
  simp only [mkT, vcT] at hc
  rw [← hee] at hc
  exact hQ a w ⟨ρ, ex, h, g1, g2, g3, g4, hc⟩
 have none_left : ∀ listed : Array Bool, listed.size = ops.size → Region.ready .any ops listed = [] → ∀ i, i < ops.size → listed.getD i true = true := by
  intro listed hsz hr i
  induction i using Nat.strongRecOn with
  | _ i ih =>
   intro hi
   cases hx : listed.getD i true with
   | true => rfl
   | false =>
    have : i ∈ Region.ready .any ops listed := by
     rw [ready_iff]
     refine ⟨hi, hx, ops[i], Array.getElem?_eq_getElem hi, fun k hk => ?_⟩
     have hki := (hok.edges i _ (Array.getElem?_eq_getElem hi) k hk).1
     have h1 := ih k hki (by omega)
     have hks : k < listed.size := by omega
     simp [Array.getD, hks] at h1 ⊢; exact h1
    rw [hr] at this; cases this
 intro fuel
 induction fuel with
 | zero =>
  intro listed a w hsz hcount hst
  have hall : ∀ i, i < ops.size → listed.getD i true = true := fun i hi => filter_all (fun i => listed.getD i true) (List.range ops.size) (by rw [List.length_range]; omega) i (List.mem_range.2 hi)
  refine ⟨?_, fin listed a w hall hst⟩
  rw [List.eq_nil_iff_forall_not_mem]
  intro i hi
  rw [ready_iff] at hi
  rw [hall i hi.1] at hi
  cases hi.2.1
 | succ fuel ih =>
  intro listed a w hsz hcount hst
  refine ⟨fun hr => fin listed a w (none_left listed hsz hr) hst, fun i hi => ?_⟩
  rw [ready_iff] at hi
  obtain ⟨hin, hil, o, ho, hedge⟩ := hi
  obtain ⟨ρ, f0, done0, ex, ec0, h, g1, g2, g3, g4, g5⟩ := hst
  obtain ⟨f, done, ec, inv, hhead⟩ := advanceT hok f0 done0 ex ec0 h g5
  have hci : cs[i]? = some (cs.getD i default) := by
   rw [List.getD_eq_getElem?_getD, List.getElem?_eq_getElem (by omega)]; rfl
  have hcomp : ocomp P N ops o = some (cs.getD i default) := hget i o _ (by rw [Array.getElem?_toList]; exact ho) hci
  -- what i waits for has come up
  have hanc : ∀ j ∈ anc.getD i [], listed.getD j true = true := by
   intro j hj
   obtain ⟨hji, k, hk, hjk⟩ := hok.ancs i o ho j hj
   have hke := hok.edges i o ho k hk
   have hkl : listed.getD k true = true := by
    have := hedge k hk
    have hks : k < listed.size := by omega
    simp [Array.getD, hks] at this ⊢; exact this
   rcases hjk with rfl | hjk
   ·exact hkl
   ·exact inv.down k (by omega) hkl j hjk
  have hancd : ∀ j ∈ anc.getD i [], j ∈ done := by
   intro j hj
   obtain ⟨hji, _⟩ := hok.ancs i o ho j hj
   exact inv.sub j (by omega) (hanc j hj)
  have hset : ∀ j, (listed.setIfInBounds i true).getD j true = if j = i then true else listed.getD j true := by
   intro j
   by_cases hji : j = i
   ·subst hji; simp [Array.getD, hsz, hin]
   ·simp only [if_neg hji, Array.getD_eq_getD_getElem?]
    rw [Array.getElem?_setIfInBounds_ne (fun e => hji e.symm)]
  have hset_i : (listed.setIfInBounds i true).getD i true = true := by rw [hset, if_pos rfl]
  have hset_of : ∀ j, listed.getD j true = true → (listed.setIfInBounds i true).getD j true = true := by
   intro j hj; rw [hset]; split <;> first | rfl | exact hj
  have hset_back : ∀ j, j ≠ i → (listed.setIfInBounds i true).getD j true = true → listed.getD j true = true := by
   intro j hj h; rwa [hset, if_neg hj] at h
  have hcount' : ((List.range ops.size).filter fun j => (listed.setIfInBounds i true).getD j true).length + fuel = ops.size := by
   have := filter_one (p := fun j => listed.getD j true) (q := fun j => (listed.setIfInBounds i true).getD j true) (List.nodup_range (n := ops.size)) (List.mem_range.2 hin) hil hset_i (fun j hj => by simp only [hset, if_neg hj])
   omega
  have hdown' : ∀ j, j < ops.size → (listed.setIfInBounds i true).getD j true = true → ∀ m ∈ anc.getD j [], (listed.setIfInBounds i true).getD m true = true := by
   intro j hj hjl m hm
   by_cases hji : j = i
   ·subst hji; exact hset_of m (hanc m hm)
   ·exact hset_of m (inv.down j hj (hset_back j hji hjl) m hm)
  by_cases hid : i ∈ done
  ·-- it has been told
   have hnl : ¬ (listed.getD i true = true) := by rw [hil]; simp
   have hbar : bar.getD i true = false := by
    cases hb : bar.getD i true with
    | false => rfl
    | true => exact absurd (inv.barl i hid hb) hnl
   obtain ⟨k, hk⟩ := hok.effs i hin hbar
   have hag := again_vcOp (P := P) hk (inv.pend i hid hnl)
   have hlooks : ∀ t ∈ (cs.getD i default).looks, ec t = ex t := by
    intro t ht
    symm
    refine inv.env t fun j hj hd => ?_
    have hjn : j < ops.size := inv.mem j hj
    by_cases hji : j = i
    ·subst hji; exact absurd ht (hok.self j hjn hbar t hd)
    ·rcases hok.data i hin j hjn (fun e => hji e.symm) t hd ht with h1 | ⟨h1, h2⟩
     ·exact hanc j h1
     ·exact absurd (inv.down j hjn (inv.barl j hj h2) i h1) hnl
   have hv := vcOp_move (P := P) (K' := fun e' h' => h' = h ∧ (∀ d, (cs.getD i default).dst = some d → e' d = ec d) ∧ (∀ t, (cs.getD i default).dst ≠ some t → e' t = ex t)) (e' := ex) hlooks
    (fun v h' hk' => ⟨hk'.1, fun d hd => by have := hk'.2 d hd; rw [hd] at this ⊢; rw [put_same] at this ⊢; exact this, fun t ht => put_other ht⟩) hag
   refine op_step g2 g3 g1 g4 ho hcomp hv (fun a' w' hs' => ih _ a' w' (by simp [hsz]) hcount' ?_)
   obtain ⟨ρ', e', h', k1, k2, k3, k4, rfl, k5, k6⟩ := hs'
   refine ⟨ρ', f, done, e', ec, h', k1, k2, k3, k4, inv.len, inv.nodup, inv.mem, inv.clos, ?_, hdown', fun j hj hb => hset_of j (inv.barl j hj hb), ?_, ?_, inv.cond⟩
   ·intro j hj hjl
    by_cases hji : j = i
    ·rw [hji]; exact hid
    ·exact inv.sub j hj (hset_back j hji hjl)
   ·intro t ht
    by_cases hdt : (cs.getD i default).dst = some t
    ·exact k5 t hdt
    ·rw [k6 t hdt]
     refine inv.env t fun j hj hd => hset_back j (fun e => hdt (e ▸ hd)) (ht j hj hd)
   ·intro j hj hjl
    exact inv.pend j hj (fun hl => hjl (hset_of j hl))
  ·-- it writes, and it is its turn
   have hrdy : i ∈ readyL anc ops.size done := mem_ready.2 ⟨hin, hid, hancd⟩
   have hlt := not_full inv.nodup inv.mem hin hid
   obtain ⟨g, hfg, hnone⟩ : ∃ g, f = g + 1 ∧ (readyL anc ops.size done).find? (fun i => !bar.getD i true) = none := by
    rcases hhead with h0 | h0
    ·have := inv.len; omega
    ·exact h0
   subst hfg
   have hc := inv.cond
   simp only [mkT, hnone] at hc
   have hc := kids_get hrdy hc
   have hlooks : ∀ t ∈ (cs.getD i default).looks, ec t = ex t := by
    intro t ht
    symm
    refine inv.env t fun j hj hd => ?_
    have hjn : j < ops.size := inv.mem j hj
    have hji : i ≠ j := fun e => hid (e ▸ hj)
    rcases hok.data i hin j hjn hji t hd ht with h1 | ⟨h1, _⟩
    ·exact hanc j h1
    ·exact absurd (inv.clos j hj i h1) hid
   have hv := vcOp_move (P := P) (K' := fun e' h' => ∃ v, e' = put ex (cs.getD i default).dst v ∧ againAll cs anc i (put ec (cs.getD i default).dst v) h' done ∧ vcT P cs anc (i :: done) (mkT bar anc ops.size g (i :: done)) K (put ec (cs.getD i default).dst v) h') (e' := ex) hlooks
    (fun v h' hk' => ⟨v, rfl, hk'.1, hk'.2⟩) hc
   refine op_step g2 g3 g1 g4 ho hcomp hv (fun a' w' hs' => ih _ a' w' (by simp [hsz]) hcount' ?_)
   obtain ⟨ρ', e', h', k1, k2, k3, k4, v, rfl, k5, k6⟩ := hs'
   refine ⟨ρ', g, i :: done, _, _, h', k1, k2, k3, k4, by have := inv.len; simp; omega, List.nodup_cons.2 ⟨hid, inv.nodup⟩, ?_, ?_, ?_, hdown', ?_, ?_, ?_, k6⟩
   ·intro j hj
    rcases List.mem_cons.1 hj with rfl | hj
    ·exact hin
    ·exact inv.mem j hj
   ·intro j hj m hm
    rcases List.mem_cons.1 hj with rfl | hj
    ·exact List.mem_cons_of_mem _ (hancd m hm)
    ·exact List.mem_cons_of_mem _ (inv.clos j hj m hm)
   ·intro j hj hjl
    by_cases hji : j = i
    ·rw [hji]; exact List.mem_cons_self
    ·exact List.mem_cons_of_mem _ (inv.sub j hj (hset_back j hji hjl))
   ·intro j hj hb
    rcases List.mem_cons.1 hj with rfl | hj
    ·exact hset_i
    ·exact hset_of j (inv.barl j hj hb)
   ·intro t ht
    by_cases hdt : (cs.getD i default).dst = some t
    ·rw [hdt, put_same, put_same]
    ·rw [put_other hdt, put_other hdt]
     refine inv.env t fun j hj hd => hset_back j (fun e => hdt (e ▸ hd)) (ht j (List.mem_cons_of_mem _ hj) hd)
   ·intro j hj hjl
    rcases List.mem_cons.1 hj with rfl | hj
    ·exact absurd hset_i hjl
    ·rcases againAll_get k5 j hj with h1 | h1
     ·exact absurd (hset_of j (hanc j h1)) hjl
     ·exact h1

end
end Go.IW

namespace Go.IW
open Go.RowKit

section
variable {P : Program} {ρ ρ0 : List RLoc} {B : Nat} {w w0 : World} {h : IH} {N : Nat} {a : Act} {e : Env}

theorem St.mono {K K' : Env → IH → Prop} (hk : ∀ e h, K e h → K' e h) (hs : St ρ0 N B w0 K a w) : St ρ0 N B w0 K' a w :=
 let ⟨ρ, e, h, h1, h2, h3, h4, h5⟩ := hs
 ⟨ρ, e, h, h1, h2, h3, h4, hk _ _ h5⟩

theorem init_dinv {ops : Array Oper} {cs : List COp} {bar : List Bool} {anc : List (List Nat)} {ord : List Nat} (hok : DOk ops cs bar anc ord) {K : Env → IH → Prop} (hv : vcD P cs bar anc [] ord K e h) :
  DInv ops cs bar anc ord K P (fun i => (Array.replicate ops.size false).getD i true = true) [] ord e e h := by
 refine ⟨rfl, fun i hi hl => ?_, fun i hi hl => ?_, fun i hi => (by cases hi), fun t _ => rfl, fun i hi => (by cases hi), hv⟩
 ·simp [Array.getD, hi] at hl
 ·simp [Array.getD, hi] at hl

theorem region_draw [GOk P B w0] {id : Nat} {ops : Array Oper} {cs : List COp} {bar : List Bool} {anc : List (List Nat)} {ord : List Nat} (hm : P.follows .mixedOrders = true) (hcs : ocomps P N ops ops.toList = some cs) (hok : DOk ops cs bar anc ord)
  {K : Env → IH → Prop} {Q : Exit → Act → World → Prop} (hQ : ∀ a w, St ρ0 N B w0 K a w → Q .normal a w) (hs : St ρ0 N B w0 (vcD P cs bar anc [] ord K) a w) : (Code.region id ops true).wp P Q a w := by
 obtain ⟨ρ, e, h, h1, h2, h3, h4, h5⟩ := hs
 refine wp_region_any hm (draw_any (K := K) hcs hok hQ ops.size _ a _ (by simp) ?_ ?_)
 ·have : (ord.filter fun i => (Array.replicate ops.size false).getD i true) = [] := by
   rw [List.filter_eq_nil_iff]
   intro i hi
   have := (hok.perm i).1 hi
   simp [Array.getD, this]
  rw [this]; simp
 ·exact ⟨ρ, [], ord, e, e, h, h1, h2.same rfl, h3, h4.trans ⟨rfl, rfl, rfl, Nat.le_refl _, fun _ _ => rfl⟩, init_dinv hok h5⟩

theorem init_tinv {ops : Array Oper} {cs : List COp} {bar : List Bool} {anc : List (List Nat)} {K : Env → IH → Prop} (hv : vcT P cs anc [] (mkT bar anc ops.size ops.size []) K e h) :
  TInv ops cs bar anc K P (fun i => (Array.replicate ops.size false).getD i true = true) ops.size [] e e h := by
 refine ⟨by simp, List.nodup_nil, fun i hi => (by cases hi), fun i hi => (by cases hi), fun i hi hl => ?_, fun i hi hl => ?_, fun i hi => (by cases hi), fun t _ => rfl, fun i hi => (by cases hi), hv⟩
 ·simp [Array.getD, hi] at hl
 ·simp [Array.getD, hi] at hl

theorem region_drawT [GOk P B w0] {id : Nat} {ops : Array Oper} {cs : List COp} {bar : List Bool} {anc : List (List Nat)} (hm : P.follows .mixedOrders = true) (hcs : ocomps P N ops ops.toList = some cs) (hok : TOk ops cs bar anc)
  {K : Env → IH → Prop} {Q : Exit → Act → World → Prop} (hQ : ∀ a w, St ρ0 N B w0 K a w → Q .normal a w) (hs : St ρ0 N B w0 (vcT P cs anc [] (mkT bar anc cs.length cs.length []) K) a w) : (Code.region id ops true).wp P Q a w := by
 obtain ⟨ρ, e, h, h1, h2, h3, h4, h5⟩ := hs
 have hl : cs.length = ops.size := by have := (ocomps_get hcs).1; rw [← this]; simp
 rw [hl] at h5
 refine wp_region_any hm (draw_anyT (K := K) hcs hok hQ ops.size _ a _ (by simp) ?_ ?_)
 ·have : ((List.range ops.size).filter fun i => (Array.replicate ops.size false).getD i true) = [] := by
   rw [List.filter_eq_nil_iff]
   intro i hi
   have := List.mem_range.1 hi
   simp [Array.getD, this]
  rw [this]; simp
 ·exact ⟨ρ, ops.size, [], e, e, h, h1, h2.same rfl, h3, h4.trans ⟨rfl, rfl, rfl, Nat.le_refl _, fun _ _ => rfl⟩, init_tinv h5⟩

theorem seqK_then {next : Env → IH → Prop} {K : EPost} {R : Act → World → Prop} (hR : ∀ a w, St ρ0 N B w0 next a w → R a w) (ex : Exit) (a : Act) (w : World) (hp : Post ρ0 N B w0 (seqK next K) ex a w) :
  Exit.then R (Post ρ0 N B w0 K) ex a w := by
 cases ex <;> first | exact hR a w hp | exact hp

theorem vc_sound [GOk P B w0] : ∀ (c : Code) {cc : CC}, ccomp P N c = some cc → ∀ {K : EPost} {a : Act} {w : World}, St ρ0 N B w0 (vc P cc K) a w → c.wp P (Post ρ0 N B w0 K) a w := by
 intro c
 induction c with
 | skip => intro cc hc K a w hs; simp [ccomp] at hc; subst hc; exact wp_skip hs
 | ret => intro cc hc K a w hs; simp [ccomp] at hc; subst hc; exact wp_ret hs
 | exit id => intro cc hc K a w hs; simp [ccomp] at hc; subst hc; exact wp_exit hs
 | region id ops draw =>
  intro cc hc K a w hs
  cases draw with
  | false =>
   simp only [ccomp] at hc
   rw [Option.map_eq_some_iff] at hc
   obtain ⟨cs, hcs, rfl⟩ := hc
   refine wp_region ?_
   rw [List.range_eq_range']
   exact ops_sound (ρ0 := ρ0) (B := B) (w0 := w0) hcs (fun a w h => h) ops.size 0 (by simp) a w (by rw [dz0]; exact hs)
  | true =>
   simp only [ccomp] at hc
   split at hc
   ·rename_i cs hcs
    split at hc
    ·rename_i hd
     obtain rfl := Option.some.inj hc
     simp only [Bool.and_eq_true] at hd
     exact region_draw hd.2 hcs (dCheck_ok hd.1) (fun a w h => h) hs
    ·split at hc
     ·rename_i hd
      obtain rfl := Option.some.inj hc
      simp only [Bool.and_eq_true] at hd
      exact region_drawT hd.2 hcs (tCheck_ok hd.1) (fun a w h => h) hs
     ·cases hc
   ·cases hc
 | seq x y ihx ihy =>
  intro cc hc K a w hs
  simp only [ccomp] at hc
  split at hc
  ·rename_i x' y' hx hy
   obtain rfl := Option.some.inj hc
   exact wp_seq (wp_mono (ihx hx hs) (fun ex a w hp => seqK_then (fun a w h => ihy hy h) ex a w hp))
  ·cases hc
 | cond c x y ihx ihy =>
  intro cc hc K a w hs
  simp only [ccomp] at hc
  split at hc
  ·rename_i c' x' y' hcx hx hy
   obtain rfl := Option.some.inj hc
   obtain ⟨ρ, e, h, h1, h2, h3, h4, h5⟩ := hs
   simp only [vc, vcCond] at h5
   split at h5
   ·rename_i b hb
    have hr := cx_rel hcx h3
    rw [hb] at hr
    generalize hev : a.eval c = cv at hr
    cases hr
    exact wp_cond_split hev (fun ht => ihx hx ⟨ρ, e, h, h1, h2, h3, h4, h5.1 ht⟩) (fun hf => ihy hy ⟨ρ, e, h, h1, h2, h3, h4, h5.2 hf⟩)
   ·exact h5.elim
  ·cases hc
 | block id x ih =>
  intro cc hc K a w hs
  simp only [ccomp] at hc
  rw [Option.map_eq_some_iff] at hc
  obtain ⟨x', hx, rfl⟩ := hc
  refine wp_block (wp_mono (ih hx hs) (fun ex a w hp => ?_))
  cases ex with
  | exit id' =>
   have hp' : St ρ0 N B w0 (fun e h => if id' = id then K .normal e h else K (.exit id') e h) a w := hp
   simp only [Exit.inBlock]
   split
   ·rename_i h0; simp only [if_pos h0] at hp'; exact hp'
   ·rename_i h0; simp only [if_neg h0] at hp'; exact hp'
  | _ => exact hp
 | loop x ih =>
  intro cc hc K a w hs
  simp only [ccomp] at hc
  rw [Option.map_eq_some_iff] at hc
  obtain ⟨x', hx, rfl⟩ := hc
  obtain ⟨ρ, e, h, h1, h2, h3, h4, I, ⟨n, hn⟩, hround⟩ := hs
  refine wp_loop_idx (fun n => St ρ0 N B w0 (I n)) ⟨n, ρ, e, h, h1, h2, h3, h4, hn⟩ (fun n a w hI => ?_)
  refine wp_mono (ih hx (hI.mono (fun e h hi => hround n e h hi))) (fun ex a w hp => seqK_then (fun a w hst => ?_) ex a w hp)
  obtain ⟨ρ', e', h', k1, k2, k3, k4, m, hm, hI'⟩ := hst
  exact ⟨m, hm, ρ', e', h', k1, k2, k3, k4, hI'⟩
 | rangeFunc => intro cc hc; simp [ccomp] at hc
 | scope => intro cc hc; simp [ccomp] at hc
 | label => intro cc hc; simp [ccomp] at hc
 | goto => intro cc hc; simp [ccomp] at hc
 | refuse =>
  intro cc hc K a w hs
  simp only [ccomp] at hc
  obtain rfl := Option.some.inj hc
  obtain ⟨ρ, e, h, _, _, _, _, hf⟩ := hs
  exact False.elim hf

theorem resVs_sound (hw : WRel ρ B w h) (ha : ARel ρ N a e) : ∀ {l : List ResultVar} {ks : List FK} {vs : List IV}, rcomps P l = some ks → resVs e h ks = some vs →
  ∃ us : List Value, (l.mapM (fun | .tmp t => pure (a.tmps.getD t undef) | .cell b t => do loadVar t (← asAddr (a.tmps.getD b undef)) : ResultVar → Sem Value)).run P w = .ok us w ∧ LRel ρ us vs
 | [], ks, vs, hk, hv => by
  simp [rcomps] at hk; subst hk
  simp [resVs] at hv; subst hv
  exact ⟨[], by simp, LRel.nil ρ⟩
 | r :: l, ks, vs, hk, hv => by
  simp only [rcomps] at hk
  split at hk
  ·rename_i k ks' h1 h2
   obtain rfl := Option.some.inj hk
   simp only [resVs] at hv
   split at hv
   ·rename_i v vs' h3 h4
    obtain rfl := Option.some.inj hv
    obtain ⟨us, g1, g2⟩ := resVs_sound hw ha h2 h4
    have hone : ∃ u, ((match r with | .tmp t => pure (a.tmps.getD t undef) | .cell b t => do loadVar t (← asAddr (a.tmps.getD b undef))) : Sem Value).run P w = .ok u w ∧ VRel ρ u v := by
     cases r with
     | tmp t =>
      simp [rcomp] at h1; subst h1
      simp [feval, CX.ev] at h3; subst h3
      exact ⟨_, rfl, ha.val t⟩
     | cell b t =>
      simp only [rcomp] at h1
      split at h1
      ·rename_i d n hd hn
       obtain rfl := Option.some.inj h1
       have hb := ha.val b
       cases hagg : isAggD d
       ·simp only [hagg, Bool.false_eq_true, if_false, feval, CX.ev] at h3
        split at h3
        ·rename_i l i k hp
         rw [hp] at hb
         obtain ⟨v', k1, k2⟩ := ld_sound (P := P) hw hd hagg hb h3
         refine ⟨v', ?_, k2⟩
         simp only
         generalize a.tmps.getD b undef = x at hb k1 ⊢
         cases hb
         simpa [Instr.loadAt, Instr.sureAddr, asAddr] using k1
        ·cases h3
       ·simp only [hagg, if_true, feval, CX.ev] at h3
        split at h3
        ·rename_i l i k hp
         rw [hp] at hb
         split at h3
         ·rename_i row hrow
          split at h3
          ·rename_i hk'
           obtain rfl := Option.some.inj h3
           obtain ⟨v', k1, k2⟩ := ldA_sound (P := P) hw hd hagg hn hb hrow hk'
           refine ⟨v', ?_, k2⟩
           simp only
           generalize a.tmps.getD b undef = x at hb k1 ⊢
           cases hb
           simpa [Instr.loadAt, Instr.sureAddr, asAddr] using k1
          ·cases h3
         ·cases h3
        ·cases h3
      ·cases h1
    obtain ⟨u, k1, k2⟩ := hone
    refine ⟨u :: us, ?_, LRel.cons k2 g2⟩
    simp only [List.mapM_cons, Sem.run_bind, k1, Result.andThen_ok, g1, Sem.run_pure]
   ·cases hv
  ·cases hk

theorem results_sound (hw : WRel ρ B w h) (ha : ARel ρ N a e) {fn : Func} {ks : List FK} {vs : List IV} (hk : rcomps P fn.results.toList = some ks) (hv : resVs e h ks = some vs) :
  ∃ u, (results fn a.tmps).run P w = .ok u w ∧ VRel ρ u (resV vs) := by
 obtain ⟨us, h1, h2⟩ := resVs_sound hw ha hk hv
 have hrun : (fn.results.mapM (fun | .tmp t => pure (a.tmps.getD t undef) | .cell b t => do loadVar t (← asAddr (a.tmps.getD b undef)) : ResultVar → Sem Value)).run P w = .ok us.toArray w := by
  rw [Array.mapM_eq_mapM_toList, Sem.run_map, h1]; rfl
 refine ⟨if h : us.toArray.size = 1 then us.toArray[0] else .tuple us.toArray, ?_, ?_⟩
 ·have h3 : (results fn a.tmps).run P w = ((fn.results.mapM (fun | .tmp t => pure (a.tmps.getD t undef) | .cell b t => do loadVar t (← asAddr (a.tmps.getD b undef)) : ResultVar → Sem Value)).run P w).andThen fun vs w' => .ok (if h : vs.size = 1 then vs[0] else .tuple vs) w' := by
   unfold results
   simp only [Sem.run_bind, Sem.run_pure]
   rfl
  rw [h3, hrun]
  rfl
 ·have hlen := h2.1
  split
  ·rename_i h0
   match us, vs, h2 with
   | [u], [v], h2 => exact h2.head
   | [], _, _ => simp at h0
   | _ :: _ :: _, _, _ => simp at h0
   | [_], [], h2 => simp [LRel] at h2
   | [_], _ :: _ :: _, h2 => simp [LRel] at h2
  ·rename_i h0
   match vs, hlen, h2 with
   | [v], hlen, h2 => exact absurd (by simpa using hlen) h0
   | [], _, h2 => exact LRel.tuple (by simpa using h2)
   | _ :: _ :: _, _, h2 => exact LRel.tuple (by simpa using h2)

structure FnOk (P : Program) (f : Nat) (N : Nat) (cc : CC) (rs : List FK) : Prop where
 ok : ∃ fn c, P.funcs[f]? = some fn ∧ fn.body = some c ∧ fn.name ≠ "runtime.NumGoroutine" ∧ fn.ntmps = N ∧ ccomp P N c = some cc ∧ rcomps P fn.results.toList = some rs

def fnComp (P : Program) (f : Nat) : Option (Nat × CC × List FK) :=
 match P.funcs[f]? with
 | some fn => match fn.body with
  | some c => match ccomp P fn.ntmps c, rcomps P fn.results.toList with
   | some cc, some rs => if fn.name != "runtime.NumGoroutine" then some (fn.ntmps, cc, rs) else none
   | _, _ => none
  | none => none
 | none => none
theorem FnOk.of {f N : Nat} {cc : CC} {rs : List FK} (hc : fnComp P f = some (N, cc, rs)) : FnOk P f N cc rs := by
 unfold fnComp at hc
 split at hc
 ·rename_i fn h1
  split at hc
  ·rename_i c h2
   split at hc
   ·rename_i cc' rs' h3 h4
    split at hc
    ·rename_i h5
     obtain ⟨rfl, rfl, rfl⟩ := by simpa using hc
     exact ⟨fn, c, h1, h2, by simpa using h5, rfl, h3, h4⟩
    ·cases hc
   ·cases hc
  ·cases hc
 ·cases hc

theorem icalls {f : Nat} {cc : CC} {rs : List FK} (hf : FnOk P f N cc rs) {args : List IV} {Q : IV → IH → Prop} (hN : args.length ≤ N) (hv : vc P cc (retK rs Q) (env0 args) h) : ICalls P f args h Q := by
 intro ρ B w args' _ hw hargs
 obtain ⟨fn, c, h1, h2, h3, h4, h5, h6⟩ := hf.ok
 subst h4
 have hcall : (callFunc f args').run P w = .ok (.enter f args') w := by
  simp [callFunc, h1, h2, h3]
 rw [hcall]
 simp only [UponF]
 have hsz : args'.size = args.length := by have := hargs.1; simpa using this
 refine calls_of_wp h1 h2 ?_
 have harel : ARel ρ fn.ntmps { tmps := args' ++ Array.replicate (fn.ntmps - args'.size) undef, defers := [] } (env0 args) := by
  refine ⟨by simp; omega, rfl, fun t => ?_⟩
  simp only [env0]
  rw [Array.getD_eq_getD_getElem?, List.getD_eq_getElem?_getD]
  by_cases ht : t < args'.size
  ·rw [Array.getElem?_append_left ht]
   have h7 : args'.toList[t]? = some args'[t] := by simp [ht]
   have h8 : args[t]? = some (args[t]'(by omega)) := List.getElem?_eq_getElem _
   have := hargs.2 t _ _ h7 h8
   rw [Array.getElem?_eq_getElem ht, h8]
   exact this
  ·rw [Array.getElem?_append_right (by omega), List.getElem?_eq_none (by omega)]
   have : (Array.replicate (fn.ntmps - args'.size) undef)[t - args'.size]?.getD undef = undef := by
    rw [Array.getElem?_replicate]; split <;> rfl
   rw [this]
   exact undef_rel ρ
 have hwp := vc_sound (ρ0 := ρ) (B := B) (w0 := w) c h5 (K := retK rs Q) ⟨ρ, env0 args, h, List.prefix_refl _, hw, harel, Below.refl _ _, hv⟩
 refine wp_mono hwp (fun ex a w' hp => ?_)
 obtain ⟨ρ', e', h', k1, k2, k3, k4, k5⟩ := hp
 have key : ∀ {vs : List IV}, resVs e' h' rs = some vs → Q (resV vs) h' → a.defers = [] ∧ ∃ v, (results fn a.tmps).run P w' = .ok v w' ∧ Out ρ B w Q v w' := by
  intro vs hvs hq
  obtain ⟨u, g1, g2⟩ := results_sound (P := P) k2 k3 h6 hvs
  exact ⟨k3.defers, u, g1, ρ', _, h', k1, k2, g2, k4, hq⟩
 cases ex with
 | normal =>
  simp only [retK] at k5
  split at k5
  ·rename_i vs hvs; exact key hvs k5
  ·exact k5.elim
 | ret =>
  simp only [retK] at k5
  split at k5
  ·rename_i vs hvs; exact key hvs k5
  ·exact k5.elim
 | exit id => exact k5.elim
 | goto l => exact k5.elim
 | panic ch => exact k5.elim
 | outgrown => exact k5.elim

end
end Go.IW

namespace Go.IW
open Go.RowKit

theorem nr {α : Sort _} {a b : α} (h : a = b) : a = b := h

@[go_sem] theorem put_some (e : Env) (d : Nat) (v : IV) : put e (some d) v = upd e d v := nr rfl
@[go_sem] theorem put_none (e : Env) (v : IV) : put e none v = e := nr rfl
@[go_sem] theorem upd_self (e : Env) (d : Nat) (v : IV) : upd e d v d = v := upd_eq e d v
@[go_sem] theorem upd_far (e : Env) (d t : Nat) (v : IV) (h : (t == d) = false) : upd e d v t = e t := upd_ne e v (by simpa using h)
@[go_sem] theorem ev_t (e : Env) (n : Nat) : CX.ev e (.t n) = e n := nr rfl
@[go_sem] theorem ev_c (e : Env) (v : IV) : CX.ev e (.c v) = v := nr rfl
@[go_sem] theorem ev_fn (e : Env) (f : Nat) : CX.ev e (.fn f) = .func f [] [] := nr rfl
@[go_sem ↓] theorem seqK_normal (n : Env → IH → Prop) (K : EPost) (e : Env) (h : IH) : seqK n K .normal e h = n e h := nr rfl
@[go_sem ↓] theorem seqK_ret (n : Env → IH → Prop) (K : EPost) (e : Env) (h : IH) : seqK n K .ret e h = K .ret e h := nr rfl
@[go_sem ↓] theorem seqK_exit (n : Env → IH → Prop) (K : EPost) (i : Nat) (e : Env) (h : IH) : seqK n K (.exit i) e h = K (.exit i) e h := nr rfl
@[go_sem ↓] theorem blockK_normal (i : Nat) (K : EPost) (e : Env) (h : IH) : blockK i K .normal e h = K .normal e h := nr rfl
@[go_sem ↓] theorem blockK_ret (i : Nat) (K : EPost) (e : Env) (h : IH) : blockK i K .ret e h = K .ret e h := nr rfl
theorem blockK_exit (i j : Nat) (K : EPost) (e : Env) (h : IH) : blockK i K (.exit j) e h = if j = i then K .normal e h else K (.exit j) e h := nr rfl
@[go_sem ↓] theorem blockK_here (i : Nat) (K : EPost) (e : Env) (h : IH) : blockK i K (.exit i) e h = K .normal e h := by simp [blockK]
@[go_sem ↓] theorem blockK_far (i j : Nat) (K : EPost) (e : Env) (h : IH) (hij : (j == i) = false) : blockK i K (.exit j) e h = K (.exit j) e h := by
 rw [blockK_exit, if_neg (by simpa using hij)]

class Hold where
 p : Prop
class HoldK where
 k : IV → IH → Prop
class HoldL where
 body : EPost → Env → IH → Prop
 K : EPost

def test (c : IV) [A : Hold] [B : Hold] : Prop := vcCond c A.p B.p
@[go_sem] theorem test_true (A B : Hold) : @test (.bool true) A B = A.p := by simp [test, vcCond]
@[go_sem] theorem test_false (A B : Hold) : @test (.bool false) A B = B.p := by simp [test, vcCond]
@[go_sem] theorem hold_p (p : Prop) : @Hold.p ⟨p⟩ = p := rfl
@[go_sem] theorem hold_k (k : IV → IH → Prop) : @HoldK.k ⟨k⟩ = k := rfl
@[go_sem] theorem hold_b (b : EPost → Env → IH → Prop) (K : EPost) : @HoldL.body ⟨b, K⟩ = b := rfl
@[go_sem] theorem hold_l (b : EPost → Env → IH → Prop) (K : EPost) : @HoldL.K ⟨b, K⟩ = K := rfl
theorem test_of {b : Bool} {A B : Hold} (h1 : b = true → A.p) (h2 : b = false → B.p) : @test (.bool b) A B := ⟨h1, h2⟩
theorem test_dec {p : Prop} [Decidable p] {A B : Hold} (h1 : p → A.p) (h2 : ¬ p → B.p) : @test (.bool (decide p)) A B := ⟨fun h => h1 (by simpa using h), fun h => h2 (by simpa using h)⟩
def loop [L : HoldL] (e : Env) (h : IH) : Prop := vcLoop L.body L.K e h
theorem loop_at {L : HoldL} {e : Env} {h : IH} (I : Nat → Env → IH → Prop) (n0 : Nat) (h0 : I n0 e h) (hr : ∀ n e h, I n e h → L.body (seqK (fun e' h' => ∃ m, m < n ∧ I m e' h') L.K) e h) : @loop L e h := ⟨I, ⟨n0, h0⟩, hr⟩

section
variable (P : Program) (K : EPost) (e : Env) (h : IH)
@[go_sem ↓] theorem vc_skip : vc P .skip K e h = K .normal e h := nr rfl
@[go_sem ↓] theorem vc_reg (ops : List COp) : vc P (.reg ops) K e h = vcOps P ops (K .normal) e h := nr rfl
@[go_sem ↓] theorem vc_dreg (ops : List COp) (b : List Bool) (a : List (List Nat)) (o : List Nat) : vc P (.dreg ops b a o) K e h = vcD P ops b a [] o (K .normal) e h := nr rfl
@[go_sem ↓] theorem vc_treg (ops : List COp) (a : List (List Nat)) (t : DT) : vc P (.treg ops a t) K e h = vcT P ops a [] t (K .normal) e h := nr rfl
@[go_sem ↓] theorem vc_seq (a b : CC) : vc P (.seq a b) K e h = vc P a (seqK (vc P b K) K) e h := nr rfl
@[go_sem ↓] theorem vc_cond (c : CX) (a b : CC) : vc P (.cond c a b) K e h = @test (c.ev e) ⟨vc P a K e h⟩ ⟨vc P b K e h⟩ := nr rfl
@[go_sem ↓] theorem vc_block (i : Nat) (a : CC) : vc P (.block i a) K e h = vc P a (blockK i K) e h := nr rfl
@[go_sem ↓] theorem vc_loop (a : CC) : vc P (.loop a) K e h = @loop ⟨vc P a, K⟩ e h := nr rfl
@[go_sem ↓] theorem vc_exit (i : Nat) : vc P (.exit i) K e h = K (.exit i) e h := nr rfl
@[go_sem ↓] theorem vc_ret : vc P .ret K e h = K .ret e h := nr rfl
end

section
variable (P : Program) (K : Env → IH → Prop) (e : Env) (h : IH)
@[go_sem ↓] theorem vcOps_nil : vcOps P [] K e h = K e h := nr rfl
@[go_sem ↓] theorem vcOps_cons (o : COp) (r : List COp) : vcOps P (o :: r) K e h = vcOp P o (vcOps P r K) e h := nr rfl
@[go_sem ↓] theorem vcOp_plain (d : Option Nat) (k : CK) : vcOp P ⟨d, none, k⟩ K e h = vcK P k e h fun v h' => K (put e d v) h' := nr rfl
def guard (c : IV) (want : Bool) [A : Hold] [B : Hold] : Prop :=
 match c with
 | .bool b => (b = want → A.p) ∧ (b = !want → B.p)
 | .tuple [] => B.p
 | _ => False
@[go_sem ↓] theorem vcOp_guard (d : Option Nat) (t : Nat) (want : Bool) (k : CK) : vcOp P ⟨d, some (t, want), k⟩ K e h = @guard (e t) want ⟨vcK P k e h fun v h' => K (put e d v) h'⟩ ⟨K (put e d (.tuple [])) h⟩ := nr rfl
@[go_sem] theorem guard_tt (A B : Hold) : @guard (.bool true) true A B = A.p := by simp [guard]
@[go_sem] theorem guard_tf (A B : Hold) : @guard (.bool true) false A B = B.p := by simp [guard]
@[go_sem] theorem guard_ft (A B : Hold) : @guard (.bool false) true A B = B.p := by simp [guard]
@[go_sem] theorem guard_ff (A B : Hold) : @guard (.bool false) false A B = A.p := by simp [guard]
@[go_sem] theorem guard_u (want : Bool) (A B : Hold) : @guard (.tuple []) want A B = B.p := nr rfl
def got (o : Option IV) (h : IH) [K : HoldK] : Prop := match o with | some v => K.k v h | none => False
@[go_sem ↓] theorem vcK_f (k : FK) (K : IV → IH → Prop) : vcK P (.f k) e h K = @got (feval e h k) h ⟨K⟩ := nr rfl
@[go_sem] theorem got_some (v : IV) (K : HoldK) : @got (some v) h K = K.k v h := nr rfl
@[go_sem ↓] theorem vcK_x (k : EK) (K : IV → IH → Prop) : vcK P (.x k) e h K = act P h e K k := nr rfl
end


section
variable (e : Env) (h : IH)
@[go_sem] theorem fe_mv (x : CX) : feval e h (.mv x) = some (x.ev e) := nr rfl
def pickF (c a b : IV) : Option IV := match c with | .bool true => some a | .bool false => some b | _ => none
@[go_sem] theorem fe_pick (c a b : CX) : feval e h (.pick c a b) = pickF (c.ev e) (a.ev e) (b.ev e) := nr rfl
@[go_sem] theorem pickF_true (a b : IV) : pickF (.bool true) a b = some a := nr rfl
@[go_sem] theorem pickF_false (a b : IV) : pickF (.bool false) a b = some b := nr rfl
@[go_sem] theorem fe_build (z : List IV) (ps : List (Nat × Nat × CX)) : feval e h (.build z ps) = (lay z (ps.map fun p => (p.1, p.2.1, p.2.2.ev e))).map .agg := nr rfl
def ldF (h : IH) (x : IV) : Option IV := match x with | .ptr l i k => h.cell l i k | _ => none
@[go_sem] theorem fe_ld (x : CX) : feval e h (.ld x) = ldF h (x.ev e) := nr rfl
@[go_sem] theorem ldF_ptr (l i k : Nat) : ldF h (.ptr l i k) = h.cell l i k := nr rfl
def rowA (row : Option (List IV)) (k n : Nat) : Option IV := match row with | some row => if k + n ≤ row.length then some (.agg ((row.drop k).take n)) else none | none => none
def ldAF (h : IH) (n : Nat) (x : IV) : Option IV := match x with | .ptr l i k => rowA (h.row l i) k n | _ => none
@[go_sem] theorem fe_ldA (n : Nat) (x : CX) : feval e h (.ldA n x) = ldAF h n (x.ev e) := nr rfl
@[go_sem] theorem ldAF_ptr (n l i k : Nat) : ldAF h n (.ptr l i k) = rowA (h.row l i) k n := nr rfl
theorem rowA_some (row : List IV) (k n : Nat) (hk : k + n ≤ row.length) : rowA (some row) k n = some (.agg ((row.drop k).take n)) := if_pos hk
theorem rowA_whole (row : List IV) (n : Nat) (hk : row.length = n) : rowA (some row) 0 n = some (.agg row) := by
 unfold rowA; simp [← hk]
def nckF (x : IV) : Option IV := match x with | .ptr l i k => some (.ptr l i k) | .func f as0 cs => some (.func f as0 cs) | .iface t v => some (.iface t v) | _ => none
@[go_sem] theorem fe_nck (x : CX) : feval e h (.nck x) = nckF (x.ev e) := nr rfl
@[go_sem] theorem nckF_ptr (l i k : Nat) : nckF (.ptr l i k) = some (.ptr l i k) := nr rfl
@[go_sem] theorem nckF_func (f : Nat) (a c : List IV) : nckF (.func f a c) = some (.func f a c) := nr rfl
@[go_sem] theorem fe_bin (op : BinOp) (x y : CX) : feval e h (.bin op x y) = ibin op (x.ev e) (y.ev e) := nr rfl
@[go_sem] theorem fe_binB (g : Bool) (x y : CX) : feval e h (.binB g x y) = ibinB g (x.ev e) (y.ev e) := nr rfl
@[go_sem] theorem ibinB_bool (g a b : Bool) : ibinB g (.bool a) (.bool b) = some (.bool ((a == b) != g)) := nr rfl
def eqnF (neg : Bool) (a b : Option Bool) : Option IV := match a, b with
 | some true, some b => some (.bool (b != neg))
 | some b, some true => some (.bool (b != neg))
 | _, _ => none
@[go_sem] theorem fe_eqn (k : NK) (g : Bool) (x y : CX) : feval e h (.eqn k g x y) = eqnF g (isNil k (x.ev e)) (isNil k (y.ev e)) := nr rfl
@[go_sem] theorem eqnF_right (g : Bool) (a : Bool) : eqnF g (some a) (some true) = some (.bool (a != g)) := by cases a <;> rfl
@[go_sem] theorem eqnF_left (g : Bool) (a : Bool) : eqnF g (some true) (some a) = some (.bool (a != g)) := by cases a <;> rfl
@[go_sem] theorem isNil_1 : isNil .ptr .nilptr = some true := nr rfl
@[go_sem] theorem isNil_2 : isNil .slice .nilslice = some true := nr rfl
@[go_sem] theorem isNil_3 : isNil .map .nilmap = some true := nr rfl
@[go_sem] theorem isNil_4 : isNil .func .nilfunc = some true := nr rfl
@[go_sem] theorem isNil_5 : isNil .iface .niliface = some true := nr rfl
@[go_sem] theorem isNil_6 (l i k : Nat) : isNil .ptr (.ptr l i k) = some false := nr rfl
@[go_sem] theorem isNil_7 (l i k : Nat) : isNil .slice (.slice l i k) = some false := nr rfl
@[go_sem] theorem isNil_8 (z : Bool) : isNil .slice (.eslice z) = some false := nr rfl
@[go_sem] theorem isNil_9 (l : Nat) : isNil .map (.map l) = some false := nr rfl
@[go_sem] theorem isNil_10 (f : Nat) (a b : List IV) : isNil .func (.func f a b) = some false := nr rfl
@[go_sem] theorem isNil_11 (t : Nat) (v : IV) : isNil .iface (.iface t v) = some false := nr rfl
@[go_sem] theorem fe_un (op : UnOp) (x : CX) : feval e h (.un op x) = iun op (x.ev e) := nr rfl
@[go_sem] theorem iun_not (b : Bool) : iun .not (.bool b) = some (.bool (!b)) := nr rfl
@[go_sem] theorem iun_neg (k : IntKind) (n : Int) : iun .neg (.int k n) = some (.int k (wr k (0 - n))) := nr rfl
@[go_sem] theorem iun_xor (k : IntKind) (n : Int) : iun .xor (.int k n) = some (.int k (bits .xor k (if k.signed then -1 else k.max) n)) := nr rfl
def cvIF (k : IntKind) (x : IV) : Option IV := match x with | .int _ n => some (.int k (wr k n)) | _ => none
@[go_sem] theorem fe_cvI (k : IntKind) (x : CX) : feval e h (.cvI k x) = cvIF k (x.ev e) := nr rfl
@[go_sem] theorem cvIF_int (k j : IntKind) (n : Int) : cvIF k (.int j n) = some (.int k (wr k n)) := nr rfl
def cvSF (x : IV) : Option IV := match x with | .str s => some (.str s) | _ => none
@[go_sem] theorem fe_cvS (x : CX) : feval e h (.cvS x) = cvSF (x.ev e) := nr rfl
@[go_sem] theorem cvSF_str (s : List UInt8) : cvSF (.str s) = some (.str s) := nr rfl
def b2sO (o : IObj) (i n : Nat) : Option IV := match o with | .rows rs _ sz _ => if sz = 1 ∧ i + n ≤ rs.length then (bytesOf ((rs.drop i).take n)).map .str else none | _ => none
def b2sF (h : IH) (x : IV) : Option IV := match x with | .nilslice => some (.str []) | .eslice _ => some (.str []) | .slice l i n => b2sO (h.obj l) i n | _ => none
@[go_sem] theorem fe_b2s (x : CX) : feval e h (.b2s x) = b2sF h (x.ev e) := nr rfl
@[go_sem] theorem b2sF_nil : b2sF h .nilslice = some (.str []) := nr rfl
@[go_sem] theorem b2sF_e (z : Bool) : b2sF h (.eslice z) = some (.str []) := nr rfl
@[go_sem] theorem b2sF_slice (l i n : Nat) : b2sF h (.slice l i n) = b2sO (h.obj l) i n := nr rfl
def extF (i : Nat) (x : IV) : Option IV := match x with | .tuple vs => vs[i]? | _ => none
@[go_sem] theorem fe_ext (i : Nat) (x : CX) : feval e h (.ext i x) = extF i (x.ev e) := nr rfl
@[go_sem] theorem extF_tuple (i : Nat) (vs : List IV) : extF i (.tuple vs) = vs[i]? := nr rfl
def fldF (off n : Nat) (agg : Bool) (x : IV) : Option IV := match x with | .agg cs => if agg then (if off + n ≤ cs.length then some (.agg ((cs.drop off).take n)) else none) else cs[off]? | _ => none
@[go_sem] theorem fe_fld (off n : Nat) (agg : Bool) (x : CX) : feval e h (.fld off n agg x) = fldF off n agg (x.ev e) := nr rfl
@[go_sem] theorem fldF_one (off n : Nat) (cs : List IV) : fldF off n false (.agg cs) = cs[off]? := nr rfl
def fadrF (off : Nat) (x : IV) : Option IV := match x with | .ptr l i k => some (.ptr l i (k + off)) | _ => none
@[go_sem] theorem fe_fadr (off : Nat) (x : CX) : feval e h (.fadr off x) = fadrF off (x.ev e) := nr rfl
@[go_sem] theorem fadrF_ptr (off l i k : Nat) : fadrF off (.ptr l i k) = some (.ptr l i (k + off)) := nr rfl
def iadrF (h : IH) (sz : Nat) (x i : IV) : Option IV := match x, i with | .slice l j n, .int _ m => if 0 ≤ m ∧ m < n ∧ h.size l = some sz then some (.ptr l (j + m.toNat) 0) else none | _, _ => none
@[go_sem] theorem fe_iadr (sz : Nat) (x i : CX) : feval e h (.iadr sz x i) = iadrF h sz (x.ev e) (i.ev e) := nr rfl
theorem iadrF_of {sz l j n : Nat} {k : IntKind} {m : Int} (h0 : 0 ≤ m) (h1 : m < n) (hs : h.size l = some sz) : iadrF h sz (.slice l j n) (.int k m) = some (.ptr l (j + m.toNat) 0) := if_pos ⟨h0, h1, hs⟩
def iadrAF (len sz : Nat) (x i : IV) : Option IV := match x, i with | .ptr l j k, .int _ m => if 0 ≤ m ∧ m < len then some (.ptr l j (k + m.toNat * sz)) else none | _, _ => none
@[go_sem] theorem fe_iadrA (len sz : Nat) (x i : CX) : feval e h (.iadrA len sz x i) = iadrAF len sz (x.ev e) (i.ev e) := nr rfl
def idxSF (x i : IV) : Option IV := match x, i with | .str s, .int _ m => if 0 ≤ m then (s[m.toNat]?).map (fun b => .int .u8 b.toNat) else none | _, _ => none
@[go_sem] theorem fe_idxS (x i : CX) : feval e h (.idxS x i) = idxSF (x.ev e) (i.ev e) := nr rfl
theorem idxSF_of {s : List UInt8} {k : IntKind} {m : Int} {b : UInt8} (h0 : 0 ≤ m) (hb : s[m.toNat]? = some b) : idxSF (.str s) (.int k m) = some (.int .u8 b.toNat) := by
 simp [idxSF, h0, hb]
def idxAF (len sz : Nat) (agg : Bool) (x i : IV) : Option IV := match x, i with
 | .agg cs, .int _ m => if 0 ≤ m ∧ m < len then
    (if agg then (if m.toNat * sz + sz ≤ cs.length then some (.agg ((cs.drop (m.toNat * sz)).take sz)) else none) else cs[m.toNat * sz]?) else none
 | _, _ => none
@[go_sem] theorem fe_idxA (len sz : Nat) (agg : Bool) (x i : CX) : feval e h (.idxA len sz agg x i) = idxAF len sz agg (x.ev e) (i.ev e) := nr rfl
def lenF (x : IV) : Option IV := (ilen x).map fun (n : Nat) => IV.int .i64 (n : Int)
@[go_sem] theorem fe_len (x : CX) : feval e h (.len x) = lenF (x.ev e) := nr rfl
@[go_sem] theorem lenF_slice (l i n : Nat) : lenF (.slice l i n) = some (.int .i64 n) := nr rfl
@[go_sem] theorem lenF_e (z : Bool) : lenF (.eslice z) = some (.int .i64 0) := nr rfl
@[go_sem] theorem lenF_nil : lenF .nilslice = some (.int .i64 0) := nr rfl
def lenSF (x : IV) : Option IV := match x with | .str s => some (.int .i64 s.length) | _ => none
@[go_sem] theorem fe_lenS (x : CX) : feval e h (.lenS x) = lenSF (x.ev e) := nr rfl
@[go_sem] theorem lenSF_str (s : List UInt8) : lenSF (.str s) = some (.int .i64 s.length) := nr rfl
def mmF (max : Bool) (x y : IV) : Option IV := match x, y with | .int k a, .int _ b => some (.int k (if max then (if b > a then b else a) else (if b < a then b else a))) | _, _ => none
@[go_sem] theorem fe_mm (m : Bool) (x y : CX) : feval e h (.mm m x y) = mmF m (x.ev e) (y.ev e) := nr rfl
@[go_sem] theorem mmF_max (k j : IntKind) (a b : Int) : mmF true (.int k a) (.int j b) = some (.int k (max a b)) := by
 simp only [mmF, if_true]; congr 2; split <;> omega
@[go_sem] theorem mmF_min (k j : IntKind) (a b : Int) : mmF false (.int k a) (.int j b) = some (.int k (min a b)) := by
 simp only [mmF, Bool.false_eq_true, if_false]; congr 2; split <;> omega
def boundF (len : Nat) (x : Option IV) (d : Nat) : Option Nat := match x with
 | none => some d
 | some x => match x with
  | .int _ n => if 0 ≤ n ∧ n ≤ len then some n.toNat else none
  | _ => none
@[go_sem] theorem boundF_none (len d : Nat) : boundF len none d = some d := nr rfl
theorem boundF_of {len d : Nat} {k : IntKind} {n : Int} (h0 : 0 ≤ n) (h1 : n ≤ len) : boundF len (some (.int k n)) d = some n.toNat := if_pos ⟨h0, h1⟩
theorem obound_eq (len : Nat) (x : Option CX) (d : Nat) : obound len x e d = boundF len (x.map (CX.ev e)) d := by cases x <;> rfl
def slcSF (x : IV) (lo hi : Option IV) : Option IV := match x with
 | .str s => match boundF s.length hi s.length with
  | some b => match boundF b lo 0 with
   | some a => some (.str ((s.take b).drop a))
   | none => none
  | none => none
 | _ => none
@[go_sem] theorem fe_slcS (x : CX) (lo hi : Option CX) : feval e h (.slcS x lo hi) = slcSF (x.ev e) (lo.map (CX.ev e)) (hi.map (CX.ev e)) := by
 simp only [feval, slcSF, obound_eq]; rfl
theorem slcSF_of {s : List UInt8} {lo hi : Option IV} {a b : Nat} (hb : boundF s.length hi s.length = some b) (ha : boundF b lo 0 = some a) : slcSF (.str s) lo hi = some (.str ((s.take b).drop a)) := by
 simp only [slcSF, hb, ha]
def slcF (h : IH) (sz : Nat) (x : IV) (lo hi : Option IV) : Option IV := match ilen x with
 | some n => match boundF n hi n with
  | some b => match boundF b lo 0 with
   | some a => islc h sz x a b none
   | none => none
  | none => none
 | none => none
@[go_sem] theorem fe_slc (sz : Nat) (x : CX) (lo hi : Option CX) : feval e h (.slc sz x lo hi none) = slcF h sz (x.ev e) (lo.map (CX.ev e)) (hi.map (CX.ev e)) := by
 simp only [feval, slcF, obound_eq]; rfl
theorem slcF_of {sz n a b : Nat} {x : IV} {lo hi : Option IV} (hn : ilen x = some n) (hb : boundF n hi n = some b) (ha : boundF b lo 0 = some a) : slcF h sz x lo hi = islc h sz x a b none := by
 simp only [slcF, hn, hb, ha]
def slc3F (h : IH) (sz : Nat) (x : IV) (lo hi : Option IV) (mx : IV) : Option IV := match ilen x with
 | some n => match boundF n (some mx) n with
  | some m => match boundF m hi n with
   | some b => match boundF b lo 0 with
    | some a => if hi.isSome then islc h sz x a b (some m) else none
    | none => none
   | none => none
  | none => none
 | none => none
@[go_sem] theorem fe_slc3 (sz : Nat) (x mx : CX) (lo hi : Option CX) : feval e h (.slc sz x lo hi (some mx)) = slc3F h sz (x.ev e) (lo.map (CX.ev e)) (hi.map (CX.ev e)) (mx.ev e) := by
 simp only [feval, slc3F, obound_eq, Option.map_some, Option.isSome_map]; rfl
@[go_sem] theorem islc_nil (sz : Nat) : islc h sz .nilslice 0 0 none = some .nilslice := nr rfl
@[go_sem] theorem islc_e (sz : Nat) (z : Bool) : islc h sz (.eslice z) 0 0 none = some (.eslice z) := by simp [islc]
theorem islc_some {sz l i n a b : Nat} (hab : a < b) (hb : b ≤ n) (hs : h.size l = some sz) : islc h sz (.slice l i n) a b none = some (.slice l (i + a) (b - a)) := by
 simp [islc, Nat.le_of_lt hab, hb, hs, Nat.ne_of_gt hab]
theorem islc_none {sz l i n a : Nat} (ha : a ≠ 0) (hb : a ≤ n) (hs : h.size l = some sz) : islc h sz (.slice l i n) a a none = some (.eslice false) := by
 simp [islc, hb, hs, ha]
theorem islc_zero {sz l i n : Nat} (hs : h.size l = some sz) : islc h sz (.slice l i n) 0 0 none = some (.slice l i 0) := by
 simp [islc, hs]
@[go_sem] theorem fe_mkif (t : Nat) (x : CX) : feval e h (.mkif t x) = some (.iface t (x.ev e)) := nr rfl
@[go_sem] theorem fe_mkf (f : Nat) (a c : List CX) : feval e h (.mkf f a c) = some (.func f (a.map (CX.ev e)) (c.map (CX.ev e))) := nr rfl
end
section
variable (k : IntKind) (a b : Int) (s t : List UInt8)
@[go_sem] theorem ib_add : ibin .add (.int k a) (.int k b) = some (.int k (wr k (a + b))) := if_pos rfl
@[go_sem] theorem ib_sub : ibin .sub (.int k a) (.int k b) = some (.int k (wr k (a - b))) := if_pos rfl
@[go_sem] theorem ib_mul : ibin .mul (.int k a) (.int k b) = some (.int k (wr k (a * b))) := if_pos rfl
theorem ib_rem (hb : b ≠ 0) : ibin .rem (.int k a) (.int k b) = some (.int k (a.tmod b)) := (if_pos rfl).trans (if_neg hb)
@[go_sem] theorem ib_and : ibin .and (.int k a) (.int k b) = some (.int k (bits .and k a b)) := if_pos rfl
@[go_sem] theorem ib_or : ibin .or (.int k a) (.int k b) = some (.int k (bits .or k a b)) := if_pos rfl
@[go_sem] theorem ib_xor : ibin .xor (.int k a) (.int k b) = some (.int k (bits .xor k a b)) := if_pos rfl
@[go_sem] theorem ib_andNot : ibin .andNot (.int k a) (.int k b) = some (.int k (bits .andNot k a b)) := if_pos rfl
@[go_sem] theorem ib_eql : ibin .eql (.int k a) (.int k b) = some (.bool (decide (a = b))) := if_pos rfl
@[go_sem] theorem ib_neq : ibin .neq (.int k a) (.int k b) = some (.bool (!decide (a = b))) := if_pos rfl
@[go_sem] theorem ib_lss : ibin .lss (.int k a) (.int k b) = some (.bool (decide (a < b))) := if_pos rfl
@[go_sem] theorem ib_leq : ibin .leq (.int k a) (.int k b) = some (.bool (decide (a ≤ b))) := if_pos rfl
@[go_sem] theorem ib_gtr : ibin .gtr (.int k a) (.int k b) = some (.bool (decide (b < a))) := if_pos rfl
@[go_sem] theorem ib_geq : ibin .geq (.int k a) (.int k b) = some (.bool (decide (b ≤ a))) := if_pos rfl
theorem ib_shl (j : IntKind) (hb : ¬ b < 0) : ibin .shl (.int k a) (.int j b) = some (.int k (wr k (a * 2 ^ (min b.toNat k.bits)))) := if_neg hb
theorem ib_shr (j : IntKind) (hb : ¬ b < 0) : ibin .shr (.int k a) (.int j b) = some (.int k (a.fdiv (2 ^ (min b.toNat k.bits)))) := if_neg hb
theorem ibs_add (hl : s.length + t.length ≤ 9223372036854775807) : ibin .add (.str s) (.str t) = some (.str (s ++ t)) := if_pos hl
@[go_sem] theorem ibs_eql : ibin .eql (.str s) (.str t) = some (.bool (decide (s = t))) := nr rfl
@[go_sem] theorem ibs_neq : ibin .neq (.str s) (.str t) = some (.bool (!decide (s = t))) := nr rfl
@[go_sem] theorem ibs_lss : ibin .lss (.str s) (.str t) = some (.bool (bless s t)) := nr rfl
@[go_sem] theorem ibs_leq : ibin .leq (.str s) (.str t) = some (.bool (bless s t || decide (s = t))) := nr rfl
@[go_sem] theorem ibs_gtr : ibin .gtr (.str s) (.str t) = some (.bool (!(bless s t || decide (s = t)))) := nr rfl
@[go_sem] theorem ibs_geq : ibin .geq (.str s) (.str t) = some (.bool (!bless s t)) := nr rfl
end


section
variable (h : IH) (o : IObj) (l : Nat)
@[go_sem] theorem push_n : (h.push o).n = h.n + 1 := nr rfl
@[go_sem] theorem set_n : (h.set l o).n = h.n := nr rfl
@[go_sem] theorem push_new : (h.push o).obj h.n = o := by simp [IH.push]
theorem push_old (hl : l < h.n) : (h.push o).obj l = h.obj l := by simp only [IH.push]; rw [if_neg (by omega)]
theorem push_at (m : Nat) (hm : m = h.n) : (h.push o).obj m = o := by subst hm; exact push_new h o
@[go_sem] theorem set_here : (h.set l o).obj l = o := by simp [IH.set]
theorem set_there (m : Nat) (hm : m ≠ l) : (h.set l o).obj m = h.obj m := by simp [IH.set, hm]
def cellO (o : IObj) (i k : Nat) : Option IV := match o with | .rows rs _ _ _ => (rs[i]?).bind (·[k]?) | _ => none
@[go_sem] theorem cell_eq (i k : Nat) : h.cell l i k = cellO (h.obj l) i k := by unfold IH.cell IH.row cellO; cases h.obj l <;> rfl
@[go_sem] theorem cellO_rows (rs : List (List IV)) (e sz : Nat) (ro : Bool) (i k : Nat) : cellO (.rows rs e sz ro) i k = (rs[i]?).bind (·[k]?) := nr rfl
def rowO (o : IObj) (i : Nat) : Option (List IV) := match o with | .rows rs _ _ _ => rs[i]? | _ => none
@[go_sem] theorem row_eq (i : Nat) : h.row l i = rowO (h.obj l) i := by unfold IH.row rowO; cases h.obj l <;> rfl
@[go_sem] theorem rowO_rows (rs : List (List IV)) (e sz : Nat) (ro : Bool) (i : Nat) : rowO (.rows rs e sz ro) i = rs[i]? := nr rfl
def sizeO (o : IObj) : Option Nat := match o with | .rows _ _ sz _ => some sz | _ => none
@[go_sem] theorem size_eq : h.size l = sizeO (h.obj l) := by unfold IH.size sizeO; cases h.obj l <;> rfl
@[go_sem] theorem sizeO_rows (rs : List (List IV)) (e sz : Nat) (ro : Bool) : sizeO (.rows rs e sz ro) = some sz := nr rfl
@[go_sem] theorem b2sO_rows (rs : List (List IV)) (e i n : Nat) (ro : Bool) : b2sO (.rows rs e 1 ro) i n = if i + n ≤ rs.length then (bytesOf ((rs.drop i).take n)).map .str else none := by simp [b2sO]
end
structure Ext (h h' : IH) : Prop where
 le : h.n ≤ h'.n
 obj : ∀ l, l < h.n → h'.obj l = h.obj l
theorem Ext.refl (h : IH) : Ext h h := ⟨Nat.le_refl _, fun _ _ => rfl⟩
theorem Ext.trans {a b c : IH} (h1 : Ext a b) (h2 : Ext b c) : Ext a c := ⟨Nat.le_trans h1.le h2.le, fun l hl => (h2.obj l (Nat.lt_of_lt_of_le hl h1.le)).trans (h1.obj l hl)⟩
theorem Ext.push {a b : IH} (h1 : Ext a b) (o : IObj) : Ext a (b.push o) := ⟨Nat.le_succ_of_le h1.le, fun l hl => (push_old b o l (Nat.lt_of_lt_of_le hl h1.le)).trans (h1.obj l hl)⟩
theorem Ext.set {a b : IH} (h1 : Ext a b) (l : Nat) (hl : a.n ≤ l) (o : IObj) : Ext a (b.set l o) := ⟨h1.le, fun m hm => (set_there b o l m (by omega)).trans (h1.obj m hm)⟩

section
variable (P : Program) (h : IH) (e : Env) (K : IV → IH → Prop)
@[go_sem] theorem cells_bool (b : Bool) : (IV.bool b).cells = [.bool b] := nr rfl
@[go_sem] theorem cells_int (k : IntKind) (n : Int) : (IV.int k n).cells = [.int k n] := nr rfl
@[go_sem] theorem cells_str (s : List UInt8) : (IV.str s).cells = [.str s] := nr rfl
@[go_sem] theorem cells_nilptr : (IV.nilptr).cells = [.nilptr] := nr rfl
@[go_sem] theorem cells_ptr (l i k : Nat) : (IV.ptr l i k).cells = [.ptr l i k] := nr rfl
@[go_sem] theorem cells_nilslice : (IV.nilslice).cells = [.nilslice] := nr rfl
@[go_sem] theorem cells_e (z : Bool) : (IV.eslice z).cells = [.eslice z] := nr rfl
@[go_sem] theorem cells_slice (l i k : Nat) : (IV.slice l i k).cells = [.slice l i k] := nr rfl
@[go_sem] theorem cells_nilmap : (IV.nilmap).cells = [.nilmap] := nr rfl
@[go_sem] theorem cells_map (l : Nat) : (IV.map l).cells = [.map l] := nr rfl
@[go_sem] theorem cells_nilfunc : (IV.nilfunc).cells = [.nilfunc] := nr rfl
@[go_sem] theorem cells_func (f : Nat) (a c : List IV) : (IV.func f a c).cells = [.func f a c] := nr rfl
@[go_sem] theorem cells_niliface : (IV.niliface).cells = [.niliface] := nr rfl
@[go_sem] theorem cells_iface (t : Nat) (v : IV) : (IV.iface t v).cells = [.iface t v] := nr rfl
@[go_sem] theorem cells_agg (cs : List IV) : (IV.agg cs).cells = cs := nr rfl
@[go_sem] theorem one_bool (b : Bool) : (IV.bool b).one = true := nr rfl
@[go_sem] theorem one_int (k : IntKind) (n : Int) : (IV.int k n).one = true := nr rfl
@[go_sem] theorem one_str (s : List UInt8) : (IV.str s).one = true := nr rfl
@[go_sem] theorem one_nilptr : (IV.nilptr).one = true := nr rfl
@[go_sem] theorem one_ptr (l i k : Nat) : (IV.ptr l i k).one = true := nr rfl
@[go_sem] theorem one_nilslice : (IV.nilslice).one = true := nr rfl
@[go_sem] theorem one_e (z : Bool) : (IV.eslice z).one = true := nr rfl
@[go_sem] theorem one_slice (l i k : Nat) : (IV.slice l i k).one = true := nr rfl
@[go_sem] theorem one_nilmap : (IV.nilmap).one = true := nr rfl
@[go_sem] theorem one_map (l : Nat) : (IV.map l).one = true := nr rfl
@[go_sem] theorem one_nilfunc : (IV.nilfunc).one = true := nr rfl
@[go_sem] theorem one_func (f : Nat) (a c : List IV) : (IV.func f a c).one = true := nr rfl
@[go_sem] theorem one_niliface : (IV.niliface).one = true := nr rfl
@[go_sem] theorem one_iface (t : Nat) (v : IV) : (IV.iface t v).one = true := nr rfl

theorem act_zero (el sz : Nat) (cs : List IV) : act P h e K (.zero el sz cs) = K (.ptr h.n 0 0) (h.push (.rows [cs] el sz false)) := nr rfl
def boxA (cs : List IV) (el sz : Nat) (h : IH) [K : HoldK] : Prop := cs.length = sz ∧ cs.all IV.one = true ∧ K.k (.ptr h.n 0 0) (h.push (.rows [cs] el sz false))
@[go_sem ↓] theorem act_box (el sz : Nat) (x : CX) : act P h e K (.box el sz x) = @boxA (x.ev e).cells el sz h ⟨K⟩ := nr rfl
theorem boxA_1 (v : IV) (hv : v.one = true) (el : Nat) (K : HoldK) : @boxA [v] el 1 h K = K.k (.ptr h.n 0 0) (h.push (.rows [[v]] el 1 false)) := by simp [boxA, hv]
theorem boxA_2 (v1 v2 : IV) (h1 : v1.one = true) (h2 : v2.one = true) (el : Nat) (K : HoldK) : @boxA [v1, v2] el 2 h K = K.k (.ptr h.n 0 0) (h.push (.rows [[v1, v2]] el 2 false)) := by simp [boxA, h1, h2]
theorem boxA_3 (v1 v2 v3 : IV) (h1 : v1.one = true) (h2 : v2.one = true) (h3 : v3.one = true) (el : Nat) (K : HoldK) : @boxA [v1, v2, v3] el 3 h K = K.k (.ptr h.n 0 0) (h.push (.rows [[v1, v2, v3]] el 3 false)) := by simp [boxA, h1, h2, h3]
def bslA (el sz : Nat) (zero : List IV) (len : Nat) (parts : List (Nat × IV)) (h : IH) [K : HoldK] : Prop :=
 if len = 0 then K.k (.eslice true) h else
  match layR (List.replicate len zero) sz parts with
  | some rows => (rows.all fun r => r.all IV.one) = true ∧ K.k (.slice h.n 0 len) (h.push (.rows rows el sz false))
  | none => False
@[go_sem ↓] theorem act_bslice (el sz : Nat) (z : List IV) (len : Nat) (ps : List (Nat × CX)) : act P h e K (.bslice el sz z len ps) = @bslA el sz z len (ps.map fun p => (p.1, p.2.ev e)) h ⟨K⟩ := nr rfl
@[go_sem] theorem bslA_0 (el sz : Nat) (z : List IV) (ps : List (Nat × IV)) (K : HoldK) : @bslA el sz z 0 ps h K = K.k (.eslice true) h := nr rfl
theorem bslA_of {el sz len : Nat} {z : List IV} {ps : List (Nat × IV)} {h : IH} {K : HoldK} (hl : len ≠ 0) {rows : List (List IV)} (hr : layR (List.replicate len z) sz ps = some rows) (h1 : ∀ r ∈ rows, ∀ v ∈ r, v.one = true)
  (hk : K.k (.slice h.n 0 len) (h.push (.rows rows el sz false))) : @bslA el sz z len ps h K := by
 unfold bslA
 rw [if_neg hl, hr]
 exact ⟨by simp only [List.all_eq_true]; exact h1, hk⟩
theorem bslA_1 (el sz : Nat) (z : List IV) (v : IV) (K : HoldK) : @bslA el sz z 1 [(0, v)] h K = (v.cells.length = sz ∧ v.cells.all IV.one = true ∧ K.k (.slice h.n 0 1) (h.push (.rows [v.cells] el sz false))) := by
 unfold bslA
 by_cases hv : v.cells.length = sz <;> simp [layR, hv]
def stO (n i k : Nat) (cs : List IV) (l : Nat) (o : IObj) (h : IH) [K : HoldK] : Prop :=
 match o with
 | .rows rs el sz false => match rs[i]? with
  | some row => cs.length = n ∧ k + n ≤ row.length ∧ cs.all IV.one = true ∧ K.k (.tuple []) (h.set l (.rows (rs.set i (wrt row k cs)) el sz false))
  | none => False
 | _ => False
def stA (n : Nat) (a : IV) (cs : List IV) (h : IH) [K : HoldK] : Prop := match a with | .ptr l i k => stO n i k cs l (h.obj l) h | _ => False
@[go_sem ↓] theorem act_st (n : Nat) (a x : CX) : act P h e K (.st n a x) = @stA n (a.ev e) (x.ev e).cells h ⟨K⟩ := nr rfl
@[go_sem] theorem stA_ptr (n l i k : Nat) (cs : List IV) (K : HoldK) : @stA n (.ptr l i k) cs h K = @stO n i k cs l (h.obj l) h K := nr rfl
theorem stO_of {n i k l : Nat} {cs row : List IV} {rs : List (List IV)} {el sz : Nat} {h : IH} {K : HoldK} (hr : rs[i]? = some row) (h1 : cs.length = n) (h2 : k + n ≤ row.length) (h3 : ∀ v ∈ cs, v.one = true)
  (hk : K.k (.tuple []) (h.set l (.rows (rs.set i (wrt row k cs)) el sz false))) : @stO n i k cs l (.rows rs el sz false) h K := by
 unfold stO
 simp only [hr]
 exact ⟨h1, h2, List.all_eq_true.2 h3, hk⟩
theorem stO_box {k l : Nat} {c : IV} {row : List IV} {el sz : Nat} {h : IH} {K : HoldK} (h2 : k < row.length) (h3 : c.one = true)
  (hk : K.k (.tuple []) (h.set l (.rows [row.set k c] el sz false))) : @stO 1 0 k [c] l (.rows [row] el sz false) h K :=
 stO_of (row := row) rfl rfl h2 (by simpa using h3) (by simpa [wrt] using hk)
def callA (P : Program) (f : Nat) (args : List IV) (h : IH) [K : HoldK] : Prop := ICalls P f args h K.k
@[go_sem ↓] theorem act_call (f : Nat) (as0 : List CX) : act P h e K (.call f as0) = @callA P f (as0.map (CX.ev e)) h ⟨K⟩ := nr rfl
theorem callA_of {P : Program} {f : Nat} {args : List IV} {h : IH} {K : HoldK} {Q : IV → IH → Prop} (hc : ICalls P f args h Q) (hk : ∀ v h', Q v h' → K.k v h') : @callA P f args h K := hc.mono hk
def callvA (P : Program) (f : IV) (args : List IV) (h : IH) [K : HoldK] : Prop := match f with | .func g first caps => ICalls P g (first ++ args ++ caps) h K.k | _ => False
@[go_sem ↓] theorem act_callv (f : CX) (as0 : List CX) : act P h e K (.callv f as0) = @callvA P (f.ev e) (as0.map (CX.ev e)) h ⟨K⟩ := nr rfl
@[go_sem] theorem callvA_func (g : Nat) (first caps args : List IV) (K : HoldK) : @callvA P (.func g first caps) args h K = @callA P g (first ++ args ++ caps) h K := nr rfl
def srcO (o : IObj) (sz i n : Nat) : Option (List (List IV)) := match o with | .rows rs _ sz' _ => if sz' = sz ∧ i + n ≤ rs.length then some ((rs.drop i).take n) else none | _ => none
@[go_sem] theorem src_nil (sz : Nat) : srcRows h sz .nilslice = some [] := nr rfl
@[go_sem] theorem src_e (sz : Nat) (z : Bool) : srcRows h sz (.eslice z) = some [] := nr rfl
@[go_sem] theorem src_sl (sz l i n : Nat) : srcRows h sz (.slice l i n) = srcO (h.obj l) sz i n := nr rfl
theorem srcO_whole {rs : List (List IV)} {e sz n : Nat} {ro : Bool} (hn : rs.length = n) : srcO (.rows rs e sz ro) sz 0 n = some rs := by simp [srcO, ← hn]
@[go_sem] theorem srcO_1 (r : List IV) (e sz : Nat) (ro : Bool) : srcO (.rows [r] e sz ro) sz 0 1 = some [r] := by simp [srcO]
def appA (h : IH) (el sz b : Nat) (x : IV) (ys : Option (List (List IV))) [K : HoldK] : Prop := match ys with | some ys => appK h el sz b x ys K.k | none => False
@[go_sem ↓] theorem act_app (el sz b : Nat) (x y : CX) : act P h e K (.app el sz b x y) = @appA h el sz b (x.ev e) (srcRows h sz (y.ev e)) ⟨K⟩ := by
 simp only [act, appA]; rfl
def appSA (h : IH) (el b : Nat) (x y : IV) [K : HoldK] : Prop := match y with | .str s => appK h el 1 b x (strRows s) K.k | _ => False
@[go_sem ↓] theorem act_appS (el b : Nat) (x y : CX) : act P h e K (.appS el b x y) = @appSA h el b (x.ev e) (y.ev e) ⟨K⟩ := nr rfl
@[go_sem] theorem appSA_str (el b : Nat) (x : IV) (s : List UInt8) (K : HoldK) : @appSA h el b x (.str s) K = @appA h el 1 b x (some (strRows s)) K := nr rfl
theorem appA_none {h : IH} {el sz b : Nat} {x : IV} {n : Nat} {K : HoldK} (hx : ilen x = some n) (hk : K.k x h) : @appA h el sz b x (some []) K := by
 unfold appA appK
 cases x <;> simp [ilen] at hx <;> simpa using hk
theorem appA_new {h : IH} {el sz b : Nat} {ys : List (List IV)} {K : HoldK} (hy : ys ≠ []) (hb : ys.length * b ≤ 140737488355328) (hk : K.k (.slice h.n 0 ys.length) (h.push (.rows ys el sz false))) : @appA h el sz b .nilslice (some ys) K := by
 unfold appA appK
 simp only [if_neg hy]
 exact ⟨hb, hk⟩
theorem appA_newe {h : IH} {el sz b : Nat} {ys : List (List IV)} {K : HoldK} (hy : ys ≠ []) (hb : ys.length * b ≤ 140737488355328) (hk : K.k (.slice h.n 0 ys.length) (h.push (.rows ys el sz false))) : @appA h el sz b (.eslice true) (some ys) K := by
 unfold appA appK
 simp only [if_neg hy]
 exact ⟨trivial, hb, hk⟩
theorem appA_own {h : IH} {el sz b l n : Nat} {rs ys : List (List IV)} {K : HoldK} (ho : h.obj l = .rows rs el sz false) (hn : rs.length = n) (hy : ys ≠ []) (hb : (n + ys.length) * b ≤ 140737488355328)
  (hk : K.k (.slice h.n 0 (n + ys.length)) ((h.set l .dead).push (.rows (rs ++ ys) el sz false))) : @appA h el sz b (.slice l 0 n) (some ys) K := by
 unfold appA appK
 simp only [if_neg hy, ho]
 exact ⟨trivial, trivial, trivial, hn, hb, hk⟩
def copyA (h : IH) (sz : Nat) (x : IV) (ys : Option (List (List IV))) [K : HoldK] : Prop := match ys with | some ys => copyK h sz x ys K.k | none => False
@[go_sem ↓] theorem act_copy (sz : Nat) (x y : CX) : act P h e K (.copy sz x y) = @copyA h sz (x.ev e) (srcRows h sz (y.ev e)) ⟨K⟩ := by
 simp only [act, copyA]; rfl
def copySA (h : IH) (x y : IV) [K : HoldK] : Prop := match y with | .str s => copyK h 1 x (strRows s) K.k | _ => False
@[go_sem ↓] theorem act_copyS (x y : CX) : act P h e K (.copyS x y) = @copySA h (x.ev e) (y.ev e) ⟨K⟩ := nr rfl
def mksA (el sz b : Nat) (z : List IV) (l c : IV) (h : IH) [K : HoldK] : Prop := match l, c with
 | .int _ l, .int _ c => 0 ≤ l ∧ l ≤ c ∧ (b : Int) * c ≤ 140737488355328 ∧ c ≤ 9223372036854775807 ∧
   (if c = 0 then K.k (.eslice true) h else K.k (.slice h.n 0 l.toNat) (h.push (.rows (List.replicate l.toNat z) el sz false)))
 | _, _ => False
@[go_sem ↓] theorem act_mks (el sz b : Nat) (z : List IV) (l c : CX) : act P h e K (.mks el sz b z l c) = @mksA el sz b z (l.ev e) (c.ev e) h ⟨K⟩ := nr rfl
theorem mksA_of {el sz b : Nat} {z : List IV} {k j : IntKind} {n : Nat} {h : IH} {K : HoldK} (h0 : n ≠ 0) (hb : b * n ≤ 140737488355328) (h63 : n ≤ 9223372036854775807) (hk : K.k (.slice h.n 0 n) (h.push (.rows (List.replicate n z) el sz false))) :
  @mksA el sz b z (.int k n) (.int j n) h K := by
 refine ⟨by omega, by omega, by rw [← Int.natCast_mul]; omega, by omega, ?_⟩
 rw [if_neg (by omega)]
 simpa using hk
theorem mksA_0 {el sz b : Nat} {z : List IV} {k j : IntKind} {h : IH} {K : HoldK} (hk : K.k (.eslice true) h) : @mksA el sz b z (.int k 0) (.int j 0) h K :=
 ⟨by omega, by omega, by omega, by omega, by rw [if_pos rfl]; exact hk⟩
def s2bA (el : Nat) (x : IV) (h : IH) [K : HoldK] : Prop := match x with
 | .str s => if s = [] then K.k (.eslice false) h else s.length ≤ 9223372036854775807 ∧ K.k (.slice h.n 0 s.length) (h.push (.rows (strRows s) el 1 false))
 | _ => False
@[go_sem ↓] theorem act_s2b (el : Nat) (x : CX) : act P h e K (.s2b el x) = @s2bA el (x.ev e) h ⟨K⟩ := nr rfl
end

section
variable (Q : IV → IH → Prop) (e : Env) (h : IH) (k k1 k2 k3 : FK)
def got2 (o1 o2 : Option IV) (h : IH) [K : HoldK] : Prop := match o1, o2 with | some v1, some v2 => K.k (.tuple [v1, v2]) h | _, _ => False
def got3 (o1 o2 o3 : Option IV) (h : IH) [K : HoldK] : Prop := match o1, o2, o3 with | some v1, some v2, some v3 => K.k (.tuple [v1, v2, v3]) h | _, _, _ => False
@[go_sem] theorem got2_some (v1 v2 : IV) (K : HoldK) : @got2 (some v1) (some v2) h K = K.k (.tuple [v1, v2]) h := nr rfl
@[go_sem] theorem got3_some (v1 v2 v3 : IV) (K : HoldK) : @got3 (some v1) (some v2) (some v3) h K = K.k (.tuple [v1, v2, v3]) h := nr rfl
@[go_sem ↓] theorem ret_0 : retK [] Q .ret e h = Q (.tuple []) h := nr rfl
@[go_sem ↓] theorem end_0 : retK [] Q .normal e h = Q (.tuple []) h := nr rfl
@[go_sem ↓] theorem ret_1 : retK [k] Q .ret e h = @got (feval e h k) h ⟨Q⟩ := by
 simp only [retK, resVs, got]; cases feval e h k <;> rfl
@[go_sem ↓] theorem end_1 : retK [k] Q .normal e h = @got (feval e h k) h ⟨Q⟩ := by
 simp only [retK, resVs, got]; cases feval e h k <;> rfl
@[go_sem ↓] theorem ret_2 : retK [k1, k2] Q .ret e h = @got2 (feval e h k1) (feval e h k2) h ⟨Q⟩ := by
 simp only [retK, resVs, got2]; cases feval e h k1 <;> cases feval e h k2 <;> rfl
@[go_sem ↓] theorem end_2 : retK [k1, k2] Q .normal e h = @got2 (feval e h k1) (feval e h k2) h ⟨Q⟩ := by
 simp only [retK, resVs, got2]; cases feval e h k1 <;> cases feval e h k2 <;> rfl
@[go_sem ↓] theorem ret_3 : retK [k1, k2, k3] Q .ret e h = @got3 (feval e h k1) (feval e h k2) (feval e h k3) h ⟨Q⟩ := by
 simp only [retK, resVs, got3]; cases feval e h k1 <;> cases feval e h k2 <;> cases feval e h k3 <;> rfl
@[go_sem ↓] theorem end_3 : retK [k1, k2, k3] Q .normal e h = @got3 (feval e h k1) (feval e h k2) (feval e h k3) h ⟨Q⟩ := by
 simp only [retK, resVs, got3]; cases feval e h k1 <;> cases feval e h k2 <;> cases feval e h k3 <;> rfl
@[go_sem] theorem env0_0 (a : IV) (l : List IV) : env0 (a :: l) 0 = a := nr rfl
@[go_sem] theorem env0_s (a : IV) (l : List IV) (n : Nat) : env0 (a :: l) (n + 1) = env0 l n := nr rfl
end

section
variable (P : Program) (ops : List COp) (bar : List Bool) (anc : List (List Nat)) (K : Env → IH → Prop) (e : Env) (h : IH)
@[go_sem ↓] theorem vcD_nil (done : List Nat) : vcD P ops bar anc done [] K e h = K e h := nr rfl
theorem vcD_cons (done : List Nat) (i : Nat) (r : List Nat) : vcD P ops bar anc done (i :: r) K e h = if bar.getD i true then vcOp P (ops.getD i default) (fun e' h' => againAll ops anc i e' h' done ∧ vcD P ops bar anc (i :: done) r K e' h') e h
  else vcOp P (ops.getD i default) (vcD P ops bar anc (i :: done) r K) e h := nr rfl
end

end Go.IW

namespace Go.IW
open Go.RowKit

theorem wr64 (n : Int) (h : -9223372036854775808 ≤ n ∧ n ≤ 9223372036854775807) : wr .i64 n = n := by
 unfold wr; rw [IntKind.wrap_i64]; omega
theorem wr64_succ (k : Nat) (h : k < 4611686018427387904) : IV.int .i64 (wr .i64 ((k : Int) + 1)) = .int .i64 ((k + 1 : Nat) : Int) := by
 rw [wr64 _ (by omega)]; rfl

theorem push_obj (h : IH) (o : IObj) (l : Nat) : (h.push o).obj l = if l = h.n then o else h.obj l := rfl
theorem set_obj (h : IH) (m : Nat) (o : IObj) (l : Nat) : (h.set m o).obj l = if l = m then o else h.obj l := rfl
theorem set_push {h : IH} {l : Nat} (hl : (l = h.n) = True) (a o : IObj) : (h.push a).set l o = h.push o := by
 have hl := of_eq_true hl
 subst hl
 unfold IH.set IH.push
 simp only [IH.mk.injEq, true_and]
 funext l
 split <;> rfl
theorem set_push_ne {h : IH} {l : Nat} (hl : (l = h.n) = False) (a o : IObj) : (h.push a).set l o = (h.set l o).push a := by
 unfold IH.set IH.push
 simp only [IH.mk.injEq, true_and]
 funext m
 by_cases h1 : m = l
 ·subst h1; simp [hl]
 ·simp [h1]
theorem set_set (h : IH) (l : Nat) (a o : IObj) : (h.set l a).set l o = h.set l o := by
 unfold IH.set
 simp only [IH.mk.injEq, true_and]
 funext m
 split <;> rfl

theorem one_eslice (z : Bool) : (IV.eslice z).one = true := nr rfl
theorem stO_1s {k l : Nat} {c : IV} {row : List IV} {el sz : Nat} {h : IH} {K : HoldK} (h2 : k < row.length) (h3 : c.one = true) :
  @stO 1 0 k [c] l (.rows [row] el sz false) h K = K.k (.tuple []) (h.set l (.rows [row.set k c] el sz false)) := by
 unfold stO
 simp only [List.getElem?_cons_zero, List.length_singleton, List.all_cons, List.all_nil, h3, Bool.and_true, sz0, true_and, wrt, Nat.succ_le_of_lt h2]
theorem stO_ws {n l : Nat} {cs row : List IV} {el sz : Nat} {h : IH} {K : HoldK} (h0 : cs.length = n) (h1 : row.length = n) (h3 : cs.all IV.one = true) :
  @stO n 0 0 cs l (.rows [row] el sz false) h K = K.k (.tuple []) (h.set l (.rows [cs] el sz false)) := by
 have hw : wrt row 0 cs = cs := by
  rw [wrt_eq _ _ _ (by omega), tz0, na0, List.drop_eq_nil_of_le (by omega), List.append_nil]
 unfold stO
 simp only [List.getElem?_cons_zero, h0, h3, sz0, true_and, hw, Nat.zero_add, h1, Nat.le_refl]
theorem boxA_s {cs : List IV} {el sz : Nat} {h : IH} {K : HoldK} (h0 : cs.length = sz) (h1 : cs.all IV.one = true) : @boxA cs el sz h K = K.k (.ptr h.n 0 0) (h.push (.rows [cs] el sz false)) := by
 unfold boxA
 simp only [h0, h1, true_and]

section
variable {P : Program} {ops : List COp} {bar : List Bool} {anc : List (List Nat)} {done r : List Nat} {i j : Nat} {K : Env → IH → Prop} {e : Env} {h : IH}
@[go_sem ↓] theorem vcD_free (hb : bar.getD i true = false) : vcD P ops bar anc done (i :: r) K e h = vcOp P (ops.getD i default) (vcD P ops bar anc (i :: done) r K) e h := by
 rw [vcD_cons, hb]; rfl
@[go_sem ↓] theorem vcD_bar (hb : bar.getD i true = true) : vcD P ops bar anc done (i :: r) K e h = vcOp P (ops.getD i default) (fun e' h' => againAll ops anc i e' h' done ∧ vcD P ops bar anc (i :: done) r K e' h') e h := by
 rw [vcD_cons, hb]; rfl
@[go_sem ↓] theorem vcT_fin : vcT P ops anc done .fin K e h = K e h := nr rfl
@[go_sem ↓] theorem vcT_stop : vcT P ops anc done .stop K e h = True := nr rfl
@[go_sem ↓] theorem vcT_fl (t : DT) : vcT P ops anc done (.fl i t) K e h = vcOp P (ops.getD i default) (vcT P ops anc (i :: done) t K) e h := nr rfl
@[go_sem ↓] theorem vcT_one (t : DT) : vcT P ops anc done (.br i t .stop) K e h = vcOp P (ops.getD i default) (fun e' h' => againAll ops anc i e' h' done ∧ vcT P ops anc (i :: done) t K e' h') e h := by
 simp only [vcT, and_true]
class HoldO where
 p : Prop
 q : Prop
def either [A : HoldO] : Prop := A.p ∧ A.q
theorem either_of {A : HoldO} (h1 : A.p) (h2 : A.q) : @either A := ⟨h1, h2⟩
@[go_sem ↓] theorem vcT_br (t t2 : DT) (j : Nat) (t3 : DT) : vcT P ops anc done (.br i t (.br j t2 t3)) K e h = @either ⟨vcOp P (ops.getD i default) (fun e' h' => againAll ops anc i e' h' done ∧ vcT P ops anc (i :: done) t K e' h') e h, vcT P ops anc done (.br j t2 t3) K e h⟩ := nr rfl
@[go_sem ↓] theorem againAll_nil : againAll ops anc i e h [] = True := nr rfl
@[go_sem ↓] theorem againAll_anc (hc : (anc.getD i []).contains j = true) : againAll ops anc i e h (j :: r) = againAll ops anc i e h r := by
 simp only [againAll, hc, true_or, true_and]
@[go_sem ↓] theorem againAll_no (hc : (anc.getD i []).contains j = false) : againAll ops anc i e h (j :: r) = (again (ops.getD j default) e h ∧ againAll ops anc i e h r) := by
 simp only [againAll, hc, Bool.false_eq_true, false_or]
@[go_sem] theorem again_x (d : Option Nat) (g : Option (Nat × Bool)) (x : EK) : again ⟨d, g, .x x⟩ e h = True := nr rfl
@[go_sem] theorem again_f (d : Nat) (k : FK) : again ⟨some d, none, .f k⟩ e h = (feval e h k = some (e d)) := nr rfl
end

structure SlR (h : IH) (sz : Nat) (v : IV) (rs : List (List IV)) : Prop where
 src : srcRows h sz v = some rs
 len : ilen v = some rs.length
 lt : ∀ l i n, v = .slice l i n → l < h.n

theorem SlR.one {h : IH} {sz : Nat} {v : IV} {rs : List (List IV)} (hs : SlR h sz v rs) : v.one = true := by
 have := hs.len
 cases v <;> simp [ilen] at this <;> rfl
theorem SlR.cells {h : IH} {sz : Nat} {v : IV} {rs : List (List IV)} (hs : SlR h sz v rs) : v.cells = [v] := by
 have := hs.len
 cases v <;> simp [ilen] at this <;> rfl
theorem SlR.lenF {h : IH} {sz : Nat} {v : IV} {rs : List (List IV)} (hs : SlR h sz v rs) : lenF v = some (.int .i64 rs.length) := by
 unfold IW.lenF; rw [hs.len]; rfl
theorem SlR.nil (h : IH) (sz : Nat) : SlR h sz .nilslice [] := ⟨rfl, rfl, fun _ _ _ h => by cases h⟩
theorem SlR.empty (h : IH) (sz : Nat) (z : Bool) : SlR h sz (.eslice z) [] := ⟨rfl, rfl, fun _ _ _ h => by cases h⟩
theorem SlR.whole {h : IH} {l n e sz : Nat} {rs : List (List IV)} {ro : Bool} (ho : h.obj l = .rows rs e sz ro) (hn : rs.length = n) (hl : l < h.n) : SlR h sz (.slice l 0 n) rs := by
 refine ⟨?_, by simp [ilen, hn], fun _ _ _ h => by cases h; exact hl⟩
 rw [src_sl, ho]; exact srcO_whole hn

theorem srcRows_live {h : IH} {sz l i n : Nat} {rs : List (List IV)} (hs : srcRows h sz (.slice l i n) = some rs) : ∃ rs0 e ro, h.obj l = .rows rs0 e sz ro ∧ i + n ≤ rs0.length ∧ rs = (rs0.drop i).take n := by
 simp only [srcRows] at hs
 split at hs
 ·rename_i rs0 e sz' ro ho
  split at hs
  ·rename_i hc
   obtain ⟨rfl, hc⟩ := hc
   exact ⟨rs0, e, ro, ho, hc, (Option.some.inj hs).symm⟩
  ·cases hs
 ·cases hs

theorem SlR.ext {h : IH} {sz : Nat} {v : IV} {rs : List (List IV)} (hs : SlR h sz v rs) {h' : IH} (he : Ext h h') : SlR h' sz v rs := by
 refine ⟨?_, hs.len, fun l i n hv => Nat.lt_of_lt_of_le (hs.lt l i n hv) he.le⟩
 have h1 := hs.src
 cases v with
 | slice l i n =>
  have := he.obj l (hs.lt l i n rfl)
  simp only [srcRows, this] at h1 ⊢
  exact h1
 | nilslice => exact h1
 | eslice z => exact h1
 | _ => simp [srcRows] at h1

theorem SlR.at {h : IH} {sz : Nat} {v : IV} {rs : List (List IV)} (hs : SlR h sz v rs) {m : Nat} {row : List IV} (hm : rs[m]? = some row) (k : IntKind) :
  ∃ l j, iadrF h sz v (.int k m) = some (.ptr l j 0) ∧ l < h.n ∧ rowO (h.obj l) j = some row := by
 have hlt : m < rs.length := (List.getElem?_eq_some_iff.1 hm).1
 have h1 := hs.src
 have h2 := hs.len
 cases v with
 | slice l i n =>
  obtain ⟨rs0, e, ro, ho, hc, rfl⟩ := srcRows_live h1
  simp [ilen] at h2
  have hn : m < n := by rw [h2]; simp at hlt ⊢; omega
  refine ⟨l, i + m, ?_, hs.lt _ _ _ rfl, ?_⟩
  ·rw [iadrF_of h (by omega) (by omega) (by rw [size_eq, ho]; rfl)]; simp
  ·rw [ho, rowO_rows]
   rw [List.getElem?_take, if_pos hn, List.getElem?_drop] at hm
   exact hm
 | nilslice => simp [srcRows] at h1; subst h1; simp at hm
 | eslice z => simp [srcRows] at h1; subst h1; simp at hm
 | _ => simp [srcRows] at h1

theorem cellO_row {o : IObj} {j : Nat} {row : List IV} (hr : rowO o j = some row) (k : Nat) : cellO o j k = row[k]? := by
 cases o with
 | dead => simp [rowO] at hr
 | rows rs e sz ro => simp only [rowO] at hr; simp only [cellO, hr]; try rfl
end Go.IW

namespace Go.IW
open Go.RowKit

abbrev FP := List (Nat × Nat)
abbrev RR (α : Type) := IH → List IV → α → FP → Prop

structure Same (h h' : IH) (fs : FP) : Prop where
 le : h.n ≤ h'.n
 size : ∀ p ∈ fs, sizeO (h'.obj p.1) = sizeO (h.obj p.1)
 row : ∀ p ∈ fs, rowO (h'.obj p.1) p.2 = rowO (h.obj p.1) p.2

theorem Same.refl (h : IH) (fs : FP) : Same h h fs := ⟨Nat.le_refl _, fun _ _ => rfl, fun _ _ => rfl⟩
theorem Same.trans {a b c : IH} {fs : FP} (h1 : Same a b fs) (h2 : Same b c fs) : Same a c fs :=
 ⟨Nat.le_trans h1.le h2.le, fun p hp => (h2.size p hp).trans (h1.size p hp), fun p hp => (h2.row p hp).trans (h1.row p hp)⟩
theorem Same.sub {h h' : IH} {fs gs : FP} (hs : Same h h' fs) (hg : ∀ p ∈ gs, p ∈ fs) : Same h h' gs :=
 ⟨hs.le, fun p hp => hs.size p (hg p hp), fun p hp => hs.row p (hg p hp)⟩
theorem Same.of_ext {h h' : IH} {fs : FP} (he : Ext h h') (hf : ∀ p ∈ fs, p.1 < h.n) : Same h h' fs :=
 ⟨he.le, fun p hp => by rw [he.obj _ (hf p hp)], fun p hp => by rw [he.obj _ (hf p hp)]⟩

structure Locl {α : Type} (sz : Nat) (R : RR α) : Prop where
 same : ∀ {h h' row x fs}, R h row x fs → Same h h' fs → R h' row x fs
 len : ∀ {h row x fs}, R h row x fs → row.length = sz
 one : ∀ {h row x fs}, R h row x fs → ∀ v ∈ row, v.one = true
 lt : ∀ {h row x fs}, R h row x fs → ∀ p ∈ fs, p.1 < h.n

def Sl {α : Type} (R : RR α) (sz : Nat) (h : IH) (v : IV) (xs : List α) (fs : FP) : Prop :=
 (xs = [] ∧ fs = [] ∧ (v = .nilslice ∨ ∃ z, v = .eslice z)) ∨
 ∃ l i, xs ≠ [] ∧ v = .slice l i xs.length ∧ l < h.n ∧ sizeO (h.obj l) = some sz ∧
  ∃ fss : Nat → FP, (∀ j x, xs[j]? = some x → ∃ row, rowO (h.obj l) (i + j) = some row ∧ R h row x (fss j)) ∧
   fs = (List.range xs.length).flatMap fun j => (l, i + j) :: fss j

theorem Sl.one {α : Type} {R : RR α} {sz : Nat} {h : IH} {v : IV} {xs : List α} {fs : FP} (hs : Sl R sz h v xs fs) : v.one = true := by
 rcases hs with ⟨_, _, rfl | ⟨z, rfl⟩⟩ | ⟨l, i, _, rfl, _⟩ <;> rfl
theorem Sl.cells {α : Type} {R : RR α} {sz : Nat} {h : IH} {v : IV} {xs : List α} {fs : FP} (hs : Sl R sz h v xs fs) : v.cells = [v] := by
 rcases hs with ⟨_, _, rfl | ⟨z, rfl⟩⟩ | ⟨l, i, _, rfl, _⟩ <;> rfl
theorem Sl.ilen {α : Type} {R : RR α} {sz : Nat} {h : IH} {v : IV} {xs : List α} {fs : FP} (hs : Sl R sz h v xs fs) : ilen v = some xs.length := by
 rcases hs with ⟨rfl, _, rfl | ⟨z, rfl⟩⟩ | ⟨l, i, _, rfl, _⟩ <;> rfl
theorem Sl.lenF {α : Type} {R : RR α} {sz : Nat} {h : IH} {v : IV} {xs : List α} {fs : FP} (hs : Sl R sz h v xs fs) : lenF v = some (.int .i64 xs.length) := by
 unfold IW.lenF; rw [hs.ilen]; rfl
theorem Sl.nil {α : Type} {R : RR α} {sz : Nat} {h : IH} : Sl R sz h .nilslice [] [] := .inl ⟨rfl, rfl, .inl rfl⟩
theorem Sl.empty {α : Type} {R : RR α} {sz : Nat} {h : IH} (z : Bool) : Sl R sz h (.eslice z) [] [] := .inl ⟨rfl, rfl, .inr ⟨z, rfl⟩⟩

theorem Sl.same {α : Type} {R : RR α} {sz : Nat} (hR : Locl sz R) {h h' : IH} {v : IV} {xs : List α} {fs : FP} (hs : Sl R sz h v xs fs) (he : Same h h' fs) : Sl R sz h' v xs fs := by
 rcases hs with hs | ⟨l, i, h0, rfl, hl, hz, fss, hf, rfl⟩
 ·exact .inl hs
 ·refine .inr ⟨l, i, h0, rfl, Nat.lt_of_lt_of_le hl he.le, ?_, fss, fun j x hx => ?_, rfl⟩
  ·have hpos : 0 < xs.length := List.length_pos_iff.2 h0
   rw [← hz]
   exact he.size (l, i + 0) (List.mem_flatMap.2 ⟨0, by simpa using hpos, by simp⟩)
  ·have hj : j < xs.length := (List.getElem?_eq_some_iff.1 hx).1
   obtain ⟨row, hr, hR'⟩ := hf j x hx
   refine ⟨row, ?_, hR.same hR' (he.sub fun p hp => List.mem_flatMap.2 ⟨j, by simpa using hj, by simp [hp]⟩)⟩
   rw [← hr]
   exact he.row (l, i + j) (List.mem_flatMap.2 ⟨j, by simpa using hj, by simp⟩)
theorem Sl.lt {α : Type} {R : RR α} {sz : Nat} (hR : Locl sz R) {h : IH} {v : IV} {xs : List α} {fs : FP} (hs : Sl R sz h v xs fs) : ∀ p ∈ fs, p.1 < h.n := by
 rcases hs with ⟨_, rfl, _⟩ | ⟨l, i, h0, rfl, hl, hz, fss, hf, rfl⟩
 ·simp
 ·intro p hp
  obtain ⟨j, hj, hp⟩ := List.mem_flatMap.1 hp
  have hj' : j < xs.length := by simpa using hj
  rcases List.mem_cons.1 hp with rfl | hp
  ·exact hl
  ·obtain ⟨row, hr, hR'⟩ := hf j _ (List.getElem?_eq_getElem hj')
   exact hR.lt hR' p hp

theorem iadrF_nat {h : IH} {sz l i n k : Nat} {q : IntKind} (hk : k < n) (hz : sizeO (h.obj l) = some sz) : iadrF h sz (.slice l i n) (.int q k) = some (.ptr l (i + k) 0) := by
 have := iadrF_of (h := h) (j := i) (k := q) (m := (k : Int)) (n := n) (by omega) (by omega) (by rw [size_eq]; exact hz : h.size l = some sz)
 simpa using this
theorem Sl.at {α : Type} {R : RR α} {sz : Nat} {h : IH} {v : IV} {xs : List α} {fs : FP} (hs : Sl R sz h v xs fs) {m : Nat} {x : α} (hm : xs[m]? = some x) (k : IntKind) :
  ∃ l j row gs, iadrF h sz v (.int k m) = some (.ptr l j 0) ∧ l < h.n ∧ rowO (h.obj l) j = some row ∧ R h row x gs ∧ (∀ p ∈ gs, p ∈ fs) ∧ (l, j) ∈ fs := by
 have hlt : m < xs.length := (List.getElem?_eq_some_iff.1 hm).1
 rcases hs with ⟨rfl, _, _⟩ | ⟨l, i, h0, rfl, hl, hz, fss, hf, rfl⟩
 ·simp at hm
 ·obtain ⟨row, hr, hR⟩ := hf m x hm
  refine ⟨l, i + m, row, fss m, ?_, hl, hr, hR, fun p hp => List.mem_flatMap.2 ⟨m, by simpa using hlt, by simp [hp]⟩, List.mem_flatMap.2 ⟨m, by simpa using hlt, by simp⟩⟩
  have := iadrF_of (h := h) (j := i) (k := k) (m := (m : Int)) (n := xs.length) (by omega) (by omega) (by rw [size_eq]; exact hz : h.size l = some sz)
  simpa using this


def putO (o : IObj) (i : Nat) (row : List IV) : IObj := match o with | .rows rs e sz ro => .rows (rs.set i row) e sz ro | .dead => .dead
def IH.put (h : IH) (l i : Nat) (row : List IV) : IH := h.set l (putO (h.obj l) i row)

theorem put_n (h : IH) (l i : Nat) (row : List IV) : (h.put l i row).n = h.n := nr rfl
end Go.IW

namespace Go.IW
open Go.RowKit

structure At (h : IH) (p : Nat) (o : IObj) : Prop where
 lt : p < h.n
 eq : h.obj p = o
theorem At.ext {h h' : IH} {p : Nat} {o : IObj} (a : At h p o) (e : Ext h h') : At h' p o := ⟨Nat.lt_of_lt_of_le a.lt e.le, (e.obj p a.lt).trans a.eq⟩
theorem At.new (h : IH) (o : IObj) : At (h.push o) h.n o := ⟨Nat.lt_succ_self _, push_new _ _⟩

def IV.at_ (v : IV) (m : Nat) : Prop := ∃ i n, v = .slice m i n
structure Turn (v : IV) (h h' : IH) : Prop where
 le : h.n ≤ h'.n
 obj : ∀ m, m < h.n → ¬ v.at_ m → h'.obj m = h.obj m
theorem Turn.refl (v : IV) (h : IH) : Turn v h h := ⟨Nat.le_refl _, fun _ _ _ => rfl⟩
theorem Turn.trans {v : IV} {a b c : IH} (h1 : Turn v a b) (h2 : Turn v b c) : Turn v a c :=
 ⟨Nat.le_trans h1.le h2.le, fun m hm hv => (h2.obj m (Nat.lt_of_lt_of_le hm h1.le) hv).trans (h1.obj m hm hv)⟩
theorem Turn.of_ext {v : IV} {a b : IH} (h1 : Ext a b) : Turn v a b := ⟨h1.le, fun m hm _ => h1.obj m hm⟩

def Own (lo hi : Nat) (h : IH) (el sz : Nat) (v : IV) (rs : List (List IV)) : Prop :=
 (rs = [] ∧ (v = .nilslice ∨ v = .eslice true)) ∨ ∃ l, rs ≠ [] ∧ v = .slice l 0 rs.length ∧ lo ≤ l ∧ l < hi ∧ hi ≤ h.n ∧ h.obj l = .rows rs el sz false

section
variable {lo hi lo' hi' : Nat} {h h' : IH} {el sz : Nat} {v w : IV} {rs : List (List IV)}
theorem Own.nil : Own lo hi h el sz .nilslice [] := .inl ⟨rfl, .inl rfl⟩
theorem Own.empty : Own lo hi h el sz (.eslice true) [] := .inl ⟨rfl, .inr rfl⟩
theorem Own.mk {l : Nat} (h0 : rs ≠ []) (h1 : lo ≤ l) (h2 : l < hi) (h3 : hi ≤ h.n) (h4 : h.obj l = .rows rs el sz false) : Own lo hi h el sz (.slice l 0 rs.length) rs :=
 .inr ⟨l, h0, rfl, h1, h2, h3, h4⟩
theorem Own.sl (ho : Own lo hi h el sz v rs) : SlR h sz v rs := by
 rcases ho with ⟨rfl, rfl | rfl⟩ | ⟨l, _, rfl, _, h2, h3, h4⟩
 ·exact SlR.nil _ _
 ·exact SlR.empty _ _ _
 ·exact SlR.whole h4 rfl (by omega)
theorem Own.one (ho : Own lo hi h el sz v rs) : v.one = true := ho.sl.one
theorem Own.cells (ho : Own lo hi h el sz v rs) : v.cells = [v] := ho.sl.cells
theorem Own.lenF (ho : Own lo hi h el sz v rs) : lenF v = some (.int .i64 rs.length) := ho.sl.lenF
theorem Own.ext (ho : Own lo hi h el sz v rs) (e : Ext h h') : Own lo hi h' el sz v rs := by
 rcases ho with ho | ⟨l, h0, rfl, h1, h2, h3, h4⟩
 ·exact .inl ho
 ·exact .inr ⟨l, h0, rfl, h1, h2, Nat.le_trans h3 e.le, (e.obj l (by omega)).trans h4⟩
theorem Own.wide (ho : Own lo hi h el sz v rs) (w1 : lo' ≤ lo) (w2 : hi ≤ hi') (w3 : hi' ≤ h.n) : Own lo' hi' h el sz v rs := by
 rcases ho with ho | ⟨l, h0, rfl, h1, h2, h3, h4⟩
 ·exact .inl ho
 ·exact .inr ⟨l, h0, rfl, by omega, by omega, w3, h4⟩
theorem Own.at_ {m : Nat} (ho : Own lo hi h el sz v rs) (hv : v.at_ m) : lo ≤ m ∧ m < hi := by
 rcases ho with ⟨_, rfl | rfl⟩ | ⟨l, h0, rfl, h1, h2, h3, h4⟩
 ·obtain ⟨i, n, h⟩ := hv; cases h
 ·obtain ⟨i, n, h⟩ := hv; cases h
 ·obtain ⟨i, n, h⟩ := hv; cases h; exact ⟨h1, h2⟩
theorem Own.set (ho : Own lo hi h el sz v rs) {m : Nat} (hm : m < lo ∨ hi ≤ m) (o : IObj) : Own lo hi (h.set m o) el sz v rs := by
 rcases ho with ho | ⟨l, h0, rfl, h1, h2, h3, h4⟩
 ·exact .inl ho
 ·exact .inr ⟨l, h0, rfl, h1, h2, h3, (set_there _ _ _ _ (by omega)).trans h4⟩
theorem Own.turn {rs' : List (List IV)} {el' sz' : Nat} (ho : Own lo hi h el sz v rs) (hw : Own lo' hi' h el' sz' w rs') (hd : hi ≤ lo' ∨ hi' ≤ lo) (t : Turn w h h') : Own lo hi h' el sz v rs := by
 rcases ho with ho | ⟨l, h0, rfl, h1, h2, h3, h4⟩
 ·exact .inl ho
 ·exact .inr ⟨l, h0, rfl, h1, h2, Nat.le_trans h3 t.le, (t.obj l (by omega) (fun hv => by have := hw.at_ hv; omega)).trans h4⟩
theorem At.turn {p : Nat} {o : IObj} (a : At h p o) (hw : Own lo hi h el sz w rs) (hd : p < lo ∨ hi ≤ p) (t : Turn w h h') : At h' p o :=
 ⟨Nat.lt_of_lt_of_le a.lt t.le, (t.obj p a.lt (fun hv => by have := hw.at_ hv; omega)).trans a.eq⟩
theorem SlR.turn {rs' : List (List IV)} {sz' : Nat} (hs : SlR h sz v rs) (hlo : ∀ l i n, v = .slice l i n → l < lo) (hw : Own lo hi h el sz' w rs') (t : Turn w h h') : SlR h' sz v rs := by
 refine ⟨?_, hs.len, fun l i n hv => Nat.lt_of_lt_of_le (hs.lt l i n hv) t.le⟩
 have h1 := hs.src
 cases v with
 | slice l i n =>
  have hl := hlo l i n rfl
  have := t.obj l (hs.lt l i n rfl) (fun hv => by have := hw.at_ hv; omega)
  simp only [srcRows, this] at h1 ⊢
  exact h1
 | nilslice => exact h1
 | eslice z => exact h1
 | _ => simp [srcRows] at h1
end

structure Arg (lo : Nat) (h : IH) (sz : Nat) (v : IV) (rs : List (List IV)) : Prop where
 sl : SlR h sz v rs
 lt : ∀ l i n, v = .slice l i n → l < lo
theorem Arg.of {h : IH} {sz : Nat} {v : IV} {rs : List (List IV)} (hs : SlR h sz v rs) : Arg h.n h sz v rs := ⟨hs, hs.lt⟩
theorem Arg.ext {lo : Nat} {h h' : IH} {sz : Nat} {v : IV} {rs : List (List IV)} (a : Arg lo h sz v rs) (e : Ext h h') : Arg lo h' sz v rs := ⟨a.sl.ext e, a.lt⟩
theorem Arg.turn {lo l0 hi : Nat} {h h' : IH} {el sz sz' : Nat} {v w : IV} {rs rs' : List (List IV)} (a : Arg lo h sz v rs) (hw : Own l0 hi h el sz' w rs') (hd : lo ≤ l0) (t : Turn w h h') : Arg lo h' sz v rs :=
 ⟨a.sl.turn (fun l i n hv => Nat.lt_of_lt_of_le (a.lt l i n hv) hd) hw t, a.lt⟩

theorem Own.over {lo hi l el n : Nat} {h : IH} {sz : Nat} {rs : List (List IV)} (hn : rs.length = n) (h0 : n ≠ 0) (h1 : lo ≤ l) (h2 : l < hi) (h3 : hi ≤ h.n) : Own lo hi (h.set l (.rows rs el sz false)) el sz (.slice l 0 n) rs := by
 subst hn
 exact .inr ⟨l, fun hr => h0 (by simp [hr]), rfl, h1, h2, h3, set_here _ _ _⟩
theorem Turn.set {l i n : Nat} {h : IH} (o : IObj) : Turn (.slice l i n) h (h.set l o) :=
 ⟨Nat.le_refl _, fun m _ hv => set_there _ _ _ _ (fun e => hv ⟨i, n, by rw [e]⟩)⟩

theorem Ext.turn {a b c : IH} {lo hi el sz : Nat} {w : IV} {rs : List (List IV)} (e : Ext a b) (hw : Own lo hi b el sz w rs) (hlo : a.n ≤ lo) (t : Turn w b c) : Ext a c :=
 ⟨Nat.le_trans e.le t.le, fun l hl => (t.obj l (Nat.lt_of_lt_of_le hl e.le) (fun hv => by have := hw.at_ hv; omega)).trans (e.obj l hl)⟩

def iadrO (o : IObj) (sz l i n : Nat) (m : Int) : Option IV := if 0 ≤ m ∧ m < n ∧ sizeO o = some sz then some (.ptr l (i + m.toNat) 0) else none
theorem iadrF_sl (h : IH) (sz l i n : Nat) (q : IntKind) (m : Int) : iadrF h sz (.slice l i n) (.int q m) = iadrO (h.obj l) sz l i n m := by
 unfold iadrO
 simp only [iadrF, size_eq]
theorem iadrO_rows {rs : List (List IV)} {e sz l i n : Nat} {ro : Bool} {m : Int} (h0 : 0 ≤ m) (h1 : m < n) : iadrO (.rows rs e sz ro) sz l i n m = some (.ptr l (i + m.toNat) 0) := if_pos ⟨h0, h1, rfl⟩
theorem iadrO_nat {rs : List (List IV)} {e sz l i n k : Nat} {ro : Bool} (h1 : k < n) : iadrO (.rows rs e sz ro) sz l i n (k : Int) = some (.ptr l (i + k) 0) := by
 rw [iadrO_rows (by omega) (by omega)]; simp
theorem iadrO_0 {rs : List (List IV)} {e sz l i n : Nat} {ro : Bool} (h1 : n ≠ 0) : iadrO (.rows rs e sz ro) sz l i n 0 = some (.ptr l i 0) := by
 rw [iadrO_rows (by omega) (by omega)]; simp

theorem Own.app {lo hi : Nat} {h : IH} {el sz b : Nat} {v : IV} {rs ys : List (List IV)} {K : HoldK} (ho : Own lo hi h el sz v rs) (hy : ys ≠ []) (hb : (rs.length + ys.length) * b ≤ 140737488355328)
  (hk : ∀ v' h', Own h.n (h.n + 1) h' el sz v' (rs ++ ys) → Turn v h h' → h'.n = h.n + 1 → v'.one = true → v'.cells = [v'] → K.k v' h') : @appA h el sz b v (some ys) K := by
 have hne : rs ++ ys ≠ [] := fun hx => hy (List.append_eq_nil_iff.1 hx).2
 rcases ho with ⟨rfl, rfl | rfl⟩ | ⟨l, h0, rfl, h1, h2, h3, h4⟩
 ·exact appA_new hy (by simpa using hb) (hk _ _ (.inr ⟨h.n, hne, rfl, Nat.le_refl _, Nat.lt_succ_self _, Nat.le_refl _, push_new _ _⟩) (Turn.of_ext ((Ext.refl _).push _)) rfl rfl rfl)
 ·exact appA_newe hy (by simpa using hb) (hk _ _ (.inr ⟨h.n, hne, rfl, Nat.le_refl _, Nat.lt_succ_self _, Nat.le_refl _, push_new _ _⟩) (Turn.of_ext ((Ext.refl _).push _)) rfl rfl rfl)
 ·refine appA_own h4 rfl hy hb (hk _ _ (.inr ⟨h.n, hne, by simp, Nat.le_refl _, Nat.lt_succ_self _, Nat.le_refl _, push_new _ _⟩) ?_ rfl rfl rfl)
  exact ⟨Nat.le_succ _, fun m hm hv => by
   rw [push_old _ _ _ (by rw [set_n]; exact hm), set_there _ _ _ _ (fun e => hv ⟨0, rs.length, by rw [e]⟩)]⟩

theorem lay_nil (z : List IV) : lay z [] = some z := nr rfl
theorem lay_1 {z : List IV} {off : Nat} {v : IV} {r : List (Nat × Nat × IV)} (hv : v.one = true) (hl : off < z.length) : lay z ((off, 1, v) :: r) = lay (z.set off v) r := by
 have hc : v.cells = [v] := by cases v <;> first | rfl | cases hv
 rw [lay, hc, if_pos ⟨rfl, hl⟩, set_eq_take _ _ _ hl]
theorem lay_w {z cs : List IV} {n : Nat} {r : List (Nat × Nat × IV)} (h1 : cs.length = n) (h2 : z.length = n) : lay z ((0, n, .agg cs) :: r) = lay cs r := by
 have hc : (IV.agg cs).cells = cs := rfl
 rw [lay, hc, if_pos ⟨h1, by omega⟩, tz0, na0, List.drop_eq_nil_of_le (by omega), List.append_nil]

theorem At.set {h : IH} {p q : Nat} {o o' : IObj} (a : At h q o) (hq : q ≠ p) : At (h.set p o') q o := ⟨a.lt, (set_there _ _ _ _ hq).trans a.eq⟩
theorem At.here {h : IH} {p : Nat} {o o' : IObj} (a : At h p o) : At (h.set p o') p o' := ⟨a.lt, set_here _ _ _⟩

theorem Ext.ext {a b c : IH} (h1 : Ext a b) (h2 : Ext b c) : Ext a c := h1.trans h2

end Go.IW

namespace Go.IW
open Go.RowKit

theorem ext_calls {P : Program} {f : Nat} {fn : Func} {en : Array Value → Sem Value} (hf : P.funcs[f]? = some fn) (hname : (fn.name == "runtime.NumGoroutine") = false) (hb : fn.body.isNone = true) (hn : Extern.findNext fn = none) (he : Extern.find fn = some en)
  {args : List IV} {h : IH} {v : IV} (hr : ∀ (ρ : List RLoc) (args' : Array Value) (w : World), LRel ρ args'.toList args → ∃ v', (en args').run P w = .ok v' w ∧ VRel ρ v' v) : ICalls P f args h fun r h' => r = v ∧ h' = h := by
 intro ρ B w args' _ hw ha
 obtain ⟨v', h1, h2⟩ := hr ρ args' w ha
 rw [run_callFunc_extern hf hname hb hn he, h1]
 exact ⟨ρ, v, h, List.prefix_refl _, hw, h2, Below.refl B w, rfl, rfl⟩

theorem args2 {ρ : List RLoc} {args' : Array Value} {a b : IV} (h : LRel ρ args'.toList [a, b]) : ∃ x y, args' = #[x, y] ∧ VRel ρ x a ∧ VRel ρ y b := by
 have hl := h.1
 match args', hl with
 | ⟨[x, y]⟩, _ => exact ⟨x, y, rfl, h.head, h.tail.head⟩

theorem str_rel {ρ : List RLoc} {x : Value} {s : List UInt8} (h : VRel ρ x (.str s)) : ∃ b : ByteArray, x = .string b ∧ b.data.toList = s := by
 generalize hv : IV.str s = v at h
 cases h <;> cases hv
 exact ⟨_, rfl, rfl⟩

theorem idxByte_calls {P : Program} {f : Nat} {fn : Func} (hf : P.funcs[f]? = some fn) (hname : (fn.name == "runtime.NumGoroutine") = false) (hb : fn.body.isNone = true) (hn : Extern.findNext fn = none) (he : Extern.find fn = some Extern.BytealgIndexByte.indexByte)
  (h : IH) (s : List UInt8) (c : Int) : ICalls P f [.str s, .int .u8 c] h fun r h' => r = .int .i64 (Lib.indexByte s c.toNat.toUInt8) ∧ h' = h := by
 refine ext_calls hf hname hb hn he fun ρ args' w ha => ?_
 obtain ⟨x, y, rfl, hx, hy⟩ := args2 ha
 obtain ⟨b, rfl, rfl⟩ := str_rel hx
 cases hy
 exact ⟨_, Lib.run_indexByteString b c w, .int _ _⟩
theorem cntByte_calls {P : Program} {f : Nat} {fn : Func} (hf : P.funcs[f]? = some fn) (hname : (fn.name == "runtime.NumGoroutine") = false) (hb : fn.body.isNone = true) (hn : Extern.findNext fn = none) (he : Extern.find fn = some Extern.BytealgCount.count)
  (h : IH) (s : List UInt8) (c : Int) : ICalls P f [.str s, .int .u8 c] h fun r h' => r = .int .i64 (Lib.countByte s c.toNat.toUInt8) ∧ h' = h := by
 refine ext_calls hf hname hb hn he fun ρ args' w ha => ?_
 obtain ⟨x, y, rfl, hx, hy⟩ := args2 ha
 obtain ⟨b, rfl, rfl⟩ := str_rel hx
 cases hy
 exact ⟨_, Lib.run_countString b c w, .int _ _⟩

def cutAt (c : UInt8) : List UInt8 → List (List UInt8)
 | [] => [[]]
 | b :: r => if b == c then [] :: cutAt c r else match cutAt c r with
  | [] => [[b]]
  | p :: ps => (b :: p) :: ps
theorem cutAt_ne (c : UInt8) : ∀ l, cutAt c l ≠ []
 | [] => by simp [cutAt]
 | b :: r => by
  simp only [cutAt]
  split
  ·simp
  ·split <;> simp
theorem cutAt_len (c : UInt8) : ∀ l, (cutAt c l).length = l.count c + 1
 | [] => by simp [cutAt]
 | b :: r => by
  have i := cutAt_len c r
  simp only [cutAt, List.count_cons]
  split
  ·simp [i]
  ·split
   ·rename_i h; exact absurd h (cutAt_ne c r)
   ·rename_i p ps h; rw [h] at i; simpa using i
theorem cutAt_none (c : UInt8) : ∀ {l : List UInt8}, Lib.indexByte l c = -1 → cutAt c l = [l]
 | [], _ => rfl
 | b :: r, h => by
  have hge := Lib.indexByte_ge r c
  simp only [Lib.indexByte] at h
  split at h
  ·simp at h
  ·rename_i hb
   split at h
   ·rename_i h1
    simp only [cutAt, hb, cutAt_none c (l := r) (by simpa using h1)]
    simp
   ·omega
theorem cutAt_some (c : UInt8) : ∀ {l : List UInt8} {m : Nat}, Lib.indexByte l c = m → m < l.length ∧ cutAt c l = l.take m :: cutAt c (l.drop (m + 1)) ∧ l.count c = (l.drop (m + 1)).count c + 1
 | [], m, h => by simp [Lib.indexByte] at h
 | b :: r, m, h => by
  have hge := Lib.indexByte_ge r c
  simp only [Lib.indexByte] at h
  split at h
  ·rename_i hb
   have : m = 0 := by omega
   subst this
   have hb' : b = c := by simpa using hb
   subst hb'
   simp [cutAt]
  ·rename_i hb
   split at h
   ·omega
   ·rename_i h1
    have h2 : Lib.indexByte r c ≠ -1 := by simpa using h1
    have hm : m = (m - 1) + 1 := by omega
    obtain ⟨i1, i2, i3⟩ := cutAt_some c (l := r) (m := m - 1) (by omega)
    rw [hm]
    refine ⟨by simp; omega, ?_, ?_⟩
    ·simp only [cutAt, hb, i2, ts0, ds0]; simp
    ·have hb2 : ¬ (b == c) = true := hb
     rw [ds0, List.count_cons, if_neg hb2, i3, Nat.add_zero]

theorem cutAt_snoc (c : UInt8) : ∀ (l : List UInt8) (out : List (List UInt8)) (cur : List UInt8) (b : UInt8), cutAt c l = out ++ [cur] → cutAt c (l ++ [b]) = if b == c then out ++ [cur, []] else out ++ [cur ++ [b]]
 | [], out, cur, b, h => by
  have : out = [] ∧ cur = [] := by
   cases out with
   | nil => simp [cutAt] at h; exact ⟨rfl, h⟩
   | cons x xs => simp [cutAt] at h
  obtain ⟨rfl, rfl⟩ := this
  by_cases hb : (b == c) = true <;> simp [cutAt, hb]
 | a :: r, out, cur, b, h => by
  have hne := cutAt_ne c r
  simp only [ca0, cutAt] at h ⊢
  by_cases ha : (a == c) = true
  ·rw [if_pos ha] at h ⊢
   cases out with
   | nil => simp at h; exact absurd h.2 hne
   | cons x xs =>
    simp at h
    obtain ⟨rfl, h⟩ := h
    rw [cutAt_snoc c r xs cur b h]
    by_cases hb : (b == c) = true <;> simp [hb]
  ·rw [if_neg ha] at h ⊢
   cases hr : cutAt c r with
   | nil => exact absurd hr hne
   | cons p ps =>
    rw [hr] at h
    simp only at h
    cases out with
    | nil =>
     simp at h
     obtain ⟨rfl, rfl⟩ := h
     rw [cutAt_snoc c r [] p b hr]
     by_cases hb : (b == c) = true <;> simp [hb]
    | cons x xs =>
     simp at h
     obtain ⟨rfl, rfl⟩ := h
     rw [cutAt_snoc c r (p :: xs) cur b hr]
     by_cases hb : (b == c) = true <;> simp [hb]

theorem cells_one {v : IV} (hv : v.one = true) : v.cells = [v] := by cases v <;> first | rfl | cases hv
theorem bslA_2 {h : IH} {el : Nat} {z a b : IV} {K : HoldK} (ha : a.one = true) (hb : b.one = true) : @bslA el 1 [z] 2 [(0, a), (1, b)] h K = K.k (.slice h.n 0 2) (h.push (.rows [[a], [b]] el 1 false)) := by
 unfold bslA
 simp [layR, cells_one ha, cells_one hb, ha, hb]
theorem srcO_2 (a b : List IV) (e sz : Nat) (ro : Bool) : srcO (.rows [a, b] e sz ro) sz 0 2 = some [a, b] := by simp [srcO]
theorem s2bA_some {h : IH} {el : Nat} {s : List UInt8} {K : HoldK} (h0 : s ≠ []) (hl : s.length ≤ 9223372036854775807) : @s2bA el (.str s) h K = K.k (.slice h.n 0 s.length) (h.push (.rows (strRows s) el 1 false)) := by
 unfold s2bA
 simp [h0, hl]
theorem SlR.part {h : IH} {sz : Nat} {v : IV} {rs : List (List IV)} (hs : SlR h sz v rs) {a b : Nat} (hab : a ≤ b) (hb : b ≤ rs.length) : ∃ v', islc h sz v a b none = some v' ∧ SlR h sz v' ((rs.take b).drop a) := by
 have h1 := hs.src
 have h2 := hs.len
 cases v with
 | slice l i n =>
  obtain ⟨rs0, e, ro, ho, hc, rfl⟩ := srcRows_live h1
  simp [ilen] at h2
  have hn : b ≤ n := by simp at hb; omega
  have hsz : h.size l = some sz := by rw [size_eq, ho]; rfl
  by_cases hlt : a < b
  ·refine ⟨_, islc_some h hlt hn hsz, ?_, ?_, fun l' i' n' hv => by cases hv; exact hs.lt _ _ _ rfl⟩
   ·rw [src_sl, ho]
    have : i + a + (b - a) ≤ rs0.length := by omega
    simp only [srcO, true_and, this, if_true]
    congr 1
    rw [List.take_take, List.drop_take, List.drop_drop, show min b n = b by omega]
   ·simp [ilen]; omega
  ·obtain rfl : a = b := by omega
   have : (List.take a (List.take n (List.drop i rs0))).drop a = [] := List.drop_eq_nil_of_le (by simp; omega)
   rw [this]
   by_cases ha : a = 0
   ·subst ha
    refine ⟨_, islc_zero h hsz, ?_, rfl, fun l' i' n' hv => by cases hv; exact hs.lt _ _ _ rfl⟩
    rw [src_sl, ho]
    simp [srcO]
    omega
   ·exact ⟨_, islc_none h ha hn hsz, SlR.empty _ _ _⟩
 | nilslice =>
  simp [srcRows] at h1; subst h1
  have hb0 : b = 0 := by simpa using hb
  obtain rfl : a = 0 := by omega
  subst hb0
  exact ⟨.nilslice, by simp [islc], by simpa using SlR.nil h sz⟩
 | eslice z =>
  simp [srcRows] at h1; subst h1
  have hb0 : b = 0 := by simpa using hb
  obtain rfl : a = 0 := by omega
  subst hb0
  exact ⟨.eslice z, by simp [islc], by simpa using SlR.empty h sz z⟩
 | _ => simp [ilen] at h2
theorem SlR.lo {h : IH} {sz : Nat} {v : IV} {rs : List (List IV)} (hs : SlR h sz v rs) {a : Nat} {q : IntKind} (ha : a ≤ rs.length) : ∃ v', slcF h sz v (some (.int q (a : Int))) none = some v' ∧ SlR h sz v' (rs.drop a) := by
 obtain ⟨v', h1, h2⟩ := hs.part ha (Nat.le_refl _)
 rw [List.take_length] at h2
 refine ⟨v', ?_, h2⟩
 rw [slcF_of h hs.len rfl (boundF_of (by omega) (by omega))]
 simpa using h1
theorem SlR.hi {h : IH} {sz : Nat} {v : IV} {rs : List (List IV)} (hs : SlR h sz v rs) {b : Nat} {q : IntKind} (hb : b ≤ rs.length) : ∃ v', slcF h sz v none (some (.int q (b : Int))) = some v' ∧ SlR h sz v' (rs.take b) := by
 obtain ⟨v', h1, h2⟩ := hs.part (Nat.zero_le b) hb
 rw [dz0] at h2
 refine ⟨v', ?_, h2⟩
 rw [slcF_of h hs.len (boundF_of (by omega) (by omega)) rfl]
 simpa using h1
theorem SlR.lohi {h : IH} {sz : Nat} {v : IV} {rs : List (List IV)} (hs : SlR h sz v rs) {a b : Nat} {q q' : IntKind} (hab : a ≤ b) (hb : b ≤ rs.length) : ∃ v', slcF h sz v (some (.int q (a : Int))) (some (.int q' (b : Int))) = some v' ∧ SlR h sz v' ((rs.take b).drop a) := by
 obtain ⟨v', h1, h2⟩ := hs.part hab hb
 refine ⟨v', ?_, h2⟩
 rw [slcF_of h hs.len (boundF_of (by omega) (by omega)) (boundF_of (by omega) (by simp; omega))]
 simpa using h1
theorem bytesOf_strRows : ∀ s : List UInt8, bytesOf (strRows s) = some s
 | [] => rfl
 | b :: r => by
  have i := bytesOf_strRows r
  have : strRows (b :: r) = [.int .u8 b.toNat] :: strRows r := rfl
  rw [this, bytesOf, i]
  simp
theorem SlR.b2s {h : IH} {v : IV} {s : List UInt8} (hs : SlR h 1 v (strRows s)) : b2sF h v = some (.str s) := by
 have h1 := hs.src
 cases v with
 | slice l i n =>
  obtain ⟨rs0, e, ro, ho, hc, hr⟩ := srcRows_live h1
  rw [b2sF_slice, ho, b2sO_rows, if_pos hc, ← hr, bytesOf_strRows]; rfl
 | nilslice => simp [srcRows, strRows] at h1; subst h1; rfl
 | eslice z => simp [srcRows, strRows] at h1; subst h1; rfl
 | _ => simp [srcRows] at h1

structure But (b : Nat) (v : IV) (h h' : IH) : Prop where
 le : h.n ≤ h'.n
 obj : ∀ m, m < h.n → m ≠ b → ¬ v.at_ m → h'.obj m = h.obj m
theorem But.refl (b : Nat) (v : IV) (h : IH) : But b v h h := ⟨Nat.le_refl _, fun _ _ _ _ => rfl⟩
theorem nil_at (m : Nat) : ¬ IV.at_ .nilslice m := by rintro ⟨i, n, h⟩; cases h
theorem But.trans {p : Nat} {v : IV} {a b c : IH} (h1 : But p v a b) (h2 : But p v b c) : But p v a c :=
 ⟨Nat.le_trans h1.le h2.le, fun m hm hp hv => (h2.obj m (Nat.lt_of_lt_of_le hm h1.le) hp hv).trans (h1.obj m hm hp hv)⟩
theorem But.of_ext {p : Nat} {v : IV} {a b : IH} (e : Ext a b) : But p v a b := ⟨e.le, fun m hm _ _ => e.obj m hm⟩
theorem But.set {p : Nat} {v : IV} {a b : IH} (h1 : But p v a b) (o : IObj) : But p v a (b.set p o) :=
 ⟨h1.le, fun m hm hp hv => (set_there _ _ _ _ hp).trans (h1.obj m hm hp hv)⟩
theorem But.ext0 {a b c : IH} {p : Nat} (t : But p .nilslice b c) (e : Ext a b) (hp : a.n ≤ p) : Ext a c :=
 ⟨Nat.le_trans e.le t.le, fun l hl => (t.obj l (Nat.lt_of_lt_of_le hl e.le) (by omega) (nil_at l)).trans (e.obj l hl)⟩
theorem But.at0 {b c : IH} {p q : Nat} {o : IObj} (t : But p .nilslice b c) (a : At b q o) (hp : q ≠ p) : At c q o :=
 ⟨Nat.lt_of_lt_of_le a.lt t.le, (t.obj q a.lt hp (nil_at q)).trans a.eq⟩
theorem SlR.but {h h' : IH} {sz sz2 e p : Nat} {q : List (List IV)} {ro : Bool} {v : IV} {rs : List (List IV)} (hs : SlR h sz v rs) (t : But p .nilslice h h') (hp : h.obj p = .rows q e sz2 ro) (hne : sz ≠ sz2) : SlR h' sz v rs := by
 have h1 := hs.src
 refine ⟨?_, hs.len, fun l i n hv => Nat.lt_of_lt_of_le (hs.lt l i n hv) t.le⟩
 cases v with
 | slice l i n =>
  have hl := hs.lt l i n rfl
  have hlp : l ≠ p := by
   rintro rfl
   simp only [srcRows, hp] at h1
   split at h1
   ·rename_i hc; exact hne hc.1.symm
   ·cases h1
  have := t.obj l hl hlp (nil_at l)
  simp only [srcRows, this] at h1 ⊢
  exact h1
 | nilslice => exact h1
 | eslice z => exact h1
 | _ => simp [srcRows] at h1

def numB (bs : List UInt8) : Int := bs.foldl (fun n b => n * 256 + b.toNat) 0
theorem numB_snoc (a : List UInt8) (b : UInt8) : numB (a ++ [b]) = numB a * 256 + b.toNat := by simp [numB]
theorem numB_bound : ∀ (n : Nat) (a : List UInt8), a.length ≤ n → 0 ≤ numB a ∧ numB a < 256 ^ n
 | 0, a, h => by
  have : a = [] := List.length_eq_zero_iff.1 (by omega)
  subst this; simp [numB]
 | n + 1, a, h => by
  by_cases ha : a = []
  ·subst ha
   refine ⟨by simp [numB], ?_⟩
   have : (0 : Int) < 256 ^ (n + 1) := Int.pow_pos (by omega)
   simpa [numB] using this
  ·have e := List.dropLast_concat_getLast ha
   have i := numB_bound n a.dropLast (by simp; omega)
   have hb : ((a.getLast ha).toNat : Int) < 256 := by have := (a.getLast ha).toNat_lt; omega
   rw [← e, numB_snoc]
   refine ⟨by omega, ?_⟩
   rw [Int.pow_succ]
   omega
theorem or_join {x c : Int} (h0 : 0 ≤ x) (h1 : x < 36028797018963968) (c0 : 0 ≤ c) (c1 : c < 256) : bits .or .i64 (x * 256) c = x * 256 + c := by
 refine bits_join .i64 63 (by decide) (fun n hn0 hn1 => by rw [IntKind.wrap_i64]; omega) 8 (x * 256) c (by omega) (by omega) (by omega) c0 (by omega) (by omega)

end Go.IW

set_option autoImplicit false
namespace Go.IW
open Go
variable {P : Program}

theorem vcOp_mono {o : COp} {K K' : Env → IH → Prop} (hK : ∀ e h, K e h → K' e h) {e : Env} {h : IH} (hv : vcOp P o K e h) : vcOp P o K' e h :=
 vcOp_move (fun _ _ => rfl) (fun _ _ hk => hK _ _ hk) hv
theorem vcOps_mono : ∀ {l : List COp} {K K' : Env → IH → Prop}, (∀ e h, K e h → K' e h) → ∀ {e : Env} {h : IH}, vcOps P l K e h → vcOps P l K' e h
 | [], _, _, hK, _, _, hv => hK _ _ hv
 | _ :: _, _, _, hK, _, _, hv => vcOp_mono (fun _ _ hk => vcOps_mono hK hk) hv
theorem vcD_mono {ops : List COp} {bar : List Bool} {anc : List (List Nat)} : ∀ {l done : List Nat} {K K' : Env → IH → Prop}, (∀ e h, K e h → K' e h) → ∀ {e : Env} {h : IH}, vcD P ops bar anc done l K e h → vcD P ops bar anc done l K' e h
 | [], _, _, _, hK, _, _, hv => hK _ _ hv
 | i :: r, done, _, _, hK, _, _, hv => by
  unfold vcD at hv ⊢
  split at hv
  ·rename_i hb
   rw [if_pos hb]
   exact vcOp_mono (fun _ _ hk => ⟨hk.1, vcD_mono hK hk.2⟩) hv
  ·rename_i hb
   rw [if_neg hb]
   exact vcOp_mono (fun _ _ hk => vcD_mono hK hk) hv
theorem vcT_mono {ops : List COp} {anc : List (List Nat)} : ∀ {t : DT} {done : List Nat} {K K' : Env → IH → Prop}, (∀ e h, K e h → K' e h) → ∀ {e : Env} {h : IH}, vcT P ops anc done t K e h → vcT P ops anc done t K' e h
 | .fin, _, _, _, hK, _, _, hv => hK _ _ hv
 | .fl _ _, _, _, _, hK, _, _, hv => vcOp_mono (fun _ _ hk => vcT_mono hK hk) hv
 | .br _ _ _, _, _, _, hK, _, _, hv => ⟨vcOp_mono (fun _ _ hk => ⟨hk.1, vcT_mono hK hk.2⟩) hv.1, vcT_mono hK hv.2⟩
 | .stop, _, _, _, _, _, _, _ => trivial
theorem vc_mono : ∀ {c : CC} {K K' : EPost}, (∀ x e h, K x e h → K' x e h) → ∀ {e : Env} {h : IH}, vc P c K e h → vc P c K' e h
 | .skip, _, _, hK, _, _, hv => hK _ _ _ hv
 | .reg _, _, _, hK, _, _, hv => vcOps_mono (hK .normal) hv
 | .dreg _ _ _ _, _, _, hK, _, _, hv => vcD_mono (hK .normal) hv
 | .treg _ _ _, _, _, hK, _, _, hv => vcT_mono (hK .normal) hv
 | .seq a b, _, _, hK, _, _, hv => vc_mono (c := a) (fun x e h hk => by
   cases x
   ·exact vc_mono (c := b) hK hk
   all_goals exact hK _ _ _ hk) hv
 | .cond c a b, _, _, hK, _, _, hv => by
  unfold vc vcCond at hv ⊢
  split at hv
  ·exact ⟨fun hb => vc_mono hK (hv.1 hb), fun hb => vc_mono hK (hv.2 hb)⟩
  ·exact hv.elim
 | .block i a, _, _, hK, _, _, hv => vc_mono (c := a) (fun x e h hk => by
   unfold blockK at hk ⊢
   split at hk
   ·split at hk
    ·rename_i hb; rw [if_pos hb]; exact hK _ _ _ hk
    ·rename_i hb; rw [if_neg hb]; exact hK _ _ _ hk
   ·exact hK _ _ _ hk) hv
 | .loop a, _, _, hK, _, _, ⟨I, h0, hr⟩ => ⟨I, h0, fun n e h hi => vc_mono (c := a) (fun x e h hk => by
   cases x
   ·exact hk
   all_goals exact hK _ _ _ hk) (hr n e h hi)⟩
 | .exit i, _, _, hK, _, _, hv => hK _ _ _ hv
 | .ret, _, _, hK, _, _, hv => hK _ _ _ hv

theorem vc_cut {a b : CC} {K : EPost} {e : Env} {h : IH} (J : Env → IH → Prop) (ha : vc P a (seqK J K) e h) (hb : ∀ e' h', J e' h' → vc P b K e' h') : vc P (.seq a b) K e h :=
 vc_mono (c := a) (fun x e h hk => by
  cases x
  ·exact hb _ _ hk
  all_goals exact hk) ha
theorem vc_cut2 {a b c : CC} {K : EPost} {e : Env} {h : IH} (J : Env → IH → Prop) (ha : vc P (.seq a b) (seqK J K) e h) (hb : ∀ e' h', J e' h' → vc P c K e' h') : vc P (.seq a (.seq b c)) K e h :=
 vc_mono (c := a) (K := seqK (vc P b (seqK J K)) (seqK J K)) (fun x e h hk => by
  cases x
  ·exact vc_cut (a := b) (b := c) J hk hb
  all_goals exact hk) ha
def CC.split : Nat → CC → CC × CC
 | n + 1, .seq a b => (.seq a (CC.split n b).1, (CC.split n b).2)
 | _, c => (.skip, c)
theorem vc_split : ∀ (n : Nat) {c : CC} {K : EPost} {e : Env} {h : IH} (J : Env → IH → Prop), vc P (c.split n).1 (seqK J K) e h → (∀ e' h', J e' h' → vc P (c.split n).2 K e' h') → vc P c K e h
 | 0, c, _, _, _, _, ha, hb => by
  have e1 : c.split 0 = (.skip, c) := by cases c <;> rfl
  rw [e1] at ha hb
  exact hb _ _ ha
 | n + 1, .seq a b, K, _, _, J, ha, hb =>
  vc_mono (c := a) (K := seqK (vc P (b.split n).1 (seqK J K)) (seqK J K)) (fun x e h hk => by
   cases x
   ·exact vc_split n J hk hb
   all_goals exact hk) ha
 | _ + 1, .skip, _, _, _, _, ha, hb => hb _ _ ha
 | _ + 1, .reg _, _, _, _, _, ha, hb => hb _ _ ha
 | _ + 1, .dreg _ _ _ _, _, _, _, _, ha, hb => hb _ _ ha
 | _ + 1, .treg _ _ _, _, _, _, _, ha, hb => hb _ _ ha
 | _ + 1, .cond _ _ _, _, _, _, _, ha, hb => hb _ _ ha
 | _ + 1, .block _ _, _, _, _, _, ha, hb => hb _ _ ha
 | _ + 1, .loop _, _, _, _, _, ha, hb => hb _ _ ha
 | _ + 1, .exit _, _, _, _, _, ha, hb => hb _ _ ha
 | _ + 1, .ret, _, _, _, _, ha, hb => hb _ _ ha

theorem islc_ext {h h' : IH} {sz : Nat} {v : IV} {rs : List (List IV)} (hs : SlR h sz v rs) (he : Ext h h') (a b : Nat) (m : Option Nat) : islc h' sz v a b m = islc h sz v a b m := by
 cases v with
 | slice l i n =>
  have e1 : h'.size l = h.size l := by rw [size_eq, size_eq, he.obj l (hs.lt l i n rfl)]
  simp only [islc, e1]
 | _ => rfl
theorem slcF_ext {h h' : IH} {sz : Nat} {v : IV} {rs : List (List IV)} (hs : SlR h sz v rs) (he : Ext h h') (lo hi : Option IV) : slcF h' sz v lo hi = slcF h sz v lo hi := by
 simp only [slcF, islc_ext hs he]
theorem iadrF_ext {h h' : IH} {sz : Nat} {v : IV} {rs : List (List IV)} (hs : SlR h sz v rs) (he : Ext h h') (i : IV) : iadrF h' sz v i = iadrF h sz v i := by
 cases v with
 | slice l j n =>
  have e1 : h'.size l = h.size l := by rw [size_eq, size_eq, he.obj l (hs.lt l j n rfl)]
  cases i <;> simp only [iadrF, e1]
 | _ => cases i <;> rfl
end Go.IW

set_option autoImplicit false
namespace Go.IW
open Go
variable {P : Program}

def againG (c : IV) (want : Bool) (A B : Prop) : Prop := match c with | .bool b => if b = want then A else B | .tuple [] => B | _ => False
@[go_sem] theorem again_g (d t : Nat) (want : Bool) (k : FK) (e : Env) (h : IH) : again ⟨some d, some (t, want), .f k⟩ e h = againG (e t) want (feval e h k = some (e d)) (e d = .tuple []) := by
  unfold again againG
  first
  | rfl
  | (simp only
     generalize e t = c
     cases c with
     | tuple l => cases l <;> rfl
     | _ => rfl)
@[go_sem] theorem againG_tt (A B : Prop) : againG (.bool true) true A B = A := nr rfl
@[go_sem] theorem againG_tf (A B : Prop) : againG (.bool true) false A B = B := nr rfl
@[go_sem] theorem againG_ft (A B : Prop) : againG (.bool false) true A B = B := nr rfl
@[go_sem] theorem againG_ff (A B : Prop) : againG (.bool false) false A B = A := nr rfl
@[go_sem] theorem againG_u (w : Bool) (A B : Prop) : againG (.tuple []) w A B = B := nr rfl

theorem wrt_all : ∀ {z r : List IV}, r.length = z.length → wrt z 0 r = r
 | [], [], _ => rfl
 | [_], [_], _ => rfl
 | [], _ :: _, h => by simp at h
 | _ :: _, [], h => by simp at h
 | [_], _ :: _ :: _, h => by simp at h
 | _ :: _ :: _, [_], h => by simp at h
 | a :: b :: z, c :: d :: r, h => by
  have h' : r.length = z.length := by simpa using h
  simp [wrt, h']

end Go.IW

namespace Go.IW
open Go.RowKit

inductive Sh where
 | nil
 | bool
 | int (k : IntKind)
 | str
 | slice (e : Sh)
 | cat (a b : Sh)

def Sh.sz : Sh → Nat
 | .nil => 0
 | .cat a b => a.sz + b.sz
 | _ => 1

def shFields (P : Program) (g : TypeId → Option Sh) (t : TypeId) : List Field → Nat → Option Sh
 | [], n => if n = P.cellsOf t then some .nil else none
 | f :: r, n =>
  if f.offset = n then
   match g f.type with
   | some s => if s.sz = P.cellsOf f.type then (shFields P g t r (n + s.sz)).map (Sh.cat s) else none
   | none => none
  else none

def shOf (P : Program) : Nat → TypeId → Option Sh
 | 0, _ => none
 | n + 1, t =>
  match P.underlying t with
  | some .bool => some .bool
  | some (.int k) => some (.int k)
  | some .string => some .str
  | some (.slice e) => match shOf P n e with
   | some s => if s.sz = P.cellsOf e ∧ 0 < s.sz then some (.slice s) else none
   | none => none
  | some (.struct fs) => shFields P (shOf P n) t fs.toList 0
  | _ => none

def Fits (h : IH) : Sh → List IV → Prop
 | .nil, cs => cs = []
 | .bool, cs => ∃ b, cs = [.bool b]
 | .int k, cs => ∃ n, cs = [.int k n] ∧ (Lit.int k n).wf = true
 | .str, cs => ∃ s, cs = [.str s] ∧ s.length ≤ maxLen
 | .slice e, cs => ∃ v rs, cs = [v] ∧ SlR h e.sz v rs ∧ rs.length ≤ maxLen ∧ ∀ r ∈ rs, Fits h e r
 | .cat a b, cs => ∃ x y, cs = x ++ y ∧ Fits h a x ∧ Fits h b y

theorem Fits.len {h : IH} : ∀ {s : Sh} {cs : List IV}, Fits h s cs → cs.length = s.sz
 | .nil, _, e => by obtain rfl := e; rfl
 | .bool, _, ⟨b, e⟩ => by subst e; rfl
 | .int k, _, ⟨n, e, _⟩ => by subst e; rfl
 | .str, _, ⟨n, e, _⟩ => by subst e; rfl
 | .slice s, _, ⟨v, rs, e, _⟩ => by subst e; rfl
 | .cat a b, _, ⟨x, y, e, h1, h2⟩ => by subst e; simp [Sh.sz, Fits.len h1, Fits.len h2]

theorem Fits.one {h : IH} : ∀ {s : Sh} {cs : List IV}, Fits h s cs → ∀ v ∈ cs, v.one = true
 | .nil, _, e => by obtain rfl := e; simp
 | .bool, _, ⟨b, e⟩ => by subst e; simp [IV.one]
 | .int k, _, ⟨n, e, _⟩ => by subst e; simp [IV.one]
 | .str, _, ⟨n, e, _⟩ => by subst e; simp [IV.one]
 | .slice s, _, ⟨v, rs, e, hs, _⟩ => by subst e; simp [hs.one]
 | .cat a b, _, ⟨x, y, e, h1, h2⟩ => by
  subst e
  intro v hv
  rcases List.mem_append.1 hv with hv | hv
  ·exact Fits.one h1 v hv
  ·exact Fits.one h2 v hv

theorem Fits.ext {h h' : IH} (he : Ext h h') : ∀ {s : Sh} {cs : List IV}, Fits h s cs → Fits h' s cs
 | .nil, _, e => e
 | .bool, _, e => e
 | .int k, _, e => e
 | .str, _, e => e
 | .slice s, _, ⟨v, rs, e, hs, hl, ha⟩ => ⟨v, rs, e, hs.ext he, hl, fun r hr => Fits.ext he (ha r hr)⟩
 | .cat a b, _, ⟨x, y, e, h1, h2⟩ => ⟨x, y, e, Fits.ext he h1, Fits.ext he h2⟩

def AllRo (h : IH) : Prop := ∀ l, (h.obj l).own = false

theorem WRel.pushRo {ρ : List RLoc} {B : Nat} {w : World} {h : IH} {o : IObj} {r : RLoc} (hw : WRel ρ B w h) (ha : AllRo h) (hro : o.own = false)
  (ho : ORel (ρ ++ [r]) B w r o) : WRel (ρ ++ [r]) B w (h.push o) := by
 have hp : ρ <+: ρ ++ [r] := List.prefix_append _ _
 have hlen : ρ.length = h.n := hw.len
 refine ⟨by simp [IH.push, hlen], hw.base, ?_, ?_⟩
 ·intro l r' hr
  by_cases hl : l = h.n
  ·subst hl
   rw [← hlen, List.getElem?_concat_length] at hr
   obtain rfl := Option.some.inj hr
   simpa [IH.push] using ho
  ·have hlt : l < ρ.length := by have := (List.getElem?_eq_some_iff.1 hr).1; simp at this; omega
   rw [List.getElem?_append_left hlt] at hr
   simp only [IH.push, hl, if_false]
   exact (hw.obj l r' hr).mono hp
 ·intro l l' r1 r2 h1 h2 hne hown _
  exfalso
  simp only [IH.push] at hown
  split at hown
  ·rw [hro] at hown; cases hown
  ·rw [ha] at hown; cases hown

theorem AllRo.push {h : IH} {o : IObj} (ha : AllRo h) (ho : o.own = false) : AllRo (h.push o) := by
 intro l
 simp only [IH.push]
 split
 ·exact ho
 ·exact ha l

theorem range_mapM {α : Type} {f : Nat → Option α} {n : Nat} {r : List α} (h : (List.range n).mapM f = some r) : r.length = n ∧ ∀ i, i < n → f i = r[i]? := by
 have hl := Go.mapM_len h
 rw [List.length_range] at hl
 refine ⟨hl, ?_⟩
 clear hl
 induction n generalizing r with
 | zero => intro i hi; omega
 | succ n ih =>
  rw [List.range_succ, List.mapM_append] at h
  cases ha : (List.range n).mapM f with
  | none => rw [ha] at h; cases h
  | some a =>
   rw [ha] at h
   cases hb : f n with
   | none => simp [hb] at h
   | some b =>
    simp [hb] at h
    subst h
    have hl := Go.mapM_len ha
    rw [List.length_range] at hl
    intro i hi
    by_cases hin : i < n
    ·rw [ih ha i hin, List.getElem?_append_left (by omega)]
    ·obtain rfl : i = n := by omega
     rw [List.getElem?_append_right (by omega), hl, hb]; simp

theorem cells_at {w : World} {a : Addr} {n : Nat} {cs : List Value} (h : w.cells? 0 a n = some cs) : cs.length = n ∧ ∀ i, i < n → w.cell? (a.add i) = cs[i]? := by
 unfold World.cells? at h
 rw [if_pos (Nat.zero_le _)] at h
 exact range_mapM h

theorem cell_some {w : World} {a : Addr} {v : Value} (h : w.cell? a = some v) : ∃ c t fz, w.heap[a.block]? = some (.cells c t fz) ∧ a.spot = none ∧ c[a.off]? = some v := by
 unfold World.cell? at h
 split at h
 ·rename_i c t fz hc
  split at h
  ·cases h
  ·rename_i hs
   refine ⟨c, t, fz, hc, ?_, h⟩
   cases hsp : a.spot <;> simp_all
 ·cases h


def Came (W : World) (ρ : List RLoc) (h : IH) (cs : List Value) (sh : Sh) : Prop :=
 ∃ ρ' h' cs', ρ <+: ρ' ∧ WRel ρ' W.heap.size W h' ∧ AllRo h' ∧ Ext h h' ∧ LRel ρ' cs cs' ∧ Fits h' sh cs'

variable {H : Type} {enc : TypeId × Value → H} {P : Program} {W : World}

def Readable (enc : TypeId × Value → H) (P : Program) (W : World) (t : TypeId) (sh : Sh) : Prop :=
 ∀ (ρ : List RLoc) (h : IH) (fuel : Nat) (cs : List Value) (x : DataW H × List MemPlace), WRel ρ W.heap.size W h → AllRo h →
  DataW.trod enc P W 0 (fun _ => true) true fuel t cs = some x → Came W ρ h cs sh

theorem came_fields {t : TypeId} {g : TypeId → Option Sh} (hg : ∀ t sh, g t = some sh → Readable enc P W t sh) {cs : List Value} (hl : cs.length = P.cellsOf t) :
  ∀ (fs : List Field) (n : Nat) (sh : Sh) (ρ : List RLoc) (h : IH), shFields P g t fs n = some sh →
   (∀ f ∈ fs, ∃ fuel x, DataW.trod enc P W 0 (fun _ => true) true fuel f.type ((cs.drop f.offset).take (P.cellsOf f.type)) = some x) →
   WRel ρ W.heap.size W h → AllRo h → Came W ρ h (cs.drop n) sh
 | [], n, sh, ρ, h, hs, _, hw, ha => by
  simp only [shFields] at hs
  split at hs
  ·rename_i hn
   obtain rfl := Option.some.inj hs
   refine ⟨ρ, h, [], List.prefix_refl _, hw, ha, Ext.refl _, ?_, rfl⟩
   rw [List.drop_eq_nil_of_le (by omega)]
   exact LRel.nil _
  ·cases hs
 | f :: r, n, sh, ρ, h, hs, hr, hw, ha => by
  simp only [shFields] at hs
  split at hs
  ·rename_i ho
   split at hs
   ·rename_i s hgs
    split at hs
    ·rename_i hsz
     simp only [Option.map_eq_some_iff] at hs
     obtain ⟨s2, hs2, rfl⟩ := hs
     obtain ⟨fuel, x, hx⟩ := hr f (by simp)
     obtain ⟨ρ1, h1, c1, p1, w1, a1, e1, l1, f1⟩ := hg _ _ hgs ρ h fuel _ x hw ha hx
     obtain ⟨ρ2, h2, c2, p2, w2, a2, e2, l2, f2⟩ := came_fields hg hl r (n + s.sz) s2 ρ1 h1 hs2 (fun f' hf' => hr f' (by simp [hf'])) w1 a1
     refine ⟨ρ2, h2, c1 ++ c2, p1.trans p2, w2, a2, e1.trans e2, ?_, ⟨c1, c2, rfl, f1.ext e2, f2⟩⟩
     have hcat : cs.drop n = (cs.drop f.offset).take (P.cellsOf f.type) ++ cs.drop (n + s.sz) := by
      rw [ho, ← hsz, ← List.drop_drop, List.take_append_drop]
     rw [hcat]
     exact (l1.mono p2).append l2
    ·cases hs
   ·cases hs
  ·cases hs

theorem came_elems {e : TypeId} {se : Sh} (hg : Readable enc P W e se) {a : Addr} {n : Nat} (sz : Nat) :
  ∀ (len : Nat) (ρ : List RLoc) (h : IH), WRel ρ W.heap.size W h → AllRo h →
   (∀ i, i < len → ∃ csi x, W.cells? 0 (a.add (i * sz)) sz = some csi ∧ DataW.trod enc P W 0 (fun _ => true) true n e csi = some x) →
   ∃ (ρ' : List RLoc) (h' : IH) (rs : List (List IV)), ρ <+: ρ' ∧ WRel ρ' W.heap.size W h' ∧ AllRo h' ∧ Ext h h' ∧ rs.length = len ∧
    ∀ (i : Nat) (row : List IV), rs[i]? = some row → ∃ csi, W.cells? 0 (a.add (i * sz)) sz = some csi ∧ LRel ρ' csi row ∧ Fits h' se row
 | 0, ρ, h, hw, ha, _ => ⟨ρ, h, [], List.prefix_refl _, hw, ha, Ext.refl _, rfl, fun i row hi => by simp at hi⟩
 | len + 1, ρ, h, hw, ha, hr => by
  obtain ⟨ρ1, h1, rs, p1, w1, a1, e1, l1, f1⟩ := came_elems hg sz len ρ h hw ha (fun i hi => hr i (by omega))
  obtain ⟨csi, x, hc, hx⟩ := hr len (by omega)
  obtain ⟨ρ2, h2, row, p2, w2, a2, e2, l2, f2⟩ := hg ρ1 h1 n csi x w1 a1 hx
  refine ⟨ρ2, h2, rs ++ [row], p1.trans p2, w2, a2, e1.trans e2, by simp [l1], fun i row' hi => ?_⟩
  by_cases hin : i < len
  ·rw [List.getElem?_append_left (by omega)] at hi
   obtain ⟨csj, hcj, hlj, hfj⟩ := f1 i row' hi
   exact ⟨csj, hcj, hlj.mono p2, hfj.ext e2⟩
  ·have : i < (rs ++ [row]).length := (List.getElem?_eq_some_iff.1 hi).1
   simp at this
   obtain rfl : i = len := by omega
   rw [List.getElem?_append_right (by omega), l1] at hi
   simp at hi
   subst hi
   exact ⟨csi, hc, l2, f2⟩


theorem Addr_add {a : Addr} (hs : a.spot = none) (n : Nat) : a.add n = ⟨a.block, a.off + n, none⟩ := by
 obtain ⟨b, o, sp⟩ := a
 obtain rfl : sp = none := hs
 unfold Addr.add
 split
 ·subst_vars; rfl
 ·rfl

theorem readable : ∀ (n : Nat) (t : TypeId) (sh : Sh), shOf P n t = some sh → Readable enc P W t sh
 | 0, _, _, hs => by cases hs
 | n + 1, t, sh, hs => by
  intro ρ h fuel cs x hw ha hx
  simp only [shOf] at hs
  split at hs
  ·rename_i hu
   obtain rfl := Option.some.inj hs
   obtain ⟨b, rfl, _⟩ := DataW.trod_bool hu hx
   exact ⟨ρ, h, [.bool b], List.prefix_refl _, hw, ha, Ext.refl _, (LRel.nil _).cons (.bool b), b, rfl⟩
  ·rename_i k hu
   obtain rfl := Option.some.inj hs
   obtain ⟨m, rfl, _, hwf⟩ := DataW.trod_int hu hx
   exact ⟨ρ, h, [.int k m], List.prefix_refl _, hw, ha, Ext.refl _, (LRel.nil _).cons (.int k m), m, rfl, hwf⟩
  ·rename_i hu
   obtain rfl := Option.some.inj hs
   obtain ⟨b, rfl, _, hl⟩ := DataW.trod_string hu hx
   exact ⟨ρ, h, [.str b.data.toList], List.prefix_refl _, hw, ha, Ext.refl _, (LRel.nil _).cons (.str b), _, rfl, by simpa using hl⟩
  ·rename_i e hu
   split at hs
   ·rename_i se hse
    split at hs
    ·rename_i hsz
     obtain ⟨hsz, hpos⟩ := hsz
     obtain rfl := Option.some.inj hs
     rcases DataW.trod_slice hu hx with ⟨rfl, _⟩ | ⟨a, len, cap, elems, rest, m, _, rfl, _, _, hlc, hcm, helen, hel, hsp, _⟩
     ·exact ⟨ρ, h, [.nilslice], List.prefix_refl _, hw, ha, Ext.refl _, (LRel.nil _).cons .nilslice, _, [], rfl, SlR.nil _ _, Nat.zero_le _, by simp⟩
     ·by_cases h0 : len = 0
      ·subst h0
       refine ⟨ρ, h, [.eslice (decide (cap = 0))], List.prefix_refl _, hw, ha, Ext.refl _, (LRel.nil _).cons (.eslice (by simp) hcm), _, [], rfl, SlR.empty _ _ _, Nat.zero_le _, by simp⟩
      ·obtain ⟨hrest, hsp⟩ := hsp rfl
       have all : ∀ i, i < cap → ∃ csi x, W.cells? 0 (a.add (i * se.sz)) se.sz = some csi ∧ DataW.trod enc P W 0 (fun _ => true) true m e csi = some x := by
        intro i hi
        by_cases hil : i < len
        ·have := hel i hil
         rw [List.getElem?_eq_getElem (by omega), Option.bind_eq_some_iff, ← hsz] at this
         obtain ⟨csi, h1, h2⟩ := this
         exact ⟨csi, _, h1, h2⟩
        ·have := hsp (i - len) (by omega)
         rw [List.getElem?_eq_getElem (by omega), Option.bind_eq_some_iff, ← hsz] at this
         obtain ⟨csi, h1, h2⟩ := this
         rw [show len + (i - len) = i by omega] at h1
         exact ⟨csi, _, h1, h2⟩
       obtain ⟨ρ1, h1, rs, p1, w1, a1, e1, l1, f1⟩ := came_elems (readable n e se hse) se.sz len ρ h hw ha (fun i hi => all i (by omega))
       obtain ⟨c0, x0, hc0, _⟩ := all 0 (by omega)
       obtain ⟨hl0, hg0⟩ := cells_at hc0
       have hz := hg0 0 hpos
       rw [List.getElem?_eq_getElem (by omega)] at hz
       obtain ⟨c, tc, fz, hcell, hspot, _⟩ := cell_some hz
       have hspot' : a.spot = none := by
        have : (a.add (0 * se.sz)).add 0 = a := by simp [Addr.add]
        rw [this] at hspot; exact hspot
       have hblk : W.heap[a.block]? = some (.cells c tc fz) := by
        have : ((a.add (0 * se.sz)).add 0).block = a.block := by simp [Addr.add]
        rw [this] at hcell; exact hcell
       have hat : ∀ i csi, W.cells? 0 (a.add (i * se.sz)) se.sz = some csi → csi.length = se.sz ∧ ∀ k, k < se.sz → c[a.off + i * se.sz + k]? = csi[k]? := by
        intro i csi hi
        obtain ⟨hli, hgi⟩ := cells_at hi
        refine ⟨hli, fun k hk => ?_⟩
        have := hgi k hk
        rw [Addr_add hspot' _, Addr_add rfl] at this
        rw [← this]
        simp [World.cell?, hblk]
       refine ⟨ρ1 ++ [⟨a.block, a.off, se.sz, cap⟩], h1.push (.rows rs 0 se.sz true), [.slice h1.n 0 len], p1.trans (List.prefix_append _ _), ?_, a1.push rfl, e1.push _, ?_, ?_⟩
       ·refine w1.pushRo a1 rfl ⟨c, tc, fz, hblk, rfl, ?_, by simp only; omega, ?_, ?_, ?_, fun h => by cases h⟩
        ·obtain ⟨cl, xl, hcl, _⟩ := all (cap - 1) (by omega)
         obtain ⟨hll, hgl⟩ := hat _ _ hcl
         have := hgl (se.sz - 1) (by omega)
         rw [List.getElem?_eq_getElem (by omega)] at this
         have h3 := (Array.getElem?_eq_some_iff.1 this).1
         have h4 : cap * se.sz = (cap - 1) * se.sz + se.sz := by rw [← Nat.succ_mul]; congr 1; omega
         simp only
         omega
        ·intro row hrow
         obtain ⟨i, hi⟩ := List.getElem?_of_mem hrow
         obtain ⟨csi, hci, hli, hfi⟩ := f1 i row hi
         exact hfi.len
        ·intro row hrow
         obtain ⟨i, hi⟩ := List.getElem?_of_mem hrow
         obtain ⟨csi, hci, hli, hfi⟩ := f1 i row hi
         exact hfi.one
        ·intro i row hi k v' hk
         obtain ⟨csi, hci, hli, hfi⟩ := f1 i row hi
         obtain ⟨v, hv, hr⟩ := hli.of_get' hk
         refine ⟨v, ?_, hr.mono (List.prefix_append _ _)⟩
         have hkl : k < se.sz := by rw [← hfi.len]; exact (List.getElem?_eq_some_iff.1 hk).1
         exact ((hat _ _ hci).2 k hkl).trans hv
       ·refine (LRel.nil _).cons ?_
        have hq : (ρ1 ++ [(⟨a.block, a.off, se.sz, cap⟩ : RLoc)])[h1.n]? = some ⟨a.block, a.off, se.sz, cap⟩ := by rw [← w1.len]; exact List.getElem?_concat_length
        have := VRel.slice (i := 0) (n := len) (c := cap) hq hlc (by simp) hcm
        have ea : a = ⟨a.block, a.off + 0 * se.sz, none⟩ := by
         obtain ⟨b, o, sp⟩ := a
         obtain rfl : sp = none := hspot'
         simp
        have h5 : VRel (ρ1 ++ [(⟨a.block, a.off, se.sz, cap⟩ : RLoc)]) (.slice (some ⟨a.block, a.off + 0 * se.sz, none⟩) len cap) (.slice h1.n 0 len) := this
        rw [← ea] at h5; exact h5
       ·refine ⟨_, rs, rfl, SlR.whole (e := 0) (ro := true) (push_new _ _) l1 (by simp only [push_n]; omega), by omega, fun row hrow => ?_⟩
        obtain ⟨i, hi⟩ := List.getElem?_of_mem hrow
        obtain ⟨csi, hci, hli, hfi⟩ := f1 i row hi
        exact hfi.ext ((Ext.refl _).push _)
    ·cases hs
   ·cases hs
  ·rename_i fs hu
   obtain ⟨xs, m, _, _, hl, hxl, hf⟩ := DataW.trod_struct hu hx
   have := came_fields (enc := enc) (W := W) (fun t sh hh => readable n t sh hh) hl fs.toList 0 sh ρ h hs (fun f hfm => by
    obtain ⟨i, hi⟩ := List.getElem?_of_mem hfm
    have hi' : fs[i]? = some f := by simpa using hi
    have h1 := hf i f hi'
    have : i < xs.length := by rw [hxl]; exact (Array.getElem?_eq_some_iff.1 hi').1
    rw [List.getElem?_eq_getElem this] at h1
    exact ⟨_, _, h1⟩) hw ha
   simpa using this
  ·cases hs



def parOf (P : Program) (t : TypeId) : Option (Sh × Bool) :=
 match shOf P 24 t with
 | some s => match P.underlying t with
  | some (.struct _) => some (s, true)
  | some (.array _ _) => none
  | _ => if s.sz = 1 then some (s, false) else none
 | none => none

def parsOf (P : Program) : List TypeId → Option (List (Sh × Bool))
 | [] => some []
 | t :: ts => match parOf P t, parsOf P ts with
  | some p, some ps => some (p :: ps)
  | _, _ => none

def PFit (h : IH) : Sh × Bool → IV → Prop
 | (s, true), v => ∃ cs, v = .agg cs ∧ Fits h s cs
 | (s, false), v => Fits h s [v]

def PFits (h : IH) : List (Sh × Bool) → List IV → Prop
 | [], vs => vs = []
 | p :: ps, vs => ∃ v r, vs = v :: r ∧ PFit h p v ∧ PFits h ps r

theorem PFit.ext {h h' : IH} (he : Ext h h') : ∀ {p : Sh × Bool} {v : IV}, PFit h p v → PFit h' p v
 | (s, true), _, ⟨cs, e, hf⟩ => ⟨cs, e, hf.ext he⟩
 | (s, false), _, hf => Fits.ext he hf

theorem came_par {t : TypeId} {p : Sh × Bool} (hp : parOf P t = some p) {v : Value} {base : Nat} (hok : Value.okWide P W .any base t v) {d : DataW H} {ps : List MemPlace}
  (ht : DataW.Trod enc P W 0 (fun _ => true) true t v d ps) {ρ : List RLoc} {h : IH} (hw : WRel ρ W.heap.size W h) (ha : AllRo h) :
  ∃ ρ' h' iv, ρ <+: ρ' ∧ WRel ρ' W.heap.size W h' ∧ AllRo h' ∧ Ext h h' ∧ VRel ρ' v iv ∧ PFit h' p iv := by
 obtain ⟨fuel, hf⟩ := ht
 unfold parOf at hp
 cases hs : shOf P 24 t with
 | none => rw [hs] at hp; cases hp
 | some s =>
  rw [hs] at hp
  simp only at hp
  obtain ⟨ρ', h', cs', p1, w1, a1, e1, l1, f1⟩ := readable _ _ _ hs ρ h fuel _ _ hw ha hf
  split at hp
  ·rename_i fs hu
   obtain rfl := Option.some.inj hp
   simp only [Value.okWide, hu] at hok
   obtain ⟨cs, rfl, _, _⟩ := hok
   refine ⟨ρ', h', .agg cs', p1, w1, a1, e1, ?_, cs', rfl, f1⟩
   refine .agg (by simpa [Value.cells] using l1.1) fun i a b x y => l1.2 i a b (by simpa [Value.cells] using x) y
  ·cases hp
  ·rename_i hn1 hn2
   split at hp
   ·rename_i h1
    obtain rfl := Option.some.inj hp
    have hc : v.cells.toList = [v] := by
     have hok' : Cell.okWide P W .any base t v := by
      simp only [Value.okWide] at hok
      exact hok
     cases v <;> first | rfl | (exfalso; revert hok'; unfold Cell.okWide; split <;> simp_all [Cell.ok])
    rw [hc] at l1
    match cs', l1, f1 with
    | [], l1, _ => exact absurd l1.1 (by simp)
    | [iv], l1, f1 => exact ⟨ρ', h', iv, p1, w1, a1, e1, l1.head, f1⟩
    | _ :: _ :: _, l1, _ => exact absurd l1.1 (by simp)
   ·cases hp

theorem came_args : ∀ (ts : List TypeId) (vs : List Value) (ds : List (DataW H)) (ps : List MemPlace) (prs : List (Sh × Bool)) {base : Nat} {ρ : List RLoc} {h : IH},
  parsOf P ts = some prs → DataW.TrodAll enc P W 0 (fun _ => true) true ts vs ds ps → (∀ (j : Nat) t v, ts[j]? = some t → vs[j]? = some v → Value.okWide P W .any base t v) →
  WRel ρ W.heap.size W h → AllRo h → ∃ ρ' h' ivs, ρ <+: ρ' ∧ WRel ρ' W.heap.size W h' ∧ AllRo h' ∧ Ext h h' ∧ LRel ρ' vs ivs ∧ PFits h' prs ivs
 | [], vs, ds, ps, prs, base, ρ, h, hp, ht, _, hw, ha => by
  obtain rfl := Option.some.inj hp
  match vs, ds, ht with
  | [], [], _ => exact ⟨ρ, h, [], List.prefix_refl _, hw, ha, Ext.refl _, LRel.nil _, rfl⟩
 | t :: ts, vs, ds, ps, prs, base, ρ, h, hp, ht, hok, hw, ha => by
  obtain ⟨v, vs, d, ds, p, q, rfl, rfl, rfl, h1, h2⟩ := Go.ChangeShapes.trodAll_cons ht
  simp only [parsOf] at hp
  split at hp
  ·rename_i p0 ps0 e1 e2
   obtain rfl := Option.some.inj hp
   obtain ⟨ρ1, g1, iv, p1, w1, a1, x1, r1, f1⟩ := came_par e1 (hok 0 t v rfl rfl) h1 hw ha
   obtain ⟨ρ2, g2, ivs, p2, w2, a2, x2, r2, f2⟩ := came_args ts vs ds q ps0 e2 h2 (fun j t' v' ht' hv' => hok (j + 1) t' v' ht' hv') w1 a1
   exact ⟨ρ2, g2, iv :: ivs, p1.trans p2, w2, a2, x1.trans x2, (LRel.cons (r1.mono p2) r2), iv, ivs, rfl, f1.ext x2, f2⟩
  ·cases hp

theorem wrel_empty (W : World) : WRel [] W.heap.size W ⟨0, fun _ => .dead⟩ :=
 ⟨rfl, Nat.le_refl _, fun l r h => by simp at h, fun l l' r r' h => by simp at h⟩

theorem trodAll_below (hl : laidOutB P = true) {W' : World} (hb : Below W.heap.size W W') : ∀ (ts : List TypeId) (vs : List Value) (ds : List (DataW H)) (ps : List MemPlace),
  (ts.all fun t => P.readableRec t && decide (t < P.types.size)) = true → DataW.TrodAll enc P W 0 (fun _ => true) true ts vs ds ps →
  DataW.TrodAll enc P W' 0 (fun b => decide (b < W.heap.size)) true ts vs ds ps
 | [], vs, ds, ps, _, ht => by
  match vs, ds, ht with
  | [], [], ht => exact ht
 | t :: ts, vs, ds, ps, hr, ht => by
  obtain ⟨v, vs, d, ds, p, q, rfl, rfl, rfl, h1, h2⟩ := Go.ChangeShapes.trodAll_cons ht
  simp only [List.all_cons, Bool.and_eq_true, decide_eq_true_eq] at hr
  refine ⟨p, q, Below.trod hl hr.1.1 hr.1.2 h1 hb ?_, trodAll_below hl hb ts vs ds q hr.2 h2, rfl⟩
  obtain ⟨m, hm⟩ := h1
  exact DataW.trod_lt m _ _ _ hm

theorem FnOk.enter {f N : Nat} {cc : CC} {rs : List FK} (hf : FnOk P f N cc rs) (args : Array Value) (w : World) : (callFunc f args).run P w = .ok (.enter f args) w := by
 obtain ⟨fn, c, h1, h2, h3, _⟩ := hf.ok
 simp [callFunc, h1, h2, h3]

def LawTrue (P : Program) (f : Nat) (prs : List (Sh × Bool)) : Prop :=
 ∀ (h : IH) (ivs : List IV), AllRo h → PFits h prs ivs → ICalls P f ivs h fun r _ => r = .bool true

theorem law_calls {f : Nat} {fn : Func} {prs : List (Sh × Bool)} (hG : GOk P W.heap.size W) (hfn : P.funcs[f]? = some fn) (henter : ∀ (args : Array Value) (w : World), (callFunc f args).run P w = .ok (.enter f args) w) (hp : parsOf P fn.params.toList = some prs)
  (hlaw : LawTrue P f prs) {args : Array Value} {ds : List (DataW H)} {ps : List MemPlace} {base : Nat}
  (hval : ∀ (j : Nat) t v, fn.params[j]? = some t → args[j]? = some v → Value.okWide P W .any base t v)
  (hA : DataW.TrodAll enc P W 0 (fun _ => true) true fn.params.toList args.toList ds ps) :
  Calls P f args W fun e W' => e = .returned (.bool true) ∧ Below W.heap.size W W' := by
 obtain ⟨ρ, h, ivs, _, hw, ha, _, hl, hf⟩ := came_args _ _ _ _ _ hp hA (fun j t v ht hv => hval j t v (by simpa using ht) (by simpa using hv)) (wrel_empty W) (fun l => rfl)
 have hc := hlaw h ivs ha hf ρ W.heap.size W args hG hw hl
 rw [henter] at hc
 simp only [UponF] at hc
 refine hc.mono fun e w' he => ?_
 cases e <;> simp only at he
 obtain ⟨ρ', v, h', _, _, hv, hb, rfl⟩ := he
 cases hv
 exact ⟨rfl, hb⟩

end Go.IW

namespace Go.IW
open Go Go.RowKit

inductive Ty where
 | nil
 | bool
 | int (k : IntKind)
 | str
 | slice (el : Nat) (e : Ty)
 | cat (a b : Ty)
def Ty.sz : Ty → Nat
 | .nil => 0
 | .cat a b => a.sz + b.sz
 | _ => 1
def Ty.sh : Ty → Sh
 | .nil => .nil
 | .bool => .bool
 | .int k => .int k
 | .str => .str
 | .slice _ e => .slice e.sh
 | .cat a b => .cat a.sh b.sh
theorem Ty.sh_sz : ∀ t : Ty, t.sh.sz = t.sz
 | .nil | .bool | .int _ | .str | .slice _ _ => rfl
 | .cat a b => by simp [Ty.sh, Sh.sz, Ty.sz, a.sh_sz, b.sh_sz]
def Ty.one : Ty → Bool
 | .nil | .cat .. => false
 | _ => true
def Ty.pk (t : Ty) (cs : List IV) : IV := if t.one then cs.headD .nilptr else .agg cs

inductive Dat where
 | unit
 | bool (b : Bool)
 | int (n : Int)
 | str (s : List UInt8)
 | list (l : List Dat)
 | pair (a b : Dat)
 deriving Inhabited

mutual
def Dat.tot : Dat → Nat
 | .str s => s.length
 | .list l => l.length + totL l
 | .pair a b => a.tot + b.tot
 | _ => 0
def totL : List Dat → Nat
 | [] => 0
 | d :: l => d.tot + totL l
end
inductive All2 {α β : Type} (R : α → β → Prop) : List α → List β → Prop
 | nil : All2 R [] []
 | cons {a : α} {b : β} {l : List α} {m : List β} (h : R a b) (t : All2 R l m) : All2 R (a :: l) (b :: m)
inductive All3 {α β : Type} (R : α → β → List Nat → Prop) : List α → List β → List Nat → Prop
 | nil : All3 R [] [] []
 | cons {a : α} {b : β} {f : List Nat} {l : List α} {m : List β} {g : List Nat} (h : R a b f) (t : All3 R l m g) : All3 R (a :: l) (b :: m) (f ++ g)
section
variable {α β : Type} {R R' : α → β → Prop} {Q Q' : α → β → List Nat → Prop} {l l' : List α} {m m' : List β} {g g' : List Nat}
theorem All2.len (h : All2 R l m) : l.length = m.length := by
 induction h with
 | nil => rfl
 | cons _ _ ih => simp [ih]
theorem All2.mono (hR : ∀ a ∈ l, ∀ b, R a b → R' a b) (h : All2 R l m) : All2 R' l m := by
 induction h with
 | nil => exact .nil
 | cons h _ ih => exact .cons (hR _ List.mem_cons_self _ h) (ih fun a ha => hR a (List.mem_cons_of_mem _ ha))
theorem All2.at (h : All2 R l m) {i : Nat} {b : β} (hb : m[i]? = some b) : ∃ a, l[i]? = some a ∧ R a b := by
 induction h generalizing i with
 | nil => simp at hb
 | @cons a b' l m h _ ih =>
  cases i with
  | zero => simp at hb; subst hb; exact ⟨a, rfl, h⟩
  | succ i => simpa using ih (by simpa using hb)
theorem All2.app (h : All2 R l m) (h' : All2 R l' m') : All2 R (l ++ l') (m ++ m') := by
 induction h with
 | nil => exact h'
 | cons h _ ih => exact .cons h ih
theorem All2.take (h : All2 R l m) (n : Nat) : All2 R (l.take n) (m.take n) := by
 induction h generalizing n with
 | nil => simp; exact .nil
 | cons h _ ih => cases n with
  | zero => exact .nil
  | succ n => exact .cons h (ih n)
theorem All2.drop (h : All2 R l m) (n : Nat) : All2 R (l.drop n) (m.drop n) := by
 induction h generalizing n with
 | nil => simp; exact .nil
 | cons h t ih => cases n with
  | zero => exact .cons h t
  | succ n => exact ih n
theorem All2.all (h : All2 R l m) {p : α → Prop} (hp : ∀ a b, R a b → p a) : ∀ a ∈ l, p a := by
 induction h with
 | nil => simp
 | cons h _ ih =>
  intro a ha
  rcases List.mem_cons.1 ha with rfl | ha
  ·exact hp _ _ h
  ·exact ih a ha
theorem All3.len (h : All3 Q l m g) : l.length = m.length := by
 induction h with
 | nil => rfl
 | cons _ _ ih => simp [ih]
theorem All3.mono (hQ : ∀ a b f, (∀ x ∈ f, x ∈ g) → Q a b f → Q' a b f) (h : All3 Q l m g) : All3 Q' l m g := by
 induction h with
 | nil => exact .nil
 | cons h _ ih => exact .cons (hQ _ _ _ (fun x hx => List.mem_append_left _ hx) h) (ih fun a b f hf => hQ a b f fun x hx => List.mem_append_right _ (hf x hx))
theorem All3.two (hQ : ∀ a b f, (∀ x ∈ f, x ∈ g) → Q a b f → R a b) (h : All3 Q l m g) : All2 R l m := by
 induction h with
 | nil => exact .nil
 | cons h _ ih => exact .cons (hQ _ _ _ (fun x hx => List.mem_append_left _ hx) h) (ih fun a b f hf => hQ a b f fun x hx => List.mem_append_right _ (hf x hx))
theorem All3.app (h : All3 Q l m g) (h' : All3 Q l' m' g') : All3 Q (l ++ l') (m ++ m') (g ++ g') := by
 induction h with
 | nil => exact h'
 | cons h _ ih => rw [List.append_assoc]; exact .cons h ih
theorem All3.one {a : α} {b : β} (h : Q a b g) : All3 Q [a] [b] g := by
 have := All3.cons h (.nil (R := Q)); simpa using this
theorem All3.split (h : All3 Q l m g) {i : Nat} {b : β} (hb : m[i]? = some b) :
  ∃ a g1 f g2, l[i]? = some a ∧ g = g1 ++ (f ++ g2) ∧ Q a b f ∧ All3 Q (l.take i) (m.take i) g1 ∧ All3 Q (l.drop (i + 1)) (m.drop (i + 1)) g2 := by
 induction h generalizing i with
 | nil => simp at hb
 | @cons a b' f l m g h t ih =>
  cases i with
  | zero => simp at hb; subst hb; exact ⟨a, [], f, g, rfl, rfl, h, .nil, by simpa using t⟩
  | succ i =>
   obtain ⟨a1, g1, f1, g2, e1, rfl, q, t1, t2⟩ := ih (by simpa using hb)
   exact ⟨a1, f ++ g1, f1, g2, by simpa using e1, by simp, q, .cons h t1, by simpa using t2⟩
end

def Rp (S : Nat → Prop) (h : IH) : Ty → List IV → Dat → Prop
 | .nil => fun cs d => cs = [] ∧ d = .unit
 | .bool => fun cs d => ∃ b, cs = [.bool b] ∧ d = .bool b
 | .int k => fun cs d => ∃ n, cs = [.int k n] ∧ d = .int n
 | .str => fun cs d => ∃ s, cs = [.str s] ∧ d = .str s
 | .slice _ e => fun cs d => ∃ v rs ds, cs = [v] ∧ d = .list ds ∧ SlR h e.sz v rs ∧ (∀ l i n, v = .slice l i n → S l) ∧ All2 (Rp S h e) rs ds
 | .cat a b => fun cs d => ∃ c1 c2 d1 d2, cs = c1 ++ c2 ∧ d = .pair d1 d2 ∧ Rp S h a c1 d1 ∧ Rp S h b c2 d2
def Ro (h : IH) : Ty → List IV → Dat → List Nat → Prop
 | .nil => fun cs d fs => cs = [] ∧ d = .unit ∧ fs = []
 | .bool => fun cs d fs => ∃ b, cs = [.bool b] ∧ d = .bool b ∧ fs = []
 | .int k => fun cs d fs => ∃ n, cs = [.int k n] ∧ d = .int n ∧ fs = []
 | .str => fun cs d fs => ∃ s, cs = [.str s] ∧ d = .str s ∧ fs = []
 | .slice el e => fun cs d fs => ∃ v ds, cs = [v] ∧ d = .list ds ∧ ((ds = [] ∧ fs = [] ∧ (v = .nilslice ∨ v = .eslice true)) ∨
   ∃ l rs gs, ds ≠ [] ∧ v = .slice l 0 ds.length ∧ l < h.n ∧ h.obj l = .rows rs el e.sz false ∧ fs = l :: gs ∧ All3 (Ro h e) rs ds gs)
 | .cat a b => fun cs d fs => ∃ c1 c2 d1 d2 f1 f2, cs = c1 ++ c2 ∧ d = .pair d1 d2 ∧ fs = f1 ++ f2 ∧ Ro h a c1 d1 f1 ∧ Ro h b c2 d2 f2

section
variable {S S' : Nat → Prop} {h h' : IH}
theorem Rp.len : ∀ {t : Ty} {cs : List IV} {d : Dat}, Rp S h t cs d → cs.length = t.sz
 | .nil, _, _, ⟨e, _⟩ => by subst e; rfl
 | .bool, _, _, ⟨_, e, _⟩ => by subst e; rfl
 | .int _, _, _, ⟨_, e, _⟩ => by subst e; rfl
 | .str, _, _, ⟨_, e, _⟩ => by subst e; rfl
 | .slice _ _, _, _, ⟨_, _, _, e, _⟩ => by subst e; rfl
 | .cat a b, _, _, ⟨_, _, _, _, e, _, h1, h2⟩ => by subst e; simp [Ty.sz, h1.len, h2.len]
theorem Rp.one : ∀ {t : Ty} {cs : List IV} {d : Dat}, Rp S h t cs d → ∀ v ∈ cs, v.one = true
 | .nil, _, _, ⟨e, _⟩ => by subst e; simp
 | .bool, _, _, ⟨_, e, _⟩ => by subst e; simp [IV.one]
 | .int _, _, _, ⟨_, e, _⟩ => by subst e; simp [IV.one]
 | .str, _, _, ⟨_, e, _⟩ => by subst e; simp [IV.one]
 | .slice _ _, _, _, ⟨_, _, _, e, _, hs, _⟩ => by subst e; simp [hs.one]
 | .cat a b, _, _, ⟨_, _, _, _, e, _, h1, h2⟩ => by
  subst e
  intro v hv
  rcases List.mem_append.1 hv with hv | hv
  ·exact h1.one v hv
  ·exact h2.one v hv
theorem SlR.same {sz : Nat} {v : IV} {rs : List (List IV)} (hs : SlR h sz v rs) (hn : h.n ≤ h'.n) (ho : ∀ l i n, v = .slice l i n → h'.obj l = h.obj l) : SlR h' sz v rs := by
 refine ⟨?_, hs.len, fun l i n hv => Nat.lt_of_lt_of_le (hs.lt l i n hv) hn⟩
 have h1 := hs.src
 cases v with
 | slice l i n =>
  have := ho l i n rfl
  simp only [srcRows, this] at h1 ⊢
  exact h1
 | nilslice => exact h1
 | eslice z => exact h1
 | _ => simp [srcRows] at h1
theorem Rp.same (hn : h.n ≤ h'.n) (ho : ∀ l, S l → l < h.n → h'.obj l = h.obj l) (hS : ∀ l, S l → l < h.n → S' l) : ∀ {t : Ty} {cs : List IV} {d : Dat}, Rp S h t cs d → Rp S' h' t cs d
 | .nil, _, _, e => e
 | .bool, _, _, e => e
 | .int _, _, _, e => e
 | .str, _, _, e => e
 | .slice _ _, _, _, ⟨v, rs, ds, e1, e2, hs, h1, h2⟩ => ⟨v, rs, ds, e1, e2, hs.same hn (fun l i n hv => ho l (h1 l i n hv) (hs.lt l i n hv)), fun l i n hv => hS l (h1 l i n hv) (hs.lt l i n hv), h2.mono fun _ _ _ x => x.same hn ho hS⟩
 | .cat a b, _, _, ⟨c1, c2, d1, d2, e1, e2, h1, h2⟩ => ⟨c1, c2, d1, d2, e1, e2, h1.same hn ho hS, h2.same hn ho hS⟩
theorem Ro.same (hn : h.n ≤ h'.n) : ∀ {t : Ty} {cs : List IV} {d : Dat} {fs : List Nat}, (∀ l ∈ fs, h'.obj l = h.obj l) → Ro h t cs d fs → Ro h' t cs d fs
 | .nil, _, _, _, _, e => e
 | .bool, _, _, _, _, e => e
 | .int _, _, _, _, _, e => e
 | .str, _, _, _, _, e => e
 | .slice _ _, _, _, _, ho, ⟨v, ds, e1, e2, h1⟩ => by
  refine ⟨v, ds, e1, e2, ?_⟩
  rcases h1 with h1 | ⟨l, rs, gs, h0, h1, h2, h3, rfl, h4⟩
  ·exact .inl h1
  ·refine .inr ⟨l, rs, gs, h0, h1, Nat.lt_of_lt_of_le h2 hn, (ho l List.mem_cons_self).trans h3, rfl, h4.mono fun a b f hf x => x.same hn fun l hl => ho l (List.mem_cons_of_mem _ (hf l hl))⟩
 | .cat a b, _, _, _, ho, ⟨c1, c2, d1, d2, f1, f2, e1, e2, e3, h1, h2⟩ =>
  ⟨c1, c2, d1, d2, f1, f2, e1, e2, e3, h1.same hn (fun l hl => ho l (by rw [e3]; exact List.mem_append_left _ hl)), h2.same hn (fun l hl => ho l (by rw [e3]; exact List.mem_append_right _ hl))⟩
theorem Ro.view : ∀ {t : Ty} {cs : List IV} {d : Dat} {fs : List Nat}, Ro h t cs d fs → (∀ l ∈ fs, S l) → Rp S h t cs d
 | .nil, _, _, _, ⟨a, b, _⟩, _ => ⟨a, b⟩
 | .bool, _, _, _, ⟨x, a, b, _⟩, _ => ⟨x, a, b⟩
 | .int _, _, _, _, ⟨x, a, b, _⟩, _ => ⟨x, a, b⟩
 | .str, _, _, _, ⟨x, a, b, _⟩, _ => ⟨x, a, b⟩
 | .slice el e, _, _, _, ⟨v, ds, e1, e2, h1⟩, hS => by
  rcases h1 with ⟨rfl, rfl, rfl | rfl⟩ | ⟨l, rs, gs, h0, rfl, h2, h3, rfl, h4⟩
  ·exact ⟨_, [], [], e1, e2, SlR.nil _ _, (fun _ _ _ h => by cases h), All2.nil⟩
  ·exact ⟨_, [], [], e1, e2, SlR.empty _ _ _, (fun _ _ _ h => by cases h), All2.nil⟩
  ·refine ⟨_, rs, ds, e1, e2, SlR.whole h3 h4.len h2, fun l i n hv => ?_, h4.two fun a b f hf x => x.view fun l hl => hS l (List.mem_cons_of_mem _ (hf l hl))⟩
   cases hv; exact hS _ List.mem_cons_self
 | .cat a b, _, _, _, ⟨c1, c2, d1, d2, f1, f2, e1, e2, e3, h1, h2⟩, hS =>
  ⟨c1, c2, d1, d2, e1, e2, h1.view fun l hl => hS l (by rw [e3]; exact List.mem_append_left _ hl), h2.view fun l hl => hS l (by rw [e3]; exact List.mem_append_right _ hl)⟩
theorem Ro.len {t : Ty} {cs : List IV} {d : Dat} {fs : List Nat} (hr : Ro h t cs d fs) : cs.length = t.sz := (hr.view (S := fun _ => True) fun _ _ => trivial).len
theorem Ro.one {t : Ty} {cs : List IV} {d : Dat} {fs : List Nat} (hr : Ro h t cs d fs) : ∀ v ∈ cs, v.one = true := (hr.view (S := fun _ => True) fun _ _ => trivial).one
theorem Ro.lt : ∀ {t : Ty} {cs : List IV} {d : Dat} {fs : List Nat}, Ro h t cs d fs → ∀ l ∈ fs, l < h.n
 | .nil, _, _, _, ⟨_, _, e⟩ => by subst e; simp
 | .bool, _, _, _, ⟨_, _, _, e⟩ => by subst e; simp
 | .int _, _, _, _, ⟨_, _, _, e⟩ => by subst e; simp
 | .str, _, _, _, ⟨_, _, _, e⟩ => by subst e; simp
 | .slice _ e, _, _, _, ⟨v, ds, e1, e2, h1⟩ => by
  rcases h1 with ⟨_, rfl, _⟩ | ⟨l, rs, gs, h0, rfl, h2, h3, rfl, h4⟩
  ·simp
  ·intro x hx
   rcases List.mem_cons.1 hx with rfl | hx
   ·exact h2
   ·clear e1 e2 h0 h3
    induction h4 with
    | nil => simp at hx
    | cons h _ ih =>
     rcases List.mem_append.1 hx with hx | hx
     ·exact h.lt x hx
     ·exact ih (List.mem_cons_of_mem _ hx) hx
 | .cat a b, _, _, _, ⟨c1, c2, d1, d2, f1, f2, e1, e2, rfl, h1, h2⟩ => by
  intro x hx
  rcases List.mem_append.1 hx with hx | hx
  ·exact h1.lt x hx
  ·exact h2.lt x hx
end

def Vw (lo hi : Nat) (h : IH) (t : Ty) (cs : List IV) (d : Dat) : Prop := Rp (fun l => lo ≤ l ∧ l < hi) h t cs d
def Ow (lo hi : Nat) (h : IH) (t : Ty) (cs : List IV) (d : Dat) : Prop := (∃ fs, Ro h t cs d fs ∧ fs.Nodup ∧ ∀ l ∈ fs, lo ≤ l ∧ l < hi) ∧ hi ≤ h.n
structure Trn (lo hi : Nat) (h h' : IH) : Prop where
 le : h.n ≤ h'.n
 obj : ∀ l, l < h.n → ¬ (lo ≤ l ∧ l < hi) → h'.obj l = h.obj l
theorem Trn.refl (lo hi : Nat) (h : IH) : Trn lo hi h h := ⟨Nat.le_refl _, fun _ _ _ => rfl⟩
theorem Trn.of_ext {lo hi : Nat} {h h' : IH} (e : Ext h h') : Trn lo hi h h' := ⟨e.le, fun l hl _ => e.obj l hl⟩
theorem Trn.trans {lo hi : Nat} {a b c : IH} (h1 : Trn lo hi a b) (h2 : Trn lo hi b c) : Trn lo hi a c :=
 ⟨Nat.le_trans h1.le h2.le, fun l hl hv => (h2.obj l (Nat.lt_of_lt_of_le hl h1.le) hv).trans (h1.obj l hl hv)⟩
theorem Trn.wide {lo hi lo' hi' : Nat} {h h' : IH} (t : Trn lo hi h h') (h1 : lo' ≤ lo) (h2 : hi ≤ hi') : Trn lo' hi' h h' := ⟨t.le, fun l hl hv => t.obj l hl (by omega)⟩
theorem Trn.set {lo hi l : Nat} {h : IH} (o : IObj) (hl : lo ≤ l ∧ l < hi) : Trn lo hi h (h.set l o) := ⟨Nat.le_refl _, fun m _ hv => set_there _ _ _ _ (by omega)⟩
theorem Ext.trn {a b c : IH} {lo hi : Nat} (e : Ext a b) (t : Trn lo hi b c) (hlo : a.n ≤ lo) : Ext a c :=
 ⟨Nat.le_trans e.le t.le, fun l hl => (t.obj l (Nat.lt_of_lt_of_le hl e.le) (by omega)).trans (e.obj l hl)⟩
theorem At.trn {lo hi p : Nat} {h h' : IH} {o : IObj} (a : At h p o) (t : Trn lo hi h h') (hd : p < lo ∨ hi ≤ p) : At h' p o :=
 ⟨Nat.lt_of_lt_of_le a.lt t.le, (t.obj p a.lt (by omega)).trans a.eq⟩

section
variable {lo hi lo' hi' : Nat} {h h' : IH} {t : Ty} {cs : List IV} {d : Dat}
theorem Vw.trn (hv : Vw lo hi h t cs d) (tr : Trn lo' hi' h h') (hd : hi ≤ lo' ∨ hi' ≤ lo) : Vw lo hi h' t cs d :=
 Rp.same tr.le (fun l hl hn => tr.obj l hn (by omega)) (fun l hl _ => hl) hv
theorem Vw.ext (hv : Vw lo hi h t cs d) (e : Ext h h') : Vw lo hi h' t cs d := Rp.same e.le (fun l _ hn => e.obj l hn) (fun l hl _ => hl) hv
theorem Vw.wide (hv : Vw lo hi h t cs d) (h1 : lo' ≤ lo) (h2 : hi ≤ hi') : Vw lo' hi' h t cs d := Rp.same (Nat.le_refl _) (fun _ _ _ => rfl) (fun l hl _ => ⟨by omega, by omega⟩) hv
theorem Ow.trn (ho : Ow lo hi h t cs d) (tr : Trn lo' hi' h h') (hd : hi ≤ lo' ∨ hi' ≤ lo) : Ow lo hi h' t cs d := by
 obtain ⟨⟨fs, h1, h2, h3⟩, h4⟩ := ho
 exact ⟨⟨fs, h1.same tr.le (fun l hl => tr.obj l (h1.lt l hl) (by have := h3 l hl; omega)), h2, h3⟩, Nat.le_trans h4 tr.le⟩
theorem Ow.ext (ho : Ow lo hi h t cs d) (e : Ext h h') : Ow lo hi h' t cs d := by
 obtain ⟨⟨fs, h1, h2, h3⟩, h4⟩ := ho
 exact ⟨⟨fs, h1.same e.le (fun l hl => e.obj l (h1.lt l hl)), h2, h3⟩, Nat.le_trans h4 e.le⟩
theorem Ow.wide (ho : Ow lo hi h t cs d) (h1 : lo' ≤ lo) (h2 : hi ≤ hi') (h3 : hi' ≤ h.n) : Ow lo' hi' h t cs d := by
 obtain ⟨⟨fs, a, b, c⟩, _⟩ := ho
 exact ⟨⟨fs, a, b, fun l hl => by have := c l hl; omega⟩, h3⟩
theorem Ow.view (ho : Ow lo hi h t cs d) : Vw lo hi h t cs d := by
 obtain ⟨⟨fs, a, b, c⟩, _⟩ := ho
 exact a.view c
theorem Vw.len (hv : Vw lo hi h t cs d) : cs.length = t.sz := Rp.len hv
theorem Vw.one (hv : Vw lo hi h t cs d) : ∀ v ∈ cs, v.one = true := Rp.one hv
theorem Ow.len (ho : Ow lo hi h t cs d) : cs.length = t.sz := ho.view.len
theorem Ow.one (ho : Ow lo hi h t cs d) : ∀ v ∈ cs, v.one = true := ho.view.one
theorem Ow.le (ho : Ow lo hi h t cs d) : hi ≤ h.n := ho.2
theorem Ow.cat {lo1 hi1 lo2 hi2 : Nat} {t2 : Ty} {cs2 : List IV} {d2 : Dat} (h1 : Ow lo1 hi1 h t cs d) (h2 : Ow lo2 hi2 h t2 cs2 d2) (hd : hi1 ≤ lo2 ∨ hi2 ≤ lo1) (a1 : lo ≤ lo1) (a2 : lo ≤ lo2) (b1 : hi1 ≤ hi) (b2 : hi2 ≤ hi) (hh : hi ≤ h.n) :
  Ow lo hi h (.cat t t2) (cs ++ cs2) (.pair d d2) := by
 obtain ⟨⟨fs, x1, y1, z1⟩, g1⟩ := h1
 obtain ⟨⟨gs, x2, y2, z2⟩, g2⟩ := h2
 refine ⟨⟨fs ++ gs, ⟨cs, cs2, d, d2, fs, gs, rfl, rfl, rfl, x1, x2⟩, ?_, ?_⟩, hh⟩
 ·refine List.nodup_append.2 ⟨y1, y2, fun x hx y hy e => ?_⟩
  subst e
  have := z1 x hx; have := z2 x hy; omega
 ·intro l hl
  rcases List.mem_append.1 hl with hl | hl
  ·have := z1 l hl; omega
  ·have := z2 l hl; omega
theorem Ow.flat {fs : List Nat} (hf : fs = []) (hr : Ro h t cs d fs) (hh : hi ≤ h.n) : Ow lo hi h t cs d := by
 subst hf
 exact ⟨⟨[], hr, List.nodup_nil, fun _ h => by simp at h⟩, hh⟩
end
end Go.IW

namespace Go.IW
open Go Go.RowKit
variable {P : Program}

def vcs (P : Program) : List CC → EPost → Env → IH → Prop
 | [], K, e, h => K .normal e h
 | c :: l, K, e, h => vc P c (seqK (vcs P l K) K) e h
theorem pk_agg {t : Ty} {cs : List IV} (h : t.one = false) : t.pk cs = .agg cs := by simp [Ty.pk, h]
theorem one_sz {t : Ty} (h : t.one = true) : t.sz = 1 := by cases t <;> first | rfl | cases h
def ToC (P : Program) (g : Nat) (t : Ty) : Prop := ∀ (h : IH) (cs : List IV) (d : Dat), Vw 0 h.n h t cs d → d.tot ≤ 1048576 →
 ICalls P g [t.pk cs] h fun r h' => ∃ cs', r = t.pk cs' ∧ Ow h.n h'.n h' t cs' d ∧ Ext h h'
structure Oth (o q : Nat) (h h' : IH) : Prop where
 le : h.n ≤ h'.n
 obj : ∀ l, l < h.n → l ≠ o → l ≠ q → h'.obj l = h.obj l
theorem Oth.trans {o q : Nat} {a b c : IH} (h1 : Oth o q a b) (h2 : Oth o q b c) : Oth o q a c :=
 ⟨Nat.le_trans h1.le h2.le, fun l hl x y => (h2.obj l (Nat.lt_of_lt_of_le hl h1.le) x y).trans (h1.obj l hl x y)⟩
theorem Oth.ext {o q : Nat} {a b : IH} (e : Ext a b) : Oth o q a b := ⟨e.le, fun l hl _ _ => e.obj l hl⟩
theorem Oth.set1 {o q : Nat} {h : IH} (x : IObj) : Oth o q h (h.set o x) := ⟨Nat.le_refl _, fun l _ a _ => set_there _ _ _ _ a⟩
theorem Oth.set2 {o q : Nat} {h : IH} (x : IObj) : Oth o q h (h.set q x) := ⟨Nat.le_refl _, fun l _ _ a => set_there _ _ _ _ a⟩
mutual
def Dat.ok : Dat → Prop
 | .str s => s.length ≤ maxLen
 | .list l => l.length ≤ maxLen ∧ okL l
 | .pair a b => a.ok ∧ b.ok
 | _ => True
def okL : List Dat → Prop
 | [] => True
 | d :: l => d.ok ∧ okL l
end
def SzR (left : Int) (r : IV) (n : Nat) : Prop := ∃ L : Int, r = .int .i64 L ∧ L ≤ left ∧ (0 ≤ L → L + n ≤ left)
def SzC (P : Program) (g : Nat) (t : Ty) : Prop := ∀ (h : IH) (cs : List IV) (d : Dat) (left : Int), Vw 0 h.n h t cs d → d.ok → 0 ≤ left ∧ left ≤ 1048576 →
 ICalls P g [t.pk cs, .int .i64 left] h fun r h' => SzR left r d.tot ∧ Ext h h'
inductive SzK where
 | no
 | text
 | sub (g : Nat)
def Ty.flat : Ty → Bool
 | .nil | .bool | .int _ => true
 | .cat a b => a.flat && b.flat
 | _ => false
def EqC (P : Program) (g : Nat) (t : Ty) : Prop := ∀ (h : IH) (c1 c2 : List IV) (d : Dat), Vw 0 h.n h t c1 d → Vw 0 h.n h t c2 d → d.tot ≤ 4611686018427387903 →
 ICalls P g [t.pk c1, t.pk c2] h fun r h' => r = .bool true ∧ Ext h h'
end Go.IW

namespace Go.IW
open Go Go.RowKit
variable {P : Program}

theorem rep_at {α : Type} (xs : List α) (z : α) {m n : Nat} (hn : xs.length = n) (hm : m ≠ 0) : (xs ++ List.replicate m z)[n]? = some z := by
 subst hn
 rw [List.getElem?_append_right (Nat.le_refl _), Nat.sub_self, List.getElem?_replicate, if_pos (by omega)]
theorem rep_set {α : Type} (xs : List α) (z x : α) {m n : Nat} (hn : xs.length = n) (hm : m ≠ 0) : (xs ++ List.replicate m z).set n x = (xs ++ [x]) ++ List.replicate (m - 1) z := by
 subst hn
 obtain ⟨m, rfl⟩ : ∃ k, m = k + 1 := ⟨m - 1, by omega⟩
 rw [List.set_append_right _ _ (Nat.le_refl _), Nat.sub_self, List.replicate_succ, sz0]
 simp
structure Made (h g : IH) (el : Nat) (ty : Ty) (z : List IV) (ds : List Dat) (k : Nat) : Prop where
 ext : Ext h g
 lt : h.n < g.n
 made : ∃ rs fs, g.obj h.n = .rows (rs ++ List.replicate (ds.length - k) z) el ty.sz false ∧ All3 (Ro g ty) rs (ds.take k) fs ∧ fs.Nodup ∧ ∀ l ∈ fs, h.n < l ∧ l < g.n
theorem Made.next {h g g2 : IH} {el : Nat} {ty : Ty} {z : List IV} {ds : List Dat} {k : Nat} (m : Made h g el ty z ds k) {d : Dat} (hd : ds[k]? = some d) {cs : List IV} (o : Ow g.n g2.n g2 ty cs d) (E : Ext g g2) (hz : z.length = ty.sz) {n : Nat} (hn : n = ty.sz) {K : HoldK}
  (hK : ∀ g3, Made h g3 el ty z ds (k + 1) → K.k (.tuple []) g3) : @stO n k 0 cs h.n (g2.obj h.n) g2 K := by
 subst hn
 obtain ⟨rs, fs, h1, h2, h3, h4⟩ := m.made
 have hk := (List.getElem?_eq_some_iff.1 hd).1
 have hrl : rs.length = k := by rw [h2.len, List.length_take]; omega
 have hcl := o.len
 have hle := E.le
 have hlt := m.lt
 rw [(E.obj _ m.lt).trans h1]
 refine stO_of (row := z) (rep_at _ _ hrl (by omega)) hcl (by omega) o.one ?_
 rw [wrt_all (by omega), rep_set _ _ _ hrl (by omega), show ds.length - k - 1 = ds.length - (k + 1) by omega]
 refine hK _ ⟨(m.ext.trans E).set _ (Nat.le_refl _) _, by show h.n < g2.n; omega, ?_⟩
 obtain ⟨⟨gs, a, b, c⟩, _⟩ := o
 refine ⟨rs ++ [cs], fs ++ gs, set_here _ _ _, ?_, ?_, ?_⟩
 ·rw [List.take_add_one, hd]
  refine All3.app ?_ ?_
  ·refine h2.mono fun a b f hf x => ?_
   refine x.same (by rw [set_n]; exact hle) fun l hl => ?_
   have := h4 l (hf l hl)
   rw [set_there _ _ _ _ (by omega)]
   exact E.obj l this.2
  ·refine All3.one ?_
   refine a.same (by rw [set_n]; exact Nat.le_refl _) fun l hl => ?_
   have := c l hl
   exact set_there _ _ _ _ (by omega)
 ·refine List.nodup_append.2 ⟨h3, b, fun x hx y hy e => ?_⟩
  subst e
  have := h4 x hx; have := c x hy; omega
 ·intro l hl
  show h.n < l ∧ l < g2.n
  rcases List.mem_append.1 hl with hl | hl
  ·have := h4 l hl; omega
  ·have := c l hl; omega
theorem Made.zero {h : IH} {el : Nat} {ty : Ty} {z : List IV} {ds : List Dat} : Made h (h.push (.rows (List.replicate ds.length z) el ty.sz false)) el ty z ds 0 :=
 ⟨(Ext.refl _).push _, Nat.lt_succ_self _, [], [], by rw [push_new]; rfl, .nil, List.nodup_nil, by simp⟩
theorem Made.done {h g : IH} {el : Nat} {ty : Ty} {z : List IV} {ds : List Dat} (m : Made h g el ty z ds ds.length) (h0 : ds ≠ []) : Ow h.n g.n g (.slice el ty) [.slice h.n 0 ds.length] (.list ds) := by
 obtain ⟨rs, fs, h1, h2, h3, h4⟩ := m.made
 rw [List.take_length] at h2
 rw [Nat.sub_self, List.replicate_zero, List.append_nil] at h1
 refine ⟨⟨h.n :: fs, ⟨_, _, rfl, rfl, .inr ⟨h.n, rs, fs, h0, rfl, m.lt, h1, rfl, h2⟩⟩, ?_, ?_⟩, Nat.le_refl _⟩
 ·refine List.nodup_cons.2 ⟨fun hm => ?_, h3⟩
  have := h4 _ hm; omega
 ·intro l hl
  have := m.lt
  rcases List.mem_cons.1 hl with rfl | hl
  ·omega
  ·have := h4 l hl; omega
theorem ow_nil {h : IH} {lo hi el : Nat} {ty : Ty} (hh : hi ≤ h.n) : Ow lo hi h (.slice el ty) [.nilslice] (.list []) :=
 Ow.flat rfl ⟨_, _, rfl, rfl, .inl ⟨rfl, rfl, .inl rfl⟩⟩ hh

end Go.IW

namespace Go.IW
open Go Go.RowKit
variable {P : Program}

end Go.IW

namespace Go.IW
open Go Go.RowKit
variable {P : Program}

def digs : Nat → Nat → List UInt8 → List UInt8
 | 0, _, acc => acc
 | f + 1, n, acc => if n = 0 then acc else digs f (n / 10) (UInt8.ofNat (48 + n % 10) :: acc)
def mtext (n : Nat) : List UInt8 := if n = 0 then [109, 48] else 109 :: digs n n []

mutual
def cntE : Ty → Dat → Nat
 | .nil, _ => 0
 | .bool, _ => 1
 | .int _, _ => 1
 | .str, _ => 1
 | .slice _ e, .list l => cntL e l
 | .slice _ _, _ => 0
 | .cat a b, .pair x y => cntE a x + cntE b y
 | .cat _ _, _ => 0
def cntL (e : Ty) : List Dat → Nat
 | [] => 0
 | x :: l => cntE e x + cntL e l
end
mutual
def mkE : Ty → Dat → Nat → Dat
 | .nil, d, _ => d
 | .bool, _, n => .bool (decide ((n : Int) % 3 = 0))
 | .int k, _, n => .int (wr k n)
 | .str, _, n => .str (mtext n)
 | .slice _ e, .list l, n => .list (mkL e l n)
 | .slice _ _, d, _ => d
 | .cat a b, .pair x y, n => .pair (mkE a x n) (mkE b y (n + cntE a x))
 | .cat _ _, d, _ => d
def mkL (e : Ty) : List Dat → Nat → List Dat
 | [], _ => []
 | x :: l, n => mkE e x n :: mkL e l (n + cntE e x)
end
def cntW : Ty → Dat → Nat
 | .slice el e, d => cntE (.slice el e) d
 | .cat a b, .pair x y => cntW a x + cntW b y
 | _, _ => 0
def mkW : Ty → Dat → Nat → Dat
 | .slice el e, d, n => mkE (.slice el e) d n
 | .cat a b, .pair x y, n => .pair (mkW a x n) (mkW b y (n + cntW a x))
 | _, d, _ => d

structure TrnL (fs : List Nat) (h h' : IH) : Prop where
 le : h.n ≤ h'.n
 obj : ∀ l, l < h.n → l ∉ fs → h'.obj l = h.obj l
theorem TrnL.refl (fs : List Nat) (h : IH) : TrnL fs h h := ⟨Nat.le_refl _, fun _ _ _ => rfl⟩
theorem TrnL.of_ext {fs : List Nat} {h h' : IH} (e : Ext h h') : TrnL fs h h' := ⟨e.le, fun l hl _ => e.obj l hl⟩
theorem TrnL.trans {fs : List Nat} {a b c : IH} (h1 : TrnL fs a b) (h2 : TrnL fs b c) : TrnL fs a c :=
 ⟨Nat.le_trans h1.le h2.le, fun l hl hn => (h2.obj l (Nat.lt_of_lt_of_le hl h1.le) hn).trans (h1.obj l hl hn)⟩
theorem TrnL.sub {fs gs : List Nat} {h h' : IH} (t : TrnL fs h h') (hs : ∀ l ∈ fs, l ∈ gs) : TrnL gs h h' := ⟨t.le, fun l hl hn => t.obj l hl fun hm => hn (hs l hm)⟩
theorem TrnL.set {l : Nat} {fs : List Nat} {h : IH} (o : IObj) (hl : l ∈ fs) : TrnL fs h (h.set l o) := ⟨Nat.le_refl _, fun m _ hn => set_there _ _ _ _ (fun e => hn (by rw [e]; exact hl))⟩
theorem Ro.trn {fs gs : List Nat} {h h' : IH} {t : Ty} {cs : List IV} {d : Dat} (hr : Ro h t cs d gs) (T : TrnL fs h h') (hd : ∀ l ∈ gs, l ∉ fs) : Ro h' t cs d gs :=
 hr.same T.le fun l hl => T.obj l (hr.lt l hl) (hd l hl)

def MkC (P : Program) (g : Nat) (t : Ty) : Prop := ∀ (h : IH) (cs : List IV) (d : Dat) (fs : List Nat) (k : Nat), Ro h t cs d fs → fs.Nodup → k + cntW t d + d.tot < 4611686018427387904 →
 ICalls P g [t.pk cs, .int .i64 (k : Int)] h fun r h' => r = .int .i64 ((k + cntW t d : Nat) : Int) ∧ Ro h' t cs (mkW t d k) fs ∧ TrnL fs h h'

structure Slot (e : Env) (h : IH) (l n i kk : Nat) (rs : List (List IV)) (el sz : Nat) (row : List IV) : Prop where
 e0 : e 0 = .slice l 0 n
 e5 : e 5 = .int .i64 (i : Nat)
 e1 : e 1 = .int .i64 (kk : Nat)
 lt : i < n
 obj : h.obj l = .rows rs el sz false
 ln : l < h.n
 row : rs[i]? = some row
def MStep (P : Program) (c : List CC) (t : Ty) (sz off : Nat) : Prop :=
 ∀ (rest : List CC) (K : EPost) (e : Env) (h : IH) (l n i kk : Nat) (rs : List (List IV)) (el : Nat) (pre cs suf : List IV) (d : Dat) (fs : List Nat), Slot e h l n i kk rs el sz (pre ++ (cs ++ suf)) → pre.length = off → Ro h t cs d fs → fs.Nodup → l ∉ fs →
  kk + cntE t d + d.tot < 4611686018427387904 →
  (∀ (e' : Env) (h' : IH) (cs' : List IV), e' 0 = .slice l 0 n → e' 5 = .int .i64 (i : Nat) → e' 1 = .int .i64 ((kk + cntE t d : Nat) : Int) → h'.obj l = .rows (rs.set i (pre ++ (cs' ++ suf))) el sz false → Ro h' t cs' (mkE t d kk) fs → TrnL (l :: fs) h h' → vcs P rest K e' h') →
  vcs P (c ++ rest) K e h
theorem set_same {α : Type} {l : List α} {i : Nat} {x : α} (h : l[i]? = some x) : l.set i x = l := by
 obtain ⟨hi, rfl⟩ := List.getElem?_eq_some_iff.1 h
 simp
theorem MStep.cat {c1 c2 : List CC} {a b : Ty} {sz off : Nat} (h1 : MStep P c1 a sz off) (h2 : MStep P c2 b sz (off + a.sz)) : MStep P (c1 ++ c2) (.cat a b) sz off := by
 intro rest K e h l n i kk rs el pre cs suf d fs S hpl hr hn hl hkk hK
 obtain ⟨cs1, cs2, d1, d2, f1, f2, rfl, rfl, rfl, r1, r2⟩ := hr
 obtain ⟨n1, n2, n12⟩ := List.nodup_append.1 hn
 simp only [cntE, Dat.tot] at hkk hK
 have hll : ∀ x ∈ f1, x ≠ l := fun x hx e => hl (by rw [← e]; exact List.mem_append_left _ hx)
 have hlr : ∀ x ∈ f2, x ≠ l := fun x hx e => hl (by rw [← e]; exact List.mem_append_right _ hx)
 rw [List.append_assoc]
 refine h1 (c2 ++ rest) K e h l n i kk rs el pre cs1 (cs2 ++ suf) d1 f1 ⟨S.e0, S.e5, S.e1, S.lt, S.obj, S.ln, by rw [S.row, List.append_assoc]⟩ hpl r1 n1 (fun h => hll l h rfl) (by omega) ?_
 intro e' h' cs1' x0 x5 x1 ho q1 T1
 have hil := (List.getElem?_eq_some_iff.1 S.row).1
 have hq1 := q1.len
 have hr1 := r1.len
 have q2 : Ro h' b cs2 d2 f2 := r2.trn T1 fun x hx hm => by
  rcases List.mem_cons.1 hm with e | hm
  ·exact hlr x hx e
  ·exact n12 x hm x hx rfl
 refine h2 rest K e' h' l n i (kk + cntE a d1) (rs.set i (pre ++ (cs1' ++ (cs2 ++ suf)))) el (pre ++ cs1') cs2 suf d2 f2 ⟨x0, x5, x1, S.lt, ho, Nat.lt_of_lt_of_le S.ln T1.le, by rw [List.getElem?_set_self hil]; simp⟩
  (by rw [la0]; omega) q2 n2 (fun h => hlr l h rfl) (by omega) ?_
 intro e2 h2' cs2' y0 y5 y1 ho2 q3 T2
 refine hK e2 h2' (cs1' ++ cs2') y0 y5 (by rw [y1, Nat.add_assoc]) (by rw [ho2, List.set_set]; simp) ⟨cs1', cs2', _, _, f1, f2, rfl, by rw [mkE], rfl, ?_, q3⟩ ?_
 ·exact q1.trn T2 fun x hx hm => by
   rcases List.mem_cons.1 hm with e | hm
   ·exact hll x hx e
   ·exact n12 x hx x hm rfl
 ·refine (T1.sub fun x hx => ?_).trans (T2.sub fun x hx => ?_)
  ·rcases List.mem_cons.1 hx with rfl | hx
   ·exact List.mem_cons_self
   ·exact List.mem_cons_of_mem _ (List.mem_append_left _ hx)
  ·rcases List.mem_cons.1 hx with rfl | hx
   ·exact List.mem_cons_self
   ·exact List.mem_cons_of_mem _ (List.mem_append_right _ hx)
theorem MStep.none {sz off : Nat} : MStep P [] .nil sz off := by
 intro rest K e h l n i kk rs el pre cs suf d fs S hpl hr hn hl hkk hK
 obtain ⟨rfl, rfl, rfl⟩ := hr
 refine hK e h [] S.e0 S.e5 S.e1 (by rw [S.obj, set_same S.row]) ⟨rfl, rfl, rfl⟩ (TrnL.refl _ _)
theorem MkC.ow {g : Nat} {t : Ty} (hg : MkC P g t) {lo hi : Nat} {h : IH} {cs : List IV} {d : Dat} {k : Nat} (ho : Ow lo hi h t cs d) (hk : k + cntW t d + d.tot < 4611686018427387904) :
  ICalls P g [t.pk cs, .int .i64 (k : Int)] h fun r h' => r = .int .i64 ((k + cntW t d : Nat) : Int) ∧ Ow lo hi h' t cs (mkW t d k) ∧ Trn lo hi h h' := by
 obtain ⟨⟨fs, a, b, c⟩, e⟩ := ho
 refine (hg h cs d fs k a b hk).mono ?_
 rintro r h' ⟨rfl, q, T⟩
 exact ⟨rfl, ⟨⟨fs, q, b, c⟩, Nat.le_trans e T.le⟩, T.le, fun l hl hn => T.obj l hl fun hm => hn (c l hm)⟩
end Go.IW

namespace Go.IW
open Go Go.RowKit
variable {P : Program}

def HdC (P : Program) (g : Nat) (t : Ty) : Prop := ∀ (h : IH) (cs : List IV) (d : Dat) (k : Nat), Vw 0 h.n h t cs (mkW t d k) → k + cntW t d + d.tot < 4611686018427387904 →
 ICalls P g [t.pk cs, .int .i64 (k : Int)] h fun r h' => r = .int .i64 ((k + cntW t d : Nat) : Int) ∧ Ext h h'
structure Look (e : Env) (h : IH) (v : IV) (i kk : Nat) (rs : List (List IV)) (sz : Nat) (row : List IV) : Prop where
 e0 : e 0 = v
 e5 : e 5 = .int .i64 (i : Nat)
 e1 : e 1 = .int .i64 (kk : Nat)
 sl : SlR h sz v rs
 row : rs[i]? = some row
def HStep (P : Program) (c : List CC) (t : Ty) (sz off : Nat) : Prop :=
 ∀ (rest : List CC) (K : EPost) (e : Env) (h : IH) (v : IV) (n0 i kk : Nat) (rs : List (List IV)) (pre cs suf : List IV) (d : Dat), Look e h v i kk rs sz (pre ++ (cs ++ suf)) → pre.length = off → Vw 0 n0 h t cs (mkE t d kk) → n0 ≤ h.n →
  kk + cntE t d + d.tot < 4611686018427387904 →
  (∀ (e' : Env) (h' : IH), e' 0 = v → e' 5 = .int .i64 (i : Nat) → e' 1 = .int .i64 ((kk + cntE t d : Nat) : Int) → Ext h h' → vcs P rest K e' h') →
  vcs P (c ++ rest) K e h
theorem HStep.cat {c1 c2 : List CC} {a b : Ty} {sz off : Nat} (h1 : HStep P c1 a sz off) (h2 : HStep P c2 b sz (off + a.sz)) : HStep P (c1 ++ c2) (.cat a b) sz off := by
 intro rest K e h v n0 i kk rs pre cs suf d S hpl hv hn0 hkk hK
 obtain ⟨x, y, rfl⟩ : ∃ x y, d = .pair x y := by
  obtain ⟨_, _, d1, d2, _, e1, _⟩ := hv
  cases d <;> first | exact ⟨_, _, rfl⟩ | (simp [mkE] at e1)
 obtain ⟨cs1, cs2, d1, d2, rfl, hd, r1, r2⟩ := hv
 rw [mkE] at hd
 cases hd
 simp only [cntE, Dat.tot] at hkk hK
 have hl1 := Rp.len r1
 rw [List.append_assoc]
 refine h1 (c2 ++ rest) K e h v n0 i kk rs pre cs1 (cs2 ++ suf) x ⟨S.e0, S.e5, S.e1, S.sl, by rw [S.row, List.append_assoc]⟩ hpl r1 hn0 (by omega) ?_
 intro e' h' x0 x5 x1 E1
 refine h2 rest K e' h' v n0 i (kk + cntE a x) rs (pre ++ cs1) cs2 suf y ⟨x0, x5, x1, S.sl.ext E1, by rw [S.row]; simp⟩ (by rw [la0]; omega) (Vw.ext r2 E1) (Nat.le_trans hn0 E1.le) (by omega) ?_
 intro e2 h2' y0 y5 y1 E2
 exact hK e2 h2' y0 y5 (by rw [y1, Nat.add_assoc]) (E1.trans E2)
theorem HStep.none {sz off : Nat} : HStep P [] .nil sz off := by
 intro rest K e h v n0 i kk rs pre cs suf d S hpl hv hn0 hkk hK
 exact hK e h S.e0 S.e5 (by rw [cntE]; exact S.e1) (Ext.refl _)
end Go.IW

namespace Go.IW
open Go Go.RowKit
variable {P : Program}

section
variable {g el : Nat} {e t : Ty} {h : IH} {d : Dat}
theorem one_list {t : Ty} (ht : t.one = true) {cs : List IV} (hl : cs.length = t.sz) : ∃ v, cs = [v] := by
 rw [one_sz ht] at hl
 match cs, hl with
 | [v], _ => exact ⟨v, rfl⟩
theorem ToC.sl (hg : ToC P g (.slice el e)) {v : IV} (hv : Vw 0 h.n h (.slice el e) [v] d) (hd : d.tot ≤ 1048576) : ICalls P g [v] h fun r h' => Ow h.n h'.n h' (.slice el e) [r] d ∧ Ext h h' := by
 refine (hg h [v] d hv hd).mono ?_
 rintro r h' ⟨cs', rfl, o, E⟩
 obtain ⟨w, rfl⟩ := one_list rfl o.len
 exact ⟨o, E⟩
theorem ToC.st (hg : ToC P g t) (ht : t.one = false) {cs : List IV} (hv : Vw 0 h.n h t cs d) (hd : d.tot ≤ 1048576) : ICalls P g [.agg cs] h fun r h' => ∃ cs', r = .agg cs' ∧ Ow h.n h'.n h' t cs' d ∧ Ext h h' := by
 have := hg h cs d hv hd
 rw [pk_agg ht] at this
 refine this.mono ?_
 rintro r h' ⟨cs', rfl, o, E⟩
 exact ⟨cs', pk_agg ht, o, E⟩
theorem SzC.sl (hg : SzC P g (.slice el e)) {v : IV} {left : Int} (hv : Vw 0 h.n h (.slice el e) [v] d) (hd : d.ok) (hl : 0 ≤ left ∧ left ≤ 1048576) : ICalls P g [v, .int .i64 left] h fun r h' => SzR left r d.tot ∧ Ext h h' := hg h [v] d left hv hd hl
theorem SzC.st (hg : SzC P g t) (ht : t.one = false) {cs : List IV} {left : Int} (hv : Vw 0 h.n h t cs d) (hd : d.ok) (hl : 0 ≤ left ∧ left ≤ 1048576) : ICalls P g [.agg cs, .int .i64 left] h fun r h' => SzR left r d.tot ∧ Ext h h' := by
 have := hg h cs d left hv hd hl
 rwa [pk_agg ht] at this
theorem EqC.sl (hg : EqC P g (.slice el e)) {v w : IV} (hv : Vw 0 h.n h (.slice el e) [v] d) (hw : Vw 0 h.n h (.slice el e) [w] d) (hd : d.tot ≤ 4611686018427387903) : ICalls P g [v, w] h fun r h' => r = .bool true ∧ Ext h h' := hg h [v] [w] d hv hw hd
theorem EqC.st (hg : EqC P g t) (ht : t.one = false) {c1 c2 : List IV} (hv : Vw 0 h.n h t c1 d) (hw : Vw 0 h.n h t c2 d) (hd : d.tot ≤ 4611686018427387903) : ICalls P g [.agg c1, .agg c2] h fun r h' => r = .bool true ∧ Ext h h' := by
 have := hg h c1 c2 d hv hw hd
 rwa [pk_agg ht, pk_agg ht] at this
theorem MkC.sl (hg : MkC P g (.slice el e)) {lo hi k : Nat} {v : IV} (ho : Ow lo hi h (.slice el e) [v] d) (hk : k + cntW (.slice el e) d + d.tot < 4611686018427387904) :
  ICalls P g [v, .int .i64 (k : Int)] h fun r h' => r = .int .i64 ((k + cntW (.slice el e) d : Nat) : Int) ∧ Ow lo hi h' (.slice el e) [v] (mkW (.slice el e) d k) ∧ Trn lo hi h h' := hg.ow ho hk
theorem MkC.st (hg : MkC P g t) (ht : t.one = false) {lo hi k : Nat} {cs : List IV} (ho : Ow lo hi h t cs d) (hk : k + cntW t d + d.tot < 4611686018427387904) :
  ICalls P g [.agg cs, .int .i64 (k : Int)] h fun r h' => r = .int .i64 ((k + cntW t d : Nat) : Int) ∧ Ow lo hi h' t cs (mkW t d k) ∧ Trn lo hi h h' := by
 have := hg.ow ho hk
 rwa [pk_agg ht] at this
theorem HdC.sl (hg : HdC P g (.slice el e)) {k : Nat} {v : IV} (hv : Vw 0 h.n h (.slice el e) [v] (mkW (.slice el e) d k)) (hk : k + cntW (.slice el e) d + d.tot < 4611686018427387904) :
  ICalls P g [v, .int .i64 (k : Int)] h fun r h' => r = .int .i64 ((k + cntW (.slice el e) d : Nat) : Int) ∧ Ext h h' := hg h [v] d k hv hk
theorem HdC.st (hg : HdC P g t) (ht : t.one = false) {k : Nat} {cs : List IV} (hv : Vw 0 h.n h t cs (mkW t d k)) (hk : k + cntW t d + d.tot < 4611686018427387904) :
  ICalls P g [.agg cs, .int .i64 (k : Int)] h fun r h' => r = .int .i64 ((k + cntW t d : Nat) : Int) ∧ Ext h h' := by
 have := hg h cs d k hv hk
 rwa [pk_agg ht] at this
end
end Go.IW

namespace Go.IW
open Go Go.RowKit

mutual
def wfD : Ty → Dat → Prop
 | .int k, .int n => (Lit.int k n).wf = true
 | .slice _ e, .list l => wfL e l
 | .cat a b, .pair x y => wfD a x ∧ wfD b y
 | _, _ => True
def wfL (e : Ty) : List Dat → Prop
 | [] => True
 | x :: l => wfD e x ∧ wfL e l
end
theorem fits_vw {h : IH} : ∀ (t : Ty) {cs : List IV}, Fits h t.sh cs → ∃ d, Vw 0 h.n h t cs d ∧ d.ok ∧ wfD t d
 | .nil, _, e => ⟨.unit, ⟨e, rfl⟩, trivial, trivial⟩
 | .bool, _, ⟨b, e⟩ => ⟨.bool b, ⟨b, e, rfl⟩, trivial, trivial⟩
 | .int k, _, ⟨n, e, hw⟩ => ⟨.int n, ⟨n, e, rfl⟩, trivial, hw⟩
 | .str, _, ⟨s, e, hl⟩ => ⟨.str s, ⟨s, e, rfl⟩, hl, trivial⟩
 | .slice el t, _, ⟨v, rs, e, hs, hl, hf⟩ => by
  rw [Ty.sh_sz] at hs
  have key : ∀ rs : List (List IV), (∀ r ∈ rs, Fits h t.sh r) → ∃ ds, All2 (Rp (fun l => 0 ≤ l ∧ l < h.n) h t) rs ds ∧ okL ds ∧ wfL t ds := by
   intro rs
   induction rs with
   | nil => intro _; exact ⟨[], .nil, trivial, trivial⟩
   | cons r rs ih =>
    intro hr
    obtain ⟨d, a, b, c⟩ := fits_vw t (hr r List.mem_cons_self)
    obtain ⟨ds, a2, b2, c2⟩ := ih fun x hx => hr x (List.mem_cons_of_mem _ hx)
    exact ⟨d :: ds, .cons a a2, ⟨b, b2⟩, ⟨c, c2⟩⟩
  obtain ⟨ds, a, b, c⟩ := key rs hf
  exact ⟨.list ds, ⟨v, rs, ds, e, rfl, hs, fun l i n hv => ⟨Nat.zero_le _, hs.lt l i n hv⟩, a⟩, ⟨by rw [← a.len]; exact hl, b⟩, c⟩
 | .cat a b, _, ⟨x, y, e, h1, h2⟩ => by
  obtain ⟨d1, p1, q1, r1⟩ := fits_vw a h1
  obtain ⟨d2, p2, q2, r2⟩ := fits_vw b h2
  exact ⟨.pair d1 d2, ⟨x, y, d1, d2, e, rfl, p1, p2⟩, ⟨q1, q2⟩, ⟨r1, r2⟩⟩
end Go.IW
