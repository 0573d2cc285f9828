import Derived.Test.YtaoffieemecioaaGreatDoorK1
import Derived.Orders
import Derived.Lib.UnsafeStr
import Derived.Lib.Builder
import Derived.Laws.Externs
import Derived.Lib.Bytealg
import Derived.Laws.BitsLemmas
set_option linter.unusedSimpArgs false
set_option linter.unusedVariables false
namespace Go.IW
open Go.RowKit

inductive CK where
  | f (k : FK)
  | x (k : EK)
  deriving Inhabited
structure COp where
  dst : Option Nat
  guard : Option (Nat × Bool)
  op : CK
  deriving Inhabited

abbrev p0 (d : Nat) (k : FK) : COp := ⟨some d, none, .f k⟩
abbrev x0 (d : Nat) (k : EK) : COp := ⟨some d, none, .x k⟩
abbrev s0 (k : EK) : COp := ⟨none, none, .x k⟩
abbrev g0 (d t : Nat) (w : Bool) (k : FK) : COp := ⟨some d, some (t, w), .f k⟩
inductive DT where
  | fin
  | fl (i : Nat) (r : DT)
  | br (i : Nat) (t r : DT)
  | stop
  deriving Inhabited

inductive CC where
  | skip
  | reg (ops : List COp)
  | dreg (ops : List COp) (bar : List Bool) (anc : List (List Nat)) (ord : List Nat)
  | treg (ops : List COp) (anc : List (List Nat)) (t : DT)
  | seq (a b : CC)
  | cond (c : CX) (a b : CC)
  | block (id : Nat) (a : CC)
  | loop (a : CC)
  | exit (id : Nat)
  | ret
  deriving Inhabited

abbrev EPost := Exit → Env → IH → Prop

section
variable (P : Program)

def vcK (k : CK) (e : Env) (h : IH) (K : IV → IH → Prop) : Prop :=
  match k with
  | .f k => match feval e h k with
    | some v => K v h
    | none => False
  | .x k => act P h e K k
def vcOp (o : COp) (K : Env → IH → Prop) (e : Env) (h : IH) : Prop :=
  match o.guard with
  | none => vcK P o.op e h fun v h' => K (put e o.dst v) h'
  | some (t, want) => match e t with
    | .bool b => (b = want → vcK P o.op e h fun v h' => K (put e o.dst v) h') ∧ (b = !want → K (put e o.dst (.tuple [])) h)
    | .tuple [] => K (put e o.dst (.tuple [])) h
    | _ => False
def vcOps : List COp → (Env → IH → Prop) → Env → IH → Prop
  | [], K, e, h => K e h
  | o :: r, K, e, h => vcOp P o (vcOps r K) e h

def again (o : COp) (e : Env) (h : IH) : Prop :=
  match o.op with
  | .x _ => True
  | .f k => match o.guard with
    | none => match o.dst with
      | some d => feval e h k = some (e d)
      | none => (feval e h k).isSome = true
    | some (t, want) => match e t with
      | .bool b => if b = want then (match o.dst with
          | some d => feval e h k = some (e d)
          | none => (feval e h k).isSome = true) else (match o.dst with
          | some d => e d = .tuple []
          | none => True)
      | .tuple [] => (match o.dst with
          | some d => e d = .tuple []
          | none => True)
      | _ => False
def againAll (ops : List COp) (anc : List (List Nat)) (i : Nat) (e : Env) (h : IH) : List Nat → Prop
  | [] => True
  | j :: r => ((anc.getD i []).contains j = true ∨ again (ops.getD j default) e h) ∧ againAll ops anc i e h r

def vcD (ops : List COp) (bar : List Bool) (anc : List (List Nat)) : List Nat → List Nat → (Env → IH → Prop) → Env → IH → Prop
  | _, [], K, e, h => K e h
  | done, i :: r, K, e, h =>
    if bar.getD i true then vcOp P (ops.getD i default) (fun e' h' => againAll ops anc i e' h' done ∧ vcD ops bar anc (i :: done) r K e' h') e h
    else vcOp P (ops.getD i default) (vcD ops bar anc (i :: done) r K) e h

def vcT (ops : List COp) (anc : List (List Nat)) : List Nat → DT → (Env → IH → Prop) → Env → IH → Prop
  | _, .fin, K, e, h => K e h
  | done, .fl i r, K, e, h => vcOp P (ops.getD i default) (vcT ops anc (i :: done) r K) e h
  | done, .br i t r, K, e, h => vcOp P (ops.getD i default) (fun e' h' => againAll ops anc i e' h' done ∧ vcT ops anc (i :: done) t K e' h') e h ∧ vcT ops anc done r K e h
  | _, .stop, _, _, _ => True

def vcCond (c : IV) (A B : Prop) : Prop :=
  match c with
  | .bool b => (b = true → A) ∧ (b = false → B)
  | _ => False
def blockK (id : Nat) (K : EPost) : EPost := fun ex e h =>
  match ex with
  | .exit id' => if id' = id then K .normal e h else K (.exit id') e h
  | ex => K ex e h
def seqK (next : Env → IH → Prop) (K : EPost) : EPost := fun ex e h =>
  match ex with
  | .normal => next e h
  | ex => K ex e h
def vcLoop (body : EPost → Env → IH → Prop) (K : EPost) (e : Env) (h : IH) : Prop :=
  ∃ I : Nat → Env → IH → Prop, (∃ n, I n e h) ∧ ∀ n e h, I n e h → body (seqK (fun e' h' => ∃ m, m < n ∧ I m e' h') K) e h

def vc : CC → EPost → Env → IH → Prop
  | .skip, K, e, h => K .normal e h
  | .reg ops, K, e, h => vcOps P ops (K .normal) e h
  | .dreg ops bar anc ord, K, e, h => vcD P ops bar anc [] ord (K .normal) e h
  | .treg ops anc t, K, e, h => vcT P ops anc [] t (K .normal) e h
  | .seq a b, K, e, h => vc a (seqK (vc b K) K) e h
  | .cond c a b, K, e, h => vcCond (c.ev e) (vc a K e h) (vc b K e h)
  | .block id a, K, e, h => vc a (blockK id K) e h
  | .loop a, K, e, h => vcLoop (vc a) K e h
  | .exit id, K, e, h => K (.exit id) e h
  | .ret, K, e, h => K .ret e h

def gcomp (ops : Array Oper) (o : Oper) : Option (Option (Nat × Bool)) :=
  match o.guard with
  | none => some none
  | some (j, want) => match (ops[j]?).bind (·.dst) with
    | some t => some (some (t, want))
    | none => none
def dOk (N : Nat) (o : Oper) : Bool := match o.dst with | some d => decide (d < N) | none => true
def kcomp (op : Op) : Option CK :=
  match fkc P op with
  | some k => some (.f k)
  | none => some (.x (ekc P op))
def ocomp (N : Nat) (ops : Array Oper) (o : Oper) : Option COp :=
  match gcomp ops o, dOk N o, kcomp P o.op with
  | some g, true, some k => some ⟨o.dst, g, k⟩
  | _, _, _ => none
def ocomps (N : Nat) (ops : Array Oper) : List Oper → Option (List COp)
  | [] => some []
  | o :: r => match ocomp P N ops o, ocomps N ops r with
    | some c, some cs => some (c :: cs)
    | _, _ => none

end

def St (ρ0 : List RLoc) (N B : Nat) (w0 : World) (K : Env → IH → Prop) (a : Act) (w : World) : Prop :=
  ∃ ρ e h, ρ0 <+: ρ ∧ WRel ρ B w h ∧ ARel ρ N a e ∧ Below B w0 w ∧ K e h
def Post (ρ0 : List RLoc) (N B : Nat) (w0 : World) (K : EPost) : Exit → Act → World → Prop := fun ex => St ρ0 N B w0 (K ex)

section
variable {P : Program} {ρ ρ0 : List RLoc} {B : Nat} {w w0 : World} {h : IH} {N : Nat} {a : Act} {e : Env}

theorem ocomp_spec {ops : Array Oper} {o : Oper} {c : COp} (hc : ocomp P N ops o = some c) :
    c.dst = o.dst ∧ (∀ d, o.dst = some d → d < N) ∧ ((o.guard = none ∧ c.guard = none) ∨ ∃ j want t, o.guard = some (j, want) ∧ (ops[j]?).bind (·.dst) = some t ∧ c.guard = some (t, want)) ∧
    ((∃ k, c.op = .f k ∧ fkc P o.op = some k) ∨ (∃ k, c.op = .x k ∧ ekc P o.op = k)) := by
  unfold ocomp at hc
  split at hc
  · rename_i g k hg hd hk
    obtain rfl := Option.some.inj hc
    refine ⟨rfl, ?_, ?_, ?_⟩
    · intro d hdd
      unfold dOk at hd
      rw [hdd] at hd
      simpa using hd
    · unfold gcomp at hg
      split at hg
      · rename_i h0; exact .inl ⟨h0, (Option.some.inj hg).symm⟩
      · rename_i j want h0
        split at hg
        · rename_i t ht; exact .inr ⟨j, want, t, h0, ht, (Option.some.inj hg).symm⟩
        · cases hg
    · unfold kcomp at hk
      split at hk
      · rename_i k' h0; exact .inl ⟨k', (Option.some.inj hk).symm, h0⟩
      · exact .inr ⟨_, (Option.some.inj hk).symm, rfl⟩
  · cases hc

theorem yielded_of {ops : Array Oper} {j t : Nat} {b : Bool} (ha : ARel ρ N a e) (ht : (ops[j]?).bind (·.dst) = some t) (he : e t = .bool b) : yielded ops a.tmps j = some b := by
  have hr := ha.val t
  rw [he] at hr
  unfold yielded
  rw [ht]
  simp only [Option.bind_some]
  rw [Array.getD_eq_getD_getElem?] at hr
  cases hx : a.tmps[t]? with
  | none => rw [hx] at hr; simp [undef] at hr; cases hr
  | some v => rw [hx] at hr; simp at hr; cases hr; rfl

theorem yielded_undef {ops : Array Oper} {j t : Nat} (ha : ARel ρ N a e) (ht : (ops[j]?).bind (·.dst) = some t) (he : e t = .tuple []) : yielded ops a.tmps j = none := by
  have hr := ha.val t
  rw [he] at hr
  unfold yielded
  rw [ht]
  simp only [Option.bind_some]
  rw [Array.getD_eq_getD_getElem?] at hr
  cases hx : a.tmps[t]? with
  | none => rfl
  | some v => rw [hx] at hr; simp at hr; cases hr; rfl

theorem liesAt_own {e : TypeId} (hc : P.cellsOf e ≠ 0) (count : Nat) (hn : 1 ≤ count) : liesAt P P.depth e count 0 e 1 = true := by
  have hd : P.depth = (2 * (P.types.size + Made.depth) + 1) + 1 := rfl
  rw [hd]
  simp only [liesAt, Bool.or_eq_true]
  left
  rw [hd]
  simp [rowAt, hc, hn, sameLayout]
theorem run_eq_ptr_same {bop : BinOp} {g : Bool} {tp te : TypeId} {j : TypeInfo} (hg : negOf bop = some g) (ad : Addr) (hp : P.underlying tp = some (.pointer te)) (hte : P.info? te = some j) :
    (binOp bop tp (.pointer (some ad)) (.pointer (some ad))).run P w = .ok (.bool (true != g)) w := by
  have h : ∀ d : Nat, (Op.equalIn (d + 1) tp (.pointer (some ad)) (.pointer (some ad))).run P w = .ok true w := fun d => by
    simp [Op.equalIn, run_underlying hp, sizeOf, typeInfo, hte, run_sameAddr_same]
  cases bop <;> simp only [negOf] at hg <;> first | cases hg | skip
  all_goals (simp only [binOp]; simp [Op.equal, Op.maxDepth, h 9999])

theorem run_eq_ptr_far {bop : BinOp} {g : Bool} {tp te : TypeId} {j : TypeInfo} {a b : Addr} {ca cb : Array Value} {ta tb : TypeId} {fa fb : Nat × Nat} (hg : negOf bop = some g) (hp : P.underlying tp = some (.pointer te)) (hte : P.info? te = some j) (hsz : j.size ≠ 0)
    (hne : a.block ≠ b.block) (ha : w.heap[a.block]? = some (.cells ca ta fa)) (hfa : fa.1 = fa.2) (hb : w.heap[b.block]? = some (.cells cb tb fb)) (hfb : fb.1 = fb.2) :
    (binOp bop tp (.pointer (some a)) (.pointer (some b))).run P w = .ok (.bool (false != g)) w := by
  obtain ⟨a1, a2⟩ := fa
  obtain ⟨b1, b2⟩ := fb
  simp only at hfa hfb
  subst hfa hfb
  have hs : (sameAddr a b).run P w = .ok false w := by
    have k1 : ∀ o : Nat, (decide (a1 ≤ o) && decide (o < a1)) = false := fun o => by
      rw [Bool.and_eq_false_iff, decide_eq_false_iff_not, decide_eq_false_iff_not]; omega
    have k2 : ∀ o : Nat, (decide (b1 ≤ o) && decide (o < b1)) = false := fun o => by
      rw [Bool.and_eq_false_iff, decide_eq_false_iff_not, decide_eq_false_iff_not]; omega
    simp [sameAddr, hne, World.frozen?, ha, hb, noView, viewAt, World.shape?, mayBeOne, stringish, k1, k2, -Bool.and_eq_false_imp, -Bool.and_eq_true]
  have h : ∀ d : Nat, (Op.equalIn (d + 1) tp (.pointer (some a)) (.pointer (some b))).run P w = .ok false w := fun d => by
    simp [Op.equalIn, run_underlying hp, sizeOf, typeInfo, hte, hsz, hs]
  cases bop <;> simp only [negOf] at hg <;> first | cases hg | skip
  all_goals (simp only [binOp]; simp [Op.equal, Op.maxDepth, h 9999])
theorem big_cells (hw : WRel ρ B w h) {l : Nat} {r : RLoc} (hr : ρ[l]? = some r) (hb : (h.obj l).big = true) : ∃ c t fz, w.heap[r.block]? = some (.cells c t fz) ∧ fz.1 = fz.2 := by
  have ho := hw.obj l r hr
  cases hob : h.obj l with
  | dead => rw [hob] at hb; cases hb
  | rows rs e sz ro =>
    rw [hob] at ho hb
    simp only [IObj.big, Bool.and_eq_true, Bool.not_eq_true', bne_iff_ne] at hb
    obtain ⟨rfl, hz⟩ := hb
    obtain ⟨c, t, fz, hg, hrel⟩ := ho
    rcases (hrel.own rfl).2.2.1 with h1 | h1
    · exact ⟨c, t, fz, hg, h1⟩
    · exact absurd h1.1 hz
theorem big_apart (hw : WRel ρ B w h) {l l' : Nat} {r r' : RLoc} (hr : ρ[l]? = some r) (hr' : ρ[l']? = some r') (hne : l ≠ l') (hb : (h.obj l).big = true) (hb' : (h.obj l').big = true) : r.block ≠ r'.block := by
  refine hw.excl l l' r r' hr hr' hne ?_ ?_
  · cases hob : h.obj l <;> rw [hob] at hb <;> simp [IObj.big, IObj.own] at *
    exact hb.1
  · cases hob : h.obj l' <;> rw [hob] at hb' <;> simp [IObj.big, IObj.live] at *

theorem eqFields_flat {xs ys : Array Value} {d : Nat} : ∀ (fs : List Field) (i : Nat) (ks : List Nat) (us vs : List IV) (b : Bool), flatK P i fs = some ks → LRel ρ (xs.toList.drop i) us → LRel ρ (ys.toList.drop i) vs → aeqV ks us vs = some b →
    (Op.eqFields (d + 1) xs ys fs).run P w = .ok b w
  | [], i, ks, us, vs, b, hf, _, _, he => by
    simp only [flatK, Option.some.injEq] at hf
    subst hf
    cases us <;> cases vs <;> simp [aeqV] at he
    subst he
    simp [Op.eqFields]
  | f :: r, i, ks, us, vs, b, hf, hu, hv, he => by
    simp only [flatK] at hf
    split at hf
    · rename_i hc
      obtain ⟨f1, rfl, f3⟩ := hc
      have key : ∀ (l : List Nat) (u v : IV) (us' vs' : List IV), flatK P (f.offset + 1) r = some l → us = u :: us' → vs = v :: vs' → ∃ x y, VRel ρ x u ∧ VRel ρ y v ∧
          ∀ (e t : Bool), (Op.equalIn (d + 1) f.type x y).run P w = .ok e w → aeqV l us' vs' = some t → (Op.eqFields (d + 1) xs ys (f :: r)).run P w = .ok (e && t) w := by
        rintro l u v us' vs' f5 rfl rfl
        obtain ⟨x, hx, rx⟩ := hu.of_get' (i := 0) (v' := u) rfl
        obtain ⟨y, hy, ry⟩ := hv.of_get' (i := 0) (v' := v) rfl
        have hx' : xs[f.offset]? = some x := by simpa [List.getElem?_drop] using hx
        have hy' : ys[f.offset]? = some y := by simpa [List.getElem?_drop] using hy
        have tu : LRel ρ (xs.toList.drop (f.offset + 1)) us' := by
          rw [← List.tail_drop]
          cases hh : xs.toList.drop f.offset with
          | nil => rw [hh] at hx; simp at hx
          | cons a t => rw [hh] at hu; exact hu.tail
        have tv : LRel ρ (ys.toList.drop (f.offset + 1)) vs' := by
          rw [← List.tail_drop]
          cases hh : ys.toList.drop f.offset with
          | nil => rw [hh] at hy; simp at hy
          | cons a t => rw [hh] at hv; exact hv.tail
        have p1 := run_part_plain (w := w) f3 hx'
        have p2 := run_part_plain (w := w) f3 hy'
        refine ⟨x, y, rx, ry, fun e t h3 h4 => ?_⟩
        have h6 := eqFields_flat (d := d) r (f.offset + 1) l us' vs' t f5 tu tv h4
        cases e <;> simp [Op.eqFields, f1, p1, p2, h3, h6]
      split at hf
      · rename_i k l hu1 hl
        obtain rfl := Option.some.inj hf
        unfold aeqV at he
        split at he <;> first | cases he | skip
        all_goals first | (rename_i hks; cases hks; done) | skip
        · rename_i ks' k1 a r1 k2 b1 r2 hks
          cases hks
          split at he
          · rename_i hk
            subst hk
            rw [Option.map_eq_some_iff] at he
            obtain ⟨t, ht, rfl⟩ := he
            obtain ⟨x, y, rx, ry, fin⟩ := key l _ _ _ _ hl rfl rfl
            cases rx
            cases ry
            exact fin _ t (run_equalIn_int w d f.type k1 k a b1 hu1) ht
          · cases he
      · rename_i l hu1 hl
        obtain rfl := Option.some.inj hf
        unfold aeqV at he
        split at he <;> first | cases he | skip
        all_goals first | (rename_i hks; cases hks; done) | skip
        · rename_i ks' a r1 b1 r2 hks
          cases hks
          rw [Option.map_eq_some_iff] at he
          obtain ⟨t, ht, rfl⟩ := he
          obtain ⟨x, y, rx, ry, fin⟩ := key l _ _ _ _ hl rfl rfl
          cases rx
          cases ry
          rename_i sa sb
          have h7 := run_equalIn_string (P := P) w d f.type sa sb hu1
          rw [show (sa.toList == sb.toList) = decide (sa.data.toList = sb.data.toList) by rw [ByteArray.toList_eq, ByteArray.toList_eq]; rw [Bool.eq_iff_iff]; simp] at h7
          exact fin _ t h7 ht
      · rename_i l hu1 hl
        obtain rfl := Option.some.inj hf
        unfold aeqV at he
        split at he <;> first | cases he | skip
        all_goals first | (rename_i hks; cases hks; done) | skip
        · rename_i ks' a r1 b1 r2 hks
          cases hks
          rw [Option.map_eq_some_iff] at he
          obtain ⟨t, ht, rfl⟩ := he
          obtain ⟨x, y, rx, ry, fin⟩ := key l _ _ _ _ hl rfl rfl
          cases rx
          cases ry
          exact fin _ t (run_equalIn_bool' w d f.type a b1 hu1) ht
      · cases hf
    · cases hf
theorem u_sound (hw : WRel ρ B w h) (ha : ARel ρ N a e) {o : Oper} {k : UK} {xs : List CX} {v : IV} (hc : ucomp P o.op = some (k, xs)) (hv : ueval h k (xs.map (CX.ev e)) = some v) : Gives P o a w ρ v := by
  unfold Gives
  generalize hop : o.op = op at hc
  unfold ucomp at hc
  split at hc
  · -- pointers held against each other
    rename_i bop t x y yt
    split at hc
    · rename_i te g x' y' ht hg hx hy
      split at hc
      rotate_left
      · cases hc
      rename_i j hj
      split at hc
      · rename_i hjz
        obtain ⟨rfl, rfl⟩ := Prod.mk.inj (Option.some.inj hc)
        simp only [mc0, mn0] at hv
        unfold ueval at hv
        split at hv
        · rename_i g0 l i k l' i' k' hk hl
          simp only [List.cons.injEq, and_true] at hl
          obtain ⟨h1, h2⟩ := hl
          cases hk
          split at hv
          · rename_i heq
            obtain ⟨rfl, rfl, rfl⟩ := heq
            obtain rfl := Option.some.inj hv
            have r1 := cx_rel hx ha
            have r2 := cx_rel hy ha
            rw [h1] at r1
            rw [h2] at r2
            generalize hxv : a.eval x = xv at r1
            generalize hyv : a.eval y = yv at r2
            cases r1 with
            | ptr q1 =>
              cases r2 with
              | ptr q2 =>
                rw [q1] at q2
                obtain rfl := Option.some.inj q2
                refine ⟨_, ?_, VRel.bool _⟩
                simp only [execOp, hop, Sem.run_bind, hxv, hyv, eqGuard_plain (P := P) (w := w) (op := bop) (t := t) (x := x) (y := y) (p := .pointer (some ⟨_, _, none⟩)) ⟨by simp, by simp⟩, Result.andThen_ok, run_eq_ptr_same hg _ ht hj, Sem.run_pure]
          · split at hv
            · rename_i hfar
              obtain ⟨hne, hb1, hb2⟩ := hfar
              obtain rfl := Option.some.inj hv
              have r1 := cx_rel hx ha
              have r2 := cx_rel hy ha
              rw [h1] at r1
              rw [h2] at r2
              generalize hxv : a.eval x = xv at r1
              generalize hyv : a.eval y = yv at r2
              cases r1 with
              | ptr q1 =>
                cases r2 with
                | ptr q2 =>
                  obtain ⟨ca, ta, fa, w1, f1⟩ := big_cells hw q1 hb1
                  obtain ⟨cb, tb, fb, w2, f2⟩ := big_cells hw q2 hb2
                  refine ⟨_, ?_, VRel.bool _⟩
                  simp only [execOp, hop, Sem.run_bind, hxv, hyv, eqGuard_plain (P := P) (w := w) (op := bop) (t := t) (x := x) (y := y) (p := .pointer (some ⟨_, _, none⟩)) ⟨by simp, by simp⟩, Result.andThen_ok, run_eq_ptr_far hg ht hj hjz (a := ⟨_, _, none⟩) (b := ⟨_, _, none⟩) (big_apart hw q1 q2 hne hb1 hb2) w1 f1 w2 f2, Sem.run_pure]
            · cases hv
        all_goals (rename_i hk _; first | cases hk | cases hv)
      · cases hc
    · rename_i fs g x' y' ht hg hx hy
      split at hc
      · rename_i hi
        obtain ⟨hi1, hi2⟩ := hi
        rw [Option.map_eq_some_iff] at hc
        obtain ⟨ks, hks, hc⟩ := hc
        obtain ⟨rfl, rfl⟩ := Prod.mk.inj hc
        simp only [mc0, mn0] at hv
        unfold ueval at hv
        split at hv <;> first | (rename_i hk _; cases hk; done) | skip
        · rename_i g0 ks0 us vs hk hl
          cases hk
          simp only [List.cons.injEq, and_true] at hl
          obtain ⟨h1, h2⟩ := hl
          rw [Option.map_eq_some_iff] at hv
          obtain ⟨b, hb, rfl⟩ := hv
          have r1 := cx_rel hx ha
          have r2 := cx_rel hy ha
          rw [h1] at r1
          rw [h2] at r2
          generalize hxv : a.eval x = xv at r1
          generalize hyv : a.eval y = yv at r2
          cases r1 with
          | agg hl1 q1 =>
            rename_i cs1
            cases r2 with
            | agg hl2 q2 =>
              rename_i cs2
              have hfo : P.fieldsOf t = fs := by unfold Program.fieldsOf; rw [ht]
              have he := eqFields_flat (w := w) (P := P) (ρ := ρ) (xs := cs1) (ys := cs2) (d := 9998) fs.toList 0 ks us vs b hks ⟨by simpa using hl1, fun i v v' hv hv' => q1 i v v' (by simpa using hv) hv'⟩ ⟨by simpa using hl2, fun i v v' hv hv' => q2 i v v' (by simpa using hv) hv'⟩ hb
              have hq := run_equalIn_agg (P := P) w 9999 t cs1 cs2 (by rw [hfo]; exact ht) hi1
              rw [hfo, he] at hq
              refine ⟨.bool (b != g), ?_, VRel.bool _⟩
              simp only [execOp, hop, Sem.run_bind, hxv, hyv, run_eqGuard_agg w _ _ _ _ _ _ hi2, Result.andThen_ok]
              cases bop <;> simp only [negOf] at hg <;> first | cases hg | skip
              · rw [run_eql_struct, hq]; simp [Sem.run_pure]
              · rw [run_neq_struct, hq]; simp [Sem.run_pure]
        · cases hv
      · cases hc
    · cases hc
  · rename_i src dst x
    split at hc
    · rename_i t x' hs hd hx
      split at hc
      · rename_i j hj
        split at hc
        · cases hc
        · rename_i hz
          obtain ⟨rfl, rfl⟩ := Prod.mk.inj (Option.some.inj hc)
          simp only [mc0, mn0] at hv
          unfold ueval at hv
          split at hv
          · rename_i hk _; cases hk
          · rename_i l hk hl
            simp only [List.cons.injEq, and_true] at hl
            have r1 := cx_rel hx ha
            rw [hl] at r1
            split at hv
            · rename_i r0 rs0 e0 sz0 hob
              split at hv
              · cases hv
              · rename_i hs0
                obtain rfl := Option.some.inj hv
                generalize hxv : a.eval x = xv at r1
                cases r1 with
                | ptr q1 =>
                  rename_i r
                  have ho := hw.obj l r q1
                  rw [hob] at ho
                  obtain ⟨c, t', fz, hheap, hrel⟩ := ho
                  obtain ⟨b0, b1, b2, b3, b4, b5⟩ := hrel.own rfl
                  have hlen := hrel.len
                  have hsh : w.shape? r.block = some (t', c.size) := by unfold World.shape?; rw [hheap]
                  refine ⟨_, ?_, VRel.ptr q1⟩
                  have hpos : 0 < c.size := by rw [b5]; exact Nat.mul_pos (by simp at hlen; omega) (by omega)
                  have hr := Lib.run_to_unsafe (P := P) w ⟨r.block, r.base + 0 * r.sz + 0, none⟩ hs hd hj hz hsh (by simp [b0, hpos])
                  simp only [Nat.zero_mul, Nat.add_zero] at hr
                  simp [execOp, hop, hxv, hr]
            · cases hv
          all_goals (rename_i hk _; first | cases hk | cases hv)
      · cases hc
    · rename_i u x' hs hd hx
      split at hc
      · rename_i j hj
        split at hc
        · cases hc
        · rename_i hz
          obtain ⟨rfl, rfl⟩ := Prod.mk.inj (Option.some.inj hc)
          simp only [mc0, mn0] at hv
          unfold ueval at hv
          split at hv
          · rename_i hk _; cases hk
          · rename_i hk _; cases hk
          · rename_i e1 sz1 l hk hl
            cases hk
            simp only [List.cons.injEq, and_true] at hl
            have r1 := cx_rel hx ha
            rw [hl] at r1
            split at hv
            · rename_i r0 rs0 e0 sz0 hob
              split at hv
              · rename_i heq
                obtain ⟨rfl, rfl⟩ := heq
                obtain rfl := Option.some.inj hv
                generalize hxv : a.eval x = xv at r1
                cases r1 with
                | ptr q1 =>
                  rename_i r
                  have ho := hw.obj l r q1
                  rw [hob] at ho
                  obtain ⟨c, t', fz, hheap, hrel⟩ := ho
                  obtain ⟨b0, b1, b2, b3, b4, b5⟩ := hrel.own rfl
                  have hlen := hrel.len
                  have hsh : w.shape? r.block = some (t', c.size) := by unfold World.shape?; rw [hheap]
                  rw [b3] at hsh
                  refine ⟨_, ?_, VRel.ptr q1⟩
                  have hcnt : c.size / P.cellsOf e0 = r.cap := by rw [b5]; exact Nat.mul_div_cancel _ (by omega)
                  have hlies : liesAt P P.depth e0 (c.size / P.cellsOf e0) (⟨r.block, r.base + 0 * r.sz + 0, none⟩ : Addr).off e0 1 = true := by
                    show liesAt P P.depth e0 (c.size / P.cellsOf e0) (r.base + 0 * r.sz + 0) e0 1 = true
                    rw [b0, hcnt]
                    simp only [Nat.zero_mul, Nat.add_zero]
                    exact liesAt_own hz _ (by simp at hlen; omega)
                  have hr := Lib.run_from_unsafe (P := P) w ⟨r.block, r.base + 0 * r.sz + 0, none⟩ hs hd hj hsh hlies
                  simp only [Nat.zero_mul, Nat.add_zero] at hr
                  simp [execOp, hop, hxv, hr]
              · cases hv
            · cases hv
          all_goals (rename_i hk _; first | cases hk | cases hv)
      · cases hc
    · cases hc
  · rename_i args argTypes
    split at hc
    · rename_i x hargs
      rw [Option.map_eq_some_iff] at hc
      obtain ⟨x', hx, hc⟩ := hc
      obtain ⟨rfl, rfl⟩ := Prod.mk.inj hc
      have e1 : args = #[x] := by cases args; simp_all
      subst e1
      simp only [mc0, mn0] at hv
      unfold ueval at hv
      split at hv
      · rename_i hk _; cases hk
      · rename_i hk _; cases hk
      · rename_i hk _; cases hk
      · rename_i l i n _ hl
        simp only [List.cons.injEq, and_true] at hl
        have r1 := cx_rel hx ha
        rw [hl] at r1
        split at hv
        · cases hv
        · rename_i hn
          obtain rfl := Option.some.inj hv
          generalize hxv : a.eval x = xv at r1
          cases r1 with
          | slice q1 q2 q3 q4 =>
            rename_i c r
            refine ⟨_, ?_, VRel.ptr q1⟩
            simp [execOp, hop, resolve, invoke, builtin, hxv, Lib.run_unsafeSliceData_row (P := P) w _ _ ⟨r.block, r.base + i * r.sz, none⟩ n c (by omega)]
      · rename_i _ hl
        simp only [List.cons.injEq, and_true] at hl
        have r1 := cx_rel hx ha
        rw [hl] at r1
        obtain rfl := Option.some.inj hv
        generalize hxv : a.eval x = xv at r1
        cases r1
        refine ⟨_, ?_, VRel.nilptr⟩
        simp [execOp, hop, resolve, invoke, builtin, hxv, Lib.run_unsafeSliceData_nil (P := P) w]
      · rename_i hk _; cases hk
      · cases hv
    · cases hc
  · cases hc
theorem fkc_sound (hw : WRel ρ B w h) (ha : ARel ρ N a e) {o : Oper} {ck : FK} {v : IV} (hc : fkc P o.op = some ck) (hv : feval e h ck = some v) : Gives P o a w ρ v := by
  unfold fkc at hc
  split at hc
  · rename_i k h0
    obtain rfl := Option.some.inj hc
    exact fk_sound hw ha h0 hv
  · rw [Option.map_eq_some_iff] at hc
    obtain ⟨⟨k, xs⟩, h0, rfl⟩ := hc
    exact u_sound hw ha h0 hv
theorem run_loadB : ∀ (l : List Int) (ad : Addr) (acc : ByteArray), (∀ j x, l[j]? = some x → w.cell? (ad.add j) = some (.int .u8 x)) →
    (loadBytes ad acc l.length).run P w = .ok ⟨acc.data ++ (l.map fun x => x.toNat.toUInt8).toArray⟩ w
  | [], ad, acc, _ => by simp [loadBytes]
  | x :: l, ad, acc, hl => by
    have h0 : w.cell? ad = some (.int .u8 x) := by
      have := hl 0 x rfl
      simpa [Addr.add] using this
    have ih := run_loadB l (ad.add 1) (acc.push x.toNat.toUInt8) (fun j y hy => by
      have := hl (j + 1) y (by simpa using hy)
      have e : (ad.add 1).add j = ad.add (j + 1) := by
        unfold Addr.add
        by_cases hj : j = 0
        · subst hj; simp
        · simp [hj]; omega
      rw [e]; exact this)
    simp only [lc0, loadBytes, Sem.run_bind, run_load, h0, Result.andThen]
    rw [ih]
    congr 1
    apply ByteArray.ext
    simp [ByteArray.push]
theorem run_unsafeB (pt it ty e : TypeId) (hp : P.underlying pt = some (.pointer e)) (hc : P.cellsOf e = 1) (g cells : Nat) (hsh : w.shape? g = some (e, cells)) (l : List Int) (h0 : l ≠ []) (hn : l.length ≤ cells) (h63 : (l.length : Int) ≤ 9223372036854775807)
    (hcell : ∀ j x, l[j]? = some x → w.cell? ((⟨g, 0, none⟩ : Addr).add j) = some (.int .u8 x)) :
    (Builtin.unsafeString_ #[pt, it] ty #[.pointer (some ⟨g, 0, none⟩), .int .i64 l.length]).run P w = .ok (.string ⟨(l.map fun x => x.toNat.toUInt8).toArray⟩) (w.freeze ⟨g, 0, none⟩ l.length) := by
  have hl : l.length ≠ 0 := by simpa using h0
  have hlb := run_loadB (P := P) (w := w) l ⟨g, 0, none⟩ .empty hcell
  have hlies := Lib.liesAt_bytes (P := P) hc (cells / P.cellsOf e) l.length (by rw [hc]; simpa using hn)
  have h63' : ¬ (9223372036854775807 : Int) < (l.length : Int) := by omega
  have hdef : Builtin.unsafeString_ #[pt, it] ty #[.pointer (some ⟨g, 0, none⟩), .int .i64 l.length] =
      (do
        let n ← asInt (.int .i64 l.length)
        if n < 0 then runtimePanic (.error "unsafe.String: len out of range")
        if n > IntKind.i64.max then unsupported (.unsafePointer "String: a length above the largest int")
        if n = 0 then pure (.string .empty)
        else if ← variablesAt ⟨g, 0, none⟩ (← elemOf pt) n.toNat then do
          let s ← loadBytes ⟨g, 0, none⟩ .empty n.toNat
          freeze ⟨g, 0, none⟩ n.toNat
          pure (.string s)
        else unsupported (.unsafePointer "String: not so many bytes at ptr")) := rfl
  rw [hdef]
  have hmax : IntKind.i64.max = 9223372036854775807 := rfl
  have hneg : ¬ (l.length : Int) < 0 := by omega
  simp [asInt, asIntOf, hmax, h63', hneg, hl, variablesAt, hsh, elemOf, run_underlying hp, hlies, hlb]
theorem bytesOf_ints : ∀ {rs : List (List IV)} {s : List UInt8}, bytesOf rs = some s → ∃ l : List Int, rs = l.map (fun x => [IV.int .u8 x]) ∧ s = l.map fun x => x.toNat.toUInt8
  | [], s, h => by cases h; exact ⟨[], rfl, rfl⟩
  | [.int .u8 n] :: r, s, h => by
    simp only [bytesOf] at h
    rw [Option.map_eq_some_iff] at h
    obtain ⟨t, ht, rfl⟩ := h
    obtain ⟨l, rfl, rfl⟩ := bytesOf_ints ht
    exact ⟨n :: l, rfl, rfl⟩

theorem clr_out (hw : WRel ρ B w h) {t ty el : TypeId} (ht : P.underlying t = some (.slice el)) {i : TypeInfo} (hi : P.info? el = some i) {z : List IV} (hz : zeroOf P el = some z) (hzl : z.length = i.size) (hpos : 0 < i.size) (hone : z.all IV.one = true)
    {x : Value} {x' : IV} (hx : VRel ρ x x') {n : Nat} (hn : ilen x' = some n) {K : IV → IH → Prop} (hk : copyK h i.size x' (List.replicate n z) fun _ h' => K (.tuple []) h') :
    ∃ v' w', (Builtin.clear_ #[t] ty #[x]).run P w = .ok v' w' ∧ Out ρ B w K v' w' := by
  obtain ⟨zv, hz1, hz2, hz3⟩ := run_zeroValue hz ρ
  obtain ⟨hiz, hzs⟩ := info_size hz3 hi hz2 hzl
  have hxn : ∃ b c, x = .slice b n c := by
    cases hx <;> simp [ilen] at hn
    · exact ⟨_, _, by rw [hn]⟩
    · exact ⟨_, _, by rw [hn]⟩
    · exact ⟨_, _, by rw [hn]⟩
  obtain ⟨b, c, rfl⟩ := hxn
  have hfl := madeCells_flat hz2 n (by omega)
  have hmin : min (List.replicate n z).length n = n := by simp
  obtain ⟨k, w', ρ', h', e1, e2, e3, e4, e5⟩ := row_out (P := P) (R := Builtin.clear_ #[t] ty #[.slice b n c]) (fv := fun _ => .tuple #[]) hw hx hfl
    ⟨fun r hr => by rw [List.eq_of_mem_replicate hr]; exact hzl, fun r hr => by rw [List.eq_of_mem_replicate hr]; exact all_one hone⟩ hk
    (fun b' n' c' hx' hm => by
      cases hx'
      rw [hmin] at hm
      subst hm
      cases b <;> simp [Builtin.clear_, run_underlying ht])
    (fun r j n' c' w1 hx' hm hst => by
      cases hx'
      rw [hmin] at hm hst
      have e : (madeCells zv.cells (n * zv.cells.size)).toList.take (n * i.size) = (Builtin.zeroCells zv.cells n).toList := by
        rw [List.take_of_length_le (by rw [Array.length_toList, size_madeCells, hzs]; exact Nat.le_refl _)]
        rfl
      rw [e] at hst
      obtain ⟨q, rfl⟩ : ∃ q, n = q + 1 := ⟨n - 1, by omega⟩
      simp [Builtin.clear_, run_underlying ht, hz1, hst])
  exact ⟨_, w', e1, ρ', _, h', e2, e3, .tuple rfl (by simp), e4, e5⟩

theorem ux_sound (hw : WRel ρ B w h) (ha : ARel ρ N a e) {o : Oper} {k : UX} {xs : List CX} {K : IV → IH → Prop} (hc : uxcomp P o.op = some (k, xs)) (hk : uact P h K k (xs.map (CX.ev e))) : Does P o a w ρ B K := by
  generalize hop : o.op = op at hc
  unfold uxcomp at hc
  split at hc
  · rename_i args argTypes
    split at hc
    · rename_i x y t u hargs htys
      split at hc
      · rename_i el x' y' ht hx hy
        split at hc
        · rename_i hcell
          obtain ⟨rfl, rfl⟩ := Prod.mk.inj (Option.some.inj hc)
          have e1 : args = #[x, y] := by cases args; simp_all
          have e2 : argTypes = #[t, u] := by cases argTypes; simp_all
          subst e1; subst e2
          simp only [mc0, mn0] at hk
          have r1 := cx_rel hx ha
          have r2 := cx_rel hy ha
          unfold uact at hk
          split at hk
          · rename_i n _ hl
            simp only [List.cons.injEq, and_true] at hl
            obtain ⟨l1, l2⟩ := hl
            obtain ⟨rfl, hk⟩ := hk
            rw [l1] at r1
            rw [l2] at r2
            generalize hxv : a.eval x = xv at r1
            generalize hyv : a.eval y = yv at r2
            cases r1
            cases r2
            refine does_value ⟨.string .empty, w, ?_, ρ, .str [], h, List.prefix_rfl, hw, (VRel.str ByteArray.empty : VRel ρ (.string .empty) (.str [])), Below.refl _ _, hk⟩
            simp [execOp, hop, resolve, invoke, builtin, hxv, hyv, Lib.run_unsafeString_none (P := P) w]
          · rename_i el' l n hq hl
            cases hq
            simp only [List.cons.injEq, and_true] at hl
            obtain ⟨l1, l2⟩ := hl
            rw [l1] at r1
            rw [l2] at r2
            split at hk
            · rename_i rs e0 sz0 hob
              obtain ⟨rfl, rfl, hn0, hn1, hn2, hk⟩ := hk
              split at hk
              · rename_i s hs
                generalize hxv : a.eval x = xv at r1
                generalize hyv : a.eval y = yv at r2
                cases r1 with
                | ptr q1 =>
                  rename_i r
                  cases r2
                  have ho := hw.obj l r q1
                  rw [hob] at ho
                  obtain ⟨c, t', fz, hheap, hrel⟩ := ho
                  obtain ⟨b0, b1, b2, b3, b4, b5⟩ := hrel.own rfl
                  have hlen := hrel.len
                  have hsh : w.shape? r.block = some (t', c.size) := by unfold World.shape?; rw [hheap]
                  rw [b3] at hsh
                  obtain ⟨li, hli, rfl⟩ := bytesOf_ints hs
                  have hll : li.length = n.toNat := by
                    have := congrArg List.length hli
                    simp at this; omega
                  have hcell2 : ∀ j x, li[j]? = some x → w.cell? ((⟨r.block, 0, none⟩ : Addr).add j) = some (.int .u8 x) := by
                    intro j x hj
                    have hrj : rs[j]? = some [IV.int .u8 x] := by
                      have h1 : (rs.take n.toNat)[j]? = some [IV.int .u8 x] := by rw [hli]; simp [hj]
                      rw [List.getElem?_take] at h1
                      split at h1
                      · exact h1
                      · cases h1
                    obtain ⟨v, g1, g2⟩ := hrel.cells j _ hrj 0 (.int .u8 x) rfl
                    cases g2
                    have : (⟨r.block, 0, none⟩ : Addr).add j = ⟨r.block, j, none⟩ := by
                      unfold Addr.add
                      by_cases h0 : j = 0
                      · subst h0; rfl
                      · simp [h0]
                    rw [this, Lib.cell_of_heap hheap]
                    rw [b0] at g1
                    simpa using g1
                  have hrun := run_unsafeB (P := P) (w := w) t u o.type e0 ht hcell r.block c.size hsh li (by intro h0; rw [h0] at hll; simp at hll; omega) (by rw [b5]; omega) (by omega) hcell2
                  have hnn : ((li.length : Nat) : Int) = n := by omega
                  rw [hnn] at hrun
                  have hvr : VRel ρ (.string ⟨(li.map fun x => x.toNat.toUInt8).toArray⟩) (.str (li.map fun x => x.toNat.toUInt8)) := by
                    have := VRel.str (ρ := ρ) ⟨(li.map fun x => x.toNat.toUInt8).toArray⟩
                    simpa using this
                  refine does_value ⟨.string ⟨(li.map fun x => x.toNat.toUInt8).toArray⟩, w.freeze ⟨r.block, 0, none⟩ li.length, ?_, ρ, .str (li.map fun x => x.toNat.toUInt8), h.set l (.rows rs e0 1 true), List.prefix_rfl, ?_, hvr, Lib.below_freeze (Below.refl _ _) b1 _, ?_⟩
                  · have hz : (⟨r.block, r.base + 0 * r.sz + 0, none⟩ : Addr) = ⟨r.block, 0, none⟩ := by rw [b0]; simp
                    rw [hz] at hxv
                    simp [execOp, hop, resolve, invoke, builtin, hxv, hyv]
                    rw [hrun]
                    rfl
                  · have hfree : ∃ fz', (w.freeze ⟨r.block, 0, none⟩ li.length).heap[r.block]? = some (.cells c t' fz') := by
                      unfold World.freeze
                      split
                      · exact ⟨fz, hheap⟩
                      · obtain ⟨f1, f2⟩ := fz
                        exact ⟨if f1 == f2 then (0, 0 + li.length) else (min f1 0, max f2 (0 + li.length)), by
                          rw [Array.getElem?_modify, if_pos rfl, hheap]; rfl⟩
                    obtain ⟨fz', hfree⟩ := hfree
                    refine hw.set q1 (by rw [hob]; rfl) ?_ ?_ ⟨c, t', fz', hfree, ⟨hrel.hsz, hrel.size, hrel.len, hrel.each, hrel.one, hrel.cells, fun h0 => by cases h0⟩⟩
                    · intro k hkb
                      unfold World.freeze
                      split
                      · rfl
                      · simp only [Array.getElem?_modify]
                        rw [if_neg (fun e => hkb e.symm)]
                    · unfold World.freeze
                      split
                      · exact Nat.le_refl _
                      · simp
                  · exact hk
              · exact hk.elim
            · exact hk.elim
          · rename_i hq _; cases hq
          · rename_i hq _; cases hq
          · exact hk.elim
        · cases hc
      · cases hc
    · cases hc
  · rename_i src dst x
    split at hc
    · rename_i te x' hs hx
      split at hc
      · rename_i he
        split at hc
        · rename_i hsd
          subst hsd
          obtain ⟨rfl, rfl⟩ := Prod.mk.inj (Option.some.inj hc)
          simp only [mc0, mn0] at hk
          have r1 := cx_rel hx ha
          unfold uact at hk
          split at hk
          · rename_i hq _; cases hq
          · rename_i hq _; cases hq
          · rename_i l i n _ hl
            simp only [List.cons.injEq, and_true] at hl
            rw [hl] at r1
            split at hk
            · rename_i rs e0 sz0 hob
              obtain ⟨hz1, hk⟩ := hk
              generalize hxv : a.eval x = xv at r1
              cases r1 with
              | slice q1 q2 q3 q4 =>
                rename_i cp r
                have ho := hw.obj l r q1
                rw [hob] at ho
                obtain ⟨c, t', fz, hheap, hrel⟩ := ho
                obtain ⟨b0, b1, b2, b3, b4, b5⟩ := hrel.own rfl
                have hsh : w.shape? r.block = some (t', c.size) := by unfold World.shape?; rw [hheap]
                have hself : h.set l (.rows rs e0 sz0 false) = h := by
                  unfold IH.set
                  cases h
                  simp only [IH.mk.injEq, true_and]
                  funext m
                  split
                  · rename_i e; subst e; exact hob.symm
                  · rfl
                have hv1 : VRel ρ (.slice (some ⟨r.block, r.base + i * r.sz, none⟩) n cp) (.slice l i n) := .slice q1 q2 q3 q4
                refine does_value ⟨_, w.freeze ⟨r.block, c.size, none⟩ 1, ?_, ρ, .slice l i n, h, List.prefix_rfl, ?_, hv1, Lib.below_freeze (Below.refl _ _) b1 _, hk⟩
                · simp [execOp, hop, hxv, convert, run_underlying hs, run_underlying he, markStringish, hsh]
                · have hfree : ∃ fz', (w.freeze ⟨r.block, c.size, none⟩ 1).heap[r.block]? = some (.cells c t' fz') ∧ FzOk sz0 c.size fz' := by
                    unfold World.freeze
                    rw [if_neg (by decide)]
                    obtain ⟨f1, f2⟩ := fz
                    refine ⟨if f1 == f2 then (c.size, c.size + 1) else (min f1 c.size, max f2 (c.size + 1)), ?_, ?_⟩
                    · rw [Array.getElem?_modify, if_pos rfl, hheap]; rfl
                    · split
                      · exact .inr ⟨hz1, Nat.le_refl _⟩
                      · rename_i hne
                        rcases b2 with h0 | ⟨_, h0⟩
                        · simp at hne; exact absurd h0 hne
                        · refine .inr ⟨hz1, ?_⟩
                          simp only at h0 ⊢
                          omega
                  obtain ⟨fz', hfree, hfz'⟩ := hfree
                  have := hw.set (o := .rows rs e0 sz0 false) (w' := w.freeze ⟨r.block, c.size, none⟩ 1) q1 (by rw [hob]; rfl) ?_ ?_ ⟨c, t', fz', hfree, ⟨hrel.hsz, hrel.size, hrel.len, hrel.each, hrel.one, hrel.cells, fun _ => ⟨b0, b1, hfz', b3, b4, b5⟩⟩⟩
                  · rw [hself] at this; exact this
                  · intro k hkb
                    unfold World.freeze
                    split
                    · rfl
                    · simp only [Array.getElem?_modify]
                      rw [if_neg (fun e => hkb e.symm)]
                  · unfold World.freeze
                    split
                    · exact Nat.le_refl _
                    · simp
            · exact hk.elim
          · rename_i hq _; cases hq
          · exact hk.elim
        · cases hc
      · cases hc
    · cases hc
  · rename_i args argTypes
    split at hc
    · rename_i x t hargs htys
      have e1 : args = #[x] := by cases args; simp_all
      have e2 : argTypes = #[t] := by cases argTypes; simp_all
      subst e1; subst e2
      split at hc
      · rename_i el x' ht hx
        split at hc
        · rename_i z i hz hi
          split at hc
          · rename_i hcond
            obtain ⟨hzl, hpos, hone⟩ := hcond
            obtain ⟨rfl, rfl⟩ := Prod.mk.inj (Option.some.inj hc)
            simp only [mc0, mn0] at hk
            have hk : (match ilen (x'.ev e) with | some n => copyK h i.size (x'.ev e) (List.replicate n z) fun _ h' => K (.tuple []) h' | none => False) := hk
            split at hk
            · rename_i n hn
              obtain ⟨v', w', k1, k2⟩ := clr_out (P := P) (ty := o.type) hw ht hi hz hzl hpos hone (cx_rel hx ha) hn hk
              exact does_value ⟨v', w', by simp [execOp, hop, resolve, invoke, builtin, k1], k2⟩
            · exact hk.elim
          · cases hc
        · cases hc
      · cases hc
    · cases hc
  · cases hc
theorem ekc_sound [GOk P B w] (hw : WRel ρ B w h) (ha : ARel ρ N a e) {o : Oper} {ck : EK} {K : IV → IH → Prop} (hc : ekc P o.op = ck) (hk : act P h e K ck) : Does P o a w ρ B K := by
  unfold ekc at hc
  split at hc
  · rename_i k h0
    subst hc
    exact ek_sound hw ha h0 hk
  · split at hc
    · rename_i p h0
      subst hc
      exact ux_sound hw ha h0 hk
    · subst hc
      exact False.elim hk

theorem op_step [hG : GOk P B w0] (hw : WRel ρ B w h) (ha : ARel ρ N a e) (hp : ρ0 <+: ρ) (hb : Below B w0 w) {ops : Array Oper} {i : Nat} {o : Oper} {c : COp} (hi : ops[i]? = some o) (hc : ocomp P N ops o = some c)
    {K : Env → IH → Prop} (hv : vcOp P c K e h) {R : Act → World → Prop} {Q : Exit → Act → World → Prop} (hR : ∀ a' w', St ρ0 N B w0 K a' w' → R a' w') : wpOp P ops Q i R a w := by
  obtain ⟨hdst, hd, hg, hk⟩ := ocomp_spec hc
  unfold wpOp
  rw [hi]
  simp only
  have skip : ∀ {v' : Value} {v : IV}, VRel ρ v' v → K (put e c.dst v) h → R (a.put o.dst v') w := fun hr hk => hR _ _ ⟨ρ, _, h, hp, hw, by rw [← hdst]; exact ha.put (fun t ht => hd t (by rw [← hdst]; exact ht)) hr, hb, hk⟩
  have float : ∀ {k : FK} {v : IV}, fkc P o.op = some k → feval e h k = some v → K (put e c.dst v) h → o.wp P a w R Q := by
    intro k v h1 h2 h3
    obtain ⟨v', g1, g2⟩ := fkc_sound hw ha h1 h2
    unfold Oper.wp
    rw [g1]
    exact skip g2 h3
  have eff : ∀ {k : EK}, ekc P o.op = k → act P h e (fun v h' => K (put e c.dst v) h') k → o.wp P a w R Q := by
    intro k h1 h2
    haveI := hG.below hb
    refine ekc_sound hw ha h1 h2 R Q (fun v' w' ho => ?_)
    obtain ⟨ρ', v, h', g1, g2, g3, g4, g5⟩ := ho
    exact hR _ _ ⟨ρ', _, h', hp.trans g1, g2, by rw [← hdst]; exact (ha.mono g1).put (fun t ht => hd t (by rw [← hdst]; exact ht)) g3, hb.trans g4, g5⟩
  unfold vcOp at hv
  rcases hg with ⟨hg1, hg2⟩ | ⟨j, want, t, hg1, hg2, hg3⟩
  · rw [hg2] at hv
    rw [if_pos (by simp [Region.wanted, hg1])]
    left
    rcases hk with ⟨k, hk1, hk2⟩ | ⟨k, hk1, hk2⟩
    · simp only [hk1, vcK] at hv
      split at hv
      · rename_i v hfv; exact float hk2 hfv hv
      · cases hv
    · simp only [hk1, vcK] at hv
      exact eff hk2 hv
  · rw [hg3] at hv
    simp only at hv
    split at hv
    · rename_i b he
      have hy := yielded_of ha hg2 he
      have hwant : Region.wanted o (yielded ops a.tmps) = (b == want) := by
        simp only [Region.wanted, hg1, hy]
        cases b <;> cases want <;> rfl
      rw [hwant]
      by_cases hbw : b = want
      · rw [if_pos (by simp [hbw])]
        left
        have hv := hv.1 hbw
        rcases hk with ⟨k, hk1, hk2⟩ | ⟨k, hk1, hk2⟩
        · simp only [hk1, vcK] at hv
          split at hv
          · rename_i v hfv; exact float hk2 hfv hv
          · cases hv
        · simp only [hk1, vcK] at hv
          exact eff hk2 hv
      · rw [if_neg (by simpa using hbw)]
        exact skip (undef_rel ρ) (hv.2 (by cases b <;> cases want <;> simp_all))
    · rename_i he
      have hy := yielded_undef ha hg2 he
      have hwant : Region.wanted o (yielded ops a.tmps) = false := by
        simp only [Region.wanted, hg1, hy]
        rfl
      rw [hwant, if_neg (by simp)]
      exact skip (undef_rel ρ) hv
    · cases hv

theorem ocomps_get {ops : Array Oper} : ∀ {l : List Oper} {cs : List COp}, ocomps P N ops l = some cs → l.length = cs.length ∧ ∀ (i : Nat) o c, l[i]? = some o → cs[i]? = some c → ocomp P N ops o = some c
  | [], cs, h => by simp [ocomps] at h; subst h; simp
  | o :: l, cs, h => by
    simp only [ocomps] at h
    split at h
    · rename_i c cs' h1 h2
      obtain rfl := Option.some.inj h
      obtain ⟨g1, g2⟩ := ocomps_get h2
      refine ⟨by simp [g1], fun i o' c' hi hj => ?_⟩
      cases i with
      | zero => simp at hi hj; subst hi; subst hj; exact h1
      | succ i => simp at hi hj; exact g2 i o' c' hi hj
    · cases h

theorem ops_sound [GOk P B w0] {ops : Array Oper} {cs : List COp} (hcs : ocomps P N ops ops.toList = some cs) {K : Env → IH → Prop} {Q : Exit → Act → World → Prop} (hQ : ∀ a w, St ρ0 N B w0 K a w → Q .normal a w) :
    ∀ (m k : Nat), k + m = ops.size → ∀ a w, St ρ0 N B w0 (vcOps P (cs.drop k) K) a w → wpOps P ops Q (List.range' k m) a w := by
  obtain ⟨hlen, hget⟩ := ocomps_get hcs
  have hl : cs.length = ops.size := by rw [← hlen]; simp
  intro m
  induction m with
  | zero =>
    intro k hk a w hs
    have : cs.drop k = [] := List.drop_eq_nil_of_le (by omega)
    rw [this] at hs
    exact hQ a w hs
  | succ m ih =>
    intro k hk a w hs
    have hkl : k < cs.length := by omega
    obtain ⟨ρ, e, h, hp, hw, ha, hb, hv⟩ := hs
    rw [List.drop_eq_getElem_cons hkl] at hv
    rw [List.range'_succ, wpOps_cons]
    have hko : ops[k]? = some ops[k] := Array.getElem?_eq_getElem (by omega)
    refine op_step hw ha hp hb hko (hget k _ _ (by rw [Array.getElem?_toList]; exact hko) (List.getElem?_eq_getElem hkl)) hv (fun a' w' hs' => ?_)
    exact ih (k + 1) (by omega) a' w' hs'

end
end Go.IW

namespace Go.IW
open Go.RowKit

theorem wp_loop_idx {P : Program} {Q : Exit → Act → World → Prop} {a : Act} {w : World} {c : Code} (I : Nat → Act → World → Prop) (h₀ : ∃ n, I n a w)
    (round : ∀ n a w, I n a w → c.wp P (Exit.then (fun a' w' => ∃ m, m < n ∧ I m a' w') Q) a w) : (Code.loop c).wp P Q a w := by
  intro b k cs
  have key : ∀ n a w, I n a w → ∃ e a' w', Q e a' w' ∧ Arrives P (lone (b.at a (.code c :: .inLoop c :: k)) cs w) b k cs e a' w' := by
    intro n
    induction n using Nat.strongRecOn with
    | _ n ih =>
      intro a w hI
      obtain ⟨e, a₁, w₁, hq, harr⟩ := round n a w hI b (.inLoop c :: k) cs
      cases e with
      | normal =>
        obtain ⟨m, hlt, hI₁⟩ := hq
        obtain ⟨e₂, a₂, w₂, hq₂, harr₂⟩ := ih m hlt a₁ w₁ hI₁
        exact ⟨e₂, a₂, w₂, hq₂, .of_steps (Steps.trans harr (.one step_inLoop)) harr₂⟩
      | exit id => exact ⟨_, a₁, w₁, hq, .pass (x := .inLoop c) rfl (fun _ _ => .inl (by simp)) harr⟩
      | goto l => exact ⟨_, a₁, w₁, hq, .pass (x := .inLoop c) rfl (fun _ _ => .inl (by simp)) harr⟩
      | ret => exact ⟨_, a₁, w₁, hq, .pass (x := .inLoop c) rfl (fun _ _ => .inl (by simp)) harr⟩
      | panic ch => exact ⟨_, a₁, w₁, hq, .pass (x := .inLoop c) rfl (fun _ _ => .inl (by simp)) harr⟩
      | outgrown => exact ⟨_, a₁, w₁, hq, .pass (x := .inLoop c) rfl (fun _ _ => .inl (by simp)) harr⟩
  obtain ⟨n, hn⟩ := h₀
  obtain ⟨e, a', w', hq, harr⟩ := key n a w hn
  exact ⟨e, a', w', hq, .of_steps (.one step_loop) harr⟩

def CX.tmps : CX → List Nat
  | .t n => [n]
  | _ => []
def ocxT : Option CX → List Nat
  | some x => x.tmps
  | none => []
def FK.tmps : FK → List Nat
  | .mv x | .ld x | .ldA _ x | .nck x | .un _ x | .cvI _ x | .cvS x | .b2s x | .ext _ x | .fld _ _ _ x | .fadr _ x | .len x | .lenS x | .mkif _ x => x.tmps
  | .pick c a b => c.tmps ++ (a.tmps ++ b.tmps)
  | .build _ ps => ps.flatMap fun p => p.2.2.tmps
  | .bin _ x y | .binB _ x y | .eqn _ _ x y | .iadr _ x y | .iadrA _ _ x y | .idxS x y | .idxA _ _ _ x y | .mm _ x y => x.tmps ++ y.tmps
  | .slcS x lo hi => x.tmps ++ (ocxT lo ++ ocxT hi)
  | .slc _ x lo hi mx => x.tmps ++ (ocxT lo ++ (ocxT hi ++ ocxT mx))
  | .mkf _ as0 cs => (as0.flatMap CX.tmps) ++ (cs.flatMap CX.tmps)
  | .u _ xs => xs.flatMap CX.tmps
def EK.tmps : EK → List Nat
  | .zero _ _ _ => []
  | .box _ _ x | .s2b _ x => x.tmps
  | .bslice _ _ _ _ ps => ps.flatMap fun p => p.2.tmps
  | .st _ x y | .app _ _ _ x y | .appS _ _ x y | .copy _ x y | .copyS x y | .mks _ _ _ _ x y => x.tmps ++ y.tmps
  | .call _ as0 => as0.flatMap CX.tmps
  | .callv f as0 => f.tmps ++ as0.flatMap CX.tmps
  | .ux _ xs => xs.flatMap CX.tmps
def COp.looks (o : COp) : List Nat :=
  (match o.op with | .f k => k.tmps | .x k => k.tmps) ++ (match o.guard with | some (t, _) => [t] | none => [])

def edgesOf (o : Oper) : List Nat := (o.after.toList.filter (Region.binds .any)).map (·.on)
def unionL (a b : List Nat) : List Nat := a ++ b.filter fun x => !a.contains x
def ancsOf (ops : List Oper) : List (List Nat) :=
  ops.foldl (init := []) fun acc o => acc ++ [(edgesOf o).foldl (init := []) fun s k => unionL s (unionL [k] (acc.getD k []))]
def barsOf (cs : List COp) (anc : List (List Nat)) : List Bool :=
  cs.zipIdx.map fun (c, j) => (match c.op with | .x _ => true | .f _ => false) ||
    (match c.dst with | some d => cs.zipIdx.any fun (c', i) => (i == j || (anc.getD j []).contains i) && c'.looks.contains d | none => false)
def ordOf (bar : List Bool) (anc : List (List Nat)) : (fuel : Nat) → List Nat → List Nat
  | 0, acc => acc.reverse
  | f + 1, acc =>
    let rs := (List.range bar.length).filter fun i => !acc.contains i && (anc.getD i []).all acc.contains
    match rs.find? (fun i => !bar.getD i true) with
    | some i => ordOf bar anc f (i :: acc)
    | none => match rs with
      | i :: _ => ordOf bar anc f (i :: acc)
      | [] => acc.reverse

def readyL (anc : List (List Nat)) (n : Nat) (done : List Nat) : List Nat := (List.range n).filter fun i => !done.contains i && (anc.getD i []).all done.contains
def kidsT (g : Nat → DT) : List Nat → DT
  | [] => .stop
  | i :: r => .br i (g i) (kidsT g r)
def mkT (bar : List Bool) (anc : List (List Nat)) (n : Nat) : (fuel : Nat) → List Nat → DT
  | 0, _ => .fin
  | f + 1, done => match (readyL anc n done).find? (fun i => !bar.getD i true) with
    | some i => .fl i (mkT bar anc n f (i :: done))
    | none => kidsT (fun i => mkT bar anc n f (i :: done)) (readyL anc n done)

structure TOk (ops : Array Oper) (cs : List COp) (bar : List Bool) (anc : List (List Nat)) : Prop where
  edges : ∀ i o, ops[i]? = some o → ∀ k ∈ edgesOf o, k < i ∧ k ∈ anc.getD i []
  ancs : ∀ i o, ops[i]? = some o → ∀ j ∈ anc.getD i [], j < i ∧ ∃ k ∈ edgesOf o, j = k ∨ j ∈ anc.getD k []
  data : ∀ i < ops.size, ∀ j < ops.size, i ≠ j → ∀ d, (cs.getD j default).dst = some d → d ∈ (cs.getD i default).looks → j ∈ anc.getD i [] ∨ (i ∈ anc.getD j [] ∧ bar.getD j true = true)
  dsts : ∀ i < ops.size, ∀ j < ops.size, i ≠ j → ∀ d, (cs.getD j default).dst = some d → (cs.getD i default).dst ≠ some d
  effs : ∀ i < ops.size, bar.getD i true = false → ∃ k, (cs.getD i default).op = .f k
  self : ∀ i < ops.size, bar.getD i true = false → ∀ d, (cs.getD i default).dst = some d → d ∉ (cs.getD i default).looks

def tCheck (ops : Array Oper) (cs : List COp) (bar : List Bool) (anc : List (List Nat)) : Bool :=
  let R := List.range ops.size
  ops.toList.zipIdx.all (fun (o, i) => (edgesOf o).all fun k => decide (k < i) && (anc.getD i []).contains k) &&
  ops.toList.zipIdx.all (fun (o, i) => (anc.getD i []).all fun j => decide (j < i) && (edgesOf o).any fun k => j == k || (anc.getD k []).contains j) &&
  R.all (fun i => R.all fun j => i == j || (match (cs.getD j default).dst with
    | some d => (!(cs.getD i default).looks.contains d || (anc.getD i []).contains j || ((anc.getD j []).contains i && bar.getD j true)) && ((cs.getD i default).dst != some d)
    | none => true)) &&
  R.all (fun i => bar.getD i true || (match (cs.getD i default).op with | .f _ => true | _ => false)) &&
  R.all (fun i => bar.getD i true || (match (cs.getD i default).dst with | some d => !(cs.getD i default).looks.contains d | none => true))

def ahead (ord : List Nat) (i j : Nat) : Bool :=
  match ord with
  | [] => false
  | x :: r => if x == i then r.contains j else if x == j then false else ahead r i j

structure DOk (ops : Array Oper) (cs : List COp) (bar : List Bool) (anc : List (List Nat)) (ord : List Nat) : Prop where
  nodup : ord.Nodup
  perm : ∀ i, i ∈ ord ↔ i < ops.size
  edges : ∀ i o, ops[i]? = some o → ∀ k ∈ edgesOf o, k < i ∧ k ∈ anc.getD i []
  ancs : ∀ i o, ops[i]? = some o → ∀ j ∈ anc.getD i [], j < i ∧ ∃ k ∈ edgesOf o, j = k ∨ j ∈ anc.getD k []
  order : ∀ i < ops.size, ∀ j ∈ anc.getD i [], ahead ord j i = true
  data : ∀ i < ops.size, ∀ j < ops.size, i ≠ j → ∀ d, (cs.getD j default).dst = some d → d ∈ (cs.getD i default).looks → j ∈ anc.getD i [] ∨ (i ∈ anc.getD j [] ∧ bar.getD j true = true)
  dsts : ∀ i < ops.size, ∀ j < ops.size, i ≠ j → ∀ d, (cs.getD j default).dst = some d → (cs.getD i default).dst ≠ some d
  effs : ∀ i < ops.size, bar.getD i true = false → ∃ k, (cs.getD i default).op = .f k
  self : ∀ i < ops.size, bar.getD i true = false → ∀ d, (cs.getD i default).dst = some d → d ∉ (cs.getD i default).looks
  bars : ∀ i < ops.size, ∀ j < ops.size, bar.getD i true = true → ahead ord i j = true → i ∈ anc.getD j []

def dCheck (ops : Array Oper) (cs : List COp) (bar : List Bool) (anc : List (List Nat)) (ord : List Nat) : Bool :=
  let n := ops.size
  let R := List.range n
  decide ord.Nodup && decide (ord.length = n) && ord.all (fun i => decide (i < n)) && R.all (fun i => ord.contains i) &&
  ops.toList.zipIdx.all (fun (o, i) => (edgesOf o).all fun k => decide (k < i) && (anc.getD i []).contains k) &&
  ops.toList.zipIdx.all (fun (o, i) => (anc.getD i []).all fun j => decide (j < i) && (edgesOf o).any fun k => j == k || (anc.getD k []).contains j) &&
  R.all (fun i => (anc.getD i []).all fun j => ahead ord j i) &&
  R.all (fun i => R.all fun j => i == j || (match (cs.getD j default).dst with
    | some d => (!(cs.getD i default).looks.contains d || (anc.getD i []).contains j || ((anc.getD j []).contains i && bar.getD j true)) && ((cs.getD i default).dst != some d)
    | none => true)) &&
  R.all (fun i => bar.getD i true || (match (cs.getD i default).op with | .f _ => true | _ => false)) &&
  R.all (fun i => bar.getD i true || (match (cs.getD i default).dst with | some d => !(cs.getD i default).looks.contains d | none => true)) &&
  R.all (fun i => R.all fun j => !(bar.getD i true) || !(ahead ord i j) || (anc.getD j []).contains i)

theorem tCheck_ok {ops : Array Oper} {cs : List COp} {bar : List Bool} {anc : List (List Nat)} (h : tCheck ops cs bar anc = true) : TOk ops cs bar anc := by
  unfold tCheck at h
  simp only [Bool.and_eq_true, decide_eq_true_eq] at h
  obtain ⟨⟨⟨⟨h5, h6⟩, h8⟩, h9⟩, h11⟩ := h
  have zip : ∀ i o, ops[i]? = some o → (o, i) ∈ ops.toList.zipIdx := by
    intro i o hi
    rw [List.mem_zipIdx_iff_getElem?]
    simpa using hi
  refine ⟨?_, ?_, ?_, ?_, ?_, ?_⟩
  · intro i o hi k hk
    have := List.all_eq_true.1 h5 _ (zip i o hi)
    simp only [List.all_eq_true] at this
    simpa using this k hk
  · intro i o hi j hj
    have := List.all_eq_true.1 h6 _ (zip i o hi)
    simp only [List.all_eq_true] at this
    simpa using this j hj
  · intro i hi j hj hne d hd hl
    have := List.all_eq_true.1 (List.all_eq_true.1 h8 i (List.mem_range.2 hi)) j (List.mem_range.2 hj)
    rw [hd] at this
    simp [hne] at this
    have hl' : d ∈ (cs[i]?.getD default).looks := by simpa using hl
    rcases this.1 with (h | h) | h
    · exact absurd hl' h
    · exact .inl (by simpa using h)
    · exact .inr (by simpa using h)
  · intro i hi j hj hne d hd hl
    have := List.all_eq_true.1 (List.all_eq_true.1 h8 i (List.mem_range.2 hi)) j (List.mem_range.2 hj)
    rw [hd] at this
    simp [hne] at this
    exact this.2 (by simpa using hl)
  · intro i hi hb
    have := List.all_eq_true.1 h9 i (List.mem_range.2 hi)
    rw [hb] at this
    simp at this
    split at this
    · rename_i k hk; exact ⟨k, hk⟩
    · cases this
  · intro i hi hb d hd hl
    have := List.all_eq_true.1 h11 i (List.mem_range.2 hi)
    rw [hb, hd] at this
    simp at this
    exact this (by simpa using hl)

theorem dCheck_ok {ops : Array Oper} {cs : List COp} {bar : List Bool} {anc : List (List Nat)} {ord : List Nat} (h : dCheck ops cs bar anc ord = true) : DOk ops cs bar anc ord := by
  unfold dCheck at h
  simp only [Bool.and_eq_true, decide_eq_true_eq] at h
  obtain ⟨⟨⟨⟨⟨⟨⟨⟨⟨⟨h1, h2⟩, h3⟩, h4⟩, h5⟩, h6⟩, h7⟩, h8⟩, h9⟩, h11⟩, h10⟩ := h
  have zip : ∀ i o, ops[i]? = some o → (o, i) ∈ ops.toList.zipIdx := by
    intro i o hi
    rw [List.mem_zipIdx_iff_getElem?]
    simpa using hi
  refine ⟨h1, fun i => ⟨fun hi => by simpa using List.all_eq_true.1 h3 i hi, fun hi => by simpa using List.all_eq_true.1 h4 i (List.mem_range.2 hi)⟩, ?_, ?_, ?_, ?_, ?_, ?_, ?_, ?_⟩
  · intro i o hi k hk
    have := List.all_eq_true.1 h5 _ (zip i o hi)
    simp only [List.all_eq_true] at this
    simpa using this k hk
  · intro i o hi j hj
    have := List.all_eq_true.1 h6 _ (zip i o hi)
    simp only [List.all_eq_true] at this
    simpa using this j hj
  · intro i hi j hj
    have := List.all_eq_true.1 h7 i (List.mem_range.2 hi)
    exact List.all_eq_true.1 this j hj
  · intro i hi j hj hne d hd hl
    have := List.all_eq_true.1 (List.all_eq_true.1 h8 i (List.mem_range.2 hi)) j (List.mem_range.2 hj)
    rw [hd] at this
    simp [hne] at this
    have hl' : d ∈ (cs[i]?.getD default).looks := by simpa using hl
    rcases this.1 with (h | h) | h
    · exact absurd hl' h
    · exact .inl (by simpa using h)
    · exact .inr (by simpa using h)
  · intro i hi j hj hne d hd hl
    have := List.all_eq_true.1 (List.all_eq_true.1 h8 i (List.mem_range.2 hi)) j (List.mem_range.2 hj)
    rw [hd] at this
    simp [hne] at this
    exact this.2 (by simpa using hl)
  · intro i hi hb
    have := List.all_eq_true.1 h9 i (List.mem_range.2 hi)
    rw [hb] at this
    simp at this
    split at this
    · rename_i k hk; exact ⟨k, hk⟩
    · cases this
  · intro i hi hb d hd hl
    have := List.all_eq_true.1 h11 i (List.mem_range.2 hi)
    rw [hb, hd] at this
    simp at this
    exact this (by simpa using hl)
  · intro i hi j hj hb ha
    have := List.all_eq_true.1 (List.all_eq_true.1 h10 i (List.mem_range.2 hi)) j (List.mem_range.2 hj)
    rw [hb, ha] at this
    simpa using this

section
variable (P : Program)

def ccomp (N : Nat) : Code → Option CC
  | .skip => some .skip
  | .region _ ops false => (ocomps P N ops ops.toList).map .reg
  | .region _ ops true => match ocomps P N ops ops.toList with
    | some cs =>
      let anc := ancsOf ops.toList
      let bar := barsOf cs anc
      let ord := ordOf bar anc cs.length []
      if dCheck ops cs bar anc ord && P.follows .mixedOrders then some (.dreg cs bar anc ord) else
        if tCheck ops cs bar anc && P.follows .mixedOrders then some (.treg cs anc (mkT bar anc cs.length cs.length [])) else none
    | none => none
  | .seq a b => match ccomp N a, ccomp N b with
    | some a, some b => some (.seq a b)
    | _, _ => none
  | .cond c a b => match cx c, ccomp N a, ccomp N b with
    | some c, some a, some b => some (.cond c a b)
    | _, _, _ => none
  | .block id a => (ccomp N a).map (.block id)
  | .loop a => (ccomp N a).map .loop
  | .exit id => some (.exit id)
  | .ret => some .ret
  | .refuse _ => some (.reg [⟨none, none, .x (.ux .bad [])⟩])
  | _ => none

def rcomp : ResultVar → Option FK
  | .tmp t => some (.mv (.t t))
  | .cell a t => match P.underlying t, tsz P t with
    | some d, some n => some (if isAggD d then .ldA n (.t a) else .ld (.t a))
    | _, _ => none
def rcomps : List ResultVar → Option (List FK)
  | [] => some []
  | r :: l => match rcomp P r, rcomps l with
    | some k, some ks => some (k :: ks)
    | _, _ => none
end

def resVs (e : Env) (h : IH) : List FK → Option (List IV)
  | [] => some []
  | k :: ks => match feval e h k, resVs e h ks with
    | some v, some vs => some (v :: vs)
    | _, _ => none
def resV : List IV → IV
  | [v] => v
  | vs => .tuple vs
def retK (rs : List FK) (Q : IV → IH → Prop) : EPost := fun ex e h =>
  match ex with
  | .normal | .ret => match resVs e h rs with
    | some vs => Q (resV vs) h
    | none => False
  | _ => False
def env0 (args : List IV) : Env := fun t => args.getD t (.tuple [])

end Go.IW

namespace Go.IW
open Go.RowKit

theorem CX.congr {x : CX} {e e' : Env} (h : ∀ t ∈ x.tmps, e t = e' t) : x.ev e = x.ev e' := by
  cases x with
  | t n => exact h n (by simp [CX.tmps])
  | c v => rfl
  | fn f => rfl

theorem CX.congrs {l : List CX} {e e' : Env} (h : ∀ t ∈ l.flatMap CX.tmps, e t = e' t) : l.map (CX.ev e) = l.map (CX.ev e') :=
  List.map_congr_left fun x hx => CX.congr fun t ht => h t (List.mem_flatMap.2 ⟨x, hx, ht⟩)

theorem obound_congr {x : Option CX} {e e' : Env} (h : ∀ t ∈ ocxT x, e t = e' t) (len d : Nat) : obound len x e d = obound len x e' d := by
  cases x with
  | none => rfl
  | some x => simp only [obound, CX.congr (x := x) h]

theorem feval_congr {k : FK} {e e' : Env} {h : IH} (hk : ∀ t ∈ k.tmps, e t = e' t) : feval e h k = feval e' h k := by
  cases k with
  | build zero ps =>
    simp only [feval]
    congr 2
    exact List.map_congr_left fun p hp => by rw [CX.congr (x := p.2.2) fun t ht => hk t (List.mem_flatMap.2 ⟨p, hp, ht⟩)]
  | pick c a b =>
    simp only [FK.tmps, List.mem_append] at hk
    simp only [feval, CX.congr (x := c) fun t ht => hk t (.inl ht), CX.congr (x := a) fun t ht => hk t (.inr (.inl ht)), CX.congr (x := b) fun t ht => hk t (.inr (.inr ht))]
  | slcS x lo hi =>
    simp only [FK.tmps, List.mem_append] at hk
    simp only [feval, CX.congr (x := x) fun t ht => hk t (.inl ht), obound_congr (x := lo) fun t ht => hk t (.inr (.inl ht)), obound_congr (x := hi) fun t ht => hk t (.inr (.inr ht))]
  | slc sz x lo hi mx =>
    simp only [FK.tmps, List.mem_append] at hk
    cases mx with
    | none => simp only [feval, CX.congr (x := x) fun t ht => hk t (.inl ht), obound_congr (x := lo) fun t ht => hk t (.inr (.inl ht)), obound_congr (x := hi) fun t ht => hk t (.inr (.inr (.inl ht)))]
    | some m => simp only [feval, CX.congr (x := x) fun t ht => hk t (.inl ht), obound_congr (x := lo) fun t ht => hk t (.inr (.inl ht)), obound_congr (x := hi) fun t ht => hk t (.inr (.inr (.inl ht))), obound_congr (x := some m) fun t ht => hk t (.inr (.inr (.inr ht)))]
  | mkf f as0 cs =>
    simp only [FK.tmps, List.mem_append] at hk
    simp only [feval, CX.congrs (l := as0) fun t ht => hk t (.inl ht), CX.congrs (l := cs) fun t ht => hk t (.inr ht)]
  | u k xs => simp only [feval, CX.congrs (l := xs) hk]
  | mv x => simp only [feval, CX.congr (x := x) hk]
  | ld x => simp only [feval, CX.congr (x := x) hk]
  | ldA n x => simp only [feval, CX.congr (x := x) hk]
  | nck x => simp only [feval, CX.congr (x := x) hk]
  | un op x => simp only [feval, CX.congr (x := x) hk]
  | cvI k x => simp only [feval, CX.congr (x := x) hk]
  | cvS x => simp only [feval, CX.congr (x := x) hk]
  | b2s x => simp only [feval, CX.congr (x := x) hk]
  | ext i x => simp only [feval, CX.congr (x := x) hk]
  | fld o n g x => simp only [feval, CX.congr (x := x) hk]
  | fadr o x => simp only [feval, CX.congr (x := x) hk]
  | len x => simp only [feval, CX.congr (x := x) hk]
  | lenS x => simp only [feval, CX.congr (x := x) hk]
  | mkif t x => simp only [feval, CX.congr (x := x) hk]
  | bin op x y => simp only [FK.tmps, List.mem_append] at hk; simp only [feval, CX.congr (x := x) fun t ht => hk t (.inl ht), CX.congr (x := y) fun t ht => hk t (.inr ht)]
  | binB g x y => simp only [FK.tmps, List.mem_append] at hk; simp only [feval, CX.congr (x := x) fun t ht => hk t (.inl ht), CX.congr (x := y) fun t ht => hk t (.inr ht)]
  | eqn n g x y => simp only [FK.tmps, List.mem_append] at hk; simp only [feval, CX.congr (x := x) fun t ht => hk t (.inl ht), CX.congr (x := y) fun t ht => hk t (.inr ht)]
  | iadr n x y => simp only [FK.tmps, List.mem_append] at hk; simp only [feval, CX.congr (x := x) fun t ht => hk t (.inl ht), CX.congr (x := y) fun t ht => hk t (.inr ht)]
  | iadrA n m x y => simp only [FK.tmps, List.mem_append] at hk; simp only [feval, CX.congr (x := x) fun t ht => hk t (.inl ht), CX.congr (x := y) fun t ht => hk t (.inr ht)]
  | idxS x y => simp only [FK.tmps, List.mem_append] at hk; simp only [feval, CX.congr (x := x) fun t ht => hk t (.inl ht), CX.congr (x := y) fun t ht => hk t (.inr ht)]
  | idxA n m g x y => simp only [FK.tmps, List.mem_append] at hk; simp only [feval, CX.congr (x := x) fun t ht => hk t (.inl ht), CX.congr (x := y) fun t ht => hk t (.inr ht)]
  | mm g x y => simp only [FK.tmps, List.mem_append] at hk; simp only [feval, CX.congr (x := x) fun t ht => hk t (.inl ht), CX.congr (x := y) fun t ht => hk t (.inr ht)]

section
variable {P : Program}

theorem appK_mono {h : IH} {e sz b : Nat} {x : IV} {ys : List (List IV)} {K K' : IV → IH → Prop} (hK : ∀ v h', K v h' → K' v h') (hk : appK h e sz b x ys K) : appK h e sz b x ys K' := by
  unfold appK at *
  split at hk
  · split at hk
    · rename_i h0; rw [if_pos h0]; exact hK _ _ hk
    · rename_i h0; rw [if_neg h0]; exact ⟨hk.1, hK _ _ hk.2⟩
  · split at hk
    · rename_i h0; rw [if_pos h0]; exact hK _ _ hk
    · rename_i h0; rw [if_neg h0]; exact ⟨hk.1, hk.2.1, hK _ _ hk.2.2⟩
  · split at hk
    · rename_i h0; rw [if_pos h0]; exact hK _ _ hk
    · rename_i h0
      rw [if_neg h0]
      split at hk
      · obtain ⟨h1, h2, h3, h4, h5, h6⟩ := hk; exact ⟨h1, h2, h3, h4, h5, hK _ _ h6⟩
      · exact hk
  · exact hk

theorem copyK_mono {h : IH} {sz : Nat} {x : IV} {ys : List (List IV)} {K K' : IV → IH → Prop} (hK : ∀ v h', K v h' → K' v h') (hk : copyK h sz x ys K) : copyK h sz x ys K' := by
  unfold copyK at *
  split at hk
  · exact hK _ _ hk
  · exact hK _ _ hk
  · split at hk
    · rename_i h0; rw [if_pos h0]; exact hK _ _ hk
    · rename_i h0
      rw [if_neg h0]
      split at hk
      · exact ⟨hk.1, hk.2.1, hK _ _ hk.2.2⟩
      · exact hk
  · exact hk

theorem uact_mono {h : IH} {K K' : IV → IH → Prop} (hK : ∀ v h', K v h' → K' v h') {k : UX} {xs : List IV} (hk : uact P h K k xs) : uact P h K' k xs := by
  unfold uact at *
  split at hk
  · exact ⟨hk.1, hK _ _ hk.2⟩
  · split at hk
    · obtain ⟨h1, h2, h3, h4, h5, h6⟩ := hk
      refine ⟨h1, h2, h3, h4, h5, ?_⟩
      split at h6
      · exact hK _ _ h6
      · exact h6
    · exact hk
  · split at hk
    · exact ⟨hk.1, hK _ _ hk.2⟩
    · exact hk
  · split at hk
    · exact copyK_mono (fun _ h' => hK _ h') hk
    · exact hk
  · exact hk

theorem act_mono {h : IH} {e : Env} {K K' : IV → IH → Prop} (hK : ∀ v h', K v h' → K' v h') {k : EK} (hk : act P h e K k) : act P h e K' k := by
  cases k with
  | zero el sz cs => exact hK _ _ hk
  | box el sz x => exact ⟨hk.1, hk.2.1, hK _ _ hk.2.2⟩
  | bslice el sz z len ps =>
    simp only [act] at *
    split at hk
    · rename_i h0; rw [if_pos h0]; exact hK _ _ hk
    · rename_i h0
      rw [if_neg h0]
      split at hk
      · exact ⟨hk.1, hK _ _ hk.2⟩
      · exact hk
  | st n a x =>
    simp only [act] at *
    split at hk
    · split at hk
      · split at hk
        · obtain ⟨h1, h2, h3, h4⟩ := hk; exact ⟨h1, h2, h3, hK _ _ h4⟩
        · exact hk
      · exact hk
    · exact hk
  | app el sz b x y =>
    simp only [act] at *
    split at hk
    · exact appK_mono hK hk
    · exact hk
  | appS el b x y =>
    simp only [act] at *
    split at hk
    · exact appK_mono hK hk
    · exact hk
  | copy sz d s =>
    simp only [act] at *
    split at hk
    · exact copyK_mono hK hk
    · exact hk
  | copyS d s =>
    simp only [act] at *
    split at hk
    · exact copyK_mono hK hk
    · exact hk
  | mks el sz b z len cap =>
    simp only [act] at *
    split at hk
    · obtain ⟨h1, h2, h3, h4, h5⟩ := hk
      refine ⟨h1, h2, h3, h4, ?_⟩
      split at h5
      · rename_i h0; rw [if_pos h0]; exact hK _ _ h5
      · rename_i h0; rw [if_neg h0]; exact hK _ _ h5
    · exact hk
  | s2b el x =>
    simp only [act] at *
    split at hk
    · split at hk
      · rename_i h0; rw [if_pos h0]; exact hK _ _ hk
      · rename_i h0; rw [if_neg h0]; exact ⟨hk.1, hK _ _ hk.2⟩
    · exact hk
  | ux k xs =>
    simp only [act] at *
    exact uact_mono hK hk
  | call f as0 => exact ICalls.mono hk hK
  | callv f as0 =>
    simp only [act] at *
    split at hk
    · exact ICalls.mono hk hK
    · exact hk

theorem act_congr {h : IH} {e e' : Env} {K : IV → IH → Prop} {k : EK} (hk : ∀ t ∈ k.tmps, e t = e' t) : act P h e K k = act P h e' K k := by
  cases k with
  | zero el sz cs => rfl
  | box el sz x => simp only [act, CX.congr (x := x) hk]
  | bslice el sz z len ps =>
    simp only [act]
    have : (ps.map fun p => (p.1, p.2.ev e)) = (ps.map fun p => (p.1, p.2.ev e')) :=
      List.map_congr_left fun p hp => by rw [CX.congr (x := p.2) fun t ht => hk t (List.mem_flatMap.2 ⟨p, hp, ht⟩)]
    rw [this]
  | st n x y => simp only [EK.tmps, List.mem_append] at hk; simp only [act, CX.congr (x := x) fun t ht => hk t (.inl ht), CX.congr (x := y) fun t ht => hk t (.inr ht)]
  | app el sz b x y => simp only [EK.tmps, List.mem_append] at hk; simp only [act, CX.congr (x := x) fun t ht => hk t (.inl ht), CX.congr (x := y) fun t ht => hk t (.inr ht)]
  | appS el b x y => simp only [EK.tmps, List.mem_append] at hk; simp only [act, CX.congr (x := x) fun t ht => hk t (.inl ht), CX.congr (x := y) fun t ht => hk t (.inr ht)]
  | copy sz x y => simp only [EK.tmps, List.mem_append] at hk; simp only [act, CX.congr (x := x) fun t ht => hk t (.inl ht), CX.congr (x := y) fun t ht => hk t (.inr ht)]
  | copyS x y => simp only [EK.tmps, List.mem_append] at hk; simp only [act, CX.congr (x := x) fun t ht => hk t (.inl ht), CX.congr (x := y) fun t ht => hk t (.inr ht)]
  | mks el sz b z x y => simp only [EK.tmps, List.mem_append] at hk; simp only [act, CX.congr (x := x) fun t ht => hk t (.inl ht), CX.congr (x := y) fun t ht => hk t (.inr ht)]
  | s2b el x => simp only [act, CX.congr (x := x) hk]
  | call f as0 => simp only [act, CX.congrs (l := as0) hk]
  | ux k xs => simp only [act, CX.congrs (l := xs) hk]
  | callv f as0 => simp only [EK.tmps, List.mem_append] at hk; simp only [act, CX.congr (x := f) fun t ht => hk t (.inl ht), CX.congrs (l := as0) fun t ht => hk t (.inr ht)]

theorem vcOp_move {o : COp} {K K' : Env → IH → Prop} {e e' : Env} {h : IH} (hl : ∀ t ∈ o.looks, e t = e' t) (hK : ∀ v h', K (put e o.dst v) h' → K' (put e' o.dst v) h') (hv : vcOp P o K e h) : vcOp P o K' e' h := by
  obtain ⟨dst, guard, op⟩ := o
  simp only [COp.looks, List.mem_append] at hl
  have hl1 : ∀ t ∈ (match op with | .f k => k.tmps | .x k => k.tmps), e t = e' t := fun t ht => hl t (.inl ht)
  cases guard with
  | none =>
    simp only [vcOp, vcK] at *
    cases op with
    | f k =>
      simp only at *
      rw [← feval_congr hl1]
      split at hv
      · exact hK _ _ hv
      · exact hv
    | x k =>
      simp only at *
      rw [← act_congr hl1]
      exact act_mono hK hv
  | some g =>
    obtain ⟨t, want⟩ := g
    have ht : e t = e' t := hl t (.inr (by simp))
    simp only [vcOp] at *
    rw [← ht]
    split at hv
    · rename_i b hb
      refine ⟨fun hbw => ?_, fun hbw => hK _ _ (hv.2 hbw)⟩
      have hv := hv.1 hbw
      simp only [vcK] at *
      cases op with
      | f k =>
        simp only at *
        rw [← feval_congr hl1]
        split at hv
        · exact hK _ _ hv
        · exact hv
      | x k =>
        simp only at *
        rw [← act_congr hl1]
        exact act_mono hK hv
    · exact hK _ _ hv
    · exact hv.elim

theorem again_congr {o : COp} {e e' : Env} {h : IH} (hl : ∀ t ∈ o.looks, e t = e' t) (hd : ∀ d, o.dst = some d → e d = e' d) : again o e h = again o e' h := by
  obtain ⟨dst, guard, op⟩ := o
  simp only [COp.looks, List.mem_append] at hl
  cases op with
  | x k => rfl
  | f k =>
    have hk := feval_congr (k := k) (h := h) fun t ht => hl t (.inl ht)
    cases guard with
    | none =>
      cases dst with
      | none => simp only [again, hk]
      | some d => simp only [again, hk, hd d rfl]
    | some g =>
      obtain ⟨t, want⟩ := g
      have ht : e t = e' t := hl t (.inr (by simp))
      cases dst with
      | none => simp only [again, hk, ht]
      | some d => simp only [again, hk, ht, hd d rfl]

end
end Go.IW

namespace Go.IW
open Go.RowKit

theorem ahead_split {A R : List Nat} {i j : Nat} (hn : (A ++ i :: R).Nodup) : (ahead (A ++ i :: R) j i = true → j ∈ A) ∧ (ahead (A ++ i :: R) i j = true → j ∈ R) ∧ (j ∈ R → ahead (A ++ i :: R) i j = true) := by
  induction A with
  | nil =>
    simp only [na0, List.nodup_cons] at hn ⊢
    refine ⟨fun h => ?_, fun h => ?_, fun h => ?_⟩
    · unfold ahead at h
      split at h
      · rename_i hij; simp at hij h; exact absurd h hn.1
      · simp at h
    · unfold ahead at h; simpa using h
    · unfold ahead; simpa using h
  | cons x A ih =>
    simp only [ca0, List.nodup_cons] at hn ⊢
    obtain ⟨ih1, ih2, ih3⟩ := ih hn.2
    have hxi : x ≠ i := fun e => hn.1 (by rw [e]; simp)
    refine ⟨fun h => ?_, fun h => ?_, fun h => ?_⟩
    · unfold ahead at h
      split at h
      · rename_i hxj; simp at hxj; rw [hxj]; exact List.mem_cons_self
      · split at h
        · cases h
        · exact List.mem_cons_of_mem _ (ih1 h)
    · unfold ahead at h
      rw [if_neg (by simpa using hxi)] at h
      split at h
      · cases h
      · exact ih2 h
    · unfold ahead
      rw [if_neg (by simpa using hxi)]
      have hxj : x ≠ j := fun e => hn.1 (by rw [e]; simp [h])
      rw [if_neg (by simpa using hxj)]
      exact ih3 h

theorem put_same {e : Env} {d : Nat} {v : IV} : put e (some d) v d = v := upd_eq e d v
theorem put_other {e : Env} {o : Option Nat} {t : Nat} {v : IV} (h : o ≠ some t) : put e o v t = e t := by
  cases o with
  | none => rfl
  | some d => exact upd_ne e v (fun ht => h (by rw [ht]))

section
variable {P : Program}

theorem again_vcOp {c : COp} {k : FK} (hk : c.op = .f k) {e : Env} {h : IH} (hg : again c e h) : vcOp P c (fun e' h' => h' = h ∧ ∀ d, c.dst = some d → e' d = e d) e h := by
  obtain ⟨dst, guard, op⟩ := c
  simp only at hk
  subst hk
  cases guard with
  | none =>
    simp only [again] at hg
    simp only [vcOp, vcK]
    cases dst with
    | none =>
      simp only at hg
      obtain ⟨v, hv⟩ := Option.isSome_iff_exists.1 hg
      rw [hv]; exact ⟨trivial, fun d hd => by cases hd⟩
    | some d =>
      simp only at hg
      rw [hg]; exact ⟨trivial, fun d' hd => by cases hd; exact put_same⟩
  | some g =>
    obtain ⟨t, want⟩ := g
    simp only [again] at hg
    simp only [vcOp]
    split at hg
    · rename_i b hb
      split at hg
      · rename_i hbw
        refine ⟨fun _ => ?_, fun h0 => by rw [hbw] at h0; cases want <;> cases h0⟩
        simp only [vcK]
        cases dst with
        | none =>
          simp only at hg
          obtain ⟨v, hv⟩ := Option.isSome_iff_exists.1 hg
          rw [hv]; exact ⟨trivial, fun d hd => by cases hd⟩
        | some d =>
          simp only at hg
          rw [hg]; exact ⟨trivial, fun d' hd => by cases hd; exact put_same⟩
      · rename_i hbw
        refine ⟨fun h => absurd h hbw, fun _ => ?_⟩
        cases dst with
        | none => exact ⟨trivial, fun d hd => by cases hd⟩
        | some d => exact ⟨trivial, fun d' hd => by cases hd; rw [put_same]; exact hg.symm⟩
    · rename_i hb
      cases dst with
      | none => exact ⟨trivial, fun d hd => by cases hd⟩
      | some d => exact ⟨trivial, fun d' hd => by cases hd; rw [put_same]; exact hg.symm⟩
    · exact hg.elim

theorem float_run {c : COp} {k : FK} (hk : c.op = .f k) (hs : ∀ d, c.dst = some d → d ∉ c.looks) {K : Env → IH → Prop} {e : Env} {h : IH} (hv : vcOp P c K e h) :
    ∃ e', K e' h ∧ again c e' h ∧ ∀ t, c.dst ≠ some t → e' t = e t := by
  obtain ⟨dst, guard, op⟩ := c
  simp only at hk
  subst hk
  have hlook : ∀ v, ∀ t ∈ (COp.mk dst guard (.f k)).looks, put e dst v t = e t := by
    intro v t ht
    refine put_other (fun hd => ?_)
    exact hs t hd ht
  have hfe : ∀ v, feval (put e dst v) h k = feval e h k := fun v => feval_congr fun t ht => hlook v t (by simp [COp.looks, ht])
  cases guard with
  | none =>
    simp only [vcOp, vcK] at hv
    split at hv
    · rename_i v hfv
      refine ⟨put e dst v, hv, ?_, fun t ht => put_other ht⟩
      simp only [again]
      cases dst with
      | none => simp only [hfe v, hfv]; rfl
      | some d => simp only [hfe v, hfv, put_same]
    · exact hv.elim
  | some g =>
    obtain ⟨t, want⟩ := g
    simp only [vcOp] at hv
    split at hv
    · rename_i b hb
      have hte : ∀ v, put e dst v t = .bool b := fun v => by rw [hlook v t (by simp [COp.looks]), hb]
      by_cases hbw : b = want
      · have hv := hv.1 hbw
        simp only [vcK] at hv
        split at hv
        · rename_i v hfv
          refine ⟨_, hv, ?_, fun t ht => put_other ht⟩
          simp only [again, hte]
          rw [if_pos hbw]
          cases dst with
          | none => simp only [hfe, hfv]; rfl
          | some d => simp only [hfe, hfv, put_same]
        · exact hv.elim
      · refine ⟨_, hv.2 (by cases b <;> cases want <;> simp_all), ?_, fun t ht => put_other ht⟩
        simp only [again, hte]
        rw [if_neg hbw]
        cases dst with
        | none => trivial
        | some d => simp only [put_same]
    · rename_i hb
      refine ⟨_, hv, ?_, fun t ht => put_other ht⟩
      have hte : ∀ v, put e dst v t = .tuple [] := fun v => by rw [hlook v t (by simp [COp.looks]), hb]
      simp only [again, hte]
      cases dst with
      | none => trivial
      | some d => simp only [put_same]
    · exact hv.elim

theorem againAll_get {cs : List COp} {anc : List (List Nat)} {i : Nat} {e : Env} {h : IH} : ∀ {l : List Nat}, againAll cs anc i e h l → ∀ j ∈ l, j ∈ anc.getD i [] ∨ again (cs.getD j default) e h
  | [], _, j, hj => by cases hj
  | x :: l, ha, j, hj => by
    obtain ⟨h1, h2⟩ := ha
    rcases List.mem_cons.1 hj with rfl | hj
    · rcases h1 with h1 | h1
      · exact .inl (by simpa using h1)
      · exact .inr h1
    · exact againAll_get h2 j hj

variable (ops : Array Oper) (cs : List COp) (bar : List Bool) (anc : List (List Nat)) (ord : List Nat) (K : Env → IH → Prop)

structure DInv (P : Program) (L : Nat → Prop) (done todo : List Nat) (ex ec : Env) (h : IH) : Prop where
  split : ord = done.reverse ++ todo
  sub : ∀ i, i < ops.size → L i → i ∈ done
  down : ∀ i, i < ops.size → L i → ∀ j ∈ anc.getD i [], L j
  barl : ∀ i ∈ done, bar.getD i true = true → L i
  env : ∀ t, (∀ i ∈ done, (cs.getD i default).dst = some t → L i) → ex t = ec t
  pend : ∀ i ∈ done, ¬ L i → again (cs.getD i default) ec h
  cond : vcD P cs bar anc done todo K ec h

variable {ops cs bar anc ord K}

theorem advance (hok : DOk ops cs bar anc ord) {L : Nat → Prop} : ∀ (todo done : List Nat) (ex ec : Env) (h : IH), DInv ops cs bar anc ord K P L done todo ex ec h →
    ∃ done' todo' ec', DInv ops cs bar anc ord K P L done' todo' ex ec' h ∧ (todo' = [] ∨ ∃ b r, todo' = b :: r ∧ bar.getD b true = true)
  | [], done, ex, ec, h, hi => ⟨done, [], ec, hi, .inl rfl⟩
  | i :: r, done, ex, ec, h, hi => by
    by_cases hb : bar.getD i true = true
    · exact ⟨done, i :: r, ec, hi, .inr ⟨i, r, rfl, hb⟩⟩
    · have hbf : bar.getD i true = false := by simpa using hb
      have hmem : i ∈ ord := by rw [hi.split]; simp
      have hin : i < ops.size := (hok.perm i).1 hmem
      have hnd : (done.reverse ++ i :: r).Nodup := by rw [← hi.split]; exact hok.nodup
      have hid : i ∉ done := fun hd => by
        have := (List.nodup_append.1 hnd).2.2 i (by simpa using hd) i (List.mem_cons_self)
        exact this rfl
      have hnl : ¬ L i := fun hl => hid (hi.sub i hin hl)
      obtain ⟨k, hk⟩ := hok.effs i hin hbf
      have hc := hi.cond
      simp only [vcD, hbf, Bool.false_eq_true, if_false] at hc
      obtain ⟨ec', g1, g2, g3⟩ := float_run hk (hok.self i hin hbf) hc
      have hnew : DInv ops cs bar anc ord K P L (i :: done) r ex ec' h := by
        refine ⟨by rw [hi.split]; simp, fun j hj hl => List.mem_cons_of_mem _ (hi.sub j hj hl), hi.down, ?_, ?_, ?_, g1⟩
        · intro j hj hbj
          rcases List.mem_cons.1 hj with rfl | hj
          · rw [hbf] at hbj; cases hbj
          · exact hi.barl j hj hbj
        · intro t ht
          have hdt : (cs.getD i default).dst ≠ some t := fun hd => hnl (ht i (List.mem_cons_self) hd)
          rw [g3 t hdt]
          exact hi.env t fun j hj hd => ht j (List.mem_cons_of_mem _ hj) hd
        · intro j hj hnlj
          rcases List.mem_cons.1 hj with rfl | hj
          · exact g2
          · have hji : j ≠ i := fun e => hid (e ▸ hj)
            have hjn : j < ops.size := (hok.perm j).1 (by rw [hi.split]; simp [hj])
            have := hi.pend j hj hnlj
            refine (again_congr ?_ ?_).mp this
            · intro t ht
              symm
              refine g3 t (fun hd => ?_)
              rcases hok.data j hjn i hin hji t hd ht with h1 | ⟨_, h2⟩
              · have := hok.order j hjn i h1
                rw [hi.split] at this
                have := (ahead_split hnd).2.1 this
                have h3 := (List.nodup_append.1 hnd).2.2 j (by simpa using hj) j (List.mem_cons_of_mem _ this)
                exact h3 rfl
              · rw [hbf] at h2; cases h2
            · intro d hd
              symm
              exact g3 d (hok.dsts i hin j hjn (fun e => hji e.symm) d hd)
      exact advance hok r (i :: done) ex ec' h hnew

variable {ρ0 : List RLoc} {B N : Nat} {w0 : World}

theorem ready_iff {listed : Array Bool} {i : Nat} : i ∈ Region.ready .any ops listed ↔ i < ops.size ∧ listed.getD i true = false ∧ ∃ o, ops[i]? = some o ∧ ∀ k ∈ edgesOf o, listed.getD k false = true := by
  unfold Region.ready
  rw [List.mem_filter, List.mem_range]
  constructor
  · rintro ⟨h1, h2⟩
    simp only [Bool.and_eq_true, Bool.not_eq_true'] at h2
    refine ⟨h1, h2.1, ops[i], Array.getElem?_eq_getElem h1, fun k hk => ?_⟩
    have h3 := h2.2
    rw [Array.getElem?_eq_getElem h1] at h3
    simp only [Option.map_some, Option.getD_some] at h3
    rw [Array.all_eq_true'] at h3
    unfold edgesOf at hk
    rw [List.mem_map] at hk
    obtain ⟨e, he, rfl⟩ := hk
    rw [List.mem_filter] at he
    have := h3 e (by simpa using he.1)
    rw [he.2] at this
    simpa using this
  · rintro ⟨h1, h2, o, ho, h3⟩
    refine ⟨h1, ?_⟩
    simp only [Bool.and_eq_true, Bool.not_eq_true']
    refine ⟨h2, ?_⟩
    rw [ho]
    simp only [Option.map_some, Option.getD_some]
    rw [Array.all_eq_true']
    intro e he
    cases hb : Region.binds .any e with
    | false => rfl
    | true =>
      have := h3 e.on (by unfold edgesOf; exact List.mem_map.2 ⟨e, List.mem_filter.2 ⟨by simpa using he, hb⟩, rfl⟩)
      simp [this]

theorem filter_all {α : Type} (p : α → Bool) (l : List α) (h : (l.filter p).length = l.length) : ∀ x ∈ l, p x = true := by
  rw [List.length_filter_eq_length_iff] at h
  exact h

theorem filter_one {l : List Nat} (hn : l.Nodup) {p q : Nat → Bool} {i : Nat} (hi : i ∈ l) (hp : p i = false) (hq : q i = true) (he : ∀ j, j ≠ i → q j = p j) : (l.filter q).length = (l.filter p).length + 1 := by
  induction l with
  | nil => cases hi
  | cons x l ih =>
    rw [List.nodup_cons] at hn
    rcases List.mem_cons.1 hi with rfl | hi
    · have hsame : l.filter q = l.filter p := List.filter_congr fun j hj => he j (fun e => hn.1 (e ▸ hj))
      rw [List.filter_cons_of_pos hq, List.filter_cons_of_neg (by simp [hp]), hsame]; simp
    · have hx : x ≠ i := fun e => hn.1 (e ▸ hi)
      have ih := ih hn.2 hi
      cases hpx : p x with
      | true => rw [List.filter_cons_of_pos (by rw [he x hx]; exact hpx), List.filter_cons_of_pos hpx]; simp [ih]
      | false => rw [List.filter_cons_of_neg (by rw [he x hx]; simp [hpx]), List.filter_cons_of_neg (by simp [hpx])]; exact ih

theorem draw_any [GOk P B w0] (hcs : ocomps P N ops ops.toList = some cs) (hok : DOk ops cs bar anc ord) {Q : Exit → Act → World → Prop} (hQ : ∀ a w, St ρ0 N B w0 K a w → Q .normal a w) :
    ∀ (fuel : Nat) (listed : Array Bool) (a : Act) (w : World), listed.size = ops.size → (ord.filter fun i => listed.getD i true).length + fuel = ops.size →
    (∃ ρ done todo ex ec h, ρ0 <+: ρ ∧ WRel ρ B w h ∧ ARel ρ N a ex ∧ Below B w0 w ∧ DInv ops cs bar anc ord K P (fun i => listed.getD i true = true) done todo ex ec h) →
    wpAny P .any ops Q fuel listed a w := by
  obtain ⟨hlen, hget⟩ := ocomps_get hcs
  have hl : cs.length = ops.size := by rw [← hlen]; simp
  have hol : ord.length = ops.size := by
    have h1 : ord.Perm (List.range ops.size) := by
      rw [List.perm_ext_iff_of_nodup hok.nodup List.nodup_range]
      intro i; rw [hok.perm, List.mem_range]
    rw [h1.length_eq, List.length_range]
  -- all have come up
  have fin : ∀ (listed : Array Bool) (a : Act) (w : World), (∀ i, i < ops.size → listed.getD i true = true) →
      (∃ ρ done todo ex ec h, ρ0 <+: ρ ∧ WRel ρ B w h ∧ ARel ρ N a ex ∧ Below B w0 w ∧ DInv ops cs bar anc ord K P (fun i => listed.getD i true = true) done todo ex ec h) → Q .normal a w := by
    intro listed a w hall hst
    obtain ⟨ρ, done, todo, ex, ec, h, g1, g2, g3, g4, g5⟩ := hst
    have htodo : todo = [] := by
      cases todo with
      | nil => rfl
      | cons b r =>
        have hb : b ∈ ord := by rw [g5.split]; simp
        have hbn := (hok.perm b).1 hb
        have hbd := g5.sub b hbn (hall b hbn)
        have hnd := hok.nodup
        rw [g5.split] at hnd
        exact absurd rfl ((List.nodup_append.1 hnd).2.2 b (by simpa using hbd) b (List.mem_cons_self))
    subst htodo
    have hee : ex = ec := by
      funext t
      refine g5.env t fun i hi _ => ?_
      exact hall i ((hok.perm i).1 (by rw [g5.split]; simp [hi]))
    have hc := g5.cond
    simp only [vcD] at hc
    rw [← hee] at hc
    exact hQ a w ⟨ρ, ex, h, g1, g2, g3, g4, hc⟩
  have none_left : ∀ listed : Array Bool, listed.size = ops.size → Region.ready .any ops listed = [] → ∀ i, i < ops.size → listed.getD i true = true := by
    intro listed hsz hr i
    induction i using Nat.strongRecOn with
    | _ i ih =>
      intro hi
      cases hx : listed.getD i true with
      | true => rfl
      | false =>
        have : i ∈ Region.ready .any ops listed := by
          rw [ready_iff]
          refine ⟨hi, hx, ops[i], Array.getElem?_eq_getElem hi, fun k hk => ?_⟩
          have hki := (hok.edges i _ (Array.getElem?_eq_getElem hi) k hk).1
          have h1 := ih k hki (by omega)
          have hks : k < listed.size := by omega
          simp [Array.getD, hks] at h1 ⊢; exact h1
        rw [hr] at this; cases this
  intro fuel
  induction fuel with
  | zero =>
    intro listed a w hsz hcount hst
    have hall : ∀ i, i < ops.size → listed.getD i true = true := fun i hi => filter_all (fun i => listed.getD i true) ord (by omega) i ((hok.perm i).2 hi)
    refine ⟨?_, fin listed a w hall hst⟩
    rw [List.eq_nil_iff_forall_not_mem]
    intro i hi
    rw [ready_iff] at hi
    rw [hall i hi.1] at hi
    cases hi.2.1
  | succ fuel ih =>
    intro listed a w hsz hcount hst
    refine ⟨fun hr => fin listed a w (none_left listed hsz hr) hst, fun i hi => ?_⟩
    rw [ready_iff] at hi
    obtain ⟨hin, hil, o, ho, hedge⟩ := hi
    obtain ⟨ρ, done0, todo0, ex, ec0, h, g1, g2, g3, g4, g5⟩ := hst
    obtain ⟨done, todo, ec, inv, hhead⟩ := advance hok todo0 done0 ex ec0 h g5
    have hio : i ∈ ord := (hok.perm i).2 hin
    have hci : cs[i]? = some (cs.getD i default) := by
      rw [List.getD_eq_getElem?_getD, List.getElem?_eq_getElem (by omega)]; rfl
    have hcomp : ocomp P N ops o = some (cs.getD i default) := hget i o _ (by rw [Array.getElem?_toList]; exact ho) hci
    -- what i waits for has come up
    have hanc : ∀ j ∈ anc.getD i [], listed.getD j true = true := by
      intro j hj
      obtain ⟨hji, k, hk, hjk⟩ := hok.ancs i o ho j hj
      have hke := hok.edges i o ho k hk
      have hkl : listed.getD k true = true := by
        have := hedge k hk
        have hks : k < listed.size := by omega
        simp [Array.getD, hks] at this ⊢; exact this
      rcases hjk with rfl | hjk
      · exact hkl
      · exact inv.down k (by omega) hkl j hjk
    have hset : ∀ j, (listed.setIfInBounds i true).getD j true = if j = i then true else listed.getD j true := by
      intro j
      by_cases hji : j = i
      · subst hji; simp [Array.getD, hsz, hin]
      · simp only [if_neg hji, Array.getD_eq_getD_getElem?]
        rw [Array.getElem?_setIfInBounds_ne (fun e => hji e.symm)]
    have hset_i : (listed.setIfInBounds i true).getD i true = true := by rw [hset, if_pos rfl]
    have hset_of : ∀ j, listed.getD j true = true → (listed.setIfInBounds i true).getD j true = true := by
      intro j hj; rw [hset]; split <;> first | rfl | exact hj
    have hset_back : ∀ j, j ≠ i → (listed.setIfInBounds i true).getD j true = true → listed.getD j true = true := by
      intro j hj h; rwa [hset, if_neg hj] at h
    have hcount' : (ord.filter fun j => (listed.setIfInBounds i true).getD j true).length + fuel = ops.size := by
      have := filter_one (p := fun j => listed.getD j true) (q := fun j => (listed.setIfInBounds i true).getD j true) hok.nodup hio hil hset_i (fun j hj => by simp only [hset, if_neg hj])
      omega
    have hdown' : ∀ j, j < ops.size → (listed.setIfInBounds i true).getD j true = true → ∀ m ∈ anc.getD j [], (listed.setIfInBounds i true).getD m true = true := by
      intro j hj hjl m hm
      by_cases hji : j = i
      · subst hji; exact hset_of m (hanc m hm)
      · exact hset_of m (inv.down j hj (hset_back j hji hjl) m hm)
    have hnd := hok.nodup
    by_cases hid : i ∈ done
    · -- it has been told
      have hnl : ¬ (listed.getD i true = true) := by rw [hil]; simp
      have hbar : bar.getD i true = false := by
        cases hb : bar.getD i true with
        | false => rfl
        | true => exact absurd (inv.barl i hid hb) hnl
      obtain ⟨k, hk⟩ := hok.effs i hin hbar
      have hag := again_vcOp (P := P) hk (inv.pend i hid hnl)
      -- the places that it looks at
      have hlooks : ∀ t ∈ (cs.getD i default).looks, ec t = ex t := by
        intro t ht
        symm
        refine inv.env t fun j hj hd => ?_
        have hjn : j < ops.size := (hok.perm j).1 (by rw [inv.split]; simp [hj])
        by_cases hji : j = i
        · subst hji; exact absurd ht (hok.self j hjn hbar t hd)
        · rcases hok.data i hin j hjn (fun e => hji e.symm) t hd ht with h1 | ⟨h1, h2⟩
          · exact hanc j h1
          · exact absurd (inv.down j hjn (inv.barl j hj h2) i h1) hnl
      have hv := vcOp_move (P := P) (K' := fun e' h' => h' = h ∧ (∀ d, (cs.getD i default).dst = some d → e' d = ec d) ∧ (∀ t, (cs.getD i default).dst ≠ some t → e' t = ex t)) (e' := ex) hlooks
        (fun v h' hk' => ⟨hk'.1, fun d hd => by have := hk'.2 d hd; rw [hd] at this ⊢; rw [put_same] at this ⊢; exact this, fun t ht => put_other ht⟩) hag
      refine op_step g2 g3 g1 g4 ho hcomp hv (fun a' w' hs' => ih _ a' w' (by simp [hsz]) hcount' ?_)
      obtain ⟨ρ', e', h', k1, k2, k3, k4, rfl, k5, k6⟩ := hs'
      refine ⟨ρ', done, todo, e', ec, h', k1, k2, k3, k4, inv.split, ?_, hdown', fun j hj hb => hset_of j (inv.barl j hj hb), ?_, ?_, inv.cond⟩
      · intro j hj hjl
        by_cases hji : j = i
        · rw [hji]; exact hid
        · exact inv.sub j hj (hset_back j hji hjl)
      · intro t ht
        by_cases hdt : (cs.getD i default).dst = some t
        · exact k5 t hdt
        · rw [k6 t hdt]
          refine inv.env t fun j hj hd => hset_back j (fun e => hdt (e ▸ hd)) (ht j hj hd)
      · intro j hj hjl
        exact inv.pend j hj (fun hl => hjl (hset_of j hl))
    · -- it is the barrier
      have hit : i ∈ todo := by
        rw [inv.split] at hio
        rcases List.mem_append.1 hio with h1 | h1
        · exact absurd (by simpa using h1) hid
        · exact h1
      have hhd : ∃ r, todo = i :: r ∧ bar.getD i true = true := by
        rcases hhead with h0 | ⟨b, r, h0, hb⟩
        · rw [h0] at hit; cases hit
        · rw [h0] at hit
          rcases List.mem_cons.1 hit with rfl | hir
          · exact ⟨r, h0, hb⟩
          · -- the barrier ahead of it has come up: no
            have hbo : b ∈ ord := by rw [inv.split, h0]; simp
            have hbn := (hok.perm b).1 hbo
            have hnd' : (done.reverse ++ b :: r).Nodup := by rw [← h0, ← inv.split]; exact hnd
            have hah : ahead ord b i = true := by rw [inv.split, h0]; exact (ahead_split hnd').2.2 hir
            have hbl := hanc b (hok.bars b hbn i hin hb hah)
            have hbd := inv.sub b hbn hbl
            exact absurd rfl ((List.nodup_append.1 hnd').2.2 b (by simpa using hbd) b (List.mem_cons_self))
      obtain ⟨r, htodo, hbi⟩ := hhd
      subst htodo
      have hnd' : (done.reverse ++ i :: r).Nodup := by rw [← inv.split]; exact hnd
      have hc := inv.cond
      simp only [vcD, hbi, if_true] at hc
      have hlooks : ∀ t ∈ (cs.getD i default).looks, ec t = ex t := by
        intro t ht
        symm
        refine inv.env t fun j hj hd => ?_
        have hjn : j < ops.size := (hok.perm j).1 (by rw [inv.split]; simp [hj])
        have hji : i ≠ j := fun e => hid (e ▸ hj)
        rcases hok.data i hin j hjn hji t hd ht with h1 | ⟨h1, _⟩
        · exact hanc j h1
        · have hah := hok.order j hjn i h1
          rw [inv.split] at hah
          have := (ahead_split hnd').2.1 hah
          exact absurd rfl ((List.nodup_append.1 hnd').2.2 j (by simpa using hj) j (List.mem_cons_of_mem _ this))
      have hv := vcOp_move (P := P) (K' := fun e' h' => ∃ v, e' = put ex (cs.getD i default).dst v ∧ againAll cs anc i (put ec (cs.getD i default).dst v) h' done ∧ vcD P cs bar anc (i :: done) r K (put ec (cs.getD i default).dst v) h') (e' := ex) hlooks
        (fun v h' hk' => ⟨v, rfl, hk'.1, hk'.2⟩) hc
      refine op_step g2 g3 g1 g4 ho hcomp hv (fun a' w' hs' => ih _ a' w' (by simp [hsz]) hcount' ?_)
      obtain ⟨ρ', e', h', k1, k2, k3, k4, v, rfl, k5, k6⟩ := hs'
      refine ⟨ρ', i :: done, r, _, _, h', k1, k2, k3, k4, by rw [inv.split]; simp, ?_, hdown', ?_, ?_, ?_, k6⟩
      · intro j hj hjl
        by_cases hji : j = i
        · rw [hji]; exact List.mem_cons_self
        · exact List.mem_cons_of_mem _ (inv.sub j hj (hset_back j hji hjl))
      · intro j hj hb
        rcases List.mem_cons.1 hj with rfl | hj
        · exact hset_i
        · exact hset_of j (inv.barl j hj hb)
      · intro t ht
        by_cases hdt : (cs.getD i default).dst = some t
        · rw [hdt, put_same, put_same]
        · rw [put_other hdt, put_other hdt]
          refine inv.env t fun j hj hd => hset_back j (fun e => hdt (e ▸ hd)) (ht j (List.mem_cons_of_mem _ hj) hd)
      · intro j hj hjl
        rcases List.mem_cons.1 hj with rfl | hj
        · exact absurd hset_i hjl
        · rcases againAll_get k5 j hj with h1 | h1
          · exact absurd (hset_of j (hanc j h1)) hjl
          · exact h1



variable (ops cs bar anc K) in
structure TInv (P : Program) (L : Nat → Prop) (f : Nat) (done : List Nat) (ex ec : Env) (h : IH) : Prop where
  len : done.length + f = ops.size
  nodup : done.Nodup
  mem : ∀ i ∈ done, i < ops.size
  clos : ∀ i ∈ done, ∀ j ∈ anc.getD i [], j ∈ done
  sub : ∀ i, i < ops.size → L i → i ∈ done
  down : ∀ i, i < ops.size → L i → ∀ j ∈ anc.getD i [], L j
  barl : ∀ i ∈ done, bar.getD i true = true → L i
  env : ∀ t, (∀ i ∈ done, (cs.getD i default).dst = some t → L i) → ex t = ec t
  pend : ∀ i ∈ done, ¬ L i → again (cs.getD i default) ec h
  cond : vcT P cs anc done (mkT bar anc ops.size f done) K ec h

theorem mem_ready {n : Nat} {done : List Nat} {i : Nat} : i ∈ readyL anc n done ↔ i < n ∧ i ∉ done ∧ ∀ j ∈ anc.getD i [], j ∈ done := by
  unfold readyL
  rw [List.mem_filter, List.mem_range]
  simp only [Bool.and_eq_true, Bool.not_eq_true', List.all_eq_true]
  constructor
  · rintro ⟨h1, h2, h3⟩
    exact ⟨h1, by simpa using h2, fun j hj => by simpa using h3 j hj⟩
  · rintro ⟨h1, h2, h3⟩
    exact ⟨h1, by simpa using h2, fun j hj => by simpa using h3 j hj⟩

theorem kids_get {g : Nat → DT} {done : List Nat} {e : Env} {h : IH} {i : Nat} : ∀ {l : List Nat}, i ∈ l → vcT P cs anc done (kidsT g l) K e h →
    vcOp P (cs.getD i default) (fun e' h' => againAll cs anc i e' h' done ∧ vcT P cs anc (i :: done) (g i) K e' h') e h
  | [], hi, _ => by cases hi
  | x :: l, hi, hv => by
    simp only [kidsT, vcT] at hv
    rcases List.mem_cons.1 hi with rfl | hi
    · exact hv.1
    · exact kids_get hi hv.2

theorem advanceT (hok : TOk ops cs bar anc) {L : Nat → Prop} : ∀ (f : Nat) (done : List Nat) (ex ec : Env) (h : IH), TInv ops cs bar anc K P L f done ex ec h →
    ∃ f' done' ec', TInv ops cs bar anc K P L f' done' ex ec' h ∧ (f' = 0 ∨ ∃ g, f' = g + 1 ∧ (readyL anc ops.size done').find? (fun i => !bar.getD i true) = none)
  | 0, done, ex, ec, h, hi => ⟨0, done, ec, hi, .inl rfl⟩
  | f + 1, done, ex, ec, h, hi => by
    cases hfind : (readyL anc ops.size done).find? (fun i => !bar.getD i true) with
    | none => exact ⟨f + 1, done, ec, hi, .inr ⟨f, rfl, hfind⟩⟩
    | some i =>
      have hp := List.find?_some hfind
      have hbf : bar.getD i true = false := by simpa using hp
      have hrd := mem_ready.1 (List.mem_of_find?_eq_some hfind)
      obtain ⟨hin, hid, hanc⟩ := hrd
      have hnl : ¬ L i := fun hl => hid (hi.sub i hin hl)
      obtain ⟨k, hk⟩ := hok.effs i hin hbf
      have hc := hi.cond
      simp only [mkT, hfind, vcT] at hc
      obtain ⟨ec', g1, g2, g3⟩ := float_run hk (hok.self i hin hbf) hc
      have hnew : TInv ops cs bar anc K P L f (i :: done) ex ec' h := by
        refine ⟨by have := hi.len; simp; omega, List.nodup_cons.2 ⟨hid, hi.nodup⟩, ?_, ?_, fun j hj hl => List.mem_cons_of_mem _ (hi.sub j hj hl), hi.down, ?_, ?_, ?_, g1⟩
        · intro j hj
          rcases List.mem_cons.1 hj with rfl | hj
          · exact hin
          · exact hi.mem j hj
        · intro j hj m hm
          rcases List.mem_cons.1 hj with rfl | hj
          · exact List.mem_cons_of_mem _ (hanc m hm)
          · exact List.mem_cons_of_mem _ (hi.clos j hj m hm)
        · intro j hj hbj
          rcases List.mem_cons.1 hj with rfl | hj
          · rw [hbf] at hbj; cases hbj
          · exact hi.barl j hj hbj
        · intro t ht
          have hdt : (cs.getD i default).dst ≠ some t := fun hd => hnl (ht i (List.mem_cons_self) hd)
          rw [g3 t hdt]
          exact hi.env t fun j hj hd => ht j (List.mem_cons_of_mem _ hj) hd
        · intro j hj hnlj
          rcases List.mem_cons.1 hj with rfl | hj
          · exact g2
          · have hji : j ≠ i := fun e => hid (e ▸ hj)
            have hjn : j < ops.size := hi.mem j hj
            have := hi.pend j hj hnlj
            refine (again_congr ?_ ?_).mp this
            · intro t ht
              symm
              refine g3 t (fun hd => ?_)
              rcases hok.data j hjn i hin hji t hd ht with h1 | ⟨_, h2⟩
              · exact hid (hi.clos j hj i h1)
              · rw [hbf] at h2; cases h2
            · intro d hd
              symm
              exact g3 d (hok.dsts i hin j hjn (fun e => hji e.symm) d hd)
      exact advanceT hok f (i :: done) ex ec' h hnew

theorem full_done {n : Nat} {done : List Nat} (hn : done.Nodup) (hm : ∀ i ∈ done, i < n) (ha : ∀ i, i < n → i ∈ done) : done.length = n := by
  have h1 : done.Perm (List.range n) := by
    rw [List.perm_ext_iff_of_nodup hn List.nodup_range]
    intro i
    rw [List.mem_range]
    exact ⟨hm i, ha i⟩
  rw [h1.length_eq, List.length_range]
theorem nodup_le : ∀ (l m : List Nat), l.Nodup → (∀ x ∈ l, x ∈ m) → l.length ≤ m.length
  | [], m, _, _ => Nat.zero_le _
  | x :: l, m, hn, hm => by
    rw [List.nodup_cons] at hn
    have hx := hm x (List.mem_cons_self)
    have h1 := nodup_le l (m.erase x) hn.2 (fun y hy => (List.mem_erase_of_ne (fun (e : y = x) => hn.1 (by rw [← e]; exact hy))).2 (hm y (List.mem_cons_of_mem _ hy)))
    rw [List.length_erase_of_mem hx] at h1
    have h2 := List.length_pos_of_mem hx
    rw [lc0]
    omega
theorem not_full {n : Nat} {done : List Nat} (hn : done.Nodup) (hm : ∀ i ∈ done, i < n) {i : Nat} (hi : i < n) (hd : i ∉ done) : done.length < n := by
  have h1 := nodup_le (i :: done) (List.range n) (List.nodup_cons.2 ⟨hd, hn⟩) (fun j hj => by
    rw [List.mem_range]
    rcases List.mem_cons.1 hj with rfl | hj
    · exact hi
    · exact hm j hj)
  rw [List.length_range, lc0] at h1
  omega

theorem draw_anyT [GOk P B w0] (hcs : ocomps P N ops ops.toList = some cs) (hok : TOk ops cs bar anc) {Q : Exit → Act → World → Prop} (hQ : ∀ a w, St ρ0 N B w0 K a w → Q .normal a w) :
    ∀ (fuel : Nat) (listed : Array Bool) (a : Act) (w : World), listed.size = ops.size → ((List.range ops.size).filter fun i => listed.getD i true).length + fuel = ops.size →
    (∃ ρ f done ex ec h, ρ0 <+: ρ ∧ WRel ρ B w h ∧ ARel ρ N a ex ∧ Below B w0 w ∧ TInv ops cs bar anc K P (fun i => listed.getD i true = true) f done ex ec h) →
    wpAny P .any ops Q fuel listed a w := by
  obtain ⟨hlen, hget⟩ := ocomps_get hcs
  have hl : cs.length = ops.size := by rw [← hlen]; simp
  -- all have come up
  have fin : ∀ (listed : Array Bool) (a : Act) (w : World), (∀ i, i < ops.size → listed.getD i true = true) →
      (∃ ρ f done ex ec h, ρ0 <+: ρ ∧ WRel ρ B w h ∧ ARel ρ N a ex ∧ Below B w0 w ∧ TInv ops cs bar anc K P (fun i => listed.getD i true = true) f done ex ec h) → Q .normal a w := by
    intro listed a w hall hst
    obtain ⟨ρ, f, done, ex, ec, h, g1, g2, g3, g4, g5⟩ := hst
    have hfull := full_done g5.nodup g5.mem fun i hi => g5.sub i hi (hall i hi)
    have hf : f = 0 := by have := g5.len; omega
    subst hf
    have hee : ex = ec := by
      funext t
      refine g5.env t fun i hi _ => hall i (g5.mem i hi)
    have hc := g5.cond
    simp only [mkT, vcT] at hc
    rw [← hee] at hc
    exact hQ a w ⟨ρ, ex, h, g1, g2, g3, g4, hc⟩
  have none_left : ∀ listed : Array Bool, listed.size = ops.size → Region.ready .any ops listed = [] → ∀ i, i < ops.size → listed.getD i true = true := by
    intro listed hsz hr i
    induction i using Nat.strongRecOn with
    | _ i ih =>
      intro hi
      cases hx : listed.getD i true with
      | true => rfl
      | false =>
        have : i ∈ Region.ready .any ops listed := by
          rw [ready_iff]
          refine ⟨hi, hx, ops[i], Array.getElem?_eq_getElem hi, fun k hk => ?_⟩
          have hki := (hok.edges i _ (Array.getElem?_eq_getElem hi) k hk).1
          have h1 := ih k hki (by omega)
          have hks : k < listed.size := by omega
          simp [Array.getD, hks] at h1 ⊢; exact h1
        rw [hr] at this; cases this
  intro fuel
  induction fuel with
  | zero =>
    intro listed a w hsz hcount hst
    have hall : ∀ i, i < ops.size → listed.getD i true = true := fun i hi => filter_all (fun i => listed.getD i true) (List.range ops.size) (by rw [List.length_range]; omega) i (List.mem_range.2 hi)
    refine ⟨?_, fin listed a w hall hst⟩
    rw [List.eq_nil_iff_forall_not_mem]
    intro i hi
    rw [ready_iff] at hi
    rw [hall i hi.1] at hi
    cases hi.2.1
  | succ fuel ih =>
    intro listed a w hsz hcount hst
    refine ⟨fun hr => fin listed a w (none_left listed hsz hr) hst, fun i hi => ?_⟩
    rw [ready_iff] at hi
    obtain ⟨hin, hil, o, ho, hedge⟩ := hi
    obtain ⟨ρ, f0, done0, ex, ec0, h, g1, g2, g3, g4, g5⟩ := hst
    obtain ⟨f, done, ec, inv, hhead⟩ := advanceT hok f0 done0 ex ec0 h g5
    have hci : cs[i]? = some (cs.getD i default) := by
      rw [List.getD_eq_getElem?_getD, List.getElem?_eq_getElem (by omega)]; rfl
    have hcomp : ocomp P N ops o = some (cs.getD i default) := hget i o _ (by rw [Array.getElem?_toList]; exact ho) hci
    -- what i waits for has come up
    have hanc : ∀ j ∈ anc.getD i [], listed.getD j true = true := by
      intro j hj
      obtain ⟨hji, k, hk, hjk⟩ := hok.ancs i o ho j hj
      have hke := hok.edges i o ho k hk
      have hkl : listed.getD k true = true := by
        have := hedge k hk
        have hks : k < listed.size := by omega
        simp [Array.getD, hks] at this ⊢; exact this
      rcases hjk with rfl | hjk
      · exact hkl
      · exact inv.down k (by omega) hkl j hjk
    have hancd : ∀ j ∈ anc.getD i [], j ∈ done := by
      intro j hj
      obtain ⟨hji, _⟩ := hok.ancs i o ho j hj
      exact inv.sub j (by omega) (hanc j hj)
    have hset : ∀ j, (listed.setIfInBounds i true).getD j true = if j = i then true else listed.getD j true := by
      intro j
      by_cases hji : j = i
      · subst hji; simp [Array.getD, hsz, hin]
      · simp only [if_neg hji, Array.getD_eq_getD_getElem?]
        rw [Array.getElem?_setIfInBounds_ne (fun e => hji e.symm)]
    have hset_i : (listed.setIfInBounds i true).getD i true = true := by rw [hset, if_pos rfl]
    have hset_of : ∀ j, listed.getD j true = true → (listed.setIfInBounds i true).getD j true = true := by
      intro j hj; rw [hset]; split <;> first | rfl | exact hj
    have hset_back : ∀ j, j ≠ i → (listed.setIfInBounds i true).getD j true = true → listed.getD j true = true := by
      intro j hj h; rwa [hset, if_neg hj] at h
    have hcount' : ((List.range ops.size).filter fun j => (listed.setIfInBounds i true).getD j true).length + fuel = ops.size := by
      have := filter_one (p := fun j => listed.getD j true) (q := fun j => (listed.setIfInBounds i true).getD j true) (List.nodup_range (n := ops.size)) (List.mem_range.2 hin) hil hset_i (fun j hj => by simp only [hset, if_neg hj])
      omega
    have hdown' : ∀ j, j < ops.size → (listed.setIfInBounds i true).getD j true = true → ∀ m ∈ anc.getD j [], (listed.setIfInBounds i true).getD m true = true := by
      intro j hj hjl m hm
      by_cases hji : j = i
      · subst hji; exact hset_of m (hanc m hm)
      · exact hset_of m (inv.down j hj (hset_back j hji hjl) m hm)
    by_cases hid : i ∈ done
    · -- it has been told
      have hnl : ¬ (listed.getD i true = true) := by rw [hil]; simp
      have hbar : bar.getD i true = false := by
        cases hb : bar.getD i true with
        | false => rfl
        | true => exact absurd (inv.barl i hid hb) hnl
      obtain ⟨k, hk⟩ := hok.effs i hin hbar
      have hag := again_vcOp (P := P) hk (inv.pend i hid hnl)
      have hlooks : ∀ t ∈ (cs.getD i default).looks, ec t = ex t := by
        intro t ht
        symm
        refine inv.env t fun j hj hd => ?_
        have hjn : j < ops.size := inv.mem j hj
        by_cases hji : j = i
        · subst hji; exact absurd ht (hok.self j hjn hbar t hd)
        · rcases hok.data i hin j hjn (fun e => hji e.symm) t hd ht with h1 | ⟨h1, h2⟩
          · exact hanc j h1
          · exact absurd (inv.down j hjn (inv.barl j hj h2) i h1) hnl
      have hv := vcOp_move (P := P) (K' := fun e' h' => h' = h ∧ (∀ d, (cs.getD i default).dst = some d → e' d = ec d) ∧ (∀ t, (cs.getD i default).dst ≠ some t → e' t = ex t)) (e' := ex) hlooks
        (fun v h' hk' => ⟨hk'.1, fun d hd => by have := hk'.2 d hd; rw [hd] at this ⊢; rw [put_same] at this ⊢; exact this, fun t ht => put_other ht⟩) hag
      refine op_step g2 g3 g1 g4 ho hcomp hv (fun a' w' hs' => ih _ a' w' (by simp [hsz]) hcount' ?_)
      obtain ⟨ρ', e', h', k1, k2, k3, k4, rfl, k5, k6⟩ := hs'
      refine ⟨ρ', f, done, e', ec, h', k1, k2, k3, k4, inv.len, inv.nodup, inv.mem, inv.clos, ?_, hdown', fun j hj hb => hset_of j (inv.barl j hj hb), ?_, ?_, inv.cond⟩
      · intro j hj hjl
        by_cases hji : j = i
        · rw [hji]; exact hid
        · exact inv.sub j hj (hset_back j hji hjl)
      · intro t ht
        by_cases hdt : (cs.getD i default).dst = some t
        · exact k5 t hdt
        · rw [k6 t hdt]
          refine inv.env t fun j hj hd => hset_back j (fun e => hdt (e ▸ hd)) (ht j hj hd)
      · intro j hj hjl
        exact inv.pend j hj (fun hl => hjl (hset_of j hl))
    · -- it writes, and it is its turn
      have hrdy : i ∈ readyL anc ops.size done := mem_ready.2 ⟨hin, hid, hancd⟩
      have hlt := not_full inv.nodup inv.mem hin hid
      obtain ⟨g, hfg, hnone⟩ : ∃ g, f = g + 1 ∧ (readyL anc ops.size done).find? (fun i => !bar.getD i true) = none := by
        rcases hhead with h0 | h0
        · have := inv.len; omega
        · exact h0
      subst hfg
      have hc := inv.cond
      simp only [mkT, hnone] at hc
      have hc := kids_get hrdy hc
      have hlooks : ∀ t ∈ (cs.getD i default).looks, ec t = ex t := by
        intro t ht
        symm
        refine inv.env t fun j hj hd => ?_
        have hjn : j < ops.size := inv.mem j hj
        have hji : i ≠ j := fun e => hid (e ▸ hj)
        rcases hok.data i hin j hjn hji t hd ht with h1 | ⟨h1, _⟩
        · exact hanc j h1
        · exact absurd (inv.clos j hj i h1) hid
      have hv := vcOp_move (P := P) (K' := fun e' h' => ∃ v, e' = put ex (cs.getD i default).dst v ∧ againAll cs anc i (put ec (cs.getD i default).dst v) h' done ∧ vcT P cs anc (i :: done) (mkT bar anc ops.size g (i :: done)) K (put ec (cs.getD i default).dst v) h') (e' := ex) hlooks
        (fun v h' hk' => ⟨v, rfl, hk'.1, hk'.2⟩) hc
      refine op_step g2 g3 g1 g4 ho hcomp hv (fun a' w' hs' => ih _ a' w' (by simp [hsz]) hcount' ?_)
      obtain ⟨ρ', e', h', k1, k2, k3, k4, v, rfl, k5, k6⟩ := hs'
      refine ⟨ρ', g, i :: done, _, _, h', k1, k2, k3, k4, by have := inv.len; simp; omega, List.nodup_cons.2 ⟨hid, inv.nodup⟩, ?_, ?_, ?_, hdown', ?_, ?_, ?_, k6⟩
      · intro j hj
        rcases List.mem_cons.1 hj with rfl | hj
        · exact hin
        · exact inv.mem j hj
      · intro j hj m hm
        rcases List.mem_cons.1 hj with rfl | hj
        · exact List.mem_cons_of_mem _ (hancd m hm)
        · exact List.mem_cons_of_mem _ (inv.clos j hj m hm)
      · intro j hj hjl
        by_cases hji : j = i
        · rw [hji]; exact List.mem_cons_self
        · exact List.mem_cons_of_mem _ (inv.sub j hj (hset_back j hji hjl))
      · intro j hj hb
        rcases List.mem_cons.1 hj with rfl | hj
        · exact hset_i
        · exact hset_of j (inv.barl j hj hb)
      · intro t ht
        by_cases hdt : (cs.getD i default).dst = some t
        · rw [hdt, put_same, put_same]
        · rw [put_other hdt, put_other hdt]
          refine inv.env t fun j hj hd => hset_back j (fun e => hdt (e ▸ hd)) (ht j (List.mem_cons_of_mem _ hj) hd)
      · intro j hj hjl
        rcases List.mem_cons.1 hj with rfl | hj
        · exact absurd hset_i hjl
        · rcases againAll_get k5 j hj with h1 | h1
          · exact absurd (hset_of j (hanc j h1)) hjl
          · exact h1

end
end Go.IW

namespace Go.IW
open Go.RowKit

section
variable {P : Program} {ρ ρ0 : List RLoc} {B : Nat} {w w0 : World} {h : IH} {N : Nat} {a : Act} {e : Env}

theorem St.mono {K K' : Env → IH → Prop} (hk : ∀ e h, K e h → K' e h) (hs : St ρ0 N B w0 K a w) : St ρ0 N B w0 K' a w :=
  let ⟨ρ, e, h, h1, h2, h3, h4, h5⟩ := hs
  ⟨ρ, e, h, h1, h2, h3, h4, hk _ _ h5⟩

theorem init_dinv {ops : Array Oper} {cs : List COp} {bar : List Bool} {anc : List (List Nat)} {ord : List Nat} (hok : DOk ops cs bar anc ord) {K : Env → IH → Prop} (hv : vcD P cs bar anc [] ord K e h) :
    DInv ops cs bar anc ord K P (fun i => (Array.replicate ops.size false).getD i true = true) [] ord e e h := by
  refine ⟨rfl, fun i hi hl => ?_, fun i hi hl => ?_, fun i hi => (by cases hi), fun t _ => rfl, fun i hi => (by cases hi), hv⟩
  · simp [Array.getD, hi] at hl
  · simp [Array.getD, hi] at hl

theorem region_draw [GOk P B w0] {id : Nat} {ops : Array Oper} {cs : List COp} {bar : List Bool} {anc : List (List Nat)} {ord : List Nat} (hm : P.follows .mixedOrders = true) (hcs : ocomps P N ops ops.toList = some cs) (hok : DOk ops cs bar anc ord)
    {K : Env → IH → Prop} {Q : Exit → Act → World → Prop} (hQ : ∀ a w, St ρ0 N B w0 K a w → Q .normal a w) (hs : St ρ0 N B w0 (vcD P cs bar anc [] ord K) a w) : (Code.region id ops true).wp P Q a w := by
  obtain ⟨ρ, e, h, h1, h2, h3, h4, h5⟩ := hs
  refine wp_region_any hm (draw_any (K := K) hcs hok hQ ops.size _ a _ (by simp) ?_ ?_)
  · have : (ord.filter fun i => (Array.replicate ops.size false).getD i true) = [] := by
      rw [List.filter_eq_nil_iff]
      intro i hi
      have := (hok.perm i).1 hi
      simp [Array.getD, this]
    rw [this]; simp
  · exact ⟨ρ, [], ord, e, e, h, h1, h2.same rfl, h3, h4.trans ⟨rfl, rfl, rfl, Nat.le_refl _, fun _ _ => rfl⟩, init_dinv hok h5⟩

theorem init_tinv {ops : Array Oper} {cs : List COp} {bar : List Bool} {anc : List (List Nat)} {K : Env → IH → Prop} (hv : vcT P cs anc [] (mkT bar anc ops.size ops.size []) K e h) :
    TInv ops cs bar anc K P (fun i => (Array.replicate ops.size false).getD i true = true) ops.size [] e e h := by
  refine ⟨by simp, List.nodup_nil, fun i hi => (by cases hi), fun i hi => (by cases hi), fun i hi hl => ?_, fun i hi hl => ?_, fun i hi => (by cases hi), fun t _ => rfl, fun i hi => (by cases hi), hv⟩
  · simp [Array.getD, hi] at hl
  · simp [Array.getD, hi] at hl

theorem region_drawT [GOk P B w0] {id : Nat} {ops : Array Oper} {cs : List COp} {bar : List Bool} {anc : List (List Nat)} (hm : P.follows .mixedOrders = true) (hcs : ocomps P N ops ops.toList = some cs) (hok : TOk ops cs bar anc)
    {K : Env → IH → Prop} {Q : Exit → Act → World → Prop} (hQ : ∀ a w, St ρ0 N B w0 K a w → Q .normal a w) (hs : St ρ0 N B w0 (vcT P cs anc [] (mkT bar anc cs.length cs.length []) K) a w) : (Code.region id ops true).wp P Q a w := by
  obtain ⟨ρ, e, h, h1, h2, h3, h4, h5⟩ := hs
  have hl : cs.length = ops.size := by have := (ocomps_get hcs).1; rw [← this]; simp
  rw [hl] at h5
  refine wp_region_any hm (draw_anyT (K := K) hcs hok hQ ops.size _ a _ (by simp) ?_ ?_)
  · have : ((List.range ops.size).filter fun i => (Array.replicate ops.size false).getD i true) = [] := by
      rw [List.filter_eq_nil_iff]
      intro i hi
      have := List.mem_range.1 hi
      simp [Array.getD, this]
    rw [this]; simp
  · exact ⟨ρ, ops.size, [], e, e, h, h1, h2.same rfl, h3, h4.trans ⟨rfl, rfl, rfl, Nat.le_refl _, fun _ _ => rfl⟩, init_tinv h5⟩

theorem seqK_then {next : Env → IH → Prop} {K : EPost} {R : Act → World → Prop} (hR : ∀ a w, St ρ0 N B w0 next a w → R a w) (ex : Exit) (a : Act) (w : World) (hp : Post ρ0 N B w0 (seqK next K) ex a w) :
    Exit.then R (Post ρ0 N B w0 K) ex a w := by
  cases ex <;> first | exact hR a w hp | exact hp

theorem vc_sound [GOk P B w0] : ∀ (c : Code) {cc : CC}, ccomp P N c = some cc → ∀ {K : EPost} {a : Act} {w : World}, St ρ0 N B w0 (vc P cc K) a w → c.wp P (Post ρ0 N B w0 K) a w := by
  intro c
  induction c with
  | skip => intro cc hc K a w hs; simp [ccomp] at hc; subst hc; exact wp_skip hs
  | ret => intro cc hc K a w hs; simp [ccomp] at hc; subst hc; exact wp_ret hs
  | exit id => intro cc hc K a w hs; simp [ccomp] at hc; subst hc; exact wp_exit hs
  | region id ops draw =>
    intro cc hc K a w hs
    cases draw with
    | false =>
      simp only [ccomp] at hc
      rw [Option.map_eq_some_iff] at hc
      obtain ⟨cs, hcs, rfl⟩ := hc
      refine wp_region ?_
      rw [List.range_eq_range']
      exact ops_sound (ρ0 := ρ0) (B := B) (w0 := w0) hcs (fun a w h => h) ops.size 0 (by simp) a w (by rw [dz0]; exact hs)
    | true =>
      simp only [ccomp] at hc
      split at hc
      · rename_i cs hcs
        split at hc
        · rename_i hd
          obtain rfl := Option.some.inj hc
          simp only [Bool.and_eq_true] at hd
          exact region_draw hd.2 hcs (dCheck_ok hd.1) (fun a w h => h) hs
        · split at hc
          · rename_i hd
            obtain rfl := Option.some.inj hc
            simp only [Bool.and_eq_true] at hd
            exact region_drawT hd.2 hcs (tCheck_ok hd.1) (fun a w h => h) hs
          · cases hc
      · cases hc
  | seq x y ihx ihy =>
    intro cc hc K a w hs
    simp only [ccomp] at hc
    split at hc
    · rename_i x' y' hx hy
      obtain rfl := Option.some.inj hc
      exact wp_seq (wp_mono (ihx hx hs) (fun ex a w hp => seqK_then (fun a w h => ihy hy h) ex a w hp))
    · cases hc
  | cond c x y ihx ihy =>
    intro cc hc K a w hs
    simp only [ccomp] at hc
    split at hc
    · rename_i c' x' y' hcx hx hy
      obtain rfl := Option.some.inj hc
      obtain ⟨ρ, e, h, h1, h2, h3, h4, h5⟩ := hs
      simp only [vc, vcCond] at h5
      split at h5
      · rename_i b hb
        have hr := cx_rel hcx h3
        rw [hb] at hr
        generalize hev : a.eval c = cv at hr
        cases hr
        exact wp_cond_split hev (fun ht => ihx hx ⟨ρ, e, h, h1, h2, h3, h4, h5.1 ht⟩) (fun hf => ihy hy ⟨ρ, e, h, h1, h2, h3, h4, h5.2 hf⟩)
      · exact h5.elim
    · cases hc
  | block id x ih =>
    intro cc hc K a w hs
    simp only [ccomp] at hc
    rw [Option.map_eq_some_iff] at hc
    obtain ⟨x', hx, rfl⟩ := hc
    refine wp_block (wp_mono (ih hx hs) (fun ex a w hp => ?_))
    cases ex with
    | exit id' =>
      have hp' : St ρ0 N B w0 (fun e h => if id' = id then K .normal e h else K (.exit id') e h) a w := hp
      simp only [Exit.inBlock]
      split
      · rename_i h0; simp only [if_pos h0] at hp'; exact hp'
      · rename_i h0; simp only [if_neg h0] at hp'; exact hp'
    | _ => exact hp
  | loop x ih =>
    intro cc hc K a w hs
    simp only [ccomp] at hc
    rw [Option.map_eq_some_iff] at hc
    obtain ⟨x', hx, rfl⟩ := hc
    obtain ⟨ρ, e, h, h1, h2, h3, h4, I, ⟨n, hn⟩, hround⟩ := hs
    refine wp_loop_idx (fun n => St ρ0 N B w0 (I n)) ⟨n, ρ, e, h, h1, h2, h3, h4, hn⟩ (fun n a w hI => ?_)
    refine wp_mono (ih hx (hI.mono (fun e h hi => hround n e h hi))) (fun ex a w hp => seqK_then (fun a w hst => ?_) ex a w hp)
    obtain ⟨ρ', e', h', k1, k2, k3, k4, m, hm, hI'⟩ := hst
    exact ⟨m, hm, ρ', e', h', k1, k2, k3, k4, hI'⟩
  | rangeFunc => intro cc hc; simp [ccomp] at hc
  | scope => intro cc hc; simp [ccomp] at hc
  | label => intro cc hc; simp [ccomp] at hc
  | goto => intro cc hc; simp [ccomp] at hc
  | refuse =>
    intro cc hc K a w hs
    simp only [ccomp] at hc
    obtain rfl := Option.some.inj hc
    obtain ⟨ρ, e, h, _, _, _, _, hf⟩ := hs
    exact False.elim hf

theorem resVs_sound (hw : WRel ρ B w h) (ha : ARel ρ N a e) : ∀ {l : List ResultVar} {ks : List FK} {vs : List IV}, rcomps P l = some ks → resVs e h ks = some vs →
    ∃ us : List Value, (l.mapM (fun | .tmp t => pure (a.tmps.getD t undef) | .cell b t => do loadVar t (← asAddr (a.tmps.getD b undef)) : ResultVar → Sem Value)).run P w = .ok us w ∧ LRel ρ us vs
  | [], ks, vs, hk, hv => by
    simp [rcomps] at hk; subst hk
    simp [resVs] at hv; subst hv
    exact ⟨[], by simp, LRel.nil ρ⟩
  | r :: l, ks, vs, hk, hv => by
    simp only [rcomps] at hk
    split at hk
    · rename_i k ks' h1 h2
      obtain rfl := Option.some.inj hk
      simp only [resVs] at hv
      split at hv
      · rename_i v vs' h3 h4
        obtain rfl := Option.some.inj hv
        obtain ⟨us, g1, g2⟩ := resVs_sound hw ha h2 h4
        have hone : ∃ u, ((match r with | .tmp t => pure (a.tmps.getD t undef) | .cell b t => do loadVar t (← asAddr (a.tmps.getD b undef))) : Sem Value).run P w = .ok u w ∧ VRel ρ u v := by
          cases r with
          | tmp t =>
            simp [rcomp] at h1; subst h1
            simp [feval, CX.ev] at h3; subst h3
            exact ⟨_, rfl, ha.val t⟩
          | cell b t =>
            simp only [rcomp] at h1
            split at h1
            · rename_i d n hd hn
              obtain rfl := Option.some.inj h1
              have hb := ha.val b
              cases hagg : isAggD d
              · simp only [hagg, Bool.false_eq_true, if_false, feval, CX.ev] at h3
                split at h3
                · rename_i l i k hp
                  rw [hp] at hb
                  obtain ⟨v', k1, k2⟩ := ld_sound (P := P) hw hd hagg hb h3
                  refine ⟨v', ?_, k2⟩
                  simp only
                  generalize a.tmps.getD b undef = x at hb k1 ⊢
                  cases hb
                  simpa [Instr.loadAt, Instr.sureAddr, asAddr] using k1
                · cases h3
              · simp only [hagg, if_true, feval, CX.ev] at h3
                split at h3
                · rename_i l i k hp
                  rw [hp] at hb
                  split at h3
                  · rename_i row hrow
                    split at h3
                    · rename_i hk'
                      obtain rfl := Option.some.inj h3
                      obtain ⟨v', k1, k2⟩ := ldA_sound (P := P) hw hd hagg hn hb hrow hk'
                      refine ⟨v', ?_, k2⟩
                      simp only
                      generalize a.tmps.getD b undef = x at hb k1 ⊢
                      cases hb
                      simpa [Instr.loadAt, Instr.sureAddr, asAddr] using k1
                    · cases h3
                  · cases h3
                · cases h3
            · cases h1
        obtain ⟨u, k1, k2⟩ := hone
        refine ⟨u :: us, ?_, LRel.cons k2 g2⟩
        simp only [List.mapM_cons, Sem.run_bind, k1, Result.andThen_ok, g1, Sem.run_pure]
      · cases hv
    · cases hk

theorem results_sound (hw : WRel ρ B w h) (ha : ARel ρ N a e) {fn : Func} {ks : List FK} {vs : List IV} (hk : rcomps P fn.results.toList = some ks) (hv : resVs e h ks = some vs) :
    ∃ u, (results fn a.tmps).run P w = .ok u w ∧ VRel ρ u (resV vs) := by
  obtain ⟨us, h1, h2⟩ := resVs_sound hw ha hk hv
  have hrun : (fn.results.mapM (fun | .tmp t => pure (a.tmps.getD t undef) | .cell b t => do loadVar t (← asAddr (a.tmps.getD b undef)) : ResultVar → Sem Value)).run P w = .ok us.toArray w := by
    rw [Array.mapM_eq_mapM_toList, Sem.run_map, h1]; rfl
  refine ⟨if h : us.toArray.size = 1 then us.toArray[0] else .tuple us.toArray, ?_, ?_⟩
  · have h3 : (results fn a.tmps).run P w = ((fn.results.mapM (fun | .tmp t => pure (a.tmps.getD t undef) | .cell b t => do loadVar t (← asAddr (a.tmps.getD b undef)) : ResultVar → Sem Value)).run P w).andThen fun vs w' => .ok (if h : vs.size = 1 then vs[0] else .tuple vs) w' := by
      unfold results
      simp only [Sem.run_bind, Sem.run_pure]
      rfl
    rw [h3, hrun]
    rfl
  · have hlen := h2.1
    split
    · rename_i h0
      match us, vs, h2 with
      | [u], [v], h2 => exact h2.head
      | [], _, _ => simp at h0
      | _ :: _ :: _, _, _ => simp at h0
      | [_], [], h2 => simp [LRel] at h2
      | [_], _ :: _ :: _, h2 => simp [LRel] at h2
    · rename_i h0
      match vs, hlen, h2 with
      | [v], hlen, h2 => exact absurd (by simpa using hlen) h0
      | [], _, h2 => exact LRel.tuple (by simpa using h2)
      | _ :: _ :: _, _, h2 => exact LRel.tuple (by simpa using h2)

structure FnOk (P : Program) (f : Nat) (N : Nat) (cc : CC) (rs : List FK) : Prop where
  ok : ∃ fn c, P.funcs[f]? = some fn ∧ fn.body = some c ∧ fn.name ≠ "runtime.NumGoroutine" ∧ fn.ntmps = N ∧ ccomp P N c = some cc ∧ rcomps P fn.results.toList = some rs

def fnComp (P : Program) (f : Nat) : Option (Nat × CC × List FK) :=
  match P.funcs[f]? with
  | some fn => match fn.body with
    | some c => match ccomp P fn.ntmps c, rcomps P fn.results.toList with
      | some cc, some rs => if fn.name != "runtime.NumGoroutine" then some (fn.ntmps, cc, rs) else none
      | _, _ => none
    | none => none
  | none => none
theorem FnOk.of {f N : Nat} {cc : CC} {rs : List FK} (hc : fnComp P f = some (N, cc, rs)) : FnOk P f N cc rs := by
  unfold fnComp at hc
  split at hc
  · rename_i fn h1
    split at hc
    · rename_i c h2
      split at hc
      · rename_i cc' rs' h3 h4
        split at hc
        · rename_i h5
          obtain ⟨rfl, rfl, rfl⟩ := by simpa using hc
          exact ⟨fn, c, h1, h2, by simpa using h5, rfl, h3, h4⟩
        · cases hc
      · cases hc
    · cases hc
  · cases hc

theorem icalls {f : Nat} {cc : CC} {rs : List FK} (hf : FnOk P f N cc rs) {args : List IV} {Q : IV → IH → Prop} (hN : args.length ≤ N) (hv : vc P cc (retK rs Q) (env0 args) h) : ICalls P f args h Q := by
  intro ρ B w args' _ hw hargs
  obtain ⟨fn, c, h1, h2, h3, h4, h5, h6⟩ := hf.ok
  subst h4
  have hcall : (callFunc f args').run P w = .ok (.enter f args') w := by
    simp [callFunc, h1, h2, h3]
  rw [hcall]
  simp only [UponF]
  have hsz : args'.size = args.length := by have := hargs.1; simpa using this
  refine calls_of_wp h1 h2 ?_
  have harel : ARel ρ fn.ntmps { tmps := args' ++ Array.replicate (fn.ntmps - args'.size) undef, defers := [] } (env0 args) := by
    refine ⟨by simp; omega, rfl, fun t => ?_⟩
    simp only [env0]
    rw [Array.getD_eq_getD_getElem?, List.getD_eq_getElem?_getD]
    by_cases ht : t < args'.size
    · rw [Array.getElem?_append_left ht]
      have h7 : args'.toList[t]? = some args'[t] := by simp [ht]
      have h8 : args[t]? = some (args[t]'(by omega)) := List.getElem?_eq_getElem _
      have := hargs.2 t _ _ h7 h8
      rw [Array.getElem?_eq_getElem ht, h8]
      exact this
    · rw [Array.getElem?_append_right (by omega), List.getElem?_eq_none (by omega)]
      have : (Array.replicate (fn.ntmps - args'.size) undef)[t - args'.size]?.getD undef = undef := by
        rw [Array.getElem?_replicate]; split <;> rfl
      rw [this]
      exact undef_rel ρ
  have hwp := vc_sound (ρ0 := ρ) (B := B) (w0 := w) c h5 (K := retK rs Q) ⟨ρ, env0 args, h, List.prefix_refl _, hw, harel, Below.refl _ _, hv⟩
  refine wp_mono hwp (fun ex a w' hp => ?_)
  obtain ⟨ρ', e', h', k1, k2, k3, k4, k5⟩ := hp
  have key : ∀ {vs : List IV}, resVs e' h' rs = some vs → Q (resV vs) h' → a.defers = [] ∧ ∃ v, (results fn a.tmps).run P w' = .ok v w' ∧ Out ρ B w Q v w' := by
    intro vs hvs hq
    obtain ⟨u, g1, g2⟩ := results_sound (P := P) k2 k3 h6 hvs
    exact ⟨k3.defers, u, g1, ρ', _, h', k1, k2, g2, k4, hq⟩
  cases ex with
  | normal =>
    simp only [retK] at k5
    split at k5
    · rename_i vs hvs; exact key hvs k5
    · exact k5.elim
  | ret =>
    simp only [retK] at k5
    split at k5
    · rename_i vs hvs; exact key hvs k5
    · exact k5.elim
  | exit id => exact k5.elim
  | goto l => exact k5.elim
  | panic ch => exact k5.elim
  | outgrown => exact k5.elim

end
end Go.IW

namespace Go.IW
open Go.RowKit

theorem nr {α : Sort _} {a b : α} (h : a = b) : a = b := h

@[go_sem] theorem put_some (e : Env) (d : Nat) (v : IV) : put e (some d) v = upd e d v := nr rfl
@[go_sem] theorem put_none (e : Env) (v : IV) : put e none v = e := nr rfl
@[go_sem] theorem upd_self (e : Env) (d : Nat) (v : IV) : upd e d v d = v := upd_eq e d v
@[go_sem] theorem upd_far (e : Env) (d t : Nat) (v : IV) (h : (t == d) = false) : upd e d v t = e t := upd_ne e v (by simpa using h)
@[go_sem] theorem ev_t (e : Env) (n : Nat) : CX.ev e (.t n) = e n := nr rfl
@[go_sem] theorem ev_c (e : Env) (v : IV) : CX.ev e (.c v) = v := nr rfl
@[go_sem] theorem ev_fn (e : Env) (f : Nat) : CX.ev e (.fn f) = .func f [] [] := nr rfl
@[go_sem ↓] theorem seqK_normal (n : Env → IH → Prop) (K : EPost) (e : Env) (h : IH) : seqK n K .normal e h = n e h := nr rfl
@[go_sem ↓] theorem seqK_ret (n : Env → IH → Prop) (K : EPost) (e : Env) (h : IH) : seqK n K .ret e h = K .ret e h := nr rfl
@[go_sem ↓] theorem seqK_exit (n : Env → IH → Prop) (K : EPost) (i : Nat) (e : Env) (h : IH) : seqK n K (.exit i) e h = K (.exit i) e h := nr rfl
@[go_sem ↓] theorem blockK_normal (i : Nat) (K : EPost) (e : Env) (h : IH) : blockK i K .normal e h = K .normal e h := nr rfl
@[go_sem ↓] theorem blockK_ret (i : Nat) (K : EPost) (e : Env) (h : IH) : blockK i K .ret e h = K .ret e h := nr rfl
theorem blockK_exit (i j : Nat) (K : EPost) (e : Env) (h : IH) : blockK i K (.exit j) e h = if j = i then K .normal e h else K (.exit j) e h := nr rfl
@[go_sem ↓] theorem blockK_here (i : Nat) (K : EPost) (e : Env) (h : IH) : blockK i K (.exit i) e h = K .normal e h := by simp [blockK]
@[go_sem ↓] theorem blockK_far (i j : Nat) (K : EPost) (e : Env) (h : IH) (hij : (j == i) = false) : blockK i K (.exit j) e h = K (.exit j) e h := by
  rw [blockK_exit, if_neg (by simpa using hij)]

class Hold where
  p : Prop
class HoldK where
  k : IV → IH → Prop
class HoldL where
  body : EPost → Env → IH → Prop
  K : EPost

def test (c : IV) [A : Hold] [B : Hold] : Prop := vcCond c A.p B.p
@[go_sem] theorem test_true (A B : Hold) : @test (.bool true) A B = A.p := by simp [test, vcCond]
@[go_sem] theorem test_false (A B : Hold) : @test (.bool false) A B = B.p := by simp [test, vcCond]
theorem test_of {b : Bool} {A B : Hold} (h1 : b = true → A.p) (h2 : b = false → B.p) : @test (.bool b) A B := ⟨h1, h2⟩
theorem test_dec {p : Prop} [Decidable p] {A B : Hold} (h1 : p → A.p) (h2 : ¬ p → B.p) : @test (.bool (decide p)) A B := ⟨fun h => h1 (by simpa using h), fun h => h2 (by simpa using h)⟩
def loop [L : HoldL] (e : Env) (h : IH) : Prop := vcLoop L.body L.K e h
theorem loop_at {L : HoldL} {e : Env} {h : IH} (I : Nat → Env → IH → Prop) (n0 : Nat) (h0 : I n0 e h) (hr : ∀ n e h, I n e h → L.body (seqK (fun e' h' => ∃ m, m < n ∧ I m e' h') L.K) e h) : @loop L e h := ⟨I, ⟨n0, h0⟩, hr⟩

section
variable (P : Program) (K : EPost) (e : Env) (h : IH)
@[go_sem ↓] theorem vc_skip : vc P .skip K e h = K .normal e h := nr rfl
@[go_sem ↓] theorem vc_reg (ops : List COp) : vc P (.reg ops) K e h = vcOps P ops (K .normal) e h := nr rfl
@[go_sem ↓] theorem vc_dreg (ops : List COp) (b : List Bool) (a : List (List Nat)) (o : List Nat) : vc P (.dreg ops b a o) K e h = vcD P ops b a [] o (K .normal) e h := nr rfl
@[go_sem ↓] theorem vc_treg (ops : List COp) (a : List (List Nat)) (t : DT) : vc P (.treg ops a t) K e h = vcT P ops a [] t (K .normal) e h := nr rfl
@[go_sem ↓] theorem vc_seq (a b : CC) : vc P (.seq a b) K e h = vc P a (seqK (vc P b K) K) e h := nr rfl
@[go_sem ↓] theorem vc_cond (c : CX) (a b : CC) : vc P (.cond c a b) K e h = @test (c.ev e) ⟨vc P a K e h⟩ ⟨vc P b K e h⟩ := nr rfl
@[go_sem ↓] theorem vc_block (i : Nat) (a : CC) : vc P (.block i a) K e h = vc P a (blockK i K) e h := nr rfl
@[go_sem ↓] theorem vc_loop (a : CC) : vc P (.loop a) K e h = @loop ⟨vc P a, K⟩ e h := nr rfl
@[go_sem ↓] theorem vc_exit (i : Nat) : vc P (.exit i) K e h = K (.exit i) e h := nr rfl
@[go_sem ↓] theorem vc_ret : vc P .ret K e h = K .ret e h := nr rfl
end

section
variable (P : Program) (K : Env → IH → Prop) (e : Env) (h : IH)
@[go_sem ↓] theorem vcOps_nil : vcOps P [] K e h = K e h := nr rfl
@[go_sem ↓] theorem vcOps_cons (o : COp) (r : List COp) : vcOps P (o :: r) K e h = vcOp P o (vcOps P r K) e h := nr rfl
@[go_sem ↓] theorem vcOp_plain (d : Option Nat) (k : CK) : vcOp P ⟨d, none, k⟩ K e h = vcK P k e h fun v h' => K (put e d v) h' := nr rfl
def guard (c : IV) (want : Bool) [A : Hold] [B : Hold] : Prop :=
  match c with
  | .bool b => (b = want → A.p) ∧ (b = !want → B.p)
  | .tuple [] => B.p
  | _ => False
@[go_sem ↓] theorem vcOp_guard (d : Option Nat) (t : Nat) (want : Bool) (k : CK) : vcOp P ⟨d, some (t, want), k⟩ K e h = @guard (e t) want ⟨vcK P k e h fun v h' => K (put e d v) h'⟩ ⟨K (put e d (.tuple [])) h⟩ := nr rfl
@[go_sem] theorem guard_tt (A B : Hold) : @guard (.bool true) true A B = A.p := by simp [guard]
@[go_sem] theorem guard_tf (A B : Hold) : @guard (.bool true) false A B = B.p := by simp [guard]
@[go_sem] theorem guard_ft (A B : Hold) : @guard (.bool false) true A B = B.p := by simp [guard]
@[go_sem] theorem guard_ff (A B : Hold) : @guard (.bool false) false A B = A.p := by simp [guard]
@[go_sem] theorem guard_u (want : Bool) (A B : Hold) : @guard (.tuple []) want A B = B.p := nr rfl
def got (o : Option IV) (h : IH) [K : HoldK] : Prop := match o with | some v => K.k v h | none => False
@[go_sem ↓] theorem vcK_f (k : FK) (K : IV → IH → Prop) : vcK P (.f k) e h K = @got (feval e h k) h ⟨K⟩ := nr rfl
@[go_sem] theorem got_some (v : IV) (K : HoldK) : @got (some v) h K = K.k v h := nr rfl
@[go_sem ↓] theorem vcK_x (k : EK) (K : IV → IH → Prop) : vcK P (.x k) e h K = act P h e K k := nr rfl
end


section
variable (e : Env) (h : IH)
@[go_sem] theorem fe_mv (x : CX) : feval e h (.mv x) = some (x.ev e) := nr rfl
def pickF (c a b : IV) : Option IV := match c with | .bool true => some a | .bool false => some b | _ => none
@[go_sem] theorem fe_pick (c a b : CX) : feval e h (.pick c a b) = pickF (c.ev e) (a.ev e) (b.ev e) := nr rfl
@[go_sem] theorem pickF_true (a b : IV) : pickF (.bool true) a b = some a := nr rfl
@[go_sem] theorem pickF_false (a b : IV) : pickF (.bool false) a b = some b := nr rfl
@[go_sem] theorem fe_build (z : List IV) (ps : List (Nat × Nat × CX)) : feval e h (.build z ps) = (lay z (ps.map fun p => (p.1, p.2.1, p.2.2.ev e))).map .agg := nr rfl
def ldF (h : IH) (x : IV) : Option IV := match x with | .ptr l i k => h.cell l i k | _ => none
@[go_sem] theorem fe_ld (x : CX) : feval e h (.ld x) = ldF h (x.ev e) := nr rfl
@[go_sem] theorem ldF_ptr (l i k : Nat) : ldF h (.ptr l i k) = h.cell l i k := nr rfl
def rowA (row : Option (List IV)) (k n : Nat) : Option IV := match row with | some row => if k + n ≤ row.length then some (.agg ((row.drop k).take n)) else none | none => none
def ldAF (h : IH) (n : Nat) (x : IV) : Option IV := match x with | .ptr l i k => rowA (h.row l i) k n | _ => none
@[go_sem] theorem fe_ldA (n : Nat) (x : CX) : feval e h (.ldA n x) = ldAF h n (x.ev e) := nr rfl
@[go_sem] theorem ldAF_ptr (n l i k : Nat) : ldAF h n (.ptr l i k) = rowA (h.row l i) k n := nr rfl
theorem rowA_some (row : List IV) (k n : Nat) (hk : k + n ≤ row.length) : rowA (some row) k n = some (.agg ((row.drop k).take n)) := if_pos hk
theorem rowA_whole (row : List IV) (n : Nat) (hk : row.length = n) : rowA (some row) 0 n = some (.agg row) := by
  unfold rowA; simp [← hk]
def nckF (x : IV) : Option IV := match x with | .ptr l i k => some (.ptr l i k) | .func f as0 cs => some (.func f as0 cs) | .iface t v => some (.iface t v) | _ => none
@[go_sem] theorem fe_nck (x : CX) : feval e h (.nck x) = nckF (x.ev e) := nr rfl
@[go_sem] theorem nckF_ptr (l i k : Nat) : nckF (.ptr l i k) = some (.ptr l i k) := nr rfl
@[go_sem] theorem nckF_func (f : Nat) (a c : List IV) : nckF (.func f a c) = some (.func f a c) := nr rfl
@[go_sem] theorem fe_bin (op : BinOp) (x y : CX) : feval e h (.bin op x y) = ibin op (x.ev e) (y.ev e) := nr rfl
@[go_sem] theorem fe_binB (g : Bool) (x y : CX) : feval e h (.binB g x y) = ibinB g (x.ev e) (y.ev e) := nr rfl
@[go_sem] theorem ibinB_bool (g a b : Bool) : ibinB g (.bool a) (.bool b) = some (.bool ((a == b) != g)) := nr rfl
def eqnF (neg : Bool) (a b : Option Bool) : Option IV := match a, b with
  | some true, some b => some (.bool (b != neg))
  | some b, some true => some (.bool (b != neg))
  | _, _ => none
@[go_sem] theorem fe_eqn (k : NK) (g : Bool) (x y : CX) : feval e h (.eqn k g x y) = eqnF g (isNil k (x.ev e)) (isNil k (y.ev e)) := nr rfl
@[go_sem] theorem eqnF_right (g : Bool) (a : Bool) : eqnF g (some a) (some true) = some (.bool (a != g)) := by cases a <;> rfl
@[go_sem] theorem eqnF_left (g : Bool) (a : Bool) : eqnF g (some true) (some a) = some (.bool (a != g)) := by cases a <;> rfl
@[go_sem] theorem isNil_1 : isNil .ptr .nilptr = some true := nr rfl
@[go_sem] theorem isNil_2 : isNil .slice .nilslice = some true := nr rfl
@[go_sem] theorem isNil_3 : isNil .map .nilmap = some true := nr rfl
@[go_sem] theorem isNil_4 : isNil .func .nilfunc = some true := nr rfl
@[go_sem] theorem isNil_5 : isNil .iface .niliface = some true := nr rfl
@[go_sem] theorem isNil_6 (l i k : Nat) : isNil .ptr (.ptr l i k) = some false := nr rfl
@[go_sem] theorem isNil_7 (l i k : Nat) : isNil .slice (.slice l i k) = some false := nr rfl
@[go_sem] theorem isNil_8 (z : Bool) : isNil .slice (.eslice z) = some false := nr rfl
@[go_sem] theorem isNil_9 (l : Nat) : isNil .map (.map l) = some false := nr rfl
@[go_sem] theorem isNil_10 (f : Nat) (a b : List IV) : isNil .func (.func f a b) = some false := nr rfl
@[go_sem] theorem isNil_11 (t : Nat) (v : IV) : isNil .iface (.iface t v) = some false := nr rfl
@[go_sem] theorem fe_un (op : UnOp) (x : CX) : feval e h (.un op x) = iun op (x.ev e) := nr rfl
@[go_sem] theorem iun_not (b : Bool) : iun .not (.bool b) = some (.bool (!b)) := nr rfl
@[go_sem] theorem iun_neg (k : IntKind) (n : Int) : iun .neg (.int k n) = some (.int k (wr k (0 - n))) := nr rfl
@[go_sem] theorem iun_xor (k : IntKind) (n : Int) : iun .xor (.int k n) = some (.int k (bits .xor k (if k.signed then -1 else k.max) n)) := nr rfl
def cvIF (k : IntKind) (x : IV) : Option IV := match x with | .int _ n => some (.int k (wr k n)) | _ => none
@[go_sem] theorem fe_cvI (k : IntKind) (x : CX) : feval e h (.cvI k x) = cvIF k (x.ev e) := nr rfl
@[go_sem] theorem cvIF_int (k j : IntKind) (n : Int) : cvIF k (.int j n) = some (.int k (wr k n)) := nr rfl
def cvSF (x : IV) : Option IV := match x with | .str s => some (.str s) | _ => none
@[go_sem] theorem fe_cvS (x : CX) : feval e h (.cvS x) = cvSF (x.ev e) := nr rfl
@[go_sem] theorem cvSF_str (s : List UInt8) : cvSF (.str s) = some (.str s) := nr rfl
def b2sO (o : IObj) (i n : Nat) : Option IV := match o with | .rows rs _ sz _ => if sz = 1 ∧ i + n ≤ rs.length then (bytesOf ((rs.drop i).take n)).map .str else none | _ => none
def b2sF (h : IH) (x : IV) : Option IV := match x with | .nilslice => some (.str []) | .eslice _ => some (.str []) | .slice l i n => b2sO (h.obj l) i n | _ => none
@[go_sem] theorem fe_b2s (x : CX) : feval e h (.b2s x) = b2sF h (x.ev e) := nr rfl
@[go_sem] theorem b2sF_nil : b2sF h .nilslice = some (.str []) := nr rfl
@[go_sem] theorem b2sF_e (z : Bool) : b2sF h (.eslice z) = some (.str []) := nr rfl
@[go_sem] theorem b2sF_slice (l i n : Nat) : b2sF h (.slice l i n) = b2sO (h.obj l) i n := nr rfl
def extF (i : Nat) (x : IV) : Option IV := match x with | .tuple vs => vs[i]? | _ => none
@[go_sem] theorem fe_ext (i : Nat) (x : CX) : feval e h (.ext i x) = extF i (x.ev e) := nr rfl
@[go_sem] theorem extF_tuple (i : Nat) (vs : List IV) : extF i (.tuple vs) = vs[i]? := nr rfl
def fldF (off n : Nat) (agg : Bool) (x : IV) : Option IV := match x with | .agg cs => if agg then (if off + n ≤ cs.length then some (.agg ((cs.drop off).take n)) else none) else cs[off]? | _ => none
@[go_sem] theorem fe_fld (off n : Nat) (agg : Bool) (x : CX) : feval e h (.fld off n agg x) = fldF off n agg (x.ev e) := nr rfl
@[go_sem] theorem fldF_one (off n : Nat) (cs : List IV) : fldF off n false (.agg cs) = cs[off]? := nr rfl
def fadrF (off : Nat) (x : IV) : Option IV := match x with | .ptr l i k => some (.ptr l i (k + off)) | _ => none
@[go_sem] theorem fe_fadr (off : Nat) (x : CX) : feval e h (.fadr off x) = fadrF off (x.ev e) := nr rfl
@[go_sem] theorem fadrF_ptr (off l i k : Nat) : fadrF off (.ptr l i k) = some (.ptr l i (k + off)) := nr rfl
def iadrF (h : IH) (sz : Nat) (x i : IV) : Option IV := match x, i with | .slice l j n, .int _ m => if 0 ≤ m ∧ m < n ∧ h.size l = some sz then some (.ptr l (j + m.toNat) 0) else none | _, _ => none
@[go_sem] theorem fe_iadr (sz : Nat) (x i : CX) : feval e h (.iadr sz x i) = iadrF h sz (x.ev e) (i.ev e) := nr rfl
theorem iadrF_of {sz l j n : Nat} {k : IntKind} {m : Int} (h0 : 0 ≤ m) (h1 : m < n) (hs : h.size l = some sz) : iadrF h sz (.slice l j n) (.int k m) = some (.ptr l (j + m.toNat) 0) := if_pos ⟨h0, h1, hs⟩
def iadrAF (len sz : Nat) (x i : IV) : Option IV := match x, i with | .ptr l j k, .int _ m => if 0 ≤ m ∧ m < len then some (.ptr l j (k + m.toNat * sz)) else none | _, _ => none
@[go_sem] theorem fe_iadrA (len sz : Nat) (x i : CX) : feval e h (.iadrA len sz x i) = iadrAF len sz (x.ev e) (i.ev e) := nr rfl
def idxSF (x i : IV) : Option IV := match x, i with | .str s, .int _ m => if 0 ≤ m then (s[m.toNat]?).map (fun b => .int .u8 b.toNat) else none | _, _ => none
@[go_sem] theorem fe_idxS (x i : CX) : feval e h (.idxS x i) = idxSF (x.ev e) (i.ev e) := nr rfl
theorem idxSF_of {s : List UInt8} {k : IntKind} {m : Int} {b : UInt8} (h0 : 0 ≤ m) (hb : s[m.toNat]? = some b) : idxSF (.str s) (.int k m) = some (.int .u8 b.toNat) := by
  simp [idxSF, h0, hb]
def idxAF (len sz : Nat) (agg : Bool) (x i : IV) : Option IV := match x, i with
  | .agg cs, .int _ m => if 0 ≤ m ∧ m < len then
        (if agg then (if m.toNat * sz + sz ≤ cs.length then some (.agg ((cs.drop (m.toNat * sz)).take sz)) else none) else cs[m.toNat * sz]?) else none
  | _, _ => none
@[go_sem] theorem fe_idxA (len sz : Nat) (agg : Bool) (x i : CX) : feval e h (.idxA len sz agg x i) = idxAF len sz agg (x.ev e) (i.ev e) := nr rfl
def lenF (x : IV) : Option IV := (ilen x).map fun (n : Nat) => IV.int .i64 (n : Int)
@[go_sem] theorem fe_len (x : CX) : feval e h (.len x) = lenF (x.ev e) := nr rfl
@[go_sem] theorem lenF_slice (l i n : Nat) : lenF (.slice l i n) = some (.int .i64 n) := nr rfl
@[go_sem] theorem lenF_e (z : Bool) : lenF (.eslice z) = some (.int .i64 0) := nr rfl
@[go_sem] theorem lenF_nil : lenF .nilslice = some (.int .i64 0) := nr rfl
def lenSF (x : IV) : Option IV := match x with | .str s => some (.int .i64 s.length) | _ => none
@[go_sem] theorem fe_lenS (x : CX) : feval e h (.lenS x) = lenSF (x.ev e) := nr rfl
@[go_sem] theorem lenSF_str (s : List UInt8) : lenSF (.str s) = some (.int .i64 s.length) := nr rfl
def mmF (max : Bool) (x y : IV) : Option IV := match x, y with | .int k a, .int _ b => some (.int k (if max then (if b > a then b else a) else (if b < a then b else a))) | _, _ => none
@[go_sem] theorem fe_mm (m : Bool) (x y : CX) : feval e h (.mm m x y) = mmF m (x.ev e) (y.ev e) := nr rfl
@[go_sem] theorem mmF_max (k j : IntKind) (a b : Int) : mmF true (.int k a) (.int j b) = some (.int k (max a b)) := by
  simp only [mmF, if_true]; congr 2; split <;> omega
@[go_sem] theorem mmF_min (k j : IntKind) (a b : Int) : mmF false (.int k a) (.int j b) = some (.int k (min a b)) := by
  simp only [mmF, Bool.false_eq_true, if_false]; congr 2; split <;> omega
def boundF (len : Nat) (x : Option IV) (d : Nat) : Option Nat := match x with
  | none => some d
  | some x => match x with
    | .int _ n => if 0 ≤ n ∧ n ≤ len then some n.toNat else none
    | _ => none
@[go_sem] theorem boundF_none (len d : Nat) : boundF len none d = some d := nr rfl
theorem boundF_of {len d : Nat} {k : IntKind} {n : Int} (h0 : 0 ≤ n) (h1 : n ≤ len) : boundF len (some (.int k n)) d = some n.toNat := if_pos ⟨h0, h1⟩
theorem obound_eq (len : Nat) (x : Option CX) (d : Nat) : obound len x e d = boundF len (x.map (CX.ev e)) d := by cases x <;> rfl
def slcSF (x : IV) (lo hi : Option IV) : Option IV := match x with
  | .str s => match boundF s.length hi s.length with
    | some b => match boundF b lo 0 with
      | some a => some (.str ((s.take b).drop a))
      | none => none
    | none => none
  | _ => none
@[go_sem] theorem fe_slcS (x : CX) (lo hi : Option CX) : feval e h (.slcS x lo hi) = slcSF (x.ev e) (lo.map (CX.ev e)) (hi.map (CX.ev e)) := by
  simp only [feval, slcSF, obound_eq]; rfl
theorem slcSF_of {s : List UInt8} {lo hi : Option IV} {a b : Nat} (hb : boundF s.length hi s.length = some b) (ha : boundF b lo 0 = some a) : slcSF (.str s) lo hi = some (.str ((s.take b).drop a)) := by
  simp only [slcSF, hb, ha]
def slcF (h : IH) (sz : Nat) (x : IV) (lo hi : Option IV) : Option IV := match ilen x with
  | some n => match boundF n hi n with
    | some b => match boundF b lo 0 with
      | some a => islc h sz x a b none
      | none => none
    | none => none
  | none => none
@[go_sem] theorem fe_slc (sz : Nat) (x : CX) (lo hi : Option CX) : feval e h (.slc sz x lo hi none) = slcF h sz (x.ev e) (lo.map (CX.ev e)) (hi.map (CX.ev e)) := by
  simp only [feval, slcF, obound_eq]; rfl
theorem slcF_of {sz n a b : Nat} {x : IV} {lo hi : Option IV} (hn : ilen x = some n) (hb : boundF n hi n = some b) (ha : boundF b lo 0 = some a) : slcF h sz x lo hi = islc h sz x a b none := by
  simp only [slcF, hn, hb, ha]
def slc3F (h : IH) (sz : Nat) (x : IV) (lo hi : Option IV) (mx : IV) : Option IV := match ilen x with
  | some n => match boundF n (some mx) n with
    | some m => match boundF m hi n with
      | some b => match boundF b lo 0 with
        | some a => if hi.isSome then islc h sz x a b (some m) else none
        | none => none
      | none => none
    | none => none
  | none => none
@[go_sem] theorem fe_slc3 (sz : Nat) (x mx : CX) (lo hi : Option CX) : feval e h (.slc sz x lo hi (some mx)) = slc3F h sz (x.ev e) (lo.map (CX.ev e)) (hi.map (CX.ev e)) (mx.ev e) := by
  simp only [feval, slc3F, obound_eq, Option.map_some, Option.isSome_map]; rfl
@[go_sem] theorem islc_nil (sz : Nat) : islc h sz .nilslice 0 0 none = some .nilslice := nr rfl
@[go_sem] theorem islc_e (sz : Nat) (z : Bool) : islc h sz (.eslice z) 0 0 none = some (.eslice z) := by simp [islc]
theorem islc_some {sz l i n a b : Nat} (hab : a < b) (hb : b ≤ n) (hs : h.size l = some sz) : islc h sz (.slice l i n) a b none = some (.slice l (i + a) (b - a)) := by
  simp [islc, Nat.le_of_lt hab, hb, hs, Nat.ne_of_gt hab]
theorem islc_none {sz l i n a : Nat} (ha : a ≠ 0) (hb : a ≤ n) (hs : h.size l = some sz) : islc h sz (.slice l i n) a a none = some (.eslice false) := by
  simp [islc, hb, hs, ha]
theorem islc_zero {sz l i n : Nat} (hs : h.size l = some sz) : islc h sz (.slice l i n) 0 0 none = some (.slice l i 0) := by
  simp [islc, hs]
@[go_sem] theorem fe_mkif (t : Nat) (x : CX) : feval e h (.mkif t x) = some (.iface t (x.ev e)) := nr rfl
@[go_sem] theorem fe_mkf (f : Nat) (a c : List CX) : feval e h (.mkf f a c) = some (.func f (a.map (CX.ev e)) (c.map (CX.ev e))) := nr rfl
end
section
variable (k : IntKind) (a b : Int) (s t : List UInt8)
@[go_sem] theorem ib_add : ibin .add (.int k a) (.int k b) = some (.int k (wr k (a + b))) := if_pos rfl
@[go_sem] theorem ib_sub : ibin .sub (.int k a) (.int k b) = some (.int k (wr k (a - b))) := if_pos rfl
@[go_sem] theorem ib_mul : ibin .mul (.int k a) (.int k b) = some (.int k (wr k (a * b))) := if_pos rfl
theorem ib_rem (hb : b ≠ 0) : ibin .rem (.int k a) (.int k b) = some (.int k (a.tmod b)) := (if_pos rfl).trans (if_neg hb)
@[go_sem] theorem ib_and : ibin .and (.int k a) (.int k b) = some (.int k (bits .and k a b)) := if_pos rfl
@[go_sem] theorem ib_or : ibin .or (.int k a) (.int k b) = some (.int k (bits .or k a b)) := if_pos rfl
@[go_sem] theorem ib_xor : ibin .xor (.int k a) (.int k b) = some (.int k (bits .xor k a b)) := if_pos rfl
@[go_sem] theorem ib_andNot : ibin .andNot (.int k a) (.int k b) = some (.int k (bits .andNot k a b)) := if_pos rfl
@[go_sem] theorem ib_eql : ibin .eql (.int k a) (.int k b) = some (.bool (decide (a = b))) := if_pos rfl
@[go_sem] theorem ib_neq : ibin .neq (.int k a) (.int k b) = some (.bool (!decide (a = b))) := if_pos rfl
@[go_sem] theorem ib_lss : ibin .lss (.int k a) (.int k b) = some (.bool (decide (a < b))) := if_pos rfl
@[go_sem] theorem ib_leq : ibin .leq (.int k a) (.int k b) = some (.bool (decide (a ≤ b))) := if_pos rfl
@[go_sem] theorem ib_gtr : ibin .gtr (.int k a) (.int k b) = some (.bool (decide (b < a))) := if_pos rfl
@[go_sem] theorem ib_geq : ibin .geq (.int k a) (.int k b) = some (.bool (decide (b ≤ a))) := if_pos rfl
theorem ib_shl (j : IntKind) (hb : ¬ b < 0) : ibin .shl (.int k a) (.int j b) = some (.int k (wr k (a * 2 ^ (min b.toNat k.bits)))) := if_neg hb
theorem ib_shr (j : IntKind) (hb : ¬ b < 0) : ibin .shr (.int k a) (.int j b) = some (.int k (a.fdiv (2 ^ (min b.toNat k.bits)))) := if_neg hb
@[go_sem] theorem ibs_eql : ibin .eql (.str s) (.str t) = some (.bool (decide (s = t))) := nr rfl
@[go_sem] theorem ibs_neq : ibin .neq (.str s) (.str t) = some (.bool (!decide (s = t))) := nr rfl
@[go_sem] theorem ibs_lss : ibin .lss (.str s) (.str t) = some (.bool (bless s t)) := nr rfl
@[go_sem] theorem ibs_leq : ibin .leq (.str s) (.str t) = some (.bool (bless s t || decide (s = t))) := nr rfl
@[go_sem] theorem ibs_gtr : ibin .gtr (.str s) (.str t) = some (.bool (!(bless s t || decide (s = t)))) := nr rfl
@[go_sem] theorem ibs_geq : ibin .geq (.str s) (.str t) = some (.bool (!bless s t)) := nr rfl
end


section
variable (h : IH) (o : IObj) (l : Nat)
@[go_sem] theorem push_n : (h.push o).n = h.n + 1 := nr rfl
@[go_sem] theorem set_n : (h.set l o).n = h.n := nr rfl
@[go_sem] theorem push_new : (h.push o).obj h.n = o := by simp [IH.push]
theorem push_old (hl : l < h.n) : (h.push o).obj l = h.obj l := by simp only [IH.push]; rw [if_neg (by omega)]
theorem push_at (m : Nat) (hm : m = h.n) : (h.push o).obj m = o := by subst hm; exact push_new h o
@[go_sem] theorem set_here : (h.set l o).obj l = o := by simp [IH.set]
theorem set_there (m : Nat) (hm : m ≠ l) : (h.set l o).obj m = h.obj m := by simp [IH.set, hm]
def cellO (o : IObj) (i k : Nat) : Option IV := match o with | .rows rs _ _ _ => (rs[i]?).bind (·[k]?) | _ => none
@[go_sem] theorem cell_eq (i k : Nat) : h.cell l i k = cellO (h.obj l) i k := by unfold IH.cell IH.row cellO; cases h.obj l <;> rfl
@[go_sem] theorem cellO_rows (rs : List (List IV)) (e sz : Nat) (ro : Bool) (i k : Nat) : cellO (.rows rs e sz ro) i k = (rs[i]?).bind (·[k]?) := nr rfl
def rowO (o : IObj) (i : Nat) : Option (List IV) := match o with | .rows rs _ _ _ => rs[i]? | _ => none
@[go_sem] theorem row_eq (i : Nat) : h.row l i = rowO (h.obj l) i := by unfold IH.row rowO; cases h.obj l <;> rfl
@[go_sem] theorem rowO_rows (rs : List (List IV)) (e sz : Nat) (ro : Bool) (i : Nat) : rowO (.rows rs e sz ro) i = rs[i]? := nr rfl
def sizeO (o : IObj) : Option Nat := match o with | .rows _ _ sz _ => some sz | _ => none
@[go_sem] theorem size_eq : h.size l = sizeO (h.obj l) := by unfold IH.size sizeO; cases h.obj l <;> rfl
@[go_sem] theorem sizeO_rows (rs : List (List IV)) (e sz : Nat) (ro : Bool) : sizeO (.rows rs e sz ro) = some sz := nr rfl
@[go_sem] theorem b2sO_rows (rs : List (List IV)) (e i n : Nat) (ro : Bool) : b2sO (.rows rs e 1 ro) i n = if i + n ≤ rs.length then (bytesOf ((rs.drop i).take n)).map .str else none := by simp [b2sO]
end
structure Ext (h h' : IH) : Prop where
  le : h.n ≤ h'.n
  obj : ∀ l, l < h.n → h'.obj l = h.obj l
theorem Ext.refl (h : IH) : Ext h h := ⟨Nat.le_refl _, fun _ _ => rfl⟩
theorem Ext.trans {a b c : IH} (h1 : Ext a b) (h2 : Ext b c) : Ext a c := ⟨Nat.le_trans h1.le h2.le, fun l hl => (h2.obj l (Nat.lt_of_lt_of_le hl h1.le)).trans (h1.obj l hl)⟩
theorem Ext.push {a b : IH} (h1 : Ext a b) (o : IObj) : Ext a (b.push o) := ⟨Nat.le_succ_of_le h1.le, fun l hl => (push_old b o l (Nat.lt_of_lt_of_le hl h1.le)).trans (h1.obj l hl)⟩
theorem Ext.set {a b : IH} (h1 : Ext a b) (l : Nat) (hl : a.n ≤ l) (o : IObj) : Ext a (b.set l o) := ⟨h1.le, fun m hm => (set_there b o l m (by omega)).trans (h1.obj m hm)⟩

section
variable (P : Program) (h : IH) (e : Env) (K : IV → IH → Prop)
@[go_sem] theorem cells_bool (b : Bool) : (IV.bool b).cells = [.bool b] := nr rfl
@[go_sem] theorem cells_int (k : IntKind) (n : Int) : (IV.int k n).cells = [.int k n] := nr rfl
@[go_sem] theorem cells_str (s : List UInt8) : (IV.str s).cells = [.str s] := nr rfl
@[go_sem] theorem cells_nilptr : (IV.nilptr).cells = [.nilptr] := nr rfl
@[go_sem] theorem cells_ptr (l i k : Nat) : (IV.ptr l i k).cells = [.ptr l i k] := nr rfl
@[go_sem] theorem cells_nilslice : (IV.nilslice).cells = [.nilslice] := nr rfl
@[go_sem] theorem cells_e (z : Bool) : (IV.eslice z).cells = [.eslice z] := nr rfl
@[go_sem] theorem cells_slice (l i k : Nat) : (IV.slice l i k).cells = [.slice l i k] := nr rfl
@[go_sem] theorem cells_nilmap : (IV.nilmap).cells = [.nilmap] := nr rfl
@[go_sem] theorem cells_map (l : Nat) : (IV.map l).cells = [.map l] := nr rfl
@[go_sem] theorem cells_nilfunc : (IV.nilfunc).cells = [.nilfunc] := nr rfl
@[go_sem] theorem cells_func (f : Nat) (a c : List IV) : (IV.func f a c).cells = [.func f a c] := nr rfl
@[go_sem] theorem cells_niliface : (IV.niliface).cells = [.niliface] := nr rfl
@[go_sem] theorem cells_iface (t : Nat) (v : IV) : (IV.iface t v).cells = [.iface t v] := nr rfl
@[go_sem] theorem cells_agg (cs : List IV) : (IV.agg cs).cells = cs := nr rfl
@[go_sem] theorem one_bool (b : Bool) : (IV.bool b).one = true := nr rfl
@[go_sem] theorem one_int (k : IntKind) (n : Int) : (IV.int k n).one = true := nr rfl
@[go_sem] theorem one_str (s : List UInt8) : (IV.str s).one = true := nr rfl
@[go_sem] theorem one_nilptr : (IV.nilptr).one = true := nr rfl
@[go_sem] theorem one_ptr (l i k : Nat) : (IV.ptr l i k).one = true := nr rfl
@[go_sem] theorem one_nilslice : (IV.nilslice).one = true := nr rfl
@[go_sem] theorem one_e (z : Bool) : (IV.eslice z).one = true := nr rfl
@[go_sem] theorem one_slice (l i k : Nat) : (IV.slice l i k).one = true := nr rfl
@[go_sem] theorem one_nilmap : (IV.nilmap).one = true := nr rfl
@[go_sem] theorem one_map (l : Nat) : (IV.map l).one = true := nr rfl
@[go_sem] theorem one_nilfunc : (IV.nilfunc).one = true := nr rfl
@[go_sem] theorem one_func (f : Nat) (a c : List IV) : (IV.func f a c).one = true := nr rfl
@[go_sem] theorem one_niliface : (IV.niliface).one = true := nr rfl
@[go_sem] theorem one_iface (t : Nat) (v : IV) : (IV.iface t v).one = true := nr rfl

theorem act_zero (el sz : Nat) (cs : List IV) : act P h e K (.zero el sz cs) = K (.ptr h.n 0 0) (h.push (.rows [cs] el sz false)) := nr rfl
def boxA (cs : List IV) (el sz : Nat) (h : IH) [K : HoldK] : Prop := cs.length = sz ∧ cs.all IV.one = true ∧ K.k (.ptr h.n 0 0) (h.push (.rows [cs] el sz false))
@[go_sem ↓] theorem act_box (el sz : Nat) (x : CX) : act P h e K (.box el sz x) = @boxA (x.ev e).cells el sz h ⟨K⟩ := nr rfl
theorem boxA_of {cs : List IV} {el sz : Nat} {h : IH} {K : HoldK} (h1 : cs.length = sz) (h2 : ∀ v ∈ cs, v.one = true) (hk : K.k (.ptr h.n 0 0) (h.push (.rows [cs] el sz false))) : @boxA cs el sz h K := ⟨h1, List.all_eq_true.2 h2, hk⟩
theorem boxA_1 (v : IV) (hv : v.one = true) (el : Nat) (K : HoldK) : @boxA [v] el 1 h K = K.k (.ptr h.n 0 0) (h.push (.rows [[v]] el 1 false)) := by simp [boxA, hv]
theorem boxA_2 (v1 v2 : IV) (h1 : v1.one = true) (h2 : v2.one = true) (el : Nat) (K : HoldK) : @boxA [v1, v2] el 2 h K = K.k (.ptr h.n 0 0) (h.push (.rows [[v1, v2]] el 2 false)) := by simp [boxA, h1, h2]
theorem boxA_3 (v1 v2 v3 : IV) (h1 : v1.one = true) (h2 : v2.one = true) (h3 : v3.one = true) (el : Nat) (K : HoldK) : @boxA [v1, v2, v3] el 3 h K = K.k (.ptr h.n 0 0) (h.push (.rows [[v1, v2, v3]] el 3 false)) := by simp [boxA, h1, h2, h3]
def bslA (el sz : Nat) (zero : List IV) (len : Nat) (parts : List (Nat × IV)) (h : IH) [K : HoldK] : Prop :=
  if len = 0 then K.k (.eslice true) h else
    match layR (List.replicate len zero) sz parts with
    | some rows => (rows.all fun r => r.all IV.one) = true ∧ K.k (.slice h.n 0 len) (h.push (.rows rows el sz false))
    | none => False
@[go_sem ↓] theorem act_bslice (el sz : Nat) (z : List IV) (len : Nat) (ps : List (Nat × CX)) : act P h e K (.bslice el sz z len ps) = @bslA el sz z len (ps.map fun p => (p.1, p.2.ev e)) h ⟨K⟩ := nr rfl
@[go_sem] theorem bslA_0 (el sz : Nat) (z : List IV) (ps : List (Nat × IV)) (K : HoldK) : @bslA el sz z 0 ps h K = K.k (.eslice true) h := nr rfl
theorem bslA_1 (el sz : Nat) (z : List IV) (v : IV) (K : HoldK) : @bslA el sz z 1 [(0, v)] h K = (v.cells.length = sz ∧ v.cells.all IV.one = true ∧ K.k (.slice h.n 0 1) (h.push (.rows [v.cells] el sz false))) := by
  unfold bslA
  by_cases hv : v.cells.length = sz <;> simp [layR, hv]
def stO (n i k : Nat) (cs : List IV) (l : Nat) (o : IObj) (h : IH) [K : HoldK] : Prop :=
  match o with
  | .rows rs el sz false => match rs[i]? with
    | some row => cs.length = n ∧ k + n ≤ row.length ∧ cs.all IV.one = true ∧ K.k (.tuple []) (h.set l (.rows (rs.set i (wrt row k cs)) el sz false))
    | none => False
  | _ => False
def stA (n : Nat) (a : IV) (cs : List IV) (h : IH) [K : HoldK] : Prop := match a with | .ptr l i k => stO n i k cs l (h.obj l) h | _ => False
@[go_sem ↓] theorem act_st (n : Nat) (a x : CX) : act P h e K (.st n a x) = @stA n (a.ev e) (x.ev e).cells h ⟨K⟩ := nr rfl
@[go_sem] theorem stA_ptr (n l i k : Nat) (cs : List IV) (K : HoldK) : @stA n (.ptr l i k) cs h K = @stO n i k cs l (h.obj l) h K := nr rfl
theorem stO_of {n i k l : Nat} {cs row : List IV} {rs : List (List IV)} {el sz : Nat} {h : IH} {K : HoldK} (hr : rs[i]? = some row) (h1 : cs.length = n) (h2 : k + n ≤ row.length) (h3 : ∀ v ∈ cs, v.one = true)
    (hk : K.k (.tuple []) (h.set l (.rows (rs.set i (wrt row k cs)) el sz false))) : @stO n i k cs l (.rows rs el sz false) h K := by
  unfold stO
  simp only [hr]
  exact ⟨h1, h2, List.all_eq_true.2 h3, hk⟩
theorem stO_box {k l : Nat} {c : IV} {row : List IV} {el sz : Nat} {h : IH} {K : HoldK} (h2 : k < row.length) (h3 : c.one = true)
    (hk : K.k (.tuple []) (h.set l (.rows [row.set k c] el sz false))) : @stO 1 0 k [c] l (.rows [row] el sz false) h K :=
  stO_of (row := row) rfl rfl h2 (by simpa using h3) (by simpa [wrt] using hk)
def callA (P : Program) (f : Nat) (args : List IV) (h : IH) [K : HoldK] : Prop := ICalls P f args h K.k
@[go_sem ↓] theorem act_call (f : Nat) (as0 : List CX) : act P h e K (.call f as0) = @callA P f (as0.map (CX.ev e)) h ⟨K⟩ := nr rfl
theorem callA_of {P : Program} {f : Nat} {args : List IV} {h : IH} {K : HoldK} {Q : IV → IH → Prop} (hc : ICalls P f args h Q) (hk : ∀ v h', Q v h' → K.k v h') : @callA P f args h K := hc.mono hk
def callvA (P : Program) (f : IV) (args : List IV) (h : IH) [K : HoldK] : Prop := match f with | .func g first caps => ICalls P g (first ++ args ++ caps) h K.k | _ => False
@[go_sem ↓] theorem act_callv (f : CX) (as0 : List CX) : act P h e K (.callv f as0) = @callvA P (f.ev e) (as0.map (CX.ev e)) h ⟨K⟩ := nr rfl
@[go_sem] theorem callvA_func (g : Nat) (first caps args : List IV) (K : HoldK) : @callvA P (.func g first caps) args h K = @callA P g (first ++ args ++ caps) h K := nr rfl
def srcO (o : IObj) (sz i n : Nat) : Option (List (List IV)) := match o with | .rows rs _ sz' _ => if sz' = sz ∧ i + n ≤ rs.length then some ((rs.drop i).take n) else none | _ => none
@[go_sem] theorem src_nil (sz : Nat) : srcRows h sz .nilslice = some [] := nr rfl
@[go_sem] theorem src_e (sz : Nat) (z : Bool) : srcRows h sz (.eslice z) = some [] := nr rfl
@[go_sem] theorem src_sl (sz l i n : Nat) : srcRows h sz (.slice l i n) = srcO (h.obj l) sz i n := nr rfl
theorem srcO_whole {rs : List (List IV)} {e sz n : Nat} {ro : Bool} (hn : rs.length = n) : srcO (.rows rs e sz ro) sz 0 n = some rs := by simp [srcO, ← hn]
@[go_sem] theorem srcO_1 (r : List IV) (e sz : Nat) (ro : Bool) : srcO (.rows [r] e sz ro) sz 0 1 = some [r] := by simp [srcO]
def appA (h : IH) (el sz b : Nat) (x : IV) (ys : Option (List (List IV))) [K : HoldK] : Prop := match ys with | some ys => appK h el sz b x ys K.k | none => False
@[go_sem ↓] theorem act_app (el sz b : Nat) (x y : CX) : act P h e K (.app el sz b x y) = @appA h el sz b (x.ev e) (srcRows h sz (y.ev e)) ⟨K⟩ := by
  simp only [act, appA]; rfl
def appSA (h : IH) (el b : Nat) (x y : IV) [K : HoldK] : Prop := match y with | .str s => appK h el 1 b x (strRows s) K.k | _ => False
@[go_sem ↓] theorem act_appS (el b : Nat) (x y : CX) : act P h e K (.appS el b x y) = @appSA h el b (x.ev e) (y.ev e) ⟨K⟩ := nr rfl
@[go_sem] theorem appSA_str (el b : Nat) (x : IV) (s : List UInt8) (K : HoldK) : @appSA h el b x (.str s) K = @appA h el 1 b x (some (strRows s)) K := nr rfl
theorem appA_none {h : IH} {el sz b : Nat} {x : IV} {n : Nat} {K : HoldK} (hx : ilen x = some n) (hk : K.k x h) : @appA h el sz b x (some []) K := by
  unfold appA appK
  cases x <;> simp [ilen] at hx <;> simpa using hk
theorem appA_new {h : IH} {el sz b : Nat} {ys : List (List IV)} {K : HoldK} (hy : ys ≠ []) (hb : ys.length * b ≤ 140737488355328) (hk : K.k (.slice h.n 0 ys.length) (h.push (.rows ys el sz false))) : @appA h el sz b .nilslice (some ys) K := by
  unfold appA appK
  simp only [if_neg hy]
  exact ⟨hb, hk⟩
theorem appA_newe {h : IH} {el sz b : Nat} {ys : List (List IV)} {K : HoldK} (hy : ys ≠ []) (hb : ys.length * b ≤ 140737488355328) (hk : K.k (.slice h.n 0 ys.length) (h.push (.rows ys el sz false))) : @appA h el sz b (.eslice true) (some ys) K := by
  unfold appA appK
  simp only [if_neg hy]
  exact ⟨trivial, hb, hk⟩
theorem appA_own {h : IH} {el sz b l n : Nat} {rs ys : List (List IV)} {K : HoldK} (ho : h.obj l = .rows rs el sz false) (hn : rs.length = n) (hy : ys ≠ []) (hb : (n + ys.length) * b ≤ 140737488355328)
    (hk : K.k (.slice h.n 0 (n + ys.length)) ((h.set l .dead).push (.rows (rs ++ ys) el sz false))) : @appA h el sz b (.slice l 0 n) (some ys) K := by
  unfold appA appK
  simp only [if_neg hy, ho]
  exact ⟨trivial, trivial, trivial, hn, hb, hk⟩
def copyA (h : IH) (sz : Nat) (x : IV) (ys : Option (List (List IV))) [K : HoldK] : Prop := match ys with | some ys => copyK h sz x ys K.k | none => False
@[go_sem ↓] theorem act_copy (sz : Nat) (x y : CX) : act P h e K (.copy sz x y) = @copyA h sz (x.ev e) (srcRows h sz (y.ev e)) ⟨K⟩ := by
  simp only [act, copyA]; rfl
def copySA (h : IH) (x y : IV) [K : HoldK] : Prop := match y with | .str s => copyK h 1 x (strRows s) K.k | _ => False
@[go_sem ↓] theorem act_copyS (x y : CX) : act P h e K (.copyS x y) = @copySA h (x.ev e) (y.ev e) ⟨K⟩ := nr rfl
def mksA (el sz b : Nat) (z : List IV) (l c : IV) (h : IH) [K : HoldK] : Prop := match l, c with
  | .int _ l, .int _ c => 0 ≤ l ∧ l ≤ c ∧ (b : Int) * c ≤ 140737488355328 ∧ c ≤ 9223372036854775807 ∧
      (if c = 0 then K.k (.eslice true) h else K.k (.slice h.n 0 l.toNat) (h.push (.rows (List.replicate l.toNat z) el sz false)))
  | _, _ => False
@[go_sem ↓] theorem act_mks (el sz b : Nat) (z : List IV) (l c : CX) : act P h e K (.mks el sz b z l c) = @mksA el sz b z (l.ev e) (c.ev e) h ⟨K⟩ := nr rfl
theorem mksA_of {el sz b : Nat} {z : List IV} {k j : IntKind} {n : Nat} {h : IH} {K : HoldK} (h0 : n ≠ 0) (hb : b * n ≤ 140737488355328) (h63 : n ≤ 9223372036854775807) (hk : K.k (.slice h.n 0 n) (h.push (.rows (List.replicate n z) el sz false))) :
    @mksA el sz b z (.int k n) (.int j n) h K := by
  refine ⟨by omega, by omega, by rw [← Int.natCast_mul]; omega, by omega, ?_⟩
  rw [if_neg (by omega)]
  simpa using hk
theorem mksA_0 {el sz b : Nat} {z : List IV} {k j : IntKind} {h : IH} {K : HoldK} (hk : K.k (.eslice true) h) : @mksA el sz b z (.int k 0) (.int j 0) h K :=
  ⟨by omega, by omega, by omega, by omega, by rw [if_pos rfl]; exact hk⟩
def s2bA (el : Nat) (x : IV) (h : IH) [K : HoldK] : Prop := match x with
  | .str s => if s = [] then K.k (.eslice false) h else s.length ≤ 9223372036854775807 ∧ K.k (.slice h.n 0 s.length) (h.push (.rows (strRows s) el 1 false))
  | _ => False
@[go_sem ↓] theorem act_s2b (el : Nat) (x : CX) : act P h e K (.s2b el x) = @s2bA el (x.ev e) h ⟨K⟩ := nr rfl
end

section
variable (Q : IV → IH → Prop) (e : Env) (h : IH) (k k1 k2 k3 : FK)
def got2 (o1 o2 : Option IV) (h : IH) [K : HoldK] : Prop := match o1, o2 with | some v1, some v2 => K.k (.tuple [v1, v2]) h | _, _ => False
def got3 (o1 o2 o3 : Option IV) (h : IH) [K : HoldK] : Prop := match o1, o2, o3 with | some v1, some v2, some v3 => K.k (.tuple [v1, v2, v3]) h | _, _, _ => False
@[go_sem] theorem got2_some (v1 v2 : IV) (K : HoldK) : @got2 (some v1) (some v2) h K = K.k (.tuple [v1, v2]) h := nr rfl
@[go_sem] theorem got3_some (v1 v2 v3 : IV) (K : HoldK) : @got3 (some v1) (some v2) (some v3) h K = K.k (.tuple [v1, v2, v3]) h := nr rfl
@[go_sem ↓] theorem ret_0 : retK [] Q .ret e h = Q (.tuple []) h := nr rfl
@[go_sem ↓] theorem end_0 : retK [] Q .normal e h = Q (.tuple []) h := nr rfl
@[go_sem ↓] theorem ret_1 : retK [k] Q .ret e h = @got (feval e h k) h ⟨Q⟩ := by
  simp only [retK, resVs, got]; cases feval e h k <;> rfl
@[go_sem ↓] theorem end_1 : retK [k] Q .normal e h = @got (feval e h k) h ⟨Q⟩ := by
  simp only [retK, resVs, got]; cases feval e h k <;> rfl
@[go_sem ↓] theorem ret_2 : retK [k1, k2] Q .ret e h = @got2 (feval e h k1) (feval e h k2) h ⟨Q⟩ := by
  simp only [retK, resVs, got2]; cases feval e h k1 <;> cases feval e h k2 <;> rfl
@[go_sem ↓] theorem end_2 : retK [k1, k2] Q .normal e h = @got2 (feval e h k1) (feval e h k2) h ⟨Q⟩ := by
  simp only [retK, resVs, got2]; cases feval e h k1 <;> cases feval e h k2 <;> rfl
@[go_sem ↓] theorem ret_3 : retK [k1, k2, k3] Q .ret e h = @got3 (feval e h k1) (feval e h k2) (feval e h k3) h ⟨Q⟩ := by
  simp only [retK, resVs, got3]; cases feval e h k1 <;> cases feval e h k2 <;> cases feval e h k3 <;> rfl
@[go_sem ↓] theorem end_3 : retK [k1, k2, k3] Q .normal e h = @got3 (feval e h k1) (feval e h k2) (feval e h k3) h ⟨Q⟩ := by
  simp only [retK, resVs, got3]; cases feval e h k1 <;> cases feval e h k2 <;> cases feval e h k3 <;> rfl
@[go_sem] theorem env0_0 (a : IV) (l : List IV) : env0 (a :: l) 0 = a := nr rfl
@[go_sem] theorem env0_s (a : IV) (l : List IV) (n : Nat) : env0 (a :: l) (n + 1) = env0 l n := nr rfl
end

section
variable (P : Program) (ops : List COp) (bar : List Bool) (anc : List (List Nat)) (K : Env → IH → Prop) (e : Env) (h : IH)
@[go_sem ↓] theorem vcD_nil (done : List Nat) : vcD P ops bar anc done [] K e h = K e h := nr rfl
theorem vcD_cons (done : List Nat) (i : Nat) (r : List Nat) : vcD P ops bar anc done (i :: r) K e h = if bar.getD i true then vcOp P (ops.getD i default) (fun e' h' => againAll ops anc i e' h' done ∧ vcD P ops bar anc (i :: done) r K e' h') e h
    else vcOp P (ops.getD i default) (vcD P ops bar anc (i :: done) r K) e h := nr rfl
end

end Go.IW

namespace Go.IW
open Go.RowKit

theorem wr64 (n : Int) (h : -9223372036854775808 ≤ n ∧ n ≤ 9223372036854775807) : wr .i64 n = n := by
  unfold wr; rw [IntKind.wrap_i64]; omega
theorem wr64_succ (k : Nat) (h : k < 4611686018427387904) : IV.int .i64 (wr .i64 ((k : Int) + 1)) = .int .i64 ((k + 1 : Nat) : Int) := by
  rw [wr64 _ (by omega)]; rfl

theorem push_obj (h : IH) (o : IObj) (l : Nat) : (h.push o).obj l = if l = h.n then o else h.obj l := rfl
theorem set_obj (h : IH) (m : Nat) (o : IObj) (l : Nat) : (h.set m o).obj l = if l = m then o else h.obj l := rfl
theorem set_push {h : IH} {l : Nat} (hl : (l = h.n) = True) (a o : IObj) : (h.push a).set l o = h.push o := by
  have hl := of_eq_true hl
  subst hl
  unfold IH.set IH.push
  simp only [IH.mk.injEq, true_and]
  funext l
  split <;> rfl
theorem set_push_ne {h : IH} {l : Nat} (hl : (l = h.n) = False) (a o : IObj) : (h.push a).set l o = (h.set l o).push a := by
  unfold IH.set IH.push
  simp only [IH.mk.injEq, true_and]
  funext m
  by_cases h1 : m = l
  · subst h1; simp [hl]
  · simp [h1]
theorem set_set (h : IH) (l : Nat) (a o : IObj) : (h.set l a).set l o = h.set l o := by
  unfold IH.set
  simp only [IH.mk.injEq, true_and]
  funext m
  split <;> rfl

theorem one_eslice (z : Bool) : (IV.eslice z).one = true := nr rfl
theorem stO_1s {k l : Nat} {c : IV} {row : List IV} {el sz : Nat} {h : IH} {K : HoldK} (h2 : k < row.length) (h3 : c.one = true) :
    @stO 1 0 k [c] l (.rows [row] el sz false) h K = K.k (.tuple []) (h.set l (.rows [row.set k c] el sz false)) := by
  unfold stO
  simp only [List.getElem?_cons_zero, List.length_singleton, List.all_cons, List.all_nil, h3, Bool.and_true, sz0, true_and, wrt, Nat.succ_le_of_lt h2]
theorem stO_ws {n l : Nat} {cs row : List IV} {el sz : Nat} {h : IH} {K : HoldK} (h0 : cs.length = n) (h1 : row.length = n) (h3 : cs.all IV.one = true) :
    @stO n 0 0 cs l (.rows [row] el sz false) h K = K.k (.tuple []) (h.set l (.rows [cs] el sz false)) := by
  have hw : wrt row 0 cs = cs := by
    rw [wrt_eq _ _ _ (by omega), tz0, na0, List.drop_eq_nil_of_le (by omega), List.append_nil]
  unfold stO
  simp only [List.getElem?_cons_zero, h0, h3, sz0, true_and, hw, Nat.zero_add, h1, Nat.le_refl]
theorem boxA_s {cs : List IV} {el sz : Nat} {h : IH} {K : HoldK} (h0 : cs.length = sz) (h1 : cs.all IV.one = true) : @boxA cs el sz h K = K.k (.ptr h.n 0 0) (h.push (.rows [cs] el sz false)) := by
  unfold boxA
  simp only [h0, h1, true_and]

section
variable {P : Program} {ops : List COp} {bar : List Bool} {anc : List (List Nat)} {done r : List Nat} {i j : Nat} {K : Env → IH → Prop} {e : Env} {h : IH}
@[go_sem ↓] theorem vcD_free (hb : bar.getD i true = false) : vcD P ops bar anc done (i :: r) K e h = vcOp P (ops.getD i default) (vcD P ops bar anc (i :: done) r K) e h := by
  rw [vcD_cons, hb]; rfl
@[go_sem ↓] theorem vcD_bar (hb : bar.getD i true = true) : vcD P ops bar anc done (i :: r) K e h = vcOp P (ops.getD i default) (fun e' h' => againAll ops anc i e' h' done ∧ vcD P ops bar anc (i :: done) r K e' h') e h := by
  rw [vcD_cons, hb]; rfl
@[go_sem ↓] theorem vcT_fin : vcT P ops anc done .fin K e h = K e h := nr rfl
@[go_sem ↓] theorem vcT_stop : vcT P ops anc done .stop K e h = True := nr rfl
@[go_sem ↓] theorem vcT_fl (t : DT) : vcT P ops anc done (.fl i t) K e h = vcOp P (ops.getD i default) (vcT P ops anc (i :: done) t K) e h := nr rfl
@[go_sem ↓] theorem vcT_one (t : DT) : vcT P ops anc done (.br i t .stop) K e h = vcOp P (ops.getD i default) (fun e' h' => againAll ops anc i e' h' done ∧ vcT P ops anc (i :: done) t K e' h') e h := by
  simp only [vcT, and_true]
class HoldO where
  p : Prop
  q : Prop
def either [A : HoldO] : Prop := A.p ∧ A.q
theorem either_of {A : HoldO} (h1 : A.p) (h2 : A.q) : @either A := ⟨h1, h2⟩
@[go_sem ↓] theorem vcT_br (t t2 : DT) (j : Nat) (t3 : DT) : vcT P ops anc done (.br i t (.br j t2 t3)) K e h = @either ⟨vcOp P (ops.getD i default) (fun e' h' => againAll ops anc i e' h' done ∧ vcT P ops anc (i :: done) t K e' h') e h, vcT P ops anc done (.br j t2 t3) K e h⟩ := nr rfl
@[go_sem ↓] theorem againAll_nil : againAll ops anc i e h [] = True := nr rfl
@[go_sem ↓] theorem againAll_anc (hc : (anc.getD i []).contains j = true) : againAll ops anc i e h (j :: r) = againAll ops anc i e h r := by
  simp only [againAll, hc, true_or, true_and]
@[go_sem ↓] theorem againAll_no (hc : (anc.getD i []).contains j = false) : againAll ops anc i e h (j :: r) = (again (ops.getD j default) e h ∧ againAll ops anc i e h r) := by
  simp only [againAll, hc, Bool.false_eq_true, false_or]
@[go_sem] theorem again_x (d : Option Nat) (g : Option (Nat × Bool)) (x : EK) : again ⟨d, g, .x x⟩ e h = True := nr rfl
@[go_sem] theorem again_f (d : Nat) (k : FK) : again ⟨some d, none, .f k⟩ e h = (feval e h k = some (e d)) := nr rfl
end

structure SlR (h : IH) (sz : Nat) (v : IV) (rs : List (List IV)) : Prop where
  src : srcRows h sz v = some rs
  len : ilen v = some rs.length
  lt : ∀ l i n, v = .slice l i n → l < h.n

theorem SlR.one {h : IH} {sz : Nat} {v : IV} {rs : List (List IV)} (hs : SlR h sz v rs) : v.one = true := by
  have := hs.len
  cases v <;> simp [ilen] at this <;> rfl
theorem SlR.cells {h : IH} {sz : Nat} {v : IV} {rs : List (List IV)} (hs : SlR h sz v rs) : v.cells = [v] := by
  have := hs.len
  cases v <;> simp [ilen] at this <;> rfl
theorem SlR.lenF {h : IH} {sz : Nat} {v : IV} {rs : List (List IV)} (hs : SlR h sz v rs) : lenF v = some (.int .i64 rs.length) := by
  unfold IW.lenF; rw [hs.len]; rfl
theorem SlR.nil (h : IH) (sz : Nat) : SlR h sz .nilslice [] := ⟨rfl, rfl, fun _ _ _ h => by cases h⟩
theorem SlR.empty (h : IH) (sz : Nat) (z : Bool) : SlR h sz (.eslice z) [] := ⟨rfl, rfl, fun _ _ _ h => by cases h⟩
theorem SlR.whole {h : IH} {l n e sz : Nat} {rs : List (List IV)} {ro : Bool} (ho : h.obj l = .rows rs e sz ro) (hn : rs.length = n) (hl : l < h.n) : SlR h sz (.slice l 0 n) rs := by
  refine ⟨?_, by simp [ilen, hn], fun _ _ _ h => by cases h; exact hl⟩
  rw [src_sl, ho]; exact srcO_whole hn

theorem srcRows_live {h : IH} {sz l i n : Nat} {rs : List (List IV)} (hs : srcRows h sz (.slice l i n) = some rs) : ∃ rs0 e ro, h.obj l = .rows rs0 e sz ro ∧ i + n ≤ rs0.length ∧ rs = (rs0.drop i).take n := by
  simp only [srcRows] at hs
  split at hs
  · rename_i rs0 e sz' ro ho
    split at hs
    · rename_i hc
      obtain ⟨rfl, hc⟩ := hc
      exact ⟨rs0, e, ro, ho, hc, (Option.some.inj hs).symm⟩
    · cases hs
  · cases hs

theorem SlR.ext {h : IH} {sz : Nat} {v : IV} {rs : List (List IV)} (hs : SlR h sz v rs) {h' : IH} (he : Ext h h') : SlR h' sz v rs := by
  refine ⟨?_, hs.len, fun l i n hv => Nat.lt_of_lt_of_le (hs.lt l i n hv) he.le⟩
  have h1 := hs.src
  cases v with
  | slice l i n =>
    have := he.obj l (hs.lt l i n rfl)
    simp only [srcRows, this] at h1 ⊢
    exact h1
  | nilslice => exact h1
  | eslice z => exact h1
  | _ => simp [srcRows] at h1

theorem SlR.at {h : IH} {sz : Nat} {v : IV} {rs : List (List IV)} (hs : SlR h sz v rs) {m : Nat} {row : List IV} (hm : rs[m]? = some row) (k : IntKind) :
    ∃ l j, iadrF h sz v (.int k m) = some (.ptr l j 0) ∧ l < h.n ∧ rowO (h.obj l) j = some row := by
  have hlt : m < rs.length := (List.getElem?_eq_some_iff.1 hm).1
  have h1 := hs.src
  have h2 := hs.len
  cases v with
  | slice l i n =>
    obtain ⟨rs0, e, ro, ho, hc, rfl⟩ := srcRows_live h1
    simp [ilen] at h2
    have hn : m < n := by rw [h2]; simp at hlt ⊢; omega
    refine ⟨l, i + m, ?_, hs.lt _ _ _ rfl, ?_⟩
    · rw [iadrF_of h (by omega) (by omega) (by rw [size_eq, ho]; rfl)]; simp
    · rw [ho, rowO_rows]
      rw [List.getElem?_take, if_pos hn, List.getElem?_drop] at hm
      exact hm
  | nilslice => simp [srcRows] at h1; subst h1; simp at hm
  | eslice z => simp [srcRows] at h1; subst h1; simp at hm
  | _ => simp [srcRows] at h1

theorem cellO_row {o : IObj} {j : Nat} {row : List IV} (hr : rowO o j = some row) (k : Nat) : cellO o j k = row[k]? := by
  cases o with
  | dead => simp [rowO] at hr
  | rows rs e sz ro => simp only [rowO] at hr; simp only [cellO, hr]; try rfl
end Go.IW

namespace Go.IW
open Go.RowKit

abbrev FP := List (Nat × Nat)
abbrev RR (α : Type) := IH → List IV → α → FP → Prop

structure Same (h h' : IH) (fs : FP) : Prop where
  le : h.n ≤ h'.n
  size : ∀ p ∈ fs, sizeO (h'.obj p.1) = sizeO (h.obj p.1)
  row : ∀ p ∈ fs, rowO (h'.obj p.1) p.2 = rowO (h.obj p.1) p.2

theorem Same.refl (h : IH) (fs : FP) : Same h h fs := ⟨Nat.le_refl _, fun _ _ => rfl, fun _ _ => rfl⟩
theorem Same.trans {a b c : IH} {fs : FP} (h1 : Same a b fs) (h2 : Same b c fs) : Same a c fs :=
  ⟨Nat.le_trans h1.le h2.le, fun p hp => (h2.size p hp).trans (h1.size p hp), fun p hp => (h2.row p hp).trans (h1.row p hp)⟩
theorem Same.sub {h h' : IH} {fs gs : FP} (hs : Same h h' fs) (hg : ∀ p ∈ gs, p ∈ fs) : Same h h' gs :=
  ⟨hs.le, fun p hp => hs.size p (hg p hp), fun p hp => hs.row p (hg p hp)⟩
theorem Same.of_ext {h h' : IH} {fs : FP} (he : Ext h h') (hf : ∀ p ∈ fs, p.1 < h.n) : Same h h' fs :=
  ⟨he.le, fun p hp => by rw [he.obj _ (hf p hp)], fun p hp => by rw [he.obj _ (hf p hp)]⟩

structure Locl {α : Type} (sz : Nat) (R : RR α) : Prop where
  same : ∀ {h h' row x fs}, R h row x fs → Same h h' fs → R h' row x fs
  len : ∀ {h row x fs}, R h row x fs → row.length = sz
  one : ∀ {h row x fs}, R h row x fs → ∀ v ∈ row, v.one = true
  lt : ∀ {h row x fs}, R h row x fs → ∀ p ∈ fs, p.1 < h.n

def Sl {α : Type} (R : RR α) (sz : Nat) (h : IH) (v : IV) (xs : List α) (fs : FP) : Prop :=
  (xs = [] ∧ fs = [] ∧ (v = .nilslice ∨ ∃ z, v = .eslice z)) ∨
  ∃ l i, xs ≠ [] ∧ v = .slice l i xs.length ∧ l < h.n ∧ sizeO (h.obj l) = some sz ∧
    ∃ fss : Nat → FP, (∀ j x, xs[j]? = some x → ∃ row, rowO (h.obj l) (i + j) = some row ∧ R h row x (fss j)) ∧
      fs = (List.range xs.length).flatMap fun j => (l, i + j) :: fss j

theorem Sl.one {α : Type} {R : RR α} {sz : Nat} {h : IH} {v : IV} {xs : List α} {fs : FP} (hs : Sl R sz h v xs fs) : v.one = true := by
  rcases hs with ⟨_, _, rfl | ⟨z, rfl⟩⟩ | ⟨l, i, _, rfl, _⟩ <;> rfl
theorem Sl.cells {α : Type} {R : RR α} {sz : Nat} {h : IH} {v : IV} {xs : List α} {fs : FP} (hs : Sl R sz h v xs fs) : v.cells = [v] := by
  rcases hs with ⟨_, _, rfl | ⟨z, rfl⟩⟩ | ⟨l, i, _, rfl, _⟩ <;> rfl
theorem Sl.ilen {α : Type} {R : RR α} {sz : Nat} {h : IH} {v : IV} {xs : List α} {fs : FP} (hs : Sl R sz h v xs fs) : ilen v = some xs.length := by
  rcases hs with ⟨rfl, _, rfl | ⟨z, rfl⟩⟩ | ⟨l, i, _, rfl, _⟩ <;> rfl
theorem Sl.lenF {α : Type} {R : RR α} {sz : Nat} {h : IH} {v : IV} {xs : List α} {fs : FP} (hs : Sl R sz h v xs fs) : lenF v = some (.int .i64 xs.length) := by
  unfold IW.lenF; rw [hs.ilen]; rfl
theorem Sl.nil {α : Type} {R : RR α} {sz : Nat} {h : IH} : Sl R sz h .nilslice [] [] := .inl ⟨rfl, rfl, .inl rfl⟩
theorem Sl.empty {α : Type} {R : RR α} {sz : Nat} {h : IH} (z : Bool) : Sl R sz h (.eslice z) [] [] := .inl ⟨rfl, rfl, .inr ⟨z, rfl⟩⟩

theorem Sl.same {α : Type} {R : RR α} {sz : Nat} (hR : Locl sz R) {h h' : IH} {v : IV} {xs : List α} {fs : FP} (hs : Sl R sz h v xs fs) (he : Same h h' fs) : Sl R sz h' v xs fs := by
  rcases hs with hs | ⟨l, i, h0, rfl, hl, hz, fss, hf, rfl⟩
  · exact .inl hs
  · refine .inr ⟨l, i, h0, rfl, Nat.lt_of_lt_of_le hl he.le, ?_, fss, fun j x hx => ?_, rfl⟩
    · have hpos : 0 < xs.length := List.length_pos_iff.2 h0
      rw [← hz]
      exact he.size (l, i + 0) (List.mem_flatMap.2 ⟨0, by simpa using hpos, by simp⟩)
    · have hj : j < xs.length := (List.getElem?_eq_some_iff.1 hx).1
      obtain ⟨row, hr, hR'⟩ := hf j x hx
      refine ⟨row, ?_, hR.same hR' (he.sub fun p hp => List.mem_flatMap.2 ⟨j, by simpa using hj, by simp [hp]⟩)⟩
      rw [← hr]
      exact he.row (l, i + j) (List.mem_flatMap.2 ⟨j, by simpa using hj, by simp⟩)
theorem Sl.lt {α : Type} {R : RR α} {sz : Nat} (hR : Locl sz R) {h : IH} {v : IV} {xs : List α} {fs : FP} (hs : Sl R sz h v xs fs) : ∀ p ∈ fs, p.1 < h.n := by
  rcases hs with ⟨_, rfl, _⟩ | ⟨l, i, h0, rfl, hl, hz, fss, hf, rfl⟩
  · simp
  · intro p hp
    obtain ⟨j, hj, hp⟩ := List.mem_flatMap.1 hp
    have hj' : j < xs.length := by simpa using hj
    rcases List.mem_cons.1 hp with rfl | hp
    · exact hl
    · obtain ⟨row, hr, hR'⟩ := hf j _ (List.getElem?_eq_getElem hj')
      exact hR.lt hR' p hp

theorem iadrF_nat {h : IH} {sz l i n k : Nat} {q : IntKind} (hk : k < n) (hz : sizeO (h.obj l) = some sz) : iadrF h sz (.slice l i n) (.int q k) = some (.ptr l (i + k) 0) := by
  have := iadrF_of (h := h) (j := i) (k := q) (m := (k : Int)) (n := n) (by omega) (by omega) (by rw [size_eq]; exact hz : h.size l = some sz)
  simpa using this
theorem Sl.at {α : Type} {R : RR α} {sz : Nat} {h : IH} {v : IV} {xs : List α} {fs : FP} (hs : Sl R sz h v xs fs) {m : Nat} {x : α} (hm : xs[m]? = some x) (k : IntKind) :
    ∃ l j row gs, iadrF h sz v (.int k m) = some (.ptr l j 0) ∧ l < h.n ∧ rowO (h.obj l) j = some row ∧ R h row x gs ∧ (∀ p ∈ gs, p ∈ fs) ∧ (l, j) ∈ fs := by
  have hlt : m < xs.length := (List.getElem?_eq_some_iff.1 hm).1
  rcases hs with ⟨rfl, _, _⟩ | ⟨l, i, h0, rfl, hl, hz, fss, hf, rfl⟩
  · simp at hm
  · obtain ⟨row, hr, hR⟩ := hf m x hm
    refine ⟨l, i + m, row, fss m, ?_, hl, hr, hR, fun p hp => List.mem_flatMap.2 ⟨m, by simpa using hlt, by simp [hp]⟩, List.mem_flatMap.2 ⟨m, by simpa using hlt, by simp⟩⟩
    have := iadrF_of (h := h) (j := i) (k := k) (m := (m : Int)) (n := xs.length) (by omega) (by omega) (by rw [size_eq]; exact hz : h.size l = some sz)
    simpa using this


def putO (o : IObj) (i : Nat) (row : List IV) : IObj := match o with | .rows rs e sz ro => .rows (rs.set i row) e sz ro | .dead => .dead
def IH.put (h : IH) (l i : Nat) (row : List IV) : IH := h.set l (putO (h.obj l) i row)

theorem put_n (h : IH) (l i : Nat) (row : List IV) : (h.put l i row).n = h.n := nr rfl
end Go.IW

namespace Go.IW
open Go.RowKit

structure At (h : IH) (p : Nat) (o : IObj) : Prop where
  lt : p < h.n
  eq : h.obj p = o
theorem At.ext {h h' : IH} {p : Nat} {o : IObj} (a : At h p o) (e : Ext h h') : At h' p o := ⟨Nat.lt_of_lt_of_le a.lt e.le, (e.obj p a.lt).trans a.eq⟩
theorem At.new (h : IH) (o : IObj) : At (h.push o) h.n o := ⟨Nat.lt_succ_self _, push_new _ _⟩

def IV.at_ (v : IV) (m : Nat) : Prop := ∃ i n, v = .slice m i n
structure Turn (v : IV) (h h' : IH) : Prop where
  le : h.n ≤ h'.n
  obj : ∀ m, m < h.n → ¬ v.at_ m → h'.obj m = h.obj m
theorem Turn.refl (v : IV) (h : IH) : Turn v h h := ⟨Nat.le_refl _, fun _ _ _ => rfl⟩
theorem Turn.trans {v : IV} {a b c : IH} (h1 : Turn v a b) (h2 : Turn v b c) : Turn v a c :=
  ⟨Nat.le_trans h1.le h2.le, fun m hm hv => (h2.obj m (Nat.lt_of_lt_of_le hm h1.le) hv).trans (h1.obj m hm hv)⟩
theorem Turn.of_ext {v : IV} {a b : IH} (h1 : Ext a b) : Turn v a b := ⟨h1.le, fun m hm _ => h1.obj m hm⟩

def Own (lo hi : Nat) (h : IH) (el sz : Nat) (v : IV) (rs : List (List IV)) : Prop :=
  (rs = [] ∧ (v = .nilslice ∨ v = .eslice true)) ∨ ∃ l, rs ≠ [] ∧ v = .slice l 0 rs.length ∧ lo ≤ l ∧ l < hi ∧ hi ≤ h.n ∧ h.obj l = .rows rs el sz false

section
variable {lo hi lo' hi' : Nat} {h h' : IH} {el sz : Nat} {v w : IV} {rs : List (List IV)}
theorem Own.nil : Own lo hi h el sz .nilslice [] := .inl ⟨rfl, .inl rfl⟩
theorem Own.empty : Own lo hi h el sz (.eslice true) [] := .inl ⟨rfl, .inr rfl⟩
theorem Own.mk {l : Nat} (h0 : rs ≠ []) (h1 : lo ≤ l) (h2 : l < hi) (h3 : hi ≤ h.n) (h4 : h.obj l = .rows rs el sz false) : Own lo hi h el sz (.slice l 0 rs.length) rs :=
  .inr ⟨l, h0, rfl, h1, h2, h3, h4⟩
theorem Own.sl (ho : Own lo hi h el sz v rs) : SlR h sz v rs := by
  rcases ho with ⟨rfl, rfl | rfl⟩ | ⟨l, _, rfl, _, h2, h3, h4⟩
  · exact SlR.nil _ _
  · exact SlR.empty _ _ _
  · exact SlR.whole h4 rfl (by omega)
theorem Own.one (ho : Own lo hi h el sz v rs) : v.one = true := ho.sl.one
theorem Own.cells (ho : Own lo hi h el sz v rs) : v.cells = [v] := ho.sl.cells
theorem Own.lenF (ho : Own lo hi h el sz v rs) : lenF v = some (.int .i64 rs.length) := ho.sl.lenF
theorem Own.ext (ho : Own lo hi h el sz v rs) (e : Ext h h') : Own lo hi h' el sz v rs := by
  rcases ho with ho | ⟨l, h0, rfl, h1, h2, h3, h4⟩
  · exact .inl ho
  · exact .inr ⟨l, h0, rfl, h1, h2, Nat.le_trans h3 e.le, (e.obj l (by omega)).trans h4⟩
theorem Own.wide (ho : Own lo hi h el sz v rs) (w1 : lo' ≤ lo) (w2 : hi ≤ hi') (w3 : hi' ≤ h.n) : Own lo' hi' h el sz v rs := by
  rcases ho with ho | ⟨l, h0, rfl, h1, h2, h3, h4⟩
  · exact .inl ho
  · exact .inr ⟨l, h0, rfl, by omega, by omega, w3, h4⟩
theorem Own.at_ {m : Nat} (ho : Own lo hi h el sz v rs) (hv : v.at_ m) : lo ≤ m ∧ m < hi := by
  rcases ho with ⟨_, rfl | rfl⟩ | ⟨l, h0, rfl, h1, h2, h3, h4⟩
  · obtain ⟨i, n, h⟩ := hv; cases h
  · obtain ⟨i, n, h⟩ := hv; cases h
  · obtain ⟨i, n, h⟩ := hv; cases h; exact ⟨h1, h2⟩
theorem Own.set (ho : Own lo hi h el sz v rs) {m : Nat} (hm : m < lo ∨ hi ≤ m) (o : IObj) : Own lo hi (h.set m o) el sz v rs := by
  rcases ho with ho | ⟨l, h0, rfl, h1, h2, h3, h4⟩
  · exact .inl ho
  · exact .inr ⟨l, h0, rfl, h1, h2, h3, (set_there _ _ _ _ (by omega)).trans h4⟩
theorem Own.turn {rs' : List (List IV)} {el' sz' : Nat} (ho : Own lo hi h el sz v rs) (hw : Own lo' hi' h el' sz' w rs') (hd : hi ≤ lo' ∨ hi' ≤ lo) (t : Turn w h h') : Own lo hi h' el sz v rs := by
  rcases ho with ho | ⟨l, h0, rfl, h1, h2, h3, h4⟩
  · exact .inl ho
  · exact .inr ⟨l, h0, rfl, h1, h2, Nat.le_trans h3 t.le, (t.obj l (by omega) (fun hv => by have := hw.at_ hv; omega)).trans h4⟩
theorem At.turn {p : Nat} {o : IObj} (a : At h p o) (hw : Own lo hi h el sz w rs) (hd : p < lo ∨ hi ≤ p) (t : Turn w h h') : At h' p o :=
  ⟨Nat.lt_of_lt_of_le a.lt t.le, (t.obj p a.lt (fun hv => by have := hw.at_ hv; omega)).trans a.eq⟩
theorem SlR.turn {rs' : List (List IV)} {sz' : Nat} (hs : SlR h sz v rs) (hlo : ∀ l i n, v = .slice l i n → l < lo) (hw : Own lo hi h el sz' w rs') (t : Turn w h h') : SlR h' sz v rs := by
  refine ⟨?_, hs.len, fun l i n hv => Nat.lt_of_lt_of_le (hs.lt l i n hv) t.le⟩
  have h1 := hs.src
  cases v with
  | slice l i n =>
    have hl := hlo l i n rfl
    have := t.obj l (hs.lt l i n rfl) (fun hv => by have := hw.at_ hv; omega)
    simp only [srcRows, this] at h1 ⊢
    exact h1
  | nilslice => exact h1
  | eslice z => exact h1
  | _ => simp [srcRows] at h1
end

structure Arg (lo : Nat) (h : IH) (sz : Nat) (v : IV) (rs : List (List IV)) : Prop where
  sl : SlR h sz v rs
  lt : ∀ l i n, v = .slice l i n → l < lo
theorem Arg.of {h : IH} {sz : Nat} {v : IV} {rs : List (List IV)} (hs : SlR h sz v rs) : Arg h.n h sz v rs := ⟨hs, hs.lt⟩
theorem Arg.ext {lo : Nat} {h h' : IH} {sz : Nat} {v : IV} {rs : List (List IV)} (a : Arg lo h sz v rs) (e : Ext h h') : Arg lo h' sz v rs := ⟨a.sl.ext e, a.lt⟩
theorem Arg.turn {lo l0 hi : Nat} {h h' : IH} {el sz sz' : Nat} {v w : IV} {rs rs' : List (List IV)} (a : Arg lo h sz v rs) (hw : Own l0 hi h el sz' w rs') (hd : lo ≤ l0) (t : Turn w h h') : Arg lo h' sz v rs :=
  ⟨a.sl.turn (fun l i n hv => Nat.lt_of_lt_of_le (a.lt l i n hv) hd) hw t, a.lt⟩

theorem Own.over {lo hi l el n : Nat} {h : IH} {sz : Nat} {rs : List (List IV)} (hn : rs.length = n) (h0 : n ≠ 0) (h1 : lo ≤ l) (h2 : l < hi) (h3 : hi ≤ h.n) : Own lo hi (h.set l (.rows rs el sz false)) el sz (.slice l 0 n) rs := by
  subst hn
  exact .inr ⟨l, fun hr => h0 (by simp [hr]), rfl, h1, h2, h3, set_here _ _ _⟩
theorem Turn.set {l i n : Nat} {h : IH} (o : IObj) : Turn (.slice l i n) h (h.set l o) :=
  ⟨Nat.le_refl _, fun m _ hv => set_there _ _ _ _ (fun e => hv ⟨i, n, by rw [e]⟩)⟩

theorem Ext.turn {a b c : IH} {lo hi el sz : Nat} {w : IV} {rs : List (List IV)} (e : Ext a b) (hw : Own lo hi b el sz w rs) (hlo : a.n ≤ lo) (t : Turn w b c) : Ext a c :=
  ⟨Nat.le_trans e.le t.le, fun l hl => (t.obj l (Nat.lt_of_lt_of_le hl e.le) (fun hv => by have := hw.at_ hv; omega)).trans (e.obj l hl)⟩

def iadrO (o : IObj) (sz l i n : Nat) (m : Int) : Option IV := if 0 ≤ m ∧ m < n ∧ sizeO o = some sz then some (.ptr l (i + m.toNat) 0) else none
theorem iadrF_sl (h : IH) (sz l i n : Nat) (q : IntKind) (m : Int) : iadrF h sz (.slice l i n) (.int q m) = iadrO (h.obj l) sz l i n m := by
  unfold iadrO
  simp only [iadrF, size_eq]
theorem iadrO_rows {rs : List (List IV)} {e sz l i n : Nat} {ro : Bool} {m : Int} (h0 : 0 ≤ m) (h1 : m < n) : iadrO (.rows rs e sz ro) sz l i n m = some (.ptr l (i + m.toNat) 0) := if_pos ⟨h0, h1, rfl⟩
theorem iadrO_nat {rs : List (List IV)} {e sz l i n k : Nat} {ro : Bool} (h1 : k < n) : iadrO (.rows rs e sz ro) sz l i n (k : Int) = some (.ptr l (i + k) 0) := by
  rw [iadrO_rows (by omega) (by omega)]; simp
theorem Own.app {lo hi : Nat} {h : IH} {el sz b : Nat} {v : IV} {rs ys : List (List IV)} {K : HoldK} (ho : Own lo hi h el sz v rs) (hy : ys ≠ []) (hb : (rs.length + ys.length) * b ≤ 140737488355328)
    (hk : ∀ v' h', Own h.n (h.n + 1) h' el sz v' (rs ++ ys) → Turn v h h' → h'.n = h.n + 1 → v'.one = true → v'.cells = [v'] → K.k v' h') : @appA h el sz b v (some ys) K := by
  have hne : rs ++ ys ≠ [] := fun hx => hy (List.append_eq_nil_iff.1 hx).2
  rcases ho with ⟨rfl, rfl | rfl⟩ | ⟨l, h0, rfl, h1, h2, h3, h4⟩
  · exact appA_new hy (by simpa using hb) (hk _ _ (.inr ⟨h.n, hne, rfl, Nat.le_refl _, Nat.lt_succ_self _, Nat.le_refl _, push_new _ _⟩) (Turn.of_ext ((Ext.refl _).push _)) rfl rfl rfl)
  · exact appA_newe hy (by simpa using hb) (hk _ _ (.inr ⟨h.n, hne, rfl, Nat.le_refl _, Nat.lt_succ_self _, Nat.le_refl _, push_new _ _⟩) (Turn.of_ext ((Ext.refl _).push _)) rfl rfl rfl)
  · refine appA_own h4 rfl hy hb (hk _ _ (.inr ⟨h.n, hne, by simp, Nat.le_refl _, Nat.lt_succ_self _, Nat.le_refl _, push_new _ _⟩) ?_ rfl rfl rfl)
    exact ⟨Nat.le_succ _, fun m hm hv => by
      rw [push_old _ _ _ (by rw [set_n]; exact hm), set_there _ _ _ _ (fun e => hv ⟨0, rs.length, by rw [e]⟩)]⟩

theorem lay_nil (z : List IV) : lay z [] = some z := nr rfl
theorem lay_1 {z : List IV} {off : Nat} {v : IV} {r : List (Nat × Nat × IV)} (hv : v.one = true) (hl : off < z.length) : lay z ((off, 1, v) :: r) = lay (z.set off v) r := by
  have hc : v.cells = [v] := by cases v <;> first | rfl | cases hv
  rw [lay, hc, if_pos ⟨rfl, hl⟩, set_eq_take _ _ _ hl]
theorem lay_w {z cs : List IV} {n : Nat} {r : List (Nat × Nat × IV)} (h1 : cs.length = n) (h2 : z.length = n) : lay z ((0, n, .agg cs) :: r) = lay cs r := by
  have hc : (IV.agg cs).cells = cs := rfl
  rw [lay, hc, if_pos ⟨h1, by omega⟩, tz0, na0, List.drop_eq_nil_of_le (by omega), List.append_nil]

theorem At.set {h : IH} {p q : Nat} {o o' : IObj} (a : At h q o) (hq : q ≠ p) : At (h.set p o') q o := ⟨a.lt, (set_there _ _ _ _ hq).trans a.eq⟩
theorem At.here {h : IH} {p : Nat} {o o' : IObj} (a : At h p o) : At (h.set p o') p o' := ⟨a.lt, set_here _ _ _⟩

theorem Ext.ext {a b c : IH} (h1 : Ext a b) (h2 : Ext b c) : Ext a c := h1.trans h2

end Go.IW

namespace Go.IW
open Go.RowKit

theorem ext_calls {P : Program} {f : Nat} {fn : Func} {en : Array Value → Sem Value} (hf : P.funcs[f]? = some fn) (hname : (fn.name == "runtime.NumGoroutine") = false) (hb : fn.body.isNone = true) (hn : Extern.findNext fn = none) (he : Extern.find fn = some en)
    {args : List IV} {h : IH} {v : IV} (hr : ∀ (ρ : List RLoc) (args' : Array Value) (w : World), LRel ρ args'.toList args → ∃ v', (en args').run P w = .ok v' w ∧ VRel ρ v' v) : ICalls P f args h fun r h' => r = v ∧ h' = h := by
  intro ρ B w args' _ hw ha
  obtain ⟨v', h1, h2⟩ := hr ρ args' w ha
  rw [run_callFunc_extern hf hname hb hn he, h1]
  exact ⟨ρ, v, h, List.prefix_refl _, hw, h2, Below.refl B w, rfl, rfl⟩

theorem args2 {ρ : List RLoc} {args' : Array Value} {a b : IV} (h : LRel ρ args'.toList [a, b]) : ∃ x y, args' = #[x, y] ∧ VRel ρ x a ∧ VRel ρ y b := by
  have hl := h.1
  match args', hl with
  | ⟨[x, y]⟩, _ => exact ⟨x, y, rfl, h.head, h.tail.head⟩

theorem str_rel {ρ : List RLoc} {x : Value} {s : List UInt8} (h : VRel ρ x (.str s)) : ∃ b : ByteArray, x = .string b ∧ b.data.toList = s := by
  generalize hv : IV.str s = v at h
  cases h <;> cases hv
  exact ⟨_, rfl, rfl⟩

theorem idxByte_calls {P : Program} {f : Nat} {fn : Func} (hf : P.funcs[f]? = some fn) (hname : (fn.name == "runtime.NumGoroutine") = false) (hb : fn.body.isNone = true) (hn : Extern.findNext fn = none) (he : Extern.find fn = some Extern.BytealgIndexByte.indexByte)
    (h : IH) (s : List UInt8) (c : Int) : ICalls P f [.str s, .int .u8 c] h fun r h' => r = .int .i64 (Lib.indexByte s c.toNat.toUInt8) ∧ h' = h := by
  refine ext_calls hf hname hb hn he fun ρ args' w ha => ?_
  obtain ⟨x, y, rfl, hx, hy⟩ := args2 ha
  obtain ⟨b, rfl, rfl⟩ := str_rel hx
  cases hy
  exact ⟨_, Lib.run_indexByteString b c w, .int _ _⟩
theorem cntByte_calls {P : Program} {f : Nat} {fn : Func} (hf : P.funcs[f]? = some fn) (hname : (fn.name == "runtime.NumGoroutine") = false) (hb : fn.body.isNone = true) (hn : Extern.findNext fn = none) (he : Extern.find fn = some Extern.BytealgCount.count)
    (h : IH) (s : List UInt8) (c : Int) : ICalls P f [.str s, .int .u8 c] h fun r h' => r = .int .i64 (Lib.countByte s c.toNat.toUInt8) ∧ h' = h := by
  refine ext_calls hf hname hb hn he fun ρ args' w ha => ?_
  obtain ⟨x, y, rfl, hx, hy⟩ := args2 ha
  obtain ⟨b, rfl, rfl⟩ := str_rel hx
  cases hy
  exact ⟨_, Lib.run_countString b c w, .int _ _⟩

def cutAt (c : UInt8) : List UInt8 → List (List UInt8)
  | [] => [[]]
  | b :: r => if b == c then [] :: cutAt c r else match cutAt c r with
    | [] => [[b]]
    | p :: ps => (b :: p) :: ps
theorem cutAt_ne (c : UInt8) : ∀ l, cutAt c l ≠ []
  | [] => by simp [cutAt]
  | b :: r => by
    simp only [cutAt]
    split
    · simp
    · split <;> simp
theorem cutAt_len (c : UInt8) : ∀ l, (cutAt c l).length = l.count c + 1
  | [] => by simp [cutAt]
  | b :: r => by
    have i := cutAt_len c r
    simp only [cutAt, List.count_cons]
    split
    · simp [i]
    · split
      · rename_i h; exact absurd h (cutAt_ne c r)
      · rename_i p ps h; rw [h] at i; simpa using i
theorem cutAt_none (c : UInt8) : ∀ {l : List UInt8}, Lib.indexByte l c = -1 → cutAt c l = [l]
  | [], _ => rfl
  | b :: r, h => by
    have hge := Lib.indexByte_ge r c
    simp only [Lib.indexByte] at h
    split at h
    · simp at h
    · rename_i hb
      split at h
      · rename_i h1
        simp only [cutAt, hb, cutAt_none c (l := r) (by simpa using h1)]
        simp
      · omega
theorem cutAt_some (c : UInt8) : ∀ {l : List UInt8} {m : Nat}, Lib.indexByte l c = m → m < l.length ∧ cutAt c l = l.take m :: cutAt c (l.drop (m + 1)) ∧ l.count c = (l.drop (m + 1)).count c + 1
  | [], m, h => by simp [Lib.indexByte] at h
  | b :: r, m, h => by
    have hge := Lib.indexByte_ge r c
    simp only [Lib.indexByte] at h
    split at h
    · rename_i hb
      have : m = 0 := by omega
      subst this
      have hb' : b = c := by simpa using hb
      subst hb'
      simp [cutAt]
    · rename_i hb
      split at h
      · omega
      · rename_i h1
        have h2 : Lib.indexByte r c ≠ -1 := by simpa using h1
        have hm : m = (m - 1) + 1 := by omega
        obtain ⟨i1, i2, i3⟩ := cutAt_some c (l := r) (m := m - 1) (by omega)
        rw [hm]
        refine ⟨by simp; omega, ?_, ?_⟩
        · simp only [cutAt, hb, i2, ts0, ds0]; simp
        · have hb2 : ¬ (b == c) = true := hb
          rw [ds0, List.count_cons, if_neg hb2, i3, Nat.add_zero]

theorem cutAt_snoc (c : UInt8) : ∀ (l : List UInt8) (out : List (List UInt8)) (cur : List UInt8) (b : UInt8), cutAt c l = out ++ [cur] → cutAt c (l ++ [b]) = if b == c then out ++ [cur, []] else out ++ [cur ++ [b]]
  | [], out, cur, b, h => by
    have : out = [] ∧ cur = [] := by
      cases out with
      | nil => simp [cutAt] at h; exact ⟨rfl, h⟩
      | cons x xs => simp [cutAt] at h
    obtain ⟨rfl, rfl⟩ := this
    by_cases hb : (b == c) = true <;> simp [cutAt, hb]
  | a :: r, out, cur, b, h => by
    have hne := cutAt_ne c r
    simp only [ca0, cutAt] at h ⊢
    by_cases ha : (a == c) = true
    · rw [if_pos ha] at h ⊢
      cases out with
      | nil => simp at h; exact absurd h.2 hne
      | cons x xs =>
        simp at h
        obtain ⟨rfl, h⟩ := h
        rw [cutAt_snoc c r xs cur b h]
        by_cases hb : (b == c) = true <;> simp [hb]
    · rw [if_neg ha] at h ⊢
      cases hr : cutAt c r with
      | nil => exact absurd hr hne
      | cons p ps =>
        rw [hr] at h
        simp only at h
        cases out with
        | nil =>
          simp at h
          obtain ⟨rfl, rfl⟩ := h
          rw [cutAt_snoc c r [] p b hr]
          by_cases hb : (b == c) = true <;> simp [hb]
        | cons x xs =>
          simp at h
          obtain ⟨rfl, rfl⟩ := h
          rw [cutAt_snoc c r (p :: xs) cur b hr]
          by_cases hb : (b == c) = true <;> simp [hb]

theorem cells_one {v : IV} (hv : v.one = true) : v.cells = [v] := by cases v <;> first | rfl | cases hv
theorem bslA_2 {h : IH} {el : Nat} {z a b : IV} {K : HoldK} (ha : a.one = true) (hb : b.one = true) : @bslA el 1 [z] 2 [(0, a), (1, b)] h K = K.k (.slice h.n 0 2) (h.push (.rows [[a], [b]] el 1 false)) := by
  unfold bslA
  simp [layR, cells_one ha, cells_one hb, ha, hb]
theorem srcO_2 (a b : List IV) (e sz : Nat) (ro : Bool) : srcO (.rows [a, b] e sz ro) sz 0 2 = some [a, b] := by simp [srcO]
theorem s2bA_some {h : IH} {el : Nat} {s : List UInt8} {K : HoldK} (h0 : s ≠ []) (hl : s.length ≤ 9223372036854775807) : @s2bA el (.str s) h K = K.k (.slice h.n 0 s.length) (h.push (.rows (strRows s) el 1 false)) := by
  unfold s2bA
  simp [h0, hl]
theorem SlR.part {h : IH} {sz : Nat} {v : IV} {rs : List (List IV)} (hs : SlR h sz v rs) {a b : Nat} (hab : a ≤ b) (hb : b ≤ rs.length) : ∃ v', islc h sz v a b none = some v' ∧ SlR h sz v' ((rs.take b).drop a) := by
  have h1 := hs.src
  have h2 := hs.len
  cases v with
  | slice l i n =>
    obtain ⟨rs0, e, ro, ho, hc, rfl⟩ := srcRows_live h1
    simp [ilen] at h2
    have hn : b ≤ n := by simp at hb; omega
    have hsz : h.size l = some sz := by rw [size_eq, ho]; rfl
    by_cases hlt : a < b
    · refine ⟨_, islc_some h hlt hn hsz, ?_, ?_, fun l' i' n' hv => by cases hv; exact hs.lt _ _ _ rfl⟩
      · rw [src_sl, ho]
        have : i + a + (b - a) ≤ rs0.length := by omega
        simp only [srcO, true_and, this, if_true]
        congr 1
        rw [List.take_take, List.drop_take, List.drop_drop, show min b n = b by omega]
      · simp [ilen]; omega
    · obtain rfl : a = b := by omega
      have : (List.take a (List.take n (List.drop i rs0))).drop a = [] := List.drop_eq_nil_of_le (by simp; omega)
      rw [this]
      by_cases ha : a = 0
      · subst ha
        refine ⟨_, islc_zero h hsz, ?_, rfl, fun l' i' n' hv => by cases hv; exact hs.lt _ _ _ rfl⟩
        rw [src_sl, ho]
        simp [srcO]
        omega
      · exact ⟨_, islc_none h ha hn hsz, SlR.empty _ _ _⟩
  | nilslice =>
    simp [srcRows] at h1; subst h1
    have hb0 : b = 0 := by simpa using hb
    obtain rfl : a = 0 := by omega
    subst hb0
    exact ⟨.nilslice, by simp [islc], by simpa using SlR.nil h sz⟩
  | eslice z =>
    simp [srcRows] at h1; subst h1
    have hb0 : b = 0 := by simpa using hb
    obtain rfl : a = 0 := by omega
    subst hb0
    exact ⟨.eslice z, by simp [islc], by simpa using SlR.empty h sz z⟩
  | _ => simp [ilen] at h2
theorem SlR.lo {h : IH} {sz : Nat} {v : IV} {rs : List (List IV)} (hs : SlR h sz v rs) {a : Nat} {q : IntKind} (ha : a ≤ rs.length) : ∃ v', slcF h sz v (some (.int q (a : Int))) none = some v' ∧ SlR h sz v' (rs.drop a) := by
  obtain ⟨v', h1, h2⟩ := hs.part ha (Nat.le_refl _)
  rw [List.take_length] at h2
  refine ⟨v', ?_, h2⟩
  rw [slcF_of h hs.len rfl (boundF_of (by omega) (by omega))]
  simpa using h1
theorem SlR.hi {h : IH} {sz : Nat} {v : IV} {rs : List (List IV)} (hs : SlR h sz v rs) {b : Nat} {q : IntKind} (hb : b ≤ rs.length) : ∃ v', slcF h sz v none (some (.int q (b : Int))) = some v' ∧ SlR h sz v' (rs.take b) := by
  obtain ⟨v', h1, h2⟩ := hs.part (Nat.zero_le b) hb
  rw [dz0] at h2
  refine ⟨v', ?_, h2⟩
  rw [slcF_of h hs.len (boundF_of (by omega) (by omega)) rfl]
  simpa using h1
theorem SlR.lohi {h : IH} {sz : Nat} {v : IV} {rs : List (List IV)} (hs : SlR h sz v rs) {a b : Nat} {q q' : IntKind} (hab : a ≤ b) (hb : b ≤ rs.length) : ∃ v', slcF h sz v (some (.int q (a : Int))) (some (.int q' (b : Int))) = some v' ∧ SlR h sz v' ((rs.take b).drop a) := by
  obtain ⟨v', h1, h2⟩ := hs.part hab hb
  refine ⟨v', ?_, h2⟩
  rw [slcF_of h hs.len (boundF_of (by omega) (by omega)) (boundF_of (by omega) (by simp; omega))]
  simpa using h1
theorem bytesOf_strRows : ∀ s : List UInt8, bytesOf (strRows s) = some s
  | [] => rfl
  | b :: r => by
    have i := bytesOf_strRows r
    have : strRows (b :: r) = [.int .u8 b.toNat] :: strRows r := rfl
    rw [this, bytesOf, i]
    simp
theorem SlR.b2s {h : IH} {v : IV} {s : List UInt8} (hs : SlR h 1 v (strRows s)) : b2sF h v = some (.str s) := by
  have h1 := hs.src
  cases v with
  | slice l i n =>
    obtain ⟨rs0, e, ro, ho, hc, hr⟩ := srcRows_live h1
    rw [b2sF_slice, ho, b2sO_rows, if_pos hc, ← hr, bytesOf_strRows]; rfl
  | nilslice => simp [srcRows, strRows] at h1; subst h1; rfl
  | eslice z => simp [srcRows, strRows] at h1; subst h1; rfl
  | _ => simp [srcRows] at h1

structure But (b : Nat) (v : IV) (h h' : IH) : Prop where
  le : h.n ≤ h'.n
  obj : ∀ m, m < h.n → m ≠ b → ¬ v.at_ m → h'.obj m = h.obj m
theorem But.refl (b : Nat) (v : IV) (h : IH) : But b v h h := ⟨Nat.le_refl _, fun _ _ _ _ => rfl⟩
theorem nil_at (m : Nat) : ¬ IV.at_ .nilslice m := by rintro ⟨i, n, h⟩; cases h
theorem But.trans {p : Nat} {v : IV} {a b c : IH} (h1 : But p v a b) (h2 : But p v b c) : But p v a c :=
  ⟨Nat.le_trans h1.le h2.le, fun m hm hp hv => (h2.obj m (Nat.lt_of_lt_of_le hm h1.le) hp hv).trans (h1.obj m hm hp hv)⟩
theorem But.of_ext {p : Nat} {v : IV} {a b : IH} (e : Ext a b) : But p v a b := ⟨e.le, fun m hm _ _ => e.obj m hm⟩
theorem But.set {p : Nat} {v : IV} {a b : IH} (h1 : But p v a b) (o : IObj) : But p v a (b.set p o) :=
  ⟨h1.le, fun m hm hp hv => (set_there _ _ _ _ hp).trans (h1.obj m hm hp hv)⟩
theorem But.ext0 {a b c : IH} {p : Nat} (t : But p .nilslice b c) (e : Ext a b) (hp : a.n ≤ p) : Ext a c :=
  ⟨Nat.le_trans e.le t.le, fun l hl => (t.obj l (Nat.lt_of_lt_of_le hl e.le) (by omega) (nil_at l)).trans (e.obj l hl)⟩
theorem But.at0 {b c : IH} {p q : Nat} {o : IObj} (t : But p .nilslice b c) (a : At b q o) (hp : q ≠ p) : At c q o :=
  ⟨Nat.lt_of_lt_of_le a.lt t.le, (t.obj q a.lt hp (nil_at q)).trans a.eq⟩
theorem SlR.but {h h' : IH} {sz sz2 e p : Nat} {q : List (List IV)} {ro : Bool} {v : IV} {rs : List (List IV)} (hs : SlR h sz v rs) (t : But p .nilslice h h') (hp : h.obj p = .rows q e sz2 ro) (hne : sz ≠ sz2) : SlR h' sz v rs := by
  have h1 := hs.src
  refine ⟨?_, hs.len, fun l i n hv => Nat.lt_of_lt_of_le (hs.lt l i n hv) t.le⟩
  cases v with
  | slice l i n =>
    have hl := hs.lt l i n rfl
    have hlp : l ≠ p := by
      rintro rfl
      simp only [srcRows, hp] at h1
      split at h1
      · rename_i hc; exact hne hc.1.symm
      · cases h1
    have := t.obj l hl hlp (nil_at l)
    simp only [srcRows, this] at h1 ⊢
    exact h1
  | nilslice => exact h1
  | eslice z => exact h1
  | _ => simp [srcRows] at h1

def numB (bs : List UInt8) : Int := bs.foldl (fun n b => n * 256 + b.toNat) 0
theorem numB_snoc (a : List UInt8) (b : UInt8) : numB (a ++ [b]) = numB a * 256 + b.toNat := by simp [numB]
theorem numB_bound : ∀ (n : Nat) (a : List UInt8), a.length ≤ n → 0 ≤ numB a ∧ numB a < 256 ^ n
  | 0, a, h => by
    have : a = [] := List.length_eq_zero_iff.1 (by omega)
    subst this; simp [numB]
  | n + 1, a, h => by
    by_cases ha : a = []
    · subst ha
      refine ⟨by simp [numB], ?_⟩
      have : (0 : Int) < 256 ^ (n + 1) := Int.pow_pos (by omega)
      simpa [numB] using this
    · have e := List.dropLast_concat_getLast ha
      have i := numB_bound n a.dropLast (by simp; omega)
      have hb : ((a.getLast ha).toNat : Int) < 256 := by have := (a.getLast ha).toNat_lt; omega
      rw [← e, numB_snoc]
      refine ⟨by omega, ?_⟩
      rw [Int.pow_succ]
      omega
theorem or_join {x c : Int} (h0 : 0 ≤ x) (h1 : x < 36028797018963968) (c0 : 0 ≤ c) (c1 : c < 256) : bits .or .i64 (x * 256) c = x * 256 + c := by
  refine bits_join .i64 63 (by decide) (fun n hn0 hn1 => by rw [IntKind.wrap_i64]; omega) 8 (x * 256) c (by omega) (by omega) (by omega) c0 (by omega) (by omega)

end Go.IW

set_option autoImplicit false
namespace Go.IW
open Go
variable {P : Program}

theorem vcOp_mono {o : COp} {K K' : Env → IH → Prop} (hK : ∀ e h, K e h → K' e h) {e : Env} {h : IH} (hv : vcOp P o K e h) : vcOp P o K' e h :=
  vcOp_move (fun _ _ => rfl) (fun _ _ hk => hK _ _ hk) hv
theorem vcOps_mono : ∀ {l : List COp} {K K' : Env → IH → Prop}, (∀ e h, K e h → K' e h) → ∀ {e : Env} {h : IH}, vcOps P l K e h → vcOps P l K' e h
  | [], _, _, hK, _, _, hv => hK _ _ hv
  | _ :: _, _, _, hK, _, _, hv => vcOp_mono (fun _ _ hk => vcOps_mono hK hk) hv
theorem vcD_mono {ops : List COp} {bar : List Bool} {anc : List (List Nat)} : ∀ {l done : List Nat} {K K' : Env → IH → Prop}, (∀ e h, K e h → K' e h) → ∀ {e : Env} {h : IH}, vcD P ops bar anc done l K e h → vcD P ops bar anc done l K' e h
  | [], _, _, _, hK, _, _, hv => hK _ _ hv
  | i :: r, done, _, _, hK, _, _, hv => by
    unfold vcD at hv ⊢
    split at hv
    · rename_i hb
      rw [if_pos hb]
      exact vcOp_mono (fun _ _ hk => ⟨hk.1, vcD_mono hK hk.2⟩) hv
    · rename_i hb
      rw [if_neg hb]
      exact vcOp_mono (fun _ _ hk => vcD_mono hK hk) hv
theorem vcT_mono {ops : List COp} {anc : List (List Nat)} : ∀ {t : DT} {done : List Nat} {K K' : Env → IH → Prop}, (∀ e h, K e h → K' e h) → ∀ {e : Env} {h : IH}, vcT P ops anc done t K e h → vcT P ops anc done t K' e h
  | .fin, _, _, _, hK, _, _, hv => hK _ _ hv
  | .fl _ _, _, _, _, hK, _, _, hv => vcOp_mono (fun _ _ hk => vcT_mono hK hk) hv
  | .br _ _ _, _, _, _, hK, _, _, hv => ⟨vcOp_mono (fun _ _ hk => ⟨hk.1, vcT_mono hK hk.2⟩) hv.1, vcT_mono hK hv.2⟩
  | .stop, _, _, _, _, _, _, _ => trivial
theorem vc_mono : ∀ {c : CC} {K K' : EPost}, (∀ x e h, K x e h → K' x e h) → ∀ {e : Env} {h : IH}, vc P c K e h → vc P c K' e h
  | .skip, _, _, hK, _, _, hv => hK _ _ _ hv
  | .reg _, _, _, hK, _, _, hv => vcOps_mono (hK .normal) hv
  | .dreg _ _ _ _, _, _, hK, _, _, hv => vcD_mono (hK .normal) hv
  | .treg _ _ _, _, _, hK, _, _, hv => vcT_mono (hK .normal) hv
  | .seq a b, _, _, hK, _, _, hv => vc_mono (c := a) (fun x e h hk => by
      cases x
      · exact vc_mono (c := b) hK hk
      all_goals exact hK _ _ _ hk) hv
  | .cond c a b, _, _, hK, _, _, hv => by
    unfold vc vcCond at hv ⊢
    split at hv
    · exact ⟨fun hb => vc_mono hK (hv.1 hb), fun hb => vc_mono hK (hv.2 hb)⟩
    · exact hv.elim
  | .block i a, _, _, hK, _, _, hv => vc_mono (c := a) (fun x e h hk => by
      unfold blockK at hk ⊢
      split at hk
      · split at hk
        · rename_i hb; rw [if_pos hb]; exact hK _ _ _ hk
        · rename_i hb; rw [if_neg hb]; exact hK _ _ _ hk
      · exact hK _ _ _ hk) hv
  | .loop a, _, _, hK, _, _, ⟨I, h0, hr⟩ => ⟨I, h0, fun n e h hi => vc_mono (c := a) (fun x e h hk => by
      cases x
      · exact hk
      all_goals exact hK _ _ _ hk) (hr n e h hi)⟩
  | .exit i, _, _, hK, _, _, hv => hK _ _ _ hv
  | .ret, _, _, hK, _, _, hv => hK _ _ _ hv

theorem vc_cut {a b : CC} {K : EPost} {e : Env} {h : IH} (J : Env → IH → Prop) (ha : vc P a (seqK J K) e h) (hb : ∀ e' h', J e' h' → vc P b K e' h') : vc P (.seq a b) K e h :=
  vc_mono (c := a) (fun x e h hk => by
    cases x
    · exact hb _ _ hk
    all_goals exact hk) ha
def CC.split : Nat → CC → CC × CC
  | n + 1, .seq a b => (.seq a (CC.split n b).1, (CC.split n b).2)
  | _, c => (.skip, c)
theorem vc_split : ∀ (n : Nat) {c : CC} {K : EPost} {e : Env} {h : IH} (J : Env → IH → Prop), vc P (c.split n).1 (seqK J K) e h → (∀ e' h', J e' h' → vc P (c.split n).2 K e' h') → vc P c K e h
  | 0, c, _, _, _, _, ha, hb => by
    have e1 : c.split 0 = (.skip, c) := by cases c <;> rfl
    rw [e1] at ha hb
    exact hb _ _ ha
  | n + 1, .seq a b, K, _, _, J, ha, hb =>
    vc_mono (c := a) (K := seqK (vc P (b.split n).1 (seqK J K)) (seqK J K)) (fun x e h hk => by
      cases x
      · exact vc_split n J hk hb
      all_goals exact hk) ha
  | _ + 1, .skip, _, _, _, _, ha, hb => hb _ _ ha
  | _ + 1, .reg _, _, _, _, _, ha, hb => hb _ _ ha
  | _ + 1, .dreg _ _ _ _, _, _, _, _, ha, hb => hb _ _ ha
  | _ + 1, .treg _ _ _, _, _, _, _, ha, hb => hb _ _ ha
  | _ + 1, .cond _ _ _, _, _, _, _, ha, hb => hb _ _ ha
  | _ + 1, .block _ _, _, _, _, _, ha, hb => hb _ _ ha
  | _ + 1, .loop _, _, _, _, _, ha, hb => hb _ _ ha
  | _ + 1, .exit _, _, _, _, _, ha, hb => hb _ _ ha
  | _ + 1, .ret, _, _, _, _, ha, hb => hb _ _ ha

theorem islc_ext {h h' : IH} {sz : Nat} {v : IV} {rs : List (List IV)} (hs : SlR h sz v rs) (he : Ext h h') (a b : Nat) (m : Option Nat) : islc h' sz v a b m = islc h sz v a b m := by
  cases v with
  | slice l i n =>
    have e1 : h'.size l = h.size l := by rw [size_eq, size_eq, he.obj l (hs.lt l i n rfl)]
    simp only [islc, e1]
  | _ => rfl
theorem slcF_ext {h h' : IH} {sz : Nat} {v : IV} {rs : List (List IV)} (hs : SlR h sz v rs) (he : Ext h h') (lo hi : Option IV) : slcF h' sz v lo hi = slcF h sz v lo hi := by
  simp only [slcF, islc_ext hs he]
theorem iadrF_ext {h h' : IH} {sz : Nat} {v : IV} {rs : List (List IV)} (hs : SlR h sz v rs) (he : Ext h h') (i : IV) : iadrF h' sz v i = iadrF h sz v i := by
  cases v with
  | slice l j n =>
    have e1 : h'.size l = h.size l := by rw [size_eq, size_eq, he.obj l (hs.lt l j n rfl)]
    cases i <;> simp only [iadrF, e1]
  | _ => cases i <;> rfl
end Go.IW

set_option autoImplicit false
namespace Go.IW
open Go
variable {P : Program}

def againG (c : IV) (want : Bool) (A B : Prop) : Prop := match c with | .bool b => if b = want then A else B | .tuple [] => B | _ => False
@[go_sem] theorem again_g (d t : Nat) (want : Bool) (k : FK) (e : Env) (h : IH) : again ⟨some d, some (t, want), .f k⟩ e h = againG (e t) want (feval e h k = some (e d)) (e d = .tuple []) := by
  unfold again againG
  first
  | rfl
  | (simp only
     generalize e t = c
     cases c with
     | tuple l => cases l <;> rfl
     | _ => rfl)
@[go_sem] theorem againG_tt (A B : Prop) : againG (.bool true) true A B = A := nr rfl
@[go_sem] theorem againG_tf (A B : Prop) : againG (.bool true) false A B = B := nr rfl
@[go_sem] theorem againG_ft (A B : Prop) : againG (.bool false) true A B = B := nr rfl
@[go_sem] theorem againG_ff (A B : Prop) : againG (.bool false) false A B = A := nr rfl
@[go_sem] theorem againG_u (w : Bool) (A B : Prop) : againG (.tuple []) w A B = B := nr rfl

theorem wrt_all : ∀ {z r : List IV}, r.length = z.length → wrt z 0 r = r
  | [], [], _ => rfl
  | [_], [_], _ => rfl
  | [], _ :: _, h => by simp at h
  | _ :: _, [], h => by simp at h
  | [_], _ :: _ :: _, h => by simp at h
  | _ :: _ :: _, [_], h => by simp at h
  | a :: b :: z, c :: d :: r, h => by
    have h' : r.length = z.length := by simpa using h
    simp [wrt, h']

def szLC : CC :=
 (.seq (.reg [
   ⟨(some 4), none, .f (.mv (.c (.int .i64 0)))⟩])
 (.seq (.reg [
   ⟨(some 5), none, .f (.mv (.t 1))⟩,
   ⟨(some 6), none, .f (.mv (.t 0))⟩,
   ⟨(some 7), none, .f (.len (.t 6))⟩,
   ⟨(some 8), none, .f (.bin .sub (.t 5) (.t 7))⟩,
   ⟨(some 1), none, .f (.mv (.t 8))⟩])
 (.seq (.seq (.reg [
   ⟨(some 9), none, .f (.mv (.t 1))⟩,
   ⟨(some 10), none, .f (.bin .lss (.t 9) (.c (.int .i64 0)))⟩])
 (.cond (.t 10)
  (.seq (.reg [
    ⟨(some 4), none, .f (.mv (.c (.int .i64 (-1))))⟩])
  .ret)
  .skip))
 (.seq (.reg [
   ⟨(some 11), none, .f (.mv (.t 1))⟩,
   ⟨(some 4), none, .f (.mv (.t 11))⟩])
 .ret))))
end Go.IW

set_option autoImplicit false
/- The library's strings.Builder. -/
namespace Go.IW
open Go
variable {P : Program}

@[go_sem] theorem fe_u (k : UK) (xs : List CX) (e : Env) (h : IH) : feval e h (.u k xs) = ueval h k (xs.map (CX.ev e)) := nr rfl
theorem ueval_peq (h : IH) (g : Bool) (l i k : Nat) : ueval h (.peq g) [.ptr l i k, .ptr l i k] = some (.bool (true != g)) := by simp [ueval]
theorem ueval_pne {h : IH} {g : Bool} {l i k l' i' k' : Nat} (hne : l ≠ l') (h1 : (h.obj l).big = true) (h2 : (h.obj l').big = true) : ueval h (.peq g) [.ptr l i k, .ptr l' i' k'] = some (.bool (false != g)) := by
  have e : ueval h (.peq g) [.ptr l i k, .ptr l' i' k'] = if l = l' ∧ i = i' ∧ k = k' then some (.bool (true != g)) else if l ≠ l' ∧ (h.obj l).big = true ∧ (h.obj l').big = true then some (.bool (false != g)) else none := rfl
  rw [e, if_neg (fun e => hne e.1), if_pos ⟨hne, h1, h2⟩]
def ustrA (P : Program) (el : Nat) (x y : IV) (h : IH) [K : HoldK] : Prop := uact P h K.k (.ustr el) [x, y]
@[go_sem ↓] theorem act_ustr (el : Nat) (x y : CX) (e : Env) (h : IH) (K : IV → IH → Prop) : act P h e K (.ux (.ustr el) [x, y]) = @ustrA P el (x.ev e) (y.ev e) h ⟨K⟩ := nr rfl
@[go_sem ↓] theorem act_bad (xs : List CX) (e : Env) (h : IH) (K : IV → IH → Prop) : act P h e K (.ux .bad xs) = False := by
  simp only [act, uact]
structure Bld (T el : Nat) (lo hi : Nat) (h : IH) (p : Nat) (s : List UInt8) : Prop where
  box : ∃ a v, At h p (.rows [[a, v]] T 2 false) ∧ (a = .nilptr ∨ a = .ptr p 0 0) ∧ (v = .nilslice ∨ s ≠ []) ∧ Own lo hi h el 1 v (strRows s)

theorem Bld.ext {T el lo hi : Nat} {h h' : IH} {p : Nat} {s : List UInt8} (b : Bld T el lo hi h p s) (e : Ext h h') : Bld T el lo hi h' p s := by
  obtain ⟨a, v, h1, h2, h3, h4⟩ := b.box
  exact ⟨a, v, h1.ext e, h2, h3, h4.ext e⟩

end Go.IW
