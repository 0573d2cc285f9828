/- Code in its small form, its verification condition, and that it is enough. -/
import Derived.Test.YtcmcfmgabafljaaDoorIwK
import Derived.Orders
set_option linter.unusedVariables false
set_option linter.unusedSimpArgs false
namespace Go.IW
open Go.RowKit

inductive CK where
  | f (k : FK)
  | x (k : EK)
  deriving Inhabited
structure COp where
  dst : Option Nat
  guard : Option (Nat × Bool)
  op : CK
  deriving Inhabited

/-- The orders of a region that draws: floats in their canonical order, each choice of what writes. -/
inductive DT where
  | fin
  | fl (i : Nat) (r : DT)
  | br (i : Nat) (t r : DT)
  | stop
  deriving Inhabited

inductive CC where
  | skip
  | reg (ops : List COp)
  | dreg (ops : List COp) (bar : List Bool) (anc : List (List Nat)) (ord : List Nat)
  | treg (ops : List COp) (anc : List (List Nat)) (t : DT)
  | seq (a b : CC)
  | cond (c : CX) (a b : CC)
  | block (id : Nat) (a : CC)
  | loop (a : CC)
  | exit (id : Nat)
  | ret
  deriving Inhabited

abbrev EPost := Exit → Env → IH → Prop

section
variable (P : Program)

/-- One operation. -/
def vcK (k : CK) (e : Env) (h : IH) (K : IV → IH → Prop) : Prop :=
  match k with
  | .f k => match feval e h k with
    | some v => K v h
    | none => False
  | .x k => act P h e K k
def vcOp (o : COp) (K : Env → IH → Prop) (e : Env) (h : IH) : Prop :=
  match o.guard with
  | none => vcK P o.op e h fun v h' => K (put e o.dst v) h'
  | some (t, want) => match e t with
    | .bool b => (b = want → vcK P o.op e h fun v h' => K (put e o.dst v) h') ∧ (b = !want → K (put e o.dst (.tuple [])) h)
    | .tuple [] => K (put e o.dst (.tuple [])) h
    | _ => False
def vcOps : List COp → (Env → IH → Prop) → Env → IH → Prop
  | [], K, e, h => K e h
  | o :: r, K, e, h => vcOp P o (vcOps r K) e h

/-- Is a float's value still what it was? -/
def again (o : COp) (e : Env) (h : IH) : Prop :=
  match o.op with
  | .x _ => True
  | .f k => match o.guard with
    | none => match o.dst with
      | some d => feval e h k = some (e d)
      | none => (feval e h k).isSome = true
    | some (t, want) => match e t with
      | .bool b => if b = want then (match o.dst with
          | some d => feval e h k = some (e d)
          | none => (feval e h k).isSome = true) else (match o.dst with
          | some d => e d = .tuple []
          | none => True)
      | .tuple [] => (match o.dst with
          | some d => e d = .tuple []
          | none => True)
      | _ => False
def againAll (ops : List COp) (anc : List (List Nat)) (i : Nat) (e : Env) (h : IH) : List Nat → Prop
  | [] => True
  | j :: r => ((anc.getD i []).contains j = true ∨ again (ops.getD j default) e h) ∧ againAll ops anc i e h r

/-- A region that draws its order: the canonical order; behind each barrier what was told ahead of it is asked again. -/
def vcD (ops : List COp) (bar : List Bool) (anc : List (List Nat)) : List Nat → List Nat → (Env → IH → Prop) → Env → IH → Prop
  | _, [], K, e, h => K e h
  | done, i :: r, K, e, h =>
    if bar.getD i true then vcOp P (ops.getD i default) (fun e' h' => againAll ops anc i e' h' done ∧ vcD ops bar anc (i :: done) r K e' h') e h
    else vcOp P (ops.getD i default) (vcD ops bar anc (i :: done) r K) e h

/-- A region that draws, whatever order it draws. -/
def vcT (ops : List COp) (anc : List (List Nat)) : List Nat → DT → (Env → IH → Prop) → Env → IH → Prop
  | _, .fin, K, e, h => K e h
  | done, .fl i r, K, e, h => vcOp P (ops.getD i default) (vcT ops anc (i :: done) r K) e h
  | done, .br i t r, K, e, h => vcOp P (ops.getD i default) (fun e' h' => againAll ops anc i e' h' done ∧ vcT ops anc (i :: done) t K e' h') e h ∧ vcT ops anc done r K e h
  | _, .stop, _, _, _ => True

/-- A test. -/
def vcCond (c : IV) (A B : Prop) : Prop :=
  match c with
  | .bool b => (b = true → A) ∧ (b = false → B)
  | _ => False
def blockK (id : Nat) (K : EPost) : EPost := fun ex e h =>
  match ex with
  | .exit id' => if id' = id then K .normal e h else K (.exit id') e h
  | ex => K ex e h
def seqK (next : Env → IH → Prop) (K : EPost) : EPost := fun ex e h =>
  match ex with
  | .normal => next e h
  | ex => K ex e h
/-- A loop: an invariant that goes down. -/
def vcLoop (body : EPost → Env → IH → Prop) (K : EPost) (e : Env) (h : IH) : Prop :=
  ∃ I : Nat → Env → IH → Prop, (∃ n, I n e h) ∧ ∀ n e h, I n e h → body (seqK (fun e' h' => ∃ m, m < n ∧ I m e' h') K) e h

def vc : CC → EPost → Env → IH → Prop
  | .skip, K, e, h => K .normal e h
  | .reg ops, K, e, h => vcOps P ops (K .normal) e h
  | .dreg ops bar anc ord, K, e, h => vcD P ops bar anc [] ord (K .normal) e h
  | .treg ops anc t, K, e, h => vcT P ops anc [] t (K .normal) e h
  | .seq a b, K, e, h => vc a (seqK (vc b K) K) e h
  | .cond c a b, K, e, h => vcCond (c.ev e) (vc a K e h) (vc b K e h)
  | .block id a, K, e, h => vc a (blockK id K) e h
  | .loop a, K, e, h => vcLoop (vc a) K e h
  | .exit id, K, e, h => K (.exit id) e h
  | .ret, K, e, h => K .ret e h

/-! From code to its small form. -/
def gcomp (ops : Array Oper) (o : Oper) : Option (Option (Nat × Bool)) :=
  match o.guard with
  | none => some none
  | some (j, want) => match (ops[j]?).bind (·.dst) with
    | some t => some (some (t, want))
    | none => none
def dOk (N : Nat) (o : Oper) : Bool := match o.dst with | some d => decide (d < N) | none => true
def kcomp (op : Op) : Option CK :=
  match fkc P op with
  | some k => some (.f k)
  | none => some (.x (ekc P op))
def ocomp (N : Nat) (ops : Array Oper) (o : Oper) : Option COp :=
  match gcomp ops o, dOk N o, kcomp P o.op with
  | some g, true, some k => some ⟨o.dst, g, k⟩
  | _, _, _ => none
def ocomps (N : Nat) (ops : Array Oper) : List Oper → Option (List COp)
  | [] => some []
  | o :: r => match ocomp P N ops o, ocomps N ops r with
    | some c, some cs => some (c :: cs)
    | _, _ => none

end

/-- What holds behind some code, in the machine. -/
def St (ρ0 : List RLoc) (N B : Nat) (w0 : World) (K : Env → IH → Prop) (a : Act) (w : World) : Prop :=
  ∃ ρ e h, ρ0 <+: ρ ∧ WRel ρ B w h ∧ ARel ρ N a e ∧ Below B w0 w ∧ K e h
def Post (ρ0 : List RLoc) (N B : Nat) (w0 : World) (K : EPost) : Exit → Act → World → Prop := fun ex => St ρ0 N B w0 (K ex)

section
variable {P : Program} {ρ ρ0 : List RLoc} {B : Nat} {w w0 : World} {h : IH} {N : Nat} {a : Act} {e : Env}

theorem ocomp_spec {ops : Array Oper} {o : Oper} {c : COp} (hc : ocomp P N ops o = some c) :
    c.dst = o.dst ∧ (∀ d, o.dst = some d → d < N) ∧ ((o.guard = none ∧ c.guard = none) ∨ ∃ j want t, o.guard = some (j, want) ∧ (ops[j]?).bind (·.dst) = some t ∧ c.guard = some (t, want)) ∧
    ((∃ k, c.op = .f k ∧ fkc P o.op = some k) ∨ (∃ k, c.op = .x k ∧ ekc P o.op = k)) := by
  unfold ocomp at hc
  split at hc
  · rename_i g k hg hd hk
    obtain rfl := Option.some.inj hc
    refine ⟨rfl, ?_, ?_, ?_⟩
    · intro d hdd
      unfold dOk at hd
      rw [hdd] at hd
      simpa using hd
    · unfold gcomp at hg
      split at hg
      · rename_i h0; exact .inl ⟨h0, (Option.some.inj hg).symm⟩
      · rename_i j want h0
        split at hg
        · rename_i t ht; exact .inr ⟨j, want, t, h0, ht, (Option.some.inj hg).symm⟩
        · cases hg
    · unfold kcomp at hk
      split at hk
      · rename_i k' h0; exact .inl ⟨k', (Option.some.inj hk).symm, h0⟩
      · exact .inr ⟨_, (Option.some.inj hk).symm, rfl⟩
  · cases hc

theorem yielded_of {ops : Array Oper} {j t : Nat} {b : Bool} (ha : ARel ρ N a e) (ht : (ops[j]?).bind (·.dst) = some t) (he : e t = .bool b) : yielded ops a.tmps j = some b := by
  have hr := ha.val t
  rw [he] at hr
  unfold yielded
  rw [ht]
  simp only [Option.bind_some]
  rw [Array.getD_eq_getD_getElem?] at hr
  cases hx : a.tmps[t]? with
  | none => rw [hx] at hr; simp [undef] at hr; cases hr
  | some v => rw [hx] at hr; simp at hr; cases hr; rfl

theorem yielded_undef {ops : Array Oper} {j t : Nat} (ha : ARel ρ N a e) (ht : (ops[j]?).bind (·.dst) = some t) (he : e t = .tuple []) : yielded ops a.tmps j = none := by
  have hr := ha.val t
  rw [he] at hr
  unfold yielded
  rw [ht]
  simp only [Option.bind_some]
  rw [Array.getD_eq_getD_getElem?] at hr
  cases hx : a.tmps[t]? with
  | none => rfl
  | some v => rw [hx] at hr; simp at hr; cases hr; rfl

theorem u_sound (hw : WRel ρ B w h) (ha : ARel ρ N a e) {o : Oper} {k : UK} {xs : List CX} {v : IV} (hc : ucomp P o.op = some (k, xs)) (hv : ueval h k (xs.map (CX.ev e)) = some v) : Gives P o a w ρ v := by
  cases hc
theorem fkc_sound (hw : WRel ρ B w h) (ha : ARel ρ N a e) {o : Oper} {ck : FK} {v : IV} (hc : fkc P o.op = some ck) (hv : feval e h ck = some v) : Gives P o a w ρ v := by
  unfold fkc at hc
  split at hc
  · rename_i k h0
    obtain rfl := Option.some.inj hc
    exact fk_sound hw ha h0 hv
  · rw [Option.map_eq_some_iff] at hc
    obtain ⟨⟨k, xs⟩, h0, rfl⟩ := hc
    exact u_sound hw ha h0 hv
theorem ux_sound (hw : WRel ρ B w h) (ha : ARel ρ N a e) {o : Oper} {k : UX} {xs : List CX} {K : IV → IH → Prop} (hc : uxcomp P o.op = some (k, xs)) (hk : uact P h K k (xs.map (CX.ev e))) : Does P o a w ρ B K := by
  cases hc
theorem ekc_sound (hw : WRel ρ B w h) (ha : ARel ρ N a e) {o : Oper} {ck : EK} {K : IV → IH → Prop} (hc : ekc P o.op = ck) (hk : act P h e K ck) : Does P o a w ρ B K := by
  unfold ekc at hc
  split at hc
  · rename_i k h0
    subst hc
    exact ek_sound hw ha h0 hk
  · split at hc
    · rename_i p h0
      subst hc
      exact ux_sound hw ha h0 hk
    · subst hc
      exact False.elim hk

/-- One operation of a region, guarded or not. -/
theorem op_step (hw : WRel ρ B w h) (ha : ARel ρ N a e) (hp : ρ0 <+: ρ) (hb : Below B w0 w) {ops : Array Oper} {i : Nat} {o : Oper} {c : COp} (hi : ops[i]? = some o) (hc : ocomp P N ops o = some c)
    {K : Env → IH → Prop} (hv : vcOp P c K e h) {R : Act → World → Prop} {Q : Exit → Act → World → Prop} (hR : ∀ a' w', St ρ0 N B w0 K a' w' → R a' w') : wpOp P ops Q i R a w := by
  obtain ⟨hdst, hd, hg, hk⟩ := ocomp_spec hc
  unfold wpOp
  rw [hi]
  simp only
  have skip : ∀ {v' : Value} {v : IV}, VRel ρ v' v → K (put e c.dst v) h → R (a.put o.dst v') w := fun hr hk => hR _ _ ⟨ρ, _, h, hp, hw, by rw [← hdst]; exact ha.put (fun t ht => hd t (by rw [← hdst]; exact ht)) hr, hb, hk⟩
  have float : ∀ {k : FK} {v : IV}, fkc P o.op = some k → feval e h k = some v → K (put e c.dst v) h → o.wp P a w R Q := by
    intro k v h1 h2 h3
    obtain ⟨v', g1, g2⟩ := fkc_sound hw ha h1 h2
    unfold Oper.wp
    rw [g1]
    exact skip g2 h3
  have eff : ∀ {k : EK}, ekc P o.op = k → act P h e (fun v h' => K (put e c.dst v) h') k → o.wp P a w R Q := by
    intro k h1 h2
    refine ekc_sound hw ha h1 h2 R Q (fun v' w' ho => ?_)
    obtain ⟨ρ', v, h', g1, g2, g3, g4, g5⟩ := ho
    exact hR _ _ ⟨ρ', _, h', hp.trans g1, g2, by rw [← hdst]; exact (ha.mono g1).put (fun t ht => hd t (by rw [← hdst]; exact ht)) g3, hb.trans g4, g5⟩
  unfold vcOp at hv
  rcases hg with ⟨hg1, hg2⟩ | ⟨j, want, t, hg1, hg2, hg3⟩
  · rw [hg2] at hv
    rw [if_pos (by simp [Region.wanted, hg1])]
    left
    rcases hk with ⟨k, hk1, hk2⟩ | ⟨k, hk1, hk2⟩
    · simp only [hk1, vcK] at hv
      split at hv
      · rename_i v hfv; exact float hk2 hfv hv
      · cases hv
    · simp only [hk1, vcK] at hv
      exact eff hk2 hv
  · rw [hg3] at hv
    simp only at hv
    split at hv
    · rename_i b he
      have hy := yielded_of ha hg2 he
      have hwant : Region.wanted o (yielded ops a.tmps) = (b == want) := by
        simp only [Region.wanted, hg1, hy]
        cases b <;> cases want <;> rfl
      rw [hwant]
      by_cases hbw : b = want
      · rw [if_pos (by simp [hbw])]
        left
        have hv := hv.1 hbw
        rcases hk with ⟨k, hk1, hk2⟩ | ⟨k, hk1, hk2⟩
        · simp only [hk1, vcK] at hv
          split at hv
          · rename_i v hfv; exact float hk2 hfv hv
          · cases hv
        · simp only [hk1, vcK] at hv
          exact eff hk2 hv
      · rw [if_neg (by simpa using hbw)]
        exact skip (undef_rel ρ) (hv.2 (by cases b <;> cases want <;> simp_all))
    · rename_i he
      have hy := yielded_undef ha hg2 he
      have hwant : Region.wanted o (yielded ops a.tmps) = false := by
        simp only [Region.wanted, hg1, hy]
        rfl
      rw [hwant, if_neg (by simp)]
      exact skip (undef_rel ρ) hv
    · cases hv

theorem ocomps_get {ops : Array Oper} : ∀ {l : List Oper} {cs : List COp}, ocomps P N ops l = some cs → l.length = cs.length ∧ ∀ (i : Nat) o c, l[i]? = some o → cs[i]? = some c → ocomp P N ops o = some c
  | [], cs, h => by simp [ocomps] at h; subst h; simp
  | o :: l, cs, h => by
    simp only [ocomps] at h
    split at h
    · rename_i c cs' h1 h2
      obtain rfl := Option.some.inj h
      obtain ⟨g1, g2⟩ := ocomps_get h2
      refine ⟨by simp [g1], fun i o' c' hi hj => ?_⟩
      cases i with
      | zero => simp at hi hj; subst hi; subst hj; exact h1
      | succ i => simp at hi hj; exact g2 i o' c' hi hj
    · cases h

/-- A region in the order of its text. -/
theorem ops_sound {ops : Array Oper} {cs : List COp} (hcs : ocomps P N ops ops.toList = some cs) {K : Env → IH → Prop} {Q : Exit → Act → World → Prop} (hQ : ∀ a w, St ρ0 N B w0 K a w → Q .normal a w) :
    ∀ (m k : Nat), k + m = ops.size → ∀ a w, St ρ0 N B w0 (vcOps P (cs.drop k) K) a w → wpOps P ops Q (List.range' k m) a w := by
  obtain ⟨hlen, hget⟩ := ocomps_get hcs
  have hl : cs.length = ops.size := by rw [← hlen]; simp
  intro m
  induction m with
  | zero =>
    intro k hk a w hs
    have : cs.drop k = [] := List.drop_eq_nil_of_le (by omega)
    rw [this] at hs
    exact hQ a w hs
  | succ m ih =>
    intro k hk a w hs
    have hkl : k < cs.length := by omega
    obtain ⟨ρ, e, h, hp, hw, ha, hb, hv⟩ := hs
    rw [List.drop_eq_getElem_cons hkl] at hv
    rw [List.range'_succ, wpOps_cons]
    have hko : ops[k]? = some ops[k] := Array.getElem?_eq_getElem (by omega)
    refine op_step hw ha hp hb hko (hget k _ _ (by rw [Array.getElem?_toList]; exact hko) (List.getElem?_eq_getElem hkl)) hv (fun a' w' hs' => ?_)
    exact ih (k + 1) (by omega) a' w' hs'

end
end Go.IW
