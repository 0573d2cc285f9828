/- Code and functions: the verification condition is enough. -/
import Derived.Test.YtcmcfmgabafljaaDoorIwO
set_option linter.unusedVariables false
set_option linter.unusedSimpArgs false
namespace Go.IW
open Go.RowKit

section
variable {P : Program} {ρ ρ0 : List RLoc} {B : Nat} {w w0 : World} {h : IH} {N : Nat} {a : Act} {e : Env}

theorem St.mono {K K' : Env → IH → Prop} (hk : ∀ e h, K e h → K' e h) (hs : St ρ0 N B w0 K a w) : St ρ0 N B w0 K' a w :=
  let ⟨ρ, e, h, h1, h2, h3, h4, h5⟩ := hs
  ⟨ρ, e, h, h1, h2, h3, h4, hk _ _ h5⟩

theorem init_dinv {ops : Array Oper} {cs : List COp} {bar : List Bool} {anc : List (List Nat)} {ord : List Nat} (hok : DOk ops cs bar anc ord) {K : Env → IH → Prop} (hv : vcD P cs bar anc [] ord K e h) :
    DInv ops cs bar anc ord K P (fun i => (Array.replicate ops.size false).getD i true = true) [] ord e e h := by
  refine ⟨rfl, fun i hi hl => ?_, fun i hi hl => ?_, fun i hi => (by cases hi), fun t _ => rfl, fun i hi => (by cases hi), hv⟩
  · simp [Array.getD, hi] at hl
  · simp [Array.getD, hi] at hl

theorem region_draw {id : Nat} {ops : Array Oper} {cs : List COp} {bar : List Bool} {anc : List (List Nat)} {ord : List Nat} (hm : P.follows .mixedOrders = true) (hcs : ocomps P N ops ops.toList = some cs) (hok : DOk ops cs bar anc ord)
    {K : Env → IH → Prop} {Q : Exit → Act → World → Prop} (hQ : ∀ a w, St ρ0 N B w0 K a w → Q .normal a w) (hs : St ρ0 N B w0 (vcD P cs bar anc [] ord K) a w) : (Code.region id ops true).wp P Q a w := by
  obtain ⟨ρ, e, h, h1, h2, h3, h4, h5⟩ := hs
  refine wp_region_any hm (draw_any (K := K) hcs hok hQ ops.size _ a _ (by simp) ?_ ?_)
  · have : (ord.filter fun i => (Array.replicate ops.size false).getD i true) = [] := by
      rw [List.filter_eq_nil_iff]
      intro i hi
      have := (hok.perm i).1 hi
      simp [Array.getD, this]
    rw [this]; simp
  · exact ⟨ρ, [], ord, e, e, h, h1, h2.same rfl, h3, h4.trans ⟨rfl, rfl, rfl, Nat.le_refl _, fun _ _ => rfl⟩, init_dinv hok h5⟩

theorem init_tinv {ops : Array Oper} {cs : List COp} {bar : List Bool} {anc : List (List Nat)} {K : Env → IH → Prop} (hv : vcT P cs anc [] (mkT bar anc ops.size ops.size []) K e h) :
    TInv ops cs bar anc K P (fun i => (Array.replicate ops.size false).getD i true = true) ops.size [] e e h := by
  refine ⟨by simp, List.nodup_nil, fun i hi => (by cases hi), fun i hi => (by cases hi), fun i hi hl => ?_, fun i hi hl => ?_, fun i hi => (by cases hi), fun t _ => rfl, fun i hi => (by cases hi), hv⟩
  · simp [Array.getD, hi] at hl
  · simp [Array.getD, hi] at hl

theorem region_drawT {id : Nat} {ops : Array Oper} {cs : List COp} {bar : List Bool} {anc : List (List Nat)} (hm : P.follows .mixedOrders = true) (hcs : ocomps P N ops ops.toList = some cs) (hok : TOk ops cs bar anc)
    {K : Env → IH → Prop} {Q : Exit → Act → World → Prop} (hQ : ∀ a w, St ρ0 N B w0 K a w → Q .normal a w) (hs : St ρ0 N B w0 (vcT P cs anc [] (mkT bar anc cs.length cs.length []) K) a w) : (Code.region id ops true).wp P Q a w := by
  obtain ⟨ρ, e, h, h1, h2, h3, h4, h5⟩ := hs
  have hl : cs.length = ops.size := by have := (ocomps_get hcs).1; rw [← this]; simp
  rw [hl] at h5
  refine wp_region_any hm (draw_anyT (K := K) hcs hok hQ ops.size _ a _ (by simp) ?_ ?_)
  · have : ((List.range ops.size).filter fun i => (Array.replicate ops.size false).getD i true) = [] := by
      rw [List.filter_eq_nil_iff]
      intro i hi
      have := List.mem_range.1 hi
      simp [Array.getD, this]
    rw [this]; simp
  · exact ⟨ρ, ops.size, [], e, e, h, h1, h2.same rfl, h3, h4.trans ⟨rfl, rfl, rfl, Nat.le_refl _, fun _ _ => rfl⟩, init_tinv h5⟩

theorem seqK_then {next : Env → IH → Prop} {K : EPost} {R : Act → World → Prop} (hR : ∀ a w, St ρ0 N B w0 next a w → R a w) (ex : Exit) (a : Act) (w : World) (hp : Post ρ0 N B w0 (seqK next K) ex a w) :
    Exit.then R (Post ρ0 N B w0 K) ex a w := by
  cases ex <;> first | exact hR a w hp | exact hp

theorem vc_sound : ∀ (c : Code) {cc : CC}, ccomp P N c = some cc → ∀ {K : EPost} {a : Act} {w : World}, St ρ0 N B w0 (vc P cc K) a w → c.wp P (Post ρ0 N B w0 K) a w := by
  intro c
  induction c with
  | skip => intro cc hc K a w hs; simp [ccomp] at hc; subst hc; exact wp_skip hs
  | ret => intro cc hc K a w hs; simp [ccomp] at hc; subst hc; exact wp_ret hs
  | exit id => intro cc hc K a w hs; simp [ccomp] at hc; subst hc; exact wp_exit hs
  | region id ops draw =>
    intro cc hc K a w hs
    cases draw with
    | false =>
      simp only [ccomp] at hc
      rw [Option.map_eq_some_iff] at hc
      obtain ⟨cs, hcs, rfl⟩ := hc
      refine wp_region ?_
      rw [List.range_eq_range']
      exact ops_sound (ρ0 := ρ0) (B := B) (w0 := w0) hcs (fun a w h => h) ops.size 0 (by simp) a w (by rw [List.drop_zero]; exact hs)
    | true =>
      simp only [ccomp] at hc
      split at hc
      · rename_i cs hcs
        split at hc
        · rename_i hd
          obtain rfl := Option.some.inj hc
          simp only [Bool.and_eq_true] at hd
          exact region_draw hd.2 hcs (dCheck_ok hd.1) (fun a w h => h) hs
        · split at hc
          · rename_i hd
            obtain rfl := Option.some.inj hc
            simp only [Bool.and_eq_true] at hd
            exact region_drawT hd.2 hcs (tCheck_ok hd.1) (fun a w h => h) hs
          · cases hc
      · cases hc
  | seq x y ihx ihy =>
    intro cc hc K a w hs
    simp only [ccomp] at hc
    split at hc
    · rename_i x' y' hx hy
      obtain rfl := Option.some.inj hc
      exact wp_seq (wp_mono (ihx hx hs) (fun ex a w hp => seqK_then (fun a w h => ihy hy h) ex a w hp))
    · cases hc
  | cond c x y ihx ihy =>
    intro cc hc K a w hs
    simp only [ccomp] at hc
    split at hc
    · rename_i c' x' y' hcx hx hy
      obtain rfl := Option.some.inj hc
      obtain ⟨ρ, e, h, h1, h2, h3, h4, h5⟩ := hs
      simp only [vc, vcCond] at h5
      split at h5
      · rename_i b hb
        have hr := cx_rel hcx h3
        rw [hb] at hr
        generalize hev : a.eval c = cv at hr
        cases hr
        exact wp_cond_split hev (fun ht => ihx hx ⟨ρ, e, h, h1, h2, h3, h4, h5.1 ht⟩) (fun hf => ihy hy ⟨ρ, e, h, h1, h2, h3, h4, h5.2 hf⟩)
      · exact h5.elim
    · cases hc
  | block id x ih =>
    intro cc hc K a w hs
    simp only [ccomp] at hc
    rw [Option.map_eq_some_iff] at hc
    obtain ⟨x', hx, rfl⟩ := hc
    refine wp_block (wp_mono (ih hx hs) (fun ex a w hp => ?_))
    cases ex with
    | exit id' =>
      have hp' : St ρ0 N B w0 (fun e h => if id' = id then K .normal e h else K (.exit id') e h) a w := hp
      simp only [Exit.inBlock]
      split
      · rename_i h0; simp only [if_pos h0] at hp'; exact hp'
      · rename_i h0; simp only [if_neg h0] at hp'; exact hp'
    | _ => exact hp
  | loop x ih =>
    intro cc hc K a w hs
    simp only [ccomp] at hc
    rw [Option.map_eq_some_iff] at hc
    obtain ⟨x', hx, rfl⟩ := hc
    obtain ⟨ρ, e, h, h1, h2, h3, h4, I, ⟨n, hn⟩, hround⟩ := hs
    refine wp_loop_idx (fun n => St ρ0 N B w0 (I n)) ⟨n, ρ, e, h, h1, h2, h3, h4, hn⟩ (fun n a w hI => ?_)
    refine wp_mono (ih hx (hI.mono (fun e h hi => hround n e h hi))) (fun ex a w hp => seqK_then (fun a w hst => ?_) ex a w hp)
    obtain ⟨ρ', e', h', k1, k2, k3, k4, m, hm, hI'⟩ := hst
    exact ⟨m, hm, ρ', e', h', k1, k2, k3, k4, hI'⟩
  | rangeFunc => intro cc hc; simp [ccomp] at hc
  | scope => intro cc hc; simp [ccomp] at hc
  | label => intro cc hc; simp [ccomp] at hc
  | goto => intro cc hc; simp [ccomp] at hc
  | refuse => intro cc hc; simp [ccomp] at hc

/-! Functions. -/
theorem resVs_sound (hw : WRel ρ B w h) (ha : ARel ρ N a e) : ∀ {l : List ResultVar} {ks : List FK} {vs : List IV}, rcomps P l = some ks → resVs e h ks = some vs →
    ∃ us : List Value, (l.mapM (fun | .tmp t => pure (a.tmps.getD t undef) | .cell b t => do loadVar t (← asAddr (a.tmps.getD b undef)) : ResultVar → Sem Value)).run P w = .ok us w ∧ LRel ρ us vs
  | [], ks, vs, hk, hv => by
    simp [rcomps] at hk; subst hk
    simp [resVs] at hv; subst hv
    exact ⟨[], by simp, LRel.nil ρ⟩
  | r :: l, ks, vs, hk, hv => by
    simp only [rcomps] at hk
    split at hk
    · rename_i k ks' h1 h2
      obtain rfl := Option.some.inj hk
      simp only [resVs] at hv
      split at hv
      · rename_i v vs' h3 h4
        obtain rfl := Option.some.inj hv
        obtain ⟨us, g1, g2⟩ := resVs_sound hw ha h2 h4
        have hone : ∃ u, ((match r with | .tmp t => pure (a.tmps.getD t undef) | .cell b t => do loadVar t (← asAddr (a.tmps.getD b undef))) : Sem Value).run P w = .ok u w ∧ VRel ρ u v := by
          cases r with
          | tmp t =>
            simp [rcomp] at h1; subst h1
            simp [feval, CX.ev] at h3; subst h3
            exact ⟨_, rfl, ha.val t⟩
          | cell b t =>
            simp only [rcomp] at h1
            split at h1
            · rename_i d n hd hn
              obtain rfl := Option.some.inj h1
              have hb := ha.val b
              cases hagg : isAggD d
              · simp only [hagg, Bool.false_eq_true, if_false, feval, CX.ev] at h3
                split at h3
                · rename_i l i k hp
                  rw [hp] at hb
                  obtain ⟨v', k1, k2⟩ := ld_sound (P := P) hw hd hagg hb h3
                  refine ⟨v', ?_, k2⟩
                  simp only
                  generalize a.tmps.getD b undef = x at hb k1 ⊢
                  cases hb
                  simpa [Instr.loadAt, Instr.sureAddr, asAddr] using k1
                · cases h3
              · simp only [hagg, if_true, feval, CX.ev] at h3
                split at h3
                · rename_i l i k hp
                  rw [hp] at hb
                  split at h3
                  · rename_i row hrow
                    split at h3
                    · rename_i hk'
                      obtain rfl := Option.some.inj h3
                      obtain ⟨v', k1, k2⟩ := ldA_sound (P := P) hw hd hagg hn hb hrow hk'
                      refine ⟨v', ?_, k2⟩
                      simp only
                      generalize a.tmps.getD b undef = x at hb k1 ⊢
                      cases hb
                      simpa [Instr.loadAt, Instr.sureAddr, asAddr] using k1
                    · cases h3
                  · cases h3
                · cases h3
            · cases h1
        obtain ⟨u, k1, k2⟩ := hone
        refine ⟨u :: us, ?_, LRel.cons k2 g2⟩
        simp only [List.mapM_cons, Sem.run_bind, k1, Result.andThen_ok, g1, Sem.run_pure]
      · cases hv
    · cases hk

theorem results_sound (hw : WRel ρ B w h) (ha : ARel ρ N a e) {fn : Func} {ks : List FK} {vs : List IV} (hk : rcomps P fn.results.toList = some ks) (hv : resVs e h ks = some vs) :
    ∃ u, (results fn a.tmps).run P w = .ok u w ∧ VRel ρ u (resV vs) := by
  obtain ⟨us, h1, h2⟩ := resVs_sound hw ha hk hv
  have hrun : (fn.results.mapM (fun | .tmp t => pure (a.tmps.getD t undef) | .cell b t => do loadVar t (← asAddr (a.tmps.getD b undef)) : ResultVar → Sem Value)).run P w = .ok us.toArray w := by
    rw [Array.mapM_eq_mapM_toList, Sem.run_map, h1]; rfl
  refine ⟨if h : us.toArray.size = 1 then us.toArray[0] else .tuple us.toArray, ?_, ?_⟩
  · have h3 : (results fn a.tmps).run P w = ((fn.results.mapM (fun | .tmp t => pure (a.tmps.getD t undef) | .cell b t => do loadVar t (← asAddr (a.tmps.getD b undef)) : ResultVar → Sem Value)).run P w).andThen fun vs w' => .ok (if h : vs.size = 1 then vs[0] else .tuple vs) w' := by
      unfold results
      simp only [Sem.run_bind, Sem.run_pure]
      rfl
    rw [h3, hrun]
    rfl
  · have hlen := h2.1
    split
    · rename_i h0
      match us, vs, h2 with
      | [u], [v], h2 => exact h2.head
      | [], _, _ => simp at h0
      | _ :: _ :: _, _, _ => simp at h0
      | [_], [], h2 => simp [LRel] at h2
      | [_], _ :: _ :: _, h2 => simp [LRel] at h2
    · rename_i h0
      match vs, hlen, h2 with
      | [v], hlen, h2 => exact absurd (by simpa using hlen) h0
      | [], _, h2 => exact LRel.tuple (by simpa using h2)
      | _ :: _ :: _, _, h2 => exact LRel.tuple (by simpa using h2)

/-- What is known of a function's text. -/
structure FnOk (P : Program) (f : Nat) (N : Nat) (cc : CC) (rs : List FK) : Prop where
  ok : ∃ fn c, P.funcs[f]? = some fn ∧ fn.body = some c ∧ fn.name ≠ "runtime.NumGoroutine" ∧ fn.ntmps = N ∧ ccomp P N c = some cc ∧ rcomps P fn.results.toList = some rs

/-- A function's text in its small form: its places, its code, its results. -/
def fnComp (P : Program) (f : Nat) : Option (Nat × CC × List FK) :=
  match P.funcs[f]? with
  | some fn => match fn.body with
    | some c => match ccomp P fn.ntmps c, rcomps P fn.results.toList with
      | some cc, some rs => if fn.name != "runtime.NumGoroutine" then some (fn.ntmps, cc, rs) else none
      | _, _ => none
    | none => none
  | none => none
theorem FnOk.of {f N : Nat} {cc : CC} {rs : List FK} (hc : fnComp P f = some (N, cc, rs)) : FnOk P f N cc rs := by
  unfold fnComp at hc
  split at hc
  · rename_i fn h1
    split at hc
    · rename_i c h2
      split at hc
      · rename_i cc' rs' h3 h4
        split at hc
        · rename_i h5
          obtain ⟨rfl, rfl, rfl⟩ := by simpa using hc
          exact ⟨fn, c, h1, h2, by simpa using h5, rfl, h3, h4⟩
        · cases hc
      · cases hc
    · cases hc
  · cases hc

/-- THE RULE: a function's contract out of its verification condition. -/
theorem icalls {f : Nat} {cc : CC} {rs : List FK} (hf : FnOk P f N cc rs) {args : List IV} {Q : IV → IH → Prop} (hN : args.length ≤ N) (hv : vc P cc (retK rs Q) (env0 args) h) : ICalls P f args h Q := by
  intro ρ B w args' hw hargs
  obtain ⟨fn, c, h1, h2, h3, h4, h5, h6⟩ := hf.ok
  subst h4
  have hcall : (callFunc f args').run P w = .ok (.enter f args') w := by
    simp [callFunc, h1, h2, h3]
  rw [hcall]
  simp only [UponF]
  have hsz : args'.size = args.length := by have := hargs.1; simpa using this
  refine calls_of_wp h1 h2 ?_
  have harel : ARel ρ fn.ntmps { tmps := args' ++ Array.replicate (fn.ntmps - args'.size) undef, defers := [] } (env0 args) := by
    refine ⟨by simp; omega, rfl, fun t => ?_⟩
    simp only [env0]
    rw [Array.getD_eq_getD_getElem?, List.getD_eq_getElem?_getD]
    by_cases ht : t < args'.size
    · rw [Array.getElem?_append_left ht]
      have h7 : args'.toList[t]? = some args'[t] := by simp [ht]
      have h8 : args[t]? = some (args[t]'(by omega)) := List.getElem?_eq_getElem _
      have := hargs.2 t _ _ h7 h8
      rw [Array.getElem?_eq_getElem ht, h8]
      exact this
    · rw [Array.getElem?_append_right (by omega), List.getElem?_eq_none (by omega)]
      have : (Array.replicate (fn.ntmps - args'.size) undef)[t - args'.size]?.getD undef = undef := by
        rw [Array.getElem?_replicate]; split <;> rfl
      rw [this]
      exact undef_rel ρ
  have hwp := vc_sound (ρ0 := ρ) (B := B) (w0 := w) c h5 (K := retK rs Q) ⟨ρ, env0 args, h, List.prefix_refl _, hw, harel, Below.refl _ _, hv⟩
  refine wp_mono hwp (fun ex a w' hp => ?_)
  obtain ⟨ρ', e', h', k1, k2, k3, k4, k5⟩ := hp
  have key : ∀ {vs : List IV}, resVs e' h' rs = some vs → Q (resV vs) h' → a.defers = [] ∧ ∃ v, (results fn a.tmps).run P w' = .ok v w' ∧ Out ρ B w Q v w' := by
    intro vs hvs hq
    obtain ⟨u, g1, g2⟩ := results_sound (P := P) k2 k3 h6 hvs
    exact ⟨k3.defers, u, g1, ρ', _, h', k1, k2, g2, k4, hq⟩
  cases ex with
  | normal =>
    simp only [retK] at k5
    split at k5
    · rename_i vs hvs; exact key hvs k5
    · exact k5.elim
  | ret =>
    simp only [retK] at k5
    split at k5
    · rename_i vs hvs; exact key hvs k5
    · exact k5.elim
  | exit id => exact k5.elim
  | goto l => exact k5.elim
  | panic ch => exact k5.elim
  | outgrown => exact k5.elim

end
end Go.IW
