/- Every operation that writes nothing: its small form is good. -/
import Derived.Test.YtcmcfmgabafljaaDoorIwE
set_option linter.unusedVariables false
set_option linter.unusedSimpArgs false
namespace Go.IW
open Go.RowKit

def Gives (P : Program) (o : Oper) (a : Act) (w : World) (ρ : List RLoc) (v : IV) : Prop := ∃ v', (execOp a.eval o).run P w = .ok (.value v') w ∧ VRel ρ v' v

section
variable {P : Program} {ρ : List RLoc} {B : Nat} {w : World} {h : IH} {N : Nat} {a : Act} {e : Env}

theorem Answers.gives {s : Sem Value} {v : IV} (hs : Answers P s w ρ v) : ∃ v', (Bind.bind s (fun x => (Pure.pure (Next.value x) : Sem Next))).run P w = .ok (Next.value v') w ∧ VRel ρ v' v := by
  obtain ⟨v', h1, h2⟩ := hs
  exact ⟨v', by simp [h1], h2⟩

theorem cxs_rel (ha : ARel ρ N a e) : ∀ {l : List Operand} {l' : List CX}, cxs l = some l' → LRel ρ (l.map a.eval) (l'.map (CX.ev e))
  | [], l', h => by simp [cxs] at h; subst h; exact LRel.nil ρ
  | x :: l, l', h => by
    simp only [cxs] at h
    split at h
    · rename_i x' l1 h1 h2
      obtain rfl := Option.some.inj h
      exact LRel.cons (cx_rel h1 ha) (cxs_rel ha h2)
    · cases h

theorem placesS_rel (ha : ARel ρ N a e) {fs : Array Field} : ∀ {l : List (Nat × Operand)} {l' : List (Nat × Nat × CX)}, placesS P fs l = some l' →
    l.length = l'.length ∧ ∀ (i : Nat) p q, l[i]? = some p → l'[i]? = some q → (∃ f, fs[p.1]? = some f ∧ f.offset = q.1 ∧ tsz P f.type = some q.2.1) ∧ VRel ρ (a.eval p.2) (q.2.2.ev e)
  | [], l', h => by simp [placesS] at h; subst h; simp
  | (i, x) :: r, l', h => by
    simp only [placesS] at h
    split at h
    · rename_i f x' r' h1 h2 h3
      rw [Option.map_eq_some_iff] at h
      obtain ⟨n, hn, rfl⟩ := h
      obtain ⟨hl, ih⟩ := placesS_rel ha h3
      refine ⟨by simp [hl], fun j p q hp hq => ?_⟩
      cases j with
      | zero => simp at hp hq; subst hp; subst hq; exact ⟨⟨f, h1, rfl, hn⟩, cx_rel h2 ha⟩
      | succ j => simp at hp hq; exact ih j p q hp hq
    · cases h

theorem placesA_rel (ha : ARel ρ N a e) {sz : Nat} : ∀ {l : List (Nat × Operand)} {l' : List (Nat × Nat × CX)}, placesA sz l = some l' →
    l.length = l'.length ∧ ∀ (i : Nat) p q, l[i]? = some p → l'[i]? = some q → (q.1 = p.1 * sz ∧ q.2.1 = sz) ∧ VRel ρ (a.eval p.2) (q.2.2.ev e)
  | [], l', h => by simp [placesA] at h; subst h; simp
  | (i, x) :: r, l', h => by
    simp only [placesA] at h
    split at h
    · rename_i x' r' h2 h3
      obtain rfl := Option.some.inj h
      obtain ⟨hl, ih⟩ := placesA_rel ha h3
      refine ⟨by simp [hl], fun j p q hp hq => ?_⟩
      cases j with
      | zero => simp at hp hq; subst hp; subst hq; exact ⟨⟨rfl, rfl⟩, cx_rel h2 ha⟩
      | succ j => simp at hp hq; exact ih j p q hp hq
    · cases h

theorem zeroOf_rel {t : TypeId} {z' : List IV} (h : zeroOf P t = some z') (ρ : List RLoc) : ∃ z, (zeroValue t).run P w = .ok z w ∧ LRel ρ z.cells.toList z' ∧ (P.info? t).bind (·.zero) = some z := by
  unfold zeroOf at h
  split at h
  · rename_i z hz
    refine ⟨z, ?_, cvs_rel h ρ, hz⟩
    cases hi : P.info? t with
    | none => rw [hi] at hz; cases hz
    | some i => rw [hi] at hz; simp at hz; simp [zeroValue, typeInfo, hi, hz]
  · cases h

theorem run_mapM_places {fs : Array Field} (h : allTsz P fs = true) : ∃ ps : Array (Nat × Nat), (fs.mapM fun f => do pure (f.offset, ← sizeOf f.type) : Sem (Array (Nat × Nat))).run P w = .ok ps w ∧
    ∀ (i : Nat) f n, fs[i]? = some f → tsz P f.type = some n → ps[i]? = some (f.offset, n) := by
  have hall : ∀ f ∈ fs.toList, ∃ n, tsz P f.type = some n := by
    intro f hf
    unfold allTsz at h
    have := List.all_eq_true.1 h f hf
    exact Option.isSome_iff_exists.1 this
  have key : ∀ (l : List Field), (∀ f ∈ l, ∃ n, tsz P f.type = some n) → ∃ ps : List (Nat × Nat), (l.mapM fun f => do pure (f.offset, ← sizeOf f.type) : Sem (List (Nat × Nat))).run P w = .ok ps w ∧
      ∀ (i : Nat) f n, l[i]? = some f → tsz P f.type = some n → ps[i]? = some (f.offset, n) := by
    intro l
    induction l with
    | nil => intro _; exact ⟨[], by simp, fun i f n hi => by simp at hi⟩
    | cons f l ih =>
      intro hl
      obtain ⟨n, hn⟩ := hl f (List.mem_cons_self)
      obtain ⟨ps, h1, h2⟩ := ih (fun g hg => hl g (List.mem_cons_of_mem _ hg))
      refine ⟨(f.offset, n) :: ps, ?_, fun i g m hi hm => ?_⟩
      · simp only [List.mapM_cons, Sem.run_bind, run_sizeOf' hn, Result.andThen_ok, Sem.run_pure, h1]
      · cases i with
        | zero => simp at hi; subst hi; rw [hn] at hm; cases hm; rfl
        | succ i => simp at hi ⊢; exact h2 i g m hi hm
  obtain ⟨ps, h1, h2⟩ := key fs.toList hall
  refine ⟨ps.toArray, ?_, fun i f n hi hn => by simpa using h2 i f n (by simpa using hi) hn⟩
  rw [Array.mapM_eq_mapM_toList, Sem.run_map, h1]
  rfl

theorem ibin_plain {op : BinOp} {x : Value} {x' y' v : IV} (hx : VRel ρ x x') (hv : ibin op x' y' = some v) : (x ≠ .nilIface ∧ ∀ cs, x ≠ .agg cs) ∧ True := by
  refine ⟨?_, trivial⟩
  cases hx <;> simp [ibin] at hv <;> simp
theorem ibinB_plain {g : Bool} {x : Value} {x' y' v : IV} (hx : VRel ρ x x') (hv : ibinB g x' y' = some v) : x ≠ .nilIface ∧ ∀ cs, x ≠ .agg cs := by
  cases hx <;> simp [ibinB] at hv <;> simp
theorem eqGuard_plain {op : BinOp} {t : TypeId} {x y : Operand} {p q : Value} (hp : p ≠ .nilIface ∧ ∀ cs, p ≠ .agg cs) : (eqGuard op t x y p q).run P w = .ok () w := by
  cases p <;> first
    | exact absurd rfl hp.1
    | exact absurd rfl (hp.2 _)
    | (cases op <;> simp [eqGuard])
theorem eqGuard_nil {op : BinOp} {k : NK} {t : TypeId} {x y : Operand} {p q : Value} {p' : IV} {b : Bool} (hp : VRel ρ p p') (hn : isNil k p' = some b) (hc : k = .iface → (isConstO x || isConstO y) = true) :
    (eqGuard op t x y p q).run P w = .ok () w := by
  cases hp with
  | niliface =>
    have hk : k = .iface := by cases k <;> simp [isNil] at hn; rfl
    have h1 := hc hk
    cases q <;> first
      | (cases op <;> simp [eqGuard]; done)
      | (cases x <;> cases y <;> simp [isConstO] at h1 <;> cases op <;> simp [eqGuard])
  | agg hl h => cases k <;> simp [isNil] at hn
  | _ => cases op <;> simp [eqGuard]
theorem size_rel (hw : WRel ρ B w h) {l : Nat} {r : RLoc} {n : Nat} (hr : ρ[l]? = some r) (hs : h.size l = some n) : r.sz = n := by
  have := hw.obj l r hr
  unfold IH.size at hs
  cases ho : h.obj l with
  | dead => rw [ho] at hs; simp at hs
  | rows rs e' sz' ro =>
    rw [ho] at hs this
    simp at hs
    subst hs
    obtain ⟨_, _, _, _, hrel⟩ := this
    exact hrel.hsz

theorem fk_sound (hw : WRel ρ B w h) (ha : ARel ρ N a e) {o : Oper} {ck : FK} {v : IV} (hc : fcomp P o.op = some ck) (hv : feval e h ck = some v) : Gives P o a w ρ v := by
  unfold Gives
  generalize hop : o.op = op at hc
  unfold fcomp at hc
  split at hc
  · -- move
    rw [Option.map_eq_some_iff] at hc; obtain ⟨x', hx, rfl⟩ := hc
    simp only [feval] at hv; obtain rfl := Option.some.inj hv
    exact ⟨_, by simp [execOp, hop], cx_rel hx ha⟩
  · -- assign
    rw [Option.map_eq_some_iff] at hc; obtain ⟨x', hx, rfl⟩ := hc
    simp only [feval] at hv; obtain rfl := Option.some.inj hv
    exact ⟨_, by simp [execOp, hop], cx_rel hx ha⟩
  · -- pick
    split at hc
    · rename_i c' a' b' h1 h2 h3
      obtain rfl := Option.some.inj hc
      have r1 := cx_rel h1 ha
      simp only [feval] at hv
      split at hv
      · rename_i hb
        obtain rfl := Option.some.inj hv
        rw [hb] at r1
        generalize hcv : a.eval _ = cv at r1
        cases r1
        exact ⟨_, by simp [execOp, hop, asBool, hcv], cx_rel h2 ha⟩
      · rename_i hb
        obtain rfl := Option.some.inj hv
        rw [hb] at r1
        generalize hcv : a.eval _ = cv at r1
        cases r1
        exact ⟨_, by simp [execOp, hop, asBool, hcv], cx_rel h3 ha⟩
      · cases hv
    · cases hc
  · -- build
    rename_i t parts
    split at hc
    · rename_i fs z' ht hz
      split at hc
      · rename_i hall
        rw [Option.map_eq_some_iff] at hc; obtain ⟨ps', hps, rfl⟩ := hc
        simp only [feval] at hv
        rw [Option.map_eq_some_iff] at hv; obtain ⟨out, hout, rfl⟩ := hv
        obtain ⟨z, hz1, hz2, _⟩ := zeroOf_rel (w := w) hz ρ
        obtain ⟨pl, hpl1, hpl2⟩ := run_mapM_places (w := w) hall
        obtain ⟨hl, hp⟩ := placesS_rel ha hps
        obtain ⟨cells, hc1, hc2⟩ := fill_sound (ρ := ρ) (pl[·]?) (parts.toList.map fun p => (p.1, a.eval p.2)) (ps'.map fun p => (p.1, p.2.1, p.2.2.ev e)) z.cells.toList z' out (by simp [hl])
          (fun i p q h1 h2 => by
            rw [List.getElem?_map, Option.map_eq_some_iff] at h1 h2
            obtain ⟨p0, hp0, rfl⟩ := h1
            obtain ⟨q0, hq0, rfl⟩ := h2
            obtain ⟨⟨f, hf1, hf2, hf3⟩, hr⟩ := hp i p0 q0 hp0 hq0
            exact ⟨by rw [← hf2]; exact hpl2 _ f _ hf1 hf3, hr⟩) hz2 hout
        have hparts : (parts.map fun p => (p.1, a.eval p.2)).toList = parts.toList.map fun p => (p.1, a.eval p.2) := by simp
        refine ⟨.agg cells.toArray, ?_, LRel.agg (by simpa using hc2)⟩
        have hzt : z.cells.toList.toArray = z.cells := by simp
        rw [hzt] at hc1
        simp only [execOp, hop, Instr.build, Sem.run_bind, hz1, Result.andThen_ok, run_underlying ht, hpl1, hparts, hc1, Sem.run_pure]
      · cases hc
    · rename_i len el z' ht hz
      split at hc
      · rename_i sz hsz
        rw [Option.map_eq_some_iff] at hc; obtain ⟨ps', hps, rfl⟩ := hc
        simp only [feval] at hv
        rw [Option.map_eq_some_iff] at hv; obtain ⟨out, hout, rfl⟩ := hv
        obtain ⟨z, hz1, hz2, _⟩ := zeroOf_rel (w := w) hz ρ
        obtain ⟨hl, hp⟩ := placesA_rel ha hps
        obtain ⟨cells, hc1, hc2⟩ := fill_sound (ρ := ρ) (fun i => some (i * sz, sz)) (parts.toList.map fun p => (p.1, a.eval p.2)) (ps'.map fun p => (p.1, p.2.1, p.2.2.ev e)) z.cells.toList z' out (by simp [hl])
          (fun i p q h1 h2 => by
            rw [List.getElem?_map, Option.map_eq_some_iff] at h1 h2
            obtain ⟨p0, hp0, rfl⟩ := h1
            obtain ⟨q0, hq0, rfl⟩ := h2
            obtain ⟨⟨hf1, hf2⟩, hr⟩ := hp i p0 q0 hp0 hq0
            exact ⟨by simp [hf1, hf2], hr⟩) hz2 hout
        have hparts : (parts.map fun p => (p.1, a.eval p.2)).toList = parts.toList.map fun p => (p.1, a.eval p.2) := by simp
        refine ⟨.agg cells.toArray, ?_, LRel.agg (by simpa using hc2)⟩
        have hzt : z.cells.toList.toArray = z.cells := by simp
        rw [hzt] at hc1
        simp only [execOp, hop, Instr.build, Sem.run_bind, hz1, Result.andThen_ok, run_underlying ht, run_sizeOf' hsz, hparts, hc1, Sem.run_pure]
      · cases hc
    · cases hc
  · -- load
    split at hc
    · rename_i d n x' ht hn hx
      obtain rfl := Option.some.inj hc
      have hr := cx_rel hx ha
      cases hagg : isAggD d
      · simp only [hagg, feval, Bool.false_eq_true, if_false] at hv
        split at hv
        · rename_i l i k hp
          rw [hp] at hr
          simpa [execOp, hop] using (ld_sound hw ht hagg hr hv).gives
        · cases hv
      · simp only [hagg, feval, if_true] at hv
        split at hv
        · rename_i l i k hp
          rw [hp] at hr
          split at hv
          · rename_i row hrow
            split at hv
            · rename_i hk
              obtain rfl := Option.some.inj hv
              simpa [execOp, hop] using (ldA_sound hw ht hagg hn hr hrow hk).gives
            · cases hv
          · cases hv
        · cases hv
    · cases hc
  · -- nilCheck
    rw [Option.map_eq_some_iff] at hc; obtain ⟨x', hx, rfl⟩ := hc
    have hr := cx_rel hx ha
    simp only [feval] at hv
    rename_i x
    generalize hax : a.eval x = xv at hr
    split at hv
    all_goals first
      | (rename_i hp; rw [hp] at hr; obtain rfl := Option.some.inj hv; refine ⟨xv, ?_, hr⟩; cases hr <;> simp [execOp, hop, hax]; done)
      | cases hv
  · -- binOp
    rename_i bop t x y yt
    split at hc
    · rename_i k x' y' ht hx hy
      obtain rfl := Option.some.inj hc
      simp only [feval] at hv
      obtain ⟨v', h1, h2⟩ := ibin_sound (P := P) (w := w) (t := t) (cx_rel hx ha) (cx_rel hy ha) hv
      refine ⟨v', ?_, h2⟩
      simp only [execOp, hop, Sem.run_bind, eqGuard_plain (ibin_plain (cx_rel hx ha) hv).1, Result.andThen_ok, h1, Sem.run_pure]
    · rename_i x' y' ht hx hy
      obtain rfl := Option.some.inj hc
      simp only [feval] at hv
      obtain ⟨v', h1, h2⟩ := ibin_sound (P := P) (w := w) (t := t) (cx_rel hx ha) (cx_rel hy ha) hv
      refine ⟨v', ?_, h2⟩
      simp only [execOp, hop, Sem.run_bind, eqGuard_plain (ibin_plain (cx_rel hx ha) hv).1, Result.andThen_ok, h1, Sem.run_pure]
    · rename_i x' y' ht hx hy
      rw [Option.map_eq_some_iff] at hc; obtain ⟨g, hg, rfl⟩ := hc
      simp only [feval] at hv
      obtain ⟨v', h1, h2⟩ := ibinB_sound (P := P) (w := w) (cx_rel hx ha) (cx_rel hy ha) hg hv ht
      refine ⟨v', ?_, h2⟩
      simp only [execOp, hop, Sem.run_bind, eqGuard_plain (ibinB_plain (cx_rel hx ha) hv), Result.andThen_ok, h1, Sem.run_pure]
    · rename_i d x' y' hd1 hd2 hd3 ht hx hy
      split at hc
      · rename_i k g hk hg
        split at hc
        · cases hc
        · rename_i hconst
          obtain rfl := Option.some.inj hc
          simp only [feval] at hv
          have hnil : ∃ p q, isNil k (x'.ev e) = some p ∧ isNil k (y'.ev e) = some q ∧ (p = true ∨ q = true) ∧ v = .bool ((p && q) != g) := by
            split at hv
            · rename_i q h1 h2; exact ⟨true, q, h1, h2, .inl rfl, by have := Option.some.inj hv; simp [← this]⟩
            · rename_i p _ h1 h2; exact ⟨p, true, h1, h2, .inr rfl, by have := Option.some.inj hv; simp [← this]⟩
            · cases hv
          obtain ⟨p, q, hp, hq, hpq, rfl⟩ := hnil
          obtain ⟨v', h1, h2⟩ := eqn_sound (P := P) (w := w) (cx_rel hx ha) (cx_rel hy ha) hg ht hk hp hq hpq
          refine ⟨v', ?_, h2⟩
          have hgu : (eqGuard bop t x y (a.eval x) (a.eval y)).run P w = .ok () w := by
            apply eqGuard_nil (cx_rel hx ha) hp
            intro hki
            subst hki
            cases hx1 : isConstO x <;> cases hy1 : isConstO y <;> simp_all
          simp only [execOp, hop, Sem.run_bind, hgu, Result.andThen_ok, h1, Sem.run_pure]
      · cases hc
    · cases hc
  · -- unOp
    rw [Option.map_eq_some_iff] at hc; obtain ⟨x', hx, rfl⟩ := hc
    simp only [feval] at hv
    simpa [execOp, hop] using (iun_sound (P := P) (w := w) (cx_rel hx ha) hv).gives
  · -- convert
    split at hc
    · rename_i k1 k x' hs hd hx
      obtain rfl := Option.some.inj hc
      simp only [feval] at hv
      split at hv
      · rename_i k0 n hp
        have hr := cx_rel hx ha
        rw [hp] at hr
        obtain rfl := Option.some.inj hv
        generalize hax : a.eval _ = xv at hr
        cases hr
        exact ⟨_, by simp [execOp, hop, hax, convert, run_underlying hs, run_underlying hd, Conv.intToInt]; rfl, VRel.int _ _⟩
      · cases hv
    · rename_i x' hs hd hx
      obtain rfl := Option.some.inj hc
      simp only [feval] at hv
      split at hv
      · rename_i s hp
        have hr := cx_rel hx ha
        rw [hp] at hr
        obtain rfl := Option.some.inj hv
        generalize hax : a.eval _ = xv at hr
        generalize hsv : IV.str s = sv at hr
        cases hr <;> cases hsv
        exact ⟨_, by simp [execOp, hop, hax, convert, run_underlying hs, run_underlying hd], VRel.str _⟩
      · cases hv
    · rename_i el x' hs hd hx
      split at hc
      · rename_i he
        obtain rfl := Option.some.inj hc
        simp only [feval] at hv
        have hr := cx_rel hx ha
        split at hv
        · rename_i hp; rw [hp] at hr; obtain rfl := Option.some.inj hv
          simpa [execOp, hop] using (b2s_empty (P := P) (w := w) hs he hd hr rfl).gives
        · rename_i hp; rw [hp] at hr; obtain rfl := Option.some.inj hv
          simpa [execOp, hop] using (b2s_empty (P := P) (w := w) hs he hd hr rfl).gives
        · rename_i l i n hp; rw [hp] at hr
          split at hv
          · rename_i rs t sz ro hobj
            split at hv
            · rename_i hcond
              obtain ⟨rfl, hin⟩ := hcond
              rw [Option.map_eq_some_iff] at hv; obtain ⟨s, hs', rfl⟩ := hv
              simpa [execOp, hop] using (b2s_sound hw hs he hd hr hobj hin hs').gives
            · cases hv
          · cases hv
        · cases hv
      · cases hc
    · cases hc
  · -- extract
    rw [Option.map_eq_some_iff] at hc; obtain ⟨x', hx, rfl⟩ := hc
    simp only [feval] at hv
    split at hv
    · rename_i vs hp
      have hr := cx_rel hx ha
      rw [hp] at hr
      obtain ⟨cs, hcs, hl⟩ := hr.of_tuple
      obtain ⟨v', h1, h2⟩ := hl.of_get' hv
      rw [Array.getElem?_toList] at h1
      exact ⟨v', by simp [execOp, hop, hcs, Instr.extract, h1], h2⟩
    · cases hv
  · -- field
    split at hc
    · rename_i fs x' ht hx
      split at hc
      · rename_i f hf
        split at hc
        · rename_i d n hd hn
          obtain rfl := Option.some.inj hc
          simp only [feval] at hv
          split at hv
          · rename_i cs' hp
            have hr := cx_rel hx ha
            rw [hp] at hr
            obtain ⟨cs, hcs, hl⟩ := hr.of_agg
            obtain ⟨v', h1, h2⟩ := part_sound (P := P) (w := w) hd hn hl hv
            exact ⟨v', by simp [execOp, hop, Instr.field, run_underlying ht, hf, hcs, asAgg, h1], h2⟩
          · cases hv
        · cases hc
      · cases hc
    · cases hc
  · -- fieldAddr
    split at hc
    · rename_i fs x' ht hx
      split at hc
      · rename_i f hf
        split at hc
        · rename_i n hn
          obtain rfl := Option.some.inj hc
          simp only [feval] at hv
          split at hv
          · rename_i l i k hp
            have hr := cx_rel hx ha
            rw [hp] at hr
            obtain rfl := Option.some.inj hv
            generalize hax : a.eval _ = xv at hr
            cases hr with
            | @ptr l i k r hr =>
              refine ⟨.pointer (some ⟨r.block, r.base + i * r.sz + (k + f.offset), none⟩), ?_, VRel.ptr hr⟩
              simp [execOp, hop, hax, Instr.fieldAt, run_underlying ht, hf, Instr.sureAddr, fieldPlace, run_sizeOf' hn, addr_add, Nat.add_assoc]
          · cases hv
        · cases hc
      · cases hc
    · cases hc
  · -- indexAddr
    split at hc
    · rename_i el x' i' ht hx hi
      rw [Option.map_eq_some_iff] at hc; obtain ⟨n, hn, rfl⟩ := hc
      simp only [feval] at hv
      split at hv
      · rename_i l j n1 k1 m hp hq
        split at hv
        · rename_i hcond
          obtain ⟨h0, h1, hsz⟩ := hcond
          obtain rfl := Option.some.inj hv
          have hr := cx_rel hx ha
          rw [hp] at hr
          have hri := cx_rel hi ha
          rw [hq] at hri
          generalize hax : a.eval _ = xv at hr
          generalize hai : a.eval _ = iv at hri
          cases hri
          cases hr with
          | @slice l i n c r hr hn' hc hm =>
            have hrsz : r.sz = _ := size_rel hw hr hsz
            refine ⟨.pointer (some ⟨r.block, r.base + (j + m.toNat) * r.sz + 0, none⟩), ?_, VRel.ptr hr⟩
            simp [execOp, hop, hax, hai, Instr.indexAt, asIntOf, run_underlying ht, h0, h1, run_sizeOf' hn, addr_add, hrsz, Nat.add_mul, Nat.add_assoc]
        · cases hv
      · cases hv
    · rename_i len el x' i' ht hx hi
      rw [Option.map_eq_some_iff] at hc; obtain ⟨n, hn, rfl⟩ := hc
      simp only [feval] at hv
      split at hv
      · rename_i l j k k1 m hp hq
        split at hv
        · rename_i hcond
          obtain ⟨h0, h1⟩ := hcond
          obtain rfl := Option.some.inj hv
          have hr := cx_rel hx ha
          rw [hp] at hr
          have hri := cx_rel hi ha
          rw [hq] at hri
          generalize hax : a.eval _ = xv at hr
          generalize hai : a.eval _ = iv at hri
          cases hri
          cases hr with
          | @ptr l i k r hr =>
            refine ⟨.pointer (some ⟨r.block, r.base + j * r.sz + (k + m.toNat * n), none⟩), ?_, VRel.ptr hr⟩
            simp [execOp, hop, hax, hai, Instr.indexAt, asIntOf, run_underlying ht, Instr.sureAddr, h0, h1, run_sizeOf' hn, addr_add, Nat.add_assoc]
        · cases hv
      · cases hv
    · cases hc
  · -- index
    split at hc
    · rename_i x' i' ht hx hi
      obtain rfl := Option.some.inj hc
      simp only [feval] at hv
      split at hv
      · rename_i s k1 m hp hq
        split at hv
        · rename_i h0
          rw [Option.map_eq_some_iff] at hv; obtain ⟨b, hb, rfl⟩ := hv
          have hr := cx_rel hx ha
          rw [hp] at hr
          have hri := cx_rel hi ha
          rw [hq] at hri
          generalize hax : a.eval _ = xv at hr
          generalize hai : a.eval _ = iv at hri
          cases hri
          generalize hsv : IV.str s = sv at hr
          cases hr <;> cases hsv
          rename_i s
          refine ⟨_, ?_, VRel.int _ _⟩
          have hlt : m.toNat < s.size := by
            have := (List.getElem?_eq_some_iff.1 hb).1
            rw [size_list] at this; exact this
          have hget : s[m.toNat]? = some b := by
            rw [ByteArray.getElem?_lt' s _ hlt]
            have : s.data.toList[m.toNat]? = some (s[m.toNat]) := by
              rw [List.getElem?_eq_getElem (by rw [size_list]; exact hlt)]
              rfl
            rw [this] at hb
            exact hb
          simp [execOp, hop, hax, hai, Instr.index, asIntOf, run_underlying ht, h0, hget]
        · cases hv
      · cases hv
    · rename_i len el x' i' ht hx hi
      split at hc
      · rename_i d n hd hn
        obtain rfl := Option.some.inj hc
        simp only [feval] at hv
        split at hv
        · rename_i cs' k1 m hp hq
          split at hv
          · rename_i hcond
            obtain ⟨h0, h1⟩ := hcond
            have hr := cx_rel hx ha
            rw [hp] at hr
            have hri := cx_rel hi ha
            rw [hq] at hri
            generalize hai : a.eval _ = iv at hri
            cases hri
            obtain ⟨cs, hcs, hl⟩ := hr.of_agg
            obtain ⟨v', h2, h3⟩ := part_sound (P := P) (w := w) (off := m.toNat * n) hd hn hl hv
            exact ⟨v', by simp [execOp, hop, hcs, hai, Instr.index, asIntOf, run_underlying ht, h0, h1, run_sizeOf' hn, h2], h3⟩
          · cases hv
        · cases hv
      · cases hc
    · cases hc
  · -- slice
    rename_i t x lo hi mx
    split at hc
    · rename_i x' lo' hi' ht hx hlo hhi
      split at hc
      · rename_i hmx
        obtain rfl := Option.some.inj hc
        simp only [feval] at hv
        split at hv
        · rename_i s hp
          have hr := cx_rel hx ha
          rw [hp] at hr
          split at hv
          · rename_i q hq
            split at hv
            · rename_i p hpb
              obtain rfl := Option.some.inj hv
              have hmx' : mx = none := by simpa using hmx
              subst hmx'
              simpa [execOp, hop] using (slcS_sound (P := P) (w := w) ha ht hlo hhi hr hq hpb).gives
            · cases hv
          · cases hv
        · cases hv
      · cases hc
    · rename_i el x' lo' hi' ht hx hlo hhi
      split at hc
      · rename_i n mx' hn hmx
        obtain rfl := Option.some.inj hc
        simp only [feval] at hv
        have hr := cx_rel hx ha
        split at hv
        · rename_i nn hlen
          cases mx with
          | none =>
            simp [ocx] at hmx; subst hmx
            simp only at hv
            split at hv
            · rename_i q hq
              split at hv
              · rename_i p hpb
                simpa [execOp, hop] using (slc_sound (P := P) hw ht hn (m := none) hr hlen (fun c hc => by simpa using bounds2_sound (P := P) (w := w) ha hlo hhi true hq hpb hc) hv).gives
              · cases hv
            · cases hv
          | some mx0 =>
            simp [ocx] at hmx
            obtain ⟨mx1, hmx1, rfl⟩ := hmx
            simp only at hv
            split at hv
            · rename_i m hm
              split at hv
              · rename_i q hq
                split at hv
                · rename_i p hpb
                  split at hv
                  · rename_i hsome
                    cases hi with
                    | none => simp [ocx] at hhi; subst hhi; simp at hsome
                    | some hi0 =>
                      simp [ocx] at hhi
                      obtain ⟨hi1, hhi1, rfl⟩ := hhi
                      simpa [execOp, hop] using (slc_sound (P := P) hw ht hn (m := some m) hr hlen (fun c hc => by simpa using bounds3_sound (P := P) (w := w) ha hlo hhi1 hmx1 true hm hq hpb hc) hv).gives
                  · cases hv
                · cases hv
              · cases hv
            · cases hv
        · cases hv
      · cases hc
    · cases hc
  · -- makeInterface
    split at hc
    · cases hc
    · rename_i d x' hne ht hx
      obtain rfl := Option.some.inj hc
      simp only [feval] at hv
      obtain rfl := Option.some.inj hv
      refine ⟨.iface _ (a.eval _), ?_, VRel.iface _ (cx_rel hx ha)⟩
      simp only [execOp, hop, Instr.makeInterface, Sem.run_bind, run_underlying ht, Result.andThen_ok]
      simp
    · cases hc
  · -- makeFunc
    rename_i f first caps
    split at hc
    · rename_i as cs h1 h2
      obtain rfl := Option.some.inj hc
      simp only [feval] at hv
      obtain rfl := Option.some.inj hv
      have r1 := cxs_rel ha h1
      have r2 := cxs_rel ha h2
      refine ⟨.func (.func f) (first.map a.eval) (caps.map a.eval), ?_, VRel.func f (as := first.map a.eval) (cs := caps.map a.eval) ?_ ?_ ?_ ?_⟩
      rotate_left 1
      · simpa using r1.1
      · simpa using r2.1
      · exact fun i v v' hi hj => r1.2 i v v' (by simpa using hi) hj
      · exact fun i v v' hi hj => r2.2 i v v' (by simpa using hi) hj
      · simp [execOp, hop, Instr.makeFunc]
    · cases hc
  · -- len
    rename_i args argTypes
    split at hc
    · rename_i x t hargs htys
      have e1 : args = #[x] := by cases args; simp_all
      have e2 : argTypes = #[t] := by cases argTypes; simp_all
      subst e1; subst e2
      split at hc
      · rename_i el x' ht hx
        obtain rfl := Option.some.inj hc
        simp only [feval] at hv
        rw [Option.map_eq_some_iff] at hv; obtain ⟨n, hn, rfl⟩ := hv
        have hr := cx_rel hx ha
        obtain ⟨v', h1, h2⟩ := len_sound (P := P) (w := w) (ty := o.type) hr hn ht
        exact ⟨v', by simp [execOp, hop, resolve, invoke, builtin, h1], h2⟩
      · rename_i x' ht hx
        obtain rfl := Option.some.inj hc
        simp only [feval] at hv
        split at hv
        · rename_i s hp
          obtain rfl := Option.some.inj hv
          have hr := cx_rel hx ha
          rw [hp] at hr
          obtain ⟨v', h1, h2⟩ := lenS_sound (P := P) (w := w) (ty := o.type) hr ht
          exact ⟨v', by simp [execOp, hop, resolve, invoke, builtin, h1], h2⟩
        · cases hv
      · cases hc
    · cases hc
  · -- max
    rename_i args _
    split at hc
    · rename_i x y hargs
      have e1 : args = #[x, y] := by cases args; simp_all
      subst e1
      split at hc
      · rename_i x' y' hx hy
        obtain rfl := Option.some.inj hc
        simp only [feval] at hv
        split at hv
        · rename_i k p k' q hp hq
          obtain rfl := Option.some.inj hv
          have hr := cx_rel hx ha
          rw [hp] at hr
          have hr2 := cx_rel hy ha
          rw [hq] at hr2
          generalize hax : a.eval x = xv at hr
          generalize hay : a.eval y = yv at hr2
          cases hr; cases hr2
          refine ⟨_, ?_, VRel.int _ _⟩
          simp [execOp, hop, resolve, invoke, builtin, Builtin.max_, Builtin.max2, hax, hay]
        · cases hv
      · cases hc
    · cases hc
  · -- min
    rename_i args _
    split at hc
    · rename_i x y hargs
      have e1 : args = #[x, y] := by cases args; simp_all
      subst e1
      split at hc
      · rename_i x' y' hx hy
        obtain rfl := Option.some.inj hc
        simp only [feval] at hv
        split at hv
        · rename_i k p k' q hp hq
          obtain rfl := Option.some.inj hv
          have hr := cx_rel hx ha
          rw [hp] at hr
          have hr2 := cx_rel hy ha
          rw [hq] at hr2
          generalize hax : a.eval x = xv at hr
          generalize hay : a.eval y = yv at hr2
          cases hr; cases hr2
          refine ⟨_, ?_, VRel.int _ _⟩
          simp [execOp, hop, resolve, invoke, builtin, Builtin.min_, Builtin.min2, hax, hay]
        · cases hv
      · cases hc
    · cases hc
  · cases hc

end
end Go.IW
