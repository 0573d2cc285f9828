/- What an operation tells hangs on the places it looks at. -/
import Derived.Test.YtcmcfmgabafljaaDoorIwM
set_option linter.unusedVariables false
set_option linter.unusedSimpArgs false
namespace Go.IW
open Go.RowKit

theorem CX.congr {x : CX} {e e' : Env} (h : ∀ t ∈ x.tmps, e t = e' t) : x.ev e = x.ev e' := by
  cases x with
  | t n => exact h n (by simp [CX.tmps])
  | c v => rfl
  | fn f => rfl

theorem CX.congrs {l : List CX} {e e' : Env} (h : ∀ t ∈ l.flatMap CX.tmps, e t = e' t) : l.map (CX.ev e) = l.map (CX.ev e') :=
  List.map_congr_left fun x hx => CX.congr fun t ht => h t (List.mem_flatMap.2 ⟨x, hx, ht⟩)

theorem obound_congr {x : Option CX} {e e' : Env} (h : ∀ t ∈ ocxT x, e t = e' t) (len d : Nat) : obound len x e d = obound len x e' d := by
  cases x with
  | none => rfl
  | some x => simp only [obound, CX.congr (x := x) h]

theorem feval_congr {k : FK} {e e' : Env} {h : IH} (hk : ∀ t ∈ k.tmps, e t = e' t) : feval e h k = feval e' h k := by
  cases k with
  | build zero ps =>
    simp only [feval]
    congr 2
    exact List.map_congr_left fun p hp => by rw [CX.congr (x := p.2.2) fun t ht => hk t (List.mem_flatMap.2 ⟨p, hp, ht⟩)]
  | pick c a b =>
    simp only [FK.tmps, List.mem_append] at hk
    simp only [feval, CX.congr (x := c) fun t ht => hk t (.inl ht), CX.congr (x := a) fun t ht => hk t (.inr (.inl ht)), CX.congr (x := b) fun t ht => hk t (.inr (.inr ht))]
  | slcS x lo hi =>
    simp only [FK.tmps, List.mem_append] at hk
    simp only [feval, CX.congr (x := x) fun t ht => hk t (.inl ht), obound_congr (x := lo) fun t ht => hk t (.inr (.inl ht)), obound_congr (x := hi) fun t ht => hk t (.inr (.inr ht))]
  | slc sz x lo hi mx =>
    simp only [FK.tmps, List.mem_append] at hk
    cases mx with
    | none => simp only [feval, CX.congr (x := x) fun t ht => hk t (.inl ht), obound_congr (x := lo) fun t ht => hk t (.inr (.inl ht)), obound_congr (x := hi) fun t ht => hk t (.inr (.inr (.inl ht)))]
    | some m => simp only [feval, CX.congr (x := x) fun t ht => hk t (.inl ht), obound_congr (x := lo) fun t ht => hk t (.inr (.inl ht)), obound_congr (x := hi) fun t ht => hk t (.inr (.inr (.inl ht))), obound_congr (x := some m) fun t ht => hk t (.inr (.inr (.inr ht)))]
  | mkf f as cs =>
    simp only [FK.tmps, List.mem_append] at hk
    simp only [feval, CX.congrs (l := as) fun t ht => hk t (.inl ht), CX.congrs (l := cs) fun t ht => hk t (.inr ht)]
  | u k xs => simp only [feval, CX.congrs (l := xs) hk]
  | mv x => simp only [feval, CX.congr (x := x) hk]
  | ld x => simp only [feval, CX.congr (x := x) hk]
  | ldA n x => simp only [feval, CX.congr (x := x) hk]
  | nck x => simp only [feval, CX.congr (x := x) hk]
  | un op x => simp only [feval, CX.congr (x := x) hk]
  | cvI k x => simp only [feval, CX.congr (x := x) hk]
  | cvS x => simp only [feval, CX.congr (x := x) hk]
  | b2s x => simp only [feval, CX.congr (x := x) hk]
  | ext i x => simp only [feval, CX.congr (x := x) hk]
  | fld o n g x => simp only [feval, CX.congr (x := x) hk]
  | fadr o x => simp only [feval, CX.congr (x := x) hk]
  | len x => simp only [feval, CX.congr (x := x) hk]
  | lenS x => simp only [feval, CX.congr (x := x) hk]
  | mkif t x => simp only [feval, CX.congr (x := x) hk]
  | bin op x y => simp only [FK.tmps, List.mem_append] at hk; simp only [feval, CX.congr (x := x) fun t ht => hk t (.inl ht), CX.congr (x := y) fun t ht => hk t (.inr ht)]
  | binB g x y => simp only [FK.tmps, List.mem_append] at hk; simp only [feval, CX.congr (x := x) fun t ht => hk t (.inl ht), CX.congr (x := y) fun t ht => hk t (.inr ht)]
  | eqn n g x y => simp only [FK.tmps, List.mem_append] at hk; simp only [feval, CX.congr (x := x) fun t ht => hk t (.inl ht), CX.congr (x := y) fun t ht => hk t (.inr ht)]
  | iadr n x y => simp only [FK.tmps, List.mem_append] at hk; simp only [feval, CX.congr (x := x) fun t ht => hk t (.inl ht), CX.congr (x := y) fun t ht => hk t (.inr ht)]
  | iadrA n m x y => simp only [FK.tmps, List.mem_append] at hk; simp only [feval, CX.congr (x := x) fun t ht => hk t (.inl ht), CX.congr (x := y) fun t ht => hk t (.inr ht)]
  | idxS x y => simp only [FK.tmps, List.mem_append] at hk; simp only [feval, CX.congr (x := x) fun t ht => hk t (.inl ht), CX.congr (x := y) fun t ht => hk t (.inr ht)]
  | idxA n m g x y => simp only [FK.tmps, List.mem_append] at hk; simp only [feval, CX.congr (x := x) fun t ht => hk t (.inl ht), CX.congr (x := y) fun t ht => hk t (.inr ht)]
  | mm g x y => simp only [FK.tmps, List.mem_append] at hk; simp only [feval, CX.congr (x := x) fun t ht => hk t (.inl ht), CX.congr (x := y) fun t ht => hk t (.inr ht)]

section
variable {P : Program}

theorem appK_mono {h : IH} {e sz b : Nat} {x : IV} {ys : List (List IV)} {K K' : IV → IH → Prop} (hK : ∀ v h', K v h' → K' v h') (hk : appK h e sz b x ys K) : appK h e sz b x ys K' := by
  unfold appK at *
  split at hk
  · split at hk
    · rename_i h0; rw [if_pos h0]; exact hK _ _ hk
    · rename_i h0; rw [if_neg h0]; exact ⟨hk.1, hK _ _ hk.2⟩
  · split at hk
    · rename_i h0; rw [if_pos h0]; exact hK _ _ hk
    · rename_i h0; rw [if_neg h0]; exact ⟨hk.1, hk.2.1, hK _ _ hk.2.2⟩
  · split at hk
    · rename_i h0; rw [if_pos h0]; exact hK _ _ hk
    · rename_i h0
      rw [if_neg h0]
      split at hk
      · obtain ⟨h1, h2, h3, h4, h5, h6⟩ := hk; exact ⟨h1, h2, h3, h4, h5, hK _ _ h6⟩
      · exact hk
  · exact hk

theorem copyK_mono {h : IH} {sz : Nat} {x : IV} {ys : List (List IV)} {K K' : IV → IH → Prop} (hK : ∀ v h', K v h' → K' v h') (hk : copyK h sz x ys K) : copyK h sz x ys K' := by
  unfold copyK at *
  split at hk
  · exact hK _ _ hk
  · exact hK _ _ hk
  · split at hk
    · rename_i h0; rw [if_pos h0]; exact hK _ _ hk
    · rename_i h0
      rw [if_neg h0]
      split at hk
      · exact ⟨hk.1, hk.2.1, hK _ _ hk.2.2⟩
      · exact hk
  · exact hk

theorem uact_mono {h : IH} {K K' : IV → IH → Prop} (hK : ∀ v h', K v h' → K' v h') {k : UX} {xs : List IV} (hk : uact P h K k xs) : uact P h K' k xs := by
  cases k with
  | bad => exact hk

theorem act_mono {h : IH} {e : Env} {K K' : IV → IH → Prop} (hK : ∀ v h', K v h' → K' v h') {k : EK} (hk : act P h e K k) : act P h e K' k := by
  cases k with
  | zero el sz cs => exact hK _ _ hk
  | box el sz x => exact ⟨hk.1, hk.2.1, hK _ _ hk.2.2⟩
  | bslice el sz z len ps =>
    simp only [act] at *
    split at hk
    · rename_i h0; rw [if_pos h0]; exact hK _ _ hk
    · rename_i h0
      rw [if_neg h0]
      split at hk
      · exact ⟨hk.1, hK _ _ hk.2⟩
      · exact hk
  | st n a x =>
    simp only [act] at *
    split at hk
    · split at hk
      · split at hk
        · obtain ⟨h1, h2, h3, h4⟩ := hk; exact ⟨h1, h2, h3, hK _ _ h4⟩
        · exact hk
      · exact hk
    · exact hk
  | app el sz b x y =>
    simp only [act] at *
    split at hk
    · exact appK_mono hK hk
    · exact hk
  | appS el b x y =>
    simp only [act] at *
    split at hk
    · exact appK_mono hK hk
    · exact hk
  | copy sz d s =>
    simp only [act] at *
    split at hk
    · exact copyK_mono hK hk
    · exact hk
  | copyS d s =>
    simp only [act] at *
    split at hk
    · exact copyK_mono hK hk
    · exact hk
  | mks el sz b z len cap =>
    simp only [act] at *
    split at hk
    · obtain ⟨h1, h2, h3, h4, h5⟩ := hk
      refine ⟨h1, h2, h3, h4, ?_⟩
      split at h5
      · rename_i h0; rw [if_pos h0]; exact hK _ _ h5
      · rename_i h0; rw [if_neg h0]; exact hK _ _ h5
    · exact hk
  | s2b el x =>
    simp only [act] at *
    split at hk
    · split at hk
      · rename_i h0; rw [if_pos h0]; exact hK _ _ hk
      · rename_i h0; rw [if_neg h0]; exact ⟨hk.1, hK _ _ hk.2⟩
    · exact hk
  | ux k xs =>
    simp only [act] at *
    exact uact_mono hK hk
  | call f as => exact ICalls.mono hk hK
  | callv f as =>
    simp only [act] at *
    split at hk
    · exact ICalls.mono hk hK
    · exact hk

theorem act_congr {h : IH} {e e' : Env} {K : IV → IH → Prop} {k : EK} (hk : ∀ t ∈ k.tmps, e t = e' t) : act P h e K k = act P h e' K k := by
  cases k with
  | zero el sz cs => rfl
  | box el sz x => simp only [act, CX.congr (x := x) hk]
  | bslice el sz z len ps =>
    simp only [act]
    have : (ps.map fun p => (p.1, p.2.ev e)) = (ps.map fun p => (p.1, p.2.ev e')) :=
      List.map_congr_left fun p hp => by rw [CX.congr (x := p.2) fun t ht => hk t (List.mem_flatMap.2 ⟨p, hp, ht⟩)]
    rw [this]
  | st n x y => simp only [EK.tmps, List.mem_append] at hk; simp only [act, CX.congr (x := x) fun t ht => hk t (.inl ht), CX.congr (x := y) fun t ht => hk t (.inr ht)]
  | app el sz b x y => simp only [EK.tmps, List.mem_append] at hk; simp only [act, CX.congr (x := x) fun t ht => hk t (.inl ht), CX.congr (x := y) fun t ht => hk t (.inr ht)]
  | appS el b x y => simp only [EK.tmps, List.mem_append] at hk; simp only [act, CX.congr (x := x) fun t ht => hk t (.inl ht), CX.congr (x := y) fun t ht => hk t (.inr ht)]
  | copy sz x y => simp only [EK.tmps, List.mem_append] at hk; simp only [act, CX.congr (x := x) fun t ht => hk t (.inl ht), CX.congr (x := y) fun t ht => hk t (.inr ht)]
  | copyS x y => simp only [EK.tmps, List.mem_append] at hk; simp only [act, CX.congr (x := x) fun t ht => hk t (.inl ht), CX.congr (x := y) fun t ht => hk t (.inr ht)]
  | mks el sz b z x y => simp only [EK.tmps, List.mem_append] at hk; simp only [act, CX.congr (x := x) fun t ht => hk t (.inl ht), CX.congr (x := y) fun t ht => hk t (.inr ht)]
  | s2b el x => simp only [act, CX.congr (x := x) hk]
  | call f as => simp only [act, CX.congrs (l := as) hk]
  | ux k xs => simp only [act, CX.congrs (l := xs) hk]
  | callv f as => simp only [EK.tmps, List.mem_append] at hk; simp only [act, CX.congr (x := f) fun t ht => hk t (.inl ht), CX.congrs (l := as) fun t ht => hk t (.inr ht)]

theorem vcOp_move {o : COp} {K K' : Env → IH → Prop} {e e' : Env} {h : IH} (hl : ∀ t ∈ o.looks, e t = e' t) (hK : ∀ v h', K (put e o.dst v) h' → K' (put e' o.dst v) h') (hv : vcOp P o K e h) : vcOp P o K' e' h := by
  obtain ⟨dst, guard, op⟩ := o
  simp only [COp.looks, List.mem_append] at hl
  have hl1 : ∀ t ∈ (match op with | .f k => k.tmps | .x k => k.tmps), e t = e' t := fun t ht => hl t (.inl ht)
  cases guard with
  | none =>
    simp only [vcOp, vcK] at *
    cases op with
    | f k =>
      simp only at *
      rw [← feval_congr hl1]
      split at hv
      · exact hK _ _ hv
      · exact hv
    | x k =>
      simp only at *
      rw [← act_congr hl1]
      exact act_mono hK hv
  | some g =>
    obtain ⟨t, want⟩ := g
    have ht : e t = e' t := hl t (.inr (by simp))
    simp only [vcOp] at *
    rw [← ht]
    split at hv
    · rename_i b hb
      refine ⟨fun hbw => ?_, fun hbw => hK _ _ (hv.2 hbw)⟩
      have hv := hv.1 hbw
      simp only [vcK] at *
      cases op with
      | f k =>
        simp only at *
        rw [← feval_congr hl1]
        split at hv
        · exact hK _ _ hv
        · exact hv
      | x k =>
        simp only at *
        rw [← act_congr hl1]
        exact act_mono hK hv
    · exact hK _ _ hv
    · exact hv.elim

theorem again_congr {o : COp} {e e' : Env} {h : IH} (hl : ∀ t ∈ o.looks, e t = e' t) (hd : ∀ d, o.dst = some d → e d = e' d) : again o e h = again o e' h := by
  obtain ⟨dst, guard, op⟩ := o
  simp only [COp.looks, List.mem_append] at hl
  cases op with
  | x k => rfl
  | f k =>
    have hk := feval_congr (k := k) (h := h) fun t ht => hl t (.inl ht)
    cases guard with
    | none =>
      cases dst with
      | none => simp only [again, hk]
      | some d => simp only [again, hk, hd d rfl]
    | some g =>
      obtain ⟨t, want⟩ := g
      have ht : e t = e' t := hl t (.inr (by simp))
      cases dst with
      | none => simp only [again, hk, ht]
      | some d => simp only [again, hk, ht, hd d rfl]

end
end Go.IW
