import Derived.Test.YtcmcfmgabafljaaDoorIwV
set_option linter.unusedVariables false
set_option linter.unusedSimpArgs false
set_option autoImplicit false
namespace Go.IW
open Go
variable {P : Program}

theorem vcOp_mono {o : COp} {K K' : Env → IH → Prop} (hK : ∀ e h, K e h → K' e h) {e : Env} {h : IH} (hv : vcOp P o K e h) : vcOp P o K' e h :=
  vcOp_move (fun _ _ => rfl) (fun _ _ hk => hK _ _ hk) hv
theorem vcOps_mono : ∀ {l : List COp} {K K' : Env → IH → Prop}, (∀ e h, K e h → K' e h) → ∀ {e : Env} {h : IH}, vcOps P l K e h → vcOps P l K' e h
  | [], _, _, hK, _, _, hv => hK _ _ hv
  | _ :: _, _, _, hK, _, _, hv => vcOp_mono (fun _ _ hk => vcOps_mono hK hk) hv
theorem vcD_mono {ops : List COp} {bar : List Bool} {anc : List (List Nat)} : ∀ {l done : List Nat} {K K' : Env → IH → Prop}, (∀ e h, K e h → K' e h) → ∀ {e : Env} {h : IH}, vcD P ops bar anc done l K e h → vcD P ops bar anc done l K' e h
  | [], _, _, _, hK, _, _, hv => hK _ _ hv
  | i :: r, done, _, _, hK, _, _, hv => by
    unfold vcD at hv ⊢
    split at hv
    · rename_i hb
      rw [if_pos hb]
      exact vcOp_mono (fun _ _ hk => ⟨hk.1, vcD_mono hK hk.2⟩) hv
    · rename_i hb
      rw [if_neg hb]
      exact vcOp_mono (fun _ _ hk => vcD_mono hK hk) hv
theorem vcT_mono {ops : List COp} {anc : List (List Nat)} : ∀ {t : DT} {done : List Nat} {K K' : Env → IH → Prop}, (∀ e h, K e h → K' e h) → ∀ {e : Env} {h : IH}, vcT P ops anc done t K e h → vcT P ops anc done t K' e h
  | .fin, _, _, _, hK, _, _, hv => hK _ _ hv
  | .fl _ _, _, _, _, hK, _, _, hv => vcOp_mono (fun _ _ hk => vcT_mono hK hk) hv
  | .br _ _ _, _, _, _, hK, _, _, hv => ⟨vcOp_mono (fun _ _ hk => ⟨hk.1, vcT_mono hK hk.2⟩) hv.1, vcT_mono hK hv.2⟩
  | .stop, _, _, _, _, _, _, _ => trivial
theorem vc_mono : ∀ {c : CC} {K K' : EPost}, (∀ x e h, K x e h → K' x e h) → ∀ {e : Env} {h : IH}, vc P c K e h → vc P c K' e h
  | .skip, _, _, hK, _, _, hv => hK _ _ _ hv
  | .reg _, _, _, hK, _, _, hv => vcOps_mono (hK .normal) hv
  | .dreg _ _ _ _, _, _, hK, _, _, hv => vcD_mono (hK .normal) hv
  | .treg _ _ _, _, _, hK, _, _, hv => vcT_mono (hK .normal) hv
  | .seq a b, _, _, hK, _, _, hv => vc_mono (c := a) (fun x e h hk => by
      cases x
      · exact vc_mono (c := b) hK hk
      all_goals exact hK _ _ _ hk) hv
  | .cond c a b, _, _, hK, _, _, hv => by
    unfold vc vcCond at hv ⊢
    split at hv
    · exact ⟨fun hb => vc_mono hK (hv.1 hb), fun hb => vc_mono hK (hv.2 hb)⟩
    · exact hv.elim
  | .block i a, _, _, hK, _, _, hv => vc_mono (c := a) (fun x e h hk => by
      unfold blockK at hk ⊢
      split at hk
      · split at hk
        · rename_i hb; rw [if_pos hb]; exact hK _ _ _ hk
        · rename_i hb; rw [if_neg hb]; exact hK _ _ _ hk
      · exact hK _ _ _ hk) hv
  | .loop a, _, _, hK, _, _, ⟨I, h0, hr⟩ => ⟨I, h0, fun n e h hi => vc_mono (c := a) (fun x e h hk => by
      cases x
      · exact hk
      all_goals exact hK _ _ _ hk) (hr n e h hi)⟩
  | .exit i, _, _, hK, _, _, hv => hK _ _ _ hv
  | .ret, _, _, hK, _, _, hv => hK _ _ _ hv

/-- A place that every road comes by. -/
theorem vc_cut {a b : CC} {K : EPost} {e : Env} {h : IH} (J : Env → IH → Prop) (ha : vc P a (seqK J K) e h) (hb : ∀ e' h', J e' h' → vc P b K e' h') : vc P (.seq a b) K e h :=
  vc_mono (c := a) (fun x e h hk => by
    cases x
    · exact hb _ _ hk
    all_goals exact hk) ha
theorem vc_cut2 {a b c : CC} {K : EPost} {e : Env} {h : IH} (J : Env → IH → Prop) (ha : vc P (.seq a b) (seqK J K) e h) (hb : ∀ e' h', J e' h' → vc P c K e' h') : vc P (.seq a (.seq b c)) K e h :=
  vc_mono (c := a) (K := seqK (vc P b (seqK J K)) (seqK J K)) (fun x e h hk => by
    cases x
    · exact vc_cut (a := b) (b := c) J hk hb
    all_goals exact hk) ha
theorem vc_cut3 {a b c d : CC} {K : EPost} {e : Env} {h : IH} (J : Env → IH → Prop) (ha : vc P (.seq a (.seq b c)) (seqK J K) e h) (hb : ∀ e' h', J e' h' → vc P d K e' h') : vc P (.seq a (.seq b (.seq c d))) K e h :=
  vc_mono (c := a) (K := seqK (vc P (.seq b c) (seqK J K)) (seqK J K)) (fun x e h hk => by
    cases x
    · exact vc_cut2 (a := b) (b := c) (c := d) J hk hb
    all_goals exact hk) ha
/-- The first so many parts of a sequence, and what follows. -/
def CC.split : Nat → CC → CC × CC
  | n + 1, .seq a b => (.seq a (CC.split n b).1, (CC.split n b).2)
  | _, c => (.skip, c)
theorem vc_split : ∀ (n : Nat) {c : CC} {K : EPost} {e : Env} {h : IH} (J : Env → IH → Prop), vc P (c.split n).1 (seqK J K) e h → (∀ e' h', J e' h' → vc P (c.split n).2 K e' h') → vc P c K e h
  | 0, c, _, _, _, _, ha, hb => by
    have e1 : c.split 0 = (.skip, c) := by cases c <;> rfl
    rw [e1] at ha hb
    exact hb _ _ ha
  | n + 1, .seq a b, K, _, _, J, ha, hb =>
    vc_mono (c := a) (K := seqK (vc P (b.split n).1 (seqK J K)) (seqK J K)) (fun x e h hk => by
      cases x
      · exact vc_split n J hk hb
      all_goals exact hk) ha
  | _ + 1, .skip, _, _, _, _, ha, hb => hb _ _ ha
  | _ + 1, .reg _, _, _, _, _, ha, hb => hb _ _ ha
  | _ + 1, .dreg _ _ _ _, _, _, _, _, ha, hb => hb _ _ ha
  | _ + 1, .treg _ _ _, _, _, _, _, ha, hb => hb _ _ ha
  | _ + 1, .cond _ _ _, _, _, _, _, ha, hb => hb _ _ ha
  | _ + 1, .block _ _, _, _, _, _, ha, hb => hb _ _ ha
  | _ + 1, .loop _, _, _, _, _, ha, hb => hb _ _ ha
  | _ + 1, .exit _, _, _, _, _, ha, hb => hb _ _ ha
  | _ + 1, .ret, _, _, _, _, ha, hb => hb _ _ ha

theorem islc_ext {h h' : IH} {sz : Nat} {v : IV} {rs : List (List IV)} (hs : SlR h sz v rs) (he : Ext h h') (a b : Nat) (m : Option Nat) : islc h' sz v a b m = islc h sz v a b m := by
  cases v with
  | slice l i n =>
    have e1 : h'.size l = h.size l := by rw [size_eq, size_eq, he.obj l (hs.lt l i n rfl)]
    simp only [islc, e1]
  | _ => rfl
theorem slcF_ext {h h' : IH} {sz : Nat} {v : IV} {rs : List (List IV)} (hs : SlR h sz v rs) (he : Ext h h') (lo hi : Option IV) : slcF h' sz v lo hi = slcF h sz v lo hi := by
  simp only [slcF, islc_ext hs he]
theorem iadrF_ext {h h' : IH} {sz : Nat} {v : IV} {rs : List (List IV)} (hs : SlR h sz v rs) (he : Ext h h') (i : IV) : iadrF h' sz v i = iadrF h sz v i := by
  cases v with
  | slice l j n =>
    have e1 : h'.size l = h.size l := by rw [size_eq, size_eq, he.obj l (hs.lt l j n rfl)]
    cases i <;> simp only [iadrF, e1]
  | _ => cases i <;> rfl
end Go.IW
