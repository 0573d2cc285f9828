/- Proved: the tied card of the law FnExactRunResolve: for every input it returns true and its arguments read behind the call as they read before. Conditions: none beyond the statement's own. -/
import Derived.Test.YtaoffieemecioaaGreatDoorRows
import Derived.Test.YtaoffieemecioaaGreatDoorTie
import Derived.Test.YtaoffieemecioaaGreatDoorCards
import Derived.Test.YtaoffieemecioaaGreatDoorL4
import Derived.WalkKit
import Derived.ProofKit
import Derived.OpenShut
import Derived.ChangeOld
import Derived.Below
import Derived.SizedLaws
import Derived.LaidMore
import Derived.Lay
import Derived.SevenTiedAt
import Derived.Stop.Joined
import Derived.LaidSub
set_option linter.unusedSimpArgs false
set_option linter.unusedVariables false
namespace Go.Proofs.YtaoffieemecioaaGreatDoor.fnExactRunResolve
open Go.ChangeShapes Go.WideShapes Go.ChangeAt Go.RowKit Go.IW
theorem own : ownKnob Tryz.prog.godebug = none := by kernel_rfl
theorem laidOut : laidOutB Tryz.prog = true := by kernel_rfl
theorem prs_ok : parsOf Tryz.prog Tryz.f3.params.toList = some [(t_ResolveConfig.sh, true), ((Ty.slice 59 t_ResolveOp).sh, false)] := by kernel_rfl
set_option maxRecDepth 100000 in
theorem lifted (os : Os) (started : os.Started) (H : Type) (enc : TypeId × Value → H) :
    ReturnsInHanded {} Tryz.checked os 3 .any (fun w args => (Rows.fnExactRunResolveSpec.pre enc Tryz.prog Tryz.f3 Rows.fnExactRunResolveRow.domain false w args ∧ laidMetH Tryz.prog Rows.fnExactRunResolveRow.laid w) ∧ sizedMet enc Tryz.prog Tryz.f3 (OpenSpec.ofChange Rows.fnExactRunResolveSpec) false w args)
      (Rows.fnExactRunResolveSpec.post enc Tryz.prog Tryz.f3 false true false false) := by
  refine returnsInHanded_of_change_and (C := Tryz.checked) (X := fun w _ => laidMetH Tryz.prog Rows.fnExactRunResolveRow.laid w) (fun _ _ _ hh h => h.of_heap hh) own started (by kernel_rfl) Tryz.func3
    (ChangeSpec.witness_shaped (enc := enc) (C := Tryz.checked) (os := os) (X := fun w _ => laidMetH Tryz.prog Rows.fnExactRunResolveRow.laid w) false (World.laidAll Tryz.prog os Rows.fnExactRunResolveRow.laid) #[.agg #[.slice none 0 0, .int .i64 0], .slice none 0 0] 8 (World.laidAll_os _ _ _)
      (World.shaped_of_ZipB (by kernel_rfl) (by kernel_rfl)) (by kernel_rfl) (by kernel_rfl) (by kernel_rfl)
      (by rw [MakeChecks.laidMetH_plain _ _ _ (by kernel_rfl)]; exact laidMet_laidAll _ (by kernel_rfl) (by kernel_rfl))) ?_
  intro W base args ds gs before hval hW hc _ hL _
  have hW' := hW
  obtain ⟨p, q, hA, hV, rfl, hfz, hnd⟩ := hW
  have hA' : DataW.TrodAll enc Tryz.prog W 0 (fun _ => true) true Tryz.f3.params.toList args.toList ds p := hA
  rw [Tryz.params3] at hA'
  obtain ⟨v0, vs0, d0, ds0, p0, q0, hargs0, hds0, hp0, h0, r0⟩ := trodAll_cons hA'
  obtain ⟨v1, vs1, d1, ds1, p1, q1, hargs1, hds1, hp1, h1, r1⟩ := trodAll_cons r0
  obtain ⟨rfl, rfl, rfl⟩ := trodAll_nil r1
  subst hds1
  subst hds0
  obtain ⟨rfl, rfl⟩ := trodVars_none hV
  refine (law_calls (GOk.free (by kernel_rfl)) Tryz.func3 (FnOk.enter (.of ok3)) prs_ok lawRunResolve hval hA).mono fun e W' ⟨he, bel⟩ => ?_
  subst he
  exact ⟨_, rfl, _, _, _, [], _, [], hW', trodAll_mk1 (shut_bool (by kernel_rfl) _), trodAll_below laidOut bel _ _ _ _ (by kernel_rfl) hA, rfl, bel.frame _, fun h => by cases h⟩
theorem over : Rows.fnExactRunResolveRow.holds Tryz.pinned (OpenSpec.ofChange Rows.fnExactRunResolveSpec) :=
  OpenClaim.holds_of_wide 3 Tryz.f3 rfl rfl rfl rfl rfl rfl rfl ⟨rfl, rfl, rfl, rfl, rfl⟩ rfl rfl rfl rfl rfl (by kernel_rfl) Tryz.func3 (by kernel_rfl)
    (of_decide_eq_true (by kernel_rfl)) (by unfold Func.isWrapper; first | (rw [if_pos (by decide +kernel)]; kernel_rfl) | (rw [if_neg (by decide +kernel)]; exact ⟨rfl, rfl⟩))
    (fun os started H enc _ => lifted os started H enc)
theorem proved : Rows.FnExactRunResolveCardSaid :=
  Claim7.holds_tied_plain_at .later [] [.data, .pinned] true (true, "661ba6da2639b247715db58133c3d5ac03b7371f83c18f84e5182b2cc3977dd7") false over (fun _ h => by cases h) (by kernel_rfl) (fun _ h => by cases h) fnExactRunResolve_row_tie rfl ⟨rfl, rfl⟩ (by kernel_rfl) rfl
    (fun f fn hf hfn => by
      obtain rfl : f = 3 := Option.some.inj ((show Tryz.prog.funcNamed "loop.example/g00003/laws.FnExactRunResolve" = some 3 by kernel_rfl).symm.trans hf) |>.symm
      obtain rfl : fn = Tryz.f3 := (Option.some.inj (Tryz.func3.symm.trans hfn)).symm
      exact ⟨by kernel_rfl, fun j t ht => by
        have hm : t ∈ Tryz.f3.params.toList := by simpa using Array.mem_of_getElem? ht
        have hall : (Tryz.f3.params.toList.all fun u => !Tryz.prog.wantsStandIn u) = true := by kernel_rfl
        exact (show Tryz.prog.wantsStandIn t = false by simpa using List.all_eq_true.1 hall t hm)⟩)
    (by kernel_rfl)
#print axioms proved
end Go.Proofs.YtaoffieemecioaaGreatDoor.fnExactRunResolve
namespace Go.Proofs.YtaoffieemecioaaGreatDoor
theorem fnExactRunResolveCard_holds : Rows.FnExactRunResolveCardSaid := fnExactRunResolve.proved
end Go.Proofs.YtaoffieemecioaaGreatDoor
