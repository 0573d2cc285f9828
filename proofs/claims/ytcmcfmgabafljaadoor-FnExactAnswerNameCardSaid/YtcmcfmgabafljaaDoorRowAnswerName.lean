/- Proved: the tied card of the law FnExactAnswerName: for every input it returns true and its arguments read behind the call as they read before. Conditions: none beyond the statement's own. -/
import Derived.Test.YtcmcfmgabafljaaDoorRows
import Derived.Test.YtcmcfmgabafljaaDoorTie
import Derived.Test.YtcmcfmgabafljaaDoorCards
import Derived.Test.YtcmcfmgabafljaaDoorL5
import Derived.WalkKit
import Derived.ProofKit
import Derived.OpenShut
import Derived.ChangeOld
import Derived.Below
import Derived.SizedLaws
import Derived.LaidMore
import Derived.Lay
import Derived.SevenTiedAt
import Derived.Stop.Joined
set_option linter.unusedSimpArgs false
set_option linter.unusedVariables false
namespace Go.Proofs.YtcmcfmgabafljaaDoor.fnExactAnswerName
open Go.ChangeShapes Go.WideShapes Go.ChangeAt Go.RowKit Go.IW
theorem own : ownKnob Tryd.prog.godebug = none := by kernel_rfl
theorem laidOut : laidOutB Tryd.prog = true := by kernel_rfl
theorem prs_ok : parsOf Tryd.prog Tryd.f8.params.toList = some [(.slice (.cat .str (.cat (.int .i64) (.cat (.int .i64) .nil))), false), (.slice (.int .u8), false)] := by kernel_rfl
set_option maxRecDepth 100000 in
theorem lifted (os : Os) (started : os.Started) (H : Type) (enc : TypeId × Value → H) :
    ReturnsInHanded {} Tryd.checked os 8 .any (fun w args => (Rows.fnExactAnswerNameSpec.pre enc Tryd.prog Tryd.f8 Rows.fnExactAnswerNameRow.domain false w args ∧ laidMetH Tryd.prog Rows.fnExactAnswerNameRow.laid w) ∧ sizedMet enc Tryd.prog Tryd.f8 (OpenSpec.ofChange Rows.fnExactAnswerNameSpec) false w args)
      (Rows.fnExactAnswerNameSpec.post enc Tryd.prog Tryd.f8 false true false false) := by
  refine returnsInHanded_of_change_and (C := Tryd.checked) (X := fun w _ => laidMetH Tryd.prog Rows.fnExactAnswerNameRow.laid w) (fun _ _ _ hh h => h.of_heap hh) own started (by kernel_rfl) Tryd.func8
    (ChangeSpec.witness_shaped (enc := enc) (C := Tryd.checked) (os := os) (X := fun w _ => laidMetH Tryd.prog Rows.fnExactAnswerNameRow.laid w) false (World.laidAll Tryd.prog os Rows.fnExactAnswerNameRow.laid) #[.slice none 0 0, .slice none 0 0] 8 (World.laidAll_os _ _ _)
      (World.shaped_of_ZipB (by kernel_rfl) (by kernel_rfl)) (by kernel_rfl) (by kernel_rfl) (by kernel_rfl)
      (by rw [MakeChecks.laidMetH_plain _ _ _ (by kernel_rfl)]; exact laidMet_laidAll _ (by kernel_rfl) (by kernel_rfl))) ?_
  intro W base args ds gs before hval hW hc _ hL _
  have hW' := hW
  obtain ⟨p, q, hA, hV, rfl, hfz, hnd⟩ := hW
  have hA' : DataW.TrodAll enc Tryd.prog W 0 (fun _ => true) true Tryd.f8.params.toList args.toList ds p := hA
  rw [Tryd.params8] at hA'
  obtain ⟨v0, vs0, d0, ds0, p0, q0, hargs0, hds0, hp0, h0, r0⟩ := trodAll_cons hA'
  obtain ⟨v1, vs1, d1, ds1, p1, q1, hargs1, hds1, hp1, h1, r1⟩ := trodAll_cons r0
  obtain ⟨rfl, rfl, rfl⟩ := trodAll_nil r1
  subst hds1
  subst hds0
  obtain ⟨rfl, rfl⟩ := trodVars_none hV
  refine (law_calls Tryd.func8 (FnOk.enter (.of ok8)) prs_ok lawAnswerName hval hA).mono fun e W' ⟨he, bel⟩ => ?_
  subst he
  exact ⟨_, rfl, _, _, _, [], _, [], hW', trodAll_mk1 (shut_bool (by kernel_rfl) _), trodAll_below laidOut bel _ _ _ _ (by kernel_rfl) hA, rfl, bel.frame _, fun h => by cases h⟩
theorem over : Rows.fnExactAnswerNameRow.holds Tryd.pinned (OpenSpec.ofChange Rows.fnExactAnswerNameSpec) :=
  OpenClaim.holds_of_wide 8 Tryd.f8 rfl rfl rfl rfl rfl rfl rfl ⟨rfl, rfl, rfl, rfl, rfl⟩ rfl rfl rfl rfl rfl (by kernel_rfl) Tryd.func8 (by kernel_rfl)
    (of_decide_eq_true (by kernel_rfl)) (by unfold Func.isWrapper; first | (rw [if_pos (by decide +kernel)]; kernel_rfl) | (rw [if_neg (by decide +kernel)]; exact ⟨rfl, rfl⟩))
    (fun os started H enc _ => lifted os started H enc)
theorem proved : Rows.FnExactAnswerNameCardSaid :=
  Claim7.holds_tied_plain_at .later [] [.data, .pinned] true (true, "397b519ccdd0a21e6850c904f0d48666aade4266262cda16632efe5c8977fdee") false over (fun _ h => by cases h) (by kernel_rfl) (fun _ h => by cases h) fnExactAnswerName_row_tie rfl ⟨rfl, rfl⟩ (by kernel_rfl) rfl
    (fun f fn hf hfn => by
      obtain rfl : f = 8 := Option.some.inj ((show Tryd.prog.funcNamed "loop.example/g00003/laws.FnExactAnswerName" = some 8 by kernel_rfl).symm.trans hf) |>.symm
      obtain rfl : fn = Tryd.f8 := (Option.some.inj (Tryd.func8.symm.trans hfn)).symm
      exact ⟨by kernel_rfl, fun j t ht => by
        have hm : t ∈ Tryd.f8.params.toList := by simpa using Array.mem_of_getElem? ht
        have hall : (Tryd.f8.params.toList.all fun u => !Tryd.prog.wantsStandIn u) = true := by kernel_rfl
        exact (show Tryd.prog.wantsStandIn t = false by simpa using List.all_eq_true.1 hall t hm)⟩)
    (by kernel_rfl)
#print axioms proved
end Go.Proofs.YtcmcfmgabafljaaDoor.fnExactAnswerName
namespace Go.Proofs.YtcmcfmgabafljaaDoor
theorem fnExactAnswerNameCard_holds : Rows.FnExactAnswerNameCardSaid := fnExactAnswerName.proved
end Go.Proofs.YtcmcfmgabafljaaDoor
