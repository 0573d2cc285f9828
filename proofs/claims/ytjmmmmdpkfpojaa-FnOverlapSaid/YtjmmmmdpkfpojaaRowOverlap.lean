/- Proved: for every input the law FnOverlap returns true and its arguments read behind the call as they read before. Conditions: none beyond the statement's own. -/
import Derived.Test.YtjmmmmdpkfpojaaRows
import Derived.Test.YtjmmmmdpkfpojaaL5
import Derived.WalkKit
import Derived.ProofKit
import Derived.OpenShut
import Derived.ChangeOld
import Derived.Below
import Derived.SizedLaws
set_option linter.unusedSimpArgs false
set_option linter.unusedVariables false
namespace Go.Proofs.Ytjmmmmdpkfpojaa.fnOverlap
open Go.ChangeShapes Go.WideShapes Go.ChangeAt Go.RowKit Go.IW
theorem own : ownKnob Try.prog.godebug = none := by kernel_rfl
theorem laidOut : laidOutB Try.prog = true := by kernel_rfl
theorem prs_ok : parsOf Try.prog Try.f6.params.toList = some [(.slice (.int .u8), false)] := by kernel_rfl
set_option maxRecDepth 100000 in
theorem lifted (os : Os) (started : os.Started) (H : Type) (enc : TypeId × Value → H) :
    ReturnsInHanded {} Try.checked os 6 .any (Rows.fnOverlapSpec.pre6 enc Try.prog Try.f6 Rows.fnOverlapRow.domain false) (Rows.fnOverlapSpec.post enc Try.prog Try.f6 false true false false) := by
  refine returnsInHanded_of_change_sized (C := Try.checked) own started (by kernel_rfl) Try.func6
    (ChangeSpec.witness6 (enc := enc) (C := Try.checked) false ⟨#[], #[.slice none 0 0], []⟩ 8 (by kernel_rfl) (by kernel_rfl) (by kernel_rfl) (by kernel_rfl)) ?_
  intro W base args ds gs before hval hW hcnd hsz _
  have hW' := hW
  obtain ⟨p, q, hA, hV, rfl, hfz, hnd⟩ := hW
  have hA' : DataW.TrodAll enc Try.prog W 0 (fun _ => true) true Try.f6.params.toList args.toList ds p := hA
  rw [Try.params6] at hA'
  obtain ⟨v0, vs0, d0, ds0, p0, q0, hargs0, hds0, hp0, h0, r0⟩ := trodAll_cons hA'
  obtain ⟨rfl, rfl, rfl⟩ := trodAll_nil r0
  subst hds0
  obtain ⟨rfl, rfl⟩ := trodVars_none hV
  refine (law_calls (GOk.free (by kernel_rfl)) Try.func6 (FnOk.enter (.of ok6)) prs_ok lawOverlap hval hA).mono fun e W' ⟨he, bel⟩ => ?_
  subst he
  exact ⟨_, rfl, _, _, _, [], _, [], hW', trodAll_mk1 (shut_bool (by kernel_rfl) _), trodAll_below laidOut bel _ _ _ _ (by kernel_rfl) hA, rfl, bel.frame _, fun h => by cases h⟩
theorem over : Rows.fnOverlapRow.holds Try.pinned (OpenSpec.ofChange Rows.fnOverlapSpec) :=
  OpenClaim.holds_of_wide 6 Try.f6 rfl rfl rfl rfl rfl rfl rfl ⟨rfl, rfl, rfl, rfl, rfl⟩ rfl rfl rfl rfl rfl (by kernel_rfl) Try.func6 (by kernel_rfl)
    (of_decide_eq_true (by kernel_rfl)) (by unfold Func.isWrapper; first | (rw [if_pos (by decide +kernel)]; kernel_rfl) | (rw [if_neg (by decide +kernel)]; exact ⟨rfl, rfl⟩))
    (fun os started H enc _ => lifted os started H enc)
theorem proved : Rows.FnOverlapSaid := over
#print axioms proved
end Go.Proofs.Ytjmmmmdpkfpojaa.fnOverlap
namespace Go.Proofs.Ytjmmmmdpkfpojaa
theorem fnOverlap_holds : Rows.FnOverlapSaid := fnOverlap.proved
end Go.Proofs.Ytjmmmmdpkfpojaa
