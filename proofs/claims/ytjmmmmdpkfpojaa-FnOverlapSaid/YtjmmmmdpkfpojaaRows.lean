/-
  No cell of these rows narrows 'for every input' (looked for: loops, veiled, ifaces, maps, wideKeys, modest, calm, conditions, laid).
  DERIVED. THE GIVEN ROWS OF THIS SEAT. 4 by the template 'for every input the law returns true; each argument reads behind the call as it read before'; 0 by the template 'total and deterministic' (their statements: YtjmmmmdpkfpojaaTotals.lean).
  GIVEN WITH THE SEED: the statements are not yours to turn. If you find one false, say at which input.
  Laid BY PROGRAM, IN A SANDBOX (cutbox-rows.mjs): the forced cells as the released guide's own fill.sh prints them over the translation 693aee391051b7de… (all of the seat's roots in one cut). By AI agents, Wed Nov 11 2026. No macro, syntax, notation, axiom, sorry.
-/
import Derived.Test.YtjmmmmdpkfpojaaChecked
import GoSem.Claim
import GoSem.ClaimJoined
import GoSem.ClaimMapViews
import Derived.JoinedTies
import Derived.KernelRfl
namespace Go.Proofs.Ytjmmmmdpkfpojaa
/- THE CELL 'sum', in the pinned program and in every row, IS THE sha256 OF THE DUMP (.gsa) THAT YtjmmmmdpkfpojaaProg.lean LOADS. Nothing in Lean hashes anything: it is a label: what it is worth is what the hold of that sum in a sandbox is worth. -/
noncomputable def Try.pinned : Pinned := { name := "ytjmmmmdpkfpojaa", sum := "693aee391051b7de7e4e4e4ceb1c55543cee007464fcbfcb0af38198b4a91859", checked := Try.checked }
namespace Rows
def none {H : Type} : Left H := { results := [], args := [] }

/-- 'laws.FnExactRunReasm': WHATEVER THE INPUT: true; the input reads as it did. -/
def fnExactRunReasmSpec : ChangeSpec := { name := "fnExactRunReasm", fn := fun _ => fun
  | [d] => { results := [.lit (.bool true)], args := [d] }
  | _ => none }
def fnExactRunReasmRow : OpenClaim := { program := "ytjmmmmdpkfpojaa", sum := "693aee391051b7de7e4e4e4ceb1c55543cee007464fcbfcb0af38198b4a91859", func := "loop.example/g00003/laws.FnExactRunReasm", spec := "fnExactRunReasm", unfollowed := true, recurses := true, apart := false }
def FnExactRunReasmSaid : Prop := fnExactRunReasmRow.holds Try.pinned (OpenSpec.ofChange fnExactRunReasmSpec)

/-- ITS FALSE NEIGHBOUR: 'it returns false'. Refute it at one input. -/
def fnExactRunReasmWrong : ChangeSpec := { name := "fnExactRunReasm", fn := fun _ => fun
  | [d] => { results := [.lit (.bool false)], args := [d] }
  | _ => none }
def FnExactRunReasmWrongFalsely : Prop := fnExactRunReasmRow.holds Try.pinned (OpenSpec.ofChange fnExactRunReasmWrong)

/-- 'laws.FnNoOthers': WHATEVER THE INPUT: true; the input reads as it did. -/
def fnNoOthersSpec : ChangeSpec := { name := "fnNoOthers", fn := fun _ => fun
  | [d] => { results := [.lit (.bool true)], args := [d] }
  | _ => none }
def fnNoOthersRow : OpenClaim := { program := "ytjmmmmdpkfpojaa", sum := "693aee391051b7de7e4e4e4ceb1c55543cee007464fcbfcb0af38198b4a91859", func := "loop.example/g00003/laws.FnNoOthers", spec := "fnNoOthers", unfollowed := true, recurses := true, apart := false }
def FnNoOthersSaid : Prop := fnNoOthersRow.holds Try.pinned (OpenSpec.ofChange fnNoOthersSpec)

/-- ITS FALSE NEIGHBOUR: 'it returns false'. Refute it at one input. -/
def fnNoOthersWrong : ChangeSpec := { name := "fnNoOthers", fn := fun _ => fun
  | [d] => { results := [.lit (.bool false)], args := [d] }
  | _ => none }
def FnNoOthersWrongFalsely : Prop := fnNoOthersRow.holds Try.pinned (OpenSpec.ofChange fnNoOthersWrong)

/-- 'laws.FnCutWhole': WHATEVER THE INPUT: true; the input reads as it did. -/
def fnCutWholeSpec : ChangeSpec := { name := "fnCutWhole", fn := fun _ => fun
  | [d] => { results := [.lit (.bool true)], args := [d] }
  | _ => none }
def fnCutWholeRow : OpenClaim := { program := "ytjmmmmdpkfpojaa", sum := "693aee391051b7de7e4e4e4ceb1c55543cee007464fcbfcb0af38198b4a91859", func := "loop.example/g00003/laws.FnCutWhole", spec := "fnCutWhole", unfollowed := true, recurses := true, apart := false }
def FnCutWholeSaid : Prop := fnCutWholeRow.holds Try.pinned (OpenSpec.ofChange fnCutWholeSpec)

/-- ITS FALSE NEIGHBOUR: 'it returns false'. Refute it at one input. -/
def fnCutWholeWrong : ChangeSpec := { name := "fnCutWhole", fn := fun _ => fun
  | [d] => { results := [.lit (.bool false)], args := [d] }
  | _ => none }
def FnCutWholeWrongFalsely : Prop := fnCutWholeRow.holds Try.pinned (OpenSpec.ofChange fnCutWholeWrong)

/-- 'laws.FnOverlap': WHATEVER THE INPUT: true; the input reads as it did. -/
def fnOverlapSpec : ChangeSpec := { name := "fnOverlap", fn := fun _ => fun
  | [d] => { results := [.lit (.bool true)], args := [d] }
  | _ => none }
def fnOverlapRow : OpenClaim := { program := "ytjmmmmdpkfpojaa", sum := "693aee391051b7de7e4e4e4ceb1c55543cee007464fcbfcb0af38198b4a91859", func := "loop.example/g00003/laws.FnOverlap", spec := "fnOverlap", unfollowed := true, recurses := true, apart := false }
def FnOverlapSaid : Prop := fnOverlapRow.holds Try.pinned (OpenSpec.ofChange fnOverlapSpec)

/-- ITS FALSE NEIGHBOUR: 'it returns false'. Refute it at one input. -/
def fnOverlapWrong : ChangeSpec := { name := "fnOverlap", fn := fun _ => fun
  | [d] => { results := [.lit (.bool false)], args := [d] }
  | _ => none }
def FnOverlapWrongFalsely : Prop := fnOverlapRow.holds Try.pinned (OpenSpec.ofChange fnOverlapWrong)

/- THE SECOND FORM. 'bulk': how many values and letters a reading holds, each counted each time it is reached (what is shared counts as often as it is met; a slice's spare places count too). A statement '..UptoSaid' is the law's where the arguments, and the package variables that the reading takes, are together of bulk at most 1048576: NARROWER than '..Said'. Prove '..Said' where nothing that the law and all that it calls make is longer than what came in: it says more and counts as full. Else prove '..UptoSaid'. A law counts once. -/
mutual
def uptoBulk {H : Type} : DataW H → Nat
  | .lit (.string bytes) => bytes.length + 1
  | .lit _ => 1
  | .nil => 1
  | .ptr d => uptoBulk d + 1
  | .slice elems spare => uptoBulkAll elems + uptoBulkAll spare + 1
  | .agg parts => uptoBulkAll parts + 1
  | .iface _ d => uptoBulk d + 1
  | .map entries => uptoBulkEntries entries + 1
  | .held _ => 1
def uptoBulkAll {H : Type} : List (DataW H) → Nat
  | [] => 0
  | d :: r => uptoBulk d + uptoBulkAll r
def uptoBulkEntries {H : Type} : List (Lit × DataW H) → Nat
  | [] => 0
  | x :: r => uptoBulkEntry x + uptoBulkEntries r
def uptoBulkEntry {H : Type} : Lit × DataW H → Nat
  | (.string bytes, d) => bytes.length + uptoBulk d + 1
  | (_, d) => uptoBulk d + 1
 end
def uptoSmall : (H : Type) → List (DataW H) → Bool := fun _ ds => decide (uptoBulkAll ds ≤ 1048576)
def OpenSpec.upto (s : _root_.Go.ChangeSpec) : _root_.Go.OpenSpec := { _root_.Go.OpenSpec.ofChange s with cond := some uptoSmall }

/-- 'laws.FnExactRunReasm', WHERE WHAT IT READS IS OF BULK AT MOST 1048576: true; the input reads as it did. -/
def fnExactRunReasmUptoRow : OpenClaim := { program := "ytjmmmmdpkfpojaa", sum := "693aee391051b7de7e4e4e4ceb1c55543cee007464fcbfcb0af38198b4a91859", func := "loop.example/g00003/laws.FnExactRunReasm", spec := "fnExactRunReasm", unfollowed := true, recurses := true, apart := false, narrowed := true }
def FnExactRunReasmUptoSaid : Prop := fnExactRunReasmUptoRow.holds Try.pinned (OpenSpec.upto fnExactRunReasmSpec)

/-- 'laws.FnNoOthers', WHERE WHAT IT READS IS OF BULK AT MOST 1048576: true; the input reads as it did. -/
def fnNoOthersUptoRow : OpenClaim := { program := "ytjmmmmdpkfpojaa", sum := "693aee391051b7de7e4e4e4ceb1c55543cee007464fcbfcb0af38198b4a91859", func := "loop.example/g00003/laws.FnNoOthers", spec := "fnNoOthers", unfollowed := true, recurses := true, apart := false, narrowed := true }
def FnNoOthersUptoSaid : Prop := fnNoOthersUptoRow.holds Try.pinned (OpenSpec.upto fnNoOthersSpec)

/-- 'laws.FnCutWhole', WHERE WHAT IT READS IS OF BULK AT MOST 1048576: true; the input reads as it did. -/
def fnCutWholeUptoRow : OpenClaim := { program := "ytjmmmmdpkfpojaa", sum := "693aee391051b7de7e4e4e4ceb1c55543cee007464fcbfcb0af38198b4a91859", func := "loop.example/g00003/laws.FnCutWhole", spec := "fnCutWhole", unfollowed := true, recurses := true, apart := false, narrowed := true }
def FnCutWholeUptoSaid : Prop := fnCutWholeUptoRow.holds Try.pinned (OpenSpec.upto fnCutWholeSpec)

/-- 'laws.FnOverlap', WHERE WHAT IT READS IS OF BULK AT MOST 1048576: true; the input reads as it did. -/
def fnOverlapUptoRow : OpenClaim := { program := "ytjmmmmdpkfpojaa", sum := "693aee391051b7de7e4e4e4ceb1c55543cee007464fcbfcb0af38198b4a91859", func := "loop.example/g00003/laws.FnOverlap", spec := "fnOverlap", unfollowed := true, recurses := true, apart := false, narrowed := true }
def FnOverlapUptoSaid : Prop := fnOverlapUptoRow.holds Try.pinned (OpenSpec.upto fnOverlapSpec)

end Rows
end Go.Proofs.Ytjmmmmdpkfpojaa
