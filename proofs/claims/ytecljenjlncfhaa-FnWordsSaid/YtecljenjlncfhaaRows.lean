/-
  No cell of these rows narrows 'for every input' (looked for: loops, veiled, ifaces, maps, wideKeys, modest, calm, conditions, laid).
  DERIVED. THE GIVEN ROWS OF THIS SEAT. 10 by the template 'for every input the law returns true; each argument reads behind the call as it read before'; 0 by the template 'total and deterministic' (their statements: YtecljenjlncfhaaTotals.lean).
  GIVEN WITH THE SEED: the statements are not yours to turn. If you find one false, say at which input.
  Laid BY PROGRAM, IN A SANDBOX (cutbox-rows.mjs): the forced cells as the released guide's own fill.sh prints them over the translation b80001b0c4cc02c4… (all of the seat's roots in one cut). By AI agents, Wed Nov 11 2026. No macro, syntax, notation, axiom, sorry.
-/
import Derived.Test.YtecljenjlncfhaaChecked
import GoSem.Claim
import GoSem.ClaimJoined
import GoSem.ClaimMapViews
import Derived.JoinedTies
import Derived.KernelRfl
namespace Go.Proofs.Ytecljenjlncfhaa
/- THE CELL 'sum', in the pinned program and in every row, IS THE sha256 OF THE DUMP (.gsa) THAT YtecljenjlncfhaaProg.lean LOADS. Nothing in Lean hashes anything: it is a label: what it is worth is what the hold of that sum in a sandbox is worth. -/
noncomputable def Try.pinned : Pinned := { name := "ytecljenjlncfhaa", sum := "b80001b0c4cc02c45ae2dc17b774254dab0c0d68d7a2361acab1060a091083a2", checked := Try.checked }
namespace Rows
def none {H : Type} : Left H := { results := [], args := [] }

/-- 'laws.FnExactShowData': WHATEVER THE INPUT: true; the input reads as it did. -/
def fnExactShowDataSpec : ChangeSpec := { name := "fnExactShowData", fn := fun _ => fun
  | [d] => { results := [.lit (.bool true)], args := [d] }
  | _ => none }
def fnExactShowDataRow : OpenClaim := { program := "ytecljenjlncfhaa", sum := "b80001b0c4cc02c45ae2dc17b774254dab0c0d68d7a2361acab1060a091083a2", func := "loop.example/g00003/laws.FnExactShowData", spec := "fnExactShowData", inPlace := ["internal/bytealg.IndexByteString", "internal/abi.NoEscape"], apart := false }
def FnExactShowDataSaid : Prop := fnExactShowDataRow.holds Try.pinned (OpenSpec.ofChange fnExactShowDataSpec)

/-- ITS FALSE NEIGHBOUR: 'it returns false'. Refute it at one input. -/
def fnExactShowDataWrong : ChangeSpec := { name := "fnExactShowData", fn := fun _ => fun
  | [d] => { results := [.lit (.bool false)], args := [d] }
  | _ => none }
def FnExactShowDataWrongFalsely : Prop := fnExactShowDataRow.holds Try.pinned (OpenSpec.ofChange fnExactShowDataWrong)

/-- 'laws.FnExactReadData': WHATEVER THE INPUT: true; the input reads as it did. -/
def fnExactReadDataSpec : ChangeSpec := { name := "fnExactReadData", fn := fun _ => fun
  | [d] => { results := [.lit (.bool true)], args := [d] }
  | _ => none }
def fnExactReadDataRow : OpenClaim := { program := "ytecljenjlncfhaa", sum := "b80001b0c4cc02c45ae2dc17b774254dab0c0d68d7a2361acab1060a091083a2", func := "loop.example/g00003/laws.FnExactReadData", spec := "fnExactReadData", inPlace := ["internal/bytealg.IndexByteString", "internal/abi.NoEscape"], apart := false }
def FnExactReadDataSaid : Prop := fnExactReadDataRow.holds Try.pinned (OpenSpec.ofChange fnExactReadDataSpec)

/-- ITS FALSE NEIGHBOUR: 'it returns false'. Refute it at one input. -/
def fnExactReadDataWrong : ChangeSpec := { name := "fnExactReadData", fn := fun _ => fun
  | [d] => { results := [.lit (.bool false)], args := [d] }
  | _ => none }
def FnExactReadDataWrongFalsely : Prop := fnExactReadDataRow.holds Try.pinned (OpenSpec.ofChange fnExactReadDataWrong)

/-- 'laws.FnWords': WHATEVER THE INPUT: true; the input reads as it did. -/
def fnWordsSpec : ChangeSpec := { name := "fnWords", fn := fun _ => fun
  | [d] => { results := [.lit (.bool true)], args := [d] }
  | _ => none }
def fnWordsRow : OpenClaim := { program := "ytecljenjlncfhaa", sum := "b80001b0c4cc02c45ae2dc17b774254dab0c0d68d7a2361acab1060a091083a2", func := "loop.example/g00003/laws.FnWords", spec := "fnWords", inPlace := ["internal/bytealg.IndexByteString", "internal/abi.NoEscape"], apart := false }
def FnWordsSaid : Prop := fnWordsRow.holds Try.pinned (OpenSpec.ofChange fnWordsSpec)

/-- ITS FALSE NEIGHBOUR: 'it returns false'. Refute it at one input. -/
def fnWordsWrong : ChangeSpec := { name := "fnWords", fn := fun _ => fun
  | [d] => { results := [.lit (.bool false)], args := [d] }
  | _ => none }
def FnWordsWrongFalsely : Prop := fnWordsRow.holds Try.pinned (OpenSpec.ofChange fnWordsWrong)

/-- 'laws.FnExactBoardPipe': WHATEVER THE INPUT: true; the input reads as it did. -/
def fnExactBoardPipeSpec : ChangeSpec := { name := "fnExactBoardPipe", fn := fun _ => fun
  | [d] => { results := [.lit (.bool true)], args := [d] }
  | _ => none }
def fnExactBoardPipeRow : OpenClaim := { program := "ytecljenjlncfhaa", sum := "b80001b0c4cc02c45ae2dc17b774254dab0c0d68d7a2361acab1060a091083a2", func := "loop.example/g00003/laws.FnExactBoardPipe", spec := "fnExactBoardPipe", apart := false }
def FnExactBoardPipeSaid : Prop := fnExactBoardPipeRow.holds Try.pinned (OpenSpec.ofChange fnExactBoardPipeSpec)

/-- ITS FALSE NEIGHBOUR: 'it returns false'. Refute it at one input. -/
def fnExactBoardPipeWrong : ChangeSpec := { name := "fnExactBoardPipe", fn := fun _ => fun
  | [d] => { results := [.lit (.bool false)], args := [d] }
  | _ => none }
def FnExactBoardPipeWrongFalsely : Prop := fnExactBoardPipeRow.holds Try.pinned (OpenSpec.ofChange fnExactBoardPipeWrong)

/-- 'laws.FnExactBoardFirst': WHATEVER THE INPUT: true; the input reads as it did. -/
def fnExactBoardFirstSpec : ChangeSpec := { name := "fnExactBoardFirst", fn := fun _ => fun
  | [d] => { results := [.lit (.bool true)], args := [d] }
  | _ => none }
def fnExactBoardFirstRow : OpenClaim := { program := "ytecljenjlncfhaa", sum := "b80001b0c4cc02c45ae2dc17b774254dab0c0d68d7a2361acab1060a091083a2", func := "loop.example/g00003/laws.FnExactBoardFirst", spec := "fnExactBoardFirst", apart := false }
def FnExactBoardFirstSaid : Prop := fnExactBoardFirstRow.holds Try.pinned (OpenSpec.ofChange fnExactBoardFirstSpec)

/-- ITS FALSE NEIGHBOUR: 'it returns false'. Refute it at one input. -/
def fnExactBoardFirstWrong : ChangeSpec := { name := "fnExactBoardFirst", fn := fun _ => fun
  | [d] => { results := [.lit (.bool false)], args := [d] }
  | _ => none }
def FnExactBoardFirstWrongFalsely : Prop := fnExactBoardFirstRow.holds Try.pinned (OpenSpec.ofChange fnExactBoardFirstWrong)

/-- 'laws.FnExactBoardSend': WHATEVER THE INPUT: true; the input reads as it did. -/
def fnExactBoardSendSpec : ChangeSpec := { name := "fnExactBoardSend", fn := fun _ => fun
  | [d1, d2, d3] => { results := [.lit (.bool true)], args := [d1, d2, d3] }
  | _ => none }
def fnExactBoardSendRow : OpenClaim := { program := "ytecljenjlncfhaa", sum := "b80001b0c4cc02c45ae2dc17b774254dab0c0d68d7a2361acab1060a091083a2", func := "loop.example/g00003/laws.FnExactBoardSend", spec := "fnExactBoardSend", apart := false }
def FnExactBoardSendSaid : Prop := fnExactBoardSendRow.holds Try.pinned (OpenSpec.ofChange fnExactBoardSendSpec)

/-- ITS FALSE NEIGHBOUR: 'it returns false'. Refute it at one input. -/
def fnExactBoardSendWrong : ChangeSpec := { name := "fnExactBoardSend", fn := fun _ => fun
  | [d1, d2, d3] => { results := [.lit (.bool false)], args := [d1, d2, d3] }
  | _ => none }
def FnExactBoardSendWrongFalsely : Prop := fnExactBoardSendRow.holds Try.pinned (OpenSpec.ofChange fnExactBoardSendWrong)

/-- 'laws.FnExactBoardSplit': WHATEVER THE INPUT: true; the input reads as it did. -/
def fnExactBoardSplitSpec : ChangeSpec := { name := "fnExactBoardSplit", fn := fun _ => fun
  | [d1, d2] => { results := [.lit (.bool true)], args := [d1, d2] }
  | _ => none }
def fnExactBoardSplitRow : OpenClaim := { program := "ytecljenjlncfhaa", sum := "b80001b0c4cc02c45ae2dc17b774254dab0c0d68d7a2361acab1060a091083a2", func := "loop.example/g00003/laws.FnExactBoardSplit", spec := "fnExactBoardSplit", apart := false }
def FnExactBoardSplitSaid : Prop := fnExactBoardSplitRow.holds Try.pinned (OpenSpec.ofChange fnExactBoardSplitSpec)

/-- ITS FALSE NEIGHBOUR: 'it returns false'. Refute it at one input. -/
def fnExactBoardSplitWrong : ChangeSpec := { name := "fnExactBoardSplit", fn := fun _ => fun
  | [d1, d2] => { results := [.lit (.bool false)], args := [d1, d2] }
  | _ => none }
def FnExactBoardSplitWrongFalsely : Prop := fnExactBoardSplitRow.holds Try.pinned (OpenSpec.ofChange fnExactBoardSplitWrong)

/-- 'laws.FnExactBoardAck': WHATEVER THE INPUT: true; the input reads as it did. -/
def fnExactBoardAckSpec : ChangeSpec := { name := "fnExactBoardAck", fn := fun _ => fun
  | [d1, d2, d3] => { results := [.lit (.bool true)], args := [d1, d2, d3] }
  | _ => none }
def fnExactBoardAckRow : OpenClaim := { program := "ytecljenjlncfhaa", sum := "b80001b0c4cc02c45ae2dc17b774254dab0c0d68d7a2361acab1060a091083a2", func := "loop.example/g00003/laws.FnExactBoardAck", spec := "fnExactBoardAck", apart := false }
def FnExactBoardAckSaid : Prop := fnExactBoardAckRow.holds Try.pinned (OpenSpec.ofChange fnExactBoardAckSpec)

/-- ITS FALSE NEIGHBOUR: 'it returns false'. Refute it at one input. -/
def fnExactBoardAckWrong : ChangeSpec := { name := "fnExactBoardAck", fn := fun _ => fun
  | [d1, d2, d3] => { results := [.lit (.bool false)], args := [d1, d2, d3] }
  | _ => none }
def FnExactBoardAckWrongFalsely : Prop := fnExactBoardAckRow.holds Try.pinned (OpenSpec.ofChange fnExactBoardAckWrong)

/-- 'laws.FnNoOthers': WHATEVER THE INPUT: true; the input reads as it did. -/
def fnNoOthersSpec : ChangeSpec := { name := "fnNoOthers", fn := fun _ => fun
  | [d] => { results := [.lit (.bool true)], args := [d] }
  | _ => none }
def fnNoOthersRow : OpenClaim := { program := "ytecljenjlncfhaa", sum := "b80001b0c4cc02c45ae2dc17b774254dab0c0d68d7a2361acab1060a091083a2", func := "loop.example/g00003/laws.FnNoOthers", spec := "fnNoOthers", unfollowed := true, recurses := true, apart := false }
def FnNoOthersSaid : Prop := fnNoOthersRow.holds Try.pinned (OpenSpec.ofChange fnNoOthersSpec)

/-- ITS FALSE NEIGHBOUR: 'it returns false'. Refute it at one input. -/
def fnNoOthersWrong : ChangeSpec := { name := "fnNoOthers", fn := fun _ => fun
  | [d] => { results := [.lit (.bool false)], args := [d] }
  | _ => none }
def FnNoOthersWrongFalsely : Prop := fnNoOthersRow.holds Try.pinned (OpenSpec.ofChange fnNoOthersWrong)

/-- 'laws.FnCutWhole': WHATEVER THE INPUT: true; the input reads as it did. -/
def fnCutWholeSpec : ChangeSpec := { name := "fnCutWhole", fn := fun _ => fun
  | [d] => { results := [.lit (.bool true)], args := [d] }
  | _ => none }
def fnCutWholeRow : OpenClaim := { program := "ytecljenjlncfhaa", sum := "b80001b0c4cc02c45ae2dc17b774254dab0c0d68d7a2361acab1060a091083a2", func := "loop.example/g00003/laws.FnCutWhole", spec := "fnCutWhole", unfollowed := true, recurses := true, apart := false }
def FnCutWholeSaid : Prop := fnCutWholeRow.holds Try.pinned (OpenSpec.ofChange fnCutWholeSpec)

/-- ITS FALSE NEIGHBOUR: 'it returns false'. Refute it at one input. -/
def fnCutWholeWrong : ChangeSpec := { name := "fnCutWhole", fn := fun _ => fun
  | [d] => { results := [.lit (.bool false)], args := [d] }
  | _ => none }
def FnCutWholeWrongFalsely : Prop := fnCutWholeRow.holds Try.pinned (OpenSpec.ofChange fnCutWholeWrong)

/- THE SECOND FORM. 'bulk': how many values and letters a reading holds, each counted each time it is reached (what is shared counts as often as it is met; a slice's spare places count too). A statement '..UptoSaid' is the law's where the arguments, and the package variables that the reading takes, are together of bulk at most 1048576: NARROWER than '..Said'. Prove '..Said' where nothing that the law and all that it calls make is longer than what came in: it says more and counts as full. Else prove '..UptoSaid'. A law counts once. -/
mutual
def uptoBulk {H : Type} : DataW H → Nat
  | .lit (.string bytes) => bytes.length + 1
  | .lit _ => 1
  | .nil => 1
  | .ptr d => uptoBulk d + 1
  | .slice elems spare => uptoBulkAll elems + uptoBulkAll spare + 1
  | .agg parts => uptoBulkAll parts + 1
  | .iface _ d => uptoBulk d + 1
  | .map entries => uptoBulkEntries entries + 1
  | .held _ => 1
def uptoBulkAll {H : Type} : List (DataW H) → Nat
  | [] => 0
  | d :: r => uptoBulk d + uptoBulkAll r
def uptoBulkEntries {H : Type} : List (Lit × DataW H) → Nat
  | [] => 0
  | x :: r => uptoBulkEntry x + uptoBulkEntries r
def uptoBulkEntry {H : Type} : Lit × DataW H → Nat
  | (.string bytes, d) => bytes.length + uptoBulk d + 1
  | (_, d) => uptoBulk d + 1
 end
def uptoSmall : (H : Type) → List (DataW H) → Bool := fun _ ds => decide (uptoBulkAll ds ≤ 1048576)
def OpenSpec.upto (s : _root_.Go.ChangeSpec) : _root_.Go.OpenSpec := { _root_.Go.OpenSpec.ofChange s with cond := some uptoSmall }

/-- 'laws.FnExactShowData', WHERE WHAT IT READS IS OF BULK AT MOST 1048576: true; the input reads as it did. -/
def fnExactShowDataUptoRow : OpenClaim := { program := "ytecljenjlncfhaa", sum := "b80001b0c4cc02c45ae2dc17b774254dab0c0d68d7a2361acab1060a091083a2", func := "loop.example/g00003/laws.FnExactShowData", spec := "fnExactShowData", inPlace := ["internal/bytealg.IndexByteString", "internal/abi.NoEscape"], apart := false, narrowed := true }
def FnExactShowDataUptoSaid : Prop := fnExactShowDataUptoRow.holds Try.pinned (OpenSpec.upto fnExactShowDataSpec)

/-- 'laws.FnExactReadData', WHERE WHAT IT READS IS OF BULK AT MOST 1048576: true; the input reads as it did. -/
def fnExactReadDataUptoRow : OpenClaim := { program := "ytecljenjlncfhaa", sum := "b80001b0c4cc02c45ae2dc17b774254dab0c0d68d7a2361acab1060a091083a2", func := "loop.example/g00003/laws.FnExactReadData", spec := "fnExactReadData", inPlace := ["internal/bytealg.IndexByteString", "internal/abi.NoEscape"], apart := false, narrowed := true }
def FnExactReadDataUptoSaid : Prop := fnExactReadDataUptoRow.holds Try.pinned (OpenSpec.upto fnExactReadDataSpec)

/-- 'laws.FnWords', WHERE WHAT IT READS IS OF BULK AT MOST 1048576: true; the input reads as it did. -/
def fnWordsUptoRow : OpenClaim := { program := "ytecljenjlncfhaa", sum := "b80001b0c4cc02c45ae2dc17b774254dab0c0d68d7a2361acab1060a091083a2", func := "loop.example/g00003/laws.FnWords", spec := "fnWords", inPlace := ["internal/bytealg.IndexByteString", "internal/abi.NoEscape"], apart := false, narrowed := true }
def FnWordsUptoSaid : Prop := fnWordsUptoRow.holds Try.pinned (OpenSpec.upto fnWordsSpec)

/-- 'laws.FnExactBoardPipe', WHERE WHAT IT READS IS OF BULK AT MOST 1048576: true; the input reads as it did. -/
def fnExactBoardPipeUptoRow : OpenClaim := { program := "ytecljenjlncfhaa", sum := "b80001b0c4cc02c45ae2dc17b774254dab0c0d68d7a2361acab1060a091083a2", func := "loop.example/g00003/laws.FnExactBoardPipe", spec := "fnExactBoardPipe", apart := false, narrowed := true }
def FnExactBoardPipeUptoSaid : Prop := fnExactBoardPipeUptoRow.holds Try.pinned (OpenSpec.upto fnExactBoardPipeSpec)

/-- 'laws.FnExactBoardFirst', WHERE WHAT IT READS IS OF BULK AT MOST 1048576: true; the input reads as it did. -/
def fnExactBoardFirstUptoRow : OpenClaim := { program := "ytecljenjlncfhaa", sum := "b80001b0c4cc02c45ae2dc17b774254dab0c0d68d7a2361acab1060a091083a2", func := "loop.example/g00003/laws.FnExactBoardFirst", spec := "fnExactBoardFirst", apart := false, narrowed := true }
def FnExactBoardFirstUptoSaid : Prop := fnExactBoardFirstUptoRow.holds Try.pinned (OpenSpec.upto fnExactBoardFirstSpec)

/-- 'laws.FnExactBoardSend', WHERE WHAT IT READS IS OF BULK AT MOST 1048576: true; the input reads as it did. -/
def fnExactBoardSendUptoRow : OpenClaim := { program := "ytecljenjlncfhaa", sum := "b80001b0c4cc02c45ae2dc17b774254dab0c0d68d7a2361acab1060a091083a2", func := "loop.example/g00003/laws.FnExactBoardSend", spec := "fnExactBoardSend", apart := false, narrowed := true }
def FnExactBoardSendUptoSaid : Prop := fnExactBoardSendUptoRow.holds Try.pinned (OpenSpec.upto fnExactBoardSendSpec)

/-- 'laws.FnExactBoardSplit', WHERE WHAT IT READS IS OF BULK AT MOST 1048576: true; the input reads as it did. -/
def fnExactBoardSplitUptoRow : OpenClaim := { program := "ytecljenjlncfhaa", sum := "b80001b0c4cc02c45ae2dc17b774254dab0c0d68d7a2361acab1060a091083a2", func := "loop.example/g00003/laws.FnExactBoardSplit", spec := "fnExactBoardSplit", apart := false, narrowed := true }
def FnExactBoardSplitUptoSaid : Prop := fnExactBoardSplitUptoRow.holds Try.pinned (OpenSpec.upto fnExactBoardSplitSpec)

/-- 'laws.FnExactBoardAck', WHERE WHAT IT READS IS OF BULK AT MOST 1048576: true; the input reads as it did. -/
def fnExactBoardAckUptoRow : OpenClaim := { program := "ytecljenjlncfhaa", sum := "b80001b0c4cc02c45ae2dc17b774254dab0c0d68d7a2361acab1060a091083a2", func := "loop.example/g00003/laws.FnExactBoardAck", spec := "fnExactBoardAck", apart := false, narrowed := true }
def FnExactBoardAckUptoSaid : Prop := fnExactBoardAckUptoRow.holds Try.pinned (OpenSpec.upto fnExactBoardAckSpec)

/-- 'laws.FnNoOthers', WHERE WHAT IT READS IS OF BULK AT MOST 1048576: true; the input reads as it did. -/
def fnNoOthersUptoRow : OpenClaim := { program := "ytecljenjlncfhaa", sum := "b80001b0c4cc02c45ae2dc17b774254dab0c0d68d7a2361acab1060a091083a2", func := "loop.example/g00003/laws.FnNoOthers", spec := "fnNoOthers", unfollowed := true, recurses := true, apart := false, narrowed := true }
def FnNoOthersUptoSaid : Prop := fnNoOthersUptoRow.holds Try.pinned (OpenSpec.upto fnNoOthersSpec)

/-- 'laws.FnCutWhole', WHERE WHAT IT READS IS OF BULK AT MOST 1048576: true; the input reads as it did. -/
def fnCutWholeUptoRow : OpenClaim := { program := "ytecljenjlncfhaa", sum := "b80001b0c4cc02c45ae2dc17b774254dab0c0d68d7a2361acab1060a091083a2", func := "loop.example/g00003/laws.FnCutWhole", spec := "fnCutWhole", unfollowed := true, recurses := true, apart := false, narrowed := true }
def FnCutWholeUptoSaid : Prop := fnCutWholeUptoRow.holds Try.pinned (OpenSpec.upto fnCutWholeSpec)

end Rows
end Go.Proofs.Ytecljenjlncfhaa
