/-
  No cell of these rows narrows 'for every input' (looked for: loops, veiled, ifaces, maps, wideKeys, modest, calm, conditions, laid).
  DERIVED. THE GIVEN ROWS OF THIS SEAT. 3 by the template 'for every input the law returns true; each argument reads behind the call as it read before'; 0 by the template 'total and deterministic' (their statements: YtcmcfmgabafljaaTotals.lean).
  GIVEN WITH THE SEED: the statements are not yours to turn. If you find one false, say at which input.
  Laid BY PROGRAM, IN A SANDBOX (cutbox-rows.mjs): the forced cells as the released guide's own fill.sh prints them over the translation cf8a734454af2479… (all of the seat's roots in one cut). By AI agents, Wed Nov 11 2026. No macro, syntax, notation, axiom, sorry.
-/
import Derived.Test.YtcmcfmgabafljaaChecked
import GoSem.Claim
import GoSem.ClaimJoined
import GoSem.ClaimMapViews
import Derived.JoinedTies
import Derived.KernelRfl
namespace Go.Proofs.Ytcmcfmgabafljaa
/- THE CELL 'sum', in the pinned program and in every row, IS THE sha256 OF THE DUMP (.gsa) THAT YtcmcfmgabafljaaProg.lean LOADS. Nothing in Lean hashes anything: it is a label: what it is worth is what the hold of that sum in a sandbox is worth. -/
noncomputable def Try.pinned : Pinned := { name := "ytcmcfmgabafljaa", sum := "cf8a734454af2479cf9ccf4cd52a9fcf8484400d143f1c3b1421b18537671e75", checked := Try.checked }
namespace Rows
def none {H : Type} : Left H := { results := [], args := [] }

/-- 'laws.FnExactHostOK': WHATEVER THE INPUT: true; the input reads as it did. -/
def fnExactHostOKSpec : ChangeSpec := { name := "fnExactHostOK", fn := fun _ => fun
  | [d] => { results := [.lit (.bool true)], args := [d] }
  | _ => none }
def fnExactHostOKRow : OpenClaim := { program := "ytcmcfmgabafljaa", sum := "cf8a734454af2479cf9ccf4cd52a9fcf8484400d143f1c3b1421b18537671e75", func := "loop.example/g00003/laws.FnExactHostOK", spec := "fnExactHostOK", apart := false }
def FnExactHostOKSaid : Prop := fnExactHostOKRow.holds Try.pinned (OpenSpec.ofChange fnExactHostOKSpec)

/-- ITS FALSE NEIGHBOUR: 'it returns false'. Refute it at one input. -/
def fnExactHostOKWrong : ChangeSpec := { name := "fnExactHostOK", fn := fun _ => fun
  | [d] => { results := [.lit (.bool false)], args := [d] }
  | _ => none }
def FnExactHostOKWrongFalsely : Prop := fnExactHostOKRow.holds Try.pinned (OpenSpec.ofChange fnExactHostOKWrong)

/-- 'laws.FnExactNetOK': WHATEVER THE INPUT: true; the input reads as it did. -/
def fnExactNetOKSpec : ChangeSpec := { name := "fnExactNetOK", fn := fun _ => fun
  | [d] => { results := [.lit (.bool true)], args := [d] }
  | _ => none }
def fnExactNetOKRow : OpenClaim := { program := "ytcmcfmgabafljaa", sum := "cf8a734454af2479cf9ccf4cd52a9fcf8484400d143f1c3b1421b18537671e75", func := "loop.example/g00003/laws.FnExactNetOK", spec := "fnExactNetOK", apart := false }
def FnExactNetOKSaid : Prop := fnExactNetOKRow.holds Try.pinned (OpenSpec.ofChange fnExactNetOKSpec)

/-- ITS FALSE NEIGHBOUR: 'it returns false'. Refute it at one input. -/
def fnExactNetOKWrong : ChangeSpec := { name := "fnExactNetOK", fn := fun _ => fun
  | [d] => { results := [.lit (.bool false)], args := [d] }
  | _ => none }
def FnExactNetOKWrongFalsely : Prop := fnExactNetOKRow.holds Try.pinned (OpenSpec.ofChange fnExactNetOKWrong)

/-- 'laws.FnExactRunRecv': WHATEVER THE INPUT: true; the input reads as it did. -/
def fnExactRunRecvSpec : ChangeSpec := { name := "fnExactRunRecv", fn := fun _ => fun
  | [d1, d2] => { results := [.lit (.bool true)], args := [d1, d2] }
  | _ => none }
def fnExactRunRecvRow : OpenClaim := { program := "ytcmcfmgabafljaa", sum := "cf8a734454af2479cf9ccf4cd52a9fcf8484400d143f1c3b1421b18537671e75", func := "loop.example/g00003/laws.FnExactRunRecv", spec := "fnExactRunRecv", unfollowed := true, recurses := true, apart := false }
def FnExactRunRecvSaid : Prop := fnExactRunRecvRow.holds Try.pinned (OpenSpec.ofChange fnExactRunRecvSpec)

/-- ITS FALSE NEIGHBOUR: 'it returns false'. Refute it at one input. -/
def fnExactRunRecvWrong : ChangeSpec := { name := "fnExactRunRecv", fn := fun _ => fun
  | [d1, d2] => { results := [.lit (.bool false)], args := [d1, d2] }
  | _ => none }
def FnExactRunRecvWrongFalsely : Prop := fnExactRunRecvRow.holds Try.pinned (OpenSpec.ofChange fnExactRunRecvWrong)

/- THE SECOND FORM. 'bulk': how many values and letters a reading holds, each counted each time it is reached (what is shared counts as often as it is met; a slice's spare places count too). A statement '..UptoSaid' is the law's where the arguments, and the package variables that the reading takes, are together of bulk at most 1048576: NARROWER than '..Said'. Prove '..Said' where nothing that the law and all that it calls make is longer than what came in: it says more and counts as full. Else prove '..UptoSaid'. A law counts once. -/
mutual
def uptoBulk {H : Type} : DataW H → Nat
  | .lit (.string bytes) => bytes.length + 1
  | .lit _ => 1
  | .nil => 1
  | .ptr d => uptoBulk d + 1
  | .slice elems spare => uptoBulkAll elems + uptoBulkAll spare + 1
  | .agg parts => uptoBulkAll parts + 1
  | .iface _ d => uptoBulk d + 1
  | .map entries => uptoBulkEntries entries + 1
  | .held _ => 1
def uptoBulkAll {H : Type} : List (DataW H) → Nat
  | [] => 0
  | d :: r => uptoBulk d + uptoBulkAll r
def uptoBulkEntries {H : Type} : List (Lit × DataW H) → Nat
  | [] => 0
  | x :: r => uptoBulkEntry x + uptoBulkEntries r
def uptoBulkEntry {H : Type} : Lit × DataW H → Nat
  | (.string bytes, d) => bytes.length + uptoBulk d + 1
  | (_, d) => uptoBulk d + 1
 end
def uptoSmall : (H : Type) → List (DataW H) → Bool := fun _ ds => decide (uptoBulkAll ds ≤ 1048576)
def OpenSpec.upto (s : _root_.Go.ChangeSpec) : _root_.Go.OpenSpec := { _root_.Go.OpenSpec.ofChange s with cond := some uptoSmall }

/-- 'laws.FnExactHostOK', WHERE WHAT IT READS IS OF BULK AT MOST 1048576: true; the input reads as it did. -/
def fnExactHostOKUptoRow : OpenClaim := { program := "ytcmcfmgabafljaa", sum := "cf8a734454af2479cf9ccf4cd52a9fcf8484400d143f1c3b1421b18537671e75", func := "loop.example/g00003/laws.FnExactHostOK", spec := "fnExactHostOK", apart := false, narrowed := true }
def FnExactHostOKUptoSaid : Prop := fnExactHostOKUptoRow.holds Try.pinned (OpenSpec.upto fnExactHostOKSpec)

/-- 'laws.FnExactNetOK', WHERE WHAT IT READS IS OF BULK AT MOST 1048576: true; the input reads as it did. -/
def fnExactNetOKUptoRow : OpenClaim := { program := "ytcmcfmgabafljaa", sum := "cf8a734454af2479cf9ccf4cd52a9fcf8484400d143f1c3b1421b18537671e75", func := "loop.example/g00003/laws.FnExactNetOK", spec := "fnExactNetOK", apart := false, narrowed := true }
def FnExactNetOKUptoSaid : Prop := fnExactNetOKUptoRow.holds Try.pinned (OpenSpec.upto fnExactNetOKSpec)

/-- 'laws.FnExactRunRecv', WHERE WHAT IT READS IS OF BULK AT MOST 1048576: true; the input reads as it did. -/
def fnExactRunRecvUptoRow : OpenClaim := { program := "ytcmcfmgabafljaa", sum := "cf8a734454af2479cf9ccf4cd52a9fcf8484400d143f1c3b1421b18537671e75", func := "loop.example/g00003/laws.FnExactRunRecv", spec := "fnExactRunRecv", unfollowed := true, recurses := true, apart := false, narrowed := true }
def FnExactRunRecvUptoSaid : Prop := fnExactRunRecvUptoRow.holds Try.pinned (OpenSpec.upto fnExactRunRecvSpec)

end Rows
end Go.Proofs.Ytcmcfmgabafljaa
