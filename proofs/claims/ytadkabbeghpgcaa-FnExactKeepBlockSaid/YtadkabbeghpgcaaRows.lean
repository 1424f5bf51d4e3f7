/-
  No cell of these rows narrows 'for every input' (looked for: loops, veiled, ifaces, maps, wideKeys, modest, calm, conditions, laid).
  DERIVED. THE GIVEN ROWS OF THIS SEAT. 4 by the template 'for every input the law returns true; each argument reads behind the call as it read before'; 0 by the template 'total and deterministic' (their statements: YtadkabbeghpgcaaTotals.lean).
  GIVEN WITH THE SEED: the statements are not yours to turn. If you find one false, say at which input.
  Laid BY PROGRAM, IN A SANDBOX (cutbox-rows.mjs): the forced cells as the released guide's own fill.sh prints them over the translation 51c0cfa5a21838f3… (all of the seat's roots in one cut). By AI agents, Wed Nov 11 2026. No macro, syntax, notation, axiom, sorry.
-/
import Derived.Test.YtadkabbeghpgcaaChecked
import GoSem.Claim
import GoSem.ClaimJoined
import GoSem.ClaimMapViews
import Derived.JoinedTies
import Derived.KernelRfl
namespace Go.Proofs.Ytadkabbeghpgcaa
/- THE CELL 'sum', in the pinned program and in every row, IS THE sha256 OF THE DUMP (.gsa) THAT YtadkabbeghpgcaaProg.lean LOADS. Nothing in Lean hashes anything: it is a label: what it is worth is what the hold of that sum in a sandbox is worth. -/
noncomputable def Try.pinned : Pinned := { name := "ytadkabbeghpgcaa", sum := "51c0cfa5a21838f3ecba32aacbacd15be29ba4478d69bd6ac85482b76693e9e5", checked := Try.checked }
namespace Rows
def none {H : Type} : Left H := { results := [], args := [] }

/-- 'laws.FnExactReadEdit': WHATEVER THE INPUT: true; the input reads as it did. -/
def fnExactReadEditSpec : ChangeSpec := { name := "fnExactReadEdit", fn := fun _ => fun
  | [d] => { results := [.lit (.bool true)], args := [d] }
  | _ => none }
def fnExactReadEditRow : OpenClaim := { program := "ytadkabbeghpgcaa", sum := "51c0cfa5a21838f3ecba32aacbacd15be29ba4478d69bd6ac85482b76693e9e5", func := "loop.example/g00150/laws.FnExactReadEdit", spec := "fnExactReadEdit", unfollowed := true, recurses := true, apart := false }
def FnExactReadEditSaid : Prop := fnExactReadEditRow.holds Try.pinned (OpenSpec.ofChange fnExactReadEditSpec)

/-- ITS FALSE NEIGHBOUR: 'it returns false'. Refute it at one input. -/
def fnExactReadEditWrong : ChangeSpec := { name := "fnExactReadEdit", fn := fun _ => fun
  | [d] => { results := [.lit (.bool false)], args := [d] }
  | _ => none }
def FnExactReadEditWrongFalsely : Prop := fnExactReadEditRow.holds Try.pinned (OpenSpec.ofChange fnExactReadEditWrong)

/-- 'laws.FnExactApplyEdit': WHATEVER THE INPUT: true; the input reads as it did. -/
def fnExactApplyEditSpec : ChangeSpec := { name := "fnExactApplyEdit", fn := fun _ => fun
  | [d1, d2] => { results := [.lit (.bool true)], args := [d1, d2] }
  | _ => none }
def fnExactApplyEditRow : OpenClaim := { program := "ytadkabbeghpgcaa", sum := "51c0cfa5a21838f3ecba32aacbacd15be29ba4478d69bd6ac85482b76693e9e5", func := "loop.example/g00150/laws.FnExactApplyEdit", spec := "fnExactApplyEdit", inPlace := ["slices.overlaps[loop.example/g00150/impl.Meta]"], unfollowed := true, recurses := true, apart := false }
def FnExactApplyEditSaid : Prop := fnExactApplyEditRow.holds Try.pinned (OpenSpec.ofChange fnExactApplyEditSpec)

/-- ITS FALSE NEIGHBOUR: 'it returns false'. Refute it at one input. -/
def fnExactApplyEditWrong : ChangeSpec := { name := "fnExactApplyEdit", fn := fun _ => fun
  | [d1, d2] => { results := [.lit (.bool false)], args := [d1, d2] }
  | _ => none }
def FnExactApplyEditWrongFalsely : Prop := fnExactApplyEditRow.holds Try.pinned (OpenSpec.ofChange fnExactApplyEditWrong)

/-- 'laws.FnExactReplayEdits': WHATEVER THE INPUT: true; the input reads as it did. -/
def fnExactReplayEditsSpec : ChangeSpec := { name := "fnExactReplayEdits", fn := fun _ => fun
  | [d] => { results := [.lit (.bool true)], args := [d] }
  | _ => none }
def fnExactReplayEditsRow : OpenClaim := { program := "ytadkabbeghpgcaa", sum := "51c0cfa5a21838f3ecba32aacbacd15be29ba4478d69bd6ac85482b76693e9e5", func := "loop.example/g00150/laws.FnExactReplayEdits", spec := "fnExactReplayEdits", inPlace := ["slices.overlaps[loop.example/g00150/impl.Meta]"], unfollowed := true, recurses := true, apart := false }
def FnExactReplayEditsSaid : Prop := fnExactReplayEditsRow.holds Try.pinned (OpenSpec.ofChange fnExactReplayEditsSpec)

/-- ITS FALSE NEIGHBOUR: 'it returns false'. Refute it at one input. -/
def fnExactReplayEditsWrong : ChangeSpec := { name := "fnExactReplayEdits", fn := fun _ => fun
  | [d] => { results := [.lit (.bool false)], args := [d] }
  | _ => none }
def FnExactReplayEditsWrongFalsely : Prop := fnExactReplayEditsRow.holds Try.pinned (OpenSpec.ofChange fnExactReplayEditsWrong)

/-- 'laws.FnExactKeepBlock': WHATEVER THE INPUT: true; the input reads as it did. -/
def fnExactKeepBlockSpec : ChangeSpec := { name := "fnExactKeepBlock", fn := fun _ => fun
  | [d1, d2, d3] => { results := [.lit (.bool true)], args := [d1, d2, d3] }
  | _ => none }
def fnExactKeepBlockRow : OpenClaim := { program := "ytadkabbeghpgcaa", sum := "51c0cfa5a21838f3ecba32aacbacd15be29ba4478d69bd6ac85482b76693e9e5", func := "loop.example/g00150/laws.FnExactKeepBlock", spec := "fnExactKeepBlock", unfollowed := true, recurses := true, apart := false }
def FnExactKeepBlockSaid : Prop := fnExactKeepBlockRow.holds Try.pinned (OpenSpec.ofChange fnExactKeepBlockSpec)

/-- ITS FALSE NEIGHBOUR: 'it returns false'. Refute it at one input. -/
def fnExactKeepBlockWrong : ChangeSpec := { name := "fnExactKeepBlock", fn := fun _ => fun
  | [d1, d2, d3] => { results := [.lit (.bool false)], args := [d1, d2, d3] }
  | _ => none }
def FnExactKeepBlockWrongFalsely : Prop := fnExactKeepBlockRow.holds Try.pinned (OpenSpec.ofChange fnExactKeepBlockWrong)

/- THE SECOND FORM. 'bulk': how many values and letters a reading holds, each counted each time it is reached (what is shared counts as often as it is met; a slice's spare places count too). A statement '..UptoSaid' is the law's where the arguments, and the package variables that the reading takes, are together of bulk at most 1048576: NARROWER than '..Said'. Prove '..Said' where nothing that the law and all that it calls make is longer than what came in: it says more and counts as full. Else prove '..UptoSaid'. A law counts once. -/
mutual
def uptoBulk {H : Type} : DataW H → Nat
  | .lit (.string bytes) => bytes.length + 1
  | .lit _ => 1
  | .nil => 1
  | .ptr d => uptoBulk d + 1
  | .slice elems spare => uptoBulkAll elems + uptoBulkAll spare + 1
  | .agg parts => uptoBulkAll parts + 1
  | .iface _ d => uptoBulk d + 1
  | .map entries => uptoBulkEntries entries + 1
  | .held _ => 1
def uptoBulkAll {H : Type} : List (DataW H) → Nat
  | [] => 0
  | d :: r => uptoBulk d + uptoBulkAll r
def uptoBulkEntries {H : Type} : List (Lit × DataW H) → Nat
  | [] => 0
  | x :: r => uptoBulkEntry x + uptoBulkEntries r
def uptoBulkEntry {H : Type} : Lit × DataW H → Nat
  | (.string bytes, d) => bytes.length + uptoBulk d + 1
  | (_, d) => uptoBulk d + 1
 end
def uptoSmall : (H : Type) → List (DataW H) → Bool := fun _ ds => decide (uptoBulkAll ds ≤ 1048576)
def OpenSpec.upto (s : _root_.Go.ChangeSpec) : _root_.Go.OpenSpec := { _root_.Go.OpenSpec.ofChange s with cond := some uptoSmall }

/-- 'laws.FnExactReadEdit', WHERE WHAT IT READS IS OF BULK AT MOST 1048576: true; the input reads as it did. -/
def fnExactReadEditUptoRow : OpenClaim := { program := "ytadkabbeghpgcaa", sum := "51c0cfa5a21838f3ecba32aacbacd15be29ba4478d69bd6ac85482b76693e9e5", func := "loop.example/g00150/laws.FnExactReadEdit", spec := "fnExactReadEdit", unfollowed := true, recurses := true, apart := false, narrowed := true }
def FnExactReadEditUptoSaid : Prop := fnExactReadEditUptoRow.holds Try.pinned (OpenSpec.upto fnExactReadEditSpec)

/-- 'laws.FnExactApplyEdit', WHERE WHAT IT READS IS OF BULK AT MOST 1048576: true; the input reads as it did. -/
def fnExactApplyEditUptoRow : OpenClaim := { program := "ytadkabbeghpgcaa", sum := "51c0cfa5a21838f3ecba32aacbacd15be29ba4478d69bd6ac85482b76693e9e5", func := "loop.example/g00150/laws.FnExactApplyEdit", spec := "fnExactApplyEdit", inPlace := ["slices.overlaps[loop.example/g00150/impl.Meta]"], unfollowed := true, recurses := true, apart := false, narrowed := true }
def FnExactApplyEditUptoSaid : Prop := fnExactApplyEditUptoRow.holds Try.pinned (OpenSpec.upto fnExactApplyEditSpec)

/-- 'laws.FnExactReplayEdits', WHERE WHAT IT READS IS OF BULK AT MOST 1048576: true; the input reads as it did. -/
def fnExactReplayEditsUptoRow : OpenClaim := { program := "ytadkabbeghpgcaa", sum := "51c0cfa5a21838f3ecba32aacbacd15be29ba4478d69bd6ac85482b76693e9e5", func := "loop.example/g00150/laws.FnExactReplayEdits", spec := "fnExactReplayEdits", inPlace := ["slices.overlaps[loop.example/g00150/impl.Meta]"], unfollowed := true, recurses := true, apart := false, narrowed := true }
def FnExactReplayEditsUptoSaid : Prop := fnExactReplayEditsUptoRow.holds Try.pinned (OpenSpec.upto fnExactReplayEditsSpec)

/-- 'laws.FnExactKeepBlock', WHERE WHAT IT READS IS OF BULK AT MOST 1048576: true; the input reads as it did. -/
def fnExactKeepBlockUptoRow : OpenClaim := { program := "ytadkabbeghpgcaa", sum := "51c0cfa5a21838f3ecba32aacbacd15be29ba4478d69bd6ac85482b76693e9e5", func := "loop.example/g00150/laws.FnExactKeepBlock", spec := "fnExactKeepBlock", unfollowed := true, recurses := true, apart := false, narrowed := true }
def FnExactKeepBlockUptoSaid : Prop := fnExactKeepBlockUptoRow.holds Try.pinned (OpenSpec.upto fnExactKeepBlockSpec)

end Rows
end Go.Proofs.Ytadkabbeghpgcaa
