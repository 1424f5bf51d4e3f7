/-
  No cell of these rows narrows 'for every input' (looked for: loops, veiled, ifaces, maps, wideKeys, modest, calm, conditions, laid).
  DERIVED. THE GIVEN ROWS OF THIS SEAT. 12 by the template 'for every input the law returns true; each argument reads behind the call as it read before'; 0 by the template 'total and deterministic' (their statements: YtolpkckaijeahaaTotals.lean).
  GIVEN WITH THE SEED: the statements are not yours to turn. If you find one false, say at which input.
  Laid BY PROGRAM, IN A SANDBOX (cutbox-rows.mjs): the forced cells as the released guide's own fill.sh prints them over the translation 65f96379be9b04a0… (all of the seat's roots in one cut). By AI agents, Wed Nov 11 2026. No macro, syntax, notation, axiom, sorry.
-/
import Derived.Test.YtolpkckaijeahaaChecked
import GoSem.Claim
import GoSem.ClaimJoined
import GoSem.ClaimMapViews
import Derived.JoinedTies
import Derived.KernelRfl
namespace Go.Proofs.Ytolpkckaijeahaa
/- THE CELL 'sum', in the pinned program and in every row, IS THE sha256 OF THE DUMP (.gsa) THAT YtolpkckaijeahaaProg.lean LOADS. Nothing in Lean hashes anything: it is a label: what it is worth is what the hold of that sum in a sandbox is worth. -/
noncomputable def Try.pinned : Pinned := { name := "ytolpkckaijeahaa", sum := "65f96379be9b04a056f8fbf3e4eb8c7edd42e6f1b67e50d7818a0889bda5b43c", checked := Try.checked }
namespace Rows
def none {H : Type} : Left H := { results := [], args := [] }

/-- 'laws.FnExactMayHave': WHATEVER THE INPUT: true; the input reads as it did. -/
def fnExactMayHaveSpec : ChangeSpec := { name := "fnExactMayHave", fn := fun _ => fun
  | [d1, d2] => { results := [.lit (.bool true)], args := [d1, d2] }
  | _ => none }
def fnExactMayHaveRow : OpenClaim := { program := "ytolpkckaijeahaa", sum := "65f96379be9b04a056f8fbf3e4eb8c7edd42e6f1b67e50d7818a0889bda5b43c", func := "loop.example/g00150/laws.FnExactMayHave", spec := "fnExactMayHave", unfollowed := true, recurses := true, apart := false }
def FnExactMayHaveSaid : Prop := fnExactMayHaveRow.holds Try.pinned (OpenSpec.ofChange fnExactMayHaveSpec)

/-- ITS FALSE NEIGHBOUR: 'it returns false'. Refute it at one input. -/
def fnExactMayHaveWrong : ChangeSpec := { name := "fnExactMayHave", fn := fun _ => fun
  | [d1, d2] => { results := [.lit (.bool false)], args := [d1, d2] }
  | _ => none }
def FnExactMayHaveWrongFalsely : Prop := fnExactMayHaveRow.holds Try.pinned (OpenSpec.ofChange fnExactMayHaveWrong)

/-- 'laws.FnExactAggOf': WHATEVER THE INPUT: true; the input reads as it did. -/
def fnExactAggOfSpec : ChangeSpec := { name := "fnExactAggOf", fn := fun _ => fun
  | [d] => { results := [.lit (.bool true)], args := [d] }
  | _ => none }
def fnExactAggOfRow : OpenClaim := { program := "ytolpkckaijeahaa", sum := "65f96379be9b04a056f8fbf3e4eb8c7edd42e6f1b67e50d7818a0889bda5b43c", func := "loop.example/g00150/laws.FnExactAggOf", spec := "fnExactAggOf", apart := false }
def FnExactAggOfSaid : Prop := fnExactAggOfRow.holds Try.pinned (OpenSpec.ofChange fnExactAggOfSpec)

/-- ITS FALSE NEIGHBOUR: 'it returns false'. Refute it at one input. -/
def fnExactAggOfWrong : ChangeSpec := { name := "fnExactAggOf", fn := fun _ => fun
  | [d] => { results := [.lit (.bool false)], args := [d] }
  | _ => none }
def FnExactAggOfWrongFalsely : Prop := fnExactAggOfRow.holds Try.pinned (OpenSpec.ofChange fnExactAggOfWrong)

/-- 'laws.FnExactGoodAgg': WHATEVER THE INPUT: true; the input reads as it did. -/
def fnExactGoodAggSpec : ChangeSpec := { name := "fnExactGoodAgg", fn := fun _ => fun
  | [d] => { results := [.lit (.bool true)], args := [d] }
  | _ => none }
def fnExactGoodAggRow : OpenClaim := { program := "ytolpkckaijeahaa", sum := "65f96379be9b04a056f8fbf3e4eb8c7edd42e6f1b67e50d7818a0889bda5b43c", func := "loop.example/g00150/laws.FnExactGoodAgg", spec := "fnExactGoodAgg", apart := false }
def FnExactGoodAggSaid : Prop := fnExactGoodAggRow.holds Try.pinned (OpenSpec.ofChange fnExactGoodAggSpec)

/-- ITS FALSE NEIGHBOUR: 'it returns false'. Refute it at one input. -/
def fnExactGoodAggWrong : ChangeSpec := { name := "fnExactGoodAgg", fn := fun _ => fun
  | [d] => { results := [.lit (.bool false)], args := [d] }
  | _ => none }
def FnExactGoodAggWrongFalsely : Prop := fnExactGoodAggRow.holds Try.pinned (OpenSpec.ofChange fnExactGoodAggWrong)

/-- 'laws.FnExactMeanOf': WHATEVER THE INPUT: true; the input reads as it did. -/
def fnExactMeanOfSpec : ChangeSpec := { name := "fnExactMeanOf", fn := fun _ => fun
  | [d] => { results := [.lit (.bool true)], args := [d] }
  | _ => none }
def fnExactMeanOfRow : OpenClaim := { program := "ytolpkckaijeahaa", sum := "65f96379be9b04a056f8fbf3e4eb8c7edd42e6f1b67e50d7818a0889bda5b43c", func := "loop.example/g00150/laws.FnExactMeanOf", spec := "fnExactMeanOf", apart := false }
def FnExactMeanOfSaid : Prop := fnExactMeanOfRow.holds Try.pinned (OpenSpec.ofChange fnExactMeanOfSpec)

/-- ITS FALSE NEIGHBOUR: 'it returns false'. Refute it at one input. -/
def fnExactMeanOfWrong : ChangeSpec := { name := "fnExactMeanOf", fn := fun _ => fun
  | [d] => { results := [.lit (.bool false)], args := [d] }
  | _ => none }
def FnExactMeanOfWrongFalsely : Prop := fnExactMeanOfRow.holds Try.pinned (OpenSpec.ofChange fnExactMeanOfWrong)

/-- 'laws.FnExactLogPieces': WHATEVER THE INPUT: true; the input reads as it did. -/
def fnExactLogPiecesSpec : ChangeSpec := { name := "fnExactLogPieces", fn := fun _ => fun
  | [d1, d2] => { results := [.lit (.bool true)], args := [d1, d2] }
  | _ => none }
def fnExactLogPiecesRow : OpenClaim := { program := "ytolpkckaijeahaa", sum := "65f96379be9b04a056f8fbf3e4eb8c7edd42e6f1b67e50d7818a0889bda5b43c", func := "loop.example/g00150/laws.FnExactLogPieces", spec := "fnExactLogPieces", apart := false }
def FnExactLogPiecesSaid : Prop := fnExactLogPiecesRow.holds Try.pinned (OpenSpec.ofChange fnExactLogPiecesSpec)

/-- ITS FALSE NEIGHBOUR: 'it returns false'. Refute it at one input. -/
def fnExactLogPiecesWrong : ChangeSpec := { name := "fnExactLogPieces", fn := fun _ => fun
  | [d1, d2] => { results := [.lit (.bool false)], args := [d1, d2] }
  | _ => none }
def FnExactLogPiecesWrongFalsely : Prop := fnExactLogPiecesRow.holds Try.pinned (OpenSpec.ofChange fnExactLogPiecesWrong)

/-- 'laws.FnExactFilterOf': WHATEVER THE INPUT: true; the input reads as it did. -/
def fnExactFilterOfSpec : ChangeSpec := { name := "fnExactFilterOf", fn := fun _ => fun
  | [d1, d2] => { results := [.lit (.bool true)], args := [d1, d2] }
  | _ => none }
def fnExactFilterOfRow : OpenClaim := { program := "ytolpkckaijeahaa", sum := "65f96379be9b04a056f8fbf3e4eb8c7edd42e6f1b67e50d7818a0889bda5b43c", func := "loop.example/g00150/laws.FnExactFilterOf", spec := "fnExactFilterOf", apart := false }
def FnExactFilterOfSaid : Prop := fnExactFilterOfRow.holds Try.pinned (OpenSpec.ofChange fnExactFilterOfSpec)

/-- ITS FALSE NEIGHBOUR: 'it returns false'. Refute it at one input. -/
def fnExactFilterOfWrong : ChangeSpec := { name := "fnExactFilterOf", fn := fun _ => fun
  | [d1, d2] => { results := [.lit (.bool false)], args := [d1, d2] }
  | _ => none }
def FnExactFilterOfWrongFalsely : Prop := fnExactFilterOfRow.holds Try.pinned (OpenSpec.ofChange fnExactFilterOfWrong)

/-- 'laws.FnExactGoodEntry': WHATEVER THE INPUT: true; the input reads as it did. -/
def fnExactGoodEntrySpec : ChangeSpec := { name := "fnExactGoodEntry", fn := fun _ => fun
  | [d] => { results := [.lit (.bool true)], args := [d] }
  | _ => none }
def fnExactGoodEntryRow : OpenClaim := { program := "ytolpkckaijeahaa", sum := "65f96379be9b04a056f8fbf3e4eb8c7edd42e6f1b67e50d7818a0889bda5b43c", func := "loop.example/g00150/laws.FnExactGoodEntry", spec := "fnExactGoodEntry", apart := false }
def FnExactGoodEntrySaid : Prop := fnExactGoodEntryRow.holds Try.pinned (OpenSpec.ofChange fnExactGoodEntrySpec)

/-- ITS FALSE NEIGHBOUR: 'it returns false'. Refute it at one input. -/
def fnExactGoodEntryWrong : ChangeSpec := { name := "fnExactGoodEntry", fn := fun _ => fun
  | [d] => { results := [.lit (.bool false)], args := [d] }
  | _ => none }
def FnExactGoodEntryWrongFalsely : Prop := fnExactGoodEntryRow.holds Try.pinned (OpenSpec.ofChange fnExactGoodEntryWrong)

/-- 'laws.FnExactAggBytes': WHATEVER THE INPUT: true; the input reads as it did. -/
def fnExactAggBytesSpec : ChangeSpec := { name := "fnExactAggBytes", fn := fun _ => fun
  | [d] => { results := [.lit (.bool true)], args := [d] }
  | _ => none }
def fnExactAggBytesRow : OpenClaim := { program := "ytolpkckaijeahaa", sum := "65f96379be9b04a056f8fbf3e4eb8c7edd42e6f1b67e50d7818a0889bda5b43c", func := "loop.example/g00150/laws.FnExactAggBytes", spec := "fnExactAggBytes", apart := false }
def FnExactAggBytesSaid : Prop := fnExactAggBytesRow.holds Try.pinned (OpenSpec.ofChange fnExactAggBytesSpec)

/-- ITS FALSE NEIGHBOUR: 'it returns false'. Refute it at one input. -/
def fnExactAggBytesWrong : ChangeSpec := { name := "fnExactAggBytes", fn := fun _ => fun
  | [d] => { results := [.lit (.bool false)], args := [d] }
  | _ => none }
def FnExactAggBytesWrongFalsely : Prop := fnExactAggBytesRow.holds Try.pinned (OpenSpec.ofChange fnExactAggBytesWrong)

/-- 'laws.FnExactJoinAggs': WHATEVER THE INPUT: true; the input reads as it did. -/
def fnExactJoinAggsSpec : ChangeSpec := { name := "fnExactJoinAggs", fn := fun _ => fun
  | [d1, d2] => { results := [.lit (.bool true)], args := [d1, d2] }
  | _ => none }
def fnExactJoinAggsRow : OpenClaim := { program := "ytolpkckaijeahaa", sum := "65f96379be9b04a056f8fbf3e4eb8c7edd42e6f1b67e50d7818a0889bda5b43c", func := "loop.example/g00150/laws.FnExactJoinAggs", spec := "fnExactJoinAggs", unfollowed := true, recurses := true, apart := false }
def FnExactJoinAggsSaid : Prop := fnExactJoinAggsRow.holds Try.pinned (OpenSpec.ofChange fnExactJoinAggsSpec)

/-- ITS FALSE NEIGHBOUR: 'it returns false'. Refute it at one input. -/
def fnExactJoinAggsWrong : ChangeSpec := { name := "fnExactJoinAggs", fn := fun _ => fun
  | [d1, d2] => { results := [.lit (.bool false)], args := [d1, d2] }
  | _ => none }
def FnExactJoinAggsWrongFalsely : Prop := fnExactJoinAggsRow.holds Try.pinned (OpenSpec.ofChange fnExactJoinAggsWrong)

/-- 'laws.FnExactLogOf': WHATEVER THE INPUT: true; the input reads as it did. -/
def fnExactLogOfSpec : ChangeSpec := { name := "fnExactLogOf", fn := fun _ => fun
  | [d] => { results := [.lit (.bool true)], args := [d] }
  | _ => none }
def fnExactLogOfRow : OpenClaim := { program := "ytolpkckaijeahaa", sum := "65f96379be9b04a056f8fbf3e4eb8c7edd42e6f1b67e50d7818a0889bda5b43c", func := "loop.example/g00150/laws.FnExactLogOf", spec := "fnExactLogOf", apart := false }
def FnExactLogOfSaid : Prop := fnExactLogOfRow.holds Try.pinned (OpenSpec.ofChange fnExactLogOfSpec)

/-- ITS FALSE NEIGHBOUR: 'it returns false'. Refute it at one input. -/
def fnExactLogOfWrong : ChangeSpec := { name := "fnExactLogOf", fn := fun _ => fun
  | [d] => { results := [.lit (.bool false)], args := [d] }
  | _ => none }
def FnExactLogOfWrongFalsely : Prop := fnExactLogOfRow.holds Try.pinned (OpenSpec.ofChange fnExactLogOfWrong)

/-- 'laws.FnExactReadLog': WHATEVER THE INPUT: true; the input reads as it did. -/
def fnExactReadLogSpec : ChangeSpec := { name := "fnExactReadLog", fn := fun _ => fun
  | [d] => { results := [.lit (.bool true)], args := [d] }
  | _ => none }
def fnExactReadLogRow : OpenClaim := { program := "ytolpkckaijeahaa", sum := "65f96379be9b04a056f8fbf3e4eb8c7edd42e6f1b67e50d7818a0889bda5b43c", func := "loop.example/g00150/laws.FnExactReadLog", spec := "fnExactReadLog", unfollowed := true, recurses := true, apart := false }
def FnExactReadLogSaid : Prop := fnExactReadLogRow.holds Try.pinned (OpenSpec.ofChange fnExactReadLogSpec)

/-- ITS FALSE NEIGHBOUR: 'it returns false'. Refute it at one input. -/
def fnExactReadLogWrong : ChangeSpec := { name := "fnExactReadLog", fn := fun _ => fun
  | [d] => { results := [.lit (.bool false)], args := [d] }
  | _ => none }
def FnExactReadLogWrongFalsely : Prop := fnExactReadLogRow.holds Try.pinned (OpenSpec.ofChange fnExactReadLogWrong)

/-- 'laws.FnExactReadAgg': WHATEVER THE INPUT: true; the input reads as it did. -/
def fnExactReadAggSpec : ChangeSpec := { name := "fnExactReadAgg", fn := fun _ => fun
  | [d] => { results := [.lit (.bool true)], args := [d] }
  | _ => none }
def fnExactReadAggRow : OpenClaim := { program := "ytolpkckaijeahaa", sum := "65f96379be9b04a056f8fbf3e4eb8c7edd42e6f1b67e50d7818a0889bda5b43c", func := "loop.example/g00150/laws.FnExactReadAgg", spec := "fnExactReadAgg", apart := false }
def FnExactReadAggSaid : Prop := fnExactReadAggRow.holds Try.pinned (OpenSpec.ofChange fnExactReadAggSpec)

/-- ITS FALSE NEIGHBOUR: 'it returns false'. Refute it at one input. -/
def fnExactReadAggWrong : ChangeSpec := { name := "fnExactReadAgg", fn := fun _ => fun
  | [d] => { results := [.lit (.bool false)], args := [d] }
  | _ => none }
def FnExactReadAggWrongFalsely : Prop := fnExactReadAggRow.holds Try.pinned (OpenSpec.ofChange fnExactReadAggWrong)

/- THE SECOND FORM. 'bulk': how many values and letters a reading holds, each counted each time it is reached (what is shared counts as often as it is met; a slice's spare places count too). A statement '..UptoSaid' is the law's where the arguments, and the package variables that the reading takes, are together of bulk at most 1048576: NARROWER than '..Said'. Prove '..Said' where nothing that the law and all that it calls make is longer than what came in: it says more and counts as full. Else prove '..UptoSaid'. A law counts once. -/
mutual
def uptoBulk {H : Type} : DataW H → Nat
  | .lit (.string bytes) => bytes.length + 1
  | .lit _ => 1
  | .nil => 1
  | .ptr d => uptoBulk d + 1
  | .slice elems spare => uptoBulkAll elems + uptoBulkAll spare + 1
  | .agg parts => uptoBulkAll parts + 1
  | .iface _ d => uptoBulk d + 1
  | .map entries => uptoBulkEntries entries + 1
  | .held _ => 1
def uptoBulkAll {H : Type} : List (DataW H) → Nat
  | [] => 0
  | d :: r => uptoBulk d + uptoBulkAll r
def uptoBulkEntries {H : Type} : List (Lit × DataW H) → Nat
  | [] => 0
  | x :: r => uptoBulkEntry x + uptoBulkEntries r
def uptoBulkEntry {H : Type} : Lit × DataW H → Nat
  | (.string bytes, d) => bytes.length + uptoBulk d + 1
  | (_, d) => uptoBulk d + 1
 end
def uptoSmall : (H : Type) → List (DataW H) → Bool := fun _ ds => decide (uptoBulkAll ds ≤ 1048576)
def OpenSpec.upto (s : _root_.Go.ChangeSpec) : _root_.Go.OpenSpec := { _root_.Go.OpenSpec.ofChange s with cond := some uptoSmall }

/-- 'laws.FnExactMayHave', WHERE WHAT IT READS IS OF BULK AT MOST 1048576: true; the input reads as it did. -/
def fnExactMayHaveUptoRow : OpenClaim := { program := "ytolpkckaijeahaa", sum := "65f96379be9b04a056f8fbf3e4eb8c7edd42e6f1b67e50d7818a0889bda5b43c", func := "loop.example/g00150/laws.FnExactMayHave", spec := "fnExactMayHave", unfollowed := true, recurses := true, apart := false, narrowed := true }
def FnExactMayHaveUptoSaid : Prop := fnExactMayHaveUptoRow.holds Try.pinned (OpenSpec.upto fnExactMayHaveSpec)

/-- 'laws.FnExactAggOf', WHERE WHAT IT READS IS OF BULK AT MOST 1048576: true; the input reads as it did. -/
def fnExactAggOfUptoRow : OpenClaim := { program := "ytolpkckaijeahaa", sum := "65f96379be9b04a056f8fbf3e4eb8c7edd42e6f1b67e50d7818a0889bda5b43c", func := "loop.example/g00150/laws.FnExactAggOf", spec := "fnExactAggOf", apart := false, narrowed := true }
def FnExactAggOfUptoSaid : Prop := fnExactAggOfUptoRow.holds Try.pinned (OpenSpec.upto fnExactAggOfSpec)

/-- 'laws.FnExactGoodAgg', WHERE WHAT IT READS IS OF BULK AT MOST 1048576: true; the input reads as it did. -/
def fnExactGoodAggUptoRow : OpenClaim := { program := "ytolpkckaijeahaa", sum := "65f96379be9b04a056f8fbf3e4eb8c7edd42e6f1b67e50d7818a0889bda5b43c", func := "loop.example/g00150/laws.FnExactGoodAgg", spec := "fnExactGoodAgg", apart := false, narrowed := true }
def FnExactGoodAggUptoSaid : Prop := fnExactGoodAggUptoRow.holds Try.pinned (OpenSpec.upto fnExactGoodAggSpec)

/-- 'laws.FnExactMeanOf', WHERE WHAT IT READS IS OF BULK AT MOST 1048576: true; the input reads as it did. -/
def fnExactMeanOfUptoRow : OpenClaim := { program := "ytolpkckaijeahaa", sum := "65f96379be9b04a056f8fbf3e4eb8c7edd42e6f1b67e50d7818a0889bda5b43c", func := "loop.example/g00150/laws.FnExactMeanOf", spec := "fnExactMeanOf", apart := false, narrowed := true }
def FnExactMeanOfUptoSaid : Prop := fnExactMeanOfUptoRow.holds Try.pinned (OpenSpec.upto fnExactMeanOfSpec)

/-- 'laws.FnExactLogPieces', WHERE WHAT IT READS IS OF BULK AT MOST 1048576: true; the input reads as it did. -/
def fnExactLogPiecesUptoRow : OpenClaim := { program := "ytolpkckaijeahaa", sum := "65f96379be9b04a056f8fbf3e4eb8c7edd42e6f1b67e50d7818a0889bda5b43c", func := "loop.example/g00150/laws.FnExactLogPieces", spec := "fnExactLogPieces", apart := false, narrowed := true }
def FnExactLogPiecesUptoSaid : Prop := fnExactLogPiecesUptoRow.holds Try.pinned (OpenSpec.upto fnExactLogPiecesSpec)

/-- 'laws.FnExactFilterOf', WHERE WHAT IT READS IS OF BULK AT MOST 1048576: true; the input reads as it did. -/
def fnExactFilterOfUptoRow : OpenClaim := { program := "ytolpkckaijeahaa", sum := "65f96379be9b04a056f8fbf3e4eb8c7edd42e6f1b67e50d7818a0889bda5b43c", func := "loop.example/g00150/laws.FnExactFilterOf", spec := "fnExactFilterOf", apart := false, narrowed := true }
def FnExactFilterOfUptoSaid : Prop := fnExactFilterOfUptoRow.holds Try.pinned (OpenSpec.upto fnExactFilterOfSpec)

/-- 'laws.FnExactGoodEntry', WHERE WHAT IT READS IS OF BULK AT MOST 1048576: true; the input reads as it did. -/
def fnExactGoodEntryUptoRow : OpenClaim := { program := "ytolpkckaijeahaa", sum := "65f96379be9b04a056f8fbf3e4eb8c7edd42e6f1b67e50d7818a0889bda5b43c", func := "loop.example/g00150/laws.FnExactGoodEntry", spec := "fnExactGoodEntry", apart := false, narrowed := true }
def FnExactGoodEntryUptoSaid : Prop := fnExactGoodEntryUptoRow.holds Try.pinned (OpenSpec.upto fnExactGoodEntrySpec)

/-- 'laws.FnExactAggBytes', WHERE WHAT IT READS IS OF BULK AT MOST 1048576: true; the input reads as it did. -/
def fnExactAggBytesUptoRow : OpenClaim := { program := "ytolpkckaijeahaa", sum := "65f96379be9b04a056f8fbf3e4eb8c7edd42e6f1b67e50d7818a0889bda5b43c", func := "loop.example/g00150/laws.FnExactAggBytes", spec := "fnExactAggBytes", apart := false, narrowed := true }
def FnExactAggBytesUptoSaid : Prop := fnExactAggBytesUptoRow.holds Try.pinned (OpenSpec.upto fnExactAggBytesSpec)

/-- 'laws.FnExactJoinAggs', WHERE WHAT IT READS IS OF BULK AT MOST 1048576: true; the input reads as it did. -/
def fnExactJoinAggsUptoRow : OpenClaim := { program := "ytolpkckaijeahaa", sum := "65f96379be9b04a056f8fbf3e4eb8c7edd42e6f1b67e50d7818a0889bda5b43c", func := "loop.example/g00150/laws.FnExactJoinAggs", spec := "fnExactJoinAggs", unfollowed := true, recurses := true, apart := false, narrowed := true }
def FnExactJoinAggsUptoSaid : Prop := fnExactJoinAggsUptoRow.holds Try.pinned (OpenSpec.upto fnExactJoinAggsSpec)

/-- 'laws.FnExactLogOf', WHERE WHAT IT READS IS OF BULK AT MOST 1048576: true; the input reads as it did. -/
def fnExactLogOfUptoRow : OpenClaim := { program := "ytolpkckaijeahaa", sum := "65f96379be9b04a056f8fbf3e4eb8c7edd42e6f1b67e50d7818a0889bda5b43c", func := "loop.example/g00150/laws.FnExactLogOf", spec := "fnExactLogOf", apart := false, narrowed := true }
def FnExactLogOfUptoSaid : Prop := fnExactLogOfUptoRow.holds Try.pinned (OpenSpec.upto fnExactLogOfSpec)

/-- 'laws.FnExactReadLog', WHERE WHAT IT READS IS OF BULK AT MOST 1048576: true; the input reads as it did. -/
def fnExactReadLogUptoRow : OpenClaim := { program := "ytolpkckaijeahaa", sum := "65f96379be9b04a056f8fbf3e4eb8c7edd42e6f1b67e50d7818a0889bda5b43c", func := "loop.example/g00150/laws.FnExactReadLog", spec := "fnExactReadLog", unfollowed := true, recurses := true, apart := false, narrowed := true }
def FnExactReadLogUptoSaid : Prop := fnExactReadLogUptoRow.holds Try.pinned (OpenSpec.upto fnExactReadLogSpec)

/-- 'laws.FnExactReadAgg', WHERE WHAT IT READS IS OF BULK AT MOST 1048576: true; the input reads as it did. -/
def fnExactReadAggUptoRow : OpenClaim := { program := "ytolpkckaijeahaa", sum := "65f96379be9b04a056f8fbf3e4eb8c7edd42e6f1b67e50d7818a0889bda5b43c", func := "loop.example/g00150/laws.FnExactReadAgg", spec := "fnExactReadAgg", apart := false, narrowed := true }
def FnExactReadAggUptoSaid : Prop := fnExactReadAggUptoRow.holds Try.pinned (OpenSpec.upto fnExactReadAggSpec)

end Rows
end Go.Proofs.Ytolpkckaijeahaa
