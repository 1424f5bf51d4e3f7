/-
  No cell of these rows narrows 'for every input' (looked for: loops, veiled, ifaces, maps, wideKeys, modest, calm, conditions, laid).
  DERIVED. THE GIVEN ROWS OF THIS SEAT. 2 by the template 'for every input the law returns true; each argument reads behind the call as it read before'; 0 by the template 'total and deterministic' (their statements: YtncnfkcnimfbmaaTotals.lean).
  GIVEN WITH THE SEED: the statements are not yours to turn. If you find one false, say at which input.
  Laid BY PROGRAM, IN A SANDBOX (cutbox-rows.mjs): the forced cells as the released guide's own fill.sh prints them over the translation c04f2e82305e56dc… (all of the seat's roots in one cut). By AI agents, Wed Nov 11 2026. No macro, syntax, notation, axiom, sorry.
-/
import Derived.Test.YtncnfkcnimfbmaaChecked
import GoSem.Claim
import GoSem.ClaimJoined
import GoSem.ClaimMapViews
import Derived.JoinedTies
import Derived.KernelRfl
namespace Go.Proofs.Ytncnfkcnimfbmaa
/- THE CELL 'sum', in the pinned program and in every row, IS THE sha256 OF THE DUMP (.gsa) THAT YtncnfkcnimfbmaaProg.lean LOADS. Nothing in Lean hashes anything: it is a label: what it is worth is what the hold of that sum in a sandbox is worth. -/
noncomputable def Try.pinned : Pinned := { name := "ytncnfkcnimfbmaa", sum := "c04f2e82305e56dc4f90c3141648d6ad48dc6b1d1d773c33f0dd5b2d87abb1fe", checked := Try.checked }
namespace Rows
def none {H : Type} : Left H := { results := [], args := [] }

/-- 'laws.FnExactJoinAggs': WHATEVER THE INPUT: true; the input reads as it did. -/
def fnExactJoinAggsSpec : ChangeSpec := { name := "fnExactJoinAggs", fn := fun _ => fun
  | [d1, d2] => { results := [.lit (.bool true)], args := [d1, d2] }
  | _ => none }
def fnExactJoinAggsRow : OpenClaim := { program := "ytncnfkcnimfbmaa", sum := "c04f2e82305e56dc4f90c3141648d6ad48dc6b1d1d773c33f0dd5b2d87abb1fe", func := "loop.example/g00150/laws.FnExactJoinAggs", spec := "fnExactJoinAggs", unfollowed := true, recurses := true, apart := false }
def FnExactJoinAggsSaid : Prop := fnExactJoinAggsRow.holds Try.pinned (OpenSpec.ofChange fnExactJoinAggsSpec)

/-- ITS FALSE NEIGHBOUR: 'it returns false'. Refute it at one input. -/
def fnExactJoinAggsWrong : ChangeSpec := { name := "fnExactJoinAggs", fn := fun _ => fun
  | [d1, d2] => { results := [.lit (.bool false)], args := [d1, d2] }
  | _ => none }
def FnExactJoinAggsWrongFalsely : Prop := fnExactJoinAggsRow.holds Try.pinned (OpenSpec.ofChange fnExactJoinAggsWrong)

/-- 'laws.FnExactReadAgg': WHATEVER THE INPUT: true; the input reads as it did. -/
def fnExactReadAggSpec : ChangeSpec := { name := "fnExactReadAgg", fn := fun _ => fun
  | [d] => { results := [.lit (.bool true)], args := [d] }
  | _ => none }
def fnExactReadAggRow : OpenClaim := { program := "ytncnfkcnimfbmaa", sum := "c04f2e82305e56dc4f90c3141648d6ad48dc6b1d1d773c33f0dd5b2d87abb1fe", func := "loop.example/g00150/laws.FnExactReadAgg", spec := "fnExactReadAgg", apart := false }
def FnExactReadAggSaid : Prop := fnExactReadAggRow.holds Try.pinned (OpenSpec.ofChange fnExactReadAggSpec)

/-- ITS FALSE NEIGHBOUR: 'it returns false'. Refute it at one input. -/
def fnExactReadAggWrong : ChangeSpec := { name := "fnExactReadAgg", fn := fun _ => fun
  | [d] => { results := [.lit (.bool false)], args := [d] }
  | _ => none }
def FnExactReadAggWrongFalsely : Prop := fnExactReadAggRow.holds Try.pinned (OpenSpec.ofChange fnExactReadAggWrong)

/- THE SECOND FORM. 'bulk': how many values and letters a reading holds, each counted each time it is reached (what is shared counts as often as it is met; a slice's spare places count too). A statement '..UptoSaid' is the law's where the arguments, and the package variables that the reading takes, are together of bulk at most 1048576: NARROWER than '..Said'. Prove '..Said' where nothing that the law and all that it calls make is longer than what came in: it says more and counts as full. Else prove '..UptoSaid'. A law counts once. -/
mutual
def uptoBulk {H : Type} : DataW H → Nat
  | .lit (.string bytes) => bytes.length + 1
  | .lit _ => 1
  | .nil => 1
  | .ptr d => uptoBulk d + 1
  | .slice elems spare => uptoBulkAll elems + uptoBulkAll spare + 1
  | .agg parts => uptoBulkAll parts + 1
  | .iface _ d => uptoBulk d + 1
  | .map entries => uptoBulkEntries entries + 1
  | .held _ => 1
def uptoBulkAll {H : Type} : List (DataW H) → Nat
  | [] => 0
  | d :: r => uptoBulk d + uptoBulkAll r
def uptoBulkEntries {H : Type} : List (Lit × DataW H) → Nat
  | [] => 0
  | x :: r => uptoBulkEntry x + uptoBulkEntries r
def uptoBulkEntry {H : Type} : Lit × DataW H → Nat
  | (.string bytes, d) => bytes.length + uptoBulk d + 1
  | (_, d) => uptoBulk d + 1
 end
def uptoSmall : (H : Type) → List (DataW H) → Bool := fun _ ds => decide (uptoBulkAll ds ≤ 1048576)
def OpenSpec.upto (s : _root_.Go.ChangeSpec) : _root_.Go.OpenSpec := { _root_.Go.OpenSpec.ofChange s with cond := some uptoSmall }

/-- 'laws.FnExactJoinAggs', WHERE WHAT IT READS IS OF BULK AT MOST 1048576: true; the input reads as it did. -/
def fnExactJoinAggsUptoRow : OpenClaim := { program := "ytncnfkcnimfbmaa", sum := "c04f2e82305e56dc4f90c3141648d6ad48dc6b1d1d773c33f0dd5b2d87abb1fe", func := "loop.example/g00150/laws.FnExactJoinAggs", spec := "fnExactJoinAggs", unfollowed := true, recurses := true, apart := false, narrowed := true }
def FnExactJoinAggsUptoSaid : Prop := fnExactJoinAggsUptoRow.holds Try.pinned (OpenSpec.upto fnExactJoinAggsSpec)

/-- 'laws.FnExactReadAgg', WHERE WHAT IT READS IS OF BULK AT MOST 1048576: true; the input reads as it did. -/
def fnExactReadAggUptoRow : OpenClaim := { program := "ytncnfkcnimfbmaa", sum := "c04f2e82305e56dc4f90c3141648d6ad48dc6b1d1d773c33f0dd5b2d87abb1fe", func := "loop.example/g00150/laws.FnExactReadAgg", spec := "fnExactReadAgg", apart := false, narrowed := true }
def FnExactReadAggUptoSaid : Prop := fnExactReadAggUptoRow.holds Try.pinned (OpenSpec.upto fnExactReadAggSpec)

end Rows
end Go.Proofs.Ytncnfkcnimfbmaa
