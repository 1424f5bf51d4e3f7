/-
  No cell of these rows narrows 'for every input' (looked for: loops, veiled, ifaces, maps, wideKeys, modest, calm, conditions, laid).
  DERIVED. THE GIVEN ROWS OF THIS SEAT. 3 by the template 'for every input the law returns true; each argument reads behind the call as it read before'; 0 by the template 'total and deterministic' (their statements: YtefconminjiapaaTotals.lean).
  GIVEN WITH THE SEED: the statements are not yours to turn. If you find one false, say at which input.
  Laid BY PROGRAM, IN A SANDBOX (cutbox-rows.mjs): the forced cells as the released guide's own fill.sh prints them over the translation fd89455d9f5f195b… (all of the seat's roots in one cut). By AI agents, Wed Nov 11 2026. No macro, syntax, notation, axiom, sorry.
-/
import Derived.Test.YtefconminjiapaaChecked
import GoSem.Claim
import GoSem.ClaimJoined
import GoSem.ClaimMapViews
import Derived.JoinedTies
import Derived.KernelRfl
namespace Go.Proofs.Ytefconminjiapaa
/- THE CELL 'sum', in the pinned program and in every row, IS THE sha256 OF THE DUMP (.gsa) THAT YtefconminjiapaaProg.lean LOADS. Nothing in Lean hashes anything: it is a label: what it is worth is what the hold of that sum in a sandbox is worth. -/
noncomputable def Try.pinned : Pinned := { name := "ytefconminjiapaa", sum := "fd89455d9f5f195b6428bbc8fc3d47cdbfe03560cf69efc28afa80e5b750eaf9", checked := Try.checked }
namespace Rows
def none {H : Type} : Left H := { results := [], args := [] }

/-- 'laws.FnExactGoodVersion': WHATEVER THE INPUT: true; the input reads as it did. -/
def fnExactGoodVersionSpec : ChangeSpec := { name := "fnExactGoodVersion", fn := fun _ => fun
  | [d] => { results := [.lit (.bool true)], args := [d] }
  | _ => none }
def fnExactGoodVersionRow : OpenClaim := { program := "ytefconminjiapaa", sum := "fd89455d9f5f195b6428bbc8fc3d47cdbfe03560cf69efc28afa80e5b750eaf9", func := "loop.example/g00150/laws.FnExactGoodVersion", spec := "fnExactGoodVersion", apart := false }
def FnExactGoodVersionSaid : Prop := fnExactGoodVersionRow.holds Try.pinned (OpenSpec.ofChange fnExactGoodVersionSpec)

/-- ITS FALSE NEIGHBOUR: 'it returns false'. Refute it at one input. -/
def fnExactGoodVersionWrong : ChangeSpec := { name := "fnExactGoodVersion", fn := fun _ => fun
  | [d] => { results := [.lit (.bool false)], args := [d] }
  | _ => none }
def FnExactGoodVersionWrongFalsely : Prop := fnExactGoodVersionRow.holds Try.pinned (OpenSpec.ofChange fnExactGoodVersionWrong)

/-- 'laws.FnExactEditBytes': WHATEVER THE INPUT: true; the input reads as it did. -/
def fnExactEditBytesSpec : ChangeSpec := { name := "fnExactEditBytes", fn := fun _ => fun
  | [d] => { results := [.lit (.bool true)], args := [d] }
  | _ => none }
def fnExactEditBytesRow : OpenClaim := { program := "ytefconminjiapaa", sum := "fd89455d9f5f195b6428bbc8fc3d47cdbfe03560cf69efc28afa80e5b750eaf9", func := "loop.example/g00150/laws.FnExactEditBytes", spec := "fnExactEditBytes", unfollowed := true, recurses := true, apart := false }
def FnExactEditBytesSaid : Prop := fnExactEditBytesRow.holds Try.pinned (OpenSpec.ofChange fnExactEditBytesSpec)

/-- ITS FALSE NEIGHBOUR: 'it returns false'. Refute it at one input. -/
def fnExactEditBytesWrong : ChangeSpec := { name := "fnExactEditBytes", fn := fun _ => fun
  | [d] => { results := [.lit (.bool false)], args := [d] }
  | _ => none }
def FnExactEditBytesWrongFalsely : Prop := fnExactEditBytesRow.holds Try.pinned (OpenSpec.ofChange fnExactEditBytesWrong)

/-- 'laws.FnExactFilesOf': WHATEVER THE INPUT: true; the input reads as it did. -/
def fnExactFilesOfSpec : ChangeSpec := { name := "fnExactFilesOf", fn := fun _ => fun
  | [d] => { results := [.lit (.bool true)], args := [d] }
  | _ => none }
def fnExactFilesOfRow : OpenClaim := { program := "ytefconminjiapaa", sum := "fd89455d9f5f195b6428bbc8fc3d47cdbfe03560cf69efc28afa80e5b750eaf9", func := "loop.example/g00150/laws.FnExactFilesOf", spec := "fnExactFilesOf", recurses := true, apart := false }
def FnExactFilesOfSaid : Prop := fnExactFilesOfRow.holds Try.pinned (OpenSpec.ofChange fnExactFilesOfSpec)

/-- ITS FALSE NEIGHBOUR: 'it returns false'. Refute it at one input. -/
def fnExactFilesOfWrong : ChangeSpec := { name := "fnExactFilesOf", fn := fun _ => fun
  | [d] => { results := [.lit (.bool false)], args := [d] }
  | _ => none }
def FnExactFilesOfWrongFalsely : Prop := fnExactFilesOfRow.holds Try.pinned (OpenSpec.ofChange fnExactFilesOfWrong)

/- THE SECOND FORM. 'bulk': how many values and letters a reading holds, each counted each time it is reached (what is shared counts as often as it is met; a slice's spare places count too). A statement '..UptoSaid' is the law's where the arguments, and the package variables that the reading takes, are together of bulk at most 1048576: NARROWER than '..Said'. Prove '..Said' where nothing that the law and all that it calls make is longer than what came in: it says more and counts as full. Else prove '..UptoSaid'. A law counts once. -/
mutual
def uptoBulk {H : Type} : DataW H → Nat
  | .lit (.string bytes) => bytes.length + 1
  | .lit _ => 1
  | .nil => 1
  | .ptr d => uptoBulk d + 1
  | .slice elems spare => uptoBulkAll elems + uptoBulkAll spare + 1
  | .agg parts => uptoBulkAll parts + 1
  | .iface _ d => uptoBulk d + 1
  | .map entries => uptoBulkEntries entries + 1
  | .held _ => 1
def uptoBulkAll {H : Type} : List (DataW H) → Nat
  | [] => 0
  | d :: r => uptoBulk d + uptoBulkAll r
def uptoBulkEntries {H : Type} : List (Lit × DataW H) → Nat
  | [] => 0
  | x :: r => uptoBulkEntry x + uptoBulkEntries r
def uptoBulkEntry {H : Type} : Lit × DataW H → Nat
  | (.string bytes, d) => bytes.length + uptoBulk d + 1
  | (_, d) => uptoBulk d + 1
 end
def uptoSmall : (H : Type) → List (DataW H) → Bool := fun _ ds => decide (uptoBulkAll ds ≤ 1048576)
def OpenSpec.upto (s : _root_.Go.ChangeSpec) : _root_.Go.OpenSpec := { _root_.Go.OpenSpec.ofChange s with cond := some uptoSmall }

/-- 'laws.FnExactGoodVersion', WHERE WHAT IT READS IS OF BULK AT MOST 1048576: true; the input reads as it did. -/
def fnExactGoodVersionUptoRow : OpenClaim := { program := "ytefconminjiapaa", sum := "fd89455d9f5f195b6428bbc8fc3d47cdbfe03560cf69efc28afa80e5b750eaf9", func := "loop.example/g00150/laws.FnExactGoodVersion", spec := "fnExactGoodVersion", apart := false, narrowed := true }
def FnExactGoodVersionUptoSaid : Prop := fnExactGoodVersionUptoRow.holds Try.pinned (OpenSpec.upto fnExactGoodVersionSpec)

/-- 'laws.FnExactEditBytes', WHERE WHAT IT READS IS OF BULK AT MOST 1048576: true; the input reads as it did. -/
def fnExactEditBytesUptoRow : OpenClaim := { program := "ytefconminjiapaa", sum := "fd89455d9f5f195b6428bbc8fc3d47cdbfe03560cf69efc28afa80e5b750eaf9", func := "loop.example/g00150/laws.FnExactEditBytes", spec := "fnExactEditBytes", unfollowed := true, recurses := true, apart := false, narrowed := true }
def FnExactEditBytesUptoSaid : Prop := fnExactEditBytesUptoRow.holds Try.pinned (OpenSpec.upto fnExactEditBytesSpec)

/-- 'laws.FnExactFilesOf', WHERE WHAT IT READS IS OF BULK AT MOST 1048576: true; the input reads as it did. -/
def fnExactFilesOfUptoRow : OpenClaim := { program := "ytefconminjiapaa", sum := "fd89455d9f5f195b6428bbc8fc3d47cdbfe03560cf69efc28afa80e5b750eaf9", func := "loop.example/g00150/laws.FnExactFilesOf", spec := "fnExactFilesOf", recurses := true, apart := false, narrowed := true }
def FnExactFilesOfUptoSaid : Prop := fnExactFilesOfUptoRow.holds Try.pinned (OpenSpec.upto fnExactFilesOfSpec)

end Rows
end Go.Proofs.Ytefconminjiapaa
