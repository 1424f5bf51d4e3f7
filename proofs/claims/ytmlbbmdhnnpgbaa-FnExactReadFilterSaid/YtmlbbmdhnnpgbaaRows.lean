/-
  No cell of these rows narrows 'for every input' (looked for: loops, veiled, ifaces, maps, wideKeys, modest, calm, conditions, laid).
  DERIVED. THE GIVEN ROWS OF THIS SEAT. 12 by the template 'for every input the law returns true; each argument reads behind the call as it read before'; 0 by the template 'total and deterministic' (their statements: YtmlbbmdhnnpgbaaTotals.lean).
  GIVEN WITH THE SEED: the statements are not yours to turn. If you find one false, say at which input.
  Laid BY PROGRAM, IN A SANDBOX (cutbox-rows.mjs): the forced cells as the released guide's own fill.sh prints them over the translation d20ae8768ac1a262… (all of the seat's roots in one cut). By AI agents, Wed Nov 11 2026. No macro, syntax, notation, axiom, sorry.
-/
import Derived.Test.YtmlbbmdhnnpgbaaChecked
import GoSem.Claim
import GoSem.ClaimJoined
import GoSem.ClaimMapViews
import Derived.JoinedTies
import Derived.KernelRfl
namespace Go.Proofs.Ytmlbbmdhnnpgbaa
/- THE CELL 'sum', in the pinned program and in every row, IS THE sha256 OF THE DUMP (.gsa) THAT YtmlbbmdhnnpgbaaProg.lean LOADS. Nothing in Lean hashes anything: it is a label: what it is worth is what the hold of that sum in a sandbox is worth. -/
noncomputable def Try.pinned : Pinned := { name := "ytmlbbmdhnnpgbaa", sum := "d20ae8768ac1a26292b07390902c17804e2f9f399f6513eae04753748a1bb3b0", checked := Try.checked }
namespace Rows
def none {H : Type} : Left H := { results := [], args := [] }

/-- 'laws.FnExactConstants': WHATEVER THE INPUT: true; the input reads as it did. -/
def fnExactConstantsSpec : ChangeSpec := { name := "fnExactConstants", fn := fun _ => fun
  | [] => { results := [.lit (.bool true)], args := [] }
  | _ => none }
def fnExactConstantsRow : OpenClaim := { program := "ytmlbbmdhnnpgbaa", sum := "d20ae8768ac1a26292b07390902c17804e2f9f399f6513eae04753748a1bb3b0", func := "loop.example/g00150/laws.FnExactConstants", spec := "fnExactConstants", apart := false }
def FnExactConstantsSaid : Prop := fnExactConstantsRow.holds Try.pinned (OpenSpec.ofChange fnExactConstantsSpec)

/-- ITS FALSE NEIGHBOUR: 'it returns false'. Refute it at one input. -/
def fnExactConstantsWrong : ChangeSpec := { name := "fnExactConstants", fn := fun _ => fun
  | [] => { results := [.lit (.bool false)], args := [] }
  | _ => none }
def FnExactConstantsWrongFalsely : Prop := fnExactConstantsRow.holds Try.pinned (OpenSpec.ofChange fnExactConstantsWrong)

/-- 'laws.FnExactStartOf': WHATEVER THE INPUT: true; the input reads as it did. -/
def fnExactStartOfSpec : ChangeSpec := { name := "fnExactStartOf", fn := fun _ => fun
  | [d1, d2] => { results := [.lit (.bool true)], args := [d1, d2] }
  | _ => none }
def fnExactStartOfRow : OpenClaim := { program := "ytmlbbmdhnnpgbaa", sum := "d20ae8768ac1a26292b07390902c17804e2f9f399f6513eae04753748a1bb3b0", func := "loop.example/g00150/laws.FnExactStartOf", spec := "fnExactStartOf", apart := false }
def FnExactStartOfSaid : Prop := fnExactStartOfRow.holds Try.pinned (OpenSpec.ofChange fnExactStartOfSpec)

/-- ITS FALSE NEIGHBOUR: 'it returns false'. Refute it at one input. -/
def fnExactStartOfWrong : ChangeSpec := { name := "fnExactStartOf", fn := fun _ => fun
  | [d1, d2] => { results := [.lit (.bool false)], args := [d1, d2] }
  | _ => none }
def FnExactStartOfWrongFalsely : Prop := fnExactStartOfRow.holds Try.pinned (OpenSpec.ofChange fnExactStartOfWrong)

/-- 'laws.FnExactHashOf': WHATEVER THE INPUT: true; the input reads as it did. -/
def fnExactHashOfSpec : ChangeSpec := { name := "fnExactHashOf", fn := fun _ => fun
  | [d1, d2] => { results := [.lit (.bool true)], args := [d1, d2] }
  | _ => none }
def fnExactHashOfRow : OpenClaim := { program := "ytmlbbmdhnnpgbaa", sum := "d20ae8768ac1a26292b07390902c17804e2f9f399f6513eae04753748a1bb3b0", func := "loop.example/g00150/laws.FnExactHashOf", spec := "fnExactHashOf", apart := false }
def FnExactHashOfSaid : Prop := fnExactHashOfRow.holds Try.pinned (OpenSpec.ofChange fnExactHashOfSpec)

/-- ITS FALSE NEIGHBOUR: 'it returns false'. Refute it at one input. -/
def fnExactHashOfWrong : ChangeSpec := { name := "fnExactHashOf", fn := fun _ => fun
  | [d1, d2] => { results := [.lit (.bool false)], args := [d1, d2] }
  | _ => none }
def FnExactHashOfWrongFalsely : Prop := fnExactHashOfRow.holds Try.pinned (OpenSpec.ofChange fnExactHashOfWrong)

/-- 'laws.FnExactBucketOf': WHATEVER THE INPUT: true; the input reads as it did. -/
def fnExactBucketOfSpec : ChangeSpec := { name := "fnExactBucketOf", fn := fun _ => fun
  | [d] => { results := [.lit (.bool true)], args := [d] }
  | _ => none }
def fnExactBucketOfRow : OpenClaim := { program := "ytmlbbmdhnnpgbaa", sum := "d20ae8768ac1a26292b07390902c17804e2f9f399f6513eae04753748a1bb3b0", func := "loop.example/g00150/laws.FnExactBucketOf", spec := "fnExactBucketOf", apart := false }
def FnExactBucketOfSaid : Prop := fnExactBucketOfRow.holds Try.pinned (OpenSpec.ofChange fnExactBucketOfSpec)

/-- ITS FALSE NEIGHBOUR: 'it returns false'. Refute it at one input. -/
def fnExactBucketOfWrong : ChangeSpec := { name := "fnExactBucketOf", fn := fun _ => fun
  | [d] => { results := [.lit (.bool false)], args := [d] }
  | _ => none }
def FnExactBucketOfWrongFalsely : Prop := fnExactBucketOfRow.holds Try.pinned (OpenSpec.ofChange fnExactBucketOfWrong)

/-- 'laws.FnExactPutVar': WHATEVER THE INPUT: true; the input reads as it did. -/
def fnExactPutVarSpec : ChangeSpec := { name := "fnExactPutVar", fn := fun _ => fun
  | [d] => { results := [.lit (.bool true)], args := [d] }
  | _ => none }
def fnExactPutVarRow : OpenClaim := { program := "ytmlbbmdhnnpgbaa", sum := "d20ae8768ac1a26292b07390902c17804e2f9f399f6513eae04753748a1bb3b0", func := "loop.example/g00150/laws.FnExactPutVar", spec := "fnExactPutVar", apart := false }
def FnExactPutVarSaid : Prop := fnExactPutVarRow.holds Try.pinned (OpenSpec.ofChange fnExactPutVarSpec)

/-- ITS FALSE NEIGHBOUR: 'it returns false'. Refute it at one input. -/
def fnExactPutVarWrong : ChangeSpec := { name := "fnExactPutVar", fn := fun _ => fun
  | [d] => { results := [.lit (.bool false)], args := [d] }
  | _ => none }
def FnExactPutVarWrongFalsely : Prop := fnExactPutVarRow.holds Try.pinned (OpenSpec.ofChange fnExactPutVarWrong)

/-- 'laws.FnExactCrc32c': WHATEVER THE INPUT: true; the input reads as it did. -/
def fnExactCrc32cSpec : ChangeSpec := { name := "fnExactCrc32c", fn := fun _ => fun
  | [d] => { results := [.lit (.bool true)], args := [d] }
  | _ => none }
def fnExactCrc32cRow : OpenClaim := { program := "ytmlbbmdhnnpgbaa", sum := "d20ae8768ac1a26292b07390902c17804e2f9f399f6513eae04753748a1bb3b0", func := "loop.example/g00150/laws.FnExactCrc32c", spec := "fnExactCrc32c", apart := false }
def FnExactCrc32cSaid : Prop := fnExactCrc32cRow.holds Try.pinned (OpenSpec.ofChange fnExactCrc32cSpec)

/-- ITS FALSE NEIGHBOUR: 'it returns false'. Refute it at one input. -/
def fnExactCrc32cWrong : ChangeSpec := { name := "fnExactCrc32c", fn := fun _ => fun
  | [d] => { results := [.lit (.bool false)], args := [d] }
  | _ => none }
def FnExactCrc32cWrongFalsely : Prop := fnExactCrc32cRow.holds Try.pinned (OpenSpec.ofChange fnExactCrc32cWrong)

/-- 'laws.FnExactReadFixed': WHATEVER THE INPUT: true; the input reads as it did. -/
def fnExactReadFixedSpec : ChangeSpec := { name := "fnExactReadFixed", fn := fun _ => fun
  | [d1, d2, d3] => { results := [.lit (.bool true)], args := [d1, d2, d3] }
  | _ => none }
def fnExactReadFixedRow : OpenClaim := { program := "ytmlbbmdhnnpgbaa", sum := "d20ae8768ac1a26292b07390902c17804e2f9f399f6513eae04753748a1bb3b0", func := "loop.example/g00150/laws.FnExactReadFixed", spec := "fnExactReadFixed", apart := false }
def FnExactReadFixedSaid : Prop := fnExactReadFixedRow.holds Try.pinned (OpenSpec.ofChange fnExactReadFixedSpec)

/-- ITS FALSE NEIGHBOUR: 'it returns false'. Refute it at one input. -/
def fnExactReadFixedWrong : ChangeSpec := { name := "fnExactReadFixed", fn := fun _ => fun
  | [d1, d2, d3] => { results := [.lit (.bool false)], args := [d1, d2, d3] }
  | _ => none }
def FnExactReadFixedWrongFalsely : Prop := fnExactReadFixedRow.holds Try.pinned (OpenSpec.ofChange fnExactReadFixedWrong)

/-- 'laws.FnExactPutFixed': WHATEVER THE INPUT: true; the input reads as it did. -/
def fnExactPutFixedSpec : ChangeSpec := { name := "fnExactPutFixed", fn := fun _ => fun
  | [d1, d2] => { results := [.lit (.bool true)], args := [d1, d2] }
  | _ => none }
def fnExactPutFixedRow : OpenClaim := { program := "ytmlbbmdhnnpgbaa", sum := "d20ae8768ac1a26292b07390902c17804e2f9f399f6513eae04753748a1bb3b0", func := "loop.example/g00150/laws.FnExactPutFixed", spec := "fnExactPutFixed", apart := false }
def FnExactPutFixedSaid : Prop := fnExactPutFixedRow.holds Try.pinned (OpenSpec.ofChange fnExactPutFixedSpec)

/-- ITS FALSE NEIGHBOUR: 'it returns false'. Refute it at one input. -/
def fnExactPutFixedWrong : ChangeSpec := { name := "fnExactPutFixed", fn := fun _ => fun
  | [d1, d2] => { results := [.lit (.bool false)], args := [d1, d2] }
  | _ => none }
def FnExactPutFixedWrongFalsely : Prop := fnExactPutFixedRow.holds Try.pinned (OpenSpec.ofChange fnExactPutFixedWrong)

/-- 'laws.FnExactGoodFilter': WHATEVER THE INPUT: true; the input reads as it did. -/
def fnExactGoodFilterSpec : ChangeSpec := { name := "fnExactGoodFilter", fn := fun _ => fun
  | [d] => { results := [.lit (.bool true)], args := [d] }
  | _ => none }
def fnExactGoodFilterRow : OpenClaim := { program := "ytmlbbmdhnnpgbaa", sum := "d20ae8768ac1a26292b07390902c17804e2f9f399f6513eae04753748a1bb3b0", func := "loop.example/g00150/laws.FnExactGoodFilter", spec := "fnExactGoodFilter", apart := false }
def FnExactGoodFilterSaid : Prop := fnExactGoodFilterRow.holds Try.pinned (OpenSpec.ofChange fnExactGoodFilterSpec)

/-- ITS FALSE NEIGHBOUR: 'it returns false'. Refute it at one input. -/
def fnExactGoodFilterWrong : ChangeSpec := { name := "fnExactGoodFilter", fn := fun _ => fun
  | [d] => { results := [.lit (.bool false)], args := [d] }
  | _ => none }
def FnExactGoodFilterWrongFalsely : Prop := fnExactGoodFilterRow.holds Try.pinned (OpenSpec.ofChange fnExactGoodFilterWrong)

/-- 'laws.FnExactReadVar': WHATEVER THE INPUT: true; the input reads as it did. -/
def fnExactReadVarSpec : ChangeSpec := { name := "fnExactReadVar", fn := fun _ => fun
  | [d1, d2] => { results := [.lit (.bool true)], args := [d1, d2] }
  | _ => none }
def fnExactReadVarRow : OpenClaim := { program := "ytmlbbmdhnnpgbaa", sum := "d20ae8768ac1a26292b07390902c17804e2f9f399f6513eae04753748a1bb3b0", func := "loop.example/g00150/laws.FnExactReadVar", spec := "fnExactReadVar", apart := false }
def FnExactReadVarSaid : Prop := fnExactReadVarRow.holds Try.pinned (OpenSpec.ofChange fnExactReadVarSpec)

/-- ITS FALSE NEIGHBOUR: 'it returns false'. Refute it at one input. -/
def fnExactReadVarWrong : ChangeSpec := { name := "fnExactReadVar", fn := fun _ => fun
  | [d1, d2] => { results := [.lit (.bool false)], args := [d1, d2] }
  | _ => none }
def FnExactReadVarWrongFalsely : Prop := fnExactReadVarRow.holds Try.pinned (OpenSpec.ofChange fnExactReadVarWrong)

/-- 'laws.FnExactFilterBytes': WHATEVER THE INPUT: true; the input reads as it did. -/
def fnExactFilterBytesSpec : ChangeSpec := { name := "fnExactFilterBytes", fn := fun _ => fun
  | [d] => { results := [.lit (.bool true)], args := [d] }
  | _ => none }
def fnExactFilterBytesRow : OpenClaim := { program := "ytmlbbmdhnnpgbaa", sum := "d20ae8768ac1a26292b07390902c17804e2f9f399f6513eae04753748a1bb3b0", func := "loop.example/g00150/laws.FnExactFilterBytes", spec := "fnExactFilterBytes", apart := false }
def FnExactFilterBytesSaid : Prop := fnExactFilterBytesRow.holds Try.pinned (OpenSpec.ofChange fnExactFilterBytesSpec)

/-- ITS FALSE NEIGHBOUR: 'it returns false'. Refute it at one input. -/
def fnExactFilterBytesWrong : ChangeSpec := { name := "fnExactFilterBytes", fn := fun _ => fun
  | [d] => { results := [.lit (.bool false)], args := [d] }
  | _ => none }
def FnExactFilterBytesWrongFalsely : Prop := fnExactFilterBytesRow.holds Try.pinned (OpenSpec.ofChange fnExactFilterBytesWrong)

/-- 'laws.FnExactReadFilter': WHATEVER THE INPUT: true; the input reads as it did. -/
def fnExactReadFilterSpec : ChangeSpec := { name := "fnExactReadFilter", fn := fun _ => fun
  | [d] => { results := [.lit (.bool true)], args := [d] }
  | _ => none }
def fnExactReadFilterRow : OpenClaim := { program := "ytmlbbmdhnnpgbaa", sum := "d20ae8768ac1a26292b07390902c17804e2f9f399f6513eae04753748a1bb3b0", func := "loop.example/g00150/laws.FnExactReadFilter", spec := "fnExactReadFilter", apart := false }
def FnExactReadFilterSaid : Prop := fnExactReadFilterRow.holds Try.pinned (OpenSpec.ofChange fnExactReadFilterSpec)

/-- ITS FALSE NEIGHBOUR: 'it returns false'. Refute it at one input. -/
def fnExactReadFilterWrong : ChangeSpec := { name := "fnExactReadFilter", fn := fun _ => fun
  | [d] => { results := [.lit (.bool false)], args := [d] }
  | _ => none }
def FnExactReadFilterWrongFalsely : Prop := fnExactReadFilterRow.holds Try.pinned (OpenSpec.ofChange fnExactReadFilterWrong)

/- THE SECOND FORM. 'bulk': how many values and letters a reading holds, each counted each time it is reached (what is shared counts as often as it is met; a slice's spare places count too). A statement '..UptoSaid' is the law's where the arguments, and the package variables that the reading takes, are together of bulk at most 1048576: NARROWER than '..Said'. Prove '..Said' where nothing that the law and all that it calls make is longer than what came in: it says more and counts as full. Else prove '..UptoSaid'. A law counts once. -/
mutual
def uptoBulk {H : Type} : DataW H → Nat
  | .lit (.string bytes) => bytes.length + 1
  | .lit _ => 1
  | .nil => 1
  | .ptr d => uptoBulk d + 1
  | .slice elems spare => uptoBulkAll elems + uptoBulkAll spare + 1
  | .agg parts => uptoBulkAll parts + 1
  | .iface _ d => uptoBulk d + 1
  | .map entries => uptoBulkEntries entries + 1
  | .held _ => 1
def uptoBulkAll {H : Type} : List (DataW H) → Nat
  | [] => 0
  | d :: r => uptoBulk d + uptoBulkAll r
def uptoBulkEntries {H : Type} : List (Lit × DataW H) → Nat
  | [] => 0
  | x :: r => uptoBulkEntry x + uptoBulkEntries r
def uptoBulkEntry {H : Type} : Lit × DataW H → Nat
  | (.string bytes, d) => bytes.length + uptoBulk d + 1
  | (_, d) => uptoBulk d + 1
 end
def uptoSmall : (H : Type) → List (DataW H) → Bool := fun _ ds => decide (uptoBulkAll ds ≤ 1048576)
def OpenSpec.upto (s : _root_.Go.ChangeSpec) : _root_.Go.OpenSpec := { _root_.Go.OpenSpec.ofChange s with cond := some uptoSmall }

/-- 'laws.FnExactConstants', WHERE WHAT IT READS IS OF BULK AT MOST 1048576: true; the input reads as it did. -/
def fnExactConstantsUptoRow : OpenClaim := { program := "ytmlbbmdhnnpgbaa", sum := "d20ae8768ac1a26292b07390902c17804e2f9f399f6513eae04753748a1bb3b0", func := "loop.example/g00150/laws.FnExactConstants", spec := "fnExactConstants", apart := false, narrowed := true }
def FnExactConstantsUptoSaid : Prop := fnExactConstantsUptoRow.holds Try.pinned (OpenSpec.upto fnExactConstantsSpec)

/-- 'laws.FnExactStartOf', WHERE WHAT IT READS IS OF BULK AT MOST 1048576: true; the input reads as it did. -/
def fnExactStartOfUptoRow : OpenClaim := { program := "ytmlbbmdhnnpgbaa", sum := "d20ae8768ac1a26292b07390902c17804e2f9f399f6513eae04753748a1bb3b0", func := "loop.example/g00150/laws.FnExactStartOf", spec := "fnExactStartOf", apart := false, narrowed := true }
def FnExactStartOfUptoSaid : Prop := fnExactStartOfUptoRow.holds Try.pinned (OpenSpec.upto fnExactStartOfSpec)

/-- 'laws.FnExactHashOf', WHERE WHAT IT READS IS OF BULK AT MOST 1048576: true; the input reads as it did. -/
def fnExactHashOfUptoRow : OpenClaim := { program := "ytmlbbmdhnnpgbaa", sum := "d20ae8768ac1a26292b07390902c17804e2f9f399f6513eae04753748a1bb3b0", func := "loop.example/g00150/laws.FnExactHashOf", spec := "fnExactHashOf", apart := false, narrowed := true }
def FnExactHashOfUptoSaid : Prop := fnExactHashOfUptoRow.holds Try.pinned (OpenSpec.upto fnExactHashOfSpec)

/-- 'laws.FnExactBucketOf', WHERE WHAT IT READS IS OF BULK AT MOST 1048576: true; the input reads as it did. -/
def fnExactBucketOfUptoRow : OpenClaim := { program := "ytmlbbmdhnnpgbaa", sum := "d20ae8768ac1a26292b07390902c17804e2f9f399f6513eae04753748a1bb3b0", func := "loop.example/g00150/laws.FnExactBucketOf", spec := "fnExactBucketOf", apart := false, narrowed := true }
def FnExactBucketOfUptoSaid : Prop := fnExactBucketOfUptoRow.holds Try.pinned (OpenSpec.upto fnExactBucketOfSpec)

/-- 'laws.FnExactPutVar', WHERE WHAT IT READS IS OF BULK AT MOST 1048576: true; the input reads as it did. -/
def fnExactPutVarUptoRow : OpenClaim := { program := "ytmlbbmdhnnpgbaa", sum := "d20ae8768ac1a26292b07390902c17804e2f9f399f6513eae04753748a1bb3b0", func := "loop.example/g00150/laws.FnExactPutVar", spec := "fnExactPutVar", apart := false, narrowed := true }
def FnExactPutVarUptoSaid : Prop := fnExactPutVarUptoRow.holds Try.pinned (OpenSpec.upto fnExactPutVarSpec)

/-- 'laws.FnExactCrc32c', WHERE WHAT IT READS IS OF BULK AT MOST 1048576: true; the input reads as it did. -/
def fnExactCrc32cUptoRow : OpenClaim := { program := "ytmlbbmdhnnpgbaa", sum := "d20ae8768ac1a26292b07390902c17804e2f9f399f6513eae04753748a1bb3b0", func := "loop.example/g00150/laws.FnExactCrc32c", spec := "fnExactCrc32c", apart := false, narrowed := true }
def FnExactCrc32cUptoSaid : Prop := fnExactCrc32cUptoRow.holds Try.pinned (OpenSpec.upto fnExactCrc32cSpec)

/-- 'laws.FnExactReadFixed', WHERE WHAT IT READS IS OF BULK AT MOST 1048576: true; the input reads as it did. -/
def fnExactReadFixedUptoRow : OpenClaim := { program := "ytmlbbmdhnnpgbaa", sum := "d20ae8768ac1a26292b07390902c17804e2f9f399f6513eae04753748a1bb3b0", func := "loop.example/g00150/laws.FnExactReadFixed", spec := "fnExactReadFixed", apart := false, narrowed := true }
def FnExactReadFixedUptoSaid : Prop := fnExactReadFixedUptoRow.holds Try.pinned (OpenSpec.upto fnExactReadFixedSpec)

/-- 'laws.FnExactPutFixed', WHERE WHAT IT READS IS OF BULK AT MOST 1048576: true; the input reads as it did. -/
def fnExactPutFixedUptoRow : OpenClaim := { program := "ytmlbbmdhnnpgbaa", sum := "d20ae8768ac1a26292b07390902c17804e2f9f399f6513eae04753748a1bb3b0", func := "loop.example/g00150/laws.FnExactPutFixed", spec := "fnExactPutFixed", apart := false, narrowed := true }
def FnExactPutFixedUptoSaid : Prop := fnExactPutFixedUptoRow.holds Try.pinned (OpenSpec.upto fnExactPutFixedSpec)

/-- 'laws.FnExactGoodFilter', WHERE WHAT IT READS IS OF BULK AT MOST 1048576: true; the input reads as it did. -/
def fnExactGoodFilterUptoRow : OpenClaim := { program := "ytmlbbmdhnnpgbaa", sum := "d20ae8768ac1a26292b07390902c17804e2f9f399f6513eae04753748a1bb3b0", func := "loop.example/g00150/laws.FnExactGoodFilter", spec := "fnExactGoodFilter", apart := false, narrowed := true }
def FnExactGoodFilterUptoSaid : Prop := fnExactGoodFilterUptoRow.holds Try.pinned (OpenSpec.upto fnExactGoodFilterSpec)

/-- 'laws.FnExactReadVar', WHERE WHAT IT READS IS OF BULK AT MOST 1048576: true; the input reads as it did. -/
def fnExactReadVarUptoRow : OpenClaim := { program := "ytmlbbmdhnnpgbaa", sum := "d20ae8768ac1a26292b07390902c17804e2f9f399f6513eae04753748a1bb3b0", func := "loop.example/g00150/laws.FnExactReadVar", spec := "fnExactReadVar", apart := false, narrowed := true }
def FnExactReadVarUptoSaid : Prop := fnExactReadVarUptoRow.holds Try.pinned (OpenSpec.upto fnExactReadVarSpec)

/-- 'laws.FnExactFilterBytes', WHERE WHAT IT READS IS OF BULK AT MOST 1048576: true; the input reads as it did. -/
def fnExactFilterBytesUptoRow : OpenClaim := { program := "ytmlbbmdhnnpgbaa", sum := "d20ae8768ac1a26292b07390902c17804e2f9f399f6513eae04753748a1bb3b0", func := "loop.example/g00150/laws.FnExactFilterBytes", spec := "fnExactFilterBytes", apart := false, narrowed := true }
def FnExactFilterBytesUptoSaid : Prop := fnExactFilterBytesUptoRow.holds Try.pinned (OpenSpec.upto fnExactFilterBytesSpec)

/-- 'laws.FnExactReadFilter', WHERE WHAT IT READS IS OF BULK AT MOST 1048576: true; the input reads as it did. -/
def fnExactReadFilterUptoRow : OpenClaim := { program := "ytmlbbmdhnnpgbaa", sum := "d20ae8768ac1a26292b07390902c17804e2f9f399f6513eae04753748a1bb3b0", func := "loop.example/g00150/laws.FnExactReadFilter", spec := "fnExactReadFilter", apart := false, narrowed := true }
def FnExactReadFilterUptoSaid : Prop := fnExactReadFilterUptoRow.holds Try.pinned (OpenSpec.upto fnExactReadFilterSpec)

end Rows
end Go.Proofs.Ytmlbbmdhnnpgbaa
