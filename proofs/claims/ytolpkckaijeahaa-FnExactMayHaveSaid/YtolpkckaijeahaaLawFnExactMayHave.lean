-- The row of the law laws_FnExactMayHave: written by a program of this session.
import Derived.Test.YtolpkckaijeahaaRows
import Derived.Test.YtolpkckaijeahaaPFnExactMayHavex2
import Derived.Test.YtolpkckaijeahaaPFnExactMayHavex2
import Derived.Test.YtolpkckaijeahaaPureFnExactMayHave
import Derived.Test.YtolpkckaijeahaaOpen
import Derived.WalkKit
import Derived.ProofKit
import Derived.OpenShut
import Derived.ShutString
import Derived.ChangeOld
import Derived.Below
import Derived.SizedLaws
namespace Go.Proofs.Ytolpkckaijeahaa.fnExactMayHave
open Go.ChangeShapes Go.WideShapes Go.ChangeAt Go.RowKit Go.Proofs.Ytolpkckaijeahaa.Open Go.Proofs.Ytolpkckaijeahaa.PFnExactMayHave Go.Proofs.YtolpkckaijeahaaW.PrintWords
set_option linter.unusedVariables false
theorem own : ownKnob Try.prog.godebug = none := by kernel_rfl
theorem laidOut : laidOutB Try.prog = true := by kernel_rfl
theorem len2 {l : List Value} (h : l.length = 2) : ∃ c0 c1 : Value, l = [c0, c1] := by
  match l, h with
  | [c0, c1], _ => exact ⟨_, _, rfl⟩
set_option maxRecDepth 100000 in
theorem lifted (os : Os) (started : os.Started) (H : Type) (enc : TypeId × Value → H) :
    ReturnsInHanded {} Try.checked os 3 .any (Rows.fnExactMayHaveSpec.pre6 enc Try.prog Try.f3 Rows.fnExactMayHaveRow.domain false) (Rows.fnExactMayHaveSpec.post enc Try.prog Try.f3 false true false false) := by
  refine returnsInHanded_of_change_sized (C := Try.checked) own started (by kernel_rfl) Try.func3
    (ChangeSpec.witness6 (enc := enc) (C := Try.checked) false ⟨#[], #[.agg #[.int .i64 0, .slice none 0 0], .string ByteArray.empty], []⟩ 8 (by kernel_rfl) (by kernel_rfl) (by kernel_rfl) (by kernel_rfl)) ?_
  intro W base args ds gs before hval0 hW hcnd hsz0 _
  have hval : ∀ (j : Nat) t v, Try.f3.params[j]? = some t → args[j]? = some v → Value.okWide Try.prog W .any base t v := hval0
  have hW' := hW
  obtain ⟨p, q, hA0, hV, rfl, hfz, hnd⟩ := hW
  have hA : DataW.TrodAll enc Try.prog W 0 (fun _ => true) true Try.f3.params.toList args.toList ds p := hA0
  rw [Try.params3] at hA hval
  obtain ⟨v0, vs0, d0, ds0, p0, q0, hargs, rfl, rfl, h0, r0⟩ := trodAll_cons hA
  obtain ⟨v1, vs1, d1, ds1, p1, q1, rfl, rfl, rfl, h1, r1⟩ := trodAll_cons r0
  obtain ⟨rfl, rfl, rfl⟩ := trodAll_nil r1
  obtain rfl : args = #[v0, v1] := by cases args; simp_all
  obtain ⟨rfl, rfl⟩ := trodVars_none hV
  obtain ⟨⟨cs0⟩, rfl, hz0⟩ := okWide_struct Try.underlying24 (hval 0 24 v0 rfl rfl)
  have k0 := h0
  have lt0 : ∀ x ∈ p0, x.block < W.heap.size := by obtain ⟨m, hm⟩ := k0; exact DataW.trod_lt m _ _ _ hm
  have hn0 : cs0.length = 2 := hz0.trans (by kernel_rfl)
  obtain ⟨c0_0, c0_1, rfl⟩ := len2 hn0
  obtain ⟨fuel0, hf0⟩ := h0
  have hs0 : DataW.trod enc Try.prog W 0 (fun _ => true) true fuel0 24 [c0_0, c0_1] = some (d0, p0) := hf0
  obtain ⟨xs1, n1, _, _, _, hxl1, hg1⟩ := DataW.trod_struct Try.underlying24 hs0
  have hxm1 : xs1.length = 2 := hxl1
  obtain ⟨y1_0, g1_0⟩ : ∃ y, DataW.trod enc Try.prog W 0 (fun _ => true) true n1 3 [c0_0] = some y := by
    have e := hg1 0 _ rfl
    have hC : Try.prog.cellsOf 3 = 1 := by kernel_rfl
    exact ⟨xs1[0]'(by omega), by simpa [hC, List.getElem?_eq_getElem (show 0 < xs1.length by omega)] using e⟩
  obtain ⟨a0_0, e0_0, _, w0_0⟩ := DataW.trod_int Try.underlying3 g1_0
  obtain rfl : c0_0 = .int .i64 a0_0 := by simpa using e0_0
  obtain ⟨y1_1, g1_1⟩ : ∃ y, DataW.trod enc Try.prog W 0 (fun _ => true) true n1 22 [c0_1] = some y := by
    have e := hg1 1 _ rfl
    have hC : Try.prog.cellsOf 22 = 1 := by kernel_rfl
    exact ⟨xs1[1]'(by omega), by simpa [hC, List.getElem?_eq_getElem (show 1 < xs1.length by omega)] using e⟩
  obtain ⟨l0_1, K0_1, w0_1⟩ := (opens_slice (d := (Kd.int .u8)) Try.underlying22 (by kernel_rfl) (opens_int Try.underlying5)) _ _ _ g1_1
  obtain ⟨A0_1, cap0_1, rfl, hc0_1, hr0_1⟩ := slice_K' K0_1
  have k1 := h1
  have lt1 : ∀ x ∈ p1, x.block < W.heap.size := by obtain ⟨m, hm⟩ := k1; exact DataW.trod_lt m _ _ _ hm
  obtain ⟨fuel1, hf1⟩ := h1
  obtain ⟨a1, rfl⟩ := okWide_string Try.underlying9 (hval 1 9 v1 rfl rfl)
  have w1 : a1.size ≤ maxLen := by
    obtain ⟨z, e, _, hz⟩ := DataW.trod_string Try.underlying9 hf1
    simp only [Value.cells, List.cons.injEq, Value.string.injEq, and_true] at e
    exact e ▸ hz
  obtain ⟨k, h⟩ := Pure.FnExactMayHave a0_0 l0_1 a1 w0_0 w0_1 w1
  refine (PFnExactMayHave.laws_FnExactMayHave.calls k a0_0 _ _ l0_1 a1 true W hr0_1 hc0_1 h).mono ?_
  rintro e W' ⟨rfl, bel⟩
  exact ⟨_, rfl, _, _, _, [], _, [], hW', trodAll_mk1 (shut_bool Try.underlying4 _), (trodAll_cons_mk (Below.trod laidOut (by kernel_rfl) (of_decide_eq_true (by kernel_rfl)) k0 bel lt0) (trodAll_cons_mk (Below.trod laidOut (by kernel_rfl) (of_decide_eq_true (by kernel_rfl)) k1 bel lt1) trodAll_mk0)), rfl, bel.frame _, fun h => by cases h⟩
theorem over : Rows.fnExactMayHaveRow.holds Try.pinned (OpenSpec.ofChange Rows.fnExactMayHaveSpec) :=
  OpenClaim.holds_of_wide 3 Try.f3 rfl rfl rfl rfl rfl rfl rfl ⟨rfl, rfl, rfl, rfl, rfl⟩ rfl rfl rfl rfl rfl (by kernel_rfl) Try.func3 (by kernel_rfl)
    (of_decide_eq_true (by kernel_rfl)) (by unfold Func.isWrapper; first | (rw [if_pos (by decide +kernel)]; kernel_rfl) | (rw [if_neg (by decide +kernel)]; exact ⟨rfl, rfl⟩))
    (fun os started H enc _ => lifted os started H enc)
theorem proved : Rows.FnExactMayHaveSaid := over
#print axioms proved
end Go.Proofs.Ytolpkckaijeahaa.fnExactMayHave
namespace Go.Proofs.Ytolpkckaijeahaa
/-- The row, under a short name, for the claim. -/
theorem fnExactMayHave_holds : Rows.FnExactMayHaveSaid := fnExactMayHave.proved
end Go.Proofs.Ytolpkckaijeahaa
