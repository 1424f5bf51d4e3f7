-- The row of the law laws_FnExactAggBytes: written by a program of this session.
import Derived.Test.YtolpkckaijeahaaRows
import Derived.Test.YtolpkckaijeahaaPFnExactAggBytesx7
import Derived.Test.YtolpkckaijeahaaPFnExactAggBytesx7
import Derived.Test.YtolpkckaijeahaaPureFnExactAggBytes
import Derived.Test.YtolpkckaijeahaaOpen
import Derived.WalkKit
import Derived.ProofKit
import Derived.OpenShut
import Derived.ShutString
import Derived.ChangeOld
import Derived.Below
import Derived.SizedLaws
namespace Go.Proofs.Ytolpkckaijeahaa.fnExactAggBytes
open Go.ChangeShapes Go.WideShapes Go.ChangeAt Go.RowKit Go.Proofs.Ytolpkckaijeahaa.Open Go.Proofs.Ytolpkckaijeahaa.PFnExactAggBytes Go.Proofs.YtolpkckaijeahaaW.PrintWords
set_option linter.unusedVariables false
theorem own : ownKnob Try.prog.godebug = none := by kernel_rfl
theorem laidOut : laidOutB Try.prog = true := by kernel_rfl
theorem len6 {l : List Value} (h : l.length = 6) : ∃ c0 c1 c2 c3 c4 c5 : Value, l = [c0, c1, c2, c3, c4, c5] := by
  match l, h with
  | [c0, c1, c2, c3, c4, c5], _ => exact ⟨_, _, _, _, _, _, rfl⟩
set_option maxRecDepth 100000 in
theorem lifted (os : Os) (started : os.Started) (H : Type) (enc : TypeId × Value → H) :
    ReturnsInHanded {} Try.checked os 10 .any (Rows.fnExactAggBytesSpec.pre6 enc Try.prog Try.f10 Rows.fnExactAggBytesRow.domain false) (Rows.fnExactAggBytesSpec.post enc Try.prog Try.f10 false true false false) := by
  refine returnsInHanded_of_change_sized (C := Try.checked) own started (by kernel_rfl) Try.func10
    (ChangeSpec.witness6 (enc := enc) (C := Try.checked) false ⟨#[], #[.agg #[.int .i64 0, .int .i64 0, .int .i64 0, .int .i64 0, .slice none 0 0, .bool false]], []⟩ 8 (by kernel_rfl) (by kernel_rfl) (by kernel_rfl) (by kernel_rfl)) ?_
  intro W base args ds gs before hval0 hW hcnd hsz0 _
  have hval : ∀ (j : Nat) t v, Try.f10.params[j]? = some t → args[j]? = some v → Value.okWide Try.prog W .any base t v := hval0
  have hW' := hW
  obtain ⟨p, q, hA0, hV, rfl, hfz, hnd⟩ := hW
  have hA : DataW.TrodAll enc Try.prog W 0 (fun _ => true) true Try.f10.params.toList args.toList ds p := hA0
  rw [Try.params10] at hA hval
  obtain ⟨v0, vs0, d0, ds0, p0, q0, hargs, rfl, rfl, h0, r0⟩ := trodAll_cons hA
  obtain ⟨rfl, rfl, rfl⟩ := trodAll_nil r0
  obtain rfl : args = #[v0] := by cases args; simp_all
  obtain ⟨rfl, rfl⟩ := trodVars_none hV
  obtain ⟨⟨cs0⟩, rfl, hz0⟩ := okWide_struct Try.underlying39 (hval 0 39 v0 rfl rfl)
  have k0 := h0
  have lt0 : ∀ x ∈ p0, x.block < W.heap.size := by obtain ⟨m, hm⟩ := k0; exact DataW.trod_lt m _ _ _ hm
  have hn0 : cs0.length = 6 := hz0.trans (by kernel_rfl)
  obtain ⟨c0_0, c0_1, c0_2, c0_3, c0_4, c0_5, rfl⟩ := len6 hn0
  obtain ⟨fuel0, hf0⟩ := h0
  have hs0 : DataW.trod enc Try.prog W 0 (fun _ => true) true fuel0 39 [c0_0, c0_1, c0_2, c0_3, c0_4, c0_5] = some (d0, p0) := hf0
  obtain ⟨xs1, n1, _, _, _, hxl1, hg1⟩ := DataW.trod_struct Try.underlying39 hs0
  have hxm1 : xs1.length = 6 := hxl1
  obtain ⟨y1_0, g1_0⟩ : ∃ y, DataW.trod enc Try.prog W 0 (fun _ => true) true n1 3 [c0_0] = some y := by
    have e := hg1 0 _ rfl
    have hC : Try.prog.cellsOf 3 = 1 := by kernel_rfl
    exact ⟨xs1[0]'(by omega), by simpa [hC, List.getElem?_eq_getElem (show 0 < xs1.length by omega)] using e⟩
  obtain ⟨a0_0, e0_0, _, w0_0⟩ := DataW.trod_int Try.underlying3 g1_0
  obtain rfl : c0_0 = .int .i64 a0_0 := by simpa using e0_0
  obtain ⟨y1_1, g1_1⟩ : ∃ y, DataW.trod enc Try.prog W 0 (fun _ => true) true n1 3 [c0_1] = some y := by
    have e := hg1 1 _ rfl
    have hC : Try.prog.cellsOf 3 = 1 := by kernel_rfl
    exact ⟨xs1[1]'(by omega), by simpa [hC, List.getElem?_eq_getElem (show 1 < xs1.length by omega)] using e⟩
  obtain ⟨a0_1, e0_1, _, w0_1⟩ := DataW.trod_int Try.underlying3 g1_1
  obtain rfl : c0_1 = .int .i64 a0_1 := by simpa using e0_1
  obtain ⟨y1_2, g1_2⟩ : ∃ y, DataW.trod enc Try.prog W 0 (fun _ => true) true n1 3 [c0_2] = some y := by
    have e := hg1 2 _ rfl
    have hC : Try.prog.cellsOf 3 = 1 := by kernel_rfl
    exact ⟨xs1[2]'(by omega), by simpa [hC, List.getElem?_eq_getElem (show 2 < xs1.length by omega)] using e⟩
  obtain ⟨a0_2, e0_2, _, w0_2⟩ := DataW.trod_int Try.underlying3 g1_2
  obtain rfl : c0_2 = .int .i64 a0_2 := by simpa using e0_2
  obtain ⟨y1_3, g1_3⟩ : ∃ y, DataW.trod enc Try.prog W 0 (fun _ => true) true n1 3 [c0_3] = some y := by
    have e := hg1 3 _ rfl
    have hC : Try.prog.cellsOf 3 = 1 := by kernel_rfl
    exact ⟨xs1[3]'(by omega), by simpa [hC, List.getElem?_eq_getElem (show 3 < xs1.length by omega)] using e⟩
  obtain ⟨a0_3, e0_3, _, w0_3⟩ := DataW.trod_int Try.underlying3 g1_3
  obtain rfl : c0_3 = .int .i64 a0_3 := by simpa using e0_3
  obtain ⟨y1_4, g1_4⟩ : ∃ y, DataW.trod enc Try.prog W 0 (fun _ => true) true n1 31 [c0_4] = some y := by
    have e := hg1 4 _ rfl
    have hC : Try.prog.cellsOf 31 = 1 := by kernel_rfl
    exact ⟨xs1[4]'(by omega), by simpa [hC, List.getElem?_eq_getElem (show 4 < xs1.length by omega)] using e⟩
  obtain ⟨l0_4, K0_4, w0_4⟩ := (opens_slice (d := (Kd.int .i64)) Try.underlying31 (by kernel_rfl) (opens_int Try.underlying3)) _ _ _ g1_4
  obtain ⟨A0_4, cap0_4, rfl, hc0_4, hr0_4⟩ := slice_K' K0_4
  obtain ⟨y1_5, g1_5⟩ : ∃ y, DataW.trod enc Try.prog W 0 (fun _ => true) true n1 4 [c0_5] = some y := by
    have e := hg1 5 _ rfl
    have hC : Try.prog.cellsOf 4 = 1 := by kernel_rfl
    exact ⟨xs1[5]'(by omega), by simpa [hC, List.getElem?_eq_getElem (show 5 < xs1.length by omega)] using e⟩
  obtain ⟨a0_5, e0_5, _⟩ := DataW.trod_bool Try.underlying4 g1_5
  obtain rfl : c0_5 = .bool a0_5 := by simpa using e0_5
  obtain ⟨k, h⟩ := Pure.FnExactAggBytes a0_0 a0_1 a0_2 a0_3 l0_4 a0_5 w0_0 w0_1 w0_2 w0_3 w0_4
  refine (PFnExactAggBytes.laws_FnExactAggBytes.calls k a0_0 a0_1 a0_2 a0_3 _ _ l0_4 a0_5 true W hr0_4 hc0_4 h).mono ?_
  rintro e W' ⟨rfl, bel⟩
  exact ⟨_, rfl, _, _, _, [], _, [], hW', trodAll_mk1 (shut_bool Try.underlying4 _), (trodAll_cons_mk (Below.trod laidOut (by kernel_rfl) (of_decide_eq_true (by kernel_rfl)) k0 bel lt0) trodAll_mk0), rfl, bel.frame _, fun h => by cases h⟩
theorem over : Rows.fnExactAggBytesRow.holds Try.pinned (OpenSpec.ofChange Rows.fnExactAggBytesSpec) :=
  OpenClaim.holds_of_wide 10 Try.f10 rfl rfl rfl rfl rfl rfl rfl ⟨rfl, rfl, rfl, rfl, rfl⟩ rfl rfl rfl rfl rfl (by kernel_rfl) Try.func10 (by kernel_rfl)
    (of_decide_eq_true (by kernel_rfl)) (by unfold Func.isWrapper; first | (rw [if_pos (by decide +kernel)]; kernel_rfl) | (rw [if_neg (by decide +kernel)]; exact ⟨rfl, rfl⟩))
    (fun os started H enc _ => lifted os started H enc)
theorem proved : Rows.FnExactAggBytesSaid := over
#print axioms proved
end Go.Proofs.Ytolpkckaijeahaa.fnExactAggBytes
namespace Go.Proofs.Ytolpkckaijeahaa
/-- The row, under a short name, for the claim. -/
theorem fnExactAggBytes_holds : Rows.FnExactAggBytesSaid := fnExactAggBytes.proved
end Go.Proofs.Ytolpkckaijeahaa
