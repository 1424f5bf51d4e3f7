-- The row of the law laws_FnExactFilterBytes: written by a program of this session.
import Derived.Test.YtmlbbmdhnnpgbaaRows
import Derived.Test.YtmlbbmdhnnpgbaaPFnExactFilterBytesx3
import Derived.Test.YtmlbbmdhnnpgbaaPFnExactFilterBytesx3
import Derived.Test.YtmlbbmdhnnpgbaaPureFnExactFilterBytes
import Derived.Test.YtmlbbmdhnnpgbaaOpen
import Derived.WalkKit
import Derived.ProofKit
import Derived.OpenShut
import Derived.ShutString
import Derived.ChangeOld
import Derived.Below
import Derived.SizedLaws
namespace Go.Proofs.Ytmlbbmdhnnpgbaa.fnExactFilterBytes
open Go.ChangeShapes Go.WideShapes Go.ChangeAt Go.RowKit Go.Proofs.Ytmlbbmdhnnpgbaa.Open Go.Proofs.Ytmlbbmdhnnpgbaa.PFnExactFilterBytes Go.Proofs.YtmlbbmdhnnpgbaaW.PrintWords
set_option linter.unusedVariables false
theorem own : ownKnob Try.prog.godebug = none := by kernel_rfl
theorem laidOut : laidOutB Try.prog = true := by kernel_rfl
theorem len2 {l : List Value} (h : l.length = 2) : ∃ c0 c1 : Value, l = [c0, c1] := by
  match l, h with
  | [c0, c1], _ => exact ⟨_, _, rfl⟩
set_option maxRecDepth 100000 in
theorem lifted (os : Os) (started : os.Started) (H : Type) (enc : TypeId × Value → H) :
    ReturnsInHanded {} Try.checked os 13 .any (Rows.fnExactFilterBytesSpec.pre6 enc Try.prog Try.f13 Rows.fnExactFilterBytesRow.domain false) (Rows.fnExactFilterBytesSpec.post enc Try.prog Try.f13 false true false false) := by
  refine returnsInHanded_of_change_sized (C := Try.checked) own started (by kernel_rfl) Try.func13
    (ChangeSpec.witness6 (enc := enc) (C := Try.checked) false ⟨#[], #[.agg #[.int .i64 0, .slice none 0 0]], []⟩ 8 (by kernel_rfl) (by kernel_rfl) (by kernel_rfl) (by kernel_rfl)) ?_
  intro W base args ds gs before hval0 hW hcnd hsz0 _
  have hval : ∀ (j : Nat) t v, Try.f13.params[j]? = some t → args[j]? = some v → Value.okWide Try.prog W .any base t v := hval0
  have hW' := hW
  obtain ⟨p, q, hA0, hV, rfl, hfz, hnd⟩ := hW
  have hA : DataW.TrodAll enc Try.prog W 0 (fun _ => true) true Try.f13.params.toList args.toList ds p := hA0
  rw [Try.params13] at hA hval
  obtain ⟨v0, vs0, d0, ds0, p0, q0, hargs, rfl, rfl, h0, r0⟩ := trodAll_cons hA
  obtain ⟨rfl, rfl, rfl⟩ := trodAll_nil r0
  obtain rfl : args = #[v0] := by cases args; simp_all
  obtain ⟨rfl, rfl⟩ := trodVars_none hV
  obtain ⟨⟨cs0⟩, rfl, hz0⟩ := okWide_struct Try.underlying46 (hval 0 46 v0 rfl rfl)
  have k0 := h0
  have lt0 : ∀ x ∈ p0, x.block < W.heap.size := by obtain ⟨m, hm⟩ := k0; exact DataW.trod_lt m _ _ _ hm
  have hn0 : cs0.length = 2 := hz0.trans (by kernel_rfl)
  obtain ⟨c0_0, c0_1, rfl⟩ := len2 hn0
  obtain ⟨fuel0, hf0⟩ := h0
  have hs0 : DataW.trod enc Try.prog W 0 (fun _ => true) true fuel0 46 [c0_0, c0_1] = some (d0, p0) := hf0
  obtain ⟨xs1, n1, _, _, _, hxl1, hg1⟩ := DataW.trod_struct Try.underlying46 hs0
  have hxm1 : xs1.length = 2 := hxl1
  obtain ⟨y1_0, g1_0⟩ : ∃ y, DataW.trod enc Try.prog W 0 (fun _ => true) true n1 3 [c0_0] = some y := by
    have e := hg1 0 _ rfl
    have hC : Try.prog.cellsOf 3 = 1 := by kernel_rfl
    exact ⟨xs1[0]'(by omega), by simpa [hC, List.getElem?_eq_getElem (show 0 < xs1.length by omega)] using e⟩
  obtain ⟨a0_0, e0_0, _, w0_0⟩ := DataW.trod_int Try.underlying3 g1_0
  obtain rfl : c0_0 = .int .i64 a0_0 := by simpa using e0_0
  obtain ⟨y1_1, g1_1⟩ : ∃ y, DataW.trod enc Try.prog W 0 (fun _ => true) true n1 33 [c0_1] = some y := by
    have e := hg1 1 _ rfl
    have hC : Try.prog.cellsOf 33 = 1 := by kernel_rfl
    exact ⟨xs1[1]'(by omega), by simpa [hC, List.getElem?_eq_getElem (show 1 < xs1.length by omega)] using e⟩
  obtain ⟨l0_1, K0_1, w0_1⟩ := (opens_slice (d := (Kd.int .u8)) Try.underlying33 (by kernel_rfl) (opens_int Try.underlying5)) _ _ _ g1_1
  obtain ⟨A0_1, cap0_1, rfl, hc0_1, hr0_1⟩ := slice_K' K0_1
  obtain ⟨k, h⟩ := Pure.FnExactFilterBytes a0_0 l0_1 w0_0 w0_1
  refine (PFnExactFilterBytes.laws_FnExactFilterBytes.calls k a0_0 _ _ l0_1 true W hr0_1 hc0_1 h).mono ?_
  rintro e W' ⟨rfl, bel⟩
  exact ⟨_, rfl, _, _, _, [], _, [], hW', trodAll_mk1 (shut_bool Try.underlying4 _), (trodAll_cons_mk (Below.trod laidOut (by kernel_rfl) (of_decide_eq_true (by kernel_rfl)) k0 bel lt0) trodAll_mk0), rfl, bel.frame _, fun h => by cases h⟩
theorem over : Rows.fnExactFilterBytesRow.holds Try.pinned (OpenSpec.ofChange Rows.fnExactFilterBytesSpec) :=
  OpenClaim.holds_of_wide 13 Try.f13 rfl rfl rfl rfl rfl rfl rfl ⟨rfl, rfl, rfl, rfl, rfl⟩ rfl rfl rfl rfl rfl (by kernel_rfl) Try.func13 (by kernel_rfl)
    (of_decide_eq_true (by kernel_rfl)) (by unfold Func.isWrapper; first | (rw [if_pos (by decide +kernel)]; kernel_rfl) | (rw [if_neg (by decide +kernel)]; exact ⟨rfl, rfl⟩))
    (fun os started H enc _ => lifted os started H enc)
theorem proved : Rows.FnExactFilterBytesSaid := over
#print axioms proved
end Go.Proofs.Ytmlbbmdhnnpgbaa.fnExactFilterBytes
namespace Go.Proofs.Ytmlbbmdhnnpgbaa
/-- The row, under a short name, for the claim. -/
theorem fnExactFilterBytes_holds : Rows.FnExactFilterBytesSaid := fnExactFilterBytes.proved
end Go.Proofs.Ytmlbbmdhnnpgbaa
