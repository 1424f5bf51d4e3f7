-- The row of the law laws_FnExactGoodEntry: written by a program of this session.
import Derived.Test.YtolpkckaijeahaaRows
import Derived.Test.YtolpkckaijeahaaPFnExactGoodEntryx6
import Derived.Test.YtolpkckaijeahaaPFnExactGoodEntryx6
import Derived.Test.YtolpkckaijeahaaPureFnExactGoodEntry
import Derived.Test.YtolpkckaijeahaaOpen
import Derived.WalkKit
import Derived.ProofKit
import Derived.OpenShut
import Derived.ShutString
import Derived.ChangeOld
import Derived.Below
import Derived.SizedLaws
namespace Go.Proofs.Ytolpkckaijeahaa.fnExactGoodEntry
open Go.ChangeShapes Go.WideShapes Go.ChangeAt Go.RowKit Go.Proofs.Ytolpkckaijeahaa.Open Go.Proofs.Ytolpkckaijeahaa.PFnExactGoodEntry Go.Proofs.YtolpkckaijeahaaW.PrintWords
set_option linter.unusedVariables false
theorem own : ownKnob Try.prog.godebug = none := by kernel_rfl
theorem laidOut : laidOutB Try.prog = true := by kernel_rfl
theorem len9 {l : List Value} (h : l.length = 9) : ∃ c0 c1 c2 c3 c4 c5 c6 c7 c8 : Value, l = [c0, c1, c2, c3, c4, c5, c6, c7, c8] := by
  match l, h with
  | [c0, c1, c2, c3, c4, c5, c6, c7, c8], _ => exact ⟨_, _, _, _, _, _, _, _, _, rfl⟩
set_option maxRecDepth 100000 in
theorem lifted (os : Os) (started : os.Started) (H : Type) (enc : TypeId × Value → H) :
    ReturnsInHanded {} Try.checked os 9 .any (Rows.fnExactGoodEntrySpec.pre6 enc Try.prog Try.f9 Rows.fnExactGoodEntryRow.domain false) (Rows.fnExactGoodEntrySpec.post enc Try.prog Try.f9 false true false false) := by
  refine returnsInHanded_of_change_sized (C := Try.checked) own started (by kernel_rfl) Try.func9
    (ChangeSpec.witness6 (enc := enc) (C := Try.checked) false ⟨#[], #[.agg #[.string ByteArray.empty, .int .i64 0, .int .i64 0, .int .i64 0, .int .i64 0, .int .i64 0, .int .i64 0, .slice none 0 0, .bool false]], []⟩ 8 (by kernel_rfl) (by kernel_rfl) (by kernel_rfl) (by kernel_rfl)) ?_
  intro W base args ds gs before hval0 hW hcnd hsz0 _
  have hval : ∀ (j : Nat) t v, Try.f9.params[j]? = some t → args[j]? = some v → Value.okWide Try.prog W .any base t v := hval0
  have hW' := hW
  obtain ⟨p, q, hA0, hV, rfl, hfz, hnd⟩ := hW
  have hA : DataW.TrodAll enc Try.prog W 0 (fun _ => true) true Try.f9.params.toList args.toList ds p := hA0
  rw [Try.params9] at hA hval
  obtain ⟨v0, vs0, d0, ds0, p0, q0, hargs, rfl, rfl, h0, r0⟩ := trodAll_cons hA
  obtain ⟨rfl, rfl, rfl⟩ := trodAll_nil r0
  obtain rfl : args = #[v0] := by cases args; simp_all
  obtain ⟨rfl, rfl⟩ := trodVars_none hV
  obtain ⟨⟨cs0⟩, rfl, hz0⟩ := okWide_struct Try.underlying61 (hval 0 61 v0 rfl rfl)
  have k0 := h0
  have lt0 : ∀ x ∈ p0, x.block < W.heap.size := by obtain ⟨m, hm⟩ := k0; exact DataW.trod_lt m _ _ _ hm
  have hn0 : cs0.length = 9 := hz0.trans (by kernel_rfl)
  obtain ⟨c0_0, c0_1, c0_2, c0_3, c0_4, c0_5, c0_6, c0_7, c0_8, rfl⟩ := len9 hn0
  obtain ⟨fuel0, hf0⟩ := h0
  have hs0 : DataW.trod enc Try.prog W 0 (fun _ => true) true fuel0 61 [c0_0, c0_1, c0_2, c0_3, c0_4, c0_5, c0_6, c0_7, c0_8] = some (d0, p0) := hf0
  obtain ⟨xs1, n1, _, _, _, hxl1, hg1⟩ := DataW.trod_struct Try.underlying61 hs0
  have hxm1 : xs1.length = 4 := hxl1
  obtain ⟨y1_0, g1_0⟩ : ∃ y, DataW.trod enc Try.prog W 0 (fun _ => true) true n1 9 [c0_0] = some y := by
    have e := hg1 0 _ rfl
    have hC : Try.prog.cellsOf 9 = 1 := by kernel_rfl
    exact ⟨xs1[0]'(by omega), by simpa [hC, List.getElem?_eq_getElem (show 0 < xs1.length by omega)] using e⟩
  obtain ⟨a0_0, e0_0, _, w0_0⟩ := DataW.trod_string Try.underlying9 g1_0
  obtain rfl : c0_0 = .string a0_0 := by simpa using e0_0
  obtain ⟨y1_1, g1_1⟩ : ∃ y, DataW.trod enc Try.prog W 0 (fun _ => true) true n1 3 [c0_1] = some y := by
    have e := hg1 1 _ rfl
    have hC : Try.prog.cellsOf 3 = 1 := by kernel_rfl
    exact ⟨xs1[1]'(by omega), by simpa [hC, List.getElem?_eq_getElem (show 1 < xs1.length by omega)] using e⟩
  obtain ⟨a0_1, e0_1, _, w0_1⟩ := DataW.trod_int Try.underlying3 g1_1
  obtain rfl : c0_1 = .int .i64 a0_1 := by simpa using e0_1
  obtain ⟨y1_2, g1_2⟩ : ∃ y, DataW.trod enc Try.prog W 0 (fun _ => true) true n1 3 [c0_2] = some y := by
    have e := hg1 2 _ rfl
    have hC : Try.prog.cellsOf 3 = 1 := by kernel_rfl
    exact ⟨xs1[2]'(by omega), by simpa [hC, List.getElem?_eq_getElem (show 2 < xs1.length by omega)] using e⟩
  obtain ⟨a0_2, e0_2, _, w0_2⟩ := DataW.trod_int Try.underlying3 g1_2
  obtain rfl : c0_2 = .int .i64 a0_2 := by simpa using e0_2
  obtain ⟨y1_3, g1_3⟩ : ∃ y, DataW.trod enc Try.prog W 0 (fun _ => true) true n1 39 [c0_3, c0_4, c0_5, c0_6, c0_7, c0_8] = some y := by
    have e := hg1 3 _ rfl
    have hC : Try.prog.cellsOf 39 = 6 := by kernel_rfl
    exact ⟨xs1[3]'(by omega), by simpa [hC, List.getElem?_eq_getElem (show 3 < xs1.length by omega)] using e⟩
  obtain ⟨xs2, n2, _, _, _, hxl2, hg2⟩ := DataW.trod_struct Try.underlying39 g1_3
  have hxm2 : xs2.length = 6 := hxl2
  obtain ⟨y2_0, g2_0⟩ : ∃ y, DataW.trod enc Try.prog W 0 (fun _ => true) true n2 3 [c0_3] = some y := by
    have e := hg2 0 _ rfl
    have hC : Try.prog.cellsOf 3 = 1 := by kernel_rfl
    exact ⟨xs2[0]'(by omega), by simpa [hC, List.getElem?_eq_getElem (show 0 < xs2.length by omega)] using e⟩
  obtain ⟨a0_3, e0_3, _, w0_3⟩ := DataW.trod_int Try.underlying3 g2_0
  obtain rfl : c0_3 = .int .i64 a0_3 := by simpa using e0_3
  obtain ⟨y2_1, g2_1⟩ : ∃ y, DataW.trod enc Try.prog W 0 (fun _ => true) true n2 3 [c0_4] = some y := by
    have e := hg2 1 _ rfl
    have hC : Try.prog.cellsOf 3 = 1 := by kernel_rfl
    exact ⟨xs2[1]'(by omega), by simpa [hC, List.getElem?_eq_getElem (show 1 < xs2.length by omega)] using e⟩
  obtain ⟨a0_4, e0_4, _, w0_4⟩ := DataW.trod_int Try.underlying3 g2_1
  obtain rfl : c0_4 = .int .i64 a0_4 := by simpa using e0_4
  obtain ⟨y2_2, g2_2⟩ : ∃ y, DataW.trod enc Try.prog W 0 (fun _ => true) true n2 3 [c0_5] = some y := by
    have e := hg2 2 _ rfl
    have hC : Try.prog.cellsOf 3 = 1 := by kernel_rfl
    exact ⟨xs2[2]'(by omega), by simpa [hC, List.getElem?_eq_getElem (show 2 < xs2.length by omega)] using e⟩
  obtain ⟨a0_5, e0_5, _, w0_5⟩ := DataW.trod_int Try.underlying3 g2_2
  obtain rfl : c0_5 = .int .i64 a0_5 := by simpa using e0_5
  obtain ⟨y2_3, g2_3⟩ : ∃ y, DataW.trod enc Try.prog W 0 (fun _ => true) true n2 3 [c0_6] = some y := by
    have e := hg2 3 _ rfl
    have hC : Try.prog.cellsOf 3 = 1 := by kernel_rfl
    exact ⟨xs2[3]'(by omega), by simpa [hC, List.getElem?_eq_getElem (show 3 < xs2.length by omega)] using e⟩
  obtain ⟨a0_6, e0_6, _, w0_6⟩ := DataW.trod_int Try.underlying3 g2_3
  obtain rfl : c0_6 = .int .i64 a0_6 := by simpa using e0_6
  obtain ⟨y2_4, g2_4⟩ : ∃ y, DataW.trod enc Try.prog W 0 (fun _ => true) true n2 31 [c0_7] = some y := by
    have e := hg2 4 _ rfl
    have hC : Try.prog.cellsOf 31 = 1 := by kernel_rfl
    exact ⟨xs2[4]'(by omega), by simpa [hC, List.getElem?_eq_getElem (show 4 < xs2.length by omega)] using e⟩
  obtain ⟨l0_7, K0_7, w0_7⟩ := (opens_slice (d := (Kd.int .i64)) Try.underlying31 (by kernel_rfl) (opens_int Try.underlying3)) _ _ _ g2_4
  obtain ⟨A0_7, cap0_7, rfl, hc0_7, hr0_7⟩ := slice_K' K0_7
  obtain ⟨y2_5, g2_5⟩ : ∃ y, DataW.trod enc Try.prog W 0 (fun _ => true) true n2 4 [c0_8] = some y := by
    have e := hg2 5 _ rfl
    have hC : Try.prog.cellsOf 4 = 1 := by kernel_rfl
    exact ⟨xs2[5]'(by omega), by simpa [hC, List.getElem?_eq_getElem (show 5 < xs2.length by omega)] using e⟩
  obtain ⟨a0_8, e0_8, _⟩ := DataW.trod_bool Try.underlying4 g2_5
  obtain rfl : c0_8 = .bool a0_8 := by simpa using e0_8
  obtain ⟨k, h⟩ := Pure.FnExactGoodEntry a0_0 a0_1 a0_2 a0_3 a0_4 a0_5 a0_6 l0_7 a0_8 w0_0 w0_1 w0_2 w0_3 w0_4 w0_5 w0_6 w0_7
  refine (PFnExactGoodEntry.laws_FnExactGoodEntry.calls k a0_0 a0_1 a0_2 a0_3 a0_4 a0_5 a0_6 _ _ l0_7 a0_8 true W hr0_7 hc0_7 h).mono ?_
  rintro e W' ⟨rfl, bel⟩
  exact ⟨_, rfl, _, _, _, [], _, [], hW', trodAll_mk1 (shut_bool Try.underlying4 _), (trodAll_cons_mk (Below.trod laidOut (by kernel_rfl) (of_decide_eq_true (by kernel_rfl)) k0 bel lt0) trodAll_mk0), rfl, bel.frame _, fun h => by cases h⟩
theorem over : Rows.fnExactGoodEntryRow.holds Try.pinned (OpenSpec.ofChange Rows.fnExactGoodEntrySpec) :=
  OpenClaim.holds_of_wide 9 Try.f9 rfl rfl rfl rfl rfl rfl rfl ⟨rfl, rfl, rfl, rfl, rfl⟩ rfl rfl rfl rfl rfl (by kernel_rfl) Try.func9 (by kernel_rfl)
    (of_decide_eq_true (by kernel_rfl)) (by unfold Func.isWrapper; first | (rw [if_pos (by decide +kernel)]; kernel_rfl) | (rw [if_neg (by decide +kernel)]; exact ⟨rfl, rfl⟩))
    (fun os started H enc _ => lifted os started H enc)
theorem proved : Rows.FnExactGoodEntrySaid := over
#print axioms proved
end Go.Proofs.Ytolpkckaijeahaa.fnExactGoodEntry
namespace Go.Proofs.Ytolpkckaijeahaa
/-- The row, under a short name, for the claim. -/
theorem fnExactGoodEntry_holds : Rows.FnExactGoodEntrySaid := fnExactGoodEntry.proved
end Go.Proofs.Ytolpkckaijeahaa
