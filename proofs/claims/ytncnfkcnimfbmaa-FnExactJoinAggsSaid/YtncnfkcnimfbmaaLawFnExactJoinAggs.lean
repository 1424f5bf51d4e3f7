-- The row of the law laws_FnExactJoinAggs: written by a program of this session.
import Derived.Test.YtncnfkcnimfbmaaRows
import Derived.Test.YtncnfkcnimfbmaaPFnExactJoinAggsx8
import Derived.Test.YtncnfkcnimfbmaaPureFnExactJoinAggs
import Derived.Test.YtncnfkcnimfbmaaOpen
import Derived.WalkKit
import Derived.ProofKit
import Derived.OpenShut
import Derived.ShutString
import Derived.ChangeOld
import Derived.Below
import Derived.SizedLaws
namespace Go.Proofs.Ytncnfkcnimfbmaa.fnExactJoinAggs
open Go.ChangeShapes Go.WideShapes Go.ChangeAt Go.RowKit Go.Proofs.Ytncnfkcnimfbmaa.Open Go.Proofs.Ytncnfkcnimfbmaa.PFnExactJoinAggs Go.Proofs.YtncnfkcnimfbmaaW.PrintWords
set_option linter.unusedVariables false
theorem own : ownKnob Try.prog.godebug = none := by kernel_rfl
theorem laidOut : laidOutB Try.prog = true := by kernel_rfl
theorem len6 {l : List Value} (h : l.length = 6) : ∃ c0 c1 c2 c3 c4 c5 : Value, l = [c0, c1, c2, c3, c4, c5] := by
  match l, h with
  | [c0, c1, c2, c3, c4, c5], _ => exact ⟨_, _, _, _, _, _, rfl⟩
set_option maxRecDepth 100000 in
theorem lifted (os : Os) (started : os.Started) (H : Type) (enc : TypeId × Value → H) :
    ReturnsInHanded {} Try.checked os 3 .any (Rows.fnExactJoinAggsSpec.pre6 enc Try.prog Try.f3 Rows.fnExactJoinAggsRow.domain false) (Rows.fnExactJoinAggsSpec.post enc Try.prog Try.f3 false true false false) := by
  refine returnsInHanded_of_change_sized (C := Try.checked) own started (by kernel_rfl) Try.func3
    (ChangeSpec.witness6 (enc := enc) (C := Try.checked) false ⟨#[], #[.agg #[.int .i64 0, .int .i64 0, .int .i64 0, .int .i64 0, .slice none 0 0, .bool false], .agg #[.int .i64 0, .int .i64 0, .int .i64 0, .int .i64 0, .slice none 0 0, .bool false]], []⟩ 8 (by kernel_rfl) (by kernel_rfl) (by kernel_rfl) (by kernel_rfl)) ?_
  intro W base args ds gs before hval0 hW hcnd hsz0 _
  have hval : ∀ (j : Nat) t v, Try.f3.params[j]? = some t → args[j]? = some v → Value.okWide Try.prog W .any base t v := hval0
  have hW' := hW
  obtain ⟨p, q, hA0, hV, rfl, hfz, hnd⟩ := hW
  have hA : DataW.TrodAll enc Try.prog W 0 (fun _ => true) true Try.f3.params.toList args.toList ds p := hA0
  rw [Try.params3] at hA hval
  obtain ⟨v0, vs0, d0, ds0, p0, q0, hargs, rfl, rfl, h0, r0⟩ := trodAll_cons hA
  obtain ⟨v1, vs1, d1, ds1, p1, q1, rfl, rfl, rfl, h1, r1⟩ := trodAll_cons r0
  obtain ⟨rfl, rfl, rfl⟩ := trodAll_nil r1
  obtain rfl : args = #[v0, v1] := by cases args; simp_all
  obtain ⟨rfl, rfl⟩ := trodVars_none hV
  obtain ⟨⟨cs0⟩, rfl, hz0⟩ := okWide_struct Try.underlying24 (hval 0 24 v0 rfl rfl)
  have k0 := h0
  have lt0 : ∀ x ∈ p0, x.block < W.heap.size := by obtain ⟨m, hm⟩ := k0; exact DataW.trod_lt m _ _ _ hm
  have hn0 : cs0.length = 6 := hz0.trans (by kernel_rfl)
  obtain ⟨c0_0, c0_1, c0_2, c0_3, c0_4, c0_5, rfl⟩ := len6 hn0
  obtain ⟨fuel0, hf0⟩ := h0
  have hs0 : DataW.trod enc Try.prog W 0 (fun _ => true) true fuel0 24 [c0_0, c0_1, c0_2, c0_3, c0_4, c0_5] = some (d0, p0) := hf0
  obtain ⟨xs1, n1, _, _, _, hxl1, hg1⟩ := DataW.trod_struct Try.underlying24 hs0
  have hxm1 : xs1.length = 6 := hxl1
  obtain ⟨y1_0, g1_0⟩ : ∃ y, DataW.trod enc Try.prog W 0 (fun _ => true) true n1 3 [c0_0] = some y := by
    have e := hg1 0 _ rfl
    have hC : Try.prog.cellsOf 3 = 1 := by kernel_rfl
    exact ⟨xs1[0]'(by omega), by simpa [hC, List.getElem?_eq_getElem (show 0 < xs1.length by omega)] using e⟩
  obtain ⟨a0_0, e0_0, _, w0_0⟩ := DataW.trod_int Try.underlying3 g1_0
  obtain rfl : c0_0 = .int .i64 a0_0 := by simpa using e0_0
  obtain ⟨y1_1, g1_1⟩ : ∃ y, DataW.trod enc Try.prog W 0 (fun _ => true) true n1 3 [c0_1] = some y := by
    have e := hg1 1 _ rfl
    have hC : Try.prog.cellsOf 3 = 1 := by kernel_rfl
    exact ⟨xs1[1]'(by omega), by simpa [hC, List.getElem?_eq_getElem (show 1 < xs1.length by omega)] using e⟩
  obtain ⟨a0_1, e0_1, _, w0_1⟩ := DataW.trod_int Try.underlying3 g1_1
  obtain rfl : c0_1 = .int .i64 a0_1 := by simpa using e0_1
  obtain ⟨y1_2, g1_2⟩ : ∃ y, DataW.trod enc Try.prog W 0 (fun _ => true) true n1 3 [c0_2] = some y := by
    have e := hg1 2 _ rfl
    have hC : Try.prog.cellsOf 3 = 1 := by kernel_rfl
    exact ⟨xs1[2]'(by omega), by simpa [hC, List.getElem?_eq_getElem (show 2 < xs1.length by omega)] using e⟩
  obtain ⟨a0_2, e0_2, _, w0_2⟩ := DataW.trod_int Try.underlying3 g1_2
  obtain rfl : c0_2 = .int .i64 a0_2 := by simpa using e0_2
  obtain ⟨y1_3, g1_3⟩ : ∃ y, DataW.trod enc Try.prog W 0 (fun _ => true) true n1 3 [c0_3] = some y := by
    have e := hg1 3 _ rfl
    have hC : Try.prog.cellsOf 3 = 1 := by kernel_rfl
    exact ⟨xs1[3]'(by omega), by simpa [hC, List.getElem?_eq_getElem (show 3 < xs1.length by omega)] using e⟩
  obtain ⟨a0_3, e0_3, _, w0_3⟩ := DataW.trod_int Try.underlying3 g1_3
  obtain rfl : c0_3 = .int .i64 a0_3 := by simpa using e0_3
  obtain ⟨y1_4, g1_4⟩ : ∃ y, DataW.trod enc Try.prog W 0 (fun _ => true) true n1 22 [c0_4] = some y := by
    have e := hg1 4 _ rfl
    have hC : Try.prog.cellsOf 22 = 1 := by kernel_rfl
    exact ⟨xs1[4]'(by omega), by simpa [hC, List.getElem?_eq_getElem (show 4 < xs1.length by omega)] using e⟩
  obtain ⟨l0_4, K0_4, w0_4⟩ := (opens_slice (d := (Kd.int .i64)) Try.underlying22 (by kernel_rfl) (opens_int Try.underlying3)) _ _ _ g1_4
  obtain ⟨A0_4, cap0_4, rfl, hc0_4, hr0_4⟩ := slice_K' K0_4
  obtain ⟨y1_5, g1_5⟩ : ∃ y, DataW.trod enc Try.prog W 0 (fun _ => true) true n1 4 [c0_5] = some y := by
    have e := hg1 5 _ rfl
    have hC : Try.prog.cellsOf 4 = 1 := by kernel_rfl
    exact ⟨xs1[5]'(by omega), by simpa [hC, List.getElem?_eq_getElem (show 5 < xs1.length by omega)] using e⟩
  obtain ⟨a0_5, e0_5, _⟩ := DataW.trod_bool Try.underlying4 g1_5
  obtain rfl : c0_5 = .bool a0_5 := by simpa using e0_5
  obtain ⟨⟨cs1⟩, rfl, hz1⟩ := okWide_struct Try.underlying24 (hval 1 24 v1 rfl rfl)
  have k1 := h1
  have lt1 : ∀ x ∈ p1, x.block < W.heap.size := by obtain ⟨m, hm⟩ := k1; exact DataW.trod_lt m _ _ _ hm
  have hn1 : cs1.length = 6 := hz1.trans (by kernel_rfl)
  obtain ⟨c1_0, c1_1, c1_2, c1_3, c1_4, c1_5, rfl⟩ := len6 hn1
  obtain ⟨fuel1, hf1⟩ := h1
  have hs1 : DataW.trod enc Try.prog W 0 (fun _ => true) true fuel1 24 [c1_0, c1_1, c1_2, c1_3, c1_4, c1_5] = some (d1, p1) := hf1
  obtain ⟨xs2, n2, _, _, _, hxl2, hg2⟩ := DataW.trod_struct Try.underlying24 hs1
  have hxm2 : xs2.length = 6 := hxl2
  obtain ⟨y2_0, g2_0⟩ : ∃ y, DataW.trod enc Try.prog W 0 (fun _ => true) true n2 3 [c1_0] = some y := by
    have e := hg2 0 _ rfl
    have hC : Try.prog.cellsOf 3 = 1 := by kernel_rfl
    exact ⟨xs2[0]'(by omega), by simpa [hC, List.getElem?_eq_getElem (show 0 < xs2.length by omega)] using e⟩
  obtain ⟨a1_0, e1_0, _, w1_0⟩ := DataW.trod_int Try.underlying3 g2_0
  obtain rfl : c1_0 = .int .i64 a1_0 := by simpa using e1_0
  obtain ⟨y2_1, g2_1⟩ : ∃ y, DataW.trod enc Try.prog W 0 (fun _ => true) true n2 3 [c1_1] = some y := by
    have e := hg2 1 _ rfl
    have hC : Try.prog.cellsOf 3 = 1 := by kernel_rfl
    exact ⟨xs2[1]'(by omega), by simpa [hC, List.getElem?_eq_getElem (show 1 < xs2.length by omega)] using e⟩
  obtain ⟨a1_1, e1_1, _, w1_1⟩ := DataW.trod_int Try.underlying3 g2_1
  obtain rfl : c1_1 = .int .i64 a1_1 := by simpa using e1_1
  obtain ⟨y2_2, g2_2⟩ : ∃ y, DataW.trod enc Try.prog W 0 (fun _ => true) true n2 3 [c1_2] = some y := by
    have e := hg2 2 _ rfl
    have hC : Try.prog.cellsOf 3 = 1 := by kernel_rfl
    exact ⟨xs2[2]'(by omega), by simpa [hC, List.getElem?_eq_getElem (show 2 < xs2.length by omega)] using e⟩
  obtain ⟨a1_2, e1_2, _, w1_2⟩ := DataW.trod_int Try.underlying3 g2_2
  obtain rfl : c1_2 = .int .i64 a1_2 := by simpa using e1_2
  obtain ⟨y2_3, g2_3⟩ : ∃ y, DataW.trod enc Try.prog W 0 (fun _ => true) true n2 3 [c1_3] = some y := by
    have e := hg2 3 _ rfl
    have hC : Try.prog.cellsOf 3 = 1 := by kernel_rfl
    exact ⟨xs2[3]'(by omega), by simpa [hC, List.getElem?_eq_getElem (show 3 < xs2.length by omega)] using e⟩
  obtain ⟨a1_3, e1_3, _, w1_3⟩ := DataW.trod_int Try.underlying3 g2_3
  obtain rfl : c1_3 = .int .i64 a1_3 := by simpa using e1_3
  obtain ⟨y2_4, g2_4⟩ : ∃ y, DataW.trod enc Try.prog W 0 (fun _ => true) true n2 22 [c1_4] = some y := by
    have e := hg2 4 _ rfl
    have hC : Try.prog.cellsOf 22 = 1 := by kernel_rfl
    exact ⟨xs2[4]'(by omega), by simpa [hC, List.getElem?_eq_getElem (show 4 < xs2.length by omega)] using e⟩
  obtain ⟨l1_4, K1_4, w1_4⟩ := (opens_slice (d := (Kd.int .i64)) Try.underlying22 (by kernel_rfl) (opens_int Try.underlying3)) _ _ _ g2_4
  obtain ⟨A1_4, cap1_4, rfl, hc1_4, hr1_4⟩ := slice_K' K1_4
  obtain ⟨y2_5, g2_5⟩ : ∃ y, DataW.trod enc Try.prog W 0 (fun _ => true) true n2 4 [c1_5] = some y := by
    have e := hg2 5 _ rfl
    have hC : Try.prog.cellsOf 4 = 1 := by kernel_rfl
    exact ⟨xs2[5]'(by omega), by simpa [hC, List.getElem?_eq_getElem (show 5 < xs2.length by omega)] using e⟩
  obtain ⟨a1_5, e1_5, _⟩ := DataW.trod_bool Try.underlying4 g2_5
  obtain rfl : c1_5 = .bool a1_5 := by simpa using e1_5
  obtain ⟨k, h⟩ := Pure.FnExactJoinAggs a0_0 a0_1 a0_2 a0_3 l0_4 a0_5 a1_0 a1_1 a1_2 a1_3 l1_4 a1_5 w0_0 w0_1 w0_2 w0_3 w0_4 w1_0 w1_1 w1_2 w1_3 w1_4
  refine (PFnExactJoinAggs.laws_FnExactJoinAggs.calls k a0_0 a0_1 a0_2 a0_3 _ _ l0_4 a0_5 a1_0 a1_1 a1_2 a1_3 _ _ l1_4 a1_5 true W hr0_4 hc0_4 hr1_4 hc1_4 h).mono ?_
  rintro e W' ⟨rfl, bel⟩
  exact ⟨_, rfl, _, _, _, [], _, [], hW', trodAll_mk1 (shut_bool Try.underlying4 _), (trodAll_cons_mk (Below.trod laidOut (by kernel_rfl) (of_decide_eq_true (by kernel_rfl)) k0 bel lt0) (trodAll_cons_mk (Below.trod laidOut (by kernel_rfl) (of_decide_eq_true (by kernel_rfl)) k1 bel lt1) trodAll_mk0)), rfl, bel.frame _, fun h => by cases h⟩
theorem over : Rows.fnExactJoinAggsRow.holds Try.pinned (OpenSpec.ofChange Rows.fnExactJoinAggsSpec) :=
  OpenClaim.holds_of_wide 3 Try.f3 rfl rfl rfl rfl rfl rfl rfl ⟨rfl, rfl, rfl, rfl, rfl⟩ rfl rfl rfl rfl rfl (by kernel_rfl) Try.func3 (by kernel_rfl)
    (of_decide_eq_true (by kernel_rfl)) (by unfold Func.isWrapper; first | (rw [if_pos (by decide +kernel)]; kernel_rfl) | (rw [if_neg (by decide +kernel)]; exact ⟨rfl, rfl⟩))
    (fun os started H enc _ => lifted os started H enc)
theorem proved : Rows.FnExactJoinAggsSaid := over
#print axioms proved
end Go.Proofs.Ytncnfkcnimfbmaa.fnExactJoinAggs
namespace Go.Proofs.Ytncnfkcnimfbmaa
/-- The row, under a short name, for the claim. -/
theorem fnExactJoinAggs_holds : Rows.FnExactJoinAggsSaid := fnExactJoinAggs.proved
end Go.Proofs.Ytncnfkcnimfbmaa
