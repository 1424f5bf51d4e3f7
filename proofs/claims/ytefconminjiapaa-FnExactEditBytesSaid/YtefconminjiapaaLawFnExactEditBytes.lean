-- The row of the law laws_FnExactEditBytes: written by a program of this session.
import Derived.Test.YtefconminjiapaaRows
import Derived.Test.YtefconminjiapaaPFnExactEditBytesx8
import Derived.Test.YtefconminjiapaaPFnExactEditBytesx8
import Derived.Test.YtefconminjiapaaPureFnExactEditBytes
import Derived.Test.YtefconminjiapaaOpen
import Derived.WalkKit
import Derived.ProofKit
import Derived.OpenShut
import Derived.ShutString
import Derived.ChangeOld
import Derived.Below
import Derived.SizedLaws
namespace Go.Proofs.Ytefconminjiapaa.fnExactEditBytes
open Go.ChangeShapes Go.WideShapes Go.ChangeAt Go.RowKit Go.Proofs.Ytefconminjiapaa.Open Go.Proofs.Ytefconminjiapaa.PFnExactEditBytes Go.Proofs.YtefconminjiapaaW.PrintWords
set_option linter.unusedVariables false
theorem own : ownKnob Try.prog.godebug = none := by kernel_rfl
theorem laidOut : laidOutB Try.prog = true := by kernel_rfl
theorem len4 {l : List Value} (h : l.length = 4) : ∃ c0 c1 c2 c3 : Value, l = [c0, c1, c2, c3] := by
  match l, h with
  | [c0, c1, c2, c3], _ => exact ⟨_, _, _, _, rfl⟩
theorem len5 {l : List Value} (h : l.length = 5) : ∃ c0 c1 c2 c3 c4 : Value, l = [c0, c1, c2, c3, c4] := by
  match l, h with
  | [c0, c1, c2, c3, c4], _ => exact ⟨_, _, _, _, _, rfl⟩
theorem opens82 {H : Type} {enc : TypeId × Value → H} {w : World} : Opens enc Try.prog w 82 (fun (a : S82) cs => k82.K w a cs ∧ G82 a) := by
  intro fuel cs x h
  obtain ⟨xs, n, _, _, hl, hxl, hg⟩ := DataW.trod_struct Try.underlying82 h
  have hn : cs.length = 4 := hl.trans (by kernel_rfl)
  obtain ⟨c0, c1, c2, c3, rfl⟩ := len4 hn
  have hxl2 : xs.length = 4 := hxl
  obtain ⟨y0, g0⟩ : ∃ y, DataW.trod enc Try.prog w 0 (fun _ => true) true n 3 [c0] = some y := by
    have e := hg 0 _ rfl
    have hC : Try.prog.cellsOf 3 = 1 := by kernel_rfl
    exact ⟨xs[0]'(by omega), by simpa [hC, List.getElem?_eq_getElem (show 0 < xs.length by omega)] using e⟩
  obtain ⟨f0, K0, G0⟩ := (opens_int Try.underlying3) _ _ _ g0
  obtain ⟨y1, g1⟩ : ∃ y, DataW.trod enc Try.prog w 0 (fun _ => true) true n 9 [c1] = some y := by
    have e := hg 1 _ rfl
    have hC : Try.prog.cellsOf 9 = 1 := by kernel_rfl
    exact ⟨xs[1]'(by omega), by simpa [hC, List.getElem?_eq_getElem (show 1 < xs.length by omega)] using e⟩
  obtain ⟨f1, K1, G1⟩ := (opens_string Try.underlying9) _ _ _ g1
  obtain ⟨y2, g2⟩ : ∃ y, DataW.trod enc Try.prog w 0 (fun _ => true) true n 9 [c2] = some y := by
    have e := hg 2 _ rfl
    have hC : Try.prog.cellsOf 9 = 1 := by kernel_rfl
    exact ⟨xs[2]'(by omega), by simpa [hC, List.getElem?_eq_getElem (show 2 < xs.length by omega)] using e⟩
  obtain ⟨f2, K2, G2⟩ := (opens_string Try.underlying9) _ _ _ g2
  obtain ⟨y3, g3⟩ : ∃ y, DataW.trod enc Try.prog w 0 (fun _ => true) true n 3 [c3] = some y := by
    have e := hg 3 _ rfl
    have hC : Try.prog.cellsOf 3 = 1 := by kernel_rfl
    exact ⟨xs[3]'(by omega), by simpa [hC, List.getElem?_eq_getElem (show 3 < xs.length by omega)] using e⟩
  obtain ⟨f3, K3, G3⟩ := (opens_int Try.underlying3) _ _ _ g3
  exact ⟨⟨f0, f1, f2, f3⟩, ⟨[c0], [c1, c2, c3], rfl, K0, ⟨[c1], [c2, c3], rfl, K1, ⟨[c2], [c3], rfl, K2, K3⟩⟩⟩, G0, G1, G2, G3⟩
theorem opens84 {H : Type} {enc : TypeId × Value → H} {w : World} : Opens enc Try.prog w 84 (fun (a : S84) cs => k84.K w a cs ∧ G84 a) := by
  intro fuel cs x h
  obtain ⟨xs, n, _, _, hl, hxl, hg⟩ := DataW.trod_struct Try.underlying84 h
  have hn : cs.length = 5 := hl.trans (by kernel_rfl)
  obtain ⟨c0, c1, c2, c3, c4, rfl⟩ := len5 hn
  have hxl2 : xs.length = 2 := hxl
  obtain ⟨y0, g0⟩ : ∃ y, DataW.trod enc Try.prog w 0 (fun _ => true) true n 3 [c0] = some y := by
    have e := hg 0 _ rfl
    have hC : Try.prog.cellsOf 3 = 1 := by kernel_rfl
    exact ⟨xs[0]'(by omega), by simpa [hC, List.getElem?_eq_getElem (show 0 < xs.length by omega)] using e⟩
  obtain ⟨f0, K0, G0⟩ := (opens_int Try.underlying3) _ _ _ g0
  obtain ⟨y1, g1⟩ : ∃ y, DataW.trod enc Try.prog w 0 (fun _ => true) true n 82 [c1, c2, c3, c4] = some y := by
    have e := hg 1 _ rfl
    have hC : Try.prog.cellsOf 82 = 4 := by kernel_rfl
    exact ⟨xs[1]'(by omega), by simpa [hC, List.getElem?_eq_getElem (show 1 < xs.length by omega)] using e⟩
  obtain ⟨f1, K1, G1⟩ := opens82 _ _ _ g1
  exact ⟨⟨f0, f1⟩, ⟨[c0], [c1, c2, c3, c4], rfl, K0, K1⟩, G0, G1⟩
set_option maxRecDepth 100000 in
theorem lifted (os : Os) (started : os.Started) (H : Type) (enc : TypeId × Value → H) :
    ReturnsInHanded {} Try.checked os 4 .any (Rows.fnExactEditBytesSpec.pre6 enc Try.prog Try.f4 Rows.fnExactEditBytesRow.domain false) (Rows.fnExactEditBytesSpec.post enc Try.prog Try.f4 false true false false) := by
  refine returnsInHanded_of_change_sized (C := Try.checked) own started (by kernel_rfl) Try.func4
    (ChangeSpec.witness6 (enc := enc) (C := Try.checked) false ⟨#[], #[.agg #[.int .i64 0, .int .i64 0, .int .i64 0, .slice none 0 0, .slice none 0 0]], []⟩ 8 (by kernel_rfl) (by kernel_rfl) (by kernel_rfl) (by kernel_rfl)) ?_
  intro W base args ds gs before hval0 hW hcnd hsz0 _
  have hval : ∀ (j : Nat) t v, Try.f4.params[j]? = some t → args[j]? = some v → Value.okWide Try.prog W .any base t v := hval0
  have hW' := hW
  obtain ⟨p, q, hA0, hV, rfl, hfz, hnd⟩ := hW
  have hA : DataW.TrodAll enc Try.prog W 0 (fun _ => true) true Try.f4.params.toList args.toList ds p := hA0
  rw [Try.params4] at hA hval
  obtain ⟨v0, vs0, d0, ds0, p0, q0, hargs, rfl, rfl, h0, r0⟩ := trodAll_cons hA
  obtain ⟨rfl, rfl, rfl⟩ := trodAll_nil r0
  obtain rfl : args = #[v0] := by cases args; simp_all
  obtain ⟨rfl, rfl⟩ := trodVars_none hV
  obtain ⟨⟨cs0⟩, rfl, hz0⟩ := okWide_struct Try.underlying36 (hval 0 36 v0 rfl rfl)
  have k0 := h0
  have lt0 : ∀ x ∈ p0, x.block < W.heap.size := by obtain ⟨m, hm⟩ := k0; exact DataW.trod_lt m _ _ _ hm
  have hn0 : cs0.length = 5 := hz0.trans (by kernel_rfl)
  obtain ⟨c0_0, c0_1, c0_2, c0_3, c0_4, rfl⟩ := len5 hn0
  obtain ⟨fuel0, hf0⟩ := h0
  have hs0 : DataW.trod enc Try.prog W 0 (fun _ => true) true fuel0 36 [c0_0, c0_1, c0_2, c0_3, c0_4] = some (d0, p0) := hf0
  obtain ⟨xs1, n1, _, _, _, hxl1, hg1⟩ := DataW.trod_struct Try.underlying36 hs0
  have hxm1 : xs1.length = 5 := hxl1
  obtain ⟨y1_0, g1_0⟩ : ∃ y, DataW.trod enc Try.prog W 0 (fun _ => true) true n1 3 [c0_0] = some y := by
    have e := hg1 0 _ rfl
    have hC : Try.prog.cellsOf 3 = 1 := by kernel_rfl
    exact ⟨xs1[0]'(by omega), by simpa [hC, List.getElem?_eq_getElem (show 0 < xs1.length by omega)] using e⟩
  obtain ⟨a0_0, e0_0, _, w0_0⟩ := DataW.trod_int Try.underlying3 g1_0
  obtain rfl : c0_0 = .int .i64 a0_0 := by simpa using e0_0
  obtain ⟨y1_1, g1_1⟩ : ∃ y, DataW.trod enc Try.prog W 0 (fun _ => true) true n1 3 [c0_1] = some y := by
    have e := hg1 1 _ rfl
    have hC : Try.prog.cellsOf 3 = 1 := by kernel_rfl
    exact ⟨xs1[1]'(by omega), by simpa [hC, List.getElem?_eq_getElem (show 1 < xs1.length by omega)] using e⟩
  obtain ⟨a0_1, e0_1, _, w0_1⟩ := DataW.trod_int Try.underlying3 g1_1
  obtain rfl : c0_1 = .int .i64 a0_1 := by simpa using e0_1
  obtain ⟨y1_2, g1_2⟩ : ∃ y, DataW.trod enc Try.prog W 0 (fun _ => true) true n1 3 [c0_2] = some y := by
    have e := hg1 2 _ rfl
    have hC : Try.prog.cellsOf 3 = 1 := by kernel_rfl
    exact ⟨xs1[2]'(by omega), by simpa [hC, List.getElem?_eq_getElem (show 2 < xs1.length by omega)] using e⟩
  obtain ⟨a0_2, e0_2, _, w0_2⟩ := DataW.trod_int Try.underlying3 g1_2
  obtain rfl : c0_2 = .int .i64 a0_2 := by simpa using e0_2
  obtain ⟨y1_3, g1_3⟩ : ∃ y, DataW.trod enc Try.prog W 0 (fun _ => true) true n1 33 [c0_3] = some y := by
    have e := hg1 3 _ rfl
    have hC : Try.prog.cellsOf 33 = 1 := by kernel_rfl
    exact ⟨xs1[3]'(by omega), by simpa [hC, List.getElem?_eq_getElem (show 3 < xs1.length by omega)] using e⟩
  obtain ⟨l0_3, K0_3, w0_3⟩ := (opens_slice (d := (Kd.int .i64)) Try.underlying33 (by kernel_rfl) (opens_int Try.underlying3)) _ _ _ g1_3
  obtain ⟨A0_3, cap0_3, rfl, hc0_3, hr0_3⟩ := slice_K' K0_3
  obtain ⟨y1_4, g1_4⟩ : ∃ y, DataW.trod enc Try.prog W 0 (fun _ => true) true n1 34 [c0_4] = some y := by
    have e := hg1 4 _ rfl
    have hC : Try.prog.cellsOf 34 = 1 := by kernel_rfl
    exact ⟨xs1[4]'(by omega), by simpa [hC, List.getElem?_eq_getElem (show 4 < xs1.length by omega)] using e⟩
  obtain ⟨l0_4, K0_4, w0_4⟩ := (opens_slice (d := k84) Try.underlying34 (by kernel_rfl) opens84) _ _ _ g1_4
  obtain ⟨A0_4, cap0_4, rfl, hc0_4, hr0_4⟩ := slice_K' K0_4
  obtain ⟨k, h⟩ := Pure.FnExactEditBytes a0_0 a0_1 a0_2 l0_3 l0_4 w0_0 w0_1 w0_2 w0_3 w0_4
  refine (PFnExactEditBytes.laws_FnExactEditBytes.calls k a0_0 a0_1 a0_2 _ _ l0_3 _ _ l0_4 true W hr0_3 hc0_3 hr0_4 hc0_4 h).mono ?_
  rintro e W' ⟨rfl, bel⟩
  exact ⟨_, rfl, _, _, _, [], _, [], hW', trodAll_mk1 (shut_bool Try.underlying4 _), (trodAll_cons_mk (Below.trod laidOut (by kernel_rfl) (of_decide_eq_true (by kernel_rfl)) k0 bel lt0) trodAll_mk0), rfl, bel.frame _, fun h => by cases h⟩
theorem over : Rows.fnExactEditBytesRow.holds Try.pinned (OpenSpec.ofChange Rows.fnExactEditBytesSpec) :=
  OpenClaim.holds_of_wide 4 Try.f4 rfl rfl rfl rfl rfl rfl rfl ⟨rfl, rfl, rfl, rfl, rfl⟩ rfl rfl rfl rfl rfl (by kernel_rfl) Try.func4 (by kernel_rfl)
    (of_decide_eq_true (by kernel_rfl)) (by unfold Func.isWrapper; first | (rw [if_pos (by decide +kernel)]; kernel_rfl) | (rw [if_neg (by decide +kernel)]; exact ⟨rfl, rfl⟩))
    (fun os started H enc _ => lifted os started H enc)
theorem proved : Rows.FnExactEditBytesSaid := over
#print axioms proved
end Go.Proofs.Ytefconminjiapaa.fnExactEditBytes
namespace Go.Proofs.Ytefconminjiapaa
/-- The row, under a short name, for the claim. -/
theorem fnExactEditBytes_holds : Rows.FnExactEditBytesSaid := fnExactEditBytes.proved
end Go.Proofs.Ytefconminjiapaa
