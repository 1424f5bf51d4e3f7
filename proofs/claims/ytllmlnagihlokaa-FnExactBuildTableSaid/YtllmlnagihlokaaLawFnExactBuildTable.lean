-- The row of the law laws_FnExactBuildTable: written by a program of this session.
import Derived.Test.YtllmlnagihlokaaRows
import Derived.Test.YtllmlnagihlokaaPFnExactBuildTablex17
import Derived.Test.YtllmlnagihlokaaPureFnExactBuildTable
import Derived.Test.YtllmlnagihlokaaOpen
import Derived.WalkKit
import Derived.ProofKit
import Derived.OpenShut
import Derived.ShutString
import Derived.ChangeOld
import Derived.Below
import Derived.SizedLaws
namespace Go.Proofs.Ytllmlnagihlokaa.fnExactBuildTable
open Go.ChangeShapes Go.WideShapes Go.ChangeAt Go.RowKit Go.Proofs.Ytllmlnagihlokaa.Open Go.Proofs.Ytllmlnagihlokaa.PFnExactBuildTable Go.Proofs.YtllmlnagihlokaaW.PrintWords
set_option linter.unusedVariables false
theorem own : ownKnob Try.prog.godebug = none := by kernel_rfl
theorem laidOut : laidOutB Try.prog = true := by kernel_rfl
theorem len6 {l : List Value} (h : l.length = 6) : ∃ c0 c1 c2 c3 c4 c5 : Value, l = [c0, c1, c2, c3, c4, c5] := by
  match l, h with
  | [c0, c1, c2, c3, c4, c5], _ => exact ⟨_, _, _, _, _, _, rfl⟩
theorem len9 {l : List Value} (h : l.length = 9) : ∃ c0 c1 c2 c3 c4 c5 c6 c7 c8 : Value, l = [c0, c1, c2, c3, c4, c5, c6, c7, c8] := by
  match l, h with
  | [c0, c1, c2, c3, c4, c5, c6, c7, c8], _ => exact ⟨_, _, _, _, _, _, _, _, _, rfl⟩
theorem opens43 {H : Type} {enc : TypeId × Value → H} {w : World} : Opens enc Try.prog w 43 (fun (a : S43) cs => k43.K w a cs ∧ G43 a) := by
  intro fuel cs x h
  obtain ⟨xs, n, _, _, hl, hxl, hg⟩ := DataW.trod_struct Try.underlying43 h
  have hn : cs.length = 6 := hl.trans (by kernel_rfl)
  obtain ⟨c0, c1, c2, c3, c4, c5, rfl⟩ := len6 hn
  have hxl2 : xs.length = 6 := hxl
  obtain ⟨y0, g0⟩ : ∃ y, DataW.trod enc Try.prog w 0 (fun _ => true) true n 3 [c0] = some y := by
    have e := hg 0 _ rfl
    have hC : Try.prog.cellsOf 3 = 1 := by kernel_rfl
    exact ⟨xs[0]'(by omega), by simpa [hC, List.getElem?_eq_getElem (show 0 < xs.length by omega)] using e⟩
  obtain ⟨f0, K0, G0⟩ := (opens_int Try.underlying3) _ _ _ g0
  obtain ⟨y1, g1⟩ : ∃ y, DataW.trod enc Try.prog w 0 (fun _ => true) true n 3 [c1] = some y := by
    have e := hg 1 _ rfl
    have hC : Try.prog.cellsOf 3 = 1 := by kernel_rfl
    exact ⟨xs[1]'(by omega), by simpa [hC, List.getElem?_eq_getElem (show 1 < xs.length by omega)] using e⟩
  obtain ⟨f1, K1, G1⟩ := (opens_int Try.underlying3) _ _ _ g1
  obtain ⟨y2, g2⟩ : ∃ y, DataW.trod enc Try.prog w 0 (fun _ => true) true n 3 [c2] = some y := by
    have e := hg 2 _ rfl
    have hC : Try.prog.cellsOf 3 = 1 := by kernel_rfl
    exact ⟨xs[2]'(by omega), by simpa [hC, List.getElem?_eq_getElem (show 2 < xs.length by omega)] using e⟩
  obtain ⟨f2, K2, G2⟩ := (opens_int Try.underlying3) _ _ _ g2
  obtain ⟨y3, g3⟩ : ∃ y, DataW.trod enc Try.prog w 0 (fun _ => true) true n 3 [c3] = some y := by
    have e := hg 3 _ rfl
    have hC : Try.prog.cellsOf 3 = 1 := by kernel_rfl
    exact ⟨xs[3]'(by omega), by simpa [hC, List.getElem?_eq_getElem (show 3 < xs.length by omega)] using e⟩
  obtain ⟨f3, K3, G3⟩ := (opens_int Try.underlying3) _ _ _ g3
  obtain ⟨y4, g4⟩ : ∃ y, DataW.trod enc Try.prog w 0 (fun _ => true) true n 41 [c4] = some y := by
    have e := hg 4 _ rfl
    have hC : Try.prog.cellsOf 41 = 1 := by kernel_rfl
    exact ⟨xs[4]'(by omega), by simpa [hC, List.getElem?_eq_getElem (show 4 < xs.length by omega)] using e⟩
  obtain ⟨f4, K4, G4⟩ := (opens_slice (d := (Kd.int .i64)) Try.underlying41 (by kernel_rfl) (opens_int Try.underlying3)) _ _ _ g4
  obtain ⟨y5, g5⟩ : ∃ y, DataW.trod enc Try.prog w 0 (fun _ => true) true n 4 [c5] = some y := by
    have e := hg 5 _ rfl
    have hC : Try.prog.cellsOf 4 = 1 := by kernel_rfl
    exact ⟨xs[5]'(by omega), by simpa [hC, List.getElem?_eq_getElem (show 5 < xs.length by omega)] using e⟩
  obtain ⟨f5, K5, G5⟩ := (opens_bool Try.underlying4) _ _ _ g5
  exact ⟨⟨f0, f1, f2, f3, f4, f5⟩, ⟨[c0], [c1, c2, c3, c4, c5], rfl, K0, ⟨[c1], [c2, c3, c4, c5], rfl, K1, ⟨[c2], [c3, c4, c5], rfl, K2, ⟨[c3], [c4, c5], rfl, K3, ⟨[c4], [c5], rfl, K4, K5⟩⟩⟩⟩⟩, G0, G1, G2, G3, G4, G5⟩
theorem opens45 {H : Type} {enc : TypeId × Value → H} {w : World} : Opens enc Try.prog w 45 (fun (a : S45) cs => k45.K w a cs ∧ G45 a) := by
  intro fuel cs x h
  obtain ⟨xs, n, _, _, hl, hxl, hg⟩ := DataW.trod_struct Try.underlying45 h
  have hn : cs.length = 9 := hl.trans (by kernel_rfl)
  obtain ⟨c0, c1, c2, c3, c4, c5, c6, c7, c8, rfl⟩ := len9 hn
  have hxl2 : xs.length = 4 := hxl
  obtain ⟨y0, g0⟩ : ∃ y, DataW.trod enc Try.prog w 0 (fun _ => true) true n 9 [c0] = some y := by
    have e := hg 0 _ rfl
    have hC : Try.prog.cellsOf 9 = 1 := by kernel_rfl
    exact ⟨xs[0]'(by omega), by simpa [hC, List.getElem?_eq_getElem (show 0 < xs.length by omega)] using e⟩
  obtain ⟨f0, K0, G0⟩ := (opens_string Try.underlying9) _ _ _ g0
  obtain ⟨y1, g1⟩ : ∃ y, DataW.trod enc Try.prog w 0 (fun _ => true) true n 3 [c1] = some y := by
    have e := hg 1 _ rfl
    have hC : Try.prog.cellsOf 3 = 1 := by kernel_rfl
    exact ⟨xs[1]'(by omega), by simpa [hC, List.getElem?_eq_getElem (show 1 < xs.length by omega)] using e⟩
  obtain ⟨f1, K1, G1⟩ := (opens_int Try.underlying3) _ _ _ g1
  obtain ⟨y2, g2⟩ : ∃ y, DataW.trod enc Try.prog w 0 (fun _ => true) true n 3 [c2] = some y := by
    have e := hg 2 _ rfl
    have hC : Try.prog.cellsOf 3 = 1 := by kernel_rfl
    exact ⟨xs[2]'(by omega), by simpa [hC, List.getElem?_eq_getElem (show 2 < xs.length by omega)] using e⟩
  obtain ⟨f2, K2, G2⟩ := (opens_int Try.underlying3) _ _ _ g2
  obtain ⟨y3, g3⟩ : ∃ y, DataW.trod enc Try.prog w 0 (fun _ => true) true n 43 [c3, c4, c5, c6, c7, c8] = some y := by
    have e := hg 3 _ rfl
    have hC : Try.prog.cellsOf 43 = 6 := by kernel_rfl
    exact ⟨xs[3]'(by omega), by simpa [hC, List.getElem?_eq_getElem (show 3 < xs.length by omega)] using e⟩
  obtain ⟨f3, K3, G3⟩ := opens43 _ _ _ g3
  exact ⟨⟨f0, f1, f2, f3⟩, ⟨[c0], [c1, c2, c3, c4, c5, c6, c7, c8], rfl, K0, ⟨[c1], [c2, c3, c4, c5, c6, c7, c8], rfl, K1, ⟨[c2], [c3, c4, c5, c6, c7, c8], rfl, K2, K3⟩⟩⟩, G0, G1, G2, G3⟩
set_option maxRecDepth 100000 in
theorem lifted (os : Os) (started : os.Started) (H : Type) (enc : TypeId × Value → H) :
    ReturnsInHanded {} Try.checked os 3 .any (Rows.fnExactBuildTableSpec.pre6 enc Try.prog Try.f3 Rows.fnExactBuildTableRow.domain false) (Rows.fnExactBuildTableSpec.post enc Try.prog Try.f3 false true false false) := by
  refine returnsInHanded_of_change_sized (C := Try.checked) own started (by kernel_rfl) Try.func3
    (ChangeSpec.witness6 (enc := enc) (C := Try.checked) false ⟨#[], #[.slice none 0 0, .int .i64 0], []⟩ 8 (by kernel_rfl) (by kernel_rfl) (by kernel_rfl) (by kernel_rfl)) ?_
  intro W base args ds gs before hval0 hW hcnd hsz0 _
  have hval : ∀ (j : Nat) t v, Try.f3.params[j]? = some t → args[j]? = some v → Value.okWide Try.prog W .any base t v := hval0
  have hW' := hW
  obtain ⟨p, q, hA0, hV, rfl, hfz, hnd⟩ := hW
  have hA : DataW.TrodAll enc Try.prog W 0 (fun _ => true) true Try.f3.params.toList args.toList ds p := hA0
  rw [Try.params3] at hA hval
  obtain ⟨v0, vs0, d0, ds0, p0, q0, hargs, rfl, rfl, h0, r0⟩ := trodAll_cons hA
  obtain ⟨v1, vs1, d1, ds1, p1, q1, rfl, rfl, rfl, h1, r1⟩ := trodAll_cons r0
  obtain ⟨rfl, rfl, rfl⟩ := trodAll_nil r1
  obtain rfl : args = #[v0, v1] := by cases args; simp_all
  obtain ⟨rfl, rfl⟩ := trodVars_none hV
  obtain ⟨b0, len0, cap0, rfl⟩ := okWide_slice Try.underlying22 (hval 0 22 v0 rfl rfl)
  have k0 := h0
  have lt0 : ∀ x ∈ p0, x.block < W.heap.size := by obtain ⟨m, hm⟩ := k0; exact DataW.trod_lt m _ _ _ hm
  obtain ⟨fuel0, hf0⟩ := h0
  obtain ⟨l0, K0, w0⟩ := (opens_slice (d := k45) Try.underlying22 (by kernel_rfl) opens45) _ _ _ hf0
  obtain ⟨rfl, hc0, hr0⟩ := slice_K K0
  have k1 := h1
  have lt1 : ∀ x ∈ p1, x.block < W.heap.size := by obtain ⟨m, hm⟩ := k1; exact DataW.trod_lt m _ _ _ hm
  obtain ⟨a1, rfl, _, _, w1⟩ := open_int Try.underlying3 (hval 1 3 v1 rfl rfl) h1
  obtain ⟨k, h⟩ := Pure.FnExactBuildTable l0 a1 w0 w1
  refine (PFnExactBuildTable.laws_FnExactBuildTable.calls k _ _ l0 a1 true W hr0 hc0 h).mono ?_
  rintro e W' ⟨rfl, bel⟩
  exact ⟨_, rfl, _, _, _, [], _, [], hW', trodAll_mk1 (shut_bool Try.underlying4 _), (trodAll_cons_mk (Below.trod laidOut (by kernel_rfl) (of_decide_eq_true (by kernel_rfl)) k0 bel lt0) (trodAll_cons_mk (Below.trod laidOut (by kernel_rfl) (of_decide_eq_true (by kernel_rfl)) k1 bel lt1) trodAll_mk0)), rfl, bel.frame _, fun h => by cases h⟩
theorem over : Rows.fnExactBuildTableRow.holds Try.pinned (OpenSpec.ofChange Rows.fnExactBuildTableSpec) :=
  OpenClaim.holds_of_wide 3 Try.f3 rfl rfl rfl rfl rfl rfl rfl ⟨rfl, rfl, rfl, rfl, rfl⟩ rfl rfl rfl rfl rfl (by kernel_rfl) Try.func3 (by kernel_rfl)
    (of_decide_eq_true (by kernel_rfl)) (by unfold Func.isWrapper; first | (rw [if_pos (by decide +kernel)]; kernel_rfl) | (rw [if_neg (by decide +kernel)]; exact ⟨rfl, rfl⟩))
    (fun os started H enc _ => lifted os started H enc)
theorem proved : Rows.FnExactBuildTableSaid := over
#print axioms proved
end Go.Proofs.Ytllmlnagihlokaa.fnExactBuildTable
namespace Go.Proofs.Ytllmlnagihlokaa
/-- The row, under a short name, for the claim. -/
theorem fnExactBuildTable_holds : Rows.FnExactBuildTableSaid := fnExactBuildTable.proved
end Go.Proofs.Ytllmlnagihlokaa
