-- The row of the law laws_FnExactSyncFile: written by a program of this session.
import Derived.Test.YtodblpadklheaaaDoorRows
import Derived.Test.YtodblpadklheaaaDoorPFnExactSyncFilex10
import Derived.Test.YtodblpadklheaaaDoorPureFnExactSyncFile
import Derived.Test.YtodblpadklheaaaDoorOpen
import Derived.WalkKit
import Derived.ProofKit
import Derived.OpenShut
import Derived.ShutString
import Derived.ChangeOld
import Derived.Below
import Derived.SizedLaws
import Derived.LaidMore
import Derived.Lay
import Derived.Stop.Joined
import Derived.SevenTiedAt
import Derived.Test.YtodblpadklheaaaDoorTie
import Derived.Test.YtodblpadklheaaaDoorCards
namespace Go.Proofs.YtodblpadklheaaaDoor.fnExactSyncFile
open Go.ChangeShapes Go.WideShapes Go.ChangeAt Go.RowKit Go.Proofs.YtodblpadklheaaaDoor.Open Go.Proofs.YtodblpadklheaaaDoor.PFnExactSyncFile Go.Proofs.YtodblpadklheaaaDoorW.PrintWords
set_option linter.unusedVariables false
theorem own : ownKnob Tryd.prog.godebug = none := by kernel_rfl
theorem laidOut : laidOutB Tryd.prog = true := by kernel_rfl
theorem len2 {l : List Value} (h : l.length = 2) : ∃ c0 c1 : Value, l = [c0, c1] := by
  match l, h with
  | [c0, c1], _ => exact ⟨_, _, rfl⟩
theorem len3 {l : List Value} (h : l.length = 3) : ∃ c0 c1 c2 : Value, l = [c0, c1, c2] := by
  match l, h with
  | [c0, c1, c2], _ => exact ⟨_, _, _, rfl⟩
theorem opens110 {H : Type} {enc : TypeId × Value → H} {w : World} : Opens enc Tryd.prog w 110 (fun (a : S110) cs => k110.K w a cs ∧ G110 a) := by
  intro fuel cs x h
  obtain ⟨xs, n, _, _, hl, hxl, hg⟩ := DataW.trod_struct Tryd.underlying110 h
  have hn : cs.length = 3 := hl.trans (by kernel_rfl)
  obtain ⟨c0, c1, c2, rfl⟩ := len3 hn
  have hxl2 : xs.length = 3 := hxl
  obtain ⟨y0, g0⟩ : ∃ y, DataW.trod enc Tryd.prog w 0 (fun _ => true) true n 9 [c0] = some y := by
    have e := hg 0 _ rfl
    have hC : Tryd.prog.cellsOf 9 = 1 := by kernel_rfl
    exact ⟨xs[0]'(by omega), by simpa [hC, List.getElem?_eq_getElem (show 0 < xs.length by omega)] using e⟩
  obtain ⟨f0, K0, G0⟩ := (opens_string Tryd.underlying9) _ _ _ g0
  obtain ⟨y1, g1⟩ : ∃ y, DataW.trod enc Tryd.prog w 0 (fun _ => true) true n 26 [c1] = some y := by
    have e := hg 1 _ rfl
    have hC : Tryd.prog.cellsOf 26 = 1 := by kernel_rfl
    exact ⟨xs[1]'(by omega), by simpa [hC, List.getElem?_eq_getElem (show 1 < xs.length by omega)] using e⟩
  obtain ⟨f1, K1, G1⟩ := (opens_slice (d := (Kd.int .u8)) Tryd.underlying26 (by kernel_rfl) (opens_int Tryd.underlying5)) _ _ _ g1
  obtain ⟨y2, g2⟩ : ∃ y, DataW.trod enc Tryd.prog w 0 (fun _ => true) true n 3 [c2] = some y := by
    have e := hg 2 _ rfl
    have hC : Tryd.prog.cellsOf 3 = 1 := by kernel_rfl
    exact ⟨xs[2]'(by omega), by simpa [hC, List.getElem?_eq_getElem (show 2 < xs.length by omega)] using e⟩
  obtain ⟨f2, K2, G2⟩ := (opens_int Tryd.underlying3) _ _ _ g2
  exact ⟨⟨f0, f1, f2⟩, ⟨[c0], [c1, c2], rfl, K0, ⟨[c1], [c2], rfl, K1, K2⟩⟩, G0, G1, G2⟩
noncomputable def laid2 : List (String × DataW Unit) := Rows.fnExactSyncFileRow.laid
set_option maxRecDepth 100000 in
theorem lifted (os : Os) (started : os.Started) (H : Type) (enc : TypeId × Value → H) :
    ReturnsInHanded {} Tryd.checked os 4 .any (fun w args => (Rows.fnExactSyncFileSpec.pre enc Tryd.prog Tryd.f4 [] false w args ∧ laidMetH Tryd.prog laid2 w) ∧ sizedMet enc Tryd.prog Tryd.f4 (OpenSpec.ofChange Rows.fnExactSyncFileSpec) false w args) (Rows.fnExactSyncFileSpec.post enc Tryd.prog Tryd.f4 false true false false) := by
  refine returnsInHanded_of_change_and (C := Tryd.checked) (X := fun w _ => laidMetH Tryd.prog laid2 w) (fun _ _ _ hh h => h.of_heap hh) own started (by kernel_rfl) Tryd.func4
    (ChangeSpec.witness_shaped (enc := enc) (C := Tryd.checked) (os := os) (X := fun w _ => laidMetH Tryd.prog laid2 w) false (World.laidAll Tryd.prog os laid2) #[.agg #[.int .i64 0, .slice none 0 0], .string ByteArray.empty] 8 (World.laidAll_os _ _ _)
      (World.shaped_of_ZipB (by kernel_rfl) (by kernel_rfl)) (by kernel_rfl) (by kernel_rfl) (by kernel_rfl)
      (by rw [MakeChecks.laidMetH_plain _ _ _ (by kernel_rfl)]; exact laidMet_laidAll _ (by kernel_rfl) (by kernel_rfl))) ?_
  intro W base args ds gs before hval0 hW _ _ hL _
  have hval : ∀ (j : Nat) t v, Tryd.f4.params[j]? = some t → args[j]? = some v → Value.okWide Tryd.prog W .any base t v := hval0
  have hW' := hW
  obtain ⟨p, q, hA0, hV, rfl, hfz, hnd⟩ := hW
  have hA : DataW.TrodAll enc Tryd.prog W 0 (fun _ => true) true Tryd.f4.params.toList args.toList ds p := hA0
  rw [Tryd.params4] at hA hval
  obtain ⟨v0, vs0, d0, ds0, p0, q0, hargs, rfl, rfl, h0, r0⟩ := trodAll_cons hA
  obtain ⟨v1, vs1, d1, ds1, p1, q1, rfl, rfl, rfl, h1, r1⟩ := trodAll_cons r0
  obtain ⟨rfl, rfl, rfl⟩ := trodAll_nil r1
  obtain rfl : args = #[v0, v1] := by cases args; simp_all
  obtain ⟨rfl, rfl⟩ := trodVars_none hV
  obtain ⟨⟨cs0⟩, rfl, hz0⟩ := okWide_struct Tryd.underlying40 (hval 0 40 v0 rfl rfl)
  have k0 := h0
  have lt0 : ∀ x ∈ p0, x.block < W.heap.size := by obtain ⟨m, hm⟩ := k0; exact DataW.trod_lt m _ _ _ hm
  have hn0 : cs0.length = 2 := hz0.trans (by kernel_rfl)
  obtain ⟨c0_0, c0_1, rfl⟩ := len2 hn0
  obtain ⟨fuel0, hf0⟩ := h0
  have hs0 : DataW.trod enc Tryd.prog W 0 (fun _ => true) true fuel0 40 [c0_0, c0_1] = some (d0, p0) := hf0
  obtain ⟨xs1, n1, _, _, _, hxl1, hg1⟩ := DataW.trod_struct Tryd.underlying40 hs0
  have hxm1 : xs1.length = 2 := hxl1
  obtain ⟨y1_0, g1_0⟩ : ∃ y, DataW.trod enc Tryd.prog W 0 (fun _ => true) true n1 3 [c0_0] = some y := by
    have e := hg1 0 _ rfl
    have hC : Tryd.prog.cellsOf 3 = 1 := by kernel_rfl
    exact ⟨xs1[0]'(by omega), by simpa [hC, List.getElem?_eq_getElem (show 0 < xs1.length by omega)] using e⟩
  obtain ⟨a0_0, e0_0, _, w0_0⟩ := DataW.trod_int Tryd.underlying3 g1_0
  obtain rfl : c0_0 = .int .i64 a0_0 := by simpa using e0_0
  obtain ⟨y1_1, g1_1⟩ : ∃ y, DataW.trod enc Tryd.prog W 0 (fun _ => true) true n1 38 [c0_1] = some y := by
    have e := hg1 1 _ rfl
    have hC : Tryd.prog.cellsOf 38 = 1 := by kernel_rfl
    exact ⟨xs1[1]'(by omega), by simpa [hC, List.getElem?_eq_getElem (show 1 < xs1.length by omega)] using e⟩
  obtain ⟨l0_1, K0_1, w0_1⟩ := (opens_slice (d := k110) Tryd.underlying38 (by kernel_rfl) opens110) _ _ _ g1_1
  obtain ⟨A0_1, cap0_1, rfl, hc0_1, hr0_1⟩ := slice_K' K0_1
  have k1 := h1
  have lt1 : ∀ x ∈ p1, x.block < W.heap.size := by obtain ⟨m, hm⟩ := k1; exact DataW.trod_lt m _ _ _ hm
  obtain ⟨fuel1, hf1⟩ := h1
  obtain ⟨a1, rfl⟩ := okWide_string Tryd.underlying9 (hval 1 9 v1 rfl rfl)
  have w1 : a1.size ≤ maxLen := by
    obtain ⟨z, e, _, hz⟩ := DataW.trod_string Tryd.underlying9 hf1
    simp only [Value.cells, List.cons.injEq, Value.string.injEq, and_true] at e
    exact e ▸ hz
  obtain ⟨k, h⟩ := Pure.FnExactSyncFile a0_0 l0_1 a1 w0_0 w0_1 w1
  refine (PFnExactSyncFile.laws_FnExactSyncFile.calls k a0_0 _ _ l0_1 a1 true W hr0_1 hc0_1 h).mono ?_
  rintro e W' ⟨rfl, bel⟩
  exact ⟨_, rfl, _, _, _, [], _, [], hW', trodAll_mk1 (shut_bool Tryd.underlying4 _), (trodAll_cons_mk (Below.trod laidOut (by kernel_rfl) (of_decide_eq_true (by kernel_rfl)) k0 bel lt0) (trodAll_cons_mk (Below.trod laidOut (by kernel_rfl) (of_decide_eq_true (by kernel_rfl)) k1 bel lt1) trodAll_mk0)), rfl, bel.frame _, fun h => by cases h⟩
theorem over : Rows.fnExactSyncFileRow.holds Tryd.pinned (OpenSpec.ofChange Rows.fnExactSyncFileSpec) :=
  OpenClaim.holds_of_wide 4 Tryd.f4 rfl rfl rfl rfl rfl rfl rfl ⟨rfl, rfl, rfl, rfl, rfl⟩ rfl rfl rfl rfl rfl (by kernel_rfl) Tryd.func4 (by kernel_rfl)
    (of_decide_eq_true (by kernel_rfl)) (by unfold Func.isWrapper; first | (rw [if_pos (by decide +kernel)]; kernel_rfl) | (rw [if_neg (by decide +kernel)]; exact ⟨rfl, rfl⟩))
    (fun os started H enc _ => lifted os started H enc)
theorem card_holds : Rows.FnExactSyncFileCardSaid :=
  Claim7.holds_tied_plain_at .later [] [.data, .pinned] true (true, "b8a0f7fb70f63b9a20744c4ddaebae1c057689440af324ddd5fedf2c7c8d336e") false over (fun _ h => by cases h) (by kernel_rfl) (fun _ h => by cases h) fnExactSyncFile_row_tie rfl ⟨rfl, rfl⟩ (by kernel_rfl) rfl
    (fun f fn hf hfn => by
      obtain rfl : f = 4 := Option.some.inj ((show Tryd.prog.funcNamed "loop.example/g00150/laws.FnExactSyncFile" = some 4 by kernel_rfl).symm.trans hf) |>.symm
      obtain rfl : fn = Tryd.f4 := (Option.some.inj (Tryd.func4.symm.trans hfn)).symm
      exact ⟨by kernel_rfl, fun j t ht => by
        rw [Tryd.params4] at ht
        have hm : t ∈ [40, 9] := by simpa using Array.mem_of_getElem? ht
        have hall : ([40, 9].all fun u => !Tryd.prog.wantsStandIn u) = true := by kernel_rfl
        exact (show Tryd.prog.wantsStandIn t = false by simpa using List.all_eq_true.1 hall t hm)⟩)
    (by kernel_rfl)
theorem proved : Rows.FnExactSyncFileCardSaid := card_holds
#print axioms proved
end Go.Proofs.YtodblpadklheaaaDoor.fnExactSyncFile
namespace Go.Proofs.YtodblpadklheaaaDoor
/-- The row, under a short name, for the claim. -/
theorem fnExactSyncFile_holds : Rows.FnExactSyncFileCardSaid := fnExactSyncFile.proved
end Go.Proofs.YtodblpadklheaaaDoor
