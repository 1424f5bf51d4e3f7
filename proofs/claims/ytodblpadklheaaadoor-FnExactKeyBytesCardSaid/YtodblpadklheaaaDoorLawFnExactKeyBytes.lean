-- The row of the law laws_FnExactKeyBytes: written by a program of this session.
import Derived.Test.YtodblpadklheaaaDoorRows
import Derived.Test.YtodblpadklheaaaDoorPFnExactKeyBytesx6
import Derived.Test.YtodblpadklheaaaDoorPFnExactKeyBytesx6
import Derived.Test.YtodblpadklheaaaDoorPureFnExactKeyBytes
import Derived.Test.YtodblpadklheaaaDoorOpen
import Derived.WalkKit
import Derived.ProofKit
import Derived.OpenShut
import Derived.ShutString
import Derived.ChangeOld
import Derived.Below
import Derived.SizedLaws
import Derived.LaidMore
import Derived.Lay
import Derived.Stop.Joined
import Derived.SevenTiedAt
import Derived.Test.YtodblpadklheaaaDoorTie
import Derived.Test.YtodblpadklheaaaDoorCards
namespace Go.Proofs.YtodblpadklheaaaDoor.fnExactKeyBytes
open Go.ChangeShapes Go.WideShapes Go.ChangeAt Go.RowKit Go.Proofs.YtodblpadklheaaaDoor.Open Go.Proofs.YtodblpadklheaaaDoor.PFnExactKeyBytes Go.Proofs.YtodblpadklheaaaDoorW.PrintWords
set_option linter.unusedVariables false
theorem own : ownKnob Tryd.prog.godebug = none := by kernel_rfl
theorem laidOut : laidOutB Tryd.prog = true := by kernel_rfl
theorem len2 {l : List Value} (h : l.length = 2) : ∃ c0 c1 : Value, l = [c0, c1] := by
  match l, h with
  | [c0, c1], _ => exact ⟨_, _, rfl⟩
theorem len3 {l : List Value} (h : l.length = 3) : ∃ c0 c1 c2 : Value, l = [c0, c1, c2] := by
  match l, h with
  | [c0, c1, c2], _ => exact ⟨_, _, _, rfl⟩
theorem opens104 {H : Type} {enc : TypeId × Value → H} {w : World} : Opens enc Tryd.prog w 104 (fun (a : S104) cs => k104.K w a cs ∧ G104 a) := by
  intro fuel cs x h
  obtain ⟨xs, n, _, _, hl, hxl, hg⟩ := DataW.trod_struct Tryd.underlying104 h
  have hn : cs.length = 2 := hl.trans (by kernel_rfl)
  obtain ⟨c0, c1, rfl⟩ := len2 hn
  have hxl2 : xs.length = 2 := hxl
  obtain ⟨y0, g0⟩ : ∃ y, DataW.trod enc Tryd.prog w 0 (fun _ => true) true n 9 [c0] = some y := by
    have e := hg 0 _ rfl
    have hC : Tryd.prog.cellsOf 9 = 1 := by kernel_rfl
    exact ⟨xs[0]'(by omega), by simpa [hC, List.getElem?_eq_getElem (show 0 < xs.length by omega)] using e⟩
  obtain ⟨f0, K0, G0⟩ := (opens_string Tryd.underlying9) _ _ _ g0
  obtain ⟨y1, g1⟩ : ∃ y, DataW.trod enc Tryd.prog w 0 (fun _ => true) true n 9 [c1] = some y := by
    have e := hg 1 _ rfl
    have hC : Tryd.prog.cellsOf 9 = 1 := by kernel_rfl
    exact ⟨xs[1]'(by omega), by simpa [hC, List.getElem?_eq_getElem (show 1 < xs.length by omega)] using e⟩
  obtain ⟨f1, K1, G1⟩ := (opens_string Tryd.underlying9) _ _ _ g1
  exact ⟨⟨f0, f1⟩, ⟨[c0], [c1], rfl, K0, K1⟩, G0, G1⟩
noncomputable def laid2 : List (String × DataW Unit) := Rows.fnExactKeyBytesRow.laid
set_option maxRecDepth 100000 in
theorem lifted (os : Os) (started : os.Started) (H : Type) (enc : TypeId × Value → H) :
    ReturnsInHanded {} Tryd.checked os 3 .any (fun w args => (Rows.fnExactKeyBytesSpec.pre enc Tryd.prog Tryd.f3 [] false w args ∧ laidMetH Tryd.prog laid2 w) ∧ sizedMet enc Tryd.prog Tryd.f3 (OpenSpec.ofChange Rows.fnExactKeyBytesSpec) false w args) (Rows.fnExactKeyBytesSpec.post enc Tryd.prog Tryd.f3 false true false false) := by
  refine returnsInHanded_of_change_and (C := Tryd.checked) (X := fun w _ => laidMetH Tryd.prog laid2 w) (fun _ _ _ hh h => h.of_heap hh) own started (by kernel_rfl) Tryd.func3
    (ChangeSpec.witness_shaped (enc := enc) (C := Tryd.checked) (os := os) (X := fun w _ => laidMetH Tryd.prog laid2 w) false (World.laidAll Tryd.prog os laid2) #[.agg #[.string ByteArray.empty, .slice none 0 0, .int .i64 0]] 8 (World.laidAll_os _ _ _)
      (World.shaped_of_ZipB (by kernel_rfl) (by kernel_rfl)) (by kernel_rfl) (by kernel_rfl) (by kernel_rfl)
      (by rw [MakeChecks.laidMetH_plain _ _ _ (by kernel_rfl)]; exact laidMet_laidAll _ (by kernel_rfl) (by kernel_rfl))) ?_
  intro W base args ds gs before hval0 hW _ _ hL _
  have hval : ∀ (j : Nat) t v, Tryd.f3.params[j]? = some t → args[j]? = some v → Value.okWide Tryd.prog W .any base t v := hval0
  have hW' := hW
  obtain ⟨p, q, hA0, hV, rfl, hfz, hnd⟩ := hW
  have hA : DataW.TrodAll enc Tryd.prog W 0 (fun _ => true) true Tryd.f3.params.toList args.toList ds p := hA0
  rw [Tryd.params3] at hA hval
  obtain ⟨v0, vs0, d0, ds0, p0, q0, hargs, rfl, rfl, h0, r0⟩ := trodAll_cons hA
  obtain ⟨rfl, rfl, rfl⟩ := trodAll_nil r0
  obtain rfl : args = #[v0] := by cases args; simp_all
  obtain ⟨rfl, rfl⟩ := trodVars_none hV
  obtain ⟨⟨cs0⟩, rfl, hz0⟩ := okWide_struct Tryd.underlying24 (hval 0 24 v0 rfl rfl)
  have k0 := h0
  have lt0 : ∀ x ∈ p0, x.block < W.heap.size := by obtain ⟨m, hm⟩ := k0; exact DataW.trod_lt m _ _ _ hm
  have hn0 : cs0.length = 3 := hz0.trans (by kernel_rfl)
  obtain ⟨c0_0, c0_1, c0_2, rfl⟩ := len3 hn0
  obtain ⟨fuel0, hf0⟩ := h0
  have hs0 : DataW.trod enc Tryd.prog W 0 (fun _ => true) true fuel0 24 [c0_0, c0_1, c0_2] = some (d0, p0) := hf0
  obtain ⟨xs1, n1, _, _, _, hxl1, hg1⟩ := DataW.trod_struct Tryd.underlying24 hs0
  have hxm1 : xs1.length = 3 := hxl1
  obtain ⟨y1_0, g1_0⟩ : ∃ y, DataW.trod enc Tryd.prog W 0 (fun _ => true) true n1 9 [c0_0] = some y := by
    have e := hg1 0 _ rfl
    have hC : Tryd.prog.cellsOf 9 = 1 := by kernel_rfl
    exact ⟨xs1[0]'(by omega), by simpa [hC, List.getElem?_eq_getElem (show 0 < xs1.length by omega)] using e⟩
  obtain ⟨a0_0, e0_0, _, w0_0⟩ := DataW.trod_string Tryd.underlying9 g1_0
  obtain rfl : c0_0 = .string a0_0 := by simpa using e0_0
  obtain ⟨y1_1, g1_1⟩ : ∃ y, DataW.trod enc Tryd.prog W 0 (fun _ => true) true n1 22 [c0_1] = some y := by
    have e := hg1 1 _ rfl
    have hC : Tryd.prog.cellsOf 22 = 1 := by kernel_rfl
    exact ⟨xs1[1]'(by omega), by simpa [hC, List.getElem?_eq_getElem (show 1 < xs1.length by omega)] using e⟩
  obtain ⟨l0_1, K0_1, w0_1⟩ := (opens_slice (d := k104) Tryd.underlying22 (by kernel_rfl) opens104) _ _ _ g1_1
  obtain ⟨A0_1, cap0_1, rfl, hc0_1, hr0_1⟩ := slice_K' K0_1
  obtain ⟨y1_2, g1_2⟩ : ∃ y, DataW.trod enc Tryd.prog W 0 (fun _ => true) true n1 3 [c0_2] = some y := by
    have e := hg1 2 _ rfl
    have hC : Tryd.prog.cellsOf 3 = 1 := by kernel_rfl
    exact ⟨xs1[2]'(by omega), by simpa [hC, List.getElem?_eq_getElem (show 2 < xs1.length by omega)] using e⟩
  obtain ⟨a0_2, e0_2, _, w0_2⟩ := DataW.trod_int Tryd.underlying3 g1_2
  obtain rfl : c0_2 = .int .i64 a0_2 := by simpa using e0_2
  obtain ⟨k, h⟩ := Pure.FnExactKeyBytes a0_0 l0_1 a0_2 w0_0 w0_1 w0_2
  refine (PFnExactKeyBytes.laws_FnExactKeyBytes.calls k a0_0 _ _ l0_1 a0_2 true W hr0_1 hc0_1 h).mono ?_
  rintro e W' ⟨rfl, bel⟩
  exact ⟨_, rfl, _, _, _, [], _, [], hW', trodAll_mk1 (shut_bool Tryd.underlying4 _), (trodAll_cons_mk (Below.trod laidOut (by kernel_rfl) (of_decide_eq_true (by kernel_rfl)) k0 bel lt0) trodAll_mk0), rfl, bel.frame _, fun h => by cases h⟩
theorem over : Rows.fnExactKeyBytesRow.holds Tryd.pinned (OpenSpec.ofChange Rows.fnExactKeyBytesSpec) :=
  OpenClaim.holds_of_wide 3 Tryd.f3 rfl rfl rfl rfl rfl rfl rfl ⟨rfl, rfl, rfl, rfl, rfl⟩ rfl rfl rfl rfl rfl (by kernel_rfl) Tryd.func3 (by kernel_rfl)
    (of_decide_eq_true (by kernel_rfl)) (by unfold Func.isWrapper; first | (rw [if_pos (by decide +kernel)]; kernel_rfl) | (rw [if_neg (by decide +kernel)]; exact ⟨rfl, rfl⟩))
    (fun os started H enc _ => lifted os started H enc)
theorem card_holds : Rows.FnExactKeyBytesCardSaid :=
  Claim7.holds_tied_plain_at .later [] [.data, .pinned] true (true, "b8a0f7fb70f63b9a20744c4ddaebae1c057689440af324ddd5fedf2c7c8d336e") false over (fun _ h => by cases h) (by kernel_rfl) (fun _ h => by cases h) fnExactKeyBytes_row_tie rfl ⟨rfl, rfl⟩ (by kernel_rfl) rfl
    (fun f fn hf hfn => by
      obtain rfl : f = 3 := Option.some.inj ((show Tryd.prog.funcNamed "loop.example/g00150/laws.FnExactKeyBytes" = some 3 by kernel_rfl).symm.trans hf) |>.symm
      obtain rfl : fn = Tryd.f3 := (Option.some.inj (Tryd.func3.symm.trans hfn)).symm
      exact ⟨by kernel_rfl, fun j t ht => by
        rw [Tryd.params3] at ht
        have hm : t ∈ [24] := by simpa using Array.mem_of_getElem? ht
        have hall : ([24].all fun u => !Tryd.prog.wantsStandIn u) = true := by kernel_rfl
        exact (show Tryd.prog.wantsStandIn t = false by simpa using List.all_eq_true.1 hall t hm)⟩)
    (by kernel_rfl)
theorem proved : Rows.FnExactKeyBytesCardSaid := card_holds
#print axioms proved
end Go.Proofs.YtodblpadklheaaaDoor.fnExactKeyBytes
namespace Go.Proofs.YtodblpadklheaaaDoor
/-- The row, under a short name, for the claim. -/
theorem fnExactKeyBytes_holds : Rows.FnExactKeyBytesCardSaid := fnExactKeyBytes.proved
end Go.Proofs.YtodblpadklheaaaDoor
