-- The row of the law laws_FnExactCompareKeys: written by a program of this session.
import Derived.Test.YtohmoigiggmmnaaDoorRows
import Derived.Test.YtohmoigiggmmnaaDoorPFnExactCompareKeysx7
import Derived.Test.YtohmoigiggmmnaaDoorPureFnExactCompareKeys
import Derived.Test.YtohmoigiggmmnaaDoorOpen
import Derived.WalkKit
import Derived.ProofKit
import Derived.OpenShut
import Derived.ShutString
import Derived.ChangeOld
import Derived.Below
import Derived.SizedLaws
import Derived.LaidMore
import Derived.Lay
import Derived.Stop.Joined
import Derived.SevenTiedAt
import Derived.Test.YtohmoigiggmmnaaDoorTie
import Derived.Test.YtohmoigiggmmnaaDoorCards
namespace Go.Proofs.YtohmoigiggmmnaaDoor.fnExactCompareKeys
open Go.ChangeShapes Go.WideShapes Go.ChangeAt Go.RowKit Go.Proofs.YtohmoigiggmmnaaDoor.Open Go.Proofs.YtohmoigiggmmnaaDoor.PFnExactCompareKeys Go.Proofs.YtohmoigiggmmnaaDoorW.PrintWords
set_option linter.unusedVariables false
theorem own : ownKnob Tryd.prog.godebug = none := by kernel_rfl
theorem laidOut : laidOutB Tryd.prog = true := by kernel_rfl
theorem len2 {l : List Value} (h : l.length = 2) : ∃ c0 c1 : Value, l = [c0, c1] := by
  match l, h with
  | [c0, c1], _ => exact ⟨_, _, rfl⟩
theorem len3 {l : List Value} (h : l.length = 3) : ∃ c0 c1 c2 : Value, l = [c0, c1, c2] := by
  match l, h with
  | [c0, c1, c2], _ => exact ⟨_, _, _, rfl⟩
theorem opens120 {H : Type} {enc : TypeId × Value → H} {w : World} : Opens enc Tryd.prog w 120 (fun (a : S120) cs => k120.K w a cs ∧ G120 a) := by
  intro fuel cs x h
  obtain ⟨xs, n, _, _, hl, hxl, hg⟩ := DataW.trod_struct Tryd.underlying120 h
  have hn : cs.length = 2 := hl.trans (by kernel_rfl)
  obtain ⟨c0, c1, rfl⟩ := len2 hn
  have hxl2 : xs.length = 2 := hxl
  obtain ⟨y0, g0⟩ : ∃ y, DataW.trod enc Tryd.prog w 0 (fun _ => true) true n 9 [c0] = some y := by
    have e := hg 0 _ rfl
    have hC : Tryd.prog.cellsOf 9 = 1 := by kernel_rfl
    exact ⟨xs[0]'(by omega), by simpa [hC, List.getElem?_eq_getElem (show 0 < xs.length by omega)] using e⟩
  obtain ⟨f0, K0, G0⟩ := (opens_string Tryd.underlying9) _ _ _ g0
  obtain ⟨y1, g1⟩ : ∃ y, DataW.trod enc Tryd.prog w 0 (fun _ => true) true n 9 [c1] = some y := by
    have e := hg 1 _ rfl
    have hC : Tryd.prog.cellsOf 9 = 1 := by kernel_rfl
    exact ⟨xs[1]'(by omega), by simpa [hC, List.getElem?_eq_getElem (show 1 < xs.length by omega)] using e⟩
  obtain ⟨f1, K1, G1⟩ := (opens_string Tryd.underlying9) _ _ _ g1
  exact ⟨⟨f0, f1⟩, ⟨[c0], [c1], rfl, K0, K1⟩, G0, G1⟩
noncomputable def laid2 : List (String × DataW Unit) := Rows.fnExactCompareKeysRow.laid
set_option maxRecDepth 100000 in
theorem lifted (os : Os) (started : os.Started) (H : Type) (enc : TypeId × Value → H) :
    ReturnsInHanded {} Tryd.checked os 6 .any (fun w args => (Rows.fnExactCompareKeysSpec.pre enc Tryd.prog Tryd.f6 [] false w args ∧ laidMetH Tryd.prog laid2 w) ∧ sizedMet enc Tryd.prog Tryd.f6 (OpenSpec.ofChange Rows.fnExactCompareKeysSpec) false w args) (Rows.fnExactCompareKeysSpec.post enc Tryd.prog Tryd.f6 false true false false) := by
  refine returnsInHanded_of_change_and (C := Tryd.checked) (X := fun w _ => laidMetH Tryd.prog laid2 w) (fun _ _ _ hh h => h.of_heap hh) own started (by kernel_rfl) Tryd.func6
    (ChangeSpec.witness_shaped (enc := enc) (C := Tryd.checked) (os := os) (X := fun w _ => laidMetH Tryd.prog laid2 w) false (World.laidAll Tryd.prog os laid2) #[.agg #[.string ByteArray.empty, .slice none 0 0, .int .i64 0], .agg #[.string ByteArray.empty, .slice none 0 0, .int .i64 0]] 8 (World.laidAll_os _ _ _)
      (World.shaped_of_ZipB (by kernel_rfl) (by kernel_rfl)) (by kernel_rfl) (by kernel_rfl) (by kernel_rfl)
      (by rw [MakeChecks.laidMetH_plain _ _ _ (by kernel_rfl)]; exact laidMet_laidAll _ (by kernel_rfl) (by kernel_rfl))) ?_
  intro W base args ds gs before hval0 hW _ _ hL _
  have hval : ∀ (j : Nat) t v, Tryd.f6.params[j]? = some t → args[j]? = some v → Value.okWide Tryd.prog W .any base t v := hval0
  have hW' := hW
  obtain ⟨p, q, hA0, hV, rfl, hfz, hnd⟩ := hW
  have hA : DataW.TrodAll enc Tryd.prog W 0 (fun _ => true) true Tryd.f6.params.toList args.toList ds p := hA0
  rw [Tryd.params6] at hA hval
  obtain ⟨v0, vs0, d0, ds0, p0, q0, hargs, rfl, rfl, h0, r0⟩ := trodAll_cons hA
  obtain ⟨v1, vs1, d1, ds1, p1, q1, rfl, rfl, rfl, h1, r1⟩ := trodAll_cons r0
  obtain ⟨rfl, rfl, rfl⟩ := trodAll_nil r1
  obtain rfl : args = #[v0, v1] := by cases args; simp_all
  obtain ⟨rfl, rfl⟩ := trodVars_none hV
  obtain ⟨⟨cs0⟩, rfl, hz0⟩ := okWide_struct Tryd.underlying24 (hval 0 24 v0 rfl rfl)
  have k0 := h0
  have lt0 : ∀ x ∈ p0, x.block < W.heap.size := by obtain ⟨m, hm⟩ := k0; exact DataW.trod_lt m _ _ _ hm
  have hn0 : cs0.length = 3 := hz0.trans (by kernel_rfl)
  obtain ⟨c0_0, c0_1, c0_2, rfl⟩ := len3 hn0
  obtain ⟨fuel0, hf0⟩ := h0
  have hs0 : DataW.trod enc Tryd.prog W 0 (fun _ => true) true fuel0 24 [c0_0, c0_1, c0_2] = some (d0, p0) := hf0
  obtain ⟨xs1, n1, _, _, _, hxl1, hg1⟩ := DataW.trod_struct Tryd.underlying24 hs0
  have hxm1 : xs1.length = 3 := hxl1
  obtain ⟨y1_0, g1_0⟩ : ∃ y, DataW.trod enc Tryd.prog W 0 (fun _ => true) true n1 9 [c0_0] = some y := by
    have e := hg1 0 _ rfl
    have hC : Tryd.prog.cellsOf 9 = 1 := by kernel_rfl
    exact ⟨xs1[0]'(by omega), by simpa [hC, List.getElem?_eq_getElem (show 0 < xs1.length by omega)] using e⟩
  obtain ⟨a0_0, e0_0, _, w0_0⟩ := DataW.trod_string Tryd.underlying9 g1_0
  obtain rfl : c0_0 = .string a0_0 := by simpa using e0_0
  obtain ⟨y1_1, g1_1⟩ : ∃ y, DataW.trod enc Tryd.prog W 0 (fun _ => true) true n1 22 [c0_1] = some y := by
    have e := hg1 1 _ rfl
    have hC : Tryd.prog.cellsOf 22 = 1 := by kernel_rfl
    exact ⟨xs1[1]'(by omega), by simpa [hC, List.getElem?_eq_getElem (show 1 < xs1.length by omega)] using e⟩
  obtain ⟨l0_1, K0_1, w0_1⟩ := (opens_slice (d := k120) Tryd.underlying22 (by kernel_rfl) opens120) _ _ _ g1_1
  obtain ⟨A0_1, cap0_1, rfl, hc0_1, hr0_1⟩ := slice_K' K0_1
  obtain ⟨y1_2, g1_2⟩ : ∃ y, DataW.trod enc Tryd.prog W 0 (fun _ => true) true n1 3 [c0_2] = some y := by
    have e := hg1 2 _ rfl
    have hC : Tryd.prog.cellsOf 3 = 1 := by kernel_rfl
    exact ⟨xs1[2]'(by omega), by simpa [hC, List.getElem?_eq_getElem (show 2 < xs1.length by omega)] using e⟩
  obtain ⟨a0_2, e0_2, _, w0_2⟩ := DataW.trod_int Tryd.underlying3 g1_2
  obtain rfl : c0_2 = .int .i64 a0_2 := by simpa using e0_2
  obtain ⟨⟨cs1⟩, rfl, hz1⟩ := okWide_struct Tryd.underlying24 (hval 1 24 v1 rfl rfl)
  have k1 := h1
  have lt1 : ∀ x ∈ p1, x.block < W.heap.size := by obtain ⟨m, hm⟩ := k1; exact DataW.trod_lt m _ _ _ hm
  have hn1 : cs1.length = 3 := hz1.trans (by kernel_rfl)
  obtain ⟨c1_0, c1_1, c1_2, rfl⟩ := len3 hn1
  obtain ⟨fuel1, hf1⟩ := h1
  have hs1 : DataW.trod enc Tryd.prog W 0 (fun _ => true) true fuel1 24 [c1_0, c1_1, c1_2] = some (d1, p1) := hf1
  obtain ⟨xs2, n2, _, _, _, hxl2, hg2⟩ := DataW.trod_struct Tryd.underlying24 hs1
  have hxm2 : xs2.length = 3 := hxl2
  obtain ⟨y2_0, g2_0⟩ : ∃ y, DataW.trod enc Tryd.prog W 0 (fun _ => true) true n2 9 [c1_0] = some y := by
    have e := hg2 0 _ rfl
    have hC : Tryd.prog.cellsOf 9 = 1 := by kernel_rfl
    exact ⟨xs2[0]'(by omega), by simpa [hC, List.getElem?_eq_getElem (show 0 < xs2.length by omega)] using e⟩
  obtain ⟨a1_0, e1_0, _, w1_0⟩ := DataW.trod_string Tryd.underlying9 g2_0
  obtain rfl : c1_0 = .string a1_0 := by simpa using e1_0
  obtain ⟨y2_1, g2_1⟩ : ∃ y, DataW.trod enc Tryd.prog W 0 (fun _ => true) true n2 22 [c1_1] = some y := by
    have e := hg2 1 _ rfl
    have hC : Tryd.prog.cellsOf 22 = 1 := by kernel_rfl
    exact ⟨xs2[1]'(by omega), by simpa [hC, List.getElem?_eq_getElem (show 1 < xs2.length by omega)] using e⟩
  obtain ⟨l1_1, K1_1, w1_1⟩ := (opens_slice (d := k120) Tryd.underlying22 (by kernel_rfl) opens120) _ _ _ g2_1
  obtain ⟨A1_1, cap1_1, rfl, hc1_1, hr1_1⟩ := slice_K' K1_1
  obtain ⟨y2_2, g2_2⟩ : ∃ y, DataW.trod enc Tryd.prog W 0 (fun _ => true) true n2 3 [c1_2] = some y := by
    have e := hg2 2 _ rfl
    have hC : Tryd.prog.cellsOf 3 = 1 := by kernel_rfl
    exact ⟨xs2[2]'(by omega), by simpa [hC, List.getElem?_eq_getElem (show 2 < xs2.length by omega)] using e⟩
  obtain ⟨a1_2, e1_2, _, w1_2⟩ := DataW.trod_int Tryd.underlying3 g2_2
  obtain rfl : c1_2 = .int .i64 a1_2 := by simpa using e1_2
  obtain ⟨k, h⟩ := Pure.FnExactCompareKeys a0_0 l0_1 a0_2 a1_0 l1_1 a1_2 w0_0 w0_1 w0_2 w1_0 w1_1 w1_2
  refine (PFnExactCompareKeys.laws_FnExactCompareKeys.calls k a0_0 _ _ l0_1 a0_2 a1_0 _ _ l1_1 a1_2 true W hr0_1 hc0_1 hr1_1 hc1_1 h).mono ?_
  rintro e W' ⟨rfl, bel⟩
  exact ⟨_, rfl, _, _, _, [], _, [], hW', trodAll_mk1 (shut_bool Tryd.underlying4 _), (trodAll_cons_mk (Below.trod laidOut (by kernel_rfl) (of_decide_eq_true (by kernel_rfl)) k0 bel lt0) (trodAll_cons_mk (Below.trod laidOut (by kernel_rfl) (of_decide_eq_true (by kernel_rfl)) k1 bel lt1) trodAll_mk0)), rfl, bel.frame _, fun h => by cases h⟩
theorem over : Rows.fnExactCompareKeysRow.holds Tryd.pinned (OpenSpec.ofChange Rows.fnExactCompareKeysSpec) :=
  OpenClaim.holds_of_wide 6 Tryd.f6 rfl rfl rfl rfl rfl rfl rfl ⟨rfl, rfl, rfl, rfl, rfl⟩ rfl rfl rfl rfl rfl (by kernel_rfl) Tryd.func6 (by kernel_rfl)
    (of_decide_eq_true (by kernel_rfl)) (by unfold Func.isWrapper; first | (rw [if_pos (by decide +kernel)]; kernel_rfl) | (rw [if_neg (by decide +kernel)]; exact ⟨rfl, rfl⟩))
    (fun os started H enc _ => lifted os started H enc)
theorem card_holds : Rows.FnExactCompareKeysCardSaid :=
  Claim7.holds_tied_plain_at .later [] [.data, .pinned] true (true, "51e1c8b02c4b9c628f0335ad38502936e1a3792a419d7c59986f5be731bdf752") false over (fun _ h => by cases h) (by kernel_rfl) (fun _ h => by cases h) fnExactCompareKeys_row_tie rfl ⟨rfl, rfl⟩ (by kernel_rfl) rfl
    (fun f fn hf hfn => by
      obtain rfl : f = 6 := Option.some.inj ((show Tryd.prog.funcNamed "loop.example/g00150/laws.FnExactCompareKeys" = some 6 by kernel_rfl).symm.trans hf) |>.symm
      obtain rfl : fn = Tryd.f6 := (Option.some.inj (Tryd.func6.symm.trans hfn)).symm
      exact ⟨by kernel_rfl, fun j t ht => by
        rw [Tryd.params6] at ht
        have hm : t ∈ [24, 24] := by simpa using Array.mem_of_getElem? ht
        have hall : ([24, 24].all fun u => !Tryd.prog.wantsStandIn u) = true := by kernel_rfl
        exact (show Tryd.prog.wantsStandIn t = false by simpa using List.all_eq_true.1 hall t hm)⟩)
    (by kernel_rfl)
theorem proved : Rows.FnExactCompareKeysCardSaid := card_holds
#print axioms proved
end Go.Proofs.YtohmoigiggmmnaaDoor.fnExactCompareKeys
namespace Go.Proofs.YtohmoigiggmmnaaDoor
/-- The row, under a short name, for the claim. -/
theorem fnExactCompareKeys_holds : Rows.FnExactCompareKeysCardSaid := fnExactCompareKeys.proved
end Go.Proofs.YtohmoigiggmmnaaDoor
