-- Written for this claim by a program of this session: a scratch copy of the kit's print with patches of this session.
import Derived.Test.YthkimdibhlkpbaaPFnExactOverlapx0
import Derived.Test.YthkimdibhlkpbaaPFnExactOverlapx4
namespace Go.Proofs.Ythkimdibhlkpbaa.PFnExactOverlap
open Go.RowKit Go.Proofs.YthkimdibhlkpbaaW.PrintWords Go.Proofs.YthkimdibhlkpbaaW.PrintLast Go.Proofs.YthkimdibhlkpbaaW.PrintMore
attribute [local go_sem] max2_int min2_int max_two min_two max_three min_three max_four min_four hw_string_geq hw_string_gtr hw_string_leq   -- for this text's walks alone
set_option linter.unusedVariables false
set_option linter.unusedSimpArgs false

/-! ### spec_GoodEntries: function 15 -/
mutual
def spec_GoodEntries.l0 : Nat → List (S51) → List Int → List (S51) → Int → Int → Option (Bool)
  | 0, _, _, _, _, _ => none
  | k + 1, x0, x3, x10, x11, x12 => if x12 < x11 then (if 0 ≤ x12 then (if x12 < (x10.length : Int) then ((spec_GoodEntry.f k ((rd_T51 x10 x12).f0) ((rd_T51 x10 x12).f1) ((rd_T51 x10 x12).f2) ((rd_T51 x10 x12).f3.f0) ((rd_T51 x10 x12).f3.f1) ((rd_T51 x10 x12).f3.f2) ((rd_T51 x10 x12).f3.f3) ((rd_T51 x10 x12).f3.f4) ((rd_T51 x10 x12).f3.f5)).bind fun t174 => (if t174 = true then (if x12 > 0 then (if 0 ≤ (wrap64 (x12 - 1)) then (if (wrap64 (x12 - 1)) < (x0.length : Int) then ((spec_l5Before.f ((rd_T51 x0 (wrap64 (x12 - 1))).f0) ((rd_T51 x0 (wrap64 (x12 - 1))).f1) ((rd_T51 x0 (wrap64 (x12 - 1))).f2) ((rd_T51 x0 (wrap64 (x12 - 1))).f3.f0) ((rd_T51 x0 (wrap64 (x12 - 1))).f3.f1) ((rd_T51 x0 (wrap64 (x12 - 1))).f3.f2) ((rd_T51 x0 (wrap64 (x12 - 1))).f3.f3) ((rd_T51 x0 (wrap64 (x12 - 1))).f3.f4) ((rd_T51 x0 (wrap64 (x12 - 1))).f3.f5) ((rd_T51 x10 x12).f0) ((rd_T51 x10 x12).f1) ((rd_T51 x10 x12).f2) ((rd_T51 x10 x12).f3.f0) ((rd_T51 x10 x12).f3.f1) ((rd_T51 x10 x12).f3.f2) ((rd_T51 x10 x12).f3.f3) ((rd_T51 x10 x12).f3.f4) ((rd_T51 x10 x12).f3.f5)).bind fun t176 => (if t176 = true then (if x3.length < 17592186044416 then (spec_GoodEntries.l0 k x0 (x3 ++ [(rd_T51 x10 x12).f1]) x10 x11 (wrap64 (x12 + 1))) else (none)) else (some false))) else (none)) else (none)) else (if x3.length < 17592186044416 then (spec_GoodEntries.l0 k x0 (x3 ++ [(rd_T51 x10 x12).f1]) x10 x11 (wrap64 (x12 + 1))) else (none))) else (some false))) else (none)) else (none)) else (spec_GoodEntries.l1 k x3 x3 (x3.length : Int) 0)
def spec_GoodEntries.l1 : Nat → List Int → List Int → Int → Int → Option (Bool)
  | 0, _, _, _, _ => none
  | k + 1, x3, x40, x41, x42 => if x42 < x41 then (if 0 ≤ x42 then (if x42 < (x40.length : Int) then (if x42 ≤ (x3.length : Int) then ((some (x3.take (x42 : Int).toNat : List Int)).bind fun y184 => (spec_GoodEntries.l2 k x3 (rd x40 x42) x40 x41 x42 y184 (y184.length : Int) 0)) else (none)) else (none)) else (none)) else (some true)
def spec_GoodEntries.l2 : Nat → List Int → Int → List Int → Int → Int → List Int → Int → Int → Option (Bool)
  | 0, _, _, _, _, _, _, _, _ => none
  | k + 1, x3, x7, x40, x41, x42, x49, x50, x51 => if x51 < x50 then (if 0 ≤ x51 then (if x51 < (x49.length : Int) then (if (rd x49 x51) = x7 then (some false) else (spec_GoodEntries.l2 k x3 x7 x40 x41 x42 x49 x50 (wrap64 (x51 + 1)))) else (none)) else (none)) else (spec_GoodEntries.l1 k x3 x40 x41 (wrap64 (x42 + 1)))
end
def spec_GoodEntries.f (k : Nat) (l0 : List (S51)) : Option (Bool) := spec_GoodEntries.l0 k l0 ([] : List Int) l0 (l0.length : Int) 0
theorem spec_GoodEntries.mono_l : ∀ k, (∀ y0 y1 y2 y3 y4, LeO (spec_GoodEntries.l0 k y0 y1 y2 y3 y4) (spec_GoodEntries.l0 (k + 1) y0 y1 y2 y3 y4)) ∧ (∀ y0 y1 y2 y3, LeO (spec_GoodEntries.l1 k y0 y1 y2 y3) (spec_GoodEntries.l1 (k + 1) y0 y1 y2 y3)) ∧ (∀ y0 y1 y2 y3 y4 y5 y6 y7, LeO (spec_GoodEntries.l2 k y0 y1 y2 y3 y4 y5 y6 y7) (spec_GoodEntries.l2 (k + 1) y0 y1 y2 y3 y4 y5 y6 y7))
  | 0 => ⟨fun _ _ _ _ _ r h => by simp [spec_GoodEntries.l0] at h, fun _ _ _ _ r h => by simp [spec_GoodEntries.l1] at h, fun _ _ _ _ _ _ _ _ r h => by simp [spec_GoodEntries.l2] at h⟩
  | k + 1 => by
    obtain ⟨ih0, ih1, ih2⟩ := spec_GoodEntries.mono_l k
    refine ⟨?_, ?_, ?_⟩
    · intro y0 y1 y2 y3 y4
      unfold spec_GoodEntries.l0
      repeat' first
      | (with_reducible exact ih0 _ _ _ _ _)
      | (with_reducible exact ih1 _ _ _ _)
      | (with_reducible exact ih2 _ _ _ _ _ _ _ _)
      | (with_reducible exact spec_GoodEntry.mono _ _ _ _ _ _ _ _ _ _)
      | (with_reducible exact LeO.refl _)
      | (with_reducible exact LeO.none _)
      | (with_reducible refine LeO.ite ?_ ?_)
      | (with_reducible refine LeO.bind ?_ (fun _ => ?_))
      | exact ih0 _ _ _ _ _
      | exact ih1 _ _ _ _
      | exact ih2 _ _ _ _ _ _ _ _
      | exact spec_GoodEntry.mono _ _ _ _ _ _ _ _ _ _
      | exact LeO.none _
      | refine LeO.ite ?_ ?_
      | refine LeO.bind ?_ (fun _ => ?_)
    · intro y0 y1 y2 y3
      unfold spec_GoodEntries.l1
      repeat' first
      | (with_reducible exact ih0 _ _ _ _ _)
      | (with_reducible exact ih1 _ _ _ _)
      | (with_reducible exact ih2 _ _ _ _ _ _ _ _)
      | (with_reducible exact spec_GoodEntry.mono _ _ _ _ _ _ _ _ _ _)
      | (with_reducible exact LeO.refl _)
      | (with_reducible exact LeO.none _)
      | (with_reducible refine LeO.ite ?_ ?_)
      | (with_reducible refine LeO.bind ?_ (fun _ => ?_))
      | exact ih0 _ _ _ _ _
      | exact ih1 _ _ _ _
      | exact ih2 _ _ _ _ _ _ _ _
      | exact spec_GoodEntry.mono _ _ _ _ _ _ _ _ _ _
      | exact LeO.none _
      | refine LeO.ite ?_ ?_
      | refine LeO.bind ?_ (fun _ => ?_)
    · intro y0 y1 y2 y3 y4 y5 y6 y7
      unfold spec_GoodEntries.l2
      repeat' first
      | (with_reducible exact ih0 _ _ _ _ _)
      | (with_reducible exact ih1 _ _ _ _)
      | (with_reducible exact ih2 _ _ _ _ _ _ _ _)
      | (with_reducible exact spec_GoodEntry.mono _ _ _ _ _ _ _ _ _ _)
      | (with_reducible exact LeO.refl _)
      | (with_reducible exact LeO.none _)
      | (with_reducible refine LeO.ite ?_ ?_)
      | (with_reducible refine LeO.bind ?_ (fun _ => ?_))
      | exact ih0 _ _ _ _ _
      | exact ih1 _ _ _ _
      | exact ih2 _ _ _ _ _ _ _ _
      | exact spec_GoodEntry.mono _ _ _ _ _ _ _ _ _ _
      | exact LeO.none _
      | refine LeO.ite ?_ ?_
      | refine LeO.bind ?_ (fun _ => ?_)
theorem spec_GoodEntries.mono : ∀ a0 k, LeO (spec_GoodEntries.f k a0) (spec_GoodEntries.f (k + 1) a0) := by
  intro a0 k
  obtain ⟨ih0, ih1, ih2⟩ := spec_GoodEntries.mono_l k
  unfold spec_GoodEntries.f
  repeat' first
      | (with_reducible exact ih0 _ _ _ _ _)
      | (with_reducible exact ih1 _ _ _ _)
      | (with_reducible exact ih2 _ _ _ _ _ _ _ _)
      | (with_reducible exact spec_GoodEntry.mono _ _ _ _ _ _ _ _ _ _)
      | (with_reducible exact LeO.refl _)
      | (with_reducible exact LeO.none _)
      | (with_reducible refine LeO.ite ?_ ?_)
      | (with_reducible refine LeO.bind ?_ (fun _ => ?_))
      | exact ih0 _ _ _ _ _
      | exact ih1 _ _ _ _
      | exact ih2 _ _ _ _ _ _ _ _
      | exact spec_GoodEntry.mono _ _ _ _ _ _ _ _ _ _
      | exact LeO.none _
      | refine LeO.ite ?_ ?_
      | refine LeO.bind ?_ (fun _ => ?_)
def spec_GoodEntries.T5 : Bool × List (List Nat × List Nat) := (true, [([], []), ([0], [0]), ([1], [1]), ([2, 1], [2]), ([3], [3]), ([4, 3], [3, 4]), ([5, 3, 3], [3, 5]), ([6], [6]), ([6], [6]), ([8, 6], [6, 8]), ([7, 9, 6], [6, 7, 9]), ([10, 6], [6, 10]), ([6], [6]), ([11, 12, 6, 6], [6, 11, 12]), ([13, 6], [6, 13]), ([6, 14, 3], [3, 6, 14]), ([3, 15], [3, 15])])
def spec_GoodEntries.B5 : List Nat := [0, 1, 3, 7, 15, 31, 63, 127, 127, 383, 1023, 2047, 127, 8191, 16383, 32767, 65535]
theorem spec_GoodEntries.tab5 : rtab .any (opsOf Try.f15 5) = spec_GoodEntries.T5 := by kernel_rfl
theorem spec_GoodEntries.bits5 : waitsOk spec_GoodEntries.T5.2 spec_GoodEntries.B5 = true := by kernel_rfl
set_option maxHeartbeats 8000000 in
set_option maxRecDepth 100000 in
theorem spec_GoodEntries.calls (k : Nat) (A0 : Option Addr) (c0 : Nat) (l0 : List (S51)) (r : Bool) (w : World) (hr0 : Kd.C k51 w A0 l0.length l0) (hc0 : l0.length ≤ c0) (h : spec_GoodEntries.f k l0 = some r) :
    Calls Try.prog 15 #[.slice A0 l0.length c0] w fun e w' => e = .returned (.bool r) ∧ Below w.heap.size w w' := by
  have hu51 := Try.underlying51
  have HR0 := Aside0.mk hr0
  have HC0 := Aside0.mk hc0
  clear hr0 hc0
  have HB := Aside0.mk (Below.refl w.heap.size w)
  have H : (spec_GoodEntries.l0 k l0 ([] : List Int) l0 (l0.length : Int) 0) = some r := h
  clear h
  have H' := Aside0.mk H
  clear H
  go_enter Try.func15, Try.ntmps15
  go_wp2
  go_loopg [3, 12] k (fun kq v3 v12 w' => ∃ (x3_1 : List Int) (x12_1 : Int), v12 = .int .i64 x12_1 ∧ Aside0 (spec_GoodEntries.l0 kq l0 x3_1 l0 (l0.length : Int) x12_1 = some r) ∧ Aside0 (kq ≤ k) ∧ Aside0 (Kd.R (Kd.int .i64) 3 w' w.heap.size (fun _ => True) v3 x3_1) ∧ Aside0 (Below w.heap.size w w'))
  case atStart => exact ⟨(([] : List Int)), (0), (by first | rfl | (simp; done) | (simp [*]; done)), H', ⟨Nat.le_refl _⟩, ⟨by first | exact Kd.R_nil _ _ _ _ _ | exact Kd.N_nil _ _ _ _ _ | exact Kd.V_nil _ _ _ _ _ | exact Kd.Q_nil _ _ _ _ _ | exact Kd.S_nil _ _ _ _ _⟩, ⟨by repeat (first | (with_reducible first | exact HB.out | apply below_alloc | apply pw_below_drewN | apply below_drew1) | exact HB.out)⟩⟩
  case round =>
    clear H'
    try clear c1
    obtain ⟨x3_1, x12_1, rfl, HA, HK1, HO_3, HB⟩ := hrel
    cases gk with
    | zero => exact absurd HA.out (by simp [spec_GoodEntries.l0])
    | succ k1 =>
      have H := HA.out
      clear HA
      simp only [spec_GoodEntries.l0] at H
      by_cases c2 : x12_1 < (l0.length : Int)
      · rw [if_pos c2] at H
        have c2b0 : decide (x12_1 < (l0.length : Int)) = true := decide_eq_true c2
        clear c2
        by_cases c3 : 0 ≤ x12_1
        · rw [if_pos c3] at H
          have c3b0 : decide (0 ≤ x12_1) = true := decide_eq_true c3
          clear c3
          by_cases c4 : x12_1 < (l0.length : Int)
          · rw [if_pos c4] at H
            have c4b0 : decide (x12_1 < (l0.length : Int)) = true := decide_eq_true c4
            clear c4
            replace H := Option.bind_eq_some_iff.mp H
            obtain ⟨t174, A50, H⟩ := H
            replace H : (if t174 = true then (if x12_1 > 0 then (if 0 ≤ (wrap64 (x12_1 - 1)) then (if (wrap64 (x12_1 - 1)) < (l0.length : Int) then ((spec_l5Before.f ((rd_T51 l0 (wrap64 (x12_1 - 1))).f0) ((rd_T51 l0 (wrap64 (x12_1 - 1))).f1) ((rd_T51 l0 (wrap64 (x12_1 - 1))).f2) ((rd_T51 l0 (wrap64 (x12_1 - 1))).f3.f0) ((rd_T51 l0 (wrap64 (x12_1 - 1))).f3.f1) ((rd_T51 l0 (wrap64 (x12_1 - 1))).f3.f2) ((rd_T51 l0 (wrap64 (x12_1 - 1))).f3.f3) ((rd_T51 l0 (wrap64 (x12_1 - 1))).f3.f4) ((rd_T51 l0 (wrap64 (x12_1 - 1))).f3.f5) ((rd_T51 l0 x12_1).f0) ((rd_T51 l0 x12_1).f1) ((rd_T51 l0 x12_1).f2) ((rd_T51 l0 x12_1).f3.f0) ((rd_T51 l0 x12_1).f3.f1) ((rd_T51 l0 x12_1).f3.f2) ((rd_T51 l0 x12_1).f3.f3) ((rd_T51 l0 x12_1).f3.f4) ((rd_T51 l0 x12_1).f3.f5)).bind fun t176 => (if t176 = true then (if x3_1.length < 17592186044416 then (spec_GoodEntries.l0 k1 l0 (x3_1 ++ [(rd_T51 l0 x12_1).f1]) l0 (l0.length : Int) (wrap64 (x12_1 + 1))) else (none)) else (some false))) else (none)) else (none)) else (if x3_1.length < 17592186044416 then (spec_GoodEntries.l0 k1 l0 (x3_1 ++ [(rd_T51 l0 x12_1).f1]) l0 (l0.length : Int) (wrap64 (x12_1 + 1))) else (none))) else (some false)) = some r := H
            have A5 := Aside0.mk A50
            clear A50
            by_cases c6 : t174 = true
            · subst c6
              have H1 : (if x12_1 > 0 then (if 0 ≤ (wrap64 (x12_1 - 1)) then (if (wrap64 (x12_1 - 1)) < (l0.length : Int) then ((spec_l5Before.f ((rd_T51 l0 (wrap64 (x12_1 - 1))).f0) ((rd_T51 l0 (wrap64 (x12_1 - 1))).f1) ((rd_T51 l0 (wrap64 (x12_1 - 1))).f2) ((rd_T51 l0 (wrap64 (x12_1 - 1))).f3.f0) ((rd_T51 l0 (wrap64 (x12_1 - 1))).f3.f1) ((rd_T51 l0 (wrap64 (x12_1 - 1))).f3.f2) ((rd_T51 l0 (wrap64 (x12_1 - 1))).f3.f3) ((rd_T51 l0 (wrap64 (x12_1 - 1))).f3.f4) ((rd_T51 l0 (wrap64 (x12_1 - 1))).f3.f5) ((rd_T51 l0 x12_1).f0) ((rd_T51 l0 x12_1).f1) ((rd_T51 l0 x12_1).f2) ((rd_T51 l0 x12_1).f3.f0) ((rd_T51 l0 x12_1).f3.f1) ((rd_T51 l0 x12_1).f3.f2) ((rd_T51 l0 x12_1).f3.f3) ((rd_T51 l0 x12_1).f3.f4) ((rd_T51 l0 x12_1).f3.f5)).bind fun t176 => (if t176 = true then (if x3_1.length < 17592186044416 then (spec_GoodEntries.l0 k1 l0 (x3_1 ++ [(rd_T51 l0 x12_1).f1]) l0 (l0.length : Int) (wrap64 (x12_1 + 1))) else (none)) else (some false))) else (none)) else (none)) else (if x3_1.length < 17592186044416 then (spec_GoodEntries.l0 k1 l0 (x3_1 ++ [(rd_T51 l0 x12_1).f1]) l0 (l0.length : Int) (wrap64 (x12_1 + 1))) else (none))) = some r := by rw [if_pos rfl] at H; exact H
              clear H
              have H := H1
              clear H1
              by_cases c7 : x12_1 > 0
              · rw [if_pos c7] at H
                have c7b0 : decide (0 < x12_1) = true := decide_eq_true c7
                clear c7
                obtain ⟨ji8, hji8⟩ : ∃ j_ : Int, (wrap64 (x12_1 - 1)) = j_ := ⟨_, rfl⟩
                replace H : (if 0 ≤ (ji8) then (if (ji8) < (l0.length : Int) then ((spec_l5Before.f ((rd_T51 l0 (ji8)).f0) ((rd_T51 l0 (ji8)).f1) ((rd_T51 l0 (ji8)).f2) ((rd_T51 l0 (ji8)).f3.f0) ((rd_T51 l0 (ji8)).f3.f1) ((rd_T51 l0 (ji8)).f3.f2) ((rd_T51 l0 (ji8)).f3.f3) ((rd_T51 l0 (ji8)).f3.f4) ((rd_T51 l0 (ji8)).f3.f5) ((rd_T51 l0 x12_1).f0) ((rd_T51 l0 x12_1).f1) ((rd_T51 l0 x12_1).f2) ((rd_T51 l0 x12_1).f3.f0) ((rd_T51 l0 x12_1).f3.f1) ((rd_T51 l0 x12_1).f3.f2) ((rd_T51 l0 x12_1).f3.f3) ((rd_T51 l0 x12_1).f3.f4) ((rd_T51 l0 x12_1).f3.f5)).bind fun t176 => (if t176 = true then (if x3_1.length < 17592186044416 then (spec_GoodEntries.l0 k1 l0 (x3_1 ++ [(rd_T51 l0 x12_1).f1]) l0 (l0.length : Int) (wrap64 (x12_1 + 1))) else (none)) else (some false))) else (none)) else (none)) = some r := by first | (rw [hji8] at H; exact H) | (simp only [hji8] at H ⊢; exact H)
                (try rw [hji8] at A5)
                have hji8w : (IntKind.i64.wrap (x12_1 - 1)) = ji8 := (i64_w _).trans hji8
                by_cases c9 : 0 ≤ (ji8)
                · rw [if_pos c9] at H
                  have c9b0 : decide (0 ≤ (ji8)) = true := decide_eq_true c9
                  clear c9
                  by_cases c10 : (ji8) < (l0.length : Int)
                  · rw [if_pos c10] at H
                    have c10b0 : decide ((ji8) < (l0.length : Int)) = true := decide_eq_true c10
                    clear c10
                    replace H := Option.bind_eq_some_iff.mp H
                    obtain ⟨t176, A110, H⟩ := H
                    replace H : (if t176 = true then (if x3_1.length < 17592186044416 then (spec_GoodEntries.l0 k1 l0 (x3_1 ++ [(rd_T51 l0 x12_1).f1]) l0 (l0.length : Int) (wrap64 (x12_1 + 1))) else (none)) else (some false)) = some r := H
                    have A11 := Aside0.mk A110
                    clear A110
                    by_cases c12 : t176 = true
                    · subst c12
                      have H1 : (if x3_1.length < 17592186044416 then (spec_GoodEntries.l0 k1 l0 (x3_1 ++ [(rd_T51 l0 x12_1).f1]) l0 (l0.length : Int) (wrap64 (x12_1 + 1))) else (none)) = some r := by rw [if_pos rfl] at H; exact H
                      clear H
                      have H := H1
                      clear H1
                      by_cases c13 : x3_1.length < 17592186044416
                      · rw [if_pos c13] at H
                        have LMc13 := Aside0.mk c13
                        clear c13
                        obtain ⟨y177, hy177⟩ : ∃ y_ : List Int, y_ = (x3_1 ++ [(rd_T51 l0 x12_1).f1]) := ⟨_, rfl⟩
                        replace H : (spec_GoodEntries.l0 k1 l0 y177 l0 (l0.length : Int) (wrap64 (x12_1 + 1))) = some r := by first | (rw [hy177]; with_reducible exact H) | (have H2_ := (Option.bind_some _ _).symm.trans H; rw [hy177]; with_reducible exact H2_) | (have H2_ := (Option.bind_some _ _).symm.trans H; with_reducible exact H2_) | with_reducible exact H | (rw [hy177]; exact H) | exact H
                        have Ny177 := Aside0.mk hy177
                        clear hy177
                        have H' := Aside0.mk H
                        clear H
                        have p172 : 0 ≤ (x12_1 : Int) := of_decide_eq_true (by first | (with_reducible assumption) | assumption)
                        have q172 : x12_1 < (l0.length : Int) := of_decide_eq_true (by first | (with_reducible assumption) | assumption)
                        obtain ⟨ad172, A172_7, c172_7, e172, hx172_0, hx172_1, hx172_2, hx172_3, hx172_4, hx172_5, hx172_6, hx172_7, hx172_8, hl172_7, hi172_7⟩ := at_T51 HR0.out x12_1 p172 q172
                        cases e172
                        try (replace hx172_0 := (HB.out.cell (World.block_lt_of_cell? w _ hx172_0)).trans hx172_0)
                        try (replace hx172_1 := (HB.out.cell (World.block_lt_of_cell? w _ hx172_1)).trans hx172_1)
                        try (replace hx172_2 := (HB.out.cell (World.block_lt_of_cell? w _ hx172_2)).trans hx172_2)
                        try (replace hx172_3 := (HB.out.cell (World.block_lt_of_cell? w _ hx172_3)).trans hx172_3)
                        try (replace hx172_4 := (HB.out.cell (World.block_lt_of_cell? w _ hx172_4)).trans hx172_4)
                        try (replace hx172_5 := (HB.out.cell (World.block_lt_of_cell? w _ hx172_5)).trans hx172_5)
                        try (replace hx172_6 := (HB.out.cell (World.block_lt_of_cell? w _ hx172_6)).trans hx172_6)
                        try (replace hx172_7 := (HB.out.cell (World.block_lt_of_cell? w _ hx172_7)).trans hx172_7)
                        try (replace hx172_8 := (HB.out.cell (World.block_lt_of_cell? w _ hx172_8)).trans hx172_8)
                        have HR172_7 := Aside0.mk hi172_7
                        have HC172_7 := Aside0.mk hl172_7
                        clear hi172_7 hl172_7
                        replace p172 := eq_true p172
                        replace q172 := eq_true q172
                        try go_wp2_with (first | ((with_reducible refine gate_dst (N := 5) rfl ?_); refine box_event ?hg (N := 5) ?hd (cs := #[.string (⟨#[]⟩ : ByteArray), .int .i64 0, .int .i64 0, .int .i64 0, .int .i64 0, .int .i64 0, .int .i64 0, .slice none 0 0, .bool false]) (t := 51) ?hr ?_; (case hd => rfl); (case hg => rfl); (case hr => first | (go_simp; done) | (go_simp; rfl)); intro gb173 hg w14 hbox hb; have n0_ := Aside0.mk (Kd.R_below (by (with_reducible repeat (first | apply Kd.R_alloc | apply Kd.R_drewN | apply Kd.R_drew)); exact HO_3.out) hb); have n1_ := Aside0.mk (below_step (by repeat (first | (with_reducible first | exact HB.out | apply below_alloc | apply pw_below_drewN | apply below_drew1) | exact HB.out)) hb); have n2_ := Aside0.mk (hbox); have n3_ := Aside0.mk ((by rw [hg]; exact (below_size (by repeat (first | (with_reducible first | exact HB.out | apply below_alloc | apply pw_below_drewN | apply below_drew1) | exact HB.out))) : w.heap.size ≤ gb173)); have n4_ := Aside0.mk ((by rw [hg]; exact (below_size (by repeat (first | (with_reducible first | exact HB.out | apply below_alloc | apply pw_below_drewN | apply below_drew1) | exact HB.out))) : w.heap.size ≤ gb173)); clear HO_3; clear HB; have HO_3 := n0_; have HB := n1_; have BK173 := n2_; have GW173 := n3_; have GE173 := n4_; clear n0_ n1_ n2_ n3_ n4_; clear hb hbox hg; have hcz15_0 : w14.cell? ⟨gb173, 0, none⟩ = some (.string (⟨#[]⟩ : ByteArray)) := (blk_cell BK173.out 0).trans rfl; have hcz15_1 : w14.cell? ⟨gb173, 1, none⟩ = some (.int .i64 0) := (blk_cell BK173.out 1).trans rfl; have hcz15_2 : w14.cell? ⟨gb173, 2, none⟩ = some (.int .i64 0) := (blk_cell BK173.out 2).trans rfl; have hcz15_3 : w14.cell? ⟨gb173, 3, none⟩ = some (.int .i64 0) := (blk_cell BK173.out 3).trans rfl; have hcz15_4 : w14.cell? ⟨gb173, 4, none⟩ = some (.int .i64 0) := (blk_cell BK173.out 4).trans rfl; have hcz15_5 : w14.cell? ⟨gb173, 5, none⟩ = some (.int .i64 0) := (blk_cell BK173.out 5).trans rfl; have hcz15_6 : w14.cell? ⟨gb173, 6, none⟩ = some (.int .i64 0) := (blk_cell BK173.out 6).trans rfl; have hcz15_7 : w14.cell? ⟨gb173, 7, none⟩ = some (.slice none 0 0) := (blk_cell BK173.out 7).trans rfl; have hcz15_8 : w14.cell? ⟨gb173, 8, none⟩ = some (.bool false) := (blk_cell BK173.out 8).trans rfl; have hfz15_0 := blk_frozen BK173.out 0; have hfz15_1 := blk_frozen BK173.out 1; have hfz15_2 := blk_frozen BK173.out 2; have hfz15_3 := blk_frozen BK173.out 3; have hfz15_4 := blk_frozen BK173.out 4; have hfz15_5 := blk_frozen BK173.out 5; have hfz15_6 := blk_frozen BK173.out 6; have hfz15_7 := blk_frozen BK173.out 7; have hfz15_8 := blk_frozen BK173.out 8))
                        have n0_ : Aside0 (Kd.R (Kd.int .i64) 3 (((((((((w14.setCell ⟨gb173, 0, none⟩ (.string ((rd_T51 l0 x12_1).f0))).setCell ⟨gb173, 1, none⟩ (.int .i64 ((rd_T51 l0 x12_1).f1))).setCell ⟨gb173, 2, none⟩ (.int .i64 ((rd_T51 l0 x12_1).f2))).setCell ⟨gb173, 3, none⟩ (.int .i64 ((rd_T51 l0 x12_1).f3.f0))).setCell ⟨gb173, 4, none⟩ (.int .i64 ((rd_T51 l0 x12_1).f3.f1))).setCell ⟨gb173, 5, none⟩ (.int .i64 ((rd_T51 l0 x12_1).f3.f2))).setCell ⟨gb173, 6, none⟩ (.int .i64 ((rd_T51 l0 x12_1).f3.f3))).setCell ⟨gb173, 7, none⟩ (.slice A172_7 ((rd_T51 l0 x12_1).f3.f4).length c172_7)).setCell ⟨gb173, 8, none⟩ (.bool ((rd_T51 l0 x12_1).f3.f5))) w.heap.size (fun _ => True) u3 x3_1) := ⟨by (with_reducible repeat (first | apply Kd.R_alloc | apply Kd.R_drewN | apply Kd.R_drew)); exact Kd.R_mono (Kd.R_far (p := ⟨gb173, 8, none⟩) (Kd.R_far (p := ⟨gb173, 7, none⟩) (Kd.R_far (p := ⟨gb173, 6, none⟩) (Kd.R_far (p := ⟨gb173, 5, none⟩) (Kd.R_far (p := ⟨gb173, 4, none⟩) (Kd.R_far (p := ⟨gb173, 3, none⟩) (Kd.R_far (p := ⟨gb173, 2, none⟩) (Kd.R_far (p := ⟨gb173, 1, none⟩) (Kd.R_far (p := ⟨gb173, 0, none⟩) (Kd.R_types HO_3.out BK173.out (by decide)) (fun _ hk => hk.2) (.string ((rd_T51 l0 x12_1).f0))) (fun _ hk => hk.2) (.int .i64 ((rd_T51 l0 x12_1).f1))) (fun _ hk => hk.2) (.int .i64 ((rd_T51 l0 x12_1).f2))) (fun _ hk => hk.2) (.int .i64 ((rd_T51 l0 x12_1).f3.f0))) (fun _ hk => hk.2) (.int .i64 ((rd_T51 l0 x12_1).f3.f1))) (fun _ hk => hk.2) (.int .i64 ((rd_T51 l0 x12_1).f3.f2))) (fun _ hk => hk.2) (.int .i64 ((rd_T51 l0 x12_1).f3.f3))) (fun _ hk => hk.2) (.slice A172_7 ((rd_T51 l0 x12_1).f3.f4).length c172_7)) (fun _ hk => hk.2) (.bool ((rd_T51 l0 x12_1).f3.f5))) (fun _ hk => trivial)⟩
                        have n1_ : Aside0 ((((((((((w14.setCell ⟨gb173, 0, none⟩ (.string ((rd_T51 l0 x12_1).f0))).setCell ⟨gb173, 1, none⟩ (.int .i64 ((rd_T51 l0 x12_1).f1))).setCell ⟨gb173, 2, none⟩ (.int .i64 ((rd_T51 l0 x12_1).f2))).setCell ⟨gb173, 3, none⟩ (.int .i64 ((rd_T51 l0 x12_1).f3.f0))).setCell ⟨gb173, 4, none⟩ (.int .i64 ((rd_T51 l0 x12_1).f3.f1))).setCell ⟨gb173, 5, none⟩ (.int .i64 ((rd_T51 l0 x12_1).f3.f2))).setCell ⟨gb173, 6, none⟩ (.int .i64 ((rd_T51 l0 x12_1).f3.f3))).setCell ⟨gb173, 7, none⟩ (.slice A172_7 ((rd_T51 l0 x12_1).f3.f4).length c172_7)).setCell ⟨gb173, 8, none⟩ (.bool ((rd_T51 l0 x12_1).f3.f5))).heap[gb173]? = some (.cells #[.string ((rd_T51 l0 x12_1).f0), .int .i64 ((rd_T51 l0 x12_1).f1), .int .i64 ((rd_T51 l0 x12_1).f2), .int .i64 ((rd_T51 l0 x12_1).f3.f0), .int .i64 ((rd_T51 l0 x12_1).f3.f1), .int .i64 ((rd_T51 l0 x12_1).f3.f2), .int .i64 ((rd_T51 l0 x12_1).f3.f3), .slice A172_7 ((rd_T51 l0 x12_1).f3.f4).length c172_7, .bool ((rd_T51 l0 x12_1).f3.f5)] 51 (0, 0))) := ⟨by (with_reducible repeat (first | refine blk_drewN ?_ _ | refine blk_drew ?_ | refine blk_alloc ?_ _)); refine blk_put (cs := #[.string ((rd_T51 l0 x12_1).f0), .int .i64 ((rd_T51 l0 x12_1).f1), .int .i64 ((rd_T51 l0 x12_1).f2), .int .i64 ((rd_T51 l0 x12_1).f3.f0), .int .i64 ((rd_T51 l0 x12_1).f3.f1), .int .i64 ((rd_T51 l0 x12_1).f3.f2), .int .i64 ((rd_T51 l0 x12_1).f3.f3), .slice A172_7 ((rd_T51 l0 x12_1).f3.f4).length c172_7, .bool false]) ?_ 8 _ rfl; (with_reducible repeat (first | refine blk_drewN ?_ _ | refine blk_drew ?_ | refine blk_alloc ?_ _)); refine blk_put (cs := #[.string ((rd_T51 l0 x12_1).f0), .int .i64 ((rd_T51 l0 x12_1).f1), .int .i64 ((rd_T51 l0 x12_1).f2), .int .i64 ((rd_T51 l0 x12_1).f3.f0), .int .i64 ((rd_T51 l0 x12_1).f3.f1), .int .i64 ((rd_T51 l0 x12_1).f3.f2), .int .i64 ((rd_T51 l0 x12_1).f3.f3), .slice none 0 0, .bool false]) ?_ 7 _ rfl; (with_reducible repeat (first | refine blk_drewN ?_ _ | refine blk_drew ?_ | refine blk_alloc ?_ _)); refine blk_put (cs := #[.string ((rd_T51 l0 x12_1).f0), .int .i64 ((rd_T51 l0 x12_1).f1), .int .i64 ((rd_T51 l0 x12_1).f2), .int .i64 ((rd_T51 l0 x12_1).f3.f0), .int .i64 ((rd_T51 l0 x12_1).f3.f1), .int .i64 ((rd_T51 l0 x12_1).f3.f2), .int .i64 0, .slice none 0 0, .bool false]) ?_ 6 _ rfl; (with_reducible repeat (first | refine blk_drewN ?_ _ | refine blk_drew ?_ | refine blk_alloc ?_ _)); refine blk_put (cs := #[.string ((rd_T51 l0 x12_1).f0), .int .i64 ((rd_T51 l0 x12_1).f1), .int .i64 ((rd_T51 l0 x12_1).f2), .int .i64 ((rd_T51 l0 x12_1).f3.f0), .int .i64 ((rd_T51 l0 x12_1).f3.f1), .int .i64 0, .int .i64 0, .slice none 0 0, .bool false]) ?_ 5 _ rfl; (with_reducible repeat (first | refine blk_drewN ?_ _ | refine blk_drew ?_ | refine blk_alloc ?_ _)); refine blk_put (cs := #[.string ((rd_T51 l0 x12_1).f0), .int .i64 ((rd_T51 l0 x12_1).f1), .int .i64 ((rd_T51 l0 x12_1).f2), .int .i64 ((rd_T51 l0 x12_1).f3.f0), .int .i64 0, .int .i64 0, .int .i64 0, .slice none 0 0, .bool false]) ?_ 4 _ rfl; (with_reducible repeat (first | refine blk_drewN ?_ _ | refine blk_drew ?_ | refine blk_alloc ?_ _)); refine blk_put (cs := #[.string ((rd_T51 l0 x12_1).f0), .int .i64 ((rd_T51 l0 x12_1).f1), .int .i64 ((rd_T51 l0 x12_1).f2), .int .i64 0, .int .i64 0, .int .i64 0, .int .i64 0, .slice none 0 0, .bool false]) ?_ 3 _ rfl; (with_reducible repeat (first | refine blk_drewN ?_ _ | refine blk_drew ?_ | refine blk_alloc ?_ _)); refine blk_put (cs := #[.string ((rd_T51 l0 x12_1).f0), .int .i64 ((rd_T51 l0 x12_1).f1), .int .i64 0, .int .i64 0, .int .i64 0, .int .i64 0, .int .i64 0, .slice none 0 0, .bool false]) ?_ 2 _ rfl; (with_reducible repeat (first | refine blk_drewN ?_ _ | refine blk_drew ?_ | refine blk_alloc ?_ _)); refine blk_put (cs := #[.string ((rd_T51 l0 x12_1).f0), .int .i64 0, .int .i64 0, .int .i64 0, .int .i64 0, .int .i64 0, .int .i64 0, .slice none 0 0, .bool false]) ?_ 1 _ rfl; (with_reducible repeat (first | refine blk_drewN ?_ _ | refine blk_drew ?_ | refine blk_alloc ?_ _)); refine blk_put (cs := #[.string (⟨#[]⟩ : ByteArray), .int .i64 0, .int .i64 0, .int .i64 0, .int .i64 0, .int .i64 0, .int .i64 0, .slice none 0 0, .bool false]) ?_ 0 _ rfl; (with_reducible repeat (first | refine blk_drewN ?_ _ | refine blk_drew ?_ | refine blk_alloc ?_ _)); exact BK173.out⟩
                        have n2_ : Aside0 (Below w.heap.size w (((((((((w14.setCell ⟨gb173, 0, none⟩ (.string ((rd_T51 l0 x12_1).f0))).setCell ⟨gb173, 1, none⟩ (.int .i64 ((rd_T51 l0 x12_1).f1))).setCell ⟨gb173, 2, none⟩ (.int .i64 ((rd_T51 l0 x12_1).f2))).setCell ⟨gb173, 3, none⟩ (.int .i64 ((rd_T51 l0 x12_1).f3.f0))).setCell ⟨gb173, 4, none⟩ (.int .i64 ((rd_T51 l0 x12_1).f3.f1))).setCell ⟨gb173, 5, none⟩ (.int .i64 ((rd_T51 l0 x12_1).f3.f2))).setCell ⟨gb173, 6, none⟩ (.int .i64 ((rd_T51 l0 x12_1).f3.f3))).setCell ⟨gb173, 7, none⟩ (.slice A172_7 ((rd_T51 l0 x12_1).f3.f4).length c172_7)).setCell ⟨gb173, 8, none⟩ (.bool ((rd_T51 l0 x12_1).f3.f5)))) := ⟨by repeat (first | (with_reducible first | exact HB.out | apply below_alloc | apply pw_below_drewN | apply below_drew1 | refine below_set ?_ GE173.out) | exact HB.out)⟩
                        (try clear HO_3)
                        (try clear BK173)
                        (try clear HB)
                        generalize (((((((((w14.setCell ⟨gb173, 0, none⟩ (.string ((rd_T51 l0 x12_1).f0))).setCell ⟨gb173, 1, none⟩ (.int .i64 ((rd_T51 l0 x12_1).f1))).setCell ⟨gb173, 2, none⟩ (.int .i64 ((rd_T51 l0 x12_1).f2))).setCell ⟨gb173, 3, none⟩ (.int .i64 ((rd_T51 l0 x12_1).f3.f0))).setCell ⟨gb173, 4, none⟩ (.int .i64 ((rd_T51 l0 x12_1).f3.f1))).setCell ⟨gb173, 5, none⟩ (.int .i64 ((rd_T51 l0 x12_1).f3.f2))).setCell ⟨gb173, 6, none⟩ (.int .i64 ((rd_T51 l0 x12_1).f3.f3))).setCell ⟨gb173, 7, none⟩ (.slice A172_7 ((rd_T51 l0 x12_1).f3.f4).length c172_7)).setCell ⟨gb173, 8, none⟩ (.bool ((rd_T51 l0 x12_1).f3.f5))) = w16 at n0_ n1_ n2_ ⊢
                        have HO_3 := n0_
                        have BK173 := n1_
                        have HB := n2_
                        clear n0_ n1_ n2_
                        have n0_ := Aside0.mk (Kd.R_drew HO_3.out)
                        have n1_ := Aside0.mk (blk_drew BK173.out)
                        have n2_ := Aside0.mk (below_drew1 HB.out)
                        clear HO_3
                        clear BK173
                        clear HB
                        have HO_3 := n0_
                        have BK173 := n1_
                        have HB := n2_
                        clear n0_ n1_ n2_
                        have p175 : 0 ≤ ((ji8) : Int) := of_decide_eq_true (by first | (with_reducible assumption) | assumption)
                        have q175 : (ji8) < (l0.length : Int) := of_decide_eq_true (by first | (with_reducible assumption) | assumption)
                        obtain ⟨ad175, A175_7, c175_7, e175, hx175_0, hx175_1, hx175_2, hx175_3, hx175_4, hx175_5, hx175_6, hx175_7, hx175_8, hl175_7, hi175_7⟩ := at_T51 HR0.out (ji8) p175 q175
                        have hw175_8 := hx175_8
                        have hw175_7 := hx175_7
                        have hw175_6 := hx175_6
                        have hw175_5 := hx175_5
                        have hw175_4 := hx175_4
                        have hw175_3 := hx175_3
                        have hw175_2 := hx175_2
                        have hw175_1 := hx175_1
                        have hw175_0 := hx175_0
                        obtain rfl : ad172 = ad175 := (by injection e175)
                        try (replace hx175_0 := (HB.out.cell (World.block_lt_of_cell? w _ hx175_0)).trans hx175_0)
                        try (replace hx175_1 := (HB.out.cell (World.block_lt_of_cell? w _ hx175_1)).trans hx175_1)
                        try (replace hx175_2 := (HB.out.cell (World.block_lt_of_cell? w _ hx175_2)).trans hx175_2)
                        try (replace hx175_3 := (HB.out.cell (World.block_lt_of_cell? w _ hx175_3)).trans hx175_3)
                        try (replace hx175_4 := (HB.out.cell (World.block_lt_of_cell? w _ hx175_4)).trans hx175_4)
                        try (replace hx175_5 := (HB.out.cell (World.block_lt_of_cell? w _ hx175_5)).trans hx175_5)
                        try (replace hx175_6 := (HB.out.cell (World.block_lt_of_cell? w _ hx175_6)).trans hx175_6)
                        try (replace hx175_7 := (HB.out.cell (World.block_lt_of_cell? w _ hx175_7)).trans hx175_7)
                        try (replace hx175_8 := (HB.out.cell (World.block_lt_of_cell? w _ hx175_8)).trans hx175_8)
                        have HR175_7 := Aside0.mk hi175_7
                        have HC175_7 := Aside0.mk hl175_7
                        clear hi175_7 hl175_7
                        replace p175 := eq_true p175
                        replace q175 := eq_true q175
                        refine start_ (n := 17) (S := fun w' => w'.cell? ⟨gb173, 0, none⟩ = some (.string ((rd_T51 l0 x12_1).f0)) ∧ w'.cell? ⟨gb173, 1, none⟩ = some (.int .i64 ((rd_T51 l0 x12_1).f1)) ∧ w'.cell? ⟨gb173, 2, none⟩ = some (.int .i64 ((rd_T51 l0 x12_1).f2)) ∧ w'.cell? ⟨gb173, 3, none⟩ = some (.int .i64 ((rd_T51 l0 x12_1).f3.f0)) ∧ w'.cell? ⟨gb173, 4, none⟩ = some (.int .i64 ((rd_T51 l0 x12_1).f3.f1)) ∧ w'.cell? ⟨gb173, 5, none⟩ = some (.int .i64 ((rd_T51 l0 x12_1).f3.f2)) ∧ w'.cell? ⟨gb173, 6, none⟩ = some (.int .i64 ((rd_T51 l0 x12_1).f3.f3)) ∧ w'.cell? ⟨gb173, 7, none⟩ = some (.slice A172_7 ((rd_T51 l0 x12_1).f3.f4).length c172_7) ∧ w'.cell? ⟨gb173, 8, none⟩ = some (.bool ((rd_T51 l0 x12_1).f3.f5)) ∧ w'.cell? (ad172.add (((ji8)).toNat * 9)) = some (.string ((rd_T51 l0 (ji8)).f0)) ∧ w'.cell? ⟨(ad172.add (((ji8)).toNat * 9)).block, (ad172.add (((ji8)).toNat * 9)).off + 1, none⟩ = some (.int .i64 ((rd_T51 l0 (ji8)).f1)) ∧ w'.cell? ⟨(ad172.add (((ji8)).toNat * 9)).block, (ad172.add (((ji8)).toNat * 9)).off + 2, none⟩ = some (.int .i64 ((rd_T51 l0 (ji8)).f2)) ∧ w'.cell? ⟨(ad172.add (((ji8)).toNat * 9)).block, (ad172.add (((ji8)).toNat * 9)).off + 3, none⟩ = some (.int .i64 ((rd_T51 l0 (ji8)).f3.f0)) ∧ w'.cell? ⟨(ad172.add (((ji8)).toNat * 9)).block, (ad172.add (((ji8)).toNat * 9)).off + 4, none⟩ = some (.int .i64 ((rd_T51 l0 (ji8)).f3.f1)) ∧ w'.cell? ⟨(ad172.add (((ji8)).toNat * 9)).block, (ad172.add (((ji8)).toNat * 9)).off + 5, none⟩ = some (.int .i64 ((rd_T51 l0 (ji8)).f3.f2)) ∧ w'.cell? ⟨(ad172.add (((ji8)).toNat * 9)).block, (ad172.add (((ji8)).toNat * 9)).off + 6, none⟩ = some (.int .i64 ((rd_T51 l0 (ji8)).f3.f3)) ∧ w'.cell? ⟨(ad172.add (((ji8)).toNat * 9)).block, (ad172.add (((ji8)).toNat * 9)).off + 7, none⟩ = some (.slice A175_7 ((rd_T51 l0 (ji8)).f3.f4).length c175_7) ∧ w'.cell? ⟨(ad172.add (((ji8)).toNat * 9)).block, (ad172.add (((ji8)).toNat * 9)).off + 8, none⟩ = some (.bool ((rd_T51 l0 (ji8)).f3.f5))) (ds := []) #[false, false, false, false, false, false, false, false, false, false, false, false, false, false, false, false, false] (by kernel_rfl) rfl rfl ⟨(blk_cell BK173.out 0).trans rfl, (blk_cell BK173.out 1).trans rfl, (blk_cell BK173.out 2).trans rfl, (blk_cell BK173.out 3).trans rfl, (blk_cell BK173.out 4).trans rfl, (blk_cell BK173.out 5).trans rfl, (blk_cell BK173.out 6).trans rfl, (blk_cell BK173.out 7).trans rfl, (blk_cell BK173.out 8).trans rfl, ((HB.out.cell (World.block_lt_of_cell? w _ hw175_0)).trans hw175_0), ((HB.out.cell (World.block_lt_of_cell? w _ hw175_1)).trans hw175_1), ((HB.out.cell (World.block_lt_of_cell? w _ hw175_2)).trans hw175_2), ((HB.out.cell (World.block_lt_of_cell? w _ hw175_3)).trans hw175_3), ((HB.out.cell (World.block_lt_of_cell? w _ hw175_4)).trans hw175_4), ((HB.out.cell (World.block_lt_of_cell? w _ hw175_5)).trans hw175_5), ((HB.out.cell (World.block_lt_of_cell? w _ hw175_6)).trans hw175_6), ((HB.out.cell (World.block_lt_of_cell? w _ hw175_7)).trans hw175_7), ((HB.out.cell (World.block_lt_of_cell? w _ hw175_8)).trans hw175_8)⟩ (fun hHeld => ?_); refine with_tabW spec_GoodEntries.tab5 spec_GoodEntries.bits5 (fun HT_ HW_ => ?_)
                        generalize w16.drew = w17 at HO_3 BK173 HB HR175_7 hx175_0 hx175_1 hx175_2 hx175_3 hx175_4 hx175_5 hx175_6 hx175_7 hx175_8 hHeld ⊢
                        refine take_ (i := 0) (N := some 17) (v := ?_) (a' := ?_) #[true, false, false, false, false, false, false, false, false, false, false, false, false, false, false, false, false] rfl rfl (take_ofW HT_.out HW_.out (by kernel_rfl)) (fun _ _ _ h => h) (Or.inl ⟨by rfl, ?_⟩) hHeld ?_ ?_
                        rotate_left
                        · rintro w' ⟨s0, s1, s2, s3, s4, s5, s6, s7, s8, s9, s10, s11, s12, s13, s14, s15, s16, s17⟩
                          go_simp
                          with_reducible rfl
                        rotate_left
                        · simp only [Act.put, List.setIfInBounds_toArray, List.set_cons_zero, List.set_cons_succ, i64_w, i32_w]
                          rfl
                        refine one_ (i := 1) (N := some 18) #[true, true, false, false, false, false, false, false, false, false, false, false, false, false, false, false, false] rfl rfl (one_of HT_.out (by kernel_rfl)) (by decide) (fun K hK => ?_)
                        refine goes_ Try.func29 (by kernel_rfl) rfl #[.agg #[.string ((rd_T51 l0 x12_1).f0), .int .i64 ((rd_T51 l0 x12_1).f1), .int .i64 ((rd_T51 l0 x12_1).f2), .int .i64 ((rd_T51 l0 x12_1).f3.f0), .int .i64 ((rd_T51 l0 x12_1).f3.f1), .int .i64 ((rd_T51 l0 x12_1).f3.f2), .int .i64 ((rd_T51 l0 x12_1).f3.f3), .slice A172_7 ((rd_T51 l0 x12_1).f3.f4).length c172_7, .bool ((rd_T51 l0 x12_1).f3.f5)]] (by rfl) rfl rfl (by (try simp only [List.map_toArray, List.map_cons, List.map_nil]); first | done | rfl | (simp only [List.length_drop, List.length_take]; rfl)) ?_
                        with_reducible refine (spec_GoodEntry.calls k1 ((rd_T51 l0 x12_1).f0) ((rd_T51 l0 x12_1).f1) ((rd_T51 l0 x12_1).f2) ((rd_T51 l0 x12_1).f3.f0) ((rd_T51 l0 x12_1).f3.f1) ((rd_T51 l0 x12_1).f3.f2) ((rd_T51 l0 x12_1).f3.f3) _ _ ((rd_T51 l0 x12_1).f3.f4) ((rd_T51 l0 x12_1).f3.f5) true _ ?side1 ?side2 A5.out).mono ?_
                        (case side1 => repeat (first | exact (Kd.C_below HR172_7.out HB.out) | (with_reducible refine Kd.C_alloc ?_ _) | (with_reducible refine Kd.C_drewN ?_ _) | (with_reducible refine Kd.C_drew ?_)))
                        (case side2 => exact HC172_7.out)
                        rintro e w18 ⟨rfl, hb⟩
                        refine ⟨_, rfl, ?_⟩
                        have n0_ := Aside0.mk (Kd.R_below (by (with_reducible repeat (first | apply Kd.R_alloc | apply Kd.R_drewN | apply Kd.R_drew)); exact HO_3.out) hb)
                        have n1_ := Aside0.mk (blk_below (g := gb173) (o := .cells #[.string ((rd_T51 l0 x12_1).f0), .int .i64 ((rd_T51 l0 x12_1).f1), .int .i64 ((rd_T51 l0 x12_1).f2), .int .i64 ((rd_T51 l0 x12_1).f3.f0), .int .i64 ((rd_T51 l0 x12_1).f3.f1), .int .i64 ((rd_T51 l0 x12_1).f3.f2), .int .i64 ((rd_T51 l0 x12_1).f3.f3), .slice A172_7 ((rd_T51 l0 x12_1).f3.f4).length c172_7, .bool ((rd_T51 l0 x12_1).f3.f5)] 51 (0, 0)) (by (with_reducible repeat (first | refine blk_drewN ?_ _ | refine blk_drew ?_ | refine blk_alloc ?_ _)); exact BK173.out) hb)
                        have n2_ := Aside0.mk (below_step (by repeat (first | (with_reducible first | exact HB.out | apply below_alloc | apply pw_below_drewN | apply below_drew1 | refine below_set ?_ GE173.out) | exact HB.out)) hb)
                        clear HO_3
                        clear BK173
                        clear HB
                        have HO_3 := n0_
                        have BK173 := n1_
                        have HB := n2_
                        clear n0_ n1_ n2_
                        (try clear hb)
                        (try clear hb2)
                        (try clear hk)
                        (try clear hi)
                        refine hK.out _ _ ⟨(blk_cell BK173.out 0).trans rfl, (blk_cell BK173.out 1).trans rfl, (blk_cell BK173.out 2).trans rfl, (blk_cell BK173.out 3).trans rfl, (blk_cell BK173.out 4).trans rfl, (blk_cell BK173.out 5).trans rfl, (blk_cell BK173.out 6).trans rfl, (blk_cell BK173.out 7).trans rfl, (blk_cell BK173.out 8).trans rfl, ((HB.out.cell (World.block_lt_of_cell? w _ hw175_0)).trans hw175_0), ((HB.out.cell (World.block_lt_of_cell? w _ hw175_1)).trans hw175_1), ((HB.out.cell (World.block_lt_of_cell? w _ hw175_2)).trans hw175_2), ((HB.out.cell (World.block_lt_of_cell? w _ hw175_3)).trans hw175_3), ((HB.out.cell (World.block_lt_of_cell? w _ hw175_4)).trans hw175_4), ((HB.out.cell (World.block_lt_of_cell? w _ hw175_5)).trans hw175_5), ((HB.out.cell (World.block_lt_of_cell? w _ hw175_6)).trans hw175_6), ((HB.out.cell (World.block_lt_of_cell? w _ hw175_7)).trans hw175_7), ((HB.out.cell (World.block_lt_of_cell? w _ hw175_8)).trans hw175_8)⟩ (fun hHeld => ?_)
                        clear hK K
                        refine norm_ (a' := ?_) ?_ ?_
                        rotate_left
                        · show Act.put _ (some 18) _ = _
                          simp only [Act.put, List.setIfInBounds_toArray, List.set_cons_zero, List.set_cons_succ, i64_w, i32_w]
                          rfl
                        refine pure_ (i := 2) (N := some 19) (v := ?_) (a' := ?_) #[true, true, true, false, false, false, false, false, false, false, false, false, false, false, false, false, false] rfl rfl (any_of HT_.out (by kernel_rfl)) (fun _ _ _ h => h) (Or.inl ⟨by rfl, ?_⟩) ?_ ?_
                        rotate_left
                        · intro w'
                          go_simp
                          with_reducible rfl
                        rotate_left
                        · simp only [Act.put, List.setIfInBounds_toArray, List.set_cons_zero, List.set_cons_succ, i64_w, i32_w]
                          rfl
                        refine pure_ (i := 3) (N := some 20) (v := ?_) (a' := ?_) #[true, true, true, true, false, false, false, false, false, false, false, false, false, false, false, false, false] rfl rfl (any_of HT_.out (by kernel_rfl)) (fun _ _ _ h => h) (Or.inl ⟨by rfl, ?_⟩) ?_ ?_
                        rotate_left
                        · intro w'
                          go_simp
                          with_reducible rfl
                        rotate_left
                        · simp only [Act.put, List.setIfInBounds_toArray, List.set_cons_zero, List.set_cons_succ, i64_w, i32_w]
                          rfl
                        refine pure_ (i := 4) (N := some 21) (v := ?_) (a' := ?_) #[true, true, true, true, true, false, false, false, false, false, false, false, false, false, false, false, false] rfl rfl (any_of HT_.out (by kernel_rfl)) (fun _ _ _ h => h) (Or.inl ⟨by rfl, ?_⟩) ?_ ?_
                        rotate_left
                        · intro w'
                          go_simp
                          with_reducible rfl
                        rotate_left
                        · simp only [Act.put, List.setIfInBounds_toArray, List.set_cons_zero, List.set_cons_succ, i64_w, i32_w]
                          rfl
                        refine pure_ (i := 5) (N := some 22) (v := ?_) (a' := ?_) #[true, true, true, true, true, true, false, false, false, false, false, false, false, false, false, false, false] rfl rfl (any_of HT_.out (by kernel_rfl)) (fun _ _ _ h => h) (Or.inl ⟨by rfl, ?_⟩) ?_ ?_
                        rotate_left
                        · intro w'
                          go_simp
                          with_reducible rfl
                        rotate_left
                        · simp only [Act.put, List.setIfInBounds_toArray, List.set_cons_zero, List.set_cons_succ, i64_w, i32_w]
                          rfl
                        refine pure_ (i := 6) (N := some 23) (v := ?_) (a' := ?_) #[true, true, true, true, true, true, true, false, false, false, false, false, false, false, false, false, false] rfl rfl (any_of HT_.out (by kernel_rfl)) (fun _ _ _ h => h) (Or.inl ⟨by rfl, ?_⟩) ?_ ?_
                        rotate_left
                        · intro w'
                          go_simp
                          with_reducible rfl
                        rotate_left
                        · simp only [Act.put, List.setIfInBounds_toArray, List.set_cons_zero, List.set_cons_succ, i64_w, i32_w]
                          rfl
                        refine pure_ (i := 7) (N := some 24) (v := ?_) (a' := ?_) #[true, true, true, true, true, true, true, true, false, false, false, false, false, false, false, false, false] rfl rfl (any_of HT_.out (by kernel_rfl)) (fun _ _ _ h => h) (Or.inl ⟨by rfl, ?_⟩) ?_ ?_
                        rotate_left
                        · intro w'
                          go_simp
                          with_reducible rfl
                        rotate_left
                        · simp only [Act.put, List.setIfInBounds_toArray, List.set_cons_zero, List.set_cons_succ, i64_w, i32_w]
                          rfl
                        refine pure_ (i := 8) (N := some 25) (v := ?_) (a' := ?_) #[true, true, true, true, true, true, true, true, true, false, false, false, false, false, false, false, false] rfl rfl (any_of HT_.out (by kernel_rfl)) (fun _ _ _ h => h) (Or.inl ⟨by rfl, ?_⟩) ?_ ?_
                        rotate_left
                        · intro w'
                          go_simp
                          with_reducible rfl
                        rotate_left
                        · simp only [Act.put, List.setIfInBounds_toArray, List.set_cons_zero, List.set_cons_succ, i64_w, i32_w]
                          rfl
                        refine pure_ (i := 9) (N := some 26) (v := ?_) (a' := ?_) #[true, true, true, true, true, true, true, true, true, true, false, false, false, false, false, false, false] rfl rfl (any_of HT_.out (by kernel_rfl)) (fun _ _ _ h => h) (Or.inl ⟨by rfl, ?_⟩) ?_ ?_
                        rotate_left
                        · intro w'
                          go_simp
                          with_reducible rfl
                        rotate_left
                        · simp only [Act.put, List.setIfInBounds_toArray, List.set_cons_zero, List.set_cons_succ, i64_w, i32_w]
                          rfl
                        refine pure_ (i := 10) (N := some 27) (v := ?_) (a' := ?_) #[true, true, true, true, true, true, true, true, true, true, true, false, false, false, false, false, false] rfl rfl (any_of HT_.out (by kernel_rfl)) (fun _ _ _ h => h) (Or.inl ⟨by rfl, ?_⟩) ?_ ?_
                        rotate_left
                        · intro w'
                          go_simp
                          with_reducible rfl
                        rotate_left
                        · simp only [Act.put, List.setIfInBounds_toArray, List.set_cons_zero, List.set_cons_succ, i64_w, i32_w]
                          rfl
                        refine take_ (i := 11) (N := some 28) (v := ?_) (a' := ?_) #[true, true, true, true, true, true, true, true, true, true, true, true, false, false, false, false, false] rfl rfl (take_ofW HT_.out HW_.out (by kernel_rfl)) (fun _ _ _ h => h) (Or.inl ⟨by rfl, ?_⟩) hHeld ?_ ?_
                        rotate_left
                        · rintro w' ⟨s0, s1, s2, s3, s4, s5, s6, s7, s8, s9, s10, s11, s12, s13, s14, s15, s16, s17⟩
                          go_simp
                          with_reducible rfl
                        rotate_left
                        · simp only [Act.put, List.setIfInBounds_toArray, List.set_cons_zero, List.set_cons_succ, i64_w, i32_w]
                          rfl
                        refine take_ (i := 12) (N := some 29) (v := ?_) (a' := ?_) #[true, true, true, true, true, true, true, true, true, true, true, true, true, false, false, false, false] rfl rfl (take_ofW HT_.out HW_.out (by kernel_rfl)) (fun _ _ _ h => h) (Or.inl ⟨by rfl, ?_⟩) hHeld ?_ ?_
                        rotate_left
                        · rintro w' ⟨s0, s1, s2, s3, s4, s5, s6, s7, s8, s9, s10, s11, s12, s13, s14, s15, s16, s17⟩
                          go_simp
                          with_reducible rfl
                        rotate_left
                        · simp only [Act.put, List.setIfInBounds_toArray, List.set_cons_zero, List.set_cons_succ, i64_w, i32_w]
                          rfl
                        refine one_ (i := 13) (N := some 30) #[true, true, true, true, true, true, true, true, true, true, true, true, true, true, false, false, false] rfl rfl (one_of HT_.out (by kernel_rfl)) (by decide) (fun K hK => ?_)
                        refine goes_ Try.func30 (by kernel_rfl) rfl #[.agg #[.string ((rd_T51 l0 (ji8)).f0), .int .i64 ((rd_T51 l0 (ji8)).f1), .int .i64 ((rd_T51 l0 (ji8)).f2), .int .i64 ((rd_T51 l0 (ji8)).f3.f0), .int .i64 ((rd_T51 l0 (ji8)).f3.f1), .int .i64 ((rd_T51 l0 (ji8)).f3.f2), .int .i64 ((rd_T51 l0 (ji8)).f3.f3), .slice A175_7 ((rd_T51 l0 (ji8)).f3.f4).length c175_7, .bool ((rd_T51 l0 (ji8)).f3.f5)], .agg #[.string ((rd_T51 l0 x12_1).f0), .int .i64 ((rd_T51 l0 x12_1).f1), .int .i64 ((rd_T51 l0 x12_1).f2), .int .i64 ((rd_T51 l0 x12_1).f3.f0), .int .i64 ((rd_T51 l0 x12_1).f3.f1), .int .i64 ((rd_T51 l0 x12_1).f3.f2), .int .i64 ((rd_T51 l0 x12_1).f3.f3), .slice A172_7 ((rd_T51 l0 x12_1).f3.f4).length c172_7, .bool ((rd_T51 l0 x12_1).f3.f5)]] (by rfl) rfl rfl (by (try simp only [List.map_toArray, List.map_cons, List.map_nil]); first | done | (simp only [hji8]; rfl) | rfl | (simp only [List.length_drop, List.length_take]; rfl)) ?_
                        with_reducible refine (spec_l5Before.calls ((rd_T51 l0 (ji8)).f0) ((rd_T51 l0 (ji8)).f1) ((rd_T51 l0 (ji8)).f2) ((rd_T51 l0 (ji8)).f3.f0) ((rd_T51 l0 (ji8)).f3.f1) ((rd_T51 l0 (ji8)).f3.f2) ((rd_T51 l0 (ji8)).f3.f3) _ _ ((rd_T51 l0 (ji8)).f3.f4) ((rd_T51 l0 (ji8)).f3.f5) ((rd_T51 l0 x12_1).f0) ((rd_T51 l0 x12_1).f1) ((rd_T51 l0 x12_1).f2) ((rd_T51 l0 x12_1).f3.f0) ((rd_T51 l0 x12_1).f3.f1) ((rd_T51 l0 x12_1).f3.f2) ((rd_T51 l0 x12_1).f3.f3) _ _ ((rd_T51 l0 x12_1).f3.f4) ((rd_T51 l0 x12_1).f3.f5) true _ ?side1 ?side2 ?side3 ?side4 A11.out).mono ?_
                        (case side1 => repeat (first | exact (Kd.C_below HR175_7.out HB.out) | (with_reducible refine Kd.C_alloc ?_ _) | (with_reducible refine Kd.C_drewN ?_ _) | (with_reducible refine Kd.C_drew ?_)))
                        (case side2 => exact HC175_7.out)
                        (case side3 => repeat (first | exact (Kd.C_below HR172_7.out HB.out) | (with_reducible refine Kd.C_alloc ?_ _) | (with_reducible refine Kd.C_drewN ?_ _) | (with_reducible refine Kd.C_drew ?_)))
                        (case side4 => exact HC172_7.out)
                        rintro e w19 ⟨rfl, hb⟩
                        refine ⟨_, rfl, ?_⟩
                        have n0_ := Aside0.mk (Kd.R_below (by (with_reducible repeat (first | apply Kd.R_alloc | apply Kd.R_drewN | apply Kd.R_drew)); exact HO_3.out) hb)
                        have n1_ := Aside0.mk (blk_below (g := gb173) (o := .cells #[.string ((rd_T51 l0 x12_1).f0), .int .i64 ((rd_T51 l0 x12_1).f1), .int .i64 ((rd_T51 l0 x12_1).f2), .int .i64 ((rd_T51 l0 x12_1).f3.f0), .int .i64 ((rd_T51 l0 x12_1).f3.f1), .int .i64 ((rd_T51 l0 x12_1).f3.f2), .int .i64 ((rd_T51 l0 x12_1).f3.f3), .slice A172_7 ((rd_T51 l0 x12_1).f3.f4).length c172_7, .bool ((rd_T51 l0 x12_1).f3.f5)] 51 (0, 0)) (by (with_reducible repeat (first | refine blk_drewN ?_ _ | refine blk_drew ?_ | refine blk_alloc ?_ _)); exact BK173.out) hb)
                        have n2_ := Aside0.mk (below_step (by repeat (first | (with_reducible first | exact HB.out | apply below_alloc | apply pw_below_drewN | apply below_drew1 | refine below_set ?_ GE173.out) | exact HB.out)) hb)
                        clear HO_3
                        clear BK173
                        clear HB
                        have HO_3 := n0_
                        have BK173 := n1_
                        have HB := n2_
                        clear n0_ n1_ n2_
                        (try clear hb)
                        (try clear hb2)
                        (try clear hk)
                        (try clear hi)
                        refine hK.out _ _ ⟨(blk_cell BK173.out 0).trans rfl, (blk_cell BK173.out 1).trans rfl, (blk_cell BK173.out 2).trans rfl, (blk_cell BK173.out 3).trans rfl, (blk_cell BK173.out 4).trans rfl, (blk_cell BK173.out 5).trans rfl, (blk_cell BK173.out 6).trans rfl, (blk_cell BK173.out 7).trans rfl, (blk_cell BK173.out 8).trans rfl, ((HB.out.cell (World.block_lt_of_cell? w _ hw175_0)).trans hw175_0), ((HB.out.cell (World.block_lt_of_cell? w _ hw175_1)).trans hw175_1), ((HB.out.cell (World.block_lt_of_cell? w _ hw175_2)).trans hw175_2), ((HB.out.cell (World.block_lt_of_cell? w _ hw175_3)).trans hw175_3), ((HB.out.cell (World.block_lt_of_cell? w _ hw175_4)).trans hw175_4), ((HB.out.cell (World.block_lt_of_cell? w _ hw175_5)).trans hw175_5), ((HB.out.cell (World.block_lt_of_cell? w _ hw175_6)).trans hw175_6), ((HB.out.cell (World.block_lt_of_cell? w _ hw175_7)).trans hw175_7), ((HB.out.cell (World.block_lt_of_cell? w _ hw175_8)).trans hw175_8)⟩ (fun hHeld => ?_)
                        clear hK K
                        refine norm_ (a' := ?_) ?_ ?_
                        rotate_left
                        · show Act.put _ (some 30) _ = _
                          simp only [Act.put, List.setIfInBounds_toArray, List.set_cons_zero, List.set_cons_succ, i64_w, i32_w]
                          rfl
                        refine pure_ (i := 14) (N := some 31) (v := ?_) (a' := ?_) #[true, true, true, true, true, true, true, true, true, true, true, true, true, true, true, false, false] rfl rfl (any_of HT_.out (by kernel_rfl)) (fun _ _ _ h => h) (Or.inl ⟨by rfl, ?_⟩) ?_ ?_
                        rotate_left
                        · intro w'
                          go_simp
                          with_reducible rfl
                        rotate_left
                        · simp only [Act.put, List.setIfInBounds_toArray, List.set_cons_zero, List.set_cons_succ, i64_w, i32_w]
                          rfl
                        refine pure_ (i := 15) (N := some 32) (v := ?_) (a' := ?_) #[true, true, true, true, true, true, true, true, true, true, true, true, true, true, true, true, false] rfl rfl (any_of HT_.out (by kernel_rfl)) (fun _ _ _ h => h) (Or.inl ⟨by rfl, ?_⟩) ?_ ?_
                        rotate_left
                        · intro w'
                          go_simp
                          with_reducible rfl
                        rotate_left
                        · simp only [Act.put, List.setIfInBounds_toArray, List.set_cons_zero, List.set_cons_succ, i64_w, i32_w]
                          rfl
                        refine pure_ (i := 16) (N := some 33) (v := ?_) (a' := ?_) #[true, true, true, true, true, true, true, true, true, true, true, true, true, true, true, true, true] rfl rfl (any_of HT_.out (by kernel_rfl)) (fun _ _ _ h => h) (Or.inl ⟨by rfl, ?_⟩) ?_ ?_
                        rotate_left
                        · intro w'
                          go_simp
                          with_reducible rfl
                        rotate_left
                        · simp only [Act.put, List.setIfInBounds_toArray, List.set_cons_zero, List.set_cons_succ, i64_w, i32_w]
                          rfl
                        refine done_ (done_of HT_.out (by kernel_rfl)) ?_
                        have hcz20_0 : w19.cell? ⟨gb173, 0, none⟩ = some (.string ((rd_T51 l0 x12_1).f0)) := (blk_cell BK173.out 0).trans rfl
                        have hcz20_1 : w19.cell? ⟨gb173, 1, none⟩ = some (.int .i64 ((rd_T51 l0 x12_1).f1)) := (blk_cell BK173.out 1).trans rfl
                        have hcz20_2 : w19.cell? ⟨gb173, 2, none⟩ = some (.int .i64 ((rd_T51 l0 x12_1).f2)) := (blk_cell BK173.out 2).trans rfl
                        have hcz20_3 : w19.cell? ⟨gb173, 3, none⟩ = some (.int .i64 ((rd_T51 l0 x12_1).f3.f0)) := (blk_cell BK173.out 3).trans rfl
                        have hcz20_4 : w19.cell? ⟨gb173, 4, none⟩ = some (.int .i64 ((rd_T51 l0 x12_1).f3.f1)) := (blk_cell BK173.out 4).trans rfl
                        have hcz20_5 : w19.cell? ⟨gb173, 5, none⟩ = some (.int .i64 ((rd_T51 l0 x12_1).f3.f2)) := (blk_cell BK173.out 5).trans rfl
                        have hcz20_6 : w19.cell? ⟨gb173, 6, none⟩ = some (.int .i64 ((rd_T51 l0 x12_1).f3.f3)) := (blk_cell BK173.out 6).trans rfl
                        have hcz20_7 : w19.cell? ⟨gb173, 7, none⟩ = some (.slice A172_7 ((rd_T51 l0 x12_1).f3.f4).length c172_7) := (blk_cell BK173.out 7).trans rfl
                        have hcz20_8 : w19.cell? ⟨gb173, 8, none⟩ = some (.bool ((rd_T51 l0 x12_1).f3.f5)) := (blk_cell BK173.out 8).trans rfl
                        have hfz20_0 := blk_frozen BK173.out 0
                        have hfz20_1 := blk_frozen BK173.out 1
                        have hfz20_2 := blk_frozen BK173.out 2
                        have hfz20_3 := blk_frozen BK173.out 3
                        have hfz20_4 := blk_frozen BK173.out 4
                        have hfz20_5 := blk_frozen BK173.out 5
                        have hfz20_6 := blk_frozen BK173.out 6
                        have hfz20_7 := blk_frozen BK173.out 7
                        have hfz20_8 := blk_frozen BK173.out 8
                        try go_wp2_with (first | ((with_reducible refine gate_builtin (b := .append) (xs := #[.tmp 34, .tmp 37]) rfl ?_); at_builtin; refine Kd.R_append (Kd.int .i64) (w0 := w) w.heap.size rfl (.tmp 34) (.tmp 37) 47 3 (.int .i64 0) 8 rfl Try.underlying47 info3 rfl (by decide) (by omega) u3 x3_1 ((rd_T51 l0 x12_1).f1) [.int .i64 ((rd_T51 l0 x12_1).f1)] (fun _ => True) (fun _ => False) rfl rfl ?aP (fun _ hk => hk.elim) ?aF ?aO ?aB ?aS ?aL ?_; (case aP => exact rfl); (case aB => exact (by repeat (first | (with_reducible first | exact HB.out | apply below_alloc | apply pw_below_drewN | apply below_drew1 | refine below_set ?_ GE173.out) | exact HB.out))); (case aF => exact (fun _ _ => trivial)); (case aO => exact (by (with_reducible repeat (first | apply Kd.R_alloc | apply Kd.R_drewN | apply Kd.R_drew)); exact HO_3.out)); (case aS => exact (below_size (by repeat (first | (with_reducible first | exact HB.out | apply below_alloc | apply pw_below_drewN | apply below_drew1 | refine below_set ?_ GE173.out) | exact HB.out)))); (case aL => have := LMc13.out; omega); intro v178 w21 ho hb hg hat; rw [← Ny177.out] at ho; have n0_ := Aside0.mk (blk_grown (g := gb173) (o := .cells #[.string ((rd_T51 l0 x12_1).f0), .int .i64 ((rd_T51 l0 x12_1).f1), .int .i64 ((rd_T51 l0 x12_1).f2), .int .i64 ((rd_T51 l0 x12_1).f3.f0), .int .i64 ((rd_T51 l0 x12_1).f3.f1), .int .i64 ((rd_T51 l0 x12_1).f3.f2), .int .i64 ((rd_T51 l0 x12_1).f3.f3), .slice A172_7 ((rd_T51 l0 x12_1).f3.f4).length c172_7, .bool ((rd_T51 l0 x12_1).f3.f5)] 51 (0, 0)) (by (with_reducible repeat (first | refine blk_drewN ?_ _ | refine blk_drew ?_ | refine blk_alloc ?_ _)); exact BK173.out) hg (Kd.R_ne HO_3.out BK173.out (by decide))); have n1_ := Aside0.mk (hb); have n2_ := Aside0.mk (ho); clear BK173; clear HB; clear HO_3; have BK173 := n0_; have HB := n1_; have HO179 := n2_; clear n0_ n1_ n2_; clear ho hb hg hat))
                        go_roundg k1
                        case measure => have := HK1.out; omega
                        case rel => exact ⟨(y177), (wrap64 (x12_1 + 1)), (by first | rfl | (simp; done) | (simp [*]; done)), H', ⟨by have := HK1.out; omega⟩, ⟨by (with_reducible repeat (first | apply Kd.R_alloc | apply Kd.R_drewN | apply Kd.R_drew)); exact HO179.out⟩, ⟨by repeat (first | (with_reducible first | exact HB.out | apply below_alloc | apply pw_below_drewN | apply below_drew1 | refine below_set ?_ GE173.out) | exact HB.out)⟩⟩
                      · rw [if_neg c13] at H
                        exact absurd H (by simp)
                    · replace c12 := Bool.eq_false_iff.mpr c12
                      subst c12
                      have H1 : (some false) = some r := by rw [if_neg (show ¬ (false = true) by decide)] at H; exact H
                      clear H
                      have H := H1
                      clear H1
                      obtain rfl := Option.some.inj H
                      have p172 : 0 ≤ (x12_1 : Int) := of_decide_eq_true (by first | (with_reducible assumption) | assumption)
                      have q172 : x12_1 < (l0.length : Int) := of_decide_eq_true (by first | (with_reducible assumption) | assumption)
                      obtain ⟨ad172, A172_7, c172_7, e172, hx172_0, hx172_1, hx172_2, hx172_3, hx172_4, hx172_5, hx172_6, hx172_7, hx172_8, hl172_7, hi172_7⟩ := at_T51 HR0.out x12_1 p172 q172
                      cases e172
                      try (replace hx172_0 := (HB.out.cell (World.block_lt_of_cell? w _ hx172_0)).trans hx172_0)
                      try (replace hx172_1 := (HB.out.cell (World.block_lt_of_cell? w _ hx172_1)).trans hx172_1)
                      try (replace hx172_2 := (HB.out.cell (World.block_lt_of_cell? w _ hx172_2)).trans hx172_2)
                      try (replace hx172_3 := (HB.out.cell (World.block_lt_of_cell? w _ hx172_3)).trans hx172_3)
                      try (replace hx172_4 := (HB.out.cell (World.block_lt_of_cell? w _ hx172_4)).trans hx172_4)
                      try (replace hx172_5 := (HB.out.cell (World.block_lt_of_cell? w _ hx172_5)).trans hx172_5)
                      try (replace hx172_6 := (HB.out.cell (World.block_lt_of_cell? w _ hx172_6)).trans hx172_6)
                      try (replace hx172_7 := (HB.out.cell (World.block_lt_of_cell? w _ hx172_7)).trans hx172_7)
                      try (replace hx172_8 := (HB.out.cell (World.block_lt_of_cell? w _ hx172_8)).trans hx172_8)
                      have HR172_7 := Aside0.mk hi172_7
                      have HC172_7 := Aside0.mk hl172_7
                      clear hi172_7 hl172_7
                      replace p172 := eq_true p172
                      replace q172 := eq_true q172
                      try go_wp2_with (first | ((with_reducible refine gate_dst (N := 5) rfl ?_); refine box_event ?hg (N := 5) ?hd (cs := #[.string (⟨#[]⟩ : ByteArray), .int .i64 0, .int .i64 0, .int .i64 0, .int .i64 0, .int .i64 0, .int .i64 0, .slice none 0 0, .bool false]) (t := 51) ?hr ?_; (case hd => rfl); (case hg => rfl); (case hr => first | (go_simp; done) | (go_simp; rfl)); intro gb173 hg w22 hbox hb; have n0_ := Aside0.mk (Kd.R_below (by (with_reducible repeat (first | apply Kd.R_alloc | apply Kd.R_drewN | apply Kd.R_drew)); exact HO_3.out) hb); have n1_ := Aside0.mk (below_step (by repeat (first | (with_reducible first | exact HB.out | apply below_alloc | apply pw_below_drewN | apply below_drew1) | exact HB.out)) hb); have n2_ := Aside0.mk (hbox); have n3_ := Aside0.mk ((by rw [hg]; exact (below_size (by repeat (first | (with_reducible first | exact HB.out | apply below_alloc | apply pw_below_drewN | apply below_drew1) | exact HB.out))) : w.heap.size ≤ gb173)); have n4_ := Aside0.mk ((by rw [hg]; exact (below_size (by repeat (first | (with_reducible first | exact HB.out | apply below_alloc | apply pw_below_drewN | apply below_drew1) | exact HB.out))) : w.heap.size ≤ gb173)); clear HO_3; clear HB; have HO_3 := n0_; have HB := n1_; have BK173 := n2_; have GW173 := n3_; have GE173 := n4_; clear n0_ n1_ n2_ n3_ n4_; clear hb hbox hg; have hcz23_0 : w22.cell? ⟨gb173, 0, none⟩ = some (.string (⟨#[]⟩ : ByteArray)) := (blk_cell BK173.out 0).trans rfl; have hcz23_1 : w22.cell? ⟨gb173, 1, none⟩ = some (.int .i64 0) := (blk_cell BK173.out 1).trans rfl; have hcz23_2 : w22.cell? ⟨gb173, 2, none⟩ = some (.int .i64 0) := (blk_cell BK173.out 2).trans rfl; have hcz23_3 : w22.cell? ⟨gb173, 3, none⟩ = some (.int .i64 0) := (blk_cell BK173.out 3).trans rfl; have hcz23_4 : w22.cell? ⟨gb173, 4, none⟩ = some (.int .i64 0) := (blk_cell BK173.out 4).trans rfl; have hcz23_5 : w22.cell? ⟨gb173, 5, none⟩ = some (.int .i64 0) := (blk_cell BK173.out 5).trans rfl; have hcz23_6 : w22.cell? ⟨gb173, 6, none⟩ = some (.int .i64 0) := (blk_cell BK173.out 6).trans rfl; have hcz23_7 : w22.cell? ⟨gb173, 7, none⟩ = some (.slice none 0 0) := (blk_cell BK173.out 7).trans rfl; have hcz23_8 : w22.cell? ⟨gb173, 8, none⟩ = some (.bool false) := (blk_cell BK173.out 8).trans rfl; have hfz23_0 := blk_frozen BK173.out 0; have hfz23_1 := blk_frozen BK173.out 1; have hfz23_2 := blk_frozen BK173.out 2; have hfz23_3 := blk_frozen BK173.out 3; have hfz23_4 := blk_frozen BK173.out 4; have hfz23_5 := blk_frozen BK173.out 5; have hfz23_6 := blk_frozen BK173.out 6; have hfz23_7 := blk_frozen BK173.out 7; have hfz23_8 := blk_frozen BK173.out 8))
                      have n0_ : Aside0 (Kd.R (Kd.int .i64) 3 (((((((((w22.setCell ⟨gb173, 0, none⟩ (.string ((rd_T51 l0 x12_1).f0))).setCell ⟨gb173, 1, none⟩ (.int .i64 ((rd_T51 l0 x12_1).f1))).setCell ⟨gb173, 2, none⟩ (.int .i64 ((rd_T51 l0 x12_1).f2))).setCell ⟨gb173, 3, none⟩ (.int .i64 ((rd_T51 l0 x12_1).f3.f0))).setCell ⟨gb173, 4, none⟩ (.int .i64 ((rd_T51 l0 x12_1).f3.f1))).setCell ⟨gb173, 5, none⟩ (.int .i64 ((rd_T51 l0 x12_1).f3.f2))).setCell ⟨gb173, 6, none⟩ (.int .i64 ((rd_T51 l0 x12_1).f3.f3))).setCell ⟨gb173, 7, none⟩ (.slice A172_7 ((rd_T51 l0 x12_1).f3.f4).length c172_7)).setCell ⟨gb173, 8, none⟩ (.bool ((rd_T51 l0 x12_1).f3.f5))) w.heap.size (fun _ => True) u3 x3_1) := ⟨by (with_reducible repeat (first | apply Kd.R_alloc | apply Kd.R_drewN | apply Kd.R_drew)); exact Kd.R_mono (Kd.R_far (p := ⟨gb173, 8, none⟩) (Kd.R_far (p := ⟨gb173, 7, none⟩) (Kd.R_far (p := ⟨gb173, 6, none⟩) (Kd.R_far (p := ⟨gb173, 5, none⟩) (Kd.R_far (p := ⟨gb173, 4, none⟩) (Kd.R_far (p := ⟨gb173, 3, none⟩) (Kd.R_far (p := ⟨gb173, 2, none⟩) (Kd.R_far (p := ⟨gb173, 1, none⟩) (Kd.R_far (p := ⟨gb173, 0, none⟩) (Kd.R_types HO_3.out BK173.out (by decide)) (fun _ hk => hk.2) (.string ((rd_T51 l0 x12_1).f0))) (fun _ hk => hk.2) (.int .i64 ((rd_T51 l0 x12_1).f1))) (fun _ hk => hk.2) (.int .i64 ((rd_T51 l0 x12_1).f2))) (fun _ hk => hk.2) (.int .i64 ((rd_T51 l0 x12_1).f3.f0))) (fun _ hk => hk.2) (.int .i64 ((rd_T51 l0 x12_1).f3.f1))) (fun _ hk => hk.2) (.int .i64 ((rd_T51 l0 x12_1).f3.f2))) (fun _ hk => hk.2) (.int .i64 ((rd_T51 l0 x12_1).f3.f3))) (fun _ hk => hk.2) (.slice A172_7 ((rd_T51 l0 x12_1).f3.f4).length c172_7)) (fun _ hk => hk.2) (.bool ((rd_T51 l0 x12_1).f3.f5))) (fun _ hk => trivial)⟩
                      have n1_ : Aside0 ((((((((((w22.setCell ⟨gb173, 0, none⟩ (.string ((rd_T51 l0 x12_1).f0))).setCell ⟨gb173, 1, none⟩ (.int .i64 ((rd_T51 l0 x12_1).f1))).setCell ⟨gb173, 2, none⟩ (.int .i64 ((rd_T51 l0 x12_1).f2))).setCell ⟨gb173, 3, none⟩ (.int .i64 ((rd_T51 l0 x12_1).f3.f0))).setCell ⟨gb173, 4, none⟩ (.int .i64 ((rd_T51 l0 x12_1).f3.f1))).setCell ⟨gb173, 5, none⟩ (.int .i64 ((rd_T51 l0 x12_1).f3.f2))).setCell ⟨gb173, 6, none⟩ (.int .i64 ((rd_T51 l0 x12_1).f3.f3))).setCell ⟨gb173, 7, none⟩ (.slice A172_7 ((rd_T51 l0 x12_1).f3.f4).length c172_7)).setCell ⟨gb173, 8, none⟩ (.bool ((rd_T51 l0 x12_1).f3.f5))).heap[gb173]? = some (.cells #[.string ((rd_T51 l0 x12_1).f0), .int .i64 ((rd_T51 l0 x12_1).f1), .int .i64 ((rd_T51 l0 x12_1).f2), .int .i64 ((rd_T51 l0 x12_1).f3.f0), .int .i64 ((rd_T51 l0 x12_1).f3.f1), .int .i64 ((rd_T51 l0 x12_1).f3.f2), .int .i64 ((rd_T51 l0 x12_1).f3.f3), .slice A172_7 ((rd_T51 l0 x12_1).f3.f4).length c172_7, .bool ((rd_T51 l0 x12_1).f3.f5)] 51 (0, 0))) := ⟨by (with_reducible repeat (first | refine blk_drewN ?_ _ | refine blk_drew ?_ | refine blk_alloc ?_ _)); refine blk_put (cs := #[.string ((rd_T51 l0 x12_1).f0), .int .i64 ((rd_T51 l0 x12_1).f1), .int .i64 ((rd_T51 l0 x12_1).f2), .int .i64 ((rd_T51 l0 x12_1).f3.f0), .int .i64 ((rd_T51 l0 x12_1).f3.f1), .int .i64 ((rd_T51 l0 x12_1).f3.f2), .int .i64 ((rd_T51 l0 x12_1).f3.f3), .slice A172_7 ((rd_T51 l0 x12_1).f3.f4).length c172_7, .bool false]) ?_ 8 _ rfl; (with_reducible repeat (first | refine blk_drewN ?_ _ | refine blk_drew ?_ | refine blk_alloc ?_ _)); refine blk_put (cs := #[.string ((rd_T51 l0 x12_1).f0), .int .i64 ((rd_T51 l0 x12_1).f1), .int .i64 ((rd_T51 l0 x12_1).f2), .int .i64 ((rd_T51 l0 x12_1).f3.f0), .int .i64 ((rd_T51 l0 x12_1).f3.f1), .int .i64 ((rd_T51 l0 x12_1).f3.f2), .int .i64 ((rd_T51 l0 x12_1).f3.f3), .slice none 0 0, .bool false]) ?_ 7 _ rfl; (with_reducible repeat (first | refine blk_drewN ?_ _ | refine blk_drew ?_ | refine blk_alloc ?_ _)); refine blk_put (cs := #[.string ((rd_T51 l0 x12_1).f0), .int .i64 ((rd_T51 l0 x12_1).f1), .int .i64 ((rd_T51 l0 x12_1).f2), .int .i64 ((rd_T51 l0 x12_1).f3.f0), .int .i64 ((rd_T51 l0 x12_1).f3.f1), .int .i64 ((rd_T51 l0 x12_1).f3.f2), .int .i64 0, .slice none 0 0, .bool false]) ?_ 6 _ rfl; (with_reducible repeat (first | refine blk_drewN ?_ _ | refine blk_drew ?_ | refine blk_alloc ?_ _)); refine blk_put (cs := #[.string ((rd_T51 l0 x12_1).f0), .int .i64 ((rd_T51 l0 x12_1).f1), .int .i64 ((rd_T51 l0 x12_1).f2), .int .i64 ((rd_T51 l0 x12_1).f3.f0), .int .i64 ((rd_T51 l0 x12_1).f3.f1), .int .i64 0, .int .i64 0, .slice none 0 0, .bool false]) ?_ 5 _ rfl; (with_reducible repeat (first | refine blk_drewN ?_ _ | refine blk_drew ?_ | refine blk_alloc ?_ _)); refine blk_put (cs := #[.string ((rd_T51 l0 x12_1).f0), .int .i64 ((rd_T51 l0 x12_1).f1), .int .i64 ((rd_T51 l0 x12_1).f2), .int .i64 ((rd_T51 l0 x12_1).f3.f0), .int .i64 0, .int .i64 0, .int .i64 0, .slice none 0 0, .bool false]) ?_ 4 _ rfl; (with_reducible repeat (first | refine blk_drewN ?_ _ | refine blk_drew ?_ | refine blk_alloc ?_ _)); refine blk_put (cs := #[.string ((rd_T51 l0 x12_1).f0), .int .i64 ((rd_T51 l0 x12_1).f1), .int .i64 ((rd_T51 l0 x12_1).f2), .int .i64 0, .int .i64 0, .int .i64 0, .int .i64 0, .slice none 0 0, .bool false]) ?_ 3 _ rfl; (with_reducible repeat (first | refine blk_drewN ?_ _ | refine blk_drew ?_ | refine blk_alloc ?_ _)); refine blk_put (cs := #[.string ((rd_T51 l0 x12_1).f0), .int .i64 ((rd_T51 l0 x12_1).f1), .int .i64 0, .int .i64 0, .int .i64 0, .int .i64 0, .int .i64 0, .slice none 0 0, .bool false]) ?_ 2 _ rfl; (with_reducible repeat (first | refine blk_drewN ?_ _ | refine blk_drew ?_ | refine blk_alloc ?_ _)); refine blk_put (cs := #[.string ((rd_T51 l0 x12_1).f0), .int .i64 0, .int .i64 0, .int .i64 0, .int .i64 0, .int .i64 0, .int .i64 0, .slice none 0 0, .bool false]) ?_ 1 _ rfl; (with_reducible repeat (first | refine blk_drewN ?_ _ | refine blk_drew ?_ | refine blk_alloc ?_ _)); refine blk_put (cs := #[.string (⟨#[]⟩ : ByteArray), .int .i64 0, .int .i64 0, .int .i64 0, .int .i64 0, .int .i64 0, .int .i64 0, .slice none 0 0, .bool false]) ?_ 0 _ rfl; (with_reducible repeat (first | refine blk_drewN ?_ _ | refine blk_drew ?_ | refine blk_alloc ?_ _)); exact BK173.out⟩
                      have n2_ : Aside0 (Below w.heap.size w (((((((((w22.setCell ⟨gb173, 0, none⟩ (.string ((rd_T51 l0 x12_1).f0))).setCell ⟨gb173, 1, none⟩ (.int .i64 ((rd_T51 l0 x12_1).f1))).setCell ⟨gb173, 2, none⟩ (.int .i64 ((rd_T51 l0 x12_1).f2))).setCell ⟨gb173, 3, none⟩ (.int .i64 ((rd_T51 l0 x12_1).f3.f0))).setCell ⟨gb173, 4, none⟩ (.int .i64 ((rd_T51 l0 x12_1).f3.f1))).setCell ⟨gb173, 5, none⟩ (.int .i64 ((rd_T51 l0 x12_1).f3.f2))).setCell ⟨gb173, 6, none⟩ (.int .i64 ((rd_T51 l0 x12_1).f3.f3))).setCell ⟨gb173, 7, none⟩ (.slice A172_7 ((rd_T51 l0 x12_1).f3.f4).length c172_7)).setCell ⟨gb173, 8, none⟩ (.bool ((rd_T51 l0 x12_1).f3.f5)))) := ⟨by repeat (first | (with_reducible first | exact HB.out | apply below_alloc | apply pw_below_drewN | apply below_drew1 | refine below_set ?_ GE173.out) | exact HB.out)⟩
                      (try clear HO_3)
                      (try clear BK173)
                      (try clear HB)
                      generalize (((((((((w22.setCell ⟨gb173, 0, none⟩ (.string ((rd_T51 l0 x12_1).f0))).setCell ⟨gb173, 1, none⟩ (.int .i64 ((rd_T51 l0 x12_1).f1))).setCell ⟨gb173, 2, none⟩ (.int .i64 ((rd_T51 l0 x12_1).f2))).setCell ⟨gb173, 3, none⟩ (.int .i64 ((rd_T51 l0 x12_1).f3.f0))).setCell ⟨gb173, 4, none⟩ (.int .i64 ((rd_T51 l0 x12_1).f3.f1))).setCell ⟨gb173, 5, none⟩ (.int .i64 ((rd_T51 l0 x12_1).f3.f2))).setCell ⟨gb173, 6, none⟩ (.int .i64 ((rd_T51 l0 x12_1).f3.f3))).setCell ⟨gb173, 7, none⟩ (.slice A172_7 ((rd_T51 l0 x12_1).f3.f4).length c172_7)).setCell ⟨gb173, 8, none⟩ (.bool ((rd_T51 l0 x12_1).f3.f5))) = w24 at n0_ n1_ n2_ ⊢
                      have HO_3 := n0_
                      have BK173 := n1_
                      have HB := n2_
                      clear n0_ n1_ n2_
                      have n0_ := Aside0.mk (Kd.R_drew HO_3.out)
                      have n1_ := Aside0.mk (blk_drew BK173.out)
                      have n2_ := Aside0.mk (below_drew1 HB.out)
                      clear HO_3
                      clear BK173
                      clear HB
                      have HO_3 := n0_
                      have BK173 := n1_
                      have HB := n2_
                      clear n0_ n1_ n2_
                      have p175 : 0 ≤ ((ji8) : Int) := of_decide_eq_true (by first | (with_reducible assumption) | assumption)
                      have q175 : (ji8) < (l0.length : Int) := of_decide_eq_true (by first | (with_reducible assumption) | assumption)
                      obtain ⟨ad175, A175_7, c175_7, e175, hx175_0, hx175_1, hx175_2, hx175_3, hx175_4, hx175_5, hx175_6, hx175_7, hx175_8, hl175_7, hi175_7⟩ := at_T51 HR0.out (ji8) p175 q175
                      have hw175_8 := hx175_8
                      have hw175_7 := hx175_7
                      have hw175_6 := hx175_6
                      have hw175_5 := hx175_5
                      have hw175_4 := hx175_4
                      have hw175_3 := hx175_3
                      have hw175_2 := hx175_2
                      have hw175_1 := hx175_1
                      have hw175_0 := hx175_0
                      obtain rfl : ad172 = ad175 := (by injection e175)
                      try (replace hx175_0 := (HB.out.cell (World.block_lt_of_cell? w _ hx175_0)).trans hx175_0)
                      try (replace hx175_1 := (HB.out.cell (World.block_lt_of_cell? w _ hx175_1)).trans hx175_1)
                      try (replace hx175_2 := (HB.out.cell (World.block_lt_of_cell? w _ hx175_2)).trans hx175_2)
                      try (replace hx175_3 := (HB.out.cell (World.block_lt_of_cell? w _ hx175_3)).trans hx175_3)
                      try (replace hx175_4 := (HB.out.cell (World.block_lt_of_cell? w _ hx175_4)).trans hx175_4)
                      try (replace hx175_5 := (HB.out.cell (World.block_lt_of_cell? w _ hx175_5)).trans hx175_5)
                      try (replace hx175_6 := (HB.out.cell (World.block_lt_of_cell? w _ hx175_6)).trans hx175_6)
                      try (replace hx175_7 := (HB.out.cell (World.block_lt_of_cell? w _ hx175_7)).trans hx175_7)
                      try (replace hx175_8 := (HB.out.cell (World.block_lt_of_cell? w _ hx175_8)).trans hx175_8)
                      have HR175_7 := Aside0.mk hi175_7
                      have HC175_7 := Aside0.mk hl175_7
                      clear hi175_7 hl175_7
                      replace p175 := eq_true p175
                      replace q175 := eq_true q175
                      refine start_ (n := 17) (S := fun w' => w'.cell? ⟨gb173, 0, none⟩ = some (.string ((rd_T51 l0 x12_1).f0)) ∧ w'.cell? ⟨gb173, 1, none⟩ = some (.int .i64 ((rd_T51 l0 x12_1).f1)) ∧ w'.cell? ⟨gb173, 2, none⟩ = some (.int .i64 ((rd_T51 l0 x12_1).f2)) ∧ w'.cell? ⟨gb173, 3, none⟩ = some (.int .i64 ((rd_T51 l0 x12_1).f3.f0)) ∧ w'.cell? ⟨gb173, 4, none⟩ = some (.int .i64 ((rd_T51 l0 x12_1).f3.f1)) ∧ w'.cell? ⟨gb173, 5, none⟩ = some (.int .i64 ((rd_T51 l0 x12_1).f3.f2)) ∧ w'.cell? ⟨gb173, 6, none⟩ = some (.int .i64 ((rd_T51 l0 x12_1).f3.f3)) ∧ w'.cell? ⟨gb173, 7, none⟩ = some (.slice A172_7 ((rd_T51 l0 x12_1).f3.f4).length c172_7) ∧ w'.cell? ⟨gb173, 8, none⟩ = some (.bool ((rd_T51 l0 x12_1).f3.f5)) ∧ w'.cell? (ad172.add (((ji8)).toNat * 9)) = some (.string ((rd_T51 l0 (ji8)).f0)) ∧ w'.cell? ⟨(ad172.add (((ji8)).toNat * 9)).block, (ad172.add (((ji8)).toNat * 9)).off + 1, none⟩ = some (.int .i64 ((rd_T51 l0 (ji8)).f1)) ∧ w'.cell? ⟨(ad172.add (((ji8)).toNat * 9)).block, (ad172.add (((ji8)).toNat * 9)).off + 2, none⟩ = some (.int .i64 ((rd_T51 l0 (ji8)).f2)) ∧ w'.cell? ⟨(ad172.add (((ji8)).toNat * 9)).block, (ad172.add (((ji8)).toNat * 9)).off + 3, none⟩ = some (.int .i64 ((rd_T51 l0 (ji8)).f3.f0)) ∧ w'.cell? ⟨(ad172.add (((ji8)).toNat * 9)).block, (ad172.add (((ji8)).toNat * 9)).off + 4, none⟩ = some (.int .i64 ((rd_T51 l0 (ji8)).f3.f1)) ∧ w'.cell? ⟨(ad172.add (((ji8)).toNat * 9)).block, (ad172.add (((ji8)).toNat * 9)).off + 5, none⟩ = some (.int .i64 ((rd_T51 l0 (ji8)).f3.f2)) ∧ w'.cell? ⟨(ad172.add (((ji8)).toNat * 9)).block, (ad172.add (((ji8)).toNat * 9)).off + 6, none⟩ = some (.int .i64 ((rd_T51 l0 (ji8)).f3.f3)) ∧ w'.cell? ⟨(ad172.add (((ji8)).toNat * 9)).block, (ad172.add (((ji8)).toNat * 9)).off + 7, none⟩ = some (.slice A175_7 ((rd_T51 l0 (ji8)).f3.f4).length c175_7) ∧ w'.cell? ⟨(ad172.add (((ji8)).toNat * 9)).block, (ad172.add (((ji8)).toNat * 9)).off + 8, none⟩ = some (.bool ((rd_T51 l0 (ji8)).f3.f5))) (ds := []) #[false, false, false, false, false, false, false, false, false, false, false, false, false, false, false, false, false] (by kernel_rfl) rfl rfl ⟨(blk_cell BK173.out 0).trans rfl, (blk_cell BK173.out 1).trans rfl, (blk_cell BK173.out 2).trans rfl, (blk_cell BK173.out 3).trans rfl, (blk_cell BK173.out 4).trans rfl, (blk_cell BK173.out 5).trans rfl, (blk_cell BK173.out 6).trans rfl, (blk_cell BK173.out 7).trans rfl, (blk_cell BK173.out 8).trans rfl, ((HB.out.cell (World.block_lt_of_cell? w _ hw175_0)).trans hw175_0), ((HB.out.cell (World.block_lt_of_cell? w _ hw175_1)).trans hw175_1), ((HB.out.cell (World.block_lt_of_cell? w _ hw175_2)).trans hw175_2), ((HB.out.cell (World.block_lt_of_cell? w _ hw175_3)).trans hw175_3), ((HB.out.cell (World.block_lt_of_cell? w _ hw175_4)).trans hw175_4), ((HB.out.cell (World.block_lt_of_cell? w _ hw175_5)).trans hw175_5), ((HB.out.cell (World.block_lt_of_cell? w _ hw175_6)).trans hw175_6), ((HB.out.cell (World.block_lt_of_cell? w _ hw175_7)).trans hw175_7), ((HB.out.cell (World.block_lt_of_cell? w _ hw175_8)).trans hw175_8)⟩ (fun hHeld => ?_); refine with_tabW spec_GoodEntries.tab5 spec_GoodEntries.bits5 (fun HT_ HW_ => ?_)
                      generalize w24.drew = w25 at HO_3 BK173 HB HR175_7 hx175_0 hx175_1 hx175_2 hx175_3 hx175_4 hx175_5 hx175_6 hx175_7 hx175_8 hHeld ⊢
                      refine take_ (i := 0) (N := some 17) (v := ?_) (a' := ?_) #[true, false, false, false, false, false, false, false, false, false, false, false, false, false, false, false, false] rfl rfl (take_ofW HT_.out HW_.out (by kernel_rfl)) (fun _ _ _ h => h) (Or.inl ⟨by rfl, ?_⟩) hHeld ?_ ?_
                      rotate_left
                      · rintro w' ⟨s0, s1, s2, s3, s4, s5, s6, s7, s8, s9, s10, s11, s12, s13, s14, s15, s16, s17⟩
                        go_simp
                        with_reducible rfl
                      rotate_left
                      · simp only [Act.put, List.setIfInBounds_toArray, List.set_cons_zero, List.set_cons_succ, i64_w, i32_w]
                        rfl
                      refine one_ (i := 1) (N := some 18) #[true, true, false, false, false, false, false, false, false, false, false, false, false, false, false, false, false] rfl rfl (one_of HT_.out (by kernel_rfl)) (by decide) (fun K hK => ?_)
                      refine goes_ Try.func29 (by kernel_rfl) rfl #[.agg #[.string ((rd_T51 l0 x12_1).f0), .int .i64 ((rd_T51 l0 x12_1).f1), .int .i64 ((rd_T51 l0 x12_1).f2), .int .i64 ((rd_T51 l0 x12_1).f3.f0), .int .i64 ((rd_T51 l0 x12_1).f3.f1), .int .i64 ((rd_T51 l0 x12_1).f3.f2), .int .i64 ((rd_T51 l0 x12_1).f3.f3), .slice A172_7 ((rd_T51 l0 x12_1).f3.f4).length c172_7, .bool ((rd_T51 l0 x12_1).f3.f5)]] (by rfl) rfl rfl (by (try simp only [List.map_toArray, List.map_cons, List.map_nil]); first | done | rfl | (simp only [List.length_drop, List.length_take]; rfl)) ?_
                      with_reducible refine (spec_GoodEntry.calls k1 ((rd_T51 l0 x12_1).f0) ((rd_T51 l0 x12_1).f1) ((rd_T51 l0 x12_1).f2) ((rd_T51 l0 x12_1).f3.f0) ((rd_T51 l0 x12_1).f3.f1) ((rd_T51 l0 x12_1).f3.f2) ((rd_T51 l0 x12_1).f3.f3) _ _ ((rd_T51 l0 x12_1).f3.f4) ((rd_T51 l0 x12_1).f3.f5) true _ ?side1 ?side2 A5.out).mono ?_
                      (case side1 => repeat (first | exact (Kd.C_below HR172_7.out HB.out) | (with_reducible refine Kd.C_alloc ?_ _) | (with_reducible refine Kd.C_drewN ?_ _) | (with_reducible refine Kd.C_drew ?_)))
                      (case side2 => exact HC172_7.out)
                      rintro e w26 ⟨rfl, hb⟩
                      refine ⟨_, rfl, ?_⟩
                      have n0_ := Aside0.mk (Kd.R_below (by (with_reducible repeat (first | apply Kd.R_alloc | apply Kd.R_drewN | apply Kd.R_drew)); exact HO_3.out) hb)
                      have n1_ := Aside0.mk (blk_below (g := gb173) (o := .cells #[.string ((rd_T51 l0 x12_1).f0), .int .i64 ((rd_T51 l0 x12_1).f1), .int .i64 ((rd_T51 l0 x12_1).f2), .int .i64 ((rd_T51 l0 x12_1).f3.f0), .int .i64 ((rd_T51 l0 x12_1).f3.f1), .int .i64 ((rd_T51 l0 x12_1).f3.f2), .int .i64 ((rd_T51 l0 x12_1).f3.f3), .slice A172_7 ((rd_T51 l0 x12_1).f3.f4).length c172_7, .bool ((rd_T51 l0 x12_1).f3.f5)] 51 (0, 0)) (by (with_reducible repeat (first | refine blk_drewN ?_ _ | refine blk_drew ?_ | refine blk_alloc ?_ _)); exact BK173.out) hb)
                      have n2_ := Aside0.mk (below_step (by repeat (first | (with_reducible first | exact HB.out | apply below_alloc | apply pw_below_drewN | apply below_drew1 | refine below_set ?_ GE173.out) | exact HB.out)) hb)
                      clear HO_3
                      clear BK173
                      clear HB
                      have HO_3 := n0_
                      have BK173 := n1_
                      have HB := n2_
                      clear n0_ n1_ n2_
                      (try clear hb)
                      (try clear hb2)
                      (try clear hk)
                      (try clear hi)
                      refine hK.out _ _ ⟨(blk_cell BK173.out 0).trans rfl, (blk_cell BK173.out 1).trans rfl, (blk_cell BK173.out 2).trans rfl, (blk_cell BK173.out 3).trans rfl, (blk_cell BK173.out 4).trans rfl, (blk_cell BK173.out 5).trans rfl, (blk_cell BK173.out 6).trans rfl, (blk_cell BK173.out 7).trans rfl, (blk_cell BK173.out 8).trans rfl, ((HB.out.cell (World.block_lt_of_cell? w _ hw175_0)).trans hw175_0), ((HB.out.cell (World.block_lt_of_cell? w _ hw175_1)).trans hw175_1), ((HB.out.cell (World.block_lt_of_cell? w _ hw175_2)).trans hw175_2), ((HB.out.cell (World.block_lt_of_cell? w _ hw175_3)).trans hw175_3), ((HB.out.cell (World.block_lt_of_cell? w _ hw175_4)).trans hw175_4), ((HB.out.cell (World.block_lt_of_cell? w _ hw175_5)).trans hw175_5), ((HB.out.cell (World.block_lt_of_cell? w _ hw175_6)).trans hw175_6), ((HB.out.cell (World.block_lt_of_cell? w _ hw175_7)).trans hw175_7), ((HB.out.cell (World.block_lt_of_cell? w _ hw175_8)).trans hw175_8)⟩ (fun hHeld => ?_)
                      clear hK K
                      refine norm_ (a' := ?_) ?_ ?_
                      rotate_left
                      · show Act.put _ (some 18) _ = _
                        simp only [Act.put, List.setIfInBounds_toArray, List.set_cons_zero, List.set_cons_succ, i64_w, i32_w]
                        rfl
                      refine pure_ (i := 2) (N := some 19) (v := ?_) (a' := ?_) #[true, true, true, false, false, false, false, false, false, false, false, false, false, false, false, false, false] rfl rfl (any_of HT_.out (by kernel_rfl)) (fun _ _ _ h => h) (Or.inl ⟨by rfl, ?_⟩) ?_ ?_
                      rotate_left
                      · intro w'
                        go_simp
                        with_reducible rfl
                      rotate_left
                      · simp only [Act.put, List.setIfInBounds_toArray, List.set_cons_zero, List.set_cons_succ, i64_w, i32_w]
                        rfl
                      refine pure_ (i := 3) (N := some 20) (v := ?_) (a' := ?_) #[true, true, true, true, false, false, false, false, false, false, false, false, false, false, false, false, false] rfl rfl (any_of HT_.out (by kernel_rfl)) (fun _ _ _ h => h) (Or.inl ⟨by rfl, ?_⟩) ?_ ?_
                      rotate_left
                      · intro w'
                        go_simp
                        with_reducible rfl
                      rotate_left
                      · simp only [Act.put, List.setIfInBounds_toArray, List.set_cons_zero, List.set_cons_succ, i64_w, i32_w]
                        rfl
                      refine pure_ (i := 4) (N := some 21) (v := ?_) (a' := ?_) #[true, true, true, true, true, false, false, false, false, false, false, false, false, false, false, false, false] rfl rfl (any_of HT_.out (by kernel_rfl)) (fun _ _ _ h => h) (Or.inl ⟨by rfl, ?_⟩) ?_ ?_
                      rotate_left
                      · intro w'
                        go_simp
                        with_reducible rfl
                      rotate_left
                      · simp only [Act.put, List.setIfInBounds_toArray, List.set_cons_zero, List.set_cons_succ, i64_w, i32_w]
                        rfl
                      refine pure_ (i := 5) (N := some 22) (v := ?_) (a' := ?_) #[true, true, true, true, true, true, false, false, false, false, false, false, false, false, false, false, false] rfl rfl (any_of HT_.out (by kernel_rfl)) (fun _ _ _ h => h) (Or.inl ⟨by rfl, ?_⟩) ?_ ?_
                      rotate_left
                      · intro w'
                        go_simp
                        with_reducible rfl
                      rotate_left
                      · simp only [Act.put, List.setIfInBounds_toArray, List.set_cons_zero, List.set_cons_succ, i64_w, i32_w]
                        rfl
                      refine pure_ (i := 6) (N := some 23) (v := ?_) (a' := ?_) #[true, true, true, true, true, true, true, false, false, false, false, false, false, false, false, false, false] rfl rfl (any_of HT_.out (by kernel_rfl)) (fun _ _ _ h => h) (Or.inl ⟨by rfl, ?_⟩) ?_ ?_
                      rotate_left
                      · intro w'
                        go_simp
                        with_reducible rfl
                      rotate_left
                      · simp only [Act.put, List.setIfInBounds_toArray, List.set_cons_zero, List.set_cons_succ, i64_w, i32_w]
                        rfl
                      refine pure_ (i := 7) (N := some 24) (v := ?_) (a' := ?_) #[true, true, true, true, true, true, true, true, false, false, false, false, false, false, false, false, false] rfl rfl (any_of HT_.out (by kernel_rfl)) (fun _ _ _ h => h) (Or.inl ⟨by rfl, ?_⟩) ?_ ?_
                      rotate_left
                      · intro w'
                        go_simp
                        with_reducible rfl
                      rotate_left
                      · simp only [Act.put, List.setIfInBounds_toArray, List.set_cons_zero, List.set_cons_succ, i64_w, i32_w]
                        rfl
                      refine pure_ (i := 8) (N := some 25) (v := ?_) (a' := ?_) #[true, true, true, true, true, true, true, true, true, false, false, false, false, false, false, false, false] rfl rfl (any_of HT_.out (by kernel_rfl)) (fun _ _ _ h => h) (Or.inl ⟨by rfl, ?_⟩) ?_ ?_
                      rotate_left
                      · intro w'
                        go_simp
                        with_reducible rfl
                      rotate_left
                      · simp only [Act.put, List.setIfInBounds_toArray, List.set_cons_zero, List.set_cons_succ, i64_w, i32_w]
                        rfl
                      refine pure_ (i := 9) (N := some 26) (v := ?_) (a' := ?_) #[true, true, true, true, true, true, true, true, true, true, false, false, false, false, false, false, false] rfl rfl (any_of HT_.out (by kernel_rfl)) (fun _ _ _ h => h) (Or.inl ⟨by rfl, ?_⟩) ?_ ?_
                      rotate_left
                      · intro w'
                        go_simp
                        with_reducible rfl
                      rotate_left
                      · simp only [Act.put, List.setIfInBounds_toArray, List.set_cons_zero, List.set_cons_succ, i64_w, i32_w]
                        rfl
                      refine pure_ (i := 10) (N := some 27) (v := ?_) (a' := ?_) #[true, true, true, true, true, true, true, true, true, true, true, false, false, false, false, false, false] rfl rfl (any_of HT_.out (by kernel_rfl)) (fun _ _ _ h => h) (Or.inl ⟨by rfl, ?_⟩) ?_ ?_
                      rotate_left
                      · intro w'
                        go_simp
                        with_reducible rfl
                      rotate_left
                      · simp only [Act.put, List.setIfInBounds_toArray, List.set_cons_zero, List.set_cons_succ, i64_w, i32_w]
                        rfl
                      refine take_ (i := 11) (N := some 28) (v := ?_) (a' := ?_) #[true, true, true, true, true, true, true, true, true, true, true, true, false, false, false, false, false] rfl rfl (take_ofW HT_.out HW_.out (by kernel_rfl)) (fun _ _ _ h => h) (Or.inl ⟨by rfl, ?_⟩) hHeld ?_ ?_
                      rotate_left
                      · rintro w' ⟨s0, s1, s2, s3, s4, s5, s6, s7, s8, s9, s10, s11, s12, s13, s14, s15, s16, s17⟩
                        go_simp
                        with_reducible rfl
                      rotate_left
                      · simp only [Act.put, List.setIfInBounds_toArray, List.set_cons_zero, List.set_cons_succ, i64_w, i32_w]
                        rfl
                      refine take_ (i := 12) (N := some 29) (v := ?_) (a' := ?_) #[true, true, true, true, true, true, true, true, true, true, true, true, true, false, false, false, false] rfl rfl (take_ofW HT_.out HW_.out (by kernel_rfl)) (fun _ _ _ h => h) (Or.inl ⟨by rfl, ?_⟩) hHeld ?_ ?_
                      rotate_left
                      · rintro w' ⟨s0, s1, s2, s3, s4, s5, s6, s7, s8, s9, s10, s11, s12, s13, s14, s15, s16, s17⟩
                        go_simp
                        with_reducible rfl
                      rotate_left
                      · simp only [Act.put, List.setIfInBounds_toArray, List.set_cons_zero, List.set_cons_succ, i64_w, i32_w]
                        rfl
                      refine one_ (i := 13) (N := some 30) #[true, true, true, true, true, true, true, true, true, true, true, true, true, true, false, false, false] rfl rfl (one_of HT_.out (by kernel_rfl)) (by decide) (fun K hK => ?_)
                      refine goes_ Try.func30 (by kernel_rfl) rfl #[.agg #[.string ((rd_T51 l0 (ji8)).f0), .int .i64 ((rd_T51 l0 (ji8)).f1), .int .i64 ((rd_T51 l0 (ji8)).f2), .int .i64 ((rd_T51 l0 (ji8)).f3.f0), .int .i64 ((rd_T51 l0 (ji8)).f3.f1), .int .i64 ((rd_T51 l0 (ji8)).f3.f2), .int .i64 ((rd_T51 l0 (ji8)).f3.f3), .slice A175_7 ((rd_T51 l0 (ji8)).f3.f4).length c175_7, .bool ((rd_T51 l0 (ji8)).f3.f5)], .agg #[.string ((rd_T51 l0 x12_1).f0), .int .i64 ((rd_T51 l0 x12_1).f1), .int .i64 ((rd_T51 l0 x12_1).f2), .int .i64 ((rd_T51 l0 x12_1).f3.f0), .int .i64 ((rd_T51 l0 x12_1).f3.f1), .int .i64 ((rd_T51 l0 x12_1).f3.f2), .int .i64 ((rd_T51 l0 x12_1).f3.f3), .slice A172_7 ((rd_T51 l0 x12_1).f3.f4).length c172_7, .bool ((rd_T51 l0 x12_1).f3.f5)]] (by rfl) rfl rfl (by (try simp only [List.map_toArray, List.map_cons, List.map_nil]); first | done | (simp only [hji8]; rfl) | rfl | (simp only [List.length_drop, List.length_take]; rfl)) ?_
                      with_reducible refine (spec_l5Before.calls ((rd_T51 l0 (ji8)).f0) ((rd_T51 l0 (ji8)).f1) ((rd_T51 l0 (ji8)).f2) ((rd_T51 l0 (ji8)).f3.f0) ((rd_T51 l0 (ji8)).f3.f1) ((rd_T51 l0 (ji8)).f3.f2) ((rd_T51 l0 (ji8)).f3.f3) _ _ ((rd_T51 l0 (ji8)).f3.f4) ((rd_T51 l0 (ji8)).f3.f5) ((rd_T51 l0 x12_1).f0) ((rd_T51 l0 x12_1).f1) ((rd_T51 l0 x12_1).f2) ((rd_T51 l0 x12_1).f3.f0) ((rd_T51 l0 x12_1).f3.f1) ((rd_T51 l0 x12_1).f3.f2) ((rd_T51 l0 x12_1).f3.f3) _ _ ((rd_T51 l0 x12_1).f3.f4) ((rd_T51 l0 x12_1).f3.f5) false _ ?side1 ?side2 ?side3 ?side4 A11.out).mono ?_
                      (case side1 => repeat (first | exact (Kd.C_below HR175_7.out HB.out) | (with_reducible refine Kd.C_alloc ?_ _) | (with_reducible refine Kd.C_drewN ?_ _) | (with_reducible refine Kd.C_drew ?_)))
                      (case side2 => exact HC175_7.out)
                      (case side3 => repeat (first | exact (Kd.C_below HR172_7.out HB.out) | (with_reducible refine Kd.C_alloc ?_ _) | (with_reducible refine Kd.C_drewN ?_ _) | (with_reducible refine Kd.C_drew ?_)))
                      (case side4 => exact HC172_7.out)
                      rintro e w27 ⟨rfl, hb⟩
                      refine ⟨_, rfl, ?_⟩
                      have n0_ := Aside0.mk (Kd.R_below (by (with_reducible repeat (first | apply Kd.R_alloc | apply Kd.R_drewN | apply Kd.R_drew)); exact HO_3.out) hb)
                      have n1_ := Aside0.mk (blk_below (g := gb173) (o := .cells #[.string ((rd_T51 l0 x12_1).f0), .int .i64 ((rd_T51 l0 x12_1).f1), .int .i64 ((rd_T51 l0 x12_1).f2), .int .i64 ((rd_T51 l0 x12_1).f3.f0), .int .i64 ((rd_T51 l0 x12_1).f3.f1), .int .i64 ((rd_T51 l0 x12_1).f3.f2), .int .i64 ((rd_T51 l0 x12_1).f3.f3), .slice A172_7 ((rd_T51 l0 x12_1).f3.f4).length c172_7, .bool ((rd_T51 l0 x12_1).f3.f5)] 51 (0, 0)) (by (with_reducible repeat (first | refine blk_drewN ?_ _ | refine blk_drew ?_ | refine blk_alloc ?_ _)); exact BK173.out) hb)
                      have n2_ := Aside0.mk (below_step (by repeat (first | (with_reducible first | exact HB.out | apply below_alloc | apply pw_below_drewN | apply below_drew1 | refine below_set ?_ GE173.out) | exact HB.out)) hb)
                      clear HO_3
                      clear BK173
                      clear HB
                      have HO_3 := n0_
                      have BK173 := n1_
                      have HB := n2_
                      clear n0_ n1_ n2_
                      (try clear hb)
                      (try clear hb2)
                      (try clear hk)
                      (try clear hi)
                      refine hK.out _ _ ⟨(blk_cell BK173.out 0).trans rfl, (blk_cell BK173.out 1).trans rfl, (blk_cell BK173.out 2).trans rfl, (blk_cell BK173.out 3).trans rfl, (blk_cell BK173.out 4).trans rfl, (blk_cell BK173.out 5).trans rfl, (blk_cell BK173.out 6).trans rfl, (blk_cell BK173.out 7).trans rfl, (blk_cell BK173.out 8).trans rfl, ((HB.out.cell (World.block_lt_of_cell? w _ hw175_0)).trans hw175_0), ((HB.out.cell (World.block_lt_of_cell? w _ hw175_1)).trans hw175_1), ((HB.out.cell (World.block_lt_of_cell? w _ hw175_2)).trans hw175_2), ((HB.out.cell (World.block_lt_of_cell? w _ hw175_3)).trans hw175_3), ((HB.out.cell (World.block_lt_of_cell? w _ hw175_4)).trans hw175_4), ((HB.out.cell (World.block_lt_of_cell? w _ hw175_5)).trans hw175_5), ((HB.out.cell (World.block_lt_of_cell? w _ hw175_6)).trans hw175_6), ((HB.out.cell (World.block_lt_of_cell? w _ hw175_7)).trans hw175_7), ((HB.out.cell (World.block_lt_of_cell? w _ hw175_8)).trans hw175_8)⟩ (fun hHeld => ?_)
                      clear hK K
                      refine norm_ (a' := ?_) ?_ ?_
                      rotate_left
                      · show Act.put _ (some 30) _ = _
                        simp only [Act.put, List.setIfInBounds_toArray, List.set_cons_zero, List.set_cons_succ, i64_w, i32_w]
                        rfl
                      refine pure_ (i := 14) (N := some 31) (v := ?_) (a' := ?_) #[true, true, true, true, true, true, true, true, true, true, true, true, true, true, true, false, false] rfl rfl (any_of HT_.out (by kernel_rfl)) (fun _ _ _ h => h) (Or.inl ⟨by rfl, ?_⟩) ?_ ?_
                      rotate_left
                      · intro w'
                        go_simp
                        with_reducible rfl
                      rotate_left
                      · simp only [Act.put, List.setIfInBounds_toArray, List.set_cons_zero, List.set_cons_succ, i64_w, i32_w]
                        rfl
                      refine pure_ (i := 15) (N := some 32) (v := ?_) (a' := ?_) #[true, true, true, true, true, true, true, true, true, true, true, true, true, true, true, true, false] rfl rfl (any_of HT_.out (by kernel_rfl)) (fun _ _ _ h => h) (Or.inl ⟨by rfl, ?_⟩) ?_ ?_
                      rotate_left
                      · intro w'
                        go_simp
                        with_reducible rfl
                      rotate_left
                      · simp only [Act.put, List.setIfInBounds_toArray, List.set_cons_zero, List.set_cons_succ, i64_w, i32_w]
                        rfl
                      refine pure_ (i := 16) (N := some 33) (v := ?_) (a' := ?_) #[true, true, true, true, true, true, true, true, true, true, true, true, true, true, true, true, true] rfl rfl (any_of HT_.out (by kernel_rfl)) (fun _ _ _ h => h) (Or.inl ⟨by rfl, ?_⟩) ?_ ?_
                      rotate_left
                      · intro w'
                        go_simp
                        with_reducible rfl
                      rotate_left
                      · simp only [Act.put, List.setIfInBounds_toArray, List.set_cons_zero, List.set_cons_succ, i64_w, i32_w]
                        rfl
                      refine done_ (done_of HT_.out (by kernel_rfl)) ?_
                      try go_wp2
                      go_ret
                      exact ⟨by first | rfl | (simp [errW_none, errW_some] <;> rfl) | (simp only [← hji8]; first | rfl | (simp [errW_none, errW_some] <;> rfl)) | (simp [*, errW_none, errW_some] <;> rfl), by repeat (first | (with_reducible first | exact HB.out | apply below_alloc | apply pw_below_drewN | apply below_drew1 | refine below_set ?_ GE173.out) | exact HB.out)⟩
                  · rw [if_neg c10] at H
                    exact absurd H (by simp)
                · rw [if_neg c9] at H
                  exact absurd H (by simp)
              · rw [if_neg c7] at H
                have c7b0 : decide (0 < x12_1) = false := decide_eq_false c7
                clear c7
                by_cases c28 : x3_1.length < 17592186044416
                · rw [if_pos c28] at H
                  have LMc28 := Aside0.mk c28
                  clear c28
                  obtain ⟨y180, hy180⟩ : ∃ y_ : List Int, y_ = (x3_1 ++ [(rd_T51 l0 x12_1).f1]) := ⟨_, rfl⟩
                  replace H : (spec_GoodEntries.l0 k1 l0 y180 l0 (l0.length : Int) (wrap64 (x12_1 + 1))) = some r := by first | (rw [hy180]; with_reducible exact H) | (have H2_ := (Option.bind_some _ _).symm.trans H; rw [hy180]; with_reducible exact H2_) | (have H2_ := (Option.bind_some _ _).symm.trans H; with_reducible exact H2_) | with_reducible exact H | (rw [hy180]; exact H) | exact H
                  have Ny180 := Aside0.mk hy180
                  clear hy180
                  have H' := Aside0.mk H
                  clear H
                  have p172 : 0 ≤ (x12_1 : Int) := of_decide_eq_true (by first | (with_reducible assumption) | assumption)
                  have q172 : x12_1 < (l0.length : Int) := of_decide_eq_true (by first | (with_reducible assumption) | assumption)
                  obtain ⟨ad172, A172_7, c172_7, e172, hx172_0, hx172_1, hx172_2, hx172_3, hx172_4, hx172_5, hx172_6, hx172_7, hx172_8, hl172_7, hi172_7⟩ := at_T51 HR0.out x12_1 p172 q172
                  cases e172
                  try (replace hx172_0 := (HB.out.cell (World.block_lt_of_cell? w _ hx172_0)).trans hx172_0)
                  try (replace hx172_1 := (HB.out.cell (World.block_lt_of_cell? w _ hx172_1)).trans hx172_1)
                  try (replace hx172_2 := (HB.out.cell (World.block_lt_of_cell? w _ hx172_2)).trans hx172_2)
                  try (replace hx172_3 := (HB.out.cell (World.block_lt_of_cell? w _ hx172_3)).trans hx172_3)
                  try (replace hx172_4 := (HB.out.cell (World.block_lt_of_cell? w _ hx172_4)).trans hx172_4)
                  try (replace hx172_5 := (HB.out.cell (World.block_lt_of_cell? w _ hx172_5)).trans hx172_5)
                  try (replace hx172_6 := (HB.out.cell (World.block_lt_of_cell? w _ hx172_6)).trans hx172_6)
                  try (replace hx172_7 := (HB.out.cell (World.block_lt_of_cell? w _ hx172_7)).trans hx172_7)
                  try (replace hx172_8 := (HB.out.cell (World.block_lt_of_cell? w _ hx172_8)).trans hx172_8)
                  have HR172_7 := Aside0.mk hi172_7
                  have HC172_7 := Aside0.mk hl172_7
                  clear hi172_7 hl172_7
                  replace p172 := eq_true p172
                  replace q172 := eq_true q172
                  try go_wp2_with (first | ((with_reducible refine gate_dst (N := 5) rfl ?_); refine box_event ?hg (N := 5) ?hd (cs := #[.string (⟨#[]⟩ : ByteArray), .int .i64 0, .int .i64 0, .int .i64 0, .int .i64 0, .int .i64 0, .int .i64 0, .slice none 0 0, .bool false]) (t := 51) ?hr ?_; (case hd => rfl); (case hg => rfl); (case hr => first | (go_simp; done) | (go_simp; rfl)); intro gb173 hg w29 hbox hb; have n0_ := Aside0.mk (Kd.R_below (by (with_reducible repeat (first | apply Kd.R_alloc | apply Kd.R_drewN | apply Kd.R_drew)); exact HO_3.out) hb); have n1_ := Aside0.mk (below_step (by repeat (first | (with_reducible first | exact HB.out | apply below_alloc | apply pw_below_drewN | apply below_drew1) | exact HB.out)) hb); have n2_ := Aside0.mk (hbox); have n3_ := Aside0.mk ((by rw [hg]; exact (below_size (by repeat (first | (with_reducible first | exact HB.out | apply below_alloc | apply pw_below_drewN | apply below_drew1) | exact HB.out))) : w.heap.size ≤ gb173)); have n4_ := Aside0.mk ((by rw [hg]; exact (below_size (by repeat (first | (with_reducible first | exact HB.out | apply below_alloc | apply pw_below_drewN | apply below_drew1) | exact HB.out))) : w.heap.size ≤ gb173)); clear HO_3; clear HB; have HO_3 := n0_; have HB := n1_; have BK173 := n2_; have GW173 := n3_; have GE173 := n4_; clear n0_ n1_ n2_ n3_ n4_; clear hb hbox hg; have hcz30_0 : w29.cell? ⟨gb173, 0, none⟩ = some (.string (⟨#[]⟩ : ByteArray)) := (blk_cell BK173.out 0).trans rfl; have hcz30_1 : w29.cell? ⟨gb173, 1, none⟩ = some (.int .i64 0) := (blk_cell BK173.out 1).trans rfl; have hcz30_2 : w29.cell? ⟨gb173, 2, none⟩ = some (.int .i64 0) := (blk_cell BK173.out 2).trans rfl; have hcz30_3 : w29.cell? ⟨gb173, 3, none⟩ = some (.int .i64 0) := (blk_cell BK173.out 3).trans rfl; have hcz30_4 : w29.cell? ⟨gb173, 4, none⟩ = some (.int .i64 0) := (blk_cell BK173.out 4).trans rfl; have hcz30_5 : w29.cell? ⟨gb173, 5, none⟩ = some (.int .i64 0) := (blk_cell BK173.out 5).trans rfl; have hcz30_6 : w29.cell? ⟨gb173, 6, none⟩ = some (.int .i64 0) := (blk_cell BK173.out 6).trans rfl; have hcz30_7 : w29.cell? ⟨gb173, 7, none⟩ = some (.slice none 0 0) := (blk_cell BK173.out 7).trans rfl; have hcz30_8 : w29.cell? ⟨gb173, 8, none⟩ = some (.bool false) := (blk_cell BK173.out 8).trans rfl; have hfz30_0 := blk_frozen BK173.out 0; have hfz30_1 := blk_frozen BK173.out 1; have hfz30_2 := blk_frozen BK173.out 2; have hfz30_3 := blk_frozen BK173.out 3; have hfz30_4 := blk_frozen BK173.out 4; have hfz30_5 := blk_frozen BK173.out 5; have hfz30_6 := blk_frozen BK173.out 6; have hfz30_7 := blk_frozen BK173.out 7; have hfz30_8 := blk_frozen BK173.out 8))
                  have n0_ : Aside0 (Kd.R (Kd.int .i64) 3 (((((((((w29.setCell ⟨gb173, 0, none⟩ (.string ((rd_T51 l0 x12_1).f0))).setCell ⟨gb173, 1, none⟩ (.int .i64 ((rd_T51 l0 x12_1).f1))).setCell ⟨gb173, 2, none⟩ (.int .i64 ((rd_T51 l0 x12_1).f2))).setCell ⟨gb173, 3, none⟩ (.int .i64 ((rd_T51 l0 x12_1).f3.f0))).setCell ⟨gb173, 4, none⟩ (.int .i64 ((rd_T51 l0 x12_1).f3.f1))).setCell ⟨gb173, 5, none⟩ (.int .i64 ((rd_T51 l0 x12_1).f3.f2))).setCell ⟨gb173, 6, none⟩ (.int .i64 ((rd_T51 l0 x12_1).f3.f3))).setCell ⟨gb173, 7, none⟩ (.slice A172_7 ((rd_T51 l0 x12_1).f3.f4).length c172_7)).setCell ⟨gb173, 8, none⟩ (.bool ((rd_T51 l0 x12_1).f3.f5))) w.heap.size (fun _ => True) u3 x3_1) := ⟨by (with_reducible repeat (first | apply Kd.R_alloc | apply Kd.R_drewN | apply Kd.R_drew)); exact Kd.R_mono (Kd.R_far (p := ⟨gb173, 8, none⟩) (Kd.R_far (p := ⟨gb173, 7, none⟩) (Kd.R_far (p := ⟨gb173, 6, none⟩) (Kd.R_far (p := ⟨gb173, 5, none⟩) (Kd.R_far (p := ⟨gb173, 4, none⟩) (Kd.R_far (p := ⟨gb173, 3, none⟩) (Kd.R_far (p := ⟨gb173, 2, none⟩) (Kd.R_far (p := ⟨gb173, 1, none⟩) (Kd.R_far (p := ⟨gb173, 0, none⟩) (Kd.R_types HO_3.out BK173.out (by decide)) (fun _ hk => hk.2) (.string ((rd_T51 l0 x12_1).f0))) (fun _ hk => hk.2) (.int .i64 ((rd_T51 l0 x12_1).f1))) (fun _ hk => hk.2) (.int .i64 ((rd_T51 l0 x12_1).f2))) (fun _ hk => hk.2) (.int .i64 ((rd_T51 l0 x12_1).f3.f0))) (fun _ hk => hk.2) (.int .i64 ((rd_T51 l0 x12_1).f3.f1))) (fun _ hk => hk.2) (.int .i64 ((rd_T51 l0 x12_1).f3.f2))) (fun _ hk => hk.2) (.int .i64 ((rd_T51 l0 x12_1).f3.f3))) (fun _ hk => hk.2) (.slice A172_7 ((rd_T51 l0 x12_1).f3.f4).length c172_7)) (fun _ hk => hk.2) (.bool ((rd_T51 l0 x12_1).f3.f5))) (fun _ hk => trivial)⟩
                  have n1_ : Aside0 ((((((((((w29.setCell ⟨gb173, 0, none⟩ (.string ((rd_T51 l0 x12_1).f0))).setCell ⟨gb173, 1, none⟩ (.int .i64 ((rd_T51 l0 x12_1).f1))).setCell ⟨gb173, 2, none⟩ (.int .i64 ((rd_T51 l0 x12_1).f2))).setCell ⟨gb173, 3, none⟩ (.int .i64 ((rd_T51 l0 x12_1).f3.f0))).setCell ⟨gb173, 4, none⟩ (.int .i64 ((rd_T51 l0 x12_1).f3.f1))).setCell ⟨gb173, 5, none⟩ (.int .i64 ((rd_T51 l0 x12_1).f3.f2))).setCell ⟨gb173, 6, none⟩ (.int .i64 ((rd_T51 l0 x12_1).f3.f3))).setCell ⟨gb173, 7, none⟩ (.slice A172_7 ((rd_T51 l0 x12_1).f3.f4).length c172_7)).setCell ⟨gb173, 8, none⟩ (.bool ((rd_T51 l0 x12_1).f3.f5))).heap[gb173]? = some (.cells #[.string ((rd_T51 l0 x12_1).f0), .int .i64 ((rd_T51 l0 x12_1).f1), .int .i64 ((rd_T51 l0 x12_1).f2), .int .i64 ((rd_T51 l0 x12_1).f3.f0), .int .i64 ((rd_T51 l0 x12_1).f3.f1), .int .i64 ((rd_T51 l0 x12_1).f3.f2), .int .i64 ((rd_T51 l0 x12_1).f3.f3), .slice A172_7 ((rd_T51 l0 x12_1).f3.f4).length c172_7, .bool ((rd_T51 l0 x12_1).f3.f5)] 51 (0, 0))) := ⟨by (with_reducible repeat (first | refine blk_drewN ?_ _ | refine blk_drew ?_ | refine blk_alloc ?_ _)); refine blk_put (cs := #[.string ((rd_T51 l0 x12_1).f0), .int .i64 ((rd_T51 l0 x12_1).f1), .int .i64 ((rd_T51 l0 x12_1).f2), .int .i64 ((rd_T51 l0 x12_1).f3.f0), .int .i64 ((rd_T51 l0 x12_1).f3.f1), .int .i64 ((rd_T51 l0 x12_1).f3.f2), .int .i64 ((rd_T51 l0 x12_1).f3.f3), .slice A172_7 ((rd_T51 l0 x12_1).f3.f4).length c172_7, .bool false]) ?_ 8 _ rfl; (with_reducible repeat (first | refine blk_drewN ?_ _ | refine blk_drew ?_ | refine blk_alloc ?_ _)); refine blk_put (cs := #[.string ((rd_T51 l0 x12_1).f0), .int .i64 ((rd_T51 l0 x12_1).f1), .int .i64 ((rd_T51 l0 x12_1).f2), .int .i64 ((rd_T51 l0 x12_1).f3.f0), .int .i64 ((rd_T51 l0 x12_1).f3.f1), .int .i64 ((rd_T51 l0 x12_1).f3.f2), .int .i64 ((rd_T51 l0 x12_1).f3.f3), .slice none 0 0, .bool false]) ?_ 7 _ rfl; (with_reducible repeat (first | refine blk_drewN ?_ _ | refine blk_drew ?_ | refine blk_alloc ?_ _)); refine blk_put (cs := #[.string ((rd_T51 l0 x12_1).f0), .int .i64 ((rd_T51 l0 x12_1).f1), .int .i64 ((rd_T51 l0 x12_1).f2), .int .i64 ((rd_T51 l0 x12_1).f3.f0), .int .i64 ((rd_T51 l0 x12_1).f3.f1), .int .i64 ((rd_T51 l0 x12_1).f3.f2), .int .i64 0, .slice none 0 0, .bool false]) ?_ 6 _ rfl; (with_reducible repeat (first | refine blk_drewN ?_ _ | refine blk_drew ?_ | refine blk_alloc ?_ _)); refine blk_put (cs := #[.string ((rd_T51 l0 x12_1).f0), .int .i64 ((rd_T51 l0 x12_1).f1), .int .i64 ((rd_T51 l0 x12_1).f2), .int .i64 ((rd_T51 l0 x12_1).f3.f0), .int .i64 ((rd_T51 l0 x12_1).f3.f1), .int .i64 0, .int .i64 0, .slice none 0 0, .bool false]) ?_ 5 _ rfl; (with_reducible repeat (first | refine blk_drewN ?_ _ | refine blk_drew ?_ | refine blk_alloc ?_ _)); refine blk_put (cs := #[.string ((rd_T51 l0 x12_1).f0), .int .i64 ((rd_T51 l0 x12_1).f1), .int .i64 ((rd_T51 l0 x12_1).f2), .int .i64 ((rd_T51 l0 x12_1).f3.f0), .int .i64 0, .int .i64 0, .int .i64 0, .slice none 0 0, .bool false]) ?_ 4 _ rfl; (with_reducible repeat (first | refine blk_drewN ?_ _ | refine blk_drew ?_ | refine blk_alloc ?_ _)); refine blk_put (cs := #[.string ((rd_T51 l0 x12_1).f0), .int .i64 ((rd_T51 l0 x12_1).f1), .int .i64 ((rd_T51 l0 x12_1).f2), .int .i64 0, .int .i64 0, .int .i64 0, .int .i64 0, .slice none 0 0, .bool false]) ?_ 3 _ rfl; (with_reducible repeat (first | refine blk_drewN ?_ _ | refine blk_drew ?_ | refine blk_alloc ?_ _)); refine blk_put (cs := #[.string ((rd_T51 l0 x12_1).f0), .int .i64 ((rd_T51 l0 x12_1).f1), .int .i64 0, .int .i64 0, .int .i64 0, .int .i64 0, .int .i64 0, .slice none 0 0, .bool false]) ?_ 2 _ rfl; (with_reducible repeat (first | refine blk_drewN ?_ _ | refine blk_drew ?_ | refine blk_alloc ?_ _)); refine blk_put (cs := #[.string ((rd_T51 l0 x12_1).f0), .int .i64 0, .int .i64 0, .int .i64 0, .int .i64 0, .int .i64 0, .int .i64 0, .slice none 0 0, .bool false]) ?_ 1 _ rfl; (with_reducible repeat (first | refine blk_drewN ?_ _ | refine blk_drew ?_ | refine blk_alloc ?_ _)); refine blk_put (cs := #[.string (⟨#[]⟩ : ByteArray), .int .i64 0, .int .i64 0, .int .i64 0, .int .i64 0, .int .i64 0, .int .i64 0, .slice none 0 0, .bool false]) ?_ 0 _ rfl; (with_reducible repeat (first | refine blk_drewN ?_ _ | refine blk_drew ?_ | refine blk_alloc ?_ _)); exact BK173.out⟩
                  have n2_ : Aside0 (Below w.heap.size w (((((((((w29.setCell ⟨gb173, 0, none⟩ (.string ((rd_T51 l0 x12_1).f0))).setCell ⟨gb173, 1, none⟩ (.int .i64 ((rd_T51 l0 x12_1).f1))).setCell ⟨gb173, 2, none⟩ (.int .i64 ((rd_T51 l0 x12_1).f2))).setCell ⟨gb173, 3, none⟩ (.int .i64 ((rd_T51 l0 x12_1).f3.f0))).setCell ⟨gb173, 4, none⟩ (.int .i64 ((rd_T51 l0 x12_1).f3.f1))).setCell ⟨gb173, 5, none⟩ (.int .i64 ((rd_T51 l0 x12_1).f3.f2))).setCell ⟨gb173, 6, none⟩ (.int .i64 ((rd_T51 l0 x12_1).f3.f3))).setCell ⟨gb173, 7, none⟩ (.slice A172_7 ((rd_T51 l0 x12_1).f3.f4).length c172_7)).setCell ⟨gb173, 8, none⟩ (.bool ((rd_T51 l0 x12_1).f3.f5)))) := ⟨by repeat (first | (with_reducible first | exact HB.out | apply below_alloc | apply pw_below_drewN | apply below_drew1 | refine below_set ?_ GE173.out) | exact HB.out)⟩
                  (try clear HO_3)
                  (try clear BK173)
                  (try clear HB)
                  generalize (((((((((w29.setCell ⟨gb173, 0, none⟩ (.string ((rd_T51 l0 x12_1).f0))).setCell ⟨gb173, 1, none⟩ (.int .i64 ((rd_T51 l0 x12_1).f1))).setCell ⟨gb173, 2, none⟩ (.int .i64 ((rd_T51 l0 x12_1).f2))).setCell ⟨gb173, 3, none⟩ (.int .i64 ((rd_T51 l0 x12_1).f3.f0))).setCell ⟨gb173, 4, none⟩ (.int .i64 ((rd_T51 l0 x12_1).f3.f1))).setCell ⟨gb173, 5, none⟩ (.int .i64 ((rd_T51 l0 x12_1).f3.f2))).setCell ⟨gb173, 6, none⟩ (.int .i64 ((rd_T51 l0 x12_1).f3.f3))).setCell ⟨gb173, 7, none⟩ (.slice A172_7 ((rd_T51 l0 x12_1).f3.f4).length c172_7)).setCell ⟨gb173, 8, none⟩ (.bool ((rd_T51 l0 x12_1).f3.f5))) = w31 at n0_ n1_ n2_ ⊢
                  have HO_3 := n0_
                  have BK173 := n1_
                  have HB := n2_
                  clear n0_ n1_ n2_
                  have n0_ := Aside0.mk (Kd.R_drew HO_3.out)
                  have n1_ := Aside0.mk (blk_drew BK173.out)
                  have n2_ := Aside0.mk (below_drew1 HB.out)
                  clear HO_3
                  clear BK173
                  clear HB
                  have HO_3 := n0_
                  have BK173 := n1_
                  have HB := n2_
                  clear n0_ n1_ n2_
                  refine start_ (n := 17) (S := fun w' => w'.cell? ⟨gb173, 0, none⟩ = some (.string ((rd_T51 l0 x12_1).f0)) ∧ w'.cell? ⟨gb173, 1, none⟩ = some (.int .i64 ((rd_T51 l0 x12_1).f1)) ∧ w'.cell? ⟨gb173, 2, none⟩ = some (.int .i64 ((rd_T51 l0 x12_1).f2)) ∧ w'.cell? ⟨gb173, 3, none⟩ = some (.int .i64 ((rd_T51 l0 x12_1).f3.f0)) ∧ w'.cell? ⟨gb173, 4, none⟩ = some (.int .i64 ((rd_T51 l0 x12_1).f3.f1)) ∧ w'.cell? ⟨gb173, 5, none⟩ = some (.int .i64 ((rd_T51 l0 x12_1).f3.f2)) ∧ w'.cell? ⟨gb173, 6, none⟩ = some (.int .i64 ((rd_T51 l0 x12_1).f3.f3)) ∧ w'.cell? ⟨gb173, 7, none⟩ = some (.slice A172_7 ((rd_T51 l0 x12_1).f3.f4).length c172_7) ∧ w'.cell? ⟨gb173, 8, none⟩ = some (.bool ((rd_T51 l0 x12_1).f3.f5))) (ds := []) #[false, false, false, false, false, false, false, false, false, false, false, false, false, false, false, false, false] (by kernel_rfl) rfl rfl ⟨(blk_cell BK173.out 0).trans rfl, (blk_cell BK173.out 1).trans rfl, (blk_cell BK173.out 2).trans rfl, (blk_cell BK173.out 3).trans rfl, (blk_cell BK173.out 4).trans rfl, (blk_cell BK173.out 5).trans rfl, (blk_cell BK173.out 6).trans rfl, (blk_cell BK173.out 7).trans rfl, (blk_cell BK173.out 8).trans rfl⟩ (fun hHeld => ?_); refine with_tabW spec_GoodEntries.tab5 spec_GoodEntries.bits5 (fun HT_ HW_ => ?_)
                  generalize w31.drew = w32 at HO_3 BK173 HB hHeld ⊢
                  refine take_ (i := 0) (N := some 17) (v := ?_) (a' := ?_) #[true, false, false, false, false, false, false, false, false, false, false, false, false, false, false, false, false] rfl rfl (take_ofW HT_.out HW_.out (by kernel_rfl)) (fun _ _ _ h => h) (Or.inl ⟨by rfl, ?_⟩) hHeld ?_ ?_
                  rotate_left
                  · rintro w' ⟨s0, s1, s2, s3, s4, s5, s6, s7, s8⟩
                    go_simp
                    with_reducible rfl
                  rotate_left
                  · simp only [Act.put, List.setIfInBounds_toArray, List.set_cons_zero, List.set_cons_succ, i64_w, i32_w]
                    rfl
                  refine one_ (i := 1) (N := some 18) #[true, true, false, false, false, false, false, false, false, false, false, false, false, false, false, false, false] rfl rfl (one_of HT_.out (by kernel_rfl)) (by decide) (fun K hK => ?_)
                  refine goes_ Try.func29 (by kernel_rfl) rfl #[.agg #[.string ((rd_T51 l0 x12_1).f0), .int .i64 ((rd_T51 l0 x12_1).f1), .int .i64 ((rd_T51 l0 x12_1).f2), .int .i64 ((rd_T51 l0 x12_1).f3.f0), .int .i64 ((rd_T51 l0 x12_1).f3.f1), .int .i64 ((rd_T51 l0 x12_1).f3.f2), .int .i64 ((rd_T51 l0 x12_1).f3.f3), .slice A172_7 ((rd_T51 l0 x12_1).f3.f4).length c172_7, .bool ((rd_T51 l0 x12_1).f3.f5)]] (by rfl) rfl rfl (by (try simp only [List.map_toArray, List.map_cons, List.map_nil]); first | done | rfl | (simp only [List.length_drop, List.length_take]; rfl)) ?_
                  with_reducible refine (spec_GoodEntry.calls k1 ((rd_T51 l0 x12_1).f0) ((rd_T51 l0 x12_1).f1) ((rd_T51 l0 x12_1).f2) ((rd_T51 l0 x12_1).f3.f0) ((rd_T51 l0 x12_1).f3.f1) ((rd_T51 l0 x12_1).f3.f2) ((rd_T51 l0 x12_1).f3.f3) _ _ ((rd_T51 l0 x12_1).f3.f4) ((rd_T51 l0 x12_1).f3.f5) true _ ?side1 ?side2 A5.out).mono ?_
                  (case side1 => repeat (first | exact (Kd.C_below HR172_7.out HB.out) | (with_reducible refine Kd.C_alloc ?_ _) | (with_reducible refine Kd.C_drewN ?_ _) | (with_reducible refine Kd.C_drew ?_)))
                  (case side2 => exact HC172_7.out)
                  rintro e w33 ⟨rfl, hb⟩
                  refine ⟨_, rfl, ?_⟩
                  have n0_ := Aside0.mk (Kd.R_below (by (with_reducible repeat (first | apply Kd.R_alloc | apply Kd.R_drewN | apply Kd.R_drew)); exact HO_3.out) hb)
                  have n1_ := Aside0.mk (blk_below (g := gb173) (o := .cells #[.string ((rd_T51 l0 x12_1).f0), .int .i64 ((rd_T51 l0 x12_1).f1), .int .i64 ((rd_T51 l0 x12_1).f2), .int .i64 ((rd_T51 l0 x12_1).f3.f0), .int .i64 ((rd_T51 l0 x12_1).f3.f1), .int .i64 ((rd_T51 l0 x12_1).f3.f2), .int .i64 ((rd_T51 l0 x12_1).f3.f3), .slice A172_7 ((rd_T51 l0 x12_1).f3.f4).length c172_7, .bool ((rd_T51 l0 x12_1).f3.f5)] 51 (0, 0)) (by (with_reducible repeat (first | refine blk_drewN ?_ _ | refine blk_drew ?_ | refine blk_alloc ?_ _)); exact BK173.out) hb)
                  have n2_ := Aside0.mk (below_step (by repeat (first | (with_reducible first | exact HB.out | apply below_alloc | apply pw_below_drewN | apply below_drew1 | refine below_set ?_ GE173.out) | exact HB.out)) hb)
                  clear HO_3
                  clear BK173
                  clear HB
                  have HO_3 := n0_
                  have BK173 := n1_
                  have HB := n2_
                  clear n0_ n1_ n2_
                  (try clear hb)
                  (try clear hb2)
                  (try clear hk)
                  (try clear hi)
                  refine hK.out _ _ ⟨(blk_cell BK173.out 0).trans rfl, (blk_cell BK173.out 1).trans rfl, (blk_cell BK173.out 2).trans rfl, (blk_cell BK173.out 3).trans rfl, (blk_cell BK173.out 4).trans rfl, (blk_cell BK173.out 5).trans rfl, (blk_cell BK173.out 6).trans rfl, (blk_cell BK173.out 7).trans rfl, (blk_cell BK173.out 8).trans rfl⟩ (fun hHeld => ?_)
                  clear hK K
                  refine norm_ (a' := ?_) ?_ ?_
                  rotate_left
                  · show Act.put _ (some 18) _ = _
                    simp only [Act.put, List.setIfInBounds_toArray, List.set_cons_zero, List.set_cons_succ, i64_w, i32_w]
                    rfl
                  refine pure_ (i := 2) (N := some 19) (v := ?_) (a' := ?_) #[true, true, true, false, false, false, false, false, false, false, false, false, false, false, false, false, false] rfl rfl (any_of HT_.out (by kernel_rfl)) (fun _ _ _ h => h) (Or.inl ⟨by rfl, ?_⟩) ?_ ?_
                  rotate_left
                  · intro w'
                    go_simp
                    with_reducible rfl
                  rotate_left
                  · simp only [Act.put, List.setIfInBounds_toArray, List.set_cons_zero, List.set_cons_succ, i64_w, i32_w]
                    rfl
                  refine pure_ (i := 3) (N := some 20) (v := ?_) (a' := ?_) #[true, true, true, true, false, false, false, false, false, false, false, false, false, false, false, false, false] rfl rfl (any_of HT_.out (by kernel_rfl)) (fun _ _ _ h => h) (Or.inl ⟨by rfl, ?_⟩) ?_ ?_
                  rotate_left
                  · intro w'
                    go_simp
                    with_reducible rfl
                  rotate_left
                  · simp only [Act.put, List.setIfInBounds_toArray, List.set_cons_zero, List.set_cons_succ, i64_w, i32_w]
                    rfl
                  refine pure_ (i := 4) (N := some 21) (v := ?_) (a' := ?_) #[true, true, true, true, true, false, false, false, false, false, false, false, false, false, false, false, false] rfl rfl (any_of HT_.out (by kernel_rfl)) (fun _ _ _ h => h) (Or.inl ⟨by rfl, ?_⟩) ?_ ?_
                  rotate_left
                  · intro w'
                    go_simp
                    with_reducible rfl
                  rotate_left
                  · simp only [Act.put, List.setIfInBounds_toArray, List.set_cons_zero, List.set_cons_succ, i64_w, i32_w]
                    rfl
                  refine pure_ (i := 5) (N := some 22) (v := ?_) (a' := ?_) #[true, true, true, true, true, true, false, false, false, false, false, false, false, false, false, false, false] rfl rfl (any_of HT_.out (by kernel_rfl)) (fun _ _ _ h => h) (Or.inl ⟨by rfl, ?_⟩) ?_ ?_
                  rotate_left
                  · intro w'
                    go_simp
                    with_reducible rfl
                  rotate_left
                  · simp only [Act.put, List.setIfInBounds_toArray, List.set_cons_zero, List.set_cons_succ, i64_w, i32_w]
                    rfl
                  refine pure_ (i := 6) (N := some 23) (v := ?_) (a' := ?_) #[true, true, true, true, true, true, true, false, false, false, false, false, false, false, false, false, false] rfl rfl (any_of HT_.out (by kernel_rfl)) (fun _ _ _ h => h) (Or.inl ⟨by rfl, ?_⟩) ?_ ?_
                  rotate_left
                  · intro w'
                    go_simp
                    with_reducible rfl
                  rotate_left
                  · simp only [Act.put, List.setIfInBounds_toArray, List.set_cons_zero, List.set_cons_succ, i64_w, i32_w]
                    rfl
                  refine pure_ (i := 7) (N := some 24) (v := undef) (a' := ?_) #[true, true, true, true, true, true, true, true, false, false, false, false, false, false, false, false, false] rfl rfl (any_of HT_.out (by kernel_rfl)) (fun _ _ _ h => h) (Or.inr ⟨by rfl, rfl⟩) ?_ ?_
                  rotate_left
                  · simp only [Act.put, List.setIfInBounds_toArray, List.set_cons_zero, List.set_cons_succ, i64_w, i32_w]
                    rfl
                  refine pure_ (i := 8) (N := some 25) (v := undef) (a' := ?_) #[true, true, true, true, true, true, true, true, true, false, false, false, false, false, false, false, false] rfl rfl (any_of HT_.out (by kernel_rfl)) (fun _ _ _ h => h) (Or.inr ⟨by rfl, rfl⟩) ?_ ?_
                  rotate_left
                  · simp only [Act.put, List.setIfInBounds_toArray, List.set_cons_zero, List.set_cons_succ, i64_w, i32_w]
                    rfl
                  refine pure_ (i := 9) (N := some 26) (v := undef) (a' := ?_) #[true, true, true, true, true, true, true, true, true, true, false, false, false, false, false, false, false] rfl rfl (any_of HT_.out (by kernel_rfl)) (fun _ _ _ h => h) (Or.inr ⟨by rfl, rfl⟩) ?_ ?_
                  rotate_left
                  · simp only [Act.put, List.setIfInBounds_toArray, List.set_cons_zero, List.set_cons_succ, i64_w, i32_w]
                    rfl
                  refine pure_ (i := 10) (N := some 27) (v := undef) (a' := ?_) #[true, true, true, true, true, true, true, true, true, true, true, false, false, false, false, false, false] rfl rfl (any_of HT_.out (by kernel_rfl)) (fun _ _ _ h => h) (Or.inr ⟨by rfl, rfl⟩) ?_ ?_
                  rotate_left
                  · simp only [Act.put, List.setIfInBounds_toArray, List.set_cons_zero, List.set_cons_succ, i64_w, i32_w]
                    rfl
                  refine pure_ (i := 11) (N := some 28) (v := undef) (a' := ?_) #[true, true, true, true, true, true, true, true, true, true, true, true, false, false, false, false, false] rfl rfl (any_of HT_.out (by kernel_rfl)) (fun _ _ _ h => h) (Or.inr ⟨by rfl, rfl⟩) ?_ ?_
                  rotate_left
                  · simp only [Act.put, List.setIfInBounds_toArray, List.set_cons_zero, List.set_cons_succ, i64_w, i32_w]
                    rfl
                  refine pure_ (i := 12) (N := some 29) (v := undef) (a' := ?_) #[true, true, true, true, true, true, true, true, true, true, true, true, true, false, false, false, false] rfl rfl (any_of HT_.out (by kernel_rfl)) (fun _ _ _ h => h) (Or.inr ⟨by rfl, rfl⟩) ?_ ?_
                  rotate_left
                  · simp only [Act.put, List.setIfInBounds_toArray, List.set_cons_zero, List.set_cons_succ, i64_w, i32_w]
                    rfl
                  refine pure_ (i := 13) (N := some 30) (v := undef) (a' := ?_) #[true, true, true, true, true, true, true, true, true, true, true, true, true, true, false, false, false] rfl rfl (any_of HT_.out (by kernel_rfl)) (fun _ _ _ h => h) (Or.inr ⟨by rfl, rfl⟩) ?_ ?_
                  rotate_left
                  · simp only [Act.put, List.setIfInBounds_toArray, List.set_cons_zero, List.set_cons_succ, i64_w, i32_w]
                    rfl
                  refine pure_ (i := 14) (N := some 31) (v := undef) (a' := ?_) #[true, true, true, true, true, true, true, true, true, true, true, true, true, true, true, false, false] rfl rfl (any_of HT_.out (by kernel_rfl)) (fun _ _ _ h => h) (Or.inr ⟨by rfl, rfl⟩) ?_ ?_
                  rotate_left
                  · simp only [Act.put, List.setIfInBounds_toArray, List.set_cons_zero, List.set_cons_succ, i64_w, i32_w]
                    rfl
                  refine pure_ (i := 15) (N := some 32) (v := ?_) (a' := ?_) #[true, true, true, true, true, true, true, true, true, true, true, true, true, true, true, true, false] rfl rfl (any_of HT_.out (by kernel_rfl)) (fun _ _ _ h => h) (Or.inl ⟨by rfl, ?_⟩) ?_ ?_
                  rotate_left
                  · intro w'
                    go_simp
                    with_reducible rfl
                  rotate_left
                  · simp only [Act.put, List.setIfInBounds_toArray, List.set_cons_zero, List.set_cons_succ, i64_w, i32_w]
                    rfl
                  refine pure_ (i := 16) (N := some 33) (v := ?_) (a' := ?_) #[true, true, true, true, true, true, true, true, true, true, true, true, true, true, true, true, true] rfl rfl (any_of HT_.out (by kernel_rfl)) (fun _ _ _ h => h) (Or.inl ⟨by rfl, ?_⟩) ?_ ?_
                  rotate_left
                  · intro w'
                    go_simp
                    with_reducible rfl
                  rotate_left
                  · simp only [Act.put, List.setIfInBounds_toArray, List.set_cons_zero, List.set_cons_succ, i64_w, i32_w]
                    rfl
                  refine done_ (done_of HT_.out (by kernel_rfl)) ?_
                  have hcz34_0 : w33.cell? ⟨gb173, 0, none⟩ = some (.string ((rd_T51 l0 x12_1).f0)) := (blk_cell BK173.out 0).trans rfl
                  have hcz34_1 : w33.cell? ⟨gb173, 1, none⟩ = some (.int .i64 ((rd_T51 l0 x12_1).f1)) := (blk_cell BK173.out 1).trans rfl
                  have hcz34_2 : w33.cell? ⟨gb173, 2, none⟩ = some (.int .i64 ((rd_T51 l0 x12_1).f2)) := (blk_cell BK173.out 2).trans rfl
                  have hcz34_3 : w33.cell? ⟨gb173, 3, none⟩ = some (.int .i64 ((rd_T51 l0 x12_1).f3.f0)) := (blk_cell BK173.out 3).trans rfl
                  have hcz34_4 : w33.cell? ⟨gb173, 4, none⟩ = some (.int .i64 ((rd_T51 l0 x12_1).f3.f1)) := (blk_cell BK173.out 4).trans rfl
                  have hcz34_5 : w33.cell? ⟨gb173, 5, none⟩ = some (.int .i64 ((rd_T51 l0 x12_1).f3.f2)) := (blk_cell BK173.out 5).trans rfl
                  have hcz34_6 : w33.cell? ⟨gb173, 6, none⟩ = some (.int .i64 ((rd_T51 l0 x12_1).f3.f3)) := (blk_cell BK173.out 6).trans rfl
                  have hcz34_7 : w33.cell? ⟨gb173, 7, none⟩ = some (.slice A172_7 ((rd_T51 l0 x12_1).f3.f4).length c172_7) := (blk_cell BK173.out 7).trans rfl
                  have hcz34_8 : w33.cell? ⟨gb173, 8, none⟩ = some (.bool ((rd_T51 l0 x12_1).f3.f5)) := (blk_cell BK173.out 8).trans rfl
                  have hfz34_0 := blk_frozen BK173.out 0
                  have hfz34_1 := blk_frozen BK173.out 1
                  have hfz34_2 := blk_frozen BK173.out 2
                  have hfz34_3 := blk_frozen BK173.out 3
                  have hfz34_4 := blk_frozen BK173.out 4
                  have hfz34_5 := blk_frozen BK173.out 5
                  have hfz34_6 := blk_frozen BK173.out 6
                  have hfz34_7 := blk_frozen BK173.out 7
                  have hfz34_8 := blk_frozen BK173.out 8
                  try go_wp2_with (first | ((with_reducible refine gate_builtin (b := .append) (xs := #[.tmp 34, .tmp 37]) rfl ?_); at_builtin; refine Kd.R_append (Kd.int .i64) (w0 := w) w.heap.size rfl (.tmp 34) (.tmp 37) 47 3 (.int .i64 0) 8 rfl Try.underlying47 info3 rfl (by decide) (by omega) u3 x3_1 ((rd_T51 l0 x12_1).f1) [.int .i64 ((rd_T51 l0 x12_1).f1)] (fun _ => True) (fun _ => False) rfl rfl ?aP (fun _ hk => hk.elim) ?aF ?aO ?aB ?aS ?aL ?_; (case aP => exact rfl); (case aB => exact (by repeat (first | (with_reducible first | exact HB.out | apply below_alloc | apply pw_below_drewN | apply below_drew1 | refine below_set ?_ GE173.out) | exact HB.out))); (case aF => exact (fun _ _ => trivial)); (case aO => exact (by (with_reducible repeat (first | apply Kd.R_alloc | apply Kd.R_drewN | apply Kd.R_drew)); exact HO_3.out)); (case aS => exact (below_size (by repeat (first | (with_reducible first | exact HB.out | apply below_alloc | apply pw_below_drewN | apply below_drew1 | refine below_set ?_ GE173.out) | exact HB.out)))); (case aL => have := LMc28.out; omega); intro v181 w35 ho hb hg hat; rw [← Ny180.out] at ho; have n0_ := Aside0.mk (blk_grown (g := gb173) (o := .cells #[.string ((rd_T51 l0 x12_1).f0), .int .i64 ((rd_T51 l0 x12_1).f1), .int .i64 ((rd_T51 l0 x12_1).f2), .int .i64 ((rd_T51 l0 x12_1).f3.f0), .int .i64 ((rd_T51 l0 x12_1).f3.f1), .int .i64 ((rd_T51 l0 x12_1).f3.f2), .int .i64 ((rd_T51 l0 x12_1).f3.f3), .slice A172_7 ((rd_T51 l0 x12_1).f3.f4).length c172_7, .bool ((rd_T51 l0 x12_1).f3.f5)] 51 (0, 0)) (by (with_reducible repeat (first | refine blk_drewN ?_ _ | refine blk_drew ?_ | refine blk_alloc ?_ _)); exact BK173.out) hg (Kd.R_ne HO_3.out BK173.out (by decide))); have n1_ := Aside0.mk (hb); have n2_ := Aside0.mk (ho); clear BK173; clear HB; clear HO_3; have BK173 := n0_; have HB := n1_; have HO182 := n2_; clear n0_ n1_ n2_; clear ho hb hg hat))
                  go_roundg k1
                  case measure => have := HK1.out; omega
                  case rel => exact ⟨(y180), (wrap64 (x12_1 + 1)), (by first | rfl | (simp; done) | (simp [*]; done)), H', ⟨by have := HK1.out; omega⟩, ⟨by (with_reducible repeat (first | apply Kd.R_alloc | apply Kd.R_drewN | apply Kd.R_drew)); exact HO182.out⟩, ⟨by repeat (first | (with_reducible first | exact HB.out | apply below_alloc | apply pw_below_drewN | apply below_drew1 | refine below_set ?_ GE173.out) | exact HB.out)⟩⟩
                · rw [if_neg c28] at H
                  exact absurd H (by simp)
            · replace c6 := Bool.eq_false_iff.mpr c6
              subst c6
              have H1 : (some false) = some r := by rw [if_neg (show ¬ (false = true) by decide)] at H; exact H
              clear H
              have H := H1
              clear H1
              obtain rfl := Option.some.inj H
              have p172 : 0 ≤ (x12_1 : Int) := of_decide_eq_true (by first | (with_reducible assumption) | assumption)
              have q172 : x12_1 < (l0.length : Int) := of_decide_eq_true (by first | (with_reducible assumption) | assumption)
              obtain ⟨ad172, A172_7, c172_7, e172, hx172_0, hx172_1, hx172_2, hx172_3, hx172_4, hx172_5, hx172_6, hx172_7, hx172_8, hl172_7, hi172_7⟩ := at_T51 HR0.out x12_1 p172 q172
              cases e172
              try (replace hx172_0 := (HB.out.cell (World.block_lt_of_cell? w _ hx172_0)).trans hx172_0)
              try (replace hx172_1 := (HB.out.cell (World.block_lt_of_cell? w _ hx172_1)).trans hx172_1)
              try (replace hx172_2 := (HB.out.cell (World.block_lt_of_cell? w _ hx172_2)).trans hx172_2)
              try (replace hx172_3 := (HB.out.cell (World.block_lt_of_cell? w _ hx172_3)).trans hx172_3)
              try (replace hx172_4 := (HB.out.cell (World.block_lt_of_cell? w _ hx172_4)).trans hx172_4)
              try (replace hx172_5 := (HB.out.cell (World.block_lt_of_cell? w _ hx172_5)).trans hx172_5)
              try (replace hx172_6 := (HB.out.cell (World.block_lt_of_cell? w _ hx172_6)).trans hx172_6)
              try (replace hx172_7 := (HB.out.cell (World.block_lt_of_cell? w _ hx172_7)).trans hx172_7)
              try (replace hx172_8 := (HB.out.cell (World.block_lt_of_cell? w _ hx172_8)).trans hx172_8)
              have HR172_7 := Aside0.mk hi172_7
              have HC172_7 := Aside0.mk hl172_7
              clear hi172_7 hl172_7
              replace p172 := eq_true p172
              replace q172 := eq_true q172
              try go_wp2_with (first | ((with_reducible refine gate_dst (N := 5) rfl ?_); refine box_event ?hg (N := 5) ?hd (cs := #[.string (⟨#[]⟩ : ByteArray), .int .i64 0, .int .i64 0, .int .i64 0, .int .i64 0, .int .i64 0, .int .i64 0, .slice none 0 0, .bool false]) (t := 51) ?hr ?_; (case hd => rfl); (case hg => rfl); (case hr => first | (go_simp; done) | (go_simp; rfl)); intro gb173 hg w36 hbox hb; have n0_ := Aside0.mk (Kd.R_below (by (with_reducible repeat (first | apply Kd.R_alloc | apply Kd.R_drewN | apply Kd.R_drew)); exact HO_3.out) hb); have n1_ := Aside0.mk (below_step (by repeat (first | (with_reducible first | exact HB.out | apply below_alloc | apply pw_below_drewN | apply below_drew1) | exact HB.out)) hb); have n2_ := Aside0.mk (hbox); have n3_ := Aside0.mk ((by rw [hg]; exact (below_size (by repeat (first | (with_reducible first | exact HB.out | apply below_alloc | apply pw_below_drewN | apply below_drew1) | exact HB.out))) : w.heap.size ≤ gb173)); have n4_ := Aside0.mk ((by rw [hg]; exact (below_size (by repeat (first | (with_reducible first | exact HB.out | apply below_alloc | apply pw_below_drewN | apply below_drew1) | exact HB.out))) : w.heap.size ≤ gb173)); clear HO_3; clear HB; have HO_3 := n0_; have HB := n1_; have BK173 := n2_; have GW173 := n3_; have GE173 := n4_; clear n0_ n1_ n2_ n3_ n4_; clear hb hbox hg; have hcz37_0 : w36.cell? ⟨gb173, 0, none⟩ = some (.string (⟨#[]⟩ : ByteArray)) := (blk_cell BK173.out 0).trans rfl; have hcz37_1 : w36.cell? ⟨gb173, 1, none⟩ = some (.int .i64 0) := (blk_cell BK173.out 1).trans rfl; have hcz37_2 : w36.cell? ⟨gb173, 2, none⟩ = some (.int .i64 0) := (blk_cell BK173.out 2).trans rfl; have hcz37_3 : w36.cell? ⟨gb173, 3, none⟩ = some (.int .i64 0) := (blk_cell BK173.out 3).trans rfl; have hcz37_4 : w36.cell? ⟨gb173, 4, none⟩ = some (.int .i64 0) := (blk_cell BK173.out 4).trans rfl; have hcz37_5 : w36.cell? ⟨gb173, 5, none⟩ = some (.int .i64 0) := (blk_cell BK173.out 5).trans rfl; have hcz37_6 : w36.cell? ⟨gb173, 6, none⟩ = some (.int .i64 0) := (blk_cell BK173.out 6).trans rfl; have hcz37_7 : w36.cell? ⟨gb173, 7, none⟩ = some (.slice none 0 0) := (blk_cell BK173.out 7).trans rfl; have hcz37_8 : w36.cell? ⟨gb173, 8, none⟩ = some (.bool false) := (blk_cell BK173.out 8).trans rfl; have hfz37_0 := blk_frozen BK173.out 0; have hfz37_1 := blk_frozen BK173.out 1; have hfz37_2 := blk_frozen BK173.out 2; have hfz37_3 := blk_frozen BK173.out 3; have hfz37_4 := blk_frozen BK173.out 4; have hfz37_5 := blk_frozen BK173.out 5; have hfz37_6 := blk_frozen BK173.out 6; have hfz37_7 := blk_frozen BK173.out 7; have hfz37_8 := blk_frozen BK173.out 8))
              have n0_ : Aside0 (Kd.R (Kd.int .i64) 3 (((((((((w36.setCell ⟨gb173, 0, none⟩ (.string ((rd_T51 l0 x12_1).f0))).setCell ⟨gb173, 1, none⟩ (.int .i64 ((rd_T51 l0 x12_1).f1))).setCell ⟨gb173, 2, none⟩ (.int .i64 ((rd_T51 l0 x12_1).f2))).setCell ⟨gb173, 3, none⟩ (.int .i64 ((rd_T51 l0 x12_1).f3.f0))).setCell ⟨gb173, 4, none⟩ (.int .i64 ((rd_T51 l0 x12_1).f3.f1))).setCell ⟨gb173, 5, none⟩ (.int .i64 ((rd_T51 l0 x12_1).f3.f2))).setCell ⟨gb173, 6, none⟩ (.int .i64 ((rd_T51 l0 x12_1).f3.f3))).setCell ⟨gb173, 7, none⟩ (.slice A172_7 ((rd_T51 l0 x12_1).f3.f4).length c172_7)).setCell ⟨gb173, 8, none⟩ (.bool ((rd_T51 l0 x12_1).f3.f5))) w.heap.size (fun _ => True) u3 x3_1) := ⟨by (with_reducible repeat (first | apply Kd.R_alloc | apply Kd.R_drewN | apply Kd.R_drew)); exact Kd.R_mono (Kd.R_far (p := ⟨gb173, 8, none⟩) (Kd.R_far (p := ⟨gb173, 7, none⟩) (Kd.R_far (p := ⟨gb173, 6, none⟩) (Kd.R_far (p := ⟨gb173, 5, none⟩) (Kd.R_far (p := ⟨gb173, 4, none⟩) (Kd.R_far (p := ⟨gb173, 3, none⟩) (Kd.R_far (p := ⟨gb173, 2, none⟩) (Kd.R_far (p := ⟨gb173, 1, none⟩) (Kd.R_far (p := ⟨gb173, 0, none⟩) (Kd.R_types HO_3.out BK173.out (by decide)) (fun _ hk => hk.2) (.string ((rd_T51 l0 x12_1).f0))) (fun _ hk => hk.2) (.int .i64 ((rd_T51 l0 x12_1).f1))) (fun _ hk => hk.2) (.int .i64 ((rd_T51 l0 x12_1).f2))) (fun _ hk => hk.2) (.int .i64 ((rd_T51 l0 x12_1).f3.f0))) (fun _ hk => hk.2) (.int .i64 ((rd_T51 l0 x12_1).f3.f1))) (fun _ hk => hk.2) (.int .i64 ((rd_T51 l0 x12_1).f3.f2))) (fun _ hk => hk.2) (.int .i64 ((rd_T51 l0 x12_1).f3.f3))) (fun _ hk => hk.2) (.slice A172_7 ((rd_T51 l0 x12_1).f3.f4).length c172_7)) (fun _ hk => hk.2) (.bool ((rd_T51 l0 x12_1).f3.f5))) (fun _ hk => trivial)⟩
              have n1_ : Aside0 ((((((((((w36.setCell ⟨gb173, 0, none⟩ (.string ((rd_T51 l0 x12_1).f0))).setCell ⟨gb173, 1, none⟩ (.int .i64 ((rd_T51 l0 x12_1).f1))).setCell ⟨gb173, 2, none⟩ (.int .i64 ((rd_T51 l0 x12_1).f2))).setCell ⟨gb173, 3, none⟩ (.int .i64 ((rd_T51 l0 x12_1).f3.f0))).setCell ⟨gb173, 4, none⟩ (.int .i64 ((rd_T51 l0 x12_1).f3.f1))).setCell ⟨gb173, 5, none⟩ (.int .i64 ((rd_T51 l0 x12_1).f3.f2))).setCell ⟨gb173, 6, none⟩ (.int .i64 ((rd_T51 l0 x12_1).f3.f3))).setCell ⟨gb173, 7, none⟩ (.slice A172_7 ((rd_T51 l0 x12_1).f3.f4).length c172_7)).setCell ⟨gb173, 8, none⟩ (.bool ((rd_T51 l0 x12_1).f3.f5))).heap[gb173]? = some (.cells #[.string ((rd_T51 l0 x12_1).f0), .int .i64 ((rd_T51 l0 x12_1).f1), .int .i64 ((rd_T51 l0 x12_1).f2), .int .i64 ((rd_T51 l0 x12_1).f3.f0), .int .i64 ((rd_T51 l0 x12_1).f3.f1), .int .i64 ((rd_T51 l0 x12_1).f3.f2), .int .i64 ((rd_T51 l0 x12_1).f3.f3), .slice A172_7 ((rd_T51 l0 x12_1).f3.f4).length c172_7, .bool ((rd_T51 l0 x12_1).f3.f5)] 51 (0, 0))) := ⟨by (with_reducible repeat (first | refine blk_drewN ?_ _ | refine blk_drew ?_ | refine blk_alloc ?_ _)); refine blk_put (cs := #[.string ((rd_T51 l0 x12_1).f0), .int .i64 ((rd_T51 l0 x12_1).f1), .int .i64 ((rd_T51 l0 x12_1).f2), .int .i64 ((rd_T51 l0 x12_1).f3.f0), .int .i64 ((rd_T51 l0 x12_1).f3.f1), .int .i64 ((rd_T51 l0 x12_1).f3.f2), .int .i64 ((rd_T51 l0 x12_1).f3.f3), .slice A172_7 ((rd_T51 l0 x12_1).f3.f4).length c172_7, .bool false]) ?_ 8 _ rfl; (with_reducible repeat (first | refine blk_drewN ?_ _ | refine blk_drew ?_ | refine blk_alloc ?_ _)); refine blk_put (cs := #[.string ((rd_T51 l0 x12_1).f0), .int .i64 ((rd_T51 l0 x12_1).f1), .int .i64 ((rd_T51 l0 x12_1).f2), .int .i64 ((rd_T51 l0 x12_1).f3.f0), .int .i64 ((rd_T51 l0 x12_1).f3.f1), .int .i64 ((rd_T51 l0 x12_1).f3.f2), .int .i64 ((rd_T51 l0 x12_1).f3.f3), .slice none 0 0, .bool false]) ?_ 7 _ rfl; (with_reducible repeat (first | refine blk_drewN ?_ _ | refine blk_drew ?_ | refine blk_alloc ?_ _)); refine blk_put (cs := #[.string ((rd_T51 l0 x12_1).f0), .int .i64 ((rd_T51 l0 x12_1).f1), .int .i64 ((rd_T51 l0 x12_1).f2), .int .i64 ((rd_T51 l0 x12_1).f3.f0), .int .i64 ((rd_T51 l0 x12_1).f3.f1), .int .i64 ((rd_T51 l0 x12_1).f3.f2), .int .i64 0, .slice none 0 0, .bool false]) ?_ 6 _ rfl; (with_reducible repeat (first | refine blk_drewN ?_ _ | refine blk_drew ?_ | refine blk_alloc ?_ _)); refine blk_put (cs := #[.string ((rd_T51 l0 x12_1).f0), .int .i64 ((rd_T51 l0 x12_1).f1), .int .i64 ((rd_T51 l0 x12_1).f2), .int .i64 ((rd_T51 l0 x12_1).f3.f0), .int .i64 ((rd_T51 l0 x12_1).f3.f1), .int .i64 0, .int .i64 0, .slice none 0 0, .bool false]) ?_ 5 _ rfl; (with_reducible repeat (first | refine blk_drewN ?_ _ | refine blk_drew ?_ | refine blk_alloc ?_ _)); refine blk_put (cs := #[.string ((rd_T51 l0 x12_1).f0), .int .i64 ((rd_T51 l0 x12_1).f1), .int .i64 ((rd_T51 l0 x12_1).f2), .int .i64 ((rd_T51 l0 x12_1).f3.f0), .int .i64 0, .int .i64 0, .int .i64 0, .slice none 0 0, .bool false]) ?_ 4 _ rfl; (with_reducible repeat (first | refine blk_drewN ?_ _ | refine blk_drew ?_ | refine blk_alloc ?_ _)); refine blk_put (cs := #[.string ((rd_T51 l0 x12_1).f0), .int .i64 ((rd_T51 l0 x12_1).f1), .int .i64 ((rd_T51 l0 x12_1).f2), .int .i64 0, .int .i64 0, .int .i64 0, .int .i64 0, .slice none 0 0, .bool false]) ?_ 3 _ rfl; (with_reducible repeat (first | refine blk_drewN ?_ _ | refine blk_drew ?_ | refine blk_alloc ?_ _)); refine blk_put (cs := #[.string ((rd_T51 l0 x12_1).f0), .int .i64 ((rd_T51 l0 x12_1).f1), .int .i64 0, .int .i64 0, .int .i64 0, .int .i64 0, .int .i64 0, .slice none 0 0, .bool false]) ?_ 2 _ rfl; (with_reducible repeat (first | refine blk_drewN ?_ _ | refine blk_drew ?_ | refine blk_alloc ?_ _)); refine blk_put (cs := #[.string ((rd_T51 l0 x12_1).f0), .int .i64 0, .int .i64 0, .int .i64 0, .int .i64 0, .int .i64 0, .int .i64 0, .slice none 0 0, .bool false]) ?_ 1 _ rfl; (with_reducible repeat (first | refine blk_drewN ?_ _ | refine blk_drew ?_ | refine blk_alloc ?_ _)); refine blk_put (cs := #[.string (⟨#[]⟩ : ByteArray), .int .i64 0, .int .i64 0, .int .i64 0, .int .i64 0, .int .i64 0, .int .i64 0, .slice none 0 0, .bool false]) ?_ 0 _ rfl; (with_reducible repeat (first | refine blk_drewN ?_ _ | refine blk_drew ?_ | refine blk_alloc ?_ _)); exact BK173.out⟩
              have n2_ : Aside0 (Below w.heap.size w (((((((((w36.setCell ⟨gb173, 0, none⟩ (.string ((rd_T51 l0 x12_1).f0))).setCell ⟨gb173, 1, none⟩ (.int .i64 ((rd_T51 l0 x12_1).f1))).setCell ⟨gb173, 2, none⟩ (.int .i64 ((rd_T51 l0 x12_1).f2))).setCell ⟨gb173, 3, none⟩ (.int .i64 ((rd_T51 l0 x12_1).f3.f0))).setCell ⟨gb173, 4, none⟩ (.int .i64 ((rd_T51 l0 x12_1).f3.f1))).setCell ⟨gb173, 5, none⟩ (.int .i64 ((rd_T51 l0 x12_1).f3.f2))).setCell ⟨gb173, 6, none⟩ (.int .i64 ((rd_T51 l0 x12_1).f3.f3))).setCell ⟨gb173, 7, none⟩ (.slice A172_7 ((rd_T51 l0 x12_1).f3.f4).length c172_7)).setCell ⟨gb173, 8, none⟩ (.bool ((rd_T51 l0 x12_1).f3.f5)))) := ⟨by repeat (first | (with_reducible first | exact HB.out | apply below_alloc | apply pw_below_drewN | apply below_drew1 | refine below_set ?_ GE173.out) | exact HB.out)⟩
              (try clear HO_3)
              (try clear BK173)
              (try clear HB)
              generalize (((((((((w36.setCell ⟨gb173, 0, none⟩ (.string ((rd_T51 l0 x12_1).f0))).setCell ⟨gb173, 1, none⟩ (.int .i64 ((rd_T51 l0 x12_1).f1))).setCell ⟨gb173, 2, none⟩ (.int .i64 ((rd_T51 l0 x12_1).f2))).setCell ⟨gb173, 3, none⟩ (.int .i64 ((rd_T51 l0 x12_1).f3.f0))).setCell ⟨gb173, 4, none⟩ (.int .i64 ((rd_T51 l0 x12_1).f3.f1))).setCell ⟨gb173, 5, none⟩ (.int .i64 ((rd_T51 l0 x12_1).f3.f2))).setCell ⟨gb173, 6, none⟩ (.int .i64 ((rd_T51 l0 x12_1).f3.f3))).setCell ⟨gb173, 7, none⟩ (.slice A172_7 ((rd_T51 l0 x12_1).f3.f4).length c172_7)).setCell ⟨gb173, 8, none⟩ (.bool ((rd_T51 l0 x12_1).f3.f5))) = w38 at n0_ n1_ n2_ ⊢
              have HO_3 := n0_
              have BK173 := n1_
              have HB := n2_
              clear n0_ n1_ n2_
              have n0_ := Aside0.mk (Kd.R_drew HO_3.out)
              have n1_ := Aside0.mk (blk_drew BK173.out)
              have n2_ := Aside0.mk (below_drew1 HB.out)
              clear HO_3
              clear BK173
              clear HB
              have HO_3 := n0_
              have BK173 := n1_
              have HB := n2_
              clear n0_ n1_ n2_
              refine start_ (n := 17) (S := fun w' => w'.cell? ⟨gb173, 0, none⟩ = some (.string ((rd_T51 l0 x12_1).f0)) ∧ w'.cell? ⟨gb173, 1, none⟩ = some (.int .i64 ((rd_T51 l0 x12_1).f1)) ∧ w'.cell? ⟨gb173, 2, none⟩ = some (.int .i64 ((rd_T51 l0 x12_1).f2)) ∧ w'.cell? ⟨gb173, 3, none⟩ = some (.int .i64 ((rd_T51 l0 x12_1).f3.f0)) ∧ w'.cell? ⟨gb173, 4, none⟩ = some (.int .i64 ((rd_T51 l0 x12_1).f3.f1)) ∧ w'.cell? ⟨gb173, 5, none⟩ = some (.int .i64 ((rd_T51 l0 x12_1).f3.f2)) ∧ w'.cell? ⟨gb173, 6, none⟩ = some (.int .i64 ((rd_T51 l0 x12_1).f3.f3)) ∧ w'.cell? ⟨gb173, 7, none⟩ = some (.slice A172_7 ((rd_T51 l0 x12_1).f3.f4).length c172_7) ∧ w'.cell? ⟨gb173, 8, none⟩ = some (.bool ((rd_T51 l0 x12_1).f3.f5))) (ds := []) #[false, false, false, false, false, false, false, false, false, false, false, false, false, false, false, false, false] (by kernel_rfl) rfl rfl ⟨(blk_cell BK173.out 0).trans rfl, (blk_cell BK173.out 1).trans rfl, (blk_cell BK173.out 2).trans rfl, (blk_cell BK173.out 3).trans rfl, (blk_cell BK173.out 4).trans rfl, (blk_cell BK173.out 5).trans rfl, (blk_cell BK173.out 6).trans rfl, (blk_cell BK173.out 7).trans rfl, (blk_cell BK173.out 8).trans rfl⟩ (fun hHeld => ?_); refine with_tabW spec_GoodEntries.tab5 spec_GoodEntries.bits5 (fun HT_ HW_ => ?_)
              generalize w38.drew = w39 at HO_3 BK173 HB hHeld ⊢
              refine take_ (i := 0) (N := some 17) (v := ?_) (a' := ?_) #[true, false, false, false, false, false, false, false, false, false, false, false, false, false, false, false, false] rfl rfl (take_ofW HT_.out HW_.out (by kernel_rfl)) (fun _ _ _ h => h) (Or.inl ⟨by rfl, ?_⟩) hHeld ?_ ?_
              rotate_left
              · rintro w' ⟨s0, s1, s2, s3, s4, s5, s6, s7, s8⟩
                go_simp
                with_reducible rfl
              rotate_left
              · simp only [Act.put, List.setIfInBounds_toArray, List.set_cons_zero, List.set_cons_succ, i64_w, i32_w]
                rfl
              refine one_ (i := 1) (N := some 18) #[true, true, false, false, false, false, false, false, false, false, false, false, false, false, false, false, false] rfl rfl (one_of HT_.out (by kernel_rfl)) (by decide) (fun K hK => ?_)
              refine goes_ Try.func29 (by kernel_rfl) rfl #[.agg #[.string ((rd_T51 l0 x12_1).f0), .int .i64 ((rd_T51 l0 x12_1).f1), .int .i64 ((rd_T51 l0 x12_1).f2), .int .i64 ((rd_T51 l0 x12_1).f3.f0), .int .i64 ((rd_T51 l0 x12_1).f3.f1), .int .i64 ((rd_T51 l0 x12_1).f3.f2), .int .i64 ((rd_T51 l0 x12_1).f3.f3), .slice A172_7 ((rd_T51 l0 x12_1).f3.f4).length c172_7, .bool ((rd_T51 l0 x12_1).f3.f5)]] (by rfl) rfl rfl (by (try simp only [List.map_toArray, List.map_cons, List.map_nil]); first | done | rfl | (simp only [List.length_drop, List.length_take]; rfl)) ?_
              with_reducible refine (spec_GoodEntry.calls k1 ((rd_T51 l0 x12_1).f0) ((rd_T51 l0 x12_1).f1) ((rd_T51 l0 x12_1).f2) ((rd_T51 l0 x12_1).f3.f0) ((rd_T51 l0 x12_1).f3.f1) ((rd_T51 l0 x12_1).f3.f2) ((rd_T51 l0 x12_1).f3.f3) _ _ ((rd_T51 l0 x12_1).f3.f4) ((rd_T51 l0 x12_1).f3.f5) false _ ?side1 ?side2 A5.out).mono ?_
              (case side1 => repeat (first | exact (Kd.C_below HR172_7.out HB.out) | (with_reducible refine Kd.C_alloc ?_ _) | (with_reducible refine Kd.C_drewN ?_ _) | (with_reducible refine Kd.C_drew ?_)))
              (case side2 => exact HC172_7.out)
              rintro e w40 ⟨rfl, hb⟩
              refine ⟨_, rfl, ?_⟩
              have n0_ := Aside0.mk (Kd.R_below (by (with_reducible repeat (first | apply Kd.R_alloc | apply Kd.R_drewN | apply Kd.R_drew)); exact HO_3.out) hb)
              have n1_ := Aside0.mk (blk_below (g := gb173) (o := .cells #[.string ((rd_T51 l0 x12_1).f0), .int .i64 ((rd_T51 l0 x12_1).f1), .int .i64 ((rd_T51 l0 x12_1).f2), .int .i64 ((rd_T51 l0 x12_1).f3.f0), .int .i64 ((rd_T51 l0 x12_1).f3.f1), .int .i64 ((rd_T51 l0 x12_1).f3.f2), .int .i64 ((rd_T51 l0 x12_1).f3.f3), .slice A172_7 ((rd_T51 l0 x12_1).f3.f4).length c172_7, .bool ((rd_T51 l0 x12_1).f3.f5)] 51 (0, 0)) (by (with_reducible repeat (first | refine blk_drewN ?_ _ | refine blk_drew ?_ | refine blk_alloc ?_ _)); exact BK173.out) hb)
              have n2_ := Aside0.mk (below_step (by repeat (first | (with_reducible first | exact HB.out | apply below_alloc | apply pw_below_drewN | apply below_drew1 | refine below_set ?_ GE173.out) | exact HB.out)) hb)
              clear HO_3
              clear BK173
              clear HB
              have HO_3 := n0_
              have BK173 := n1_
              have HB := n2_
              clear n0_ n1_ n2_
              (try clear hb)
              (try clear hb2)
              (try clear hk)
              (try clear hi)
              refine hK.out _ _ ⟨(blk_cell BK173.out 0).trans rfl, (blk_cell BK173.out 1).trans rfl, (blk_cell BK173.out 2).trans rfl, (blk_cell BK173.out 3).trans rfl, (blk_cell BK173.out 4).trans rfl, (blk_cell BK173.out 5).trans rfl, (blk_cell BK173.out 6).trans rfl, (blk_cell BK173.out 7).trans rfl, (blk_cell BK173.out 8).trans rfl⟩ (fun hHeld => ?_)
              clear hK K
              refine norm_ (a' := ?_) ?_ ?_
              rotate_left
              · show Act.put _ (some 18) _ = _
                simp only [Act.put, List.setIfInBounds_toArray, List.set_cons_zero, List.set_cons_succ, i64_w, i32_w]
                rfl
              refine pure_ (i := 2) (N := some 19) (v := ?_) (a' := ?_) #[true, true, true, false, false, false, false, false, false, false, false, false, false, false, false, false, false] rfl rfl (any_of HT_.out (by kernel_rfl)) (fun _ _ _ h => h) (Or.inl ⟨by rfl, ?_⟩) ?_ ?_
              rotate_left
              · intro w'
                go_simp
                with_reducible rfl
              rotate_left
              · simp only [Act.put, List.setIfInBounds_toArray, List.set_cons_zero, List.set_cons_succ, i64_w, i32_w]
                rfl
              refine pure_ (i := 3) (N := some 20) (v := ?_) (a' := ?_) #[true, true, true, true, false, false, false, false, false, false, false, false, false, false, false, false, false] rfl rfl (any_of HT_.out (by kernel_rfl)) (fun _ _ _ h => h) (Or.inl ⟨by rfl, ?_⟩) ?_ ?_
              rotate_left
              · intro w'
                go_simp
                with_reducible rfl
              rotate_left
              · simp only [Act.put, List.setIfInBounds_toArray, List.set_cons_zero, List.set_cons_succ, i64_w, i32_w]
                rfl
              refine pure_ (i := 4) (N := some 21) (v := undef) (a' := ?_) #[true, true, true, true, true, false, false, false, false, false, false, false, false, false, false, false, false] rfl rfl (any_of HT_.out (by kernel_rfl)) (fun _ _ _ h => h) (Or.inr ⟨by rfl, rfl⟩) ?_ ?_
              rotate_left
              · simp only [Act.put, List.setIfInBounds_toArray, List.set_cons_zero, List.set_cons_succ, i64_w, i32_w]
                rfl
              refine pure_ (i := 5) (N := some 22) (v := undef) (a' := ?_) #[true, true, true, true, true, true, false, false, false, false, false, false, false, false, false, false, false] rfl rfl (any_of HT_.out (by kernel_rfl)) (fun _ _ _ h => h) (Or.inr ⟨by rfl, rfl⟩) ?_ ?_
              rotate_left
              · simp only [Act.put, List.setIfInBounds_toArray, List.set_cons_zero, List.set_cons_succ, i64_w, i32_w]
                rfl
              refine pure_ (i := 6) (N := some 23) (v := undef) (a' := ?_) #[true, true, true, true, true, true, true, false, false, false, false, false, false, false, false, false, false] rfl rfl (any_of HT_.out (by kernel_rfl)) (fun _ _ _ h => h) (Or.inr ⟨by rfl, rfl⟩) ?_ ?_
              rotate_left
              · simp only [Act.put, List.setIfInBounds_toArray, List.set_cons_zero, List.set_cons_succ, i64_w, i32_w]
                rfl
              refine pure_ (i := 7) (N := some 24) (v := undef) (a' := ?_) #[true, true, true, true, true, true, true, true, false, false, false, false, false, false, false, false, false] rfl rfl (any_of HT_.out (by kernel_rfl)) (fun _ _ _ h => h) (Or.inr ⟨by rfl, rfl⟩) ?_ ?_
              rotate_left
              · simp only [Act.put, List.setIfInBounds_toArray, List.set_cons_zero, List.set_cons_succ, i64_w, i32_w]
                rfl
              refine pure_ (i := 8) (N := some 25) (v := undef) (a' := ?_) #[true, true, true, true, true, true, true, true, true, false, false, false, false, false, false, false, false] rfl rfl (any_of HT_.out (by kernel_rfl)) (fun _ _ _ h => h) (Or.inr ⟨by rfl, rfl⟩) ?_ ?_
              rotate_left
              · simp only [Act.put, List.setIfInBounds_toArray, List.set_cons_zero, List.set_cons_succ, i64_w, i32_w]
                rfl
              refine pure_ (i := 9) (N := some 26) (v := undef) (a' := ?_) #[true, true, true, true, true, true, true, true, true, true, false, false, false, false, false, false, false] rfl rfl (any_of HT_.out (by kernel_rfl)) (fun _ _ _ h => h) (Or.inr ⟨by rfl, rfl⟩) ?_ ?_
              rotate_left
              · simp only [Act.put, List.setIfInBounds_toArray, List.set_cons_zero, List.set_cons_succ, i64_w, i32_w]
                rfl
              refine pure_ (i := 10) (N := some 27) (v := undef) (a' := ?_) #[true, true, true, true, true, true, true, true, true, true, true, false, false, false, false, false, false] rfl rfl (any_of HT_.out (by kernel_rfl)) (fun _ _ _ h => h) (Or.inr ⟨by rfl, rfl⟩) ?_ ?_
              rotate_left
              · simp only [Act.put, List.setIfInBounds_toArray, List.set_cons_zero, List.set_cons_succ, i64_w, i32_w]
                rfl
              refine pure_ (i := 11) (N := some 28) (v := undef) (a' := ?_) #[true, true, true, true, true, true, true, true, true, true, true, true, false, false, false, false, false] rfl rfl (any_of HT_.out (by kernel_rfl)) (fun _ _ _ h => h) (Or.inr ⟨by rfl, rfl⟩) ?_ ?_
              rotate_left
              · simp only [Act.put, List.setIfInBounds_toArray, List.set_cons_zero, List.set_cons_succ, i64_w, i32_w]
                rfl
              refine pure_ (i := 12) (N := some 29) (v := undef) (a' := ?_) #[true, true, true, true, true, true, true, true, true, true, true, true, true, false, false, false, false] rfl rfl (any_of HT_.out (by kernel_rfl)) (fun _ _ _ h => h) (Or.inr ⟨by rfl, rfl⟩) ?_ ?_
              rotate_left
              · simp only [Act.put, List.setIfInBounds_toArray, List.set_cons_zero, List.set_cons_succ, i64_w, i32_w]
                rfl
              refine pure_ (i := 13) (N := some 30) (v := undef) (a' := ?_) #[true, true, true, true, true, true, true, true, true, true, true, true, true, true, false, false, false] rfl rfl (any_of HT_.out (by kernel_rfl)) (fun _ _ _ h => h) (Or.inr ⟨by rfl, rfl⟩) ?_ ?_
              rotate_left
              · simp only [Act.put, List.setIfInBounds_toArray, List.set_cons_zero, List.set_cons_succ, i64_w, i32_w]
                rfl
              refine pure_ (i := 14) (N := some 31) (v := undef) (a' := ?_) #[true, true, true, true, true, true, true, true, true, true, true, true, true, true, true, false, false] rfl rfl (any_of HT_.out (by kernel_rfl)) (fun _ _ _ h => h) (Or.inr ⟨by rfl, rfl⟩) ?_ ?_
              rotate_left
              · simp only [Act.put, List.setIfInBounds_toArray, List.set_cons_zero, List.set_cons_succ, i64_w, i32_w]
                rfl
              refine pure_ (i := 15) (N := some 32) (v := undef) (a' := ?_) #[true, true, true, true, true, true, true, true, true, true, true, true, true, true, true, true, false] rfl rfl (any_of HT_.out (by kernel_rfl)) (fun _ _ _ h => h) (Or.inr ⟨by rfl, rfl⟩) ?_ ?_
              rotate_left
              · simp only [Act.put, List.setIfInBounds_toArray, List.set_cons_zero, List.set_cons_succ, i64_w, i32_w]
                rfl
              refine pure_ (i := 16) (N := some 33) (v := ?_) (a' := ?_) #[true, true, true, true, true, true, true, true, true, true, true, true, true, true, true, true, true] rfl rfl (any_of HT_.out (by kernel_rfl)) (fun _ _ _ h => h) (Or.inl ⟨by rfl, ?_⟩) ?_ ?_
              rotate_left
              · intro w'
                go_simp
                with_reducible rfl
              rotate_left
              · simp only [Act.put, List.setIfInBounds_toArray, List.set_cons_zero, List.set_cons_succ, i64_w, i32_w]
                rfl
              refine done_ (done_of HT_.out (by kernel_rfl)) ?_
              try go_wp2
              go_ret
              exact ⟨by first | rfl | (simp [errW_none, errW_some] <;> rfl) | (simp [*, errW_none, errW_some] <;> rfl), by repeat (first | (with_reducible first | exact HB.out | apply below_alloc | apply pw_below_drewN | apply below_drew1 | refine below_set ?_ GE173.out) | exact HB.out)⟩
          · rw [if_neg c4] at H
            exact absurd H (by simp)
        · rw [if_neg c3] at H
          exact absurd H (by simp)
      · rw [if_neg c2] at H
        have c2b0 : decide (x12_1 < (l0.length : Int)) = false := decide_eq_false c2
        clear c2
        have H' := Aside0.mk H
        clear H
        obtain ⟨Ao41, co41, eo41⟩ := Kd.R_slice HO_3.out
        subst eo41
        go_wp2
        go_loopg [42] k1 (fun kq v42 w' => ∃ (x42_2 : Int), v42 = .int .i64 x42_2 ∧ Aside0 (spec_GoodEntries.l1 kq x3_1 x3_1 (x3_1.length : Int) x42_2 = some r) ∧ Aside0 (kq ≤ k1) ∧ Aside0 (Kd.R (Kd.int .i64) 3 w' w.heap.size (fun _ => True) (.slice Ao41 x3_1.length co41) x3_1) ∧ Aside0 (Kd.R (Kd.int .i64) 3 w' w.heap.size (fun _ => True) (.slice Ao41 x3_1.length co41) x3_1) ∧ Aside0 (Below w.heap.size w w'))
        case atStart => exact ⟨(0), (by first | rfl | (simp; done) | (simp [*]; done)), H', ⟨Nat.le_refl _⟩, ⟨by (with_reducible repeat (first | apply Kd.R_alloc | apply Kd.R_drewN | apply Kd.R_drew)); exact HO_3.out⟩, ⟨by (with_reducible repeat (first | apply Kd.R_alloc | apply Kd.R_drewN | apply Kd.R_drew)); exact HO_3.out⟩, ⟨by repeat (first | (with_reducible first | exact HB.out | apply below_alloc | apply pw_below_drewN | apply below_drew1) | exact HB.out)⟩⟩
        case round =>
          clear H'
          try clear c1
          try clear p1
          try clear q1
          try clear hx1
          try clear c2
          try clear c2b0
          try clear p2
          try clear c3
          try clear c4
          try clear c6
          try clear p6
          try clear c7
          try clear c7b0
          try clear c9
          try clear c10
          try clear c17
          try clear p17
          try clear q17
          try clear hx17
          try clear c28
          try clear c29
          try clear c30
          try clear hcz30_0
          try clear hcz30_1
          try clear hcz30_2
          try clear hcz30_3
          try clear hcz30_4
          try clear hcz30_5
          try clear hcz30_6
          try clear hcz30_7
          try clear hcz30_8
          try clear hcz34_0
          try clear hcz34_1
          try clear hcz34_2
          try clear hcz34_3
          try clear hcz34_4
          try clear hcz34_5
          try clear hcz34_6
          try clear hcz34_7
          try clear hcz34_8
          try clear hcz37_0
          try clear hcz37_1
          try clear hcz37_2
          try clear hcz37_3
          try clear hcz37_4
          try clear hcz37_5
          try clear hcz37_6
          try clear hcz37_7
          try clear hcz37_8
          try clear hfz30_0
          try clear hfz30_1
          try clear hfz30_2
          try clear hfz30_3
          try clear hfz30_4
          try clear hfz30_5
          try clear hfz30_6
          try clear hfz30_7
          try clear hfz30_8
          try clear hfz34_0
          try clear hfz34_1
          try clear hfz34_2
          try clear hfz34_3
          try clear hfz34_4
          try clear hfz34_5
          try clear hfz34_6
          try clear hfz34_7
          try clear hfz34_8
          try clear hfz37_0
          try clear hfz37_1
          try clear hfz37_2
          try clear hfz37_3
          try clear hfz37_4
          try clear hfz37_5
          try clear hfz37_6
          try clear hfz37_7
          try clear hfz37_8
          try clear hx172_0
          try clear hx172_1
          try clear hx172_2
          try clear hx172_3
          try clear hx172_4
          try clear hx172_5
          try clear hx172_6
          try clear hx172_7
          try clear hx172_8
          try clear hx175_0
          try clear hx175_1
          try clear hx175_2
          try clear hx175_3
          try clear hx175_4
          try clear hx175_5
          try clear hx175_6
          try clear hx175_7
          try clear hx175_8
          try clear p172
          try clear p175
          try clear q172
          try clear q175
          obtain ⟨x42_2, rfl, HA, HK2, HO_3, HO_40, HB⟩ := hrel
          cases gk with
          | zero => exact absurd HA.out (by simp [spec_GoodEntries.l1])
          | succ k2 =>
            have H := HA.out
            clear HA
            simp only [spec_GoodEntries.l1] at H
            by_cases c42 : x42_2 < (x3_1.length : Int)
            · rw [if_pos c42] at H
              have c42b0 : decide (x42_2 < (x3_1.length : Int)) = true := decide_eq_true c42
              clear c42
              by_cases c43 : 0 ≤ x42_2
              · rw [if_pos c43] at H
                have c43b0 : decide (0 ≤ x42_2) = true := decide_eq_true c43
                clear c43
                by_cases c44 : x42_2 < (x3_1.length : Int)
                · rw [if_pos c44] at H
                  have c44b0 : decide (x42_2 < (x3_1.length : Int)) = true := decide_eq_true c44
                  clear c44
                  have c45b0 := eq_true (of_decide_eq_true (by first | (with_reducible assumption) | assumption) : 0 ≤ x42_2)
                  by_cases c46 : x42_2 ≤ (x3_1.length : Int)
                  · rw [if_pos c46] at H
                    have c46b0 := eq_true c46
                    have c46b1 : decide (x42_2 ≤ (x3_1.length : Int)) = true := decide_eq_true c46
                    clear c46
                    obtain ⟨y184, hy184⟩ : ∃ y_ : List Int, y_ = (x3_1.take (x42_2 : Int).toNat) := ⟨_, rfl⟩
                    replace H : (spec_GoodEntries.l2 k2 x3_1 (rd x3_1 x42_2) x3_1 (x3_1.length : Int) x42_2 y184 (y184.length : Int) 0) = some r := by first | (rw [hy184]; with_reducible exact H) | (have H2_ := (Option.bind_some _ _).symm.trans H; rw [hy184]; with_reducible exact H2_) | (have H2_ := (Option.bind_some _ _).symm.trans H; with_reducible exact H2_) | with_reducible exact H | (rw [hy184]; exact H) | exact H
                    have Ny184 := Aside0.mk hy184
                    clear hy184
                    have H' := Aside0.mk H
                    clear H
                    have p183 : 0 ≤ (x42_2 : Int) := of_decide_eq_true (by first | (with_reducible assumption) | assumption)
                    have q183 : x42_2 < (x3_1.length : Int) := of_decide_eq_true (by first | (with_reducible assumption) | assumption)
                    obtain ⟨ad183, e183, hx183_0⟩ := Kd.at_int (Kd.R_reads' HO_40.out).2.2 x42_2 p183 q183
                    cases e183
                    replace p183 := eq_true p183
                    replace q183 := eq_true q183
                    have q47 : (x42_2 : Int) ≤ ((x3_1.length : Int) : Int) := of_decide_eq_true (by first | (with_reducible assumption) | assumption)
                    obtain ⟨i047, hi047, _, hsz47, _⟩ := info_parts info3
                    have hroom47 : x3_1.length ≤ co41 := (Kd.R_reads' HO_3.out).2.1
                    have hC47 : Kd.C (Kd.int .i64) _ (some ad183) x3_1.length x3_1 := (Kd.R_reads' HO_3.out).2.2
                    have hcut47 := cut_to (P := Try.prog) 47 3 .i64 Try.underlying47 hi047 (some ad183) x3_1.length co41 x42_2 (of_decide_eq_true (by first | (with_reducible assumption) | assumption)) q47 hroom47
                    have hr47 := Kd.C_take (m := (x42_2 : Int).toNat) hC47 (by omega)
                    have hy47 : y184.length = (x42_2 : Int).toNat := (by rw [Ny184.out, List.length_take]; omega)
                    rw [← Ny184.out] at hr47
                    rw [← hy47] at hcut47
                    have HR187 := Aside0.mk hr47
                    have HC187 := Aside0.mk (show y184.length ≤ co41 from by omega)
                    clear hr47 hC47 hroom47 hi047 hsz47
                    have KY47 := Aside0.mk hy47
                    clear hy47
                    have KL47 := Aside0.mk (show (x42_2 : Int).toNat ≤ x3_1.length from by omega)
                    replace q47 := eq_true q47
                    go_wp2
                    go_loopg [51] k2 (fun kq v51 w' => ∃ (x51_3 : Int), v51 = .int .i64 x51_3 ∧ Aside0 (spec_GoodEntries.l2 kq x3_1 (rd x3_1 x42_2) x3_1 (x3_1.length : Int) x42_2 y184 (y184.length : Int) x51_3 = some r) ∧ Aside0 (kq ≤ k2) ∧ Aside0 (Kd.R (Kd.int .i64) 3 w' w.heap.size (fun _ => True) (.slice (some ad183) x3_1.length co41) x3_1) ∧ Aside0 (Kd.R (Kd.int .i64) 3 w' w.heap.size (fun _ => True) (.slice (some ad183) x3_1.length co41) x3_1) ∧ Aside0 (Kd.C (Kd.int .i64) w' (some ad183) y184.length y184) ∧ Aside0 (Below w.heap.size w w'))
                    case atStart => exact ⟨(0), (by first | rfl | (simp; done) | (simp [*]; done)), H', ⟨Nat.le_refl _⟩, ⟨by (with_reducible repeat (first | apply Kd.R_alloc | apply Kd.R_drewN | apply Kd.R_drew)); exact HO_3.out⟩, ⟨by (with_reducible repeat (first | apply Kd.R_alloc | apply Kd.R_drewN | apply Kd.R_drew)); exact HO_40.out⟩, ⟨by repeat (first | (with_reducible exact HR187.out) | (with_reducible refine Kd.C_alloc ?_ _) | (with_reducible refine Kd.C_drewN ?_ _) | (with_reducible refine Kd.C_drew ?_) | exact HR187.out)⟩, ⟨by repeat (first | (with_reducible first | exact HB.out | apply below_alloc | apply pw_below_drewN | apply below_drew1) | exact HB.out)⟩⟩
                    case round =>
                      clear H'
                      try clear c1
                      try clear p1
                      try clear q1
                      try clear hx1
                      try clear c2
                      try clear c2b0
                      try clear p2
                      try clear c3
                      try clear c4
                      try clear q4
                      try clear c6
                      try clear p6
                      try clear c7
                      try clear c7b0
                      try clear c9
                      try clear c10
                      try clear c17
                      try clear p17
                      try clear q17
                      try clear hx17
                      try clear p18
                      try clear q18
                      try clear hx18
                      try clear c28
                      try clear c29
                      try clear c30
                      try clear c42
                      try clear c42b0
                      try clear c43
                      try clear c43b0
                      try clear c44
                      try clear c44b0
                      try clear c45
                      try clear c45b0
                      try clear c46
                      try clear c46b0
                      try clear c46b1
                      try clear q47
                      try clear hcz30_0
                      try clear hcz30_1
                      try clear hcz30_2
                      try clear hcz30_3
                      try clear hcz30_4
                      try clear hcz30_5
                      try clear hcz30_6
                      try clear hcz30_7
                      try clear hcz30_8
                      try clear hcz34_0
                      try clear hcz34_1
                      try clear hcz34_2
                      try clear hcz34_3
                      try clear hcz34_4
                      try clear hcz34_5
                      try clear hcz34_6
                      try clear hcz34_7
                      try clear hcz34_8
                      try clear hcz37_0
                      try clear hcz37_1
                      try clear hcz37_2
                      try clear hcz37_3
                      try clear hcz37_4
                      try clear hcz37_5
                      try clear hcz37_6
                      try clear hcz37_7
                      try clear hcz37_8
                      try clear hfz30_0
                      try clear hfz30_1
                      try clear hfz30_2
                      try clear hfz30_3
                      try clear hfz30_4
                      try clear hfz30_5
                      try clear hfz30_6
                      try clear hfz30_7
                      try clear hfz30_8
                      try clear hfz34_0
                      try clear hfz34_1
                      try clear hfz34_2
                      try clear hfz34_3
                      try clear hfz34_4
                      try clear hfz34_5
                      try clear hfz34_6
                      try clear hfz34_7
                      try clear hfz34_8
                      try clear hfz37_0
                      try clear hfz37_1
                      try clear hfz37_2
                      try clear hfz37_3
                      try clear hfz37_4
                      try clear hfz37_5
                      try clear hfz37_6
                      try clear hfz37_7
                      try clear hfz37_8
                      try clear hx172_0
                      try clear hx172_1
                      try clear hx172_2
                      try clear hx172_3
                      try clear hx172_4
                      try clear hx172_5
                      try clear hx172_6
                      try clear hx172_7
                      try clear hx172_8
                      try clear hx175_0
                      try clear hx175_1
                      try clear hx175_2
                      try clear hx175_3
                      try clear hx175_4
                      try clear hx175_5
                      try clear hx175_6
                      try clear hx175_7
                      try clear hx175_8
                      try clear hx183_0
                      try clear p1
                      try clear p17
                      try clear p172
                      try clear p175
                      try clear p183
                      try clear p2
                      try clear p6
                      try clear q1
                      try clear q17
                      try clear q172
                      try clear q175
                      try clear q183
                      try clear q47
                      obtain ⟨x51_3, rfl, HA, HK3, HO_3, HO_40, HR187, HB⟩ := hrel
                      cases gk with
                      | zero => exact absurd HA.out (by simp [spec_GoodEntries.l2])
                      | succ k3 =>
                        have H := HA.out
                        clear HA
                        simp only [spec_GoodEntries.l2] at H
                        by_cases c48 : x51_3 < (y184.length : Int)
                        · rw [if_pos c48] at H
                          have c48b0 : decide (x51_3 < (y184.length : Int)) = true := decide_eq_true c48
                          clear c48
                          by_cases c49 : 0 ≤ x51_3
                          · rw [if_pos c49] at H
                            have c49b0 : decide (0 ≤ x51_3) = true := decide_eq_true c49
                            clear c49
                            by_cases c50 : x51_3 < (y184.length : Int)
                            · rw [if_pos c50] at H
                              have c50b0 : decide (x51_3 < (y184.length : Int)) = true := decide_eq_true c50
                              clear c50
                              by_cases c51 : (rd y184 x51_3) = (rd x3_1 x42_2)
                              · rw [if_pos c51] at H
                                have c51b0 : ((rd y184 x51_3) == (rd x3_1 x42_2)) = true := beq_iff_eq.mpr c51
                                have c51b1 : ((rd y184 x51_3) != (rd x3_1 x42_2)) = false := bne_eq_false_iff_eq.mpr c51
                                clear c51
                                obtain rfl := Option.some.inj H
                                have p188 : 0 ≤ (x51_3 : Int) := of_decide_eq_true (by first | (with_reducible assumption) | assumption)
                                have q188 : x51_3 < (y184.length : Int) := of_decide_eq_true (by first | (with_reducible assumption) | assumption)
                                obtain ⟨ad188, e188, hx188_0⟩ := Kd.at_int HR187.out x51_3 p188 q188
                                obtain rfl : ad183 = ad188 := (by injection e188)
                                try (replace hx188_0 := (HB.out.cell (World.block_lt_of_cell? w _ hx188_0)).trans hx188_0)
                                replace p188 := eq_true p188
                                replace q188 := eq_true q188
                                go_wp2
                                go_ret
                                exact ⟨by first | rfl | (simp [errW_none, errW_some] <;> rfl) | (simp [*, errW_none, errW_some] <;> rfl), by repeat (first | (with_reducible first | exact HB.out | apply below_alloc | apply pw_below_drewN | apply below_drew1) | exact HB.out)⟩
                              · rw [if_neg c51] at H
                                have c51b0 : ((rd y184 x51_3) == (rd x3_1 x42_2)) = false := beq_eq_false_iff_ne.mpr c51
                                have c51b1 : ((rd y184 x51_3) != (rd x3_1 x42_2)) = true := bne_iff_ne.mpr c51
                                have H' := Aside0.mk H
                                clear H
                                have p188 : 0 ≤ (x51_3 : Int) := of_decide_eq_true (by first | (with_reducible assumption) | assumption)
                                have q188 : x51_3 < (y184.length : Int) := of_decide_eq_true (by first | (with_reducible assumption) | assumption)
                                obtain ⟨ad188, e188, hx188_0⟩ := Kd.at_int HR187.out x51_3 p188 q188
                                obtain rfl : ad183 = ad188 := (by injection e188)
                                try (replace hx188_0 := (HB.out.cell (World.block_lt_of_cell? w _ hx188_0)).trans hx188_0)
                                replace p188 := eq_true p188
                                replace q188 := eq_true q188
                                go_wp2
                                go_roundg k3
                                case measure => have := HK1.out; have := HK2.out; have := HK3.out; omega
                                case rel => exact ⟨(wrap64 (x51_3 + 1)), (by first | rfl | (simp; done) | (simp [*]; done)), H', ⟨by have := HK1.out; have := HK2.out; have := HK3.out; omega⟩, ⟨by (with_reducible repeat (first | apply Kd.R_alloc | apply Kd.R_drewN | apply Kd.R_drew)); exact HO_3.out⟩, ⟨by (with_reducible repeat (first | apply Kd.R_alloc | apply Kd.R_drewN | apply Kd.R_drew)); exact HO_40.out⟩, ⟨by repeat (first | (with_reducible exact HR187.out) | (with_reducible refine Kd.C_alloc ?_ _) | (with_reducible refine Kd.C_drewN ?_ _) | (with_reducible refine Kd.C_drew ?_) | exact HR187.out)⟩, ⟨by repeat (first | (with_reducible first | exact HB.out | apply below_alloc | apply pw_below_drewN | apply below_drew1) | exact HB.out)⟩⟩
                            · rw [if_neg c50] at H
                              exact absurd H (by simp)
                          · rw [if_neg c49] at H
                            exact absurd H (by simp)
                        · rw [if_neg c48] at H
                          have c48b0 : decide (x51_3 < (y184.length : Int)) = false := decide_eq_false c48
                          clear c48
                          have H' := Aside0.mk H
                          clear H
                          go_wp2
                          go_roundg k3
                          case measure => have := HK1.out; have := HK2.out; have := HK3.out; omega
                          case rel => exact ⟨(wrap64 (x42_2 + 1)), (by first | rfl | (simp; done) | (simp [*]; done)), H', ⟨by have := HK1.out; have := HK2.out; have := HK3.out; omega⟩, ⟨by (with_reducible repeat (first | apply Kd.R_alloc | apply Kd.R_drewN | apply Kd.R_drew)); exact HO_3.out⟩, ⟨by (with_reducible repeat (first | apply Kd.R_alloc | apply Kd.R_drewN | apply Kd.R_drew)); exact HO_40.out⟩, ⟨by repeat (first | (with_reducible first | exact HB.out | apply below_alloc | apply pw_below_drewN | apply below_drew1) | exact HB.out)⟩⟩
                  · rw [if_neg c46] at H
                    exact absurd H (by simp)
                · rw [if_neg c44] at H
                  exact absurd H (by simp)
              · rw [if_neg c43] at H
                exact absurd H (by simp)
            · rw [if_neg c42] at H
              have c42b0 : decide (x42_2 < (x3_1.length : Int)) = false := decide_eq_false c42
              clear c42
              obtain rfl := Option.some.inj H
              go_wp2
              go_ret
              exact ⟨by first | rfl | (simp [errW_none, errW_some] <;> rfl) | (simp [*, errW_none, errW_some] <;> rfl), by repeat (first | (with_reducible first | exact HB.out | apply below_alloc | apply pw_below_drewN | apply below_drew1) | exact HB.out)⟩

end Go.Proofs.Ythkimdibhlkpbaa.PFnExactOverlap
