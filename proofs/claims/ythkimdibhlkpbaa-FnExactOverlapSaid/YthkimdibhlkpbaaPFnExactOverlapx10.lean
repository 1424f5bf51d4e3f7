-- Written for this claim by a program of this session: a scratch copy of the kit's print with patches of this session.
import Derived.Test.YthkimdibhlkpbaaPFnExactOverlapx0
import Derived.Test.YthkimdibhlkpbaaPFnExactOverlapx8
import Derived.Test.YthkimdibhlkpbaaPFnExactOverlapx9
namespace Go.Proofs.Ythkimdibhlkpbaa.PFnExactOverlap
open Go.RowKit Go.Proofs.YthkimdibhlkpbaaW.PrintWords Go.Proofs.YthkimdibhlkpbaaW.PrintLast Go.Proofs.YthkimdibhlkpbaaW.PrintMore
attribute [local go_sem] max2_int min2_int max_two min_two max_three min_three max_four min_four hw_string_geq hw_string_gtr hw_string_leq   -- for this text's walks alone
set_option linter.unusedVariables false
set_option linter.unusedSimpArgs false

/-! ### impl_GoodEntries: function 17 -/
def impl_GoodEntries.l0 : Nat → List (S51) → List Int → List (S51) → Int → Int → Option (Bool)
  | 0, _, _, _, _, _ => none
  | k + 1, x0, x3, x7, x8, x9 => if x9 < x8 then (if 0 ≤ x9 then (if x9 < (x7.length : Int) then ((impl_GoodEntry.f k ((rd_T51 x7 x9).f0) ((rd_T51 x7 x9).f1) ((rd_T51 x7 x9).f2) ((rd_T51 x7 x9).f3.f0) ((rd_T51 x7 x9).f3.f1) ((rd_T51 x7 x9).f3.f2) ((rd_T51 x7 x9).f3.f3) ((rd_T51 x7 x9).f3.f4) ((rd_T51 x7 x9).f3.f5)).bind fun t233 => (if t233 = true then (if x9 > 0 then (if 0 ≤ (wrap64 (x9 - 1)) then (if (wrap64 (x9 - 1)) < (x0.length : Int) then ((impl_compareEntries.f k ((rd_T51 x0 (wrap64 (x9 - 1))).f0) ((rd_T51 x0 (wrap64 (x9 - 1))).f1) ((rd_T51 x0 (wrap64 (x9 - 1))).f2) ((rd_T51 x0 (wrap64 (x9 - 1))).f3.f0) ((rd_T51 x0 (wrap64 (x9 - 1))).f3.f1) ((rd_T51 x0 (wrap64 (x9 - 1))).f3.f2) ((rd_T51 x0 (wrap64 (x9 - 1))).f3.f3) ((rd_T51 x0 (wrap64 (x9 - 1))).f3.f4) ((rd_T51 x0 (wrap64 (x9 - 1))).f3.f5) ((rd_T51 x7 x9).f0) ((rd_T51 x7 x9).f1) ((rd_T51 x7 x9).f2) ((rd_T51 x7 x9).f3.f0) ((rd_T51 x7 x9).f3.f1) ((rd_T51 x7 x9).f3.f2) ((rd_T51 x7 x9).f3.f3) ((rd_T51 x7 x9).f3.f4) ((rd_T51 x7 x9).f3.f5)).bind fun t235 => (if t235 ≥ 0 then (some false) else (if x3.length < 17592186044416 then (impl_GoodEntries.l0 k x0 (x3 ++ [(rd_T51 x7 x9).f1]) x7 x8 (wrap64 (x9 + 1))) else (none)))) else (none)) else (none)) else (if x3.length < 17592186044416 then (impl_GoodEntries.l0 k x0 (x3 ++ [(rd_T51 x7 x9).f1]) x7 x8 (wrap64 (x9 + 1))) else (none))) else (some false))) else (none)) else (none)) else ((slices_Sort_int_int.f x3).bind fun t227 => ((slices_Compact_int_int.f t227).bind fun t228 => (some ((t228.length : Int) == (x0.length : Int)))))
def impl_GoodEntries.f (k : Nat) (l0 : List (S51)) : Option (Bool) := impl_GoodEntries.l0 k l0 (([] : List Int)) l0 (l0.length : Int) 0
theorem impl_GoodEntries.mono_l : ∀ k, (∀ y0 y1 y2 y3 y4, LeO (impl_GoodEntries.l0 k y0 y1 y2 y3 y4) (impl_GoodEntries.l0 (k + 1) y0 y1 y2 y3 y4))
  | 0 => fun _ _ _ _ _ r h => by simp [impl_GoodEntries.l0] at h
  | k + 1 => by
    have ih0 := impl_GoodEntries.mono_l k
    · intro y0 y1 y2 y3 y4
      unfold impl_GoodEntries.l0
      repeat' first
      | (with_reducible exact ih0 _ _ _ _ _)
      | (with_reducible exact impl_GoodEntry.mono _ _ _ _ _ _ _ _ _ _)
      | (with_reducible exact impl_compareEntries.mono _ _ _ _ _ _ _ _ _ _ _ _ _ _ _ _ _ _ _)
      | (with_reducible exact LeO.refl _)
      | (with_reducible exact LeO.none _)
      | (with_reducible refine LeO.ite ?_ ?_)
      | (with_reducible refine LeO.bind ?_ (fun _ => ?_))
      | exact ih0 _ _ _ _ _
      | exact impl_GoodEntry.mono _ _ _ _ _ _ _ _ _ _
      | exact impl_compareEntries.mono _ _ _ _ _ _ _ _ _ _ _ _ _ _ _ _ _ _ _
      | exact LeO.none _
      | refine LeO.ite ?_ ?_
      | refine LeO.bind ?_ (fun _ => ?_)
theorem impl_GoodEntries.mono : ∀ a0 k, LeO (impl_GoodEntries.f k a0) (impl_GoodEntries.f (k + 1) a0) := by
  intro a0 k
  have ih0 := impl_GoodEntries.mono_l k
  unfold impl_GoodEntries.f
  repeat' first
      | (with_reducible exact ih0 _ _ _ _ _)
      | (with_reducible exact impl_GoodEntry.mono _ _ _ _ _ _ _ _ _ _)
      | (with_reducible exact impl_compareEntries.mono _ _ _ _ _ _ _ _ _ _ _ _ _ _ _ _ _ _ _)
      | (with_reducible exact LeO.refl _)
      | (with_reducible exact LeO.none _)
      | (with_reducible refine LeO.ite ?_ ?_)
      | (with_reducible refine LeO.bind ?_ (fun _ => ?_))
      | exact ih0 _ _ _ _ _
      | exact impl_GoodEntry.mono _ _ _ _ _ _ _ _ _ _
      | exact impl_compareEntries.mono _ _ _ _ _ _ _ _ _ _ _ _ _ _ _ _ _ _ _
      | exact LeO.none _
      | refine LeO.ite ?_ ?_
      | refine LeO.bind ?_ (fun _ => ?_)
def impl_GoodEntries.T5 : Bool × List (List Nat × List Nat) := (true, [([], []), ([0], [0]), ([1], [1]), ([2, 1], [2]), ([3], [3]), ([4, 3], [3, 4]), ([5, 3, 3], [3, 5]), ([6], [6]), ([6], [6]), ([8, 6], [6, 8]), ([7, 9, 6], [6, 7, 9]), ([10, 6], [6, 10]), ([6], [6]), ([11, 12, 6, 6], [6, 11, 12]), ([13, 6], [6, 13]), ([6, 14, 3], [3, 6, 14]), ([3, 15], [3, 15])])
def impl_GoodEntries.B5 : List Nat := [0, 1, 3, 7, 15, 31, 63, 127, 127, 383, 1023, 2047, 127, 8191, 16383, 32767, 65535]
theorem impl_GoodEntries.tab5 : rtab .any (opsOf Try.f17 5) = impl_GoodEntries.T5 := by kernel_rfl
theorem impl_GoodEntries.bits5 : waitsOk impl_GoodEntries.T5.2 impl_GoodEntries.B5 = true := by kernel_rfl
set_option maxHeartbeats 8000000 in
set_option maxRecDepth 100000 in
theorem impl_GoodEntries.calls (k : Nat) (A0 : Option Addr) (c0 : Nat) (l0 : List (S51)) (r : Bool) (w : World) (hr0 : Kd.C k51 w A0 l0.length l0) (hc0 : l0.length ≤ c0) (h : impl_GoodEntries.f k l0 = some r) :
    Calls Try.prog 17 #[.slice A0 l0.length c0] w fun e w' => e = .returned (.bool r) ∧ Below w.heap.size w w' := by
  have hu51 := Try.underlying51
  have HR0 := Aside0.mk hr0
  have HC0 := Aside0.mk hc0
  clear hr0 hc0
  have HB := Aside0.mk (Below.refl w.heap.size w)
  have H : (impl_GoodEntries.l0 k l0 (([] : List Int)) l0 (l0.length : Int) 0) = some r := h
  clear h
  obtain ⟨y224, hy224⟩ : ∃ y_ : List Int, y_ = (([] : List Int)) := ⟨_, rfl⟩
  replace H : (impl_GoodEntries.l0 k l0 y224 l0 (l0.length : Int) 0) = some r := by first | (rw [hy224]; with_reducible exact H) | (have H2_ := (Option.bind_some _ _).symm.trans H; rw [hy224]; with_reducible exact H2_) | (have H2_ := (Option.bind_some _ _).symm.trans H; with_reducible exact H2_) | with_reducible exact H | (rw [hy224]; exact H) | exact H
  have Ny224 := Aside0.mk hy224
  clear hy224
  have H' := Aside0.mk H
  clear H
  go_enter Try.func17, Try.ntmps17
  go_wp2_with (first | ((with_reducible refine gate_dst (N := 6) rfl ?_); refine Kd.R_lit (Kd.int .i64) _ 3 ?hg (N := 6) ?hd (xs := ([] : List Int)) (inner := []) (ok := fun _ => True) (okp := fun _ => True) ?hr ?hp (fun _ hk => hk) trivial (Below.refl _ _) (Nat.le_refl _) (by simp) ?_; (case hd => rfl); (case hg => rfl); (case hr => first | (go_simp; done) | (go_simp; rfl)); (case hp => exact (Reps.none _ _)); intro v225 w2 ho3 hb hg_ hnew_; clear hg_ hnew_; (first | rw [← Ny224.out] at ho3 | (simp only [Int.reduceToNat] at ho3; rw [← Ny224.out] at ho3)); have n0_ := Aside0.mk (Kd.R_lower ho3 (below_size (by repeat (first | (with_reducible first | exact HB.out | apply below_alloc | apply pw_below_drewN | apply below_drew1) | exact HB.out)))); have n1_ := Aside0.mk (below_step (by repeat (first | (with_reducible first | exact HB.out | apply below_alloc | apply pw_below_drewN | apply below_drew1) | exact HB.out)) hb); clear HB; have HO226 := n0_; have HB := n1_; clear n0_ n1_; clear hb ho3))
  go_loopg [3, 9] k (fun kq v3 v9 w' => ∃ (x3_1 : List Int) (x9_1 : Int), v9 = .int .i64 x9_1 ∧ Aside0 (impl_GoodEntries.l0 kq l0 x3_1 l0 (l0.length : Int) x9_1 = some r) ∧ Aside0 (kq ≤ k) ∧ Aside0 (Kd.R (Kd.int .i64) 3 w' w.heap.size (fun _ => True) v3 x3_1) ∧ Aside0 (Below w.heap.size w w'))
  case atStart => exact ⟨(y224), (0), (by first | rfl | (simp; done) | (simp [*]; done)), H', ⟨Nat.le_refl _⟩, ⟨by (with_reducible repeat (first | apply Kd.R_alloc | apply Kd.R_drewN | apply Kd.R_drew)); exact HO226.out⟩, ⟨by repeat (first | (with_reducible first | exact HB.out | apply below_alloc | apply pw_below_drewN | apply below_drew1) | exact HB.out)⟩⟩
  case round =>
    clear H'
    try clear c1
    try clear p2
    obtain ⟨x3_1, x9_1, rfl, HA, HK1, HO_3, HB⟩ := hrel
    cases gk with
    | zero => exact absurd HA.out (by simp [impl_GoodEntries.l0])
    | succ k1 =>
      have H := HA.out
      clear HA
      simp only [impl_GoodEntries.l0] at H
      by_cases c4 : x9_1 < (l0.length : Int)
      · rw [if_pos c4] at H
        have c4b0 : decide (x9_1 < (l0.length : Int)) = true := decide_eq_true c4
        clear c4
        by_cases c5 : 0 ≤ x9_1
        · rw [if_pos c5] at H
          have c5b0 : decide (0 ≤ x9_1) = true := decide_eq_true c5
          clear c5
          by_cases c6 : x9_1 < (l0.length : Int)
          · rw [if_pos c6] at H
            have c6b0 : decide (x9_1 < (l0.length : Int)) = true := decide_eq_true c6
            clear c6
            replace H := Option.bind_eq_some_iff.mp H
            obtain ⟨t233, A70, H⟩ := H
            replace H : (if t233 = true then (if x9_1 > 0 then (if 0 ≤ (wrap64 (x9_1 - 1)) then (if (wrap64 (x9_1 - 1)) < (l0.length : Int) then ((impl_compareEntries.f k1 ((rd_T51 l0 (wrap64 (x9_1 - 1))).f0) ((rd_T51 l0 (wrap64 (x9_1 - 1))).f1) ((rd_T51 l0 (wrap64 (x9_1 - 1))).f2) ((rd_T51 l0 (wrap64 (x9_1 - 1))).f3.f0) ((rd_T51 l0 (wrap64 (x9_1 - 1))).f3.f1) ((rd_T51 l0 (wrap64 (x9_1 - 1))).f3.f2) ((rd_T51 l0 (wrap64 (x9_1 - 1))).f3.f3) ((rd_T51 l0 (wrap64 (x9_1 - 1))).f3.f4) ((rd_T51 l0 (wrap64 (x9_1 - 1))).f3.f5) ((rd_T51 l0 x9_1).f0) ((rd_T51 l0 x9_1).f1) ((rd_T51 l0 x9_1).f2) ((rd_T51 l0 x9_1).f3.f0) ((rd_T51 l0 x9_1).f3.f1) ((rd_T51 l0 x9_1).f3.f2) ((rd_T51 l0 x9_1).f3.f3) ((rd_T51 l0 x9_1).f3.f4) ((rd_T51 l0 x9_1).f3.f5)).bind fun t235 => (if t235 ≥ 0 then (some false) else (if x3_1.length < 17592186044416 then (impl_GoodEntries.l0 k1 l0 (x3_1 ++ [(rd_T51 l0 x9_1).f1]) l0 (l0.length : Int) (wrap64 (x9_1 + 1))) else (none)))) else (none)) else (none)) else (if x3_1.length < 17592186044416 then (impl_GoodEntries.l0 k1 l0 (x3_1 ++ [(rd_T51 l0 x9_1).f1]) l0 (l0.length : Int) (wrap64 (x9_1 + 1))) else (none))) else (some false)) = some r := H
            have A7 := Aside0.mk A70
            clear A70
            by_cases c8 : t233 = true
            · subst c8
              have H1 : (if x9_1 > 0 then (if 0 ≤ (wrap64 (x9_1 - 1)) then (if (wrap64 (x9_1 - 1)) < (l0.length : Int) then ((impl_compareEntries.f k1 ((rd_T51 l0 (wrap64 (x9_1 - 1))).f0) ((rd_T51 l0 (wrap64 (x9_1 - 1))).f1) ((rd_T51 l0 (wrap64 (x9_1 - 1))).f2) ((rd_T51 l0 (wrap64 (x9_1 - 1))).f3.f0) ((rd_T51 l0 (wrap64 (x9_1 - 1))).f3.f1) ((rd_T51 l0 (wrap64 (x9_1 - 1))).f3.f2) ((rd_T51 l0 (wrap64 (x9_1 - 1))).f3.f3) ((rd_T51 l0 (wrap64 (x9_1 - 1))).f3.f4) ((rd_T51 l0 (wrap64 (x9_1 - 1))).f3.f5) ((rd_T51 l0 x9_1).f0) ((rd_T51 l0 x9_1).f1) ((rd_T51 l0 x9_1).f2) ((rd_T51 l0 x9_1).f3.f0) ((rd_T51 l0 x9_1).f3.f1) ((rd_T51 l0 x9_1).f3.f2) ((rd_T51 l0 x9_1).f3.f3) ((rd_T51 l0 x9_1).f3.f4) ((rd_T51 l0 x9_1).f3.f5)).bind fun t235 => (if t235 ≥ 0 then (some false) else (if x3_1.length < 17592186044416 then (impl_GoodEntries.l0 k1 l0 (x3_1 ++ [(rd_T51 l0 x9_1).f1]) l0 (l0.length : Int) (wrap64 (x9_1 + 1))) else (none)))) else (none)) else (none)) else (if x3_1.length < 17592186044416 then (impl_GoodEntries.l0 k1 l0 (x3_1 ++ [(rd_T51 l0 x9_1).f1]) l0 (l0.length : Int) (wrap64 (x9_1 + 1))) else (none))) = some r := by rw [if_pos rfl] at H; exact H
              clear H
              have H := H1
              clear H1
              by_cases c9 : x9_1 > 0
              · rw [if_pos c9] at H
                have c9b0 : decide (0 < x9_1) = true := decide_eq_true c9
                clear c9
                obtain ⟨ji10, hji10⟩ : ∃ j_ : Int, (wrap64 (x9_1 - 1)) = j_ := ⟨_, rfl⟩
                replace H : (if 0 ≤ (ji10) then (if (ji10) < (l0.length : Int) then ((impl_compareEntries.f k1 ((rd_T51 l0 (ji10)).f0) ((rd_T51 l0 (ji10)).f1) ((rd_T51 l0 (ji10)).f2) ((rd_T51 l0 (ji10)).f3.f0) ((rd_T51 l0 (ji10)).f3.f1) ((rd_T51 l0 (ji10)).f3.f2) ((rd_T51 l0 (ji10)).f3.f3) ((rd_T51 l0 (ji10)).f3.f4) ((rd_T51 l0 (ji10)).f3.f5) ((rd_T51 l0 x9_1).f0) ((rd_T51 l0 x9_1).f1) ((rd_T51 l0 x9_1).f2) ((rd_T51 l0 x9_1).f3.f0) ((rd_T51 l0 x9_1).f3.f1) ((rd_T51 l0 x9_1).f3.f2) ((rd_T51 l0 x9_1).f3.f3) ((rd_T51 l0 x9_1).f3.f4) ((rd_T51 l0 x9_1).f3.f5)).bind fun t235 => (if t235 ≥ 0 then (some false) else (if x3_1.length < 17592186044416 then (impl_GoodEntries.l0 k1 l0 (x3_1 ++ [(rd_T51 l0 x9_1).f1]) l0 (l0.length : Int) (wrap64 (x9_1 + 1))) else (none)))) else (none)) else (none)) = some r := by first | (rw [hji10] at H; exact H) | (simp only [hji10] at H ⊢; exact H)
                (try rw [hji10] at A7)
                have hji10w : (IntKind.i64.wrap (x9_1 - 1)) = ji10 := (i64_w _).trans hji10
                by_cases c11 : 0 ≤ (ji10)
                · rw [if_pos c11] at H
                  have c11b0 : decide (0 ≤ (ji10)) = true := decide_eq_true c11
                  clear c11
                  by_cases c12 : (ji10) < (l0.length : Int)
                  · rw [if_pos c12] at H
                    have c12b0 : decide ((ji10) < (l0.length : Int)) = true := decide_eq_true c12
                    clear c12
                    replace H := Option.bind_eq_some_iff.mp H
                    obtain ⟨t235, A130, H⟩ := H
                    replace H : (if t235 ≥ 0 then (some false) else (if x3_1.length < 17592186044416 then (impl_GoodEntries.l0 k1 l0 (x3_1 ++ [(rd_T51 l0 x9_1).f1]) l0 (l0.length : Int) (wrap64 (x9_1 + 1))) else (none))) = some r := H
                    have A13 := Aside0.mk A130
                    clear A130
                    by_cases c14 : t235 ≥ 0
                    · rw [if_pos c14] at H
                      have c14b0 : decide (0 ≤ t235) = true := decide_eq_true c14
                      clear c14
                      obtain rfl := Option.some.inj H
                      have p231 : 0 ≤ (x9_1 : Int) := of_decide_eq_true (by first | (with_reducible assumption) | assumption)
                      have q231 : x9_1 < (l0.length : Int) := of_decide_eq_true (by first | (with_reducible assumption) | assumption)
                      obtain ⟨ad231, A231_7, c231_7, e231, hx231_0, hx231_1, hx231_2, hx231_3, hx231_4, hx231_5, hx231_6, hx231_7, hx231_8, hl231_7, hi231_7⟩ := at_T51 HR0.out x9_1 p231 q231
                      cases e231
                      try (replace hx231_0 := (HB.out.cell (World.block_lt_of_cell? w _ hx231_0)).trans hx231_0)
                      try (replace hx231_1 := (HB.out.cell (World.block_lt_of_cell? w _ hx231_1)).trans hx231_1)
                      try (replace hx231_2 := (HB.out.cell (World.block_lt_of_cell? w _ hx231_2)).trans hx231_2)
                      try (replace hx231_3 := (HB.out.cell (World.block_lt_of_cell? w _ hx231_3)).trans hx231_3)
                      try (replace hx231_4 := (HB.out.cell (World.block_lt_of_cell? w _ hx231_4)).trans hx231_4)
                      try (replace hx231_5 := (HB.out.cell (World.block_lt_of_cell? w _ hx231_5)).trans hx231_5)
                      try (replace hx231_6 := (HB.out.cell (World.block_lt_of_cell? w _ hx231_6)).trans hx231_6)
                      try (replace hx231_7 := (HB.out.cell (World.block_lt_of_cell? w _ hx231_7)).trans hx231_7)
                      try (replace hx231_8 := (HB.out.cell (World.block_lt_of_cell? w _ hx231_8)).trans hx231_8)
                      have HR231_7 := Aside0.mk hi231_7
                      have HC231_7 := Aside0.mk hl231_7
                      clear hi231_7 hl231_7
                      replace p231 := eq_true p231
                      replace q231 := eq_true q231
                      try go_wp2_with (first | ((with_reducible refine gate_dst (N := 5) rfl ?_); refine box_event ?hg (N := 5) ?hd (cs := #[.string (⟨#[]⟩ : ByteArray), .int .i64 0, .int .i64 0, .int .i64 0, .int .i64 0, .int .i64 0, .int .i64 0, .slice none 0 0, .bool false]) (t := 51) ?hr ?_; (case hd => rfl); (case hg => rfl); (case hr => first | (go_simp; done) | (go_simp; rfl)); intro gb232 hg w15 hbox hb; have n0_ := Aside0.mk (Kd.R_below (by (with_reducible repeat (first | apply Kd.R_alloc | apply Kd.R_drewN | apply Kd.R_drew)); exact HO_3.out) hb); have n1_ := Aside0.mk (below_step (by repeat (first | (with_reducible first | exact HB.out | apply below_alloc | apply pw_below_drewN | apply below_drew1) | exact HB.out)) hb); have n2_ := Aside0.mk (hbox); have n3_ := Aside0.mk ((by rw [hg]; exact (below_size (by repeat (first | (with_reducible first | exact HB.out | apply below_alloc | apply pw_below_drewN | apply below_drew1) | exact HB.out))) : w.heap.size ≤ gb232)); have n4_ := Aside0.mk ((by rw [hg]; exact (below_size (by repeat (first | (with_reducible first | exact HB.out | apply below_alloc | apply pw_below_drewN | apply below_drew1) | exact HB.out))) : w.heap.size ≤ gb232)); clear HO_3; clear HB; have HO_3 := n0_; have HB := n1_; have BK232 := n2_; have GW232 := n3_; have GE232 := n4_; clear n0_ n1_ n2_ n3_ n4_; clear hb hbox hg; have hcz16_0 : w15.cell? ⟨gb232, 0, none⟩ = some (.string (⟨#[]⟩ : ByteArray)) := (blk_cell BK232.out 0).trans rfl; have hcz16_1 : w15.cell? ⟨gb232, 1, none⟩ = some (.int .i64 0) := (blk_cell BK232.out 1).trans rfl; have hcz16_2 : w15.cell? ⟨gb232, 2, none⟩ = some (.int .i64 0) := (blk_cell BK232.out 2).trans rfl; have hcz16_3 : w15.cell? ⟨gb232, 3, none⟩ = some (.int .i64 0) := (blk_cell BK232.out 3).trans rfl; have hcz16_4 : w15.cell? ⟨gb232, 4, none⟩ = some (.int .i64 0) := (blk_cell BK232.out 4).trans rfl; have hcz16_5 : w15.cell? ⟨gb232, 5, none⟩ = some (.int .i64 0) := (blk_cell BK232.out 5).trans rfl; have hcz16_6 : w15.cell? ⟨gb232, 6, none⟩ = some (.int .i64 0) := (blk_cell BK232.out 6).trans rfl; have hcz16_7 : w15.cell? ⟨gb232, 7, none⟩ = some (.slice none 0 0) := (blk_cell BK232.out 7).trans rfl; have hcz16_8 : w15.cell? ⟨gb232, 8, none⟩ = some (.bool false) := (blk_cell BK232.out 8).trans rfl; have hfz16_0 := blk_frozen BK232.out 0; have hfz16_1 := blk_frozen BK232.out 1; have hfz16_2 := blk_frozen BK232.out 2; have hfz16_3 := blk_frozen BK232.out 3; have hfz16_4 := blk_frozen BK232.out 4; have hfz16_5 := blk_frozen BK232.out 5; have hfz16_6 := blk_frozen BK232.out 6; have hfz16_7 := blk_frozen BK232.out 7; have hfz16_8 := blk_frozen BK232.out 8))
                      have n0_ : Aside0 (Kd.R (Kd.int .i64) 3 (((((((((w15.setCell ⟨gb232, 0, none⟩ (.string ((rd_T51 l0 x9_1).f0))).setCell ⟨gb232, 1, none⟩ (.int .i64 ((rd_T51 l0 x9_1).f1))).setCell ⟨gb232, 2, none⟩ (.int .i64 ((rd_T51 l0 x9_1).f2))).setCell ⟨gb232, 3, none⟩ (.int .i64 ((rd_T51 l0 x9_1).f3.f0))).setCell ⟨gb232, 4, none⟩ (.int .i64 ((rd_T51 l0 x9_1).f3.f1))).setCell ⟨gb232, 5, none⟩ (.int .i64 ((rd_T51 l0 x9_1).f3.f2))).setCell ⟨gb232, 6, none⟩ (.int .i64 ((rd_T51 l0 x9_1).f3.f3))).setCell ⟨gb232, 7, none⟩ (.slice A231_7 ((rd_T51 l0 x9_1).f3.f4).length c231_7)).setCell ⟨gb232, 8, none⟩ (.bool ((rd_T51 l0 x9_1).f3.f5))) w.heap.size (fun _ => True) u3 x3_1) := ⟨by (with_reducible repeat (first | apply Kd.R_alloc | apply Kd.R_drewN | apply Kd.R_drew)); exact Kd.R_mono (Kd.R_far (p := ⟨gb232, 8, none⟩) (Kd.R_far (p := ⟨gb232, 7, none⟩) (Kd.R_far (p := ⟨gb232, 6, none⟩) (Kd.R_far (p := ⟨gb232, 5, none⟩) (Kd.R_far (p := ⟨gb232, 4, none⟩) (Kd.R_far (p := ⟨gb232, 3, none⟩) (Kd.R_far (p := ⟨gb232, 2, none⟩) (Kd.R_far (p := ⟨gb232, 1, none⟩) (Kd.R_far (p := ⟨gb232, 0, none⟩) (Kd.R_types HO_3.out BK232.out (by decide)) (fun _ hk => hk.2) (.string ((rd_T51 l0 x9_1).f0))) (fun _ hk => hk.2) (.int .i64 ((rd_T51 l0 x9_1).f1))) (fun _ hk => hk.2) (.int .i64 ((rd_T51 l0 x9_1).f2))) (fun _ hk => hk.2) (.int .i64 ((rd_T51 l0 x9_1).f3.f0))) (fun _ hk => hk.2) (.int .i64 ((rd_T51 l0 x9_1).f3.f1))) (fun _ hk => hk.2) (.int .i64 ((rd_T51 l0 x9_1).f3.f2))) (fun _ hk => hk.2) (.int .i64 ((rd_T51 l0 x9_1).f3.f3))) (fun _ hk => hk.2) (.slice A231_7 ((rd_T51 l0 x9_1).f3.f4).length c231_7)) (fun _ hk => hk.2) (.bool ((rd_T51 l0 x9_1).f3.f5))) (fun _ hk => trivial)⟩
                      have n1_ : Aside0 ((((((((((w15.setCell ⟨gb232, 0, none⟩ (.string ((rd_T51 l0 x9_1).f0))).setCell ⟨gb232, 1, none⟩ (.int .i64 ((rd_T51 l0 x9_1).f1))).setCell ⟨gb232, 2, none⟩ (.int .i64 ((rd_T51 l0 x9_1).f2))).setCell ⟨gb232, 3, none⟩ (.int .i64 ((rd_T51 l0 x9_1).f3.f0))).setCell ⟨gb232, 4, none⟩ (.int .i64 ((rd_T51 l0 x9_1).f3.f1))).setCell ⟨gb232, 5, none⟩ (.int .i64 ((rd_T51 l0 x9_1).f3.f2))).setCell ⟨gb232, 6, none⟩ (.int .i64 ((rd_T51 l0 x9_1).f3.f3))).setCell ⟨gb232, 7, none⟩ (.slice A231_7 ((rd_T51 l0 x9_1).f3.f4).length c231_7)).setCell ⟨gb232, 8, none⟩ (.bool ((rd_T51 l0 x9_1).f3.f5))).heap[gb232]? = some (.cells #[.string ((rd_T51 l0 x9_1).f0), .int .i64 ((rd_T51 l0 x9_1).f1), .int .i64 ((rd_T51 l0 x9_1).f2), .int .i64 ((rd_T51 l0 x9_1).f3.f0), .int .i64 ((rd_T51 l0 x9_1).f3.f1), .int .i64 ((rd_T51 l0 x9_1).f3.f2), .int .i64 ((rd_T51 l0 x9_1).f3.f3), .slice A231_7 ((rd_T51 l0 x9_1).f3.f4).length c231_7, .bool ((rd_T51 l0 x9_1).f3.f5)] 51 (0, 0))) := ⟨by (with_reducible repeat (first | refine blk_drewN ?_ _ | refine blk_drew ?_ | refine blk_alloc ?_ _)); refine blk_put (cs := #[.string ((rd_T51 l0 x9_1).f0), .int .i64 ((rd_T51 l0 x9_1).f1), .int .i64 ((rd_T51 l0 x9_1).f2), .int .i64 ((rd_T51 l0 x9_1).f3.f0), .int .i64 ((rd_T51 l0 x9_1).f3.f1), .int .i64 ((rd_T51 l0 x9_1).f3.f2), .int .i64 ((rd_T51 l0 x9_1).f3.f3), .slice A231_7 ((rd_T51 l0 x9_1).f3.f4).length c231_7, .bool false]) ?_ 8 _ rfl; (with_reducible repeat (first | refine blk_drewN ?_ _ | refine blk_drew ?_ | refine blk_alloc ?_ _)); refine blk_put (cs := #[.string ((rd_T51 l0 x9_1).f0), .int .i64 ((rd_T51 l0 x9_1).f1), .int .i64 ((rd_T51 l0 x9_1).f2), .int .i64 ((rd_T51 l0 x9_1).f3.f0), .int .i64 ((rd_T51 l0 x9_1).f3.f1), .int .i64 ((rd_T51 l0 x9_1).f3.f2), .int .i64 ((rd_T51 l0 x9_1).f3.f3), .slice none 0 0, .bool false]) ?_ 7 _ rfl; (with_reducible repeat (first | refine blk_drewN ?_ _ | refine blk_drew ?_ | refine blk_alloc ?_ _)); refine blk_put (cs := #[.string ((rd_T51 l0 x9_1).f0), .int .i64 ((rd_T51 l0 x9_1).f1), .int .i64 ((rd_T51 l0 x9_1).f2), .int .i64 ((rd_T51 l0 x9_1).f3.f0), .int .i64 ((rd_T51 l0 x9_1).f3.f1), .int .i64 ((rd_T51 l0 x9_1).f3.f2), .int .i64 0, .slice none 0 0, .bool false]) ?_ 6 _ rfl; (with_reducible repeat (first | refine blk_drewN ?_ _ | refine blk_drew ?_ | refine blk_alloc ?_ _)); refine blk_put (cs := #[.string ((rd_T51 l0 x9_1).f0), .int .i64 ((rd_T51 l0 x9_1).f1), .int .i64 ((rd_T51 l0 x9_1).f2), .int .i64 ((rd_T51 l0 x9_1).f3.f0), .int .i64 ((rd_T51 l0 x9_1).f3.f1), .int .i64 0, .int .i64 0, .slice none 0 0, .bool false]) ?_ 5 _ rfl; (with_reducible repeat (first | refine blk_drewN ?_ _ | refine blk_drew ?_ | refine blk_alloc ?_ _)); refine blk_put (cs := #[.string ((rd_T51 l0 x9_1).f0), .int .i64 ((rd_T51 l0 x9_1).f1), .int .i64 ((rd_T51 l0 x9_1).f2), .int .i64 ((rd_T51 l0 x9_1).f3.f0), .int .i64 0, .int .i64 0, .int .i64 0, .slice none 0 0, .bool false]) ?_ 4 _ rfl; (with_reducible repeat (first | refine blk_drewN ?_ _ | refine blk_drew ?_ | refine blk_alloc ?_ _)); refine blk_put (cs := #[.string ((rd_T51 l0 x9_1).f0), .int .i64 ((rd_T51 l0 x9_1).f1), .int .i64 ((rd_T51 l0 x9_1).f2), .int .i64 0, .int .i64 0, .int .i64 0, .int .i64 0, .slice none 0 0, .bool false]) ?_ 3 _ rfl; (with_reducible repeat (first | refine blk_drewN ?_ _ | refine blk_drew ?_ | refine blk_alloc ?_ _)); refine blk_put (cs := #[.string ((rd_T51 l0 x9_1).f0), .int .i64 ((rd_T51 l0 x9_1).f1), .int .i64 0, .int .i64 0, .int .i64 0, .int .i64 0, .int .i64 0, .slice none 0 0, .bool false]) ?_ 2 _ rfl; (with_reducible repeat (first | refine blk_drewN ?_ _ | refine blk_drew ?_ | refine blk_alloc ?_ _)); refine blk_put (cs := #[.string ((rd_T51 l0 x9_1).f0), .int .i64 0, .int .i64 0, .int .i64 0, .int .i64 0, .int .i64 0, .int .i64 0, .slice none 0 0, .bool false]) ?_ 1 _ rfl; (with_reducible repeat (first | refine blk_drewN ?_ _ | refine blk_drew ?_ | refine blk_alloc ?_ _)); refine blk_put (cs := #[.string (⟨#[]⟩ : ByteArray), .int .i64 0, .int .i64 0, .int .i64 0, .int .i64 0, .int .i64 0, .int .i64 0, .slice none 0 0, .bool false]) ?_ 0 _ rfl; (with_reducible repeat (first | refine blk_drewN ?_ _ | refine blk_drew ?_ | refine blk_alloc ?_ _)); exact BK232.out⟩
                      have n2_ : Aside0 (Below w.heap.size w (((((((((w15.setCell ⟨gb232, 0, none⟩ (.string ((rd_T51 l0 x9_1).f0))).setCell ⟨gb232, 1, none⟩ (.int .i64 ((rd_T51 l0 x9_1).f1))).setCell ⟨gb232, 2, none⟩ (.int .i64 ((rd_T51 l0 x9_1).f2))).setCell ⟨gb232, 3, none⟩ (.int .i64 ((rd_T51 l0 x9_1).f3.f0))).setCell ⟨gb232, 4, none⟩ (.int .i64 ((rd_T51 l0 x9_1).f3.f1))).setCell ⟨gb232, 5, none⟩ (.int .i64 ((rd_T51 l0 x9_1).f3.f2))).setCell ⟨gb232, 6, none⟩ (.int .i64 ((rd_T51 l0 x9_1).f3.f3))).setCell ⟨gb232, 7, none⟩ (.slice A231_7 ((rd_T51 l0 x9_1).f3.f4).length c231_7)).setCell ⟨gb232, 8, none⟩ (.bool ((rd_T51 l0 x9_1).f3.f5)))) := ⟨by repeat (first | (with_reducible first | exact HB.out | apply below_alloc | apply pw_below_drewN | apply below_drew1 | refine below_set ?_ GE232.out) | exact HB.out)⟩
                      (try clear HO_3)
                      (try clear BK232)
                      (try clear HB)
                      generalize (((((((((w15.setCell ⟨gb232, 0, none⟩ (.string ((rd_T51 l0 x9_1).f0))).setCell ⟨gb232, 1, none⟩ (.int .i64 ((rd_T51 l0 x9_1).f1))).setCell ⟨gb232, 2, none⟩ (.int .i64 ((rd_T51 l0 x9_1).f2))).setCell ⟨gb232, 3, none⟩ (.int .i64 ((rd_T51 l0 x9_1).f3.f0))).setCell ⟨gb232, 4, none⟩ (.int .i64 ((rd_T51 l0 x9_1).f3.f1))).setCell ⟨gb232, 5, none⟩ (.int .i64 ((rd_T51 l0 x9_1).f3.f2))).setCell ⟨gb232, 6, none⟩ (.int .i64 ((rd_T51 l0 x9_1).f3.f3))).setCell ⟨gb232, 7, none⟩ (.slice A231_7 ((rd_T51 l0 x9_1).f3.f4).length c231_7)).setCell ⟨gb232, 8, none⟩ (.bool ((rd_T51 l0 x9_1).f3.f5))) = w17 at n0_ n1_ n2_ ⊢
                      have HO_3 := n0_
                      have BK232 := n1_
                      have HB := n2_
                      clear n0_ n1_ n2_
                      have n0_ := Aside0.mk (Kd.R_drew HO_3.out)
                      have n1_ := Aside0.mk (blk_drew BK232.out)
                      have n2_ := Aside0.mk (below_drew1 HB.out)
                      clear HO_3
                      clear BK232
                      clear HB
                      have HO_3 := n0_
                      have BK232 := n1_
                      have HB := n2_
                      clear n0_ n1_ n2_
                      have p234 : 0 ≤ ((ji10) : Int) := of_decide_eq_true (by first | (with_reducible assumption) | assumption)
                      have q234 : (ji10) < (l0.length : Int) := of_decide_eq_true (by first | (with_reducible assumption) | assumption)
                      obtain ⟨ad234, A234_7, c234_7, e234, hx234_0, hx234_1, hx234_2, hx234_3, hx234_4, hx234_5, hx234_6, hx234_7, hx234_8, hl234_7, hi234_7⟩ := at_T51 HR0.out (ji10) p234 q234
                      have hw234_8 := hx234_8
                      have hw234_7 := hx234_7
                      have hw234_6 := hx234_6
                      have hw234_5 := hx234_5
                      have hw234_4 := hx234_4
                      have hw234_3 := hx234_3
                      have hw234_2 := hx234_2
                      have hw234_1 := hx234_1
                      have hw234_0 := hx234_0
                      obtain rfl : ad231 = ad234 := (by injection e234)
                      try (replace hx234_0 := (HB.out.cell (World.block_lt_of_cell? w _ hx234_0)).trans hx234_0)
                      try (replace hx234_1 := (HB.out.cell (World.block_lt_of_cell? w _ hx234_1)).trans hx234_1)
                      try (replace hx234_2 := (HB.out.cell (World.block_lt_of_cell? w _ hx234_2)).trans hx234_2)
                      try (replace hx234_3 := (HB.out.cell (World.block_lt_of_cell? w _ hx234_3)).trans hx234_3)
                      try (replace hx234_4 := (HB.out.cell (World.block_lt_of_cell? w _ hx234_4)).trans hx234_4)
                      try (replace hx234_5 := (HB.out.cell (World.block_lt_of_cell? w _ hx234_5)).trans hx234_5)
                      try (replace hx234_6 := (HB.out.cell (World.block_lt_of_cell? w _ hx234_6)).trans hx234_6)
                      try (replace hx234_7 := (HB.out.cell (World.block_lt_of_cell? w _ hx234_7)).trans hx234_7)
                      try (replace hx234_8 := (HB.out.cell (World.block_lt_of_cell? w _ hx234_8)).trans hx234_8)
                      have HR234_7 := Aside0.mk hi234_7
                      have HC234_7 := Aside0.mk hl234_7
                      clear hi234_7 hl234_7
                      replace p234 := eq_true p234
                      replace q234 := eq_true q234
                      refine start_ (n := 17) (S := fun w' => w'.cell? ⟨gb232, 0, none⟩ = some (.string ((rd_T51 l0 x9_1).f0)) ∧ w'.cell? ⟨gb232, 1, none⟩ = some (.int .i64 ((rd_T51 l0 x9_1).f1)) ∧ w'.cell? ⟨gb232, 2, none⟩ = some (.int .i64 ((rd_T51 l0 x9_1).f2)) ∧ w'.cell? ⟨gb232, 3, none⟩ = some (.int .i64 ((rd_T51 l0 x9_1).f3.f0)) ∧ w'.cell? ⟨gb232, 4, none⟩ = some (.int .i64 ((rd_T51 l0 x9_1).f3.f1)) ∧ w'.cell? ⟨gb232, 5, none⟩ = some (.int .i64 ((rd_T51 l0 x9_1).f3.f2)) ∧ w'.cell? ⟨gb232, 6, none⟩ = some (.int .i64 ((rd_T51 l0 x9_1).f3.f3)) ∧ w'.cell? ⟨gb232, 7, none⟩ = some (.slice A231_7 ((rd_T51 l0 x9_1).f3.f4).length c231_7) ∧ w'.cell? ⟨gb232, 8, none⟩ = some (.bool ((rd_T51 l0 x9_1).f3.f5)) ∧ w'.cell? (ad231.add (((ji10)).toNat * 9)) = some (.string ((rd_T51 l0 (ji10)).f0)) ∧ w'.cell? ⟨(ad231.add (((ji10)).toNat * 9)).block, (ad231.add (((ji10)).toNat * 9)).off + 1, none⟩ = some (.int .i64 ((rd_T51 l0 (ji10)).f1)) ∧ w'.cell? ⟨(ad231.add (((ji10)).toNat * 9)).block, (ad231.add (((ji10)).toNat * 9)).off + 2, none⟩ = some (.int .i64 ((rd_T51 l0 (ji10)).f2)) ∧ w'.cell? ⟨(ad231.add (((ji10)).toNat * 9)).block, (ad231.add (((ji10)).toNat * 9)).off + 3, none⟩ = some (.int .i64 ((rd_T51 l0 (ji10)).f3.f0)) ∧ w'.cell? ⟨(ad231.add (((ji10)).toNat * 9)).block, (ad231.add (((ji10)).toNat * 9)).off + 4, none⟩ = some (.int .i64 ((rd_T51 l0 (ji10)).f3.f1)) ∧ w'.cell? ⟨(ad231.add (((ji10)).toNat * 9)).block, (ad231.add (((ji10)).toNat * 9)).off + 5, none⟩ = some (.int .i64 ((rd_T51 l0 (ji10)).f3.f2)) ∧ w'.cell? ⟨(ad231.add (((ji10)).toNat * 9)).block, (ad231.add (((ji10)).toNat * 9)).off + 6, none⟩ = some (.int .i64 ((rd_T51 l0 (ji10)).f3.f3)) ∧ w'.cell? ⟨(ad231.add (((ji10)).toNat * 9)).block, (ad231.add (((ji10)).toNat * 9)).off + 7, none⟩ = some (.slice A234_7 ((rd_T51 l0 (ji10)).f3.f4).length c234_7) ∧ w'.cell? ⟨(ad231.add (((ji10)).toNat * 9)).block, (ad231.add (((ji10)).toNat * 9)).off + 8, none⟩ = some (.bool ((rd_T51 l0 (ji10)).f3.f5))) (ds := []) #[false, false, false, false, false, false, false, false, false, false, false, false, false, false, false, false, false] (by kernel_rfl) rfl rfl ⟨(blk_cell BK232.out 0).trans rfl, (blk_cell BK232.out 1).trans rfl, (blk_cell BK232.out 2).trans rfl, (blk_cell BK232.out 3).trans rfl, (blk_cell BK232.out 4).trans rfl, (blk_cell BK232.out 5).trans rfl, (blk_cell BK232.out 6).trans rfl, (blk_cell BK232.out 7).trans rfl, (blk_cell BK232.out 8).trans rfl, ((HB.out.cell (World.block_lt_of_cell? w _ hw234_0)).trans hw234_0), ((HB.out.cell (World.block_lt_of_cell? w _ hw234_1)).trans hw234_1), ((HB.out.cell (World.block_lt_of_cell? w _ hw234_2)).trans hw234_2), ((HB.out.cell (World.block_lt_of_cell? w _ hw234_3)).trans hw234_3), ((HB.out.cell (World.block_lt_of_cell? w _ hw234_4)).trans hw234_4), ((HB.out.cell (World.block_lt_of_cell? w _ hw234_5)).trans hw234_5), ((HB.out.cell (World.block_lt_of_cell? w _ hw234_6)).trans hw234_6), ((HB.out.cell (World.block_lt_of_cell? w _ hw234_7)).trans hw234_7), ((HB.out.cell (World.block_lt_of_cell? w _ hw234_8)).trans hw234_8)⟩ (fun hHeld => ?_); refine with_tabW impl_GoodEntries.tab5 impl_GoodEntries.bits5 (fun HT_ HW_ => ?_)
                      generalize w17.drew = w18 at HO_3 BK232 HB HR234_7 hx234_0 hx234_1 hx234_2 hx234_3 hx234_4 hx234_5 hx234_6 hx234_7 hx234_8 hHeld ⊢
                      refine take_ (i := 0) (N := some 14) (v := ?_) (a' := ?_) #[true, false, false, false, false, false, false, false, false, false, false, false, false, false, false, false, false] rfl rfl (take_ofW HT_.out HW_.out (by kernel_rfl)) (fun _ _ _ h => h) (Or.inl ⟨by rfl, ?_⟩) hHeld ?_ ?_
                      rotate_left
                      · rintro w' ⟨s0, s1, s2, s3, s4, s5, s6, s7, s8, s9, s10, s11, s12, s13, s14, s15, s16, s17⟩
                        go_simp
                        with_reducible rfl
                      rotate_left
                      · simp only [Act.put, List.setIfInBounds_toArray, List.set_cons_zero, List.set_cons_succ, i64_w, i32_w]
                        rfl
                      refine one_ (i := 1) (N := some 15) #[true, true, false, false, false, false, false, false, false, false, false, false, false, false, false, false, false] rfl rfl (one_of HT_.out (by kernel_rfl)) (by decide) (fun K hK => ?_)
                      refine goes_ Try.func32 (by kernel_rfl) rfl #[.agg #[.string ((rd_T51 l0 x9_1).f0), .int .i64 ((rd_T51 l0 x9_1).f1), .int .i64 ((rd_T51 l0 x9_1).f2), .int .i64 ((rd_T51 l0 x9_1).f3.f0), .int .i64 ((rd_T51 l0 x9_1).f3.f1), .int .i64 ((rd_T51 l0 x9_1).f3.f2), .int .i64 ((rd_T51 l0 x9_1).f3.f3), .slice A231_7 ((rd_T51 l0 x9_1).f3.f4).length c231_7, .bool ((rd_T51 l0 x9_1).f3.f5)]] (by rfl) rfl rfl (by (try simp only [List.map_toArray, List.map_cons, List.map_nil]); first | done | rfl | (simp only [List.length_drop, List.length_take]; rfl)) ?_
                      with_reducible refine (impl_GoodEntry.calls k1 ((rd_T51 l0 x9_1).f0) ((rd_T51 l0 x9_1).f1) ((rd_T51 l0 x9_1).f2) ((rd_T51 l0 x9_1).f3.f0) ((rd_T51 l0 x9_1).f3.f1) ((rd_T51 l0 x9_1).f3.f2) ((rd_T51 l0 x9_1).f3.f3) _ _ ((rd_T51 l0 x9_1).f3.f4) ((rd_T51 l0 x9_1).f3.f5) true _ ?side1 ?side2 A7.out).mono ?_
                      (case side1 => repeat (first | exact (Kd.C_below HR231_7.out HB.out) | (with_reducible refine Kd.C_alloc ?_ _) | (with_reducible refine Kd.C_drewN ?_ _) | (with_reducible refine Kd.C_drew ?_)))
                      (case side2 => exact HC231_7.out)
                      rintro e w19 ⟨rfl, hb⟩
                      refine ⟨_, rfl, ?_⟩
                      have n0_ := Aside0.mk (Kd.R_below (by (with_reducible repeat (first | apply Kd.R_alloc | apply Kd.R_drewN | apply Kd.R_drew)); exact HO_3.out) hb)
                      have n1_ := Aside0.mk (blk_below (g := gb232) (o := .cells #[.string ((rd_T51 l0 x9_1).f0), .int .i64 ((rd_T51 l0 x9_1).f1), .int .i64 ((rd_T51 l0 x9_1).f2), .int .i64 ((rd_T51 l0 x9_1).f3.f0), .int .i64 ((rd_T51 l0 x9_1).f3.f1), .int .i64 ((rd_T51 l0 x9_1).f3.f2), .int .i64 ((rd_T51 l0 x9_1).f3.f3), .slice A231_7 ((rd_T51 l0 x9_1).f3.f4).length c231_7, .bool ((rd_T51 l0 x9_1).f3.f5)] 51 (0, 0)) (by (with_reducible repeat (first | refine blk_drewN ?_ _ | refine blk_drew ?_ | refine blk_alloc ?_ _)); exact BK232.out) hb)
                      have n2_ := Aside0.mk (below_step (by repeat (first | (with_reducible first | exact HB.out | apply below_alloc | apply pw_below_drewN | apply below_drew1 | refine below_set ?_ GE232.out) | exact HB.out)) hb)
                      clear HO_3
                      clear BK232
                      clear HB
                      have HO_3 := n0_
                      have BK232 := n1_
                      have HB := n2_
                      clear n0_ n1_ n2_
                      (try clear hb)
                      (try clear hb2)
                      (try clear hk)
                      (try clear hi)
                      refine hK.out _ _ ⟨(blk_cell BK232.out 0).trans rfl, (blk_cell BK232.out 1).trans rfl, (blk_cell BK232.out 2).trans rfl, (blk_cell BK232.out 3).trans rfl, (blk_cell BK232.out 4).trans rfl, (blk_cell BK232.out 5).trans rfl, (blk_cell BK232.out 6).trans rfl, (blk_cell BK232.out 7).trans rfl, (blk_cell BK232.out 8).trans rfl, ((HB.out.cell (World.block_lt_of_cell? w _ hw234_0)).trans hw234_0), ((HB.out.cell (World.block_lt_of_cell? w _ hw234_1)).trans hw234_1), ((HB.out.cell (World.block_lt_of_cell? w _ hw234_2)).trans hw234_2), ((HB.out.cell (World.block_lt_of_cell? w _ hw234_3)).trans hw234_3), ((HB.out.cell (World.block_lt_of_cell? w _ hw234_4)).trans hw234_4), ((HB.out.cell (World.block_lt_of_cell? w _ hw234_5)).trans hw234_5), ((HB.out.cell (World.block_lt_of_cell? w _ hw234_6)).trans hw234_6), ((HB.out.cell (World.block_lt_of_cell? w _ hw234_7)).trans hw234_7), ((HB.out.cell (World.block_lt_of_cell? w _ hw234_8)).trans hw234_8)⟩ (fun hHeld => ?_)
                      clear hK K
                      refine norm_ (a' := ?_) ?_ ?_
                      rotate_left
                      · show Act.put _ (some 15) _ = _
                        simp only [Act.put, List.setIfInBounds_toArray, List.set_cons_zero, List.set_cons_succ, i64_w, i32_w]
                        rfl
                      refine pure_ (i := 2) (N := some 16) (v := ?_) (a' := ?_) #[true, true, true, false, false, false, false, false, false, false, false, false, false, false, false, false, false] rfl rfl (any_of HT_.out (by kernel_rfl)) (fun _ _ _ h => h) (Or.inl ⟨by rfl, ?_⟩) ?_ ?_
                      rotate_left
                      · intro w'
                        go_simp
                        with_reducible rfl
                      rotate_left
                      · simp only [Act.put, List.setIfInBounds_toArray, List.set_cons_zero, List.set_cons_succ, i64_w, i32_w]
                        rfl
                      refine pure_ (i := 3) (N := some 17) (v := ?_) (a' := ?_) #[true, true, true, true, false, false, false, false, false, false, false, false, false, false, false, false, false] rfl rfl (any_of HT_.out (by kernel_rfl)) (fun _ _ _ h => h) (Or.inl ⟨by rfl, ?_⟩) ?_ ?_
                      rotate_left
                      · intro w'
                        go_simp
                        with_reducible rfl
                      rotate_left
                      · simp only [Act.put, List.setIfInBounds_toArray, List.set_cons_zero, List.set_cons_succ, i64_w, i32_w]
                        rfl
                      refine pure_ (i := 4) (N := some 18) (v := ?_) (a' := ?_) #[true, true, true, true, true, false, false, false, false, false, false, false, false, false, false, false, false] rfl rfl (any_of HT_.out (by kernel_rfl)) (fun _ _ _ h => h) (Or.inl ⟨by rfl, ?_⟩) ?_ ?_
                      rotate_left
                      · intro w'
                        go_simp
                        with_reducible rfl
                      rotate_left
                      · simp only [Act.put, List.setIfInBounds_toArray, List.set_cons_zero, List.set_cons_succ, i64_w, i32_w]
                        rfl
                      refine pure_ (i := 5) (N := some 19) (v := ?_) (a' := ?_) #[true, true, true, true, true, true, false, false, false, false, false, false, false, false, false, false, false] rfl rfl (any_of HT_.out (by kernel_rfl)) (fun _ _ _ h => h) (Or.inl ⟨by rfl, ?_⟩) ?_ ?_
                      rotate_left
                      · intro w'
                        go_simp
                        with_reducible rfl
                      rotate_left
                      · simp only [Act.put, List.setIfInBounds_toArray, List.set_cons_zero, List.set_cons_succ, i64_w, i32_w]
                        rfl
                      refine pure_ (i := 6) (N := some 20) (v := ?_) (a' := ?_) #[true, true, true, true, true, true, true, false, false, false, false, false, false, false, false, false, false] rfl rfl (any_of HT_.out (by kernel_rfl)) (fun _ _ _ h => h) (Or.inl ⟨by rfl, ?_⟩) ?_ ?_
                      rotate_left
                      · intro w'
                        go_simp
                        with_reducible rfl
                      rotate_left
                      · simp only [Act.put, List.setIfInBounds_toArray, List.set_cons_zero, List.set_cons_succ, i64_w, i32_w]
                        rfl
                      refine pure_ (i := 7) (N := some 21) (v := ?_) (a' := ?_) #[true, true, true, true, true, true, true, true, false, false, false, false, false, false, false, false, false] rfl rfl (any_of HT_.out (by kernel_rfl)) (fun _ _ _ h => h) (Or.inl ⟨by rfl, ?_⟩) ?_ ?_
                      rotate_left
                      · intro w'
                        go_simp
                        with_reducible rfl
                      rotate_left
                      · simp only [Act.put, List.setIfInBounds_toArray, List.set_cons_zero, List.set_cons_succ, i64_w, i32_w]
                        rfl
                      refine pure_ (i := 8) (N := some 22) (v := ?_) (a' := ?_) #[true, true, true, true, true, true, true, true, true, false, false, false, false, false, false, false, false] rfl rfl (any_of HT_.out (by kernel_rfl)) (fun _ _ _ h => h) (Or.inl ⟨by rfl, ?_⟩) ?_ ?_
                      rotate_left
                      · intro w'
                        go_simp
                        with_reducible rfl
                      rotate_left
                      · simp only [Act.put, List.setIfInBounds_toArray, List.set_cons_zero, List.set_cons_succ, i64_w, i32_w]
                        rfl
                      refine pure_ (i := 9) (N := some 23) (v := ?_) (a' := ?_) #[true, true, true, true, true, true, true, true, true, true, false, false, false, false, false, false, false] rfl rfl (any_of HT_.out (by kernel_rfl)) (fun _ _ _ h => h) (Or.inl ⟨by rfl, ?_⟩) ?_ ?_
                      rotate_left
                      · intro w'
                        go_simp
                        with_reducible rfl
                      rotate_left
                      · simp only [Act.put, List.setIfInBounds_toArray, List.set_cons_zero, List.set_cons_succ, i64_w, i32_w]
                        rfl
                      refine pure_ (i := 10) (N := some 24) (v := ?_) (a' := ?_) #[true, true, true, true, true, true, true, true, true, true, true, false, false, false, false, false, false] rfl rfl (any_of HT_.out (by kernel_rfl)) (fun _ _ _ h => h) (Or.inl ⟨by rfl, ?_⟩) ?_ ?_
                      rotate_left
                      · intro w'
                        go_simp
                        with_reducible rfl
                      rotate_left
                      · simp only [Act.put, List.setIfInBounds_toArray, List.set_cons_zero, List.set_cons_succ, i64_w, i32_w]
                        rfl
                      refine take_ (i := 11) (N := some 25) (v := ?_) (a' := ?_) #[true, true, true, true, true, true, true, true, true, true, true, true, false, false, false, false, false] rfl rfl (take_ofW HT_.out HW_.out (by kernel_rfl)) (fun _ _ _ h => h) (Or.inl ⟨by rfl, ?_⟩) hHeld ?_ ?_
                      rotate_left
                      · rintro w' ⟨s0, s1, s2, s3, s4, s5, s6, s7, s8, s9, s10, s11, s12, s13, s14, s15, s16, s17⟩
                        go_simp
                        with_reducible rfl
                      rotate_left
                      · simp only [Act.put, List.setIfInBounds_toArray, List.set_cons_zero, List.set_cons_succ, i64_w, i32_w]
                        rfl
                      refine take_ (i := 12) (N := some 26) (v := ?_) (a' := ?_) #[true, true, true, true, true, true, true, true, true, true, true, true, true, false, false, false, false] rfl rfl (take_ofW HT_.out HW_.out (by kernel_rfl)) (fun _ _ _ h => h) (Or.inl ⟨by rfl, ?_⟩) hHeld ?_ ?_
                      rotate_left
                      · rintro w' ⟨s0, s1, s2, s3, s4, s5, s6, s7, s8, s9, s10, s11, s12, s13, s14, s15, s16, s17⟩
                        go_simp
                        with_reducible rfl
                      rotate_left
                      · simp only [Act.put, List.setIfInBounds_toArray, List.set_cons_zero, List.set_cons_succ, i64_w, i32_w]
                        rfl
                      refine one_ (i := 13) (N := some 27) #[true, true, true, true, true, true, true, true, true, true, true, true, true, true, false, false, false] rfl rfl (one_of HT_.out (by kernel_rfl)) (by decide) (fun K hK => ?_)
                      refine goes_ Try.func33 (by kernel_rfl) rfl #[.agg #[.string ((rd_T51 l0 (ji10)).f0), .int .i64 ((rd_T51 l0 (ji10)).f1), .int .i64 ((rd_T51 l0 (ji10)).f2), .int .i64 ((rd_T51 l0 (ji10)).f3.f0), .int .i64 ((rd_T51 l0 (ji10)).f3.f1), .int .i64 ((rd_T51 l0 (ji10)).f3.f2), .int .i64 ((rd_T51 l0 (ji10)).f3.f3), .slice A234_7 ((rd_T51 l0 (ji10)).f3.f4).length c234_7, .bool ((rd_T51 l0 (ji10)).f3.f5)], .agg #[.string ((rd_T51 l0 x9_1).f0), .int .i64 ((rd_T51 l0 x9_1).f1), .int .i64 ((rd_T51 l0 x9_1).f2), .int .i64 ((rd_T51 l0 x9_1).f3.f0), .int .i64 ((rd_T51 l0 x9_1).f3.f1), .int .i64 ((rd_T51 l0 x9_1).f3.f2), .int .i64 ((rd_T51 l0 x9_1).f3.f3), .slice A231_7 ((rd_T51 l0 x9_1).f3.f4).length c231_7, .bool ((rd_T51 l0 x9_1).f3.f5)]] (by rfl) rfl rfl (by (try simp only [List.map_toArray, List.map_cons, List.map_nil]); first | done | (simp only [hji10]; rfl) | rfl | (simp only [List.length_drop, List.length_take]; rfl)) ?_
                      with_reducible refine (impl_compareEntries.calls k1 ((rd_T51 l0 (ji10)).f0) ((rd_T51 l0 (ji10)).f1) ((rd_T51 l0 (ji10)).f2) ((rd_T51 l0 (ji10)).f3.f0) ((rd_T51 l0 (ji10)).f3.f1) ((rd_T51 l0 (ji10)).f3.f2) ((rd_T51 l0 (ji10)).f3.f3) _ _ ((rd_T51 l0 (ji10)).f3.f4) ((rd_T51 l0 (ji10)).f3.f5) ((rd_T51 l0 x9_1).f0) ((rd_T51 l0 x9_1).f1) ((rd_T51 l0 x9_1).f2) ((rd_T51 l0 x9_1).f3.f0) ((rd_T51 l0 x9_1).f3.f1) ((rd_T51 l0 x9_1).f3.f2) ((rd_T51 l0 x9_1).f3.f3) _ _ ((rd_T51 l0 x9_1).f3.f4) ((rd_T51 l0 x9_1).f3.f5) t235 _ ?side1 ?side2 ?side3 ?side4 A13.out).mono ?_
                      (case side1 => repeat (first | exact (Kd.C_below HR234_7.out HB.out) | (with_reducible refine Kd.C_alloc ?_ _) | (with_reducible refine Kd.C_drewN ?_ _) | (with_reducible refine Kd.C_drew ?_)))
                      (case side2 => exact HC234_7.out)
                      (case side3 => repeat (first | exact (Kd.C_below HR231_7.out HB.out) | (with_reducible refine Kd.C_alloc ?_ _) | (with_reducible refine Kd.C_drewN ?_ _) | (with_reducible refine Kd.C_drew ?_)))
                      (case side4 => exact HC231_7.out)
                      rintro e w20 ⟨rfl, hb⟩
                      refine ⟨_, rfl, ?_⟩
                      have n0_ := Aside0.mk (Kd.R_below (by (with_reducible repeat (first | apply Kd.R_alloc | apply Kd.R_drewN | apply Kd.R_drew)); exact HO_3.out) hb)
                      have n1_ := Aside0.mk (blk_below (g := gb232) (o := .cells #[.string ((rd_T51 l0 x9_1).f0), .int .i64 ((rd_T51 l0 x9_1).f1), .int .i64 ((rd_T51 l0 x9_1).f2), .int .i64 ((rd_T51 l0 x9_1).f3.f0), .int .i64 ((rd_T51 l0 x9_1).f3.f1), .int .i64 ((rd_T51 l0 x9_1).f3.f2), .int .i64 ((rd_T51 l0 x9_1).f3.f3), .slice A231_7 ((rd_T51 l0 x9_1).f3.f4).length c231_7, .bool ((rd_T51 l0 x9_1).f3.f5)] 51 (0, 0)) (by (with_reducible repeat (first | refine blk_drewN ?_ _ | refine blk_drew ?_ | refine blk_alloc ?_ _)); exact BK232.out) hb)
                      have n2_ := Aside0.mk (below_step (by repeat (first | (with_reducible first | exact HB.out | apply below_alloc | apply pw_below_drewN | apply below_drew1 | refine below_set ?_ GE232.out) | exact HB.out)) hb)
                      clear HO_3
                      clear BK232
                      clear HB
                      have HO_3 := n0_
                      have BK232 := n1_
                      have HB := n2_
                      clear n0_ n1_ n2_
                      (try clear hb)
                      (try clear hb2)
                      (try clear hk)
                      (try clear hi)
                      refine hK.out _ _ ⟨(blk_cell BK232.out 0).trans rfl, (blk_cell BK232.out 1).trans rfl, (blk_cell BK232.out 2).trans rfl, (blk_cell BK232.out 3).trans rfl, (blk_cell BK232.out 4).trans rfl, (blk_cell BK232.out 5).trans rfl, (blk_cell BK232.out 6).trans rfl, (blk_cell BK232.out 7).trans rfl, (blk_cell BK232.out 8).trans rfl, ((HB.out.cell (World.block_lt_of_cell? w _ hw234_0)).trans hw234_0), ((HB.out.cell (World.block_lt_of_cell? w _ hw234_1)).trans hw234_1), ((HB.out.cell (World.block_lt_of_cell? w _ hw234_2)).trans hw234_2), ((HB.out.cell (World.block_lt_of_cell? w _ hw234_3)).trans hw234_3), ((HB.out.cell (World.block_lt_of_cell? w _ hw234_4)).trans hw234_4), ((HB.out.cell (World.block_lt_of_cell? w _ hw234_5)).trans hw234_5), ((HB.out.cell (World.block_lt_of_cell? w _ hw234_6)).trans hw234_6), ((HB.out.cell (World.block_lt_of_cell? w _ hw234_7)).trans hw234_7), ((HB.out.cell (World.block_lt_of_cell? w _ hw234_8)).trans hw234_8)⟩ (fun hHeld => ?_)
                      clear hK K
                      refine norm_ (a' := ?_) ?_ ?_
                      rotate_left
                      · show Act.put _ (some 27) _ = _
                        simp only [Act.put, List.setIfInBounds_toArray, List.set_cons_zero, List.set_cons_succ, i64_w, i32_w]
                        rfl
                      refine pure_ (i := 14) (N := some 28) (v := ?_) (a' := ?_) #[true, true, true, true, true, true, true, true, true, true, true, true, true, true, true, false, false] rfl rfl (any_of HT_.out (by kernel_rfl)) (fun _ _ _ h => h) (Or.inl ⟨by rfl, ?_⟩) ?_ ?_
                      rotate_left
                      · intro w'
                        go_simp
                        with_reducible rfl
                      rotate_left
                      · simp only [Act.put, List.setIfInBounds_toArray, List.set_cons_zero, List.set_cons_succ, i64_w, i32_w]
                        rfl
                      refine pure_ (i := 15) (N := some 29) (v := ?_) (a' := ?_) #[true, true, true, true, true, true, true, true, true, true, true, true, true, true, true, true, false] rfl rfl (any_of HT_.out (by kernel_rfl)) (fun _ _ _ h => h) (Or.inl ⟨by rfl, ?_⟩) ?_ ?_
                      rotate_left
                      · intro w'
                        go_simp
                        with_reducible rfl
                      rotate_left
                      · simp only [Act.put, List.setIfInBounds_toArray, List.set_cons_zero, List.set_cons_succ, i64_w, i32_w]
                        rfl
                      refine pure_ (i := 16) (N := some 30) (v := ?_) (a' := ?_) #[true, true, true, true, true, true, true, true, true, true, true, true, true, true, true, true, true] rfl rfl (any_of HT_.out (by kernel_rfl)) (fun _ _ _ h => h) (Or.inl ⟨by rfl, ?_⟩) ?_ ?_
                      rotate_left
                      · intro w'
                        go_simp
                        with_reducible rfl
                      rotate_left
                      · simp only [Act.put, List.setIfInBounds_toArray, List.set_cons_zero, List.set_cons_succ, i64_w, i32_w]
                        rfl
                      refine done_ (done_of HT_.out (by kernel_rfl)) ?_
                      try go_wp2
                      go_ret
                      exact ⟨by first | rfl | (simp [errW_none, errW_some] <;> rfl) | (simp only [← hji10]; first | rfl | (simp [errW_none, errW_some] <;> rfl)) | (simp [*, errW_none, errW_some] <;> rfl), by repeat (first | (with_reducible first | exact HB.out | apply below_alloc | apply pw_below_drewN | apply below_drew1 | refine below_set ?_ GE232.out) | exact HB.out)⟩
                    · rw [if_neg c14] at H
                      have c14b0 : decide (0 ≤ t235) = false := decide_eq_false c14
                      clear c14
                      by_cases c21 : x3_1.length < 17592186044416
                      · rw [if_pos c21] at H
                        have LMc21 := Aside0.mk c21
                        clear c21
                        obtain ⟨y236, hy236⟩ : ∃ y_ : List Int, y_ = (x3_1 ++ [(rd_T51 l0 x9_1).f1]) := ⟨_, rfl⟩
                        replace H : (impl_GoodEntries.l0 k1 l0 y236 l0 (l0.length : Int) (wrap64 (x9_1 + 1))) = some r := by first | (rw [hy236]; with_reducible exact H) | (have H2_ := (Option.bind_some _ _).symm.trans H; rw [hy236]; with_reducible exact H2_) | (have H2_ := (Option.bind_some _ _).symm.trans H; with_reducible exact H2_) | with_reducible exact H | (rw [hy236]; exact H) | exact H
                        have Ny236 := Aside0.mk hy236
                        clear hy236
                        have H' := Aside0.mk H
                        clear H
                        have p231 : 0 ≤ (x9_1 : Int) := of_decide_eq_true (by first | (with_reducible assumption) | assumption)
                        have q231 : x9_1 < (l0.length : Int) := of_decide_eq_true (by first | (with_reducible assumption) | assumption)
                        obtain ⟨ad231, A231_7, c231_7, e231, hx231_0, hx231_1, hx231_2, hx231_3, hx231_4, hx231_5, hx231_6, hx231_7, hx231_8, hl231_7, hi231_7⟩ := at_T51 HR0.out x9_1 p231 q231
                        cases e231
                        try (replace hx231_0 := (HB.out.cell (World.block_lt_of_cell? w _ hx231_0)).trans hx231_0)
                        try (replace hx231_1 := (HB.out.cell (World.block_lt_of_cell? w _ hx231_1)).trans hx231_1)
                        try (replace hx231_2 := (HB.out.cell (World.block_lt_of_cell? w _ hx231_2)).trans hx231_2)
                        try (replace hx231_3 := (HB.out.cell (World.block_lt_of_cell? w _ hx231_3)).trans hx231_3)
                        try (replace hx231_4 := (HB.out.cell (World.block_lt_of_cell? w _ hx231_4)).trans hx231_4)
                        try (replace hx231_5 := (HB.out.cell (World.block_lt_of_cell? w _ hx231_5)).trans hx231_5)
                        try (replace hx231_6 := (HB.out.cell (World.block_lt_of_cell? w _ hx231_6)).trans hx231_6)
                        try (replace hx231_7 := (HB.out.cell (World.block_lt_of_cell? w _ hx231_7)).trans hx231_7)
                        try (replace hx231_8 := (HB.out.cell (World.block_lt_of_cell? w _ hx231_8)).trans hx231_8)
                        have HR231_7 := Aside0.mk hi231_7
                        have HC231_7 := Aside0.mk hl231_7
                        clear hi231_7 hl231_7
                        replace p231 := eq_true p231
                        replace q231 := eq_true q231
                        try go_wp2_with (first | ((with_reducible refine gate_dst (N := 5) rfl ?_); refine box_event ?hg (N := 5) ?hd (cs := #[.string (⟨#[]⟩ : ByteArray), .int .i64 0, .int .i64 0, .int .i64 0, .int .i64 0, .int .i64 0, .int .i64 0, .slice none 0 0, .bool false]) (t := 51) ?hr ?_; (case hd => rfl); (case hg => rfl); (case hr => first | (go_simp; done) | (go_simp; rfl)); intro gb232 hg w22 hbox hb; have n0_ := Aside0.mk (Kd.R_below (by (with_reducible repeat (first | apply Kd.R_alloc | apply Kd.R_drewN | apply Kd.R_drew)); exact HO_3.out) hb); have n1_ := Aside0.mk (below_step (by repeat (first | (with_reducible first | exact HB.out | apply below_alloc | apply pw_below_drewN | apply below_drew1) | exact HB.out)) hb); have n2_ := Aside0.mk (hbox); have n3_ := Aside0.mk ((by rw [hg]; exact (below_size (by repeat (first | (with_reducible first | exact HB.out | apply below_alloc | apply pw_below_drewN | apply below_drew1) | exact HB.out))) : w.heap.size ≤ gb232)); have n4_ := Aside0.mk ((by rw [hg]; exact (below_size (by repeat (first | (with_reducible first | exact HB.out | apply below_alloc | apply pw_below_drewN | apply below_drew1) | exact HB.out))) : w.heap.size ≤ gb232)); clear HO_3; clear HB; have HO_3 := n0_; have HB := n1_; have BK232 := n2_; have GW232 := n3_; have GE232 := n4_; clear n0_ n1_ n2_ n3_ n4_; clear hb hbox hg; have hcz23_0 : w22.cell? ⟨gb232, 0, none⟩ = some (.string (⟨#[]⟩ : ByteArray)) := (blk_cell BK232.out 0).trans rfl; have hcz23_1 : w22.cell? ⟨gb232, 1, none⟩ = some (.int .i64 0) := (blk_cell BK232.out 1).trans rfl; have hcz23_2 : w22.cell? ⟨gb232, 2, none⟩ = some (.int .i64 0) := (blk_cell BK232.out 2).trans rfl; have hcz23_3 : w22.cell? ⟨gb232, 3, none⟩ = some (.int .i64 0) := (blk_cell BK232.out 3).trans rfl; have hcz23_4 : w22.cell? ⟨gb232, 4, none⟩ = some (.int .i64 0) := (blk_cell BK232.out 4).trans rfl; have hcz23_5 : w22.cell? ⟨gb232, 5, none⟩ = some (.int .i64 0) := (blk_cell BK232.out 5).trans rfl; have hcz23_6 : w22.cell? ⟨gb232, 6, none⟩ = some (.int .i64 0) := (blk_cell BK232.out 6).trans rfl; have hcz23_7 : w22.cell? ⟨gb232, 7, none⟩ = some (.slice none 0 0) := (blk_cell BK232.out 7).trans rfl; have hcz23_8 : w22.cell? ⟨gb232, 8, none⟩ = some (.bool false) := (blk_cell BK232.out 8).trans rfl; have hfz23_0 := blk_frozen BK232.out 0; have hfz23_1 := blk_frozen BK232.out 1; have hfz23_2 := blk_frozen BK232.out 2; have hfz23_3 := blk_frozen BK232.out 3; have hfz23_4 := blk_frozen BK232.out 4; have hfz23_5 := blk_frozen BK232.out 5; have hfz23_6 := blk_frozen BK232.out 6; have hfz23_7 := blk_frozen BK232.out 7; have hfz23_8 := blk_frozen BK232.out 8))
                        have n0_ : Aside0 (Kd.R (Kd.int .i64) 3 (((((((((w22.setCell ⟨gb232, 0, none⟩ (.string ((rd_T51 l0 x9_1).f0))).setCell ⟨gb232, 1, none⟩ (.int .i64 ((rd_T51 l0 x9_1).f1))).setCell ⟨gb232, 2, none⟩ (.int .i64 ((rd_T51 l0 x9_1).f2))).setCell ⟨gb232, 3, none⟩ (.int .i64 ((rd_T51 l0 x9_1).f3.f0))).setCell ⟨gb232, 4, none⟩ (.int .i64 ((rd_T51 l0 x9_1).f3.f1))).setCell ⟨gb232, 5, none⟩ (.int .i64 ((rd_T51 l0 x9_1).f3.f2))).setCell ⟨gb232, 6, none⟩ (.int .i64 ((rd_T51 l0 x9_1).f3.f3))).setCell ⟨gb232, 7, none⟩ (.slice A231_7 ((rd_T51 l0 x9_1).f3.f4).length c231_7)).setCell ⟨gb232, 8, none⟩ (.bool ((rd_T51 l0 x9_1).f3.f5))) w.heap.size (fun _ => True) u3 x3_1) := ⟨by (with_reducible repeat (first | apply Kd.R_alloc | apply Kd.R_drewN | apply Kd.R_drew)); exact Kd.R_mono (Kd.R_far (p := ⟨gb232, 8, none⟩) (Kd.R_far (p := ⟨gb232, 7, none⟩) (Kd.R_far (p := ⟨gb232, 6, none⟩) (Kd.R_far (p := ⟨gb232, 5, none⟩) (Kd.R_far (p := ⟨gb232, 4, none⟩) (Kd.R_far (p := ⟨gb232, 3, none⟩) (Kd.R_far (p := ⟨gb232, 2, none⟩) (Kd.R_far (p := ⟨gb232, 1, none⟩) (Kd.R_far (p := ⟨gb232, 0, none⟩) (Kd.R_types HO_3.out BK232.out (by decide)) (fun _ hk => hk.2) (.string ((rd_T51 l0 x9_1).f0))) (fun _ hk => hk.2) (.int .i64 ((rd_T51 l0 x9_1).f1))) (fun _ hk => hk.2) (.int .i64 ((rd_T51 l0 x9_1).f2))) (fun _ hk => hk.2) (.int .i64 ((rd_T51 l0 x9_1).f3.f0))) (fun _ hk => hk.2) (.int .i64 ((rd_T51 l0 x9_1).f3.f1))) (fun _ hk => hk.2) (.int .i64 ((rd_T51 l0 x9_1).f3.f2))) (fun _ hk => hk.2) (.int .i64 ((rd_T51 l0 x9_1).f3.f3))) (fun _ hk => hk.2) (.slice A231_7 ((rd_T51 l0 x9_1).f3.f4).length c231_7)) (fun _ hk => hk.2) (.bool ((rd_T51 l0 x9_1).f3.f5))) (fun _ hk => trivial)⟩
                        have n1_ : Aside0 ((((((((((w22.setCell ⟨gb232, 0, none⟩ (.string ((rd_T51 l0 x9_1).f0))).setCell ⟨gb232, 1, none⟩ (.int .i64 ((rd_T51 l0 x9_1).f1))).setCell ⟨gb232, 2, none⟩ (.int .i64 ((rd_T51 l0 x9_1).f2))).setCell ⟨gb232, 3, none⟩ (.int .i64 ((rd_T51 l0 x9_1).f3.f0))).setCell ⟨gb232, 4, none⟩ (.int .i64 ((rd_T51 l0 x9_1).f3.f1))).setCell ⟨gb232, 5, none⟩ (.int .i64 ((rd_T51 l0 x9_1).f3.f2))).setCell ⟨gb232, 6, none⟩ (.int .i64 ((rd_T51 l0 x9_1).f3.f3))).setCell ⟨gb232, 7, none⟩ (.slice A231_7 ((rd_T51 l0 x9_1).f3.f4).length c231_7)).setCell ⟨gb232, 8, none⟩ (.bool ((rd_T51 l0 x9_1).f3.f5))).heap[gb232]? = some (.cells #[.string ((rd_T51 l0 x9_1).f0), .int .i64 ((rd_T51 l0 x9_1).f1), .int .i64 ((rd_T51 l0 x9_1).f2), .int .i64 ((rd_T51 l0 x9_1).f3.f0), .int .i64 ((rd_T51 l0 x9_1).f3.f1), .int .i64 ((rd_T51 l0 x9_1).f3.f2), .int .i64 ((rd_T51 l0 x9_1).f3.f3), .slice A231_7 ((rd_T51 l0 x9_1).f3.f4).length c231_7, .bool ((rd_T51 l0 x9_1).f3.f5)] 51 (0, 0))) := ⟨by (with_reducible repeat (first | refine blk_drewN ?_ _ | refine blk_drew ?_ | refine blk_alloc ?_ _)); refine blk_put (cs := #[.string ((rd_T51 l0 x9_1).f0), .int .i64 ((rd_T51 l0 x9_1).f1), .int .i64 ((rd_T51 l0 x9_1).f2), .int .i64 ((rd_T51 l0 x9_1).f3.f0), .int .i64 ((rd_T51 l0 x9_1).f3.f1), .int .i64 ((rd_T51 l0 x9_1).f3.f2), .int .i64 ((rd_T51 l0 x9_1).f3.f3), .slice A231_7 ((rd_T51 l0 x9_1).f3.f4).length c231_7, .bool false]) ?_ 8 _ rfl; (with_reducible repeat (first | refine blk_drewN ?_ _ | refine blk_drew ?_ | refine blk_alloc ?_ _)); refine blk_put (cs := #[.string ((rd_T51 l0 x9_1).f0), .int .i64 ((rd_T51 l0 x9_1).f1), .int .i64 ((rd_T51 l0 x9_1).f2), .int .i64 ((rd_T51 l0 x9_1).f3.f0), .int .i64 ((rd_T51 l0 x9_1).f3.f1), .int .i64 ((rd_T51 l0 x9_1).f3.f2), .int .i64 ((rd_T51 l0 x9_1).f3.f3), .slice none 0 0, .bool false]) ?_ 7 _ rfl; (with_reducible repeat (first | refine blk_drewN ?_ _ | refine blk_drew ?_ | refine blk_alloc ?_ _)); refine blk_put (cs := #[.string ((rd_T51 l0 x9_1).f0), .int .i64 ((rd_T51 l0 x9_1).f1), .int .i64 ((rd_T51 l0 x9_1).f2), .int .i64 ((rd_T51 l0 x9_1).f3.f0), .int .i64 ((rd_T51 l0 x9_1).f3.f1), .int .i64 ((rd_T51 l0 x9_1).f3.f2), .int .i64 0, .slice none 0 0, .bool false]) ?_ 6 _ rfl; (with_reducible repeat (first | refine blk_drewN ?_ _ | refine blk_drew ?_ | refine blk_alloc ?_ _)); refine blk_put (cs := #[.string ((rd_T51 l0 x9_1).f0), .int .i64 ((rd_T51 l0 x9_1).f1), .int .i64 ((rd_T51 l0 x9_1).f2), .int .i64 ((rd_T51 l0 x9_1).f3.f0), .int .i64 ((rd_T51 l0 x9_1).f3.f1), .int .i64 0, .int .i64 0, .slice none 0 0, .bool false]) ?_ 5 _ rfl; (with_reducible repeat (first | refine blk_drewN ?_ _ | refine blk_drew ?_ | refine blk_alloc ?_ _)); refine blk_put (cs := #[.string ((rd_T51 l0 x9_1).f0), .int .i64 ((rd_T51 l0 x9_1).f1), .int .i64 ((rd_T51 l0 x9_1).f2), .int .i64 ((rd_T51 l0 x9_1).f3.f0), .int .i64 0, .int .i64 0, .int .i64 0, .slice none 0 0, .bool false]) ?_ 4 _ rfl; (with_reducible repeat (first | refine blk_drewN ?_ _ | refine blk_drew ?_ | refine blk_alloc ?_ _)); refine blk_put (cs := #[.string ((rd_T51 l0 x9_1).f0), .int .i64 ((rd_T51 l0 x9_1).f1), .int .i64 ((rd_T51 l0 x9_1).f2), .int .i64 0, .int .i64 0, .int .i64 0, .int .i64 0, .slice none 0 0, .bool false]) ?_ 3 _ rfl; (with_reducible repeat (first | refine blk_drewN ?_ _ | refine blk_drew ?_ | refine blk_alloc ?_ _)); refine blk_put (cs := #[.string ((rd_T51 l0 x9_1).f0), .int .i64 ((rd_T51 l0 x9_1).f1), .int .i64 0, .int .i64 0, .int .i64 0, .int .i64 0, .int .i64 0, .slice none 0 0, .bool false]) ?_ 2 _ rfl; (with_reducible repeat (first | refine blk_drewN ?_ _ | refine blk_drew ?_ | refine blk_alloc ?_ _)); refine blk_put (cs := #[.string ((rd_T51 l0 x9_1).f0), .int .i64 0, .int .i64 0, .int .i64 0, .int .i64 0, .int .i64 0, .int .i64 0, .slice none 0 0, .bool false]) ?_ 1 _ rfl; (with_reducible repeat (first | refine blk_drewN ?_ _ | refine blk_drew ?_ | refine blk_alloc ?_ _)); refine blk_put (cs := #[.string (⟨#[]⟩ : ByteArray), .int .i64 0, .int .i64 0, .int .i64 0, .int .i64 0, .int .i64 0, .int .i64 0, .slice none 0 0, .bool false]) ?_ 0 _ rfl; (with_reducible repeat (first | refine blk_drewN ?_ _ | refine blk_drew ?_ | refine blk_alloc ?_ _)); exact BK232.out⟩
                        have n2_ : Aside0 (Below w.heap.size w (((((((((w22.setCell ⟨gb232, 0, none⟩ (.string ((rd_T51 l0 x9_1).f0))).setCell ⟨gb232, 1, none⟩ (.int .i64 ((rd_T51 l0 x9_1).f1))).setCell ⟨gb232, 2, none⟩ (.int .i64 ((rd_T51 l0 x9_1).f2))).setCell ⟨gb232, 3, none⟩ (.int .i64 ((rd_T51 l0 x9_1).f3.f0))).setCell ⟨gb232, 4, none⟩ (.int .i64 ((rd_T51 l0 x9_1).f3.f1))).setCell ⟨gb232, 5, none⟩ (.int .i64 ((rd_T51 l0 x9_1).f3.f2))).setCell ⟨gb232, 6, none⟩ (.int .i64 ((rd_T51 l0 x9_1).f3.f3))).setCell ⟨gb232, 7, none⟩ (.slice A231_7 ((rd_T51 l0 x9_1).f3.f4).length c231_7)).setCell ⟨gb232, 8, none⟩ (.bool ((rd_T51 l0 x9_1).f3.f5)))) := ⟨by repeat (first | (with_reducible first | exact HB.out | apply below_alloc | apply pw_below_drewN | apply below_drew1 | refine below_set ?_ GE232.out) | exact HB.out)⟩
                        (try clear HO_3)
                        (try clear BK232)
                        (try clear HB)
                        generalize (((((((((w22.setCell ⟨gb232, 0, none⟩ (.string ((rd_T51 l0 x9_1).f0))).setCell ⟨gb232, 1, none⟩ (.int .i64 ((rd_T51 l0 x9_1).f1))).setCell ⟨gb232, 2, none⟩ (.int .i64 ((rd_T51 l0 x9_1).f2))).setCell ⟨gb232, 3, none⟩ (.int .i64 ((rd_T51 l0 x9_1).f3.f0))).setCell ⟨gb232, 4, none⟩ (.int .i64 ((rd_T51 l0 x9_1).f3.f1))).setCell ⟨gb232, 5, none⟩ (.int .i64 ((rd_T51 l0 x9_1).f3.f2))).setCell ⟨gb232, 6, none⟩ (.int .i64 ((rd_T51 l0 x9_1).f3.f3))).setCell ⟨gb232, 7, none⟩ (.slice A231_7 ((rd_T51 l0 x9_1).f3.f4).length c231_7)).setCell ⟨gb232, 8, none⟩ (.bool ((rd_T51 l0 x9_1).f3.f5))) = w24 at n0_ n1_ n2_ ⊢
                        have HO_3 := n0_
                        have BK232 := n1_
                        have HB := n2_
                        clear n0_ n1_ n2_
                        have n0_ := Aside0.mk (Kd.R_drew HO_3.out)
                        have n1_ := Aside0.mk (blk_drew BK232.out)
                        have n2_ := Aside0.mk (below_drew1 HB.out)
                        clear HO_3
                        clear BK232
                        clear HB
                        have HO_3 := n0_
                        have BK232 := n1_
                        have HB := n2_
                        clear n0_ n1_ n2_
                        have p234 : 0 ≤ ((ji10) : Int) := of_decide_eq_true (by first | (with_reducible assumption) | assumption)
                        have q234 : (ji10) < (l0.length : Int) := of_decide_eq_true (by first | (with_reducible assumption) | assumption)
                        obtain ⟨ad234, A234_7, c234_7, e234, hx234_0, hx234_1, hx234_2, hx234_3, hx234_4, hx234_5, hx234_6, hx234_7, hx234_8, hl234_7, hi234_7⟩ := at_T51 HR0.out (ji10) p234 q234
                        have hw234_8 := hx234_8
                        have hw234_7 := hx234_7
                        have hw234_6 := hx234_6
                        have hw234_5 := hx234_5
                        have hw234_4 := hx234_4
                        have hw234_3 := hx234_3
                        have hw234_2 := hx234_2
                        have hw234_1 := hx234_1
                        have hw234_0 := hx234_0
                        obtain rfl : ad231 = ad234 := (by injection e234)
                        try (replace hx234_0 := (HB.out.cell (World.block_lt_of_cell? w _ hx234_0)).trans hx234_0)
                        try (replace hx234_1 := (HB.out.cell (World.block_lt_of_cell? w _ hx234_1)).trans hx234_1)
                        try (replace hx234_2 := (HB.out.cell (World.block_lt_of_cell? w _ hx234_2)).trans hx234_2)
                        try (replace hx234_3 := (HB.out.cell (World.block_lt_of_cell? w _ hx234_3)).trans hx234_3)
                        try (replace hx234_4 := (HB.out.cell (World.block_lt_of_cell? w _ hx234_4)).trans hx234_4)
                        try (replace hx234_5 := (HB.out.cell (World.block_lt_of_cell? w _ hx234_5)).trans hx234_5)
                        try (replace hx234_6 := (HB.out.cell (World.block_lt_of_cell? w _ hx234_6)).trans hx234_6)
                        try (replace hx234_7 := (HB.out.cell (World.block_lt_of_cell? w _ hx234_7)).trans hx234_7)
                        try (replace hx234_8 := (HB.out.cell (World.block_lt_of_cell? w _ hx234_8)).trans hx234_8)
                        have HR234_7 := Aside0.mk hi234_7
                        have HC234_7 := Aside0.mk hl234_7
                        clear hi234_7 hl234_7
                        replace p234 := eq_true p234
                        replace q234 := eq_true q234
                        refine start_ (n := 17) (S := fun w' => w'.cell? ⟨gb232, 0, none⟩ = some (.string ((rd_T51 l0 x9_1).f0)) ∧ w'.cell? ⟨gb232, 1, none⟩ = some (.int .i64 ((rd_T51 l0 x9_1).f1)) ∧ w'.cell? ⟨gb232, 2, none⟩ = some (.int .i64 ((rd_T51 l0 x9_1).f2)) ∧ w'.cell? ⟨gb232, 3, none⟩ = some (.int .i64 ((rd_T51 l0 x9_1).f3.f0)) ∧ w'.cell? ⟨gb232, 4, none⟩ = some (.int .i64 ((rd_T51 l0 x9_1).f3.f1)) ∧ w'.cell? ⟨gb232, 5, none⟩ = some (.int .i64 ((rd_T51 l0 x9_1).f3.f2)) ∧ w'.cell? ⟨gb232, 6, none⟩ = some (.int .i64 ((rd_T51 l0 x9_1).f3.f3)) ∧ w'.cell? ⟨gb232, 7, none⟩ = some (.slice A231_7 ((rd_T51 l0 x9_1).f3.f4).length c231_7) ∧ w'.cell? ⟨gb232, 8, none⟩ = some (.bool ((rd_T51 l0 x9_1).f3.f5)) ∧ w'.cell? (ad231.add (((ji10)).toNat * 9)) = some (.string ((rd_T51 l0 (ji10)).f0)) ∧ w'.cell? ⟨(ad231.add (((ji10)).toNat * 9)).block, (ad231.add (((ji10)).toNat * 9)).off + 1, none⟩ = some (.int .i64 ((rd_T51 l0 (ji10)).f1)) ∧ w'.cell? ⟨(ad231.add (((ji10)).toNat * 9)).block, (ad231.add (((ji10)).toNat * 9)).off + 2, none⟩ = some (.int .i64 ((rd_T51 l0 (ji10)).f2)) ∧ w'.cell? ⟨(ad231.add (((ji10)).toNat * 9)).block, (ad231.add (((ji10)).toNat * 9)).off + 3, none⟩ = some (.int .i64 ((rd_T51 l0 (ji10)).f3.f0)) ∧ w'.cell? ⟨(ad231.add (((ji10)).toNat * 9)).block, (ad231.add (((ji10)).toNat * 9)).off + 4, none⟩ = some (.int .i64 ((rd_T51 l0 (ji10)).f3.f1)) ∧ w'.cell? ⟨(ad231.add (((ji10)).toNat * 9)).block, (ad231.add (((ji10)).toNat * 9)).off + 5, none⟩ = some (.int .i64 ((rd_T51 l0 (ji10)).f3.f2)) ∧ w'.cell? ⟨(ad231.add (((ji10)).toNat * 9)).block, (ad231.add (((ji10)).toNat * 9)).off + 6, none⟩ = some (.int .i64 ((rd_T51 l0 (ji10)).f3.f3)) ∧ w'.cell? ⟨(ad231.add (((ji10)).toNat * 9)).block, (ad231.add (((ji10)).toNat * 9)).off + 7, none⟩ = some (.slice A234_7 ((rd_T51 l0 (ji10)).f3.f4).length c234_7) ∧ w'.cell? ⟨(ad231.add (((ji10)).toNat * 9)).block, (ad231.add (((ji10)).toNat * 9)).off + 8, none⟩ = some (.bool ((rd_T51 l0 (ji10)).f3.f5))) (ds := []) #[false, false, false, false, false, false, false, false, false, false, false, false, false, false, false, false, false] (by kernel_rfl) rfl rfl ⟨(blk_cell BK232.out 0).trans rfl, (blk_cell BK232.out 1).trans rfl, (blk_cell BK232.out 2).trans rfl, (blk_cell BK232.out 3).trans rfl, (blk_cell BK232.out 4).trans rfl, (blk_cell BK232.out 5).trans rfl, (blk_cell BK232.out 6).trans rfl, (blk_cell BK232.out 7).trans rfl, (blk_cell BK232.out 8).trans rfl, ((HB.out.cell (World.block_lt_of_cell? w _ hw234_0)).trans hw234_0), ((HB.out.cell (World.block_lt_of_cell? w _ hw234_1)).trans hw234_1), ((HB.out.cell (World.block_lt_of_cell? w _ hw234_2)).trans hw234_2), ((HB.out.cell (World.block_lt_of_cell? w _ hw234_3)).trans hw234_3), ((HB.out.cell (World.block_lt_of_cell? w _ hw234_4)).trans hw234_4), ((HB.out.cell (World.block_lt_of_cell? w _ hw234_5)).trans hw234_5), ((HB.out.cell (World.block_lt_of_cell? w _ hw234_6)).trans hw234_6), ((HB.out.cell (World.block_lt_of_cell? w _ hw234_7)).trans hw234_7), ((HB.out.cell (World.block_lt_of_cell? w _ hw234_8)).trans hw234_8)⟩ (fun hHeld => ?_); refine with_tabW impl_GoodEntries.tab5 impl_GoodEntries.bits5 (fun HT_ HW_ => ?_)
                        generalize w24.drew = w25 at HO_3 BK232 HB HR234_7 hx234_0 hx234_1 hx234_2 hx234_3 hx234_4 hx234_5 hx234_6 hx234_7 hx234_8 hHeld ⊢
                        refine take_ (i := 0) (N := some 14) (v := ?_) (a' := ?_) #[true, false, false, false, false, false, false, false, false, false, false, false, false, false, false, false, false] rfl rfl (take_ofW HT_.out HW_.out (by kernel_rfl)) (fun _ _ _ h => h) (Or.inl ⟨by rfl, ?_⟩) hHeld ?_ ?_
                        rotate_left
                        · rintro w' ⟨s0, s1, s2, s3, s4, s5, s6, s7, s8, s9, s10, s11, s12, s13, s14, s15, s16, s17⟩
                          go_simp
                          with_reducible rfl
                        rotate_left
                        · simp only [Act.put, List.setIfInBounds_toArray, List.set_cons_zero, List.set_cons_succ, i64_w, i32_w]
                          rfl
                        refine one_ (i := 1) (N := some 15) #[true, true, false, false, false, false, false, false, false, false, false, false, false, false, false, false, false] rfl rfl (one_of HT_.out (by kernel_rfl)) (by decide) (fun K hK => ?_)
                        refine goes_ Try.func32 (by kernel_rfl) rfl #[.agg #[.string ((rd_T51 l0 x9_1).f0), .int .i64 ((rd_T51 l0 x9_1).f1), .int .i64 ((rd_T51 l0 x9_1).f2), .int .i64 ((rd_T51 l0 x9_1).f3.f0), .int .i64 ((rd_T51 l0 x9_1).f3.f1), .int .i64 ((rd_T51 l0 x9_1).f3.f2), .int .i64 ((rd_T51 l0 x9_1).f3.f3), .slice A231_7 ((rd_T51 l0 x9_1).f3.f4).length c231_7, .bool ((rd_T51 l0 x9_1).f3.f5)]] (by rfl) rfl rfl (by (try simp only [List.map_toArray, List.map_cons, List.map_nil]); first | done | rfl | (simp only [List.length_drop, List.length_take]; rfl)) ?_
                        with_reducible refine (impl_GoodEntry.calls k1 ((rd_T51 l0 x9_1).f0) ((rd_T51 l0 x9_1).f1) ((rd_T51 l0 x9_1).f2) ((rd_T51 l0 x9_1).f3.f0) ((rd_T51 l0 x9_1).f3.f1) ((rd_T51 l0 x9_1).f3.f2) ((rd_T51 l0 x9_1).f3.f3) _ _ ((rd_T51 l0 x9_1).f3.f4) ((rd_T51 l0 x9_1).f3.f5) true _ ?side1 ?side2 A7.out).mono ?_
                        (case side1 => repeat (first | exact (Kd.C_below HR231_7.out HB.out) | (with_reducible refine Kd.C_alloc ?_ _) | (with_reducible refine Kd.C_drewN ?_ _) | (with_reducible refine Kd.C_drew ?_)))
                        (case side2 => exact HC231_7.out)
                        rintro e w26 ⟨rfl, hb⟩
                        refine ⟨_, rfl, ?_⟩
                        have n0_ := Aside0.mk (Kd.R_below (by (with_reducible repeat (first | apply Kd.R_alloc | apply Kd.R_drewN | apply Kd.R_drew)); exact HO_3.out) hb)
                        have n1_ := Aside0.mk (blk_below (g := gb232) (o := .cells #[.string ((rd_T51 l0 x9_1).f0), .int .i64 ((rd_T51 l0 x9_1).f1), .int .i64 ((rd_T51 l0 x9_1).f2), .int .i64 ((rd_T51 l0 x9_1).f3.f0), .int .i64 ((rd_T51 l0 x9_1).f3.f1), .int .i64 ((rd_T51 l0 x9_1).f3.f2), .int .i64 ((rd_T51 l0 x9_1).f3.f3), .slice A231_7 ((rd_T51 l0 x9_1).f3.f4).length c231_7, .bool ((rd_T51 l0 x9_1).f3.f5)] 51 (0, 0)) (by (with_reducible repeat (first | refine blk_drewN ?_ _ | refine blk_drew ?_ | refine blk_alloc ?_ _)); exact BK232.out) hb)
                        have n2_ := Aside0.mk (below_step (by repeat (first | (with_reducible first | exact HB.out | apply below_alloc | apply pw_below_drewN | apply below_drew1 | refine below_set ?_ GE232.out) | exact HB.out)) hb)
                        clear HO_3
                        clear BK232
                        clear HB
                        have HO_3 := n0_
                        have BK232 := n1_
                        have HB := n2_
                        clear n0_ n1_ n2_
                        (try clear hb)
                        (try clear hb2)
                        (try clear hk)
                        (try clear hi)
                        refine hK.out _ _ ⟨(blk_cell BK232.out 0).trans rfl, (blk_cell BK232.out 1).trans rfl, (blk_cell BK232.out 2).trans rfl, (blk_cell BK232.out 3).trans rfl, (blk_cell BK232.out 4).trans rfl, (blk_cell BK232.out 5).trans rfl, (blk_cell BK232.out 6).trans rfl, (blk_cell BK232.out 7).trans rfl, (blk_cell BK232.out 8).trans rfl, ((HB.out.cell (World.block_lt_of_cell? w _ hw234_0)).trans hw234_0), ((HB.out.cell (World.block_lt_of_cell? w _ hw234_1)).trans hw234_1), ((HB.out.cell (World.block_lt_of_cell? w _ hw234_2)).trans hw234_2), ((HB.out.cell (World.block_lt_of_cell? w _ hw234_3)).trans hw234_3), ((HB.out.cell (World.block_lt_of_cell? w _ hw234_4)).trans hw234_4), ((HB.out.cell (World.block_lt_of_cell? w _ hw234_5)).trans hw234_5), ((HB.out.cell (World.block_lt_of_cell? w _ hw234_6)).trans hw234_6), ((HB.out.cell (World.block_lt_of_cell? w _ hw234_7)).trans hw234_7), ((HB.out.cell (World.block_lt_of_cell? w _ hw234_8)).trans hw234_8)⟩ (fun hHeld => ?_)
                        clear hK K
                        refine norm_ (a' := ?_) ?_ ?_
                        rotate_left
                        · show Act.put _ (some 15) _ = _
                          simp only [Act.put, List.setIfInBounds_toArray, List.set_cons_zero, List.set_cons_succ, i64_w, i32_w]
                          rfl
                        refine pure_ (i := 2) (N := some 16) (v := ?_) (a' := ?_) #[true, true, true, false, false, false, false, false, false, false, false, false, false, false, false, false, false] rfl rfl (any_of HT_.out (by kernel_rfl)) (fun _ _ _ h => h) (Or.inl ⟨by rfl, ?_⟩) ?_ ?_
                        rotate_left
                        · intro w'
                          go_simp
                          with_reducible rfl
                        rotate_left
                        · simp only [Act.put, List.setIfInBounds_toArray, List.set_cons_zero, List.set_cons_succ, i64_w, i32_w]
                          rfl
                        refine pure_ (i := 3) (N := some 17) (v := ?_) (a' := ?_) #[true, true, true, true, false, false, false, false, false, false, false, false, false, false, false, false, false] rfl rfl (any_of HT_.out (by kernel_rfl)) (fun _ _ _ h => h) (Or.inl ⟨by rfl, ?_⟩) ?_ ?_
                        rotate_left
                        · intro w'
                          go_simp
                          with_reducible rfl
                        rotate_left
                        · simp only [Act.put, List.setIfInBounds_toArray, List.set_cons_zero, List.set_cons_succ, i64_w, i32_w]
                          rfl
                        refine pure_ (i := 4) (N := some 18) (v := ?_) (a' := ?_) #[true, true, true, true, true, false, false, false, false, false, false, false, false, false, false, false, false] rfl rfl (any_of HT_.out (by kernel_rfl)) (fun _ _ _ h => h) (Or.inl ⟨by rfl, ?_⟩) ?_ ?_
                        rotate_left
                        · intro w'
                          go_simp
                          with_reducible rfl
                        rotate_left
                        · simp only [Act.put, List.setIfInBounds_toArray, List.set_cons_zero, List.set_cons_succ, i64_w, i32_w]
                          rfl
                        refine pure_ (i := 5) (N := some 19) (v := ?_) (a' := ?_) #[true, true, true, true, true, true, false, false, false, false, false, false, false, false, false, false, false] rfl rfl (any_of HT_.out (by kernel_rfl)) (fun _ _ _ h => h) (Or.inl ⟨by rfl, ?_⟩) ?_ ?_
                        rotate_left
                        · intro w'
                          go_simp
                          with_reducible rfl
                        rotate_left
                        · simp only [Act.put, List.setIfInBounds_toArray, List.set_cons_zero, List.set_cons_succ, i64_w, i32_w]
                          rfl
                        refine pure_ (i := 6) (N := some 20) (v := ?_) (a' := ?_) #[true, true, true, true, true, true, true, false, false, false, false, false, false, false, false, false, false] rfl rfl (any_of HT_.out (by kernel_rfl)) (fun _ _ _ h => h) (Or.inl ⟨by rfl, ?_⟩) ?_ ?_
                        rotate_left
                        · intro w'
                          go_simp
                          with_reducible rfl
                        rotate_left
                        · simp only [Act.put, List.setIfInBounds_toArray, List.set_cons_zero, List.set_cons_succ, i64_w, i32_w]
                          rfl
                        refine pure_ (i := 7) (N := some 21) (v := ?_) (a' := ?_) #[true, true, true, true, true, true, true, true, false, false, false, false, false, false, false, false, false] rfl rfl (any_of HT_.out (by kernel_rfl)) (fun _ _ _ h => h) (Or.inl ⟨by rfl, ?_⟩) ?_ ?_
                        rotate_left
                        · intro w'
                          go_simp
                          with_reducible rfl
                        rotate_left
                        · simp only [Act.put, List.setIfInBounds_toArray, List.set_cons_zero, List.set_cons_succ, i64_w, i32_w]
                          rfl
                        refine pure_ (i := 8) (N := some 22) (v := ?_) (a' := ?_) #[true, true, true, true, true, true, true, true, true, false, false, false, false, false, false, false, false] rfl rfl (any_of HT_.out (by kernel_rfl)) (fun _ _ _ h => h) (Or.inl ⟨by rfl, ?_⟩) ?_ ?_
                        rotate_left
                        · intro w'
                          go_simp
                          with_reducible rfl
                        rotate_left
                        · simp only [Act.put, List.setIfInBounds_toArray, List.set_cons_zero, List.set_cons_succ, i64_w, i32_w]
                          rfl
                        refine pure_ (i := 9) (N := some 23) (v := ?_) (a' := ?_) #[true, true, true, true, true, true, true, true, true, true, false, false, false, false, false, false, false] rfl rfl (any_of HT_.out (by kernel_rfl)) (fun _ _ _ h => h) (Or.inl ⟨by rfl, ?_⟩) ?_ ?_
                        rotate_left
                        · intro w'
                          go_simp
                          with_reducible rfl
                        rotate_left
                        · simp only [Act.put, List.setIfInBounds_toArray, List.set_cons_zero, List.set_cons_succ, i64_w, i32_w]
                          rfl
                        refine pure_ (i := 10) (N := some 24) (v := ?_) (a' := ?_) #[true, true, true, true, true, true, true, true, true, true, true, false, false, false, false, false, false] rfl rfl (any_of HT_.out (by kernel_rfl)) (fun _ _ _ h => h) (Or.inl ⟨by rfl, ?_⟩) ?_ ?_
                        rotate_left
                        · intro w'
                          go_simp
                          with_reducible rfl
                        rotate_left
                        · simp only [Act.put, List.setIfInBounds_toArray, List.set_cons_zero, List.set_cons_succ, i64_w, i32_w]
                          rfl
                        refine take_ (i := 11) (N := some 25) (v := ?_) (a' := ?_) #[true, true, true, true, true, true, true, true, true, true, true, true, false, false, false, false, false] rfl rfl (take_ofW HT_.out HW_.out (by kernel_rfl)) (fun _ _ _ h => h) (Or.inl ⟨by rfl, ?_⟩) hHeld ?_ ?_
                        rotate_left
                        · rintro w' ⟨s0, s1, s2, s3, s4, s5, s6, s7, s8, s9, s10, s11, s12, s13, s14, s15, s16, s17⟩
                          go_simp
                          with_reducible rfl
                        rotate_left
                        · simp only [Act.put, List.setIfInBounds_toArray, List.set_cons_zero, List.set_cons_succ, i64_w, i32_w]
                          rfl
                        refine take_ (i := 12) (N := some 26) (v := ?_) (a' := ?_) #[true, true, true, true, true, true, true, true, true, true, true, true, true, false, false, false, false] rfl rfl (take_ofW HT_.out HW_.out (by kernel_rfl)) (fun _ _ _ h => h) (Or.inl ⟨by rfl, ?_⟩) hHeld ?_ ?_
                        rotate_left
                        · rintro w' ⟨s0, s1, s2, s3, s4, s5, s6, s7, s8, s9, s10, s11, s12, s13, s14, s15, s16, s17⟩
                          go_simp
                          with_reducible rfl
                        rotate_left
                        · simp only [Act.put, List.setIfInBounds_toArray, List.set_cons_zero, List.set_cons_succ, i64_w, i32_w]
                          rfl
                        refine one_ (i := 13) (N := some 27) #[true, true, true, true, true, true, true, true, true, true, true, true, true, true, false, false, false] rfl rfl (one_of HT_.out (by kernel_rfl)) (by decide) (fun K hK => ?_)
                        refine goes_ Try.func33 (by kernel_rfl) rfl #[.agg #[.string ((rd_T51 l0 (ji10)).f0), .int .i64 ((rd_T51 l0 (ji10)).f1), .int .i64 ((rd_T51 l0 (ji10)).f2), .int .i64 ((rd_T51 l0 (ji10)).f3.f0), .int .i64 ((rd_T51 l0 (ji10)).f3.f1), .int .i64 ((rd_T51 l0 (ji10)).f3.f2), .int .i64 ((rd_T51 l0 (ji10)).f3.f3), .slice A234_7 ((rd_T51 l0 (ji10)).f3.f4).length c234_7, .bool ((rd_T51 l0 (ji10)).f3.f5)], .agg #[.string ((rd_T51 l0 x9_1).f0), .int .i64 ((rd_T51 l0 x9_1).f1), .int .i64 ((rd_T51 l0 x9_1).f2), .int .i64 ((rd_T51 l0 x9_1).f3.f0), .int .i64 ((rd_T51 l0 x9_1).f3.f1), .int .i64 ((rd_T51 l0 x9_1).f3.f2), .int .i64 ((rd_T51 l0 x9_1).f3.f3), .slice A231_7 ((rd_T51 l0 x9_1).f3.f4).length c231_7, .bool ((rd_T51 l0 x9_1).f3.f5)]] (by rfl) rfl rfl (by (try simp only [List.map_toArray, List.map_cons, List.map_nil]); first | done | (simp only [hji10]; rfl) | rfl | (simp only [List.length_drop, List.length_take]; rfl)) ?_
                        with_reducible refine (impl_compareEntries.calls k1 ((rd_T51 l0 (ji10)).f0) ((rd_T51 l0 (ji10)).f1) ((rd_T51 l0 (ji10)).f2) ((rd_T51 l0 (ji10)).f3.f0) ((rd_T51 l0 (ji10)).f3.f1) ((rd_T51 l0 (ji10)).f3.f2) ((rd_T51 l0 (ji10)).f3.f3) _ _ ((rd_T51 l0 (ji10)).f3.f4) ((rd_T51 l0 (ji10)).f3.f5) ((rd_T51 l0 x9_1).f0) ((rd_T51 l0 x9_1).f1) ((rd_T51 l0 x9_1).f2) ((rd_T51 l0 x9_1).f3.f0) ((rd_T51 l0 x9_1).f3.f1) ((rd_T51 l0 x9_1).f3.f2) ((rd_T51 l0 x9_1).f3.f3) _ _ ((rd_T51 l0 x9_1).f3.f4) ((rd_T51 l0 x9_1).f3.f5) t235 _ ?side1 ?side2 ?side3 ?side4 A13.out).mono ?_
                        (case side1 => repeat (first | exact (Kd.C_below HR234_7.out HB.out) | (with_reducible refine Kd.C_alloc ?_ _) | (with_reducible refine Kd.C_drewN ?_ _) | (with_reducible refine Kd.C_drew ?_)))
                        (case side2 => exact HC234_7.out)
                        (case side3 => repeat (first | exact (Kd.C_below HR231_7.out HB.out) | (with_reducible refine Kd.C_alloc ?_ _) | (with_reducible refine Kd.C_drewN ?_ _) | (with_reducible refine Kd.C_drew ?_)))
                        (case side4 => exact HC231_7.out)
                        rintro e w27 ⟨rfl, hb⟩
                        refine ⟨_, rfl, ?_⟩
                        have n0_ := Aside0.mk (Kd.R_below (by (with_reducible repeat (first | apply Kd.R_alloc | apply Kd.R_drewN | apply Kd.R_drew)); exact HO_3.out) hb)
                        have n1_ := Aside0.mk (blk_below (g := gb232) (o := .cells #[.string ((rd_T51 l0 x9_1).f0), .int .i64 ((rd_T51 l0 x9_1).f1), .int .i64 ((rd_T51 l0 x9_1).f2), .int .i64 ((rd_T51 l0 x9_1).f3.f0), .int .i64 ((rd_T51 l0 x9_1).f3.f1), .int .i64 ((rd_T51 l0 x9_1).f3.f2), .int .i64 ((rd_T51 l0 x9_1).f3.f3), .slice A231_7 ((rd_T51 l0 x9_1).f3.f4).length c231_7, .bool ((rd_T51 l0 x9_1).f3.f5)] 51 (0, 0)) (by (with_reducible repeat (first | refine blk_drewN ?_ _ | refine blk_drew ?_ | refine blk_alloc ?_ _)); exact BK232.out) hb)
                        have n2_ := Aside0.mk (below_step (by repeat (first | (with_reducible first | exact HB.out | apply below_alloc | apply pw_below_drewN | apply below_drew1 | refine below_set ?_ GE232.out) | exact HB.out)) hb)
                        clear HO_3
                        clear BK232
                        clear HB
                        have HO_3 := n0_
                        have BK232 := n1_
                        have HB := n2_
                        clear n0_ n1_ n2_
                        (try clear hb)
                        (try clear hb2)
                        (try clear hk)
                        (try clear hi)
                        refine hK.out _ _ ⟨(blk_cell BK232.out 0).trans rfl, (blk_cell BK232.out 1).trans rfl, (blk_cell BK232.out 2).trans rfl, (blk_cell BK232.out 3).trans rfl, (blk_cell BK232.out 4).trans rfl, (blk_cell BK232.out 5).trans rfl, (blk_cell BK232.out 6).trans rfl, (blk_cell BK232.out 7).trans rfl, (blk_cell BK232.out 8).trans rfl, ((HB.out.cell (World.block_lt_of_cell? w _ hw234_0)).trans hw234_0), ((HB.out.cell (World.block_lt_of_cell? w _ hw234_1)).trans hw234_1), ((HB.out.cell (World.block_lt_of_cell? w _ hw234_2)).trans hw234_2), ((HB.out.cell (World.block_lt_of_cell? w _ hw234_3)).trans hw234_3), ((HB.out.cell (World.block_lt_of_cell? w _ hw234_4)).trans hw234_4), ((HB.out.cell (World.block_lt_of_cell? w _ hw234_5)).trans hw234_5), ((HB.out.cell (World.block_lt_of_cell? w _ hw234_6)).trans hw234_6), ((HB.out.cell (World.block_lt_of_cell? w _ hw234_7)).trans hw234_7), ((HB.out.cell (World.block_lt_of_cell? w _ hw234_8)).trans hw234_8)⟩ (fun hHeld => ?_)
                        clear hK K
                        refine norm_ (a' := ?_) ?_ ?_
                        rotate_left
                        · show Act.put _ (some 27) _ = _
                          simp only [Act.put, List.setIfInBounds_toArray, List.set_cons_zero, List.set_cons_succ, i64_w, i32_w]
                          rfl
                        refine pure_ (i := 14) (N := some 28) (v := ?_) (a' := ?_) #[true, true, true, true, true, true, true, true, true, true, true, true, true, true, true, false, false] rfl rfl (any_of HT_.out (by kernel_rfl)) (fun _ _ _ h => h) (Or.inl ⟨by rfl, ?_⟩) ?_ ?_
                        rotate_left
                        · intro w'
                          go_simp
                          with_reducible rfl
                        rotate_left
                        · simp only [Act.put, List.setIfInBounds_toArray, List.set_cons_zero, List.set_cons_succ, i64_w, i32_w]
                          rfl
                        refine pure_ (i := 15) (N := some 29) (v := ?_) (a' := ?_) #[true, true, true, true, true, true, true, true, true, true, true, true, true, true, true, true, false] rfl rfl (any_of HT_.out (by kernel_rfl)) (fun _ _ _ h => h) (Or.inl ⟨by rfl, ?_⟩) ?_ ?_
                        rotate_left
                        · intro w'
                          go_simp
                          with_reducible rfl
                        rotate_left
                        · simp only [Act.put, List.setIfInBounds_toArray, List.set_cons_zero, List.set_cons_succ, i64_w, i32_w]
                          rfl
                        refine pure_ (i := 16) (N := some 30) (v := ?_) (a' := ?_) #[true, true, true, true, true, true, true, true, true, true, true, true, true, true, true, true, true] rfl rfl (any_of HT_.out (by kernel_rfl)) (fun _ _ _ h => h) (Or.inl ⟨by rfl, ?_⟩) ?_ ?_
                        rotate_left
                        · intro w'
                          go_simp
                          with_reducible rfl
                        rotate_left
                        · simp only [Act.put, List.setIfInBounds_toArray, List.set_cons_zero, List.set_cons_succ, i64_w, i32_w]
                          rfl
                        refine done_ (done_of HT_.out (by kernel_rfl)) ?_
                        have hcz28_0 : w27.cell? ⟨gb232, 0, none⟩ = some (.string ((rd_T51 l0 x9_1).f0)) := (blk_cell BK232.out 0).trans rfl
                        have hcz28_1 : w27.cell? ⟨gb232, 1, none⟩ = some (.int .i64 ((rd_T51 l0 x9_1).f1)) := (blk_cell BK232.out 1).trans rfl
                        have hcz28_2 : w27.cell? ⟨gb232, 2, none⟩ = some (.int .i64 ((rd_T51 l0 x9_1).f2)) := (blk_cell BK232.out 2).trans rfl
                        have hcz28_3 : w27.cell? ⟨gb232, 3, none⟩ = some (.int .i64 ((rd_T51 l0 x9_1).f3.f0)) := (blk_cell BK232.out 3).trans rfl
                        have hcz28_4 : w27.cell? ⟨gb232, 4, none⟩ = some (.int .i64 ((rd_T51 l0 x9_1).f3.f1)) := (blk_cell BK232.out 4).trans rfl
                        have hcz28_5 : w27.cell? ⟨gb232, 5, none⟩ = some (.int .i64 ((rd_T51 l0 x9_1).f3.f2)) := (blk_cell BK232.out 5).trans rfl
                        have hcz28_6 : w27.cell? ⟨gb232, 6, none⟩ = some (.int .i64 ((rd_T51 l0 x9_1).f3.f3)) := (blk_cell BK232.out 6).trans rfl
                        have hcz28_7 : w27.cell? ⟨gb232, 7, none⟩ = some (.slice A231_7 ((rd_T51 l0 x9_1).f3.f4).length c231_7) := (blk_cell BK232.out 7).trans rfl
                        have hcz28_8 : w27.cell? ⟨gb232, 8, none⟩ = some (.bool ((rd_T51 l0 x9_1).f3.f5)) := (blk_cell BK232.out 8).trans rfl
                        have hfz28_0 := blk_frozen BK232.out 0
                        have hfz28_1 := blk_frozen BK232.out 1
                        have hfz28_2 := blk_frozen BK232.out 2
                        have hfz28_3 := blk_frozen BK232.out 3
                        have hfz28_4 := blk_frozen BK232.out 4
                        have hfz28_5 := blk_frozen BK232.out 5
                        have hfz28_6 := blk_frozen BK232.out 6
                        have hfz28_7 := blk_frozen BK232.out 7
                        have hfz28_8 := blk_frozen BK232.out 8
                        try go_wp2_with (first | ((with_reducible refine gate_builtin (b := .append) (xs := #[.tmp 31, .tmp 34]) rfl ?_); at_builtin; refine Kd.R_append (Kd.int .i64) (w0 := w) w.heap.size rfl (.tmp 31) (.tmp 34) 47 3 (.int .i64 0) 8 rfl Try.underlying47 info3 rfl (by decide) (by omega) u3 x3_1 ((rd_T51 l0 x9_1).f1) [.int .i64 ((rd_T51 l0 x9_1).f1)] (fun _ => True) (fun _ => False) rfl rfl ?aP (fun _ hk => hk.elim) ?aF ?aO ?aB ?aS ?aL ?_; (case aP => exact rfl); (case aB => exact (by repeat (first | (with_reducible first | exact HB.out | apply below_alloc | apply pw_below_drewN | apply below_drew1 | refine below_set ?_ GE232.out) | exact HB.out))); (case aF => exact (fun _ _ => trivial)); (case aO => exact (by (with_reducible repeat (first | apply Kd.R_alloc | apply Kd.R_drewN | apply Kd.R_drew)); exact HO_3.out)); (case aS => exact (below_size (by repeat (first | (with_reducible first | exact HB.out | apply below_alloc | apply pw_below_drewN | apply below_drew1 | refine below_set ?_ GE232.out) | exact HB.out)))); (case aL => have := LMc21.out; omega); intro v237 w29 ho hb hg hat; rw [← Ny236.out] at ho; have n0_ := Aside0.mk (blk_grown (g := gb232) (o := .cells #[.string ((rd_T51 l0 x9_1).f0), .int .i64 ((rd_T51 l0 x9_1).f1), .int .i64 ((rd_T51 l0 x9_1).f2), .int .i64 ((rd_T51 l0 x9_1).f3.f0), .int .i64 ((rd_T51 l0 x9_1).f3.f1), .int .i64 ((rd_T51 l0 x9_1).f3.f2), .int .i64 ((rd_T51 l0 x9_1).f3.f3), .slice A231_7 ((rd_T51 l0 x9_1).f3.f4).length c231_7, .bool ((rd_T51 l0 x9_1).f3.f5)] 51 (0, 0)) (by (with_reducible repeat (first | refine blk_drewN ?_ _ | refine blk_drew ?_ | refine blk_alloc ?_ _)); exact BK232.out) hg (Kd.R_ne HO_3.out BK232.out (by decide))); have n1_ := Aside0.mk (hb); have n2_ := Aside0.mk (ho); clear BK232; clear HB; clear HO_3; have BK232 := n0_; have HB := n1_; have HO238 := n2_; clear n0_ n1_ n2_; clear ho hb hg hat))
                        go_roundg k1
                        case measure => have := HK1.out; omega
                        case rel => exact ⟨(y236), (wrap64 (x9_1 + 1)), (by first | rfl | (simp; done) | (simp [*]; done)), H', ⟨by have := HK1.out; omega⟩, ⟨by (with_reducible repeat (first | apply Kd.R_alloc | apply Kd.R_drewN | apply Kd.R_drew)); exact HO238.out⟩, ⟨by repeat (first | (with_reducible first | exact HB.out | apply below_alloc | apply pw_below_drewN | apply below_drew1 | refine below_set ?_ GE232.out) | exact HB.out)⟩⟩
                      · rw [if_neg c21] at H
                        exact absurd H (by simp)
                  · rw [if_neg c12] at H
                    exact absurd H (by simp)
                · rw [if_neg c11] at H
                  exact absurd H (by simp)
              · rw [if_neg c9] at H
                have c9b0 : decide (0 < x9_1) = false := decide_eq_false c9
                clear c9
                by_cases c30 : x3_1.length < 17592186044416
                · rw [if_pos c30] at H
                  have LMc30 := Aside0.mk c30
                  clear c30
                  obtain ⟨y239, hy239⟩ : ∃ y_ : List Int, y_ = (x3_1 ++ [(rd_T51 l0 x9_1).f1]) := ⟨_, rfl⟩
                  replace H : (impl_GoodEntries.l0 k1 l0 y239 l0 (l0.length : Int) (wrap64 (x9_1 + 1))) = some r := by first | (rw [hy239]; with_reducible exact H) | (have H2_ := (Option.bind_some _ _).symm.trans H; rw [hy239]; with_reducible exact H2_) | (have H2_ := (Option.bind_some _ _).symm.trans H; with_reducible exact H2_) | with_reducible exact H | (rw [hy239]; exact H) | exact H
                  have Ny239 := Aside0.mk hy239
                  clear hy239
                  have H' := Aside0.mk H
                  clear H
                  have p231 : 0 ≤ (x9_1 : Int) := of_decide_eq_true (by first | (with_reducible assumption) | assumption)
                  have q231 : x9_1 < (l0.length : Int) := of_decide_eq_true (by first | (with_reducible assumption) | assumption)
                  obtain ⟨ad231, A231_7, c231_7, e231, hx231_0, hx231_1, hx231_2, hx231_3, hx231_4, hx231_5, hx231_6, hx231_7, hx231_8, hl231_7, hi231_7⟩ := at_T51 HR0.out x9_1 p231 q231
                  cases e231
                  try (replace hx231_0 := (HB.out.cell (World.block_lt_of_cell? w _ hx231_0)).trans hx231_0)
                  try (replace hx231_1 := (HB.out.cell (World.block_lt_of_cell? w _ hx231_1)).trans hx231_1)
                  try (replace hx231_2 := (HB.out.cell (World.block_lt_of_cell? w _ hx231_2)).trans hx231_2)
                  try (replace hx231_3 := (HB.out.cell (World.block_lt_of_cell? w _ hx231_3)).trans hx231_3)
                  try (replace hx231_4 := (HB.out.cell (World.block_lt_of_cell? w _ hx231_4)).trans hx231_4)
                  try (replace hx231_5 := (HB.out.cell (World.block_lt_of_cell? w _ hx231_5)).trans hx231_5)
                  try (replace hx231_6 := (HB.out.cell (World.block_lt_of_cell? w _ hx231_6)).trans hx231_6)
                  try (replace hx231_7 := (HB.out.cell (World.block_lt_of_cell? w _ hx231_7)).trans hx231_7)
                  try (replace hx231_8 := (HB.out.cell (World.block_lt_of_cell? w _ hx231_8)).trans hx231_8)
                  have HR231_7 := Aside0.mk hi231_7
                  have HC231_7 := Aside0.mk hl231_7
                  clear hi231_7 hl231_7
                  replace p231 := eq_true p231
                  replace q231 := eq_true q231
                  try go_wp2_with (first | ((with_reducible refine gate_dst (N := 5) rfl ?_); refine box_event ?hg (N := 5) ?hd (cs := #[.string (⟨#[]⟩ : ByteArray), .int .i64 0, .int .i64 0, .int .i64 0, .int .i64 0, .int .i64 0, .int .i64 0, .slice none 0 0, .bool false]) (t := 51) ?hr ?_; (case hd => rfl); (case hg => rfl); (case hr => first | (go_simp; done) | (go_simp; rfl)); intro gb232 hg w31 hbox hb; have n0_ := Aside0.mk (Kd.R_below (by (with_reducible repeat (first | apply Kd.R_alloc | apply Kd.R_drewN | apply Kd.R_drew)); exact HO_3.out) hb); have n1_ := Aside0.mk (below_step (by repeat (first | (with_reducible first | exact HB.out | apply below_alloc | apply pw_below_drewN | apply below_drew1) | exact HB.out)) hb); have n2_ := Aside0.mk (hbox); have n3_ := Aside0.mk ((by rw [hg]; exact (below_size (by repeat (first | (with_reducible first | exact HB.out | apply below_alloc | apply pw_below_drewN | apply below_drew1) | exact HB.out))) : w.heap.size ≤ gb232)); have n4_ := Aside0.mk ((by rw [hg]; exact (below_size (by repeat (first | (with_reducible first | exact HB.out | apply below_alloc | apply pw_below_drewN | apply below_drew1) | exact HB.out))) : w.heap.size ≤ gb232)); clear HO_3; clear HB; have HO_3 := n0_; have HB := n1_; have BK232 := n2_; have GW232 := n3_; have GE232 := n4_; clear n0_ n1_ n2_ n3_ n4_; clear hb hbox hg; have hcz32_0 : w31.cell? ⟨gb232, 0, none⟩ = some (.string (⟨#[]⟩ : ByteArray)) := (blk_cell BK232.out 0).trans rfl; have hcz32_1 : w31.cell? ⟨gb232, 1, none⟩ = some (.int .i64 0) := (blk_cell BK232.out 1).trans rfl; have hcz32_2 : w31.cell? ⟨gb232, 2, none⟩ = some (.int .i64 0) := (blk_cell BK232.out 2).trans rfl; have hcz32_3 : w31.cell? ⟨gb232, 3, none⟩ = some (.int .i64 0) := (blk_cell BK232.out 3).trans rfl; have hcz32_4 : w31.cell? ⟨gb232, 4, none⟩ = some (.int .i64 0) := (blk_cell BK232.out 4).trans rfl; have hcz32_5 : w31.cell? ⟨gb232, 5, none⟩ = some (.int .i64 0) := (blk_cell BK232.out 5).trans rfl; have hcz32_6 : w31.cell? ⟨gb232, 6, none⟩ = some (.int .i64 0) := (blk_cell BK232.out 6).trans rfl; have hcz32_7 : w31.cell? ⟨gb232, 7, none⟩ = some (.slice none 0 0) := (blk_cell BK232.out 7).trans rfl; have hcz32_8 : w31.cell? ⟨gb232, 8, none⟩ = some (.bool false) := (blk_cell BK232.out 8).trans rfl; have hfz32_0 := blk_frozen BK232.out 0; have hfz32_1 := blk_frozen BK232.out 1; have hfz32_2 := blk_frozen BK232.out 2; have hfz32_3 := blk_frozen BK232.out 3; have hfz32_4 := blk_frozen BK232.out 4; have hfz32_5 := blk_frozen BK232.out 5; have hfz32_6 := blk_frozen BK232.out 6; have hfz32_7 := blk_frozen BK232.out 7; have hfz32_8 := blk_frozen BK232.out 8))
                  have n0_ : Aside0 (Kd.R (Kd.int .i64) 3 (((((((((w31.setCell ⟨gb232, 0, none⟩ (.string ((rd_T51 l0 x9_1).f0))).setCell ⟨gb232, 1, none⟩ (.int .i64 ((rd_T51 l0 x9_1).f1))).setCell ⟨gb232, 2, none⟩ (.int .i64 ((rd_T51 l0 x9_1).f2))).setCell ⟨gb232, 3, none⟩ (.int .i64 ((rd_T51 l0 x9_1).f3.f0))).setCell ⟨gb232, 4, none⟩ (.int .i64 ((rd_T51 l0 x9_1).f3.f1))).setCell ⟨gb232, 5, none⟩ (.int .i64 ((rd_T51 l0 x9_1).f3.f2))).setCell ⟨gb232, 6, none⟩ (.int .i64 ((rd_T51 l0 x9_1).f3.f3))).setCell ⟨gb232, 7, none⟩ (.slice A231_7 ((rd_T51 l0 x9_1).f3.f4).length c231_7)).setCell ⟨gb232, 8, none⟩ (.bool ((rd_T51 l0 x9_1).f3.f5))) w.heap.size (fun _ => True) u3 x3_1) := ⟨by (with_reducible repeat (first | apply Kd.R_alloc | apply Kd.R_drewN | apply Kd.R_drew)); exact Kd.R_mono (Kd.R_far (p := ⟨gb232, 8, none⟩) (Kd.R_far (p := ⟨gb232, 7, none⟩) (Kd.R_far (p := ⟨gb232, 6, none⟩) (Kd.R_far (p := ⟨gb232, 5, none⟩) (Kd.R_far (p := ⟨gb232, 4, none⟩) (Kd.R_far (p := ⟨gb232, 3, none⟩) (Kd.R_far (p := ⟨gb232, 2, none⟩) (Kd.R_far (p := ⟨gb232, 1, none⟩) (Kd.R_far (p := ⟨gb232, 0, none⟩) (Kd.R_types HO_3.out BK232.out (by decide)) (fun _ hk => hk.2) (.string ((rd_T51 l0 x9_1).f0))) (fun _ hk => hk.2) (.int .i64 ((rd_T51 l0 x9_1).f1))) (fun _ hk => hk.2) (.int .i64 ((rd_T51 l0 x9_1).f2))) (fun _ hk => hk.2) (.int .i64 ((rd_T51 l0 x9_1).f3.f0))) (fun _ hk => hk.2) (.int .i64 ((rd_T51 l0 x9_1).f3.f1))) (fun _ hk => hk.2) (.int .i64 ((rd_T51 l0 x9_1).f3.f2))) (fun _ hk => hk.2) (.int .i64 ((rd_T51 l0 x9_1).f3.f3))) (fun _ hk => hk.2) (.slice A231_7 ((rd_T51 l0 x9_1).f3.f4).length c231_7)) (fun _ hk => hk.2) (.bool ((rd_T51 l0 x9_1).f3.f5))) (fun _ hk => trivial)⟩
                  have n1_ : Aside0 ((((((((((w31.setCell ⟨gb232, 0, none⟩ (.string ((rd_T51 l0 x9_1).f0))).setCell ⟨gb232, 1, none⟩ (.int .i64 ((rd_T51 l0 x9_1).f1))).setCell ⟨gb232, 2, none⟩ (.int .i64 ((rd_T51 l0 x9_1).f2))).setCell ⟨gb232, 3, none⟩ (.int .i64 ((rd_T51 l0 x9_1).f3.f0))).setCell ⟨gb232, 4, none⟩ (.int .i64 ((rd_T51 l0 x9_1).f3.f1))).setCell ⟨gb232, 5, none⟩ (.int .i64 ((rd_T51 l0 x9_1).f3.f2))).setCell ⟨gb232, 6, none⟩ (.int .i64 ((rd_T51 l0 x9_1).f3.f3))).setCell ⟨gb232, 7, none⟩ (.slice A231_7 ((rd_T51 l0 x9_1).f3.f4).length c231_7)).setCell ⟨gb232, 8, none⟩ (.bool ((rd_T51 l0 x9_1).f3.f5))).heap[gb232]? = some (.cells #[.string ((rd_T51 l0 x9_1).f0), .int .i64 ((rd_T51 l0 x9_1).f1), .int .i64 ((rd_T51 l0 x9_1).f2), .int .i64 ((rd_T51 l0 x9_1).f3.f0), .int .i64 ((rd_T51 l0 x9_1).f3.f1), .int .i64 ((rd_T51 l0 x9_1).f3.f2), .int .i64 ((rd_T51 l0 x9_1).f3.f3), .slice A231_7 ((rd_T51 l0 x9_1).f3.f4).length c231_7, .bool ((rd_T51 l0 x9_1).f3.f5)] 51 (0, 0))) := ⟨by (with_reducible repeat (first | refine blk_drewN ?_ _ | refine blk_drew ?_ | refine blk_alloc ?_ _)); refine blk_put (cs := #[.string ((rd_T51 l0 x9_1).f0), .int .i64 ((rd_T51 l0 x9_1).f1), .int .i64 ((rd_T51 l0 x9_1).f2), .int .i64 ((rd_T51 l0 x9_1).f3.f0), .int .i64 ((rd_T51 l0 x9_1).f3.f1), .int .i64 ((rd_T51 l0 x9_1).f3.f2), .int .i64 ((rd_T51 l0 x9_1).f3.f3), .slice A231_7 ((rd_T51 l0 x9_1).f3.f4).length c231_7, .bool false]) ?_ 8 _ rfl; (with_reducible repeat (first | refine blk_drewN ?_ _ | refine blk_drew ?_ | refine blk_alloc ?_ _)); refine blk_put (cs := #[.string ((rd_T51 l0 x9_1).f0), .int .i64 ((rd_T51 l0 x9_1).f1), .int .i64 ((rd_T51 l0 x9_1).f2), .int .i64 ((rd_T51 l0 x9_1).f3.f0), .int .i64 ((rd_T51 l0 x9_1).f3.f1), .int .i64 ((rd_T51 l0 x9_1).f3.f2), .int .i64 ((rd_T51 l0 x9_1).f3.f3), .slice none 0 0, .bool false]) ?_ 7 _ rfl; (with_reducible repeat (first | refine blk_drewN ?_ _ | refine blk_drew ?_ | refine blk_alloc ?_ _)); refine blk_put (cs := #[.string ((rd_T51 l0 x9_1).f0), .int .i64 ((rd_T51 l0 x9_1).f1), .int .i64 ((rd_T51 l0 x9_1).f2), .int .i64 ((rd_T51 l0 x9_1).f3.f0), .int .i64 ((rd_T51 l0 x9_1).f3.f1), .int .i64 ((rd_T51 l0 x9_1).f3.f2), .int .i64 0, .slice none 0 0, .bool false]) ?_ 6 _ rfl; (with_reducible repeat (first | refine blk_drewN ?_ _ | refine blk_drew ?_ | refine blk_alloc ?_ _)); refine blk_put (cs := #[.string ((rd_T51 l0 x9_1).f0), .int .i64 ((rd_T51 l0 x9_1).f1), .int .i64 ((rd_T51 l0 x9_1).f2), .int .i64 ((rd_T51 l0 x9_1).f3.f0), .int .i64 ((rd_T51 l0 x9_1).f3.f1), .int .i64 0, .int .i64 0, .slice none 0 0, .bool false]) ?_ 5 _ rfl; (with_reducible repeat (first | refine blk_drewN ?_ _ | refine blk_drew ?_ | refine blk_alloc ?_ _)); refine blk_put (cs := #[.string ((rd_T51 l0 x9_1).f0), .int .i64 ((rd_T51 l0 x9_1).f1), .int .i64 ((rd_T51 l0 x9_1).f2), .int .i64 ((rd_T51 l0 x9_1).f3.f0), .int .i64 0, .int .i64 0, .int .i64 0, .slice none 0 0, .bool false]) ?_ 4 _ rfl; (with_reducible repeat (first | refine blk_drewN ?_ _ | refine blk_drew ?_ | refine blk_alloc ?_ _)); refine blk_put (cs := #[.string ((rd_T51 l0 x9_1).f0), .int .i64 ((rd_T51 l0 x9_1).f1), .int .i64 ((rd_T51 l0 x9_1).f2), .int .i64 0, .int .i64 0, .int .i64 0, .int .i64 0, .slice none 0 0, .bool false]) ?_ 3 _ rfl; (with_reducible repeat (first | refine blk_drewN ?_ _ | refine blk_drew ?_ | refine blk_alloc ?_ _)); refine blk_put (cs := #[.string ((rd_T51 l0 x9_1).f0), .int .i64 ((rd_T51 l0 x9_1).f1), .int .i64 0, .int .i64 0, .int .i64 0, .int .i64 0, .int .i64 0, .slice none 0 0, .bool false]) ?_ 2 _ rfl; (with_reducible repeat (first | refine blk_drewN ?_ _ | refine blk_drew ?_ | refine blk_alloc ?_ _)); refine blk_put (cs := #[.string ((rd_T51 l0 x9_1).f0), .int .i64 0, .int .i64 0, .int .i64 0, .int .i64 0, .int .i64 0, .int .i64 0, .slice none 0 0, .bool false]) ?_ 1 _ rfl; (with_reducible repeat (first | refine blk_drewN ?_ _ | refine blk_drew ?_ | refine blk_alloc ?_ _)); refine blk_put (cs := #[.string (⟨#[]⟩ : ByteArray), .int .i64 0, .int .i64 0, .int .i64 0, .int .i64 0, .int .i64 0, .int .i64 0, .slice none 0 0, .bool false]) ?_ 0 _ rfl; (with_reducible repeat (first | refine blk_drewN ?_ _ | refine blk_drew ?_ | refine blk_alloc ?_ _)); exact BK232.out⟩
                  have n2_ : Aside0 (Below w.heap.size w (((((((((w31.setCell ⟨gb232, 0, none⟩ (.string ((rd_T51 l0 x9_1).f0))).setCell ⟨gb232, 1, none⟩ (.int .i64 ((rd_T51 l0 x9_1).f1))).setCell ⟨gb232, 2, none⟩ (.int .i64 ((rd_T51 l0 x9_1).f2))).setCell ⟨gb232, 3, none⟩ (.int .i64 ((rd_T51 l0 x9_1).f3.f0))).setCell ⟨gb232, 4, none⟩ (.int .i64 ((rd_T51 l0 x9_1).f3.f1))).setCell ⟨gb232, 5, none⟩ (.int .i64 ((rd_T51 l0 x9_1).f3.f2))).setCell ⟨gb232, 6, none⟩ (.int .i64 ((rd_T51 l0 x9_1).f3.f3))).setCell ⟨gb232, 7, none⟩ (.slice A231_7 ((rd_T51 l0 x9_1).f3.f4).length c231_7)).setCell ⟨gb232, 8, none⟩ (.bool ((rd_T51 l0 x9_1).f3.f5)))) := ⟨by repeat (first | (with_reducible first | exact HB.out | apply below_alloc | apply pw_below_drewN | apply below_drew1 | refine below_set ?_ GE232.out) | exact HB.out)⟩
                  (try clear HO_3)
                  (try clear BK232)
                  (try clear HB)
                  generalize (((((((((w31.setCell ⟨gb232, 0, none⟩ (.string ((rd_T51 l0 x9_1).f0))).setCell ⟨gb232, 1, none⟩ (.int .i64 ((rd_T51 l0 x9_1).f1))).setCell ⟨gb232, 2, none⟩ (.int .i64 ((rd_T51 l0 x9_1).f2))).setCell ⟨gb232, 3, none⟩ (.int .i64 ((rd_T51 l0 x9_1).f3.f0))).setCell ⟨gb232, 4, none⟩ (.int .i64 ((rd_T51 l0 x9_1).f3.f1))).setCell ⟨gb232, 5, none⟩ (.int .i64 ((rd_T51 l0 x9_1).f3.f2))).setCell ⟨gb232, 6, none⟩ (.int .i64 ((rd_T51 l0 x9_1).f3.f3))).setCell ⟨gb232, 7, none⟩ (.slice A231_7 ((rd_T51 l0 x9_1).f3.f4).length c231_7)).setCell ⟨gb232, 8, none⟩ (.bool ((rd_T51 l0 x9_1).f3.f5))) = w33 at n0_ n1_ n2_ ⊢
                  have HO_3 := n0_
                  have BK232 := n1_
                  have HB := n2_
                  clear n0_ n1_ n2_
                  have n0_ := Aside0.mk (Kd.R_drew HO_3.out)
                  have n1_ := Aside0.mk (blk_drew BK232.out)
                  have n2_ := Aside0.mk (below_drew1 HB.out)
                  clear HO_3
                  clear BK232
                  clear HB
                  have HO_3 := n0_
                  have BK232 := n1_
                  have HB := n2_
                  clear n0_ n1_ n2_
                  refine start_ (n := 17) (S := fun w' => w'.cell? ⟨gb232, 0, none⟩ = some (.string ((rd_T51 l0 x9_1).f0)) ∧ w'.cell? ⟨gb232, 1, none⟩ = some (.int .i64 ((rd_T51 l0 x9_1).f1)) ∧ w'.cell? ⟨gb232, 2, none⟩ = some (.int .i64 ((rd_T51 l0 x9_1).f2)) ∧ w'.cell? ⟨gb232, 3, none⟩ = some (.int .i64 ((rd_T51 l0 x9_1).f3.f0)) ∧ w'.cell? ⟨gb232, 4, none⟩ = some (.int .i64 ((rd_T51 l0 x9_1).f3.f1)) ∧ w'.cell? ⟨gb232, 5, none⟩ = some (.int .i64 ((rd_T51 l0 x9_1).f3.f2)) ∧ w'.cell? ⟨gb232, 6, none⟩ = some (.int .i64 ((rd_T51 l0 x9_1).f3.f3)) ∧ w'.cell? ⟨gb232, 7, none⟩ = some (.slice A231_7 ((rd_T51 l0 x9_1).f3.f4).length c231_7) ∧ w'.cell? ⟨gb232, 8, none⟩ = some (.bool ((rd_T51 l0 x9_1).f3.f5))) (ds := []) #[false, false, false, false, false, false, false, false, false, false, false, false, false, false, false, false, false] (by kernel_rfl) rfl rfl ⟨(blk_cell BK232.out 0).trans rfl, (blk_cell BK232.out 1).trans rfl, (blk_cell BK232.out 2).trans rfl, (blk_cell BK232.out 3).trans rfl, (blk_cell BK232.out 4).trans rfl, (blk_cell BK232.out 5).trans rfl, (blk_cell BK232.out 6).trans rfl, (blk_cell BK232.out 7).trans rfl, (blk_cell BK232.out 8).trans rfl⟩ (fun hHeld => ?_); refine with_tabW impl_GoodEntries.tab5 impl_GoodEntries.bits5 (fun HT_ HW_ => ?_)
                  generalize w33.drew = w34 at HO_3 BK232 HB hHeld ⊢
                  refine take_ (i := 0) (N := some 14) (v := ?_) (a' := ?_) #[true, false, false, false, false, false, false, false, false, false, false, false, false, false, false, false, false] rfl rfl (take_ofW HT_.out HW_.out (by kernel_rfl)) (fun _ _ _ h => h) (Or.inl ⟨by rfl, ?_⟩) hHeld ?_ ?_
                  rotate_left
                  · rintro w' ⟨s0, s1, s2, s3, s4, s5, s6, s7, s8⟩
                    go_simp
                    with_reducible rfl
                  rotate_left
                  · simp only [Act.put, List.setIfInBounds_toArray, List.set_cons_zero, List.set_cons_succ, i64_w, i32_w]
                    rfl
                  refine one_ (i := 1) (N := some 15) #[true, true, false, false, false, false, false, false, false, false, false, false, false, false, false, false, false] rfl rfl (one_of HT_.out (by kernel_rfl)) (by decide) (fun K hK => ?_)
                  refine goes_ Try.func32 (by kernel_rfl) rfl #[.agg #[.string ((rd_T51 l0 x9_1).f0), .int .i64 ((rd_T51 l0 x9_1).f1), .int .i64 ((rd_T51 l0 x9_1).f2), .int .i64 ((rd_T51 l0 x9_1).f3.f0), .int .i64 ((rd_T51 l0 x9_1).f3.f1), .int .i64 ((rd_T51 l0 x9_1).f3.f2), .int .i64 ((rd_T51 l0 x9_1).f3.f3), .slice A231_7 ((rd_T51 l0 x9_1).f3.f4).length c231_7, .bool ((rd_T51 l0 x9_1).f3.f5)]] (by rfl) rfl rfl (by (try simp only [List.map_toArray, List.map_cons, List.map_nil]); first | done | rfl | (simp only [List.length_drop, List.length_take]; rfl)) ?_
                  with_reducible refine (impl_GoodEntry.calls k1 ((rd_T51 l0 x9_1).f0) ((rd_T51 l0 x9_1).f1) ((rd_T51 l0 x9_1).f2) ((rd_T51 l0 x9_1).f3.f0) ((rd_T51 l0 x9_1).f3.f1) ((rd_T51 l0 x9_1).f3.f2) ((rd_T51 l0 x9_1).f3.f3) _ _ ((rd_T51 l0 x9_1).f3.f4) ((rd_T51 l0 x9_1).f3.f5) true _ ?side1 ?side2 A7.out).mono ?_
                  (case side1 => repeat (first | exact (Kd.C_below HR231_7.out HB.out) | (with_reducible refine Kd.C_alloc ?_ _) | (with_reducible refine Kd.C_drewN ?_ _) | (with_reducible refine Kd.C_drew ?_)))
                  (case side2 => exact HC231_7.out)
                  rintro e w35 ⟨rfl, hb⟩
                  refine ⟨_, rfl, ?_⟩
                  have n0_ := Aside0.mk (Kd.R_below (by (with_reducible repeat (first | apply Kd.R_alloc | apply Kd.R_drewN | apply Kd.R_drew)); exact HO_3.out) hb)
                  have n1_ := Aside0.mk (blk_below (g := gb232) (o := .cells #[.string ((rd_T51 l0 x9_1).f0), .int .i64 ((rd_T51 l0 x9_1).f1), .int .i64 ((rd_T51 l0 x9_1).f2), .int .i64 ((rd_T51 l0 x9_1).f3.f0), .int .i64 ((rd_T51 l0 x9_1).f3.f1), .int .i64 ((rd_T51 l0 x9_1).f3.f2), .int .i64 ((rd_T51 l0 x9_1).f3.f3), .slice A231_7 ((rd_T51 l0 x9_1).f3.f4).length c231_7, .bool ((rd_T51 l0 x9_1).f3.f5)] 51 (0, 0)) (by (with_reducible repeat (first | refine blk_drewN ?_ _ | refine blk_drew ?_ | refine blk_alloc ?_ _)); exact BK232.out) hb)
                  have n2_ := Aside0.mk (below_step (by repeat (first | (with_reducible first | exact HB.out | apply below_alloc | apply pw_below_drewN | apply below_drew1 | refine below_set ?_ GE232.out) | exact HB.out)) hb)
                  clear HO_3
                  clear BK232
                  clear HB
                  have HO_3 := n0_
                  have BK232 := n1_
                  have HB := n2_
                  clear n0_ n1_ n2_
                  (try clear hb)
                  (try clear hb2)
                  (try clear hk)
                  (try clear hi)
                  refine hK.out _ _ ⟨(blk_cell BK232.out 0).trans rfl, (blk_cell BK232.out 1).trans rfl, (blk_cell BK232.out 2).trans rfl, (blk_cell BK232.out 3).trans rfl, (blk_cell BK232.out 4).trans rfl, (blk_cell BK232.out 5).trans rfl, (blk_cell BK232.out 6).trans rfl, (blk_cell BK232.out 7).trans rfl, (blk_cell BK232.out 8).trans rfl⟩ (fun hHeld => ?_)
                  clear hK K
                  refine norm_ (a' := ?_) ?_ ?_
                  rotate_left
                  · show Act.put _ (some 15) _ = _
                    simp only [Act.put, List.setIfInBounds_toArray, List.set_cons_zero, List.set_cons_succ, i64_w, i32_w]
                    rfl
                  refine pure_ (i := 2) (N := some 16) (v := ?_) (a' := ?_) #[true, true, true, false, false, false, false, false, false, false, false, false, false, false, false, false, false] rfl rfl (any_of HT_.out (by kernel_rfl)) (fun _ _ _ h => h) (Or.inl ⟨by rfl, ?_⟩) ?_ ?_
                  rotate_left
                  · intro w'
                    go_simp
                    with_reducible rfl
                  rotate_left
                  · simp only [Act.put, List.setIfInBounds_toArray, List.set_cons_zero, List.set_cons_succ, i64_w, i32_w]
                    rfl
                  refine pure_ (i := 3) (N := some 17) (v := ?_) (a' := ?_) #[true, true, true, true, false, false, false, false, false, false, false, false, false, false, false, false, false] rfl rfl (any_of HT_.out (by kernel_rfl)) (fun _ _ _ h => h) (Or.inl ⟨by rfl, ?_⟩) ?_ ?_
                  rotate_left
                  · intro w'
                    go_simp
                    with_reducible rfl
                  rotate_left
                  · simp only [Act.put, List.setIfInBounds_toArray, List.set_cons_zero, List.set_cons_succ, i64_w, i32_w]
                    rfl
                  refine pure_ (i := 4) (N := some 18) (v := ?_) (a' := ?_) #[true, true, true, true, true, false, false, false, false, false, false, false, false, false, false, false, false] rfl rfl (any_of HT_.out (by kernel_rfl)) (fun _ _ _ h => h) (Or.inl ⟨by rfl, ?_⟩) ?_ ?_
                  rotate_left
                  · intro w'
                    go_simp
                    with_reducible rfl
                  rotate_left
                  · simp only [Act.put, List.setIfInBounds_toArray, List.set_cons_zero, List.set_cons_succ, i64_w, i32_w]
                    rfl
                  refine pure_ (i := 5) (N := some 19) (v := ?_) (a' := ?_) #[true, true, true, true, true, true, false, false, false, false, false, false, false, false, false, false, false] rfl rfl (any_of HT_.out (by kernel_rfl)) (fun _ _ _ h => h) (Or.inl ⟨by rfl, ?_⟩) ?_ ?_
                  rotate_left
                  · intro w'
                    go_simp
                    with_reducible rfl
                  rotate_left
                  · simp only [Act.put, List.setIfInBounds_toArray, List.set_cons_zero, List.set_cons_succ, i64_w, i32_w]
                    rfl
                  refine pure_ (i := 6) (N := some 20) (v := ?_) (a' := ?_) #[true, true, true, true, true, true, true, false, false, false, false, false, false, false, false, false, false] rfl rfl (any_of HT_.out (by kernel_rfl)) (fun _ _ _ h => h) (Or.inl ⟨by rfl, ?_⟩) ?_ ?_
                  rotate_left
                  · intro w'
                    go_simp
                    with_reducible rfl
                  rotate_left
                  · simp only [Act.put, List.setIfInBounds_toArray, List.set_cons_zero, List.set_cons_succ, i64_w, i32_w]
                    rfl
                  refine pure_ (i := 7) (N := some 21) (v := undef) (a' := ?_) #[true, true, true, true, true, true, true, true, false, false, false, false, false, false, false, false, false] rfl rfl (any_of HT_.out (by kernel_rfl)) (fun _ _ _ h => h) (Or.inr ⟨by rfl, rfl⟩) ?_ ?_
                  rotate_left
                  · simp only [Act.put, List.setIfInBounds_toArray, List.set_cons_zero, List.set_cons_succ, i64_w, i32_w]
                    rfl
                  refine pure_ (i := 8) (N := some 22) (v := undef) (a' := ?_) #[true, true, true, true, true, true, true, true, true, false, false, false, false, false, false, false, false] rfl rfl (any_of HT_.out (by kernel_rfl)) (fun _ _ _ h => h) (Or.inr ⟨by rfl, rfl⟩) ?_ ?_
                  rotate_left
                  · simp only [Act.put, List.setIfInBounds_toArray, List.set_cons_zero, List.set_cons_succ, i64_w, i32_w]
                    rfl
                  refine pure_ (i := 9) (N := some 23) (v := undef) (a' := ?_) #[true, true, true, true, true, true, true, true, true, true, false, false, false, false, false, false, false] rfl rfl (any_of HT_.out (by kernel_rfl)) (fun _ _ _ h => h) (Or.inr ⟨by rfl, rfl⟩) ?_ ?_
                  rotate_left
                  · simp only [Act.put, List.setIfInBounds_toArray, List.set_cons_zero, List.set_cons_succ, i64_w, i32_w]
                    rfl
                  refine pure_ (i := 10) (N := some 24) (v := undef) (a' := ?_) #[true, true, true, true, true, true, true, true, true, true, true, false, false, false, false, false, false] rfl rfl (any_of HT_.out (by kernel_rfl)) (fun _ _ _ h => h) (Or.inr ⟨by rfl, rfl⟩) ?_ ?_
                  rotate_left
                  · simp only [Act.put, List.setIfInBounds_toArray, List.set_cons_zero, List.set_cons_succ, i64_w, i32_w]
                    rfl
                  refine pure_ (i := 11) (N := some 25) (v := undef) (a' := ?_) #[true, true, true, true, true, true, true, true, true, true, true, true, false, false, false, false, false] rfl rfl (any_of HT_.out (by kernel_rfl)) (fun _ _ _ h => h) (Or.inr ⟨by rfl, rfl⟩) ?_ ?_
                  rotate_left
                  · simp only [Act.put, List.setIfInBounds_toArray, List.set_cons_zero, List.set_cons_succ, i64_w, i32_w]
                    rfl
                  refine pure_ (i := 12) (N := some 26) (v := undef) (a' := ?_) #[true, true, true, true, true, true, true, true, true, true, true, true, true, false, false, false, false] rfl rfl (any_of HT_.out (by kernel_rfl)) (fun _ _ _ h => h) (Or.inr ⟨by rfl, rfl⟩) ?_ ?_
                  rotate_left
                  · simp only [Act.put, List.setIfInBounds_toArray, List.set_cons_zero, List.set_cons_succ, i64_w, i32_w]
                    rfl
                  refine pure_ (i := 13) (N := some 27) (v := undef) (a' := ?_) #[true, true, true, true, true, true, true, true, true, true, true, true, true, true, false, false, false] rfl rfl (any_of HT_.out (by kernel_rfl)) (fun _ _ _ h => h) (Or.inr ⟨by rfl, rfl⟩) ?_ ?_
                  rotate_left
                  · simp only [Act.put, List.setIfInBounds_toArray, List.set_cons_zero, List.set_cons_succ, i64_w, i32_w]
                    rfl
                  refine pure_ (i := 14) (N := some 28) (v := undef) (a' := ?_) #[true, true, true, true, true, true, true, true, true, true, true, true, true, true, true, false, false] rfl rfl (any_of HT_.out (by kernel_rfl)) (fun _ _ _ h => h) (Or.inr ⟨by rfl, rfl⟩) ?_ ?_
                  rotate_left
                  · simp only [Act.put, List.setIfInBounds_toArray, List.set_cons_zero, List.set_cons_succ, i64_w, i32_w]
                    rfl
                  refine pure_ (i := 15) (N := some 29) (v := ?_) (a' := ?_) #[true, true, true, true, true, true, true, true, true, true, true, true, true, true, true, true, false] rfl rfl (any_of HT_.out (by kernel_rfl)) (fun _ _ _ h => h) (Or.inl ⟨by rfl, ?_⟩) ?_ ?_
                  rotate_left
                  · intro w'
                    go_simp
                    with_reducible rfl
                  rotate_left
                  · simp only [Act.put, List.setIfInBounds_toArray, List.set_cons_zero, List.set_cons_succ, i64_w, i32_w]
                    rfl
                  refine pure_ (i := 16) (N := some 30) (v := ?_) (a' := ?_) #[true, true, true, true, true, true, true, true, true, true, true, true, true, true, true, true, true] rfl rfl (any_of HT_.out (by kernel_rfl)) (fun _ _ _ h => h) (Or.inl ⟨by rfl, ?_⟩) ?_ ?_
                  rotate_left
                  · intro w'
                    go_simp
                    with_reducible rfl
                  rotate_left
                  · simp only [Act.put, List.setIfInBounds_toArray, List.set_cons_zero, List.set_cons_succ, i64_w, i32_w]
                    rfl
                  refine done_ (done_of HT_.out (by kernel_rfl)) ?_
                  have hcz36_0 : w35.cell? ⟨gb232, 0, none⟩ = some (.string ((rd_T51 l0 x9_1).f0)) := (blk_cell BK232.out 0).trans rfl
                  have hcz36_1 : w35.cell? ⟨gb232, 1, none⟩ = some (.int .i64 ((rd_T51 l0 x9_1).f1)) := (blk_cell BK232.out 1).trans rfl
                  have hcz36_2 : w35.cell? ⟨gb232, 2, none⟩ = some (.int .i64 ((rd_T51 l0 x9_1).f2)) := (blk_cell BK232.out 2).trans rfl
                  have hcz36_3 : w35.cell? ⟨gb232, 3, none⟩ = some (.int .i64 ((rd_T51 l0 x9_1).f3.f0)) := (blk_cell BK232.out 3).trans rfl
                  have hcz36_4 : w35.cell? ⟨gb232, 4, none⟩ = some (.int .i64 ((rd_T51 l0 x9_1).f3.f1)) := (blk_cell BK232.out 4).trans rfl
                  have hcz36_5 : w35.cell? ⟨gb232, 5, none⟩ = some (.int .i64 ((rd_T51 l0 x9_1).f3.f2)) := (blk_cell BK232.out 5).trans rfl
                  have hcz36_6 : w35.cell? ⟨gb232, 6, none⟩ = some (.int .i64 ((rd_T51 l0 x9_1).f3.f3)) := (blk_cell BK232.out 6).trans rfl
                  have hcz36_7 : w35.cell? ⟨gb232, 7, none⟩ = some (.slice A231_7 ((rd_T51 l0 x9_1).f3.f4).length c231_7) := (blk_cell BK232.out 7).trans rfl
                  have hcz36_8 : w35.cell? ⟨gb232, 8, none⟩ = some (.bool ((rd_T51 l0 x9_1).f3.f5)) := (blk_cell BK232.out 8).trans rfl
                  have hfz36_0 := blk_frozen BK232.out 0
                  have hfz36_1 := blk_frozen BK232.out 1
                  have hfz36_2 := blk_frozen BK232.out 2
                  have hfz36_3 := blk_frozen BK232.out 3
                  have hfz36_4 := blk_frozen BK232.out 4
                  have hfz36_5 := blk_frozen BK232.out 5
                  have hfz36_6 := blk_frozen BK232.out 6
                  have hfz36_7 := blk_frozen BK232.out 7
                  have hfz36_8 := blk_frozen BK232.out 8
                  try go_wp2_with (first | ((with_reducible refine gate_builtin (b := .append) (xs := #[.tmp 31, .tmp 34]) rfl ?_); at_builtin; refine Kd.R_append (Kd.int .i64) (w0 := w) w.heap.size rfl (.tmp 31) (.tmp 34) 47 3 (.int .i64 0) 8 rfl Try.underlying47 info3 rfl (by decide) (by omega) u3 x3_1 ((rd_T51 l0 x9_1).f1) [.int .i64 ((rd_T51 l0 x9_1).f1)] (fun _ => True) (fun _ => False) rfl rfl ?aP (fun _ hk => hk.elim) ?aF ?aO ?aB ?aS ?aL ?_; (case aP => exact rfl); (case aB => exact (by repeat (first | (with_reducible first | exact HB.out | apply below_alloc | apply pw_below_drewN | apply below_drew1 | refine below_set ?_ GE232.out) | exact HB.out))); (case aF => exact (fun _ _ => trivial)); (case aO => exact (by (with_reducible repeat (first | apply Kd.R_alloc | apply Kd.R_drewN | apply Kd.R_drew)); exact HO_3.out)); (case aS => exact (below_size (by repeat (first | (with_reducible first | exact HB.out | apply below_alloc | apply pw_below_drewN | apply below_drew1 | refine below_set ?_ GE232.out) | exact HB.out)))); (case aL => have := LMc30.out; omega); intro v240 w37 ho hb hg hat; rw [← Ny239.out] at ho; have n0_ := Aside0.mk (blk_grown (g := gb232) (o := .cells #[.string ((rd_T51 l0 x9_1).f0), .int .i64 ((rd_T51 l0 x9_1).f1), .int .i64 ((rd_T51 l0 x9_1).f2), .int .i64 ((rd_T51 l0 x9_1).f3.f0), .int .i64 ((rd_T51 l0 x9_1).f3.f1), .int .i64 ((rd_T51 l0 x9_1).f3.f2), .int .i64 ((rd_T51 l0 x9_1).f3.f3), .slice A231_7 ((rd_T51 l0 x9_1).f3.f4).length c231_7, .bool ((rd_T51 l0 x9_1).f3.f5)] 51 (0, 0)) (by (with_reducible repeat (first | refine blk_drewN ?_ _ | refine blk_drew ?_ | refine blk_alloc ?_ _)); exact BK232.out) hg (Kd.R_ne HO_3.out BK232.out (by decide))); have n1_ := Aside0.mk (hb); have n2_ := Aside0.mk (ho); clear BK232; clear HB; clear HO_3; have BK232 := n0_; have HB := n1_; have HO241 := n2_; clear n0_ n1_ n2_; clear ho hb hg hat))
                  go_roundg k1
                  case measure => have := HK1.out; omega
                  case rel => exact ⟨(y239), (wrap64 (x9_1 + 1)), (by first | rfl | (simp; done) | (simp [*]; done)), H', ⟨by have := HK1.out; omega⟩, ⟨by (with_reducible repeat (first | apply Kd.R_alloc | apply Kd.R_drewN | apply Kd.R_drew)); exact HO241.out⟩, ⟨by repeat (first | (with_reducible first | exact HB.out | apply below_alloc | apply pw_below_drewN | apply below_drew1 | refine below_set ?_ GE232.out) | exact HB.out)⟩⟩
                · rw [if_neg c30] at H
                  exact absurd H (by simp)
            · replace c8 := Bool.eq_false_iff.mpr c8
              subst c8
              have H1 : (some false) = some r := by rw [if_neg (show ¬ (false = true) by decide)] at H; exact H
              clear H
              have H := H1
              clear H1
              obtain rfl := Option.some.inj H
              have p231 : 0 ≤ (x9_1 : Int) := of_decide_eq_true (by first | (with_reducible assumption) | assumption)
              have q231 : x9_1 < (l0.length : Int) := of_decide_eq_true (by first | (with_reducible assumption) | assumption)
              obtain ⟨ad231, A231_7, c231_7, e231, hx231_0, hx231_1, hx231_2, hx231_3, hx231_4, hx231_5, hx231_6, hx231_7, hx231_8, hl231_7, hi231_7⟩ := at_T51 HR0.out x9_1 p231 q231
              cases e231
              try (replace hx231_0 := (HB.out.cell (World.block_lt_of_cell? w _ hx231_0)).trans hx231_0)
              try (replace hx231_1 := (HB.out.cell (World.block_lt_of_cell? w _ hx231_1)).trans hx231_1)
              try (replace hx231_2 := (HB.out.cell (World.block_lt_of_cell? w _ hx231_2)).trans hx231_2)
              try (replace hx231_3 := (HB.out.cell (World.block_lt_of_cell? w _ hx231_3)).trans hx231_3)
              try (replace hx231_4 := (HB.out.cell (World.block_lt_of_cell? w _ hx231_4)).trans hx231_4)
              try (replace hx231_5 := (HB.out.cell (World.block_lt_of_cell? w _ hx231_5)).trans hx231_5)
              try (replace hx231_6 := (HB.out.cell (World.block_lt_of_cell? w _ hx231_6)).trans hx231_6)
              try (replace hx231_7 := (HB.out.cell (World.block_lt_of_cell? w _ hx231_7)).trans hx231_7)
              try (replace hx231_8 := (HB.out.cell (World.block_lt_of_cell? w _ hx231_8)).trans hx231_8)
              have HR231_7 := Aside0.mk hi231_7
              have HC231_7 := Aside0.mk hl231_7
              clear hi231_7 hl231_7
              replace p231 := eq_true p231
              replace q231 := eq_true q231
              try go_wp2_with (first | ((with_reducible refine gate_dst (N := 5) rfl ?_); refine box_event ?hg (N := 5) ?hd (cs := #[.string (⟨#[]⟩ : ByteArray), .int .i64 0, .int .i64 0, .int .i64 0, .int .i64 0, .int .i64 0, .int .i64 0, .slice none 0 0, .bool false]) (t := 51) ?hr ?_; (case hd => rfl); (case hg => rfl); (case hr => first | (go_simp; done) | (go_simp; rfl)); intro gb232 hg w38 hbox hb; have n0_ := Aside0.mk (Kd.R_below (by (with_reducible repeat (first | apply Kd.R_alloc | apply Kd.R_drewN | apply Kd.R_drew)); exact HO_3.out) hb); have n1_ := Aside0.mk (below_step (by repeat (first | (with_reducible first | exact HB.out | apply below_alloc | apply pw_below_drewN | apply below_drew1) | exact HB.out)) hb); have n2_ := Aside0.mk (hbox); have n3_ := Aside0.mk ((by rw [hg]; exact (below_size (by repeat (first | (with_reducible first | exact HB.out | apply below_alloc | apply pw_below_drewN | apply below_drew1) | exact HB.out))) : w.heap.size ≤ gb232)); have n4_ := Aside0.mk ((by rw [hg]; exact (below_size (by repeat (first | (with_reducible first | exact HB.out | apply below_alloc | apply pw_below_drewN | apply below_drew1) | exact HB.out))) : w.heap.size ≤ gb232)); clear HO_3; clear HB; have HO_3 := n0_; have HB := n1_; have BK232 := n2_; have GW232 := n3_; have GE232 := n4_; clear n0_ n1_ n2_ n3_ n4_; clear hb hbox hg; have hcz39_0 : w38.cell? ⟨gb232, 0, none⟩ = some (.string (⟨#[]⟩ : ByteArray)) := (blk_cell BK232.out 0).trans rfl; have hcz39_1 : w38.cell? ⟨gb232, 1, none⟩ = some (.int .i64 0) := (blk_cell BK232.out 1).trans rfl; have hcz39_2 : w38.cell? ⟨gb232, 2, none⟩ = some (.int .i64 0) := (blk_cell BK232.out 2).trans rfl; have hcz39_3 : w38.cell? ⟨gb232, 3, none⟩ = some (.int .i64 0) := (blk_cell BK232.out 3).trans rfl; have hcz39_4 : w38.cell? ⟨gb232, 4, none⟩ = some (.int .i64 0) := (blk_cell BK232.out 4).trans rfl; have hcz39_5 : w38.cell? ⟨gb232, 5, none⟩ = some (.int .i64 0) := (blk_cell BK232.out 5).trans rfl; have hcz39_6 : w38.cell? ⟨gb232, 6, none⟩ = some (.int .i64 0) := (blk_cell BK232.out 6).trans rfl; have hcz39_7 : w38.cell? ⟨gb232, 7, none⟩ = some (.slice none 0 0) := (blk_cell BK232.out 7).trans rfl; have hcz39_8 : w38.cell? ⟨gb232, 8, none⟩ = some (.bool false) := (blk_cell BK232.out 8).trans rfl; have hfz39_0 := blk_frozen BK232.out 0; have hfz39_1 := blk_frozen BK232.out 1; have hfz39_2 := blk_frozen BK232.out 2; have hfz39_3 := blk_frozen BK232.out 3; have hfz39_4 := blk_frozen BK232.out 4; have hfz39_5 := blk_frozen BK232.out 5; have hfz39_6 := blk_frozen BK232.out 6; have hfz39_7 := blk_frozen BK232.out 7; have hfz39_8 := blk_frozen BK232.out 8))
              have n0_ : Aside0 (Kd.R (Kd.int .i64) 3 (((((((((w38.setCell ⟨gb232, 0, none⟩ (.string ((rd_T51 l0 x9_1).f0))).setCell ⟨gb232, 1, none⟩ (.int .i64 ((rd_T51 l0 x9_1).f1))).setCell ⟨gb232, 2, none⟩ (.int .i64 ((rd_T51 l0 x9_1).f2))).setCell ⟨gb232, 3, none⟩ (.int .i64 ((rd_T51 l0 x9_1).f3.f0))).setCell ⟨gb232, 4, none⟩ (.int .i64 ((rd_T51 l0 x9_1).f3.f1))).setCell ⟨gb232, 5, none⟩ (.int .i64 ((rd_T51 l0 x9_1).f3.f2))).setCell ⟨gb232, 6, none⟩ (.int .i64 ((rd_T51 l0 x9_1).f3.f3))).setCell ⟨gb232, 7, none⟩ (.slice A231_7 ((rd_T51 l0 x9_1).f3.f4).length c231_7)).setCell ⟨gb232, 8, none⟩ (.bool ((rd_T51 l0 x9_1).f3.f5))) w.heap.size (fun _ => True) u3 x3_1) := ⟨by (with_reducible repeat (first | apply Kd.R_alloc | apply Kd.R_drewN | apply Kd.R_drew)); exact Kd.R_mono (Kd.R_far (p := ⟨gb232, 8, none⟩) (Kd.R_far (p := ⟨gb232, 7, none⟩) (Kd.R_far (p := ⟨gb232, 6, none⟩) (Kd.R_far (p := ⟨gb232, 5, none⟩) (Kd.R_far (p := ⟨gb232, 4, none⟩) (Kd.R_far (p := ⟨gb232, 3, none⟩) (Kd.R_far (p := ⟨gb232, 2, none⟩) (Kd.R_far (p := ⟨gb232, 1, none⟩) (Kd.R_far (p := ⟨gb232, 0, none⟩) (Kd.R_types HO_3.out BK232.out (by decide)) (fun _ hk => hk.2) (.string ((rd_T51 l0 x9_1).f0))) (fun _ hk => hk.2) (.int .i64 ((rd_T51 l0 x9_1).f1))) (fun _ hk => hk.2) (.int .i64 ((rd_T51 l0 x9_1).f2))) (fun _ hk => hk.2) (.int .i64 ((rd_T51 l0 x9_1).f3.f0))) (fun _ hk => hk.2) (.int .i64 ((rd_T51 l0 x9_1).f3.f1))) (fun _ hk => hk.2) (.int .i64 ((rd_T51 l0 x9_1).f3.f2))) (fun _ hk => hk.2) (.int .i64 ((rd_T51 l0 x9_1).f3.f3))) (fun _ hk => hk.2) (.slice A231_7 ((rd_T51 l0 x9_1).f3.f4).length c231_7)) (fun _ hk => hk.2) (.bool ((rd_T51 l0 x9_1).f3.f5))) (fun _ hk => trivial)⟩
              have n1_ : Aside0 ((((((((((w38.setCell ⟨gb232, 0, none⟩ (.string ((rd_T51 l0 x9_1).f0))).setCell ⟨gb232, 1, none⟩ (.int .i64 ((rd_T51 l0 x9_1).f1))).setCell ⟨gb232, 2, none⟩ (.int .i64 ((rd_T51 l0 x9_1).f2))).setCell ⟨gb232, 3, none⟩ (.int .i64 ((rd_T51 l0 x9_1).f3.f0))).setCell ⟨gb232, 4, none⟩ (.int .i64 ((rd_T51 l0 x9_1).f3.f1))).setCell ⟨gb232, 5, none⟩ (.int .i64 ((rd_T51 l0 x9_1).f3.f2))).setCell ⟨gb232, 6, none⟩ (.int .i64 ((rd_T51 l0 x9_1).f3.f3))).setCell ⟨gb232, 7, none⟩ (.slice A231_7 ((rd_T51 l0 x9_1).f3.f4).length c231_7)).setCell ⟨gb232, 8, none⟩ (.bool ((rd_T51 l0 x9_1).f3.f5))).heap[gb232]? = some (.cells #[.string ((rd_T51 l0 x9_1).f0), .int .i64 ((rd_T51 l0 x9_1).f1), .int .i64 ((rd_T51 l0 x9_1).f2), .int .i64 ((rd_T51 l0 x9_1).f3.f0), .int .i64 ((rd_T51 l0 x9_1).f3.f1), .int .i64 ((rd_T51 l0 x9_1).f3.f2), .int .i64 ((rd_T51 l0 x9_1).f3.f3), .slice A231_7 ((rd_T51 l0 x9_1).f3.f4).length c231_7, .bool ((rd_T51 l0 x9_1).f3.f5)] 51 (0, 0))) := ⟨by (with_reducible repeat (first | refine blk_drewN ?_ _ | refine blk_drew ?_ | refine blk_alloc ?_ _)); refine blk_put (cs := #[.string ((rd_T51 l0 x9_1).f0), .int .i64 ((rd_T51 l0 x9_1).f1), .int .i64 ((rd_T51 l0 x9_1).f2), .int .i64 ((rd_T51 l0 x9_1).f3.f0), .int .i64 ((rd_T51 l0 x9_1).f3.f1), .int .i64 ((rd_T51 l0 x9_1).f3.f2), .int .i64 ((rd_T51 l0 x9_1).f3.f3), .slice A231_7 ((rd_T51 l0 x9_1).f3.f4).length c231_7, .bool false]) ?_ 8 _ rfl; (with_reducible repeat (first | refine blk_drewN ?_ _ | refine blk_drew ?_ | refine blk_alloc ?_ _)); refine blk_put (cs := #[.string ((rd_T51 l0 x9_1).f0), .int .i64 ((rd_T51 l0 x9_1).f1), .int .i64 ((rd_T51 l0 x9_1).f2), .int .i64 ((rd_T51 l0 x9_1).f3.f0), .int .i64 ((rd_T51 l0 x9_1).f3.f1), .int .i64 ((rd_T51 l0 x9_1).f3.f2), .int .i64 ((rd_T51 l0 x9_1).f3.f3), .slice none 0 0, .bool false]) ?_ 7 _ rfl; (with_reducible repeat (first | refine blk_drewN ?_ _ | refine blk_drew ?_ | refine blk_alloc ?_ _)); refine blk_put (cs := #[.string ((rd_T51 l0 x9_1).f0), .int .i64 ((rd_T51 l0 x9_1).f1), .int .i64 ((rd_T51 l0 x9_1).f2), .int .i64 ((rd_T51 l0 x9_1).f3.f0), .int .i64 ((rd_T51 l0 x9_1).f3.f1), .int .i64 ((rd_T51 l0 x9_1).f3.f2), .int .i64 0, .slice none 0 0, .bool false]) ?_ 6 _ rfl; (with_reducible repeat (first | refine blk_drewN ?_ _ | refine blk_drew ?_ | refine blk_alloc ?_ _)); refine blk_put (cs := #[.string ((rd_T51 l0 x9_1).f0), .int .i64 ((rd_T51 l0 x9_1).f1), .int .i64 ((rd_T51 l0 x9_1).f2), .int .i64 ((rd_T51 l0 x9_1).f3.f0), .int .i64 ((rd_T51 l0 x9_1).f3.f1), .int .i64 0, .int .i64 0, .slice none 0 0, .bool false]) ?_ 5 _ rfl; (with_reducible repeat (first | refine blk_drewN ?_ _ | refine blk_drew ?_ | refine blk_alloc ?_ _)); refine blk_put (cs := #[.string ((rd_T51 l0 x9_1).f0), .int .i64 ((rd_T51 l0 x9_1).f1), .int .i64 ((rd_T51 l0 x9_1).f2), .int .i64 ((rd_T51 l0 x9_1).f3.f0), .int .i64 0, .int .i64 0, .int .i64 0, .slice none 0 0, .bool false]) ?_ 4 _ rfl; (with_reducible repeat (first | refine blk_drewN ?_ _ | refine blk_drew ?_ | refine blk_alloc ?_ _)); refine blk_put (cs := #[.string ((rd_T51 l0 x9_1).f0), .int .i64 ((rd_T51 l0 x9_1).f1), .int .i64 ((rd_T51 l0 x9_1).f2), .int .i64 0, .int .i64 0, .int .i64 0, .int .i64 0, .slice none 0 0, .bool false]) ?_ 3 _ rfl; (with_reducible repeat (first | refine blk_drewN ?_ _ | refine blk_drew ?_ | refine blk_alloc ?_ _)); refine blk_put (cs := #[.string ((rd_T51 l0 x9_1).f0), .int .i64 ((rd_T51 l0 x9_1).f1), .int .i64 0, .int .i64 0, .int .i64 0, .int .i64 0, .int .i64 0, .slice none 0 0, .bool false]) ?_ 2 _ rfl; (with_reducible repeat (first | refine blk_drewN ?_ _ | refine blk_drew ?_ | refine blk_alloc ?_ _)); refine blk_put (cs := #[.string ((rd_T51 l0 x9_1).f0), .int .i64 0, .int .i64 0, .int .i64 0, .int .i64 0, .int .i64 0, .int .i64 0, .slice none 0 0, .bool false]) ?_ 1 _ rfl; (with_reducible repeat (first | refine blk_drewN ?_ _ | refine blk_drew ?_ | refine blk_alloc ?_ _)); refine blk_put (cs := #[.string (⟨#[]⟩ : ByteArray), .int .i64 0, .int .i64 0, .int .i64 0, .int .i64 0, .int .i64 0, .int .i64 0, .slice none 0 0, .bool false]) ?_ 0 _ rfl; (with_reducible repeat (first | refine blk_drewN ?_ _ | refine blk_drew ?_ | refine blk_alloc ?_ _)); exact BK232.out⟩
              have n2_ : Aside0 (Below w.heap.size w (((((((((w38.setCell ⟨gb232, 0, none⟩ (.string ((rd_T51 l0 x9_1).f0))).setCell ⟨gb232, 1, none⟩ (.int .i64 ((rd_T51 l0 x9_1).f1))).setCell ⟨gb232, 2, none⟩ (.int .i64 ((rd_T51 l0 x9_1).f2))).setCell ⟨gb232, 3, none⟩ (.int .i64 ((rd_T51 l0 x9_1).f3.f0))).setCell ⟨gb232, 4, none⟩ (.int .i64 ((rd_T51 l0 x9_1).f3.f1))).setCell ⟨gb232, 5, none⟩ (.int .i64 ((rd_T51 l0 x9_1).f3.f2))).setCell ⟨gb232, 6, none⟩ (.int .i64 ((rd_T51 l0 x9_1).f3.f3))).setCell ⟨gb232, 7, none⟩ (.slice A231_7 ((rd_T51 l0 x9_1).f3.f4).length c231_7)).setCell ⟨gb232, 8, none⟩ (.bool ((rd_T51 l0 x9_1).f3.f5)))) := ⟨by repeat (first | (with_reducible first | exact HB.out | apply below_alloc | apply pw_below_drewN | apply below_drew1 | refine below_set ?_ GE232.out) | exact HB.out)⟩
              (try clear HO_3)
              (try clear BK232)
              (try clear HB)
              generalize (((((((((w38.setCell ⟨gb232, 0, none⟩ (.string ((rd_T51 l0 x9_1).f0))).setCell ⟨gb232, 1, none⟩ (.int .i64 ((rd_T51 l0 x9_1).f1))).setCell ⟨gb232, 2, none⟩ (.int .i64 ((rd_T51 l0 x9_1).f2))).setCell ⟨gb232, 3, none⟩ (.int .i64 ((rd_T51 l0 x9_1).f3.f0))).setCell ⟨gb232, 4, none⟩ (.int .i64 ((rd_T51 l0 x9_1).f3.f1))).setCell ⟨gb232, 5, none⟩ (.int .i64 ((rd_T51 l0 x9_1).f3.f2))).setCell ⟨gb232, 6, none⟩ (.int .i64 ((rd_T51 l0 x9_1).f3.f3))).setCell ⟨gb232, 7, none⟩ (.slice A231_7 ((rd_T51 l0 x9_1).f3.f4).length c231_7)).setCell ⟨gb232, 8, none⟩ (.bool ((rd_T51 l0 x9_1).f3.f5))) = w40 at n0_ n1_ n2_ ⊢
              have HO_3 := n0_
              have BK232 := n1_
              have HB := n2_
              clear n0_ n1_ n2_
              have n0_ := Aside0.mk (Kd.R_drew HO_3.out)
              have n1_ := Aside0.mk (blk_drew BK232.out)
              have n2_ := Aside0.mk (below_drew1 HB.out)
              clear HO_3
              clear BK232
              clear HB
              have HO_3 := n0_
              have BK232 := n1_
              have HB := n2_
              clear n0_ n1_ n2_
              refine start_ (n := 17) (S := fun w' => w'.cell? ⟨gb232, 0, none⟩ = some (.string ((rd_T51 l0 x9_1).f0)) ∧ w'.cell? ⟨gb232, 1, none⟩ = some (.int .i64 ((rd_T51 l0 x9_1).f1)) ∧ w'.cell? ⟨gb232, 2, none⟩ = some (.int .i64 ((rd_T51 l0 x9_1).f2)) ∧ w'.cell? ⟨gb232, 3, none⟩ = some (.int .i64 ((rd_T51 l0 x9_1).f3.f0)) ∧ w'.cell? ⟨gb232, 4, none⟩ = some (.int .i64 ((rd_T51 l0 x9_1).f3.f1)) ∧ w'.cell? ⟨gb232, 5, none⟩ = some (.int .i64 ((rd_T51 l0 x9_1).f3.f2)) ∧ w'.cell? ⟨gb232, 6, none⟩ = some (.int .i64 ((rd_T51 l0 x9_1).f3.f3)) ∧ w'.cell? ⟨gb232, 7, none⟩ = some (.slice A231_7 ((rd_T51 l0 x9_1).f3.f4).length c231_7) ∧ w'.cell? ⟨gb232, 8, none⟩ = some (.bool ((rd_T51 l0 x9_1).f3.f5))) (ds := []) #[false, false, false, false, false, false, false, false, false, false, false, false, false, false, false, false, false] (by kernel_rfl) rfl rfl ⟨(blk_cell BK232.out 0).trans rfl, (blk_cell BK232.out 1).trans rfl, (blk_cell BK232.out 2).trans rfl, (blk_cell BK232.out 3).trans rfl, (blk_cell BK232.out 4).trans rfl, (blk_cell BK232.out 5).trans rfl, (blk_cell BK232.out 6).trans rfl, (blk_cell BK232.out 7).trans rfl, (blk_cell BK232.out 8).trans rfl⟩ (fun hHeld => ?_); refine with_tabW impl_GoodEntries.tab5 impl_GoodEntries.bits5 (fun HT_ HW_ => ?_)
              generalize w40.drew = w41 at HO_3 BK232 HB hHeld ⊢
              refine take_ (i := 0) (N := some 14) (v := ?_) (a' := ?_) #[true, false, false, false, false, false, false, false, false, false, false, false, false, false, false, false, false] rfl rfl (take_ofW HT_.out HW_.out (by kernel_rfl)) (fun _ _ _ h => h) (Or.inl ⟨by rfl, ?_⟩) hHeld ?_ ?_
              rotate_left
              · rintro w' ⟨s0, s1, s2, s3, s4, s5, s6, s7, s8⟩
                go_simp
                with_reducible rfl
              rotate_left
              · simp only [Act.put, List.setIfInBounds_toArray, List.set_cons_zero, List.set_cons_succ, i64_w, i32_w]
                rfl
              refine one_ (i := 1) (N := some 15) #[true, true, false, false, false, false, false, false, false, false, false, false, false, false, false, false, false] rfl rfl (one_of HT_.out (by kernel_rfl)) (by decide) (fun K hK => ?_)
              refine goes_ Try.func32 (by kernel_rfl) rfl #[.agg #[.string ((rd_T51 l0 x9_1).f0), .int .i64 ((rd_T51 l0 x9_1).f1), .int .i64 ((rd_T51 l0 x9_1).f2), .int .i64 ((rd_T51 l0 x9_1).f3.f0), .int .i64 ((rd_T51 l0 x9_1).f3.f1), .int .i64 ((rd_T51 l0 x9_1).f3.f2), .int .i64 ((rd_T51 l0 x9_1).f3.f3), .slice A231_7 ((rd_T51 l0 x9_1).f3.f4).length c231_7, .bool ((rd_T51 l0 x9_1).f3.f5)]] (by rfl) rfl rfl (by (try simp only [List.map_toArray, List.map_cons, List.map_nil]); first | done | rfl | (simp only [List.length_drop, List.length_take]; rfl)) ?_
              with_reducible refine (impl_GoodEntry.calls k1 ((rd_T51 l0 x9_1).f0) ((rd_T51 l0 x9_1).f1) ((rd_T51 l0 x9_1).f2) ((rd_T51 l0 x9_1).f3.f0) ((rd_T51 l0 x9_1).f3.f1) ((rd_T51 l0 x9_1).f3.f2) ((rd_T51 l0 x9_1).f3.f3) _ _ ((rd_T51 l0 x9_1).f3.f4) ((rd_T51 l0 x9_1).f3.f5) false _ ?side1 ?side2 A7.out).mono ?_
              (case side1 => repeat (first | exact (Kd.C_below HR231_7.out HB.out) | (with_reducible refine Kd.C_alloc ?_ _) | (with_reducible refine Kd.C_drewN ?_ _) | (with_reducible refine Kd.C_drew ?_)))
              (case side2 => exact HC231_7.out)
              rintro e w42 ⟨rfl, hb⟩
              refine ⟨_, rfl, ?_⟩
              have n0_ := Aside0.mk (Kd.R_below (by (with_reducible repeat (first | apply Kd.R_alloc | apply Kd.R_drewN | apply Kd.R_drew)); exact HO_3.out) hb)
              have n1_ := Aside0.mk (blk_below (g := gb232) (o := .cells #[.string ((rd_T51 l0 x9_1).f0), .int .i64 ((rd_T51 l0 x9_1).f1), .int .i64 ((rd_T51 l0 x9_1).f2), .int .i64 ((rd_T51 l0 x9_1).f3.f0), .int .i64 ((rd_T51 l0 x9_1).f3.f1), .int .i64 ((rd_T51 l0 x9_1).f3.f2), .int .i64 ((rd_T51 l0 x9_1).f3.f3), .slice A231_7 ((rd_T51 l0 x9_1).f3.f4).length c231_7, .bool ((rd_T51 l0 x9_1).f3.f5)] 51 (0, 0)) (by (with_reducible repeat (first | refine blk_drewN ?_ _ | refine blk_drew ?_ | refine blk_alloc ?_ _)); exact BK232.out) hb)
              have n2_ := Aside0.mk (below_step (by repeat (first | (with_reducible first | exact HB.out | apply below_alloc | apply pw_below_drewN | apply below_drew1 | refine below_set ?_ GE232.out) | exact HB.out)) hb)
              clear HO_3
              clear BK232
              clear HB
              have HO_3 := n0_
              have BK232 := n1_
              have HB := n2_
              clear n0_ n1_ n2_
              (try clear hb)
              (try clear hb2)
              (try clear hk)
              (try clear hi)
              refine hK.out _ _ ⟨(blk_cell BK232.out 0).trans rfl, (blk_cell BK232.out 1).trans rfl, (blk_cell BK232.out 2).trans rfl, (blk_cell BK232.out 3).trans rfl, (blk_cell BK232.out 4).trans rfl, (blk_cell BK232.out 5).trans rfl, (blk_cell BK232.out 6).trans rfl, (blk_cell BK232.out 7).trans rfl, (blk_cell BK232.out 8).trans rfl⟩ (fun hHeld => ?_)
              clear hK K
              refine norm_ (a' := ?_) ?_ ?_
              rotate_left
              · show Act.put _ (some 15) _ = _
                simp only [Act.put, List.setIfInBounds_toArray, List.set_cons_zero, List.set_cons_succ, i64_w, i32_w]
                rfl
              refine pure_ (i := 2) (N := some 16) (v := ?_) (a' := ?_) #[true, true, true, false, false, false, false, false, false, false, false, false, false, false, false, false, false] rfl rfl (any_of HT_.out (by kernel_rfl)) (fun _ _ _ h => h) (Or.inl ⟨by rfl, ?_⟩) ?_ ?_
              rotate_left
              · intro w'
                go_simp
                with_reducible rfl
              rotate_left
              · simp only [Act.put, List.setIfInBounds_toArray, List.set_cons_zero, List.set_cons_succ, i64_w, i32_w]
                rfl
              refine pure_ (i := 3) (N := some 17) (v := ?_) (a' := ?_) #[true, true, true, true, false, false, false, false, false, false, false, false, false, false, false, false, false] rfl rfl (any_of HT_.out (by kernel_rfl)) (fun _ _ _ h => h) (Or.inl ⟨by rfl, ?_⟩) ?_ ?_
              rotate_left
              · intro w'
                go_simp
                with_reducible rfl
              rotate_left
              · simp only [Act.put, List.setIfInBounds_toArray, List.set_cons_zero, List.set_cons_succ, i64_w, i32_w]
                rfl
              refine pure_ (i := 4) (N := some 18) (v := undef) (a' := ?_) #[true, true, true, true, true, false, false, false, false, false, false, false, false, false, false, false, false] rfl rfl (any_of HT_.out (by kernel_rfl)) (fun _ _ _ h => h) (Or.inr ⟨by rfl, rfl⟩) ?_ ?_
              rotate_left
              · simp only [Act.put, List.setIfInBounds_toArray, List.set_cons_zero, List.set_cons_succ, i64_w, i32_w]
                rfl
              refine pure_ (i := 5) (N := some 19) (v := undef) (a' := ?_) #[true, true, true, true, true, true, false, false, false, false, false, false, false, false, false, false, false] rfl rfl (any_of HT_.out (by kernel_rfl)) (fun _ _ _ h => h) (Or.inr ⟨by rfl, rfl⟩) ?_ ?_
              rotate_left
              · simp only [Act.put, List.setIfInBounds_toArray, List.set_cons_zero, List.set_cons_succ, i64_w, i32_w]
                rfl
              refine pure_ (i := 6) (N := some 20) (v := undef) (a' := ?_) #[true, true, true, true, true, true, true, false, false, false, false, false, false, false, false, false, false] rfl rfl (any_of HT_.out (by kernel_rfl)) (fun _ _ _ h => h) (Or.inr ⟨by rfl, rfl⟩) ?_ ?_
              rotate_left
              · simp only [Act.put, List.setIfInBounds_toArray, List.set_cons_zero, List.set_cons_succ, i64_w, i32_w]
                rfl
              refine pure_ (i := 7) (N := some 21) (v := undef) (a' := ?_) #[true, true, true, true, true, true, true, true, false, false, false, false, false, false, false, false, false] rfl rfl (any_of HT_.out (by kernel_rfl)) (fun _ _ _ h => h) (Or.inr ⟨by rfl, rfl⟩) ?_ ?_
              rotate_left
              · simp only [Act.put, List.setIfInBounds_toArray, List.set_cons_zero, List.set_cons_succ, i64_w, i32_w]
                rfl
              refine pure_ (i := 8) (N := some 22) (v := undef) (a' := ?_) #[true, true, true, true, true, true, true, true, true, false, false, false, false, false, false, false, false] rfl rfl (any_of HT_.out (by kernel_rfl)) (fun _ _ _ h => h) (Or.inr ⟨by rfl, rfl⟩) ?_ ?_
              rotate_left
              · simp only [Act.put, List.setIfInBounds_toArray, List.set_cons_zero, List.set_cons_succ, i64_w, i32_w]
                rfl
              refine pure_ (i := 9) (N := some 23) (v := undef) (a' := ?_) #[true, true, true, true, true, true, true, true, true, true, false, false, false, false, false, false, false] rfl rfl (any_of HT_.out (by kernel_rfl)) (fun _ _ _ h => h) (Or.inr ⟨by rfl, rfl⟩) ?_ ?_
              rotate_left
              · simp only [Act.put, List.setIfInBounds_toArray, List.set_cons_zero, List.set_cons_succ, i64_w, i32_w]
                rfl
              refine pure_ (i := 10) (N := some 24) (v := undef) (a' := ?_) #[true, true, true, true, true, true, true, true, true, true, true, false, false, false, false, false, false] rfl rfl (any_of HT_.out (by kernel_rfl)) (fun _ _ _ h => h) (Or.inr ⟨by rfl, rfl⟩) ?_ ?_
              rotate_left
              · simp only [Act.put, List.setIfInBounds_toArray, List.set_cons_zero, List.set_cons_succ, i64_w, i32_w]
                rfl
              refine pure_ (i := 11) (N := some 25) (v := undef) (a' := ?_) #[true, true, true, true, true, true, true, true, true, true, true, true, false, false, false, false, false] rfl rfl (any_of HT_.out (by kernel_rfl)) (fun _ _ _ h => h) (Or.inr ⟨by rfl, rfl⟩) ?_ ?_
              rotate_left
              · simp only [Act.put, List.setIfInBounds_toArray, List.set_cons_zero, List.set_cons_succ, i64_w, i32_w]
                rfl
              refine pure_ (i := 12) (N := some 26) (v := undef) (a' := ?_) #[true, true, true, true, true, true, true, true, true, true, true, true, true, false, false, false, false] rfl rfl (any_of HT_.out (by kernel_rfl)) (fun _ _ _ h => h) (Or.inr ⟨by rfl, rfl⟩) ?_ ?_
              rotate_left
              · simp only [Act.put, List.setIfInBounds_toArray, List.set_cons_zero, List.set_cons_succ, i64_w, i32_w]
                rfl
              refine pure_ (i := 13) (N := some 27) (v := undef) (a' := ?_) #[true, true, true, true, true, true, true, true, true, true, true, true, true, true, false, false, false] rfl rfl (any_of HT_.out (by kernel_rfl)) (fun _ _ _ h => h) (Or.inr ⟨by rfl, rfl⟩) ?_ ?_
              rotate_left
              · simp only [Act.put, List.setIfInBounds_toArray, List.set_cons_zero, List.set_cons_succ, i64_w, i32_w]
                rfl
              refine pure_ (i := 14) (N := some 28) (v := undef) (a' := ?_) #[true, true, true, true, true, true, true, true, true, true, true, true, true, true, true, false, false] rfl rfl (any_of HT_.out (by kernel_rfl)) (fun _ _ _ h => h) (Or.inr ⟨by rfl, rfl⟩) ?_ ?_
              rotate_left
              · simp only [Act.put, List.setIfInBounds_toArray, List.set_cons_zero, List.set_cons_succ, i64_w, i32_w]
                rfl
              refine pure_ (i := 15) (N := some 29) (v := undef) (a' := ?_) #[true, true, true, true, true, true, true, true, true, true, true, true, true, true, true, true, false] rfl rfl (any_of HT_.out (by kernel_rfl)) (fun _ _ _ h => h) (Or.inr ⟨by rfl, rfl⟩) ?_ ?_
              rotate_left
              · simp only [Act.put, List.setIfInBounds_toArray, List.set_cons_zero, List.set_cons_succ, i64_w, i32_w]
                rfl
              refine pure_ (i := 16) (N := some 30) (v := ?_) (a' := ?_) #[true, true, true, true, true, true, true, true, true, true, true, true, true, true, true, true, true] rfl rfl (any_of HT_.out (by kernel_rfl)) (fun _ _ _ h => h) (Or.inl ⟨by rfl, ?_⟩) ?_ ?_
              rotate_left
              · intro w'
                go_simp
                with_reducible rfl
              rotate_left
              · simp only [Act.put, List.setIfInBounds_toArray, List.set_cons_zero, List.set_cons_succ, i64_w, i32_w]
                rfl
              refine done_ (done_of HT_.out (by kernel_rfl)) ?_
              try go_wp2
              go_ret
              exact ⟨by first | rfl | (simp [errW_none, errW_some] <;> rfl) | (simp [*, errW_none, errW_some] <;> rfl), by repeat (first | (with_reducible first | exact HB.out | apply below_alloc | apply pw_below_drewN | apply below_drew1 | refine below_set ?_ GE232.out) | exact HB.out)⟩
          · rw [if_neg c6] at H
            exact absurd H (by simp)
        · rw [if_neg c5] at H
          exact absurd H (by simp)
      · rw [if_neg c4] at H
        have c4b0 : decide (x9_1 < (l0.length : Int)) = false := decide_eq_false c4
        clear c4
        replace H := Option.bind_eq_some_iff.mp H
        obtain ⟨t227, A430, H⟩ := H
        replace H : ((slices_Compact_int_int.f t227).bind fun t228 => (some ((t228.length : Int) == (l0.length : Int)))) = some r := H
        have A43 := Aside0.mk A430
        clear A430
        replace H := Option.bind_eq_some_iff.mp H
        obtain ⟨t228, A440, H⟩ := H
        replace H : (some ((t228.length : Int) == (l0.length : Int))) = some r := H
        have A44 := Aside0.mk A440
        clear A440
        obtain rfl := Option.some.inj H
        obtain ⟨Ao45, co45, eo45⟩ := Kd.R_slice HO_3.out
        subst eo45
        go_wp2_with (first | ((with_reducible refine gate_callee (f := 34) rfl ?_); refine goesL_ (some 38) rfl rfl Try.func34 (by kernel_rfl) rfl #[.slice Ao45 x3_1.length co45] rfl (by (try simp only [List.map_toArray, List.map_cons, List.map_nil]); first | done | rfl | (simp only [List.length_drop, List.length_take]; rfl)) ?_; (with_reducible refine (slices_Sort_int_int.calls (fun k_ => some k_ = (.slice Ao45 x3_1.length co45 : Value).ownBlock) (.slice Ao45 x3_1.length co45) x3_1 t227 w _ ?side1 ?side2 A43.out).mono ?_); (case side1 => repeat (first | (with_reducible first | exact HB.out | apply below_alloc | apply pw_below_drewN | apply below_drew1) | exact HB.out)); (case side2 => exact Kd.R_tight rfl HO_3.out); rintro e w46 ⟨rfl, hy0, hb, hkp⟩; refine ⟨_, rfl, ?_⟩; have n0_ := Aside0.mk (Kd.R_reok rfl hy0 (fun k_ e_ => HO_3.out.1 k_ e_)); have n1_ := Aside0.mk (hb); clear HO_3; clear HB; have HO_3 := n0_; have HB := n1_; clear n0_ n1_; (try clear hb); (try clear hkp); (try clear hy0)) | ((with_reducible refine gate_callee (f := 35) rfl ?_); refine goesL_ (some 40) rfl rfl Try.func35 (by kernel_rfl) rfl #[.slice Ao45 x3_1.length co45] rfl (by (try simp only [List.map_toArray, List.map_cons, List.map_nil]); first | done | rfl | (simp only [List.length_drop, List.length_take]; rfl)) ?_; (with_reducible refine (slices_Compact_int_int.calls (fun k_ => some k_ = (.slice Ao45 x3_1.length co45 : Value).ownBlock) (.slice Ao45 x3_1.length co45) t227 t228 w _ ?side1 ?side2 A44.out).mono ?_); (case side1 => repeat (first | (with_reducible first | exact HB.out | apply below_alloc | apply pw_below_drewN | apply below_drew1) | exact HB.out)); (case side2 => exact Kd.R_tight rfl HO_3.out); rintro e w47 ⟨v229, rfl, ho0, hb, hkp⟩; refine ⟨_, rfl, ?_⟩; have n0_ := Aside0.mk (Kd.R_mono (ok' := fun k_ => True) ho0 (fun k_ hk_ => trivial)); have n1_ := Aside0.mk (hb); clear HB; clear HO_3; have HO230 := n0_; have HB := n1_; clear n0_ n1_; (try clear hb); (try clear hkp); (try clear ho0); obtain ⟨Ao48, co48, eo48⟩ := Kd.R_slice HO230.out; subst eo48))
        go_ret
        exact ⟨by first | rfl | (simp [errW_none, errW_some] <;> rfl) | (simp [*, errW_none, errW_some] <;> rfl), by repeat (first | (with_reducible first | exact HB.out | apply below_alloc | apply pw_below_drewN | apply below_drew1) | exact HB.out)⟩

end Go.Proofs.Ythkimdibhlkpbaa.PFnExactOverlap
