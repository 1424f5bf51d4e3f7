-- Written for this claim by a program of this session: a scratch copy of the kit's print with patches of this session.
import Derived.Test.YtadkabbeghpgcaaPFnExactKeepBlockx0
import Derived.Test.YtadkabbeghpgcaaPFnExactKeepBlockx1
import Derived.Test.YtadkabbeghpgcaaPFnExactKeepBlockx2
namespace Go.Proofs.Ytadkabbeghpgcaa.PFnExactKeepBlock
open Go.RowKit Go.Proofs.YtadkabbeghpgcaaW.PrintWords Go.Proofs.YtadkabbeghpgcaaW.PrintLast Go.Proofs.YtadkabbeghpgcaaW.PrintMore
attribute [local go_sem] max2_int min2_int max_two min_two max_three min_three max_four min_four hw_string_geq hw_string_gtr hw_string_leq   -- for this text's walks alone
set_option linter.unusedVariables false
set_option linter.unusedSimpArgs false

/-! ### laws_heldIntS: function 35 -/
def laws_heldIntS.l0 : Nat → List Int → Int → Int → Option (Int)
  | 0, _, _, _ => none
  | k + 1, x0, x1, x5 => if x5 < (x0.length : Int) then (if 0 ≤ x5 then (if (rd x0 x5) = x1 then (laws_heldIntS.l0 k x0 (wrap64 (x1 + 1)) (wrap64 (x5 + 1))) else (some (-1))) else (none)) else (some x1)
def laws_heldIntS.f (k : Nat) (l0 : List Int) (a1 : Int) : Option (Int) := laws_heldIntS.l0 k l0 a1 0
theorem laws_heldIntS.mono_l : ∀ k, (∀ y0 y1 y2, LeO (laws_heldIntS.l0 k y0 y1 y2) (laws_heldIntS.l0 (k + 1) y0 y1 y2))
  | 0 => fun _ _ _ r h => by simp [laws_heldIntS.l0] at h
  | k + 1 => by
    have ih0 := laws_heldIntS.mono_l k
    · intro y0 y1 y2
      unfold laws_heldIntS.l0
      repeat' first
      | (with_reducible exact ih0 _ _ _)
      | (with_reducible exact LeO.refl _)
      | (with_reducible exact LeO.none _)
      | (with_reducible refine LeO.ite ?_ ?_)
      | (with_reducible refine LeO.bind ?_ (fun _ => ?_))
      | exact ih0 _ _ _
      | exact LeO.none _
      | refine LeO.ite ?_ ?_
      | refine LeO.bind ?_ (fun _ => ?_)
theorem laws_heldIntS.mono : ∀ a0 a1 k, LeO (laws_heldIntS.f k a0 a1) (laws_heldIntS.f (k + 1) a0 a1) := by
  intro a0 a1 k
  have ih0 := laws_heldIntS.mono_l k
  unfold laws_heldIntS.f
  repeat' first
      | (with_reducible exact ih0 _ _ _)
      | (with_reducible exact LeO.refl _)
      | (with_reducible exact LeO.none _)
      | (with_reducible refine LeO.ite ?_ ?_)
      | (with_reducible refine LeO.bind ?_ (fun _ => ?_))
      | exact ih0 _ _ _
      | exact LeO.none _
      | refine LeO.ite ?_ ?_
      | refine LeO.bind ?_ (fun _ => ?_)
set_option maxHeartbeats 8000000 in
set_option maxRecDepth 100000 in
theorem laws_heldIntS.calls (k : Nat) (A0 : Option Addr) (c0 : Nat) (l0 : List Int) (a1 : Int) (r : Int) (w : World) (hr0 : Kd.C (Kd.int .i64) w A0 l0.length l0) (hc0 : l0.length ≤ c0) (h : laws_heldIntS.f k l0 a1 = some r) :
    Calls Try.prog 35 #[.slice A0 l0.length c0, .int .i64 a1] w fun e w' => e = .returned (.int .i64 r) ∧ Drawn0 w w' := by
  have HR0 := Aside0.mk hr0
  have HC0 := Aside0.mk hc0
  clear hr0 hc0
  have H : (laws_heldIntS.l0 k l0 a1 0) = some r := h
  clear h
  have H' := Aside0.mk H
  clear H
  go_enter Try.func35, Try.ntmps35
  go_wp2
  go_loopg [1, 5] k (fun kq v1 v5 w' => ∃ (x1_1 : Int) (x5_1 : Int), v1 = .int .i64 x1_1 ∧ v5 = .int .i64 x5_1 ∧ Aside0 (laws_heldIntS.l0 kq l0 x1_1 x5_1 = some r) ∧ Aside0 (kq ≤ k) ∧ Drawn0 w w')
  case atStart => exact ⟨(a1), (0), (by first | rfl | (simp; done) | (simp [*]; done)), (by first | rfl | (simp; done) | (simp [*]; done)), H', ⟨Nat.le_refl _⟩, by repeat (first | exact Drawn0.refl _ | apply Drawn0.step)⟩
  case round =>
    clear H'
    try clear p2
    obtain ⟨x1_1, x5_1, rfl, rfl, HA, HK1, ⟨m1, rfl⟩⟩ := hrel
    cases gk with
    | zero => exact absurd HA.out (by simp [laws_heldIntS.l0])
    | succ k1 =>
      have H := HA.out
      clear HA
      simp only [laws_heldIntS.l0] at H
      by_cases c3 : x5_1 < (l0.length : Int)
      · rw [if_pos c3] at H
        have c3b0 : decide (x5_1 < (l0.length : Int)) = true := decide_eq_true c3
        clear c3
        by_cases c4 : 0 ≤ x5_1
        · rw [if_pos c4] at H
          have c4b0 : decide (0 ≤ x5_1) = true := decide_eq_true c4
          clear c4
          by_cases c5 : (rd l0 x5_1) = x1_1
          · rw [if_pos c5] at H
            have c5b0 : ((rd l0 x5_1) == x1_1) = true := beq_iff_eq.mpr c5
            have c5b1 : ((rd l0 x5_1) != x1_1) = false := bne_eq_false_iff_eq.mpr c5
            clear c5
            have H' := Aside0.mk H
            clear H
            have p110 : 0 ≤ (x5_1 : Int) := of_decide_eq_true (by first | (with_reducible assumption) | assumption)
            have q110 : x5_1 < (l0.length : Int) := of_decide_eq_true (by first | (with_reducible assumption) | assumption)
            obtain ⟨ad110, e110, hx110_0⟩ := Kd.at_int HR0.out x5_1 p110 q110
            cases e110
            replace p110 := eq_true p110
            replace q110 := eq_true q110
            go_wp2
            go_roundg k1
            case measure => have := HK1.out; omega
            case rel => exact ⟨(wrap64 (x1_1 + 1)), (wrap64 (x5_1 + 1)), (by first | rfl | (simp; done) | (simp [*]; done)), (by first | rfl | (simp; done) | (simp [*]; done)), H', ⟨by have := HK1.out; omega⟩, by repeat (first | exact Drawn0.refl _ | apply Drawn0.step)⟩
          · rw [if_neg c5] at H
            have c5b0 : ((rd l0 x5_1) == x1_1) = false := beq_eq_false_iff_ne.mpr c5
            have c5b1 : ((rd l0 x5_1) != x1_1) = true := bne_iff_ne.mpr c5
            obtain rfl := Option.some.inj H
            have p110 : 0 ≤ (x5_1 : Int) := of_decide_eq_true (by first | (with_reducible assumption) | assumption)
            have q110 : x5_1 < (l0.length : Int) := of_decide_eq_true (by first | (with_reducible assumption) | assumption)
            obtain ⟨ad110, e110, hx110_0⟩ := Kd.at_int HR0.out x5_1 p110 q110
            cases e110
            replace p110 := eq_true p110
            replace q110 := eq_true q110
            go_wp2
            go_ret
            exact ⟨by first | rfl | (simp; done) | (simp [*]; done), by repeat (first | exact Drawn0.refl _ | apply Drawn0.step)⟩
        · rw [if_neg c4] at H
          exact absurd H (by simp)
      · rw [if_neg c3] at H
        have c3b0 : decide (x5_1 < (l0.length : Int)) = false := decide_eq_false c3
        clear c3
        obtain rfl := Option.some.inj H
        go_wp2
        go_ret
        exact ⟨by first | rfl | (simp; done) | (simp [*]; done), by repeat (first | exact Drawn0.refl _ | apply Drawn0.step)⟩

/-! ### laws_FnExactKeepBlock: function 6, a law by hand -/
def laws_FnExactKeepBlock.f (k : Nat) (l0 : List Int) (a1 : Int) (a2 : Int) : Option (Bool) := if 1048576 < (l0.length : Int) then some true else (laws_toIntS.f k l0).bind fun t1 => (spec_KeepBlock.f t1 a1 a2).bind fun bt2 => (laws_toIntS.f k l0).bind fun t5 => (impl_KeepBlock.f k t5 a1 a2).bind fun bt6 => (laws_eqIntS.f k bt6.1 bt2.1).bind fun t9 => (laws_toIntS.f k l0).bind fun t10 => (laws_eqIntS.f k t5 t10).bind fun t11 => (laws_markIntS.f k t5 1).bind fun bt12 => (laws_eqIntS.f k bt6.1 bt2.1).bind fun t14 => (laws_markIntS.f k bt6.1 1).bind fun bt15 => (laws_heldIntS.f k bt15.2 1).bind fun t17 => (laws_toIntS.f k l0).bind fun t18 => (impl_KeepBlock.f k t18 a1 a2).bind fun bt19 => (laws_eqIntS.f k bt19.1 bt2.1).bind fun t22 => (laws_heldIntS.f k bt15.2 1).bind fun t23 => if t9 = true ∧ bt6.2.1 = bt2.2.1 ∧ bt6.2.2 = bt2.2.2 ∧ t11 = true ∧ ¬ bt12.1 < 0 ∧ t14 = true ∧ bt6.2.1 = bt2.2.1 ∧ bt6.2.2 = bt2.2.2 ∧ ¬ t17 < 0 ∧ t17 = bt15.1 ∧ t22 = true ∧ bt19.2.1 = bt2.2.1 ∧ bt19.2.2 = bt2.2.2 ∧ ¬ t23 < 0 ∧ t23 = bt15.1 then some true else none
theorem laws_FnExactKeepBlock.mono : ∀ a0 a1 a2 k, LeO (laws_FnExactKeepBlock.f k a0 a1 a2) (laws_FnExactKeepBlock.f (k + 1) a0 a1 a2) := by
  intro a0 a1 a2 k
  unfold laws_FnExactKeepBlock.f
  repeat' first
      | (with_reducible exact impl_KeepBlock.mono _ _ _ _)
      | (with_reducible exact laws_eqIntS.mono _ _ _)
      | (with_reducible exact laws_heldIntS.mono _ _ _)
      | (with_reducible exact laws_markIntS.mono _ _ _)
      | (with_reducible exact laws_toIntS.mono _ _)
      | (with_reducible exact LeO.refl _)
      | (with_reducible exact LeO.none _)
      | (with_reducible refine LeO.ite ?_ ?_)
      | (with_reducible refine LeO.bind ?_ (fun _ => ?_))
      | exact impl_KeepBlock.mono _ _ _ _
      | exact laws_eqIntS.mono _ _ _
      | exact laws_heldIntS.mono _ _ _
      | exact laws_markIntS.mono _ _ _
      | exact laws_toIntS.mono _ _
      | exact LeO.none _
      | refine LeO.ite ?_ ?_
      | refine LeO.bind ?_ (fun _ => ?_)
set_option maxHeartbeats 16000000 in
set_option maxRecDepth 100000 in
theorem laws_FnExactKeepBlock.calls (k : Nat) (A0 : Option Addr) (c0 : Nat) (l0 : List Int) (a1 : Int) (a2 : Int) (r : Bool) (w : World) (hr0 : Kd.C (Kd.int .i64) w A0 l0.length l0) (hc0 : l0.length ≤ c0) (h : laws_FnExactKeepBlock.f k l0 a1 a2 = some r) :
    Calls Try.prog 6 #[.slice A0 l0.length c0, .int .i64 a1, .int .i64 a2] w fun e w' => e = .returned (.bool r) ∧ Below w.heap.size w w' := by
  have HR0 := Aside0.mk hr0
  have HC0 := Aside0.mk hc0
  clear hr0 hc0
  have HB := Aside0.mk (Below.refl w.heap.size w)
  unfold laws_FnExactKeepBlock.f at h
  by_cases hl0 : 1048576 < (l0.length : Int)
  · rw [if_pos hl0] at h
    have hlb0 := decide_eq_true hl0
    clear hl0
    obtain rfl := Option.some.inj h
    clear h
    go_enter Try.func6, Try.ntmps6
    go_wp2
    go_ret
    exact ⟨by first | rfl | (simp; done), (by repeat (first | exact HB.out | apply below_alloc | apply pw_below_drewN | apply below_drew1))⟩
  rw [if_neg hl0] at h
  have hlb0 := decide_eq_false hl0
  clear hl0
  replace h := Option.bind_eq_some_iff.mp h
  obtain ⟨t1, hA1, h⟩ := h
  have A1_ := Aside0.mk (show laws_toIntS.f k l0 = some t1 from hA1)
  clear hA1
  try dsimp only at h
  replace h := Option.bind_eq_some_iff.mp h
  obtain ⟨⟨t2, t3, t4⟩, hA2, h⟩ := h
  have A2_ := Aside0.mk (show spec_KeepBlock.f t1 a1 a2 = some (t2, t3, t4) from hA2)
  clear hA2
  try dsimp only at h
  replace h := Option.bind_eq_some_iff.mp h
  obtain ⟨t5, hA3, h⟩ := h
  have A3_ := Aside0.mk (show laws_toIntS.f k l0 = some t5 from hA3)
  clear hA3
  try dsimp only at h
  replace h := Option.bind_eq_some_iff.mp h
  obtain ⟨⟨t6, t7, t8⟩, hA4, h⟩ := h
  have A4_ := Aside0.mk (show impl_KeepBlock.f k t5 a1 a2 = some (t6, t7, t8) from hA4)
  clear hA4
  try dsimp only at h
  replace h := Option.bind_eq_some_iff.mp h
  obtain ⟨t9, hA5, h⟩ := h
  have A5_ := Aside0.mk (show laws_eqIntS.f k t6 t2 = some t9 from hA5)
  clear hA5
  try dsimp only at h
  replace h := Option.bind_eq_some_iff.mp h
  obtain ⟨t10, hA6, h⟩ := h
  have A6_ := Aside0.mk (show laws_toIntS.f k l0 = some t10 from hA6)
  clear hA6
  try dsimp only at h
  replace h := Option.bind_eq_some_iff.mp h
  obtain ⟨t11, hA7, h⟩ := h
  have A7_ := Aside0.mk (show laws_eqIntS.f k t5 t10 = some t11 from hA7)
  clear hA7
  try dsimp only at h
  replace h := Option.bind_eq_some_iff.mp h
  obtain ⟨⟨t12, t13⟩, hA8, h⟩ := h
  have A8_ := Aside0.mk (show laws_markIntS.f k t5 1 = some (t12, t13) from hA8)
  clear hA8
  try dsimp only at h
  replace h := Option.bind_eq_some_iff.mp h
  obtain ⟨t14, hA9, h⟩ := h
  have A9_ := Aside0.mk (show laws_eqIntS.f k t6 t2 = some t14 from hA9)
  clear hA9
  try dsimp only at h
  replace h := Option.bind_eq_some_iff.mp h
  obtain ⟨⟨t15, t16⟩, hA10, h⟩ := h
  have A10_ := Aside0.mk (show laws_markIntS.f k t6 1 = some (t15, t16) from hA10)
  clear hA10
  try dsimp only at h
  replace h := Option.bind_eq_some_iff.mp h
  obtain ⟨t17, hA11, h⟩ := h
  have A11_ := Aside0.mk (show laws_heldIntS.f k t16 1 = some t17 from hA11)
  clear hA11
  try dsimp only at h
  replace h := Option.bind_eq_some_iff.mp h
  obtain ⟨t18, hA12, h⟩ := h
  have A12_ := Aside0.mk (show laws_toIntS.f k l0 = some t18 from hA12)
  clear hA12
  try dsimp only at h
  replace h := Option.bind_eq_some_iff.mp h
  obtain ⟨⟨t19, t20, t21⟩, hA13, h⟩ := h
  have A13_ := Aside0.mk (show impl_KeepBlock.f k t18 a1 a2 = some (t19, t20, t21) from hA13)
  clear hA13
  try dsimp only at h
  replace h := Option.bind_eq_some_iff.mp h
  obtain ⟨t22, hA14, h⟩ := h
  have A14_ := Aside0.mk (show laws_eqIntS.f k t19 t2 = some t22 from hA14)
  clear hA14
  try dsimp only at h
  replace h := Option.bind_eq_some_iff.mp h
  obtain ⟨t23, hA15, h⟩ := h
  have A15_ := Aside0.mk (show laws_heldIntS.f k t16 1 = some t23 from hA15)
  clear hA15
  try dsimp only at h
  by_cases hcond : t9 = true ∧ t7 = t3 ∧ t8 = t4 ∧ t11 = true ∧ ¬ t12 < 0 ∧ t14 = true ∧ t7 = t3 ∧ t8 = t4 ∧ ¬ t17 < 0 ∧ t17 = t15 ∧ t22 = true ∧ t20 = t3 ∧ t21 = t4 ∧ ¬ t23 < 0 ∧ t23 = t15
  · rw [if_pos hcond] at h
    obtain rfl := Option.some.inj h
    clear h
    obtain ⟨z0_, z1_, z2_, z3_, z4_, z5_, z6_, z7_, z8_, z9_, z10_, z11_, z12_, z13_, z14_⟩ := hcond
    subst z0_
    have zb1 := bne_eq_false_iff_eq.mpr z1_
    have ze1 := beq_iff_eq.mpr z1_
    clear z1_
    have zb2 := bne_eq_false_iff_eq.mpr z2_
    have ze2 := beq_iff_eq.mpr z2_
    clear z2_
    subst z3_
    have zb4 := decide_eq_false z4_
    clear z4_
    subst z5_
    have zb6 := bne_eq_false_iff_eq.mpr z6_
    have ze6 := beq_iff_eq.mpr z6_
    clear z6_
    have zb7 := bne_eq_false_iff_eq.mpr z7_
    have ze7 := beq_iff_eq.mpr z7_
    clear z7_
    have zb8 := decide_eq_false z8_
    clear z8_
    have zb9 := bne_eq_false_iff_eq.mpr z9_
    have ze9 := beq_iff_eq.mpr z9_
    clear z9_
    subst z10_
    have zb11 := bne_eq_false_iff_eq.mpr z11_
    have ze11 := beq_iff_eq.mpr z11_
    clear z11_
    have zb12 := bne_eq_false_iff_eq.mpr z12_
    have ze12 := beq_iff_eq.mpr z12_
    clear z12_
    have zb13 := decide_eq_false z13_
    clear z13_
    have zb14 := bne_eq_false_iff_eq.mpr z14_
    have ze14 := beq_iff_eq.mpr z14_
    clear z14_
    go_enter Try.func6, Try.ntmps6
    go_wp2_with (first | ((with_reducible refine gate_callee (f := 31) rfl ?_); refine goesL_ (some 25) rfl rfl Try.func31 (by kernel_rfl) rfl #[.slice A0 l0.length c0] rfl (by (try simp only [List.map_toArray, List.map_cons, List.map_nil]); first | done | rfl | (simp only [List.length_drop, List.length_take]; rfl)) ?_; (with_reducible refine (laws_toIntS.calls k _ _ l0 t1 _ ?side1 ?side2 A1_.out).mono ?_); (case side1 => repeat (first | exact (Kd.C_below HR0.out HB.out) | (with_reducible refine Kd.C_alloc ?_ _) | (with_reducible refine Kd.C_drewN ?_ _) | (with_reducible refine Kd.C_drew ?_))); (case side2 => exact HC0.out); rintro e w1_ ⟨v101, rfl, ho101, hb⟩; refine ⟨_, rfl, ?_⟩; have sz_ : w.heap.size ≤ w1_.heap.size := hb.size; have n0_ := Aside0.mk (below_step (by repeat (first | exact HB.out | apply below_alloc | apply pw_below_drewN | apply below_drew1)) hb); have n1_ := Aside0.mk (mineR ho101 (show _ = w.heap.size from rfl) (below_size (by repeat (first | exact HB.out | apply below_alloc | apply pw_below_drewN | apply below_drew1)))); clear HB; have HB := n0_; have HO101 := n1_; clear n0_ n1_; have SZ1 := Aside0.mk sz_; clear sz_ hb ho101; obtain ⟨A101, c101, eo101⟩ := Kd.R_slice HO101.out; subst eo101) | ((with_reducible refine gate_callee (f := 30) rfl ?_); refine goesL_ (some 28) rfl rfl Try.func30 (by kernel_rfl) rfl #[.slice A101 t1.length c101, .int .i64 a1, .int .i64 a2] rfl (by (try simp only [List.map_toArray, List.map_cons, List.map_nil]); first | done | rfl | (simp only [List.length_drop, List.length_take]; rfl)) ?_; (with_reducible refine (spec_KeepBlock.calls _ _ t1 a1 a2 t2 t3 t4 _ ?side1 ?side2 A2_.out).mono ?_); (case side1 => repeat (first | exact (Kd.R_reads' HO101.out).2.2 | (with_reducible refine Kd.C_alloc ?_ _) | (with_reducible refine Kd.C_drewN ?_ _) | (with_reducible refine Kd.C_drew ?_))); (case side2 => exact (Kd.R_reads' HO101.out).2.1); rintro e w2_ ⟨v102, rfl, ho102, hb⟩; refine ⟨_, rfl, ?_⟩; have sz_ : w1_.heap.size ≤ w2_.heap.size := hb.size; have n0_ := Aside0.mk (Kd.R_below (by (with_reducible repeat (first | apply Kd.R_alloc | apply Kd.R_drewN | apply Kd.R_drew)); exact HO101.out) hb); have n1_ := Aside0.mk (below_step (by repeat (first | exact HB.out | apply below_alloc | apply pw_below_drewN | apply below_drew1)) hb); have n2_ := Aside0.mk (mineR ho102 (show _ = w1_.heap.size from rfl) (below_size (by repeat (first | exact HB.out | apply below_alloc | apply pw_below_drewN | apply below_drew1)))); clear HO101 HB; have HO101 := n0_; have HB := n1_; have HO102 := n2_; clear n0_ n1_ n2_; have SZ2 := Aside0.mk sz_; clear sz_ hb ho102; obtain ⟨A102, c102, eo102⟩ := Kd.R_slice HO102.out; subst eo102) | ((with_reducible refine gate_callee (f := 31) rfl ?_); refine goesL_ (some 33) rfl rfl Try.func31 (by kernel_rfl) rfl #[.slice A0 l0.length c0] rfl (by (try simp only [List.map_toArray, List.map_cons, List.map_nil]); first | done | rfl | (simp only [List.length_drop, List.length_take]; rfl)) ?_; (with_reducible refine (laws_toIntS.calls k _ _ l0 t5 _ ?side1 ?side2 A3_.out).mono ?_); (case side1 => repeat (first | exact (Kd.C_below HR0.out HB.out) | (with_reducible refine Kd.C_alloc ?_ _) | (with_reducible refine Kd.C_drewN ?_ _) | (with_reducible refine Kd.C_drew ?_))); (case side2 => exact HC0.out); rintro e w3_ ⟨v105, rfl, ho105, hb⟩; refine ⟨_, rfl, ?_⟩; have sz_ : w2_.heap.size ≤ w3_.heap.size := hb.size; have n0_ := Aside0.mk (Kd.R_below (by (with_reducible repeat (first | apply Kd.R_alloc | apply Kd.R_drewN | apply Kd.R_drew)); exact HO101.out) hb); have n1_ := Aside0.mk (Kd.R_below (by (with_reducible repeat (first | apply Kd.R_alloc | apply Kd.R_drewN | apply Kd.R_drew)); exact HO102.out) hb); have n2_ := Aside0.mk (below_step (by repeat (first | exact HB.out | apply below_alloc | apply pw_below_drewN | apply below_drew1)) hb); have n3_ := Aside0.mk (mineR ho105 (show _ = w2_.heap.size from rfl) (below_size (by repeat (first | exact HB.out | apply below_alloc | apply pw_below_drewN | apply below_drew1)))); clear HO101 HO102 HB; have HO101 := n0_; have HO102 := n1_; have HB := n2_; have HO105 := n3_; clear n0_ n1_ n2_ n3_; have SZ3 := Aside0.mk sz_; clear sz_ hb ho105; obtain ⟨A105, c105, eo105⟩ := Kd.R_slice HO105.out; subst eo105) | ((with_reducible refine gate_callee (f := 32) rfl ?_); refine goesL_ (some 38) rfl rfl Try.func32 (by kernel_rfl) rfl #[.slice A105 t5.length c105, .int .i64 a1, .int .i64 a2] rfl (by (try simp only [List.map_toArray, List.map_cons, List.map_nil]); first | done | rfl | (simp only [List.length_drop, List.length_take]; rfl)) ?_; (with_reducible refine (impl_KeepBlock.calls k _ _ t5 a1 a2 t6 t7 t8 _ ?side1 ?side2 A4_.out).mono ?_); (case side1 => repeat (first | exact (Kd.R_reads' HO105.out).2.2 | (with_reducible refine Kd.C_alloc ?_ _) | (with_reducible refine Kd.C_drewN ?_ _) | (with_reducible refine Kd.C_drew ?_))); (case side2 => exact (Kd.R_reads' HO105.out).2.1); rintro e w4_ ⟨v106, rfl, ho106, hb⟩; refine ⟨_, rfl, ?_⟩; have sz_ : w3_.heap.size ≤ w4_.heap.size := hb.size; have n0_ := Aside0.mk (Kd.R_below (by (with_reducible repeat (first | apply Kd.R_alloc | apply Kd.R_drewN | apply Kd.R_drew)); exact HO101.out) hb); have n1_ := Aside0.mk (Kd.R_below (by (with_reducible repeat (first | apply Kd.R_alloc | apply Kd.R_drewN | apply Kd.R_drew)); exact HO102.out) hb); have n2_ := Aside0.mk (Kd.R_below (by (with_reducible repeat (first | apply Kd.R_alloc | apply Kd.R_drewN | apply Kd.R_drew)); exact HO105.out) hb); have n3_ := Aside0.mk (below_step (by repeat (first | exact HB.out | apply below_alloc | apply pw_below_drewN | apply below_drew1)) hb); have n4_ := Aside0.mk (mineR ho106 (show _ = w3_.heap.size from rfl) (below_size (by repeat (first | exact HB.out | apply below_alloc | apply pw_below_drewN | apply below_drew1)))); clear HO101 HO102 HO105 HB; have HO101 := n0_; have HO102 := n1_; have HO105 := n2_; have HB := n3_; have HO106 := n4_; clear n0_ n1_ n2_ n3_ n4_; have SZ4 := Aside0.mk sz_; clear sz_ hb ho106; obtain ⟨A106, c106, eo106⟩ := Kd.R_slice HO106.out; subst eo106) | ((with_reducible refine gate_callee (f := 33) rfl ?_); refine goesL_ (some 44) rfl rfl Try.func33 (by kernel_rfl) rfl #[.slice A106 t6.length c106, .slice A102 t2.length c102] rfl (by (try simp only [List.map_toArray, List.map_cons, List.map_nil]); first | done | rfl | (simp only [List.length_drop, List.length_take]; rfl)) ?_; (with_reducible refine (laws_eqIntS.calls k _ _ t6 _ _ t2 true _ ?side1 ?side2 ?side3 ?side4 A5_.out).mono ?_); (case side1 => repeat (first | exact (Kd.R_reads' HO106.out).2.2 | (with_reducible refine Kd.C_alloc ?_ _) | (with_reducible refine Kd.C_drewN ?_ _) | (with_reducible refine Kd.C_drew ?_))); (case side2 => exact (Kd.R_reads' HO106.out).2.1); (case side3 => repeat (first | exact (Kd.R_reads' HO102.out).2.2 | (with_reducible refine Kd.C_alloc ?_ _) | (with_reducible refine Kd.C_drewN ?_ _) | (with_reducible refine Kd.C_drew ?_))); (case side4 => exact (Kd.R_reads' HO102.out).2.1); rintro e w5_ ⟨rfl, hb⟩; refine ⟨_, rfl, ?_⟩; replace hb := Drawn0.below hb; have sz_ : w4_.heap.size ≤ w5_.heap.size := hb.size; have n0_ := Aside0.mk (Kd.R_below (by (with_reducible repeat (first | apply Kd.R_alloc | apply Kd.R_drewN | apply Kd.R_drew)); exact HO101.out) hb); have n1_ := Aside0.mk (Kd.R_below (by (with_reducible repeat (first | apply Kd.R_alloc | apply Kd.R_drewN | apply Kd.R_drew)); exact HO102.out) hb); have n2_ := Aside0.mk (Kd.R_below (by (with_reducible repeat (first | apply Kd.R_alloc | apply Kd.R_drewN | apply Kd.R_drew)); exact HO105.out) hb); have n3_ := Aside0.mk (Kd.R_below (by (with_reducible repeat (first | apply Kd.R_alloc | apply Kd.R_drewN | apply Kd.R_drew)); exact HO106.out) hb); have n4_ := Aside0.mk (below_step (by repeat (first | exact HB.out | apply below_alloc | apply pw_below_drewN | apply below_drew1)) hb); clear HO101 HO102 HO105 HO106 HB; have HO101 := n0_; have HO102 := n1_; have HO105 := n2_; have HO106 := n3_; have HB := n4_; clear n0_ n1_ n2_ n3_ n4_; have SZ5 := Aside0.mk sz_; clear sz_ hb) | ((with_reducible refine gate_callee (f := 31) rfl ?_); refine goesL_ (some 58) rfl rfl Try.func31 (by kernel_rfl) rfl #[.slice A0 l0.length c0] rfl (by (try simp only [List.map_toArray, List.map_cons, List.map_nil]); first | done | rfl | (simp only [List.length_drop, List.length_take]; rfl)) ?_; (with_reducible refine (laws_toIntS.calls k _ _ l0 t10 _ ?side1 ?side2 A6_.out).mono ?_); (case side1 => repeat (first | exact (Kd.C_below HR0.out HB.out) | (with_reducible refine Kd.C_alloc ?_ _) | (with_reducible refine Kd.C_drewN ?_ _) | (with_reducible refine Kd.C_drew ?_))); (case side2 => exact HC0.out); rintro e w6_ ⟨v110, rfl, ho110, hb⟩; refine ⟨_, rfl, ?_⟩; have sz_ : w5_.heap.size ≤ w6_.heap.size := hb.size; have n0_ := Aside0.mk (Kd.R_below (by (with_reducible repeat (first | apply Kd.R_alloc | apply Kd.R_drewN | apply Kd.R_drew)); exact HO101.out) hb); have n1_ := Aside0.mk (Kd.R_below (by (with_reducible repeat (first | apply Kd.R_alloc | apply Kd.R_drewN | apply Kd.R_drew)); exact HO102.out) hb); have n2_ := Aside0.mk (Kd.R_below (by (with_reducible repeat (first | apply Kd.R_alloc | apply Kd.R_drewN | apply Kd.R_drew)); exact HO105.out) hb); have n3_ := Aside0.mk (Kd.R_below (by (with_reducible repeat (first | apply Kd.R_alloc | apply Kd.R_drewN | apply Kd.R_drew)); exact HO106.out) hb); have n4_ := Aside0.mk (below_step (by repeat (first | exact HB.out | apply below_alloc | apply pw_below_drewN | apply below_drew1)) hb); have n5_ := Aside0.mk (mineR ho110 (show _ = w5_.heap.size from rfl) (below_size (by repeat (first | exact HB.out | apply below_alloc | apply pw_below_drewN | apply below_drew1)))); clear HO101 HO102 HO105 HO106 HB; have HO101 := n0_; have HO102 := n1_; have HO105 := n2_; have HO106 := n3_; have HB := n4_; have HO110 := n5_; clear n0_ n1_ n2_ n3_ n4_ n5_; have SZ6 := Aside0.mk sz_; clear sz_ hb ho110; obtain ⟨A110, c110, eo110⟩ := Kd.R_slice HO110.out; subst eo110) | ((with_reducible refine gate_callee (f := 33) rfl ?_); refine goesL_ (some 59) rfl rfl Try.func33 (by kernel_rfl) rfl #[.slice A105 t5.length c105, .slice A110 t10.length c110] rfl (by (try simp only [List.map_toArray, List.map_cons, List.map_nil]); first | done | rfl | (simp only [List.length_drop, List.length_take]; rfl)) ?_; (with_reducible refine (laws_eqIntS.calls k _ _ t5 _ _ t10 true _ ?side1 ?side2 ?side3 ?side4 A7_.out).mono ?_); (case side1 => repeat (first | exact (Kd.R_reads' HO105.out).2.2 | (with_reducible refine Kd.C_alloc ?_ _) | (with_reducible refine Kd.C_drewN ?_ _) | (with_reducible refine Kd.C_drew ?_))); (case side2 => exact (Kd.R_reads' HO105.out).2.1); (case side3 => repeat (first | exact (Kd.R_reads' HO110.out).2.2 | (with_reducible refine Kd.C_alloc ?_ _) | (with_reducible refine Kd.C_drewN ?_ _) | (with_reducible refine Kd.C_drew ?_))); (case side4 => exact (Kd.R_reads' HO110.out).2.1); rintro e w7_ ⟨rfl, hb⟩; refine ⟨_, rfl, ?_⟩; replace hb := Drawn0.below hb; have sz_ : w6_.heap.size ≤ w7_.heap.size := hb.size; have n0_ := Aside0.mk (Kd.R_below (by (with_reducible repeat (first | apply Kd.R_alloc | apply Kd.R_drewN | apply Kd.R_drew)); exact HO101.out) hb); have n1_ := Aside0.mk (Kd.R_below (by (with_reducible repeat (first | apply Kd.R_alloc | apply Kd.R_drewN | apply Kd.R_drew)); exact HO102.out) hb); have n2_ := Aside0.mk (Kd.R_below (by (with_reducible repeat (first | apply Kd.R_alloc | apply Kd.R_drewN | apply Kd.R_drew)); exact HO105.out) hb); have n3_ := Aside0.mk (Kd.R_below (by (with_reducible repeat (first | apply Kd.R_alloc | apply Kd.R_drewN | apply Kd.R_drew)); exact HO106.out) hb); have n4_ := Aside0.mk (Kd.R_below (by (with_reducible repeat (first | apply Kd.R_alloc | apply Kd.R_drewN | apply Kd.R_drew)); exact HO110.out) hb); have n5_ := Aside0.mk (below_step (by repeat (first | exact HB.out | apply below_alloc | apply pw_below_drewN | apply below_drew1)) hb); clear HO101 HO102 HO105 HO106 HO110 HB; have HO101 := n0_; have HO102 := n1_; have HO105 := n2_; have HO106 := n3_; have HO110 := n4_; have HB := n5_; clear n0_ n1_ n2_ n3_ n4_ n5_; have SZ7 := Aside0.mk sz_; clear sz_ hb) | ((with_reducible refine gate_callee (f := 34) rfl ?_); refine goesL_ (some 63) rfl rfl Try.func34 (by kernel_rfl) rfl #[.slice A105 t5.length c105, .int .i64 1] rfl (by (try simp only [List.map_toArray, List.map_cons, List.map_nil]); first | done | rfl | (simp only [List.length_drop, List.length_take]; rfl)) ?_; (with_reducible refine (laws_markIntS.calls k (Mine w2_.heap.size w3_ (3 :: ((Kd.int .i64)).E)) _ t5 1 t12 t13 w _ ?sideB ?side1 A8_.out).mono ?_); (case sideB => exact (by repeat (first | exact HB.out | apply below_alloc | apply pw_below_drewN | apply below_drew1))); (case side1 => exact (by (with_reducible repeat (first | apply Kd.R_alloc | apply Kd.R_drewN | apply Kd.R_drew)); exact HO105.out)); rintro e w8_ ⟨rfl, hk105, hb, hkp⟩; refine ⟨_, rfl, ?_⟩; have sz_ : w7_.heap.size ≤ w8_.heap.size := hkp.1; have n0_ := Aside0.mk (Kd.R_kept (by (with_reducible repeat (first | apply Kd.R_alloc | apply Kd.R_drewN | apply Kd.R_drew)); exact HO101.out) hkp (fun k_ h1 => (fun h2 => mine_lt h1 h2 SZ2.out))); have n1_ := Aside0.mk (Kd.R_kept (by (with_reducible repeat (first | apply Kd.R_alloc | apply Kd.R_drewN | apply Kd.R_drew)); exact HO102.out) hkp (fun k_ h1 => (fun h2 => mine_lt h1 h2 (Nat.le_refl _)))); have n2_ := Aside0.mk (Kd.R_kept (by (with_reducible repeat (first | apply Kd.R_alloc | apply Kd.R_drewN | apply Kd.R_drew)); exact HO106.out) hkp (fun k_ h1 => (fun h2 => mine_lt h2 h1 (Nat.le_refl _)))); have n3_ := Aside0.mk (Kd.R_kept (by (with_reducible repeat (first | apply Kd.R_alloc | apply Kd.R_drewN | apply Kd.R_drew)); exact HO110.out) hkp (fun k_ h1 => (fun h2 => mine_lt h2 h1 (Nat.le_trans SZ4.out SZ5.out)))); have n4_ := Aside0.mk (hb); clear HO101 HO102 HO106 HO110 HB; have HO101 := n0_; have HO102 := n1_; have HO106 := n2_; have HO110 := n3_; have HB := n4_; clear n0_ n1_ n2_ n3_ n4_; clear HO105; have SZ8 := Aside0.mk sz_; clear sz_ hb hkp hk105) | (go_at_call 33; (with_reducible refine (laws_eqIntS.calls k _ _ t6 _ _ t2 true _ ?side1 ?side2 ?side3 ?side4 A9_.out).mono ?_); (case side1 => repeat (first | exact (Kd.R_reads' HO106.out).2.2 | (with_reducible refine Kd.C_alloc ?_ _) | (with_reducible refine Kd.C_drewN ?_ _) | (with_reducible refine Kd.C_drew ?_))); (case side2 => exact (Kd.R_reads' HO106.out).2.1); (case side3 => repeat (first | exact (Kd.R_reads' HO102.out).2.2 | (with_reducible refine Kd.C_alloc ?_ _) | (with_reducible refine Kd.C_drewN ?_ _) | (with_reducible refine Kd.C_drew ?_))); (case side4 => exact (Kd.R_reads' HO102.out).2.1); rintro e w9_ ⟨rfl, hb⟩; replace hb := Drawn0.below hb; have sz_ : w8_.heap.size ≤ w9_.heap.size := hb.size; have n0_ := Aside0.mk (Kd.R_below (by (with_reducible repeat (first | apply Kd.R_alloc | apply Kd.R_drewN | apply Kd.R_drew)); exact HO101.out) hb); have n1_ := Aside0.mk (Kd.R_below (by (with_reducible repeat (first | apply Kd.R_alloc | apply Kd.R_drewN | apply Kd.R_drew)); exact HO102.out) hb); have n2_ := Aside0.mk (Kd.R_below (by (with_reducible repeat (first | apply Kd.R_alloc | apply Kd.R_drewN | apply Kd.R_drew)); exact HO106.out) hb); have n3_ := Aside0.mk (Kd.R_below (by (with_reducible repeat (first | apply Kd.R_alloc | apply Kd.R_drewN | apply Kd.R_drew)); exact HO110.out) hb); have n4_ := Aside0.mk (below_step (by repeat (first | exact HB.out | apply below_alloc | apply pw_below_drewN | apply below_drew1)) hb); clear HO101 HO102 HO106 HO110 HB; have HO101 := n0_; have HO102 := n1_; have HO106 := n2_; have HO110 := n3_; have HB := n4_; clear n0_ n1_ n2_ n3_ n4_; have SZ9 := Aside0.mk sz_; clear sz_ hb) | ((with_reducible refine gate_callee (f := 34) rfl ?_); refine goesL_ (some 84) rfl rfl Try.func34 (by kernel_rfl) rfl #[.slice A106 t6.length c106, .int .i64 1] rfl (by (try simp only [List.map_toArray, List.map_cons, List.map_nil]); first | done | rfl | (simp only [List.length_drop, List.length_take]; rfl)) ?_; (with_reducible refine (laws_markIntS.calls k (Mine w3_.heap.size w4_ (3 :: ((Kd.int .i64)).E)) _ t6 1 t15 t16 w _ ?sideB ?side1 A10_.out).mono ?_); (case sideB => exact (by repeat (first | exact HB.out | apply below_alloc | apply pw_below_drewN | apply below_drew1))); (case side1 => exact (by (with_reducible repeat (first | apply Kd.R_alloc | apply Kd.R_drewN | apply Kd.R_drew)); exact HO106.out)); rintro e w10_ ⟨rfl, hk106, hb, hkp⟩; refine ⟨_, rfl, ?_⟩; have sz_ : w9_.heap.size ≤ w10_.heap.size := hkp.1; have n0_ := Aside0.mk (Kd.R_kept (by (with_reducible repeat (first | apply Kd.R_alloc | apply Kd.R_drewN | apply Kd.R_drew)); exact HO101.out) hkp (fun k_ h1 => (fun h2 => mine_lt h1 h2 (Nat.le_trans SZ2.out SZ3.out)))); have n1_ := Aside0.mk (Kd.R_kept (by (with_reducible repeat (first | apply Kd.R_alloc | apply Kd.R_drewN | apply Kd.R_drew)); exact HO102.out) hkp (fun k_ h1 => (fun h2 => mine_lt h1 h2 SZ3.out))); have n2_ := Aside0.mk (Kd.R_kept (by (with_reducible repeat (first | apply Kd.R_alloc | apply Kd.R_drewN | apply Kd.R_drew)); exact HO110.out) hkp (fun k_ h1 => (fun h2 => mine_lt h2 h1 SZ5.out))); have n3_ := Aside0.mk (Kd.R_mono (ok' := fun _ => True) hk106 (fun _ _ => trivial)); have n4_ := Aside0.mk (hb); clear HO101 HO102 HO110 HO106 HB; have HO101 := n0_; have HO102 := n1_; have HO110 := n2_; have HO106 := n3_; have HB := n4_; clear n0_ n1_ n2_ n3_ n4_; have SZ10 := Aside0.mk sz_; clear sz_ hb hkp hk106; have hl106 : t6.length = t16.length := (Kd.R_reads' HO106.out).1; rw [hl106] at HO106 ; (try rw [hl106]); clear hl106) | ((with_reducible refine gate_callee (f := 35) rfl ?_); refine goesL_ (some 87) rfl rfl Try.func35 (by kernel_rfl) rfl #[.slice A106 t16.length c106, .int .i64 1] rfl (by (try simp only [List.map_toArray, List.map_cons, List.map_nil]); first | done | rfl | (simp only [List.length_drop, List.length_take]; rfl)) ?_; (with_reducible refine (laws_heldIntS.calls k _ _ t16 1 t17 _ ?side1 ?side2 A11_.out).mono ?_); (case side1 => repeat (first | exact (Kd.R_reads' HO106.out).2.2 | (with_reducible refine Kd.C_alloc ?_ _) | (with_reducible refine Kd.C_drewN ?_ _) | (with_reducible refine Kd.C_drew ?_))); (case side2 => exact (Kd.R_reads' HO106.out).2.1); rintro e w11_ ⟨rfl, hb⟩; refine ⟨_, rfl, ?_⟩; replace hb := Drawn0.below hb; have sz_ : w10_.heap.size ≤ w11_.heap.size := hb.size; have n0_ := Aside0.mk (Kd.R_below (by (with_reducible repeat (first | apply Kd.R_alloc | apply Kd.R_drewN | apply Kd.R_drew)); exact HO101.out) hb); have n1_ := Aside0.mk (Kd.R_below (by (with_reducible repeat (first | apply Kd.R_alloc | apply Kd.R_drewN | apply Kd.R_drew)); exact HO102.out) hb); have n2_ := Aside0.mk (Kd.R_below (by (with_reducible repeat (first | apply Kd.R_alloc | apply Kd.R_drewN | apply Kd.R_drew)); exact HO106.out) hb); have n3_ := Aside0.mk (Kd.R_below (by (with_reducible repeat (first | apply Kd.R_alloc | apply Kd.R_drewN | apply Kd.R_drew)); exact HO110.out) hb); have n4_ := Aside0.mk (below_step (by repeat (first | exact HB.out | apply below_alloc | apply pw_below_drewN | apply below_drew1)) hb); clear HO101 HO102 HO106 HO110 HB; have HO101 := n0_; have HO102 := n1_; have HO106 := n2_; have HO110 := n3_; have HB := n4_; clear n0_ n1_ n2_ n3_ n4_; have SZ11 := Aside0.mk sz_; clear sz_ hb) | ((with_reducible refine gate_callee (f := 31) rfl ?_); refine goesL_ (some 95) rfl rfl Try.func31 (by kernel_rfl) rfl #[.slice A0 l0.length c0] rfl (by (try simp only [List.map_toArray, List.map_cons, List.map_nil]); first | done | rfl | (simp only [List.length_drop, List.length_take]; rfl)) ?_; (with_reducible refine (laws_toIntS.calls k _ _ l0 t18 _ ?side1 ?side2 A12_.out).mono ?_); (case side1 => repeat (first | exact (Kd.C_below HR0.out HB.out) | (with_reducible refine Kd.C_alloc ?_ _) | (with_reducible refine Kd.C_drewN ?_ _) | (with_reducible refine Kd.C_drew ?_))); (case side2 => exact HC0.out); rintro e w12_ ⟨v118, rfl, ho118, hb⟩; refine ⟨_, rfl, ?_⟩; have sz_ : w11_.heap.size ≤ w12_.heap.size := hb.size; have n0_ := Aside0.mk (Kd.R_below (by (with_reducible repeat (first | apply Kd.R_alloc | apply Kd.R_drewN | apply Kd.R_drew)); exact HO101.out) hb); have n1_ := Aside0.mk (Kd.R_below (by (with_reducible repeat (first | apply Kd.R_alloc | apply Kd.R_drewN | apply Kd.R_drew)); exact HO102.out) hb); have n2_ := Aside0.mk (Kd.R_below (by (with_reducible repeat (first | apply Kd.R_alloc | apply Kd.R_drewN | apply Kd.R_drew)); exact HO106.out) hb); have n3_ := Aside0.mk (Kd.R_below (by (with_reducible repeat (first | apply Kd.R_alloc | apply Kd.R_drewN | apply Kd.R_drew)); exact HO110.out) hb); have n4_ := Aside0.mk (below_step (by repeat (first | exact HB.out | apply below_alloc | apply pw_below_drewN | apply below_drew1)) hb); have n5_ := Aside0.mk (mineR ho118 (show _ = w11_.heap.size from rfl) (below_size (by repeat (first | exact HB.out | apply below_alloc | apply pw_below_drewN | apply below_drew1)))); clear HO101 HO102 HO106 HO110 HB; have HO101 := n0_; have HO102 := n1_; have HO106 := n2_; have HO110 := n3_; have HB := n4_; have HO118 := n5_; clear n0_ n1_ n2_ n3_ n4_ n5_; have SZ12 := Aside0.mk sz_; clear sz_ hb ho118; obtain ⟨A118, c118, eo118⟩ := Kd.R_slice HO118.out; subst eo118) | ((with_reducible refine gate_callee (f := 32) rfl ?_); refine goesL_ (some 98) rfl rfl Try.func32 (by kernel_rfl) rfl #[.slice A118 t18.length c118, .int .i64 a1, .int .i64 a2] rfl (by (try simp only [List.map_toArray, List.map_cons, List.map_nil]); first | done | rfl | (simp only [List.length_drop, List.length_take]; rfl)) ?_; (with_reducible refine (impl_KeepBlock.calls k _ _ t18 a1 a2 t19 t20 t21 _ ?side1 ?side2 A13_.out).mono ?_); (case side1 => repeat (first | exact (Kd.R_reads' HO118.out).2.2 | (with_reducible refine Kd.C_alloc ?_ _) | (with_reducible refine Kd.C_drewN ?_ _) | (with_reducible refine Kd.C_drew ?_))); (case side2 => exact (Kd.R_reads' HO118.out).2.1); rintro e w13_ ⟨v119, rfl, ho119, hb⟩; refine ⟨_, rfl, ?_⟩; have sz_ : w12_.heap.size ≤ w13_.heap.size := hb.size; have n0_ := Aside0.mk (Kd.R_below (by (with_reducible repeat (first | apply Kd.R_alloc | apply Kd.R_drewN | apply Kd.R_drew)); exact HO101.out) hb); have n1_ := Aside0.mk (Kd.R_below (by (with_reducible repeat (first | apply Kd.R_alloc | apply Kd.R_drewN | apply Kd.R_drew)); exact HO102.out) hb); have n2_ := Aside0.mk (Kd.R_below (by (with_reducible repeat (first | apply Kd.R_alloc | apply Kd.R_drewN | apply Kd.R_drew)); exact HO106.out) hb); have n3_ := Aside0.mk (Kd.R_below (by (with_reducible repeat (first | apply Kd.R_alloc | apply Kd.R_drewN | apply Kd.R_drew)); exact HO110.out) hb); have n4_ := Aside0.mk (Kd.R_below (by (with_reducible repeat (first | apply Kd.R_alloc | apply Kd.R_drewN | apply Kd.R_drew)); exact HO118.out) hb); have n5_ := Aside0.mk (below_step (by repeat (first | exact HB.out | apply below_alloc | apply pw_below_drewN | apply below_drew1)) hb); have n6_ := Aside0.mk (mineR ho119 (show _ = w12_.heap.size from rfl) (below_size (by repeat (first | exact HB.out | apply below_alloc | apply pw_below_drewN | apply below_drew1)))); clear HO101 HO102 HO106 HO110 HO118 HB; have HO101 := n0_; have HO102 := n1_; have HO106 := n2_; have HO110 := n3_; have HO118 := n4_; have HB := n5_; have HO119 := n6_; clear n0_ n1_ n2_ n3_ n4_ n5_ n6_; have SZ13 := Aside0.mk sz_; clear sz_ hb ho119; obtain ⟨A119, c119, eo119⟩ := Kd.R_slice HO119.out; subst eo119) | ((with_reducible refine gate_callee (f := 33) rfl ?_); refine goesL_ (some 104) rfl rfl Try.func33 (by kernel_rfl) rfl #[.slice A119 t19.length c119, .slice A102 t2.length c102] rfl (by (try simp only [List.map_toArray, List.map_cons, List.map_nil]); first | done | rfl | (simp only [List.length_drop, List.length_take]; rfl)) ?_; (with_reducible refine (laws_eqIntS.calls k _ _ t19 _ _ t2 true _ ?side1 ?side2 ?side3 ?side4 A14_.out).mono ?_); (case side1 => repeat (first | exact (Kd.R_reads' HO119.out).2.2 | (with_reducible refine Kd.C_alloc ?_ _) | (with_reducible refine Kd.C_drewN ?_ _) | (with_reducible refine Kd.C_drew ?_))); (case side2 => exact (Kd.R_reads' HO119.out).2.1); (case side3 => repeat (first | exact (Kd.R_reads' HO102.out).2.2 | (with_reducible refine Kd.C_alloc ?_ _) | (with_reducible refine Kd.C_drewN ?_ _) | (with_reducible refine Kd.C_drew ?_))); (case side4 => exact (Kd.R_reads' HO102.out).2.1); rintro e w14_ ⟨rfl, hb⟩; refine ⟨_, rfl, ?_⟩; replace hb := Drawn0.below hb; have sz_ : w13_.heap.size ≤ w14_.heap.size := hb.size; have n0_ := Aside0.mk (Kd.R_below (by (with_reducible repeat (first | apply Kd.R_alloc | apply Kd.R_drewN | apply Kd.R_drew)); exact HO101.out) hb); have n1_ := Aside0.mk (Kd.R_below (by (with_reducible repeat (first | apply Kd.R_alloc | apply Kd.R_drewN | apply Kd.R_drew)); exact HO102.out) hb); have n2_ := Aside0.mk (Kd.R_below (by (with_reducible repeat (first | apply Kd.R_alloc | apply Kd.R_drewN | apply Kd.R_drew)); exact HO106.out) hb); have n3_ := Aside0.mk (Kd.R_below (by (with_reducible repeat (first | apply Kd.R_alloc | apply Kd.R_drewN | apply Kd.R_drew)); exact HO110.out) hb); have n4_ := Aside0.mk (Kd.R_below (by (with_reducible repeat (first | apply Kd.R_alloc | apply Kd.R_drewN | apply Kd.R_drew)); exact HO118.out) hb); have n5_ := Aside0.mk (Kd.R_below (by (with_reducible repeat (first | apply Kd.R_alloc | apply Kd.R_drewN | apply Kd.R_drew)); exact HO119.out) hb); have n6_ := Aside0.mk (below_step (by repeat (first | exact HB.out | apply below_alloc | apply pw_below_drewN | apply below_drew1)) hb); clear HO101 HO102 HO106 HO110 HO118 HO119 HB; have HO101 := n0_; have HO102 := n1_; have HO106 := n2_; have HO110 := n3_; have HO118 := n4_; have HO119 := n5_; have HB := n6_; clear n0_ n1_ n2_ n3_ n4_ n5_ n6_; have SZ14 := Aside0.mk sz_; clear sz_ hb) | ((with_reducible refine gate_callee (f := 35) rfl ?_); refine goesL_ (some 118) rfl rfl Try.func35 (by kernel_rfl) rfl #[.slice A106 t16.length c106, .int .i64 1] rfl (by (try simp only [List.map_toArray, List.map_cons, List.map_nil]); first | done | rfl | (simp only [List.length_drop, List.length_take]; rfl)) ?_; (with_reducible refine (laws_heldIntS.calls k _ _ t16 1 t23 _ ?side1 ?side2 A15_.out).mono ?_); (case side1 => repeat (first | exact (Kd.R_reads' HO106.out).2.2 | (with_reducible refine Kd.C_alloc ?_ _) | (with_reducible refine Kd.C_drewN ?_ _) | (with_reducible refine Kd.C_drew ?_))); (case side2 => exact (Kd.R_reads' HO106.out).2.1); rintro e w15_ ⟨rfl, hb⟩; refine ⟨_, rfl, ?_⟩; replace hb := Drawn0.below hb; have sz_ : w14_.heap.size ≤ w15_.heap.size := hb.size; have n0_ := Aside0.mk (Kd.R_below (by (with_reducible repeat (first | apply Kd.R_alloc | apply Kd.R_drewN | apply Kd.R_drew)); exact HO101.out) hb); have n1_ := Aside0.mk (Kd.R_below (by (with_reducible repeat (first | apply Kd.R_alloc | apply Kd.R_drewN | apply Kd.R_drew)); exact HO102.out) hb); have n2_ := Aside0.mk (Kd.R_below (by (with_reducible repeat (first | apply Kd.R_alloc | apply Kd.R_drewN | apply Kd.R_drew)); exact HO106.out) hb); have n3_ := Aside0.mk (Kd.R_below (by (with_reducible repeat (first | apply Kd.R_alloc | apply Kd.R_drewN | apply Kd.R_drew)); exact HO110.out) hb); have n4_ := Aside0.mk (Kd.R_below (by (with_reducible repeat (first | apply Kd.R_alloc | apply Kd.R_drewN | apply Kd.R_drew)); exact HO118.out) hb); have n5_ := Aside0.mk (Kd.R_below (by (with_reducible repeat (first | apply Kd.R_alloc | apply Kd.R_drewN | apply Kd.R_drew)); exact HO119.out) hb); have n6_ := Aside0.mk (below_step (by repeat (first | exact HB.out | apply below_alloc | apply pw_below_drewN | apply below_drew1)) hb); clear HO101 HO102 HO106 HO110 HO118 HO119 HB; have HO101 := n0_; have HO102 := n1_; have HO106 := n2_; have HO110 := n3_; have HO118 := n4_; have HO119 := n5_; have HB := n6_; clear n0_ n1_ n2_ n3_ n4_ n5_ n6_; have SZ15 := Aside0.mk sz_; clear sz_ hb))
    go_ret
    exact ⟨by first | rfl | (simp; done), (by repeat (first | exact HB.out | apply below_alloc | apply pw_below_drewN | apply below_drew1))⟩
  · rw [if_neg hcond] at h
    cases h

/-- THE ONE PURE STATEMENT of laws_FnExactKeepBlock. -/
def laws_FnExactKeepBlock.Pure : Prop := ∀ (l0 : List Int) (a1 : Int) (a2 : Int), (l0.length ≤ maxLen ∧ ∀ x ∈ l0, (Lit.int .i64 x).wf = true) → (Lit.int .i64 a1).wf = true → (Lit.int .i64 a2).wf = true → ∃ k, laws_FnExactKeepBlock.f k l0 a1 a2 = some true

end Go.Proofs.Ytadkabbeghpgcaa.PFnExactKeepBlock
