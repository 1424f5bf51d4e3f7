-- Written for this claim by a program of this session: a scratch copy of the kit's print with patches of this session.
import Derived.Test.YtodblpadklheaaaDoorPFnExactKeyBytesx0
import Derived.Test.YtodblpadklheaaaDoorPFnExactKeyBytesx1
import Derived.Test.YtodblpadklheaaaDoorPFnExactKeyBytesx2
import Derived.Test.YtodblpadklheaaaDoorPFnExactKeyBytesx4
import Derived.Test.YtodblpadklheaaaDoorPFnExactKeyBytesx5
namespace Go.Proofs.YtodblpadklheaaaDoor.PFnExactKeyBytes
open Go.RowKit Go.Proofs.YtodblpadklheaaaDoorW.PrintWords Go.Proofs.YtodblpadklheaaaDoorW.PrintLast Go.Proofs.YtodblpadklheaaaDoorW.PrintMore
attribute [local go_sem] max2_int min2_int max_two min_two max_three min_three max_four min_four hw_string_geq hw_string_gtr hw_string_leq   -- for this text's walks alone
set_option linter.unusedVariables false
set_option linter.unusedSimpArgs false

/-! ### laws_heldByteS: function 15 -/
def laws_heldByteS.l0 : Nat → List Int → Int → Int → Option (Int)
  | 0, _, _, _ => none
  | k + 1, x0, x1, x5 => if x5 < (x0.length : Int) then (if 0 ≤ x5 then (if (rd x0 x5) = ((x1) % 256) then (laws_heldByteS.l0 k x0 (wrap64 (x1 + 1)) (wrap64 (x5 + 1))) else (some (-1))) else (none)) else (some x1)
def laws_heldByteS.f (k : Nat) (l0 : List Int) (a1 : Int) : Option (Int) := laws_heldByteS.l0 k l0 a1 0
theorem laws_heldByteS.mono_l : ∀ k, (∀ y0 y1 y2, LeO (laws_heldByteS.l0 k y0 y1 y2) (laws_heldByteS.l0 (k + 1) y0 y1 y2))
  | 0 => fun _ _ _ r h => by simp [laws_heldByteS.l0] at h
  | k + 1 => by
    have ih0 := laws_heldByteS.mono_l k
    · intro y0 y1 y2
      unfold laws_heldByteS.l0
      repeat' first
      | (with_reducible exact ih0 _ _ _)
      | (with_reducible exact LeO.refl _)
      | (with_reducible exact LeO.none _)
      | (with_reducible refine LeO.ite ?_ ?_)
      | (with_reducible refine LeO.bind ?_ (fun _ => ?_))
      | exact ih0 _ _ _
      | exact LeO.none _
      | refine LeO.ite ?_ ?_
      | refine LeO.bind ?_ (fun _ => ?_)
theorem laws_heldByteS.mono : ∀ a0 a1 k, LeO (laws_heldByteS.f k a0 a1) (laws_heldByteS.f (k + 1) a0 a1) := by
  intro a0 a1 k
  have ih0 := laws_heldByteS.mono_l k
  unfold laws_heldByteS.f
  repeat' first
      | (with_reducible exact ih0 _ _ _)
      | (with_reducible exact LeO.refl _)
      | (with_reducible exact LeO.none _)
      | (with_reducible refine LeO.ite ?_ ?_)
      | (with_reducible refine LeO.bind ?_ (fun _ => ?_))
      | exact ih0 _ _ _
      | exact LeO.none _
      | refine LeO.ite ?_ ?_
      | refine LeO.bind ?_ (fun _ => ?_)
set_option maxHeartbeats 8000000 in
set_option maxRecDepth 100000 in
theorem laws_heldByteS.calls (k : Nat) (A0 : Option Addr) (c0 : Nat) (l0 : List Int) (a1 : Int) (r : Int) (w : World) (hr0 : Kd.C (Kd.int .u8) w A0 l0.length l0) (hc0 : l0.length ≤ c0) (h : laws_heldByteS.f k l0 a1 = some r) :
    Calls Tryd.prog 15 #[.slice A0 l0.length c0, .int .i64 a1] w fun e w' => e = .returned (.int .i64 r) ∧ Drawn0 w w' := by
  have HR0 := Aside0.mk hr0
  have HC0 := Aside0.mk hc0
  clear hr0 hc0
  have H : (laws_heldByteS.l0 k l0 a1 0) = some r := h
  clear h
  have H' := Aside0.mk H
  clear H
  go_enter Tryd.func15, Tryd.ntmps15
  go_wp2
  go_loopg [1, 5] k (fun kq v1 v5 w' => ∃ (x1_1 : Int) (x5_1 : Int), v1 = .int .i64 x1_1 ∧ v5 = .int .i64 x5_1 ∧ Aside0 (laws_heldByteS.l0 kq l0 x1_1 x5_1 = some r) ∧ Aside0 (kq ≤ k) ∧ Drawn0 w w')
  case atStart => exact ⟨(a1), (0), (by first | rfl | (simp; done) | (simp [*]; done)), (by first | rfl | (simp; done) | (simp [*]; done)), H', ⟨Nat.le_refl _⟩, by repeat (first | exact Drawn0.refl _ | apply Drawn0.step)⟩
  case round =>
    clear H'
    try clear c1
    try clear p2
    obtain ⟨x1_1, x5_1, rfl, rfl, HA, HK1, ⟨m1, rfl⟩⟩ := hrel
    cases gk with
    | zero => exact absurd HA.out (by simp [laws_heldByteS.l0])
    | succ k1 =>
      have H := HA.out
      clear HA
      simp only [laws_heldByteS.l0] at H
      by_cases c3 : x5_1 < (l0.length : Int)
      · rw [if_pos c3] at H
        have c3b0 : decide (x5_1 < (l0.length : Int)) = true := decide_eq_true c3
        clear c3
        by_cases c4 : 0 ≤ x5_1
        · rw [if_pos c4] at H
          have c4b0 : decide (0 ≤ x5_1) = true := decide_eq_true c4
          clear c4
          by_cases c5 : (rd l0 x5_1) = ((x1_1) % 256)
          · rw [if_pos c5] at H
            have c5b0 : ((rd l0 x5_1) == ((x1_1) % 256)) = true := beq_iff_eq.mpr c5
            have c5b1 : ((rd l0 x5_1) != ((x1_1) % 256)) = false := bne_eq_false_iff_eq.mpr c5
            clear c5
            have H' := Aside0.mk H
            clear H
            have p175 : 0 ≤ (x5_1 : Int) := of_decide_eq_true (by first | (with_reducible assumption) | assumption)
            have q175 : x5_1 < (l0.length : Int) := of_decide_eq_true (by first | (with_reducible assumption) | assumption)
            obtain ⟨ad175, e175, hx175_0⟩ := Kd.at_int HR0.out x5_1 p175 q175
            cases e175
            replace p175 := eq_true p175
            replace q175 := eq_true q175
            go_wp2
            go_roundg k1
            case measure => have := HK1.out; omega
            case rel => exact ⟨(wrap64 (x1_1 + 1)), (wrap64 (x5_1 + 1)), (by first | rfl | (simp; done) | (simp [*]; done)), (by first | rfl | (simp; done) | (simp [*]; done)), H', ⟨by have := HK1.out; omega⟩, by repeat (first | exact Drawn0.refl _ | apply Drawn0.step)⟩
          · rw [if_neg c5] at H
            have c5b0 : ((rd l0 x5_1) == ((x1_1) % 256)) = false := beq_eq_false_iff_ne.mpr c5
            have c5b1 : ((rd l0 x5_1) != ((x1_1) % 256)) = true := bne_iff_ne.mpr c5
            obtain rfl := Option.some.inj H
            have p175 : 0 ≤ (x5_1 : Int) := of_decide_eq_true (by first | (with_reducible assumption) | assumption)
            have q175 : x5_1 < (l0.length : Int) := of_decide_eq_true (by first | (with_reducible assumption) | assumption)
            obtain ⟨ad175, e175, hx175_0⟩ := Kd.at_int HR0.out x5_1 p175 q175
            cases e175
            replace p175 := eq_true p175
            replace q175 := eq_true q175
            go_wp2
            go_ret
            exact ⟨by first | rfl | (simp; done) | (simp [*]; done), by repeat (first | exact Drawn0.refl _ | apply Drawn0.step)⟩
        · rw [if_neg c4] at H
          exact absurd H (by simp)
      · rw [if_neg c3] at H
        have c3b0 : decide (x5_1 < (l0.length : Int)) = false := decide_eq_false c3
        clear c3
        obtain rfl := Option.some.inj H
        go_wp2
        go_ret
        exact ⟨by first | rfl | (simp; done) | (simp [*]; done), by repeat (first | exact Drawn0.refl _ | apply Drawn0.step)⟩

/-! ### laws_FnExactKeyBytes: function 3, a law by hand -/
def laws_FnExactKeyBytes.f (k : Nat) (a0_0 : ByteArray) (l0_1 : List (S104)) (a0_2 : Int) : Option (Bool) := (laws_szKey.f k a0_0 l0_1 a0_2 1048576).bind fun t1 => if t1 < 0 then some true else (laws_toKey.f k a0_0 l0_1 a0_2).bind fun bt2 => (spec_KeyBytes.f k bt2.1 bt2.2.1 bt2.2.2).bind fun bt5 => (laws_toKey.f k a0_0 l0_1 a0_2).bind fun bt7 => (impl_KeyBytes.f k bt7.1 bt7.2.1 bt7.2.2).bind fun bt10 => (laws_eqByteS.f k bt10.1 bt5.1).bind fun t12 => (laws_toKey.f k a0_0 l0_1 a0_2).bind fun bt13 => (laws_eqKey.f k bt7.1 bt7.2.1 bt7.2.2 bt13.1 bt13.2.1 bt13.2.2).bind fun t16 => (laws_markKey.f k bt7.1 bt7.2.1 bt7.2.2 1).bind fun bt17 => (laws_eqByteS.f k bt10.1 bt5.1).bind fun t19 => (laws_markByteS.f k bt10.1 1).bind fun bt20 => (laws_heldByteS.f k bt20.2 1).bind fun t22 => (laws_toKey.f k a0_0 l0_1 a0_2).bind fun bt23 => (impl_KeyBytes.f k bt23.1 bt23.2.1 bt23.2.2).bind fun bt26 => (laws_eqByteS.f k bt26.1 bt5.1).bind fun t28 => (laws_heldByteS.f k bt20.2 1).bind fun t29 => if t12 = true ∧ bt10.2 = bt5.2 ∧ t16 = true ∧ ¬ bt17.1 < 0 ∧ t19 = true ∧ bt10.2 = bt5.2 ∧ ¬ t22 < 0 ∧ t22 = bt20.1 ∧ t28 = true ∧ bt26.2 = bt5.2 ∧ ¬ t29 < 0 ∧ t29 = bt20.1 then some true else none
theorem laws_FnExactKeyBytes.mono : ∀ a0 a1 a2 k, LeO (laws_FnExactKeyBytes.f k a0 a1 a2) (laws_FnExactKeyBytes.f (k + 1) a0 a1 a2) := by
  intro a0 a1 a2 k
  unfold laws_FnExactKeyBytes.f
  repeat' first
      | (with_reducible exact impl_KeyBytes.mono _ _ _ _)
      | (with_reducible exact laws_eqByteS.mono _ _ _)
      | (with_reducible exact laws_eqKey.mono _ _ _ _ _ _ _)
      | (with_reducible exact laws_heldByteS.mono _ _ _)
      | (with_reducible exact laws_markByteS.mono _ _ _)
      | (with_reducible exact laws_markKey.mono _ _ _ _ _)
      | (with_reducible exact laws_szKey.mono _ _ _ _ _)
      | (with_reducible exact laws_toKey.mono _ _ _ _)
      | (with_reducible exact spec_KeyBytes.mono _ _ _ _)
      | (with_reducible exact LeO.refl _)
      | (with_reducible exact LeO.none _)
      | (with_reducible refine LeO.ite ?_ ?_)
      | (with_reducible refine LeO.bind ?_ (fun _ => ?_))
      | exact impl_KeyBytes.mono _ _ _ _
      | exact laws_eqByteS.mono _ _ _
      | exact laws_eqKey.mono _ _ _ _ _ _ _
      | exact laws_heldByteS.mono _ _ _
      | exact laws_markByteS.mono _ _ _
      | exact laws_markKey.mono _ _ _ _ _
      | exact laws_szKey.mono _ _ _ _ _
      | exact laws_toKey.mono _ _ _ _
      | exact spec_KeyBytes.mono _ _ _ _
      | exact LeO.none _
      | refine LeO.ite ?_ ?_
      | refine LeO.bind ?_ (fun _ => ?_)
set_option maxHeartbeats 16000000 in
set_option maxRecDepth 100000 in
theorem laws_FnExactKeyBytes.calls (k : Nat) (a0_0 : ByteArray) (A0_1 : Option Addr) (c0_1 : Nat) (l0_1 : List (S104)) (a0_2 : Int) (r : Bool) (w : World) (hr0_1 : Kd.C k104 w A0_1 l0_1.length l0_1) (hc0_1 : l0_1.length ≤ c0_1) (h : laws_FnExactKeyBytes.f k a0_0 l0_1 a0_2 = some r) :
    Calls Tryd.prog 3 #[.agg #[.string a0_0, .slice A0_1 l0_1.length c0_1, .int .i64 a0_2]] w fun e w' => e = .returned (.bool r) ∧ Below w.heap.size w w' := by
  have hu24 := Tryd.underlying24
  have hu31 := Tryd.underlying31
  have HR0_1 := Aside0.mk hr0_1
  have HC0_1 := Aside0.mk hc0_1
  clear hr0_1 hc0_1
  have HB := Aside0.mk (Below.refl w.heap.size w)
  unfold laws_FnExactKeyBytes.f at h
  replace h := Option.bind_eq_some_iff.mp h
  obtain ⟨t1, hA1, h⟩ := h
  have A1_ := Aside0.mk (show laws_szKey.f k a0_0 l0_1 a0_2 1048576 = some t1 from hA1)
  clear hA1
  try dsimp only at h
  by_cases hl1 : t1 < 0
  · rw [if_pos hl1] at h
    have hlb1 := decide_eq_true hl1
    clear hl1
    obtain rfl := Option.some.inj h
    clear h
    go_enter Tryd.func3, Tryd.ntmps3
    go_wp2_with (first | ((with_reducible refine gate_dst (N := 1) rfl ?_); refine box_event ?hg (N := 1) ?hd (cs := #[.string a0_0, .slice A0_1 l0_1.length c0_1, .int .i64 a0_2]) (t := 24) ?hr ?_; (case hd => rfl); (case hg => rfl); (case hr => first | (go_simp; done) | (go_simp; rfl)); intro g1_ hg w1_ hbox hb; have n0_ := Aside0.mk (below_step (by repeat (first | exact HB.out | apply below_alloc | apply pw_below_drewN | apply below_drew1)) hb); clear HB; have HB := n0_; clear n0_; have SZ1 := Aside0.mk (show w.heap.size ≤ w1_.heap.size from hb.size); have BK1 := Aside0.mk hbox; have GB1 := Aside0.mk (show g1_ = w.heap.size from hg); have GL1 := Aside0.mk (blk_lt hbox); have GE1 := Aside0.mk (show w.heap.size ≤ g1_ from (by rw [GB1.out]; exact (Nat.le_refl _))); clear hb hbox hg; have hc1_1_0 : w1_.cell? ⟨g1_, 0, none⟩ = some (.string a0_0) := (blk_cell BK1.out 0).trans rfl; have hc1_1_1 : w1_.cell? ⟨g1_, 1, none⟩ = some (.slice A0_1 l0_1.length c0_1) := (blk_cell BK1.out 1).trans rfl; have hc1_1_2 : w1_.cell? ⟨g1_, 2, none⟩ = some (.int .i64 a0_2) := (blk_cell BK1.out 2).trans rfl; have hf1_1_0 := blk_frozen BK1.out 0; have hf1_1_1 := blk_frozen BK1.out 1; have hf1_1_2 := blk_frozen BK1.out 2) | ((with_reducible refine gate_callee (f := 7) rfl ?_); refine goesL_ (some 16) rfl rfl Tryd.func7 (by kernel_rfl) rfl #[.agg #[.string a0_0, .slice A0_1 l0_1.length c0_1, .int .i64 a0_2], .int .i64 1048576] rfl (by (try simp only [List.map_toArray, List.map_cons, List.map_nil]); first | done | rfl | (simp only [List.length_drop, List.length_take]; rfl)) ?_; (with_reducible refine (laws_szKey.calls k a0_0 _ _ l0_1 a0_2 1048576 t1 _ ?side1 ?side2 A1_.out).mono ?_); (case side1 => repeat (first | exact (Kd.C_below HR0_1.out HB.out) | (with_reducible refine Kd.C_alloc ?_ _) | (with_reducible refine Kd.C_drewN ?_ _) | (with_reducible refine Kd.C_drew ?_))); (case side2 => exact HC0_1.out); rintro e w2_ ⟨rfl, hb⟩; refine ⟨_, rfl, ?_⟩; have sz_ : w1_.heap.size ≤ w2_.heap.size := hb.size; (try clear hc1_1_0); (try clear hc1_1_1); (try clear hc1_1_2); (try clear hf1_1_0); (try clear hf1_1_1); (try clear hf1_1_2); have n0_ := Aside0.mk (blk_below (g := g1_) (o := .cells #[.string a0_0, .slice A0_1 l0_1.length c0_1, .int .i64 a0_2] 24 (0, 0)) (by (with_reducible repeat (first | refine blk_drewN ?_ _ | refine blk_drew ?_ | refine blk_alloc ?_ _)); exact BK1.out) hb); have n1_ := Aside0.mk (below_step (by repeat (first | exact HB.out | apply below_alloc | apply pw_below_drewN | apply below_drew1)) hb); clear HB; have BK1 := n0_; have HB := n1_; clear n0_ n1_; have SZ2 := Aside0.mk sz_; clear sz_ hb ; have hc2_1_0 : w2_.cell? ⟨g1_, 0, none⟩ = some (.string a0_0) := (blk_cell BK1.out 0).trans rfl; have hc2_1_1 : w2_.cell? ⟨g1_, 1, none⟩ = some (.slice A0_1 l0_1.length c0_1) := (blk_cell BK1.out 1).trans rfl; have hc2_1_2 : w2_.cell? ⟨g1_, 2, none⟩ = some (.int .i64 a0_2) := (blk_cell BK1.out 2).trans rfl))
    go_ret
    exact ⟨by first | rfl | (simp; done), (by repeat (first | exact HB.out | apply below_alloc | apply pw_below_drewN | apply below_drew1))⟩
  rw [if_neg hl1] at h
  have hlb1 := decide_eq_false hl1
  clear hl1
  replace h := Option.bind_eq_some_iff.mp h
  obtain ⟨⟨t2, t3, t4⟩, hA2, h⟩ := h
  have A2_ := Aside0.mk (show laws_toKey.f k a0_0 l0_1 a0_2 = some (t2, t3, t4) from hA2)
  clear hA2
  try dsimp only at h
  replace h := Option.bind_eq_some_iff.mp h
  obtain ⟨⟨t5, t6⟩, hA3, h⟩ := h
  have A3_ := Aside0.mk (show spec_KeyBytes.f k t2 t3 t4 = some (t5, t6) from hA3)
  clear hA3
  try dsimp only at h
  replace h := Option.bind_eq_some_iff.mp h
  obtain ⟨⟨t7, t8, t9⟩, hA4, h⟩ := h
  have A4_ := Aside0.mk (show laws_toKey.f k a0_0 l0_1 a0_2 = some (t7, t8, t9) from hA4)
  clear hA4
  try dsimp only at h
  replace h := Option.bind_eq_some_iff.mp h
  obtain ⟨⟨t10, t11⟩, hA5, h⟩ := h
  have A5_ := Aside0.mk (show impl_KeyBytes.f k t7 t8 t9 = some (t10, t11) from hA5)
  clear hA5
  try dsimp only at h
  replace h := Option.bind_eq_some_iff.mp h
  obtain ⟨t12, hA6, h⟩ := h
  have A6_ := Aside0.mk (show laws_eqByteS.f k t10 t5 = some t12 from hA6)
  clear hA6
  try dsimp only at h
  replace h := Option.bind_eq_some_iff.mp h
  obtain ⟨⟨t13, t14, t15⟩, hA7, h⟩ := h
  have A7_ := Aside0.mk (show laws_toKey.f k a0_0 l0_1 a0_2 = some (t13, t14, t15) from hA7)
  clear hA7
  try dsimp only at h
  replace h := Option.bind_eq_some_iff.mp h
  obtain ⟨t16, hA8, h⟩ := h
  have A8_ := Aside0.mk (show laws_eqKey.f k t7 t8 t9 t13 t14 t15 = some t16 from hA8)
  clear hA8
  try dsimp only at h
  replace h := Option.bind_eq_some_iff.mp h
  obtain ⟨⟨t17, t18⟩, hA9, h⟩ := h
  have A9_ := Aside0.mk (show laws_markKey.f k t7 t8 t9 1 = some (t17, t18) from hA9)
  clear hA9
  try dsimp only at h
  replace h := Option.bind_eq_some_iff.mp h
  obtain ⟨t19, hA10, h⟩ := h
  have A10_ := Aside0.mk (show laws_eqByteS.f k t10 t5 = some t19 from hA10)
  clear hA10
  try dsimp only at h
  replace h := Option.bind_eq_some_iff.mp h
  obtain ⟨⟨t20, t21⟩, hA11, h⟩ := h
  have A11_ := Aside0.mk (show laws_markByteS.f k t10 1 = some (t20, t21) from hA11)
  clear hA11
  try dsimp only at h
  replace h := Option.bind_eq_some_iff.mp h
  obtain ⟨t22, hA12, h⟩ := h
  have A12_ := Aside0.mk (show laws_heldByteS.f k t21 1 = some t22 from hA12)
  clear hA12
  try dsimp only at h
  replace h := Option.bind_eq_some_iff.mp h
  obtain ⟨⟨t23, t24, t25⟩, hA13, h⟩ := h
  have A13_ := Aside0.mk (show laws_toKey.f k a0_0 l0_1 a0_2 = some (t23, t24, t25) from hA13)
  clear hA13
  try dsimp only at h
  replace h := Option.bind_eq_some_iff.mp h
  obtain ⟨⟨t26, t27⟩, hA14, h⟩ := h
  have A14_ := Aside0.mk (show impl_KeyBytes.f k t23 t24 t25 = some (t26, t27) from hA14)
  clear hA14
  try dsimp only at h
  replace h := Option.bind_eq_some_iff.mp h
  obtain ⟨t28, hA15, h⟩ := h
  have A15_ := Aside0.mk (show laws_eqByteS.f k t26 t5 = some t28 from hA15)
  clear hA15
  try dsimp only at h
  replace h := Option.bind_eq_some_iff.mp h
  obtain ⟨t29, hA16, h⟩ := h
  have A16_ := Aside0.mk (show laws_heldByteS.f k t21 1 = some t29 from hA16)
  clear hA16
  try dsimp only at h
  by_cases hcond : t12 = true ∧ t11 = t6 ∧ t16 = true ∧ ¬ t17 < 0 ∧ t19 = true ∧ t11 = t6 ∧ ¬ t22 < 0 ∧ t22 = t20 ∧ t28 = true ∧ t27 = t6 ∧ ¬ t29 < 0 ∧ t29 = t20
  · rw [if_pos hcond] at h
    obtain rfl := Option.some.inj h
    clear h
    obtain ⟨z0_, z1_, z2_, z3_, z4_, z5_, z6_, z7_, z8_, z9_, z10_, z11_⟩ := hcond
    subst z0_
    have zb1 := bne_eq_false_iff_eq.mpr z1_
    have ze1 := beq_iff_eq.mpr z1_
    clear z1_
    subst z2_
    have zb3 := decide_eq_false z3_
    clear z3_
    subst z4_
    have zb5 := bne_eq_false_iff_eq.mpr z5_
    have ze5 := beq_iff_eq.mpr z5_
    clear z5_
    have zb6 := decide_eq_false z6_
    clear z6_
    have zb7 := bne_eq_false_iff_eq.mpr z7_
    have ze7 := beq_iff_eq.mpr z7_
    clear z7_
    subst z8_
    have zb9 := bne_eq_false_iff_eq.mpr z9_
    have ze9 := beq_iff_eq.mpr z9_
    clear z9_
    have zb10 := decide_eq_false z10_
    clear z10_
    have zb11 := bne_eq_false_iff_eq.mpr z11_
    have ze11 := beq_iff_eq.mpr z11_
    clear z11_
    go_enter Tryd.func3, Tryd.ntmps3
    go_wp2_with (first | ((with_reducible refine gate_dst (N := 1) rfl ?_); refine box_event ?hg (N := 1) ?hd (cs := #[.string a0_0, .slice A0_1 l0_1.length c0_1, .int .i64 a0_2]) (t := 24) ?hr ?_; (case hd => rfl); (case hg => rfl); (case hr => first | (go_simp; done) | (go_simp; rfl)); intro g1_ hg w1_ hbox hb; have n0_ := Aside0.mk (below_step (by repeat (first | exact HB.out | apply below_alloc | apply pw_below_drewN | apply below_drew1)) hb); clear HB; have HB := n0_; clear n0_; have SZ1 := Aside0.mk (show w.heap.size ≤ w1_.heap.size from hb.size); have BK1 := Aside0.mk hbox; have GB1 := Aside0.mk (show g1_ = w.heap.size from hg); have GL1 := Aside0.mk (blk_lt hbox); have GE1 := Aside0.mk (show w.heap.size ≤ g1_ from (by rw [GB1.out]; exact (Nat.le_refl _))); clear hb hbox hg; have hc1_1_0 : w1_.cell? ⟨g1_, 0, none⟩ = some (.string a0_0) := (blk_cell BK1.out 0).trans rfl; have hc1_1_1 : w1_.cell? ⟨g1_, 1, none⟩ = some (.slice A0_1 l0_1.length c0_1) := (blk_cell BK1.out 1).trans rfl; have hc1_1_2 : w1_.cell? ⟨g1_, 2, none⟩ = some (.int .i64 a0_2) := (blk_cell BK1.out 2).trans rfl; have hf1_1_0 := blk_frozen BK1.out 0; have hf1_1_1 := blk_frozen BK1.out 1; have hf1_1_2 := blk_frozen BK1.out 2) | ((with_reducible refine gate_callee (f := 7) rfl ?_); refine goesL_ (some 16) rfl rfl Tryd.func7 (by kernel_rfl) rfl #[.agg #[.string a0_0, .slice A0_1 l0_1.length c0_1, .int .i64 a0_2], .int .i64 1048576] rfl (by (try simp only [List.map_toArray, List.map_cons, List.map_nil]); first | done | rfl | (simp only [List.length_drop, List.length_take]; rfl)) ?_; (with_reducible refine (laws_szKey.calls k a0_0 _ _ l0_1 a0_2 1048576 t1 _ ?side1 ?side2 A1_.out).mono ?_); (case side1 => repeat (first | exact (Kd.C_below HR0_1.out HB.out) | (with_reducible refine Kd.C_alloc ?_ _) | (with_reducible refine Kd.C_drewN ?_ _) | (with_reducible refine Kd.C_drew ?_))); (case side2 => exact HC0_1.out); rintro e w2_ ⟨rfl, hb⟩; refine ⟨_, rfl, ?_⟩; have sz_ : w1_.heap.size ≤ w2_.heap.size := hb.size; (try clear hc1_1_0); (try clear hc1_1_1); (try clear hc1_1_2); (try clear hf1_1_0); (try clear hf1_1_1); (try clear hf1_1_2); have n0_ := Aside0.mk (blk_below (g := g1_) (o := .cells #[.string a0_0, .slice A0_1 l0_1.length c0_1, .int .i64 a0_2] 24 (0, 0)) (by (with_reducible repeat (first | refine blk_drewN ?_ _ | refine blk_drew ?_ | refine blk_alloc ?_ _)); exact BK1.out) hb); have n1_ := Aside0.mk (below_step (by repeat (first | exact HB.out | apply below_alloc | apply pw_below_drewN | apply below_drew1)) hb); clear HB; have BK1 := n0_; have HB := n1_; clear n0_ n1_; have SZ2 := Aside0.mk sz_; clear sz_ hb ; have hc2_1_0 : w2_.cell? ⟨g1_, 0, none⟩ = some (.string a0_0) := (blk_cell BK1.out 0).trans rfl; have hc2_1_1 : w2_.cell? ⟨g1_, 1, none⟩ = some (.slice A0_1 l0_1.length c0_1) := (blk_cell BK1.out 1).trans rfl; have hc2_1_2 : w2_.cell? ⟨g1_, 2, none⟩ = some (.int .i64 a0_2) := (blk_cell BK1.out 2).trans rfl) | ((with_reducible refine gate_callee (f := 9) rfl ?_); refine goesL_ (some 21) rfl rfl Tryd.func9 (by kernel_rfl) rfl #[.agg #[.string a0_0, .slice A0_1 l0_1.length c0_1, .int .i64 a0_2]] rfl (by (try simp only [List.map_toArray, List.map_cons, List.map_nil]); first | done | rfl | (simp only [List.length_drop, List.length_take]; rfl)) ?_; (with_reducible refine (laws_toKey.calls k a0_0 _ _ l0_1 a0_2 t2 t3 t4 _ ?side1 ?side2 A2_.out).mono ?_); (case side1 => repeat (first | exact (Kd.C_below HR0_1.out HB.out) | (with_reducible refine Kd.C_alloc ?_ _) | (with_reducible refine Kd.C_drewN ?_ _) | (with_reducible refine Kd.C_drew ?_))); (case side2 => exact HC0_1.out); rintro e w3_ ⟨v103, rfl, ho103, hb⟩; refine ⟨_, rfl, ?_⟩; have sz_ : w2_.heap.size ≤ w3_.heap.size := hb.size; (try clear hc2_1_0); (try clear hc2_1_1); (try clear hc2_1_2); have n0_ := Aside0.mk (blk_below (g := g1_) (o := .cells #[.string a0_0, .slice A0_1 l0_1.length c0_1, .int .i64 a0_2] 24 (0, 0)) (by (with_reducible repeat (first | refine blk_drewN ?_ _ | refine blk_drew ?_ | refine blk_alloc ?_ _)); exact BK1.out) hb); have n1_ := Aside0.mk (below_step (by repeat (first | exact HB.out | apply below_alloc | apply pw_below_drewN | apply below_drew1)) hb); have n2_ := Aside0.mk (mineR ho103 (show _ = w2_.heap.size from rfl) (below_size (by repeat (first | exact HB.out | apply below_alloc | apply pw_below_drewN | apply below_drew1)))); clear BK1 HB; have BK1 := n0_; have HB := n1_; have HO103 := n2_; clear n0_ n1_ n2_; have SZ3 := Aside0.mk sz_; clear sz_ hb ho103; obtain ⟨A103, c103, eo103⟩ := Kd.R_slice HO103.out; subst eo103) | ((with_reducible refine gate_callee (f := 8) rfl ?_); refine goesL_ (some 22) rfl rfl Tryd.func8 (by kernel_rfl) rfl #[.agg #[.string t2, .slice A103 t3.length c103, .int .i64 t4]] rfl (by (try simp only [List.map_toArray, List.map_cons, List.map_nil]); first | done | rfl | (simp only [List.length_drop, List.length_take]; rfl)) ?_; (with_reducible refine (spec_KeyBytes.calls k t2 _ _ t3 t4 t5 t6 _ ?side1 ?side2 A3_.out).mono ?_); (case side1 => repeat (first | exact (Kd.R_reads' HO103.out).2.2 | (with_reducible refine Kd.C_alloc ?_ _) | (with_reducible refine Kd.C_drewN ?_ _) | (with_reducible refine Kd.C_drew ?_))); (case side2 => exact (Kd.R_reads' HO103.out).2.1); rintro e w4_ ⟨v105, rfl, ho105, hb⟩; refine ⟨_, rfl, ?_⟩; have sz_ : w3_.heap.size ≤ w4_.heap.size := hb.size; have n0_ := Aside0.mk (Kd.R_below (by (with_reducible repeat (first | apply Kd.R_alloc | apply Kd.R_drewN | apply Kd.R_drew)); exact HO103.out) hb); have n1_ := Aside0.mk (blk_below (g := g1_) (o := .cells #[.string a0_0, .slice A0_1 l0_1.length c0_1, .int .i64 a0_2] 24 (0, 0)) (by (with_reducible repeat (first | refine blk_drewN ?_ _ | refine blk_drew ?_ | refine blk_alloc ?_ _)); exact BK1.out) hb); have n2_ := Aside0.mk (below_step (by repeat (first | exact HB.out | apply below_alloc | apply pw_below_drewN | apply below_drew1)) hb); have n3_ := Aside0.mk (mineY ho105 (show _ = w3_.heap.size from rfl) (below_size (by repeat (first | exact HB.out | apply below_alloc | apply pw_below_drewN | apply below_drew1)))); clear HO103 BK1 HB; have HO103 := n0_; have BK1 := n1_; have HB := n2_; have HO105 := n3_; clear n0_ n1_ n2_ n3_; have SZ4 := Aside0.mk sz_; clear sz_ hb ho105; obtain ⟨A105, c105, eo105⟩ := Kd.Y_slice HO105.out; subst eo105; have hc4_1_0 : w4_.cell? ⟨g1_, 0, none⟩ = some (.string a0_0) := (blk_cell BK1.out 0).trans rfl; have hc4_1_1 : w4_.cell? ⟨g1_, 1, none⟩ = some (.slice A0_1 l0_1.length c0_1) := (blk_cell BK1.out 1).trans rfl; have hc4_1_2 : w4_.cell? ⟨g1_, 2, none⟩ = some (.int .i64 a0_2) := (blk_cell BK1.out 2).trans rfl) | ((with_reducible refine gate_callee (f := 9) rfl ?_); refine goesL_ (some 26) rfl rfl Tryd.func9 (by kernel_rfl) rfl #[.agg #[.string a0_0, .slice A0_1 l0_1.length c0_1, .int .i64 a0_2]] rfl (by (try simp only [List.map_toArray, List.map_cons, List.map_nil]); first | done | rfl | (simp only [List.length_drop, List.length_take]; rfl)) ?_; (with_reducible refine (laws_toKey.calls k a0_0 _ _ l0_1 a0_2 t7 t8 t9 _ ?side1 ?side2 A4_.out).mono ?_); (case side1 => repeat (first | exact (Kd.C_below HR0_1.out HB.out) | (with_reducible refine Kd.C_alloc ?_ _) | (with_reducible refine Kd.C_drewN ?_ _) | (with_reducible refine Kd.C_drew ?_))); (case side2 => exact HC0_1.out); rintro e w5_ ⟨v108, rfl, ho108, hb⟩; refine ⟨_, rfl, ?_⟩; have sz_ : w4_.heap.size ≤ w5_.heap.size := hb.size; (try clear hc4_1_0); (try clear hc4_1_1); (try clear hc4_1_2); have n0_ := Aside0.mk (Kd.R_below (by (with_reducible repeat (first | apply Kd.R_alloc | apply Kd.R_drewN | apply Kd.R_drew)); exact HO103.out) hb); have n1_ := Aside0.mk (Kd.Y_below (by (with_reducible repeat (first | apply Kd.Y_alloc | apply Kd.Y_drewN | apply Kd.Y_drew)); exact HO105.out) hb); have n2_ := Aside0.mk (blk_below (g := g1_) (o := .cells #[.string a0_0, .slice A0_1 l0_1.length c0_1, .int .i64 a0_2] 24 (0, 0)) (by (with_reducible repeat (first | refine blk_drewN ?_ _ | refine blk_drew ?_ | refine blk_alloc ?_ _)); exact BK1.out) hb); have n3_ := Aside0.mk (below_step (by repeat (first | exact HB.out | apply below_alloc | apply pw_below_drewN | apply below_drew1)) hb); have n4_ := Aside0.mk (mineR ho108 (show _ = w4_.heap.size from rfl) (below_size (by repeat (first | exact HB.out | apply below_alloc | apply pw_below_drewN | apply below_drew1)))); clear HO103 HO105 BK1 HB; have HO103 := n0_; have HO105 := n1_; have BK1 := n2_; have HB := n3_; have HO108 := n4_; clear n0_ n1_ n2_ n3_ n4_; have SZ5 := Aside0.mk sz_; clear sz_ hb ho108; obtain ⟨A108, c108, eo108⟩ := Kd.R_slice HO108.out; subst eo108) | ((with_reducible refine gate_dst (N := 6) rfl ?_); refine box_event ?hg (N := 6) ?hd (cs := #[.string (⟨#[]⟩), .slice none 0 0, .int .i64 0]) (t := 31) ?hr ?_; (case hd => rfl); (case hg => rfl); (case hr => first | (go_simp; done) | (go_simp; rfl)); intro g6_ hg w6_ hbox hb; have n0_ := Aside0.mk (Kd.R_below (by (with_reducible repeat (first | apply Kd.R_alloc | apply Kd.R_drewN | apply Kd.R_drew)); exact HO103.out) hb); have n1_ := Aside0.mk (Kd.Y_below (by (with_reducible repeat (first | apply Kd.Y_alloc | apply Kd.Y_drewN | apply Kd.Y_drew)); exact HO105.out) hb); have n2_ := Aside0.mk (Kd.R_below (by (with_reducible repeat (first | apply Kd.R_alloc | apply Kd.R_drewN | apply Kd.R_drew)); exact HO108.out) hb); have n3_ := Aside0.mk (blk_below (g := g1_) (o := .cells #[.string a0_0, .slice A0_1 l0_1.length c0_1, .int .i64 a0_2] 24 (0, 0)) (by (with_reducible repeat (first | refine blk_drewN ?_ _ | refine blk_drew ?_ | refine blk_alloc ?_ _)); exact BK1.out) hb); have n4_ := Aside0.mk (below_step (by repeat (first | exact HB.out | apply below_alloc | apply pw_below_drewN | apply below_drew1)) hb); clear HO103 HO105 HO108 BK1 HB; have HO103 := n0_; have HO105 := n1_; have HO108 := n2_; have BK1 := n3_; have HB := n4_; clear n0_ n1_ n2_ n3_ n4_; have SZ6 := Aside0.mk (show w5_.heap.size ≤ w6_.heap.size from hb.size); have BK6 := Aside0.mk hbox; have GB6 := Aside0.mk (show g6_ = w5_.heap.size from hg); have GL6 := Aside0.mk (blk_lt hbox); have GE6 := Aside0.mk (show w.heap.size ≤ g6_ from (by rw [GB6.out]; exact (Nat.le_trans (Nat.le_trans (Nat.le_trans (Nat.le_trans SZ1.out SZ2.out) SZ3.out) SZ4.out) SZ5.out))); clear hb hbox hg; have hc6_6_0 : w6_.cell? ⟨g6_, 0, none⟩ = some (.string (⟨#[]⟩)) := (blk_cell BK6.out 0).trans rfl; have hc6_6_1 : w6_.cell? ⟨g6_, 1, none⟩ = some (.slice none 0 0) := (blk_cell BK6.out 1).trans rfl; have hc6_6_2 : w6_.cell? ⟨g6_, 2, none⟩ = some (.int .i64 0) := (blk_cell BK6.out 2).trans rfl; have hf6_6_0 := blk_frozen BK6.out 0; have hf6_6_1 := blk_frozen BK6.out 1; have hf6_6_2 := blk_frozen BK6.out 2) | ((with_reducible refine gate_store (t := 31) (p := 6) rfl ?_); refine store_event (t := 31) (p := 6) (v := ?vo7) (w1 := setAll w6_ g6_ 0 [.string t7, .slice A108 t8.length c108, .int .i64 t9]) ?hg ?ho ?hn ?hr ?_; (case ho => rfl); (case hg => rfl); (case hn => rfl); (case hr => first | (go_simp; done) | (go_simp; rfl)); intro w7_ hw; have on_ : On g6_ w6_ w7_ := (by rw [hw]; exact setAll_on _ _ _ _); have bk_ : w7_.heap[g6_]? = some (.cells #[.string t7, .slice A108 t8.length c108, .int .i64 t9] 31 (0, 0)) := (by rw [hw]; exact setAll_blk _ BK6.out rfl); clear hw; (try clear hc6_6_0); (try clear hc6_6_1); (try clear hc6_6_2); (try clear hf6_6_0); (try clear hf6_6_1); (try clear hf6_6_2); have n0_ := Aside0.mk (on_.Rt (by (with_reducible repeat (first | apply Kd.R_alloc | apply Kd.R_drewN | apply Kd.R_drew)); exact HO103.out) BK6.out (by decide)); have n1_ := Aside0.mk (on_.Yt (by (with_reducible repeat (first | apply Kd.Y_alloc | apply Kd.Y_drewN | apply Kd.Y_drew)); exact HO105.out) BK6.out (by decide)); have n2_ := Aside0.mk (on_.Rt (by (with_reducible repeat (first | apply Kd.R_alloc | apply Kd.R_drewN | apply Kd.R_drew)); exact HO108.out) BK6.out (by decide)); have n3_ := Aside0.mk (on_.blk BK1.out (by rw [GB6.out]; exact Nat.ne_of_lt (Nat.lt_of_lt_of_le GL1.out (Nat.le_trans (Nat.le_trans (Nat.le_trans SZ2.out SZ3.out) SZ4.out) SZ5.out)))); have n4_ := Aside0.mk (on_.below HB.out GE6.out); have n5_ := Aside0.mk (bk_); clear HO103 HO105 HO108 BK1 HB; have HO103 := n0_; have HO105 := n1_; have HO108 := n2_; have BK1 := n3_; have HB := n4_; have BK6 := n5_; clear n0_ n1_ n2_ n3_ n4_ n5_; have SZ7 := Aside0.mk (show w6_.heap.size ≤ w7_.heap.size from Nat.le_of_eq on_.size.symm); clear on_ bk_; have hc7_6_0 : w7_.cell? ⟨g6_, 0, none⟩ = some (.string t7) := (blk_cell BK6.out 0).trans rfl; have hc7_6_1 : w7_.cell? ⟨g6_, 1, none⟩ = some (.slice A108 t8.length c108) := (blk_cell BK6.out 1).trans rfl; have hc7_6_2 : w7_.cell? ⟨g6_, 2, none⟩ = some (.int .i64 t9) := (blk_cell BK6.out 2).trans rfl) | ((with_reducible refine gate_callee (f := 10) rfl ?_); refine goesL_ (some 29) rfl rfl Tryd.func10 (by kernel_rfl) rfl #[.agg #[.string t7, .slice A108 t8.length c108, .int .i64 t9]] rfl (by (try simp only [List.map_toArray, List.map_cons, List.map_nil]); first | done | rfl | (simp only [List.length_drop, List.length_take]; rfl)) ?_; (with_reducible refine (impl_KeyBytes.calls k t7 _ _ t8 t9 t10 t11 _ ?side1 ?side2 A5_.out).mono ?_); (case side1 => repeat (first | exact (Kd.R_reads' HO108.out).2.2 | (with_reducible refine Kd.C_alloc ?_ _) | (with_reducible refine Kd.C_drewN ?_ _) | (with_reducible refine Kd.C_drew ?_))); (case side2 => exact (Kd.R_reads' HO108.out).2.1); rintro e w8_ ⟨v110, rfl, ho110, hb⟩; refine ⟨_, rfl, ?_⟩; have sz_ : w7_.heap.size ≤ w8_.heap.size := hb.size; (try clear hc7_6_0); (try clear hc7_6_1); (try clear hc7_6_2); have n0_ := Aside0.mk (Kd.R_below (by (with_reducible repeat (first | apply Kd.R_alloc | apply Kd.R_drewN | apply Kd.R_drew)); exact HO103.out) hb); have n1_ := Aside0.mk (Kd.Y_below (by (with_reducible repeat (first | apply Kd.Y_alloc | apply Kd.Y_drewN | apply Kd.Y_drew)); exact HO105.out) hb); have n2_ := Aside0.mk (Kd.R_below (by (with_reducible repeat (first | apply Kd.R_alloc | apply Kd.R_drewN | apply Kd.R_drew)); exact HO108.out) hb); have n3_ := Aside0.mk (blk_below (g := g1_) (o := .cells #[.string a0_0, .slice A0_1 l0_1.length c0_1, .int .i64 a0_2] 24 (0, 0)) (by (with_reducible repeat (first | refine blk_drewN ?_ _ | refine blk_drew ?_ | refine blk_alloc ?_ _)); exact BK1.out) hb); have n4_ := Aside0.mk (blk_below (g := g6_) (o := .cells #[.string t7, .slice A108 t8.length c108, .int .i64 t9] 31 (0, 0)) (by (with_reducible repeat (first | refine blk_drewN ?_ _ | refine blk_drew ?_ | refine blk_alloc ?_ _)); exact BK6.out) hb); have n5_ := Aside0.mk (below_step (by repeat (first | exact HB.out | apply below_alloc | apply pw_below_drewN | apply below_drew1)) hb); have n6_ := Aside0.mk (mineY ho110 (show _ = w7_.heap.size from rfl) (below_size (by repeat (first | exact HB.out | apply below_alloc | apply pw_below_drewN | apply below_drew1)))); clear HO103 HO105 HO108 BK1 BK6 HB; have HO103 := n0_; have HO105 := n1_; have HO108 := n2_; have BK1 := n3_; have BK6 := n4_; have HB := n5_; have HO110 := n6_; clear n0_ n1_ n2_ n3_ n4_ n5_ n6_; have SZ8 := Aside0.mk sz_; clear sz_ hb ho110; obtain ⟨A110, c110, eo110⟩ := Kd.Y_slice HO110.out; subst eo110) | ((with_reducible refine gate_callee (f := 11) rfl ?_); refine goesL_ (some 34) rfl rfl Tryd.func11 (by kernel_rfl) rfl #[.slice A110 t10.length c110, .slice A105 t5.length c105] rfl (by (try simp only [List.map_toArray, List.map_cons, List.map_nil]); first | done | rfl | (simp only [List.length_drop, List.length_take]; rfl)) ?_; (with_reducible refine (laws_eqByteS.calls k _ _ t10 _ _ t5 true _ ?side1 ?side2 ?side3 ?side4 A6_.out).mono ?_); (case side1 => repeat (first | exact (Kd.Y_reads' HO110.out).2.2 | (with_reducible refine Kd.C_alloc ?_ _) | (with_reducible refine Kd.C_drewN ?_ _) | (with_reducible refine Kd.C_drew ?_))); (case side2 => exact (Kd.Y_reads' HO110.out).2.1); (case side3 => repeat (first | exact (Kd.Y_reads' HO105.out).2.2 | (with_reducible refine Kd.C_alloc ?_ _) | (with_reducible refine Kd.C_drewN ?_ _) | (with_reducible refine Kd.C_drew ?_))); (case side4 => exact (Kd.Y_reads' HO105.out).2.1); rintro e w9_ ⟨rfl, hb⟩; refine ⟨_, rfl, ?_⟩; replace hb := Drawn0.below hb; have sz_ : w8_.heap.size ≤ w9_.heap.size := hb.size; have n0_ := Aside0.mk (Kd.R_below (by (with_reducible repeat (first | apply Kd.R_alloc | apply Kd.R_drewN | apply Kd.R_drew)); exact HO103.out) hb); have n1_ := Aside0.mk (Kd.Y_below (by (with_reducible repeat (first | apply Kd.Y_alloc | apply Kd.Y_drewN | apply Kd.Y_drew)); exact HO105.out) hb); have n2_ := Aside0.mk (Kd.R_below (by (with_reducible repeat (first | apply Kd.R_alloc | apply Kd.R_drewN | apply Kd.R_drew)); exact HO108.out) hb); have n3_ := Aside0.mk (Kd.Y_below (by (with_reducible repeat (first | apply Kd.Y_alloc | apply Kd.Y_drewN | apply Kd.Y_drew)); exact HO110.out) hb); have n4_ := Aside0.mk (blk_below (g := g1_) (o := .cells #[.string a0_0, .slice A0_1 l0_1.length c0_1, .int .i64 a0_2] 24 (0, 0)) (by (with_reducible repeat (first | refine blk_drewN ?_ _ | refine blk_drew ?_ | refine blk_alloc ?_ _)); exact BK1.out) hb); have n5_ := Aside0.mk (blk_below (g := g6_) (o := .cells #[.string t7, .slice A108 t8.length c108, .int .i64 t9] 31 (0, 0)) (by (with_reducible repeat (first | refine blk_drewN ?_ _ | refine blk_drew ?_ | refine blk_alloc ?_ _)); exact BK6.out) hb); have n6_ := Aside0.mk (below_step (by repeat (first | exact HB.out | apply below_alloc | apply pw_below_drewN | apply below_drew1)) hb); clear HO103 HO105 HO108 HO110 BK1 BK6 HB; have HO103 := n0_; have HO105 := n1_; have HO108 := n2_; have HO110 := n3_; have BK1 := n4_; have BK6 := n5_; have HB := n6_; clear n0_ n1_ n2_ n3_ n4_ n5_ n6_; have SZ9 := Aside0.mk sz_; clear sz_ hb ; have hc9_6_0 : w9_.cell? ⟨g6_, 0, none⟩ = some (.string t7) := (blk_cell BK6.out 0).trans rfl; have hc9_6_1 : w9_.cell? ⟨g6_, 1, none⟩ = some (.slice A108 t8.length c108) := (blk_cell BK6.out 1).trans rfl; have hc9_6_2 : w9_.cell? ⟨g6_, 2, none⟩ = some (.int .i64 t9) := (blk_cell BK6.out 2).trans rfl; have hc9_1_0 : w9_.cell? ⟨g1_, 0, none⟩ = some (.string a0_0) := (blk_cell BK1.out 0).trans rfl; have hc9_1_1 : w9_.cell? ⟨g1_, 1, none⟩ = some (.slice A0_1 l0_1.length c0_1) := (blk_cell BK1.out 1).trans rfl; have hc9_1_2 : w9_.cell? ⟨g1_, 2, none⟩ = some (.int .i64 a0_2) := (blk_cell BK1.out 2).trans rfl))
    refine start_ (n := 5) (S := fun w' => w'.cell? ⟨g6_, 0, none⟩ = some (.string t7) ∧ w'.cell? ⟨g6_, 1, none⟩ = some (.slice A108 t8.length c108) ∧ w'.cell? ⟨g6_, 2, none⟩ = some (.int .i64 t9) ∧ w'.cell? ⟨g1_, 0, none⟩ = some (.string a0_0) ∧ w'.cell? ⟨g1_, 1, none⟩ = some (.slice A0_1 l0_1.length c0_1) ∧ w'.cell? ⟨g1_, 2, none⟩ = some (.int .i64 a0_2)) (ds := []) #[false, false, false, false, false] (by kernel_rfl) rfl rfl ⟨(blk_cell BK6.out 0).trans rfl, (blk_cell BK6.out 1).trans rfl, (blk_cell BK6.out 2).trans rfl, (blk_cell BK1.out 0).trans rfl, (blk_cell BK1.out 1).trans rfl, (blk_cell BK1.out 2).trans rfl⟩ (fun hHeld => ?_)
    refine take_ (i := 0) (N := some 41) (v := ?_) (a' := ?_) #[true, false, false, false, false] rfl rfl (by kernel_rfl) (fun _ _ _ h => h) (Or.inl ⟨by rfl, ?_⟩) hHeld ?_ ?_
    rotate_left
    · rintro w' ⟨s0, s1, s2, s3, s4, s5⟩
      go_simp
      with_reducible rfl
    rotate_left
    · simp only [Act.put, List.setIfInBounds_toArray, List.set_cons_zero, List.set_cons_succ, i64_w, i32_w]
      rfl
    refine take_ (i := 1) (N := some 42) (v := ?_) (a' := ?_) #[true, true, false, false, false] rfl rfl (by kernel_rfl) (fun _ _ _ h => h) (Or.inl ⟨by rfl, ?_⟩) hHeld ?_ ?_
    rotate_left
    · rintro w' ⟨s0, s1, s2, s3, s4, s5⟩
      go_simp
      with_reducible rfl
    rotate_left
    · simp only [Act.put, List.setIfInBounds_toArray, List.set_cons_zero, List.set_cons_succ, i64_w, i32_w]
      rfl
    refine one_ (i := 2) (N := some 43) #[true, true, true, false, false] rfl rfl (by kernel_rfl) (by decide) (fun K hK => ?_)
    refine goes_ Tryd.func9 (by kernel_rfl) rfl #[.agg #[.string a0_0, .slice A0_1 l0_1.length c0_1, .int .i64 a0_2]] (by rfl) rfl rfl (by (try simp only [List.map_toArray, List.map_cons, List.map_nil]); first | done | rfl | (simp only [List.length_drop, List.length_take]; rfl)) ?_
    ((with_reducible refine (laws_toKey.calls k a0_0 _ _ l0_1 a0_2 t13 t14 t15 _ ?side1 ?side2 A7_.out).mono ?_); (case side1 => repeat (first | exact (Kd.C_below HR0_1.out HB.out) | (with_reducible refine Kd.C_alloc ?_ _) | (with_reducible refine Kd.C_drewN ?_ _) | (with_reducible refine Kd.C_drew ?_))); (case side2 => exact HC0_1.out); rintro e w10_ ⟨v114, rfl, ho114, hb⟩; refine ⟨_, rfl, ?_⟩; have sz_ : w9_.heap.size ≤ w10_.heap.size := hb.size; (try clear hc9_6_0); (try clear hc9_6_1); (try clear hc9_6_2); (try clear hc9_1_0); (try clear hc9_1_1); (try clear hc9_1_2); have n0_ := Aside0.mk (Kd.R_below (by (with_reducible repeat (first | apply Kd.R_alloc | apply Kd.R_drewN | apply Kd.R_drew)); exact HO103.out) hb); have n1_ := Aside0.mk (Kd.Y_below (by (with_reducible repeat (first | apply Kd.Y_alloc | apply Kd.Y_drewN | apply Kd.Y_drew)); exact HO105.out) hb); have n2_ := Aside0.mk (Kd.R_below (by (with_reducible repeat (first | apply Kd.R_alloc | apply Kd.R_drewN | apply Kd.R_drew)); exact HO108.out) hb); have n3_ := Aside0.mk (Kd.Y_below (by (with_reducible repeat (first | apply Kd.Y_alloc | apply Kd.Y_drewN | apply Kd.Y_drew)); exact HO110.out) hb); have n4_ := Aside0.mk (blk_below (g := g1_) (o := .cells #[.string a0_0, .slice A0_1 l0_1.length c0_1, .int .i64 a0_2] 24 (0, 0)) (by (with_reducible repeat (first | refine blk_drewN ?_ _ | refine blk_drew ?_ | refine blk_alloc ?_ _)); exact BK1.out) hb); have n5_ := Aside0.mk (blk_below (g := g6_) (o := .cells #[.string t7, .slice A108 t8.length c108, .int .i64 t9] 31 (0, 0)) (by (with_reducible repeat (first | refine blk_drewN ?_ _ | refine blk_drew ?_ | refine blk_alloc ?_ _)); exact BK6.out) hb); have n6_ := Aside0.mk (below_step (by repeat (first | exact HB.out | apply below_alloc | apply pw_below_drewN | apply below_drew1)) hb); have n7_ := Aside0.mk (mineR ho114 (show _ = w9_.heap.size from rfl) (below_size (by repeat (first | exact HB.out | apply below_alloc | apply pw_below_drewN | apply below_drew1)))); clear HO103 HO105 HO108 HO110 BK1 BK6 HB; have HO103 := n0_; have HO105 := n1_; have HO108 := n2_; have HO110 := n3_; have BK1 := n4_; have BK6 := n5_; have HB := n6_; have HO114 := n7_; clear n0_ n1_ n2_ n3_ n4_ n5_ n6_ n7_; have SZ10 := Aside0.mk sz_; clear sz_ hb ho114; obtain ⟨A114, c114, eo114⟩ := Kd.R_slice HO114.out; subst eo114)
    refine hK.out _ _ ⟨(blk_cell BK6.out 0).trans rfl, (blk_cell BK6.out 1).trans rfl, (blk_cell BK6.out 2).trans rfl, (blk_cell BK1.out 0).trans rfl, (blk_cell BK1.out 1).trans rfl, (blk_cell BK1.out 2).trans rfl⟩ (fun hHeld => ?_)
    clear hK K
    refine norm_ (a' := ?_) ?_ ?_
    rotate_left
    · show Act.put _ (some 43) _ = _
      simp only [Act.put, List.setIfInBounds_toArray, List.set_cons_zero, List.set_cons_succ, i64_w, i32_w]
      rfl
    refine one_ (i := 3) (N := some 44) #[true, true, true, true, false] rfl rfl (by kernel_rfl) (by decide) (fun K hK => ?_)
    refine goes_ Tryd.func12 (by kernel_rfl) rfl #[.agg #[.string t7, .slice A108 t8.length c108, .int .i64 t9], .agg #[.string t13, .slice A114 t14.length c114, .int .i64 t15]] (by rfl) rfl rfl (by (try simp only [List.map_toArray, List.map_cons, List.map_nil]); first | done | rfl | (simp only [List.length_drop, List.length_take]; rfl)) ?_
    ((with_reducible refine (laws_eqKey.calls k t7 _ _ t8 t9 t13 _ _ t14 t15 true _ ?side1 ?side2 ?side3 ?side4 A8_.out).mono ?_); (case side1 => repeat (first | exact (Kd.R_reads' HO108.out).2.2 | (with_reducible refine Kd.C_alloc ?_ _) | (with_reducible refine Kd.C_drewN ?_ _) | (with_reducible refine Kd.C_drew ?_))); (case side2 => exact (Kd.R_reads' HO108.out).2.1); (case side3 => repeat (first | exact (Kd.R_reads' HO114.out).2.2 | (with_reducible refine Kd.C_alloc ?_ _) | (with_reducible refine Kd.C_drewN ?_ _) | (with_reducible refine Kd.C_drew ?_))); (case side4 => exact (Kd.R_reads' HO114.out).2.1); rintro e w11_ ⟨rfl, hb⟩; refine ⟨_, rfl, ?_⟩; have sz_ : w10_.heap.size ≤ w11_.heap.size := hb.size; have n0_ := Aside0.mk (Kd.R_below (by (with_reducible repeat (first | apply Kd.R_alloc | apply Kd.R_drewN | apply Kd.R_drew)); exact HO103.out) hb); have n1_ := Aside0.mk (Kd.Y_below (by (with_reducible repeat (first | apply Kd.Y_alloc | apply Kd.Y_drewN | apply Kd.Y_drew)); exact HO105.out) hb); have n2_ := Aside0.mk (Kd.R_below (by (with_reducible repeat (first | apply Kd.R_alloc | apply Kd.R_drewN | apply Kd.R_drew)); exact HO108.out) hb); have n3_ := Aside0.mk (Kd.Y_below (by (with_reducible repeat (first | apply Kd.Y_alloc | apply Kd.Y_drewN | apply Kd.Y_drew)); exact HO110.out) hb); have n4_ := Aside0.mk (Kd.R_below (by (with_reducible repeat (first | apply Kd.R_alloc | apply Kd.R_drewN | apply Kd.R_drew)); exact HO114.out) hb); have n5_ := Aside0.mk (blk_below (g := g1_) (o := .cells #[.string a0_0, .slice A0_1 l0_1.length c0_1, .int .i64 a0_2] 24 (0, 0)) (by (with_reducible repeat (first | refine blk_drewN ?_ _ | refine blk_drew ?_ | refine blk_alloc ?_ _)); exact BK1.out) hb); have n6_ := Aside0.mk (blk_below (g := g6_) (o := .cells #[.string t7, .slice A108 t8.length c108, .int .i64 t9] 31 (0, 0)) (by (with_reducible repeat (first | refine blk_drewN ?_ _ | refine blk_drew ?_ | refine blk_alloc ?_ _)); exact BK6.out) hb); have n7_ := Aside0.mk (below_step (by repeat (first | exact HB.out | apply below_alloc | apply pw_below_drewN | apply below_drew1)) hb); clear HO103 HO105 HO108 HO110 HO114 BK1 BK6 HB; have HO103 := n0_; have HO105 := n1_; have HO108 := n2_; have HO110 := n3_; have HO114 := n4_; have BK1 := n5_; have BK6 := n6_; have HB := n7_; clear n0_ n1_ n2_ n3_ n4_ n5_ n6_ n7_; have SZ11 := Aside0.mk sz_; clear sz_ hb ; have hc11_6_0 : w11_.cell? ⟨g6_, 0, none⟩ = some (.string t7) := (blk_cell BK6.out 0).trans rfl; have hc11_6_1 : w11_.cell? ⟨g6_, 1, none⟩ = some (.slice A108 t8.length c108) := (blk_cell BK6.out 1).trans rfl; have hc11_6_2 : w11_.cell? ⟨g6_, 2, none⟩ = some (.int .i64 t9) := (blk_cell BK6.out 2).trans rfl)
    refine hK.out _ _ ⟨(blk_cell BK6.out 0).trans rfl, (blk_cell BK6.out 1).trans rfl, (blk_cell BK6.out 2).trans rfl, (blk_cell BK1.out 0).trans rfl, (blk_cell BK1.out 1).trans rfl, (blk_cell BK1.out 2).trans rfl⟩ (fun hHeld => ?_)
    clear hK K
    refine norm_ (a' := ?_) ?_ ?_
    rotate_left
    · show Act.put _ (some 44) _ = _
      simp only [Act.put, List.setIfInBounds_toArray, List.set_cons_zero, List.set_cons_succ, i64_w, i32_w]
      rfl
    refine pure_ (i := 4) (N := some 45) (v := ?_) (a' := ?_) #[true, true, true, true, true] rfl rfl (by kernel_rfl) (fun _ _ _ h => h) (Or.inl ⟨by rfl, ?_⟩) ?_ ?_
    rotate_left
    · intro w'
      go_simp
      with_reducible rfl
    rotate_left
    · simp only [Act.put, List.setIfInBounds_toArray, List.set_cons_zero, List.set_cons_succ, i64_w, i32_w]
      rfl
    refine done_ (by kernel_rfl) ?_
    clear hHeld
    go_wp2_with (first | ((with_reducible refine gate_callee (f := 13) rfl ?_); refine goesL_ (some 48) rfl rfl Tryd.func13 (by kernel_rfl) rfl #[.agg #[.string t7, .slice A108 t8.length c108, .int .i64 t9], .int .i64 1] rfl (by (try simp only [List.map_toArray, List.map_cons, List.map_nil]); first | done | rfl | (simp only [List.length_drop, List.length_take]; rfl)) ?_; (with_reducible refine (laws_markKey.calls k t7 (Mine w4_.heap.size w5_ (87 :: (k87).E)) _ t8 t9 1 t17 t18 w _ ?sideB ?side1 A9_.out).mono ?_); (case sideB => exact (by repeat (first | exact HB.out | apply below_alloc | apply pw_below_drewN | apply below_drew1))); (case side1 => exact (by (with_reducible repeat (first | apply Kd.R_alloc | apply Kd.R_drewN | apply Kd.R_drew)); exact HO108.out)); rintro e w12_ ⟨rfl, hk108, hb, hkp⟩; refine ⟨_, rfl, ?_⟩; have sz_ : w11_.heap.size ≤ w12_.heap.size := hkp.1; (try clear hc11_6_0); (try clear hc11_6_1); (try clear hc11_6_2); have n0_ := Aside0.mk (Kd.R_kept (by (with_reducible repeat (first | apply Kd.R_alloc | apply Kd.R_drewN | apply Kd.R_drew)); exact HO103.out) hkp (fun k_ h1 => (fun h2 => mine_lt h1 h2 SZ4.out))); have n1_ := Aside0.mk (Kd.Y_kept (by (with_reducible repeat (first | apply Kd.Y_alloc | apply Kd.Y_drewN | apply Kd.Y_drew)); exact HO105.out) hkp (fun k_ h1 => (fun h2 => mine_lt h1 h2 (Nat.le_refl _)))); have n2_ := Aside0.mk (Kd.Y_kept (by (with_reducible repeat (first | apply Kd.Y_alloc | apply Kd.Y_drewN | apply Kd.Y_drew)); exact HO110.out) hkp (fun k_ h1 => (fun h2 => mine_lt h2 h1 (Nat.le_trans SZ6.out SZ7.out)))); have n3_ := Aside0.mk (Kd.R_kept (by (with_reducible repeat (first | apply Kd.R_alloc | apply Kd.R_drewN | apply Kd.R_drew)); exact HO114.out) hkp (fun k_ h1 => (fun h2 => mine_lt h2 h1 (Nat.le_trans (Nat.le_trans (Nat.le_trans SZ6.out SZ7.out) SZ8.out) SZ9.out)))); have n4_ := Aside0.mk (blk_kept (g := g1_) (o := .cells #[.string a0_0, .slice A0_1 l0_1.length c0_1, .int .i64 a0_2] 24 (0, 0)) (by (with_reducible repeat (first | refine blk_drewN ?_ _ | refine blk_drew ?_ | refine blk_alloc ?_ _)); exact BK1.out) hkp (fun h2 => mine_old h2 GL1.out (Nat.le_trans (Nat.le_trans SZ2.out SZ3.out) SZ4.out))); have n5_ := Aside0.mk (blk_kept (g := g6_) (o := .cells #[.string t7, .slice A108 t8.length c108, .int .i64 t9] 31 (0, 0)) (by (with_reducible repeat (first | refine blk_drewN ?_ _ | refine blk_drew ?_ | refine blk_alloc ?_ _)); exact BK6.out) hkp (fun h2 => mine_new h2 GB6.out (Nat.le_refl _))); have n6_ := Aside0.mk (hb); clear HO103 HO105 HO110 HO114 BK1 BK6 HB; have HO103 := n0_; have HO105 := n1_; have HO110 := n2_; have HO114 := n3_; have BK1 := n4_; have BK6 := n5_; have HB := n6_; clear n0_ n1_ n2_ n3_ n4_ n5_ n6_; clear HO108; have SZ12 := Aside0.mk sz_; clear sz_ hb hkp hk108) | (go_at_call 11; (with_reducible refine (laws_eqByteS.calls k _ _ t10 _ _ t5 true _ ?side1 ?side2 ?side3 ?side4 A10_.out).mono ?_); (case side1 => repeat (first | exact (Kd.Y_reads' HO110.out).2.2 | (with_reducible refine Kd.C_alloc ?_ _) | (with_reducible refine Kd.C_drewN ?_ _) | (with_reducible refine Kd.C_drew ?_))); (case side2 => exact (Kd.Y_reads' HO110.out).2.1); (case side3 => repeat (first | exact (Kd.Y_reads' HO105.out).2.2 | (with_reducible refine Kd.C_alloc ?_ _) | (with_reducible refine Kd.C_drewN ?_ _) | (with_reducible refine Kd.C_drew ?_))); (case side4 => exact (Kd.Y_reads' HO105.out).2.1); rintro e w13_ ⟨rfl, hb⟩; replace hb := Drawn0.below hb; have sz_ : w12_.heap.size ≤ w13_.heap.size := hb.size; have n0_ := Aside0.mk (Kd.R_below (by (with_reducible repeat (first | apply Kd.R_alloc | apply Kd.R_drewN | apply Kd.R_drew)); exact HO103.out) hb); have n1_ := Aside0.mk (Kd.Y_below (by (with_reducible repeat (first | apply Kd.Y_alloc | apply Kd.Y_drewN | apply Kd.Y_drew)); exact HO105.out) hb); have n2_ := Aside0.mk (Kd.Y_below (by (with_reducible repeat (first | apply Kd.Y_alloc | apply Kd.Y_drewN | apply Kd.Y_drew)); exact HO110.out) hb); have n3_ := Aside0.mk (Kd.R_below (by (with_reducible repeat (first | apply Kd.R_alloc | apply Kd.R_drewN | apply Kd.R_drew)); exact HO114.out) hb); have n4_ := Aside0.mk (blk_below (g := g1_) (o := .cells #[.string a0_0, .slice A0_1 l0_1.length c0_1, .int .i64 a0_2] 24 (0, 0)) (by (with_reducible repeat (first | refine blk_drewN ?_ _ | refine blk_drew ?_ | refine blk_alloc ?_ _)); exact BK1.out) hb); have n5_ := Aside0.mk (blk_below (g := g6_) (o := .cells #[.string t7, .slice A108 t8.length c108, .int .i64 t9] 31 (0, 0)) (by (with_reducible repeat (first | refine blk_drewN ?_ _ | refine blk_drew ?_ | refine blk_alloc ?_ _)); exact BK6.out) hb); have n6_ := Aside0.mk (below_step (by repeat (first | exact HB.out | apply below_alloc | apply pw_below_drewN | apply below_drew1)) hb); clear HO103 HO105 HO110 HO114 BK1 BK6 HB; have HO103 := n0_; have HO105 := n1_; have HO110 := n2_; have HO114 := n3_; have BK1 := n4_; have BK6 := n5_; have HB := n6_; clear n0_ n1_ n2_ n3_ n4_ n5_ n6_; have SZ13 := Aside0.mk sz_; clear sz_ hb) | ((with_reducible refine gate_callee (f := 14) rfl ?_); refine goesL_ (some 64) rfl rfl Tryd.func14 (by kernel_rfl) rfl #[.slice A110 t10.length c110, .int .i64 1] rfl (by (try simp only [List.map_toArray, List.map_cons, List.map_nil]); first | done | rfl | (simp only [List.length_drop, List.length_take]; rfl)) ?_; (with_reducible refine (laws_markByteS.calls k (Mine w7_.heap.size w8_ (5 :: ((Kd.int .u8)).E)) _ t10 1 t20 t21 w _ ?sideB ?side1 A11_.out).mono ?_); (case sideB => exact (by repeat (first | exact HB.out | apply below_alloc | apply pw_below_drewN | apply below_drew1))); (case side1 => exact (by (with_reducible repeat (first | apply Kd.Y_alloc | apply Kd.Y_drewN | apply Kd.Y_drew)); exact HO110.out)); rintro e w14_ ⟨rfl, hk110, hb, hkp⟩; refine ⟨_, rfl, ?_⟩; have sz_ : w13_.heap.size ≤ w14_.heap.size := hkp.1; have n0_ := Aside0.mk (Kd.R_kept (by (with_reducible repeat (first | apply Kd.R_alloc | apply Kd.R_drewN | apply Kd.R_drew)); exact HO103.out) hkp (fun k_ h1 => (fun h2 => mine_lt h1 h2 (Nat.le_trans (Nat.le_trans (Nat.le_trans SZ4.out SZ5.out) SZ6.out) SZ7.out)))); have n1_ := Aside0.mk (Kd.Y_kept (by (with_reducible repeat (first | apply Kd.Y_alloc | apply Kd.Y_drewN | apply Kd.Y_drew)); exact HO105.out) hkp (fun k_ h1 => (fun h2 => mine_lt h1 h2 (Nat.le_trans (Nat.le_trans SZ5.out SZ6.out) SZ7.out)))); have n2_ := Aside0.mk (Kd.R_kept (by (with_reducible repeat (first | apply Kd.R_alloc | apply Kd.R_drewN | apply Kd.R_drew)); exact HO114.out) hkp (fun k_ h1 => (fun h2 => mine_lt h2 h1 SZ9.out))); have n3_ := Aside0.mk (Kd.Y_mono (ok' := fun _ => True) hk110 (fun _ _ => trivial)); have n4_ := Aside0.mk (blk_kept (g := g1_) (o := .cells #[.string a0_0, .slice A0_1 l0_1.length c0_1, .int .i64 a0_2] 24 (0, 0)) (by (with_reducible repeat (first | refine blk_drewN ?_ _ | refine blk_drew ?_ | refine blk_alloc ?_ _)); exact BK1.out) hkp (fun h2 => mine_old h2 GL1.out (Nat.le_trans (Nat.le_trans (Nat.le_trans (Nat.le_trans (Nat.le_trans SZ2.out SZ3.out) SZ4.out) SZ5.out) SZ6.out) SZ7.out))); have n5_ := Aside0.mk (blk_kept (g := g6_) (o := .cells #[.string t7, .slice A108 t8.length c108, .int .i64 t9] 31 (0, 0)) (by (with_reducible repeat (first | refine blk_drewN ?_ _ | refine blk_drew ?_ | refine blk_alloc ?_ _)); exact BK6.out) hkp (fun h2 => mine_old h2 GL6.out SZ7.out)); have n6_ := Aside0.mk (hb); clear HO103 HO105 HO114 HO110 BK1 BK6 HB; have HO103 := n0_; have HO105 := n1_; have HO114 := n2_; have HO110 := n3_; have BK1 := n4_; have BK6 := n5_; have HB := n6_; clear n0_ n1_ n2_ n3_ n4_ n5_ n6_; have SZ14 := Aside0.mk sz_; clear sz_ hb hkp hk110; have hl110 : t10.length = t21.length := (Kd.Y_reads' HO110.out).1; rw [hl110] at HO110 ; (try rw [hl110]); clear hl110) | ((with_reducible refine gate_callee (f := 15) rfl ?_); refine goesL_ (some 67) rfl rfl Tryd.func15 (by kernel_rfl) rfl #[.slice A110 t21.length c110, .int .i64 1] rfl (by (try simp only [List.map_toArray, List.map_cons, List.map_nil]); first | done | rfl | (simp only [List.length_drop, List.length_take]; rfl)) ?_; (with_reducible refine (laws_heldByteS.calls k _ _ t21 1 t22 _ ?side1 ?side2 A12_.out).mono ?_); (case side1 => repeat (first | exact (Kd.Y_reads' HO110.out).2.2 | (with_reducible refine Kd.C_alloc ?_ _) | (with_reducible refine Kd.C_drewN ?_ _) | (with_reducible refine Kd.C_drew ?_))); (case side2 => exact (Kd.Y_reads' HO110.out).2.1); rintro e w15_ ⟨rfl, hb⟩; refine ⟨_, rfl, ?_⟩; replace hb := Drawn0.below hb; have sz_ : w14_.heap.size ≤ w15_.heap.size := hb.size; have n0_ := Aside0.mk (Kd.R_below (by (with_reducible repeat (first | apply Kd.R_alloc | apply Kd.R_drewN | apply Kd.R_drew)); exact HO103.out) hb); have n1_ := Aside0.mk (Kd.Y_below (by (with_reducible repeat (first | apply Kd.Y_alloc | apply Kd.Y_drewN | apply Kd.Y_drew)); exact HO105.out) hb); have n2_ := Aside0.mk (Kd.Y_below (by (with_reducible repeat (first | apply Kd.Y_alloc | apply Kd.Y_drewN | apply Kd.Y_drew)); exact HO110.out) hb); have n3_ := Aside0.mk (Kd.R_below (by (with_reducible repeat (first | apply Kd.R_alloc | apply Kd.R_drewN | apply Kd.R_drew)); exact HO114.out) hb); have n4_ := Aside0.mk (blk_below (g := g1_) (o := .cells #[.string a0_0, .slice A0_1 l0_1.length c0_1, .int .i64 a0_2] 24 (0, 0)) (by (with_reducible repeat (first | refine blk_drewN ?_ _ | refine blk_drew ?_ | refine blk_alloc ?_ _)); exact BK1.out) hb); have n5_ := Aside0.mk (blk_below (g := g6_) (o := .cells #[.string t7, .slice A108 t8.length c108, .int .i64 t9] 31 (0, 0)) (by (with_reducible repeat (first | refine blk_drewN ?_ _ | refine blk_drew ?_ | refine blk_alloc ?_ _)); exact BK6.out) hb); have n6_ := Aside0.mk (below_step (by repeat (first | exact HB.out | apply below_alloc | apply pw_below_drewN | apply below_drew1)) hb); clear HO103 HO105 HO110 HO114 BK1 BK6 HB; have HO103 := n0_; have HO105 := n1_; have HO110 := n2_; have HO114 := n3_; have BK1 := n4_; have BK6 := n5_; have HB := n6_; clear n0_ n1_ n2_ n3_ n4_ n5_ n6_; have SZ15 := Aside0.mk sz_; clear sz_ hb ; have hc15_1_0 : w15_.cell? ⟨g1_, 0, none⟩ = some (.string a0_0) := (blk_cell BK1.out 0).trans rfl; have hc15_1_1 : w15_.cell? ⟨g1_, 1, none⟩ = some (.slice A0_1 l0_1.length c0_1) := (blk_cell BK1.out 1).trans rfl; have hc15_1_2 : w15_.cell? ⟨g1_, 2, none⟩ = some (.int .i64 a0_2) := (blk_cell BK1.out 2).trans rfl) | ((with_reducible refine gate_callee (f := 9) rfl ?_); refine goesL_ (some 75) rfl rfl Tryd.func9 (by kernel_rfl) rfl #[.agg #[.string a0_0, .slice A0_1 l0_1.length c0_1, .int .i64 a0_2]] rfl (by (try simp only [List.map_toArray, List.map_cons, List.map_nil]); first | done | rfl | (simp only [List.length_drop, List.length_take]; rfl)) ?_; (with_reducible refine (laws_toKey.calls k a0_0 _ _ l0_1 a0_2 t23 t24 t25 _ ?side1 ?side2 A13_.out).mono ?_); (case side1 => repeat (first | exact (Kd.C_below HR0_1.out HB.out) | (with_reducible refine Kd.C_alloc ?_ _) | (with_reducible refine Kd.C_drewN ?_ _) | (with_reducible refine Kd.C_drew ?_))); (case side2 => exact HC0_1.out); rintro e w16_ ⟨v124, rfl, ho124, hb⟩; refine ⟨_, rfl, ?_⟩; have sz_ : w15_.heap.size ≤ w16_.heap.size := hb.size; (try clear hc15_1_0); (try clear hc15_1_1); (try clear hc15_1_2); have n0_ := Aside0.mk (Kd.R_below (by (with_reducible repeat (first | apply Kd.R_alloc | apply Kd.R_drewN | apply Kd.R_drew)); exact HO103.out) hb); have n1_ := Aside0.mk (Kd.Y_below (by (with_reducible repeat (first | apply Kd.Y_alloc | apply Kd.Y_drewN | apply Kd.Y_drew)); exact HO105.out) hb); have n2_ := Aside0.mk (Kd.Y_below (by (with_reducible repeat (first | apply Kd.Y_alloc | apply Kd.Y_drewN | apply Kd.Y_drew)); exact HO110.out) hb); have n3_ := Aside0.mk (Kd.R_below (by (with_reducible repeat (first | apply Kd.R_alloc | apply Kd.R_drewN | apply Kd.R_drew)); exact HO114.out) hb); have n4_ := Aside0.mk (blk_below (g := g1_) (o := .cells #[.string a0_0, .slice A0_1 l0_1.length c0_1, .int .i64 a0_2] 24 (0, 0)) (by (with_reducible repeat (first | refine blk_drewN ?_ _ | refine blk_drew ?_ | refine blk_alloc ?_ _)); exact BK1.out) hb); have n5_ := Aside0.mk (blk_below (g := g6_) (o := .cells #[.string t7, .slice A108 t8.length c108, .int .i64 t9] 31 (0, 0)) (by (with_reducible repeat (first | refine blk_drewN ?_ _ | refine blk_drew ?_ | refine blk_alloc ?_ _)); exact BK6.out) hb); have n6_ := Aside0.mk (below_step (by repeat (first | exact HB.out | apply below_alloc | apply pw_below_drewN | apply below_drew1)) hb); have n7_ := Aside0.mk (mineR ho124 (show _ = w15_.heap.size from rfl) (below_size (by repeat (first | exact HB.out | apply below_alloc | apply pw_below_drewN | apply below_drew1)))); clear HO103 HO105 HO110 HO114 BK1 BK6 HB; have HO103 := n0_; have HO105 := n1_; have HO110 := n2_; have HO114 := n3_; have BK1 := n4_; have BK6 := n5_; have HB := n6_; have HO124 := n7_; clear n0_ n1_ n2_ n3_ n4_ n5_ n6_ n7_; have SZ16 := Aside0.mk sz_; clear sz_ hb ho124; obtain ⟨A124, c124, eo124⟩ := Kd.R_slice HO124.out; subst eo124) | ((with_reducible refine gate_callee (f := 10) rfl ?_); refine goesL_ (some 76) rfl rfl Tryd.func10 (by kernel_rfl) rfl #[.agg #[.string t23, .slice A124 t24.length c124, .int .i64 t25]] rfl (by (try simp only [List.map_toArray, List.map_cons, List.map_nil]); first | done | rfl | (simp only [List.length_drop, List.length_take]; rfl)) ?_; (with_reducible refine (impl_KeyBytes.calls k t23 _ _ t24 t25 t26 t27 _ ?side1 ?side2 A14_.out).mono ?_); (case side1 => repeat (first | exact (Kd.R_reads' HO124.out).2.2 | (with_reducible refine Kd.C_alloc ?_ _) | (with_reducible refine Kd.C_drewN ?_ _) | (with_reducible refine Kd.C_drew ?_))); (case side2 => exact (Kd.R_reads' HO124.out).2.1); rintro e w17_ ⟨v126, rfl, ho126, hb⟩; refine ⟨_, rfl, ?_⟩; have sz_ : w16_.heap.size ≤ w17_.heap.size := hb.size; have n0_ := Aside0.mk (Kd.R_below (by (with_reducible repeat (first | apply Kd.R_alloc | apply Kd.R_drewN | apply Kd.R_drew)); exact HO103.out) hb); have n1_ := Aside0.mk (Kd.Y_below (by (with_reducible repeat (first | apply Kd.Y_alloc | apply Kd.Y_drewN | apply Kd.Y_drew)); exact HO105.out) hb); have n2_ := Aside0.mk (Kd.Y_below (by (with_reducible repeat (first | apply Kd.Y_alloc | apply Kd.Y_drewN | apply Kd.Y_drew)); exact HO110.out) hb); have n3_ := Aside0.mk (Kd.R_below (by (with_reducible repeat (first | apply Kd.R_alloc | apply Kd.R_drewN | apply Kd.R_drew)); exact HO114.out) hb); have n4_ := Aside0.mk (Kd.R_below (by (with_reducible repeat (first | apply Kd.R_alloc | apply Kd.R_drewN | apply Kd.R_drew)); exact HO124.out) hb); have n5_ := Aside0.mk (blk_below (g := g1_) (o := .cells #[.string a0_0, .slice A0_1 l0_1.length c0_1, .int .i64 a0_2] 24 (0, 0)) (by (with_reducible repeat (first | refine blk_drewN ?_ _ | refine blk_drew ?_ | refine blk_alloc ?_ _)); exact BK1.out) hb); have n6_ := Aside0.mk (blk_below (g := g6_) (o := .cells #[.string t7, .slice A108 t8.length c108, .int .i64 t9] 31 (0, 0)) (by (with_reducible repeat (first | refine blk_drewN ?_ _ | refine blk_drew ?_ | refine blk_alloc ?_ _)); exact BK6.out) hb); have n7_ := Aside0.mk (below_step (by repeat (first | exact HB.out | apply below_alloc | apply pw_below_drewN | apply below_drew1)) hb); have n8_ := Aside0.mk (mineY ho126 (show _ = w16_.heap.size from rfl) (below_size (by repeat (first | exact HB.out | apply below_alloc | apply pw_below_drewN | apply below_drew1)))); clear HO103 HO105 HO110 HO114 HO124 BK1 BK6 HB; have HO103 := n0_; have HO105 := n1_; have HO110 := n2_; have HO114 := n3_; have HO124 := n4_; have BK1 := n5_; have BK6 := n6_; have HB := n7_; have HO126 := n8_; clear n0_ n1_ n2_ n3_ n4_ n5_ n6_ n7_ n8_; have SZ17 := Aside0.mk sz_; clear sz_ hb ho126; obtain ⟨A126, c126, eo126⟩ := Kd.Y_slice HO126.out; subst eo126) | ((with_reducible refine gate_callee (f := 11) rfl ?_); refine goesL_ (some 81) rfl rfl Tryd.func11 (by kernel_rfl) rfl #[.slice A126 t26.length c126, .slice A105 t5.length c105] rfl (by (try simp only [List.map_toArray, List.map_cons, List.map_nil]); first | done | rfl | (simp only [List.length_drop, List.length_take]; rfl)) ?_; (with_reducible refine (laws_eqByteS.calls k _ _ t26 _ _ t5 true _ ?side1 ?side2 ?side3 ?side4 A15_.out).mono ?_); (case side1 => repeat (first | exact (Kd.Y_reads' HO126.out).2.2 | (with_reducible refine Kd.C_alloc ?_ _) | (with_reducible refine Kd.C_drewN ?_ _) | (with_reducible refine Kd.C_drew ?_))); (case side2 => exact (Kd.Y_reads' HO126.out).2.1); (case side3 => repeat (first | exact (Kd.Y_reads' HO105.out).2.2 | (with_reducible refine Kd.C_alloc ?_ _) | (with_reducible refine Kd.C_drewN ?_ _) | (with_reducible refine Kd.C_drew ?_))); (case side4 => exact (Kd.Y_reads' HO105.out).2.1); rintro e w18_ ⟨rfl, hb⟩; refine ⟨_, rfl, ?_⟩; replace hb := Drawn0.below hb; have sz_ : w17_.heap.size ≤ w18_.heap.size := hb.size; have n0_ := Aside0.mk (Kd.R_below (by (with_reducible repeat (first | apply Kd.R_alloc | apply Kd.R_drewN | apply Kd.R_drew)); exact HO103.out) hb); have n1_ := Aside0.mk (Kd.Y_below (by (with_reducible repeat (first | apply Kd.Y_alloc | apply Kd.Y_drewN | apply Kd.Y_drew)); exact HO105.out) hb); have n2_ := Aside0.mk (Kd.Y_below (by (with_reducible repeat (first | apply Kd.Y_alloc | apply Kd.Y_drewN | apply Kd.Y_drew)); exact HO110.out) hb); have n3_ := Aside0.mk (Kd.R_below (by (with_reducible repeat (first | apply Kd.R_alloc | apply Kd.R_drewN | apply Kd.R_drew)); exact HO114.out) hb); have n4_ := Aside0.mk (Kd.R_below (by (with_reducible repeat (first | apply Kd.R_alloc | apply Kd.R_drewN | apply Kd.R_drew)); exact HO124.out) hb); have n5_ := Aside0.mk (Kd.Y_below (by (with_reducible repeat (first | apply Kd.Y_alloc | apply Kd.Y_drewN | apply Kd.Y_drew)); exact HO126.out) hb); have n6_ := Aside0.mk (blk_below (g := g1_) (o := .cells #[.string a0_0, .slice A0_1 l0_1.length c0_1, .int .i64 a0_2] 24 (0, 0)) (by (with_reducible repeat (first | refine blk_drewN ?_ _ | refine blk_drew ?_ | refine blk_alloc ?_ _)); exact BK1.out) hb); have n7_ := Aside0.mk (blk_below (g := g6_) (o := .cells #[.string t7, .slice A108 t8.length c108, .int .i64 t9] 31 (0, 0)) (by (with_reducible repeat (first | refine blk_drewN ?_ _ | refine blk_drew ?_ | refine blk_alloc ?_ _)); exact BK6.out) hb); have n8_ := Aside0.mk (below_step (by repeat (first | exact HB.out | apply below_alloc | apply pw_below_drewN | apply below_drew1)) hb); clear HO103 HO105 HO110 HO114 HO124 HO126 BK1 BK6 HB; have HO103 := n0_; have HO105 := n1_; have HO110 := n2_; have HO114 := n3_; have HO124 := n4_; have HO126 := n5_; have BK1 := n6_; have BK6 := n7_; have HB := n8_; clear n0_ n1_ n2_ n3_ n4_ n5_ n6_ n7_ n8_; have SZ18 := Aside0.mk sz_; clear sz_ hb) | ((with_reducible refine gate_callee (f := 15) rfl ?_); refine goesL_ (some 90) rfl rfl Tryd.func15 (by kernel_rfl) rfl #[.slice A110 t21.length c110, .int .i64 1] rfl (by (try simp only [List.map_toArray, List.map_cons, List.map_nil]); first | done | rfl | (simp only [List.length_drop, List.length_take]; rfl)) ?_; (with_reducible refine (laws_heldByteS.calls k _ _ t21 1 t29 _ ?side1 ?side2 A16_.out).mono ?_); (case side1 => repeat (first | exact (Kd.Y_reads' HO110.out).2.2 | (with_reducible refine Kd.C_alloc ?_ _) | (with_reducible refine Kd.C_drewN ?_ _) | (with_reducible refine Kd.C_drew ?_))); (case side2 => exact (Kd.Y_reads' HO110.out).2.1); rintro e w19_ ⟨rfl, hb⟩; refine ⟨_, rfl, ?_⟩; replace hb := Drawn0.below hb; have sz_ : w18_.heap.size ≤ w19_.heap.size := hb.size; have n0_ := Aside0.mk (Kd.R_below (by (with_reducible repeat (first | apply Kd.R_alloc | apply Kd.R_drewN | apply Kd.R_drew)); exact HO103.out) hb); have n1_ := Aside0.mk (Kd.Y_below (by (with_reducible repeat (first | apply Kd.Y_alloc | apply Kd.Y_drewN | apply Kd.Y_drew)); exact HO105.out) hb); have n2_ := Aside0.mk (Kd.Y_below (by (with_reducible repeat (first | apply Kd.Y_alloc | apply Kd.Y_drewN | apply Kd.Y_drew)); exact HO110.out) hb); have n3_ := Aside0.mk (Kd.R_below (by (with_reducible repeat (first | apply Kd.R_alloc | apply Kd.R_drewN | apply Kd.R_drew)); exact HO114.out) hb); have n4_ := Aside0.mk (Kd.R_below (by (with_reducible repeat (first | apply Kd.R_alloc | apply Kd.R_drewN | apply Kd.R_drew)); exact HO124.out) hb); have n5_ := Aside0.mk (Kd.Y_below (by (with_reducible repeat (first | apply Kd.Y_alloc | apply Kd.Y_drewN | apply Kd.Y_drew)); exact HO126.out) hb); have n6_ := Aside0.mk (blk_below (g := g1_) (o := .cells #[.string a0_0, .slice A0_1 l0_1.length c0_1, .int .i64 a0_2] 24 (0, 0)) (by (with_reducible repeat (first | refine blk_drewN ?_ _ | refine blk_drew ?_ | refine blk_alloc ?_ _)); exact BK1.out) hb); have n7_ := Aside0.mk (blk_below (g := g6_) (o := .cells #[.string t7, .slice A108 t8.length c108, .int .i64 t9] 31 (0, 0)) (by (with_reducible repeat (first | refine blk_drewN ?_ _ | refine blk_drew ?_ | refine blk_alloc ?_ _)); exact BK6.out) hb); have n8_ := Aside0.mk (below_step (by repeat (first | exact HB.out | apply below_alloc | apply pw_below_drewN | apply below_drew1)) hb); clear HO103 HO105 HO110 HO114 HO124 HO126 BK1 BK6 HB; have HO103 := n0_; have HO105 := n1_; have HO110 := n2_; have HO114 := n3_; have HO124 := n4_; have HO126 := n5_; have BK1 := n6_; have BK6 := n7_; have HB := n8_; clear n0_ n1_ n2_ n3_ n4_ n5_ n6_ n7_ n8_; have SZ19 := Aside0.mk sz_; clear sz_ hb))
    go_ret
    exact ⟨by first | rfl | (simp; done), (by repeat (first | exact HB.out | apply below_alloc | apply pw_below_drewN | apply below_drew1))⟩
  · rw [if_neg hcond] at h
    cases h

/-- What the form's reading tells of a value of type 104. -/
def G104 (a : S104) : Prop := a.f0.size ≤ maxLen ∧ a.f1.size ≤ maxLen
/-- THE ONE PURE STATEMENT of laws_FnExactKeyBytes. -/
def laws_FnExactKeyBytes.Pure : Prop := ∀ (a0_0 : ByteArray) (l0_1 : List (S104)) (a0_2 : Int), a0_0.size ≤ maxLen → (l0_1.length ≤ maxLen ∧ ∀ x ∈ l0_1, G104 x) → (Lit.int .i64 a0_2).wf = true → ∃ k, laws_FnExactKeyBytes.f k a0_0 l0_1 a0_2 = some true

end Go.Proofs.YtodblpadklheaaaDoor.PFnExactKeyBytes
