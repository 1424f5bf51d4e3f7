-- Written for this claim by a program of this session: a scratch copy of the kit's print with patches of this session.
import Derived.Test.YtolpkckaijeahaaPFnExactReadLogx0
import Derived.Test.YtolpkckaijeahaaPFnExactReadLogx1
namespace Go.Proofs.Ytolpkckaijeahaa.PFnExactReadLog
open Go.RowKit Go.Proofs.YtolpkckaijeahaaW.PrintWords Go.Proofs.YtolpkckaijeahaaW.PrintLast Go.Proofs.YtolpkckaijeahaaW.PrintMore
attribute [local go_sem] max2_int min2_int max_two min_two max_three min_three max_four min_four hw_string_geq hw_string_gtr hw_string_leq   -- for this text's walks alone
set_option linter.unusedVariables false
set_option linter.unusedSimpArgs false

/-! ### spec_l1Number: function 121 -/
def spec_l1Number.l0 : Nat → Int → List Int → Int → Int → Option (Int)
  | 0, _, _, _, _ => none
  | k + 1, x3, x6, x7, x8 => if x8 < x7 then (if 0 ≤ x8 then (if x8 < (x6.length : Int) then (spec_l1Number.l0 k (Go.bits .or .i64 (wrap64 (x3 * 256)) (wrap64 (rd x6 x8))) x6 x7 (wrap64 (x8 + 1))) else (none)) else (none)) else (some x3)
def spec_l1Number.f (k : Nat) (l0 : List Int) : Option (Int) := spec_l1Number.l0 k 0 l0 (l0.length : Int) 0
theorem spec_l1Number.mono_l : ∀ k, (∀ y0 y1 y2 y3, LeO (spec_l1Number.l0 k y0 y1 y2 y3) (spec_l1Number.l0 (k + 1) y0 y1 y2 y3))
  | 0 => fun _ _ _ _ r h => by simp [spec_l1Number.l0] at h
  | k + 1 => by
    have ih0 := spec_l1Number.mono_l k
    · intro y0 y1 y2 y3
      unfold spec_l1Number.l0
      repeat' first
      | (with_reducible exact ih0 _ _ _ _)
      | (with_reducible exact LeO.refl _)
      | (with_reducible exact LeO.none _)
      | (with_reducible refine LeO.ite ?_ ?_)
      | (with_reducible refine LeO.bind ?_ (fun _ => ?_))
      | exact ih0 _ _ _ _
      | exact LeO.none _
      | refine LeO.ite ?_ ?_
      | refine LeO.bind ?_ (fun _ => ?_)
theorem spec_l1Number.mono : ∀ a0 k, LeO (spec_l1Number.f k a0) (spec_l1Number.f (k + 1) a0) := by
  intro a0 k
  have ih0 := spec_l1Number.mono_l k
  unfold spec_l1Number.f
  repeat' first
      | (with_reducible exact ih0 _ _ _ _)
      | (with_reducible exact LeO.refl _)
      | (with_reducible exact LeO.none _)
      | (with_reducible refine LeO.ite ?_ ?_)
      | (with_reducible refine LeO.bind ?_ (fun _ => ?_))
      | exact ih0 _ _ _ _
      | exact LeO.none _
      | refine LeO.ite ?_ ?_
      | refine LeO.bind ?_ (fun _ => ?_)
set_option maxHeartbeats 8000000 in
set_option maxRecDepth 100000 in
theorem spec_l1Number.calls (k : Nat) (A0 : Option Addr) (c0 : Nat) (l0 : List Int) (r : Int) (w : World) (hr0 : Kd.C (Kd.int .u8) w A0 l0.length l0) (hc0 : l0.length ≤ c0) (h : spec_l1Number.f k l0 = some r) :
    Calls Try.prog 121 #[.slice A0 l0.length c0] w fun e w' => e = .returned (.int .i64 r) ∧ Drawn0 w w' := by
  have HR0 := Aside0.mk hr0
  have HC0 := Aside0.mk hc0
  clear hr0 hc0
  have H : (spec_l1Number.l0 k 0 l0 (l0.length : Int) 0) = some r := h
  clear h
  have H' := Aside0.mk H
  clear H
  go_enter Try.func121, Try.ntmps121
  go_wp2
  go_loopg [3, 8] k (fun kq v3 v8 w' => ∃ (x3_1 : Int) (x8_1 : Int), v3 = .int .i64 x3_1 ∧ v8 = .int .i64 x8_1 ∧ Aside0 (spec_l1Number.l0 kq x3_1 l0 (l0.length : Int) x8_1 = some r) ∧ Aside0 (kq ≤ k) ∧ Drawn0 w w')
  case atStart => exact ⟨(0), (0), (by first | rfl | (simp; done) | (simp [*]; done)), (by first | rfl | (simp; done) | (simp [*]; done)), H', ⟨Nat.le_refl _⟩, by repeat (first | exact Drawn0.refl _ | apply Drawn0.step)⟩
  case round =>
    clear H'
    try clear c1
    obtain ⟨x3_1, x8_1, rfl, rfl, HA, HK1, ⟨m1, rfl⟩⟩ := hrel
    cases gk with
    | zero => exact absurd HA.out (by simp [spec_l1Number.l0])
    | succ k1 =>
      have H := HA.out
      clear HA
      simp only [spec_l1Number.l0] at H
      by_cases c2 : x8_1 < (l0.length : Int)
      · rw [if_pos c2] at H
        have c2b0 : decide (x8_1 < (l0.length : Int)) = true := decide_eq_true c2
        clear c2
        by_cases c3 : 0 ≤ x8_1
        · rw [if_pos c3] at H
          have c3b0 : decide (0 ≤ x8_1) = true := decide_eq_true c3
          clear c3
          by_cases c4 : x8_1 < (l0.length : Int)
          · rw [if_pos c4] at H
            have c4b0 : decide (x8_1 < (l0.length : Int)) = true := decide_eq_true c4
            clear c4
            have H' := Aside0.mk H
            clear H
            have p113 : 0 ≤ (x8_1 : Int) := of_decide_eq_true (by first | (with_reducible assumption) | assumption)
            have q113 : x8_1 < (l0.length : Int) := of_decide_eq_true (by first | (with_reducible assumption) | assumption)
            obtain ⟨ad113, e113, hx113_0⟩ := Kd.at_int HR0.out x8_1 p113 q113
            cases e113
            replace p113 := eq_true p113
            replace q113 := eq_true q113
            go_wp2
            go_roundg k1
            case measure => have := HK1.out; omega
            case rel => exact ⟨(Go.bits .or .i64 (wrap64 (x3_1 * 256)) (wrap64 (rd l0 x8_1))), (wrap64 (x8_1 + 1)), (by first | rfl | (simp; done) | (simp [*]; done)), (by first | rfl | (simp; done) | (simp [*]; done)), H', ⟨by have := HK1.out; omega⟩, by repeat (first | exact Drawn0.refl _ | apply Drawn0.step)⟩
          · rw [if_neg c4] at H
            exact absurd H (by simp)
        · rw [if_neg c3] at H
          exact absurd H (by simp)
      · rw [if_neg c2] at H
        have c2b0 : decide (x8_1 < (l0.length : Int)) = false := decide_eq_false c2
        clear c2
        obtain rfl := Option.some.inj H
        go_wp2
        go_ret
        exact ⟨by first | rfl | (simp; done) | (simp [*]; done), by repeat (first | exact Drawn0.refl _ | apply Drawn0.step)⟩

/-! ### spec_l3Piece: function 113 -/
def spec_l3Piece.j0 : Nat → List Int → Int → Int → Bool → Option (Int × List Int × Int)
  | 0, _, _, _, _ => none
  | k + 1, x0, x1, x8, x36 => if x36 = true then (some (0, ([] : List Int), 0)) else (if 0 ≤ (wrap64 (x1 + 5)) then (if (wrap64 (x1 + 5)) ≤ (wrap64 ((wrap64 (x1 + 6)) + x8)) then (if (wrap64 ((wrap64 (x1 + 6)) + x8)) ≤ (x0.length : Int) then ((some ((x0.take ((wrap64 ((wrap64 (x1 + 6)) + x8)) : Int).toNat).drop ((wrap64 (x1 + 5)) : Int).toNat : List Int)).bind fun y115 => ((spec_l1Crc.f k y115).bind fun t120 => (if 0 ≤ x1 then (if x1 ≤ (wrap64 (x1 + 4)) then (if (wrap64 (x1 + 4)) ≤ (x0.length : Int) then ((spec_l1Number.f k ((x0.take ((wrap64 (x1 + 4)) : Int).toNat).drop (x1 : Int).toNat)).bind fun t126 => (if (wrap64 (t120)) = t126 then (if 0 < (y115.length : Int) then ((spec_l1In.f (wrap64 (rd y115 0)) 1 4).bind fun t128 => (if t128 = true then (if 1 ≤ (y115.length : Int) then (some (wrap64 (rd y115 0), (y115.drop 1), wrap64 ((wrap64 (x1 + 6)) + x8))) else (none)) else (some (0, ([] : List Int), 0)))) else (none)) else (some (0, ([] : List Int), 0)))) else (none)) else (none)) else (none)))) else (none)) else (none)) else (none))
def spec_l3Piece.f (k : Nat) (l0 : List Int) (a1 : Int) : Option (Int × List Int × Int) := if (wrap64 (a1 + 6)) > (l0.length : Int) then (some (0, ([] : List Int), 0)) else (if 0 ≤ (wrap64 (a1 + 4)) then (if (wrap64 (a1 + 4)) < (l0.length : Int) then (if (wrap64 (6 + (wrap64 (rd l0 (wrap64 (a1 + 4)))))) > (wrap64 (64 - (Int.tmod a1 64))) then (spec_l3Piece.j0 k l0 a1 (wrap64 (rd l0 (wrap64 (a1 + 4)))) true) else (spec_l3Piece.j0 k l0 a1 (wrap64 (rd l0 (wrap64 (a1 + 4)))) (decide ((wrap64 ((wrap64 (a1 + 6)) + (wrap64 (rd l0 (wrap64 (a1 + 4)))))) > (l0.length : Int))))) else (none)) else (none))
theorem spec_l3Piece.mono_l : ∀ k, (∀ y0 y1 y2 y3, LeO (spec_l3Piece.j0 k y0 y1 y2 y3) (spec_l3Piece.j0 (k + 1) y0 y1 y2 y3))
  | 0 => fun _ _ _ _ r h => by simp [spec_l3Piece.j0] at h
  | k + 1 => by
    have ih0 := spec_l3Piece.mono_l k
    · intro y0 y1 y2 y3
      unfold spec_l3Piece.j0
      repeat' first
      | (with_reducible exact ih0 _ _ _ _)
      | (with_reducible exact spec_l1Crc.mono _ _)
      | (with_reducible exact spec_l1Number.mono _ _)
      | (with_reducible exact LeO.refl _)
      | (with_reducible exact LeO.none _)
      | (with_reducible refine LeO.ite ?_ ?_)
      | (with_reducible refine LeO.bind ?_ (fun _ => ?_))
      | exact ih0 _ _ _ _
      | exact spec_l1Crc.mono _ _
      | exact spec_l1Number.mono _ _
      | exact LeO.none _
      | refine LeO.ite ?_ ?_
      | refine LeO.bind ?_ (fun _ => ?_)
theorem spec_l3Piece.mono : ∀ a0 a1 k, LeO (spec_l3Piece.f k a0 a1) (spec_l3Piece.f (k + 1) a0 a1) := by
  intro a0 a1 k
  have ih0 := spec_l3Piece.mono_l k
  unfold spec_l3Piece.f
  repeat' first
      | (with_reducible exact ih0 _ _ _ _)
      | (with_reducible exact spec_l1Crc.mono _ _)
      | (with_reducible exact spec_l1Number.mono _ _)
      | (with_reducible exact LeO.refl _)
      | (with_reducible exact LeO.none _)
      | (with_reducible refine LeO.ite ?_ ?_)
      | (with_reducible refine LeO.bind ?_ (fun _ => ?_))
      | exact ih0 _ _ _ _
      | exact spec_l1Crc.mono _ _
      | exact spec_l1Number.mono _ _
      | exact LeO.none _
      | refine LeO.ite ?_ ?_
      | refine LeO.bind ?_ (fun _ => ?_)
set_option maxHeartbeats 8000000 in
set_option maxRecDepth 100000 in
theorem spec_l3Piece.calls (k : Nat) (P0_ : Nat → Prop) (A0 : Option Addr) (c0 : Nat) (l0 : List Int) (a1 : Int) (r1 : Int) (r2 : List Int) (r3 : Int) (w : World) (hs0 : Kd.V (Kd.int .u8) 5 w w.heap.size (fun k_ => P0_ k_) (.slice A0 l0.length c0) l0) (h : spec_l3Piece.f k l0 a1 = some (r1, r2, r3)) :
    Calls Try.prog 113 #[.slice A0 l0.length c0, .int .i64 a1] w fun e w' => ∃ v1_ : Value, e = .returned (.tuple #[.int .i64 r1, v1_, .int .i64 r3]) ∧ Kd.V (Kd.int .u8) 5 w' w.heap.size (fun k_ => (P0_ k_ ∨ w.heap.size ≤ k_)) v1_ r2 ∧ Below w.heap.size w w' := by
  have HO0 := Aside0.mk (show Kd.V (Kd.int .u8) 5 w w.heap.size (fun k_ => (P0_ k_ ∨ w.heap.size ≤ k_)) (.slice A0 l0.length c0) l0 from Kd.V_mono hs0 (fun k_ hk => .inl hk))
  have HB := Aside0.mk (Below.refl w.heap.size w)
  have H : (if (wrap64 (a1 + 6)) > (l0.length : Int) then (some (0, ([] : List Int), 0)) else (if 0 ≤ (wrap64 (a1 + 4)) then (if (wrap64 (a1 + 4)) < (l0.length : Int) then (if (wrap64 (6 + (wrap64 (rd l0 (wrap64 (a1 + 4)))))) > (wrap64 (64 - (Int.tmod a1 64))) then (spec_l3Piece.j0 k l0 a1 (wrap64 (rd l0 (wrap64 (a1 + 4)))) true) else (spec_l3Piece.j0 k l0 a1 (wrap64 (rd l0 (wrap64 (a1 + 4)))) (decide ((wrap64 ((wrap64 (a1 + 6)) + (wrap64 (rd l0 (wrap64 (a1 + 4)))))) > (l0.length : Int))))) else (none)) else (none))) = some (r1, r2, r3) := h
  clear h
  by_cases c3 : (wrap64 (a1 + 6)) > (l0.length : Int)
  · rw [if_pos c3] at H
    have c3b0 : decide ((l0.length : Int) < (wrap64 (a1 + 6))) = true := decide_eq_true c3
    clear c3
    simp only [Option.some.injEq, Prod.mk.injEq] at H
    obtain ⟨rfl, rfl, rfl⟩ := H
    go_enter Try.func113, Try.ntmps113
    go_wp2
    repeat (go_quiet (fail); try go_wp2)
    go_ret3
    exact ⟨_, by first | rfl | (simp [errW_none, errW_some] <;> rfl) | (simp [*, errW_none, errW_some] <;> rfl), Kd.V_mono (Kd.R_V (show Kd.R (Kd.int .u8) 5 _ 0 (fun k_ => w.heap.size ≤ k_) (Value.slice none 0 0) [] from Kd.R_nil _ _ _ _ _)) (fun k_ hk => by first | exact ⟨(.inr (hk.1)), hk.2⟩ | exact (.inr (hk))), by repeat (first | (with_reducible first | exact HB.out | apply below_alloc | apply pw_below_drewN | apply below_drew1) | exact HB.out)⟩
  · rw [if_neg c3] at H
    have c3b0 : decide ((l0.length : Int) < (wrap64 (a1 + 6))) = false := decide_eq_false c3
    clear c3
    obtain ⟨ji4, hji4⟩ : ∃ j_ : Int, (wrap64 (a1 + 4)) = j_ := ⟨_, rfl⟩
    replace H : (if 0 ≤ (ji4) then (if (ji4) < (l0.length : Int) then (if (wrap64 (6 + (wrap64 (rd l0 (ji4))))) > (wrap64 (64 - (Int.tmod a1 64))) then (spec_l3Piece.j0 k l0 a1 (wrap64 (rd l0 (ji4))) true) else (spec_l3Piece.j0 k l0 a1 (wrap64 (rd l0 (ji4))) (decide ((wrap64 ((wrap64 (a1 + 6)) + (wrap64 (rd l0 (ji4))))) > (l0.length : Int))))) else (none)) else (none)) = some (r1, r2, r3) := by first | (rw [hji4] at H; exact H) | (simp only [hji4] at H ⊢; exact H)
    have hji4w : (IntKind.i64.wrap (a1 + 4)) = ji4 := (i64_w _).trans hji4
    by_cases c5 : 0 ≤ (ji4)
    · rw [if_pos c5] at H
      have c5b0 : decide (0 ≤ (ji4)) = true := decide_eq_true c5
      clear c5
      by_cases c6 : (ji4) < (l0.length : Int)
      · rw [if_pos c6] at H
        have c6b0 : decide ((ji4) < (l0.length : Int)) = true := decide_eq_true c6
        clear c6
        have HC7 := Aside0.mk H
        clear H
        have p114 : 0 ≤ ((ji4) : Int) := of_decide_eq_true (by first | (with_reducible assumption) | assumption)
        have q114 : (ji4) < (l0.length : Int) := of_decide_eq_true (by first | (with_reducible assumption) | assumption)
        obtain ⟨ad114, e114, hx114_0⟩ := Kd.at_int (Kd.V_reads' HO0.out).2.2 (ji4) p114 q114
        cases e114
        replace p114 := eq_true p114
        replace q114 := eq_true q114
        go_enter Try.func113, Try.ntmps113
        go_upto_region 5 with (fail)
        repeat (go_quiet (fail); go_upto_region 5 with (fail))
        go_cut [36] (fun v36 wc => ∃ (kq : Nat) (x36_6 : Bool), v36 = .bool x36_6 ∧ Aside0 (spec_l3Piece.j0 kq l0 a1 (wrap64 (rd l0 (ji4))) x36_6 = some (r1, r2, r3)) ∧ Aside0 (kq ≤ k) ∧ Aside0 (Kd.V (Kd.int .u8) 5 wc w.heap.size (fun k_ => (P0_ k_ ∨ w.heap.size ≤ k_)) (.slice (some ad114) l0.length c0) l0) ∧ Aside0 (Below w.heap.size w wc))
        case first =>
          have H := HC7.out
          clear HC7
          by_cases c8 : (wrap64 (6 + (wrap64 (rd l0 (ji4))))) > (wrap64 (64 - (Int.tmod a1 64)))
          · rw [if_pos c8] at H
            have c8b0 : decide ((wrap64 (64 - (Int.tmod a1 64))) < (wrap64 (6 + (wrap64 (rd l0 (ji4)))))) = true := decide_eq_true c8
            clear c8
            (first | rw [c8b0] | (simp only [i64_w, i32_w]; rw [c8b0]) | skip)
            have H' := Aside0.mk H
            clear H
            go_wp2
            repeat (go_quiet (fail); try go_wp2)
            go_meet
            case rel => exact ⟨_, (true), (by first | rfl | (simp; done) | (simp [*]; done)), H', ⟨by first | omega | exact Nat.le_refl _⟩, ⟨by (with_reducible repeat (first | apply Kd.V_alloc | apply Kd.V_drewN | apply Kd.V_drew)); exact HO0.out⟩, ⟨by repeat (first | (with_reducible first | exact HB.out | apply below_alloc | apply pw_below_drewN | apply below_drew1) | exact HB.out)⟩⟩
          · rw [if_neg c8] at H
            have c8b0 : decide ((wrap64 (64 - (Int.tmod a1 64))) < (wrap64 (6 + (wrap64 (rd l0 (ji4)))))) = false := decide_eq_false c8
            clear c8
            (first | rw [c8b0] | (simp only [i64_w, i32_w]; rw [c8b0]) | skip)
            have H' := Aside0.mk H
            clear H
            go_wp2
            repeat (go_quiet (fail); try go_wp2)
            go_meet
            case rel => exact ⟨_, (decide ((wrap64 ((wrap64 (a1 + 6)) + (wrap64 (rd l0 (ji4))))) > (l0.length : Int))), (by first | rfl | (simp; done) | (first | exact congrArg Value.bool (by assumption) | exact congrArg Value.bool (Eq.symm (by assumption)) | (simp only [← hji4] <;> (first | rfl | (simp; done)))) | (simp [*]; done)), H', ⟨by first | omega | exact Nat.le_refl _⟩, ⟨by (with_reducible repeat (first | apply Kd.V_alloc | apply Kd.V_drewN | apply Kd.V_drew)); exact HO0.out⟩, ⟨by repeat (first | (with_reducible first | exact HB.out | apply below_alloc | apply pw_below_drewN | apply below_drew1) | exact HB.out)⟩⟩
        case rest =>
          clear HC7
          try clear c1
          try clear p1
          try clear q1
          try clear hx1
          try clear p2
          try clear c3
          try clear c3b0
          try clear c5
          try clear c5b0
          try clear c6
          try clear c6b0
          try clear p6
          try clear c8
          try clear c8b0
          try clear hx114_0
          try clear p114
          try clear q114
          obtain ⟨kq, x36_6, rfl, HA, HJ6, HO_0, HB⟩ := hcut
          cases kq with
          | zero => exact absurd HA.out (by simp [spec_l3Piece.j0])
          | succ kj6 =>
            have H := HA.out
            clear HA
            simp only [spec_l3Piece.j0] at H
            by_cases c9 : x36_6 = true
            · subst c9
              have H1 : (some (0, ([] : List Int), 0)) = some (r1, r2, r3) := by rw [if_pos rfl] at H; exact H
              clear H
              have H := H1
              clear H1
              simp only [Option.some.injEq, Prod.mk.injEq] at H
              obtain ⟨rfl, rfl, rfl⟩ := H
              go_wp2
              repeat (go_quiet (fail); try go_wp2)
              go_ret3
              exact ⟨_, by first | rfl | (simp [errW_none, errW_some] <;> rfl) | (simp only [← hji4]; first | rfl | (simp [errW_none, errW_some] <;> rfl)) | (simp [*, errW_none, errW_some] <;> rfl), Kd.V_mono (Kd.R_V (show Kd.R (Kd.int .u8) 5 _ 0 (fun k_ => w.heap.size ≤ k_) (Value.slice none 0 0) [] from Kd.R_nil _ _ _ _ _)) (fun k_ hk => by first | exact ⟨(.inr (hk.1)), hk.2⟩ | exact (.inr (hk))), by repeat (first | (with_reducible first | exact HB.out | apply below_alloc | apply pw_below_drewN | apply below_drew1) | exact HB.out)⟩
            · replace c9 := Bool.eq_false_iff.mpr c9
              subst c9
              have H1 : (if 0 ≤ (wrap64 (a1 + 5)) then (if (wrap64 (a1 + 5)) ≤ (wrap64 ((wrap64 (a1 + 6)) + (wrap64 (rd l0 (ji4))))) then (if (wrap64 ((wrap64 (a1 + 6)) + (wrap64 (rd l0 (ji4))))) ≤ (l0.length : Int) then ((some ((l0.take ((wrap64 ((wrap64 (a1 + 6)) + (wrap64 (rd l0 (ji4))))) : Int).toNat).drop ((wrap64 (a1 + 5)) : Int).toNat : List Int)).bind fun y115 => ((spec_l1Crc.f kj6 y115).bind fun t120 => (if 0 ≤ a1 then (if a1 ≤ (wrap64 (a1 + 4)) then (if (wrap64 (a1 + 4)) ≤ (l0.length : Int) then ((spec_l1Number.f kj6 ((l0.take ((wrap64 (a1 + 4)) : Int).toNat).drop (a1 : Int).toNat)).bind fun t126 => (if (wrap64 (t120)) = t126 then (if 0 < (y115.length : Int) then ((spec_l1In.f (wrap64 (rd y115 0)) 1 4).bind fun t128 => (if t128 = true then (if 1 ≤ (y115.length : Int) then (some (wrap64 (rd y115 0), (y115.drop 1), wrap64 ((wrap64 (a1 + 6)) + (wrap64 (rd l0 (ji4)))))) else (none)) else (some (0, ([] : List Int), 0)))) else (none)) else (some (0, ([] : List Int), 0)))) else (none)) else (none)) else (none)))) else (none)) else (none)) else (none)) = some (r1, r2, r3) := by rw [if_neg (show ¬ (false = true) by decide)] at H; exact H
              clear H
              have H := H1
              clear H1
              obtain ⟨ji10, hji10⟩ : ∃ j_ : Int, (wrap64 (a1 + 5)) = j_ := ⟨_, rfl⟩
              replace H : (if 0 ≤ (ji10) then (if (ji10) ≤ (wrap64 ((wrap64 (a1 + 6)) + (wrap64 (rd l0 (ji4))))) then (if (wrap64 ((wrap64 (a1 + 6)) + (wrap64 (rd l0 (ji4))))) ≤ (l0.length : Int) then ((some ((l0.take ((wrap64 ((wrap64 (a1 + 6)) + (wrap64 (rd l0 (ji4))))) : Int).toNat).drop ((ji10) : Int).toNat : List Int)).bind fun y115 => ((spec_l1Crc.f kj6 y115).bind fun t120 => (if 0 ≤ a1 then (if a1 ≤ (wrap64 (a1 + 4)) then (if (wrap64 (a1 + 4)) ≤ (l0.length : Int) then ((spec_l1Number.f kj6 ((l0.take ((wrap64 (a1 + 4)) : Int).toNat).drop (a1 : Int).toNat)).bind fun t126 => (if (wrap64 (t120)) = t126 then (if 0 < (y115.length : Int) then ((spec_l1In.f (wrap64 (rd y115 0)) 1 4).bind fun t128 => (if t128 = true then (if 1 ≤ (y115.length : Int) then (some (wrap64 (rd y115 0), (y115.drop 1), wrap64 ((wrap64 (a1 + 6)) + (wrap64 (rd l0 (ji4)))))) else (none)) else (some (0, ([] : List Int), 0)))) else (none)) else (some (0, ([] : List Int), 0)))) else (none)) else (none)) else (none)))) else (none)) else (none)) else (none)) = some (r1, r2, r3) := by first | (rw [hji10] at H; exact H) | (simp only [hji10] at H ⊢; exact H)
              have hji10w : (IntKind.i64.wrap (a1 + 5)) = ji10 := (i64_w _).trans hji10
              by_cases c11 : 0 ≤ (ji10)
              · rw [if_pos c11] at H
                have c11b0 := eq_true c11
                have c11b1 : decide (0 ≤ (ji10)) = true := decide_eq_true c11
                clear c11
                by_cases c12 : (ji10) ≤ (wrap64 ((wrap64 (a1 + 6)) + (wrap64 (rd l0 (ji4)))))
                · rw [if_pos c12] at H
                  have c12b0 := eq_true c12
                  have c12b1 : decide ((ji10) ≤ (wrap64 ((wrap64 (a1 + 6)) + (wrap64 (rd l0 (ji4)))))) = true := decide_eq_true c12
                  by_cases c13 : (wrap64 ((wrap64 (a1 + 6)) + (wrap64 (rd l0 (ji4))))) ≤ (l0.length : Int)
                  · rw [if_pos c13] at H
                    have c13b0 := eq_true c13
                    have c13b1 : decide ((wrap64 ((wrap64 (a1 + 6)) + (wrap64 (rd l0 (ji4))))) ≤ (l0.length : Int)) = true := decide_eq_true c13
                    obtain ⟨y115, hy115⟩ : ∃ y_ : List Int, y_ = ((l0.take ((wrap64 ((wrap64 (a1 + 6)) + (wrap64 (rd l0 (ji4))))) : Int).toNat).drop ((ji10) : Int).toNat) := ⟨_, rfl⟩
                    replace H : ((spec_l1Crc.f kj6 y115).bind fun t120 => (if 0 ≤ a1 then (if a1 ≤ (wrap64 (a1 + 4)) then (if (wrap64 (a1 + 4)) ≤ (l0.length : Int) then ((spec_l1Number.f kj6 ((l0.take ((wrap64 (a1 + 4)) : Int).toNat).drop (a1 : Int).toNat)).bind fun t126 => (if (wrap64 (t120)) = t126 then (if 0 < (y115.length : Int) then ((spec_l1In.f (wrap64 (rd y115 0)) 1 4).bind fun t128 => (if t128 = true then (if 1 ≤ (y115.length : Int) then (some (wrap64 (rd y115 0), (y115.drop 1), wrap64 ((wrap64 (a1 + 6)) + (wrap64 (rd l0 (ji4)))))) else (none)) else (some (0, ([] : List Int), 0)))) else (none)) else (some (0, ([] : List Int), 0)))) else (none)) else (none)) else (none))) = some (r1, r2, r3) := by first | (rw [hy115]; with_reducible exact H) | (have H2_ := (Option.bind_some _ _).symm.trans H; rw [hy115]; with_reducible exact H2_) | (have H2_ := (Option.bind_some _ _).symm.trans H; with_reducible exact H2_) | with_reducible exact H | (rw [hy115]; exact H) | exact H
                    have Ny115 := Aside0.mk hy115
                    clear hy115
                    replace H := Option.bind_eq_some_iff.mp H
                    obtain ⟨t120, A140, H⟩ := H
                    replace H : (if 0 ≤ a1 then (if a1 ≤ (wrap64 (a1 + 4)) then (if (wrap64 (a1 + 4)) ≤ (l0.length : Int) then ((spec_l1Number.f kj6 ((l0.take ((wrap64 (a1 + 4)) : Int).toNat).drop (a1 : Int).toNat)).bind fun t126 => (if (wrap64 (t120)) = t126 then (if 0 < (y115.length : Int) then ((spec_l1In.f (wrap64 (rd y115 0)) 1 4).bind fun t128 => (if t128 = true then (if 1 ≤ (y115.length : Int) then (some (wrap64 (rd y115 0), (y115.drop 1), wrap64 ((wrap64 (a1 + 6)) + (wrap64 (rd l0 (ji4)))))) else (none)) else (some (0, ([] : List Int), 0)))) else (none)) else (some (0, ([] : List Int), 0)))) else (none)) else (none)) else (none)) = some (r1, r2, r3) := H
                    have A14 := Aside0.mk A140
                    clear A140
                    by_cases c15 : 0 ≤ a1
                    · rw [if_pos c15] at H
                      have c15b0 := eq_true c15
                      have c15b1 : decide (0 ≤ a1) = true := decide_eq_true c15
                      clear c15
                      by_cases c16 : a1 ≤ (wrap64 (a1 + 4))
                      · rw [if_pos c16] at H
                        have c16b0 := eq_true c16
                        have c16b1 : decide (a1 ≤ (wrap64 (a1 + 4))) = true := decide_eq_true c16
                        by_cases c17 : (wrap64 (a1 + 4)) ≤ (l0.length : Int)
                        · rw [if_pos c17] at H
                          have c17b0 := eq_true c17
                          have c17b1 : decide ((wrap64 (a1 + 4)) ≤ (l0.length : Int)) = true := decide_eq_true c17
                          obtain ⟨y121, hy121⟩ : ∃ y_ : List Int, y_ = ((l0.take ((wrap64 (a1 + 4)) : Int).toNat).drop (a1 : Int).toNat) := ⟨_, rfl⟩
                          replace H : ((spec_l1Number.f kj6 y121).bind fun t126 => (if (wrap64 (t120)) = t126 then (if 0 < (y115.length : Int) then ((spec_l1In.f (wrap64 (rd y115 0)) 1 4).bind fun t128 => (if t128 = true then (if 1 ≤ (y115.length : Int) then (some (wrap64 (rd y115 0), (y115.drop 1), wrap64 ((wrap64 (a1 + 6)) + (wrap64 (rd l0 (ji4)))))) else (none)) else (some (0, ([] : List Int), 0)))) else (none)) else (some (0, ([] : List Int), 0)))) = some (r1, r2, r3) := by first | (rw [hy121]; with_reducible exact H) | (have H2_ := (Option.bind_some _ _).symm.trans H; rw [hy121]; with_reducible exact H2_) | (have H2_ := (Option.bind_some _ _).symm.trans H; with_reducible exact H2_) | with_reducible exact H | (rw [hy121]; exact H) | exact H
                          have Ny121 := Aside0.mk hy121
                          clear hy121
                          replace H := Option.bind_eq_some_iff.mp H
                          obtain ⟨t126, A180, H⟩ := H
                          replace H : (if (wrap64 (t120)) = t126 then (if 0 < (y115.length : Int) then ((spec_l1In.f (wrap64 (rd y115 0)) 1 4).bind fun t128 => (if t128 = true then (if 1 ≤ (y115.length : Int) then (some (wrap64 (rd y115 0), (y115.drop 1), wrap64 ((wrap64 (a1 + 6)) + (wrap64 (rd l0 (ji4)))))) else (none)) else (some (0, ([] : List Int), 0)))) else (none)) else (some (0, ([] : List Int), 0))) = some (r1, r2, r3) := H
                          have A18 := Aside0.mk A180
                          clear A180
                          by_cases c19 : (wrap64 (t120)) = t126
                          · rw [if_pos c19] at H
                            have c19b0 : ((wrap64 (t120)) == t126) = true := beq_iff_eq.mpr c19
                            have c19b0w : ((IntKind.i64.wrap t120) == t126) = true := by rw [i64_w]; exact c19b0
                            have c19b1 : ((wrap64 (t120)) != t126) = false := bne_eq_false_iff_eq.mpr c19
                            have c19b1w : ((IntKind.i64.wrap t120) != t126) = false := by rw [i64_w]; exact c19b1
                            clear c19
                            by_cases c20 : 0 < (y115.length : Int)
                            · rw [if_pos c20] at H
                              have c20b0 : decide (0 < (y115.length : Int)) = true := decide_eq_true c20
                              have c20b1 : decide (0 < y115.length) = true := decide_eq_true (by omega)
                              clear c20
                              replace H := Option.bind_eq_some_iff.mp H
                              obtain ⟨t128, A210, H⟩ := H
                              replace H : (if t128 = true then (if 1 ≤ (y115.length : Int) then (some (wrap64 (rd y115 0), (y115.drop 1), wrap64 ((wrap64 (a1 + 6)) + (wrap64 (rd l0 (ji4)))))) else (none)) else (some (0, ([] : List Int), 0))) = some (r1, r2, r3) := H
                              have A21 := Aside0.mk A210
                              clear A210
                              by_cases c22 : t128 = true
                              · subst c22
                                have H1 : (if 1 ≤ (y115.length : Int) then (some (wrap64 (rd y115 0), (y115.drop 1), wrap64 ((wrap64 (a1 + 6)) + (wrap64 (rd l0 (ji4)))))) else (none)) = some (r1, r2, r3) := by rw [if_pos rfl] at H; exact H
                                clear H
                                have H := H1
                                clear H1
                                by_cases c23 : 1 ≤ (y115.length : Int)
                                · rw [if_pos c23] at H
                                  have c23b0 := eq_true c23
                                  have c23b1 : decide (1 ≤ (y115.length : Int)) = true := decide_eq_true c23
                                  clear c23
                                  obtain ⟨y130, hy130⟩ : ∃ y_ : List Int, y_ = (y115.drop 1) := ⟨_, rfl⟩
                                  replace H : (some (wrap64 (rd y115 0), y130, wrap64 ((wrap64 (a1 + 6)) + (wrap64 (rd l0 (ji4)))))) = some (r1, r2, r3) := by first | (rw [hy130]; with_reducible exact H) | (have H2_ := (Option.bind_some _ _).symm.trans H; rw [hy130]; with_reducible exact H2_) | (have H2_ := (Option.bind_some _ _).symm.trans H; with_reducible exact H2_) | with_reducible exact H | (rw [hy130]; exact H) | exact H
                                  have Ny130 := Aside0.mk hy130
                                  clear hy130
                                  simp only [Option.some.injEq, Prod.mk.injEq] at H
                                  obtain ⟨rfl, rfl, rfl⟩ := H
                                  have q24 : ((wrap64 ((wrap64 (a1 + 6)) + (wrap64 (rd l0 (ji4))))) : Int) ≤ ((l0.length : Int) : Int) := of_decide_eq_true (by first | (with_reducible assumption) | assumption)
                                  obtain ⟨i024, hi024, _, hsz24, _⟩ := info_parts info5
                                  have hroom24 : l0.length ≤ c0 := (Kd.V_reads' HO_0.out).2.1
                                  have hC24 : Kd.F (Kd.int .u8) _ _ (some ad114) l0.length l0 := (Kd.V_at (base := w.heap.size) HO_0.out).2.2
                                  have ql24 : ((ji10) : Int) ≤ ((wrap64 ((wrap64 (a1 + 6)) + (wrap64 (rd l0 (ji4))))) : Int) := of_decide_eq_true (by first | (with_reducible assumption) | assumption)
                                  have q024 : (0 : Int) ≤ ((ji10) : Int) := of_decide_eq_true (by first | (with_reducible assumption) | assumption)
                                  have hcut24 := cut_mid (P := Try.prog) 22 5 .i64 .i64 Try.underlying22 hi024 1 hsz24 (some ad114) l0.length c0 (ji10) (wrap64 ((wrap64 (a1 + 6)) + (wrap64 (rd l0 (ji4))))) q024 ql24 q24 hroom24
                                  have hr24 := Kd.F_mid (lo := ((ji10) : Int).toNat) (hi := ((wrap64 ((wrap64 (a1 + 6)) + (wrap64 (rd l0 (ji4))))) : Int).toNat) (c := c0) hC24 (by omega) (by omega) hroom24
                                  obtain ⟨A24, hA24⟩ : ∃ A1, A1 = (if c0 = ((ji10) : Int).toNat then (some ad114) else ((some ad114) : Option Addr).map (·.add (((ji10) : Int).toNat * 1))) := ⟨_, rfl⟩
                                  obtain ⟨c24, hc24⟩ : ∃ c1, c1 = c0 - ((ji10) : Int).toNat := ⟨_, rfl⟩
                                  have hy24 : y115.length = ((wrap64 ((wrap64 (a1 + 6)) + (wrap64 (rd l0 (ji4))))) : Int).toNat - ((ji10) : Int).toNat := (by rw [Ny115.out, List.length_drop, List.length_take] <;> omega)
                                  rw [show ((l0).take ((wrap64 ((wrap64 (a1 + 6)) + (wrap64 (rd l0 (ji4))))) : Int).toNat).drop ((ji10) : Int).toNat = y115 from Ny115.out.symm] at hr24
                                  replace hr24 : Kd.F (Kd.int .u8) _ _ A24 y115.length y115 := (by rw [hA24]; exact hr24)
                                  rw [← hy24, ← hA24, ← hc24] at hcut24
                                  have HO119 := Aside0.mk (show Kd.V (Kd.int .u8) 5 _ w.heap.size _ (.slice A24 y115.length c24) y115 from Kd.V_mk (by rw [hy24, hc24]; exact Nat.sub_le_sub_right (Nat.le_trans (by omega) hroom24) _) hr24)
                                  have HC119 := Aside0.mk (show y115.length ≤ c24 from by rw [hy24, hc24]; exact Nat.sub_le_sub_right (Nat.le_trans (by omega) hroom24) _)
                                  clear hr24 hC24 hroom24 hi024 hsz24 hc24
                                  have KY24 := Aside0.mk hy24
                                  have KA24 := Aside0.mk hA24
                                  clear hy24 hA24
                                  replace q24 := eq_true q24
                                  have q25 : ((wrap64 (a1 + 4)) : Int) ≤ ((l0.length : Int) : Int) := of_decide_eq_true (by first | (with_reducible assumption) | assumption)
                                  obtain ⟨i025, hi025, _, hsz25, _⟩ := info_parts info5
                                  have hroom25 : l0.length ≤ c0 := (Kd.V_reads' HO_0.out).2.1
                                  have hC25 : Kd.F (Kd.int .u8) _ _ (some ad114) l0.length l0 := (Kd.V_at (base := w.heap.size) HO_0.out).2.2
                                  have ql25 : (a1 : Int) ≤ ((wrap64 (a1 + 4)) : Int) := of_decide_eq_true (by first | (with_reducible assumption) | assumption)
                                  have q025 : (0 : Int) ≤ (a1 : Int) := of_decide_eq_true (by first | (with_reducible assumption) | assumption)
                                  have hcut25 := cut_mid (P := Try.prog) 22 5 .i64 .i64 Try.underlying22 hi025 1 hsz25 (some ad114) l0.length c0 a1 (wrap64 (a1 + 4)) q025 ql25 q25 hroom25
                                  have hr25 := Kd.F_mid (lo := (a1 : Int).toNat) (hi := ((wrap64 (a1 + 4)) : Int).toNat) (c := c0) hC25 (by omega) (by omega) hroom25
                                  obtain ⟨A25, hA25⟩ : ∃ A1, A1 = (if c0 = (a1 : Int).toNat then (some ad114) else ((some ad114) : Option Addr).map (·.add ((a1 : Int).toNat * 1))) := ⟨_, rfl⟩
                                  obtain ⟨c25, hc25⟩ : ∃ c1, c1 = c0 - (a1 : Int).toNat := ⟨_, rfl⟩
                                  have hy25 : y121.length = ((wrap64 (a1 + 4)) : Int).toNat - (a1 : Int).toNat := (by rw [Ny121.out, List.length_drop, List.length_take] <;> omega)
                                  rw [show ((l0).take ((wrap64 (a1 + 4)) : Int).toNat).drop (a1 : Int).toNat = y121 from Ny121.out.symm] at hr25
                                  replace hr25 : Kd.F (Kd.int .u8) _ _ A25 y121.length y121 := (by rw [hA25]; exact hr25)
                                  rw [← hy25, ← hA25, ← hc25] at hcut25
                                  have HO125 := Aside0.mk (show Kd.V (Kd.int .u8) 5 _ w.heap.size _ (.slice A25 y121.length c25) y121 from Kd.V_mk (by rw [hy25, hc25]; exact Nat.sub_le_sub_right (Nat.le_trans (by omega) hroom25) _) hr25)
                                  have HC125 := Aside0.mk (show y121.length ≤ c25 from by rw [hy25, hc25]; exact Nat.sub_le_sub_right (Nat.le_trans (by omega) hroom25) _)
                                  clear hr25 hC25 hroom25 hi025 hsz25 hc25
                                  have KY25 := Aside0.mk hy25
                                  have KA25 := Aside0.mk hA25
                                  clear hy25 hA25
                                  replace q25 := eq_true q25
                                  (try (have hcut25j := hcut25; simp only [hji4, hji10] at hcut25j))
                                  go_wp2_with (first | (go_at_call 105; (with_reducible refine (spec_l1Crc.calls kj6 _ _ y115 t120 _ ?side1 ?side2 A14.out).mono ?_); (case side1 => repeat (first | exact (Kd.V_reads' HO119.out).2.2 | (with_reducible refine Kd.C_alloc ?_ _) | (with_reducible refine Kd.C_drewN ?_ _) | (with_reducible refine Kd.C_drew ?_))); (case side2 => exact (Kd.V_reads' HO119.out).2.1); rintro e w' ⟨rfl, ⟨nd, rfl⟩⟩; (try first | exact ⟨rfl, _, World.drewN_drewN _ _ _⟩ | exact ⟨rfl, _, Eq.trans (World.drewN_drewN _ _ _) (congrArg (World.drewN _) (Nat.add_assoc _ _ _))⟩)) | (go_at_call 121; (with_reducible refine (spec_l1Number.calls kj6 _ _ y121 t126 _ ?side1 ?side2 A18.out).mono ?_); (case side1 => repeat (first | exact (Kd.V_reads' HO125.out).2.2 | (with_reducible refine Kd.C_alloc ?_ _) | (with_reducible refine Kd.C_drewN ?_ _) | (with_reducible refine Kd.C_drew ?_))); (case side2 => exact (Kd.V_reads' HO125.out).2.1); rintro e w' ⟨rfl, ⟨nd, rfl⟩⟩; (try first | exact ⟨rfl, _, World.drewN_drewN _ _ _⟩ | exact ⟨rfl, _, Eq.trans (World.drewN_drewN _ _ _) (congrArg (World.drewN _) (Nat.add_assoc _ _ _))⟩); have p127 : 0 ≤ (0 : Int) := (by omega); have q127 : 0 < (y115.length : Int) := of_decide_eq_true (by first | (with_reducible assumption) | assumption); obtain ⟨ad127, e127, hx127_0⟩ := Kd.at_int (Kd.V_reads' HO119.out).2.2 0 p127 q127; cases e127; have qi127 : (0 < y115.length) = True := eq_true (by omega); (try rw [show ((0 : Int)).toNat = 0 from rfl] at hx127_0); (try rw [Addr.add_zero'] at hx127_0); replace p127 := eq_true p127; replace q127 := eq_true q127) | (go_at_call 81; (first | (with_reducible refine (spec_l1In.calls (wrap64 (rd y115 0)) 1 4 true _ A21.out).mono ?_) | (rw [i64_w (rd y115 0)]; with_reducible refine (spec_l1In.calls (wrap64 (rd y115 0)) 1 4 true _ A21.out).mono ?_)); rintro e w' ⟨rfl, ⟨nd, rfl⟩⟩; (try first | exact ⟨rfl, _, World.drewN_drewN _ _ _⟩ | exact ⟨rfl, _, Eq.trans (World.drewN_drewN _ _ _) (congrArg (World.drewN _) (Nat.add_assoc _ _ _))⟩); have p129 : 0 ≤ (0 : Int) := (by omega); have q129 : 0 < (y115.length : Int) := of_decide_eq_true (by first | (with_reducible assumption) | assumption); obtain ⟨ad129, e129, hx129_0⟩ := Kd.at_int (Kd.V_reads' HO119.out).2.2 0 p129 q129; obtain rfl : ad127 = ad129 := (by injection e129); have qi129 : (0 < y115.length) = True := eq_true (by omega); (try rw [show ((0 : Int)).toNat = 0 from rfl] at hx129_0); (try rw [Addr.add_zero'] at hx129_0); replace p129 := eq_true p129; replace q129 := eq_true q129; have q26 : (1 : Int) ≤ ((y115.length : Int) : Int) := of_decide_eq_true (by first | (with_reducible assumption) | assumption); obtain ⟨i026, hi026, _, hsz26, _⟩ := info_parts info5; have hroom26 : y115.length ≤ c24 := (Kd.V_reads' HO119.out).2.1; have hC26 : Kd.F (Kd.int .u8) _ _ (some ad127) y115.length y115 := (Kd.V_at (base := w.heap.size) HO119.out).2.2; have hcut26 := cut_from (P := Try.prog) 22 5 .i64 Try.underlying22 hi026 1 hsz26 (some ad127) y115.length c24 1 (by omega) q26; have hr26 := Kd.F_cut (m := (1 : Int).toNat) (c := c24) hC26 (by omega) hroom26; obtain ⟨A26, hA26⟩ : ∃ A1, A1 = (if c24 = (1 : Int).toNat then (some ad127) else ((some ad127) : Option Addr).map (·.add ((1 : Int).toNat * 1))) := ⟨_, rfl⟩; obtain ⟨c26, hc26⟩ : ∃ c1, c1 = c24 - (1 : Int).toNat := ⟨_, rfl⟩; have hy26 : y130.length = y115.length - (1 : Int).toNat := (by rw [Ny130.out, List.length_drop] <;> omega); rw [show (y115).drop (1 : Int).toNat = y130 from Ny130.out.symm] at hr26; replace hr26 : Kd.F (Kd.int .u8) _ _ A26 y130.length y130 := (by rw [hA26]; exact hr26); rw [← hy26, ← hA26, ← hc26] at hcut26; have HO134 := Aside0.mk (show Kd.V (Kd.int .u8) 5 _ w.heap.size _ (.slice A26 y130.length c26) y130 from Kd.V_mk (by rw [hy26, hc26]; exact Nat.sub_le_sub_right hroom26 _) hr26); have HC134 := Aside0.mk (show y130.length ≤ c26 from by rw [hy26, hc26]; exact Nat.sub_le_sub_right hroom26 _); clear hr26 hC26 hroom26 hi026 hsz26 hc26; have KY26 := Aside0.mk hy26; have KA26 := Aside0.mk hA26; clear hy26 hA26; replace q26 := eq_true q26))
                                  repeat (go_quiet (first | (go_at_call 105; (with_reducible refine (spec_l1Crc.calls kj6 _ _ y115 t120 _ ?side1 ?side2 A14.out).mono ?_); (case side1 => repeat (first | exact (Kd.V_reads' HO119.out).2.2 | (with_reducible refine Kd.C_alloc ?_ _) | (with_reducible refine Kd.C_drewN ?_ _) | (with_reducible refine Kd.C_drew ?_))); (case side2 => exact (Kd.V_reads' HO119.out).2.1); rintro e w' ⟨rfl, ⟨nd, rfl⟩⟩; (try first | exact ⟨rfl, _, World.drewN_drewN _ _ _⟩ | exact ⟨rfl, _, Eq.trans (World.drewN_drewN _ _ _) (congrArg (World.drewN _) (Nat.add_assoc _ _ _))⟩)) | (go_at_call 121; (with_reducible refine (spec_l1Number.calls kj6 _ _ y121 t126 _ ?side1 ?side2 A18.out).mono ?_); (case side1 => repeat (first | exact (Kd.V_reads' HO125.out).2.2 | (with_reducible refine Kd.C_alloc ?_ _) | (with_reducible refine Kd.C_drewN ?_ _) | (with_reducible refine Kd.C_drew ?_))); (case side2 => exact (Kd.V_reads' HO125.out).2.1); rintro e w' ⟨rfl, ⟨nd, rfl⟩⟩; (try first | exact ⟨rfl, _, World.drewN_drewN _ _ _⟩ | exact ⟨rfl, _, Eq.trans (World.drewN_drewN _ _ _) (congrArg (World.drewN _) (Nat.add_assoc _ _ _))⟩); have p127 : 0 ≤ (0 : Int) := (by omega); have q127 : 0 < (y115.length : Int) := of_decide_eq_true (by first | (with_reducible assumption) | assumption); obtain ⟨ad127, e127, hx127_0⟩ := Kd.at_int (Kd.V_reads' HO119.out).2.2 0 p127 q127; cases e127; have qi127 : (0 < y115.length) = True := eq_true (by omega); (try rw [show ((0 : Int)).toNat = 0 from rfl] at hx127_0); (try rw [Addr.add_zero'] at hx127_0); replace p127 := eq_true p127; replace q127 := eq_true q127) | (go_at_call 81; (first | (with_reducible refine (spec_l1In.calls (wrap64 (rd y115 0)) 1 4 true _ A21.out).mono ?_) | (rw [i64_w (rd y115 0)]; with_reducible refine (spec_l1In.calls (wrap64 (rd y115 0)) 1 4 true _ A21.out).mono ?_)); rintro e w' ⟨rfl, ⟨nd, rfl⟩⟩; (try first | exact ⟨rfl, _, World.drewN_drewN _ _ _⟩ | exact ⟨rfl, _, Eq.trans (World.drewN_drewN _ _ _) (congrArg (World.drewN _) (Nat.add_assoc _ _ _))⟩); have p129 : 0 ≤ (0 : Int) := (by omega); have q129 : 0 < (y115.length : Int) := of_decide_eq_true (by first | (with_reducible assumption) | assumption); obtain ⟨ad129, e129, hx129_0⟩ := Kd.at_int (Kd.V_reads' HO119.out).2.2 0 p129 q129; obtain rfl : ad127 = ad129 := (by injection e129); have qi129 : (0 < y115.length) = True := eq_true (by omega); (try rw [show ((0 : Int)).toNat = 0 from rfl] at hx129_0); (try rw [Addr.add_zero'] at hx129_0); replace p129 := eq_true p129; replace q129 := eq_true q129; have q26 : (1 : Int) ≤ ((y115.length : Int) : Int) := of_decide_eq_true (by first | (with_reducible assumption) | assumption); obtain ⟨i026, hi026, _, hsz26, _⟩ := info_parts info5; have hroom26 : y115.length ≤ c24 := (Kd.V_reads' HO119.out).2.1; have hC26 : Kd.F (Kd.int .u8) _ _ (some ad127) y115.length y115 := (Kd.V_at (base := w.heap.size) HO119.out).2.2; have hcut26 := cut_from (P := Try.prog) 22 5 .i64 Try.underlying22 hi026 1 hsz26 (some ad127) y115.length c24 1 (by omega) q26; have hr26 := Kd.F_cut (m := (1 : Int).toNat) (c := c24) hC26 (by omega) hroom26; obtain ⟨A26, hA26⟩ : ∃ A1, A1 = (if c24 = (1 : Int).toNat then (some ad127) else ((some ad127) : Option Addr).map (·.add ((1 : Int).toNat * 1))) := ⟨_, rfl⟩; obtain ⟨c26, hc26⟩ : ∃ c1, c1 = c24 - (1 : Int).toNat := ⟨_, rfl⟩; have hy26 : y130.length = y115.length - (1 : Int).toNat := (by rw [Ny130.out, List.length_drop] <;> omega); rw [show (y115).drop (1 : Int).toNat = y130 from Ny130.out.symm] at hr26; replace hr26 : Kd.F (Kd.int .u8) _ _ A26 y130.length y130 := (by rw [hA26]; exact hr26); rw [← hy26, ← hA26, ← hc26] at hcut26; have HO134 := Aside0.mk (show Kd.V (Kd.int .u8) 5 _ w.heap.size _ (.slice A26 y130.length c26) y130 from Kd.V_mk (by rw [hy26, hc26]; exact Nat.sub_le_sub_right hroom26 _) hr26); have HC134 := Aside0.mk (show y130.length ≤ c26 from by rw [hy26, hc26]; exact Nat.sub_le_sub_right hroom26 _); clear hr26 hC26 hroom26 hi026 hsz26 hc26; have KY26 := Aside0.mk hy26; have KA26 := Aside0.mk hA26; clear hy26 hA26; replace q26 := eq_true q26)); try go_wp2_with (first | (go_at_call 105; (with_reducible refine (spec_l1Crc.calls kj6 _ _ y115 t120 _ ?side1 ?side2 A14.out).mono ?_); (case side1 => repeat (first | exact (Kd.V_reads' HO119.out).2.2 | (with_reducible refine Kd.C_alloc ?_ _) | (with_reducible refine Kd.C_drewN ?_ _) | (with_reducible refine Kd.C_drew ?_))); (case side2 => exact (Kd.V_reads' HO119.out).2.1); rintro e w' ⟨rfl, ⟨nd, rfl⟩⟩; (try first | exact ⟨rfl, _, World.drewN_drewN _ _ _⟩ | exact ⟨rfl, _, Eq.trans (World.drewN_drewN _ _ _) (congrArg (World.drewN _) (Nat.add_assoc _ _ _))⟩)) | (go_at_call 121; (with_reducible refine (spec_l1Number.calls kj6 _ _ y121 t126 _ ?side1 ?side2 A18.out).mono ?_); (case side1 => repeat (first | exact (Kd.V_reads' HO125.out).2.2 | (with_reducible refine Kd.C_alloc ?_ _) | (with_reducible refine Kd.C_drewN ?_ _) | (with_reducible refine Kd.C_drew ?_))); (case side2 => exact (Kd.V_reads' HO125.out).2.1); rintro e w' ⟨rfl, ⟨nd, rfl⟩⟩; (try first | exact ⟨rfl, _, World.drewN_drewN _ _ _⟩ | exact ⟨rfl, _, Eq.trans (World.drewN_drewN _ _ _) (congrArg (World.drewN _) (Nat.add_assoc _ _ _))⟩); have p127 : 0 ≤ (0 : Int) := (by omega); have q127 : 0 < (y115.length : Int) := of_decide_eq_true (by first | (with_reducible assumption) | assumption); obtain ⟨ad127, e127, hx127_0⟩ := Kd.at_int (Kd.V_reads' HO119.out).2.2 0 p127 q127; cases e127; have qi127 : (0 < y115.length) = True := eq_true (by omega); (try rw [show ((0 : Int)).toNat = 0 from rfl] at hx127_0); (try rw [Addr.add_zero'] at hx127_0); replace p127 := eq_true p127; replace q127 := eq_true q127) | (go_at_call 81; (first | (with_reducible refine (spec_l1In.calls (wrap64 (rd y115 0)) 1 4 true _ A21.out).mono ?_) | (rw [i64_w (rd y115 0)]; with_reducible refine (spec_l1In.calls (wrap64 (rd y115 0)) 1 4 true _ A21.out).mono ?_)); rintro e w' ⟨rfl, ⟨nd, rfl⟩⟩; (try first | exact ⟨rfl, _, World.drewN_drewN _ _ _⟩ | exact ⟨rfl, _, Eq.trans (World.drewN_drewN _ _ _) (congrArg (World.drewN _) (Nat.add_assoc _ _ _))⟩); have p129 : 0 ≤ (0 : Int) := (by omega); have q129 : 0 < (y115.length : Int) := of_decide_eq_true (by first | (with_reducible assumption) | assumption); obtain ⟨ad129, e129, hx129_0⟩ := Kd.at_int (Kd.V_reads' HO119.out).2.2 0 p129 q129; obtain rfl : ad127 = ad129 := (by injection e129); have qi129 : (0 < y115.length) = True := eq_true (by omega); (try rw [show ((0 : Int)).toNat = 0 from rfl] at hx129_0); (try rw [Addr.add_zero'] at hx129_0); replace p129 := eq_true p129; replace q129 := eq_true q129; have q26 : (1 : Int) ≤ ((y115.length : Int) : Int) := of_decide_eq_true (by first | (with_reducible assumption) | assumption); obtain ⟨i026, hi026, _, hsz26, _⟩ := info_parts info5; have hroom26 : y115.length ≤ c24 := (Kd.V_reads' HO119.out).2.1; have hC26 : Kd.F (Kd.int .u8) _ _ (some ad127) y115.length y115 := (Kd.V_at (base := w.heap.size) HO119.out).2.2; have hcut26 := cut_from (P := Try.prog) 22 5 .i64 Try.underlying22 hi026 1 hsz26 (some ad127) y115.length c24 1 (by omega) q26; have hr26 := Kd.F_cut (m := (1 : Int).toNat) (c := c24) hC26 (by omega) hroom26; obtain ⟨A26, hA26⟩ : ∃ A1, A1 = (if c24 = (1 : Int).toNat then (some ad127) else ((some ad127) : Option Addr).map (·.add ((1 : Int).toNat * 1))) := ⟨_, rfl⟩; obtain ⟨c26, hc26⟩ : ∃ c1, c1 = c24 - (1 : Int).toNat := ⟨_, rfl⟩; have hy26 : y130.length = y115.length - (1 : Int).toNat := (by rw [Ny130.out, List.length_drop] <;> omega); rw [show (y115).drop (1 : Int).toNat = y130 from Ny130.out.symm] at hr26; replace hr26 : Kd.F (Kd.int .u8) _ _ A26 y130.length y130 := (by rw [hA26]; exact hr26); rw [← hy26, ← hA26, ← hc26] at hcut26; have HO134 := Aside0.mk (show Kd.V (Kd.int .u8) 5 _ w.heap.size _ (.slice A26 y130.length c26) y130 from Kd.V_mk (by rw [hy26, hc26]; exact Nat.sub_le_sub_right hroom26 _) hr26); have HC134 := Aside0.mk (show y130.length ≤ c26 from by rw [hy26, hc26]; exact Nat.sub_le_sub_right hroom26 _); clear hr26 hC26 hroom26 hi026 hsz26 hc26; have KY26 := Aside0.mk hy26; have KA26 := Aside0.mk hA26; clear hy26 hA26; replace q26 := eq_true q26)))
                                  go_ret3
                                  exact ⟨_, by first | rfl | (simp [errW_none, errW_some] <;> rfl) | (simp only [← hji4, ← hji10]; first | rfl | (simp [errW_none, errW_some] <;> rfl)) | (simp [*, errW_none, errW_some] <;> rfl), by (with_reducible repeat (first | apply Kd.V_alloc | apply Kd.V_drewN | apply Kd.V_drew)); exact HO134.out, by repeat (first | (with_reducible first | exact HB.out | apply below_alloc | apply pw_below_drewN | apply below_drew1) | exact HB.out)⟩
                                · rw [if_neg c23] at H
                                  exact absurd H (by simp)
                              · replace c22 := Bool.eq_false_iff.mpr c22
                                subst c22
                                have H1 : (some (0, ([] : List Int), 0)) = some (r1, r2, r3) := by rw [if_neg (show ¬ (false = true) by decide)] at H; exact H
                                clear H
                                have H := H1
                                clear H1
                                simp only [Option.some.injEq, Prod.mk.injEq] at H
                                obtain ⟨rfl, rfl, rfl⟩ := H
                                have q27 : ((wrap64 ((wrap64 (a1 + 6)) + (wrap64 (rd l0 (ji4))))) : Int) ≤ ((l0.length : Int) : Int) := of_decide_eq_true (by first | (with_reducible assumption) | assumption)
                                obtain ⟨i027, hi027, _, hsz27, _⟩ := info_parts info5
                                have hroom27 : l0.length ≤ c0 := (Kd.V_reads' HO_0.out).2.1
                                have hC27 : Kd.F (Kd.int .u8) _ _ (some ad114) l0.length l0 := (Kd.V_at (base := w.heap.size) HO_0.out).2.2
                                have ql27 : ((ji10) : Int) ≤ ((wrap64 ((wrap64 (a1 + 6)) + (wrap64 (rd l0 (ji4))))) : Int) := of_decide_eq_true (by first | (with_reducible assumption) | assumption)
                                have q027 : (0 : Int) ≤ ((ji10) : Int) := of_decide_eq_true (by first | (with_reducible assumption) | assumption)
                                have hcut27 := cut_mid (P := Try.prog) 22 5 .i64 .i64 Try.underlying22 hi027 1 hsz27 (some ad114) l0.length c0 (ji10) (wrap64 ((wrap64 (a1 + 6)) + (wrap64 (rd l0 (ji4))))) q027 ql27 q27 hroom27
                                have hr27 := Kd.F_mid (lo := ((ji10) : Int).toNat) (hi := ((wrap64 ((wrap64 (a1 + 6)) + (wrap64 (rd l0 (ji4))))) : Int).toNat) (c := c0) hC27 (by omega) (by omega) hroom27
                                obtain ⟨A27, hA27⟩ : ∃ A1, A1 = (if c0 = ((ji10) : Int).toNat then (some ad114) else ((some ad114) : Option Addr).map (·.add (((ji10) : Int).toNat * 1))) := ⟨_, rfl⟩
                                obtain ⟨c27, hc27⟩ : ∃ c1, c1 = c0 - ((ji10) : Int).toNat := ⟨_, rfl⟩
                                have hy27 : y115.length = ((wrap64 ((wrap64 (a1 + 6)) + (wrap64 (rd l0 (ji4))))) : Int).toNat - ((ji10) : Int).toNat := (by rw [Ny115.out, List.length_drop, List.length_take] <;> omega)
                                rw [show ((l0).take ((wrap64 ((wrap64 (a1 + 6)) + (wrap64 (rd l0 (ji4))))) : Int).toNat).drop ((ji10) : Int).toNat = y115 from Ny115.out.symm] at hr27
                                replace hr27 : Kd.F (Kd.int .u8) _ _ A27 y115.length y115 := (by rw [hA27]; exact hr27)
                                rw [← hy27, ← hA27, ← hc27] at hcut27
                                have HO119 := Aside0.mk (show Kd.V (Kd.int .u8) 5 _ w.heap.size _ (.slice A27 y115.length c27) y115 from Kd.V_mk (by rw [hy27, hc27]; exact Nat.sub_le_sub_right (Nat.le_trans (by omega) hroom27) _) hr27)
                                have HC119 := Aside0.mk (show y115.length ≤ c27 from by rw [hy27, hc27]; exact Nat.sub_le_sub_right (Nat.le_trans (by omega) hroom27) _)
                                clear hr27 hC27 hroom27 hi027 hsz27 hc27
                                have KY27 := Aside0.mk hy27
                                have KA27 := Aside0.mk hA27
                                clear hy27 hA27
                                replace q27 := eq_true q27
                                have q28 : ((wrap64 (a1 + 4)) : Int) ≤ ((l0.length : Int) : Int) := of_decide_eq_true (by first | (with_reducible assumption) | assumption)
                                obtain ⟨i028, hi028, _, hsz28, _⟩ := info_parts info5
                                have hroom28 : l0.length ≤ c0 := (Kd.V_reads' HO_0.out).2.1
                                have hC28 : Kd.F (Kd.int .u8) _ _ (some ad114) l0.length l0 := (Kd.V_at (base := w.heap.size) HO_0.out).2.2
                                have ql28 : (a1 : Int) ≤ ((wrap64 (a1 + 4)) : Int) := of_decide_eq_true (by first | (with_reducible assumption) | assumption)
                                have q028 : (0 : Int) ≤ (a1 : Int) := of_decide_eq_true (by first | (with_reducible assumption) | assumption)
                                have hcut28 := cut_mid (P := Try.prog) 22 5 .i64 .i64 Try.underlying22 hi028 1 hsz28 (some ad114) l0.length c0 a1 (wrap64 (a1 + 4)) q028 ql28 q28 hroom28
                                have hr28 := Kd.F_mid (lo := (a1 : Int).toNat) (hi := ((wrap64 (a1 + 4)) : Int).toNat) (c := c0) hC28 (by omega) (by omega) hroom28
                                obtain ⟨A28, hA28⟩ : ∃ A1, A1 = (if c0 = (a1 : Int).toNat then (some ad114) else ((some ad114) : Option Addr).map (·.add ((a1 : Int).toNat * 1))) := ⟨_, rfl⟩
                                obtain ⟨c28, hc28⟩ : ∃ c1, c1 = c0 - (a1 : Int).toNat := ⟨_, rfl⟩
                                have hy28 : y121.length = ((wrap64 (a1 + 4)) : Int).toNat - (a1 : Int).toNat := (by rw [Ny121.out, List.length_drop, List.length_take] <;> omega)
                                rw [show ((l0).take ((wrap64 (a1 + 4)) : Int).toNat).drop (a1 : Int).toNat = y121 from Ny121.out.symm] at hr28
                                replace hr28 : Kd.F (Kd.int .u8) _ _ A28 y121.length y121 := (by rw [hA28]; exact hr28)
                                rw [← hy28, ← hA28, ← hc28] at hcut28
                                have HO125 := Aside0.mk (show Kd.V (Kd.int .u8) 5 _ w.heap.size _ (.slice A28 y121.length c28) y121 from Kd.V_mk (by rw [hy28, hc28]; exact Nat.sub_le_sub_right (Nat.le_trans (by omega) hroom28) _) hr28)
                                have HC125 := Aside0.mk (show y121.length ≤ c28 from by rw [hy28, hc28]; exact Nat.sub_le_sub_right (Nat.le_trans (by omega) hroom28) _)
                                clear hr28 hC28 hroom28 hi028 hsz28 hc28
                                have KY28 := Aside0.mk hy28
                                have KA28 := Aside0.mk hA28
                                clear hy28 hA28
                                replace q28 := eq_true q28
                                (try (have hcut28j := hcut28; simp only [hji4, hji10] at hcut28j))
                                go_wp2_with (first | (go_at_call 105; (with_reducible refine (spec_l1Crc.calls kj6 _ _ y115 t120 _ ?side1 ?side2 A14.out).mono ?_); (case side1 => repeat (first | exact (Kd.V_reads' HO119.out).2.2 | (with_reducible refine Kd.C_alloc ?_ _) | (with_reducible refine Kd.C_drewN ?_ _) | (with_reducible refine Kd.C_drew ?_))); (case side2 => exact (Kd.V_reads' HO119.out).2.1); rintro e w' ⟨rfl, ⟨nd, rfl⟩⟩; (try first | exact ⟨rfl, _, World.drewN_drewN _ _ _⟩ | exact ⟨rfl, _, Eq.trans (World.drewN_drewN _ _ _) (congrArg (World.drewN _) (Nat.add_assoc _ _ _))⟩)) | (go_at_call 121; (with_reducible refine (spec_l1Number.calls kj6 _ _ y121 t126 _ ?side1 ?side2 A18.out).mono ?_); (case side1 => repeat (first | exact (Kd.V_reads' HO125.out).2.2 | (with_reducible refine Kd.C_alloc ?_ _) | (with_reducible refine Kd.C_drewN ?_ _) | (with_reducible refine Kd.C_drew ?_))); (case side2 => exact (Kd.V_reads' HO125.out).2.1); rintro e w' ⟨rfl, ⟨nd, rfl⟩⟩; (try first | exact ⟨rfl, _, World.drewN_drewN _ _ _⟩ | exact ⟨rfl, _, Eq.trans (World.drewN_drewN _ _ _) (congrArg (World.drewN _) (Nat.add_assoc _ _ _))⟩); have p127 : 0 ≤ (0 : Int) := (by omega); have q127 : 0 < (y115.length : Int) := of_decide_eq_true (by first | (with_reducible assumption) | assumption); obtain ⟨ad127, e127, hx127_0⟩ := Kd.at_int (Kd.V_reads' HO119.out).2.2 0 p127 q127; cases e127; have qi127 : (0 < y115.length) = True := eq_true (by omega); (try rw [show ((0 : Int)).toNat = 0 from rfl] at hx127_0); (try rw [Addr.add_zero'] at hx127_0); replace p127 := eq_true p127; replace q127 := eq_true q127) | (go_at_call 81; (first | (with_reducible refine (spec_l1In.calls (wrap64 (rd y115 0)) 1 4 false _ A21.out).mono ?_) | (rw [i64_w (rd y115 0)]; with_reducible refine (spec_l1In.calls (wrap64 (rd y115 0)) 1 4 false _ A21.out).mono ?_)); rintro e w' ⟨rfl, ⟨nd, rfl⟩⟩; (try first | exact ⟨rfl, _, World.drewN_drewN _ _ _⟩ | exact ⟨rfl, _, Eq.trans (World.drewN_drewN _ _ _) (congrArg (World.drewN _) (Nat.add_assoc _ _ _))⟩)))
                                repeat (go_quiet (first | (go_at_call 105; (with_reducible refine (spec_l1Crc.calls kj6 _ _ y115 t120 _ ?side1 ?side2 A14.out).mono ?_); (case side1 => repeat (first | exact (Kd.V_reads' HO119.out).2.2 | (with_reducible refine Kd.C_alloc ?_ _) | (with_reducible refine Kd.C_drewN ?_ _) | (with_reducible refine Kd.C_drew ?_))); (case side2 => exact (Kd.V_reads' HO119.out).2.1); rintro e w' ⟨rfl, ⟨nd, rfl⟩⟩; (try first | exact ⟨rfl, _, World.drewN_drewN _ _ _⟩ | exact ⟨rfl, _, Eq.trans (World.drewN_drewN _ _ _) (congrArg (World.drewN _) (Nat.add_assoc _ _ _))⟩)) | (go_at_call 121; (with_reducible refine (spec_l1Number.calls kj6 _ _ y121 t126 _ ?side1 ?side2 A18.out).mono ?_); (case side1 => repeat (first | exact (Kd.V_reads' HO125.out).2.2 | (with_reducible refine Kd.C_alloc ?_ _) | (with_reducible refine Kd.C_drewN ?_ _) | (with_reducible refine Kd.C_drew ?_))); (case side2 => exact (Kd.V_reads' HO125.out).2.1); rintro e w' ⟨rfl, ⟨nd, rfl⟩⟩; (try first | exact ⟨rfl, _, World.drewN_drewN _ _ _⟩ | exact ⟨rfl, _, Eq.trans (World.drewN_drewN _ _ _) (congrArg (World.drewN _) (Nat.add_assoc _ _ _))⟩); have p127 : 0 ≤ (0 : Int) := (by omega); have q127 : 0 < (y115.length : Int) := of_decide_eq_true (by first | (with_reducible assumption) | assumption); obtain ⟨ad127, e127, hx127_0⟩ := Kd.at_int (Kd.V_reads' HO119.out).2.2 0 p127 q127; cases e127; have qi127 : (0 < y115.length) = True := eq_true (by omega); (try rw [show ((0 : Int)).toNat = 0 from rfl] at hx127_0); (try rw [Addr.add_zero'] at hx127_0); replace p127 := eq_true p127; replace q127 := eq_true q127) | (go_at_call 81; (first | (with_reducible refine (spec_l1In.calls (wrap64 (rd y115 0)) 1 4 false _ A21.out).mono ?_) | (rw [i64_w (rd y115 0)]; with_reducible refine (spec_l1In.calls (wrap64 (rd y115 0)) 1 4 false _ A21.out).mono ?_)); rintro e w' ⟨rfl, ⟨nd, rfl⟩⟩; (try first | exact ⟨rfl, _, World.drewN_drewN _ _ _⟩ | exact ⟨rfl, _, Eq.trans (World.drewN_drewN _ _ _) (congrArg (World.drewN _) (Nat.add_assoc _ _ _))⟩))); try go_wp2_with (first | (go_at_call 105; (with_reducible refine (spec_l1Crc.calls kj6 _ _ y115 t120 _ ?side1 ?side2 A14.out).mono ?_); (case side1 => repeat (first | exact (Kd.V_reads' HO119.out).2.2 | (with_reducible refine Kd.C_alloc ?_ _) | (with_reducible refine Kd.C_drewN ?_ _) | (with_reducible refine Kd.C_drew ?_))); (case side2 => exact (Kd.V_reads' HO119.out).2.1); rintro e w' ⟨rfl, ⟨nd, rfl⟩⟩; (try first | exact ⟨rfl, _, World.drewN_drewN _ _ _⟩ | exact ⟨rfl, _, Eq.trans (World.drewN_drewN _ _ _) (congrArg (World.drewN _) (Nat.add_assoc _ _ _))⟩)) | (go_at_call 121; (with_reducible refine (spec_l1Number.calls kj6 _ _ y121 t126 _ ?side1 ?side2 A18.out).mono ?_); (case side1 => repeat (first | exact (Kd.V_reads' HO125.out).2.2 | (with_reducible refine Kd.C_alloc ?_ _) | (with_reducible refine Kd.C_drewN ?_ _) | (with_reducible refine Kd.C_drew ?_))); (case side2 => exact (Kd.V_reads' HO125.out).2.1); rintro e w' ⟨rfl, ⟨nd, rfl⟩⟩; (try first | exact ⟨rfl, _, World.drewN_drewN _ _ _⟩ | exact ⟨rfl, _, Eq.trans (World.drewN_drewN _ _ _) (congrArg (World.drewN _) (Nat.add_assoc _ _ _))⟩); have p127 : 0 ≤ (0 : Int) := (by omega); have q127 : 0 < (y115.length : Int) := of_decide_eq_true (by first | (with_reducible assumption) | assumption); obtain ⟨ad127, e127, hx127_0⟩ := Kd.at_int (Kd.V_reads' HO119.out).2.2 0 p127 q127; cases e127; have qi127 : (0 < y115.length) = True := eq_true (by omega); (try rw [show ((0 : Int)).toNat = 0 from rfl] at hx127_0); (try rw [Addr.add_zero'] at hx127_0); replace p127 := eq_true p127; replace q127 := eq_true q127) | (go_at_call 81; (first | (with_reducible refine (spec_l1In.calls (wrap64 (rd y115 0)) 1 4 false _ A21.out).mono ?_) | (rw [i64_w (rd y115 0)]; with_reducible refine (spec_l1In.calls (wrap64 (rd y115 0)) 1 4 false _ A21.out).mono ?_)); rintro e w' ⟨rfl, ⟨nd, rfl⟩⟩; (try first | exact ⟨rfl, _, World.drewN_drewN _ _ _⟩ | exact ⟨rfl, _, Eq.trans (World.drewN_drewN _ _ _) (congrArg (World.drewN _) (Nat.add_assoc _ _ _))⟩))))
                                go_ret3
                                exact ⟨_, by first | rfl | (simp [errW_none, errW_some] <;> rfl) | (simp only [← hji4, ← hji10]; first | rfl | (simp [errW_none, errW_some] <;> rfl)) | (simp [*, errW_none, errW_some] <;> rfl), Kd.V_mono (Kd.R_V (show Kd.R (Kd.int .u8) 5 _ 0 (fun k_ => w.heap.size ≤ k_) (Value.slice none 0 0) [] from Kd.R_nil _ _ _ _ _)) (fun k_ hk => by first | exact ⟨(.inr (hk.1)), hk.2⟩ | exact (.inr (hk))), by repeat (first | (with_reducible first | exact HB.out | apply below_alloc | apply pw_below_drewN | apply below_drew1) | exact HB.out)⟩
                            · rw [if_neg c20] at H
                              exact absurd H (by simp)
                          · rw [if_neg c19] at H
                            have c19b0 : ((wrap64 (t120)) == t126) = false := beq_eq_false_iff_ne.mpr c19
                            have c19b0w : ((IntKind.i64.wrap t120) == t126) = false := by rw [i64_w]; exact c19b0
                            have c19b1 : ((wrap64 (t120)) != t126) = true := bne_iff_ne.mpr c19
                            have c19b1w : ((IntKind.i64.wrap t120) != t126) = true := by rw [i64_w]; exact c19b1
                            simp only [Option.some.injEq, Prod.mk.injEq] at H
                            obtain ⟨rfl, rfl, rfl⟩ := H
                            have q29 : ((wrap64 ((wrap64 (a1 + 6)) + (wrap64 (rd l0 (ji4))))) : Int) ≤ ((l0.length : Int) : Int) := of_decide_eq_true (by first | (with_reducible assumption) | assumption)
                            obtain ⟨i029, hi029, _, hsz29, _⟩ := info_parts info5
                            have hroom29 : l0.length ≤ c0 := (Kd.V_reads' HO_0.out).2.1
                            have hC29 : Kd.F (Kd.int .u8) _ _ (some ad114) l0.length l0 := (Kd.V_at (base := w.heap.size) HO_0.out).2.2
                            have ql29 : ((ji10) : Int) ≤ ((wrap64 ((wrap64 (a1 + 6)) + (wrap64 (rd l0 (ji4))))) : Int) := of_decide_eq_true (by first | (with_reducible assumption) | assumption)
                            have q029 : (0 : Int) ≤ ((ji10) : Int) := of_decide_eq_true (by first | (with_reducible assumption) | assumption)
                            have hcut29 := cut_mid (P := Try.prog) 22 5 .i64 .i64 Try.underlying22 hi029 1 hsz29 (some ad114) l0.length c0 (ji10) (wrap64 ((wrap64 (a1 + 6)) + (wrap64 (rd l0 (ji4))))) q029 ql29 q29 hroom29
                            have hr29 := Kd.F_mid (lo := ((ji10) : Int).toNat) (hi := ((wrap64 ((wrap64 (a1 + 6)) + (wrap64 (rd l0 (ji4))))) : Int).toNat) (c := c0) hC29 (by omega) (by omega) hroom29
                            obtain ⟨A29, hA29⟩ : ∃ A1, A1 = (if c0 = ((ji10) : Int).toNat then (some ad114) else ((some ad114) : Option Addr).map (·.add (((ji10) : Int).toNat * 1))) := ⟨_, rfl⟩
                            obtain ⟨c29, hc29⟩ : ∃ c1, c1 = c0 - ((ji10) : Int).toNat := ⟨_, rfl⟩
                            have hy29 : y115.length = ((wrap64 ((wrap64 (a1 + 6)) + (wrap64 (rd l0 (ji4))))) : Int).toNat - ((ji10) : Int).toNat := (by rw [Ny115.out, List.length_drop, List.length_take] <;> omega)
                            rw [show ((l0).take ((wrap64 ((wrap64 (a1 + 6)) + (wrap64 (rd l0 (ji4))))) : Int).toNat).drop ((ji10) : Int).toNat = y115 from Ny115.out.symm] at hr29
                            replace hr29 : Kd.F (Kd.int .u8) _ _ A29 y115.length y115 := (by rw [hA29]; exact hr29)
                            rw [← hy29, ← hA29, ← hc29] at hcut29
                            have HO119 := Aside0.mk (show Kd.V (Kd.int .u8) 5 _ w.heap.size _ (.slice A29 y115.length c29) y115 from Kd.V_mk (by rw [hy29, hc29]; exact Nat.sub_le_sub_right (Nat.le_trans (by omega) hroom29) _) hr29)
                            have HC119 := Aside0.mk (show y115.length ≤ c29 from by rw [hy29, hc29]; exact Nat.sub_le_sub_right (Nat.le_trans (by omega) hroom29) _)
                            clear hr29 hC29 hroom29 hi029 hsz29 hc29
                            have KY29 := Aside0.mk hy29
                            have KA29 := Aside0.mk hA29
                            clear hy29 hA29
                            replace q29 := eq_true q29
                            have q30 : ((wrap64 (a1 + 4)) : Int) ≤ ((l0.length : Int) : Int) := of_decide_eq_true (by first | (with_reducible assumption) | assumption)
                            obtain ⟨i030, hi030, _, hsz30, _⟩ := info_parts info5
                            have hroom30 : l0.length ≤ c0 := (Kd.V_reads' HO_0.out).2.1
                            have hC30 : Kd.F (Kd.int .u8) _ _ (some ad114) l0.length l0 := (Kd.V_at (base := w.heap.size) HO_0.out).2.2
                            have ql30 : (a1 : Int) ≤ ((wrap64 (a1 + 4)) : Int) := of_decide_eq_true (by first | (with_reducible assumption) | assumption)
                            have q030 : (0 : Int) ≤ (a1 : Int) := of_decide_eq_true (by first | (with_reducible assumption) | assumption)
                            have hcut30 := cut_mid (P := Try.prog) 22 5 .i64 .i64 Try.underlying22 hi030 1 hsz30 (some ad114) l0.length c0 a1 (wrap64 (a1 + 4)) q030 ql30 q30 hroom30
                            have hr30 := Kd.F_mid (lo := (a1 : Int).toNat) (hi := ((wrap64 (a1 + 4)) : Int).toNat) (c := c0) hC30 (by omega) (by omega) hroom30
                            obtain ⟨A30, hA30⟩ : ∃ A1, A1 = (if c0 = (a1 : Int).toNat then (some ad114) else ((some ad114) : Option Addr).map (·.add ((a1 : Int).toNat * 1))) := ⟨_, rfl⟩
                            obtain ⟨c30, hc30⟩ : ∃ c1, c1 = c0 - (a1 : Int).toNat := ⟨_, rfl⟩
                            have hy30 : y121.length = ((wrap64 (a1 + 4)) : Int).toNat - (a1 : Int).toNat := (by rw [Ny121.out, List.length_drop, List.length_take] <;> omega)
                            rw [show ((l0).take ((wrap64 (a1 + 4)) : Int).toNat).drop (a1 : Int).toNat = y121 from Ny121.out.symm] at hr30
                            replace hr30 : Kd.F (Kd.int .u8) _ _ A30 y121.length y121 := (by rw [hA30]; exact hr30)
                            rw [← hy30, ← hA30, ← hc30] at hcut30
                            have HO125 := Aside0.mk (show Kd.V (Kd.int .u8) 5 _ w.heap.size _ (.slice A30 y121.length c30) y121 from Kd.V_mk (by rw [hy30, hc30]; exact Nat.sub_le_sub_right (Nat.le_trans (by omega) hroom30) _) hr30)
                            have HC125 := Aside0.mk (show y121.length ≤ c30 from by rw [hy30, hc30]; exact Nat.sub_le_sub_right (Nat.le_trans (by omega) hroom30) _)
                            clear hr30 hC30 hroom30 hi030 hsz30 hc30
                            have KY30 := Aside0.mk hy30
                            have KA30 := Aside0.mk hA30
                            clear hy30 hA30
                            replace q30 := eq_true q30
                            (try (have hcut30j := hcut30; simp only [hji4, hji10] at hcut30j))
                            go_wp2_with (first | (go_at_call 105; (with_reducible refine (spec_l1Crc.calls kj6 _ _ y115 t120 _ ?side1 ?side2 A14.out).mono ?_); (case side1 => repeat (first | exact (Kd.V_reads' HO119.out).2.2 | (with_reducible refine Kd.C_alloc ?_ _) | (with_reducible refine Kd.C_drewN ?_ _) | (with_reducible refine Kd.C_drew ?_))); (case side2 => exact (Kd.V_reads' HO119.out).2.1); rintro e w' ⟨rfl, ⟨nd, rfl⟩⟩; (try first | exact ⟨rfl, _, World.drewN_drewN _ _ _⟩ | exact ⟨rfl, _, Eq.trans (World.drewN_drewN _ _ _) (congrArg (World.drewN _) (Nat.add_assoc _ _ _))⟩)) | (go_at_call 121; (with_reducible refine (spec_l1Number.calls kj6 _ _ y121 t126 _ ?side1 ?side2 A18.out).mono ?_); (case side1 => repeat (first | exact (Kd.V_reads' HO125.out).2.2 | (with_reducible refine Kd.C_alloc ?_ _) | (with_reducible refine Kd.C_drewN ?_ _) | (with_reducible refine Kd.C_drew ?_))); (case side2 => exact (Kd.V_reads' HO125.out).2.1); rintro e w' ⟨rfl, ⟨nd, rfl⟩⟩; (try first | exact ⟨rfl, _, World.drewN_drewN _ _ _⟩ | exact ⟨rfl, _, Eq.trans (World.drewN_drewN _ _ _) (congrArg (World.drewN _) (Nat.add_assoc _ _ _))⟩)))
                            repeat (go_quiet (first | (go_at_call 105; (with_reducible refine (spec_l1Crc.calls kj6 _ _ y115 t120 _ ?side1 ?side2 A14.out).mono ?_); (case side1 => repeat (first | exact (Kd.V_reads' HO119.out).2.2 | (with_reducible refine Kd.C_alloc ?_ _) | (with_reducible refine Kd.C_drewN ?_ _) | (with_reducible refine Kd.C_drew ?_))); (case side2 => exact (Kd.V_reads' HO119.out).2.1); rintro e w' ⟨rfl, ⟨nd, rfl⟩⟩; (try first | exact ⟨rfl, _, World.drewN_drewN _ _ _⟩ | exact ⟨rfl, _, Eq.trans (World.drewN_drewN _ _ _) (congrArg (World.drewN _) (Nat.add_assoc _ _ _))⟩)) | (go_at_call 121; (with_reducible refine (spec_l1Number.calls kj6 _ _ y121 t126 _ ?side1 ?side2 A18.out).mono ?_); (case side1 => repeat (first | exact (Kd.V_reads' HO125.out).2.2 | (with_reducible refine Kd.C_alloc ?_ _) | (with_reducible refine Kd.C_drewN ?_ _) | (with_reducible refine Kd.C_drew ?_))); (case side2 => exact (Kd.V_reads' HO125.out).2.1); rintro e w' ⟨rfl, ⟨nd, rfl⟩⟩; (try first | exact ⟨rfl, _, World.drewN_drewN _ _ _⟩ | exact ⟨rfl, _, Eq.trans (World.drewN_drewN _ _ _) (congrArg (World.drewN _) (Nat.add_assoc _ _ _))⟩))); try go_wp2_with (first | (go_at_call 105; (with_reducible refine (spec_l1Crc.calls kj6 _ _ y115 t120 _ ?side1 ?side2 A14.out).mono ?_); (case side1 => repeat (first | exact (Kd.V_reads' HO119.out).2.2 | (with_reducible refine Kd.C_alloc ?_ _) | (with_reducible refine Kd.C_drewN ?_ _) | (with_reducible refine Kd.C_drew ?_))); (case side2 => exact (Kd.V_reads' HO119.out).2.1); rintro e w' ⟨rfl, ⟨nd, rfl⟩⟩; (try first | exact ⟨rfl, _, World.drewN_drewN _ _ _⟩ | exact ⟨rfl, _, Eq.trans (World.drewN_drewN _ _ _) (congrArg (World.drewN _) (Nat.add_assoc _ _ _))⟩)) | (go_at_call 121; (with_reducible refine (spec_l1Number.calls kj6 _ _ y121 t126 _ ?side1 ?side2 A18.out).mono ?_); (case side1 => repeat (first | exact (Kd.V_reads' HO125.out).2.2 | (with_reducible refine Kd.C_alloc ?_ _) | (with_reducible refine Kd.C_drewN ?_ _) | (with_reducible refine Kd.C_drew ?_))); (case side2 => exact (Kd.V_reads' HO125.out).2.1); rintro e w' ⟨rfl, ⟨nd, rfl⟩⟩; (try first | exact ⟨rfl, _, World.drewN_drewN _ _ _⟩ | exact ⟨rfl, _, Eq.trans (World.drewN_drewN _ _ _) (congrArg (World.drewN _) (Nat.add_assoc _ _ _))⟩))))
                            go_ret3
                            exact ⟨_, by first | rfl | (simp [errW_none, errW_some] <;> rfl) | (simp only [← hji4, ← hji10]; first | rfl | (simp [errW_none, errW_some] <;> rfl)) | (simp [*, errW_none, errW_some] <;> rfl), Kd.V_mono (Kd.R_V (show Kd.R (Kd.int .u8) 5 _ 0 (fun k_ => w.heap.size ≤ k_) (Value.slice none 0 0) [] from Kd.R_nil _ _ _ _ _)) (fun k_ hk => by first | exact ⟨(.inr (hk.1)), hk.2⟩ | exact (.inr (hk))), by repeat (first | (with_reducible first | exact HB.out | apply below_alloc | apply pw_below_drewN | apply below_drew1) | exact HB.out)⟩
                        · rw [if_neg c17] at H
                          exact absurd H (by simp)
                      · rw [if_neg c16] at H
                        exact absurd H (by simp)
                    · rw [if_neg c15] at H
                      exact absurd H (by simp)
                  · rw [if_neg c13] at H
                    exact absurd H (by simp)
                · rw [if_neg c12] at H
                  exact absurd H (by simp)
              · rw [if_neg c11] at H
                exact absurd H (by simp)
      · rw [if_neg c6] at H
        exact absurd H (by simp)
    · rw [if_neg c5] at H
      exact absurd H (by simp)

end Go.Proofs.Ytolpkckaijeahaa.PFnExactReadLog
